/- A list of rows that the program brings to one size is what the document's reference makes of it, or the same number of the row that may not be with the same cause; for every list of rows and all gains. No condition but that the lists can be handed in. -/
import Derived.Test.YtgdbcknofcnfbaaPx11
import Derived.Test.YtgdbcknofcnfbaaLibB
namespace Go.Proofs.Ytgdbcknofcnfbaa.Pure
open Go Go.RowKit Go.Proofs.Ytgdbcknofcnfbaa.M Go.Proofs.Ytgdbcknofcnfbaa.L Go.Proofs.Ytgdbcknofcnfbaa.P Go.Proofs.YtgdbcknofcnfbaaW.PrintWords Go.Proofs.YtgdbcknofcnfbaaW.PrintLast Go.Proofs.YtgdbcknofcnfbaaW.PrintMore
set_option linter.unusedVariables false
set_option linter.unusedSimpArgs false

-- NEEDS heraldlaw09_NormAll.f
def rowsAll (g : List Int) : List (List Int) → Nat → List (List Int) → List (List Int) × Int × Int
  | [], i, a => (a, 0, 0)
  | x :: t, i, a => if (rowS x g).2 = 0 then rowsAll g t (i + 1) (a ++ [(rowS x g).1]) else ([], (i : Int), (rowS x g).2)
theorem rd2_of_get {l : List (List Int)} {i : Nat} {x : List Int} (h : l[i]? = some x) : rd_L2 l (i : Int) = x := by
  unfold rd_L2; simp [List.getD_eq_getElem?_getD, h]
theorem rd3_of_get {l : List (List Int)} {i : Nat} {x : List Int} (h : l[i]? = some x) : rd_L3 l (i : Int) = x := by
  unfold rd_L3; simp [List.getD_eq_getElem?_getD, h]
theorem rowsAll_len (g : List Int) (M : Nat) : ∀ (t : List (List Int)) (i : Nat) (a : List (List Int)), (∀ x ∈ t, x.length ≤ M) → (∀ x ∈ a, x.length ≤ M) → (rowsAll g t i a).1.length ≤ a.length + t.length ∧ ∀ x ∈ (rowsAll g t i a).1, x.length ≤ M := by
  intro t
  induction t with
  | nil => intro i a _ ha; exact ⟨by simp [rowsAll], by simpa [rowsAll] using ha⟩
  | cons x t ih =>
    intro i a ht ha
    have hx := ht x (by simp)
    have hlen : (rowS x g).1.length ≤ x.length := by
      unfold rowS; split
      · rename_i h
        split
        · rw [cells_length _ _ _ h]; exact Nat.le_refl _
        · simp
      · simp
    simp only [rowsAll]
    split
    · have := ih (i + 1) (a ++ [(rowS x g).1]) (fun y hy => ht y (by simp [hy])) (fun y hy => by
        rcases List.mem_append.mp hy with h | h
        · exact ha y h
        · simp at h; subst h; omega)
      exact ⟨by simp at this ⊢; omega, this.2⟩
    · exact ⟨by simp, by simp⟩
theorem Rows_l (l : List (List Int)) (g : List Int) (hg : ∀ x ∈ g, I8 x) (hl : l.length < 5864062014805) : ∀ (t : List (List Int)) (i : Nat) (a : List (List Int)), l.drop i = t → a.length = i → i ≤ l.length → Ev (fun k => norm_Rows.l0 k g a l l.length i) (rowsAll g t i a) := by
  intro t
  induction t with
  | nil =>
    intro i a h ha hi1
    have hi := drop_nil h
    refine Ev.step (f := fun _ => some (a, 0, 0)) (fun k => ?_) (by simp only [rowsAll]; exact Ev.now _)
    simp only [norm_Rows.l0]
    rw [if_neg (by omega)]
  | cons x t ih =>
    intro i a h ha hi1
    obtain ⟨hi, hgx, hd⟩ := drop_cons h
    have hrx := rd2_of_get hgx
    refine Ev.step (f := fun k => (norm_Row.f k x g).bind fun bt => if bt.2 = 0 then norm_Rows.l0 k g (a ++ [bt.1]) l l.length ((i + 1 : Nat) : Int) else some (([] : List (List Int)), (i : Int), bt.2)) (fun k => ?_) ?_
    · simp only [norm_Rows.l0, hrx]
      rw [if_pos (by omega), if_pos (by omega), if_pos (by omega), wrap64_id' (by omega) (by omega)]
      simp only [show a.length < 5864062014805 by omega, if_true]
      rfl
    · refine Ev.bind (Row_f x g hg) ?_
      simp only [rowsAll]
      by_cases h0 : (rowS x g).2 = 0
      · simp only [h0, if_true]; exact ih (i + 1) _ hd (by simp [ha]) (by omega)
      · simp only [h0, if_false]; exact Ev.now _
theorem rRows_l (l : List (List Int)) (g : List Int) (hg : ∀ x ∈ g, I8 x) (hl : l.length < 5864062014805) : ∀ (t : List (List Int)) (i : Nat) (a : List (List Int)), l.drop i = t → a.length = i → i ≤ l.length → Ev (fun k => heraldref09_Rows.l0 k l g a i) (rowsAll g t i a) := by
  intro t
  induction t with
  | nil =>
    intro i a h ha hi1
    have hi := drop_nil h
    refine Ev.step (f := fun _ => some (a, 0, 0)) (fun k => ?_) (by simp only [rowsAll]; exact Ev.now _)
    simp only [heraldref09_Rows.l0]
    rw [if_neg (by omega)]
  | cons x t ih =>
    intro i a h ha hi1
    obtain ⟨hi, hgx, hd⟩ := drop_cons h
    have hrx := rd2_of_get hgx
    refine Ev.step (f := fun k => (heraldref09_Row.f k x g).bind fun bt => if bt.2 = 0 then heraldref09_Rows.l0 k l g (a ++ [bt.1]) ((i + 1 : Nat) : Int) else some (([] : List (List Int)), (i : Int), bt.2)) (fun k => ?_) ?_
    · simp only [heraldref09_Rows.l0, hrx]
      rw [if_pos (by omega), if_pos (by omega), wrap64_id' (by omega) (by omega)]
      simp only [show a.length < 5864062014805 by omega, if_true]
      rfl
    · refine Ev.bind (rRow_f x g hg) ?_
      simp only [rowsAll]
      by_cases h0 : (rowS x g).2 = 0
      · simp only [h0, if_true]; exact ih (i + 1) _ hd (by simp [ha]) (by omega)
      · simp only [h0, if_false]; exact Ev.now _
theorem all_l (a : List (List Int)) (ha : a.length ≤ 4611686018427387904) (hx : ∀ x ∈ a, x.length ≤ 4611686018427387904) : ∀ (t : List (List Int)) (i : Nat), a.drop i = t → i ≤ a.length → Ev (fun k => heraldlaw09_NormAll.l0 k a a i) true := by
  intro t
  induction t with
  | nil =>
    intro i h hi1
    have hi := drop_nil h
    refine Ev.step (f := fun _ => some true) (fun k => ?_) (Ev.now _)
    simp only [heraldlaw09_NormAll.l0]
    rw [if_neg (by omega)]
  | cons x t ih =>
    intro i h hi1
    obtain ⟨hi, hgx, hd⟩ := drop_cons h
    have hrx := rd3_of_get hgx
    refine Ev.step (f := fun k => (heraldlaw09_rows.f k x x).bind fun t286 => if t286 = true then heraldlaw09_NormAll.l0 k a a ((i + 1 : Nat) : Int) else some false) (fun k => ?_) ?_
    · simp only [heraldlaw09_NormAll.l0, hrx]
      rw [if_pos (by omega), if_pos (by omega), if_pos (by omega), wrap64_id' (by omega) (by omega)]
      rfl
    · refine Ev.bind (rows_same x (hx x (List.mem_of_getElem? hgx))) ?_
      simp only [if_true]
      exact ih (i + 1) hd (by omega)
theorem NormAll (l : List (List Int)) (g : List Int) (hl : (l.length ≤ maxLen ∧ l.length * 24 ≤ 140737488351232) ∧ ∀ x ∈ l, (x.length ≤ maxLen ∧ x.length * 8 ≤ 140737488351232) ∧ ∀ n ∈ x, (Lit.int .i64 n).wf = true) (hg : (g.length ≤ maxLen ∧ g.length * 1 ≤ 140737488351232) ∧ ∀ n ∈ g, (Lit.int .i8 n).wf = true) : ∃ k, heraldlaw09_NormAll.f k l g = some true := by
  have h8 : ∀ x ∈ g, I8 x := fun x hx => i8_of_wf (hg.2 x hx)
  have hn : l.length < 5864062014805 := by omega
  have hb := rowsAll_len g 17592186044416 l 0 [] (fun x hx => by have := (hl.2 x hx).1.2; omega) (by simp)
  suffices h : Ev (fun k => heraldlaw09_NormAll.f k l g) true by
    obtain ⟨k, hk⟩ := h; exact ⟨k, hk k (Nat.le_refl _)⟩
  unfold heraldlaw09_NormAll.f norm_Rows.f heraldref09_Rows.f
  refine Ev.bind (Rows_l l g h8 hn l 0 [] rfl rfl (by omega)) ?_
  refine Ev.bind (rRows_l l g h8 hn l 0 [] rfl rfl (by omega)) ?_
  refine Ev.bind awake_ev ?_
  simp only [if_true, bne_self_eq_false]
  refine Ev.step (f := fun k => heraldlaw09_NormAll.l0 k (rowsAll g l 0 []).1 (rowsAll g l 0 []).1 ((0 : Nat) : Int)) (fun k => ?_) ?_
  · simp only [heraldlaw09_NormAll.j0]; simp
  · exact all_l _ (by have := hb.1; simp at this; omega) (fun x hx => by have := hb.2 x hx; omega) _ 0 rfl (by omega)

end Go.Proofs.Ytgdbcknofcnfbaa.Pure
