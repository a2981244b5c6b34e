/- The law of rows that came out of the program as the caller's own, for every row and all gains: a row is what the document's reference makes of it, each time it is asked for, and the rows that were kept, marked and grown stay apart. No condition but that the lists can be handed in. -/
import Derived.Test.YtgdbcknofcnfbaaPx20
import Derived.Test.YtgdbcknofcnfbaaLibNormMemory
namespace Go.Proofs.Ytgdbcknofcnfbaa.Pure
open Go Go.RowKit Go.Proofs.Ytgdbcknofcnfbaa.M Go.Proofs.Ytgdbcknofcnfbaa.L Go.Proofs.Ytgdbcknofcnfbaa.P Go.Proofs.YtgdbcknofcnfbaaW.PrintWords Go.Proofs.YtgdbcknofcnfbaaW.PrintLast Go.Proofs.YtgdbcknofcnfbaaW.PrintMore
set_option linter.unusedVariables false
set_option linter.unusedSimpArgs false

-- NEEDS heraldlaw09_NormMemory.f
def rowsAll (g : List Int) : List (List Int) → Nat → List (List Int) → List (List Int) × Int × Int
  | [], i, a => (a, 0, 0)
  | x :: t, i, a => if (rowS x g).2 = 0 then rowsAll g t (i + 1) (a ++ [(rowS x g).1]) else ([], (i : Int), (rowS x g).2)
theorem rd2_of_get {l : List (List Int)} {i : Nat} {x : List Int} (h : l[i]? = some x) : rd_L2 l (i : Int) = x := by
  unfold rd_L2; simp [List.getD_eq_getElem?_getD, h]
theorem Rows_l (l : List (List Int)) (g : List Int) (hg : ∀ x ∈ g, I8 x) (hl : l.length < 5864062014805) : ∀ (t : List (List Int)) (i : Nat) (a : List (List Int)), l.drop i = t → a.length = i → i ≤ l.length → Ev (fun k => norm_Rows.l0 k g a l l.length i) (rowsAll g t i a) := by
  intro t
  induction t with
  | nil =>
    intro i a h ha hi1
    have hi := drop_nil h
    refine Ev.step (f := fun _ => some (a, 0, 0)) (fun k => ?_) (by simp only [rowsAll]; exact Ev.now _)
    simp only [norm_Rows.l0]
    rw [if_neg (by omega)]
  | cons x t ih =>
    intro i a h ha hi1
    obtain ⟨hi, hgx, hd⟩ := drop_cons h
    have hrx := rd2_of_get hgx
    refine Ev.step (f := fun k => (norm_Row.f k x g).bind fun bt => if bt.2 = 0 then norm_Rows.l0 k g (a ++ [bt.1]) l l.length ((i + 1 : Nat) : Int) else some (([] : List (List Int)), (i : Int), bt.2)) (fun k => ?_) ?_
    · simp only [norm_Rows.l0, hrx]
      rw [if_pos (by omega), if_pos (by omega), if_pos (by omega), wrap64_id' (by omega) (by omega)]
      simp only [show a.length < 5864062014805 by omega, if_true]
      rfl
    · refine Ev.bind (Row_f x g hg) ?_
      simp only [rowsAll]
      by_cases h0 : (rowS x g).2 = 0
      · simp only [h0, if_true]; exact ih (i + 1) _ hd (by simp [ha]) (by omega)
      · simp only [h0, if_false]; exact Ev.now _
theorem rowS_len (l g : List Int) : (rowS l g).1.length ≤ 64 := by
  unfold rowS
  split
  · rename_i h
    split
    · rename_i h0
      rw [cells_length _ _ _ h]
      exact (rootS_pos (r := (rootS l).1) (by rw [← h0])).2.2.2.1
    · simp
  · simp
theorem NormMemory (l g : List Int) (hl : (l.length ≤ maxLen ∧ l.length * 8 ≤ 140737488351232) ∧ ∀ n ∈ l, (Lit.int .i64 n).wf = true) (hg : (g.length ≤ maxLen ∧ g.length * 1 ≤ 140737488351232) ∧ ∀ n ∈ g, (Lit.int .i8 n).wf = true) : ∃ k, heraldlaw09_NormMemory.f k l g = some true := by
  have h8 : ∀ x ∈ g, I8 x := fun x hx => i8_of_wf (hg.2 x hx)
  have hb := rowS_len l g
  suffices h : Ev (fun k => heraldlaw09_NormMemory.f k l g) true by
    obtain ⟨k, hk⟩ := h; exact ⟨k, hk k (Nat.le_refl _)⟩
  have hrs := rows_same (rowS l g).1 (by omega)
  unfold heraldlaw09_NormMemory.f norm_Rows.f
  refine Ev.bind (rRow_f l g h8) ?_
  refine Ev.bind (Row_f l g h8) ?_
  refine Ev.bind (Rows_l [l, l] g h8 (by simp) [l, l] 0 [] rfl rfl (by simp)) ?_
  refine Ev.bind hrs ?_
  have e : rowsAll g [l, l] 0 [] = if (rowS l g).2 = 0 then ([(rowS l g).1, (rowS l g).1], 0, 0) else ([], 0, (rowS l g).2) := by
    simp only [rowsAll]
    split <;> simp
  rw [e]
  refine Ev.bind (a := true) ?_ ?_
  · by_cases h0 : (rowS l g).2 = 0
    · simp only [h0, if_true]
      exact Ev.bind hrs (Ev.bind hrs (Ev.now _))
    · simp only [h0, if_false]
      exact Ev.now _
  · refine Ev.bind awake_ev ?_
    refine Ev.step (f := fun _ => some true) (fun k => ?_) (Ev.now _)
    rw [if_pos]
    refine ⟨rfl, rfl, rfl, by omega, by omega, by omega, fun x hx => ?_⟩
    have hx2 : x = (rowS l g).1 := by
      by_cases h0 : (rowS l g).2 = 0
      · simp only [h0, if_true] at hx
        simpa using hx
      · simp only [h0, if_false] at hx
        cases hx
    rw [hx2]
    omega

end Go.Proofs.Ytgdbcknofcnfbaa.Pure
