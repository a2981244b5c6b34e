/- The negated row is brought to the negated one, for every row of the reach and all gains; what is refused is what the reference refuses. No condition but that the lists can be handed in. -/
import Derived.Test.YtgdbcknofcnfbaaPx8
import Derived.Test.YtgdbcknofcnfbaaLibB
namespace Go.Proofs.Ytgdbcknofcnfbaa.Pure
open Go Go.RowKit Go.Proofs.Ytgdbcknofcnfbaa.M Go.Proofs.Ytgdbcknofcnfbaa.L Go.Proofs.Ytgdbcknofcnfbaa.P Go.Proofs.YtgdbcknofcnfbaaW.PrintWords Go.Proofs.YtgdbcknofcnfbaaW.PrintLast Go.Proofs.YtgdbcknofcnfbaaW.PrintMore
set_option linter.unusedVariables false
set_option linter.unusedSimpArgs false

theorem near_neg (a : Int) : near (-a) 64 = -near a 64 := by
  unfold near; split <;> split <;> omega
theorem narrow_neg (a : Int) : narrow (-a) = -narrow a := by
  unfold narrow clamp; repeat' split
  all_goals omega
theorem cell_neg (r x g : Int) : cell r (-x) g = -cell r x g := by
  unfold cell
  rw [Int.mul_neg, Int.neg_tdiv, Int.neg_mul, near_neg, narrow_neg]
theorem cells_neg (r : Int) : ∀ t u : List Int, cells r (t.map (fun x => -x)) u = (cells r t u).map (fun x => -x)
  | [], u => by simp [cells]
  | x :: t, [] => by simp [cells]
  | x :: t, g :: u => by simp only [List.map_cons, cells, cell_neg, cells_neg r t u]
theorem sqs_neg : ∀ (t : List Int) (s : Int), sqs (t.map (fun x => -x)) s = sqs t s
  | [], s => rfl
  | x :: t, s => by
    simp only [List.map_cons, sqs, Int.neg_mul_neg, sqs_neg t]
    by_cases h : x < -268435456 ∨ x > 268435456
    · rw [if_pos h, if_pos (by omega)]
    · rw [if_neg h, if_neg (by omega)]
theorem rootS_neg (l : List Int) : rootS (l.map (fun x => -x)) = rootS l := by
  unfold rootS; rw [List.length_map, sqs_neg]
theorem rowS_neg (l g : List Int) : rowS (l.map (fun x => -x)) g = ((rowS l g).1.map (fun x => -x), (rowS l g).2) := by
  unfold rowS; rw [List.length_map, rootS_neg, cells_neg]
  split
  · split <;> rfl
  · rfl
theorem cells_in (r : Int) : ∀ t u : List Int, ∀ x ∈ cells r t u, -127 ≤ x ∧ x ≤ 127
  | [], u => by simp [cells]
  | x :: t, [] => by simp [cells]
  | x :: t, g :: u => by
    intro y hy
    simp only [cells, List.mem_cons] at hy
    rcases hy with rfl | hy
    · exact narrow_in _
    · exact cells_in r t u y hy
theorem rowS_in (l g : List Int) : ∀ x ∈ (rowS l g).1, -127 ≤ x ∧ x ≤ 127 := by
  unfold rowS; split
  · split
    · exact cells_in _ _ _
    · simp
  · simp
theorem rowS_len (l g : List Int) : (rowS l g).1.length ≤ l.length := by
  unfold rowS; split
  · rename_i h
    split
    · rw [cells_length _ _ _ h]; exact Nat.le_refl _
    · simp
  · simp
theorem opp_l (a : List Int) (ha : a.length ≤ 4611686018427387904) (hin : ∀ x ∈ a, -127 ≤ x ∧ x ≤ 127) : ∀ (d i : Nat), i + d = a.length → Ev (fun k => heraldlaw09_NormTurns.l1 k a (a.map (fun x => -x)) i) true := by
  intro d
  induction d with
  | zero =>
    intro i hi
    exact Ev.step (fun k => by simp only [heraldlaw09_NormTurns.l1]; rw [if_neg (by omega)]) (Ev.now _)
  | succ d ih =>
    intro i hi
    refine Ev.step (fun k => ?_) (ih (i + 1) (by omega))
    have hm := hin _ (rd_mem (l := a) (i := (i : Int)) (by omega) (by omega))
    have e : rd (a.map (fun x => -x)) (i : Int) = -rd a i := by
      unfold rd
      simp only [List.getD_eq_getElem?_getD, Int.toNat_natCast, List.getElem?_map, List.getElem?_eq_getElem (show i < a.length by omega), Option.map_some, Option.getD_some]
    simp only [heraldlaw09_NormTurns.l1, e, Int.neg_neg, List.length_map]
    rw [i8wrap_id ⟨by omega, by omega⟩, if_pos (by omega), if_pos (by omega), if_pos (by omega), if_pos rfl, if_neg (by omega), wrap64_id' (by omega) (by omega)]; rfl
theorem turns_l (l g : List Int) (hl : l.length * 8 ≤ 140737488351232) (hg : ∀ x ∈ g, I8 x) : ∀ (t : List Int) (i : Nat) (a : List Int), l.drop i = t → a.length = i → a ++ t.map (fun x => -x) = l.map (fun x => -x) → i ≤ l.length → Ev (fun k => heraldlaw09_NormTurns.l0 k l g a i) true := by
  intro t
  induction t with
  | nil =>
    intro i a h ha he hi1
    have hi := drop_nil h
    simp only [List.map_nil, List.append_nil] at he
    subst he
    refine Ev.step (fun k => by simp only [heraldlaw09_NormTurns.l0]; rw [if_neg (by omega)]) ?_
    refine Ev.bind (Row_f l g hg) ?_
    refine Ev.bind (Row_f _ g hg) ?_
    refine Ev.bind (rRow_f l g hg) ?_
    refine Ev.bind awake_ev ?_
    rw [rowS_neg]
    simp only [if_true, List.length_map, bne_self_eq_false]
    refine Ev.step (fun k => by simp only [heraldlaw09_NormTurns.j1, Bool.false_eq_true, if_false]; rfl) ?_
    have hle := rowS_len l g
    exact opp_l _ (by omega) (rowS_in l g) (rowS l g).1.length 0 (by omega)
  | cons x t ih =>
    intro i a h ha he hi1
    obtain ⟨hi, hgx, hd⟩ := drop_cons h
    have hr := rd_of_get hgx
    by_cases h1 : x < -268435456
    · refine Ev.step (fun k => ?_) awake_ev
      simp only [heraldlaw09_NormTurns.l0, hr]
      rw [if_pos (by omega), if_pos (by omega), if_pos h1]
      exact bind_id _
    · by_cases h2 : x > 268435456
      · refine Ev.step (fun k => ?_) awake_ev
        simp only [heraldlaw09_NormTurns.l0, hr]
        rw [if_pos (by omega), if_pos (by omega), if_neg h1, if_pos h2]
        exact bind_id _
      · refine Ev.step (fun k => ?_) (ih (i + 1) (a ++ [-x]) hd (by simp [ha]) (by simpa using he) (by omega))
        simp only [heraldlaw09_NormTurns.l0, hr]
        rw [if_pos (by omega), if_pos (by omega), if_neg h1, if_neg h2, if_pos (by omega), wrap64_id' (x := -x) (by omega) (by omega), wrap64_id' (by omega) (by omega)]; rfl
theorem NormTurns : heraldlaw09_NormTurns.Pure := by
  intro l g h1 h2 h3 h4 h5 h6
  have hg : ∀ x ∈ g, I8 x := fun x hx => i8_of_wf (h6 x hx)
  refine Ev.rounds (g := fun k => heraldlaw09_NormTurns.f k l g) ?_
  unfold heraldlaw09_NormTurns.f
  exact turns_l l g h2 hg l 0 [] rfl rfl rfl (by omega)

end Go.Proofs.Ytgdbcknofcnfbaa.Pure
