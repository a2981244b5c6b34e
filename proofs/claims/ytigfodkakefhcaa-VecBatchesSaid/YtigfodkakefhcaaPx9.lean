-- Printed by xprint.py (wip): functions, contracts, rows. Lean checks it.
import Derived.Test.YtigfodkakefhcaaPx0
import Derived.Test.YtigfodkakefhcaaPx7
namespace Go.Proofs.Ytigfodkakefhcaa.P
open Go.RowKit Go.Proofs.YtigfodkakefhcaaW.PrintWords Go.Proofs.YtigfodkakefhcaaW.PrintLast Go.Proofs.YtigfodkakefhcaaW.PrintMore
attribute [local go_sem] max2_int min2_int max_two min_two max_three min_three max_four min_four   -- for this text's walks alone
set_option linter.unusedVariables false
set_option linter.unusedSimpArgs false

/-! ### vec_Batch2: function 84, of ours -/
/-- vec.Batch of one row twice, the rows' list laid by the caller. -/
def vec_Batch2.f (k : Nat) (l0 : List Int) (a1 : Int) (l2 : List Int) : Option (List (List Int) × Int) := vec_Batch.f k l0 a1 [l2, l2]
theorem vec_Batch2.mono : ∀ a0 a1 a2 k, LeO (vec_Batch2.f k a0 a1 a2) (vec_Batch2.f (k + 1) a0 a1 a2) := fun a0 a1 a2 k => vec_Batch.mono a0 a1 [a2, a2] k
theorem vec_Batch2.calls (k : Nat) (A0 : Option Addr) (c0 : Nat) (l0 : List Int) (a1 : Int) (A2 : Option Addr) (c2 : Nat) (l2 : List Int) (r1 : List (List Int)) (r2 : Int) (w : World) (hr0 : Kd.C (Kd.int .i8) w A0 l0.length l0) (hc0 : l0.length ≤ c0) (hr2 : Kd.C (Kd.int .i8) w A2 l2.length l2) (hc2 : l2.length ≤ c2) (h : vec_Batch2.f k l0 a1 l2 = some (r1, r2)) :
    Calls Try.prog 18 #[.slice A0 l0.length c0, .int .i64 a1, .slice (some ⟨w.heap.size, 0, none⟩) 2 2] (w.alloc (.cells #[.slice A2 l2.length c2, .slice A2 l2.length c2] 22)) fun e w' => ∃ v0_ : Value, e = .returned (.tuple #[v0_, .int .i64 r2]) ∧ Kd.S (Kd.slice 2 (Kd.int .i64)) 28 w' w.heap.size (fun _ => True) v0_ r1 ∧ Below w.heap.size w w' := by
  have hb : Below w.heap.size w (w.alloc (.cells #[.slice A2 l2.length c2, .slice A2 l2.length c2] 22)) := below_alloc (Below.refl _ _) _
  have hC : Kd.C (Kd.slice 42 (Kd.int .i8)) (w.alloc (.cells #[.slice A2 l2.length c2, .slice A2 l2.length c2] 22)) (some ⟨w.heap.size, 0, none⟩) [l2, l2].length [l2, l2] := by
    refine ⟨rfl, by simp, fun _ => ⟨_, rfl, fun j p hj => ?_⟩⟩
    have hK : (Kd.slice 42 (Kd.int .i8)).K (w.alloc (.cells #[.slice A2 l2.length c2, .slice A2 l2.length c2] 22)) l2 [.slice A2 l2.length c2] := ⟨A2, c2, rfl, hc2, Kd.C_below hr2 hb⟩
    have hj2 : j < 2 := by
      have := (List.getElem?_eq_some_iff.1 hj).1
      simpa using this
    have hp : p = l2 := by
      match j, hj2, hj with
      | 0, _, hj => exact (Option.some.inj hj).symm
      | 1, _, hj => exact (Option.some.inj hj).symm
    subst hp
    refine ⟨_, rfl, hK, fun q u hu => ?_⟩
    cases q with
    | succ q => simp at hu
    | zero =>
      have hu' : Value.slice A2 p.length c2 = u := by simpa using hu
      subst hu'
      rw [add_plain]
      refine (blk_cell (heap_alloc_new w _) _).trans ?_
      match j, hj2 with
      | 0, _ => rfl
      | 1, _ => rfl
  refine (vec_Batch.calls k A0 c0 l0 a1 (some ⟨w.heap.size, 0, none⟩) 2 [l2, l2] r1 r2 _ (Kd.C_below hr0 hb) hc0 hC (by simp) h).mono ?_
  rintro e w' ⟨v, he, ho, hb2⟩
  exact ⟨v, he, Kd.S_lower ho hb.size, below_step hb hb2⟩

end Go.Proofs.Ytigfodkakefhcaa.P
