-- Printed by mkrow.py (wip): the row. Lean checks it.
import Derived.Test.YtigfodkakefhcaaRows
import Derived.Test.YtigfodkakefhcaaPx10
import Derived.Test.YtigfodkakefhcaaPureVecBatches
import Derived.Test.YtigfodkakefhcaaOpen
import Derived.WalkKit
import Derived.ProofKit
import Derived.OpenShut
import Derived.ShutString
import Derived.ChangeOld
import Derived.Below
import Derived.SizedLaws
import Derived.Lib.SmallJoins
namespace Go.Proofs.Ytigfodkakefhcaa.vecBatches
open Go.ChangeShapes Go.WideShapes Go.ChangeAt Go.RowKit Go.Joins
open Go.ChangeMaps (open_string shut_string)
set_option linter.unusedVariables false
theorem own : ownKnob Try.prog.godebug = none := by kernel_rfl
theorem laidOut : laidOutB Try.prog = true := by kernel_rfl
set_option maxRecDepth 100000 in
theorem lifted (os : Os) (started : os.Started) (H : Type) (enc : TypeId × Value → H) :
    ReturnsInHanded {} Try.checked os 5 .any (Rows.vecBatchesSpec.pre6 enc Try.prog Try.f5 Rows.vecBatchesRow.domain false) (Rows.vecBatchesSpec.post enc Try.prog Try.f5 false true false false) := by
  refine returnsInHanded_of_change_sized (C := Try.checked) own started (by kernel_rfl) Try.func5
    (ChangeSpec.witness6 (enc := enc) (C := Try.checked) false ⟨#[], #[.agg #[.slice none 0 0, .int .i64 0, .slice none 0 0], .agg #[.slice none 0 0, .int .i64 0, .slice none 0 0]], []⟩ 8 (by kernel_rfl) (by kernel_rfl) (by kernel_rfl) (by kernel_rfl)) ?_
  intro W base args ds gs before hval0 hW hcnd hsz0 _
  have hsz : (DataW.weightsEach Try.prog (Try.f5.params.toList ++ Rows.vecBatchesSpec.plain.varTypes Try.prog) (ds ++ gs)).all (· ≤ reachBytes) = true := hsz0
  have hval : ∀ (j : Nat) t v, Try.f5.params[j]? = some t → args[j]? = some v → Value.okWide Try.prog W .any base t v := hval0
  have hW' := hW
  obtain ⟨p, q, hA0, hV, rfl, hfz, hnd⟩ := hW
  have hA : DataW.TrodAll enc Try.prog W 0 (fun _ => true) true Try.f5.params.toList args.toList ds p := hA0
  rw [Try.params5] at hA hval hsz
  obtain ⟨v0, vs0, d0, ds0, p0, q0, hargs, rfl, rfl, h0, r0⟩ := trodAll_cons hA
  obtain ⟨v1, vs1, d1, ds1, p1, q1, rfl, rfl, rfl, h1, r1⟩ := trodAll_cons r0
  obtain ⟨rfl, rfl, rfl⟩ := trodAll_nil r1
  obtain rfl : args = #[v0, v1] := by cases args; simp_all
  obtain ⟨rfl, rfl⟩ := trodVars_none hV
  have k0 := h0
  have lt0 : ∀ x ∈ p0, x.block < W.heap.size := by obtain ⟨m, hm⟩ := k0; exact DataW.trod_lt m _ _ _ hm
  obtain ⟨v0_0, v0_1, v0_2, y0_0, y0_1, y0_2, n0, rfl, rfl, rfl, f0_0, f0_1, f0_2⟩ := open_agg3 Try.underlying25 (by kernel_rfl) (by kernel_rfl) (hval 0 25 v0 rfl rfl) h0
  obtain ⟨A0_0, c0_0, l0_0, rfl, hc0_0, hr0_0, q0_0⟩ := O.cell_slice (O.opens_slice (B := 1) Try.underlying22 (by kernel_rfl) (by kernel_rfl) (O.opens_int Try.underlying42)) f0_0 (O.part_weights (j := 0) Try.underlying25 (O.arg_weights (j := 0) hsz rfl rfl) rfl rfl)
  obtain ⟨a0_1, rfl, q0_1⟩ := O.cell_int Try.underlying3 f0_1
  obtain ⟨A0_2, c0_2, l0_2, rfl, hc0_2, hr0_2, q0_2⟩ := O.cell_slice (O.opens_slice (B := 24) Try.underlying23 (by kernel_rfl) (by kernel_rfl) (O.opens_slice (B := 1) Try.underlying22 (by kernel_rfl) (by kernel_rfl) (O.opens_int Try.underlying42))) f0_2 (O.part_weights (j := 2) Try.underlying25 (O.arg_weights (j := 0) hsz rfl rfl) rfl rfl)
  have k1 := h1
  have lt1 : ∀ x ∈ p1, x.block < W.heap.size := by obtain ⟨m, hm⟩ := k1; exact DataW.trod_lt m _ _ _ hm
  obtain ⟨v1_0, v1_1, v1_2, y1_0, y1_1, y1_2, n1, rfl, rfl, rfl, f1_0, f1_1, f1_2⟩ := open_agg3 Try.underlying25 (by kernel_rfl) (by kernel_rfl) (hval 1 25 v1 rfl rfl) h1
  obtain ⟨A1_0, c1_0, l1_0, rfl, hc1_0, hr1_0, q1_0⟩ := O.cell_slice (O.opens_slice (B := 1) Try.underlying22 (by kernel_rfl) (by kernel_rfl) (O.opens_int Try.underlying42)) f1_0 (O.part_weights (j := 0) Try.underlying25 (O.arg_weights (j := 1) hsz rfl rfl) rfl rfl)
  obtain ⟨a1_1, rfl, q1_1⟩ := O.cell_int Try.underlying3 f1_1
  obtain ⟨A1_2, c1_2, l1_2, rfl, hc1_2, hr1_2, q1_2⟩ := O.cell_slice (O.opens_slice (B := 24) Try.underlying23 (by kernel_rfl) (by kernel_rfl) (O.opens_slice (B := 1) Try.underlying22 (by kernel_rfl) (by kernel_rfl) (O.opens_int Try.underlying42))) f1_2 (O.part_weights (j := 2) Try.underlying25 (O.arg_weights (j := 1) hsz rfl rfl) rfl rfl)
  clear hA0 hval0 hsz0 hsz
  obtain ⟨k, hk⟩ := Pure.VecBatches l0_0 a0_1 l0_2 l1_0 a1_1 l1_2 q0_0 q0_1 q0_2 q1_0 q1_1 q1_2
  refine (P.heraldlaw08_VecBatches.calls k A0_0 c0_0 l0_0 a0_1 A0_2 c0_2 l0_2 A1_0 c1_0 l1_0 a1_1 A1_2 c1_2 l1_2 true W hr0_0 hc0_0 hr0_2 hc0_2 hr1_0 hc1_0 hr1_2 hc1_2 hk).mono fun e W' ⟨he, bel⟩ => ?_
  subst he
  exact ⟨_, rfl, _, _, _, [], _, [], hW', trodAll_mk1 (shut_bool Try.underlying4 _), (trodAll_cons_mk (Below.trod laidOut (by kernel_rfl) (of_decide_eq_true (by kernel_rfl)) k0 bel lt0) (trodAll_cons_mk (Below.trod laidOut (by kernel_rfl) (of_decide_eq_true (by kernel_rfl)) k1 bel lt1) trodAll_mk0)), rfl, bel.frame _, fun h => by cases h⟩
theorem over : Rows.vecBatchesRow.holds Try.pinned (OpenSpec.ofChange Rows.vecBatchesSpec) :=
  OpenClaim.holds_of_wide 5 Try.f5 rfl rfl rfl rfl rfl rfl rfl ⟨rfl, rfl, rfl, rfl, rfl⟩ rfl rfl rfl rfl rfl (by kernel_rfl) Try.func5 (by kernel_rfl)
    (of_decide_eq_true (by kernel_rfl)) (by unfold Func.isWrapper; first | (rw [if_pos (by decide +kernel)]; kernel_rfl) | (rw [if_neg (by decide +kernel)]; exact ⟨rfl, rfl⟩))
    (fun os started H enc _ => lifted os started H enc)
theorem proved : Rows.VecBatchesSaid := over
#print axioms proved
end Go.Proofs.Ytigfodkakefhcaa.vecBatches
namespace Go.Proofs.Ytigfodkakefhcaa
/-- The row, under a short name, for the claim. -/
theorem vecBatches_holds : Rows.VecBatchesSaid := vecBatches.proved
end Go.Proofs.Ytigfodkakefhcaa
