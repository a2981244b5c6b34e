-- Printed by mkrow.py (wip): the row. Lean checks it.
import Derived.Test.YtigfodkakefhcaaRows
import Derived.Test.YtigfodkakefhcaaPx13
import Derived.Test.YtigfodkakefhcaaPureVecDots
import Derived.Test.YtigfodkakefhcaaUOpen
import Derived.Deep.CondSized
import Derived.JoinedCond
import Derived.WalkKit
import Derived.ProofKit
import Derived.OpenShut
import Derived.ShutString
import Derived.ChangeOld
import Derived.Below
import Derived.SizedLaws
import Derived.Lib.SmallJoins
namespace Go.Proofs.Ytigfodkakefhcaa.vecDotsUpto
open Go.ChangeShapes Go.WideShapes Go.ChangeAt Go.RowKit Go.Joins
open Go.ChangeMaps (open_string shut_string)
set_option linter.unusedVariables false
set_option linter.unusedSimpArgs false
theorem own : ownKnob Try.prog.godebug = none := by kernel_rfl
theorem laidOut : laidOutB Try.prog = true := by kernel_rfl
set_option maxRecDepth 100000 in
theorem lifted (os : Os) (started : os.Started) (H : Type) (enc : TypeId × Value → H) (F : Stop.Interp) :
    ReturnsInHanded {} Try.checked os 4 .any ((Rows.OpenSpec.upto Rows.vecDotsSpec).pre6 enc Try.prog Try.f4 Rows.vecDotsUptoRow.domain false) (((Rows.OpenSpec.upto Rows.vecDotsSpec).at F).post enc Try.prog Try.f4 false true false false) := by
  refine returnsInHanded_of_cond_sized (C := Try.checked) (s := Rows.OpenSpec.upto Rows.vecDotsSpec) (k := Rows.uptoSmall) rfl own started (by kernel_rfl) Try.func4
    (OpenSpec.witness (enc := enc) (C := Try.checked) (s := Rows.OpenSpec.upto Rows.vecDotsSpec) (k := Rows.uptoSmall) rfl false ⟨#[], #[.agg #[.slice none 0 0, .slice none 0 0], .agg #[.slice none 0 0, .slice none 0 0]], []⟩ 8 (by kernel_rfl) (by kernel_rfl) (by kernel_rfl) (x := ([.agg [.nil, .nil], .agg [.nil, .nil]], [], [])) (by kernel_rfl) rfl (by kernel_rfl)) ?_
  intro W base args ds gs before hval0 hW hcnd hbk hsz0 _
  have hsz : (DataW.weightsEach Try.prog (Try.f4.params.toList ++ Rows.vecDotsSpec.plain.varTypes Try.prog) (ds ++ gs)).all (· ≤ reachBytes) = true := hsz0
  have hval : ∀ (j : Nat) t v, Try.f4.params[j]? = some t → args[j]? = some v → Value.okWide Try.prog W .any base t v := hval0
  have hW' := hW
  obtain ⟨p, q, hA0, hV, rfl, hfz, hnd⟩ := hW
  have hA : DataW.TrodAll enc Try.prog W 0 (fun _ => true) true Try.f4.params.toList args.toList ds p := hA0
  rw [Try.params4] at hA hval hsz
  obtain ⟨v0, vs0, d0, ds0, p0, q0, hargs, rfl, rfl, h0, r0⟩ := trodAll_cons hA
  obtain ⟨v1, vs1, d1, ds1, p1, q1, rfl, rfl, rfl, h1, r1⟩ := trodAll_cons r0
  obtain ⟨rfl, rfl, rfl⟩ := trodAll_nil r1
  obtain rfl : args = #[v0, v1] := by cases args; simp_all
  obtain ⟨rfl, rfl⟩ := trodVars_none hV
  have k0 := h0
  have lt0 : ∀ x ∈ p0, x.block < W.heap.size := by obtain ⟨m, hm⟩ := k0; exact DataW.trod_lt m _ _ _ hm
  obtain ⟨v0_0, v0_1, y0_0, y0_1, n0, rfl, rfl, rfl, f0_0, f0_1⟩ := open_agg2 Try.underlying46 (by kernel_rfl) (by kernel_rfl) (hval 0 46 v0 rfl rfl) h0
  obtain ⟨A0_0, c0_0, l0_0, rfl, hc0_0, hr0_0, q0_0, b0_0⟩ := O.cell_slice_b Try.underlying22 (O.opens_slice (B := 1) Try.underlying22 (by kernel_rfl) (by kernel_rfl) (O.opens_int Try.underlying42)) f0_0 (O.part_weights (j := 0) Try.underlying46 (O.arg_weights (j := 0) hsz rfl rfl) rfl rfl)
  obtain ⟨A0_1, c0_1, l0_1, rfl, hc0_1, hr0_1, q0_1, b0_1⟩ := O.cell_slice_b Try.underlying22 (O.opens_slice (B := 1) Try.underlying22 (by kernel_rfl) (by kernel_rfl) (O.opens_int Try.underlying42)) f0_1 (O.part_weights (j := 1) Try.underlying46 (O.arg_weights (j := 0) hsz rfl rfl) rfl rfl)
  have k1 := h1
  have lt1 : ∀ x ∈ p1, x.block < W.heap.size := by obtain ⟨m, hm⟩ := k1; exact DataW.trod_lt m _ _ _ hm
  obtain ⟨v1_0, v1_1, y1_0, y1_1, n1, rfl, rfl, rfl, f1_0, f1_1⟩ := open_agg2 Try.underlying46 (by kernel_rfl) (by kernel_rfl) (hval 1 46 v1 rfl rfl) h1
  obtain ⟨A1_0, c1_0, l1_0, rfl, hc1_0, hr1_0, q1_0, b1_0⟩ := O.cell_slice_b Try.underlying22 (O.opens_slice (B := 1) Try.underlying22 (by kernel_rfl) (by kernel_rfl) (O.opens_int Try.underlying42)) f1_0 (O.part_weights (j := 0) Try.underlying46 (O.arg_weights (j := 1) hsz rfl rfl) rfl rfl)
  obtain ⟨A1_1, c1_1, l1_1, rfl, hc1_1, hr1_1, q1_1, b1_1⟩ := O.cell_slice_b Try.underlying22 (O.opens_slice (B := 1) Try.underlying22 (by kernel_rfl) (by kernel_rfl) (O.opens_int Try.underlying42)) f1_1 (O.part_weights (j := 1) Try.underlying46 (O.arg_weights (j := 1) hsz rfl rfl) rfl rfl)
  clear hA0 hval0 hsz0 hsz
  have hsum : l0_0.length + l0_1.length + l1_0.length + l1_1.length ≤ 1048576 := by
    have hz := of_decide_eq_true hbk
    simp only [List.append_nil, List.nil_append, List.cons_append, Rows.uptoBulkAll, Rows.uptoBulk] at hz
    omega
  obtain ⟨k, hk⟩ := Pure.VecDots l0_0 l0_1 l1_0 l1_1 q0_0 q0_1 q1_0 q1_1 hsum
  refine (P.heraldlaw08_VecDots.calls k A0_0 c0_0 l0_0 A0_1 c0_1 l0_1 A1_0 c1_0 l1_0 A1_1 c1_1 l1_1 true W hr0_0 hc0_0 hr0_1 hc0_1 hr1_0 hc1_0 hr1_1 hc1_1 hk).mono fun e W' ⟨he, bel⟩ => ?_
  subst he
  exact ⟨_, rfl, _, _, _, [], _, [], hW', trodAll_mk1 (shut_bool Try.underlying4 _), (trodAll_cons_mk (Below.trod laidOut (by kernel_rfl) (of_decide_eq_true (by kernel_rfl)) k0 bel lt0) (trodAll_cons_mk (Below.trod laidOut (by kernel_rfl) (of_decide_eq_true (by kernel_rfl)) k1 bel lt1) trodAll_mk0)), rfl, bel.frame _, fun h => by cases h⟩
theorem over : Rows.vecDotsUptoRow.holds Try.pinned (Rows.OpenSpec.upto Rows.vecDotsSpec) :=
  OpenClaim.holds_of_cond 4 Try.f4 rfl rfl rfl rfl rfl rfl rfl ⟨rfl, rfl, rfl, rfl, rfl⟩ rfl rfl rfl rfl rfl (by kernel_rfl) Try.func4 (by kernel_rfl)
    (of_decide_eq_true (by kernel_rfl)) (by unfold Func.isWrapper; first | (rw [if_pos (by decide +kernel)]; kernel_rfl) | (rw [if_neg (by decide +kernel)]; exact ⟨rfl, rfl⟩))
    (fun os started H enc _ F => lifted os started H enc F)
theorem proved : Rows.VecDotsUptoSaid := over
#print axioms proved
end Go.Proofs.Ytigfodkakefhcaa.vecDotsUpto
namespace Go.Proofs.Ytigfodkakefhcaa
/-- The row, under a short name, for the claim. -/
theorem vecDotsUpto_holds : Rows.VecDotsUptoSaid := vecDotsUpto.proved
end Go.Proofs.Ytigfodkakefhcaa
