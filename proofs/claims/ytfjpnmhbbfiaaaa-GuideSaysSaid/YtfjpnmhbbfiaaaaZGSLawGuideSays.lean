-- Printed by mkrow.py (wip): the row. Lean checks it.
import Derived.Test.YtfjpnmhbbfiaaaaRows
import Derived.Test.YtfjpnmhbbfiaaaaZGSPx27
import Derived.Test.YtfjpnmhbbfiaaaaZGSPureGuideSays
import Derived.Test.YtfjpnmhbbfiaaaaZGSOpen
import Derived.WalkKit
import Derived.ProofKit
import Derived.OpenShut
import Derived.ShutString
import Derived.ChangeOld
import Derived.Below
import Derived.SizedLaws
import Derived.Lib.SmallJoins
namespace Go.Proofs.Ytfjpnmhbbfiaaaa.guideSays
open Go.ChangeShapes Go.WideShapes Go.ChangeAt Go.RowKit Go.Joins
open Go.ChangeMaps (open_string shut_string)
set_option linter.unusedVariables false
theorem own : ownKnob Try.prog.godebug = none := by kernel_rfl
theorem laidOut : laidOutB Try.prog = true := by kernel_rfl
instance : Inhabited P.S92 := ⟨P.z92⟩
set_option maxRecDepth 100000 in
theorem lifted (os : Os) (started : os.Started) (H : Type) (enc : TypeId × Value → H) :
    ReturnsInHanded {} Try.checked os 11 .any (Rows.guideSaysSpec.pre6 enc Try.prog Try.f11 Rows.guideSaysRow.domain false) (Rows.guideSaysSpec.post enc Try.prog Try.f11 false true false false) := by
  refine returnsInHanded_of_change_sized (C := Try.checked) own started (by kernel_rfl) Try.func11
    (ChangeSpec.witness6 (enc := enc) (C := Try.checked) false ⟨#[], #[.agg #[.slice none 0 0, .slice none 0 0], .agg #[.slice none 0 0, .slice none 0 0], .string ⟨#[]⟩], []⟩ 8 (by kernel_rfl) (by kernel_rfl) (by kernel_rfl) (by kernel_rfl)) ?_
  intro W base args ds gs before hval0 hW hcnd hsz0 _
  have hsz : (DataW.weightsEach Try.prog (Try.f11.params.toList ++ Rows.guideSaysSpec.plain.varTypes Try.prog) (ds ++ gs)).all (· ≤ reachBytes) = true := hsz0
  have hval : ∀ (j : Nat) t v, Try.f11.params[j]? = some t → args[j]? = some v → Value.okWide Try.prog W .any base t v := hval0
  have hW' := hW
  obtain ⟨p, q, hA0, hV, rfl, hfz, hnd⟩ := hW
  have hA : DataW.TrodAll enc Try.prog W 0 (fun _ => true) true Try.f11.params.toList args.toList ds p := hA0
  rw [Try.params11] at hA hval hsz
  obtain ⟨v0, vs0, d0, ds0, p0, q0, hargs, rfl, rfl, h0, r0⟩ := trodAll_cons hA
  obtain ⟨v1, vs1, d1, ds1, p1, q1, rfl, rfl, rfl, h1, r1⟩ := trodAll_cons r0
  obtain ⟨v2, vs2, d2, ds2, p2, q2, rfl, rfl, rfl, h2, r2⟩ := trodAll_cons r1
  obtain ⟨rfl, rfl, rfl⟩ := trodAll_nil r2
  obtain rfl : args = #[v0, v1, v2] := by cases args; simp_all
  obtain ⟨rfl, rfl⟩ := trodVars_none hV
  have k0 := h0
  have lt0 : ∀ x ∈ p0, x.block < W.heap.size := by obtain ⟨m, hm⟩ := k0; exact DataW.trod_lt m _ _ _ hm
  obtain ⟨v0_0, v0_1, y0_0, y0_1, n0, rfl, rfl, rfl, f0_0, f0_1⟩ := open_agg2 Try.underlying25 (by kernel_rfl) (by kernel_rfl) (hval 0 25 v0 rfl rfl) h0
  obtain ⟨A0_0, c0_0, l0_0, rfl, hc0_0, hr0_0, q0_0⟩ := O.cell_slice (O.opens_slice (B := 1) Try.underlying22 (by kernel_rfl) (by kernel_rfl) (O.opens_bool Try.underlying4)) f0_0 (O.part_weights (j := 0) Try.underlying25 (O.arg_weights (j := 0) hsz rfl rfl) rfl rfl)
  obtain ⟨A0_1, c0_1, l0_1, rfl, hc0_1, hr0_1, q0_1⟩ := O.cell_slice (O.opens_slice (B := 24) Try.underlying23 (by kernel_rfl) (by kernel_rfl) (show O.Opens Try.prog P.k92 92 _ from O.opens_struct4 (a := Go.Proofs.YtfjpnmhbbfiaaaaW.PrintWords.Kd.int .i64) (b := Go.Proofs.YtfjpnmhbbfiaaaaW.PrintWords.Kd.int .u8) (c := Go.Proofs.YtfjpnmhbbfiaaaaW.PrintWords.Kd.int .u8) (d := Go.Proofs.YtfjpnmhbbfiaaaaW.PrintWords.Kd.int .i64) (f := fun x : P.S92 => (x.f0, x.f1, x.f2, x.f3)) Try.underlying92 (by kernel_rfl) rfl rfl rfl rfl (by kernel_rfl) (by kernel_rfl) (by kernel_rfl) (by kernel_rfl) (O.opens_int Try.underlying3) (O.opens_int Try.underlying5) (O.opens_int Try.underlying5) (O.opens_int Try.underlying3) (fun x y z u => (⟨x, y, z, u⟩ : P.S92)) (fun _ _ _ _ => rfl))) f0_1 (O.part_weights (j := 1) Try.underlying25 (O.arg_weights (j := 0) hsz rfl rfl) rfl rfl)
  have k1 := h1
  have lt1 : ∀ x ∈ p1, x.block < W.heap.size := by obtain ⟨m, hm⟩ := k1; exact DataW.trod_lt m _ _ _ hm
  obtain ⟨v1_0, v1_1, y1_0, y1_1, n1, rfl, rfl, rfl, f1_0, f1_1⟩ := open_agg2 Try.underlying25 (by kernel_rfl) (by kernel_rfl) (hval 1 25 v1 rfl rfl) h1
  obtain ⟨A1_0, c1_0, l1_0, rfl, hc1_0, hr1_0, q1_0⟩ := O.cell_slice (O.opens_slice (B := 1) Try.underlying22 (by kernel_rfl) (by kernel_rfl) (O.opens_bool Try.underlying4)) f1_0 (O.part_weights (j := 0) Try.underlying25 (O.arg_weights (j := 1) hsz rfl rfl) rfl rfl)
  obtain ⟨A1_1, c1_1, l1_1, rfl, hc1_1, hr1_1, q1_1⟩ := O.cell_slice (O.opens_slice (B := 24) Try.underlying23 (by kernel_rfl) (by kernel_rfl) (show O.Opens Try.prog P.k92 92 _ from O.opens_struct4 (a := Go.Proofs.YtfjpnmhbbfiaaaaW.PrintWords.Kd.int .i64) (b := Go.Proofs.YtfjpnmhbbfiaaaaW.PrintWords.Kd.int .u8) (c := Go.Proofs.YtfjpnmhbbfiaaaaW.PrintWords.Kd.int .u8) (d := Go.Proofs.YtfjpnmhbbfiaaaaW.PrintWords.Kd.int .i64) (f := fun x : P.S92 => (x.f0, x.f1, x.f2, x.f3)) Try.underlying92 (by kernel_rfl) rfl rfl rfl rfl (by kernel_rfl) (by kernel_rfl) (by kernel_rfl) (by kernel_rfl) (O.opens_int Try.underlying3) (O.opens_int Try.underlying5) (O.opens_int Try.underlying5) (O.opens_int Try.underlying3) (fun x y z u => (⟨x, y, z, u⟩ : P.S92)) (fun _ _ _ _ => rfl))) f1_1 (O.part_weights (j := 1) Try.underlying25 (O.arg_weights (j := 1) hsz rfl rfl) rfl rfl)
  have k2 := h2
  have lt2 : ∀ x ∈ p2, x.block < W.heap.size := by obtain ⟨m, hm⟩ := k2; exact DataW.trod_lt m _ _ _ hm
  obtain ⟨a2, rfl, rfl, rfl, y2⟩ := open_string Try.underlying9 (hval 2 9 v2 rfl rfl) h2
  have q2 : a2.size ≤ 140737488351232 := by
    have z := sized_string hsz (j := 2) (t := 9) rfl rfl
    rw [Array.length_toList] at z
    exact z
  clear hA0 hval0 hsz0 hsz
  obtain ⟨k, hk⟩ := Pure.GuideSays l0_0 l0_1 l1_0 l1_1 a2 q0_0 q0_1 q1_0 q1_1 q2
  refine (P.heraldlaw15_GuideSays.calls k A0_0 c0_0 l0_0 A0_1 c0_1 l0_1 A1_0 c1_0 l1_0 A1_1 c1_1 l1_1 a2 true W hr0_0 hc0_0 hr0_1 hc0_1 hr1_0 hc1_0 hr1_1 hc1_1 hk).mono fun e W' ⟨he, bel⟩ => ?_
  subst he
  exact ⟨_, rfl, _, _, _, [], _, [], hW', trodAll_mk1 (shut_bool Try.underlying4 _), (trodAll_cons_mk (Below.trod laidOut (by kernel_rfl) (of_decide_eq_true (by kernel_rfl)) k0 bel lt0) (trodAll_cons_mk (Below.trod laidOut (by kernel_rfl) (of_decide_eq_true (by kernel_rfl)) k1 bel lt1) (trodAll_cons_mk (shut_string Try.underlying9 y2) trodAll_mk0))), rfl, bel.frame _, fun h => by cases h⟩
theorem over : Rows.guideSaysRow.holds Try.pinned (OpenSpec.ofChange Rows.guideSaysSpec) :=
  OpenClaim.holds_of_wide 11 Try.f11 rfl rfl rfl rfl rfl rfl rfl ⟨rfl, rfl, rfl, rfl, rfl⟩ rfl rfl rfl rfl rfl (by kernel_rfl) Try.func11 (by kernel_rfl)
    (of_decide_eq_true (by kernel_rfl)) (by unfold Func.isWrapper; first | (rw [if_pos (by decide +kernel)]; kernel_rfl) | (rw [if_neg (by decide +kernel)]; exact ⟨rfl, rfl⟩))
    (fun os started H enc _ => lifted os started H enc)
theorem proved : Rows.GuideSaysSaid := over
#print axioms proved
end Go.Proofs.Ytfjpnmhbbfiaaaa.guideSays
namespace Go.Proofs.Ytfjpnmhbbfiaaaa
/-- The row, under a short name, for the claim. -/
theorem guideSays_holds : Rows.GuideSaysSaid := guideSays.proved
end Go.Proofs.Ytfjpnmhbbfiaaaa
