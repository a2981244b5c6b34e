-- Printed by mkrow.py (wip): the row. Lean checks it.
import Derived.Test.YtmpldbccohdnjaaRows
import Derived.Test.YtmpldbccohdnjaaPx30
import Derived.Test.YtmpldbccohdnjaaPureSoftMasks
import Derived.Test.YtmpldbccohdnjaaOpen
import Derived.WalkKit
import Derived.ProofKit
import Derived.OpenShut
import Derived.ShutString
import Derived.ChangeOld
import Derived.Below
import Derived.SizedLaws
import Derived.Lib.SmallJoins
namespace Go.Proofs.Ytmpldbccohdnjaa.softMasks
open Go.ChangeShapes Go.WideShapes Go.ChangeAt Go.RowKit Go.Joins
open Go.ChangeMaps (open_string shut_string)
set_option linter.unusedVariables false
theorem own : ownKnob Try.prog.godebug = none := by kernel_rfl
theorem laidOut : laidOutB Try.prog = true := by kernel_rfl
set_option maxRecDepth 100000 in
theorem lifted (os : Os) (started : os.Started) (H : Type) (enc : TypeId × Value → H) :
    ReturnsInHanded {} Try.checked os 11 .any (Rows.softMasksSpec.pre6 enc Try.prog Try.f11 Rows.softMasksRow.domain false) (Rows.softMasksSpec.post enc Try.prog Try.f11 false true false false) := by
  refine returnsInHanded_of_change_sized (C := Try.checked) own started (by kernel_rfl) Try.func11
    (ChangeSpec.witness6 (enc := enc) (C := Try.checked) false ⟨#[], #[.slice none 0 0, .slice none 0 0, .agg #[.slice none 0 0, .int .i64 0, .int .i64 0]], []⟩ 8 (by kernel_rfl) (by kernel_rfl) (by kernel_rfl) (by kernel_rfl)) ?_
  intro W base args ds gs before hval0 hW hcnd hsz0 _
  have hsz : (DataW.weightsEach Try.prog (Try.f11.params.toList ++ Rows.softMasksSpec.plain.varTypes Try.prog) (ds ++ gs)).all (· ≤ reachBytes) = true := hsz0
  have hval : ∀ (j : Nat) t v, Try.f11.params[j]? = some t → args[j]? = some v → Value.okWide Try.prog W .any base t v := hval0
  have hW' := hW
  obtain ⟨p, q, hA0, hV, rfl, hfz, hnd⟩ := hW
  have hA : DataW.TrodAll enc Try.prog W 0 (fun _ => true) true Try.f11.params.toList args.toList ds p := hA0
  rw [Try.params11] at hA hval hsz
  obtain ⟨v0, vs0, d0, ds0, p0, q0, hargs, rfl, rfl, h0, r0⟩ := trodAll_cons hA
  obtain ⟨v1, vs1, d1, ds1, p1, q1, rfl, rfl, rfl, h1, r1⟩ := trodAll_cons r0
  obtain ⟨v2, vs2, d2, ds2, p2, q2, rfl, rfl, rfl, h2, r2⟩ := trodAll_cons r1
  obtain ⟨rfl, rfl, rfl⟩ := trodAll_nil r2
  obtain rfl : args = #[v0, v1, v2] := by cases args; simp_all
  obtain ⟨rfl, rfl⟩ := trodVars_none hV
  have k0 := h0
  have lt0 : ∀ x ∈ p0, x.block < W.heap.size := by obtain ⟨m, hm⟩ := k0; exact DataW.trod_lt m _ _ _ hm
  obtain ⟨A0, c0, l0, rfl, hc0, hr0, q0⟩ := O.arg_slice Try.underlying22 (O.opens_slice (B := 8) Try.underlying22 (by kernel_rfl) (by kernel_rfl) (O.opens_int Try.underlying2)) (hval 0 22 v0 rfl rfl) h0 (O.arg_weights (j := 0) hsz rfl rfl)
  have k1 := h1
  have lt1 : ∀ x ∈ p1, x.block < W.heap.size := by obtain ⟨m, hm⟩ := k1; exact DataW.trod_lt m _ _ _ hm
  obtain ⟨A1, c1, l1, rfl, hc1, hr1, q1⟩ := O.arg_slice Try.underlying31 (O.opens_slice (B := 1) Try.underlying31 (by kernel_rfl) (by kernel_rfl) (O.opens_int Try.underlying32)) (hval 1 31 v1 rfl rfl) h1 (O.arg_weights (j := 1) hsz rfl rfl)
  have k2 := h2
  have lt2 : ∀ x ∈ p2, x.block < W.heap.size := by obtain ⟨m, hm⟩ := k2; exact DataW.trod_lt m _ _ _ hm
  obtain ⟨v2_0, v2_1, v2_2, y2_0, y2_1, y2_2, n2, rfl, rfl, rfl, f2_0, f2_1, f2_2⟩ := open_agg3 Try.underlying56 (by kernel_rfl) (by kernel_rfl) (hval 2 56 v2 rfl rfl) h2
  obtain ⟨A2_0, c2_0, l2_0, rfl, hc2_0, hr2_0, q2_0⟩ := O.cell_slice (O.opens_slice (B := 1) Try.underlying48 (by kernel_rfl) (by kernel_rfl) (O.opens_bool Try.underlying4)) f2_0 (O.part_weights (j := 0) Try.underlying56 (O.arg_weights (j := 2) hsz rfl rfl) rfl rfl)
  obtain ⟨a2_1, rfl, q2_1⟩ := O.cell_int Try.underlying2 f2_1
  obtain ⟨a2_2, rfl, q2_2⟩ := O.cell_int Try.underlying3 f2_2
  clear hA0 hval0 hsz0 hsz
  obtain ⟨k, hk⟩ := Pure.SoftMasks l0 l1 l2_0 a2_1 a2_2 q0 q1 q2_0 q2_1 q2_2
  refine (P.heraldlaw11_SoftMasks.calls k A0 c0 l0 A1 c1 l1 A2_0 c2_0 l2_0 a2_1 a2_2 true W hr0 hc0 hr1 hc1 hr2_0 hc2_0 hk).mono fun e W' ⟨he, bel⟩ => ?_
  subst he
  exact ⟨_, rfl, _, _, _, [], _, [], hW', trodAll_mk1 (shut_bool Try.underlying4 _), (trodAll_cons_mk (Below.trod laidOut (by kernel_rfl) (of_decide_eq_true (by kernel_rfl)) k0 bel lt0) (trodAll_cons_mk (Below.trod laidOut (by kernel_rfl) (of_decide_eq_true (by kernel_rfl)) k1 bel lt1) (trodAll_cons_mk (Below.trod laidOut (by kernel_rfl) (of_decide_eq_true (by kernel_rfl)) k2 bel lt2) trodAll_mk0))), rfl, bel.frame _, fun h => by cases h⟩
theorem over : Rows.softMasksRow.holds Try.pinned (OpenSpec.ofChange Rows.softMasksSpec) :=
  OpenClaim.holds_of_wide 11 Try.f11 rfl rfl rfl rfl rfl rfl rfl ⟨rfl, rfl, rfl, rfl, rfl⟩ rfl rfl rfl rfl rfl (by kernel_rfl) Try.func11 (by kernel_rfl)
    (of_decide_eq_true (by kernel_rfl)) (by unfold Func.isWrapper; first | (rw [if_pos (by decide +kernel)]; kernel_rfl) | (rw [if_neg (by decide +kernel)]; exact ⟨rfl, rfl⟩))
    (fun os started H enc _ => lifted os started H enc)
theorem proved : Rows.SoftMasksSaid := over
#print axioms proved
end Go.Proofs.Ytmpldbccohdnjaa.softMasks
namespace Go.Proofs.Ytmpldbccohdnjaa
/-- The row, under a short name, for the claim. -/
theorem softMasks_holds : Rows.SoftMasksSaid := softMasks.proved
end Go.Proofs.Ytmpldbccohdnjaa
