-- Printed by mkrow.py (wip): the narrowed form's row over the laid variable, and the tied card. Lean checks it.
import Derived.Test.YtengkjkmdodifaaDoorRows
import Derived.Test.YtengkjkmdodifaaDoorPx16
import Derived.Test.YtengkjkmdodifaaDoorPureRopeHeads
import Derived.Test.YtengkjkmdodifaaDoorOpen
import Derived.WalkKit
import Derived.ProofKit
import Derived.OpenShut
import Derived.ShutString
import Derived.ChangeOld
import Derived.Below
import Derived.SizedLaws
import Derived.Lib.SmallJoins
import Derived.Test.YtengkjkmdodifaaDoorUOpen
import Derived.Test.YtengkjkmdodifaaDoorLaid
import Derived.Test.YtengkjkmdodifaaDoorTie
import Derived.Test.YtengkjkmdodifaaDoorCards
import Derived.SevenTiedAt
import Derived.JoinedOf
import Derived.JoinedCond
import Derived.Deep.DeepHandedRow
namespace Go.Proofs.YtengkjkmdodifaaDoor.ropeHeadsUpto
open Go.ChangeShapes Go.WideShapes Go.ChangeAt Go.RowKit Go.Joins
open Go.ChangeMaps (open_string shut_string)
set_option linter.unusedVariables false
set_option linter.unusedSimpArgs false
theorem own : ownKnob Tryd.prog.godebug = none := by kernel_rfl
theorem laidOut : laidOutB Tryd.prog = true := by kernel_rfl
theorem reads (os : Os) {H : Type} (enc : TypeId × Value → H) : ∃ places, DataW.whole enc Tryd.prog ((P.laidWorld os).forCall (fun _ _ => 0) ⟨#[], #[.slice none 0 0, .slice none 0 0, .agg #[.slice none 0 0, .slice none 0 0]], []⟩).memory Tryd.f4.params.toList Rows.ropeHeadsSpec.vars false #[.slice none 0 0, .slice none 0 0, .agg #[.slice none 0 0, .slice none 0 0]].toList 8 = some ([.nil, .nil, .agg [.nil, .nil]], [], places) :=
  ⟨[], by kernel_rfl⟩
set_option maxRecDepth 100000 in
theorem lifted (os : Os) (started : os.Started) (H : Type) (enc : TypeId × Value → H) (F : Stop.Interp) :
    ReturnsInHanded {} Tryd.checked os 4 .any ((Rows.OpenSpec.upto Rows.ropeHeadsSpec).preRow enc Tryd.prog Tryd.f4 Rows.ropeHeadsUptoRow.domain false Rows.ropeHeadsUptoRow.laid) (((Rows.OpenSpec.upto Rows.ropeHeadsSpec).at F).post enc Tryd.prog Tryd.f4 false true false false) := by
  obtain ⟨places, hx⟩ := reads os enc
  refine returnsInHanded_of_row (C := Tryd.checked) (s := Rows.OpenSpec.upto Rows.ropeHeadsSpec) own started (by kernel_rfl) Tryd.func4
    (witness_row_at (enc := enc) (C := Tryd.checked) false (P.laidWorld os) #[.slice none 0 0, .slice none 0 0, .agg #[.slice none 0 0, .slice none 0 0]] rfl (by kernel_rfl) (by kernel_rfl) (by kernel_rfl)
      (OpenSpec.preRow_of_cond 8 hx (by kernel_rfl) (fun k hk => by cases hk; kernel_rfl) (by kernel_rfl) (P.laidWorld_met os _))) ?_
  intro W base args ds gs before hval0 hW hcnd hbk hsz0 hL _ _
  have hsz : (DataW.weightsEach Tryd.prog (Tryd.f4.params.toList ++ Rows.ropeHeadsSpec.plain.varTypes Tryd.prog) (ds ++ gs)).all (· ≤ reachBytes) = true := hsz0
  have hval : ∀ (j : Nat) t v, Tryd.f4.params[j]? = some t → args[j]? = some v → Value.okWide Tryd.prog W .any base t v := hval0
  have hW' := hW
  obtain ⟨p, q, hA0, hV, rfl, hfz, hnd⟩ := hW
  have hA : DataW.TrodAll enc Tryd.prog W 0 (fun _ => true) true Tryd.f4.params.toList args.toList ds p := hA0
  rw [Tryd.params4] at hA hval hsz
  obtain ⟨v0, vs0, d0, ds0, p0, q0, hargs, rfl, rfl, h0, r0⟩ := trodAll_cons hA
  obtain ⟨v1, vs1, d1, ds1, p1, q1, rfl, rfl, rfl, h1, r1⟩ := trodAll_cons r0
  obtain ⟨v2, vs2, d2, ds2, p2, q2, rfl, rfl, rfl, h2, r2⟩ := trodAll_cons r1
  obtain ⟨rfl, rfl, rfl⟩ := trodAll_nil r2
  obtain rfl : args = #[v0, v1, v2] := by cases args; simp_all
  obtain ⟨rfl, rfl⟩ := trodVars_none hV
  have k0 := h0
  have lt0 : ∀ x ∈ p0, x.block < W.heap.size := by obtain ⟨m, hm⟩ := k0; exact DataW.trod_lt m _ _ _ hm
  obtain ⟨A0, c0, l0, rfl, hc0, hr0, q0, b0⟩ := O.arg_slice_b Tryd.underlying22 (O.opens_slice (B := 1) Tryd.underlying22 (by kernel_rfl) (by kernel_rfl) (O.opens_int Tryd.underlying33)) (hval 0 22 v0 rfl rfl) h0 (O.arg_weights (j := 0) hsz rfl rfl)
  have k1 := h1
  have lt1 : ∀ x ∈ p1, x.block < W.heap.size := by obtain ⟨m, hm⟩ := k1; exact DataW.trod_lt m _ _ _ hm
  obtain ⟨A1, c1, l1, rfl, hc1, hr1, q1, b1⟩ := O.arg_slice_b Tryd.underlying22 (O.opens_slice (B := 1) Tryd.underlying22 (by kernel_rfl) (by kernel_rfl) (O.opens_int Tryd.underlying33)) (hval 1 22 v1 rfl rfl) h1 (O.arg_weights (j := 1) hsz rfl rfl)
  have k2 := h2
  have lt2 : ∀ x ∈ p2, x.block < W.heap.size := by obtain ⟨m, hm⟩ := k2; exact DataW.trod_lt m _ _ _ hm
  obtain ⟨v2_0, v2_1, y2_0, y2_1, n2, rfl, rfl, rfl, f2_0, f2_1⟩ := open_agg2 Tryd.underlying24 (by kernel_rfl) (by kernel_rfl) (hval 2 24 v2 rfl rfl) h2
  obtain ⟨A2_0, c2_0, l2_0, rfl, hc2_0, hr2_0, q2_0, b2_0⟩ := O.cell_slice_b Tryd.underlying22 (O.opens_slice (B := 1) Tryd.underlying22 (by kernel_rfl) (by kernel_rfl) (O.opens_int Tryd.underlying33)) f2_0 (O.part_weights (j := 0) Tryd.underlying24 (O.arg_weights (j := 2) hsz rfl rfl) rfl rfl)
  obtain ⟨A2_1, c2_1, l2_1, rfl, hc2_1, hr2_1, q2_1, b2_1⟩ := O.cell_slice_b Tryd.underlying22 (O.opens_slice (B := 1) Tryd.underlying22 (by kernel_rfl) (by kernel_rfl) (O.opens_int Tryd.underlying33)) f2_1 (O.part_weights (j := 1) Tryd.underlying24 (O.arg_weights (j := 2) hsz rfl rfl) rfl rfl)
  clear hA0 hval0 hsz0 hsz
  have hsum : l0.length + l1.length + l2_0.length + l2_1.length ≤ 1048576 := by
    have hz := of_decide_eq_true (hbk _ rfl)
    simp only [List.append_nil, List.nil_append, List.cons_append, Rows.uptoBulkAll, Rows.uptoBulk] at hz
    omega
  obtain ⟨k, hk⟩ := Pure.RopeHeads l0 l1 l2_0 l2_1 q0 q1 q2_0 q2_1 hsum
  refine (P.heraldlaw10_RopeHeads.calls k A0 c0 l0 A1 c1 l1 A2_0 c2_0 l2_0 A2_1 c2_1 l2_1 true W hr0 hc0 hr1 hc1 hr2_0 hc2_0 hr2_1 hc2_1 hk (P.tab_of_laid hL)).mono fun e W' ⟨he, bel⟩ => ?_
  subst he
  exact ⟨_, rfl, _, _, _, [], _, [], hW', trodAll_mk1 (shut_bool Tryd.underlying4 _), (trodAll_cons_mk (Below.trod laidOut (by kernel_rfl) (of_decide_eq_true (by kernel_rfl)) k0 bel lt0) (trodAll_cons_mk (Below.trod laidOut (by kernel_rfl) (of_decide_eq_true (by kernel_rfl)) k1 bel lt1) (trodAll_cons_mk (Below.trod laidOut (by kernel_rfl) (of_decide_eq_true (by kernel_rfl)) k2 bel lt2) trodAll_mk0))), rfl, bel.frame _, fun h => by cases h⟩
theorem over : Rows.ropeHeadsUptoRow.holds Tryd.pinned (Rows.OpenSpec.upto Rows.ropeHeadsSpec) :=
  OpenClaim.holds_of_cond 4 Tryd.f4 rfl rfl rfl rfl rfl rfl rfl ⟨rfl, rfl, rfl, rfl, rfl⟩ rfl rfl rfl rfl rfl (by kernel_rfl) Tryd.func4 (by kernel_rfl)
    (of_decide_eq_true (by kernel_rfl)) (by unfold Func.isWrapper; first | (rw [if_pos (by decide +kernel)]; kernel_rfl) | (rw [if_neg (by decide +kernel)]; exact ⟨rfl, rfl⟩))
    (fun os started H enc _ F => by rw [OpenClaim.pre_eq_preRow]; exact lifted os started H enc F)
theorem proved : Rows.RopeHeadsUptoCardSaid :=
  Claim7.holds_tied_plain_at .later [] [.data] true (true, "52f6dd5ed77f93dea84fd52a3d451e6619f49a3039279f5ba6066dabfb31c8b8") false over (fun _ h => by cases h) (by kernel_rfl) (fun _ h => by cases h) ropeHeadsUpto_row_tie rfl ⟨rfl, rfl⟩ (by kernel_rfl) rfl
    (fun f fn hf hfn => by
      obtain rfl : f = 4 := Option.some.inj ((show Tryd.prog.funcNamed "herald/heraldlaw10.RopeHeads" = some 4 by kernel_rfl).symm.trans hf) |>.symm
      obtain rfl : fn = Tryd.f4 := (Option.some.inj (Tryd.func4.symm.trans hfn)).symm
      refine ⟨by kernel_rfl, fun j t ht => ?_⟩
      rw [Tryd.params4] at ht
      have hm : t ∈ [22, 22, 24] := by
        have := List.mem_of_getElem? (l := [22, 22, 24]) (i := j) (by simpa using ht)
        exact this
      simp at hm
      rcases hm with rfl | rfl
      all_goals first | exact (show Tryd.prog.wantsStandIn 22 = false by kernel_rfl) | exact (show Tryd.prog.wantsStandIn 24 = false by kernel_rfl))
    (by kernel_rfl)
#print axioms proved
end Go.Proofs.YtengkjkmdodifaaDoor.ropeHeadsUpto
namespace Go.Proofs.YtengkjkmdodifaaDoor
/-- The card, under a short name, for the claim. -/
theorem ropeHeadsUpto_holds : Rows.RopeHeadsUptoCardSaid := ropeHeadsUpto.proved
end Go.Proofs.YtengkjkmdodifaaDoor
