-- Printed by mkrow.py (wip): the row over the laid variable, and the tied card. Lean checks it.
import Derived.Test.YtengkjkmdodifaaDoorRows
import Derived.Test.YtengkjkmdodifaaDoorPx16
import Derived.Test.YtengkjkmdodifaaDoorPureRopeRows
import Derived.Test.YtengkjkmdodifaaDoorOpen
import Derived.WalkKit
import Derived.ProofKit
import Derived.OpenShut
import Derived.ShutString
import Derived.ChangeOld
import Derived.Below
import Derived.SizedLaws
import Derived.Lib.SmallJoins
import Derived.Test.YtengkjkmdodifaaDoorLaid
import Derived.Test.YtengkjkmdodifaaDoorTie
import Derived.Test.YtengkjkmdodifaaDoorCards
import Derived.SevenTiedAt
import Derived.JoinedOf
namespace Go.Proofs.YtengkjkmdodifaaDoor.ropeRows
open Go.ChangeShapes Go.WideShapes Go.ChangeAt Go.RowKit Go.Joins
open Go.ChangeMaps (open_string shut_string)
set_option linter.unusedVariables false
theorem own : ownKnob Tryd.prog.godebug = none := by kernel_rfl
theorem laidOut : laidOutB Tryd.prog = true := by kernel_rfl
set_option maxRecDepth 100000 in
theorem lifted (os : Os) (started : os.Started) (H : Type) (enc : TypeId × Value → H) :
    ReturnsInHanded {} Tryd.checked os 8 .any (fun w args => (Rows.ropeRowsSpec.pre enc Tryd.prog Tryd.f8 [] false w args ∧ laidMetH Tryd.prog Rows.ropeRowsRow.laid w) ∧ sizedMet enc Tryd.prog Tryd.f8 (OpenSpec.ofChange Rows.ropeRowsSpec) false w args) (Rows.ropeRowsSpec.post enc Tryd.prog Tryd.f8 false true false false) := by
  refine returnsInHanded_of_change_and (C := Tryd.checked) (X := fun w _ => laidMetH Tryd.prog Rows.ropeRowsRow.laid w) (fun _ _ _ hh h => h.of_heap hh) own started (by kernel_rfl) Tryd.func8
    (ChangeSpec.witness_at (enc := enc) (C := Tryd.checked) (os := os) (X := fun w _ => laidMetH Tryd.prog Rows.ropeRowsRow.laid w) false (P.laidWorld os) #[.slice none 0 0, .agg #[.slice none 0 0, .slice none 0 0], .agg #[.int .i64 0, .int .i64 0, .int .i64 0, .int .i64 0]] 8 rfl (by kernel_rfl) (by kernel_rfl) (by kernel_rfl) (by kernel_rfl) (by kernel_rfl) (P.laidWorld_met os _)) ?_
  intro W base args ds gs before hval0 hW hcnd hsz0 hL _
  have hsz : (DataW.weightsEach Tryd.prog (Tryd.f8.params.toList ++ Rows.ropeRowsSpec.plain.varTypes Tryd.prog) (ds ++ gs)).all (· ≤ reachBytes) = true := hsz0
  have hval : ∀ (j : Nat) t v, Tryd.f8.params[j]? = some t → args[j]? = some v → Value.okWide Tryd.prog W .any base t v := hval0
  have hW' := hW
  obtain ⟨p, q, hA0, hV, rfl, hfz, hnd⟩ := hW
  have hA : DataW.TrodAll enc Tryd.prog W 0 (fun _ => true) true Tryd.f8.params.toList args.toList ds p := hA0
  rw [Tryd.params8] at hA hval hsz
  obtain ⟨v0, vs0, d0, ds0, p0, q0, hargs, rfl, rfl, h0, r0⟩ := trodAll_cons hA
  obtain ⟨v1, vs1, d1, ds1, p1, q1, rfl, rfl, rfl, h1, r1⟩ := trodAll_cons r0
  obtain ⟨v2, vs2, d2, ds2, p2, q2, rfl, rfl, rfl, h2, r2⟩ := trodAll_cons r1
  obtain ⟨rfl, rfl, rfl⟩ := trodAll_nil r2
  obtain rfl : args = #[v0, v1, v2] := by cases args; simp_all
  obtain ⟨rfl, rfl⟩ := trodVars_none hV
  have k0 := h0
  have lt0 : ∀ x ∈ p0, x.block < W.heap.size := by obtain ⟨m, hm⟩ := k0; exact DataW.trod_lt m _ _ _ hm
  obtain ⟨A0, c0, l0, rfl, hc0, hr0, q0⟩ := O.arg_slice Tryd.underlying41 (O.opens_slice (B := 24) Tryd.underlying41 (by kernel_rfl) (by kernel_rfl) (O.opens_slice (B := 1) Tryd.underlying22 (by kernel_rfl) (by kernel_rfl) (O.opens_int Tryd.underlying33))) (hval 0 41 v0 rfl rfl) h0 (O.arg_weights (j := 0) hsz rfl rfl)
  have k1 := h1
  have lt1 : ∀ x ∈ p1, x.block < W.heap.size := by obtain ⟨m, hm⟩ := k1; exact DataW.trod_lt m _ _ _ hm
  obtain ⟨v1_0, v1_1, y1_0, y1_1, n1, rfl, rfl, rfl, f1_0, f1_1⟩ := open_agg2 Tryd.underlying24 (by kernel_rfl) (by kernel_rfl) (hval 1 24 v1 rfl rfl) h1
  obtain ⟨A1_0, c1_0, l1_0, rfl, hc1_0, hr1_0, q1_0⟩ := O.cell_slice (O.opens_slice (B := 1) Tryd.underlying22 (by kernel_rfl) (by kernel_rfl) (O.opens_int Tryd.underlying33)) f1_0 (O.part_weights (j := 0) Tryd.underlying24 (O.arg_weights (j := 1) hsz rfl rfl) rfl rfl)
  obtain ⟨A1_1, c1_1, l1_1, rfl, hc1_1, hr1_1, q1_1⟩ := O.cell_slice (O.opens_slice (B := 1) Tryd.underlying22 (by kernel_rfl) (by kernel_rfl) (O.opens_int Tryd.underlying33)) f1_1 (O.part_weights (j := 1) Tryd.underlying24 (O.arg_weights (j := 1) hsz rfl rfl) rfl rfl)
  have k2 := h2
  have lt2 : ∀ x ∈ p2, x.block < W.heap.size := by obtain ⟨m, hm⟩ := k2; exact DataW.trod_lt m _ _ _ hm
  obtain ⟨v2_0, v2_1, v2_2, v2_3, y2_0, y2_1, y2_2, y2_3, n2, rfl, rfl, rfl, f2_0, f2_1, f2_2, f2_3⟩ := open_agg4 Tryd.underlying44 (by kernel_rfl) (by kernel_rfl) (hval 2 44 v2 rfl rfl) h2
  obtain ⟨a2_0, rfl, q2_0⟩ := O.cell_int Tryd.underlying3 f2_0
  obtain ⟨a2_1, rfl, q2_1⟩ := O.cell_int Tryd.underlying3 f2_1
  obtain ⟨a2_2, rfl, q2_2⟩ := O.cell_int Tryd.underlying3 f2_2
  obtain ⟨a2_3, rfl, q2_3⟩ := O.cell_int Tryd.underlying3 f2_3
  clear hA0 hval0 hsz0 hsz
  obtain ⟨k, hk⟩ := Pure.RopeRows l0 l1_0 l1_1 a2_0 a2_1 a2_2 a2_3 q0 q1_0 q1_1 q2_0 q2_1 q2_2 q2_3
  refine (P.heraldlaw10_RopeRows.calls k A0 c0 l0 A1_0 c1_0 l1_0 A1_1 c1_1 l1_1 a2_0 a2_1 a2_2 a2_3 true W hr0 hc0 hr1_0 hc1_0 hr1_1 hc1_1 hk (P.tab_of_laid hL)).mono fun e W' ⟨he, bel⟩ => ?_
  subst he
  exact ⟨_, rfl, _, _, _, [], _, [], hW', trodAll_mk1 (shut_bool Tryd.underlying4 _), (trodAll_cons_mk (Below.trod laidOut (by kernel_rfl) (of_decide_eq_true (by kernel_rfl)) k0 bel lt0) (trodAll_cons_mk (Below.trod laidOut (by kernel_rfl) (of_decide_eq_true (by kernel_rfl)) k1 bel lt1) (trodAll_cons_mk (Below.trod laidOut (by kernel_rfl) (of_decide_eq_true (by kernel_rfl)) k2 bel lt2) trodAll_mk0))), rfl, bel.frame _, fun h => by cases h⟩
theorem over : Rows.ropeRowsRow.holds Tryd.pinned (OpenSpec.ofChange Rows.ropeRowsSpec) :=
  OpenClaim.holds_of_wide 8 Tryd.f8 rfl rfl rfl rfl rfl rfl rfl ⟨rfl, rfl, rfl, rfl, rfl⟩ rfl rfl rfl rfl rfl (by kernel_rfl) Tryd.func8 (by kernel_rfl)
    (of_decide_eq_true (by kernel_rfl)) (by unfold Func.isWrapper; first | (rw [if_pos (by decide +kernel)]; kernel_rfl) | (rw [if_neg (by decide +kernel)]; exact ⟨rfl, rfl⟩))
    (fun os started H enc _ => lifted os started H enc)
theorem proved : Rows.RopeRowsCardSaid :=
  Claim7.holds_tied_plain_at .later [] [.data] true (true, "52f6dd5ed77f93dea84fd52a3d451e6619f49a3039279f5ba6066dabfb31c8b8") false over (fun _ h => by cases h) (by kernel_rfl) (fun _ h => by cases h) ropeRows_row_tie rfl ⟨rfl, rfl⟩ (by kernel_rfl) rfl
    (fun f fn hf hfn => by
      obtain rfl : f = 8 := Option.some.inj ((show Tryd.prog.funcNamed "herald/heraldlaw10.RopeRows" = some 8 by kernel_rfl).symm.trans hf) |>.symm
      obtain rfl : fn = Tryd.f8 := (Option.some.inj (Tryd.func8.symm.trans hfn)).symm
      refine ⟨by kernel_rfl, fun j t ht => ?_⟩
      rw [Tryd.params8] at ht
      have hm : t ∈ [41, 24, 44] := by
        have := List.mem_of_getElem? (l := [41, 24, 44]) (i := j) (by simpa using ht)
        exact this
      simp at hm
      rcases hm with rfl | rfl | rfl
      all_goals first | exact (show Tryd.prog.wantsStandIn 24 = false by kernel_rfl) | exact (show Tryd.prog.wantsStandIn 41 = false by kernel_rfl) | exact (show Tryd.prog.wantsStandIn 44 = false by kernel_rfl))
    (by kernel_rfl)
#print axioms proved
end Go.Proofs.YtengkjkmdodifaaDoor.ropeRows
namespace Go.Proofs.YtengkjkmdodifaaDoor
/-- The card, under a short name, for the claim. -/
theorem ropeRows_holds : Rows.RopeRowsCardSaid := ropeRows.proved
end Go.Proofs.YtengkjkmdodifaaDoor
