-- Printed by xprint.py (wip): functions, contracts, rows. Lean checks it.
import Derived.Test.YtengkjkmdodifaaDoorPx0
import Derived.Test.YtengkjkmdodifaaDoorPx2
import Derived.Test.YtengkjkmdodifaaDoorPx5
namespace Go.Proofs.YtengkjkmdodifaaDoor.P
open Go.RowKit Go.Proofs.YtengkjkmdodifaaDoorW.PrintWords Go.Proofs.YtengkjkmdodifaaDoorW.PrintLast Go.Proofs.YtengkjkmdodifaaDoorW.PrintMore
attribute [local go_sem] max2_int min2_int max_two min_two max_three min_three max_four min_four   -- for this text's walks alone
set_option linter.unusedVariables false
set_option linter.unusedSimpArgs false

/-! ### heraldlaw10_RopeCircle: function 6 -/
mutual
def heraldlaw10_RopeCircle.l0 : Nat → Int → Int → Int → Int → Option (Bool)
  | 0, _, _, _, _ => none
  | k + 1, x0, x1, x2, x22 => if x22 < 256 then ((rope_Sine.f x22).bind fun t362 => ((rope_Sine.f (wrap64 (x22 + 64))).bind fun t363 => (if (wrap64 ((wrap64 ((wrap64 ((wrap64 (t362)) * (wrap64 (t362)))) + (wrap64 ((wrap64 (t363)) * (wrap64 (t363)))))) - 4096)) > 75 then (heraldlaw10_RopeCircle.j1 k x0 x1 x2 x22 x22 true) else (heraldlaw10_RopeCircle.j1 k x0 x1 x2 x22 x22 (decide ((wrap64 ((wrap64 ((wrap64 ((wrap64 (t362)) * (wrap64 (t362)))) + (wrap64 ((wrap64 (t363)) * (wrap64 (t363)))))) - 4096)) < (-75))))))) else ((rope_Table.f k x0 x2).bind fun bt370 => ((heraldref10_Table.f k x0 x2).bind fun bt377 => (if bt370.2.2 = bt377.2.2 then (if bt370.2.2 = 0 then (if (bt370.1.length : Int) = (wrap64 (x0 * x2)) then (heraldlaw10_RopeCircle.j2 k x0 x1 x2 bt370.1 bt370.2.1 ((bt370.2.1.length : Int) != (wrap64 (x0 * x2)))) else (heraldlaw10_RopeCircle.j2 k x0 x1 x2 bt370.1 bt370.2.1 true)) else (if (bt370.1.length : Int) = 0 then (if (bt370.2.1.length : Int) = 0 then (some (bt370.2.2 == 102)) else (some false)) else (some false))) else (some false))))
def heraldlaw10_RopeCircle.j1 : Nat → Int → Int → Int → Int → Int → Bool → Option (Bool)
  | 0, _, _, _, _, _, _ => none
  | k + 1, x0, x1, x2, x7, x22, x45 => if x45 = true then (some false) else ((rope_Sine.f (wrap64 (x7 + 128))).bind fun t364 => ((rope_Sine.f x7).bind fun t365 => (if t364 = (IntKind.i8.wrap (-t365)) then ((rope_Sine.f (wrap64 (x7 - 256))).bind fun t366 => ((rope_Sine.f x7).bind fun t367 => (if t366 = t367 then ((rope_Sine.f (wrap64 (-x7))).bind fun t368 => ((rope_Sine.f x7).bind fun t369 => (if t368 = (IntKind.i8.wrap (-t369)) then (heraldlaw10_RopeCircle.l0 k x0 x1 x2 (wrap64 (x22 + 1))) else (some false)))) else (some false)))) else (some false))))
def heraldlaw10_RopeCircle.j2 : Nat → Int → Int → Int → List Int → List Int → Bool → Option (Bool)
  | 0, _, _, _, _, _, _ => none
  | k + 1, x0, x1, x2, x11, x12, x115 => if x115 = true then (some false) else (heraldlaw10_RopeCircle.l1 k x0 x1 x2 x11 x12 x2 0)
def heraldlaw10_RopeCircle.l1 : Nat → Int → Int → Int → List Int → List Int → Int → Int → Option (Bool)
  | 0, _, _, _, _, _, _, _ => none
  | k + 1, x0, x1, x2, x11, x12, x116, x117 => if x117 < x116 then (if 0 ≤ x117 then (if x117 < (x11.length : Int) then (if (rd x11 x117) = 64 then (if x117 < (x12.length : Int) then (if (rd x12 x117) = 0 then (heraldlaw10_RopeCircle.l1 k x0 x1 x2 x11 x12 x116 (wrap64 (x117 + 1))) else (some false)) else (none)) else (some false)) else (none)) else (none)) else ((rope_Table.f k x1 x2).bind fun bt386 => (if x1 < 1 then (heraldlaw10_RopeCircle.j4 k x1 x2 x11 x12 bt386.2.2 bt386.1 bt386.2.1 true) else (heraldlaw10_RopeCircle.j4 k x1 x2 x11 x12 bt386.2.2 bt386.1 bt386.2.1 (decide (x1 > x0)))))
def heraldlaw10_RopeCircle.j4 : Nat → Int → Int → List Int → List Int → Int → List Int → List Int → Bool → Option (Bool)
  | 0, _, _, _, _, _, _, _, _ => none
  | k + 1, x1, x2, x11, x12, x13, x18, x19, x146 => if x146 = true then (some true) else (if x13 = 0 then (if 0 ≤ (wrap64 (x1 * x2)) then (if (wrap64 (x1 * x2)) ≤ (x11.length : Int) then ((heraldlaw10_same.f k x18 (x11.take ((wrap64 (x1 * x2)) : Int).toNat)).bind fun t397 => (if t397 = true then (if (wrap64 (x1 * x2)) ≤ (x12.length : Int) then ((heraldlaw10_same.f k x19 (x12.take ((wrap64 (x1 * x2)) : Int).toNat)).bind fun t402 => (some t402)) else (none)) else (some false))) else (none)) else (none)) else (some false))
end
def heraldlaw10_RopeCircle.f (k : Nat) (a0 : Int) (a1 : Int) (a2 : Int) : Option (Bool) := (heraldlaw10_awake.f k).bind fun t361 => (if t361 = true then (heraldlaw10_RopeCircle.l0 k a0 a1 a2 0) else (some false))
theorem heraldlaw10_RopeCircle.mono_l : ∀ k, (∀ y0 y1 y2 y3, LeO (heraldlaw10_RopeCircle.l0 k y0 y1 y2 y3) (heraldlaw10_RopeCircle.l0 (k + 1) y0 y1 y2 y3)) ∧ (∀ y0 y1 y2 y3 y4 y5, LeO (heraldlaw10_RopeCircle.j1 k y0 y1 y2 y3 y4 y5) (heraldlaw10_RopeCircle.j1 (k + 1) y0 y1 y2 y3 y4 y5)) ∧ (∀ y0 y1 y2 y3 y4 y5, LeO (heraldlaw10_RopeCircle.j2 k y0 y1 y2 y3 y4 y5) (heraldlaw10_RopeCircle.j2 (k + 1) y0 y1 y2 y3 y4 y5)) ∧ (∀ y0 y1 y2 y3 y4 y5 y6, LeO (heraldlaw10_RopeCircle.l1 k y0 y1 y2 y3 y4 y5 y6) (heraldlaw10_RopeCircle.l1 (k + 1) y0 y1 y2 y3 y4 y5 y6)) ∧ (∀ y0 y1 y2 y3 y4 y5 y6 y7, LeO (heraldlaw10_RopeCircle.j4 k y0 y1 y2 y3 y4 y5 y6 y7) (heraldlaw10_RopeCircle.j4 (k + 1) y0 y1 y2 y3 y4 y5 y6 y7))
  | 0 => ⟨fun _ _ _ _ r h => by simp [heraldlaw10_RopeCircle.l0] at h, fun _ _ _ _ _ _ r h => by simp [heraldlaw10_RopeCircle.j1] at h, fun _ _ _ _ _ _ r h => by simp [heraldlaw10_RopeCircle.j2] at h, fun _ _ _ _ _ _ _ r h => by simp [heraldlaw10_RopeCircle.l1] at h, fun _ _ _ _ _ _ _ _ r h => by simp [heraldlaw10_RopeCircle.j4] at h⟩
  | k + 1 => by
    obtain ⟨ih0, ih1, ih2, ih3, ih4⟩ := heraldlaw10_RopeCircle.mono_l k
    refine ⟨?_, ?_, ?_, ?_, ?_⟩
    · intro y0 y1 y2 y3
      unfold heraldlaw10_RopeCircle.l0
      repeat' first
      | (with_reducible exact ih0 _ _ _ _)
      | (with_reducible exact ih1 _ _ _ _ _ _)
      | (with_reducible exact ih2 _ _ _ _ _ _)
      | (with_reducible exact ih3 _ _ _ _ _ _ _)
      | (with_reducible exact ih4 _ _ _ _ _ _ _ _)
      | (with_reducible exact heraldlaw10_awake.mono _)
      | (with_reducible exact heraldlaw10_same.mono _ _ _)
      | (with_reducible exact heraldref10_Table.mono _ _ _)
      | (with_reducible exact rope_Table.mono _ _ _)
      | (with_reducible exact LeO.refl _)
      | (with_reducible exact LeO.none _)
      | (with_reducible refine LeO.ite ?_ ?_)
      | (with_reducible refine LeO.bind ?_ (fun _ => ?_))
      | exact ih0 _ _ _ _
      | exact ih1 _ _ _ _ _ _
      | exact ih2 _ _ _ _ _ _
      | exact ih3 _ _ _ _ _ _ _
      | exact ih4 _ _ _ _ _ _ _ _
      | exact heraldlaw10_awake.mono _
      | exact heraldlaw10_same.mono _ _ _
      | exact heraldref10_Table.mono _ _ _
      | exact rope_Table.mono _ _ _
      | exact LeO.none _
      | refine LeO.ite ?_ ?_
      | refine LeO.bind ?_ (fun _ => ?_)
    · intro y0 y1 y2 y3 y4 y5
      unfold heraldlaw10_RopeCircle.j1
      repeat' first
      | (with_reducible exact ih0 _ _ _ _)
      | (with_reducible exact ih1 _ _ _ _ _ _)
      | (with_reducible exact ih2 _ _ _ _ _ _)
      | (with_reducible exact ih3 _ _ _ _ _ _ _)
      | (with_reducible exact ih4 _ _ _ _ _ _ _ _)
      | (with_reducible exact heraldlaw10_awake.mono _)
      | (with_reducible exact heraldlaw10_same.mono _ _ _)
      | (with_reducible exact heraldref10_Table.mono _ _ _)
      | (with_reducible exact rope_Table.mono _ _ _)
      | (with_reducible exact LeO.refl _)
      | (with_reducible exact LeO.none _)
      | (with_reducible refine LeO.ite ?_ ?_)
      | (with_reducible refine LeO.bind ?_ (fun _ => ?_))
      | exact ih0 _ _ _ _
      | exact ih1 _ _ _ _ _ _
      | exact ih2 _ _ _ _ _ _
      | exact ih3 _ _ _ _ _ _ _
      | exact ih4 _ _ _ _ _ _ _ _
      | exact heraldlaw10_awake.mono _
      | exact heraldlaw10_same.mono _ _ _
      | exact heraldref10_Table.mono _ _ _
      | exact rope_Table.mono _ _ _
      | exact LeO.none _
      | refine LeO.ite ?_ ?_
      | refine LeO.bind ?_ (fun _ => ?_)
    · intro y0 y1 y2 y3 y4 y5
      unfold heraldlaw10_RopeCircle.j2
      repeat' first
      | (with_reducible exact ih0 _ _ _ _)
      | (with_reducible exact ih1 _ _ _ _ _ _)
      | (with_reducible exact ih2 _ _ _ _ _ _)
      | (with_reducible exact ih3 _ _ _ _ _ _ _)
      | (with_reducible exact ih4 _ _ _ _ _ _ _ _)
      | (with_reducible exact heraldlaw10_awake.mono _)
      | (with_reducible exact heraldlaw10_same.mono _ _ _)
      | (with_reducible exact heraldref10_Table.mono _ _ _)
      | (with_reducible exact rope_Table.mono _ _ _)
      | (with_reducible exact LeO.refl _)
      | (with_reducible exact LeO.none _)
      | (with_reducible refine LeO.ite ?_ ?_)
      | (with_reducible refine LeO.bind ?_ (fun _ => ?_))
      | exact ih0 _ _ _ _
      | exact ih1 _ _ _ _ _ _
      | exact ih2 _ _ _ _ _ _
      | exact ih3 _ _ _ _ _ _ _
      | exact ih4 _ _ _ _ _ _ _ _
      | exact heraldlaw10_awake.mono _
      | exact heraldlaw10_same.mono _ _ _
      | exact heraldref10_Table.mono _ _ _
      | exact rope_Table.mono _ _ _
      | exact LeO.none _
      | refine LeO.ite ?_ ?_
      | refine LeO.bind ?_ (fun _ => ?_)
    · intro y0 y1 y2 y3 y4 y5 y6
      unfold heraldlaw10_RopeCircle.l1
      repeat' first
      | (with_reducible exact ih0 _ _ _ _)
      | (with_reducible exact ih1 _ _ _ _ _ _)
      | (with_reducible exact ih2 _ _ _ _ _ _)
      | (with_reducible exact ih3 _ _ _ _ _ _ _)
      | (with_reducible exact ih4 _ _ _ _ _ _ _ _)
      | (with_reducible exact heraldlaw10_awake.mono _)
      | (with_reducible exact heraldlaw10_same.mono _ _ _)
      | (with_reducible exact heraldref10_Table.mono _ _ _)
      | (with_reducible exact rope_Table.mono _ _ _)
      | (with_reducible exact LeO.refl _)
      | (with_reducible exact LeO.none _)
      | (with_reducible refine LeO.ite ?_ ?_)
      | (with_reducible refine LeO.bind ?_ (fun _ => ?_))
      | exact ih0 _ _ _ _
      | exact ih1 _ _ _ _ _ _
      | exact ih2 _ _ _ _ _ _
      | exact ih3 _ _ _ _ _ _ _
      | exact ih4 _ _ _ _ _ _ _ _
      | exact heraldlaw10_awake.mono _
      | exact heraldlaw10_same.mono _ _ _
      | exact heraldref10_Table.mono _ _ _
      | exact rope_Table.mono _ _ _
      | exact LeO.none _
      | refine LeO.ite ?_ ?_
      | refine LeO.bind ?_ (fun _ => ?_)
    · intro y0 y1 y2 y3 y4 y5 y6 y7
      unfold heraldlaw10_RopeCircle.j4
      repeat' first
      | (with_reducible exact ih0 _ _ _ _)
      | (with_reducible exact ih1 _ _ _ _ _ _)
      | (with_reducible exact ih2 _ _ _ _ _ _)
      | (with_reducible exact ih3 _ _ _ _ _ _ _)
      | (with_reducible exact ih4 _ _ _ _ _ _ _ _)
      | (with_reducible exact heraldlaw10_awake.mono _)
      | (with_reducible exact heraldlaw10_same.mono _ _ _)
      | (with_reducible exact heraldref10_Table.mono _ _ _)
      | (with_reducible exact rope_Table.mono _ _ _)
      | (with_reducible exact LeO.refl _)
      | (with_reducible exact LeO.none _)
      | (with_reducible refine LeO.ite ?_ ?_)
      | (with_reducible refine LeO.bind ?_ (fun _ => ?_))
      | exact ih0 _ _ _ _
      | exact ih1 _ _ _ _ _ _
      | exact ih2 _ _ _ _ _ _
      | exact ih3 _ _ _ _ _ _ _
      | exact ih4 _ _ _ _ _ _ _ _
      | exact heraldlaw10_awake.mono _
      | exact heraldlaw10_same.mono _ _ _
      | exact heraldref10_Table.mono _ _ _
      | exact rope_Table.mono _ _ _
      | exact LeO.none _
      | refine LeO.ite ?_ ?_
      | refine LeO.bind ?_ (fun _ => ?_)
theorem heraldlaw10_RopeCircle.mono : ∀ a0 a1 a2 k, LeO (heraldlaw10_RopeCircle.f k a0 a1 a2) (heraldlaw10_RopeCircle.f (k + 1) a0 a1 a2) := by
  intro a0 a1 a2 k
  obtain ⟨ih0, ih1, ih2, ih3, ih4⟩ := heraldlaw10_RopeCircle.mono_l k
  unfold heraldlaw10_RopeCircle.f
  repeat' first
      | (with_reducible exact ih0 _ _ _ _)
      | (with_reducible exact ih1 _ _ _ _ _ _)
      | (with_reducible exact ih2 _ _ _ _ _ _)
      | (with_reducible exact ih3 _ _ _ _ _ _ _)
      | (with_reducible exact ih4 _ _ _ _ _ _ _ _)
      | (with_reducible exact heraldlaw10_awake.mono _)
      | (with_reducible exact heraldlaw10_same.mono _ _ _)
      | (with_reducible exact heraldref10_Table.mono _ _ _)
      | (with_reducible exact rope_Table.mono _ _ _)
      | (with_reducible exact LeO.refl _)
      | (with_reducible exact LeO.none _)
      | (with_reducible refine LeO.ite ?_ ?_)
      | (with_reducible refine LeO.bind ?_ (fun _ => ?_))
      | exact ih0 _ _ _ _
      | exact ih1 _ _ _ _ _ _
      | exact ih2 _ _ _ _ _ _
      | exact ih3 _ _ _ _ _ _ _
      | exact ih4 _ _ _ _ _ _ _ _
      | exact heraldlaw10_awake.mono _
      | exact heraldlaw10_same.mono _ _ _
      | exact heraldref10_Table.mono _ _ _
      | exact rope_Table.mono _ _ _
      | exact LeO.none _
      | refine LeO.ite ?_ ?_
      | refine LeO.bind ?_ (fun _ => ?_)
set_option maxHeartbeats 8000000 in
set_option maxRecDepth 100000 in
theorem heraldlaw10_RopeCircle.calls (k : Nat) (a0 : Int) (a1 : Int) (a2 : Int) (r : Bool) (w : World) (h : heraldlaw10_RopeCircle.f k a0 a1 a2 = some r) (ht : Tab w) :
    Calls Tryd.prog 6 #[.int .i64 a0, .int .i64 a1, .int .i64 a2] w fun e w' => e = .returned (.bool r) ∧ Below w.heap.size w w' := by
 have HTAB := Aside0.mk ht
 clear ht
 have HB := Aside0.mk (Below.refl w.heap.size w)
 have H : ((heraldlaw10_awake.f k).bind fun t361 => (if t361 = true then (heraldlaw10_RopeCircle.l0 k a0 a1 a2 0) else (some false))) = some r := h
 clear h
 replace H := Option.bind_eq_some_iff.mp H
 obtain ⟨t361, A40, H⟩ := H
 replace H : (if t361 = true then (heraldlaw10_RopeCircle.l0 k a0 a1 a2 0) else (some false)) = some r := H
 have A4 := Aside0.mk A40
 clear A40
 by_cases c5 : t361 = true
 ·
  subst c5
  have H1 : (heraldlaw10_RopeCircle.l0 k a0 a1 a2 0) = some r := by rw [if_pos rfl] at H; exact H
  clear H
  have H := H1
  clear H1
  have H' := Aside0.mk H
  clear H
  go_enter Tryd.func6, Tryd.ntmps6
  go_wp2_with (first | ((with_reducible refine gate_callee (f := 10) rfl ?_); refine goesL_ (some 20) rfl rfl Tryd.func10 (by kernel_rfl) rfl #[] rfl (by (try simp only [List.map_toArray, List.map_cons, List.map_nil]); first | done | rfl | (simp only [List.length_drop, List.length_take]; rfl)) ?_; (with_reducible refine (heraldlaw10_awake.calls k  true _ A4.out (tab_of HTAB.out (by repeat (first | (with_reducible first | exact HB.out | apply below_alloc | apply pw_below_drewN | apply below_drew1) | exact HB.out | exact Below.refl _ _)))).mono ?_); rintro e w6 ⟨rfl, hb⟩; refine ⟨_, rfl, ?_⟩; have n0_ := Aside0.mk (below_step (by repeat (first | (with_reducible first | exact HB.out | apply below_alloc | apply pw_below_drewN | apply below_drew1) | exact HB.out)) hb); clear HB; have HB := n0_; clear n0_; (try clear hb); (try clear hb2); (try clear hk); (try clear hi)))
  go_loopg [22] k (fun kq v22 w' => ∃ (x22_1 : Int), v22 = .int .i64 x22_1 ∧ Aside0 (heraldlaw10_RopeCircle.l0 kq a0 a1 a2 x22_1 = some r) ∧ Aside0 (kq ≤ k) ∧ Aside0 (Below w.heap.size w w'))
  case atStart => exact ⟨(0), (by first | rfl | (simp; done) | (simp [*]; done)), H', ⟨Nat.le_refl _⟩, ⟨by repeat (first | (with_reducible first | exact HB.out | apply below_alloc | apply pw_below_drewN | apply below_drew1) | exact HB.out)⟩⟩
  case round =>
   clear H'
   try clear c1
   try clear p2
   try clear c5
   try clear c6
   obtain ⟨x22_1, rfl, HA, HK1, HB⟩ := hrel
   cases gk with
   | zero => exact absurd HA.out (by simp [heraldlaw10_RopeCircle.l0])
   | succ k1 =>
    have H := HA.out
    clear HA
    simp only [heraldlaw10_RopeCircle.l0] at H
    by_cases c7 : x22_1 < 256
    ·
     rw [if_pos c7] at H
     have c7b0 : decide (x22_1 < 256) = true := decide_eq_true c7
     clear c7
     replace H := Option.bind_eq_some_iff.mp H
     obtain ⟨t362, A80, H⟩ := H
     replace H : ((rope_Sine.f (wrap64 (x22_1 + 64))).bind fun t363 => (if (wrap64 ((wrap64 ((wrap64 ((wrap64 (t362)) * (wrap64 (t362)))) + (wrap64 ((wrap64 (t363)) * (wrap64 (t363)))))) - 4096)) > 75 then (heraldlaw10_RopeCircle.j1 k1 a0 a1 a2 x22_1 x22_1 true) else (heraldlaw10_RopeCircle.j1 k1 a0 a1 a2 x22_1 x22_1 (decide ((wrap64 ((wrap64 ((wrap64 ((wrap64 (t362)) * (wrap64 (t362)))) + (wrap64 ((wrap64 (t363)) * (wrap64 (t363)))))) - 4096)) < (-75)))))) = some r := H
     have A8 := Aside0.mk A80
     clear A80
     replace H := Option.bind_eq_some_iff.mp H
     obtain ⟨t363, A90, H⟩ := H
     replace H : (if (wrap64 ((wrap64 ((wrap64 ((wrap64 (t362)) * (wrap64 (t362)))) + (wrap64 ((wrap64 (t363)) * (wrap64 (t363)))))) - 4096)) > 75 then (heraldlaw10_RopeCircle.j1 k1 a0 a1 a2 x22_1 x22_1 true) else (heraldlaw10_RopeCircle.j1 k1 a0 a1 a2 x22_1 x22_1 (decide ((wrap64 ((wrap64 ((wrap64 ((wrap64 (t362)) * (wrap64 (t362)))) + (wrap64 ((wrap64 (t363)) * (wrap64 (t363)))))) - 4096)) < (-75))))) = some r := H
     have A9 := Aside0.mk A90
     clear A90
     have HC10 := Aside0.mk H
     clear H
     go_upto_region 8 with (first | ((with_reducible refine gate_callee (f := 16) rfl ?_); refine goesL_ (some 26) rfl rfl Tryd.func16 (by kernel_rfl) rfl #[.int .i64 x22_1] rfl (by (try simp only [List.map_toArray, List.map_cons, List.map_nil]); first | done | rfl | (simp only [List.length_drop, List.length_take]; rfl)) ?_; (with_reducible refine (rope_Sine.calls x22_1 t362 _ A8.out (tab_of HTAB.out (by repeat (first | (with_reducible first | exact HB.out | apply below_alloc | apply pw_below_drewN | apply below_drew1) | exact HB.out | exact Below.refl _ _)))).mono ?_); rintro e w' ⟨rfl, ⟨nd, rfl⟩⟩; refine ⟨_, rfl, ?_⟩) | ((with_reducible refine gate_callee (f := 16) rfl ?_); refine goesL_ (some 30) rfl rfl Tryd.func16 (by kernel_rfl) rfl #[.int .i64 (wrap64 (x22_1 + 64))] rfl (by (try simp only [List.map_toArray, List.map_cons, List.map_nil]); first | done | rfl | (simp only [List.length_drop, List.length_take]; rfl)) ?_; (with_reducible refine (rope_Sine.calls (wrap64 (x22_1 + 64)) t363 _ A9.out (tab_of HTAB.out (by repeat (first | (with_reducible first | exact HB.out | apply below_alloc | apply pw_below_drewN | apply below_drew1) | exact HB.out | exact Below.refl _ _)))).mono ?_); rintro e w' ⟨rfl, ⟨nd, rfl⟩⟩; refine ⟨_, rfl, ?_⟩))
     (try simp only [Act.put, List.setIfInBounds_toArray, List.set_cons_zero, List.set_cons_succ])
     go_cut [45] (fun v45 wc => ∃ (kq : Nat) (x45_9 : Bool), v45 = .bool x45_9 ∧ Aside0 (heraldlaw10_RopeCircle.j1 kq a0 a1 a2 x22_1 x22_1 x45_9 = some r) ∧ Aside0 (kq ≤ k1) ∧ Aside0 (Below w.heap.size w wc))
     case first =>
      have H := HC10.out
      clear HC10
      by_cases c11 : (wrap64 ((wrap64 ((wrap64 ((wrap64 (t362)) * (wrap64 (t362)))) + (wrap64 ((wrap64 (t363)) * (wrap64 (t363)))))) - 4096)) > 75
      ·
       rw [if_pos c11] at H
       have c11b0 : decide (75 < (wrap64 ((wrap64 ((wrap64 ((wrap64 (t362)) * (wrap64 (t362)))) + (wrap64 ((wrap64 (t363)) * (wrap64 (t363)))))) - 4096))) = true := decide_eq_true c11
       clear c11
       (first | rw [c11b0] | (simp only [i64_w, i32_w]; rw [c11b0]) | skip)
       have H' := Aside0.mk H
       clear H
       go_wp2
       go_meet
       case rel => exact ⟨_, (true), (by first | rfl | (simp; done) | (simp [*]; done)), H', ⟨by have := HK1.out; first | omega | exact Nat.le_refl _⟩, ⟨by repeat (first | (with_reducible first | exact HB.out | apply below_alloc | apply pw_below_drewN | apply below_drew1) | exact HB.out)⟩⟩
      ·
       rw [if_neg c11] at H
       have c11b0 : decide (75 < (wrap64 ((wrap64 ((wrap64 ((wrap64 (t362)) * (wrap64 (t362)))) + (wrap64 ((wrap64 (t363)) * (wrap64 (t363)))))) - 4096))) = false := decide_eq_false c11
       clear c11
       (first | rw [c11b0] | (simp only [i64_w, i32_w]; rw [c11b0]) | skip)
       have H' := Aside0.mk H
       clear H
       go_wp2
       go_meet
       case rel => exact ⟨_, (decide ((wrap64 ((wrap64 ((wrap64 ((wrap64 (t362)) * (wrap64 (t362)))) + (wrap64 ((wrap64 (t363)) * (wrap64 (t363)))))) - 4096)) < (-75))), (by first | rfl | (simp; done) | (simp [*]; done)), H', ⟨by have := HK1.out; first | omega | exact Nat.le_refl _⟩, ⟨by repeat (first | (with_reducible first | exact HB.out | apply below_alloc | apply pw_below_drewN | apply below_drew1) | exact HB.out)⟩⟩
     case rest =>
      clear HC10
      try clear c1
      try clear p2
      try clear c5
      try clear c6
      try clear p6
      try clear c7
      try clear c7b0
      try clear c10
      try clear c11
      try clear c11b0
      try clear p2
      obtain ⟨kq, x45_9, rfl, HA, HJ9, HB⟩ := hcut
      cases kq with
      | zero => exact absurd HA.out (by simp [heraldlaw10_RopeCircle.j1])
      | succ kj9 =>
       have H := HA.out
       clear HA
       simp only [heraldlaw10_RopeCircle.j1] at H
       by_cases c12 : x45_9 = true
       ·
        subst c12
        have H1 : (some false) = some r := by rw [if_pos rfl] at H; exact H
        clear H
        have H := H1
        clear H1
        obtain rfl := Option.some.inj H
        go_wp2
        go_ret
        exact ⟨by first | rfl | (simp [errW_none, errW_some] <;> rfl) | (simp [*, errW_none, errW_some] <;> rfl), by repeat (first | (with_reducible first | exact HB.out | apply below_alloc | apply pw_below_drewN | apply below_drew1) | exact HB.out)⟩
       ·
        replace c12 := Bool.eq_false_iff.mpr c12
        subst c12
        have H1 : ((rope_Sine.f (wrap64 (x22_1 + 128))).bind fun t364 => ((rope_Sine.f x22_1).bind fun t365 => (if t364 = (IntKind.i8.wrap (-t365)) then ((rope_Sine.f (wrap64 (x22_1 - 256))).bind fun t366 => ((rope_Sine.f x22_1).bind fun t367 => (if t366 = t367 then ((rope_Sine.f (wrap64 (-x22_1))).bind fun t368 => ((rope_Sine.f x22_1).bind fun t369 => (if t368 = (IntKind.i8.wrap (-t369)) then (heraldlaw10_RopeCircle.l0 kj9 a0 a1 a2 (wrap64 (x22_1 + 1))) else (some false)))) else (some false)))) else (some false)))) = some r := by rw [if_neg (show ¬ (false = true) by decide)] at H; exact H
        clear H
        have H := H1
        clear H1
        replace H := Option.bind_eq_some_iff.mp H
        obtain ⟨t364, A130, H⟩ := H
        replace H : ((rope_Sine.f x22_1).bind fun t365 => (if t364 = (IntKind.i8.wrap (-t365)) then ((rope_Sine.f (wrap64 (x22_1 - 256))).bind fun t366 => ((rope_Sine.f x22_1).bind fun t367 => (if t366 = t367 then ((rope_Sine.f (wrap64 (-x22_1))).bind fun t368 => ((rope_Sine.f x22_1).bind fun t369 => (if t368 = (IntKind.i8.wrap (-t369)) then (heraldlaw10_RopeCircle.l0 kj9 a0 a1 a2 (wrap64 (x22_1 + 1))) else (some false)))) else (some false)))) else (some false))) = some r := H
        have A13 := Aside0.mk A130
        clear A130
        replace H := Option.bind_eq_some_iff.mp H
        obtain ⟨t365, A140, H⟩ := H
        replace H : (if t364 = (IntKind.i8.wrap (-t365)) then ((rope_Sine.f (wrap64 (x22_1 - 256))).bind fun t366 => ((rope_Sine.f x22_1).bind fun t367 => (if t366 = t367 then ((rope_Sine.f (wrap64 (-x22_1))).bind fun t368 => ((rope_Sine.f x22_1).bind fun t369 => (if t368 = (IntKind.i8.wrap (-t369)) then (heraldlaw10_RopeCircle.l0 kj9 a0 a1 a2 (wrap64 (x22_1 + 1))) else (some false)))) else (some false)))) else (some false)) = some r := H
        have A14 := Aside0.mk A140
        clear A140
        by_cases c15 : t364 = (IntKind.i8.wrap (-t365))
        ·
         rw [if_pos c15] at H
         have c15b0 : (t364 == (IntKind.i8.wrap (-t365))) = true := beq_iff_eq.mpr c15
         have c15b1 : (t364 != (IntKind.i8.wrap (-t365))) = false := bne_eq_false_iff_eq.mpr c15
         clear c15
         replace H := Option.bind_eq_some_iff.mp H
         obtain ⟨t366, A160, H⟩ := H
         replace H : ((rope_Sine.f x22_1).bind fun t367 => (if t366 = t367 then ((rope_Sine.f (wrap64 (-x22_1))).bind fun t368 => ((rope_Sine.f x22_1).bind fun t369 => (if t368 = (IntKind.i8.wrap (-t369)) then (heraldlaw10_RopeCircle.l0 kj9 a0 a1 a2 (wrap64 (x22_1 + 1))) else (some false)))) else (some false))) = some r := H
         have A16 := Aside0.mk A160
         clear A160
         replace H := Option.bind_eq_some_iff.mp H
         obtain ⟨t367, A170, H⟩ := H
         have e_ : t365 = t367 := Option.some.inj (A14.out.symm.trans A170)
         subst e_
         replace H : (if t366 = t365 then ((rope_Sine.f (wrap64 (-x22_1))).bind fun t368 => ((rope_Sine.f x22_1).bind fun t369 => (if t368 = (IntKind.i8.wrap (-t369)) then (heraldlaw10_RopeCircle.l0 kj9 a0 a1 a2 (wrap64 (x22_1 + 1))) else (some false)))) else (some false)) = some r := H
         have A17 := Aside0.mk A170
         clear A170
         by_cases c18 : t366 = t365
         ·
          rw [if_pos c18] at H
          have c18b0 : (t366 == t365) = true := beq_iff_eq.mpr c18
          have c18b1 : (t366 != t365) = false := bne_eq_false_iff_eq.mpr c18
          clear c18
          replace H := Option.bind_eq_some_iff.mp H
          obtain ⟨t368, A190, H⟩ := H
          replace H : ((rope_Sine.f x22_1).bind fun t369 => (if t368 = (IntKind.i8.wrap (-t369)) then (heraldlaw10_RopeCircle.l0 kj9 a0 a1 a2 (wrap64 (x22_1 + 1))) else (some false))) = some r := H
          have A19 := Aside0.mk A190
          clear A190
          replace H := Option.bind_eq_some_iff.mp H
          obtain ⟨t369, A200, H⟩ := H
          have e_ : t365 = t369 := Option.some.inj (A14.out.symm.trans A200)
          subst e_
          replace H : (if t368 = (IntKind.i8.wrap (-t365)) then (heraldlaw10_RopeCircle.l0 kj9 a0 a1 a2 (wrap64 (x22_1 + 1))) else (some false)) = some r := H
          have A20 := Aside0.mk A200
          clear A200
          by_cases c21 : t368 = (IntKind.i8.wrap (-t365))
          ·
           rw [if_pos c21] at H
           have c21b0 : (t368 == (IntKind.i8.wrap (-t365))) = true := beq_iff_eq.mpr c21
           have c21b1 : (t368 != (IntKind.i8.wrap (-t365))) = false := bne_eq_false_iff_eq.mpr c21
           clear c21
           have H' := Aside0.mk H
           clear H
           go_wp2_with (first | ((with_reducible refine gate_callee (f := 16) rfl ?_); refine goesL_ (some 48) rfl rfl Tryd.func16 (by kernel_rfl) rfl #[.int .i64 (wrap64 (x22_1 + 128))] rfl (by (try simp only [List.map_toArray, List.map_cons, List.map_nil]); first | done | rfl | (simp only [List.length_drop, List.length_take]; rfl)) ?_; (with_reducible refine (rope_Sine.calls (wrap64 (x22_1 + 128)) t364 _ A13.out (tab_of HTAB.out (by repeat (first | (with_reducible first | exact HB.out | apply below_alloc | apply pw_below_drewN | apply below_drew1) | exact HB.out | exact Below.refl _ _)))).mono ?_); rintro e w' ⟨rfl, ⟨nd, rfl⟩⟩; refine ⟨_, rfl, ?_⟩) | ((with_reducible refine gate_callee (f := 16) rfl ?_); refine goesL_ (some 50) rfl rfl Tryd.func16 (by kernel_rfl) rfl #[.int .i64 x22_1] rfl (by (try simp only [List.map_toArray, List.map_cons, List.map_nil]); first | done | rfl | (simp only [List.length_drop, List.length_take]; rfl)) ?_; (with_reducible refine (rope_Sine.calls x22_1 t365 _ A14.out (tab_of HTAB.out (by repeat (first | (with_reducible first | exact HB.out | apply below_alloc | apply pw_below_drewN | apply below_drew1) | exact HB.out | exact Below.refl _ _)))).mono ?_); rintro e w' ⟨rfl, ⟨nd, rfl⟩⟩; refine ⟨_, rfl, ?_⟩) | (go_at_call 16; (with_reducible refine (rope_Sine.calls (wrap64 (x22_1 - 256)) t366 _ A16.out (tab_of HTAB.out (by repeat (first | (with_reducible first | exact HB.out | apply below_alloc | apply pw_below_drewN | apply below_drew1) | exact HB.out | exact Below.refl _ _)))).mono ?_); rintro e w' ⟨rfl, ⟨nd, rfl⟩⟩) | (go_at_call 16; (with_reducible refine (rope_Sine.calls x22_1 t365 _ A17.out (tab_of HTAB.out (by repeat (first | (with_reducible first | exact HB.out | apply below_alloc | apply pw_below_drewN | apply below_drew1) | exact HB.out | exact Below.refl _ _)))).mono ?_); rintro e w' ⟨rfl, ⟨nd, rfl⟩⟩) | (go_at_call 16; (with_reducible refine (rope_Sine.calls (wrap64 (-x22_1)) t368 _ A19.out (tab_of HTAB.out (by repeat (first | (with_reducible first | exact HB.out | apply below_alloc | apply pw_below_drewN | apply below_drew1) | exact HB.out | exact Below.refl _ _)))).mono ?_); rintro e w' ⟨rfl, ⟨nd, rfl⟩⟩) | (go_at_call 16; (with_reducible refine (rope_Sine.calls x22_1 t365 _ A20.out (tab_of HTAB.out (by repeat (first | (with_reducible first | exact HB.out | apply below_alloc | apply pw_below_drewN | apply below_drew1) | exact HB.out | exact Below.refl _ _)))).mono ?_); rintro e w' ⟨rfl, ⟨nd, rfl⟩⟩))
           go_roundg kj9
           case measure => have := HK1.out; have := HJ9.out; omega
           case rel => exact ⟨(wrap64 (x22_1 + 1)), (by first | rfl | (simp; done) | (simp [*]; done)), H', ⟨by have := HK1.out; have := HJ9.out; omega⟩, ⟨by repeat (first | (with_reducible first | exact HB.out | apply below_alloc | apply pw_below_drewN | apply below_drew1) | exact HB.out)⟩⟩
          ·
           rw [if_neg c21] at H
           have c21b0 : (t368 == (IntKind.i8.wrap (-t365))) = false := beq_eq_false_iff_ne.mpr c21
           have c21b1 : (t368 != (IntKind.i8.wrap (-t365))) = true := bne_iff_ne.mpr c21
           obtain rfl := Option.some.inj H
           go_wp2_with (first | ((with_reducible refine gate_callee (f := 16) rfl ?_); refine goesL_ (some 48) rfl rfl Tryd.func16 (by kernel_rfl) rfl #[.int .i64 (wrap64 (x22_1 + 128))] rfl (by (try simp only [List.map_toArray, List.map_cons, List.map_nil]); first | done | rfl | (simp only [List.length_drop, List.length_take]; rfl)) ?_; (with_reducible refine (rope_Sine.calls (wrap64 (x22_1 + 128)) t364 _ A13.out (tab_of HTAB.out (by repeat (first | (with_reducible first | exact HB.out | apply below_alloc | apply pw_below_drewN | apply below_drew1) | exact HB.out | exact Below.refl _ _)))).mono ?_); rintro e w' ⟨rfl, ⟨nd, rfl⟩⟩; refine ⟨_, rfl, ?_⟩) | ((with_reducible refine gate_callee (f := 16) rfl ?_); refine goesL_ (some 50) rfl rfl Tryd.func16 (by kernel_rfl) rfl #[.int .i64 x22_1] rfl (by (try simp only [List.map_toArray, List.map_cons, List.map_nil]); first | done | rfl | (simp only [List.length_drop, List.length_take]; rfl)) ?_; (with_reducible refine (rope_Sine.calls x22_1 t365 _ A14.out (tab_of HTAB.out (by repeat (first | (with_reducible first | exact HB.out | apply below_alloc | apply pw_below_drewN | apply below_drew1) | exact HB.out | exact Below.refl _ _)))).mono ?_); rintro e w' ⟨rfl, ⟨nd, rfl⟩⟩; refine ⟨_, rfl, ?_⟩) | (go_at_call 16; (with_reducible refine (rope_Sine.calls (wrap64 (x22_1 - 256)) t366 _ A16.out (tab_of HTAB.out (by repeat (first | (with_reducible first | exact HB.out | apply below_alloc | apply pw_below_drewN | apply below_drew1) | exact HB.out | exact Below.refl _ _)))).mono ?_); rintro e w' ⟨rfl, ⟨nd, rfl⟩⟩) | (go_at_call 16; (with_reducible refine (rope_Sine.calls x22_1 t365 _ A17.out (tab_of HTAB.out (by repeat (first | (with_reducible first | exact HB.out | apply below_alloc | apply pw_below_drewN | apply below_drew1) | exact HB.out | exact Below.refl _ _)))).mono ?_); rintro e w' ⟨rfl, ⟨nd, rfl⟩⟩) | (go_at_call 16; (with_reducible refine (rope_Sine.calls (wrap64 (-x22_1)) t368 _ A19.out (tab_of HTAB.out (by repeat (first | (with_reducible first | exact HB.out | apply below_alloc | apply pw_below_drewN | apply below_drew1) | exact HB.out | exact Below.refl _ _)))).mono ?_); rintro e w' ⟨rfl, ⟨nd, rfl⟩⟩) | (go_at_call 16; (with_reducible refine (rope_Sine.calls x22_1 t365 _ A20.out (tab_of HTAB.out (by repeat (first | (with_reducible first | exact HB.out | apply below_alloc | apply pw_below_drewN | apply below_drew1) | exact HB.out | exact Below.refl _ _)))).mono ?_); rintro e w' ⟨rfl, ⟨nd, rfl⟩⟩))
           go_ret
           exact ⟨by first | rfl | (simp [errW_none, errW_some] <;> rfl) | (simp [*, errW_none, errW_some] <;> rfl), by repeat (first | (with_reducible first | exact HB.out | apply below_alloc | apply pw_below_drewN | apply below_drew1) | exact HB.out)⟩
         ·
          rw [if_neg c18] at H
          have c18b0 : (t366 == t365) = false := beq_eq_false_iff_ne.mpr c18
          have c18b1 : (t366 != t365) = true := bne_iff_ne.mpr c18
          obtain rfl := Option.some.inj H
          go_wp2_with (first | ((with_reducible refine gate_callee (f := 16) rfl ?_); refine goesL_ (some 48) rfl rfl Tryd.func16 (by kernel_rfl) rfl #[.int .i64 (wrap64 (x22_1 + 128))] rfl (by (try simp only [List.map_toArray, List.map_cons, List.map_nil]); first | done | rfl | (simp only [List.length_drop, List.length_take]; rfl)) ?_; (with_reducible refine (rope_Sine.calls (wrap64 (x22_1 + 128)) t364 _ A13.out (tab_of HTAB.out (by repeat (first | (with_reducible first | exact HB.out | apply below_alloc | apply pw_below_drewN | apply below_drew1) | exact HB.out | exact Below.refl _ _)))).mono ?_); rintro e w' ⟨rfl, ⟨nd, rfl⟩⟩; refine ⟨_, rfl, ?_⟩) | ((with_reducible refine gate_callee (f := 16) rfl ?_); refine goesL_ (some 50) rfl rfl Tryd.func16 (by kernel_rfl) rfl #[.int .i64 x22_1] rfl (by (try simp only [List.map_toArray, List.map_cons, List.map_nil]); first | done | rfl | (simp only [List.length_drop, List.length_take]; rfl)) ?_; (with_reducible refine (rope_Sine.calls x22_1 t365 _ A14.out (tab_of HTAB.out (by repeat (first | (with_reducible first | exact HB.out | apply below_alloc | apply pw_below_drewN | apply below_drew1) | exact HB.out | exact Below.refl _ _)))).mono ?_); rintro e w' ⟨rfl, ⟨nd, rfl⟩⟩; refine ⟨_, rfl, ?_⟩) | (go_at_call 16; (with_reducible refine (rope_Sine.calls (wrap64 (x22_1 - 256)) t366 _ A16.out (tab_of HTAB.out (by repeat (first | (with_reducible first | exact HB.out | apply below_alloc | apply pw_below_drewN | apply below_drew1) | exact HB.out | exact Below.refl _ _)))).mono ?_); rintro e w' ⟨rfl, ⟨nd, rfl⟩⟩) | (go_at_call 16; (with_reducible refine (rope_Sine.calls x22_1 t365 _ A17.out (tab_of HTAB.out (by repeat (first | (with_reducible first | exact HB.out | apply below_alloc | apply pw_below_drewN | apply below_drew1) | exact HB.out | exact Below.refl _ _)))).mono ?_); rintro e w' ⟨rfl, ⟨nd, rfl⟩⟩))
          go_ret
          exact ⟨by first | rfl | (simp [errW_none, errW_some] <;> rfl) | (simp [*, errW_none, errW_some] <;> rfl), by repeat (first | (with_reducible first | exact HB.out | apply below_alloc | apply pw_below_drewN | apply below_drew1) | exact HB.out)⟩
        ·
         rw [if_neg c15] at H
         have c15b0 : (t364 == (IntKind.i8.wrap (-t365))) = false := beq_eq_false_iff_ne.mpr c15
         have c15b1 : (t364 != (IntKind.i8.wrap (-t365))) = true := bne_iff_ne.mpr c15
         obtain rfl := Option.some.inj H
         go_wp2_with (first | ((with_reducible refine gate_callee (f := 16) rfl ?_); refine goesL_ (some 48) rfl rfl Tryd.func16 (by kernel_rfl) rfl #[.int .i64 (wrap64 (x22_1 + 128))] rfl (by (try simp only [List.map_toArray, List.map_cons, List.map_nil]); first | done | rfl | (simp only [List.length_drop, List.length_take]; rfl)) ?_; (with_reducible refine (rope_Sine.calls (wrap64 (x22_1 + 128)) t364 _ A13.out (tab_of HTAB.out (by repeat (first | (with_reducible first | exact HB.out | apply below_alloc | apply pw_below_drewN | apply below_drew1) | exact HB.out | exact Below.refl _ _)))).mono ?_); rintro e w' ⟨rfl, ⟨nd, rfl⟩⟩; refine ⟨_, rfl, ?_⟩) | ((with_reducible refine gate_callee (f := 16) rfl ?_); refine goesL_ (some 50) rfl rfl Tryd.func16 (by kernel_rfl) rfl #[.int .i64 x22_1] rfl (by (try simp only [List.map_toArray, List.map_cons, List.map_nil]); first | done | rfl | (simp only [List.length_drop, List.length_take]; rfl)) ?_; (with_reducible refine (rope_Sine.calls x22_1 t365 _ A14.out (tab_of HTAB.out (by repeat (first | (with_reducible first | exact HB.out | apply below_alloc | apply pw_below_drewN | apply below_drew1) | exact HB.out | exact Below.refl _ _)))).mono ?_); rintro e w' ⟨rfl, ⟨nd, rfl⟩⟩; refine ⟨_, rfl, ?_⟩))
         go_ret
         exact ⟨by first | rfl | (simp [errW_none, errW_some] <;> rfl) | (simp [*, errW_none, errW_some] <;> rfl), by repeat (first | (with_reducible first | exact HB.out | apply below_alloc | apply pw_below_drewN | apply below_drew1) | exact HB.out)⟩
    ·
     rw [if_neg c7] at H
     have c7b0 : decide (x22_1 < 256) = false := decide_eq_false c7
     clear c7
     replace H := Option.bind_eq_some_iff.mp H
     obtain ⟨⟨t370, t371, t372⟩, A220, H⟩ := H
     replace H : ((heraldref10_Table.f k1 a0 a2).bind fun bt377 => (if t372 = bt377.2.2 then (if t372 = 0 then (if (t370.length : Int) = (wrap64 (a0 * a2)) then (heraldlaw10_RopeCircle.j2 k1 a0 a1 a2 t370 t371 ((t371.length : Int) != (wrap64 (a0 * a2)))) else (heraldlaw10_RopeCircle.j2 k1 a0 a1 a2 t370 t371 true)) else (if (t370.length : Int) = 0 then (if (t371.length : Int) = 0 then (some (t372 == 102)) else (some false)) else (some false))) else (some false))) = some r := H
     have A22 := Aside0.mk A220
     clear A220
     replace H := Option.bind_eq_some_iff.mp H
     obtain ⟨⟨t377, t378, t379⟩, A230, H⟩ := H
     replace H : (if t372 = t379 then (if t372 = 0 then (if (t370.length : Int) = (wrap64 (a0 * a2)) then (heraldlaw10_RopeCircle.j2 k1 a0 a1 a2 t370 t371 ((t371.length : Int) != (wrap64 (a0 * a2)))) else (heraldlaw10_RopeCircle.j2 k1 a0 a1 a2 t370 t371 true)) else (if (t370.length : Int) = 0 then (if (t371.length : Int) = 0 then (some (t372 == 102)) else (some false)) else (some false))) else (some false)) = some r := H
     have A23 := Aside0.mk A230
     clear A230
     by_cases c24 : t372 = t379
     ·
      rw [if_pos c24] at H
      have c24b0 : (t372 == t379) = true := beq_iff_eq.mpr c24
      have c24b1 : (t372 != t379) = false := bne_eq_false_iff_eq.mpr c24
      clear c24
      by_cases c25 : t372 = 0
      ·
       rw [if_pos c25] at H
       have c25b0 : (t372 == 0) = true := beq_iff_eq.mpr c25
       have c25b1 : (t372 != 0) = false := bne_eq_false_iff_eq.mpr c25
       clear c25
       have HC26 := Aside0.mk H
       clear H
       go_upto_region 19 with (first | ((with_reducible refine gate_callee (f := 18) rfl ?_); refine goesL_ (some 74) rfl rfl Tryd.func18 (by kernel_rfl) rfl #[.int .i64 a0, .int .i64 a2] rfl (by (try simp only [List.map_toArray, List.map_cons, List.map_nil]); first | done | rfl | (simp only [List.length_drop, List.length_take]; rfl)) ?_; (with_reducible refine (rope_Table.calls k1 a0 a2 t370 t371 t372 _ A22.out (tab_of HTAB.out (by repeat (first | (with_reducible first | exact HB.out | apply below_alloc | apply pw_below_drewN | apply below_drew1) | exact HB.out | exact Below.refl _ _)))).mono ?_); rintro e w27 ⟨v373, v375, rfl, ho0, ho1, hb⟩; refine ⟨_, rfl, ?_⟩; have n0_ := Aside0.mk (Kd.R_lower ho0 (below_size (by repeat (first | (with_reducible first | exact HB.out | apply below_alloc | apply pw_below_drewN | apply below_drew1) | exact HB.out)))); have n1_ := Aside0.mk (Kd.R_lower ho1 (below_size (by repeat (first | (with_reducible first | exact HB.out | apply below_alloc | apply pw_below_drewN | apply below_drew1) | exact HB.out)))); have n2_ := Aside0.mk (below_step (by repeat (first | (with_reducible first | exact HB.out | apply below_alloc | apply pw_below_drewN | apply below_drew1) | exact HB.out)) hb); clear HB; have HO374 := n0_; have HO376 := n1_; have HB := n2_; clear n0_ n1_ n2_; (try clear hb); (try clear hb2); (try clear hk); (try clear hi); (try clear ho0); (try clear ho1)) | ((with_reducible refine gate_callee (f := 19) rfl ?_); refine goesL_ (some 81) rfl rfl Tryd.func19 (by kernel_rfl) rfl #[.int .i64 a0, .int .i64 a2] rfl (by (try simp only [List.map_toArray, List.map_cons, List.map_nil]); first | done | rfl | (simp only [List.length_drop, List.length_take]; rfl)) ?_; (with_reducible refine (heraldref10_Table.calls k1 a0 a2 t377 t378 t379 _ A23.out).mono ?_); rintro e w28 ⟨v380, v382, rfl, ho0, ho1, hb⟩; refine ⟨_, rfl, ?_⟩; have n0_ := Aside0.mk (Kd.R_mono (Kd.R_told (Kd.R_told (Kd.R_old (by (with_reducible repeat (first | apply Kd.R_alloc | apply Kd.R_drewN | apply Kd.R_drew)); exact HO374.out) hb) (Kd.R_base ho0)) (Kd.R_base ho1)) (fun _ h_ => h_.1)); have n1_ := Aside0.mk (Kd.R_mono (Kd.R_told (Kd.R_told (Kd.R_old (by (with_reducible repeat (first | apply Kd.R_alloc | apply Kd.R_drewN | apply Kd.R_drew)); exact HO376.out) hb) (Kd.R_base ho0)) (Kd.R_base ho1)) (fun _ h_ => h_.1)); have n2_ := Aside0.mk (Kd.R_lower (Kd.R_new' (Kd.R_new' ho0 (Kd.R_lt (by (with_reducible repeat (first | apply Kd.R_alloc | apply Kd.R_drewN | apply Kd.R_drew)); exact HO374.out))) (Kd.R_lt (by (with_reducible repeat (first | apply Kd.R_alloc | apply Kd.R_drewN | apply Kd.R_drew)); exact HO376.out))) (below_size (by repeat (first | (with_reducible first | exact HB.out | apply below_alloc | apply pw_below_drewN | apply below_drew1) | exact HB.out)))); have n3_ := Aside0.mk (Kd.R_lower (Kd.R_new' (Kd.R_new' ho1 (Kd.R_lt (by (with_reducible repeat (first | apply Kd.R_alloc | apply Kd.R_drewN | apply Kd.R_drew)); exact HO374.out))) (Kd.R_lt (by (with_reducible repeat (first | apply Kd.R_alloc | apply Kd.R_drewN | apply Kd.R_drew)); exact HO376.out))) (below_size (by repeat (first | (with_reducible first | exact HB.out | apply below_alloc | apply pw_below_drewN | apply below_drew1) | exact HB.out)))); have n4_ := Aside0.mk (below_step (by repeat (first | (with_reducible first | exact HB.out | apply below_alloc | apply pw_below_drewN | apply below_drew1) | exact HB.out)) hb); clear HO374; clear HO376; clear HB; have HO374 := n0_; have HO376 := n1_; have HO381 := n2_; have HO383 := n3_; have HB := n4_; clear n0_ n1_ n2_ n3_ n4_; (try clear hb); (try clear hb2); (try clear hk); (try clear hi); (try clear ho0); (try clear ho1)))
       (try simp only [Act.put, List.setIfInBounds_toArray, List.set_cons_zero, List.set_cons_succ])
       go_cut [115] (fun v115 wc => ∃ (kq : Nat) (x115_25 : Bool), v115 = .bool x115_25 ∧ Aside0 (heraldlaw10_RopeCircle.j2 kq a0 a1 a2 t370 t371 x115_25 = some r) ∧ Aside0 (kq ≤ k1) ∧ Aside0 (Kd.R (Kd.int .i8) 33 wc w.heap.size (fun k_ => some k_ ≠ (v375 : Value).ownBlock) v373 t370) ∧ Aside0 (Kd.R (Kd.int .i8) 33 wc w.heap.size (fun k_ => some k_ ≠ (v373 : Value).ownBlock) v375 t371) ∧ Aside0 (Below w.heap.size w wc))
       case first =>
        have H := HC26.out
        clear HC26
        by_cases c29 : (t370.length : Int) = (wrap64 (a0 * a2))
        ·
         rw [if_pos c29] at H
         have c29b0 : ((t370.length : Int) == (wrap64 (a0 * a2))) = true := beq_iff_eq.mpr c29
         have c29b1 : ((t370.length : Int) != (wrap64 (a0 * a2))) = false := bne_eq_false_iff_eq.mpr c29
         clear c29
         (first | rw [c29b0] | (simp only [i64_w, i32_w]; rw [c29b0]) | skip)
         have H' := Aside0.mk H
         clear H
         obtain ⟨Ao30, co30, eo30⟩ := Kd.R_slice HO374.out
         subst eo30
         obtain ⟨Ao31, co31, eo31⟩ := Kd.R_slice HO376.out
         subst eo31
         go_wp2
         go_meet
         case rel => exact ⟨_, (((t371.length : Int) != (wrap64 (a0 * a2)))), (by first | rfl | (simp; done) | (simp [*]; done)), H', ⟨by have := HK1.out; first | omega | exact Nat.le_refl _⟩, ⟨by (with_reducible repeat (first | apply Kd.R_alloc | apply Kd.R_drewN | apply Kd.R_drew)); exact Kd.R_mono HO374.out (fun _ hk => hk.1.1)⟩, ⟨by (with_reducible repeat (first | apply Kd.R_alloc | apply Kd.R_drewN | apply Kd.R_drew)); exact Kd.R_mono HO376.out (fun _ hk => hk.1.1)⟩, ⟨by repeat (first | (with_reducible first | exact HB.out | apply below_alloc | apply pw_below_drewN | apply below_drew1) | exact HB.out)⟩⟩
        ·
         rw [if_neg c29] at H
         have c29b0 : ((t370.length : Int) == (wrap64 (a0 * a2))) = false := beq_eq_false_iff_ne.mpr c29
         have c29b1 : ((t370.length : Int) != (wrap64 (a0 * a2))) = true := bne_iff_ne.mpr c29
         (first | rw [c29b0] | (simp only [i64_w, i32_w]; rw [c29b0]) | skip)
         have H' := Aside0.mk H
         clear H
         obtain ⟨Ao32, co32, eo32⟩ := Kd.R_slice HO374.out
         subst eo32
         go_wp2
         go_meet
         case rel => exact ⟨_, (true), (by first | rfl | (simp; done) | (simp [*]; done)), H', ⟨by have := HK1.out; first | omega | exact Nat.le_refl _⟩, ⟨by (with_reducible repeat (first | apply Kd.R_alloc | apply Kd.R_drewN | apply Kd.R_drew)); exact Kd.R_mono HO374.out (fun _ hk => hk.1.1)⟩, ⟨by (with_reducible repeat (first | apply Kd.R_alloc | apply Kd.R_drewN | apply Kd.R_drew)); exact Kd.R_mono HO376.out (fun _ hk => hk.1.1)⟩, ⟨by repeat (first | (with_reducible first | exact HB.out | apply below_alloc | apply pw_below_drewN | apply below_drew1) | exact HB.out)⟩⟩
       case rest =>
        clear HC26
        try clear c1
        try clear c2
        try clear p2
        try clear c5
        try clear c6
        try clear p6
        try clear c7
        try clear c7b0
        try clear c10
        try clear c11
        try clear c11b0
        try clear c12
        try clear c15
        try clear c15b0
        try clear c15b1
        try clear c16
        try clear c18
        try clear c18b0
        try clear c18b1
        try clear c19
        try clear c21
        try clear c21b0
        try clear c21b1
        try clear c24
        try clear c24b0
        try clear c24b1
        try clear c25
        try clear c25b0
        try clear c25b1
        try clear c29
        try clear c29b0
        try clear c29b1
        try clear p2
        try clear p6
        obtain ⟨kq, x115_25, rfl, HA, HJ25, HO_11, HO_12, HB⟩ := hcut
        cases kq with
        | zero => exact absurd HA.out (by simp [heraldlaw10_RopeCircle.j2])
        | succ kj25 =>
         have H := HA.out
         clear HA
         simp only [heraldlaw10_RopeCircle.j2] at H
         by_cases c33 : x115_25 = true
         ·
          subst c33
          have H1 : (some false) = some r := by rw [if_pos rfl] at H; exact H
          clear H
          have H := H1
          clear H1
          obtain rfl := Option.some.inj H
          go_wp2
          go_ret
          exact ⟨by first | rfl | (simp [errW_none, errW_some] <;> rfl) | (simp [*, errW_none, errW_some] <;> rfl), by repeat (first | (with_reducible first | exact HB.out | apply below_alloc | apply pw_below_drewN | apply below_drew1) | exact HB.out)⟩
         ·
          replace c33 := Bool.eq_false_iff.mpr c33
          subst c33
          have H1 : (heraldlaw10_RopeCircle.l1 kj25 a0 a1 a2 t370 t371 a2 0) = some r := by rw [if_neg (show ¬ (false = true) by decide)] at H; exact H
          clear H
          have H := H1
          clear H1
          have H' := Aside0.mk H
          clear H
          go_wp2
          go_loopg [117] kj25 (fun kq v117 w' => ∃ (x117_3 : Int), v117 = .int .i64 x117_3 ∧ Aside0 (heraldlaw10_RopeCircle.l1 kq a0 a1 a2 t370 t371 a2 x117_3 = some r) ∧ Aside0 (kq ≤ kj25) ∧ Aside0 (Kd.R (Kd.int .i8) 33 w' w.heap.size (fun k_ => some k_ ≠ (v375 : Value).ownBlock) v373 t370) ∧ Aside0 (Kd.R (Kd.int .i8) 33 w' w.heap.size (fun k_ => some k_ ≠ (v373 : Value).ownBlock) v375 t371) ∧ Aside0 (Below w.heap.size w w'))
          case atStart => exact ⟨(0), (by first | rfl | (simp; done) | (simp [*]; done)), H', ⟨Nat.le_refl _⟩, ⟨by (with_reducible repeat (first | apply Kd.R_alloc | apply Kd.R_drewN | apply Kd.R_drew)); exact HO_11.out⟩, ⟨by (with_reducible repeat (first | apply Kd.R_alloc | apply Kd.R_drewN | apply Kd.R_drew)); exact HO_12.out⟩, ⟨by repeat (first | (with_reducible first | exact HB.out | apply below_alloc | apply pw_below_drewN | apply below_drew1) | exact HB.out)⟩⟩
          case round =>
           clear H'
           try clear c1
           try clear c2
           try clear p2
           try clear c3
           try clear c5
           try clear c6
           try clear p6
           try clear c7
           try clear c7b0
           try clear c10
           try clear c11
           try clear c11b0
           try clear c12
           try clear c15
           try clear c15b0
           try clear c15b1
           try clear c16
           try clear c18
           try clear c18b0
           try clear c18b1
           try clear c19
           try clear c21
           try clear c21b0
           try clear c21b1
           try clear c24
           try clear c24b0
           try clear c24b1
           try clear c25
           try clear c25b0
           try clear c25b1
           try clear c29
           try clear c29b0
           try clear c29b1
           try clear c33
           try clear p2
           try clear p6
           obtain ⟨x117_3, rfl, HA, HK3, HO_11, HO_12, HB⟩ := hrel
           cases gk with
           | zero => exact absurd HA.out (by simp [heraldlaw10_RopeCircle.l1])
           | succ k3 =>
            have H := HA.out
            clear HA
            simp only [heraldlaw10_RopeCircle.l1] at H
            by_cases c34 : x117_3 < a2
            ·
             rw [if_pos c34] at H
             have c34b0 : decide (x117_3 < a2) = true := decide_eq_true c34
             clear c34
             by_cases c35 : 0 ≤ x117_3
             ·
              rw [if_pos c35] at H
              have c35b0 : decide (0 ≤ x117_3) = true := decide_eq_true c35
              clear c35
              by_cases c36 : x117_3 < (t370.length : Int)
              ·
               rw [if_pos c36] at H
               have c36b0 : decide (x117_3 < (t370.length : Int)) = true := decide_eq_true c36
               clear c36
               by_cases c37 : (rd t370 x117_3) = 64
               ·
                rw [if_pos c37] at H
                have c37b0 : ((rd t370 x117_3) == 64) = true := beq_iff_eq.mpr c37
                have c37b1 : ((rd t370 x117_3) != 64) = false := bne_eq_false_iff_eq.mpr c37
                clear c37
                by_cases c38 : x117_3 < (t371.length : Int)
                ·
                 rw [if_pos c38] at H
                 have c38b0 : decide (x117_3 < (t371.length : Int)) = true := decide_eq_true c38
                 clear c38
                 by_cases c39 : (rd t371 x117_3) = 0
                 ·
                  rw [if_pos c39] at H
                  have c39b0 : ((rd t371 x117_3) == 0) = true := beq_iff_eq.mpr c39
                  have c39b1 : ((rd t371 x117_3) != 0) = false := bne_eq_false_iff_eq.mpr c39
                  clear c39
                  have H' := Aside0.mk H
                  clear H
                  obtain ⟨Ao40, co40, eo40⟩ := Kd.R_slice HO_11.out
                  subst eo40
                  have p384 : 0 ≤ (x117_3 : Int) := of_decide_eq_true (by first | (with_reducible assumption) | assumption)
                  have q384 : x117_3 < (t370.length : Int) := of_decide_eq_true (by first | (with_reducible assumption) | assumption)
                  obtain ⟨ad384, e384, hx384_0⟩ := Kd.at_int (Kd.R_reads' HO_11.out).2.2 x117_3 p384 q384
                  cases e384
                  replace p384 := eq_true p384
                  replace q384 := eq_true q384
                  obtain ⟨Ao41, co41, eo41⟩ := Kd.R_slice HO_12.out
                  subst eo41
                  have p385 : 0 ≤ (x117_3 : Int) := of_decide_eq_true (by first | (with_reducible assumption) | assumption)
                  have q385 : x117_3 < (t371.length : Int) := of_decide_eq_true (by first | (with_reducible assumption) | assumption)
                  obtain ⟨ad385, e385, hx385_0⟩ := Kd.at_int (Kd.R_reads' HO_12.out).2.2 x117_3 p385 q385
                  cases e385
                  replace p385 := eq_true p385
                  replace q385 := eq_true q385
                  go_wp2
                  go_roundg k3
                  case measure => have := HK1.out; have := HJ25.out; have := HK3.out; omega
                  case rel => exact ⟨(wrap64 (x117_3 + 1)), (by first | rfl | (simp; done) | (simp [*]; done)), H', ⟨by have := HK1.out; have := HJ25.out; have := HK3.out; omega⟩, ⟨by (with_reducible repeat (first | apply Kd.R_alloc | apply Kd.R_drewN | apply Kd.R_drew)); exact HO_11.out⟩, ⟨by (with_reducible repeat (first | apply Kd.R_alloc | apply Kd.R_drewN | apply Kd.R_drew)); exact HO_12.out⟩, ⟨by repeat (first | (with_reducible first | exact HB.out | apply below_alloc | apply pw_below_drewN | apply below_drew1) | exact HB.out)⟩⟩
                 ·
                  rw [if_neg c39] at H
                  have c39b0 : ((rd t371 x117_3) == 0) = false := beq_eq_false_iff_ne.mpr c39
                  have c39b1 : ((rd t371 x117_3) != 0) = true := bne_iff_ne.mpr c39
                  obtain rfl := Option.some.inj H
                  obtain ⟨Ao42, co42, eo42⟩ := Kd.R_slice HO_11.out
                  subst eo42
                  have p384 : 0 ≤ (x117_3 : Int) := of_decide_eq_true (by first | (with_reducible assumption) | assumption)
                  have q384 : x117_3 < (t370.length : Int) := of_decide_eq_true (by first | (with_reducible assumption) | assumption)
                  obtain ⟨ad384, e384, hx384_0⟩ := Kd.at_int (Kd.R_reads' HO_11.out).2.2 x117_3 p384 q384
                  cases e384
                  replace p384 := eq_true p384
                  replace q384 := eq_true q384
                  obtain ⟨Ao43, co43, eo43⟩ := Kd.R_slice HO_12.out
                  subst eo43
                  have p385 : 0 ≤ (x117_3 : Int) := of_decide_eq_true (by first | (with_reducible assumption) | assumption)
                  have q385 : x117_3 < (t371.length : Int) := of_decide_eq_true (by first | (with_reducible assumption) | assumption)
                  obtain ⟨ad385, e385, hx385_0⟩ := Kd.at_int (Kd.R_reads' HO_12.out).2.2 x117_3 p385 q385
                  cases e385
                  replace p385 := eq_true p385
                  replace q385 := eq_true q385
                  go_wp2
                  go_ret
                  exact ⟨by first | rfl | (simp [errW_none, errW_some] <;> rfl) | (simp [*, errW_none, errW_some] <;> rfl), by repeat (first | (with_reducible first | exact HB.out | apply below_alloc | apply pw_below_drewN | apply below_drew1) | exact HB.out)⟩
                ·
                 rw [if_neg c38] at H
                 exact absurd H (by simp)
               ·
                rw [if_neg c37] at H
                have c37b0 : ((rd t370 x117_3) == 64) = false := beq_eq_false_iff_ne.mpr c37
                have c37b1 : ((rd t370 x117_3) != 64) = true := bne_iff_ne.mpr c37
                obtain rfl := Option.some.inj H
                obtain ⟨Ao44, co44, eo44⟩ := Kd.R_slice HO_11.out
                subst eo44
                have p384 : 0 ≤ (x117_3 : Int) := of_decide_eq_true (by first | (with_reducible assumption) | assumption)
                have q384 : x117_3 < (t370.length : Int) := of_decide_eq_true (by first | (with_reducible assumption) | assumption)
                obtain ⟨ad384, e384, hx384_0⟩ := Kd.at_int (Kd.R_reads' HO_11.out).2.2 x117_3 p384 q384
                cases e384
                replace p384 := eq_true p384
                replace q384 := eq_true q384
                go_wp2
                go_ret
                exact ⟨by first | rfl | (simp [errW_none, errW_some] <;> rfl) | (simp [*, errW_none, errW_some] <;> rfl), by repeat (first | (with_reducible first | exact HB.out | apply below_alloc | apply pw_below_drewN | apply below_drew1) | exact HB.out)⟩
              ·
               rw [if_neg c36] at H
               exact absurd H (by simp)
             ·
              rw [if_neg c35] at H
              exact absurd H (by simp)
            ·
             rw [if_neg c34] at H
             have c34b0 : decide (x117_3 < a2) = false := decide_eq_false c34
             clear c34
             replace H := Option.bind_eq_some_iff.mp H
             obtain ⟨⟨t386, t387, t388⟩, A450, H⟩ := H
             replace H : (if a1 < 1 then (heraldlaw10_RopeCircle.j4 k3 a1 a2 t370 t371 t388 t386 t387 true) else (heraldlaw10_RopeCircle.j4 k3 a1 a2 t370 t371 t388 t386 t387 (decide (a1 > a0)))) = some r := H
             have A45 := Aside0.mk A450
             clear A450
             have HC46 := Aside0.mk H
             clear H
             go_upto_region 28 with (first | ((with_reducible refine gate_callee (f := 18) rfl ?_); refine goesL_ (some 136) rfl rfl Tryd.func18 (by kernel_rfl) rfl #[.int .i64 a1, .int .i64 a2] rfl (by (try simp only [List.map_toArray, List.map_cons, List.map_nil]); first | done | rfl | (simp only [List.length_drop, List.length_take]; rfl)) ?_; (with_reducible refine (rope_Table.calls k3 a1 a2 t386 t387 t388 _ A45.out (tab_of HTAB.out (by repeat (first | (with_reducible first | exact HB.out | apply below_alloc | apply pw_below_drewN | apply below_drew1) | exact HB.out | exact Below.refl _ _)))).mono ?_); rintro e w47 ⟨v389, v391, rfl, ho0, ho1, hb⟩; refine ⟨_, rfl, ?_⟩; have n0_ := Aside0.mk (Kd.R_mono (Kd.R_told (Kd.R_told (Kd.R_old (by (with_reducible repeat (first | apply Kd.R_alloc | apply Kd.R_drewN | apply Kd.R_drew)); exact HO_11.out) hb) (Kd.R_base ho0)) (Kd.R_base ho1)) (fun _ h_ => h_.1)); have n1_ := Aside0.mk (Kd.R_mono (Kd.R_told (Kd.R_told (Kd.R_old (by (with_reducible repeat (first | apply Kd.R_alloc | apply Kd.R_drewN | apply Kd.R_drew)); exact HO_12.out) hb) (Kd.R_base ho0)) (Kd.R_base ho1)) (fun _ h_ => h_.1)); have n2_ := Aside0.mk (Kd.R_lower (Kd.R_new' (Kd.R_new' ho0 (Kd.R_lt (by (with_reducible repeat (first | apply Kd.R_alloc | apply Kd.R_drewN | apply Kd.R_drew)); exact HO_11.out))) (Kd.R_lt (by (with_reducible repeat (first | apply Kd.R_alloc | apply Kd.R_drewN | apply Kd.R_drew)); exact HO_12.out))) (below_size (by repeat (first | (with_reducible first | exact HB.out | apply below_alloc | apply pw_below_drewN | apply below_drew1) | exact HB.out)))); have n3_ := Aside0.mk (Kd.R_lower (Kd.R_new' (Kd.R_new' ho1 (Kd.R_lt (by (with_reducible repeat (first | apply Kd.R_alloc | apply Kd.R_drewN | apply Kd.R_drew)); exact HO_11.out))) (Kd.R_lt (by (with_reducible repeat (first | apply Kd.R_alloc | apply Kd.R_drewN | apply Kd.R_drew)); exact HO_12.out))) (below_size (by repeat (first | (with_reducible first | exact HB.out | apply below_alloc | apply pw_below_drewN | apply below_drew1) | exact HB.out)))); have n4_ := Aside0.mk (below_step (by repeat (first | (with_reducible first | exact HB.out | apply below_alloc | apply pw_below_drewN | apply below_drew1) | exact HB.out)) hb); clear HO_11; clear HO_12; clear HB; have HO_11 := n0_; have HO_12 := n1_; have HO390 := n2_; have HO392 := n3_; have HB := n4_; clear n0_ n1_ n2_ n3_ n4_; (try clear hb); (try clear hb2); (try clear hk); (try clear hi); (try clear ho0); (try clear ho1)))
             (try simp only [Act.put, List.setIfInBounds_toArray, List.set_cons_zero, List.set_cons_succ])
             go_cut [146] (fun v146 wc => ∃ (kq : Nat) (x146_45 : Bool), v146 = .bool x146_45 ∧ Aside0 (heraldlaw10_RopeCircle.j4 kq a1 a2 t370 t371 t388 t386 t387 x146_45 = some r) ∧ Aside0 (kq ≤ k3) ∧ Aside0 (Kd.R (Kd.int .i8) 33 wc w.heap.size (fun k_ => some k_ ≠ (v375 : Value).ownBlock ∧ some k_ ≠ (v389 : Value).ownBlock ∧ some k_ ≠ (v391 : Value).ownBlock) v373 t370) ∧ Aside0 (Kd.R (Kd.int .i8) 33 wc w.heap.size (fun k_ => some k_ ≠ (v373 : Value).ownBlock ∧ some k_ ≠ (v389 : Value).ownBlock ∧ some k_ ≠ (v391 : Value).ownBlock) v375 t371) ∧ Aside0 (Kd.R (Kd.int .i8) 33 wc w.heap.size (fun k_ => some k_ ≠ (v373 : Value).ownBlock ∧ some k_ ≠ (v375 : Value).ownBlock ∧ some k_ ≠ (v391 : Value).ownBlock) v389 t386) ∧ Aside0 (Kd.R (Kd.int .i8) 33 wc w.heap.size (fun k_ => some k_ ≠ (v373 : Value).ownBlock ∧ some k_ ≠ (v375 : Value).ownBlock ∧ some k_ ≠ (v389 : Value).ownBlock) v391 t387) ∧ Aside0 (Below w.heap.size w wc))
             case first =>
              have H := HC46.out
              clear HC46
              by_cases c48 : a1 < 1
              ·
               rw [if_pos c48] at H
               have c48b0 : decide (a1 < 1) = true := decide_eq_true c48
               clear c48
               (first | rw [c48b0] | (simp only [i64_w, i32_w]; rw [c48b0]) | skip)
               have H' := Aside0.mk H
               clear H
               go_wp2
               go_meet
               case rel => exact ⟨_, (true), (by first | rfl | (simp; done) | (simp [*]; done)), H', ⟨by have := HK1.out; have := HJ25.out; have := HK3.out; first | omega | exact Nat.le_refl _⟩, ⟨by (with_reducible repeat (first | apply Kd.R_alloc | apply Kd.R_drewN | apply Kd.R_drew)); exact Kd.R_mono HO_11.out (fun _ hk => ⟨hk.1.1, ⟨hk.1.2, hk.2⟩⟩)⟩, ⟨by (with_reducible repeat (first | apply Kd.R_alloc | apply Kd.R_drewN | apply Kd.R_drew)); exact Kd.R_mono HO_12.out (fun _ hk => ⟨hk.1.1, ⟨hk.1.2, hk.2⟩⟩)⟩, ⟨by (with_reducible repeat (first | apply Kd.R_alloc | apply Kd.R_drewN | apply Kd.R_drew)); exact Kd.R_mono HO390.out (fun _ hk => ⟨hk.1.2, ⟨hk.2, hk.1.1⟩⟩)⟩, ⟨by (with_reducible repeat (first | apply Kd.R_alloc | apply Kd.R_drewN | apply Kd.R_drew)); exact Kd.R_mono HO392.out (fun _ hk => ⟨hk.1.2, ⟨hk.2, hk.1.1⟩⟩)⟩, ⟨by repeat (first | (with_reducible first | exact HB.out | apply below_alloc | apply pw_below_drewN | apply below_drew1) | exact HB.out)⟩⟩
              ·
               rw [if_neg c48] at H
               have c48b0 : decide (a1 < 1) = false := decide_eq_false c48
               clear c48
               (first | rw [c48b0] | (simp only [i64_w, i32_w]; rw [c48b0]) | skip)
               have H' := Aside0.mk H
               clear H
               go_wp2
               go_meet
               case rel => exact ⟨_, (decide (a1 > a0)), (by first | rfl | (simp; done) | (simp [*]; done)), H', ⟨by have := HK1.out; have := HJ25.out; have := HK3.out; first | omega | exact Nat.le_refl _⟩, ⟨by (with_reducible repeat (first | apply Kd.R_alloc | apply Kd.R_drewN | apply Kd.R_drew)); exact Kd.R_mono HO_11.out (fun _ hk => ⟨hk.1.1, ⟨hk.1.2, hk.2⟩⟩)⟩, ⟨by (with_reducible repeat (first | apply Kd.R_alloc | apply Kd.R_drewN | apply Kd.R_drew)); exact Kd.R_mono HO_12.out (fun _ hk => ⟨hk.1.1, ⟨hk.1.2, hk.2⟩⟩)⟩, ⟨by (with_reducible repeat (first | apply Kd.R_alloc | apply Kd.R_drewN | apply Kd.R_drew)); exact Kd.R_mono HO390.out (fun _ hk => ⟨hk.1.2, ⟨hk.2, hk.1.1⟩⟩)⟩, ⟨by (with_reducible repeat (first | apply Kd.R_alloc | apply Kd.R_drewN | apply Kd.R_drew)); exact Kd.R_mono HO392.out (fun _ hk => ⟨hk.1.2, ⟨hk.2, hk.1.1⟩⟩)⟩, ⟨by repeat (first | (with_reducible first | exact HB.out | apply below_alloc | apply pw_below_drewN | apply below_drew1) | exact HB.out)⟩⟩
             case rest =>
              clear HC46
              try clear c1
              try clear c2
              try clear p2
              try clear c3
              try clear p3
              try clear q3
              try clear hx3
              try clear c4
              try clear c5
              try clear c6
              try clear p6
              try clear c7
              try clear c7b0
              try clear c10
              try clear c11
              try clear c11b0
              try clear c12
              try clear c15
              try clear c15b0
              try clear c15b1
              try clear c16
              try clear c18
              try clear c18b0
              try clear c18b1
              try clear c19
              try clear c21
              try clear c21b0
              try clear c21b1
              try clear c24
              try clear c24b0
              try clear c24b1
              try clear c25
              try clear c25b0
              try clear c25b1
              try clear c29
              try clear c29b0
              try clear c29b1
              try clear c33
              try clear c34
              try clear c34b0
              try clear c35
              try clear c35b0
              try clear c36
              try clear c36b0
              try clear c37
              try clear c37b0
              try clear c37b1
              try clear c38
              try clear c38b0
              try clear p38
              try clear q38
              try clear hx38
              try clear c39
              try clear c39b0
              try clear c39b1
              try clear c48
              try clear c48b0
              try clear hx384_0
              try clear hx385_0
              try clear p2
              try clear p384
              try clear p385
              try clear p6
              try clear q384
              try clear q385
              obtain ⟨kq, x146_45, rfl, HA, HJ45, HO_11, HO_12, HO_18, HO_19, HB⟩ := hcut
              cases kq with
              | zero => exact absurd HA.out (by simp [heraldlaw10_RopeCircle.j4])
              | succ kj45 =>
               have H := HA.out
               clear HA
               simp only [heraldlaw10_RopeCircle.j4] at H
               by_cases c49 : x146_45 = true
               ·
                subst c49
                have H1 : (some true) = some r := by rw [if_pos rfl] at H; exact H
                clear H
                have H := H1
                clear H1
                obtain rfl := Option.some.inj H
                go_wp2
                go_ret
                exact ⟨by first | rfl | (simp [errW_none, errW_some] <;> rfl) | (simp [*, errW_none, errW_some] <;> rfl), by repeat (first | (with_reducible first | exact HB.out | apply below_alloc | apply pw_below_drewN | apply below_drew1) | exact HB.out)⟩
               ·
                replace c49 := Bool.eq_false_iff.mpr c49
                subst c49
                have H1 : (if t388 = 0 then (if 0 ≤ (wrap64 (a1 * a2)) then (if (wrap64 (a1 * a2)) ≤ (t370.length : Int) then ((heraldlaw10_same.f kj45 t386 (t370.take ((wrap64 (a1 * a2)) : Int).toNat)).bind fun t397 => (if t397 = true then (if (wrap64 (a1 * a2)) ≤ (t371.length : Int) then ((heraldlaw10_same.f kj45 t387 (t371.take ((wrap64 (a1 * a2)) : Int).toNat)).bind fun t402 => (some t402)) else (none)) else (some false))) else (none)) else (none)) else (some false)) = some r := by rw [if_neg (show ¬ (false = true) by decide)] at H; exact H
                clear H
                have H := H1
                clear H1
                by_cases c50 : t388 = 0
                ·
                 rw [if_pos c50] at H
                 have c50b0 : (t388 == 0) = true := beq_iff_eq.mpr c50
                 have c50b1 : (t388 != 0) = false := bne_eq_false_iff_eq.mpr c50
                 clear c50
                 obtain ⟨ji51, hji51⟩ : ∃ j_ : Int, (wrap64 (a1 * a2)) = j_ := ⟨_, rfl⟩
                 replace H : (if 0 ≤ (ji51) then (if (ji51) ≤ (t370.length : Int) then ((heraldlaw10_same.f kj45 t386 (t370.take ((ji51) : Int).toNat)).bind fun t397 => (if t397 = true then (if (ji51) ≤ (t371.length : Int) then ((heraldlaw10_same.f kj45 t387 (t371.take ((ji51) : Int).toNat)).bind fun t402 => (some t402)) else (none)) else (some false))) else (none)) else (none)) = some r := by first | (rw [hji51] at H; exact H) | (simp only [hji51] at H ⊢; exact H)
                 have hji51w : (IntKind.i64.wrap (a1 * a2)) = ji51 := (i64_w _).trans hji51
                 by_cases c52 : 0 ≤ (ji51)
                 ·
                  rw [if_pos c52] at H
                  have c52b0 := eq_true c52
                  have c52b1 : decide (0 ≤ (ji51)) = true := decide_eq_true c52
                  clear c52
                  by_cases c53 : (ji51) ≤ (t370.length : Int)
                  ·
                   rw [if_pos c53] at H
                   have c53b0 := eq_true c53
                   have c53b1 : decide ((ji51) ≤ (t370.length : Int)) = true := decide_eq_true c53
                   clear c53
                   obtain ⟨y393, hy393⟩ : ∃ y_ : List Int, y_ = (t370.take ((ji51) : Int).toNat) := ⟨_, rfl⟩
                   replace H : ((heraldlaw10_same.f kj45 t386 y393).bind fun t397 => (if t397 = true then (if (ji51) ≤ (t371.length : Int) then ((heraldlaw10_same.f kj45 t387 (t371.take ((ji51) : Int).toNat)).bind fun t402 => (some t402)) else (none)) else (some false))) = some r := by first | (rw [hy393]; with_reducible exact H) | (have H2_ := (Option.bind_some _ _).symm.trans H; rw [hy393]; with_reducible exact H2_) | (have H2_ := (Option.bind_some _ _).symm.trans H; with_reducible exact H2_) | with_reducible exact H | (rw [hy393]; exact H) | exact H
                   have Ny393 := Aside0.mk hy393
                   clear hy393
                   replace H := Option.bind_eq_some_iff.mp H
                   obtain ⟨t397, A540, H⟩ := H
                   replace H : (if t397 = true then (if (ji51) ≤ (t371.length : Int) then ((heraldlaw10_same.f kj45 t387 (t371.take ((ji51) : Int).toNat)).bind fun t402 => (some t402)) else (none)) else (some false)) = some r := H
                   have A54 := Aside0.mk A540
                   clear A540
                   by_cases c55 : t397 = true
                   ·
                    subst c55
                    have H1 : (if (ji51) ≤ (t371.length : Int) then ((heraldlaw10_same.f kj45 t387 (t371.take ((ji51) : Int).toNat)).bind fun t402 => (some t402)) else (none)) = some r := by rw [if_pos rfl] at H; exact H
                    clear H
                    have H := H1
                    clear H1
                    have c56b0 := eq_true (of_decide_eq_true (by first | (with_reducible assumption) | assumption) : 0 ≤ (ji51))
                    by_cases c57 : (ji51) ≤ (t371.length : Int)
                    ·
                     rw [if_pos c57] at H
                     have c57b0 := eq_true c57
                     have c57b1 : decide ((ji51) ≤ (t371.length : Int)) = true := decide_eq_true c57
                     clear c57
                     obtain ⟨y398, hy398⟩ : ∃ y_ : List Int, y_ = (t371.take ((ji51) : Int).toNat) := ⟨_, rfl⟩
                     replace H : ((heraldlaw10_same.f kj45 t387 y398).bind fun t402 => (some t402)) = some r := by first | (rw [hy398]; with_reducible exact H) | (have H2_ := (Option.bind_some _ _).symm.trans H; rw [hy398]; with_reducible exact H2_) | (have H2_ := (Option.bind_some _ _).symm.trans H; with_reducible exact H2_) | with_reducible exact H | (rw [hy398]; exact H) | exact H
                     have Ny398 := Aside0.mk hy398
                     clear hy398
                     replace H := Option.bind_eq_some_iff.mp H
                     obtain ⟨t402, A580, H⟩ := H
                     replace H : (some t402) = some r := H
                     have A58 := Aside0.mk A580
                     clear A580
                     obtain rfl := Option.some.inj H
                     obtain ⟨Ao60, co60, eo60⟩ := Kd.R_slice HO_11.out
                     subst eo60
                     have q59 : ((ji51) : Int) ≤ ((t370.length : Int) : Int) := of_decide_eq_true (by first | (with_reducible assumption) | assumption)
                     obtain ⟨i059, hi059, _, hsz59, _⟩ := info_parts info33
                     have hroom59 : t370.length ≤ co60 := (Kd.R_reads' HO_11.out).2.1
                     have hC59 : Kd.C (Kd.int .i8) _ Ao60 t370.length t370 := (Kd.R_reads' HO_11.out).2.2
                     have hcut59 := cut_to (P := Tryd.prog) 22 33 .i64 Tryd.underlying22 hi059 Ao60 t370.length co60 (ji51) (of_decide_eq_true (by first | (with_reducible assumption) | assumption)) q59 hroom59
                     have hr59 := Kd.C_take (m := ((ji51) : Int).toNat) hC59 (by omega)
                     have hy59 : y393.length = ((ji51) : Int).toNat := (by rw [Ny393.out, List.length_take]; omega)
                     rw [← Ny393.out] at hr59
                     rw [← hy59] at hcut59
                     have HR396 := Aside0.mk hr59
                     have HC396 := Aside0.mk (show y393.length ≤ co60 from by omega)
                     clear hr59 hC59 hroom59 hi059 hsz59
                     have KY59 := Aside0.mk hy59
                     clear hy59
                     have KL59 := Aside0.mk (show ((ji51) : Int).toNat ≤ t370.length from by omega)
                     replace q59 := eq_true q59
                     obtain ⟨Ao61, co61, eo61⟩ := Kd.R_slice HO_18.out
                     subst eo61
                     go_wp2_with (first | (go_at_call 13; (with_reducible refine (heraldlaw10_same.calls kj45 _ _ t386 _ _ y393 true _ ?side1 ?side2 ?side3 ?side4 A54.out).mono ?_); (case side1 => repeat (first | exact (Kd.R_reads' HO_18.out).2.2 | (with_reducible refine Kd.C_alloc ?_ _) | (with_reducible refine Kd.C_drewN ?_ _) | (with_reducible refine Kd.C_drew ?_))); (case side2 => exact (Kd.R_reads' HO_18.out).2.1); (case side3 => repeat (first | exact (by repeat (first | (with_reducible exact HR396.out) | (with_reducible refine Kd.C_alloc ?_ _) | (with_reducible refine Kd.C_drewN ?_ _) | (with_reducible refine Kd.C_drew ?_) | exact HR396.out)) | (with_reducible refine Kd.C_alloc ?_ _) | (with_reducible refine Kd.C_drewN ?_ _) | (with_reducible refine Kd.C_drew ?_))); (case side4 => exact HC396.out); rintro e w' ⟨rfl, ⟨nd, rfl⟩⟩; obtain ⟨Ao63, co63, eo63⟩ := Kd.R_slice HO_12.out; subst eo63; have q62 : ((ji51) : Int) ≤ ((t371.length : Int) : Int) := of_decide_eq_true (by first | (with_reducible assumption) | assumption); obtain ⟨i062, hi062, _, hsz62, _⟩ := info_parts info33; have hroom62 : t371.length ≤ co63 := (Kd.R_reads' HO_12.out).2.1; have hC62 : Kd.C (Kd.int .i8) _ Ao63 t371.length t371 := (Kd.R_reads' HO_12.out).2.2; have hcut62 := cut_to (P := Tryd.prog) 22 33 .i64 Tryd.underlying22 hi062 Ao63 t371.length co63 (ji51) (of_decide_eq_true (by first | (with_reducible assumption) | assumption)) q62 hroom62; have hr62 := Kd.C_take (m := ((ji51) : Int).toNat) hC62 (by omega); have hy62 : y398.length = ((ji51) : Int).toNat := (by rw [Ny398.out, List.length_take]; omega); rw [← Ny398.out] at hr62; rw [← hy62] at hcut62; have HR401 := Aside0.mk hr62; have HC401 := Aside0.mk (show y398.length ≤ co63 from by omega); clear hr62 hC62 hroom62 hi062 hsz62; have KY62 := Aside0.mk hy62; clear hy62; have KL62 := Aside0.mk (show ((ji51) : Int).toNat ≤ t371.length from by omega); replace q62 := eq_true q62; obtain ⟨Ao64, co64, eo64⟩ := Kd.R_slice HO_19.out; subst eo64) | (go_at_call 13; (with_reducible refine (heraldlaw10_same.calls kj45 _ _ t387 _ _ y398 t402 _ ?side1 ?side2 ?side3 ?side4 A58.out).mono ?_); (case side1 => repeat (first | exact (Kd.R_reads' HO_19.out).2.2 | (with_reducible refine Kd.C_alloc ?_ _) | (with_reducible refine Kd.C_drewN ?_ _) | (with_reducible refine Kd.C_drew ?_))); (case side2 => exact (Kd.R_reads' HO_19.out).2.1); (case side3 => repeat (first | exact (by repeat (first | (with_reducible exact HR401.out) | (with_reducible refine Kd.C_alloc ?_ _) | (with_reducible refine Kd.C_drewN ?_ _) | (with_reducible refine Kd.C_drew ?_) | exact HR401.out)) | (with_reducible refine Kd.C_alloc ?_ _) | (with_reducible refine Kd.C_drewN ?_ _) | (with_reducible refine Kd.C_drew ?_))); (case side4 => exact HC401.out); rintro e w' ⟨rfl, ⟨nd, rfl⟩⟩))
                     go_ret
                     exact ⟨by first | rfl | (simp [errW_none, errW_some] <;> rfl) | (simp only [← hji51]; first | rfl | (simp [errW_none, errW_some] <;> rfl)) | (simp [*, errW_none, errW_some] <;> rfl), by repeat (first | (with_reducible first | exact HB.out | apply below_alloc | apply pw_below_drewN | apply below_drew1) | exact HB.out)⟩
                    ·
                     rw [if_neg c57] at H
                     exact absurd H (by simp)
                   ·
                    replace c55 := Bool.eq_false_iff.mpr c55
                    subst c55
                    have H1 : (some false) = some r := by rw [if_neg (show ¬ (false = true) by decide)] at H; exact H
                    clear H
                    have H := H1
                    clear H1
                    obtain rfl := Option.some.inj H
                    obtain ⟨Ao66, co66, eo66⟩ := Kd.R_slice HO_11.out
                    subst eo66
                    have q65 : ((ji51) : Int) ≤ ((t370.length : Int) : Int) := of_decide_eq_true (by first | (with_reducible assumption) | assumption)
                    obtain ⟨i065, hi065, _, hsz65, _⟩ := info_parts info33
                    have hroom65 : t370.length ≤ co66 := (Kd.R_reads' HO_11.out).2.1
                    have hC65 : Kd.C (Kd.int .i8) _ Ao66 t370.length t370 := (Kd.R_reads' HO_11.out).2.2
                    have hcut65 := cut_to (P := Tryd.prog) 22 33 .i64 Tryd.underlying22 hi065 Ao66 t370.length co66 (ji51) (of_decide_eq_true (by first | (with_reducible assumption) | assumption)) q65 hroom65
                    have hr65 := Kd.C_take (m := ((ji51) : Int).toNat) hC65 (by omega)
                    have hy65 : y393.length = ((ji51) : Int).toNat := (by rw [Ny393.out, List.length_take]; omega)
                    rw [← Ny393.out] at hr65
                    rw [← hy65] at hcut65
                    have HR396 := Aside0.mk hr65
                    have HC396 := Aside0.mk (show y393.length ≤ co66 from by omega)
                    clear hr65 hC65 hroom65 hi065 hsz65
                    have KY65 := Aside0.mk hy65
                    clear hy65
                    have KL65 := Aside0.mk (show ((ji51) : Int).toNat ≤ t370.length from by omega)
                    replace q65 := eq_true q65
                    obtain ⟨Ao67, co67, eo67⟩ := Kd.R_slice HO_18.out
                    subst eo67
                    go_wp2_with (first | (go_at_call 13; (with_reducible refine (heraldlaw10_same.calls kj45 _ _ t386 _ _ y393 false _ ?side1 ?side2 ?side3 ?side4 A54.out).mono ?_); (case side1 => repeat (first | exact (Kd.R_reads' HO_18.out).2.2 | (with_reducible refine Kd.C_alloc ?_ _) | (with_reducible refine Kd.C_drewN ?_ _) | (with_reducible refine Kd.C_drew ?_))); (case side2 => exact (Kd.R_reads' HO_18.out).2.1); (case side3 => repeat (first | exact (by repeat (first | (with_reducible exact HR396.out) | (with_reducible refine Kd.C_alloc ?_ _) | (with_reducible refine Kd.C_drewN ?_ _) | (with_reducible refine Kd.C_drew ?_) | exact HR396.out)) | (with_reducible refine Kd.C_alloc ?_ _) | (with_reducible refine Kd.C_drewN ?_ _) | (with_reducible refine Kd.C_drew ?_))); (case side4 => exact HC396.out); rintro e w' ⟨rfl, ⟨nd, rfl⟩⟩))
                    go_ret
                    exact ⟨by first | rfl | (simp [errW_none, errW_some] <;> rfl) | (simp only [← hji51]; first | rfl | (simp [errW_none, errW_some] <;> rfl)) | (simp [*, errW_none, errW_some] <;> rfl), by repeat (first | (with_reducible first | exact HB.out | apply below_alloc | apply pw_below_drewN | apply below_drew1) | exact HB.out)⟩
                  ·
                   rw [if_neg c53] at H
                   exact absurd H (by simp)
                 ·
                  rw [if_neg c52] at H
                  exact absurd H (by simp)
                ·
                 rw [if_neg c50] at H
                 have c50b0 : (t388 == 0) = false := beq_eq_false_iff_ne.mpr c50
                 have c50b1 : (t388 != 0) = true := bne_iff_ne.mpr c50
                 obtain rfl := Option.some.inj H
                 go_wp2
                 go_ret
                 exact ⟨by first | rfl | (simp [errW_none, errW_some] <;> rfl) | (simp [*, errW_none, errW_some] <;> rfl), by repeat (first | (with_reducible first | exact HB.out | apply below_alloc | apply pw_below_drewN | apply below_drew1) | exact HB.out)⟩
      ·
       rw [if_neg c25] at H
       have c25b0 : (t372 == 0) = false := beq_eq_false_iff_ne.mpr c25
       have c25b1 : (t372 != 0) = true := bne_iff_ne.mpr c25
       by_cases c68 : (t370.length : Int) = 0
       ·
        rw [if_pos c68] at H
        have c68b0 : ((t370.length : Int) == 0) = true := beq_iff_eq.mpr c68
        have c68b1 : ((t370.length : Int) != 0) = false := bne_eq_false_iff_eq.mpr c68
        clear c68
        by_cases c69 : (t371.length : Int) = 0
        ·
         rw [if_pos c69] at H
         have c69b0 : ((t371.length : Int) == 0) = true := beq_iff_eq.mpr c69
         have c69b1 : ((t371.length : Int) != 0) = false := bne_eq_false_iff_eq.mpr c69
         clear c69
         obtain rfl := Option.some.inj H
         go_wp2_with (first | ((with_reducible refine gate_callee (f := 18) rfl ?_); refine goesL_ (some 74) rfl rfl Tryd.func18 (by kernel_rfl) rfl #[.int .i64 a0, .int .i64 a2] rfl (by (try simp only [List.map_toArray, List.map_cons, List.map_nil]); first | done | rfl | (simp only [List.length_drop, List.length_take]; rfl)) ?_; (with_reducible refine (rope_Table.calls k1 a0 a2 t370 t371 t372 _ A22.out (tab_of HTAB.out (by repeat (first | (with_reducible first | exact HB.out | apply below_alloc | apply pw_below_drewN | apply below_drew1) | exact HB.out | exact Below.refl _ _)))).mono ?_); rintro e w70 ⟨v373, v375, rfl, ho0, ho1, hb⟩; refine ⟨_, rfl, ?_⟩; have n0_ := Aside0.mk (Kd.R_lower ho0 (below_size (by repeat (first | (with_reducible first | exact HB.out | apply below_alloc | apply pw_below_drewN | apply below_drew1) | exact HB.out)))); have n1_ := Aside0.mk (Kd.R_lower ho1 (below_size (by repeat (first | (with_reducible first | exact HB.out | apply below_alloc | apply pw_below_drewN | apply below_drew1) | exact HB.out)))); have n2_ := Aside0.mk (below_step (by repeat (first | (with_reducible first | exact HB.out | apply below_alloc | apply pw_below_drewN | apply below_drew1) | exact HB.out)) hb); clear HB; have HO374 := n0_; have HO376 := n1_; have HB := n2_; clear n0_ n1_ n2_; (try clear hb); (try clear hb2); (try clear hk); (try clear hi); (try clear ho0); (try clear ho1)) | ((with_reducible refine gate_callee (f := 19) rfl ?_); refine goesL_ (some 81) rfl rfl Tryd.func19 (by kernel_rfl) rfl #[.int .i64 a0, .int .i64 a2] rfl (by (try simp only [List.map_toArray, List.map_cons, List.map_nil]); first | done | rfl | (simp only [List.length_drop, List.length_take]; rfl)) ?_; (with_reducible refine (heraldref10_Table.calls k1 a0 a2 t377 t378 t379 _ A23.out).mono ?_); rintro e w71 ⟨v380, v382, rfl, ho0, ho1, hb⟩; refine ⟨_, rfl, ?_⟩; have n0_ := Aside0.mk (Kd.R_mono (Kd.R_told (Kd.R_told (Kd.R_old (by (with_reducible repeat (first | apply Kd.R_alloc | apply Kd.R_drewN | apply Kd.R_drew)); exact HO374.out) hb) (Kd.R_base ho0)) (Kd.R_base ho1)) (fun _ h_ => h_.1)); have n1_ := Aside0.mk (Kd.R_mono (Kd.R_told (Kd.R_told (Kd.R_old (by (with_reducible repeat (first | apply Kd.R_alloc | apply Kd.R_drewN | apply Kd.R_drew)); exact HO376.out) hb) (Kd.R_base ho0)) (Kd.R_base ho1)) (fun _ h_ => h_.1)); have n2_ := Aside0.mk (Kd.R_lower (Kd.R_new' (Kd.R_new' ho0 (Kd.R_lt (by (with_reducible repeat (first | apply Kd.R_alloc | apply Kd.R_drewN | apply Kd.R_drew)); exact HO374.out))) (Kd.R_lt (by (with_reducible repeat (first | apply Kd.R_alloc | apply Kd.R_drewN | apply Kd.R_drew)); exact HO376.out))) (below_size (by repeat (first | (with_reducible first | exact HB.out | apply below_alloc | apply pw_below_drewN | apply below_drew1) | exact HB.out)))); have n3_ := Aside0.mk (Kd.R_lower (Kd.R_new' (Kd.R_new' ho1 (Kd.R_lt (by (with_reducible repeat (first | apply Kd.R_alloc | apply Kd.R_drewN | apply Kd.R_drew)); exact HO374.out))) (Kd.R_lt (by (with_reducible repeat (first | apply Kd.R_alloc | apply Kd.R_drewN | apply Kd.R_drew)); exact HO376.out))) (below_size (by repeat (first | (with_reducible first | exact HB.out | apply below_alloc | apply pw_below_drewN | apply below_drew1) | exact HB.out)))); have n4_ := Aside0.mk (below_step (by repeat (first | (with_reducible first | exact HB.out | apply below_alloc | apply pw_below_drewN | apply below_drew1) | exact HB.out)) hb); clear HO374; clear HO376; clear HB; have HO374 := n0_; have HO376 := n1_; have HO381 := n2_; have HO383 := n3_; have HB := n4_; clear n0_ n1_ n2_ n3_ n4_; (try clear hb); (try clear hb2); (try clear hk); (try clear hi); (try clear ho0); (try clear ho1); obtain ⟨Ao72, co72, eo72⟩ := Kd.R_slice HO374.out; subst eo72; obtain ⟨Ao73, co73, eo73⟩ := Kd.R_slice HO376.out; subst eo73))
         go_ret
         exact ⟨by first | rfl | (simp [errW_none, errW_some] <;> rfl) | (simp [*, errW_none, errW_some] <;> rfl), by repeat (first | (with_reducible first | exact HB.out | apply below_alloc | apply pw_below_drewN | apply below_drew1) | exact HB.out)⟩
        ·
         rw [if_neg c69] at H
         have c69b0 : ((t371.length : Int) == 0) = false := beq_eq_false_iff_ne.mpr c69
         have c69b1 : ((t371.length : Int) != 0) = true := bne_iff_ne.mpr c69
         have c69b2 : ¬ (t371 = []) := fun h_ => c69 (by rw [h_]; rfl)
         obtain rfl := Option.some.inj H
         go_wp2_with (first | ((with_reducible refine gate_callee (f := 18) rfl ?_); refine goesL_ (some 74) rfl rfl Tryd.func18 (by kernel_rfl) rfl #[.int .i64 a0, .int .i64 a2] rfl (by (try simp only [List.map_toArray, List.map_cons, List.map_nil]); first | done | rfl | (simp only [List.length_drop, List.length_take]; rfl)) ?_; (with_reducible refine (rope_Table.calls k1 a0 a2 t370 t371 t372 _ A22.out (tab_of HTAB.out (by repeat (first | (with_reducible first | exact HB.out | apply below_alloc | apply pw_below_drewN | apply below_drew1) | exact HB.out | exact Below.refl _ _)))).mono ?_); rintro e w74 ⟨v373, v375, rfl, ho0, ho1, hb⟩; refine ⟨_, rfl, ?_⟩; have n0_ := Aside0.mk (Kd.R_lower ho0 (below_size (by repeat (first | (with_reducible first | exact HB.out | apply below_alloc | apply pw_below_drewN | apply below_drew1) | exact HB.out)))); have n1_ := Aside0.mk (Kd.R_lower ho1 (below_size (by repeat (first | (with_reducible first | exact HB.out | apply below_alloc | apply pw_below_drewN | apply below_drew1) | exact HB.out)))); have n2_ := Aside0.mk (below_step (by repeat (first | (with_reducible first | exact HB.out | apply below_alloc | apply pw_below_drewN | apply below_drew1) | exact HB.out)) hb); clear HB; have HO374 := n0_; have HO376 := n1_; have HB := n2_; clear n0_ n1_ n2_; (try clear hb); (try clear hb2); (try clear hk); (try clear hi); (try clear ho0); (try clear ho1)) | ((with_reducible refine gate_callee (f := 19) rfl ?_); refine goesL_ (some 81) rfl rfl Tryd.func19 (by kernel_rfl) rfl #[.int .i64 a0, .int .i64 a2] rfl (by (try simp only [List.map_toArray, List.map_cons, List.map_nil]); first | done | rfl | (simp only [List.length_drop, List.length_take]; rfl)) ?_; (with_reducible refine (heraldref10_Table.calls k1 a0 a2 t377 t378 t379 _ A23.out).mono ?_); rintro e w75 ⟨v380, v382, rfl, ho0, ho1, hb⟩; refine ⟨_, rfl, ?_⟩; have n0_ := Aside0.mk (Kd.R_mono (Kd.R_told (Kd.R_told (Kd.R_old (by (with_reducible repeat (first | apply Kd.R_alloc | apply Kd.R_drewN | apply Kd.R_drew)); exact HO374.out) hb) (Kd.R_base ho0)) (Kd.R_base ho1)) (fun _ h_ => h_.1)); have n1_ := Aside0.mk (Kd.R_mono (Kd.R_told (Kd.R_told (Kd.R_old (by (with_reducible repeat (first | apply Kd.R_alloc | apply Kd.R_drewN | apply Kd.R_drew)); exact HO376.out) hb) (Kd.R_base ho0)) (Kd.R_base ho1)) (fun _ h_ => h_.1)); have n2_ := Aside0.mk (Kd.R_lower (Kd.R_new' (Kd.R_new' ho0 (Kd.R_lt (by (with_reducible repeat (first | apply Kd.R_alloc | apply Kd.R_drewN | apply Kd.R_drew)); exact HO374.out))) (Kd.R_lt (by (with_reducible repeat (first | apply Kd.R_alloc | apply Kd.R_drewN | apply Kd.R_drew)); exact HO376.out))) (below_size (by repeat (first | (with_reducible first | exact HB.out | apply below_alloc | apply pw_below_drewN | apply below_drew1) | exact HB.out)))); have n3_ := Aside0.mk (Kd.R_lower (Kd.R_new' (Kd.R_new' ho1 (Kd.R_lt (by (with_reducible repeat (first | apply Kd.R_alloc | apply Kd.R_drewN | apply Kd.R_drew)); exact HO374.out))) (Kd.R_lt (by (with_reducible repeat (first | apply Kd.R_alloc | apply Kd.R_drewN | apply Kd.R_drew)); exact HO376.out))) (below_size (by repeat (first | (with_reducible first | exact HB.out | apply below_alloc | apply pw_below_drewN | apply below_drew1) | exact HB.out)))); have n4_ := Aside0.mk (below_step (by repeat (first | (with_reducible first | exact HB.out | apply below_alloc | apply pw_below_drewN | apply below_drew1) | exact HB.out)) hb); clear HO374; clear HO376; clear HB; have HO374 := n0_; have HO376 := n1_; have HO381 := n2_; have HO383 := n3_; have HB := n4_; clear n0_ n1_ n2_ n3_ n4_; (try clear hb); (try clear hb2); (try clear hk); (try clear hi); (try clear ho0); (try clear ho1); obtain ⟨Ao76, co76, eo76⟩ := Kd.R_slice HO374.out; subst eo76; obtain ⟨Ao77, co77, eo77⟩ := Kd.R_slice HO376.out; subst eo77))
         go_ret
         exact ⟨by first | rfl | (simp [errW_none, errW_some] <;> rfl) | (simp [*, errW_none, errW_some] <;> rfl), by repeat (first | (with_reducible first | exact HB.out | apply below_alloc | apply pw_below_drewN | apply below_drew1) | exact HB.out)⟩
       ·
        rw [if_neg c68] at H
        have c68b0 : ((t370.length : Int) == 0) = false := beq_eq_false_iff_ne.mpr c68
        have c68b1 : ((t370.length : Int) != 0) = true := bne_iff_ne.mpr c68
        have c68b2 : ¬ (t370 = []) := fun h_ => c68 (by rw [h_]; rfl)
        obtain rfl := Option.some.inj H
        go_wp2_with (first | ((with_reducible refine gate_callee (f := 18) rfl ?_); refine goesL_ (some 74) rfl rfl Tryd.func18 (by kernel_rfl) rfl #[.int .i64 a0, .int .i64 a2] rfl (by (try simp only [List.map_toArray, List.map_cons, List.map_nil]); first | done | rfl | (simp only [List.length_drop, List.length_take]; rfl)) ?_; (with_reducible refine (rope_Table.calls k1 a0 a2 t370 t371 t372 _ A22.out (tab_of HTAB.out (by repeat (first | (with_reducible first | exact HB.out | apply below_alloc | apply pw_below_drewN | apply below_drew1) | exact HB.out | exact Below.refl _ _)))).mono ?_); rintro e w78 ⟨v373, v375, rfl, ho0, ho1, hb⟩; refine ⟨_, rfl, ?_⟩; have n0_ := Aside0.mk (Kd.R_lower ho0 (below_size (by repeat (first | (with_reducible first | exact HB.out | apply below_alloc | apply pw_below_drewN | apply below_drew1) | exact HB.out)))); have n1_ := Aside0.mk (Kd.R_lower ho1 (below_size (by repeat (first | (with_reducible first | exact HB.out | apply below_alloc | apply pw_below_drewN | apply below_drew1) | exact HB.out)))); have n2_ := Aside0.mk (below_step (by repeat (first | (with_reducible first | exact HB.out | apply below_alloc | apply pw_below_drewN | apply below_drew1) | exact HB.out)) hb); clear HB; have HO374 := n0_; have HO376 := n1_; have HB := n2_; clear n0_ n1_ n2_; (try clear hb); (try clear hb2); (try clear hk); (try clear hi); (try clear ho0); (try clear ho1)) | ((with_reducible refine gate_callee (f := 19) rfl ?_); refine goesL_ (some 81) rfl rfl Tryd.func19 (by kernel_rfl) rfl #[.int .i64 a0, .int .i64 a2] rfl (by (try simp only [List.map_toArray, List.map_cons, List.map_nil]); first | done | rfl | (simp only [List.length_drop, List.length_take]; rfl)) ?_; (with_reducible refine (heraldref10_Table.calls k1 a0 a2 t377 t378 t379 _ A23.out).mono ?_); rintro e w79 ⟨v380, v382, rfl, ho0, ho1, hb⟩; refine ⟨_, rfl, ?_⟩; have n0_ := Aside0.mk (Kd.R_mono (Kd.R_told (Kd.R_told (Kd.R_old (by (with_reducible repeat (first | apply Kd.R_alloc | apply Kd.R_drewN | apply Kd.R_drew)); exact HO374.out) hb) (Kd.R_base ho0)) (Kd.R_base ho1)) (fun _ h_ => h_.1)); have n1_ := Aside0.mk (Kd.R_mono (Kd.R_told (Kd.R_told (Kd.R_old (by (with_reducible repeat (first | apply Kd.R_alloc | apply Kd.R_drewN | apply Kd.R_drew)); exact HO376.out) hb) (Kd.R_base ho0)) (Kd.R_base ho1)) (fun _ h_ => h_.1)); have n2_ := Aside0.mk (Kd.R_lower (Kd.R_new' (Kd.R_new' ho0 (Kd.R_lt (by (with_reducible repeat (first | apply Kd.R_alloc | apply Kd.R_drewN | apply Kd.R_drew)); exact HO374.out))) (Kd.R_lt (by (with_reducible repeat (first | apply Kd.R_alloc | apply Kd.R_drewN | apply Kd.R_drew)); exact HO376.out))) (below_size (by repeat (first | (with_reducible first | exact HB.out | apply below_alloc | apply pw_below_drewN | apply below_drew1) | exact HB.out)))); have n3_ := Aside0.mk (Kd.R_lower (Kd.R_new' (Kd.R_new' ho1 (Kd.R_lt (by (with_reducible repeat (first | apply Kd.R_alloc | apply Kd.R_drewN | apply Kd.R_drew)); exact HO374.out))) (Kd.R_lt (by (with_reducible repeat (first | apply Kd.R_alloc | apply Kd.R_drewN | apply Kd.R_drew)); exact HO376.out))) (below_size (by repeat (first | (with_reducible first | exact HB.out | apply below_alloc | apply pw_below_drewN | apply below_drew1) | exact HB.out)))); have n4_ := Aside0.mk (below_step (by repeat (first | (with_reducible first | exact HB.out | apply below_alloc | apply pw_below_drewN | apply below_drew1) | exact HB.out)) hb); clear HO374; clear HO376; clear HB; have HO374 := n0_; have HO376 := n1_; have HO381 := n2_; have HO383 := n3_; have HB := n4_; clear n0_ n1_ n2_ n3_ n4_; (try clear hb); (try clear hb2); (try clear hk); (try clear hi); (try clear ho0); (try clear ho1); obtain ⟨Ao80, co80, eo80⟩ := Kd.R_slice HO374.out; subst eo80))
        go_ret
        exact ⟨by first | rfl | (simp [errW_none, errW_some] <;> rfl) | (simp [*, errW_none, errW_some] <;> rfl), by repeat (first | (with_reducible first | exact HB.out | apply below_alloc | apply pw_below_drewN | apply below_drew1) | exact HB.out)⟩
     ·
      rw [if_neg c24] at H
      have c24b0 : (t372 == t379) = false := beq_eq_false_iff_ne.mpr c24
      have c24b1 : (t372 != t379) = true := bne_iff_ne.mpr c24
      obtain rfl := Option.some.inj H
      go_wp2_with (first | ((with_reducible refine gate_callee (f := 18) rfl ?_); refine goesL_ (some 74) rfl rfl Tryd.func18 (by kernel_rfl) rfl #[.int .i64 a0, .int .i64 a2] rfl (by (try simp only [List.map_toArray, List.map_cons, List.map_nil]); first | done | rfl | (simp only [List.length_drop, List.length_take]; rfl)) ?_; (with_reducible refine (rope_Table.calls k1 a0 a2 t370 t371 t372 _ A22.out (tab_of HTAB.out (by repeat (first | (with_reducible first | exact HB.out | apply below_alloc | apply pw_below_drewN | apply below_drew1) | exact HB.out | exact Below.refl _ _)))).mono ?_); rintro e w81 ⟨v373, v375, rfl, ho0, ho1, hb⟩; refine ⟨_, rfl, ?_⟩; have n0_ := Aside0.mk (Kd.R_lower ho0 (below_size (by repeat (first | (with_reducible first | exact HB.out | apply below_alloc | apply pw_below_drewN | apply below_drew1) | exact HB.out)))); have n1_ := Aside0.mk (Kd.R_lower ho1 (below_size (by repeat (first | (with_reducible first | exact HB.out | apply below_alloc | apply pw_below_drewN | apply below_drew1) | exact HB.out)))); have n2_ := Aside0.mk (below_step (by repeat (first | (with_reducible first | exact HB.out | apply below_alloc | apply pw_below_drewN | apply below_drew1) | exact HB.out)) hb); clear HB; have HO374 := n0_; have HO376 := n1_; have HB := n2_; clear n0_ n1_ n2_; (try clear hb); (try clear hb2); (try clear hk); (try clear hi); (try clear ho0); (try clear ho1)) | ((with_reducible refine gate_callee (f := 19) rfl ?_); refine goesL_ (some 81) rfl rfl Tryd.func19 (by kernel_rfl) rfl #[.int .i64 a0, .int .i64 a2] rfl (by (try simp only [List.map_toArray, List.map_cons, List.map_nil]); first | done | rfl | (simp only [List.length_drop, List.length_take]; rfl)) ?_; (with_reducible refine (heraldref10_Table.calls k1 a0 a2 t377 t378 t379 _ A23.out).mono ?_); rintro e w82 ⟨v380, v382, rfl, ho0, ho1, hb⟩; refine ⟨_, rfl, ?_⟩; have n0_ := Aside0.mk (Kd.R_mono (Kd.R_told (Kd.R_told (Kd.R_old (by (with_reducible repeat (first | apply Kd.R_alloc | apply Kd.R_drewN | apply Kd.R_drew)); exact HO374.out) hb) (Kd.R_base ho0)) (Kd.R_base ho1)) (fun _ h_ => h_.1)); have n1_ := Aside0.mk (Kd.R_mono (Kd.R_told (Kd.R_told (Kd.R_old (by (with_reducible repeat (first | apply Kd.R_alloc | apply Kd.R_drewN | apply Kd.R_drew)); exact HO376.out) hb) (Kd.R_base ho0)) (Kd.R_base ho1)) (fun _ h_ => h_.1)); have n2_ := Aside0.mk (Kd.R_lower (Kd.R_new' (Kd.R_new' ho0 (Kd.R_lt (by (with_reducible repeat (first | apply Kd.R_alloc | apply Kd.R_drewN | apply Kd.R_drew)); exact HO374.out))) (Kd.R_lt (by (with_reducible repeat (first | apply Kd.R_alloc | apply Kd.R_drewN | apply Kd.R_drew)); exact HO376.out))) (below_size (by repeat (first | (with_reducible first | exact HB.out | apply below_alloc | apply pw_below_drewN | apply below_drew1) | exact HB.out)))); have n3_ := Aside0.mk (Kd.R_lower (Kd.R_new' (Kd.R_new' ho1 (Kd.R_lt (by (with_reducible repeat (first | apply Kd.R_alloc | apply Kd.R_drewN | apply Kd.R_drew)); exact HO374.out))) (Kd.R_lt (by (with_reducible repeat (first | apply Kd.R_alloc | apply Kd.R_drewN | apply Kd.R_drew)); exact HO376.out))) (below_size (by repeat (first | (with_reducible first | exact HB.out | apply below_alloc | apply pw_below_drewN | apply below_drew1) | exact HB.out)))); have n4_ := Aside0.mk (below_step (by repeat (first | (with_reducible first | exact HB.out | apply below_alloc | apply pw_below_drewN | apply below_drew1) | exact HB.out)) hb); clear HO374; clear HO376; clear HB; have HO374 := n0_; have HO376 := n1_; have HO381 := n2_; have HO383 := n3_; have HB := n4_; clear n0_ n1_ n2_ n3_ n4_; (try clear hb); (try clear hb2); (try clear hk); (try clear hi); (try clear ho0); (try clear ho1)))
      go_ret
      exact ⟨by first | rfl | (simp [errW_none, errW_some] <;> rfl) | (simp [*, errW_none, errW_some] <;> rfl), by repeat (first | (with_reducible first | exact HB.out | apply below_alloc | apply pw_below_drewN | apply below_drew1) | exact HB.out)⟩
 ·
  replace c5 := Bool.eq_false_iff.mpr c5
  subst c5
  have H1 : (some false) = some r := by rw [if_neg (show ¬ (false = true) by decide)] at H; exact H
  clear H
  have H := H1
  clear H1
  obtain rfl := Option.some.inj H
  go_enter Tryd.func6, Tryd.ntmps6
  go_wp2_with (first | ((with_reducible refine gate_callee (f := 10) rfl ?_); refine goesL_ (some 20) rfl rfl Tryd.func10 (by kernel_rfl) rfl #[] rfl (by (try simp only [List.map_toArray, List.map_cons, List.map_nil]); first | done | rfl | (simp only [List.length_drop, List.length_take]; rfl)) ?_; (with_reducible refine (heraldlaw10_awake.calls k  false _ A4.out (tab_of HTAB.out (by repeat (first | (with_reducible first | exact HB.out | apply below_alloc | apply pw_below_drewN | apply below_drew1) | exact HB.out | exact Below.refl _ _)))).mono ?_); rintro e w83 ⟨rfl, hb⟩; refine ⟨_, rfl, ?_⟩; have n0_ := Aside0.mk (below_step (by repeat (first | (with_reducible first | exact HB.out | apply below_alloc | apply pw_below_drewN | apply below_drew1) | exact HB.out)) hb); clear HB; have HB := n0_; clear n0_; (try clear hb); (try clear hb2); (try clear hk); (try clear hi)))
  go_ret
  exact ⟨by first | rfl | (simp [errW_none, errW_some] <;> rfl) | (simp [*, errW_none, errW_some] <;> rfl), by repeat (first | (with_reducible first | exact HB.out | apply below_alloc | apply pw_below_drewN | apply below_drew1) | exact HB.out)⟩

/-- THE ONE PURE STATEMENT of heraldlaw10_RopeCircle: yours. -/
def heraldlaw10_RopeCircle.Pure : Prop := ∀ (a0 : Int) (a1 : Int) (a2 : Int), (Lit.int .i64 a0).wf = true → (Lit.int .i64 a1).wf = true → (Lit.int .i64 a2).wf = true → ∃ k, heraldlaw10_RopeCircle.f k a0 a1 a2 = some true
theorem heraldlaw10_RopeCircle.walk (P : heraldlaw10_RopeCircle.Pure) (a0 : Int) (a1 : Int) (a2 : Int) (w : World) (ht : Tab w) (w0 : (Lit.int .i64 a0).wf = true) (w1 : (Lit.int .i64 a1).wf = true) (w2 : (Lit.int .i64 a2).wf = true) :
    Calls Tryd.prog 6 #[.int .i64 a0, .int .i64 a1, .int .i64 a2] w fun e w' => e = .returned (.bool true) ∧ Below w.heap.size w w' := by
 obtain ⟨k, h⟩ := P a0 a1 a2 w0 w1 w2
 refine (heraldlaw10_RopeCircle.calls k a0 a1 a2 true w h ht).mono ?_
 rintro e w' ⟨rfl, hd⟩
 exact ⟨rfl, hd⟩

end Go.Proofs.YtengkjkmdodifaaDoor.P
