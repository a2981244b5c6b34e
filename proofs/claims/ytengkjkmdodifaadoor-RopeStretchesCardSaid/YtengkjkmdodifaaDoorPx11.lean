-- Printed by xprint.py (wip): functions, contracts, rows. Lean checks it.
import Derived.Test.YtengkjkmdodifaaDoorPx0
import Derived.Test.YtengkjkmdodifaaDoorPx2
import Derived.Test.YtengkjkmdodifaaDoorPx5
import Derived.Test.YtengkjkmdodifaaDoorPx6
import Derived.Test.YtengkjkmdodifaaDoorPx7
namespace Go.Proofs.YtengkjkmdodifaaDoor.P
open Go.RowKit Go.Proofs.YtengkjkmdodifaaDoorW.PrintWords Go.Proofs.YtengkjkmdodifaaDoorW.PrintLast Go.Proofs.YtengkjkmdodifaaDoorW.PrintMore
attribute [local go_sem] max2_int min2_int max_two min_two max_three min_three max_four min_four   -- for this text's walks alone
set_option linter.unusedVariables false
set_option linter.unusedSimpArgs false

/-! ### heraldlaw10_RopeStretches: function 9 -/
mutual
def heraldlaw10_RopeStretches.j0 : Nat → Int → Int → Bool → Int → Int → Option (Bool)
  | 0, _, _, _, _, _ => none
  | k + 1, x0, x1, x63, x513000, x513001 => if x63 = true then (some false) else ((rope_Table.f k x0 x1).bind fun bt530 => ((heraldref10_Table.f k x0 x1).bind fun bt537 => (if bt530.2.2 = bt537.2.2 then (if bt530.2.2 = 0 then (if x513000 < 1 then (heraldlaw10_RopeStretches.j1 k x0 x1 bt530.1 bt530.2.1 true x513000 x513001) else (heraldlaw10_RopeStretches.j1 k x0 x1 bt530.1 bt530.2.1 (decide (x513000 > 65536)) x513000 x513001)) else (heraldlaw10_RopeStretches.j1 k x0 x1 bt530.1 bt530.2.1 true x513000 x513001)) else (some false))))
def heraldlaw10_RopeStretches.j1 : Nat → Int → Int → List Int → List Int → Bool → Int → Int → Option (Bool)
  | 0, _, _, _, _, _, _, _ => none
  | k + 1, x0, x1, x13, x14, x92, x513000, x513001 => if x92 = true then (some true) else ((rope_Stretched.f k x0 x1 x513000 x513000).bind fun bt544 => ((rope_Stretched.f k x0 x1 1 2).bind fun bt551 => (if bt544.2.2 = 0 then (if bt551.2.2 = 0 then ((heraldlaw10_same.f k bt544.1 x13).bind fun t558 => (if t558 = true then ((heraldlaw10_same.f k bt544.2.1 x14).bind fun t559 => (if t559 = true then (if (bt551.1.length : Int) = (x13.length : Int) then (heraldlaw10_RopeStretches.j2 k x0 x1 x13 x14 bt551.1 bt551.2.1 ((bt551.2.1.length : Int) != (x14.length : Int))) else (heraldlaw10_RopeStretches.j2 k x0 x1 x13 x14 bt551.1 bt551.2.1 true)) else (heraldlaw10_RopeStretches.j2 k x0 x1 x13 x14 bt551.1 bt551.2.1 true))) else (heraldlaw10_RopeStretches.j2 k x0 x1 x13 x14 bt551.1 bt551.2.1 true))) else (heraldlaw10_RopeStretches.j2 k x0 x1 x13 x14 bt551.1 bt551.2.1 true)) else (heraldlaw10_RopeStretches.j2 k x0 x1 x13 x14 bt551.1 bt551.2.1 true))))
def heraldlaw10_RopeStretches.j2 : Nat → Int → Int → List Int → List Int → List Int → List Int → Bool → Option (Bool)
  | 0, _, _, _, _, _, _, _ => none
  | k + 1, x0, x1, x13, x14, x21, x22, x142 => if x142 = true then (some false) else (heraldlaw10_RopeStretches.l0 k x0 x1 x13 x14 x21 x22 0)
def heraldlaw10_RopeStretches.l0 : Nat → Int → Int → List Int → List Int → List Int → List Int → Int → Option (Bool)
  | 0, _, _, _, _, _, _, _ => none
  | k + 1, x0, x1, x13, x14, x21, x22, x24 => if (wrap64 (2 * x24)) < x0 then (if 0 ≤ (wrap64 ((wrap64 (2 * x24)) * x1)) then (if (wrap64 ((wrap64 (2 * x24)) * x1)) ≤ (wrap64 ((wrap64 ((wrap64 (2 * x24)) * x1)) + x1)) then (if (wrap64 ((wrap64 ((wrap64 (2 * x24)) * x1)) + x1)) ≤ (x21.length : Int) then (if 0 ≤ (wrap64 (x24 * x1)) then (if (wrap64 (x24 * x1)) ≤ (wrap64 ((wrap64 (x24 * x1)) + x1)) then (if (wrap64 ((wrap64 (x24 * x1)) + x1)) ≤ (x13.length : Int) then ((heraldlaw10_same.f k ((x21.take ((wrap64 ((wrap64 ((wrap64 (2 * x24)) * x1)) + x1)) : Int).toNat).drop ((wrap64 ((wrap64 (2 * x24)) * x1)) : Int).toNat) ((x13.take ((wrap64 ((wrap64 (x24 * x1)) + x1)) : Int).toNat).drop ((wrap64 (x24 * x1)) : Int).toNat)).bind fun t568 => (if t568 = true then (if (wrap64 ((wrap64 ((wrap64 (2 * x24)) * x1)) + x1)) ≤ (x22.length : Int) then (if (wrap64 ((wrap64 (x24 * x1)) + x1)) ≤ (x14.length : Int) then ((heraldlaw10_same.f k ((x22.take ((wrap64 ((wrap64 ((wrap64 (2 * x24)) * x1)) + x1)) : Int).toNat).drop ((wrap64 ((wrap64 (2 * x24)) * x1)) : Int).toNat) ((x14.take ((wrap64 ((wrap64 (x24 * x1)) + x1)) : Int).toNat).drop ((wrap64 (x24 * x1)) : Int).toNat)).bind fun t577 => (if t577 = true then (heraldlaw10_RopeStretches.l0 k x0 x1 x13 x14 x21 x22 (wrap64 (x24 + 1))) else (some false))) else (none)) else (none)) else (some false))) else (none)) else (none)) else (none)) else (none)) else (none)) else (none)) else (some true)
end
def heraldlaw10_RopeStretches.f (k : Nat) (a0 : Int) (a1 : Int) (a2_0 : Int) (a2_1 : Int) : Option (Bool) := (heraldlaw10_awake.f k).bind fun t513 => (if t513 = true then ((rope_Stretched.f k a0 a1 a2_0 a2_1).bind fun bt514 => ((heraldref10_Stretched.f k a0 a1 a2_0 a2_1).bind fun bt521 => ((heraldlaw10_same.f k bt514.1 bt521.1).bind fun t528 => (if t528 = true then ((heraldlaw10_same.f k bt514.2.1 bt521.2.1).bind fun t529 => (if t529 = true then (heraldlaw10_RopeStretches.j0 k a0 a1 (bt514.2.2 != bt521.2.2) a2_0 a2_1) else (heraldlaw10_RopeStretches.j0 k a0 a1 true a2_0 a2_1))) else (heraldlaw10_RopeStretches.j0 k a0 a1 true a2_0 a2_1))))) else (some false))
theorem heraldlaw10_RopeStretches.mono_l : ∀ k, (∀ y0 y1 y2 y3 y4, LeO (heraldlaw10_RopeStretches.j0 k y0 y1 y2 y3 y4) (heraldlaw10_RopeStretches.j0 (k + 1) y0 y1 y2 y3 y4)) ∧ (∀ y0 y1 y2 y3 y4 y5 y6, LeO (heraldlaw10_RopeStretches.j1 k y0 y1 y2 y3 y4 y5 y6) (heraldlaw10_RopeStretches.j1 (k + 1) y0 y1 y2 y3 y4 y5 y6)) ∧ (∀ y0 y1 y2 y3 y4 y5 y6, LeO (heraldlaw10_RopeStretches.j2 k y0 y1 y2 y3 y4 y5 y6) (heraldlaw10_RopeStretches.j2 (k + 1) y0 y1 y2 y3 y4 y5 y6)) ∧ (∀ y0 y1 y2 y3 y4 y5 y6, LeO (heraldlaw10_RopeStretches.l0 k y0 y1 y2 y3 y4 y5 y6) (heraldlaw10_RopeStretches.l0 (k + 1) y0 y1 y2 y3 y4 y5 y6))
  | 0 => ⟨fun _ _ _ _ _ r h => by simp [heraldlaw10_RopeStretches.j0] at h, fun _ _ _ _ _ _ _ r h => by simp [heraldlaw10_RopeStretches.j1] at h, fun _ _ _ _ _ _ _ r h => by simp [heraldlaw10_RopeStretches.j2] at h, fun _ _ _ _ _ _ _ r h => by simp [heraldlaw10_RopeStretches.l0] at h⟩
  | k + 1 => by
    obtain ⟨ih0, ih1, ih2, ih3⟩ := heraldlaw10_RopeStretches.mono_l k
    refine ⟨?_, ?_, ?_, ?_⟩
    · intro y0 y1 y2 y3 y4
      unfold heraldlaw10_RopeStretches.j0
      repeat' first
      | (with_reducible exact ih0 _ _ _ _ _)
      | (with_reducible exact ih1 _ _ _ _ _ _ _)
      | (with_reducible exact ih2 _ _ _ _ _ _ _)
      | (with_reducible exact ih3 _ _ _ _ _ _ _)
      | (with_reducible exact heraldlaw10_awake.mono _)
      | (with_reducible exact heraldlaw10_same.mono _ _ _)
      | (with_reducible exact heraldref10_Stretched.mono _ _ _ _ _)
      | (with_reducible exact heraldref10_Table.mono _ _ _)
      | (with_reducible exact rope_Stretched.mono _ _ _ _ _)
      | (with_reducible exact rope_Table.mono _ _ _)
      | (with_reducible exact LeO.refl _)
      | (with_reducible exact LeO.none _)
      | (with_reducible refine LeO.ite ?_ ?_)
      | (with_reducible refine LeO.bind ?_ (fun _ => ?_))
      | exact ih0 _ _ _ _ _
      | exact ih1 _ _ _ _ _ _ _
      | exact ih2 _ _ _ _ _ _ _
      | exact ih3 _ _ _ _ _ _ _
      | exact heraldlaw10_awake.mono _
      | exact heraldlaw10_same.mono _ _ _
      | exact heraldref10_Stretched.mono _ _ _ _ _
      | exact heraldref10_Table.mono _ _ _
      | exact rope_Stretched.mono _ _ _ _ _
      | exact rope_Table.mono _ _ _
      | exact LeO.none _
      | refine LeO.ite ?_ ?_
      | refine LeO.bind ?_ (fun _ => ?_)
    · intro y0 y1 y2 y3 y4 y5 y6
      unfold heraldlaw10_RopeStretches.j1
      repeat' first
      | (with_reducible exact ih0 _ _ _ _ _)
      | (with_reducible exact ih1 _ _ _ _ _ _ _)
      | (with_reducible exact ih2 _ _ _ _ _ _ _)
      | (with_reducible exact ih3 _ _ _ _ _ _ _)
      | (with_reducible exact heraldlaw10_awake.mono _)
      | (with_reducible exact heraldlaw10_same.mono _ _ _)
      | (with_reducible exact heraldref10_Stretched.mono _ _ _ _ _)
      | (with_reducible exact heraldref10_Table.mono _ _ _)
      | (with_reducible exact rope_Stretched.mono _ _ _ _ _)
      | (with_reducible exact rope_Table.mono _ _ _)
      | (with_reducible exact LeO.refl _)
      | (with_reducible exact LeO.none _)
      | (with_reducible refine LeO.ite ?_ ?_)
      | (with_reducible refine LeO.bind ?_ (fun _ => ?_))
      | exact ih0 _ _ _ _ _
      | exact ih1 _ _ _ _ _ _ _
      | exact ih2 _ _ _ _ _ _ _
      | exact ih3 _ _ _ _ _ _ _
      | exact heraldlaw10_awake.mono _
      | exact heraldlaw10_same.mono _ _ _
      | exact heraldref10_Stretched.mono _ _ _ _ _
      | exact heraldref10_Table.mono _ _ _
      | exact rope_Stretched.mono _ _ _ _ _
      | exact rope_Table.mono _ _ _
      | exact LeO.none _
      | refine LeO.ite ?_ ?_
      | refine LeO.bind ?_ (fun _ => ?_)
    · intro y0 y1 y2 y3 y4 y5 y6
      unfold heraldlaw10_RopeStretches.j2
      repeat' first
      | (with_reducible exact ih0 _ _ _ _ _)
      | (with_reducible exact ih1 _ _ _ _ _ _ _)
      | (with_reducible exact ih2 _ _ _ _ _ _ _)
      | (with_reducible exact ih3 _ _ _ _ _ _ _)
      | (with_reducible exact heraldlaw10_awake.mono _)
      | (with_reducible exact heraldlaw10_same.mono _ _ _)
      | (with_reducible exact heraldref10_Stretched.mono _ _ _ _ _)
      | (with_reducible exact heraldref10_Table.mono _ _ _)
      | (with_reducible exact rope_Stretched.mono _ _ _ _ _)
      | (with_reducible exact rope_Table.mono _ _ _)
      | (with_reducible exact LeO.refl _)
      | (with_reducible exact LeO.none _)
      | (with_reducible refine LeO.ite ?_ ?_)
      | (with_reducible refine LeO.bind ?_ (fun _ => ?_))
      | exact ih0 _ _ _ _ _
      | exact ih1 _ _ _ _ _ _ _
      | exact ih2 _ _ _ _ _ _ _
      | exact ih3 _ _ _ _ _ _ _
      | exact heraldlaw10_awake.mono _
      | exact heraldlaw10_same.mono _ _ _
      | exact heraldref10_Stretched.mono _ _ _ _ _
      | exact heraldref10_Table.mono _ _ _
      | exact rope_Stretched.mono _ _ _ _ _
      | exact rope_Table.mono _ _ _
      | exact LeO.none _
      | refine LeO.ite ?_ ?_
      | refine LeO.bind ?_ (fun _ => ?_)
    · intro y0 y1 y2 y3 y4 y5 y6
      unfold heraldlaw10_RopeStretches.l0
      repeat' first
      | (with_reducible exact ih0 _ _ _ _ _)
      | (with_reducible exact ih1 _ _ _ _ _ _ _)
      | (with_reducible exact ih2 _ _ _ _ _ _ _)
      | (with_reducible exact ih3 _ _ _ _ _ _ _)
      | (with_reducible exact heraldlaw10_awake.mono _)
      | (with_reducible exact heraldlaw10_same.mono _ _ _)
      | (with_reducible exact heraldref10_Stretched.mono _ _ _ _ _)
      | (with_reducible exact heraldref10_Table.mono _ _ _)
      | (with_reducible exact rope_Stretched.mono _ _ _ _ _)
      | (with_reducible exact rope_Table.mono _ _ _)
      | (with_reducible exact LeO.refl _)
      | (with_reducible exact LeO.none _)
      | (with_reducible refine LeO.ite ?_ ?_)
      | (with_reducible refine LeO.bind ?_ (fun _ => ?_))
      | exact ih0 _ _ _ _ _
      | exact ih1 _ _ _ _ _ _ _
      | exact ih2 _ _ _ _ _ _ _
      | exact ih3 _ _ _ _ _ _ _
      | exact heraldlaw10_awake.mono _
      | exact heraldlaw10_same.mono _ _ _
      | exact heraldref10_Stretched.mono _ _ _ _ _
      | exact heraldref10_Table.mono _ _ _
      | exact rope_Stretched.mono _ _ _ _ _
      | exact rope_Table.mono _ _ _
      | exact LeO.none _
      | refine LeO.ite ?_ ?_
      | refine LeO.bind ?_ (fun _ => ?_)
theorem heraldlaw10_RopeStretches.mono : ∀ a0 a1 a2 a3 k, LeO (heraldlaw10_RopeStretches.f k a0 a1 a2 a3) (heraldlaw10_RopeStretches.f (k + 1) a0 a1 a2 a3) := by
  intro a0 a1 a2 a3 k
  obtain ⟨ih0, ih1, ih2, ih3⟩ := heraldlaw10_RopeStretches.mono_l k
  unfold heraldlaw10_RopeStretches.f
  repeat' first
      | (with_reducible exact ih0 _ _ _ _ _)
      | (with_reducible exact ih1 _ _ _ _ _ _ _)
      | (with_reducible exact ih2 _ _ _ _ _ _ _)
      | (with_reducible exact ih3 _ _ _ _ _ _ _)
      | (with_reducible exact heraldlaw10_awake.mono _)
      | (with_reducible exact heraldlaw10_same.mono _ _ _)
      | (with_reducible exact heraldref10_Stretched.mono _ _ _ _ _)
      | (with_reducible exact heraldref10_Table.mono _ _ _)
      | (with_reducible exact rope_Stretched.mono _ _ _ _ _)
      | (with_reducible exact rope_Table.mono _ _ _)
      | (with_reducible exact LeO.refl _)
      | (with_reducible exact LeO.none _)
      | (with_reducible refine LeO.ite ?_ ?_)
      | (with_reducible refine LeO.bind ?_ (fun _ => ?_))
      | exact ih0 _ _ _ _ _
      | exact ih1 _ _ _ _ _ _ _
      | exact ih2 _ _ _ _ _ _ _
      | exact ih3 _ _ _ _ _ _ _
      | exact heraldlaw10_awake.mono _
      | exact heraldlaw10_same.mono _ _ _
      | exact heraldref10_Stretched.mono _ _ _ _ _
      | exact heraldref10_Table.mono _ _ _
      | exact rope_Stretched.mono _ _ _ _ _
      | exact rope_Table.mono _ _ _
      | exact LeO.none _
      | refine LeO.ite ?_ ?_
      | refine LeO.bind ?_ (fun _ => ?_)
def heraldlaw10_RopeStretches.T20 : Bool × List (List Nat × List Nat) := (true, [([], []), ([], []), ([1], [1]), ([], []), ([2, 3], [2, 3]), ([], []), ([5], [5]), ([], []), ([6, 7], [6, 7]), ([], []), ([8, 9], [8, 9]), ([0, 4, 10], [0, 4, 10]), ([], []), ([], []), ([], []), ([13, 14], [13, 14]), ([], []), ([], []), ([16, 17], [16, 17]), ([], []), ([18, 19], [18, 19]), ([12, 15, 20], [12, 15, 20]), ([11, 21], [11, 21]), ([22], [22]), ([23, 22], [23]), ([24], [24]), ([24], [24]), ([26, 24], [24, 26]), ([24], [24]), ([27, 28, 24], [24, 27, 28]), ([24], [24]), ([30, 24], [24, 30]), ([24], [24]), ([31, 32, 24], [24, 31, 32]), ([24], [24]), ([33, 34, 24], [24, 33, 34]), ([25, 29, 35, 24], [24, 25, 29, 35]), ([24], [24]), ([24], [24]), ([24], [24]), ([38, 39, 24], [24, 38, 39]), ([24], [24]), ([24], [24]), ([41, 42, 24], [24, 41, 42]), ([24], [24]), ([43, 44, 24], [24, 43, 44]), ([37, 40, 45, 24], [24, 37, 40, 45]), ([36, 46, 24, 24], [24, 36, 46]), ([47, 24], [24, 47]), ([24, 48], [24, 48])])
def heraldlaw10_RopeStretches.B20 : List Nat := [0, 0, 2, 0, 14, 0, 32, 0, 224, 0, 992, 2047, 0, 0, 0, 24576, 0, 0, 196608, 0, 983040, 2093056, 4194303, 8388607, 16777215, 33554431, 33554431, 100663295, 33554431, 503316479, 33554431, 1107296255, 33554431, 7549747199, 33554431, 33319550975, 68719476735, 33554431, 33554431, 33554431, 824667275263, 33554431, 33554431, 6597103321087, 33554431, 32985382387711, 70231338778623, 140737488355327, 281474976710655, 562949953421311]
theorem heraldlaw10_RopeStretches.tab20 : rtab .any (opsOf Tryd.f9 20) = heraldlaw10_RopeStretches.T20 := by kernel_rfl
theorem heraldlaw10_RopeStretches.bits20 : waitsOk heraldlaw10_RopeStretches.T20.2 heraldlaw10_RopeStretches.B20 = true := by kernel_rfl
set_option maxHeartbeats 8000000 in
set_option maxRecDepth 100000 in
theorem heraldlaw10_RopeStretches.calls (k : Nat) (a0 : Int) (a1 : Int) (a2_0 : Int) (a2_1 : Int) (r : Bool) (w : World) (h : heraldlaw10_RopeStretches.f k a0 a1 a2_0 a2_1 = some r) (ht : Tab w) :
    Calls Tryd.prog 9 #[.int .i64 a0, .int .i64 a1, .agg #[.int .i64 a2_0, .int .i64 a2_1]] w fun e w' => e = .returned (.bool r) ∧ Below w.heap.size w w' := by
 have HTAB := Aside0.mk ht
 clear ht
 have hu53 := Tryd.underlying53
 have HB := Aside0.mk (Below.refl w.heap.size w)
 have H : ((heraldlaw10_awake.f k).bind fun t513 => (if t513 = true then ((rope_Stretched.f k a0 a1 a2_0 a2_1).bind fun bt514 => ((heraldref10_Stretched.f k a0 a1 a2_0 a2_1).bind fun bt521 => ((heraldlaw10_same.f k bt514.1 bt521.1).bind fun t528 => (if t528 = true then ((heraldlaw10_same.f k bt514.2.1 bt521.2.1).bind fun t529 => (if t529 = true then (heraldlaw10_RopeStretches.j0 k a0 a1 (bt514.2.2 != bt521.2.2) a2_0 a2_1) else (heraldlaw10_RopeStretches.j0 k a0 a1 true a2_0 a2_1))) else (heraldlaw10_RopeStretches.j0 k a0 a1 true a2_0 a2_1))))) else (some false))) = some r := h
 clear h
 replace H := Option.bind_eq_some_iff.mp H
 obtain ⟨t513, A40, H⟩ := H
 replace H : (if t513 = true then ((rope_Stretched.f k a0 a1 a2_0 a2_1).bind fun bt514 => ((heraldref10_Stretched.f k a0 a1 a2_0 a2_1).bind fun bt521 => ((heraldlaw10_same.f k bt514.1 bt521.1).bind fun t528 => (if t528 = true then ((heraldlaw10_same.f k bt514.2.1 bt521.2.1).bind fun t529 => (if t529 = true then (heraldlaw10_RopeStretches.j0 k a0 a1 (bt514.2.2 != bt521.2.2) a2_0 a2_1) else (heraldlaw10_RopeStretches.j0 k a0 a1 true a2_0 a2_1))) else (heraldlaw10_RopeStretches.j0 k a0 a1 true a2_0 a2_1))))) else (some false)) = some r := H
 have A4 := Aside0.mk A40
 clear A40
 by_cases c5 : t513 = true
 ·
  as_aux_lemma =>
  subst c5
  have H1 : ((rope_Stretched.f k a0 a1 a2_0 a2_1).bind fun bt514 => ((heraldref10_Stretched.f k a0 a1 a2_0 a2_1).bind fun bt521 => ((heraldlaw10_same.f k bt514.1 bt521.1).bind fun t528 => (if t528 = true then ((heraldlaw10_same.f k bt514.2.1 bt521.2.1).bind fun t529 => (if t529 = true then (heraldlaw10_RopeStretches.j0 k a0 a1 (bt514.2.2 != bt521.2.2) a2_0 a2_1) else (heraldlaw10_RopeStretches.j0 k a0 a1 true a2_0 a2_1))) else (heraldlaw10_RopeStretches.j0 k a0 a1 true a2_0 a2_1))))) = some r := by rw [if_pos rfl] at H; exact H
  clear H
  have H := H1
  clear H1
  replace H := Option.bind_eq_some_iff.mp H
  obtain ⟨⟨t514, t515, t516⟩, A60, H⟩ := H
  replace H : ((heraldref10_Stretched.f k a0 a1 a2_0 a2_1).bind fun bt521 => ((heraldlaw10_same.f k t514 bt521.1).bind fun t528 => (if t528 = true then ((heraldlaw10_same.f k t515 bt521.2.1).bind fun t529 => (if t529 = true then (heraldlaw10_RopeStretches.j0 k a0 a1 (t516 != bt521.2.2) a2_0 a2_1) else (heraldlaw10_RopeStretches.j0 k a0 a1 true a2_0 a2_1))) else (heraldlaw10_RopeStretches.j0 k a0 a1 true a2_0 a2_1)))) = some r := H
  have A6 := Aside0.mk A60
  clear A60
  replace H := Option.bind_eq_some_iff.mp H
  obtain ⟨⟨t521, t522, t523⟩, A70, H⟩ := H
  replace H : ((heraldlaw10_same.f k t514 t521).bind fun t528 => (if t528 = true then ((heraldlaw10_same.f k t515 t522).bind fun t529 => (if t529 = true then (heraldlaw10_RopeStretches.j0 k a0 a1 (t516 != t523) a2_0 a2_1) else (heraldlaw10_RopeStretches.j0 k a0 a1 true a2_0 a2_1))) else (heraldlaw10_RopeStretches.j0 k a0 a1 true a2_0 a2_1))) = some r := H
  have A7 := Aside0.mk A70
  clear A70
  have HC8 := Aside0.mk H
  clear H
  go_enter Tryd.func9, Tryd.ntmps9
  go_upto_region 5 with (first | ((with_reducible refine gate_dst (N := 5) rfl ?_); (try (refine gate_guard (by rfl) ?_; dsimp only)); refine box_event ?hg (N := 5) ?hd (cs := #[.int .i64 a2_0, .int .i64 a2_1]) (t := 53) ?hr ?_; (case hd => rfl); (case hg => rfl); (case hr => first | (go_simp; done) | (go_simp; rfl)); intro gb512 hg w9 hbox hb; have n0_ := Aside0.mk (below_step (by repeat (first | (with_reducible first | exact HB.out | apply below_alloc | apply pw_below_drewN | apply below_drew1) | exact HB.out)) hb); have n1_ := Aside0.mk (hbox); have n2_ := Aside0.mk ((by rw [hg]; exact (below_size (by repeat (first | (with_reducible first | exact HB.out | apply below_alloc | apply pw_below_drewN | apply below_drew1) | exact HB.out))) : w.heap.size ≤ gb512)); have n3_ := Aside0.mk ((by rw [hg]; exact (below_size (by repeat (first | (with_reducible first | exact HB.out | apply below_alloc | apply pw_below_drewN | apply below_drew1) | exact HB.out))) : w.heap.size ≤ gb512)); clear HB; have HB := n0_; have BK512 := n1_; have GW512 := n2_; have GE512 := n3_; clear n0_ n1_ n2_ n3_; clear hb hbox hg) | ((with_reducible refine gate_callee (f := 10) rfl ?_); refine goesL_ (some 25) rfl rfl Tryd.func10 (by kernel_rfl) rfl #[] rfl (by (try simp only [List.map_toArray, List.map_cons, List.map_nil]); first | done | rfl | (simp only [List.length_drop, List.length_take]; rfl)) ?_; (with_reducible refine (heraldlaw10_awake.calls k  true _ A4.out (tab_of HTAB.out (by repeat (first | (with_reducible first | exact HB.out | apply below_alloc | apply pw_below_drewN | apply below_drew1) | exact HB.out | exact Below.refl _ _)))).mono ?_); rintro e w10 ⟨rfl, hb⟩; refine ⟨_, rfl, ?_⟩; have n0_ := Aside0.mk (blk_below (g := gb512) (o := .cells #[.int .i64 a2_0, .int .i64 a2_1] 53 (0, 0)) (by (with_reducible repeat (first | refine blk_drewN ?_ _ | refine blk_drew ?_ | refine blk_alloc ?_ _)); exact BK512.out) hb); have n1_ := Aside0.mk (below_step (by repeat (first | (with_reducible first | exact HB.out | apply below_alloc | apply pw_below_drewN | apply below_drew1 | refine below_set ?_ GE512.out) | exact HB.out)) hb); clear BK512; clear HB; have BK512 := n0_; have HB := n1_; clear n0_ n1_; (try clear hb); (try clear hb2); (try clear hk); (try clear hi); have hcz11_0 : w10.cell? ⟨gb512, 0, none⟩ = some (.int .i64 a2_0) := (blk_cell BK512.out 0).trans rfl; have hcz11_1 : w10.cell? ⟨gb512, 1, none⟩ = some (.int .i64 a2_1) := (blk_cell BK512.out 1).trans rfl; have hfz11_0 := blk_frozen BK512.out 0; have hfz11_1 := blk_frozen BK512.out 1) | ((with_reducible refine gate_callee (f := 24) rfl ?_); refine goesL_ (some 34) rfl rfl Tryd.func24 (by kernel_rfl) rfl #[.int .i64 a0, .int .i64 a1, .int .i64 a2_0, .int .i64 a2_1] rfl (by (try simp only [List.map_toArray, List.map_cons, List.map_nil]); first | done | rfl | (simp only [List.length_drop, List.length_take]; rfl)) ?_; (with_reducible refine (rope_Stretched.calls k a0 a1 a2_0 a2_1 t514 t515 t516 _ A6.out (tab_of HTAB.out (by repeat (first | (with_reducible first | exact HB.out | apply below_alloc | apply pw_below_drewN | apply below_drew1) | exact HB.out | exact Below.refl _ _)))).mono ?_); rintro e w12 ⟨v517, v519, rfl, ho0, ho1, hb⟩; refine ⟨_, rfl, ?_⟩; have n0_ := Aside0.mk (Kd.R_lower ho0 (below_size (by repeat (first | (with_reducible first | exact HB.out | apply below_alloc | apply pw_below_drewN | apply below_drew1 | refine below_set ?_ GE512.out) | exact HB.out)))); have n1_ := Aside0.mk (Kd.R_lower ho1 (below_size (by repeat (first | (with_reducible first | exact HB.out | apply below_alloc | apply pw_below_drewN | apply below_drew1 | refine below_set ?_ GE512.out) | exact HB.out)))); have n2_ := Aside0.mk (blk_below (g := gb512) (o := .cells #[.int .i64 a2_0, .int .i64 a2_1] 53 (0, 0)) (by (with_reducible repeat (first | refine blk_drewN ?_ _ | refine blk_drew ?_ | refine blk_alloc ?_ _)); exact BK512.out) hb); have n3_ := Aside0.mk (below_step (by repeat (first | (with_reducible first | exact HB.out | apply below_alloc | apply pw_below_drewN | apply below_drew1 | refine below_set ?_ GE512.out) | exact HB.out)) hb); clear BK512; clear HB; have HO518 := n0_; have HO520 := n1_; have BK512 := n2_; have HB := n3_; clear n0_ n1_ n2_ n3_; (try clear hb); (try clear hb2); (try clear hk); (try clear hi); (try clear ho0); (try clear ho1); have hcz13_0 : w12.cell? ⟨gb512, 0, none⟩ = some (.int .i64 a2_0) := (blk_cell BK512.out 0).trans rfl; have hcz13_1 : w12.cell? ⟨gb512, 1, none⟩ = some (.int .i64 a2_1) := (blk_cell BK512.out 1).trans rfl; have hfz13_0 := blk_frozen BK512.out 0; have hfz13_1 := blk_frozen BK512.out 1) | ((with_reducible refine gate_callee (f := 25) rfl ?_); refine goesL_ (some 45) rfl rfl Tryd.func25 (by kernel_rfl) rfl #[.int .i64 a0, .int .i64 a1, .int .i64 a2_0, .int .i64 a2_1] rfl (by (try simp only [List.map_toArray, List.map_cons, List.map_nil]); first | done | rfl | (simp only [List.length_drop, List.length_take]; rfl)) ?_; (with_reducible refine (heraldref10_Stretched.calls k a0 a1 a2_0 a2_1 t521 t522 t523 _ A7.out).mono ?_); rintro e w14 ⟨v524, v526, rfl, ho0, ho1, hb⟩; refine ⟨_, rfl, ?_⟩; have n0_ := Aside0.mk (Kd.R_mono (Kd.R_told (Kd.R_told (Kd.R_old (by (with_reducible repeat (first | apply Kd.R_alloc | apply Kd.R_drewN | apply Kd.R_drew)); exact HO518.out) hb) (Kd.R_base ho0)) (Kd.R_base ho1)) (fun _ h_ => h_.1)); have n1_ := Aside0.mk (Kd.R_mono (Kd.R_told (Kd.R_told (Kd.R_old (by (with_reducible repeat (first | apply Kd.R_alloc | apply Kd.R_drewN | apply Kd.R_drew)); exact HO520.out) hb) (Kd.R_base ho0)) (Kd.R_base ho1)) (fun _ h_ => h_.1)); have n2_ := Aside0.mk (Kd.R_lower (Kd.R_new' (Kd.R_new' ho0 (Kd.R_lt (by (with_reducible repeat (first | apply Kd.R_alloc | apply Kd.R_drewN | apply Kd.R_drew)); exact HO518.out))) (Kd.R_lt (by (with_reducible repeat (first | apply Kd.R_alloc | apply Kd.R_drewN | apply Kd.R_drew)); exact HO520.out))) (below_size (by repeat (first | (with_reducible first | exact HB.out | apply below_alloc | apply pw_below_drewN | apply below_drew1 | refine below_set ?_ GE512.out) | exact HB.out)))); have n3_ := Aside0.mk (Kd.R_lower (Kd.R_new' (Kd.R_new' ho1 (Kd.R_lt (by (with_reducible repeat (first | apply Kd.R_alloc | apply Kd.R_drewN | apply Kd.R_drew)); exact HO518.out))) (Kd.R_lt (by (with_reducible repeat (first | apply Kd.R_alloc | apply Kd.R_drewN | apply Kd.R_drew)); exact HO520.out))) (below_size (by repeat (first | (with_reducible first | exact HB.out | apply below_alloc | apply pw_below_drewN | apply below_drew1 | refine below_set ?_ GE512.out) | exact HB.out)))); have n4_ := Aside0.mk (blk_below (g := gb512) (o := .cells #[.int .i64 a2_0, .int .i64 a2_1] 53 (0, 0)) (by (with_reducible repeat (first | refine blk_drewN ?_ _ | refine blk_drew ?_ | refine blk_alloc ?_ _)); exact BK512.out) hb); have n5_ := Aside0.mk (below_step (by repeat (first | (with_reducible first | exact HB.out | apply below_alloc | apply pw_below_drewN | apply below_drew1 | refine below_set ?_ GE512.out) | exact HB.out)) hb); clear HO518; clear HO520; clear BK512; clear HB; have HO518 := n0_; have HO520 := n1_; have HO525 := n2_; have HO527 := n3_; have BK512 := n4_; have HB := n5_; clear n0_ n1_ n2_ n3_ n4_ n5_; (try clear hb); (try clear hb2); (try clear hk); (try clear hi); (try clear ho0); (try clear ho1)))
  (try simp only [Act.put, List.setIfInBounds_toArray, List.set_cons_zero, List.set_cons_succ])
  go_cut [63] (fun v63 wc => ∃ (kq : Nat) (x63_7 : Bool), v63 = .bool x63_7 ∧ Aside0 (heraldlaw10_RopeStretches.j0 kq a0 a1 x63_7 a2_0 a2_1 = some r) ∧ Aside0 (kq ≤ k) ∧ Aside0 (wc.heap[gb512]? = some (.cells #[.int .i64 a2_0, .int .i64 a2_1] 53 (0, 0))) ∧ Aside0 (Below w.heap.size w wc))
  case first =>
   have H := HC8.out
   clear HC8
   replace H := Option.bind_eq_some_iff.mp H
   obtain ⟨t528, A150, H⟩ := H
   replace H : (if t528 = true then ((heraldlaw10_same.f k t515 t522).bind fun t529 => (if t529 = true then (heraldlaw10_RopeStretches.j0 k a0 a1 (t516 != t523) a2_0 a2_1) else (heraldlaw10_RopeStretches.j0 k a0 a1 true a2_0 a2_1))) else (heraldlaw10_RopeStretches.j0 k a0 a1 true a2_0 a2_1)) = some r := H
   have A15 := Aside0.mk A150
   clear A150
   by_cases c16 : t528 = true
   ·
    as_aux_lemma =>
    subst c16
    have H1 : ((heraldlaw10_same.f k t515 t522).bind fun t529 => (if t529 = true then (heraldlaw10_RopeStretches.j0 k a0 a1 (t516 != t523) a2_0 a2_1) else (heraldlaw10_RopeStretches.j0 k a0 a1 true a2_0 a2_1))) = some r := by rw [if_pos rfl] at H; exact H
    clear H
    have H := H1
    clear H1
    replace H := Option.bind_eq_some_iff.mp H
    obtain ⟨t529, A170, H⟩ := H
    replace H : (if t529 = true then (heraldlaw10_RopeStretches.j0 k a0 a1 (t516 != t523) a2_0 a2_1) else (heraldlaw10_RopeStretches.j0 k a0 a1 true a2_0 a2_1)) = some r := H
    have A17 := Aside0.mk A170
    clear A170
    by_cases c18 : t529 = true
    ·
     as_aux_lemma =>
     subst c18
     have H1 : (heraldlaw10_RopeStretches.j0 k a0 a1 (t516 != t523) a2_0 a2_1) = some r := by rw [if_pos rfl] at H; exact H
     clear H
     have H := H1
     clear H1
     have H' := Aside0.mk H
     clear H
     obtain ⟨Ao19, co19, eo19⟩ := Kd.R_slice HO518.out
     subst eo19
     obtain ⟨Ao20, co20, eo20⟩ := Kd.R_slice HO525.out
     subst eo20
     go_wp2_with (first | ((with_reducible refine gate_callee (f := 13) rfl ?_); refine goesL_ (some 51) rfl rfl Tryd.func13 (by kernel_rfl) rfl #[.slice Ao19 t514.length co19, .slice Ao20 t521.length co20] rfl (by (try simp only [List.map_toArray, List.map_cons, List.map_nil]); first | done | rfl | (simp only [List.length_drop, List.length_take]; rfl)) ?_; (with_reducible refine (heraldlaw10_same.calls k _ _ t514 _ _ t521 true _ ?side1 ?side2 ?side3 ?side4 A15.out).mono ?_); (case side1 => repeat (first | exact (Kd.R_reads' HO518.out).2.2 | (with_reducible refine Kd.C_alloc ?_ _) | (with_reducible refine Kd.C_drewN ?_ _) | (with_reducible refine Kd.C_drew ?_))); (case side2 => exact (Kd.R_reads' HO518.out).2.1); (case side3 => repeat (first | exact (Kd.R_reads' HO525.out).2.2 | (with_reducible refine Kd.C_alloc ?_ _) | (with_reducible refine Kd.C_drewN ?_ _) | (with_reducible refine Kd.C_drew ?_))); (case side4 => exact (Kd.R_reads' HO525.out).2.1); rintro e w' ⟨rfl, ⟨nd, rfl⟩⟩; refine ⟨_, rfl, ?_⟩; obtain ⟨Ao21, co21, eo21⟩ := Kd.R_slice HO520.out; subst eo21; obtain ⟨Ao22, co22, eo22⟩ := Kd.R_slice HO527.out; subst eo22) | (go_at_call 13; (with_reducible refine (heraldlaw10_same.calls k _ _ t515 _ _ t522 true _ ?side1 ?side2 ?side3 ?side4 A17.out).mono ?_); (case side1 => repeat (first | exact (Kd.R_reads' HO520.out).2.2 | (with_reducible refine Kd.C_alloc ?_ _) | (with_reducible refine Kd.C_drewN ?_ _) | (with_reducible refine Kd.C_drew ?_))); (case side2 => exact (Kd.R_reads' HO520.out).2.1); (case side3 => repeat (first | exact (Kd.R_reads' HO527.out).2.2 | (with_reducible refine Kd.C_alloc ?_ _) | (with_reducible refine Kd.C_drewN ?_ _) | (with_reducible refine Kd.C_drew ?_))); (case side4 => exact (Kd.R_reads' HO527.out).2.1); rintro e w' ⟨rfl, ⟨nd, rfl⟩⟩))
     go_meet
     case rel => exact ⟨_, ((t516 != t523)), (by first | rfl | (simp; done) | (simp [*]; done)), H', ⟨by first | omega | exact Nat.le_refl _⟩, ⟨by (with_reducible repeat (first | refine blk_drewN ?_ _ | refine blk_drew ?_ | refine blk_alloc ?_ _)); exact BK512.out⟩, ⟨by repeat (first | (with_reducible first | exact HB.out | apply below_alloc | apply pw_below_drewN | apply below_drew1 | refine below_set ?_ GE512.out) | exact HB.out)⟩⟩
    ·
     as_aux_lemma =>
     replace c18 := Bool.eq_false_iff.mpr c18
     subst c18
     have H1 : (heraldlaw10_RopeStretches.j0 k a0 a1 true a2_0 a2_1) = some r := by rw [if_neg (show ¬ (false = true) by decide)] at H; exact H
     clear H
     have H := H1
     clear H1
     have H' := Aside0.mk H
     clear H
     obtain ⟨Ao23, co23, eo23⟩ := Kd.R_slice HO518.out
     subst eo23
     obtain ⟨Ao24, co24, eo24⟩ := Kd.R_slice HO525.out
     subst eo24
     go_wp2_with (first | ((with_reducible refine gate_callee (f := 13) rfl ?_); refine goesL_ (some 51) rfl rfl Tryd.func13 (by kernel_rfl) rfl #[.slice Ao23 t514.length co23, .slice Ao24 t521.length co24] rfl (by (try simp only [List.map_toArray, List.map_cons, List.map_nil]); first | done | rfl | (simp only [List.length_drop, List.length_take]; rfl)) ?_; (with_reducible refine (heraldlaw10_same.calls k _ _ t514 _ _ t521 true _ ?side1 ?side2 ?side3 ?side4 A15.out).mono ?_); (case side1 => repeat (first | exact (Kd.R_reads' HO518.out).2.2 | (with_reducible refine Kd.C_alloc ?_ _) | (with_reducible refine Kd.C_drewN ?_ _) | (with_reducible refine Kd.C_drew ?_))); (case side2 => exact (Kd.R_reads' HO518.out).2.1); (case side3 => repeat (first | exact (Kd.R_reads' HO525.out).2.2 | (with_reducible refine Kd.C_alloc ?_ _) | (with_reducible refine Kd.C_drewN ?_ _) | (with_reducible refine Kd.C_drew ?_))); (case side4 => exact (Kd.R_reads' HO525.out).2.1); rintro e w' ⟨rfl, ⟨nd, rfl⟩⟩; refine ⟨_, rfl, ?_⟩; obtain ⟨Ao25, co25, eo25⟩ := Kd.R_slice HO520.out; subst eo25; obtain ⟨Ao26, co26, eo26⟩ := Kd.R_slice HO527.out; subst eo26) | (go_at_call 13; (with_reducible refine (heraldlaw10_same.calls k _ _ t515 _ _ t522 false _ ?side1 ?side2 ?side3 ?side4 A17.out).mono ?_); (case side1 => repeat (first | exact (Kd.R_reads' HO520.out).2.2 | (with_reducible refine Kd.C_alloc ?_ _) | (with_reducible refine Kd.C_drewN ?_ _) | (with_reducible refine Kd.C_drew ?_))); (case side2 => exact (Kd.R_reads' HO520.out).2.1); (case side3 => repeat (first | exact (Kd.R_reads' HO527.out).2.2 | (with_reducible refine Kd.C_alloc ?_ _) | (with_reducible refine Kd.C_drewN ?_ _) | (with_reducible refine Kd.C_drew ?_))); (case side4 => exact (Kd.R_reads' HO527.out).2.1); rintro e w' ⟨rfl, ⟨nd, rfl⟩⟩))
     go_meet
     case rel => exact ⟨_, (true), (by first | rfl | (simp; done) | (simp [*]; done)), H', ⟨by first | omega | exact Nat.le_refl _⟩, ⟨by (with_reducible repeat (first | refine blk_drewN ?_ _ | refine blk_drew ?_ | refine blk_alloc ?_ _)); exact BK512.out⟩, ⟨by repeat (first | (with_reducible first | exact HB.out | apply below_alloc | apply pw_below_drewN | apply below_drew1 | refine below_set ?_ GE512.out) | exact HB.out)⟩⟩
   ·
    as_aux_lemma =>
    replace c16 := Bool.eq_false_iff.mpr c16
    subst c16
    have H1 : (heraldlaw10_RopeStretches.j0 k a0 a1 true a2_0 a2_1) = some r := by rw [if_neg (show ¬ (false = true) by decide)] at H; exact H
    clear H
    have H := H1
    clear H1
    have H' := Aside0.mk H
    clear H
    obtain ⟨Ao27, co27, eo27⟩ := Kd.R_slice HO518.out
    subst eo27
    obtain ⟨Ao28, co28, eo28⟩ := Kd.R_slice HO525.out
    subst eo28
    go_wp2_with (first | ((with_reducible refine gate_callee (f := 13) rfl ?_); refine goesL_ (some 51) rfl rfl Tryd.func13 (by kernel_rfl) rfl #[.slice Ao27 t514.length co27, .slice Ao28 t521.length co28] rfl (by (try simp only [List.map_toArray, List.map_cons, List.map_nil]); first | done | rfl | (simp only [List.length_drop, List.length_take]; rfl)) ?_; (with_reducible refine (heraldlaw10_same.calls k _ _ t514 _ _ t521 false _ ?side1 ?side2 ?side3 ?side4 A15.out).mono ?_); (case side1 => repeat (first | exact (Kd.R_reads' HO518.out).2.2 | (with_reducible refine Kd.C_alloc ?_ _) | (with_reducible refine Kd.C_drewN ?_ _) | (with_reducible refine Kd.C_drew ?_))); (case side2 => exact (Kd.R_reads' HO518.out).2.1); (case side3 => repeat (first | exact (Kd.R_reads' HO525.out).2.2 | (with_reducible refine Kd.C_alloc ?_ _) | (with_reducible refine Kd.C_drewN ?_ _) | (with_reducible refine Kd.C_drew ?_))); (case side4 => exact (Kd.R_reads' HO525.out).2.1); rintro e w' ⟨rfl, ⟨nd, rfl⟩⟩; refine ⟨_, rfl, ?_⟩))
    go_meet
    case rel => exact ⟨_, (true), (by first | rfl | (simp; done) | (simp [*]; done)), H', ⟨by first | omega | exact Nat.le_refl _⟩, ⟨by (with_reducible repeat (first | refine blk_drewN ?_ _ | refine blk_drew ?_ | refine blk_alloc ?_ _)); exact BK512.out⟩, ⟨by repeat (first | (with_reducible first | exact HB.out | apply below_alloc | apply pw_below_drewN | apply below_drew1 | refine below_set ?_ GE512.out) | exact HB.out)⟩⟩
  case rest =>
   clear HC8
   try clear c1
   try clear c2
   try clear p2
   try clear c5
   try clear c9
   try clear c10
   try clear c13
   try clear c16
   try clear c18
   try clear c24
   try clear c25
   try clear hcz11_0
   try clear hcz11_1
   try clear hcz13_0
   try clear hcz13_1
   try clear hfz11_0
   try clear hfz11_1
   try clear hfz13_0
   try clear hfz13_1
   obtain ⟨kq, x63_7, rfl, HA, HJ7, BK512, HB⟩ := hcut
   cases kq with
   | zero => exact absurd HA.out (by simp [heraldlaw10_RopeStretches.j0])
   | succ kj7 =>
    have H := HA.out
    clear HA
    simp only [heraldlaw10_RopeStretches.j0] at H
    by_cases c29 : x63_7 = true
    ·
     as_aux_lemma =>
     subst c29
     have H1 : (some false) = some r := by rw [if_pos rfl] at H; exact H
     clear H
     have H := H1
     clear H1
     obtain rfl := Option.some.inj H
     go_wp2
     go_ret
     exact ⟨by first | rfl | (simp [errW_none, errW_some] <;> rfl) | (simp [*, errW_none, errW_some] <;> rfl), by repeat (first | (with_reducible first | exact HB.out | apply below_alloc | apply pw_below_drewN | apply below_drew1 | refine below_set ?_ GE512.out) | exact HB.out)⟩
    ·
     as_aux_lemma =>
     replace c29 := Bool.eq_false_iff.mpr c29
     subst c29
     have H1 : ((rope_Table.f kj7 a0 a1).bind fun bt530 => ((heraldref10_Table.f kj7 a0 a1).bind fun bt537 => (if bt530.2.2 = bt537.2.2 then (if bt530.2.2 = 0 then (if a2_0 < 1 then (heraldlaw10_RopeStretches.j1 kj7 a0 a1 bt530.1 bt530.2.1 true a2_0 a2_1) else (heraldlaw10_RopeStretches.j1 kj7 a0 a1 bt530.1 bt530.2.1 (decide (a2_0 > 65536)) a2_0 a2_1)) else (heraldlaw10_RopeStretches.j1 kj7 a0 a1 bt530.1 bt530.2.1 true a2_0 a2_1)) else (some false)))) = some r := by rw [if_neg (show ¬ (false = true) by decide)] at H; exact H
     clear H
     have H := H1
     clear H1
     replace H := Option.bind_eq_some_iff.mp H
     obtain ⟨⟨t530, t531, t532⟩, A300, H⟩ := H
     replace H : ((heraldref10_Table.f kj7 a0 a1).bind fun bt537 => (if t532 = bt537.2.2 then (if t532 = 0 then (if a2_0 < 1 then (heraldlaw10_RopeStretches.j1 kj7 a0 a1 t530 t531 true a2_0 a2_1) else (heraldlaw10_RopeStretches.j1 kj7 a0 a1 t530 t531 (decide (a2_0 > 65536)) a2_0 a2_1)) else (heraldlaw10_RopeStretches.j1 kj7 a0 a1 t530 t531 true a2_0 a2_1)) else (some false))) = some r := H
     have A30 := Aside0.mk A300
     clear A300
     replace H := Option.bind_eq_some_iff.mp H
     obtain ⟨⟨t537, t538, t539⟩, A310, H⟩ := H
     replace H : (if t532 = t539 then (if t532 = 0 then (if a2_0 < 1 then (heraldlaw10_RopeStretches.j1 kj7 a0 a1 t530 t531 true a2_0 a2_1) else (heraldlaw10_RopeStretches.j1 kj7 a0 a1 t530 t531 (decide (a2_0 > 65536)) a2_0 a2_1)) else (heraldlaw10_RopeStretches.j1 kj7 a0 a1 t530 t531 true a2_0 a2_1)) else (some false)) = some r := H
     have A31 := Aside0.mk A310
     clear A310
     by_cases c32 : t532 = t539
     ·
      as_aux_lemma =>
      rw [if_pos c32] at H
      have c32b0 : (t532 == t539) = true := beq_iff_eq.mpr c32
      have c32b1 : (t532 != t539) = false := bne_eq_false_iff_eq.mpr c32
      clear c32
      have HC33 := Aside0.mk H
      clear H
      go_upto_region 11 with (first | ((with_reducible refine gate_callee (f := 18) rfl ?_); refine goesL_ (some 67) rfl rfl Tryd.func18 (by kernel_rfl) rfl #[.int .i64 a0, .int .i64 a1] rfl (by (try simp only [List.map_toArray, List.map_cons, List.map_nil]); first | done | rfl | (simp only [List.length_drop, List.length_take]; rfl)) ?_; (with_reducible refine (rope_Table.calls kj7 a0 a1 t530 t531 t532 _ A30.out (tab_of HTAB.out (by repeat (first | (with_reducible first | exact HB.out | apply below_alloc | apply pw_below_drewN | apply below_drew1) | exact HB.out | exact Below.refl _ _)))).mono ?_); rintro e w34 ⟨v533, v535, rfl, ho0, ho1, hb⟩; refine ⟨_, rfl, ?_⟩; have n0_ := Aside0.mk (Kd.R_lower ho0 (below_size (by repeat (first | (with_reducible first | exact HB.out | apply below_alloc | apply pw_below_drewN | apply below_drew1 | refine below_set ?_ GE512.out) | exact HB.out)))); have n1_ := Aside0.mk (Kd.R_lower ho1 (below_size (by repeat (first | (with_reducible first | exact HB.out | apply below_alloc | apply pw_below_drewN | apply below_drew1 | refine below_set ?_ GE512.out) | exact HB.out)))); have n2_ := Aside0.mk (blk_below (g := gb512) (o := .cells #[.int .i64 a2_0, .int .i64 a2_1] 53 (0, 0)) (by (with_reducible repeat (first | refine blk_drewN ?_ _ | refine blk_drew ?_ | refine blk_alloc ?_ _)); exact BK512.out) hb); have n3_ := Aside0.mk (below_step (by repeat (first | (with_reducible first | exact HB.out | apply below_alloc | apply pw_below_drewN | apply below_drew1 | refine below_set ?_ GE512.out) | exact HB.out)) hb); clear BK512; clear HB; have HO534 := n0_; have HO536 := n1_; have BK512 := n2_; have HB := n3_; clear n0_ n1_ n2_ n3_; (try clear hb); (try clear hb2); (try clear hk); (try clear hi); (try clear ho0); (try clear ho1)) | ((with_reducible refine gate_callee (f := 19) rfl ?_); refine goesL_ (some 74) rfl rfl Tryd.func19 (by kernel_rfl) rfl #[.int .i64 a0, .int .i64 a1] rfl (by (try simp only [List.map_toArray, List.map_cons, List.map_nil]); first | done | rfl | (simp only [List.length_drop, List.length_take]; rfl)) ?_; (with_reducible refine (heraldref10_Table.calls kj7 a0 a1 t537 t538 t539 _ A31.out).mono ?_); rintro e w35 ⟨v540, v542, rfl, ho0, ho1, hb⟩; refine ⟨_, rfl, ?_⟩; have n0_ := Aside0.mk (Kd.R_mono (Kd.R_told (Kd.R_told (Kd.R_old (by (with_reducible repeat (first | apply Kd.R_alloc | apply Kd.R_drewN | apply Kd.R_drew)); exact HO534.out) hb) (Kd.R_base ho0)) (Kd.R_base ho1)) (fun _ h_ => h_.1)); have n1_ := Aside0.mk (Kd.R_mono (Kd.R_told (Kd.R_told (Kd.R_old (by (with_reducible repeat (first | apply Kd.R_alloc | apply Kd.R_drewN | apply Kd.R_drew)); exact HO536.out) hb) (Kd.R_base ho0)) (Kd.R_base ho1)) (fun _ h_ => h_.1)); have n2_ := Aside0.mk (Kd.R_lower (Kd.R_new' (Kd.R_new' ho0 (Kd.R_lt (by (with_reducible repeat (first | apply Kd.R_alloc | apply Kd.R_drewN | apply Kd.R_drew)); exact HO534.out))) (Kd.R_lt (by (with_reducible repeat (first | apply Kd.R_alloc | apply Kd.R_drewN | apply Kd.R_drew)); exact HO536.out))) (below_size (by repeat (first | (with_reducible first | exact HB.out | apply below_alloc | apply pw_below_drewN | apply below_drew1 | refine below_set ?_ GE512.out) | exact HB.out)))); have n3_ := Aside0.mk (Kd.R_lower (Kd.R_new' (Kd.R_new' ho1 (Kd.R_lt (by (with_reducible repeat (first | apply Kd.R_alloc | apply Kd.R_drewN | apply Kd.R_drew)); exact HO534.out))) (Kd.R_lt (by (with_reducible repeat (first | apply Kd.R_alloc | apply Kd.R_drewN | apply Kd.R_drew)); exact HO536.out))) (below_size (by repeat (first | (with_reducible first | exact HB.out | apply below_alloc | apply pw_below_drewN | apply below_drew1 | refine below_set ?_ GE512.out) | exact HB.out)))); have n4_ := Aside0.mk (blk_below (g := gb512) (o := .cells #[.int .i64 a2_0, .int .i64 a2_1] 53 (0, 0)) (by (with_reducible repeat (first | refine blk_drewN ?_ _ | refine blk_drew ?_ | refine blk_alloc ?_ _)); exact BK512.out) hb); have n5_ := Aside0.mk (below_step (by repeat (first | (with_reducible first | exact HB.out | apply below_alloc | apply pw_below_drewN | apply below_drew1 | refine below_set ?_ GE512.out) | exact HB.out)) hb); clear HO534; clear HO536; clear BK512; clear HB; have HO534 := n0_; have HO536 := n1_; have HO541 := n2_; have HO543 := n3_; have BK512 := n4_; have HB := n5_; clear n0_ n1_ n2_ n3_ n4_ n5_; (try clear hb); (try clear hb2); (try clear hk); (try clear hi); (try clear ho0); (try clear ho1)))
      (try simp only [Act.put, List.setIfInBounds_toArray, List.set_cons_zero, List.set_cons_succ])
      go_cut [92] (fun v92 wc => ∃ (kq : Nat) (x92_32 : Bool), v92 = .bool x92_32 ∧ Aside0 (heraldlaw10_RopeStretches.j1 kq a0 a1 t530 t531 x92_32 a2_0 a2_1 = some r) ∧ Aside0 (kq ≤ kj7) ∧ Aside0 (Kd.R (Kd.int .i8) 33 wc w.heap.size (fun k_ => some k_ ≠ (v535 : Value).ownBlock) v533 t530) ∧ Aside0 (Kd.R (Kd.int .i8) 33 wc w.heap.size (fun k_ => some k_ ≠ (v533 : Value).ownBlock) v535 t531) ∧ Aside0 (wc.heap[gb512]? = some (.cells #[.int .i64 a2_0, .int .i64 a2_1] 53 (0, 0))) ∧ Aside0 (Below w.heap.size w wc))
      case first =>
       have H := HC33.out
       clear HC33
       by_cases c36 : t532 = 0
       ·
        as_aux_lemma =>
        rw [if_pos c36] at H
        have c36b0 : (t532 == 0) = true := beq_iff_eq.mpr c36
        have c36b1 : (t532 != 0) = false := bne_eq_false_iff_eq.mpr c36
        clear c36
        (first | rw [c36b0] | (simp only [i64_w, i32_w]; rw [c36b0]) | skip)
        by_cases c37 : a2_0 < 1
        ·
         as_aux_lemma =>
         rw [if_pos c37] at H
         have c37b0 : decide (a2_0 < 1) = true := decide_eq_true c37
         clear c37
         have H' := Aside0.mk H
         clear H
         have hcz38_0 : w35.cell? ⟨gb512, 0, none⟩ = some (.int .i64 a2_0) := (blk_cell BK512.out 0).trans rfl
         have hcz38_1 : w35.cell? ⟨gb512, 1, none⟩ = some (.int .i64 a2_1) := (blk_cell BK512.out 1).trans rfl
         have hfz38_0 := blk_frozen BK512.out 0
         have hfz38_1 := blk_frozen BK512.out 1
         go_wp2
         go_meet
         case rel => exact ⟨_, (true), (by first | rfl | (simp; done) | (simp [*]; done)), H', ⟨by have := HJ7.out; first | omega | exact Nat.le_refl _⟩, ⟨by (with_reducible repeat (first | apply Kd.R_alloc | apply Kd.R_drewN | apply Kd.R_drew)); exact Kd.R_mono HO534.out (fun _ hk => hk.1.1)⟩, ⟨by (with_reducible repeat (first | apply Kd.R_alloc | apply Kd.R_drewN | apply Kd.R_drew)); exact Kd.R_mono HO536.out (fun _ hk => hk.1.1)⟩, ⟨by (with_reducible repeat (first | refine blk_drewN ?_ _ | refine blk_drew ?_ | refine blk_alloc ?_ _)); exact BK512.out⟩, ⟨by repeat (first | (with_reducible first | exact HB.out | apply below_alloc | apply pw_below_drewN | apply below_drew1 | refine below_set ?_ GE512.out) | exact HB.out)⟩⟩
        ·
         as_aux_lemma =>
         rw [if_neg c37] at H
         have c37b0 : decide (a2_0 < 1) = false := decide_eq_false c37
         clear c37
         have H' := Aside0.mk H
         clear H
         have hcz39_0 : w35.cell? ⟨gb512, 0, none⟩ = some (.int .i64 a2_0) := (blk_cell BK512.out 0).trans rfl
         have hcz39_1 : w35.cell? ⟨gb512, 1, none⟩ = some (.int .i64 a2_1) := (blk_cell BK512.out 1).trans rfl
         have hfz39_0 := blk_frozen BK512.out 0
         have hfz39_1 := blk_frozen BK512.out 1
         go_wp2
         go_meet
         case rel => exact ⟨_, (decide (a2_0 > 65536)), (by first | rfl | (simp; done) | (simp [*]; done)), H', ⟨by have := HJ7.out; first | omega | exact Nat.le_refl _⟩, ⟨by (with_reducible repeat (first | apply Kd.R_alloc | apply Kd.R_drewN | apply Kd.R_drew)); exact Kd.R_mono HO534.out (fun _ hk => hk.1.1)⟩, ⟨by (with_reducible repeat (first | apply Kd.R_alloc | apply Kd.R_drewN | apply Kd.R_drew)); exact Kd.R_mono HO536.out (fun _ hk => hk.1.1)⟩, ⟨by (with_reducible repeat (first | refine blk_drewN ?_ _ | refine blk_drew ?_ | refine blk_alloc ?_ _)); exact BK512.out⟩, ⟨by repeat (first | (with_reducible first | exact HB.out | apply below_alloc | apply pw_below_drewN | apply below_drew1 | refine below_set ?_ GE512.out) | exact HB.out)⟩⟩
       ·
        as_aux_lemma =>
        rw [if_neg c36] at H
        have c36b0 : (t532 == 0) = false := beq_eq_false_iff_ne.mpr c36
        have c36b1 : (t532 != 0) = true := bne_iff_ne.mpr c36
        (first | rw [c36b0] | (simp only [i64_w, i32_w]; rw [c36b0]) | skip)
        have H' := Aside0.mk H
        clear H
        go_wp2
        go_meet
        case rel => exact ⟨_, (true), (by first | rfl | (simp; done) | (simp [*]; done)), H', ⟨by have := HJ7.out; first | omega | exact Nat.le_refl _⟩, ⟨by (with_reducible repeat (first | apply Kd.R_alloc | apply Kd.R_drewN | apply Kd.R_drew)); exact Kd.R_mono HO534.out (fun _ hk => hk.1.1)⟩, ⟨by (with_reducible repeat (first | apply Kd.R_alloc | apply Kd.R_drewN | apply Kd.R_drew)); exact Kd.R_mono HO536.out (fun _ hk => hk.1.1)⟩, ⟨by (with_reducible repeat (first | refine blk_drewN ?_ _ | refine blk_drew ?_ | refine blk_alloc ?_ _)); exact BK512.out⟩, ⟨by repeat (first | (with_reducible first | exact HB.out | apply below_alloc | apply pw_below_drewN | apply below_drew1 | refine below_set ?_ GE512.out) | exact HB.out)⟩⟩
      case rest =>
       clear HC33
       try clear c1
       try clear c2
       try clear p2
       try clear c3
       try clear c5
       try clear c9
       try clear c10
       try clear c13
       try clear c16
       try clear c18
       try clear c19
       try clear c24
       try clear c25
       try clear c29
       try clear c32
       try clear c32b0
       try clear c32b1
       try clear c36
       try clear c36b0
       try clear c36b1
       try clear c37
       try clear c37b0
       try clear hcz11_0
       try clear hcz11_1
       try clear hcz13_0
       try clear hcz13_1
       try clear hcz38_0
       try clear hcz38_1
       try clear hcz39_0
       try clear hcz39_1
       try clear hfz11_0
       try clear hfz11_1
       try clear hfz13_0
       try clear hfz13_1
       try clear hfz38_0
       try clear hfz38_1
       try clear hfz39_0
       try clear hfz39_1
       try clear p2
       obtain ⟨kq, x92_32, rfl, HA, HJ32, HO_13, HO_14, BK512, HB⟩ := hcut
       cases kq with
       | zero => exact absurd HA.out (by simp [heraldlaw10_RopeStretches.j1])
       | succ kj32 =>
        have H := HA.out
        clear HA
        simp only [heraldlaw10_RopeStretches.j1] at H
        by_cases c40 : x92_32 = true
        ·
         as_aux_lemma =>
         subst c40
         have H1 : (some true) = some r := by rw [if_pos rfl] at H; exact H
         clear H
         have H := H1
         clear H1
         obtain rfl := Option.some.inj H
         go_wp2
         go_ret
         exact ⟨by first | rfl | (simp [errW_none, errW_some] <;> rfl) | (simp [*, errW_none, errW_some] <;> rfl), by repeat (first | (with_reducible first | exact HB.out | apply below_alloc | apply pw_below_drewN | apply below_drew1 | refine below_set ?_ GE512.out) | exact HB.out)⟩
        ·
         as_aux_lemma =>
         replace c40 := Bool.eq_false_iff.mpr c40
         subst c40
         have H1 : ((rope_Stretched.f kj32 a0 a1 a2_0 a2_0).bind fun bt544 => ((rope_Stretched.f kj32 a0 a1 1 2).bind fun bt551 => (if bt544.2.2 = 0 then (if bt551.2.2 = 0 then ((heraldlaw10_same.f kj32 bt544.1 t530).bind fun t558 => (if t558 = true then ((heraldlaw10_same.f kj32 bt544.2.1 t531).bind fun t559 => (if t559 = true then (if (bt551.1.length : Int) = (t530.length : Int) then (heraldlaw10_RopeStretches.j2 kj32 a0 a1 t530 t531 bt551.1 bt551.2.1 ((bt551.2.1.length : Int) != (t531.length : Int))) else (heraldlaw10_RopeStretches.j2 kj32 a0 a1 t530 t531 bt551.1 bt551.2.1 true)) else (heraldlaw10_RopeStretches.j2 kj32 a0 a1 t530 t531 bt551.1 bt551.2.1 true))) else (heraldlaw10_RopeStretches.j2 kj32 a0 a1 t530 t531 bt551.1 bt551.2.1 true))) else (heraldlaw10_RopeStretches.j2 kj32 a0 a1 t530 t531 bt551.1 bt551.2.1 true)) else (heraldlaw10_RopeStretches.j2 kj32 a0 a1 t530 t531 bt551.1 bt551.2.1 true)))) = some r := by rw [if_neg (show ¬ (false = true) by decide)] at H; exact H
         clear H
         have H := H1
         clear H1
         replace H := Option.bind_eq_some_iff.mp H
         obtain ⟨⟨t544, t545, t546⟩, A410, H⟩ := H
         replace H : ((rope_Stretched.f kj32 a0 a1 1 2).bind fun bt551 => (if t546 = 0 then (if bt551.2.2 = 0 then ((heraldlaw10_same.f kj32 t544 t530).bind fun t558 => (if t558 = true then ((heraldlaw10_same.f kj32 t545 t531).bind fun t559 => (if t559 = true then (if (bt551.1.length : Int) = (t530.length : Int) then (heraldlaw10_RopeStretches.j2 kj32 a0 a1 t530 t531 bt551.1 bt551.2.1 ((bt551.2.1.length : Int) != (t531.length : Int))) else (heraldlaw10_RopeStretches.j2 kj32 a0 a1 t530 t531 bt551.1 bt551.2.1 true)) else (heraldlaw10_RopeStretches.j2 kj32 a0 a1 t530 t531 bt551.1 bt551.2.1 true))) else (heraldlaw10_RopeStretches.j2 kj32 a0 a1 t530 t531 bt551.1 bt551.2.1 true))) else (heraldlaw10_RopeStretches.j2 kj32 a0 a1 t530 t531 bt551.1 bt551.2.1 true)) else (heraldlaw10_RopeStretches.j2 kj32 a0 a1 t530 t531 bt551.1 bt551.2.1 true))) = some r := H
         have A41 := Aside0.mk A410
         clear A410
         replace H := Option.bind_eq_some_iff.mp H
         obtain ⟨⟨t551, t552, t553⟩, A420, H⟩ := H
         replace H : (if t546 = 0 then (if t553 = 0 then ((heraldlaw10_same.f kj32 t544 t530).bind fun t558 => (if t558 = true then ((heraldlaw10_same.f kj32 t545 t531).bind fun t559 => (if t559 = true then (if (t551.length : Int) = (t530.length : Int) then (heraldlaw10_RopeStretches.j2 kj32 a0 a1 t530 t531 t551 t552 ((t552.length : Int) != (t531.length : Int))) else (heraldlaw10_RopeStretches.j2 kj32 a0 a1 t530 t531 t551 t552 true)) else (heraldlaw10_RopeStretches.j2 kj32 a0 a1 t530 t531 t551 t552 true))) else (heraldlaw10_RopeStretches.j2 kj32 a0 a1 t530 t531 t551 t552 true))) else (heraldlaw10_RopeStretches.j2 kj32 a0 a1 t530 t531 t551 t552 true)) else (heraldlaw10_RopeStretches.j2 kj32 a0 a1 t530 t531 t551 t552 true)) = some r := H
         have A42 := Aside0.mk A420
         clear A420
         have HC43 := Aside0.mk H
         clear H
         have hcz44_0 : wc.cell? ⟨gb512, 0, none⟩ = some (.int .i64 a2_0) := (blk_cell BK512.out 0).trans rfl
         have hcz44_1 : wc.cell? ⟨gb512, 1, none⟩ = some (.int .i64 a2_1) := (blk_cell BK512.out 1).trans rfl
         have hfz44_0 := blk_frozen BK512.out 0
         have hfz44_1 := blk_frozen BK512.out 1
         go_upto_region 15 with (first | ((with_reducible refine gate_callee (f := 24) rfl ?_); refine goesL_ (some 100) rfl rfl Tryd.func24 (by kernel_rfl) rfl #[.int .i64 a0, .int .i64 a1, .int .i64 a2_0, .int .i64 a2_0] rfl (by (try simp only [List.map_toArray, List.map_cons, List.map_nil]); first | done | rfl | (simp only [List.length_drop, List.length_take]; rfl)) ?_; (with_reducible refine (rope_Stretched.calls kj32 a0 a1 a2_0 a2_0 t544 t545 t546 _ A41.out (tab_of HTAB.out (by repeat (first | (with_reducible first | exact HB.out | apply below_alloc | apply pw_below_drewN | apply below_drew1) | exact HB.out | exact Below.refl _ _)))).mono ?_); rintro e w45 ⟨v547, v549, rfl, ho0, ho1, hb⟩; refine ⟨_, rfl, ?_⟩; have n0_ := Aside0.mk (Kd.R_mono (Kd.R_told (Kd.R_told (Kd.R_old (by (with_reducible repeat (first | apply Kd.R_alloc | apply Kd.R_drewN | apply Kd.R_drew)); exact HO_13.out) hb) (Kd.R_base ho0)) (Kd.R_base ho1)) (fun _ h_ => h_.1)); have n1_ := Aside0.mk (Kd.R_mono (Kd.R_told (Kd.R_told (Kd.R_old (by (with_reducible repeat (first | apply Kd.R_alloc | apply Kd.R_drewN | apply Kd.R_drew)); exact HO_14.out) hb) (Kd.R_base ho0)) (Kd.R_base ho1)) (fun _ h_ => h_.1)); have n2_ := Aside0.mk (Kd.R_lower (Kd.R_new' (Kd.R_new' ho0 (Kd.R_lt (by (with_reducible repeat (first | apply Kd.R_alloc | apply Kd.R_drewN | apply Kd.R_drew)); exact HO_13.out))) (Kd.R_lt (by (with_reducible repeat (first | apply Kd.R_alloc | apply Kd.R_drewN | apply Kd.R_drew)); exact HO_14.out))) (below_size (by repeat (first | (with_reducible first | exact HB.out | apply below_alloc | apply pw_below_drewN | apply below_drew1 | refine below_set ?_ GE512.out) | exact HB.out)))); have n3_ := Aside0.mk (Kd.R_lower (Kd.R_new' (Kd.R_new' ho1 (Kd.R_lt (by (with_reducible repeat (first | apply Kd.R_alloc | apply Kd.R_drewN | apply Kd.R_drew)); exact HO_13.out))) (Kd.R_lt (by (with_reducible repeat (first | apply Kd.R_alloc | apply Kd.R_drewN | apply Kd.R_drew)); exact HO_14.out))) (below_size (by repeat (first | (with_reducible first | exact HB.out | apply below_alloc | apply pw_below_drewN | apply below_drew1 | refine below_set ?_ GE512.out) | exact HB.out)))); have n4_ := Aside0.mk (blk_below (g := gb512) (o := .cells #[.int .i64 a2_0, .int .i64 a2_1] 53 (0, 0)) (by (with_reducible repeat (first | refine blk_drewN ?_ _ | refine blk_drew ?_ | refine blk_alloc ?_ _)); exact BK512.out) hb); have n5_ := Aside0.mk (below_step (by repeat (first | (with_reducible first | exact HB.out | apply below_alloc | apply pw_below_drewN | apply below_drew1 | refine below_set ?_ GE512.out) | exact HB.out)) hb); clear HO_13; clear HO_14; clear BK512; clear HB; have HO_13 := n0_; have HO_14 := n1_; have HO548 := n2_; have HO550 := n3_; have BK512 := n4_; have HB := n5_; clear n0_ n1_ n2_ n3_ n4_ n5_; (try clear hb); (try clear hb2); (try clear hk); (try clear hi); (try clear ho0); (try clear ho1)) | ((with_reducible refine gate_callee (f := 24) rfl ?_); refine goesL_ (some 107) rfl rfl Tryd.func24 (by kernel_rfl) rfl #[.int .i64 a0, .int .i64 a1, .int .i64 1, .int .i64 2] rfl (by (try simp only [List.map_toArray, List.map_cons, List.map_nil]); first | done | rfl | (simp only [List.length_drop, List.length_take]; rfl)) ?_; (with_reducible refine (rope_Stretched.calls kj32 a0 a1 1 2 t551 t552 t553 _ A42.out (tab_of HTAB.out (by repeat (first | (with_reducible first | exact HB.out | apply below_alloc | apply pw_below_drewN | apply below_drew1) | exact HB.out | exact Below.refl _ _)))).mono ?_); rintro e w46 ⟨v554, v556, rfl, ho0, ho1, hb⟩; refine ⟨_, rfl, ?_⟩; have n0_ := Aside0.mk (Kd.R_mono (Kd.R_told (Kd.R_told (Kd.R_old (by (with_reducible repeat (first | apply Kd.R_alloc | apply Kd.R_drewN | apply Kd.R_drew)); exact HO_13.out) hb) (Kd.R_base ho0)) (Kd.R_base ho1)) (fun _ h_ => h_.1)); have n1_ := Aside0.mk (Kd.R_mono (Kd.R_told (Kd.R_told (Kd.R_old (by (with_reducible repeat (first | apply Kd.R_alloc | apply Kd.R_drewN | apply Kd.R_drew)); exact HO_14.out) hb) (Kd.R_base ho0)) (Kd.R_base ho1)) (fun _ h_ => h_.1)); have n2_ := Aside0.mk (Kd.R_mono (Kd.R_told (Kd.R_told (Kd.R_old (by (with_reducible repeat (first | apply Kd.R_alloc | apply Kd.R_drewN | apply Kd.R_drew)); exact HO548.out) hb) (Kd.R_base ho0)) (Kd.R_base ho1)) (fun _ h_ => h_.1)); have n3_ := Aside0.mk (Kd.R_mono (Kd.R_told (Kd.R_told (Kd.R_old (by (with_reducible repeat (first | apply Kd.R_alloc | apply Kd.R_drewN | apply Kd.R_drew)); exact HO550.out) hb) (Kd.R_base ho0)) (Kd.R_base ho1)) (fun _ h_ => h_.1)); have n4_ := Aside0.mk (Kd.R_lower (Kd.R_new' (Kd.R_new' (Kd.R_new' (Kd.R_new' ho0 (Kd.R_lt (by (with_reducible repeat (first | apply Kd.R_alloc | apply Kd.R_drewN | apply Kd.R_drew)); exact HO_13.out))) (Kd.R_lt (by (with_reducible repeat (first | apply Kd.R_alloc | apply Kd.R_drewN | apply Kd.R_drew)); exact HO_14.out))) (Kd.R_lt (by (with_reducible repeat (first | apply Kd.R_alloc | apply Kd.R_drewN | apply Kd.R_drew)); exact HO548.out))) (Kd.R_lt (by (with_reducible repeat (first | apply Kd.R_alloc | apply Kd.R_drewN | apply Kd.R_drew)); exact HO550.out))) (below_size (by repeat (first | (with_reducible first | exact HB.out | apply below_alloc | apply pw_below_drewN | apply below_drew1 | refine below_set ?_ GE512.out) | exact HB.out)))); have n5_ := Aside0.mk (Kd.R_lower (Kd.R_new' (Kd.R_new' (Kd.R_new' (Kd.R_new' ho1 (Kd.R_lt (by (with_reducible repeat (first | apply Kd.R_alloc | apply Kd.R_drewN | apply Kd.R_drew)); exact HO_13.out))) (Kd.R_lt (by (with_reducible repeat (first | apply Kd.R_alloc | apply Kd.R_drewN | apply Kd.R_drew)); exact HO_14.out))) (Kd.R_lt (by (with_reducible repeat (first | apply Kd.R_alloc | apply Kd.R_drewN | apply Kd.R_drew)); exact HO548.out))) (Kd.R_lt (by (with_reducible repeat (first | apply Kd.R_alloc | apply Kd.R_drewN | apply Kd.R_drew)); exact HO550.out))) (below_size (by repeat (first | (with_reducible first | exact HB.out | apply below_alloc | apply pw_below_drewN | apply below_drew1 | refine below_set ?_ GE512.out) | exact HB.out)))); have n6_ := Aside0.mk (blk_below (g := gb512) (o := .cells #[.int .i64 a2_0, .int .i64 a2_1] 53 (0, 0)) (by (with_reducible repeat (first | refine blk_drewN ?_ _ | refine blk_drew ?_ | refine blk_alloc ?_ _)); exact BK512.out) hb); have n7_ := Aside0.mk (below_step (by repeat (first | (with_reducible first | exact HB.out | apply below_alloc | apply pw_below_drewN | apply below_drew1 | refine below_set ?_ GE512.out) | exact HB.out)) hb); clear HO_13; clear HO_14; clear HO548; clear HO550; clear BK512; clear HB; have HO_13 := n0_; have HO_14 := n1_; have HO548 := n2_; have HO550 := n3_; have HO555 := n4_; have HO557 := n5_; have BK512 := n6_; have HB := n7_; clear n0_ n1_ n2_ n3_ n4_ n5_ n6_ n7_; (try clear hb); (try clear hb2); (try clear hk); (try clear hi); (try clear ho0); (try clear ho1)))
         (try simp only [Act.put, List.setIfInBounds_toArray, List.set_cons_zero, List.set_cons_succ])
         go_cut [142] (fun v142 wc => ∃ (kq : Nat) (x142_42 : Bool), v142 = .bool x142_42 ∧ Aside0 (heraldlaw10_RopeStretches.j2 kq a0 a1 t530 t531 t551 t552 x142_42 = some r) ∧ Aside0 (kq ≤ kj32) ∧ Aside0 (Kd.R (Kd.int .i8) 33 wc w.heap.size (fun k_ => some k_ ≠ (v535 : Value).ownBlock ∧ some k_ ≠ (v554 : Value).ownBlock ∧ some k_ ≠ (v556 : Value).ownBlock) v533 t530) ∧ Aside0 (Kd.R (Kd.int .i8) 33 wc w.heap.size (fun k_ => some k_ ≠ (v533 : Value).ownBlock ∧ some k_ ≠ (v554 : Value).ownBlock ∧ some k_ ≠ (v556 : Value).ownBlock) v535 t531) ∧ Aside0 (Kd.R (Kd.int .i8) 33 wc w.heap.size (fun k_ => some k_ ≠ (v533 : Value).ownBlock ∧ some k_ ≠ (v535 : Value).ownBlock ∧ some k_ ≠ (v556 : Value).ownBlock) v554 t551) ∧ Aside0 (Kd.R (Kd.int .i8) 33 wc w.heap.size (fun k_ => some k_ ≠ (v533 : Value).ownBlock ∧ some k_ ≠ (v535 : Value).ownBlock ∧ some k_ ≠ (v554 : Value).ownBlock) v556 t552) ∧ Aside0 (wc.heap[gb512]? = some (.cells #[.int .i64 a2_0, .int .i64 a2_1] 53 (0, 0))) ∧ Aside0 (Below w.heap.size w wc))
         case first =>
          have H := HC43.out
          clear HC43
          by_cases c47 : t546 = 0
          ·
           as_aux_lemma =>
           rw [if_pos c47] at H
           have c47b0 : (t546 == 0) = true := beq_iff_eq.mpr c47
           have c47b1 : (t546 != 0) = false := bne_eq_false_iff_eq.mpr c47
           clear c47
           (first | rw [c47b0] | (simp only [i64_w, i32_w]; rw [c47b0]) | skip)
           by_cases c48 : t553 = 0
           ·
            as_aux_lemma =>
            rw [if_pos c48] at H
            have c48b0 : (t553 == 0) = true := beq_iff_eq.mpr c48
            have c48b1 : (t553 != 0) = false := bne_eq_false_iff_eq.mpr c48
            clear c48
            replace H := Option.bind_eq_some_iff.mp H
            obtain ⟨t558, A490, H⟩ := H
            replace H : (if t558 = true then ((heraldlaw10_same.f kj32 t545 t531).bind fun t559 => (if t559 = true then (if (t551.length : Int) = (t530.length : Int) then (heraldlaw10_RopeStretches.j2 kj32 a0 a1 t530 t531 t551 t552 ((t552.length : Int) != (t531.length : Int))) else (heraldlaw10_RopeStretches.j2 kj32 a0 a1 t530 t531 t551 t552 true)) else (heraldlaw10_RopeStretches.j2 kj32 a0 a1 t530 t531 t551 t552 true))) else (heraldlaw10_RopeStretches.j2 kj32 a0 a1 t530 t531 t551 t552 true)) = some r := H
            have A49 := Aside0.mk A490
            clear A490
            by_cases c50 : t558 = true
            ·
             as_aux_lemma =>
             subst c50
             have H1 : ((heraldlaw10_same.f kj32 t545 t531).bind fun t559 => (if t559 = true then (if (t551.length : Int) = (t530.length : Int) then (heraldlaw10_RopeStretches.j2 kj32 a0 a1 t530 t531 t551 t552 ((t552.length : Int) != (t531.length : Int))) else (heraldlaw10_RopeStretches.j2 kj32 a0 a1 t530 t531 t551 t552 true)) else (heraldlaw10_RopeStretches.j2 kj32 a0 a1 t530 t531 t551 t552 true))) = some r := by rw [if_pos rfl] at H; exact H
             clear H
             have H := H1
             clear H1
             replace H := Option.bind_eq_some_iff.mp H
             obtain ⟨t559, A510, H⟩ := H
             replace H : (if t559 = true then (if (t551.length : Int) = (t530.length : Int) then (heraldlaw10_RopeStretches.j2 kj32 a0 a1 t530 t531 t551 t552 ((t552.length : Int) != (t531.length : Int))) else (heraldlaw10_RopeStretches.j2 kj32 a0 a1 t530 t531 t551 t552 true)) else (heraldlaw10_RopeStretches.j2 kj32 a0 a1 t530 t531 t551 t552 true)) = some r := H
             have A51 := Aside0.mk A510
             clear A510
             by_cases c52 : t559 = true
             ·
              as_aux_lemma =>
              subst c52
              have H1 : (if (t551.length : Int) = (t530.length : Int) then (heraldlaw10_RopeStretches.j2 kj32 a0 a1 t530 t531 t551 t552 ((t552.length : Int) != (t531.length : Int))) else (heraldlaw10_RopeStretches.j2 kj32 a0 a1 t530 t531 t551 t552 true)) = some r := by rw [if_pos rfl] at H; exact H
              clear H
              have H := H1
              clear H1
              by_cases c53 : (t551.length : Int) = (t530.length : Int)
              ·
               as_aux_lemma =>
               rw [if_pos c53] at H
               have c53b0 : ((t551.length : Int) == (t530.length : Int)) = true := beq_iff_eq.mpr c53
               have c53b1 : ((t551.length : Int) != (t530.length : Int)) = false := bne_eq_false_iff_eq.mpr c53
               have c53b2 : (t551.length == t530.length) = true := by first | simpa using c53 | (simp at c53 ⊢; omega)
               clear c53
               have H' := Aside0.mk H
               clear H
               obtain ⟨Ao54, co54, eo54⟩ := Kd.R_slice HO548.out
               subst eo54
               obtain ⟨Ao55, co55, eo55⟩ := Kd.R_slice HO_13.out
               subst eo55
               go_wp2_with (first | (go_at_call 13; (with_reducible refine (heraldlaw10_same.calls kj32 _ _ t544 _ _ t530 true _ ?side1 ?side2 ?side3 ?side4 A49.out).mono ?_); (case side1 => repeat (first | exact (Kd.R_reads' HO548.out).2.2 | (with_reducible refine Kd.C_alloc ?_ _) | (with_reducible refine Kd.C_drewN ?_ _) | (with_reducible refine Kd.C_drew ?_))); (case side2 => exact (Kd.R_reads' HO548.out).2.1); (case side3 => repeat (first | exact (Kd.R_reads' HO_13.out).2.2 | (with_reducible refine Kd.C_alloc ?_ _) | (with_reducible refine Kd.C_drewN ?_ _) | (with_reducible refine Kd.C_drew ?_))); (case side4 => exact (Kd.R_reads' HO_13.out).2.1); rintro e w' ⟨rfl, ⟨nd, rfl⟩⟩; obtain ⟨Ao56, co56, eo56⟩ := Kd.R_slice HO550.out; subst eo56; obtain ⟨Ao57, co57, eo57⟩ := Kd.R_slice HO_14.out; subst eo57) | (go_at_call 13; (with_reducible refine (heraldlaw10_same.calls kj32 _ _ t545 _ _ t531 true _ ?side1 ?side2 ?side3 ?side4 A51.out).mono ?_); (case side1 => repeat (first | exact (Kd.R_reads' HO550.out).2.2 | (with_reducible refine Kd.C_alloc ?_ _) | (with_reducible refine Kd.C_drewN ?_ _) | (with_reducible refine Kd.C_drew ?_))); (case side2 => exact (Kd.R_reads' HO550.out).2.1); (case side3 => repeat (first | exact (Kd.R_reads' HO_14.out).2.2 | (with_reducible refine Kd.C_alloc ?_ _) | (with_reducible refine Kd.C_drewN ?_ _) | (with_reducible refine Kd.C_drew ?_))); (case side4 => exact (Kd.R_reads' HO_14.out).2.1); rintro e w' ⟨rfl, ⟨nd, rfl⟩⟩; obtain ⟨Ao58, co58, eo58⟩ := Kd.R_slice HO555.out; subst eo58; obtain ⟨Ao59, co59, eo59⟩ := Kd.R_slice HO557.out; subst eo59))
               go_meet
               case rel => exact ⟨_, (((t552.length : Int) != (t531.length : Int))), (by first | rfl | (simp; done) | (simp [*]; done)), H', ⟨by have := HJ7.out; have := HJ32.out; first | omega | exact Nat.le_refl _⟩, ⟨by (with_reducible repeat (first | apply Kd.R_alloc | apply Kd.R_drewN | apply Kd.R_drew)); exact Kd.R_mono HO_13.out (fun _ hk => ⟨hk.1.1.1.1, ⟨hk.1.2, hk.2⟩⟩)⟩, ⟨by (with_reducible repeat (first | apply Kd.R_alloc | apply Kd.R_drewN | apply Kd.R_drew)); exact Kd.R_mono HO_14.out (fun _ hk => ⟨hk.1.1.1.1, ⟨hk.1.2, hk.2⟩⟩)⟩, ⟨by (with_reducible repeat (first | apply Kd.R_alloc | apply Kd.R_drewN | apply Kd.R_drew)); exact Kd.R_mono HO555.out (fun _ hk => ⟨hk.1.1.1.2, ⟨hk.1.1.2, hk.1.1.1.1⟩⟩)⟩, ⟨by (with_reducible repeat (first | apply Kd.R_alloc | apply Kd.R_drewN | apply Kd.R_drew)); exact Kd.R_mono HO557.out (fun _ hk => ⟨hk.1.1.1.2, ⟨hk.1.1.2, hk.1.1.1.1⟩⟩)⟩, ⟨by (with_reducible repeat (first | refine blk_drewN ?_ _ | refine blk_drew ?_ | refine blk_alloc ?_ _)); exact BK512.out⟩, ⟨by repeat (first | (with_reducible first | exact HB.out | apply below_alloc | apply pw_below_drewN | apply below_drew1 | refine below_set ?_ GE512.out) | exact HB.out)⟩⟩
              ·
               as_aux_lemma =>
               rw [if_neg c53] at H
               have c53b0 : ((t551.length : Int) == (t530.length : Int)) = false := beq_eq_false_iff_ne.mpr c53
               have c53b1 : ((t551.length : Int) != (t530.length : Int)) = true := bne_iff_ne.mpr c53
               have c53b2 : (t551.length == t530.length) = false := by first | simpa using c53 | (simp at c53 ⊢; omega)
               have H' := Aside0.mk H
               clear H
               obtain ⟨Ao60, co60, eo60⟩ := Kd.R_slice HO548.out
               subst eo60
               obtain ⟨Ao61, co61, eo61⟩ := Kd.R_slice HO_13.out
               subst eo61
               go_wp2_with (first | (go_at_call 13; (with_reducible refine (heraldlaw10_same.calls kj32 _ _ t544 _ _ t530 true _ ?side1 ?side2 ?side3 ?side4 A49.out).mono ?_); (case side1 => repeat (first | exact (Kd.R_reads' HO548.out).2.2 | (with_reducible refine Kd.C_alloc ?_ _) | (with_reducible refine Kd.C_drewN ?_ _) | (with_reducible refine Kd.C_drew ?_))); (case side2 => exact (Kd.R_reads' HO548.out).2.1); (case side3 => repeat (first | exact (Kd.R_reads' HO_13.out).2.2 | (with_reducible refine Kd.C_alloc ?_ _) | (with_reducible refine Kd.C_drewN ?_ _) | (with_reducible refine Kd.C_drew ?_))); (case side4 => exact (Kd.R_reads' HO_13.out).2.1); rintro e w' ⟨rfl, ⟨nd, rfl⟩⟩; obtain ⟨Ao62, co62, eo62⟩ := Kd.R_slice HO550.out; subst eo62; obtain ⟨Ao63, co63, eo63⟩ := Kd.R_slice HO_14.out; subst eo63) | (go_at_call 13; (with_reducible refine (heraldlaw10_same.calls kj32 _ _ t545 _ _ t531 true _ ?side1 ?side2 ?side3 ?side4 A51.out).mono ?_); (case side1 => repeat (first | exact (Kd.R_reads' HO550.out).2.2 | (with_reducible refine Kd.C_alloc ?_ _) | (with_reducible refine Kd.C_drewN ?_ _) | (with_reducible refine Kd.C_drew ?_))); (case side2 => exact (Kd.R_reads' HO550.out).2.1); (case side3 => repeat (first | exact (Kd.R_reads' HO_14.out).2.2 | (with_reducible refine Kd.C_alloc ?_ _) | (with_reducible refine Kd.C_drewN ?_ _) | (with_reducible refine Kd.C_drew ?_))); (case side4 => exact (Kd.R_reads' HO_14.out).2.1); rintro e w' ⟨rfl, ⟨nd, rfl⟩⟩; obtain ⟨Ao64, co64, eo64⟩ := Kd.R_slice HO555.out; subst eo64))
               go_meet
               case rel => exact ⟨_, (true), (by first | rfl | (simp; done) | (simp [*]; done)), H', ⟨by have := HJ7.out; have := HJ32.out; first | omega | exact Nat.le_refl _⟩, ⟨by (with_reducible repeat (first | apply Kd.R_alloc | apply Kd.R_drewN | apply Kd.R_drew)); exact Kd.R_mono HO_13.out (fun _ hk => ⟨hk.1.1.1.1, ⟨hk.1.2, hk.2⟩⟩)⟩, ⟨by (with_reducible repeat (first | apply Kd.R_alloc | apply Kd.R_drewN | apply Kd.R_drew)); exact Kd.R_mono HO_14.out (fun _ hk => ⟨hk.1.1.1.1, ⟨hk.1.2, hk.2⟩⟩)⟩, ⟨by (with_reducible repeat (first | apply Kd.R_alloc | apply Kd.R_drewN | apply Kd.R_drew)); exact Kd.R_mono HO555.out (fun _ hk => ⟨hk.1.1.1.2, ⟨hk.1.1.2, hk.1.1.1.1⟩⟩)⟩, ⟨by (with_reducible repeat (first | apply Kd.R_alloc | apply Kd.R_drewN | apply Kd.R_drew)); exact Kd.R_mono HO557.out (fun _ hk => ⟨hk.1.1.1.2, ⟨hk.1.1.2, hk.1.1.1.1⟩⟩)⟩, ⟨by (with_reducible repeat (first | refine blk_drewN ?_ _ | refine blk_drew ?_ | refine blk_alloc ?_ _)); exact BK512.out⟩, ⟨by repeat (first | (with_reducible first | exact HB.out | apply below_alloc | apply pw_below_drewN | apply below_drew1 | refine below_set ?_ GE512.out) | exact HB.out)⟩⟩
             ·
              as_aux_lemma =>
              replace c52 := Bool.eq_false_iff.mpr c52
              subst c52
              have H1 : (heraldlaw10_RopeStretches.j2 kj32 a0 a1 t530 t531 t551 t552 true) = some r := by rw [if_neg (show ¬ (false = true) by decide)] at H; exact H
              clear H
              have H := H1
              clear H1
              have H' := Aside0.mk H
              clear H
              obtain ⟨Ao65, co65, eo65⟩ := Kd.R_slice HO548.out
              subst eo65
              obtain ⟨Ao66, co66, eo66⟩ := Kd.R_slice HO_13.out
              subst eo66
              go_wp2_with (first | (go_at_call 13; (with_reducible refine (heraldlaw10_same.calls kj32 _ _ t544 _ _ t530 true _ ?side1 ?side2 ?side3 ?side4 A49.out).mono ?_); (case side1 => repeat (first | exact (Kd.R_reads' HO548.out).2.2 | (with_reducible refine Kd.C_alloc ?_ _) | (with_reducible refine Kd.C_drewN ?_ _) | (with_reducible refine Kd.C_drew ?_))); (case side2 => exact (Kd.R_reads' HO548.out).2.1); (case side3 => repeat (first | exact (Kd.R_reads' HO_13.out).2.2 | (with_reducible refine Kd.C_alloc ?_ _) | (with_reducible refine Kd.C_drewN ?_ _) | (with_reducible refine Kd.C_drew ?_))); (case side4 => exact (Kd.R_reads' HO_13.out).2.1); rintro e w' ⟨rfl, ⟨nd, rfl⟩⟩; obtain ⟨Ao67, co67, eo67⟩ := Kd.R_slice HO550.out; subst eo67; obtain ⟨Ao68, co68, eo68⟩ := Kd.R_slice HO_14.out; subst eo68) | (go_at_call 13; (with_reducible refine (heraldlaw10_same.calls kj32 _ _ t545 _ _ t531 false _ ?side1 ?side2 ?side3 ?side4 A51.out).mono ?_); (case side1 => repeat (first | exact (Kd.R_reads' HO550.out).2.2 | (with_reducible refine Kd.C_alloc ?_ _) | (with_reducible refine Kd.C_drewN ?_ _) | (with_reducible refine Kd.C_drew ?_))); (case side2 => exact (Kd.R_reads' HO550.out).2.1); (case side3 => repeat (first | exact (Kd.R_reads' HO_14.out).2.2 | (with_reducible refine Kd.C_alloc ?_ _) | (with_reducible refine Kd.C_drewN ?_ _) | (with_reducible refine Kd.C_drew ?_))); (case side4 => exact (Kd.R_reads' HO_14.out).2.1); rintro e w' ⟨rfl, ⟨nd, rfl⟩⟩))
              go_meet
              case rel => exact ⟨_, (true), (by first | rfl | (simp; done) | (simp [*]; done)), H', ⟨by have := HJ7.out; have := HJ32.out; first | omega | exact Nat.le_refl _⟩, ⟨by (with_reducible repeat (first | apply Kd.R_alloc | apply Kd.R_drewN | apply Kd.R_drew)); exact Kd.R_mono HO_13.out (fun _ hk => ⟨hk.1.1.1.1, ⟨hk.1.2, hk.2⟩⟩)⟩, ⟨by (with_reducible repeat (first | apply Kd.R_alloc | apply Kd.R_drewN | apply Kd.R_drew)); exact Kd.R_mono HO_14.out (fun _ hk => ⟨hk.1.1.1.1, ⟨hk.1.2, hk.2⟩⟩)⟩, ⟨by (with_reducible repeat (first | apply Kd.R_alloc | apply Kd.R_drewN | apply Kd.R_drew)); exact Kd.R_mono HO555.out (fun _ hk => ⟨hk.1.1.1.2, ⟨hk.1.1.2, hk.1.1.1.1⟩⟩)⟩, ⟨by (with_reducible repeat (first | apply Kd.R_alloc | apply Kd.R_drewN | apply Kd.R_drew)); exact Kd.R_mono HO557.out (fun _ hk => ⟨hk.1.1.1.2, ⟨hk.1.1.2, hk.1.1.1.1⟩⟩)⟩, ⟨by (with_reducible repeat (first | refine blk_drewN ?_ _ | refine blk_drew ?_ | refine blk_alloc ?_ _)); exact BK512.out⟩, ⟨by repeat (first | (with_reducible first | exact HB.out | apply below_alloc | apply pw_below_drewN | apply below_drew1 | refine below_set ?_ GE512.out) | exact HB.out)⟩⟩
            ·
             as_aux_lemma =>
             replace c50 := Bool.eq_false_iff.mpr c50
             subst c50
             have H1 : (heraldlaw10_RopeStretches.j2 kj32 a0 a1 t530 t531 t551 t552 true) = some r := by rw [if_neg (show ¬ (false = true) by decide)] at H; exact H
             clear H
             have H := H1
             clear H1
             have H' := Aside0.mk H
             clear H
             obtain ⟨Ao69, co69, eo69⟩ := Kd.R_slice HO548.out
             subst eo69
             obtain ⟨Ao70, co70, eo70⟩ := Kd.R_slice HO_13.out
             subst eo70
             go_wp2_with (first | (go_at_call 13; (with_reducible refine (heraldlaw10_same.calls kj32 _ _ t544 _ _ t530 false _ ?side1 ?side2 ?side3 ?side4 A49.out).mono ?_); (case side1 => repeat (first | exact (Kd.R_reads' HO548.out).2.2 | (with_reducible refine Kd.C_alloc ?_ _) | (with_reducible refine Kd.C_drewN ?_ _) | (with_reducible refine Kd.C_drew ?_))); (case side2 => exact (Kd.R_reads' HO548.out).2.1); (case side3 => repeat (first | exact (Kd.R_reads' HO_13.out).2.2 | (with_reducible refine Kd.C_alloc ?_ _) | (with_reducible refine Kd.C_drewN ?_ _) | (with_reducible refine Kd.C_drew ?_))); (case side4 => exact (Kd.R_reads' HO_13.out).2.1); rintro e w' ⟨rfl, ⟨nd, rfl⟩⟩))
             go_meet
             case rel => exact ⟨_, (true), (by first | rfl | (simp; done) | (simp [*]; done)), H', ⟨by have := HJ7.out; have := HJ32.out; first | omega | exact Nat.le_refl _⟩, ⟨by (with_reducible repeat (first | apply Kd.R_alloc | apply Kd.R_drewN | apply Kd.R_drew)); exact Kd.R_mono HO_13.out (fun _ hk => ⟨hk.1.1.1.1, ⟨hk.1.2, hk.2⟩⟩)⟩, ⟨by (with_reducible repeat (first | apply Kd.R_alloc | apply Kd.R_drewN | apply Kd.R_drew)); exact Kd.R_mono HO_14.out (fun _ hk => ⟨hk.1.1.1.1, ⟨hk.1.2, hk.2⟩⟩)⟩, ⟨by (with_reducible repeat (first | apply Kd.R_alloc | apply Kd.R_drewN | apply Kd.R_drew)); exact Kd.R_mono HO555.out (fun _ hk => ⟨hk.1.1.1.2, ⟨hk.1.1.2, hk.1.1.1.1⟩⟩)⟩, ⟨by (with_reducible repeat (first | apply Kd.R_alloc | apply Kd.R_drewN | apply Kd.R_drew)); exact Kd.R_mono HO557.out (fun _ hk => ⟨hk.1.1.1.2, ⟨hk.1.1.2, hk.1.1.1.1⟩⟩)⟩, ⟨by (with_reducible repeat (first | refine blk_drewN ?_ _ | refine blk_drew ?_ | refine blk_alloc ?_ _)); exact BK512.out⟩, ⟨by repeat (first | (with_reducible first | exact HB.out | apply below_alloc | apply pw_below_drewN | apply below_drew1 | refine below_set ?_ GE512.out) | exact HB.out)⟩⟩
           ·
            as_aux_lemma =>
            rw [if_neg c48] at H
            have c48b0 : (t553 == 0) = false := beq_eq_false_iff_ne.mpr c48
            have c48b1 : (t553 != 0) = true := bne_iff_ne.mpr c48
            have H' := Aside0.mk H
            clear H
            go_wp2
            go_meet
            case rel => exact ⟨_, (true), (by first | rfl | (simp; done) | (simp [*]; done)), H', ⟨by have := HJ7.out; have := HJ32.out; first | omega | exact Nat.le_refl _⟩, ⟨by (with_reducible repeat (first | apply Kd.R_alloc | apply Kd.R_drewN | apply Kd.R_drew)); exact Kd.R_mono HO_13.out (fun _ hk => ⟨hk.1.1.1.1, ⟨hk.1.2, hk.2⟩⟩)⟩, ⟨by (with_reducible repeat (first | apply Kd.R_alloc | apply Kd.R_drewN | apply Kd.R_drew)); exact Kd.R_mono HO_14.out (fun _ hk => ⟨hk.1.1.1.1, ⟨hk.1.2, hk.2⟩⟩)⟩, ⟨by (with_reducible repeat (first | apply Kd.R_alloc | apply Kd.R_drewN | apply Kd.R_drew)); exact Kd.R_mono HO555.out (fun _ hk => ⟨hk.1.1.1.2, ⟨hk.1.1.2, hk.1.1.1.1⟩⟩)⟩, ⟨by (with_reducible repeat (first | apply Kd.R_alloc | apply Kd.R_drewN | apply Kd.R_drew)); exact Kd.R_mono HO557.out (fun _ hk => ⟨hk.1.1.1.2, ⟨hk.1.1.2, hk.1.1.1.1⟩⟩)⟩, ⟨by (with_reducible repeat (first | refine blk_drewN ?_ _ | refine blk_drew ?_ | refine blk_alloc ?_ _)); exact BK512.out⟩, ⟨by repeat (first | (with_reducible first | exact HB.out | apply below_alloc | apply pw_below_drewN | apply below_drew1 | refine below_set ?_ GE512.out) | exact HB.out)⟩⟩
          ·
           as_aux_lemma =>
           rw [if_neg c47] at H
           have c47b0 : (t546 == 0) = false := beq_eq_false_iff_ne.mpr c47
           have c47b1 : (t546 != 0) = true := bne_iff_ne.mpr c47
           (first | rw [c47b0] | (simp only [i64_w, i32_w]; rw [c47b0]) | skip)
           have H' := Aside0.mk H
           clear H
           go_wp2
           go_meet
           case rel => exact ⟨_, (true), (by first | rfl | (simp; done) | (simp [*]; done)), H', ⟨by have := HJ7.out; have := HJ32.out; first | omega | exact Nat.le_refl _⟩, ⟨by (with_reducible repeat (first | apply Kd.R_alloc | apply Kd.R_drewN | apply Kd.R_drew)); exact Kd.R_mono HO_13.out (fun _ hk => ⟨hk.1.1.1.1, ⟨hk.1.2, hk.2⟩⟩)⟩, ⟨by (with_reducible repeat (first | apply Kd.R_alloc | apply Kd.R_drewN | apply Kd.R_drew)); exact Kd.R_mono HO_14.out (fun _ hk => ⟨hk.1.1.1.1, ⟨hk.1.2, hk.2⟩⟩)⟩, ⟨by (with_reducible repeat (first | apply Kd.R_alloc | apply Kd.R_drewN | apply Kd.R_drew)); exact Kd.R_mono HO555.out (fun _ hk => ⟨hk.1.1.1.2, ⟨hk.1.1.2, hk.1.1.1.1⟩⟩)⟩, ⟨by (with_reducible repeat (first | apply Kd.R_alloc | apply Kd.R_drewN | apply Kd.R_drew)); exact Kd.R_mono HO557.out (fun _ hk => ⟨hk.1.1.1.2, ⟨hk.1.1.2, hk.1.1.1.1⟩⟩)⟩, ⟨by (with_reducible repeat (first | refine blk_drewN ?_ _ | refine blk_drew ?_ | refine blk_alloc ?_ _)); exact BK512.out⟩, ⟨by repeat (first | (with_reducible first | exact HB.out | apply below_alloc | apply pw_below_drewN | apply below_drew1 | refine below_set ?_ GE512.out) | exact HB.out)⟩⟩
         case rest =>
          clear HC43
          try clear c1
          try clear c2
          try clear p2
          try clear c3
          try clear c4
          try clear c5
          try clear c9
          try clear c10
          try clear c13
          try clear c16
          try clear c18
          try clear c19
          try clear c24
          try clear c25
          try clear c29
          try clear c32
          try clear c32b0
          try clear c32b1
          try clear c36
          try clear c36b0
          try clear c36b1
          try clear c37
          try clear c37b0
          try clear c40
          try clear c47
          try clear c47b0
          try clear c47b1
          try clear c48
          try clear c48b0
          try clear c48b1
          try clear c50
          try clear c52
          try clear c53
          try clear c53b0
          try clear c53b1
          try clear c53b2
          try clear hcz11_0
          try clear hcz11_1
          try clear hcz13_0
          try clear hcz13_1
          try clear hcz38_0
          try clear hcz38_1
          try clear hcz39_0
          try clear hcz39_1
          try clear hcz44_0
          try clear hcz44_1
          try clear hfz11_0
          try clear hfz11_1
          try clear hfz13_0
          try clear hfz13_1
          try clear hfz38_0
          try clear hfz38_1
          try clear hfz39_0
          try clear hfz39_1
          try clear hfz44_0
          try clear hfz44_1
          try clear p2
          obtain ⟨kq, x142_42, rfl, HA, HJ42, HO_13, HO_14, HO_21, HO_22, BK512, HB⟩ := hcut
          cases kq with
          | zero => exact absurd HA.out (by simp [heraldlaw10_RopeStretches.j2])
          | succ kj42 =>
           have H := HA.out
           clear HA
           simp only [heraldlaw10_RopeStretches.j2] at H
           by_cases c71 : x142_42 = true
           ·
            as_aux_lemma =>
            subst c71
            have H1 : (some false) = some r := by rw [if_pos rfl] at H; exact H
            clear H
            have H := H1
            clear H1
            obtain rfl := Option.some.inj H
            go_wp2
            go_ret
            exact ⟨by first | rfl | (simp [errW_none, errW_some] <;> rfl) | (simp [*, errW_none, errW_some] <;> rfl), by repeat (first | (with_reducible first | exact HB.out | apply below_alloc | apply pw_below_drewN | apply below_drew1 | refine below_set ?_ GE512.out) | exact HB.out)⟩
           ·
            as_aux_lemma =>
            replace c71 := Bool.eq_false_iff.mpr c71
            subst c71
            have H1 : (heraldlaw10_RopeStretches.l0 kj42 a0 a1 t530 t531 t551 t552 0) = some r := by rw [if_neg (show ¬ (false = true) by decide)] at H; exact H
            clear H
            have H := H1
            clear H1
            have H' := Aside0.mk H
            clear H
            go_wp2
            go_loopg [24] kj42 (fun kq v24 w' => ∃ (x24_4 : Int), v24 = .int .i64 x24_4 ∧ Aside0 (heraldlaw10_RopeStretches.l0 kq a0 a1 t530 t531 t551 t552 x24_4 = some r) ∧ Aside0 (kq ≤ kj42) ∧ Aside0 (Kd.R (Kd.int .i8) 33 w' w.heap.size (fun k_ => some k_ ≠ (v535 : Value).ownBlock ∧ some k_ ≠ (v554 : Value).ownBlock ∧ some k_ ≠ (v556 : Value).ownBlock) v533 t530) ∧ Aside0 (Kd.R (Kd.int .i8) 33 w' w.heap.size (fun k_ => some k_ ≠ (v533 : Value).ownBlock ∧ some k_ ≠ (v554 : Value).ownBlock ∧ some k_ ≠ (v556 : Value).ownBlock) v535 t531) ∧ Aside0 (Kd.R (Kd.int .i8) 33 w' w.heap.size (fun k_ => some k_ ≠ (v533 : Value).ownBlock ∧ some k_ ≠ (v535 : Value).ownBlock ∧ some k_ ≠ (v556 : Value).ownBlock) v554 t551) ∧ Aside0 (Kd.R (Kd.int .i8) 33 w' w.heap.size (fun k_ => some k_ ≠ (v533 : Value).ownBlock ∧ some k_ ≠ (v535 : Value).ownBlock ∧ some k_ ≠ (v554 : Value).ownBlock) v556 t552) ∧ Aside0 (w'.heap[gb512]? = some (.cells #[.int .i64 a2_0, .int .i64 a2_1] 53 (0, 0))) ∧ Aside0 (Below w.heap.size w w'))
            case atStart => exact ⟨(0), (by first | rfl | (simp; done) | (simp [*]; done)), H', ⟨Nat.le_refl _⟩, ⟨by (with_reducible repeat (first | apply Kd.R_alloc | apply Kd.R_drewN | apply Kd.R_drew)); exact HO_13.out⟩, ⟨by (with_reducible repeat (first | apply Kd.R_alloc | apply Kd.R_drewN | apply Kd.R_drew)); exact HO_14.out⟩, ⟨by (with_reducible repeat (first | apply Kd.R_alloc | apply Kd.R_drewN | apply Kd.R_drew)); exact HO_21.out⟩, ⟨by (with_reducible repeat (first | apply Kd.R_alloc | apply Kd.R_drewN | apply Kd.R_drew)); exact HO_22.out⟩, ⟨by (with_reducible repeat (first | refine blk_drewN ?_ _ | refine blk_drew ?_ | refine blk_alloc ?_ _)); exact BK512.out⟩, ⟨by repeat (first | (with_reducible first | exact HB.out | apply below_alloc | apply pw_below_drewN | apply below_drew1 | refine below_set ?_ GE512.out) | exact HB.out)⟩⟩
            case round =>
             clear H'
             try clear c1
             try clear c2
             try clear p2
             try clear c3
             try clear c4
             try clear c5
             try clear c7
             try clear c9
             try clear c10
             try clear c13
             try clear c16
             try clear c18
             try clear c19
             try clear c24
             try clear c25
             try clear c29
             try clear c32
             try clear c32b0
             try clear c32b1
             try clear c36
             try clear c36b0
             try clear c36b1
             try clear c37
             try clear c37b0
             try clear c40
             try clear c47
             try clear c47b0
             try clear c47b1
             try clear c48
             try clear c48b0
             try clear c48b1
             try clear c50
             try clear c52
             try clear c53
             try clear c53b0
             try clear c53b1
             try clear c53b2
             try clear c71
             try clear hcz11_0
             try clear hcz11_1
             try clear hcz13_0
             try clear hcz13_1
             try clear hcz38_0
             try clear hcz38_1
             try clear hcz39_0
             try clear hcz39_1
             try clear hcz44_0
             try clear hcz44_1
             try clear hfz11_0
             try clear hfz11_1
             try clear hfz13_0
             try clear hfz13_1
             try clear hfz38_0
             try clear hfz38_1
             try clear hfz39_0
             try clear hfz39_1
             try clear hfz44_0
             try clear hfz44_1
             try clear p2
             obtain ⟨x24_4, rfl, HA, HK4, HO_13, HO_14, HO_21, HO_22, BK512, HB⟩ := hrel
             cases gk with
             | zero => exact absurd HA.out (by simp [heraldlaw10_RopeStretches.l0])
             | succ k4 =>
              have H := HA.out
              clear HA
              simp only [heraldlaw10_RopeStretches.l0] at H
              by_cases c72 : (wrap64 (2 * x24_4)) < a0
              ·
               as_aux_lemma =>
               rw [if_pos c72] at H
               have c72b0 : decide ((wrap64 (2 * x24_4)) < a0) = true := decide_eq_true c72
               clear c72
               obtain ⟨ji73, hji73⟩ : ∃ j_ : Int, (wrap64 ((wrap64 (2 * x24_4)) * a1)) = j_ := ⟨_, rfl⟩
               replace H : (if 0 ≤ (ji73) then (if (ji73) ≤ (wrap64 ((ji73) + a1)) then (if (wrap64 ((ji73) + a1)) ≤ (t551.length : Int) then (if 0 ≤ (wrap64 (x24_4 * a1)) then (if (wrap64 (x24_4 * a1)) ≤ (wrap64 ((wrap64 (x24_4 * a1)) + a1)) then (if (wrap64 ((wrap64 (x24_4 * a1)) + a1)) ≤ (t530.length : Int) then ((heraldlaw10_same.f k4 ((t551.take ((wrap64 ((ji73) + a1)) : Int).toNat).drop ((ji73) : Int).toNat) ((t530.take ((wrap64 ((wrap64 (x24_4 * a1)) + a1)) : Int).toNat).drop ((wrap64 (x24_4 * a1)) : Int).toNat)).bind fun t568 => (if t568 = true then (if (wrap64 ((ji73) + a1)) ≤ (t552.length : Int) then (if (wrap64 ((wrap64 (x24_4 * a1)) + a1)) ≤ (t531.length : Int) then ((heraldlaw10_same.f k4 ((t552.take ((wrap64 ((ji73) + a1)) : Int).toNat).drop ((ji73) : Int).toNat) ((t531.take ((wrap64 ((wrap64 (x24_4 * a1)) + a1)) : Int).toNat).drop ((wrap64 (x24_4 * a1)) : Int).toNat)).bind fun t577 => (if t577 = true then (heraldlaw10_RopeStretches.l0 k4 a0 a1 t530 t531 t551 t552 (wrap64 (x24_4 + 1))) else (some false))) else (none)) else (none)) else (some false))) else (none)) else (none)) else (none)) else (none)) else (none)) else (none)) = some r := by first | (rw [hji73] at H; exact H) | (simp only [hji73] at H ⊢; exact H)
               have hji73w : (IntKind.i64.wrap ((wrap64 (2 * x24_4)) * a1)) = ji73 := (i64_w _).trans hji73
               by_cases c74 : 0 ≤ (ji73)
               ·
                as_aux_lemma =>
                rw [if_pos c74] at H
                have c74b0 := eq_true c74
                have c74b1 : decide (0 ≤ (ji73)) = true := decide_eq_true c74
                clear c74
                by_cases c75 : (ji73) ≤ (wrap64 ((ji73) + a1))
                ·
                 as_aux_lemma =>
                 rw [if_pos c75] at H
                 have c75b0 := eq_true c75
                 have c75b1 : decide ((ji73) ≤ (wrap64 ((ji73) + a1))) = true := decide_eq_true c75
                 by_cases c76 : (wrap64 ((ji73) + a1)) ≤ (t551.length : Int)
                 ·
                  as_aux_lemma =>
                  rw [if_pos c76] at H
                  have c76b0 := eq_true c76
                  have c76b1 : decide ((wrap64 ((ji73) + a1)) ≤ (t551.length : Int)) = true := decide_eq_true c76
                  obtain ⟨y560, hy560⟩ : ∃ y_ : List Int, y_ = ((t551.take ((wrap64 ((ji73) + a1)) : Int).toNat).drop ((ji73) : Int).toNat) := ⟨_, rfl⟩
                  replace H : (if 0 ≤ (wrap64 (x24_4 * a1)) then (if (wrap64 (x24_4 * a1)) ≤ (wrap64 ((wrap64 (x24_4 * a1)) + a1)) then (if (wrap64 ((wrap64 (x24_4 * a1)) + a1)) ≤ (t530.length : Int) then ((heraldlaw10_same.f k4 y560 ((t530.take ((wrap64 ((wrap64 (x24_4 * a1)) + a1)) : Int).toNat).drop ((wrap64 (x24_4 * a1)) : Int).toNat)).bind fun t568 => (if t568 = true then (if (wrap64 ((ji73) + a1)) ≤ (t552.length : Int) then (if (wrap64 ((wrap64 (x24_4 * a1)) + a1)) ≤ (t531.length : Int) then ((heraldlaw10_same.f k4 ((t552.take ((wrap64 ((ji73) + a1)) : Int).toNat).drop ((ji73) : Int).toNat) ((t531.take ((wrap64 ((wrap64 (x24_4 * a1)) + a1)) : Int).toNat).drop ((wrap64 (x24_4 * a1)) : Int).toNat)).bind fun t577 => (if t577 = true then (heraldlaw10_RopeStretches.l0 k4 a0 a1 t530 t531 t551 t552 (wrap64 (x24_4 + 1))) else (some false))) else (none)) else (none)) else (some false))) else (none)) else (none)) else (none)) = some r := by first | (rw [hy560]; with_reducible exact H) | (have H2_ := (Option.bind_some _ _).symm.trans H; rw [hy560]; with_reducible exact H2_) | (have H2_ := (Option.bind_some _ _).symm.trans H; with_reducible exact H2_) | with_reducible exact H | (rw [hy560]; exact H) | exact H
                  have Ny560 := Aside0.mk hy560
                  clear hy560
                  obtain ⟨ji77, hji77⟩ : ∃ j_ : Int, (wrap64 (x24_4 * a1)) = j_ := ⟨_, rfl⟩
                  replace H : (if 0 ≤ (ji77) then (if (ji77) ≤ (wrap64 ((ji77) + a1)) then (if (wrap64 ((ji77) + a1)) ≤ (t530.length : Int) then ((heraldlaw10_same.f k4 y560 ((t530.take ((wrap64 ((ji77) + a1)) : Int).toNat).drop ((ji77) : Int).toNat)).bind fun t568 => (if t568 = true then (if (wrap64 ((ji73) + a1)) ≤ (t552.length : Int) then (if (wrap64 ((ji77) + a1)) ≤ (t531.length : Int) then ((heraldlaw10_same.f k4 ((t552.take ((wrap64 ((ji73) + a1)) : Int).toNat).drop ((ji73) : Int).toNat) ((t531.take ((wrap64 ((ji77) + a1)) : Int).toNat).drop ((ji77) : Int).toNat)).bind fun t577 => (if t577 = true then (heraldlaw10_RopeStretches.l0 k4 a0 a1 t530 t531 t551 t552 (wrap64 (x24_4 + 1))) else (some false))) else (none)) else (none)) else (some false))) else (none)) else (none)) else (none)) = some r := by first | (rw [hji77] at H; exact H) | (simp only [hji77] at H ⊢; exact H)
                  have hji77w : (IntKind.i64.wrap (x24_4 * a1)) = ji77 := (i64_w _).trans hji77
                  by_cases c78 : 0 ≤ (ji77)
                  ·
                   as_aux_lemma =>
                   rw [if_pos c78] at H
                   have c78b0 := eq_true c78
                   have c78b1 : decide (0 ≤ (ji77)) = true := decide_eq_true c78
                   clear c78
                   by_cases c79 : (ji77) ≤ (wrap64 ((ji77) + a1))
                   ·
                    as_aux_lemma =>
                    rw [if_pos c79] at H
                    have c79b0 := eq_true c79
                    have c79b1 : decide ((ji77) ≤ (wrap64 ((ji77) + a1))) = true := decide_eq_true c79
                    by_cases c80 : (wrap64 ((ji77) + a1)) ≤ (t530.length : Int)
                    ·
                     as_aux_lemma =>
                     rw [if_pos c80] at H
                     have c80b0 := eq_true c80
                     have c80b1 : decide ((wrap64 ((ji77) + a1)) ≤ (t530.length : Int)) = true := decide_eq_true c80
                     obtain ⟨y564, hy564⟩ : ∃ y_ : List Int, y_ = ((t530.take ((wrap64 ((ji77) + a1)) : Int).toNat).drop ((ji77) : Int).toNat) := ⟨_, rfl⟩
                     replace H : ((heraldlaw10_same.f k4 y560 y564).bind fun t568 => (if t568 = true then (if (wrap64 ((ji73) + a1)) ≤ (t552.length : Int) then (if (wrap64 ((ji77) + a1)) ≤ (t531.length : Int) then ((heraldlaw10_same.f k4 ((t552.take ((wrap64 ((ji73) + a1)) : Int).toNat).drop ((ji73) : Int).toNat) ((t531.take ((wrap64 ((ji77) + a1)) : Int).toNat).drop ((ji77) : Int).toNat)).bind fun t577 => (if t577 = true then (heraldlaw10_RopeStretches.l0 k4 a0 a1 t530 t531 t551 t552 (wrap64 (x24_4 + 1))) else (some false))) else (none)) else (none)) else (some false))) = some r := by first | (rw [hy564]; with_reducible exact H) | (have H2_ := (Option.bind_some _ _).symm.trans H; rw [hy564]; with_reducible exact H2_) | (have H2_ := (Option.bind_some _ _).symm.trans H; with_reducible exact H2_) | with_reducible exact H | (rw [hy564]; exact H) | exact H
                     have Ny564 := Aside0.mk hy564
                     clear hy564
                     replace H := Option.bind_eq_some_iff.mp H
                     obtain ⟨t568, A810, H⟩ := H
                     replace H : (if t568 = true then (if (wrap64 ((ji73) + a1)) ≤ (t552.length : Int) then (if (wrap64 ((ji77) + a1)) ≤ (t531.length : Int) then ((heraldlaw10_same.f k4 ((t552.take ((wrap64 ((ji73) + a1)) : Int).toNat).drop ((ji73) : Int).toNat) ((t531.take ((wrap64 ((ji77) + a1)) : Int).toNat).drop ((ji77) : Int).toNat)).bind fun t577 => (if t577 = true then (heraldlaw10_RopeStretches.l0 k4 a0 a1 t530 t531 t551 t552 (wrap64 (x24_4 + 1))) else (some false))) else (none)) else (none)) else (some false)) = some r := H
                     have A81 := Aside0.mk A810
                     clear A810
                     by_cases c82 : t568 = true
                     ·
                      as_aux_lemma =>
                      subst c82
                      have H1 : (if (wrap64 ((ji73) + a1)) ≤ (t552.length : Int) then (if (wrap64 ((ji77) + a1)) ≤ (t531.length : Int) then ((heraldlaw10_same.f k4 ((t552.take ((wrap64 ((ji73) + a1)) : Int).toNat).drop ((ji73) : Int).toNat) ((t531.take ((wrap64 ((ji77) + a1)) : Int).toNat).drop ((ji77) : Int).toNat)).bind fun t577 => (if t577 = true then (heraldlaw10_RopeStretches.l0 k4 a0 a1 t530 t531 t551 t552 (wrap64 (x24_4 + 1))) else (some false))) else (none)) else (none)) = some r := by rw [if_pos rfl] at H; exact H
                      clear H
                      have H := H1
                      clear H1
                      have c83b0 := eq_true (of_decide_eq_true (by first | (with_reducible assumption) | assumption) : 0 ≤ (ji73))
                      have c84b0 := eq_true (of_decide_eq_true (by first | (with_reducible assumption) | assumption) : (ji73) ≤ (wrap64 ((ji73) + a1)))
                      by_cases c85 : (wrap64 ((ji73) + a1)) ≤ (t552.length : Int)
                      ·
                       as_aux_lemma =>
                       rw [if_pos c85] at H
                       have c85b0 := eq_true c85
                       have c85b1 : decide ((wrap64 ((ji73) + a1)) ≤ (t552.length : Int)) = true := decide_eq_true c85
                       obtain ⟨y569, hy569⟩ : ∃ y_ : List Int, y_ = ((t552.take ((wrap64 ((ji73) + a1)) : Int).toNat).drop ((ji73) : Int).toNat) := ⟨_, rfl⟩
                       replace H : (if (wrap64 ((ji77) + a1)) ≤ (t531.length : Int) then ((heraldlaw10_same.f k4 y569 ((t531.take ((wrap64 ((ji77) + a1)) : Int).toNat).drop ((ji77) : Int).toNat)).bind fun t577 => (if t577 = true then (heraldlaw10_RopeStretches.l0 k4 a0 a1 t530 t531 t551 t552 (wrap64 (x24_4 + 1))) else (some false))) else (none)) = some r := by first | (rw [hy569]; with_reducible exact H) | (have H2_ := (Option.bind_some _ _).symm.trans H; rw [hy569]; with_reducible exact H2_) | (have H2_ := (Option.bind_some _ _).symm.trans H; with_reducible exact H2_) | with_reducible exact H | (rw [hy569]; exact H) | exact H
                       have Ny569 := Aside0.mk hy569
                       clear hy569
                       have c86b0 := eq_true (of_decide_eq_true (by first | (with_reducible assumption) | assumption) : 0 ≤ (ji77))
                       have c87b0 := eq_true (of_decide_eq_true (by first | (with_reducible assumption) | assumption) : (ji77) ≤ (wrap64 ((ji77) + a1)))
                       by_cases c88 : (wrap64 ((ji77) + a1)) ≤ (t531.length : Int)
                       ·
                        as_aux_lemma =>
                        rw [if_pos c88] at H
                        have c88b0 := eq_true c88
                        have c88b1 : decide ((wrap64 ((ji77) + a1)) ≤ (t531.length : Int)) = true := decide_eq_true c88
                        obtain ⟨y573, hy573⟩ : ∃ y_ : List Int, y_ = ((t531.take ((wrap64 ((ji77) + a1)) : Int).toNat).drop ((ji77) : Int).toNat) := ⟨_, rfl⟩
                        replace H : ((heraldlaw10_same.f k4 y569 y573).bind fun t577 => (if t577 = true then (heraldlaw10_RopeStretches.l0 k4 a0 a1 t530 t531 t551 t552 (wrap64 (x24_4 + 1))) else (some false))) = some r := by first | (rw [hy573]; with_reducible exact H) | (have H2_ := (Option.bind_some _ _).symm.trans H; rw [hy573]; with_reducible exact H2_) | (have H2_ := (Option.bind_some _ _).symm.trans H; with_reducible exact H2_) | with_reducible exact H | (rw [hy573]; exact H) | exact H
                        have Ny573 := Aside0.mk hy573
                        clear hy573
                        replace H := Option.bind_eq_some_iff.mp H
                        obtain ⟨t577, A890, H⟩ := H
                        replace H : (if t577 = true then (heraldlaw10_RopeStretches.l0 k4 a0 a1 t530 t531 t551 t552 (wrap64 (x24_4 + 1))) else (some false)) = some r := H
                        have A89 := Aside0.mk A890
                        clear A890
                        by_cases c90 : t577 = true
                        ·
                         as_aux_lemma =>
                         subst c90
                         have H1 : (heraldlaw10_RopeStretches.l0 k4 a0 a1 t530 t531 t551 t552 (wrap64 (x24_4 + 1))) = some r := by rw [if_pos rfl] at H; exact H
                         clear H
                         have H := H1
                         clear H1
                         have H' := Aside0.mk H
                         clear H
                         try go_wp2
                         have n0_ := Aside0.mk (Kd.R_drew HO_13.out)
                         have n1_ := Aside0.mk (Kd.R_drew HO_14.out)
                         have n2_ := Aside0.mk (Kd.R_drew HO_21.out)
                         have n3_ := Aside0.mk (Kd.R_drew HO_22.out)
                         have n4_ := Aside0.mk (blk_drew BK512.out)
                         have n5_ := Aside0.mk (below_drew1 HB.out)
                         clear HO_13
                         clear HO_14
                         clear HO_21
                         clear HO_22
                         clear BK512
                         clear HB
                         have HO_13 := n0_
                         have HO_14 := n1_
                         have HO_21 := n2_
                         have HO_22 := n3_
                         have BK512 := n4_
                         have HB := n5_
                         clear n0_ n1_ n2_ n3_ n4_ n5_
                         obtain ⟨Ao93, co93, eo93⟩ := Kd.R_slice HO_21.out
                         (first | subst eo93 | (injection eo93 with f1_ f2_ f3_; have f4_ := f1_.symm; have f5_ := f3_.symm; clear f1_ f2_ f3_; subst f4_; subst f5_))
                         have q92 : ((wrap64 ((ji73) + a1)) : Int) ≤ ((t551.length : Int) : Int) := of_decide_eq_true (by first | (with_reducible assumption) | assumption)
                         obtain ⟨i092, hi092, _, hsz92, _⟩ := info_parts info33
                         have hroom92 : t551.length ≤ co93 := (Kd.R_reads' HO_21.out).2.1
                         have hC92 : Kd.C (Kd.int .i8) _ Ao93 t551.length t551 := (Kd.R_reads' HO_21.out).2.2
                         have ql92 : ((ji73) : Int) ≤ ((wrap64 ((ji73) + a1)) : Int) := of_decide_eq_true (by first | (with_reducible assumption) | assumption)
                         have q092 : (0 : Int) ≤ ((ji73) : Int) := of_decide_eq_true (by first | (with_reducible assumption) | assumption)
                         have hcut92 := cut_mid (P := Tryd.prog) 22 33 .i64 .i64 Tryd.underlying22 hi092 1 hsz92 Ao93 t551.length co93 (ji73) (wrap64 ((ji73) + a1)) q092 ql92 q92 hroom92
                         have hr92 := Kd.C_mid (lo := ((ji73) : Int).toNat) (hi := ((wrap64 ((ji73) + a1)) : Int).toNat) (c := co93) hC92 (by omega) (by omega) hroom92
                         obtain ⟨A92, hA92⟩ : ∃ A1, A1 = (if co93 = ((ji73) : Int).toNat then Ao93 else (Ao93 : Option Addr).map (·.add (((ji73) : Int).toNat * 1))) := ⟨_, rfl⟩
                         obtain ⟨c92, hc92⟩ : ∃ c1, c1 = co93 - ((ji73) : Int).toNat := ⟨_, rfl⟩
                         have hy92 : y560.length = ((wrap64 ((ji73) + a1)) : Int).toNat - ((ji73) : Int).toNat := (by rw [Ny560.out, List.length_drop, List.length_take] <;> omega)
                         rw [show ((t551).take ((wrap64 ((ji73) + a1)) : Int).toNat).drop ((ji73) : Int).toNat = y560 from Ny560.out.symm] at hr92
                         replace hr92 : Kd.C (Kd.int .i8) _ A92 y560.length y560 := (by rw [hA92]; exact hr92)
                         rw [← hy92, ← hA92, ← hc92] at hcut92
                         have HR563 := Aside0.mk hr92
                         have HC563 := Aside0.mk (show y560.length ≤ c92 from by rw [hy92, hc92]; exact Nat.sub_le_sub_right (Nat.le_trans (by omega) hroom92) _)
                         clear hr92 hC92 hroom92 hi092 hsz92 hc92
                         have KY92 := Aside0.mk hy92
                         have KA92 := Aside0.mk hA92
                         clear hy92 hA92
                         have KL92 := Aside0.mk (show ((wrap64 ((ji73) + a1)) : Int).toNat ≤ t551.length from by omega)
                         have KM92 := Aside0.mk (show ((ji73) : Int).toNat ≤ ((wrap64 ((ji73) + a1)) : Int).toNat from by omega)
                         replace q92 := eq_true q92
                         obtain ⟨Ao95, co95, eo95⟩ := Kd.R_slice HO_13.out
                         (first | subst eo95 | (injection eo95 with f1_ f2_ f3_; have f4_ := f1_.symm; have f5_ := f3_.symm; clear f1_ f2_ f3_; subst f4_; subst f5_))
                         have q94 : ((wrap64 ((ji77) + a1)) : Int) ≤ ((t530.length : Int) : Int) := of_decide_eq_true (by first | (with_reducible assumption) | assumption)
                         obtain ⟨i094, hi094, _, hsz94, _⟩ := info_parts info33
                         have hroom94 : t530.length ≤ co95 := (Kd.R_reads' HO_13.out).2.1
                         have hC94 : Kd.C (Kd.int .i8) _ Ao95 t530.length t530 := (Kd.R_reads' HO_13.out).2.2
                         have ql94 : ((ji77) : Int) ≤ ((wrap64 ((ji77) + a1)) : Int) := of_decide_eq_true (by first | (with_reducible assumption) | assumption)
                         have q094 : (0 : Int) ≤ ((ji77) : Int) := of_decide_eq_true (by first | (with_reducible assumption) | assumption)
                         have hcut94 := cut_mid (P := Tryd.prog) 22 33 .i64 .i64 Tryd.underlying22 hi094 1 hsz94 Ao95 t530.length co95 (ji77) (wrap64 ((ji77) + a1)) q094 ql94 q94 hroom94
                         have hr94 := Kd.C_mid (lo := ((ji77) : Int).toNat) (hi := ((wrap64 ((ji77) + a1)) : Int).toNat) (c := co95) hC94 (by omega) (by omega) hroom94
                         obtain ⟨A94, hA94⟩ : ∃ A1, A1 = (if co95 = ((ji77) : Int).toNat then Ao95 else (Ao95 : Option Addr).map (·.add (((ji77) : Int).toNat * 1))) := ⟨_, rfl⟩
                         obtain ⟨c94, hc94⟩ : ∃ c1, c1 = co95 - ((ji77) : Int).toNat := ⟨_, rfl⟩
                         have hy94 : y564.length = ((wrap64 ((ji77) + a1)) : Int).toNat - ((ji77) : Int).toNat := (by rw [Ny564.out, List.length_drop, List.length_take] <;> omega)
                         rw [show ((t530).take ((wrap64 ((ji77) + a1)) : Int).toNat).drop ((ji77) : Int).toNat = y564 from Ny564.out.symm] at hr94
                         replace hr94 : Kd.C (Kd.int .i8) _ A94 y564.length y564 := (by rw [hA94]; exact hr94)
                         rw [← hy94, ← hA94, ← hc94] at hcut94
                         have HR567 := Aside0.mk hr94
                         have HC567 := Aside0.mk (show y564.length ≤ c94 from by rw [hy94, hc94]; exact Nat.sub_le_sub_right (Nat.le_trans (by omega) hroom94) _)
                         clear hr94 hC94 hroom94 hi094 hsz94 hc94
                         have KY94 := Aside0.mk hy94
                         have KA94 := Aside0.mk hA94
                         clear hy94 hA94
                         have KL94 := Aside0.mk (show ((wrap64 ((ji77) + a1)) : Int).toNat ≤ t530.length from by omega)
                         have KM94 := Aside0.mk (show ((ji77) : Int).toNat ≤ ((wrap64 ((ji77) + a1)) : Int).toNat from by omega)
                         replace q94 := eq_true q94
                         refine start_ (n := 50) (S := fun w' => True) (ds := []) #[false, false, false, false, false, false, false, false, false, false, false, false, false, false, false, false, false, false, false, false, false, false, false, false, false, false, false, false, false, false, false, false, false, false, false, false, false, false, false, false, false, false, false, false, false, false, false, false, false, false] (by kernel_rfl) rfl rfl trivial (fun hHeld => ?_); refine with_tabW heraldlaw10_RopeStretches.tab20 heraldlaw10_RopeStretches.bits20 (fun HT_ HW_ => ?_)
                         generalize wr.drew = w91 at HO_13 HO_14 HO_21 HO_22 BK512 HB HR563 HR567 hHeld ⊢
                         refine pure_ (i := 0) (N := some 149) (v := ?_) (a' := ?_) #[true, false, false, false, false, false, false, false, false, false, false, false, false, false, false, false, false, false, false, false, false, false, false, false, false, false, false, false, false, false, false, false, false, false, false, false, false, false, false, false, false, false, false, false, false, false, false, false, false, false] rfl rfl (any_of HT_.out (by kernel_rfl)) (fun _ _ _ h => h) (Or.inl ⟨by rfl, ?_⟩) ?_ ?_
                         rotate_left
                         ·
                          intro w'
                          go_simp
                          with_reducible rfl
                         rotate_left
                         ·
                          simp only [Act.put, List.setIfInBounds_toArray, List.set_cons_zero, List.set_cons_succ, i64_w, i32_w]
                          rfl
                         refine pure_ (i := 1) (N := some 150) (v := ?_) (a' := ?_) #[true, true, false, false, false, false, false, false, false, false, false, false, false, false, false, false, false, false, false, false, false, false, false, false, false, false, false, false, false, false, false, false, false, false, false, false, false, false, false, false, false, false, false, false, false, false, false, false, false, false] rfl rfl (any_of HT_.out (by kernel_rfl)) (fun _ _ _ h => h) (Or.inl ⟨by rfl, ?_⟩) ?_ ?_
                         rotate_left
                         ·
                          intro w'
                          go_simp
                          with_reducible rfl
                         rotate_left
                         ·
                          simp only [Act.put, List.setIfInBounds_toArray, List.set_cons_zero, List.set_cons_succ, i64_w, i32_w]
                          rfl
                         refine pure_ (i := 2) (N := some 151) (v := ?_) (a' := ?_) #[true, true, true, false, false, false, false, false, false, false, false, false, false, false, false, false, false, false, false, false, false, false, false, false, false, false, false, false, false, false, false, false, false, false, false, false, false, false, false, false, false, false, false, false, false, false, false, false, false, false] rfl rfl (any_of HT_.out (by kernel_rfl)) (fun _ _ _ h => h) (Or.inl ⟨by rfl, ?_⟩) ?_ ?_
                         rotate_left
                         ·
                          intro w'
                          go_simp
                          with_reducible rfl
                         rotate_left
                         ·
                          simp only [Act.put, List.setIfInBounds_toArray, List.set_cons_zero, List.set_cons_succ, i64_w, i32_w]
                          rfl
                         refine pure_ (i := 3) (N := some 152) (v := ?_) (a' := ?_) #[true, true, true, true, false, false, false, false, false, false, false, false, false, false, false, false, false, false, false, false, false, false, false, false, false, false, false, false, false, false, false, false, false, false, false, false, false, false, false, false, false, false, false, false, false, false, false, false, false, false] rfl rfl (any_of HT_.out (by kernel_rfl)) (fun _ _ _ h => h) (Or.inl ⟨by rfl, ?_⟩) ?_ ?_
                         rotate_left
                         ·
                          intro w'
                          go_simp
                          with_reducible rfl
                         rotate_left
                         ·
                          simp only [Act.put, List.setIfInBounds_toArray, List.set_cons_zero, List.set_cons_succ, i64_w, i32_w]
                          rfl
                         refine pure_ (i := 4) (N := some 153) (v := ?_) (a' := ?_) #[true, true, true, true, true, false, false, false, false, false, false, false, false, false, false, false, false, false, false, false, false, false, false, false, false, false, false, false, false, false, false, false, false, false, false, false, false, false, false, false, false, false, false, false, false, false, false, false, false, false] rfl rfl (any_of HT_.out (by kernel_rfl)) (fun _ _ _ h => h) (Or.inl ⟨by rfl, ?_⟩) ?_ ?_
                         rotate_left
                         ·
                          intro w'
                          go_simp
                          with_reducible rfl
                         rotate_left
                         ·
                          simp only [Act.put, List.setIfInBounds_toArray, List.set_cons_zero, List.set_cons_succ, i64_w, i32_w]
                          rfl
                         refine pure_ (i := 5) (N := some 154) (v := ?_) (a' := ?_) #[true, true, true, true, true, true, false, false, false, false, false, false, false, false, false, false, false, false, false, false, false, false, false, false, false, false, false, false, false, false, false, false, false, false, false, false, false, false, false, false, false, false, false, false, false, false, false, false, false, false] rfl rfl (any_of HT_.out (by kernel_rfl)) (fun _ _ _ h => h) (Or.inl ⟨by rfl, ?_⟩) ?_ ?_
                         rotate_left
                         ·
                          intro w'
                          go_simp
                          with_reducible rfl
                         rotate_left
                         ·
                          simp only [Act.put, List.setIfInBounds_toArray, List.set_cons_zero, List.set_cons_succ, i64_w, i32_w]
                          rfl
                         refine pure_ (i := 6) (N := some 155) (v := ?_) (a' := ?_) #[true, true, true, true, true, true, true, false, false, false, false, false, false, false, false, false, false, false, false, false, false, false, false, false, false, false, false, false, false, false, false, false, false, false, false, false, false, false, false, false, false, false, false, false, false, false, false, false, false, false] rfl rfl (any_of HT_.out (by kernel_rfl)) (fun _ _ _ h => h) (Or.inl ⟨by rfl, ?_⟩) ?_ ?_
                         rotate_left
                         ·
                          intro w'
                          go_simp
                          with_reducible rfl
                         rotate_left
                         ·
                          simp only [Act.put, List.setIfInBounds_toArray, List.set_cons_zero, List.set_cons_succ, i64_w, i32_w]
                          rfl
                         refine pure_ (i := 7) (N := some 156) (v := ?_) (a' := ?_) #[true, true, true, true, true, true, true, true, false, false, false, false, false, false, false, false, false, false, false, false, false, false, false, false, false, false, false, false, false, false, false, false, false, false, false, false, false, false, false, false, false, false, false, false, false, false, false, false, false, false] rfl rfl (any_of HT_.out (by kernel_rfl)) (fun _ _ _ h => h) (Or.inl ⟨by rfl, ?_⟩) ?_ ?_
                         rotate_left
                         ·
                          intro w'
                          go_simp
                          with_reducible rfl
                         rotate_left
                         ·
                          simp only [Act.put, List.setIfInBounds_toArray, List.set_cons_zero, List.set_cons_succ, i64_w, i32_w]
                          rfl
                         refine pure_ (i := 8) (N := some 157) (v := ?_) (a' := ?_) #[true, true, true, true, true, true, true, true, true, false, false, false, false, false, false, false, false, false, false, false, false, false, false, false, false, false, false, false, false, false, false, false, false, false, false, false, false, false, false, false, false, false, false, false, false, false, false, false, false, false] rfl rfl (any_of HT_.out (by kernel_rfl)) (fun _ _ _ h => h) (Or.inl ⟨by rfl, ?_⟩) ?_ ?_
                         rotate_left
                         ·
                          intro w'
                          go_simp
                          with_reducible rfl
                         rotate_left
                         ·
                          simp only [Act.put, List.setIfInBounds_toArray, List.set_cons_zero, List.set_cons_succ, i64_w, i32_w]
                          rfl
                         refine pure_ (i := 9) (N := some 158) (v := ?_) (a' := ?_) #[true, true, true, true, true, true, true, true, true, true, false, false, false, false, false, false, false, false, false, false, false, false, false, false, false, false, false, false, false, false, false, false, false, false, false, false, false, false, false, false, false, false, false, false, false, false, false, false, false, false] rfl rfl (any_of HT_.out (by kernel_rfl)) (fun _ _ _ h => h) (Or.inl ⟨by rfl, ?_⟩) ?_ ?_
                         rotate_left
                         ·
                          intro w'
                          go_simp
                          with_reducible rfl
                         rotate_left
                         ·
                          simp only [Act.put, List.setIfInBounds_toArray, List.set_cons_zero, List.set_cons_succ, i64_w, i32_w]
                          rfl
                         refine pure_ (i := 10) (N := some 159) (v := ?_) (a' := ?_) #[true, true, true, true, true, true, true, true, true, true, true, false, false, false, false, false, false, false, false, false, false, false, false, false, false, false, false, false, false, false, false, false, false, false, false, false, false, false, false, false, false, false, false, false, false, false, false, false, false, false] rfl rfl (any_of HT_.out (by kernel_rfl)) (fun _ _ _ h => h) (Or.inl ⟨by rfl, ?_⟩) ?_ ?_
                         rotate_left
                         ·
                          intro w'
                          go_simp
                          with_reducible rfl
                         rotate_left
                         ·
                          simp only [Act.put, List.setIfInBounds_toArray, List.set_cons_zero, List.set_cons_succ, i64_w, i32_w]
                          rfl
                         refine pure_ (i := 11) (N := some 160) (v := ?_) (a' := ?_) #[true, true, true, true, true, true, true, true, true, true, true, true, false, false, false, false, false, false, false, false, false, false, false, false, false, false, false, false, false, false, false, false, false, false, false, false, false, false, false, false, false, false, false, false, false, false, false, false, false, false] rfl rfl (any_of HT_.out (by kernel_rfl)) (fun _ _ _ h => h) (Or.inl ⟨by rfl, ?_⟩) ?_ ?_
                         rotate_left
                         ·
                          intro w'
                          go_simp
                          with_reducible rfl
                         rotate_left
                         ·
                          simp only [Act.put, List.setIfInBounds_toArray, List.set_cons_zero, List.set_cons_succ, i64_w, i32_w]
                          rfl
                         refine pure_ (i := 12) (N := some 161) (v := ?_) (a' := ?_) #[true, true, true, true, true, true, true, true, true, true, true, true, true, false, false, false, false, false, false, false, false, false, false, false, false, false, false, false, false, false, false, false, false, false, false, false, false, false, false, false, false, false, false, false, false, false, false, false, false, false] rfl rfl (any_of HT_.out (by kernel_rfl)) (fun _ _ _ h => h) (Or.inl ⟨by rfl, ?_⟩) ?_ ?_
                         rotate_left
                         ·
                          intro w'
                          go_simp
                          with_reducible rfl
                         rotate_left
                         ·
                          simp only [Act.put, List.setIfInBounds_toArray, List.set_cons_zero, List.set_cons_succ, i64_w, i32_w]
                          rfl
                         refine pure_ (i := 13) (N := some 162) (v := ?_) (a' := ?_) #[true, true, true, true, true, true, true, true, true, true, true, true, true, true, false, false, false, false, false, false, false, false, false, false, false, false, false, false, false, false, false, false, false, false, false, false, false, false, false, false, false, false, false, false, false, false, false, false, false, false] rfl rfl (any_of HT_.out (by kernel_rfl)) (fun _ _ _ h => h) (Or.inl ⟨by rfl, ?_⟩) ?_ ?_
                         rotate_left
                         ·
                          intro w'
                          go_simp
                          with_reducible rfl
                         rotate_left
                         ·
                          simp only [Act.put, List.setIfInBounds_toArray, List.set_cons_zero, List.set_cons_succ, i64_w, i32_w]
                          rfl
                         refine pure_ (i := 14) (N := some 163) (v := ?_) (a' := ?_) #[true, true, true, true, true, true, true, true, true, true, true, true, true, true, true, false, false, false, false, false, false, false, false, false, false, false, false, false, false, false, false, false, false, false, false, false, false, false, false, false, false, false, false, false, false, false, false, false, false, false] rfl rfl (any_of HT_.out (by kernel_rfl)) (fun _ _ _ h => h) (Or.inl ⟨by rfl, ?_⟩) ?_ ?_
                         rotate_left
                         ·
                          intro w'
                          go_simp
                          with_reducible rfl
                         rotate_left
                         ·
                          simp only [Act.put, List.setIfInBounds_toArray, List.set_cons_zero, List.set_cons_succ, i64_w, i32_w]
                          rfl
                         refine pure_ (i := 15) (N := some 164) (v := ?_) (a' := ?_) #[true, true, true, true, true, true, true, true, true, true, true, true, true, true, true, true, false, false, false, false, false, false, false, false, false, false, false, false, false, false, false, false, false, false, false, false, false, false, false, false, false, false, false, false, false, false, false, false, false, false] rfl rfl (any_of HT_.out (by kernel_rfl)) (fun _ _ _ h => h) (Or.inl ⟨by rfl, ?_⟩) ?_ ?_
                         rotate_left
                         ·
                          intro w'
                          go_simp
                          with_reducible rfl
                         rotate_left
                         ·
                          simp only [Act.put, List.setIfInBounds_toArray, List.set_cons_zero, List.set_cons_succ, i64_w, i32_w]
                          rfl
                         refine pure_ (i := 16) (N := some 165) (v := ?_) (a' := ?_) #[true, true, true, true, true, true, true, true, true, true, true, true, true, true, true, true, true, false, false, false, false, false, false, false, false, false, false, false, false, false, false, false, false, false, false, false, false, false, false, false, false, false, false, false, false, false, false, false, false, false] rfl rfl (any_of HT_.out (by kernel_rfl)) (fun _ _ _ h => h) (Or.inl ⟨by rfl, ?_⟩) ?_ ?_
                         rotate_left
                         ·
                          intro w'
                          go_simp
                          with_reducible rfl
                         rotate_left
                         ·
                          simp only [Act.put, List.setIfInBounds_toArray, List.set_cons_zero, List.set_cons_succ, i64_w, i32_w]
                          rfl
                         refine pure_ (i := 17) (N := some 166) (v := ?_) (a' := ?_) #[true, true, true, true, true, true, true, true, true, true, true, true, true, true, true, true, true, true, false, false, false, false, false, false, false, false, false, false, false, false, false, false, false, false, false, false, false, false, false, false, false, false, false, false, false, false, false, false, false, false] rfl rfl (any_of HT_.out (by kernel_rfl)) (fun _ _ _ h => h) (Or.inl ⟨by rfl, ?_⟩) ?_ ?_
                         rotate_left
                         ·
                          intro w'
                          go_simp
                          with_reducible rfl
                         rotate_left
                         ·
                          simp only [Act.put, List.setIfInBounds_toArray, List.set_cons_zero, List.set_cons_succ, i64_w, i32_w]
                          rfl
                         refine pure_ (i := 18) (N := some 167) (v := ?_) (a' := ?_) #[true, true, true, true, true, true, true, true, true, true, true, true, true, true, true, true, true, true, true, false, false, false, false, false, false, false, false, false, false, false, false, false, false, false, false, false, false, false, false, false, false, false, false, false, false, false, false, false, false, false] rfl rfl (any_of HT_.out (by kernel_rfl)) (fun _ _ _ h => h) (Or.inl ⟨by rfl, ?_⟩) ?_ ?_
                         rotate_left
                         ·
                          intro w'
                          go_simp
                          with_reducible rfl
                         rotate_left
                         ·
                          simp only [Act.put, List.setIfInBounds_toArray, List.set_cons_zero, List.set_cons_succ, i64_w, i32_w]
                          rfl
                         refine pure_ (i := 19) (N := some 168) (v := ?_) (a' := ?_) #[true, true, true, true, true, true, true, true, true, true, true, true, true, true, true, true, true, true, true, true, false, false, false, false, false, false, false, false, false, false, false, false, false, false, false, false, false, false, false, false, false, false, false, false, false, false, false, false, false, false] rfl rfl (any_of HT_.out (by kernel_rfl)) (fun _ _ _ h => h) (Or.inl ⟨by rfl, ?_⟩) ?_ ?_
                         rotate_left
                         ·
                          intro w'
                          go_simp
                          with_reducible rfl
                         rotate_left
                         ·
                          simp only [Act.put, List.setIfInBounds_toArray, List.set_cons_zero, List.set_cons_succ, i64_w, i32_w]
                          rfl
                         refine pure_ (i := 20) (N := some 169) (v := ?_) (a' := ?_) #[true, true, true, true, true, true, true, true, true, true, true, true, true, true, true, true, true, true, true, true, true, false, false, false, false, false, false, false, false, false, false, false, false, false, false, false, false, false, false, false, false, false, false, false, false, false, false, false, false, false] rfl rfl (any_of HT_.out (by kernel_rfl)) (fun _ _ _ h => h) (Or.inl ⟨by rfl, ?_⟩) ?_ ?_
                         rotate_left
                         ·
                          intro w'
                          go_simp
                          with_reducible rfl
                         rotate_left
                         ·
                          simp only [Act.put, List.setIfInBounds_toArray, List.set_cons_zero, List.set_cons_succ, i64_w, i32_w]
                          rfl
                         refine pure_ (i := 21) (N := some 170) (v := ?_) (a' := ?_) #[true, true, true, true, true, true, true, true, true, true, true, true, true, true, true, true, true, true, true, true, true, true, false, false, false, false, false, false, false, false, false, false, false, false, false, false, false, false, false, false, false, false, false, false, false, false, false, false, false, false] rfl rfl (any_of HT_.out (by kernel_rfl)) (fun _ _ _ h => h) (Or.inl ⟨by rfl, ?_⟩) ?_ ?_
                         rotate_left
                         ·
                          intro w'
                          go_simp
                          with_reducible rfl
                         rotate_left
                         ·
                          simp only [Act.put, List.setIfInBounds_toArray, List.set_cons_zero, List.set_cons_succ, i64_w, i32_w]
                          rfl
                         refine one_ (i := 22) (N := some 171) #[true, true, true, true, true, true, true, true, true, true, true, true, true, true, true, true, true, true, true, true, true, true, true, false, false, false, false, false, false, false, false, false, false, false, false, false, false, false, false, false, false, false, false, false, false, false, false, false, false, false] rfl rfl (one_of HT_.out (by kernel_rfl)) (by decide) (fun K hK => ?_)
                         refine goes_ Tryd.func13 (by kernel_rfl) rfl #[.slice A92 y560.length c92, .slice A94 y564.length c94] (by rfl) rfl rfl (by (try simp only [List.map_toArray, List.map_cons, List.map_nil]); first | done | rfl | (simp only [List.length_drop, List.length_take]; rfl)) ?_
                         with_reducible refine (heraldlaw10_same.calls k4 _ _ y560 _ _ y564 true _ ?side1 ?side2 ?side3 ?side4 A81.out).mono ?_
                         (case side1 => repeat (first | exact (by repeat (first | (with_reducible exact HR563.out) | (with_reducible refine Kd.C_alloc ?_ _) | (with_reducible refine Kd.C_drewN ?_ _) | (with_reducible refine Kd.C_drew ?_) | exact HR563.out)) | (with_reducible refine Kd.C_alloc ?_ _) | (with_reducible refine Kd.C_drewN ?_ _) | (with_reducible refine Kd.C_drew ?_)))
                         (case side2 => exact HC563.out)
                         (case side3 => repeat (first | exact (by repeat (first | (with_reducible exact HR567.out) | (with_reducible refine Kd.C_alloc ?_ _) | (with_reducible refine Kd.C_drewN ?_ _) | (with_reducible refine Kd.C_drew ?_) | exact HR567.out)) | (with_reducible refine Kd.C_alloc ?_ _) | (with_reducible refine Kd.C_drewN ?_ _) | (with_reducible refine Kd.C_drew ?_)))
                         (case side4 => exact HC567.out)
                         rintro e w' ⟨rfl, ⟨nd, rfl⟩⟩
                         refine ⟨_, rfl, ?_⟩
                         obtain ⟨Ao97, co97, eo97⟩ := Kd.R_slice HO_22.out
                         (first | subst eo97 | (injection eo97 with f1_ f2_ f3_; have f4_ := f1_.symm; have f5_ := f3_.symm; clear f1_ f2_ f3_; subst f4_; subst f5_))
                         have q96 : ((wrap64 ((ji73) + a1)) : Int) ≤ ((t552.length : Int) : Int) := of_decide_eq_true (by first | (with_reducible assumption) | assumption)
                         obtain ⟨i096, hi096, _, hsz96, _⟩ := info_parts info33
                         have hroom96 : t552.length ≤ co97 := (Kd.R_reads' HO_22.out).2.1
                         have hC96 : Kd.C (Kd.int .i8) _ Ao97 t552.length t552 := (Kd.R_reads' HO_22.out).2.2
                         have ql96 : ((ji73) : Int) ≤ ((wrap64 ((ji73) + a1)) : Int) := of_decide_eq_true (by first | (with_reducible assumption) | assumption)
                         have q096 : (0 : Int) ≤ ((ji73) : Int) := of_decide_eq_true (by first | (with_reducible assumption) | assumption)
                         have hcut96 := cut_mid (P := Tryd.prog) 22 33 .i64 .i64 Tryd.underlying22 hi096 1 hsz96 Ao97 t552.length co97 (ji73) (wrap64 ((ji73) + a1)) q096 ql96 q96 hroom96
                         have hr96 := Kd.C_mid (lo := ((ji73) : Int).toNat) (hi := ((wrap64 ((ji73) + a1)) : Int).toNat) (c := co97) hC96 (by omega) (by omega) hroom96
                         obtain ⟨A96, hA96⟩ : ∃ A1, A1 = (if co97 = ((ji73) : Int).toNat then Ao97 else (Ao97 : Option Addr).map (·.add (((ji73) : Int).toNat * 1))) := ⟨_, rfl⟩
                         obtain ⟨c96, hc96⟩ : ∃ c1, c1 = co97 - ((ji73) : Int).toNat := ⟨_, rfl⟩
                         have hy96 : y569.length = ((wrap64 ((ji73) + a1)) : Int).toNat - ((ji73) : Int).toNat := (by rw [Ny569.out, List.length_drop, List.length_take] <;> omega)
                         rw [show ((t552).take ((wrap64 ((ji73) + a1)) : Int).toNat).drop ((ji73) : Int).toNat = y569 from Ny569.out.symm] at hr96
                         replace hr96 : Kd.C (Kd.int .i8) _ A96 y569.length y569 := (by rw [hA96]; exact hr96)
                         rw [← hy96, ← hA96, ← hc96] at hcut96
                         have HR572 := Aside0.mk hr96
                         have HC572 := Aside0.mk (show y569.length ≤ c96 from by rw [hy96, hc96]; exact Nat.sub_le_sub_right (Nat.le_trans (by omega) hroom96) _)
                         clear hr96 hC96 hroom96 hi096 hsz96 hc96
                         have KY96 := Aside0.mk hy96
                         have KA96 := Aside0.mk hA96
                         clear hy96 hA96
                         have KL96 := Aside0.mk (show ((wrap64 ((ji73) + a1)) : Int).toNat ≤ t552.length from by omega)
                         have KM96 := Aside0.mk (show ((ji73) : Int).toNat ≤ ((wrap64 ((ji73) + a1)) : Int).toNat from by omega)
                         replace q96 := eq_true q96
                         obtain ⟨Ao99, co99, eo99⟩ := Kd.R_slice HO_14.out
                         (first | subst eo99 | (injection eo99 with f1_ f2_ f3_; have f4_ := f1_.symm; have f5_ := f3_.symm; clear f1_ f2_ f3_; subst f4_; subst f5_))
                         have q98 : ((wrap64 ((ji77) + a1)) : Int) ≤ ((t531.length : Int) : Int) := of_decide_eq_true (by first | (with_reducible assumption) | assumption)
                         obtain ⟨i098, hi098, _, hsz98, _⟩ := info_parts info33
                         have hroom98 : t531.length ≤ co99 := (Kd.R_reads' HO_14.out).2.1
                         have hC98 : Kd.C (Kd.int .i8) _ Ao99 t531.length t531 := (Kd.R_reads' HO_14.out).2.2
                         have ql98 : ((ji77) : Int) ≤ ((wrap64 ((ji77) + a1)) : Int) := of_decide_eq_true (by first | (with_reducible assumption) | assumption)
                         have q098 : (0 : Int) ≤ ((ji77) : Int) := of_decide_eq_true (by first | (with_reducible assumption) | assumption)
                         have hcut98 := cut_mid (P := Tryd.prog) 22 33 .i64 .i64 Tryd.underlying22 hi098 1 hsz98 Ao99 t531.length co99 (ji77) (wrap64 ((ji77) + a1)) q098 ql98 q98 hroom98
                         have hr98 := Kd.C_mid (lo := ((ji77) : Int).toNat) (hi := ((wrap64 ((ji77) + a1)) : Int).toNat) (c := co99) hC98 (by omega) (by omega) hroom98
                         obtain ⟨A98, hA98⟩ : ∃ A1, A1 = (if co99 = ((ji77) : Int).toNat then Ao99 else (Ao99 : Option Addr).map (·.add (((ji77) : Int).toNat * 1))) := ⟨_, rfl⟩
                         obtain ⟨c98, hc98⟩ : ∃ c1, c1 = co99 - ((ji77) : Int).toNat := ⟨_, rfl⟩
                         have hy98 : y573.length = ((wrap64 ((ji77) + a1)) : Int).toNat - ((ji77) : Int).toNat := (by rw [Ny573.out, List.length_drop, List.length_take] <;> omega)
                         rw [show ((t531).take ((wrap64 ((ji77) + a1)) : Int).toNat).drop ((ji77) : Int).toNat = y573 from Ny573.out.symm] at hr98
                         replace hr98 : Kd.C (Kd.int .i8) _ A98 y573.length y573 := (by rw [hA98]; exact hr98)
                         rw [← hy98, ← hA98, ← hc98] at hcut98
                         have HR576 := Aside0.mk hr98
                         have HC576 := Aside0.mk (show y573.length ≤ c98 from by rw [hy98, hc98]; exact Nat.sub_le_sub_right (Nat.le_trans (by omega) hroom98) _)
                         clear hr98 hC98 hroom98 hi098 hsz98 hc98
                         have KY98 := Aside0.mk hy98
                         have KA98 := Aside0.mk hA98
                         clear hy98 hA98
                         have KL98 := Aside0.mk (show ((wrap64 ((ji77) + a1)) : Int).toNat ≤ t531.length from by omega)
                         have KM98 := Aside0.mk (show ((ji77) : Int).toNat ≤ ((wrap64 ((ji77) + a1)) : Int).toNat from by omega)
                         replace q98 := eq_true q98
                         refine hK.out _ _ trivial (fun hHeld => ?_)
                         clear hK K
                         refine norm_ (a' := ?_) ?_ ?_
                         rotate_left
                         ·
                          show Act.put _ (some 171) _ = _
                          simp only [Act.put, List.setIfInBounds_toArray, List.set_cons_zero, List.set_cons_succ, i64_w, i32_w]
                          rfl
                         refine pure_ (i := 23) (N := some 172) (v := ?_) (a' := ?_) #[true, true, true, true, true, true, true, true, true, true, true, true, true, true, true, true, true, true, true, true, true, true, true, true, false, false, false, false, false, false, false, false, false, false, false, false, false, false, false, false, false, false, false, false, false, false, false, false, false, false] rfl rfl (any_of HT_.out (by kernel_rfl)) (fun _ _ _ h => h) (Or.inl ⟨by rfl, ?_⟩) ?_ ?_
                         rotate_left
                         ·
                          intro w'
                          go_simp
                          with_reducible rfl
                         rotate_left
                         ·
                          simp only [Act.put, List.setIfInBounds_toArray, List.set_cons_zero, List.set_cons_succ, i64_w, i32_w]
                          rfl
                         refine pure_ (i := 24) (N := some 173) (v := ?_) (a' := ?_) #[true, true, true, true, true, true, true, true, true, true, true, true, true, true, true, true, true, true, true, true, true, true, true, true, true, false, false, false, false, false, false, false, false, false, false, false, false, false, false, false, false, false, false, false, false, false, false, false, false, false] rfl rfl (any_of HT_.out (by kernel_rfl)) (fun _ _ _ h => h) (Or.inl ⟨by rfl, ?_⟩) ?_ ?_
                         rotate_left
                         ·
                          intro w'
                          go_simp
                          with_reducible rfl
                         rotate_left
                         ·
                          simp only [Act.put, List.setIfInBounds_toArray, List.set_cons_zero, List.set_cons_succ, i64_w, i32_w]
                          rfl
                         refine pure_ (i := 25) (N := some 174) (v := ?_) (a' := ?_) #[true, true, true, true, true, true, true, true, true, true, true, true, true, true, true, true, true, true, true, true, true, true, true, true, true, true, false, false, false, false, false, false, false, false, false, false, false, false, false, false, false, false, false, false, false, false, false, false, false, false] rfl rfl (any_of HT_.out (by kernel_rfl)) (fun _ _ _ h => h) (Or.inl ⟨by rfl, ?_⟩) ?_ ?_
                         rotate_left
                         ·
                          intro w'
                          go_simp
                          with_reducible rfl
                         rotate_left
                         ·
                          simp only [Act.put, List.setIfInBounds_toArray, List.set_cons_zero, List.set_cons_succ, i64_w, i32_w]
                          rfl
                         refine pure_ (i := 26) (N := some 175) (v := ?_) (a' := ?_) #[true, true, true, true, true, true, true, true, true, true, true, true, true, true, true, true, true, true, true, true, true, true, true, true, true, true, true, false, false, false, false, false, false, false, false, false, false, false, false, false, false, false, false, false, false, false, false, false, false, false] rfl rfl (any_of HT_.out (by kernel_rfl)) (fun _ _ _ h => h) (Or.inl ⟨by rfl, ?_⟩) ?_ ?_
                         rotate_left
                         ·
                          intro w'
                          go_simp
                          with_reducible rfl
                         rotate_left
                         ·
                          simp only [Act.put, List.setIfInBounds_toArray, List.set_cons_zero, List.set_cons_succ, i64_w, i32_w]
                          rfl
                         refine pure_ (i := 27) (N := some 176) (v := ?_) (a' := ?_) #[true, true, true, true, true, true, true, true, true, true, true, true, true, true, true, true, true, true, true, true, true, true, true, true, true, true, true, true, false, false, false, false, false, false, false, false, false, false, false, false, false, false, false, false, false, false, false, false, false, false] rfl rfl (any_of HT_.out (by kernel_rfl)) (fun _ _ _ h => h) (Or.inl ⟨by rfl, ?_⟩) ?_ ?_
                         rotate_left
                         ·
                          intro w'
                          go_simp
                          with_reducible rfl
                         rotate_left
                         ·
                          simp only [Act.put, List.setIfInBounds_toArray, List.set_cons_zero, List.set_cons_succ, i64_w, i32_w]
                          rfl
                         refine pure_ (i := 28) (N := some 177) (v := ?_) (a' := ?_) #[true, true, true, true, true, true, true, true, true, true, true, true, true, true, true, true, true, true, true, true, true, true, true, true, true, true, true, true, true, false, false, false, false, false, false, false, false, false, false, false, false, false, false, false, false, false, false, false, false, false] rfl rfl (any_of HT_.out (by kernel_rfl)) (fun _ _ _ h => h) (Or.inl ⟨by rfl, ?_⟩) ?_ ?_
                         rotate_left
                         ·
                          intro w'
                          go_simp
                          with_reducible rfl
                         rotate_left
                         ·
                          simp only [Act.put, List.setIfInBounds_toArray, List.set_cons_zero, List.set_cons_succ, i64_w, i32_w]
                          rfl
                         refine pure_ (i := 29) (N := some 178) (v := ?_) (a' := ?_) #[true, true, true, true, true, true, true, true, true, true, true, true, true, true, true, true, true, true, true, true, true, true, true, true, true, true, true, true, true, true, false, false, false, false, false, false, false, false, false, false, false, false, false, false, false, false, false, false, false, false] rfl rfl (any_of HT_.out (by kernel_rfl)) (fun _ _ _ h => h) (Or.inl ⟨by rfl, ?_⟩) ?_ ?_
                         rotate_left
                         ·
                          intro w'
                          go_simp
                          with_reducible rfl
                         rotate_left
                         ·
                          simp only [Act.put, List.setIfInBounds_toArray, List.set_cons_zero, List.set_cons_succ, i64_w, i32_w]
                          rfl
                         refine pure_ (i := 30) (N := some 179) (v := ?_) (a' := ?_) #[true, true, true, true, true, true, true, true, true, true, true, true, true, true, true, true, true, true, true, true, true, true, true, true, true, true, true, true, true, true, true, false, false, false, false, false, false, false, false, false, false, false, false, false, false, false, false, false, false, false] rfl rfl (any_of HT_.out (by kernel_rfl)) (fun _ _ _ h => h) (Or.inl ⟨by rfl, ?_⟩) ?_ ?_
                         rotate_left
                         ·
                          intro w'
                          go_simp
                          with_reducible rfl
                         rotate_left
                         ·
                          simp only [Act.put, List.setIfInBounds_toArray, List.set_cons_zero, List.set_cons_succ, i64_w, i32_w]
                          rfl
                         refine pure_ (i := 31) (N := some 180) (v := ?_) (a' := ?_) #[true, true, true, true, true, true, true, true, true, true, true, true, true, true, true, true, true, true, true, true, true, true, true, true, true, true, true, true, true, true, true, true, false, false, false, false, false, false, false, false, false, false, false, false, false, false, false, false, false, false] rfl rfl (any_of HT_.out (by kernel_rfl)) (fun _ _ _ h => h) (Or.inl ⟨by rfl, ?_⟩) ?_ ?_
                         rotate_left
                         ·
                          intro w'
                          go_simp
                          with_reducible rfl
                         rotate_left
                         ·
                          simp only [Act.put, List.setIfInBounds_toArray, List.set_cons_zero, List.set_cons_succ, i64_w, i32_w]
                          rfl
                         refine pure_ (i := 32) (N := some 181) (v := ?_) (a' := ?_) #[true, true, true, true, true, true, true, true, true, true, true, true, true, true, true, true, true, true, true, true, true, true, true, true, true, true, true, true, true, true, true, true, true, false, false, false, false, false, false, false, false, false, false, false, false, false, false, false, false, false] rfl rfl (any_of HT_.out (by kernel_rfl)) (fun _ _ _ h => h) (Or.inl ⟨by rfl, ?_⟩) ?_ ?_
                         rotate_left
                         ·
                          intro w'
                          go_simp
                          with_reducible rfl
                         rotate_left
                         ·
                          simp only [Act.put, List.setIfInBounds_toArray, List.set_cons_zero, List.set_cons_succ, i64_w, i32_w]
                          rfl
                         refine pure_ (i := 33) (N := some 182) (v := ?_) (a' := ?_) #[true, true, true, true, true, true, true, true, true, true, true, true, true, true, true, true, true, true, true, true, true, true, true, true, true, true, true, true, true, true, true, true, true, true, false, false, false, false, false, false, false, false, false, false, false, false, false, false, false, false] rfl rfl (any_of HT_.out (by kernel_rfl)) (fun _ _ _ h => h) (Or.inl ⟨by rfl, ?_⟩) ?_ ?_
                         rotate_left
                         ·
                          intro w'
                          go_simp
                          with_reducible rfl
                         rotate_left
                         ·
                          simp only [Act.put, List.setIfInBounds_toArray, List.set_cons_zero, List.set_cons_succ, i64_w, i32_w]
                          rfl
                         refine pure_ (i := 34) (N := some 183) (v := ?_) (a' := ?_) #[true, true, true, true, true, true, true, true, true, true, true, true, true, true, true, true, true, true, true, true, true, true, true, true, true, true, true, true, true, true, true, true, true, true, true, false, false, false, false, false, false, false, false, false, false, false, false, false, false, false] rfl rfl (any_of HT_.out (by kernel_rfl)) (fun _ _ _ h => h) (Or.inl ⟨by rfl, ?_⟩) ?_ ?_
                         rotate_left
                         ·
                          intro w'
                          go_simp
                          with_reducible rfl
                         rotate_left
                         ·
                          simp only [Act.put, List.setIfInBounds_toArray, List.set_cons_zero, List.set_cons_succ, i64_w, i32_w]
                          rfl
                         refine pure_ (i := 35) (N := some 184) (v := ?_) (a' := ?_) #[true, true, true, true, true, true, true, true, true, true, true, true, true, true, true, true, true, true, true, true, true, true, true, true, true, true, true, true, true, true, true, true, true, true, true, true, false, false, false, false, false, false, false, false, false, false, false, false, false, false] rfl rfl (any_of HT_.out (by kernel_rfl)) (fun _ _ _ h => h) (Or.inl ⟨by rfl, ?_⟩) ?_ ?_
                         rotate_left
                         ·
                          intro w'
                          go_simp
                          with_reducible rfl
                         rotate_left
                         ·
                          simp only [Act.put, List.setIfInBounds_toArray, List.set_cons_zero, List.set_cons_succ, i64_w, i32_w]
                          rfl
                         refine pure_ (i := 36) (N := some 185) (v := ?_) (a' := ?_) #[true, true, true, true, true, true, true, true, true, true, true, true, true, true, true, true, true, true, true, true, true, true, true, true, true, true, true, true, true, true, true, true, true, true, true, true, true, false, false, false, false, false, false, false, false, false, false, false, false, false] rfl rfl (any_of HT_.out (by kernel_rfl)) (fun _ _ _ h => h) (Or.inl ⟨by rfl, ?_⟩) ?_ ?_
                         rotate_left
                         ·
                          intro w'
                          go_simp
                          with_reducible rfl
                         rotate_left
                         ·
                          simp only [Act.put, List.setIfInBounds_toArray, List.set_cons_zero, List.set_cons_succ, i64_w, i32_w]
                          rfl
                         refine pure_ (i := 37) (N := some 186) (v := ?_) (a' := ?_) #[true, true, true, true, true, true, true, true, true, true, true, true, true, true, true, true, true, true, true, true, true, true, true, true, true, true, true, true, true, true, true, true, true, true, true, true, true, true, false, false, false, false, false, false, false, false, false, false, false, false] rfl rfl (any_of HT_.out (by kernel_rfl)) (fun _ _ _ h => h) (Or.inl ⟨by rfl, ?_⟩) ?_ ?_
                         rotate_left
                         ·
                          intro w'
                          go_simp
                          with_reducible rfl
                         rotate_left
                         ·
                          simp only [Act.put, List.setIfInBounds_toArray, List.set_cons_zero, List.set_cons_succ, i64_w, i32_w]
                          rfl
                         refine pure_ (i := 38) (N := some 187) (v := ?_) (a' := ?_) #[true, true, true, true, true, true, true, true, true, true, true, true, true, true, true, true, true, true, true, true, true, true, true, true, true, true, true, true, true, true, true, true, true, true, true, true, true, true, true, false, false, false, false, false, false, false, false, false, false, false] rfl rfl (any_of HT_.out (by kernel_rfl)) (fun _ _ _ h => h) (Or.inl ⟨by rfl, ?_⟩) ?_ ?_
                         rotate_left
                         ·
                          intro w'
                          go_simp
                          with_reducible rfl
                         rotate_left
                         ·
                          simp only [Act.put, List.setIfInBounds_toArray, List.set_cons_zero, List.set_cons_succ, i64_w, i32_w]
                          rfl
                         refine pure_ (i := 39) (N := some 188) (v := ?_) (a' := ?_) #[true, true, true, true, true, true, true, true, true, true, true, true, true, true, true, true, true, true, true, true, true, true, true, true, true, true, true, true, true, true, true, true, true, true, true, true, true, true, true, true, false, false, false, false, false, false, false, false, false, false] rfl rfl (any_of HT_.out (by kernel_rfl)) (fun _ _ _ h => h) (Or.inl ⟨by rfl, ?_⟩) ?_ ?_
                         rotate_left
                         ·
                          intro w'
                          go_simp
                          with_reducible rfl
                         rotate_left
                         ·
                          simp only [Act.put, List.setIfInBounds_toArray, List.set_cons_zero, List.set_cons_succ, i64_w, i32_w]
                          rfl
                         refine pure_ (i := 40) (N := some 189) (v := ?_) (a' := ?_) #[true, true, true, true, true, true, true, true, true, true, true, true, true, true, true, true, true, true, true, true, true, true, true, true, true, true, true, true, true, true, true, true, true, true, true, true, true, true, true, true, true, false, false, false, false, false, false, false, false, false] rfl rfl (any_of HT_.out (by kernel_rfl)) (fun _ _ _ h => h) (Or.inl ⟨by rfl, ?_⟩) ?_ ?_
                         rotate_left
                         ·
                          intro w'
                          go_simp
                          with_reducible rfl
                         rotate_left
                         ·
                          simp only [Act.put, List.setIfInBounds_toArray, List.set_cons_zero, List.set_cons_succ, i64_w, i32_w]
                          rfl
                         refine pure_ (i := 41) (N := some 190) (v := ?_) (a' := ?_) #[true, true, true, true, true, true, true, true, true, true, true, true, true, true, true, true, true, true, true, true, true, true, true, true, true, true, true, true, true, true, true, true, true, true, true, true, true, true, true, true, true, true, false, false, false, false, false, false, false, false] rfl rfl (any_of HT_.out (by kernel_rfl)) (fun _ _ _ h => h) (Or.inl ⟨by rfl, ?_⟩) ?_ ?_
                         rotate_left
                         ·
                          intro w'
                          go_simp
                          with_reducible rfl
                         rotate_left
                         ·
                          simp only [Act.put, List.setIfInBounds_toArray, List.set_cons_zero, List.set_cons_succ, i64_w, i32_w]
                          rfl
                         refine pure_ (i := 42) (N := some 191) (v := ?_) (a' := ?_) #[true, true, true, true, true, true, true, true, true, true, true, true, true, true, true, true, true, true, true, true, true, true, true, true, true, true, true, true, true, true, true, true, true, true, true, true, true, true, true, true, true, true, true, false, false, false, false, false, false, false] rfl rfl (any_of HT_.out (by kernel_rfl)) (fun _ _ _ h => h) (Or.inl ⟨by rfl, ?_⟩) ?_ ?_
                         rotate_left
                         ·
                          intro w'
                          go_simp
                          with_reducible rfl
                         rotate_left
                         ·
                          simp only [Act.put, List.setIfInBounds_toArray, List.set_cons_zero, List.set_cons_succ, i64_w, i32_w]
                          rfl
                         refine pure_ (i := 43) (N := some 192) (v := ?_) (a' := ?_) #[true, true, true, true, true, true, true, true, true, true, true, true, true, true, true, true, true, true, true, true, true, true, true, true, true, true, true, true, true, true, true, true, true, true, true, true, true, true, true, true, true, true, true, true, false, false, false, false, false, false] rfl rfl (any_of HT_.out (by kernel_rfl)) (fun _ _ _ h => h) (Or.inl ⟨by rfl, ?_⟩) ?_ ?_
                         rotate_left
                         ·
                          intro w'
                          go_simp
                          with_reducible rfl
                         rotate_left
                         ·
                          simp only [Act.put, List.setIfInBounds_toArray, List.set_cons_zero, List.set_cons_succ, i64_w, i32_w]
                          rfl
                         refine pure_ (i := 44) (N := some 193) (v := ?_) (a' := ?_) #[true, true, true, true, true, true, true, true, true, true, true, true, true, true, true, true, true, true, true, true, true, true, true, true, true, true, true, true, true, true, true, true, true, true, true, true, true, true, true, true, true, true, true, true, true, false, false, false, false, false] rfl rfl (any_of HT_.out (by kernel_rfl)) (fun _ _ _ h => h) (Or.inl ⟨by rfl, ?_⟩) ?_ ?_
                         rotate_left
                         ·
                          intro w'
                          go_simp
                          with_reducible rfl
                         rotate_left
                         ·
                          simp only [Act.put, List.setIfInBounds_toArray, List.set_cons_zero, List.set_cons_succ, i64_w, i32_w]
                          rfl
                         refine pure_ (i := 45) (N := some 194) (v := ?_) (a' := ?_) #[true, true, true, true, true, true, true, true, true, true, true, true, true, true, true, true, true, true, true, true, true, true, true, true, true, true, true, true, true, true, true, true, true, true, true, true, true, true, true, true, true, true, true, true, true, true, false, false, false, false] rfl rfl (any_of HT_.out (by kernel_rfl)) (fun _ _ _ h => h) (Or.inl ⟨by rfl, ?_⟩) ?_ ?_
                         rotate_left
                         ·
                          intro w'
                          go_simp
                          with_reducible rfl
                         rotate_left
                         ·
                          simp only [Act.put, List.setIfInBounds_toArray, List.set_cons_zero, List.set_cons_succ, i64_w, i32_w]
                          rfl
                         refine pure_ (i := 46) (N := some 195) (v := ?_) (a' := ?_) #[true, true, true, true, true, true, true, true, true, true, true, true, true, true, true, true, true, true, true, true, true, true, true, true, true, true, true, true, true, true, true, true, true, true, true, true, true, true, true, true, true, true, true, true, true, true, true, false, false, false] rfl rfl (any_of HT_.out (by kernel_rfl)) (fun _ _ _ h => h) (Or.inl ⟨by rfl, ?_⟩) ?_ ?_
                         rotate_left
                         ·
                          intro w'
                          go_simp
                          with_reducible rfl
                         rotate_left
                         ·
                          simp only [Act.put, List.setIfInBounds_toArray, List.set_cons_zero, List.set_cons_succ, i64_w, i32_w]
                          rfl
                         refine one_ (i := 47) (N := some 196) #[true, true, true, true, true, true, true, true, true, true, true, true, true, true, true, true, true, true, true, true, true, true, true, true, true, true, true, true, true, true, true, true, true, true, true, true, true, true, true, true, true, true, true, true, true, true, true, true, false, false] rfl rfl (one_of HT_.out (by kernel_rfl)) (by decide) (fun K hK => ?_)
                         refine goes_ Tryd.func13 (by kernel_rfl) rfl #[.slice A96 y569.length c96, .slice A98 y573.length c98] (by rfl) rfl rfl (by (try simp only [List.map_toArray, List.map_cons, List.map_nil]); first | done | rfl | (simp only [List.length_drop, List.length_take]; rfl)) ?_
                         with_reducible refine (heraldlaw10_same.calls k4 _ _ y569 _ _ y573 true _ ?side1 ?side2 ?side3 ?side4 A89.out).mono ?_
                         (case side1 => repeat (first | exact (by repeat (first | (with_reducible exact HR572.out) | (with_reducible refine Kd.C_alloc ?_ _) | (with_reducible refine Kd.C_drewN ?_ _) | (with_reducible refine Kd.C_drew ?_) | exact HR572.out)) | (with_reducible refine Kd.C_alloc ?_ _) | (with_reducible refine Kd.C_drewN ?_ _) | (with_reducible refine Kd.C_drew ?_)))
                         (case side2 => exact HC572.out)
                         (case side3 => repeat (first | exact (by repeat (first | (with_reducible exact HR576.out) | (with_reducible refine Kd.C_alloc ?_ _) | (with_reducible refine Kd.C_drewN ?_ _) | (with_reducible refine Kd.C_drew ?_) | exact HR576.out)) | (with_reducible refine Kd.C_alloc ?_ _) | (with_reducible refine Kd.C_drewN ?_ _) | (with_reducible refine Kd.C_drew ?_)))
                         (case side4 => exact HC576.out)
                         rintro e w' ⟨rfl, ⟨nd, rfl⟩⟩
                         refine ⟨_, rfl, ?_⟩
                         refine hK.out _ _ trivial (fun hHeld => ?_)
                         clear hK K
                         refine norm_ (a' := ?_) ?_ ?_
                         rotate_left
                         ·
                          show Act.put _ (some 196) _ = _
                          simp only [Act.put, List.setIfInBounds_toArray, List.set_cons_zero, List.set_cons_succ, i64_w, i32_w]
                          rfl
                         refine pure_ (i := 48) (N := some 197) (v := ?_) (a' := ?_) #[true, true, true, true, true, true, true, true, true, true, true, true, true, true, true, true, true, true, true, true, true, true, true, true, true, true, true, true, true, true, true, true, true, true, true, true, true, true, true, true, true, true, true, true, true, true, true, true, true, false] rfl rfl (any_of HT_.out (by kernel_rfl)) (fun _ _ _ h => h) (Or.inl ⟨by rfl, ?_⟩) ?_ ?_
                         rotate_left
                         ·
                          intro w'
                          go_simp
                          with_reducible rfl
                         rotate_left
                         ·
                          simp only [Act.put, List.setIfInBounds_toArray, List.set_cons_zero, List.set_cons_succ, i64_w, i32_w]
                          rfl
                         refine pure_ (i := 49) (N := some 198) (v := ?_) (a' := ?_) #[true, true, true, true, true, true, true, true, true, true, true, true, true, true, true, true, true, true, true, true, true, true, true, true, true, true, true, true, true, true, true, true, true, true, true, true, true, true, true, true, true, true, true, true, true, true, true, true, true, true] rfl rfl (any_of HT_.out (by kernel_rfl)) (fun _ _ _ h => h) (Or.inl ⟨by rfl, ?_⟩) ?_ ?_
                         rotate_left
                         ·
                          intro w'
                          go_simp
                          with_reducible rfl
                         rotate_left
                         ·
                          simp only [Act.put, List.setIfInBounds_toArray, List.set_cons_zero, List.set_cons_succ, i64_w, i32_w]
                          rfl
                         refine done_ (done_of HT_.out (by kernel_rfl)) ?_
                         try go_wp2
                         go_roundg k4
                         case measure => have := HJ7.out; have := HJ32.out; have := HJ42.out; have := HK4.out; omega
                         case rel => exact ⟨(wrap64 (x24_4 + 1)), (by first | rfl | (simp; done) | (simp [*]; done)), H', ⟨by have := HJ7.out; have := HJ32.out; have := HJ42.out; have := HK4.out; omega⟩, ⟨by (with_reducible repeat (first | apply Kd.R_alloc | apply Kd.R_drewN | apply Kd.R_drew)); exact HO_13.out⟩, ⟨by (with_reducible repeat (first | apply Kd.R_alloc | apply Kd.R_drewN | apply Kd.R_drew)); exact HO_14.out⟩, ⟨by (with_reducible repeat (first | apply Kd.R_alloc | apply Kd.R_drewN | apply Kd.R_drew)); exact HO_21.out⟩, ⟨by (with_reducible repeat (first | apply Kd.R_alloc | apply Kd.R_drewN | apply Kd.R_drew)); exact HO_22.out⟩, ⟨by (with_reducible repeat (first | refine blk_drewN ?_ _ | refine blk_drew ?_ | refine blk_alloc ?_ _)); exact BK512.out⟩, ⟨by repeat (first | (with_reducible first | exact HB.out | apply below_alloc | apply pw_below_drewN | apply below_drew1 | refine below_set ?_ GE512.out) | exact HB.out)⟩⟩
                        ·
                         as_aux_lemma =>
                         replace c90 := Bool.eq_false_iff.mpr c90
                         subst c90
                         have H1 : (some false) = some r := by rw [if_neg (show ¬ (false = true) by decide)] at H; exact H
                         clear H
                         have H := H1
                         clear H1
                         obtain rfl := Option.some.inj H
                         try go_wp2
                         have n0_ := Aside0.mk (Kd.R_drew HO_13.out)
                         have n1_ := Aside0.mk (Kd.R_drew HO_14.out)
                         have n2_ := Aside0.mk (Kd.R_drew HO_21.out)
                         have n3_ := Aside0.mk (Kd.R_drew HO_22.out)
                         have n4_ := Aside0.mk (blk_drew BK512.out)
                         have n5_ := Aside0.mk (below_drew1 HB.out)
                         clear HO_13
                         clear HO_14
                         clear HO_21
                         clear HO_22
                         clear BK512
                         clear HB
                         have HO_13 := n0_
                         have HO_14 := n1_
                         have HO_21 := n2_
                         have HO_22 := n3_
                         have BK512 := n4_
                         have HB := n5_
                         clear n0_ n1_ n2_ n3_ n4_ n5_
                         obtain ⟨Ao102, co102, eo102⟩ := Kd.R_slice HO_21.out
                         (first | subst eo102 | (injection eo102 with f1_ f2_ f3_; have f4_ := f1_.symm; have f5_ := f3_.symm; clear f1_ f2_ f3_; subst f4_; subst f5_))
                         have q101 : ((wrap64 ((ji73) + a1)) : Int) ≤ ((t551.length : Int) : Int) := of_decide_eq_true (by first | (with_reducible assumption) | assumption)
                         obtain ⟨i0101, hi0101, _, hsz101, _⟩ := info_parts info33
                         have hroom101 : t551.length ≤ co102 := (Kd.R_reads' HO_21.out).2.1
                         have hC101 : Kd.C (Kd.int .i8) _ Ao102 t551.length t551 := (Kd.R_reads' HO_21.out).2.2
                         have ql101 : ((ji73) : Int) ≤ ((wrap64 ((ji73) + a1)) : Int) := of_decide_eq_true (by first | (with_reducible assumption) | assumption)
                         have q0101 : (0 : Int) ≤ ((ji73) : Int) := of_decide_eq_true (by first | (with_reducible assumption) | assumption)
                         have hcut101 := cut_mid (P := Tryd.prog) 22 33 .i64 .i64 Tryd.underlying22 hi0101 1 hsz101 Ao102 t551.length co102 (ji73) (wrap64 ((ji73) + a1)) q0101 ql101 q101 hroom101
                         have hr101 := Kd.C_mid (lo := ((ji73) : Int).toNat) (hi := ((wrap64 ((ji73) + a1)) : Int).toNat) (c := co102) hC101 (by omega) (by omega) hroom101
                         obtain ⟨A101, hA101⟩ : ∃ A1, A1 = (if co102 = ((ji73) : Int).toNat then Ao102 else (Ao102 : Option Addr).map (·.add (((ji73) : Int).toNat * 1))) := ⟨_, rfl⟩
                         obtain ⟨c101, hc101⟩ : ∃ c1, c1 = co102 - ((ji73) : Int).toNat := ⟨_, rfl⟩
                         have hy101 : y560.length = ((wrap64 ((ji73) + a1)) : Int).toNat - ((ji73) : Int).toNat := (by rw [Ny560.out, List.length_drop, List.length_take] <;> omega)
                         rw [show ((t551).take ((wrap64 ((ji73) + a1)) : Int).toNat).drop ((ji73) : Int).toNat = y560 from Ny560.out.symm] at hr101
                         replace hr101 : Kd.C (Kd.int .i8) _ A101 y560.length y560 := (by rw [hA101]; exact hr101)
                         rw [← hy101, ← hA101, ← hc101] at hcut101
                         have HR563 := Aside0.mk hr101
                         have HC563 := Aside0.mk (show y560.length ≤ c101 from by rw [hy101, hc101]; exact Nat.sub_le_sub_right (Nat.le_trans (by omega) hroom101) _)
                         clear hr101 hC101 hroom101 hi0101 hsz101 hc101
                         have KY101 := Aside0.mk hy101
                         have KA101 := Aside0.mk hA101
                         clear hy101 hA101
                         have KL101 := Aside0.mk (show ((wrap64 ((ji73) + a1)) : Int).toNat ≤ t551.length from by omega)
                         have KM101 := Aside0.mk (show ((ji73) : Int).toNat ≤ ((wrap64 ((ji73) + a1)) : Int).toNat from by omega)
                         replace q101 := eq_true q101
                         obtain ⟨Ao104, co104, eo104⟩ := Kd.R_slice HO_13.out
                         (first | subst eo104 | (injection eo104 with f1_ f2_ f3_; have f4_ := f1_.symm; have f5_ := f3_.symm; clear f1_ f2_ f3_; subst f4_; subst f5_))
                         have q103 : ((wrap64 ((ji77) + a1)) : Int) ≤ ((t530.length : Int) : Int) := of_decide_eq_true (by first | (with_reducible assumption) | assumption)
                         obtain ⟨i0103, hi0103, _, hsz103, _⟩ := info_parts info33
                         have hroom103 : t530.length ≤ co104 := (Kd.R_reads' HO_13.out).2.1
                         have hC103 : Kd.C (Kd.int .i8) _ Ao104 t530.length t530 := (Kd.R_reads' HO_13.out).2.2
                         have ql103 : ((ji77) : Int) ≤ ((wrap64 ((ji77) + a1)) : Int) := of_decide_eq_true (by first | (with_reducible assumption) | assumption)
                         have q0103 : (0 : Int) ≤ ((ji77) : Int) := of_decide_eq_true (by first | (with_reducible assumption) | assumption)
                         have hcut103 := cut_mid (P := Tryd.prog) 22 33 .i64 .i64 Tryd.underlying22 hi0103 1 hsz103 Ao104 t530.length co104 (ji77) (wrap64 ((ji77) + a1)) q0103 ql103 q103 hroom103
                         have hr103 := Kd.C_mid (lo := ((ji77) : Int).toNat) (hi := ((wrap64 ((ji77) + a1)) : Int).toNat) (c := co104) hC103 (by omega) (by omega) hroom103
                         obtain ⟨A103, hA103⟩ : ∃ A1, A1 = (if co104 = ((ji77) : Int).toNat then Ao104 else (Ao104 : Option Addr).map (·.add (((ji77) : Int).toNat * 1))) := ⟨_, rfl⟩
                         obtain ⟨c103, hc103⟩ : ∃ c1, c1 = co104 - ((ji77) : Int).toNat := ⟨_, rfl⟩
                         have hy103 : y564.length = ((wrap64 ((ji77) + a1)) : Int).toNat - ((ji77) : Int).toNat := (by rw [Ny564.out, List.length_drop, List.length_take] <;> omega)
                         rw [show ((t530).take ((wrap64 ((ji77) + a1)) : Int).toNat).drop ((ji77) : Int).toNat = y564 from Ny564.out.symm] at hr103
                         replace hr103 : Kd.C (Kd.int .i8) _ A103 y564.length y564 := (by rw [hA103]; exact hr103)
                         rw [← hy103, ← hA103, ← hc103] at hcut103
                         have HR567 := Aside0.mk hr103
                         have HC567 := Aside0.mk (show y564.length ≤ c103 from by rw [hy103, hc103]; exact Nat.sub_le_sub_right (Nat.le_trans (by omega) hroom103) _)
                         clear hr103 hC103 hroom103 hi0103 hsz103 hc103
                         have KY103 := Aside0.mk hy103
                         have KA103 := Aside0.mk hA103
                         clear hy103 hA103
                         have KL103 := Aside0.mk (show ((wrap64 ((ji77) + a1)) : Int).toNat ≤ t530.length from by omega)
                         have KM103 := Aside0.mk (show ((ji77) : Int).toNat ≤ ((wrap64 ((ji77) + a1)) : Int).toNat from by omega)
                         replace q103 := eq_true q103
                         refine start_ (n := 50) (S := fun w' => True) (ds := []) #[false, false, false, false, false, false, false, false, false, false, false, false, false, false, false, false, false, false, false, false, false, false, false, false, false, false, false, false, false, false, false, false, false, false, false, false, false, false, false, false, false, false, false, false, false, false, false, false, false, false] (by kernel_rfl) rfl rfl trivial (fun hHeld => ?_); refine with_tabW heraldlaw10_RopeStretches.tab20 heraldlaw10_RopeStretches.bits20 (fun HT_ HW_ => ?_)
                         generalize wr.drew = w100 at HO_13 HO_14 HO_21 HO_22 BK512 HB HR563 HR567 hHeld ⊢
                         refine pure_ (i := 0) (N := some 149) (v := ?_) (a' := ?_) #[true, false, false, false, false, false, false, false, false, false, false, false, false, false, false, false, false, false, false, false, false, false, false, false, false, false, false, false, false, false, false, false, false, false, false, false, false, false, false, false, false, false, false, false, false, false, false, false, false, false] rfl rfl (any_of HT_.out (by kernel_rfl)) (fun _ _ _ h => h) (Or.inl ⟨by rfl, ?_⟩) ?_ ?_
                         rotate_left
                         ·
                          intro w'
                          go_simp
                          with_reducible rfl
                         rotate_left
                         ·
                          simp only [Act.put, List.setIfInBounds_toArray, List.set_cons_zero, List.set_cons_succ, i64_w, i32_w]
                          rfl
                         refine pure_ (i := 1) (N := some 150) (v := ?_) (a' := ?_) #[true, true, false, false, false, false, false, false, false, false, false, false, false, false, false, false, false, false, false, false, false, false, false, false, false, false, false, false, false, false, false, false, false, false, false, false, false, false, false, false, false, false, false, false, false, false, false, false, false, false] rfl rfl (any_of HT_.out (by kernel_rfl)) (fun _ _ _ h => h) (Or.inl ⟨by rfl, ?_⟩) ?_ ?_
                         rotate_left
                         ·
                          intro w'
                          go_simp
                          with_reducible rfl
                         rotate_left
                         ·
                          simp only [Act.put, List.setIfInBounds_toArray, List.set_cons_zero, List.set_cons_succ, i64_w, i32_w]
                          rfl
                         refine pure_ (i := 2) (N := some 151) (v := ?_) (a' := ?_) #[true, true, true, false, false, false, false, false, false, false, false, false, false, false, false, false, false, false, false, false, false, false, false, false, false, false, false, false, false, false, false, false, false, false, false, false, false, false, false, false, false, false, false, false, false, false, false, false, false, false] rfl rfl (any_of HT_.out (by kernel_rfl)) (fun _ _ _ h => h) (Or.inl ⟨by rfl, ?_⟩) ?_ ?_
                         rotate_left
                         ·
                          intro w'
                          go_simp
                          with_reducible rfl
                         rotate_left
                         ·
                          simp only [Act.put, List.setIfInBounds_toArray, List.set_cons_zero, List.set_cons_succ, i64_w, i32_w]
                          rfl
                         refine pure_ (i := 3) (N := some 152) (v := ?_) (a' := ?_) #[true, true, true, true, false, false, false, false, false, false, false, false, false, false, false, false, false, false, false, false, false, false, false, false, false, false, false, false, false, false, false, false, false, false, false, false, false, false, false, false, false, false, false, false, false, false, false, false, false, false] rfl rfl (any_of HT_.out (by kernel_rfl)) (fun _ _ _ h => h) (Or.inl ⟨by rfl, ?_⟩) ?_ ?_
                         rotate_left
                         ·
                          intro w'
                          go_simp
                          with_reducible rfl
                         rotate_left
                         ·
                          simp only [Act.put, List.setIfInBounds_toArray, List.set_cons_zero, List.set_cons_succ, i64_w, i32_w]
                          rfl
                         refine pure_ (i := 4) (N := some 153) (v := ?_) (a' := ?_) #[true, true, true, true, true, false, false, false, false, false, false, false, false, false, false, false, false, false, false, false, false, false, false, false, false, false, false, false, false, false, false, false, false, false, false, false, false, false, false, false, false, false, false, false, false, false, false, false, false, false] rfl rfl (any_of HT_.out (by kernel_rfl)) (fun _ _ _ h => h) (Or.inl ⟨by rfl, ?_⟩) ?_ ?_
                         rotate_left
                         ·
                          intro w'
                          go_simp
                          with_reducible rfl
                         rotate_left
                         ·
                          simp only [Act.put, List.setIfInBounds_toArray, List.set_cons_zero, List.set_cons_succ, i64_w, i32_w]
                          rfl
                         refine pure_ (i := 5) (N := some 154) (v := ?_) (a' := ?_) #[true, true, true, true, true, true, false, false, false, false, false, false, false, false, false, false, false, false, false, false, false, false, false, false, false, false, false, false, false, false, false, false, false, false, false, false, false, false, false, false, false, false, false, false, false, false, false, false, false, false] rfl rfl (any_of HT_.out (by kernel_rfl)) (fun _ _ _ h => h) (Or.inl ⟨by rfl, ?_⟩) ?_ ?_
                         rotate_left
                         ·
                          intro w'
                          go_simp
                          with_reducible rfl
                         rotate_left
                         ·
                          simp only [Act.put, List.setIfInBounds_toArray, List.set_cons_zero, List.set_cons_succ, i64_w, i32_w]
                          rfl
                         refine pure_ (i := 6) (N := some 155) (v := ?_) (a' := ?_) #[true, true, true, true, true, true, true, false, false, false, false, false, false, false, false, false, false, false, false, false, false, false, false, false, false, false, false, false, false, false, false, false, false, false, false, false, false, false, false, false, false, false, false, false, false, false, false, false, false, false] rfl rfl (any_of HT_.out (by kernel_rfl)) (fun _ _ _ h => h) (Or.inl ⟨by rfl, ?_⟩) ?_ ?_
                         rotate_left
                         ·
                          intro w'
                          go_simp
                          with_reducible rfl
                         rotate_left
                         ·
                          simp only [Act.put, List.setIfInBounds_toArray, List.set_cons_zero, List.set_cons_succ, i64_w, i32_w]
                          rfl
                         refine pure_ (i := 7) (N := some 156) (v := ?_) (a' := ?_) #[true, true, true, true, true, true, true, true, false, false, false, false, false, false, false, false, false, false, false, false, false, false, false, false, false, false, false, false, false, false, false, false, false, false, false, false, false, false, false, false, false, false, false, false, false, false, false, false, false, false] rfl rfl (any_of HT_.out (by kernel_rfl)) (fun _ _ _ h => h) (Or.inl ⟨by rfl, ?_⟩) ?_ ?_
                         rotate_left
                         ·
                          intro w'
                          go_simp
                          with_reducible rfl
                         rotate_left
                         ·
                          simp only [Act.put, List.setIfInBounds_toArray, List.set_cons_zero, List.set_cons_succ, i64_w, i32_w]
                          rfl
                         refine pure_ (i := 8) (N := some 157) (v := ?_) (a' := ?_) #[true, true, true, true, true, true, true, true, true, false, false, false, false, false, false, false, false, false, false, false, false, false, false, false, false, false, false, false, false, false, false, false, false, false, false, false, false, false, false, false, false, false, false, false, false, false, false, false, false, false] rfl rfl (any_of HT_.out (by kernel_rfl)) (fun _ _ _ h => h) (Or.inl ⟨by rfl, ?_⟩) ?_ ?_
                         rotate_left
                         ·
                          intro w'
                          go_simp
                          with_reducible rfl
                         rotate_left
                         ·
                          simp only [Act.put, List.setIfInBounds_toArray, List.set_cons_zero, List.set_cons_succ, i64_w, i32_w]
                          rfl
                         refine pure_ (i := 9) (N := some 158) (v := ?_) (a' := ?_) #[true, true, true, true, true, true, true, true, true, true, false, false, false, false, false, false, false, false, false, false, false, false, false, false, false, false, false, false, false, false, false, false, false, false, false, false, false, false, false, false, false, false, false, false, false, false, false, false, false, false] rfl rfl (any_of HT_.out (by kernel_rfl)) (fun _ _ _ h => h) (Or.inl ⟨by rfl, ?_⟩) ?_ ?_
                         rotate_left
                         ·
                          intro w'
                          go_simp
                          with_reducible rfl
                         rotate_left
                         ·
                          simp only [Act.put, List.setIfInBounds_toArray, List.set_cons_zero, List.set_cons_succ, i64_w, i32_w]
                          rfl
                         refine pure_ (i := 10) (N := some 159) (v := ?_) (a' := ?_) #[true, true, true, true, true, true, true, true, true, true, true, false, false, false, false, false, false, false, false, false, false, false, false, false, false, false, false, false, false, false, false, false, false, false, false, false, false, false, false, false, false, false, false, false, false, false, false, false, false, false] rfl rfl (any_of HT_.out (by kernel_rfl)) (fun _ _ _ h => h) (Or.inl ⟨by rfl, ?_⟩) ?_ ?_
                         rotate_left
                         ·
                          intro w'
                          go_simp
                          with_reducible rfl
                         rotate_left
                         ·
                          simp only [Act.put, List.setIfInBounds_toArray, List.set_cons_zero, List.set_cons_succ, i64_w, i32_w]
                          rfl
                         refine pure_ (i := 11) (N := some 160) (v := ?_) (a' := ?_) #[true, true, true, true, true, true, true, true, true, true, true, true, false, false, false, false, false, false, false, false, false, false, false, false, false, false, false, false, false, false, false, false, false, false, false, false, false, false, false, false, false, false, false, false, false, false, false, false, false, false] rfl rfl (any_of HT_.out (by kernel_rfl)) (fun _ _ _ h => h) (Or.inl ⟨by rfl, ?_⟩) ?_ ?_
                         rotate_left
                         ·
                          intro w'
                          go_simp
                          with_reducible rfl
                         rotate_left
                         ·
                          simp only [Act.put, List.setIfInBounds_toArray, List.set_cons_zero, List.set_cons_succ, i64_w, i32_w]
                          rfl
                         refine pure_ (i := 12) (N := some 161) (v := ?_) (a' := ?_) #[true, true, true, true, true, true, true, true, true, true, true, true, true, false, false, false, false, false, false, false, false, false, false, false, false, false, false, false, false, false, false, false, false, false, false, false, false, false, false, false, false, false, false, false, false, false, false, false, false, false] rfl rfl (any_of HT_.out (by kernel_rfl)) (fun _ _ _ h => h) (Or.inl ⟨by rfl, ?_⟩) ?_ ?_
                         rotate_left
                         ·
                          intro w'
                          go_simp
                          with_reducible rfl
                         rotate_left
                         ·
                          simp only [Act.put, List.setIfInBounds_toArray, List.set_cons_zero, List.set_cons_succ, i64_w, i32_w]
                          rfl
                         refine pure_ (i := 13) (N := some 162) (v := ?_) (a' := ?_) #[true, true, true, true, true, true, true, true, true, true, true, true, true, true, false, false, false, false, false, false, false, false, false, false, false, false, false, false, false, false, false, false, false, false, false, false, false, false, false, false, false, false, false, false, false, false, false, false, false, false] rfl rfl (any_of HT_.out (by kernel_rfl)) (fun _ _ _ h => h) (Or.inl ⟨by rfl, ?_⟩) ?_ ?_
                         rotate_left
                         ·
                          intro w'
                          go_simp
                          with_reducible rfl
                         rotate_left
                         ·
                          simp only [Act.put, List.setIfInBounds_toArray, List.set_cons_zero, List.set_cons_succ, i64_w, i32_w]
                          rfl
                         refine pure_ (i := 14) (N := some 163) (v := ?_) (a' := ?_) #[true, true, true, true, true, true, true, true, true, true, true, true, true, true, true, false, false, false, false, false, false, false, false, false, false, false, false, false, false, false, false, false, false, false, false, false, false, false, false, false, false, false, false, false, false, false, false, false, false, false] rfl rfl (any_of HT_.out (by kernel_rfl)) (fun _ _ _ h => h) (Or.inl ⟨by rfl, ?_⟩) ?_ ?_
                         rotate_left
                         ·
                          intro w'
                          go_simp
                          with_reducible rfl
                         rotate_left
                         ·
                          simp only [Act.put, List.setIfInBounds_toArray, List.set_cons_zero, List.set_cons_succ, i64_w, i32_w]
                          rfl
                         refine pure_ (i := 15) (N := some 164) (v := ?_) (a' := ?_) #[true, true, true, true, true, true, true, true, true, true, true, true, true, true, true, true, false, false, false, false, false, false, false, false, false, false, false, false, false, false, false, false, false, false, false, false, false, false, false, false, false, false, false, false, false, false, false, false, false, false] rfl rfl (any_of HT_.out (by kernel_rfl)) (fun _ _ _ h => h) (Or.inl ⟨by rfl, ?_⟩) ?_ ?_
                         rotate_left
                         ·
                          intro w'
                          go_simp
                          with_reducible rfl
                         rotate_left
                         ·
                          simp only [Act.put, List.setIfInBounds_toArray, List.set_cons_zero, List.set_cons_succ, i64_w, i32_w]
                          rfl
                         refine pure_ (i := 16) (N := some 165) (v := ?_) (a' := ?_) #[true, true, true, true, true, true, true, true, true, true, true, true, true, true, true, true, true, false, false, false, false, false, false, false, false, false, false, false, false, false, false, false, false, false, false, false, false, false, false, false, false, false, false, false, false, false, false, false, false, false] rfl rfl (any_of HT_.out (by kernel_rfl)) (fun _ _ _ h => h) (Or.inl ⟨by rfl, ?_⟩) ?_ ?_
                         rotate_left
                         ·
                          intro w'
                          go_simp
                          with_reducible rfl
                         rotate_left
                         ·
                          simp only [Act.put, List.setIfInBounds_toArray, List.set_cons_zero, List.set_cons_succ, i64_w, i32_w]
                          rfl
                         refine pure_ (i := 17) (N := some 166) (v := ?_) (a' := ?_) #[true, true, true, true, true, true, true, true, true, true, true, true, true, true, true, true, true, true, false, false, false, false, false, false, false, false, false, false, false, false, false, false, false, false, false, false, false, false, false, false, false, false, false, false, false, false, false, false, false, false] rfl rfl (any_of HT_.out (by kernel_rfl)) (fun _ _ _ h => h) (Or.inl ⟨by rfl, ?_⟩) ?_ ?_
                         rotate_left
                         ·
                          intro w'
                          go_simp
                          with_reducible rfl
                         rotate_left
                         ·
                          simp only [Act.put, List.setIfInBounds_toArray, List.set_cons_zero, List.set_cons_succ, i64_w, i32_w]
                          rfl
                         refine pure_ (i := 18) (N := some 167) (v := ?_) (a' := ?_) #[true, true, true, true, true, true, true, true, true, true, true, true, true, true, true, true, true, true, true, false, false, false, false, false, false, false, false, false, false, false, false, false, false, false, false, false, false, false, false, false, false, false, false, false, false, false, false, false, false, false] rfl rfl (any_of HT_.out (by kernel_rfl)) (fun _ _ _ h => h) (Or.inl ⟨by rfl, ?_⟩) ?_ ?_
                         rotate_left
                         ·
                          intro w'
                          go_simp
                          with_reducible rfl
                         rotate_left
                         ·
                          simp only [Act.put, List.setIfInBounds_toArray, List.set_cons_zero, List.set_cons_succ, i64_w, i32_w]
                          rfl
                         refine pure_ (i := 19) (N := some 168) (v := ?_) (a' := ?_) #[true, true, true, true, true, true, true, true, true, true, true, true, true, true, true, true, true, true, true, true, false, false, false, false, false, false, false, false, false, false, false, false, false, false, false, false, false, false, false, false, false, false, false, false, false, false, false, false, false, false] rfl rfl (any_of HT_.out (by kernel_rfl)) (fun _ _ _ h => h) (Or.inl ⟨by rfl, ?_⟩) ?_ ?_
                         rotate_left
                         ·
                          intro w'
                          go_simp
                          with_reducible rfl
                         rotate_left
                         ·
                          simp only [Act.put, List.setIfInBounds_toArray, List.set_cons_zero, List.set_cons_succ, i64_w, i32_w]
                          rfl
                         refine pure_ (i := 20) (N := some 169) (v := ?_) (a' := ?_) #[true, true, true, true, true, true, true, true, true, true, true, true, true, true, true, true, true, true, true, true, true, false, false, false, false, false, false, false, false, false, false, false, false, false, false, false, false, false, false, false, false, false, false, false, false, false, false, false, false, false] rfl rfl (any_of HT_.out (by kernel_rfl)) (fun _ _ _ h => h) (Or.inl ⟨by rfl, ?_⟩) ?_ ?_
                         rotate_left
                         ·
                          intro w'
                          go_simp
                          with_reducible rfl
                         rotate_left
                         ·
                          simp only [Act.put, List.setIfInBounds_toArray, List.set_cons_zero, List.set_cons_succ, i64_w, i32_w]
                          rfl
                         refine pure_ (i := 21) (N := some 170) (v := ?_) (a' := ?_) #[true, true, true, true, true, true, true, true, true, true, true, true, true, true, true, true, true, true, true, true, true, true, false, false, false, false, false, false, false, false, false, false, false, false, false, false, false, false, false, false, false, false, false, false, false, false, false, false, false, false] rfl rfl (any_of HT_.out (by kernel_rfl)) (fun _ _ _ h => h) (Or.inl ⟨by rfl, ?_⟩) ?_ ?_
                         rotate_left
                         ·
                          intro w'
                          go_simp
                          with_reducible rfl
                         rotate_left
                         ·
                          simp only [Act.put, List.setIfInBounds_toArray, List.set_cons_zero, List.set_cons_succ, i64_w, i32_w]
                          rfl
                         refine one_ (i := 22) (N := some 171) #[true, true, true, true, true, true, true, true, true, true, true, true, true, true, true, true, true, true, true, true, true, true, true, false, false, false, false, false, false, false, false, false, false, false, false, false, false, false, false, false, false, false, false, false, false, false, false, false, false, false] rfl rfl (one_of HT_.out (by kernel_rfl)) (by decide) (fun K hK => ?_)
                         refine goes_ Tryd.func13 (by kernel_rfl) rfl #[.slice A101 y560.length c101, .slice A103 y564.length c103] (by rfl) rfl rfl (by (try simp only [List.map_toArray, List.map_cons, List.map_nil]); first | done | rfl | (simp only [List.length_drop, List.length_take]; rfl)) ?_
                         with_reducible refine (heraldlaw10_same.calls k4 _ _ y560 _ _ y564 true _ ?side1 ?side2 ?side3 ?side4 A81.out).mono ?_
                         (case side1 => repeat (first | exact (by repeat (first | (with_reducible exact HR563.out) | (with_reducible refine Kd.C_alloc ?_ _) | (with_reducible refine Kd.C_drewN ?_ _) | (with_reducible refine Kd.C_drew ?_) | exact HR563.out)) | (with_reducible refine Kd.C_alloc ?_ _) | (with_reducible refine Kd.C_drewN ?_ _) | (with_reducible refine Kd.C_drew ?_)))
                         (case side2 => exact HC563.out)
                         (case side3 => repeat (first | exact (by repeat (first | (with_reducible exact HR567.out) | (with_reducible refine Kd.C_alloc ?_ _) | (with_reducible refine Kd.C_drewN ?_ _) | (with_reducible refine Kd.C_drew ?_) | exact HR567.out)) | (with_reducible refine Kd.C_alloc ?_ _) | (with_reducible refine Kd.C_drewN ?_ _) | (with_reducible refine Kd.C_drew ?_)))
                         (case side4 => exact HC567.out)
                         rintro e w' ⟨rfl, ⟨nd, rfl⟩⟩
                         refine ⟨_, rfl, ?_⟩
                         obtain ⟨Ao106, co106, eo106⟩ := Kd.R_slice HO_22.out
                         (first | subst eo106 | (injection eo106 with f1_ f2_ f3_; have f4_ := f1_.symm; have f5_ := f3_.symm; clear f1_ f2_ f3_; subst f4_; subst f5_))
                         have q105 : ((wrap64 ((ji73) + a1)) : Int) ≤ ((t552.length : Int) : Int) := of_decide_eq_true (by first | (with_reducible assumption) | assumption)
                         obtain ⟨i0105, hi0105, _, hsz105, _⟩ := info_parts info33
                         have hroom105 : t552.length ≤ co106 := (Kd.R_reads' HO_22.out).2.1
                         have hC105 : Kd.C (Kd.int .i8) _ Ao106 t552.length t552 := (Kd.R_reads' HO_22.out).2.2
                         have ql105 : ((ji73) : Int) ≤ ((wrap64 ((ji73) + a1)) : Int) := of_decide_eq_true (by first | (with_reducible assumption) | assumption)
                         have q0105 : (0 : Int) ≤ ((ji73) : Int) := of_decide_eq_true (by first | (with_reducible assumption) | assumption)
                         have hcut105 := cut_mid (P := Tryd.prog) 22 33 .i64 .i64 Tryd.underlying22 hi0105 1 hsz105 Ao106 t552.length co106 (ji73) (wrap64 ((ji73) + a1)) q0105 ql105 q105 hroom105
                         have hr105 := Kd.C_mid (lo := ((ji73) : Int).toNat) (hi := ((wrap64 ((ji73) + a1)) : Int).toNat) (c := co106) hC105 (by omega) (by omega) hroom105
                         obtain ⟨A105, hA105⟩ : ∃ A1, A1 = (if co106 = ((ji73) : Int).toNat then Ao106 else (Ao106 : Option Addr).map (·.add (((ji73) : Int).toNat * 1))) := ⟨_, rfl⟩
                         obtain ⟨c105, hc105⟩ : ∃ c1, c1 = co106 - ((ji73) : Int).toNat := ⟨_, rfl⟩
                         have hy105 : y569.length = ((wrap64 ((ji73) + a1)) : Int).toNat - ((ji73) : Int).toNat := (by rw [Ny569.out, List.length_drop, List.length_take] <;> omega)
                         rw [show ((t552).take ((wrap64 ((ji73) + a1)) : Int).toNat).drop ((ji73) : Int).toNat = y569 from Ny569.out.symm] at hr105
                         replace hr105 : Kd.C (Kd.int .i8) _ A105 y569.length y569 := (by rw [hA105]; exact hr105)
                         rw [← hy105, ← hA105, ← hc105] at hcut105
                         have HR572 := Aside0.mk hr105
                         have HC572 := Aside0.mk (show y569.length ≤ c105 from by rw [hy105, hc105]; exact Nat.sub_le_sub_right (Nat.le_trans (by omega) hroom105) _)
                         clear hr105 hC105 hroom105 hi0105 hsz105 hc105
                         have KY105 := Aside0.mk hy105
                         have KA105 := Aside0.mk hA105
                         clear hy105 hA105
                         have KL105 := Aside0.mk (show ((wrap64 ((ji73) + a1)) : Int).toNat ≤ t552.length from by omega)
                         have KM105 := Aside0.mk (show ((ji73) : Int).toNat ≤ ((wrap64 ((ji73) + a1)) : Int).toNat from by omega)
                         replace q105 := eq_true q105
                         obtain ⟨Ao108, co108, eo108⟩ := Kd.R_slice HO_14.out
                         (first | subst eo108 | (injection eo108 with f1_ f2_ f3_; have f4_ := f1_.symm; have f5_ := f3_.symm; clear f1_ f2_ f3_; subst f4_; subst f5_))
                         have q107 : ((wrap64 ((ji77) + a1)) : Int) ≤ ((t531.length : Int) : Int) := of_decide_eq_true (by first | (with_reducible assumption) | assumption)
                         obtain ⟨i0107, hi0107, _, hsz107, _⟩ := info_parts info33
                         have hroom107 : t531.length ≤ co108 := (Kd.R_reads' HO_14.out).2.1
                         have hC107 : Kd.C (Kd.int .i8) _ Ao108 t531.length t531 := (Kd.R_reads' HO_14.out).2.2
                         have ql107 : ((ji77) : Int) ≤ ((wrap64 ((ji77) + a1)) : Int) := of_decide_eq_true (by first | (with_reducible assumption) | assumption)
                         have q0107 : (0 : Int) ≤ ((ji77) : Int) := of_decide_eq_true (by first | (with_reducible assumption) | assumption)
                         have hcut107 := cut_mid (P := Tryd.prog) 22 33 .i64 .i64 Tryd.underlying22 hi0107 1 hsz107 Ao108 t531.length co108 (ji77) (wrap64 ((ji77) + a1)) q0107 ql107 q107 hroom107
                         have hr107 := Kd.C_mid (lo := ((ji77) : Int).toNat) (hi := ((wrap64 ((ji77) + a1)) : Int).toNat) (c := co108) hC107 (by omega) (by omega) hroom107
                         obtain ⟨A107, hA107⟩ : ∃ A1, A1 = (if co108 = ((ji77) : Int).toNat then Ao108 else (Ao108 : Option Addr).map (·.add (((ji77) : Int).toNat * 1))) := ⟨_, rfl⟩
                         obtain ⟨c107, hc107⟩ : ∃ c1, c1 = co108 - ((ji77) : Int).toNat := ⟨_, rfl⟩
                         have hy107 : y573.length = ((wrap64 ((ji77) + a1)) : Int).toNat - ((ji77) : Int).toNat := (by rw [Ny573.out, List.length_drop, List.length_take] <;> omega)
                         rw [show ((t531).take ((wrap64 ((ji77) + a1)) : Int).toNat).drop ((ji77) : Int).toNat = y573 from Ny573.out.symm] at hr107
                         replace hr107 : Kd.C (Kd.int .i8) _ A107 y573.length y573 := (by rw [hA107]; exact hr107)
                         rw [← hy107, ← hA107, ← hc107] at hcut107
                         have HR576 := Aside0.mk hr107
                         have HC576 := Aside0.mk (show y573.length ≤ c107 from by rw [hy107, hc107]; exact Nat.sub_le_sub_right (Nat.le_trans (by omega) hroom107) _)
                         clear hr107 hC107 hroom107 hi0107 hsz107 hc107
                         have KY107 := Aside0.mk hy107
                         have KA107 := Aside0.mk hA107
                         clear hy107 hA107
                         have KL107 := Aside0.mk (show ((wrap64 ((ji77) + a1)) : Int).toNat ≤ t531.length from by omega)
                         have KM107 := Aside0.mk (show ((ji77) : Int).toNat ≤ ((wrap64 ((ji77) + a1)) : Int).toNat from by omega)
                         replace q107 := eq_true q107
                         refine hK.out _ _ trivial (fun hHeld => ?_)
                         clear hK K
                         refine norm_ (a' := ?_) ?_ ?_
                         rotate_left
                         ·
                          show Act.put _ (some 171) _ = _
                          simp only [Act.put, List.setIfInBounds_toArray, List.set_cons_zero, List.set_cons_succ, i64_w, i32_w]
                          rfl
                         refine pure_ (i := 23) (N := some 172) (v := ?_) (a' := ?_) #[true, true, true, true, true, true, true, true, true, true, true, true, true, true, true, true, true, true, true, true, true, true, true, true, false, false, false, false, false, false, false, false, false, false, false, false, false, false, false, false, false, false, false, false, false, false, false, false, false, false] rfl rfl (any_of HT_.out (by kernel_rfl)) (fun _ _ _ h => h) (Or.inl ⟨by rfl, ?_⟩) ?_ ?_
                         rotate_left
                         ·
                          intro w'
                          go_simp
                          with_reducible rfl
                         rotate_left
                         ·
                          simp only [Act.put, List.setIfInBounds_toArray, List.set_cons_zero, List.set_cons_succ, i64_w, i32_w]
                          rfl
                         refine pure_ (i := 24) (N := some 173) (v := ?_) (a' := ?_) #[true, true, true, true, true, true, true, true, true, true, true, true, true, true, true, true, true, true, true, true, true, true, true, true, true, false, false, false, false, false, false, false, false, false, false, false, false, false, false, false, false, false, false, false, false, false, false, false, false, false] rfl rfl (any_of HT_.out (by kernel_rfl)) (fun _ _ _ h => h) (Or.inl ⟨by rfl, ?_⟩) ?_ ?_
                         rotate_left
                         ·
                          intro w'
                          go_simp
                          with_reducible rfl
                         rotate_left
                         ·
                          simp only [Act.put, List.setIfInBounds_toArray, List.set_cons_zero, List.set_cons_succ, i64_w, i32_w]
                          rfl
                         refine pure_ (i := 25) (N := some 174) (v := ?_) (a' := ?_) #[true, true, true, true, true, true, true, true, true, true, true, true, true, true, true, true, true, true, true, true, true, true, true, true, true, true, false, false, false, false, false, false, false, false, false, false, false, false, false, false, false, false, false, false, false, false, false, false, false, false] rfl rfl (any_of HT_.out (by kernel_rfl)) (fun _ _ _ h => h) (Or.inl ⟨by rfl, ?_⟩) ?_ ?_
                         rotate_left
                         ·
                          intro w'
                          go_simp
                          with_reducible rfl
                         rotate_left
                         ·
                          simp only [Act.put, List.setIfInBounds_toArray, List.set_cons_zero, List.set_cons_succ, i64_w, i32_w]
                          rfl
                         refine pure_ (i := 26) (N := some 175) (v := ?_) (a' := ?_) #[true, true, true, true, true, true, true, true, true, true, true, true, true, true, true, true, true, true, true, true, true, true, true, true, true, true, true, false, false, false, false, false, false, false, false, false, false, false, false, false, false, false, false, false, false, false, false, false, false, false] rfl rfl (any_of HT_.out (by kernel_rfl)) (fun _ _ _ h => h) (Or.inl ⟨by rfl, ?_⟩) ?_ ?_
                         rotate_left
                         ·
                          intro w'
                          go_simp
                          with_reducible rfl
                         rotate_left
                         ·
                          simp only [Act.put, List.setIfInBounds_toArray, List.set_cons_zero, List.set_cons_succ, i64_w, i32_w]
                          rfl
                         refine pure_ (i := 27) (N := some 176) (v := ?_) (a' := ?_) #[true, true, true, true, true, true, true, true, true, true, true, true, true, true, true, true, true, true, true, true, true, true, true, true, true, true, true, true, false, false, false, false, false, false, false, false, false, false, false, false, false, false, false, false, false, false, false, false, false, false] rfl rfl (any_of HT_.out (by kernel_rfl)) (fun _ _ _ h => h) (Or.inl ⟨by rfl, ?_⟩) ?_ ?_
                         rotate_left
                         ·
                          intro w'
                          go_simp
                          with_reducible rfl
                         rotate_left
                         ·
                          simp only [Act.put, List.setIfInBounds_toArray, List.set_cons_zero, List.set_cons_succ, i64_w, i32_w]
                          rfl
                         refine pure_ (i := 28) (N := some 177) (v := ?_) (a' := ?_) #[true, true, true, true, true, true, true, true, true, true, true, true, true, true, true, true, true, true, true, true, true, true, true, true, true, true, true, true, true, false, false, false, false, false, false, false, false, false, false, false, false, false, false, false, false, false, false, false, false, false] rfl rfl (any_of HT_.out (by kernel_rfl)) (fun _ _ _ h => h) (Or.inl ⟨by rfl, ?_⟩) ?_ ?_
                         rotate_left
                         ·
                          intro w'
                          go_simp
                          with_reducible rfl
                         rotate_left
                         ·
                          simp only [Act.put, List.setIfInBounds_toArray, List.set_cons_zero, List.set_cons_succ, i64_w, i32_w]
                          rfl
                         refine pure_ (i := 29) (N := some 178) (v := ?_) (a' := ?_) #[true, true, true, true, true, true, true, true, true, true, true, true, true, true, true, true, true, true, true, true, true, true, true, true, true, true, true, true, true, true, false, false, false, false, false, false, false, false, false, false, false, false, false, false, false, false, false, false, false, false] rfl rfl (any_of HT_.out (by kernel_rfl)) (fun _ _ _ h => h) (Or.inl ⟨by rfl, ?_⟩) ?_ ?_
                         rotate_left
                         ·
                          intro w'
                          go_simp
                          with_reducible rfl
                         rotate_left
                         ·
                          simp only [Act.put, List.setIfInBounds_toArray, List.set_cons_zero, List.set_cons_succ, i64_w, i32_w]
                          rfl
                         refine pure_ (i := 30) (N := some 179) (v := ?_) (a' := ?_) #[true, true, true, true, true, true, true, true, true, true, true, true, true, true, true, true, true, true, true, true, true, true, true, true, true, true, true, true, true, true, true, false, false, false, false, false, false, false, false, false, false, false, false, false, false, false, false, false, false, false] rfl rfl (any_of HT_.out (by kernel_rfl)) (fun _ _ _ h => h) (Or.inl ⟨by rfl, ?_⟩) ?_ ?_
                         rotate_left
                         ·
                          intro w'
                          go_simp
                          with_reducible rfl
                         rotate_left
                         ·
                          simp only [Act.put, List.setIfInBounds_toArray, List.set_cons_zero, List.set_cons_succ, i64_w, i32_w]
                          rfl
                         refine pure_ (i := 31) (N := some 180) (v := ?_) (a' := ?_) #[true, true, true, true, true, true, true, true, true, true, true, true, true, true, true, true, true, true, true, true, true, true, true, true, true, true, true, true, true, true, true, true, false, false, false, false, false, false, false, false, false, false, false, false, false, false, false, false, false, false] rfl rfl (any_of HT_.out (by kernel_rfl)) (fun _ _ _ h => h) (Or.inl ⟨by rfl, ?_⟩) ?_ ?_
                         rotate_left
                         ·
                          intro w'
                          go_simp
                          with_reducible rfl
                         rotate_left
                         ·
                          simp only [Act.put, List.setIfInBounds_toArray, List.set_cons_zero, List.set_cons_succ, i64_w, i32_w]
                          rfl
                         refine pure_ (i := 32) (N := some 181) (v := ?_) (a' := ?_) #[true, true, true, true, true, true, true, true, true, true, true, true, true, true, true, true, true, true, true, true, true, true, true, true, true, true, true, true, true, true, true, true, true, false, false, false, false, false, false, false, false, false, false, false, false, false, false, false, false, false] rfl rfl (any_of HT_.out (by kernel_rfl)) (fun _ _ _ h => h) (Or.inl ⟨by rfl, ?_⟩) ?_ ?_
                         rotate_left
                         ·
                          intro w'
                          go_simp
                          with_reducible rfl
                         rotate_left
                         ·
                          simp only [Act.put, List.setIfInBounds_toArray, List.set_cons_zero, List.set_cons_succ, i64_w, i32_w]
                          rfl
                         refine pure_ (i := 33) (N := some 182) (v := ?_) (a' := ?_) #[true, true, true, true, true, true, true, true, true, true, true, true, true, true, true, true, true, true, true, true, true, true, true, true, true, true, true, true, true, true, true, true, true, true, false, false, false, false, false, false, false, false, false, false, false, false, false, false, false, false] rfl rfl (any_of HT_.out (by kernel_rfl)) (fun _ _ _ h => h) (Or.inl ⟨by rfl, ?_⟩) ?_ ?_
                         rotate_left
                         ·
                          intro w'
                          go_simp
                          with_reducible rfl
                         rotate_left
                         ·
                          simp only [Act.put, List.setIfInBounds_toArray, List.set_cons_zero, List.set_cons_succ, i64_w, i32_w]
                          rfl
                         refine pure_ (i := 34) (N := some 183) (v := ?_) (a' := ?_) #[true, true, true, true, true, true, true, true, true, true, true, true, true, true, true, true, true, true, true, true, true, true, true, true, true, true, true, true, true, true, true, true, true, true, true, false, false, false, false, false, false, false, false, false, false, false, false, false, false, false] rfl rfl (any_of HT_.out (by kernel_rfl)) (fun _ _ _ h => h) (Or.inl ⟨by rfl, ?_⟩) ?_ ?_
                         rotate_left
                         ·
                          intro w'
                          go_simp
                          with_reducible rfl
                         rotate_left
                         ·
                          simp only [Act.put, List.setIfInBounds_toArray, List.set_cons_zero, List.set_cons_succ, i64_w, i32_w]
                          rfl
                         refine pure_ (i := 35) (N := some 184) (v := ?_) (a' := ?_) #[true, true, true, true, true, true, true, true, true, true, true, true, true, true, true, true, true, true, true, true, true, true, true, true, true, true, true, true, true, true, true, true, true, true, true, true, false, false, false, false, false, false, false, false, false, false, false, false, false, false] rfl rfl (any_of HT_.out (by kernel_rfl)) (fun _ _ _ h => h) (Or.inl ⟨by rfl, ?_⟩) ?_ ?_
                         rotate_left
                         ·
                          intro w'
                          go_simp
                          with_reducible rfl
                         rotate_left
                         ·
                          simp only [Act.put, List.setIfInBounds_toArray, List.set_cons_zero, List.set_cons_succ, i64_w, i32_w]
                          rfl
                         refine pure_ (i := 36) (N := some 185) (v := ?_) (a' := ?_) #[true, true, true, true, true, true, true, true, true, true, true, true, true, true, true, true, true, true, true, true, true, true, true, true, true, true, true, true, true, true, true, true, true, true, true, true, true, false, false, false, false, false, false, false, false, false, false, false, false, false] rfl rfl (any_of HT_.out (by kernel_rfl)) (fun _ _ _ h => h) (Or.inl ⟨by rfl, ?_⟩) ?_ ?_
                         rotate_left
                         ·
                          intro w'
                          go_simp
                          with_reducible rfl
                         rotate_left
                         ·
                          simp only [Act.put, List.setIfInBounds_toArray, List.set_cons_zero, List.set_cons_succ, i64_w, i32_w]
                          rfl
                         refine pure_ (i := 37) (N := some 186) (v := ?_) (a' := ?_) #[true, true, true, true, true, true, true, true, true, true, true, true, true, true, true, true, true, true, true, true, true, true, true, true, true, true, true, true, true, true, true, true, true, true, true, true, true, true, false, false, false, false, false, false, false, false, false, false, false, false] rfl rfl (any_of HT_.out (by kernel_rfl)) (fun _ _ _ h => h) (Or.inl ⟨by rfl, ?_⟩) ?_ ?_
                         rotate_left
                         ·
                          intro w'
                          go_simp
                          with_reducible rfl
                         rotate_left
                         ·
                          simp only [Act.put, List.setIfInBounds_toArray, List.set_cons_zero, List.set_cons_succ, i64_w, i32_w]
                          rfl
                         refine pure_ (i := 38) (N := some 187) (v := ?_) (a' := ?_) #[true, true, true, true, true, true, true, true, true, true, true, true, true, true, true, true, true, true, true, true, true, true, true, true, true, true, true, true, true, true, true, true, true, true, true, true, true, true, true, false, false, false, false, false, false, false, false, false, false, false] rfl rfl (any_of HT_.out (by kernel_rfl)) (fun _ _ _ h => h) (Or.inl ⟨by rfl, ?_⟩) ?_ ?_
                         rotate_left
                         ·
                          intro w'
                          go_simp
                          with_reducible rfl
                         rotate_left
                         ·
                          simp only [Act.put, List.setIfInBounds_toArray, List.set_cons_zero, List.set_cons_succ, i64_w, i32_w]
                          rfl
                         refine pure_ (i := 39) (N := some 188) (v := ?_) (a' := ?_) #[true, true, true, true, true, true, true, true, true, true, true, true, true, true, true, true, true, true, true, true, true, true, true, true, true, true, true, true, true, true, true, true, true, true, true, true, true, true, true, true, false, false, false, false, false, false, false, false, false, false] rfl rfl (any_of HT_.out (by kernel_rfl)) (fun _ _ _ h => h) (Or.inl ⟨by rfl, ?_⟩) ?_ ?_
                         rotate_left
                         ·
                          intro w'
                          go_simp
                          with_reducible rfl
                         rotate_left
                         ·
                          simp only [Act.put, List.setIfInBounds_toArray, List.set_cons_zero, List.set_cons_succ, i64_w, i32_w]
                          rfl
                         refine pure_ (i := 40) (N := some 189) (v := ?_) (a' := ?_) #[true, true, true, true, true, true, true, true, true, true, true, true, true, true, true, true, true, true, true, true, true, true, true, true, true, true, true, true, true, true, true, true, true, true, true, true, true, true, true, true, true, false, false, false, false, false, false, false, false, false] rfl rfl (any_of HT_.out (by kernel_rfl)) (fun _ _ _ h => h) (Or.inl ⟨by rfl, ?_⟩) ?_ ?_
                         rotate_left
                         ·
                          intro w'
                          go_simp
                          with_reducible rfl
                         rotate_left
                         ·
                          simp only [Act.put, List.setIfInBounds_toArray, List.set_cons_zero, List.set_cons_succ, i64_w, i32_w]
                          rfl
                         refine pure_ (i := 41) (N := some 190) (v := ?_) (a' := ?_) #[true, true, true, true, true, true, true, true, true, true, true, true, true, true, true, true, true, true, true, true, true, true, true, true, true, true, true, true, true, true, true, true, true, true, true, true, true, true, true, true, true, true, false, false, false, false, false, false, false, false] rfl rfl (any_of HT_.out (by kernel_rfl)) (fun _ _ _ h => h) (Or.inl ⟨by rfl, ?_⟩) ?_ ?_
                         rotate_left
                         ·
                          intro w'
                          go_simp
                          with_reducible rfl
                         rotate_left
                         ·
                          simp only [Act.put, List.setIfInBounds_toArray, List.set_cons_zero, List.set_cons_succ, i64_w, i32_w]
                          rfl
                         refine pure_ (i := 42) (N := some 191) (v := ?_) (a' := ?_) #[true, true, true, true, true, true, true, true, true, true, true, true, true, true, true, true, true, true, true, true, true, true, true, true, true, true, true, true, true, true, true, true, true, true, true, true, true, true, true, true, true, true, true, false, false, false, false, false, false, false] rfl rfl (any_of HT_.out (by kernel_rfl)) (fun _ _ _ h => h) (Or.inl ⟨by rfl, ?_⟩) ?_ ?_
                         rotate_left
                         ·
                          intro w'
                          go_simp
                          with_reducible rfl
                         rotate_left
                         ·
                          simp only [Act.put, List.setIfInBounds_toArray, List.set_cons_zero, List.set_cons_succ, i64_w, i32_w]
                          rfl
                         refine pure_ (i := 43) (N := some 192) (v := ?_) (a' := ?_) #[true, true, true, true, true, true, true, true, true, true, true, true, true, true, true, true, true, true, true, true, true, true, true, true, true, true, true, true, true, true, true, true, true, true, true, true, true, true, true, true, true, true, true, true, false, false, false, false, false, false] rfl rfl (any_of HT_.out (by kernel_rfl)) (fun _ _ _ h => h) (Or.inl ⟨by rfl, ?_⟩) ?_ ?_
                         rotate_left
                         ·
                          intro w'
                          go_simp
                          with_reducible rfl
                         rotate_left
                         ·
                          simp only [Act.put, List.setIfInBounds_toArray, List.set_cons_zero, List.set_cons_succ, i64_w, i32_w]
                          rfl
                         refine pure_ (i := 44) (N := some 193) (v := ?_) (a' := ?_) #[true, true, true, true, true, true, true, true, true, true, true, true, true, true, true, true, true, true, true, true, true, true, true, true, true, true, true, true, true, true, true, true, true, true, true, true, true, true, true, true, true, true, true, true, true, false, false, false, false, false] rfl rfl (any_of HT_.out (by kernel_rfl)) (fun _ _ _ h => h) (Or.inl ⟨by rfl, ?_⟩) ?_ ?_
                         rotate_left
                         ·
                          intro w'
                          go_simp
                          with_reducible rfl
                         rotate_left
                         ·
                          simp only [Act.put, List.setIfInBounds_toArray, List.set_cons_zero, List.set_cons_succ, i64_w, i32_w]
                          rfl
                         refine pure_ (i := 45) (N := some 194) (v := ?_) (a' := ?_) #[true, true, true, true, true, true, true, true, true, true, true, true, true, true, true, true, true, true, true, true, true, true, true, true, true, true, true, true, true, true, true, true, true, true, true, true, true, true, true, true, true, true, true, true, true, true, false, false, false, false] rfl rfl (any_of HT_.out (by kernel_rfl)) (fun _ _ _ h => h) (Or.inl ⟨by rfl, ?_⟩) ?_ ?_
                         rotate_left
                         ·
                          intro w'
                          go_simp
                          with_reducible rfl
                         rotate_left
                         ·
                          simp only [Act.put, List.setIfInBounds_toArray, List.set_cons_zero, List.set_cons_succ, i64_w, i32_w]
                          rfl
                         refine pure_ (i := 46) (N := some 195) (v := ?_) (a' := ?_) #[true, true, true, true, true, true, true, true, true, true, true, true, true, true, true, true, true, true, true, true, true, true, true, true, true, true, true, true, true, true, true, true, true, true, true, true, true, true, true, true, true, true, true, true, true, true, true, false, false, false] rfl rfl (any_of HT_.out (by kernel_rfl)) (fun _ _ _ h => h) (Or.inl ⟨by rfl, ?_⟩) ?_ ?_
                         rotate_left
                         ·
                          intro w'
                          go_simp
                          with_reducible rfl
                         rotate_left
                         ·
                          simp only [Act.put, List.setIfInBounds_toArray, List.set_cons_zero, List.set_cons_succ, i64_w, i32_w]
                          rfl
                         refine one_ (i := 47) (N := some 196) #[true, true, true, true, true, true, true, true, true, true, true, true, true, true, true, true, true, true, true, true, true, true, true, true, true, true, true, true, true, true, true, true, true, true, true, true, true, true, true, true, true, true, true, true, true, true, true, true, false, false] rfl rfl (one_of HT_.out (by kernel_rfl)) (by decide) (fun K hK => ?_)
                         refine goes_ Tryd.func13 (by kernel_rfl) rfl #[.slice A105 y569.length c105, .slice A107 y573.length c107] (by rfl) rfl rfl (by (try simp only [List.map_toArray, List.map_cons, List.map_nil]); first | done | rfl | (simp only [List.length_drop, List.length_take]; rfl)) ?_
                         with_reducible refine (heraldlaw10_same.calls k4 _ _ y569 _ _ y573 false _ ?side1 ?side2 ?side3 ?side4 A89.out).mono ?_
                         (case side1 => repeat (first | exact (by repeat (first | (with_reducible exact HR572.out) | (with_reducible refine Kd.C_alloc ?_ _) | (with_reducible refine Kd.C_drewN ?_ _) | (with_reducible refine Kd.C_drew ?_) | exact HR572.out)) | (with_reducible refine Kd.C_alloc ?_ _) | (with_reducible refine Kd.C_drewN ?_ _) | (with_reducible refine Kd.C_drew ?_)))
                         (case side2 => exact HC572.out)
                         (case side3 => repeat (first | exact (by repeat (first | (with_reducible exact HR576.out) | (with_reducible refine Kd.C_alloc ?_ _) | (with_reducible refine Kd.C_drewN ?_ _) | (with_reducible refine Kd.C_drew ?_) | exact HR576.out)) | (with_reducible refine Kd.C_alloc ?_ _) | (with_reducible refine Kd.C_drewN ?_ _) | (with_reducible refine Kd.C_drew ?_)))
                         (case side4 => exact HC576.out)
                         rintro e w' ⟨rfl, ⟨nd, rfl⟩⟩
                         refine ⟨_, rfl, ?_⟩
                         refine hK.out _ _ trivial (fun hHeld => ?_)
                         clear hK K
                         refine norm_ (a' := ?_) ?_ ?_
                         rotate_left
                         ·
                          show Act.put _ (some 196) _ = _
                          simp only [Act.put, List.setIfInBounds_toArray, List.set_cons_zero, List.set_cons_succ, i64_w, i32_w]
                          rfl
                         refine pure_ (i := 48) (N := some 197) (v := ?_) (a' := ?_) #[true, true, true, true, true, true, true, true, true, true, true, true, true, true, true, true, true, true, true, true, true, true, true, true, true, true, true, true, true, true, true, true, true, true, true, true, true, true, true, true, true, true, true, true, true, true, true, true, true, false] rfl rfl (any_of HT_.out (by kernel_rfl)) (fun _ _ _ h => h) (Or.inl ⟨by rfl, ?_⟩) ?_ ?_
                         rotate_left
                         ·
                          intro w'
                          go_simp
                          with_reducible rfl
                         rotate_left
                         ·
                          simp only [Act.put, List.setIfInBounds_toArray, List.set_cons_zero, List.set_cons_succ, i64_w, i32_w]
                          rfl
                         refine pure_ (i := 49) (N := some 198) (v := ?_) (a' := ?_) #[true, true, true, true, true, true, true, true, true, true, true, true, true, true, true, true, true, true, true, true, true, true, true, true, true, true, true, true, true, true, true, true, true, true, true, true, true, true, true, true, true, true, true, true, true, true, true, true, true, true] rfl rfl (any_of HT_.out (by kernel_rfl)) (fun _ _ _ h => h) (Or.inl ⟨by rfl, ?_⟩) ?_ ?_
                         rotate_left
                         ·
                          intro w'
                          go_simp
                          with_reducible rfl
                         rotate_left
                         ·
                          simp only [Act.put, List.setIfInBounds_toArray, List.set_cons_zero, List.set_cons_succ, i64_w, i32_w]
                          rfl
                         refine done_ (done_of HT_.out (by kernel_rfl)) ?_
                         try go_wp2
                         go_ret
                         exact ⟨by first | rfl | (simp [errW_none, errW_some] <;> rfl) | (simp only [← hji73, ← hji77]; first | rfl | (simp [errW_none, errW_some] <;> rfl)) | (simp [*, errW_none, errW_some] <;> rfl), by repeat (first | (with_reducible first | exact HB.out | apply below_alloc | apply pw_below_drewN | apply below_drew1 | refine below_set ?_ GE512.out) | exact HB.out)⟩
                       ·
                        as_aux_lemma =>
                        rw [if_neg c88] at H
                        exact absurd H (by simp)
                      ·
                       as_aux_lemma =>
                       rw [if_neg c85] at H
                       exact absurd H (by simp)
                     ·
                      as_aux_lemma =>
                      replace c82 := Bool.eq_false_iff.mpr c82
                      subst c82
                      have H1 : (some false) = some r := by rw [if_neg (show ¬ (false = true) by decide)] at H; exact H
                      clear H
                      have H := H1
                      clear H1
                      obtain rfl := Option.some.inj H
                      try go_wp2
                      have n0_ := Aside0.mk (Kd.R_drew HO_13.out)
                      have n1_ := Aside0.mk (Kd.R_drew HO_14.out)
                      have n2_ := Aside0.mk (Kd.R_drew HO_21.out)
                      have n3_ := Aside0.mk (Kd.R_drew HO_22.out)
                      have n4_ := Aside0.mk (blk_drew BK512.out)
                      have n5_ := Aside0.mk (below_drew1 HB.out)
                      clear HO_13
                      clear HO_14
                      clear HO_21
                      clear HO_22
                      clear BK512
                      clear HB
                      have HO_13 := n0_
                      have HO_14 := n1_
                      have HO_21 := n2_
                      have HO_22 := n3_
                      have BK512 := n4_
                      have HB := n5_
                      clear n0_ n1_ n2_ n3_ n4_ n5_
                      obtain ⟨Ao111, co111, eo111⟩ := Kd.R_slice HO_21.out
                      (first | subst eo111 | (injection eo111 with f1_ f2_ f3_; have f4_ := f1_.symm; have f5_ := f3_.symm; clear f1_ f2_ f3_; subst f4_; subst f5_))
                      have q110 : ((wrap64 ((ji73) + a1)) : Int) ≤ ((t551.length : Int) : Int) := of_decide_eq_true (by first | (with_reducible assumption) | assumption)
                      obtain ⟨i0110, hi0110, _, hsz110, _⟩ := info_parts info33
                      have hroom110 : t551.length ≤ co111 := (Kd.R_reads' HO_21.out).2.1
                      have hC110 : Kd.C (Kd.int .i8) _ Ao111 t551.length t551 := (Kd.R_reads' HO_21.out).2.2
                      have ql110 : ((ji73) : Int) ≤ ((wrap64 ((ji73) + a1)) : Int) := of_decide_eq_true (by first | (with_reducible assumption) | assumption)
                      have q0110 : (0 : Int) ≤ ((ji73) : Int) := of_decide_eq_true (by first | (with_reducible assumption) | assumption)
                      have hcut110 := cut_mid (P := Tryd.prog) 22 33 .i64 .i64 Tryd.underlying22 hi0110 1 hsz110 Ao111 t551.length co111 (ji73) (wrap64 ((ji73) + a1)) q0110 ql110 q110 hroom110
                      have hr110 := Kd.C_mid (lo := ((ji73) : Int).toNat) (hi := ((wrap64 ((ji73) + a1)) : Int).toNat) (c := co111) hC110 (by omega) (by omega) hroom110
                      obtain ⟨A110, hA110⟩ : ∃ A1, A1 = (if co111 = ((ji73) : Int).toNat then Ao111 else (Ao111 : Option Addr).map (·.add (((ji73) : Int).toNat * 1))) := ⟨_, rfl⟩
                      obtain ⟨c110, hc110⟩ : ∃ c1, c1 = co111 - ((ji73) : Int).toNat := ⟨_, rfl⟩
                      have hy110 : y560.length = ((wrap64 ((ji73) + a1)) : Int).toNat - ((ji73) : Int).toNat := (by rw [Ny560.out, List.length_drop, List.length_take] <;> omega)
                      rw [show ((t551).take ((wrap64 ((ji73) + a1)) : Int).toNat).drop ((ji73) : Int).toNat = y560 from Ny560.out.symm] at hr110
                      replace hr110 : Kd.C (Kd.int .i8) _ A110 y560.length y560 := (by rw [hA110]; exact hr110)
                      rw [← hy110, ← hA110, ← hc110] at hcut110
                      have HR563 := Aside0.mk hr110
                      have HC563 := Aside0.mk (show y560.length ≤ c110 from by rw [hy110, hc110]; exact Nat.sub_le_sub_right (Nat.le_trans (by omega) hroom110) _)
                      clear hr110 hC110 hroom110 hi0110 hsz110 hc110
                      have KY110 := Aside0.mk hy110
                      have KA110 := Aside0.mk hA110
                      clear hy110 hA110
                      have KL110 := Aside0.mk (show ((wrap64 ((ji73) + a1)) : Int).toNat ≤ t551.length from by omega)
                      have KM110 := Aside0.mk (show ((ji73) : Int).toNat ≤ ((wrap64 ((ji73) + a1)) : Int).toNat from by omega)
                      replace q110 := eq_true q110
                      obtain ⟨Ao113, co113, eo113⟩ := Kd.R_slice HO_13.out
                      (first | subst eo113 | (injection eo113 with f1_ f2_ f3_; have f4_ := f1_.symm; have f5_ := f3_.symm; clear f1_ f2_ f3_; subst f4_; subst f5_))
                      have q112 : ((wrap64 ((ji77) + a1)) : Int) ≤ ((t530.length : Int) : Int) := of_decide_eq_true (by first | (with_reducible assumption) | assumption)
                      obtain ⟨i0112, hi0112, _, hsz112, _⟩ := info_parts info33
                      have hroom112 : t530.length ≤ co113 := (Kd.R_reads' HO_13.out).2.1
                      have hC112 : Kd.C (Kd.int .i8) _ Ao113 t530.length t530 := (Kd.R_reads' HO_13.out).2.2
                      have ql112 : ((ji77) : Int) ≤ ((wrap64 ((ji77) + a1)) : Int) := of_decide_eq_true (by first | (with_reducible assumption) | assumption)
                      have q0112 : (0 : Int) ≤ ((ji77) : Int) := of_decide_eq_true (by first | (with_reducible assumption) | assumption)
                      have hcut112 := cut_mid (P := Tryd.prog) 22 33 .i64 .i64 Tryd.underlying22 hi0112 1 hsz112 Ao113 t530.length co113 (ji77) (wrap64 ((ji77) + a1)) q0112 ql112 q112 hroom112
                      have hr112 := Kd.C_mid (lo := ((ji77) : Int).toNat) (hi := ((wrap64 ((ji77) + a1)) : Int).toNat) (c := co113) hC112 (by omega) (by omega) hroom112
                      obtain ⟨A112, hA112⟩ : ∃ A1, A1 = (if co113 = ((ji77) : Int).toNat then Ao113 else (Ao113 : Option Addr).map (·.add (((ji77) : Int).toNat * 1))) := ⟨_, rfl⟩
                      obtain ⟨c112, hc112⟩ : ∃ c1, c1 = co113 - ((ji77) : Int).toNat := ⟨_, rfl⟩
                      have hy112 : y564.length = ((wrap64 ((ji77) + a1)) : Int).toNat - ((ji77) : Int).toNat := (by rw [Ny564.out, List.length_drop, List.length_take] <;> omega)
                      rw [show ((t530).take ((wrap64 ((ji77) + a1)) : Int).toNat).drop ((ji77) : Int).toNat = y564 from Ny564.out.symm] at hr112
                      replace hr112 : Kd.C (Kd.int .i8) _ A112 y564.length y564 := (by rw [hA112]; exact hr112)
                      rw [← hy112, ← hA112, ← hc112] at hcut112
                      have HR567 := Aside0.mk hr112
                      have HC567 := Aside0.mk (show y564.length ≤ c112 from by rw [hy112, hc112]; exact Nat.sub_le_sub_right (Nat.le_trans (by omega) hroom112) _)
                      clear hr112 hC112 hroom112 hi0112 hsz112 hc112
                      have KY112 := Aside0.mk hy112
                      have KA112 := Aside0.mk hA112
                      clear hy112 hA112
                      have KL112 := Aside0.mk (show ((wrap64 ((ji77) + a1)) : Int).toNat ≤ t530.length from by omega)
                      have KM112 := Aside0.mk (show ((ji77) : Int).toNat ≤ ((wrap64 ((ji77) + a1)) : Int).toNat from by omega)
                      replace q112 := eq_true q112
                      refine start_ (n := 50) (S := fun w' => True) (ds := []) #[false, false, false, false, false, false, false, false, false, false, false, false, false, false, false, false, false, false, false, false, false, false, false, false, false, false, false, false, false, false, false, false, false, false, false, false, false, false, false, false, false, false, false, false, false, false, false, false, false, false] (by kernel_rfl) rfl rfl trivial (fun hHeld => ?_); refine with_tabW heraldlaw10_RopeStretches.tab20 heraldlaw10_RopeStretches.bits20 (fun HT_ HW_ => ?_)
                      generalize wr.drew = w109 at HO_13 HO_14 HO_21 HO_22 BK512 HB HR563 HR567 hHeld ⊢
                      refine pure_ (i := 0) (N := some 149) (v := ?_) (a' := ?_) #[true, false, false, false, false, false, false, false, false, false, false, false, false, false, false, false, false, false, false, false, false, false, false, false, false, false, false, false, false, false, false, false, false, false, false, false, false, false, false, false, false, false, false, false, false, false, false, false, false, false] rfl rfl (any_of HT_.out (by kernel_rfl)) (fun _ _ _ h => h) (Or.inl ⟨by rfl, ?_⟩) ?_ ?_
                      rotate_left
                      ·
                       as_aux_lemma =>
                       intro w'
                       go_simp
                       with_reducible rfl
                      rotate_left
                      ·
                       as_aux_lemma =>
                       simp only [Act.put, List.setIfInBounds_toArray, List.set_cons_zero, List.set_cons_succ, i64_w, i32_w]
                       rfl
                      refine pure_ (i := 1) (N := some 150) (v := ?_) (a' := ?_) #[true, true, false, false, false, false, false, false, false, false, false, false, false, false, false, false, false, false, false, false, false, false, false, false, false, false, false, false, false, false, false, false, false, false, false, false, false, false, false, false, false, false, false, false, false, false, false, false, false, false] rfl rfl (any_of HT_.out (by kernel_rfl)) (fun _ _ _ h => h) (Or.inl ⟨by rfl, ?_⟩) ?_ ?_
                      rotate_left
                      ·
                       as_aux_lemma =>
                       intro w'
                       go_simp
                       with_reducible rfl
                      rotate_left
                      ·
                       as_aux_lemma =>
                       simp only [Act.put, List.setIfInBounds_toArray, List.set_cons_zero, List.set_cons_succ, i64_w, i32_w]
                       rfl
                      refine pure_ (i := 2) (N := some 151) (v := ?_) (a' := ?_) #[true, true, true, false, false, false, false, false, false, false, false, false, false, false, false, false, false, false, false, false, false, false, false, false, false, false, false, false, false, false, false, false, false, false, false, false, false, false, false, false, false, false, false, false, false, false, false, false, false, false] rfl rfl (any_of HT_.out (by kernel_rfl)) (fun _ _ _ h => h) (Or.inl ⟨by rfl, ?_⟩) ?_ ?_
                      rotate_left
                      ·
                       as_aux_lemma =>
                       intro w'
                       go_simp
                       with_reducible rfl
                      rotate_left
                      ·
                       as_aux_lemma =>
                       simp only [Act.put, List.setIfInBounds_toArray, List.set_cons_zero, List.set_cons_succ, i64_w, i32_w]
                       rfl
                      refine pure_ (i := 3) (N := some 152) (v := ?_) (a' := ?_) #[true, true, true, true, false, false, false, false, false, false, false, false, false, false, false, false, false, false, false, false, false, false, false, false, false, false, false, false, false, false, false, false, false, false, false, false, false, false, false, false, false, false, false, false, false, false, false, false, false, false] rfl rfl (any_of HT_.out (by kernel_rfl)) (fun _ _ _ h => h) (Or.inl ⟨by rfl, ?_⟩) ?_ ?_
                      rotate_left
                      ·
                       as_aux_lemma =>
                       intro w'
                       go_simp
                       with_reducible rfl
                      rotate_left
                      ·
                       as_aux_lemma =>
                       simp only [Act.put, List.setIfInBounds_toArray, List.set_cons_zero, List.set_cons_succ, i64_w, i32_w]
                       rfl
                      refine pure_ (i := 4) (N := some 153) (v := ?_) (a' := ?_) #[true, true, true, true, true, false, false, false, false, false, false, false, false, false, false, false, false, false, false, false, false, false, false, false, false, false, false, false, false, false, false, false, false, false, false, false, false, false, false, false, false, false, false, false, false, false, false, false, false, false] rfl rfl (any_of HT_.out (by kernel_rfl)) (fun _ _ _ h => h) (Or.inl ⟨by rfl, ?_⟩) ?_ ?_
                      rotate_left
                      ·
                       as_aux_lemma =>
                       intro w'
                       go_simp
                       with_reducible rfl
                      rotate_left
                      ·
                       as_aux_lemma =>
                       simp only [Act.put, List.setIfInBounds_toArray, List.set_cons_zero, List.set_cons_succ, i64_w, i32_w]
                       rfl
                      refine pure_ (i := 5) (N := some 154) (v := ?_) (a' := ?_) #[true, true, true, true, true, true, false, false, false, false, false, false, false, false, false, false, false, false, false, false, false, false, false, false, false, false, false, false, false, false, false, false, false, false, false, false, false, false, false, false, false, false, false, false, false, false, false, false, false, false] rfl rfl (any_of HT_.out (by kernel_rfl)) (fun _ _ _ h => h) (Or.inl ⟨by rfl, ?_⟩) ?_ ?_
                      rotate_left
                      ·
                       as_aux_lemma =>
                       intro w'
                       go_simp
                       with_reducible rfl
                      rotate_left
                      ·
                       as_aux_lemma =>
                       simp only [Act.put, List.setIfInBounds_toArray, List.set_cons_zero, List.set_cons_succ, i64_w, i32_w]
                       rfl
                      refine pure_ (i := 6) (N := some 155) (v := ?_) (a' := ?_) #[true, true, true, true, true, true, true, false, false, false, false, false, false, false, false, false, false, false, false, false, false, false, false, false, false, false, false, false, false, false, false, false, false, false, false, false, false, false, false, false, false, false, false, false, false, false, false, false, false, false] rfl rfl (any_of HT_.out (by kernel_rfl)) (fun _ _ _ h => h) (Or.inl ⟨by rfl, ?_⟩) ?_ ?_
                      rotate_left
                      ·
                       as_aux_lemma =>
                       intro w'
                       go_simp
                       with_reducible rfl
                      rotate_left
                      ·
                       as_aux_lemma =>
                       simp only [Act.put, List.setIfInBounds_toArray, List.set_cons_zero, List.set_cons_succ, i64_w, i32_w]
                       rfl
                      refine pure_ (i := 7) (N := some 156) (v := ?_) (a' := ?_) #[true, true, true, true, true, true, true, true, false, false, false, false, false, false, false, false, false, false, false, false, false, false, false, false, false, false, false, false, false, false, false, false, false, false, false, false, false, false, false, false, false, false, false, false, false, false, false, false, false, false] rfl rfl (any_of HT_.out (by kernel_rfl)) (fun _ _ _ h => h) (Or.inl ⟨by rfl, ?_⟩) ?_ ?_
                      rotate_left
                      ·
                       as_aux_lemma =>
                       intro w'
                       go_simp
                       with_reducible rfl
                      rotate_left
                      ·
                       as_aux_lemma =>
                       simp only [Act.put, List.setIfInBounds_toArray, List.set_cons_zero, List.set_cons_succ, i64_w, i32_w]
                       rfl
                      refine pure_ (i := 8) (N := some 157) (v := ?_) (a' := ?_) #[true, true, true, true, true, true, true, true, true, false, false, false, false, false, false, false, false, false, false, false, false, false, false, false, false, false, false, false, false, false, false, false, false, false, false, false, false, false, false, false, false, false, false, false, false, false, false, false, false, false] rfl rfl (any_of HT_.out (by kernel_rfl)) (fun _ _ _ h => h) (Or.inl ⟨by rfl, ?_⟩) ?_ ?_
                      rotate_left
                      ·
                       as_aux_lemma =>
                       intro w'
                       go_simp
                       with_reducible rfl
                      rotate_left
                      ·
                       as_aux_lemma =>
                       simp only [Act.put, List.setIfInBounds_toArray, List.set_cons_zero, List.set_cons_succ, i64_w, i32_w]
                       rfl
                      refine pure_ (i := 9) (N := some 158) (v := ?_) (a' := ?_) #[true, true, true, true, true, true, true, true, true, true, false, false, false, false, false, false, false, false, false, false, false, false, false, false, false, false, false, false, false, false, false, false, false, false, false, false, false, false, false, false, false, false, false, false, false, false, false, false, false, false] rfl rfl (any_of HT_.out (by kernel_rfl)) (fun _ _ _ h => h) (Or.inl ⟨by rfl, ?_⟩) ?_ ?_
                      rotate_left
                      ·
                       as_aux_lemma =>
                       intro w'
                       go_simp
                       with_reducible rfl
                      rotate_left
                      ·
                       as_aux_lemma =>
                       simp only [Act.put, List.setIfInBounds_toArray, List.set_cons_zero, List.set_cons_succ, i64_w, i32_w]
                       rfl
                      refine pure_ (i := 10) (N := some 159) (v := ?_) (a' := ?_) #[true, true, true, true, true, true, true, true, true, true, true, false, false, false, false, false, false, false, false, false, false, false, false, false, false, false, false, false, false, false, false, false, false, false, false, false, false, false, false, false, false, false, false, false, false, false, false, false, false, false] rfl rfl (any_of HT_.out (by kernel_rfl)) (fun _ _ _ h => h) (Or.inl ⟨by rfl, ?_⟩) ?_ ?_
                      rotate_left
                      ·
                       as_aux_lemma =>
                       intro w'
                       go_simp
                       with_reducible rfl
                      rotate_left
                      ·
                       as_aux_lemma =>
                       simp only [Act.put, List.setIfInBounds_toArray, List.set_cons_zero, List.set_cons_succ, i64_w, i32_w]
                       rfl
                      refine pure_ (i := 11) (N := some 160) (v := ?_) (a' := ?_) #[true, true, true, true, true, true, true, true, true, true, true, true, false, false, false, false, false, false, false, false, false, false, false, false, false, false, false, false, false, false, false, false, false, false, false, false, false, false, false, false, false, false, false, false, false, false, false, false, false, false] rfl rfl (any_of HT_.out (by kernel_rfl)) (fun _ _ _ h => h) (Or.inl ⟨by rfl, ?_⟩) ?_ ?_
                      rotate_left
                      ·
                       as_aux_lemma =>
                       intro w'
                       go_simp
                       with_reducible rfl
                      rotate_left
                      ·
                       as_aux_lemma =>
                       simp only [Act.put, List.setIfInBounds_toArray, List.set_cons_zero, List.set_cons_succ, i64_w, i32_w]
                       rfl
                      refine pure_ (i := 12) (N := some 161) (v := ?_) (a' := ?_) #[true, true, true, true, true, true, true, true, true, true, true, true, true, false, false, false, false, false, false, false, false, false, false, false, false, false, false, false, false, false, false, false, false, false, false, false, false, false, false, false, false, false, false, false, false, false, false, false, false, false] rfl rfl (any_of HT_.out (by kernel_rfl)) (fun _ _ _ h => h) (Or.inl ⟨by rfl, ?_⟩) ?_ ?_
                      rotate_left
                      ·
                       as_aux_lemma =>
                       intro w'
                       go_simp
                       with_reducible rfl
                      rotate_left
                      ·
                       as_aux_lemma =>
                       simp only [Act.put, List.setIfInBounds_toArray, List.set_cons_zero, List.set_cons_succ, i64_w, i32_w]
                       rfl
                      refine pure_ (i := 13) (N := some 162) (v := ?_) (a' := ?_) #[true, true, true, true, true, true, true, true, true, true, true, true, true, true, false, false, false, false, false, false, false, false, false, false, false, false, false, false, false, false, false, false, false, false, false, false, false, false, false, false, false, false, false, false, false, false, false, false, false, false] rfl rfl (any_of HT_.out (by kernel_rfl)) (fun _ _ _ h => h) (Or.inl ⟨by rfl, ?_⟩) ?_ ?_
                      rotate_left
                      ·
                       as_aux_lemma =>
                       intro w'
                       go_simp
                       with_reducible rfl
                      rotate_left
                      ·
                       as_aux_lemma =>
                       simp only [Act.put, List.setIfInBounds_toArray, List.set_cons_zero, List.set_cons_succ, i64_w, i32_w]
                       rfl
                      refine pure_ (i := 14) (N := some 163) (v := ?_) (a' := ?_) #[true, true, true, true, true, true, true, true, true, true, true, true, true, true, true, false, false, false, false, false, false, false, false, false, false, false, false, false, false, false, false, false, false, false, false, false, false, false, false, false, false, false, false, false, false, false, false, false, false, false] rfl rfl (any_of HT_.out (by kernel_rfl)) (fun _ _ _ h => h) (Or.inl ⟨by rfl, ?_⟩) ?_ ?_
                      rotate_left
                      ·
                       as_aux_lemma =>
                       intro w'
                       go_simp
                       with_reducible rfl
                      rotate_left
                      ·
                       as_aux_lemma =>
                       simp only [Act.put, List.setIfInBounds_toArray, List.set_cons_zero, List.set_cons_succ, i64_w, i32_w]
                       rfl
                      refine pure_ (i := 15) (N := some 164) (v := ?_) (a' := ?_) #[true, true, true, true, true, true, true, true, true, true, true, true, true, true, true, true, false, false, false, false, false, false, false, false, false, false, false, false, false, false, false, false, false, false, false, false, false, false, false, false, false, false, false, false, false, false, false, false, false, false] rfl rfl (any_of HT_.out (by kernel_rfl)) (fun _ _ _ h => h) (Or.inl ⟨by rfl, ?_⟩) ?_ ?_
                      rotate_left
                      ·
                       as_aux_lemma =>
                       intro w'
                       go_simp
                       with_reducible rfl
                      rotate_left
                      ·
                       as_aux_lemma =>
                       simp only [Act.put, List.setIfInBounds_toArray, List.set_cons_zero, List.set_cons_succ, i64_w, i32_w]
                       rfl
                      refine pure_ (i := 16) (N := some 165) (v := ?_) (a' := ?_) #[true, true, true, true, true, true, true, true, true, true, true, true, true, true, true, true, true, false, false, false, false, false, false, false, false, false, false, false, false, false, false, false, false, false, false, false, false, false, false, false, false, false, false, false, false, false, false, false, false, false] rfl rfl (any_of HT_.out (by kernel_rfl)) (fun _ _ _ h => h) (Or.inl ⟨by rfl, ?_⟩) ?_ ?_
                      rotate_left
                      ·
                       as_aux_lemma =>
                       intro w'
                       go_simp
                       with_reducible rfl
                      rotate_left
                      ·
                       as_aux_lemma =>
                       simp only [Act.put, List.setIfInBounds_toArray, List.set_cons_zero, List.set_cons_succ, i64_w, i32_w]
                       rfl
                      refine pure_ (i := 17) (N := some 166) (v := ?_) (a' := ?_) #[true, true, true, true, true, true, true, true, true, true, true, true, true, true, true, true, true, true, false, false, false, false, false, false, false, false, false, false, false, false, false, false, false, false, false, false, false, false, false, false, false, false, false, false, false, false, false, false, false, false] rfl rfl (any_of HT_.out (by kernel_rfl)) (fun _ _ _ h => h) (Or.inl ⟨by rfl, ?_⟩) ?_ ?_
                      rotate_left
                      ·
                       as_aux_lemma =>
                       intro w'
                       go_simp
                       with_reducible rfl
                      rotate_left
                      ·
                       as_aux_lemma =>
                       simp only [Act.put, List.setIfInBounds_toArray, List.set_cons_zero, List.set_cons_succ, i64_w, i32_w]
                       rfl
                      refine pure_ (i := 18) (N := some 167) (v := ?_) (a' := ?_) #[true, true, true, true, true, true, true, true, true, true, true, true, true, true, true, true, true, true, true, false, false, false, false, false, false, false, false, false, false, false, false, false, false, false, false, false, false, false, false, false, false, false, false, false, false, false, false, false, false, false] rfl rfl (any_of HT_.out (by kernel_rfl)) (fun _ _ _ h => h) (Or.inl ⟨by rfl, ?_⟩) ?_ ?_
                      rotate_left
                      ·
                       as_aux_lemma =>
                       intro w'
                       go_simp
                       with_reducible rfl
                      rotate_left
                      ·
                       as_aux_lemma =>
                       simp only [Act.put, List.setIfInBounds_toArray, List.set_cons_zero, List.set_cons_succ, i64_w, i32_w]
                       rfl
                      refine pure_ (i := 19) (N := some 168) (v := ?_) (a' := ?_) #[true, true, true, true, true, true, true, true, true, true, true, true, true, true, true, true, true, true, true, true, false, false, false, false, false, false, false, false, false, false, false, false, false, false, false, false, false, false, false, false, false, false, false, false, false, false, false, false, false, false] rfl rfl (any_of HT_.out (by kernel_rfl)) (fun _ _ _ h => h) (Or.inl ⟨by rfl, ?_⟩) ?_ ?_
                      rotate_left
                      ·
                       as_aux_lemma =>
                       intro w'
                       go_simp
                       with_reducible rfl
                      rotate_left
                      ·
                       as_aux_lemma =>
                       simp only [Act.put, List.setIfInBounds_toArray, List.set_cons_zero, List.set_cons_succ, i64_w, i32_w]
                       rfl
                      refine pure_ (i := 20) (N := some 169) (v := ?_) (a' := ?_) #[true, true, true, true, true, true, true, true, true, true, true, true, true, true, true, true, true, true, true, true, true, false, false, false, false, false, false, false, false, false, false, false, false, false, false, false, false, false, false, false, false, false, false, false, false, false, false, false, false, false] rfl rfl (any_of HT_.out (by kernel_rfl)) (fun _ _ _ h => h) (Or.inl ⟨by rfl, ?_⟩) ?_ ?_
                      rotate_left
                      ·
                       as_aux_lemma =>
                       intro w'
                       go_simp
                       with_reducible rfl
                      rotate_left
                      ·
                       as_aux_lemma =>
                       simp only [Act.put, List.setIfInBounds_toArray, List.set_cons_zero, List.set_cons_succ, i64_w, i32_w]
                       rfl
                      refine pure_ (i := 21) (N := some 170) (v := ?_) (a' := ?_) #[true, true, true, true, true, true, true, true, true, true, true, true, true, true, true, true, true, true, true, true, true, true, false, false, false, false, false, false, false, false, false, false, false, false, false, false, false, false, false, false, false, false, false, false, false, false, false, false, false, false] rfl rfl (any_of HT_.out (by kernel_rfl)) (fun _ _ _ h => h) (Or.inl ⟨by rfl, ?_⟩) ?_ ?_
                      rotate_left
                      ·
                       as_aux_lemma =>
                       intro w'
                       go_simp
                       with_reducible rfl
                      rotate_left
                      ·
                       as_aux_lemma =>
                       simp only [Act.put, List.setIfInBounds_toArray, List.set_cons_zero, List.set_cons_succ, i64_w, i32_w]
                       rfl
                      refine one_ (i := 22) (N := some 171) #[true, true, true, true, true, true, true, true, true, true, true, true, true, true, true, true, true, true, true, true, true, true, true, false, false, false, false, false, false, false, false, false, false, false, false, false, false, false, false, false, false, false, false, false, false, false, false, false, false, false] rfl rfl (one_of HT_.out (by kernel_rfl)) (by decide) (fun K hK => ?_)
                      refine goes_ Tryd.func13 (by kernel_rfl) rfl #[.slice A110 y560.length c110, .slice A112 y564.length c112] (by rfl) rfl rfl (by (try simp only [List.map_toArray, List.map_cons, List.map_nil]); first | done | rfl | (simp only [List.length_drop, List.length_take]; rfl)) ?_
                      with_reducible refine (heraldlaw10_same.calls k4 _ _ y560 _ _ y564 false _ ?side1 ?side2 ?side3 ?side4 A81.out).mono ?_
                      (case side1 => repeat (first | exact (by repeat (first | (with_reducible exact HR563.out) | (with_reducible refine Kd.C_alloc ?_ _) | (with_reducible refine Kd.C_drewN ?_ _) | (with_reducible refine Kd.C_drew ?_) | exact HR563.out)) | (with_reducible refine Kd.C_alloc ?_ _) | (with_reducible refine Kd.C_drewN ?_ _) | (with_reducible refine Kd.C_drew ?_)))
                      (case side2 => exact HC563.out)
                      (case side3 => repeat (first | exact (by repeat (first | (with_reducible exact HR567.out) | (with_reducible refine Kd.C_alloc ?_ _) | (with_reducible refine Kd.C_drewN ?_ _) | (with_reducible refine Kd.C_drew ?_) | exact HR567.out)) | (with_reducible refine Kd.C_alloc ?_ _) | (with_reducible refine Kd.C_drewN ?_ _) | (with_reducible refine Kd.C_drew ?_)))
                      (case side4 => exact HC567.out)
                      rintro e w' ⟨rfl, ⟨nd, rfl⟩⟩
                      refine ⟨_, rfl, ?_⟩
                      refine hK.out _ _ trivial (fun hHeld => ?_)
                      clear hK K
                      refine norm_ (a' := ?_) ?_ ?_
                      rotate_left
                      ·
                       as_aux_lemma =>
                       show Act.put _ (some 171) _ = _
                       simp only [Act.put, List.setIfInBounds_toArray, List.set_cons_zero, List.set_cons_succ, i64_w, i32_w]
                       rfl
                      refine pure_ (i := 23) (N := some 172) (v := ?_) (a' := ?_) #[true, true, true, true, true, true, true, true, true, true, true, true, true, true, true, true, true, true, true, true, true, true, true, true, false, false, false, false, false, false, false, false, false, false, false, false, false, false, false, false, false, false, false, false, false, false, false, false, false, false] rfl rfl (any_of HT_.out (by kernel_rfl)) (fun _ _ _ h => h) (Or.inl ⟨by rfl, ?_⟩) ?_ ?_
                      rotate_left
                      ·
                       as_aux_lemma =>
                       intro w'
                       go_simp
                       with_reducible rfl
                      rotate_left
                      ·
                       as_aux_lemma =>
                       simp only [Act.put, List.setIfInBounds_toArray, List.set_cons_zero, List.set_cons_succ, i64_w, i32_w]
                       rfl
                      refine pure_ (i := 24) (N := some 173) (v := ?_) (a' := ?_) #[true, true, true, true, true, true, true, true, true, true, true, true, true, true, true, true, true, true, true, true, true, true, true, true, true, false, false, false, false, false, false, false, false, false, false, false, false, false, false, false, false, false, false, false, false, false, false, false, false, false] rfl rfl (any_of HT_.out (by kernel_rfl)) (fun _ _ _ h => h) (Or.inl ⟨by rfl, ?_⟩) ?_ ?_
                      rotate_left
                      ·
                       as_aux_lemma =>
                       intro w'
                       go_simp
                       with_reducible rfl
                      rotate_left
                      ·
                       as_aux_lemma =>
                       simp only [Act.put, List.setIfInBounds_toArray, List.set_cons_zero, List.set_cons_succ, i64_w, i32_w]
                       rfl
                      refine pure_ (i := 25) (N := some 174) (v := undef) (a' := ?_) #[true, true, true, true, true, true, true, true, true, true, true, true, true, true, true, true, true, true, true, true, true, true, true, true, true, true, false, false, false, false, false, false, false, false, false, false, false, false, false, false, false, false, false, false, false, false, false, false, false, false] rfl rfl (any_of HT_.out (by kernel_rfl)) (fun _ _ _ h => h) (Or.inr ⟨by rfl, rfl⟩) ?_ ?_
                      rotate_left
                      ·
                       as_aux_lemma =>
                       simp only [Act.put, List.setIfInBounds_toArray, List.set_cons_zero, List.set_cons_succ, i64_w, i32_w]
                       rfl
                      refine pure_ (i := 26) (N := some 175) (v := undef) (a' := ?_) #[true, true, true, true, true, true, true, true, true, true, true, true, true, true, true, true, true, true, true, true, true, true, true, true, true, true, true, false, false, false, false, false, false, false, false, false, false, false, false, false, false, false, false, false, false, false, false, false, false, false] rfl rfl (any_of HT_.out (by kernel_rfl)) (fun _ _ _ h => h) (Or.inr ⟨by rfl, rfl⟩) ?_ ?_
                      rotate_left
                      ·
                       as_aux_lemma =>
                       simp only [Act.put, List.setIfInBounds_toArray, List.set_cons_zero, List.set_cons_succ, i64_w, i32_w]
                       rfl
                      refine pure_ (i := 27) (N := some 176) (v := undef) (a' := ?_) #[true, true, true, true, true, true, true, true, true, true, true, true, true, true, true, true, true, true, true, true, true, true, true, true, true, true, true, true, false, false, false, false, false, false, false, false, false, false, false, false, false, false, false, false, false, false, false, false, false, false] rfl rfl (any_of HT_.out (by kernel_rfl)) (fun _ _ _ h => h) (Or.inr ⟨by rfl, rfl⟩) ?_ ?_
                      rotate_left
                      ·
                       as_aux_lemma =>
                       simp only [Act.put, List.setIfInBounds_toArray, List.set_cons_zero, List.set_cons_succ, i64_w, i32_w]
                       rfl
                      refine pure_ (i := 28) (N := some 177) (v := undef) (a' := ?_) #[true, true, true, true, true, true, true, true, true, true, true, true, true, true, true, true, true, true, true, true, true, true, true, true, true, true, true, true, true, false, false, false, false, false, false, false, false, false, false, false, false, false, false, false, false, false, false, false, false, false] rfl rfl (any_of HT_.out (by kernel_rfl)) (fun _ _ _ h => h) (Or.inr ⟨by rfl, rfl⟩) ?_ ?_
                      rotate_left
                      ·
                       as_aux_lemma =>
                       simp only [Act.put, List.setIfInBounds_toArray, List.set_cons_zero, List.set_cons_succ, i64_w, i32_w]
                       rfl
                      refine pure_ (i := 29) (N := some 178) (v := undef) (a' := ?_) #[true, true, true, true, true, true, true, true, true, true, true, true, true, true, true, true, true, true, true, true, true, true, true, true, true, true, true, true, true, true, false, false, false, false, false, false, false, false, false, false, false, false, false, false, false, false, false, false, false, false] rfl rfl (any_of HT_.out (by kernel_rfl)) (fun _ _ _ h => h) (Or.inr ⟨by rfl, rfl⟩) ?_ ?_
                      rotate_left
                      ·
                       as_aux_lemma =>
                       simp only [Act.put, List.setIfInBounds_toArray, List.set_cons_zero, List.set_cons_succ, i64_w, i32_w]
                       rfl
                      refine pure_ (i := 30) (N := some 179) (v := undef) (a' := ?_) #[true, true, true, true, true, true, true, true, true, true, true, true, true, true, true, true, true, true, true, true, true, true, true, true, true, true, true, true, true, true, true, false, false, false, false, false, false, false, false, false, false, false, false, false, false, false, false, false, false, false] rfl rfl (any_of HT_.out (by kernel_rfl)) (fun _ _ _ h => h) (Or.inr ⟨by rfl, rfl⟩) ?_ ?_
                      rotate_left
                      ·
                       as_aux_lemma =>
                       simp only [Act.put, List.setIfInBounds_toArray, List.set_cons_zero, List.set_cons_succ, i64_w, i32_w]
                       rfl
                      refine pure_ (i := 31) (N := some 180) (v := undef) (a' := ?_) #[true, true, true, true, true, true, true, true, true, true, true, true, true, true, true, true, true, true, true, true, true, true, true, true, true, true, true, true, true, true, true, true, false, false, false, false, false, false, false, false, false, false, false, false, false, false, false, false, false, false] rfl rfl (any_of HT_.out (by kernel_rfl)) (fun _ _ _ h => h) (Or.inr ⟨by rfl, rfl⟩) ?_ ?_
                      rotate_left
                      ·
                       as_aux_lemma =>
                       simp only [Act.put, List.setIfInBounds_toArray, List.set_cons_zero, List.set_cons_succ, i64_w, i32_w]
                       rfl
                      refine pure_ (i := 32) (N := some 181) (v := undef) (a' := ?_) #[true, true, true, true, true, true, true, true, true, true, true, true, true, true, true, true, true, true, true, true, true, true, true, true, true, true, true, true, true, true, true, true, true, false, false, false, false, false, false, false, false, false, false, false, false, false, false, false, false, false] rfl rfl (any_of HT_.out (by kernel_rfl)) (fun _ _ _ h => h) (Or.inr ⟨by rfl, rfl⟩) ?_ ?_
                      rotate_left
                      ·
                       as_aux_lemma =>
                       simp only [Act.put, List.setIfInBounds_toArray, List.set_cons_zero, List.set_cons_succ, i64_w, i32_w]
                       rfl
                      refine pure_ (i := 33) (N := some 182) (v := undef) (a' := ?_) #[true, true, true, true, true, true, true, true, true, true, true, true, true, true, true, true, true, true, true, true, true, true, true, true, true, true, true, true, true, true, true, true, true, true, false, false, false, false, false, false, false, false, false, false, false, false, false, false, false, false] rfl rfl (any_of HT_.out (by kernel_rfl)) (fun _ _ _ h => h) (Or.inr ⟨by rfl, rfl⟩) ?_ ?_
                      rotate_left
                      ·
                       as_aux_lemma =>
                       simp only [Act.put, List.setIfInBounds_toArray, List.set_cons_zero, List.set_cons_succ, i64_w, i32_w]
                       rfl
                      refine pure_ (i := 34) (N := some 183) (v := undef) (a' := ?_) #[true, true, true, true, true, true, true, true, true, true, true, true, true, true, true, true, true, true, true, true, true, true, true, true, true, true, true, true, true, true, true, true, true, true, true, false, false, false, false, false, false, false, false, false, false, false, false, false, false, false] rfl rfl (any_of HT_.out (by kernel_rfl)) (fun _ _ _ h => h) (Or.inr ⟨by rfl, rfl⟩) ?_ ?_
                      rotate_left
                      ·
                       as_aux_lemma =>
                       simp only [Act.put, List.setIfInBounds_toArray, List.set_cons_zero, List.set_cons_succ, i64_w, i32_w]
                       rfl
                      refine pure_ (i := 35) (N := some 184) (v := undef) (a' := ?_) #[true, true, true, true, true, true, true, true, true, true, true, true, true, true, true, true, true, true, true, true, true, true, true, true, true, true, true, true, true, true, true, true, true, true, true, true, false, false, false, false, false, false, false, false, false, false, false, false, false, false] rfl rfl (any_of HT_.out (by kernel_rfl)) (fun _ _ _ h => h) (Or.inr ⟨by rfl, rfl⟩) ?_ ?_
                      rotate_left
                      ·
                       as_aux_lemma =>
                       simp only [Act.put, List.setIfInBounds_toArray, List.set_cons_zero, List.set_cons_succ, i64_w, i32_w]
                       rfl
                      refine pure_ (i := 36) (N := some 185) (v := undef) (a' := ?_) #[true, true, true, true, true, true, true, true, true, true, true, true, true, true, true, true, true, true, true, true, true, true, true, true, true, true, true, true, true, true, true, true, true, true, true, true, true, false, false, false, false, false, false, false, false, false, false, false, false, false] rfl rfl (any_of HT_.out (by kernel_rfl)) (fun _ _ _ h => h) (Or.inr ⟨by rfl, rfl⟩) ?_ ?_
                      rotate_left
                      ·
                       as_aux_lemma =>
                       simp only [Act.put, List.setIfInBounds_toArray, List.set_cons_zero, List.set_cons_succ, i64_w, i32_w]
                       rfl
                      refine pure_ (i := 37) (N := some 186) (v := undef) (a' := ?_) #[true, true, true, true, true, true, true, true, true, true, true, true, true, true, true, true, true, true, true, true, true, true, true, true, true, true, true, true, true, true, true, true, true, true, true, true, true, true, false, false, false, false, false, false, false, false, false, false, false, false] rfl rfl (any_of HT_.out (by kernel_rfl)) (fun _ _ _ h => h) (Or.inr ⟨by rfl, rfl⟩) ?_ ?_
                      rotate_left
                      ·
                       as_aux_lemma =>
                       simp only [Act.put, List.setIfInBounds_toArray, List.set_cons_zero, List.set_cons_succ, i64_w, i32_w]
                       rfl
                      refine pure_ (i := 38) (N := some 187) (v := undef) (a' := ?_) #[true, true, true, true, true, true, true, true, true, true, true, true, true, true, true, true, true, true, true, true, true, true, true, true, true, true, true, true, true, true, true, true, true, true, true, true, true, true, true, false, false, false, false, false, false, false, false, false, false, false] rfl rfl (any_of HT_.out (by kernel_rfl)) (fun _ _ _ h => h) (Or.inr ⟨by rfl, rfl⟩) ?_ ?_
                      rotate_left
                      ·
                       as_aux_lemma =>
                       simp only [Act.put, List.setIfInBounds_toArray, List.set_cons_zero, List.set_cons_succ, i64_w, i32_w]
                       rfl
                      refine pure_ (i := 39) (N := some 188) (v := undef) (a' := ?_) #[true, true, true, true, true, true, true, true, true, true, true, true, true, true, true, true, true, true, true, true, true, true, true, true, true, true, true, true, true, true, true, true, true, true, true, true, true, true, true, true, false, false, false, false, false, false, false, false, false, false] rfl rfl (any_of HT_.out (by kernel_rfl)) (fun _ _ _ h => h) (Or.inr ⟨by rfl, rfl⟩) ?_ ?_
                      rotate_left
                      ·
                       as_aux_lemma =>
                       simp only [Act.put, List.setIfInBounds_toArray, List.set_cons_zero, List.set_cons_succ, i64_w, i32_w]
                       rfl
                      refine pure_ (i := 40) (N := some 189) (v := undef) (a' := ?_) #[true, true, true, true, true, true, true, true, true, true, true, true, true, true, true, true, true, true, true, true, true, true, true, true, true, true, true, true, true, true, true, true, true, true, true, true, true, true, true, true, true, false, false, false, false, false, false, false, false, false] rfl rfl (any_of HT_.out (by kernel_rfl)) (fun _ _ _ h => h) (Or.inr ⟨by rfl, rfl⟩) ?_ ?_
                      rotate_left
                      ·
                       as_aux_lemma =>
                       simp only [Act.put, List.setIfInBounds_toArray, List.set_cons_zero, List.set_cons_succ, i64_w, i32_w]
                       rfl
                      refine pure_ (i := 41) (N := some 190) (v := undef) (a' := ?_) #[true, true, true, true, true, true, true, true, true, true, true, true, true, true, true, true, true, true, true, true, true, true, true, true, true, true, true, true, true, true, true, true, true, true, true, true, true, true, true, true, true, true, false, false, false, false, false, false, false, false] rfl rfl (any_of HT_.out (by kernel_rfl)) (fun _ _ _ h => h) (Or.inr ⟨by rfl, rfl⟩) ?_ ?_
                      rotate_left
                      ·
                       as_aux_lemma =>
                       simp only [Act.put, List.setIfInBounds_toArray, List.set_cons_zero, List.set_cons_succ, i64_w, i32_w]
                       rfl
                      refine pure_ (i := 42) (N := some 191) (v := undef) (a' := ?_) #[true, true, true, true, true, true, true, true, true, true, true, true, true, true, true, true, true, true, true, true, true, true, true, true, true, true, true, true, true, true, true, true, true, true, true, true, true, true, true, true, true, true, true, false, false, false, false, false, false, false] rfl rfl (any_of HT_.out (by kernel_rfl)) (fun _ _ _ h => h) (Or.inr ⟨by rfl, rfl⟩) ?_ ?_
                      rotate_left
                      ·
                       as_aux_lemma =>
                       simp only [Act.put, List.setIfInBounds_toArray, List.set_cons_zero, List.set_cons_succ, i64_w, i32_w]
                       rfl
                      refine pure_ (i := 43) (N := some 192) (v := undef) (a' := ?_) #[true, true, true, true, true, true, true, true, true, true, true, true, true, true, true, true, true, true, true, true, true, true, true, true, true, true, true, true, true, true, true, true, true, true, true, true, true, true, true, true, true, true, true, true, false, false, false, false, false, false] rfl rfl (any_of HT_.out (by kernel_rfl)) (fun _ _ _ h => h) (Or.inr ⟨by rfl, rfl⟩) ?_ ?_
                      rotate_left
                      ·
                       as_aux_lemma =>
                       simp only [Act.put, List.setIfInBounds_toArray, List.set_cons_zero, List.set_cons_succ, i64_w, i32_w]
                       rfl
                      refine pure_ (i := 44) (N := some 193) (v := undef) (a' := ?_) #[true, true, true, true, true, true, true, true, true, true, true, true, true, true, true, true, true, true, true, true, true, true, true, true, true, true, true, true, true, true, true, true, true, true, true, true, true, true, true, true, true, true, true, true, true, false, false, false, false, false] rfl rfl (any_of HT_.out (by kernel_rfl)) (fun _ _ _ h => h) (Or.inr ⟨by rfl, rfl⟩) ?_ ?_
                      rotate_left
                      ·
                       as_aux_lemma =>
                       simp only [Act.put, List.setIfInBounds_toArray, List.set_cons_zero, List.set_cons_succ, i64_w, i32_w]
                       rfl
                      refine pure_ (i := 45) (N := some 194) (v := undef) (a' := ?_) #[true, true, true, true, true, true, true, true, true, true, true, true, true, true, true, true, true, true, true, true, true, true, true, true, true, true, true, true, true, true, true, true, true, true, true, true, true, true, true, true, true, true, true, true, true, true, false, false, false, false] rfl rfl (any_of HT_.out (by kernel_rfl)) (fun _ _ _ h => h) (Or.inr ⟨by rfl, rfl⟩) ?_ ?_
                      rotate_left
                      ·
                       as_aux_lemma =>
                       simp only [Act.put, List.setIfInBounds_toArray, List.set_cons_zero, List.set_cons_succ, i64_w, i32_w]
                       rfl
                      refine pure_ (i := 46) (N := some 195) (v := undef) (a' := ?_) #[true, true, true, true, true, true, true, true, true, true, true, true, true, true, true, true, true, true, true, true, true, true, true, true, true, true, true, true, true, true, true, true, true, true, true, true, true, true, true, true, true, true, true, true, true, true, true, false, false, false] rfl rfl (any_of HT_.out (by kernel_rfl)) (fun _ _ _ h => h) (Or.inr ⟨by rfl, rfl⟩) ?_ ?_
                      rotate_left
                      ·
                       as_aux_lemma =>
                       simp only [Act.put, List.setIfInBounds_toArray, List.set_cons_zero, List.set_cons_succ, i64_w, i32_w]
                       rfl
                      refine pure_ (i := 47) (N := some 196) (v := undef) (a' := ?_) #[true, true, true, true, true, true, true, true, true, true, true, true, true, true, true, true, true, true, true, true, true, true, true, true, true, true, true, true, true, true, true, true, true, true, true, true, true, true, true, true, true, true, true, true, true, true, true, true, false, false] rfl rfl (any_of HT_.out (by kernel_rfl)) (fun _ _ _ h => h) (Or.inr ⟨by rfl, rfl⟩) ?_ ?_
                      rotate_left
                      ·
                       as_aux_lemma =>
                       simp only [Act.put, List.setIfInBounds_toArray, List.set_cons_zero, List.set_cons_succ, i64_w, i32_w]
                       rfl
                      refine pure_ (i := 48) (N := some 197) (v := undef) (a' := ?_) #[true, true, true, true, true, true, true, true, true, true, true, true, true, true, true, true, true, true, true, true, true, true, true, true, true, true, true, true, true, true, true, true, true, true, true, true, true, true, true, true, true, true, true, true, true, true, true, true, true, false] rfl rfl (any_of HT_.out (by kernel_rfl)) (fun _ _ _ h => h) (Or.inr ⟨by rfl, rfl⟩) ?_ ?_
                      rotate_left
                      ·
                       as_aux_lemma =>
                       simp only [Act.put, List.setIfInBounds_toArray, List.set_cons_zero, List.set_cons_succ, i64_w, i32_w]
                       rfl
                      refine pure_ (i := 49) (N := some 198) (v := ?_) (a' := ?_) #[true, true, true, true, true, true, true, true, true, true, true, true, true, true, true, true, true, true, true, true, true, true, true, true, true, true, true, true, true, true, true, true, true, true, true, true, true, true, true, true, true, true, true, true, true, true, true, true, true, true] rfl rfl (any_of HT_.out (by kernel_rfl)) (fun _ _ _ h => h) (Or.inl ⟨by rfl, ?_⟩) ?_ ?_
                      rotate_left
                      ·
                       as_aux_lemma =>
                       intro w'
                       go_simp
                       with_reducible rfl
                      rotate_left
                      ·
                       as_aux_lemma =>
                       simp only [Act.put, List.setIfInBounds_toArray, List.set_cons_zero, List.set_cons_succ, i64_w, i32_w]
                       rfl
                      refine done_ (done_of HT_.out (by kernel_rfl)) ?_
                      try go_wp2
                      go_ret
                      exact ⟨by first | rfl | (simp [errW_none, errW_some] <;> rfl) | (simp only [← hji73, ← hji77]; first | rfl | (simp [errW_none, errW_some] <;> rfl)) | (simp [*, errW_none, errW_some] <;> rfl), by repeat (first | (with_reducible first | exact HB.out | apply below_alloc | apply pw_below_drewN | apply below_drew1 | refine below_set ?_ GE512.out) | exact HB.out)⟩
                    ·
                     as_aux_lemma =>
                     rw [if_neg c80] at H
                     exact absurd H (by simp)
                   ·
                    as_aux_lemma =>
                    rw [if_neg c79] at H
                    exact absurd H (by simp)
                  ·
                   as_aux_lemma =>
                   rw [if_neg c78] at H
                   exact absurd H (by simp)
                 ·
                  as_aux_lemma =>
                  rw [if_neg c76] at H
                  exact absurd H (by simp)
                ·
                 as_aux_lemma =>
                 rw [if_neg c75] at H
                 exact absurd H (by simp)
               ·
                as_aux_lemma =>
                rw [if_neg c74] at H
                exact absurd H (by simp)
              ·
               as_aux_lemma =>
               rw [if_neg c72] at H
               have c72b0 : decide ((wrap64 (2 * x24_4)) < a0) = false := decide_eq_false c72
               clear c72
               obtain rfl := Option.some.inj H
               go_wp2
               go_ret
               exact ⟨by first | rfl | (simp [errW_none, errW_some] <;> rfl) | (simp [*, errW_none, errW_some] <;> rfl), by repeat (first | (with_reducible first | exact HB.out | apply below_alloc | apply pw_below_drewN | apply below_drew1 | refine below_set ?_ GE512.out) | exact HB.out)⟩
     ·
      as_aux_lemma =>
      rw [if_neg c32] at H
      have c32b0 : (t532 == t539) = false := beq_eq_false_iff_ne.mpr c32
      have c32b1 : (t532 != t539) = true := bne_iff_ne.mpr c32
      obtain rfl := Option.some.inj H
      go_wp2_with (first | ((with_reducible refine gate_callee (f := 18) rfl ?_); refine goesL_ (some 67) rfl rfl Tryd.func18 (by kernel_rfl) rfl #[.int .i64 a0, .int .i64 a1] rfl (by (try simp only [List.map_toArray, List.map_cons, List.map_nil]); first | done | rfl | (simp only [List.length_drop, List.length_take]; rfl)) ?_; (with_reducible refine (rope_Table.calls kj7 a0 a1 t530 t531 t532 _ A30.out (tab_of HTAB.out (by repeat (first | (with_reducible first | exact HB.out | apply below_alloc | apply pw_below_drewN | apply below_drew1) | exact HB.out | exact Below.refl _ _)))).mono ?_); rintro e w114 ⟨v533, v535, rfl, ho0, ho1, hb⟩; refine ⟨_, rfl, ?_⟩; have n0_ := Aside0.mk (Kd.R_lower ho0 (below_size (by repeat (first | (with_reducible first | exact HB.out | apply below_alloc | apply pw_below_drewN | apply below_drew1 | refine below_set ?_ GE512.out) | exact HB.out)))); have n1_ := Aside0.mk (Kd.R_lower ho1 (below_size (by repeat (first | (with_reducible first | exact HB.out | apply below_alloc | apply pw_below_drewN | apply below_drew1 | refine below_set ?_ GE512.out) | exact HB.out)))); have n2_ := Aside0.mk (blk_below (g := gb512) (o := .cells #[.int .i64 a2_0, .int .i64 a2_1] 53 (0, 0)) (by (with_reducible repeat (first | refine blk_drewN ?_ _ | refine blk_drew ?_ | refine blk_alloc ?_ _)); exact BK512.out) hb); have n3_ := Aside0.mk (below_step (by repeat (first | (with_reducible first | exact HB.out | apply below_alloc | apply pw_below_drewN | apply below_drew1 | refine below_set ?_ GE512.out) | exact HB.out)) hb); clear BK512; clear HB; have HO534 := n0_; have HO536 := n1_; have BK512 := n2_; have HB := n3_; clear n0_ n1_ n2_ n3_; (try clear hb); (try clear hb2); (try clear hk); (try clear hi); (try clear ho0); (try clear ho1)) | ((with_reducible refine gate_callee (f := 19) rfl ?_); refine goesL_ (some 74) rfl rfl Tryd.func19 (by kernel_rfl) rfl #[.int .i64 a0, .int .i64 a1] rfl (by (try simp only [List.map_toArray, List.map_cons, List.map_nil]); first | done | rfl | (simp only [List.length_drop, List.length_take]; rfl)) ?_; (with_reducible refine (heraldref10_Table.calls kj7 a0 a1 t537 t538 t539 _ A31.out).mono ?_); rintro e w115 ⟨v540, v542, rfl, ho0, ho1, hb⟩; refine ⟨_, rfl, ?_⟩; have n0_ := Aside0.mk (Kd.R_mono (Kd.R_told (Kd.R_told (Kd.R_old (by (with_reducible repeat (first | apply Kd.R_alloc | apply Kd.R_drewN | apply Kd.R_drew)); exact HO534.out) hb) (Kd.R_base ho0)) (Kd.R_base ho1)) (fun _ h_ => h_.1)); have n1_ := Aside0.mk (Kd.R_mono (Kd.R_told (Kd.R_told (Kd.R_old (by (with_reducible repeat (first | apply Kd.R_alloc | apply Kd.R_drewN | apply Kd.R_drew)); exact HO536.out) hb) (Kd.R_base ho0)) (Kd.R_base ho1)) (fun _ h_ => h_.1)); have n2_ := Aside0.mk (Kd.R_lower (Kd.R_new' (Kd.R_new' ho0 (Kd.R_lt (by (with_reducible repeat (first | apply Kd.R_alloc | apply Kd.R_drewN | apply Kd.R_drew)); exact HO534.out))) (Kd.R_lt (by (with_reducible repeat (first | apply Kd.R_alloc | apply Kd.R_drewN | apply Kd.R_drew)); exact HO536.out))) (below_size (by repeat (first | (with_reducible first | exact HB.out | apply below_alloc | apply pw_below_drewN | apply below_drew1 | refine below_set ?_ GE512.out) | exact HB.out)))); have n3_ := Aside0.mk (Kd.R_lower (Kd.R_new' (Kd.R_new' ho1 (Kd.R_lt (by (with_reducible repeat (first | apply Kd.R_alloc | apply Kd.R_drewN | apply Kd.R_drew)); exact HO534.out))) (Kd.R_lt (by (with_reducible repeat (first | apply Kd.R_alloc | apply Kd.R_drewN | apply Kd.R_drew)); exact HO536.out))) (below_size (by repeat (first | (with_reducible first | exact HB.out | apply below_alloc | apply pw_below_drewN | apply below_drew1 | refine below_set ?_ GE512.out) | exact HB.out)))); have n4_ := Aside0.mk (blk_below (g := gb512) (o := .cells #[.int .i64 a2_0, .int .i64 a2_1] 53 (0, 0)) (by (with_reducible repeat (first | refine blk_drewN ?_ _ | refine blk_drew ?_ | refine blk_alloc ?_ _)); exact BK512.out) hb); have n5_ := Aside0.mk (below_step (by repeat (first | (with_reducible first | exact HB.out | apply below_alloc | apply pw_below_drewN | apply below_drew1 | refine below_set ?_ GE512.out) | exact HB.out)) hb); clear HO534; clear HO536; clear BK512; clear HB; have HO534 := n0_; have HO536 := n1_; have HO541 := n2_; have HO543 := n3_; have BK512 := n4_; have HB := n5_; clear n0_ n1_ n2_ n3_ n4_ n5_; (try clear hb); (try clear hb2); (try clear hk); (try clear hi); (try clear ho0); (try clear ho1)))
      go_ret
      exact ⟨by first | rfl | (simp [errW_none, errW_some] <;> rfl) | (simp [*, errW_none, errW_some] <;> rfl), by repeat (first | (with_reducible first | exact HB.out | apply below_alloc | apply pw_below_drewN | apply below_drew1 | refine below_set ?_ GE512.out) | exact HB.out)⟩
 ·
  as_aux_lemma =>
  replace c5 := Bool.eq_false_iff.mpr c5
  subst c5
  have H1 : (some false) = some r := by rw [if_neg (show ¬ (false = true) by decide)] at H; exact H
  clear H
  have H := H1
  clear H1
  obtain rfl := Option.some.inj H
  go_enter Tryd.func9, Tryd.ntmps9
  go_wp2_with (first | ((with_reducible refine gate_dst (N := 5) rfl ?_); (try (refine gate_guard (by rfl) ?_; dsimp only)); refine box_event ?hg (N := 5) ?hd (cs := #[.int .i64 a2_0, .int .i64 a2_1]) (t := 53) ?hr ?_; (case hd => rfl); (case hg => rfl); (case hr => first | (go_simp; done) | (go_simp; rfl)); intro gb512 hg w116 hbox hb; have n0_ := Aside0.mk (below_step (by repeat (first | (with_reducible first | exact HB.out | apply below_alloc | apply pw_below_drewN | apply below_drew1) | exact HB.out)) hb); have n1_ := Aside0.mk (hbox); have n2_ := Aside0.mk ((by rw [hg]; exact (below_size (by repeat (first | (with_reducible first | exact HB.out | apply below_alloc | apply pw_below_drewN | apply below_drew1) | exact HB.out))) : w.heap.size ≤ gb512)); have n3_ := Aside0.mk ((by rw [hg]; exact (below_size (by repeat (first | (with_reducible first | exact HB.out | apply below_alloc | apply pw_below_drewN | apply below_drew1) | exact HB.out))) : w.heap.size ≤ gb512)); clear HB; have HB := n0_; have BK512 := n1_; have GW512 := n2_; have GE512 := n3_; clear n0_ n1_ n2_ n3_; clear hb hbox hg) | ((with_reducible refine gate_callee (f := 10) rfl ?_); refine goesL_ (some 25) rfl rfl Tryd.func10 (by kernel_rfl) rfl #[] rfl (by (try simp only [List.map_toArray, List.map_cons, List.map_nil]); first | done | rfl | (simp only [List.length_drop, List.length_take]; rfl)) ?_; (with_reducible refine (heraldlaw10_awake.calls k  false _ A4.out (tab_of HTAB.out (by repeat (first | (with_reducible first | exact HB.out | apply below_alloc | apply pw_below_drewN | apply below_drew1) | exact HB.out | exact Below.refl _ _)))).mono ?_); rintro e w117 ⟨rfl, hb⟩; refine ⟨_, rfl, ?_⟩; have n0_ := Aside0.mk (blk_below (g := gb512) (o := .cells #[.int .i64 a2_0, .int .i64 a2_1] 53 (0, 0)) (by (with_reducible repeat (first | refine blk_drewN ?_ _ | refine blk_drew ?_ | refine blk_alloc ?_ _)); exact BK512.out) hb); have n1_ := Aside0.mk (below_step (by repeat (first | (with_reducible first | exact HB.out | apply below_alloc | apply pw_below_drewN | apply below_drew1 | refine below_set ?_ GE512.out) | exact HB.out)) hb); clear BK512; clear HB; have BK512 := n0_; have HB := n1_; clear n0_ n1_; (try clear hb); (try clear hb2); (try clear hk); (try clear hi)))
  go_ret
  exact ⟨by first | rfl | (simp [errW_none, errW_some] <;> rfl) | (simp [*, errW_none, errW_some] <;> rfl), by repeat (first | (with_reducible first | exact HB.out | apply below_alloc | apply pw_below_drewN | apply below_drew1 | refine below_set ?_ GE512.out) | exact HB.out)⟩

end Go.Proofs.YtengkjkmdodifaaDoor.P
