-- Printed by xprint.py (wip): functions, contracts, rows. Lean checks it.
import Derived.Test.YtigfodkakefhcaaPx0
import Derived.Test.YtigfodkakefhcaaPx4
import Derived.Test.YtigfodkakefhcaaPx5
import Derived.Test.YtigfodkakefhcaaPx6
import Derived.Test.YtigfodkakefhcaaPx8
import Derived.Test.YtigfodkakefhcaaPx9
namespace Go.Proofs.Ytigfodkakefhcaa.P
open Go.RowKit Go.Proofs.YtigfodkakefhcaaW.PrintWords Go.Proofs.YtigfodkakefhcaaW.PrintLast Go.Proofs.YtigfodkakefhcaaW.PrintMore
attribute [local go_sem] max2_int min2_int max_two min_two max_three min_three max_four min_four   -- for this text's walks alone
set_option linter.unusedVariables false
set_option linter.unusedSimpArgs false

/-! ### heraldlaw08_VecBatches: function 5 -/
mutual
def heraldlaw08_VecBatches.l0 : Nat → List (List Int) → Int → Int → List Int → Int → List (List Int) → List Int → Int → List (List Int) → Option (Bool)
  | 0, _, _, _, _, _, _, _, _, _ => none
  | k + 1, x20, x21, x22, x127000, x127001, x127002, x128000, x128001, x128002 => if x22 < x21 then (if 0 ≤ x22 then (if x22 < (x20.length : Int) then ((vec_Times.f k x127000 x127001 (rd_L2 x20 x22)).bind fun bt130 => ((vec_Batch2.f k x127000 x127001 (rd_L2 x20 x22)).bind fun bt134 => (if bt130.2 = bt134.2 then (if bt130.2 = 0 then (if (bt134.1.length : Int) = 2 then (if 0 < (bt134.1.length : Int) then ((heraldlaw08_same_int64.f k (rd_L3 bt134.1 0) bt130.1).bind fun t139 => (if t139 = true then (if 1 < (bt134.1.length : Int) then ((heraldlaw08_same_int64.f k (rd_L3 bt134.1 1) bt130.1).bind fun t141 => (heraldlaw08_VecBatches.j1 k (rd_L2 x20 x22) bt130.1 bt130.2 x20 x21 x22 (!t141) x127000 x127001 x127002 x128000 x128001 x128002)) else (none)) else (heraldlaw08_VecBatches.j1 k (rd_L2 x20 x22) bt130.1 bt130.2 x20 x21 x22 true x127000 x127001 x127002 x128000 x128001 x128002))) else (none)) else (heraldlaw08_VecBatches.j1 k (rd_L2 x20 x22) bt130.1 bt130.2 x20 x21 x22 true x127000 x127001 x127002 x128000 x128001 x128002)) else (heraldlaw08_VecBatches.j1 k (rd_L2 x20 x22) bt130.1 bt130.2 x20 x21 x22 false x127000 x127001 x127002 x128000 x128001 x128002)) else (heraldlaw08_VecBatches.j1 k (rd_L2 x20 x22) bt130.1 bt130.2 x20 x21 x22 true x127000 x127001 x127002 x128000 x128001 x128002)))) else (none)) else (none)) else (some true)
def heraldlaw08_VecBatches.j1 : Nat → List Int → List Int → Int → List (List Int) → Int → Int → Bool → List Int → Int → List (List Int) → List Int → Int → List (List Int) → Option (Bool)
  | 0, _, _, _, _, _, _, _, _, _, _, _, _, _ => none
  | k + 1, x6, x7, x8, x20, x21, x22, x73, x127000, x127001, x127002, x128000, x128001, x128002 => if x73 = true then (none) else (if x8 = 0 then ((vec_Sizes.f x127000 x127001).bind fun bt142 => (if bt142.2 = 0 then (heraldlaw08_VecBatches.j2 k x6 x7 bt142.1 x20 x21 x22 ((bt142.1.length : Int) != (x7.length : Int)) x127000 x127001 x127002 x128000 x128001 x128002) else (heraldlaw08_VecBatches.j2 k x6 x7 bt142.1 x20 x21 x22 true x127000 x127001 x127002 x128000 x128001 x128002))) else (heraldlaw08_VecBatches.l0 k x20 x21 (wrap64 (x22 + 1)) x127000 x127001 x127002 x128000 x128001 x128002))
def heraldlaw08_VecBatches.j2 : Nat → List Int → List Int → List Int → List (List Int) → Int → Int → Bool → List Int → Int → List (List Int) → List Int → Int → List (List Int) → Option (Bool)
  | 0, _, _, _, _, _, _, _, _, _, _, _, _, _ => none
  | k + 1, x6, x7, x11, x20, x21, x22, x92, x127000, x127001, x127002, x128000, x128001, x128002 => if x92 = true then (none) else (heraldlaw08_VecBatches.l1 k x6 x7 x11 x20 x21 x22 (x7.length : Int) 0 x127000 x127001 x127002 x128000 x128001 x128002)
def heraldlaw08_VecBatches.l1 : Nat → List Int → List Int → List Int → List (List Int) → Int → Int → Int → Int → List Int → Int → List (List Int) → List Int → Int → List (List Int) → Option (Bool)
  | 0, _, _, _, _, _, _, _, _, _, _, _, _, _, _ => none
  | k + 1, x6, x7, x11, x20, x21, x22, x94, x95, x127000, x127001, x127002, x128000, x128001, x128002 => if x95 < x94 then (if 0 ≤ x95 then (if x95 < (x7.length : Int) then (if x95 < (x11.length : Int) then (if (rd x7 x95) > (wrap64 (128 * (rd x11 x95))) then (none) else (if (rd x7 x95) < (wrap64 ((-128) * (rd x11 x95))) then (none) else (heraldlaw08_VecBatches.l1 k x6 x7 x11 x20 x21 x22 x94 (wrap64 (x95 + 1)) x127000 x127001 x127002 x128000 x128001 x128002))) else (none)) else (none)) else (none)) else (if x127001 = 0 then (none) else (if ((x128000.length : Int) % x127001) = 0 then (heraldlaw08_VecBatches.j4 k x6 x7 x20 x21 x22 (decide ((wrap64 ((x127000.length : Int) + (x128000.length : Int))) > 1048576)) x127000 x127001 x127002 x128000 x128001 x128002) else (heraldlaw08_VecBatches.j4 k x6 x7 x20 x21 x22 true x127000 x127001 x127002 x128000 x128001 x128002)))
def heraldlaw08_VecBatches.j4 : Nat → List Int → List Int → List (List Int) → Int → Int → Bool → List Int → Int → List (List Int) → List Int → Int → List (List Int) → Option (Bool)
  | 0, _, _, _, _, _, _, _, _, _, _, _, _ => none
  | k + 1, x6, x7, x20, x21, x22, x137, x127000, x127001, x127002, x128000, x128001, x128002 => if x137 = true then (heraldlaw08_VecBatches.l0 k x20 x21 (wrap64 (x22 + 1)) x127000 x127001 x127002 x128000 x128001 x128002) else ((vec_Times.f k x128000 x127001 x6).bind fun bt150 => ((some (([] : List Int) : List Int)).bind fun y154 => (if y154.length + x127000.length < 140737488355328 then ((some (y154 ++ x127000 : List Int)).bind fun y157 => (if y157.length + x128000.length < 140737488355328 then ((vec_Times.f k (y157 ++ x128000) x127001 x6).bind fun bt163 => (if bt150.2 = 0 then (if bt163.2 = 0 then ((some (([] : List Int) : List Int)).bind fun y167 => (if y167.length + x7.length < 17592186044416 then ((some (y167 ++ x7 : List Int)).bind fun y170 => (if y170.length + bt150.1.length < 17592186044416 then ((heraldlaw08_same_int64.f k bt163.1 (y170 ++ bt150.1)).bind fun t176 => (if t176 = true then (heraldlaw08_VecBatches.l0 k x20 x21 (wrap64 (x22 + 1)) x127000 x127001 x127002 x128000 x128001 x128002) else (none))) else (none))) else (none))) else (none)) else (none))) else (none))) else (none))))
end
def heraldlaw08_VecBatches.f (k : Nat) (l0_0 : List Int) (a0_1 : Int) (l0_2 : List (List Int)) (l1_0 : List Int) (a1_1 : Int) (l1_2 : List (List Int)) : Option (Bool) := (heraldlaw08_awake.f k).bind fun t128 => (if t128 = true then (heraldlaw08_VecBatches.l0 k l0_2 (l0_2.length : Int) 0 l0_0 a0_1 l0_2 l1_0 a1_1 l1_2) else (none))
theorem heraldlaw08_VecBatches.mono_l : ∀ k, (∀ y0 y1 y2 y3 y4 y5 y6 y7 y8, LeO (heraldlaw08_VecBatches.l0 k y0 y1 y2 y3 y4 y5 y6 y7 y8) (heraldlaw08_VecBatches.l0 (k + 1) y0 y1 y2 y3 y4 y5 y6 y7 y8)) ∧ (∀ y0 y1 y2 y3 y4 y5 y6 y7 y8 y9 y10 y11 y12, LeO (heraldlaw08_VecBatches.j1 k y0 y1 y2 y3 y4 y5 y6 y7 y8 y9 y10 y11 y12) (heraldlaw08_VecBatches.j1 (k + 1) y0 y1 y2 y3 y4 y5 y6 y7 y8 y9 y10 y11 y12)) ∧ (∀ y0 y1 y2 y3 y4 y5 y6 y7 y8 y9 y10 y11 y12, LeO (heraldlaw08_VecBatches.j2 k y0 y1 y2 y3 y4 y5 y6 y7 y8 y9 y10 y11 y12) (heraldlaw08_VecBatches.j2 (k + 1) y0 y1 y2 y3 y4 y5 y6 y7 y8 y9 y10 y11 y12)) ∧ (∀ y0 y1 y2 y3 y4 y5 y6 y7 y8 y9 y10 y11 y12 y13, LeO (heraldlaw08_VecBatches.l1 k y0 y1 y2 y3 y4 y5 y6 y7 y8 y9 y10 y11 y12 y13) (heraldlaw08_VecBatches.l1 (k + 1) y0 y1 y2 y3 y4 y5 y6 y7 y8 y9 y10 y11 y12 y13)) ∧ (∀ y0 y1 y2 y3 y4 y5 y6 y7 y8 y9 y10 y11, LeO (heraldlaw08_VecBatches.j4 k y0 y1 y2 y3 y4 y5 y6 y7 y8 y9 y10 y11) (heraldlaw08_VecBatches.j4 (k + 1) y0 y1 y2 y3 y4 y5 y6 y7 y8 y9 y10 y11))
  | 0 => ⟨fun _ _ _ _ _ _ _ _ _ r h => by simp [heraldlaw08_VecBatches.l0] at h, fun _ _ _ _ _ _ _ _ _ _ _ _ _ r h => by simp [heraldlaw08_VecBatches.j1] at h, fun _ _ _ _ _ _ _ _ _ _ _ _ _ r h => by simp [heraldlaw08_VecBatches.j2] at h, fun _ _ _ _ _ _ _ _ _ _ _ _ _ _ r h => by simp [heraldlaw08_VecBatches.l1] at h, fun _ _ _ _ _ _ _ _ _ _ _ _ r h => by simp [heraldlaw08_VecBatches.j4] at h⟩
  | k + 1 => by
    obtain ⟨ih0, ih1, ih2, ih3, ih4⟩ := heraldlaw08_VecBatches.mono_l k
    refine ⟨?_, ?_, ?_, ?_, ?_⟩
    · intro y0 y1 y2 y3 y4 y5 y6 y7 y8
      unfold heraldlaw08_VecBatches.l0
      repeat' first
      | (with_reducible exact ih0 _ _ _ _ _ _ _ _ _)
      | (with_reducible exact ih1 _ _ _ _ _ _ _ _ _ _ _ _ _)
      | (with_reducible exact ih2 _ _ _ _ _ _ _ _ _ _ _ _ _)
      | (with_reducible exact ih3 _ _ _ _ _ _ _ _ _ _ _ _ _ _)
      | (with_reducible exact ih4 _ _ _ _ _ _ _ _ _ _ _ _)
      | (with_reducible exact heraldlaw08_awake.mono _)
      | (with_reducible exact heraldlaw08_same_int64.mono _ _ _)
      | (with_reducible exact vec_Batch2.mono _ _ _ _)
      | (with_reducible exact vec_Times.mono _ _ _ _)
      | (with_reducible exact LeO.refl _)
      | (with_reducible exact LeO.none _)
      | (with_reducible refine LeO.ite ?_ ?_)
      | (with_reducible refine LeO.bind ?_ (fun _ => ?_))
      | exact ih0 _ _ _ _ _ _ _ _ _
      | exact ih1 _ _ _ _ _ _ _ _ _ _ _ _ _
      | exact ih2 _ _ _ _ _ _ _ _ _ _ _ _ _
      | exact ih3 _ _ _ _ _ _ _ _ _ _ _ _ _ _
      | exact ih4 _ _ _ _ _ _ _ _ _ _ _ _
      | exact heraldlaw08_awake.mono _
      | exact heraldlaw08_same_int64.mono _ _ _
      | exact vec_Batch2.mono _ _ _ _
      | exact vec_Times.mono _ _ _ _
      | exact LeO.none _
      | refine LeO.ite ?_ ?_
      | refine LeO.bind ?_ (fun _ => ?_)
    · intro y0 y1 y2 y3 y4 y5 y6 y7 y8 y9 y10 y11 y12
      unfold heraldlaw08_VecBatches.j1
      repeat' first
      | (with_reducible exact ih0 _ _ _ _ _ _ _ _ _)
      | (with_reducible exact ih1 _ _ _ _ _ _ _ _ _ _ _ _ _)
      | (with_reducible exact ih2 _ _ _ _ _ _ _ _ _ _ _ _ _)
      | (with_reducible exact ih3 _ _ _ _ _ _ _ _ _ _ _ _ _ _)
      | (with_reducible exact ih4 _ _ _ _ _ _ _ _ _ _ _ _)
      | (with_reducible exact heraldlaw08_awake.mono _)
      | (with_reducible exact heraldlaw08_same_int64.mono _ _ _)
      | (with_reducible exact vec_Batch2.mono _ _ _ _)
      | (with_reducible exact vec_Times.mono _ _ _ _)
      | (with_reducible exact LeO.refl _)
      | (with_reducible exact LeO.none _)
      | (with_reducible refine LeO.ite ?_ ?_)
      | (with_reducible refine LeO.bind ?_ (fun _ => ?_))
      | exact ih0 _ _ _ _ _ _ _ _ _
      | exact ih1 _ _ _ _ _ _ _ _ _ _ _ _ _
      | exact ih2 _ _ _ _ _ _ _ _ _ _ _ _ _
      | exact ih3 _ _ _ _ _ _ _ _ _ _ _ _ _ _
      | exact ih4 _ _ _ _ _ _ _ _ _ _ _ _
      | exact heraldlaw08_awake.mono _
      | exact heraldlaw08_same_int64.mono _ _ _
      | exact vec_Batch2.mono _ _ _ _
      | exact vec_Times.mono _ _ _ _
      | exact LeO.none _
      | refine LeO.ite ?_ ?_
      | refine LeO.bind ?_ (fun _ => ?_)
    · intro y0 y1 y2 y3 y4 y5 y6 y7 y8 y9 y10 y11 y12
      unfold heraldlaw08_VecBatches.j2
      repeat' first
      | (with_reducible exact ih0 _ _ _ _ _ _ _ _ _)
      | (with_reducible exact ih1 _ _ _ _ _ _ _ _ _ _ _ _ _)
      | (with_reducible exact ih2 _ _ _ _ _ _ _ _ _ _ _ _ _)
      | (with_reducible exact ih3 _ _ _ _ _ _ _ _ _ _ _ _ _ _)
      | (with_reducible exact ih4 _ _ _ _ _ _ _ _ _ _ _ _)
      | (with_reducible exact heraldlaw08_awake.mono _)
      | (with_reducible exact heraldlaw08_same_int64.mono _ _ _)
      | (with_reducible exact vec_Batch2.mono _ _ _ _)
      | (with_reducible exact vec_Times.mono _ _ _ _)
      | (with_reducible exact LeO.refl _)
      | (with_reducible exact LeO.none _)
      | (with_reducible refine LeO.ite ?_ ?_)
      | (with_reducible refine LeO.bind ?_ (fun _ => ?_))
      | exact ih0 _ _ _ _ _ _ _ _ _
      | exact ih1 _ _ _ _ _ _ _ _ _ _ _ _ _
      | exact ih2 _ _ _ _ _ _ _ _ _ _ _ _ _
      | exact ih3 _ _ _ _ _ _ _ _ _ _ _ _ _ _
      | exact ih4 _ _ _ _ _ _ _ _ _ _ _ _
      | exact heraldlaw08_awake.mono _
      | exact heraldlaw08_same_int64.mono _ _ _
      | exact vec_Batch2.mono _ _ _ _
      | exact vec_Times.mono _ _ _ _
      | exact LeO.none _
      | refine LeO.ite ?_ ?_
      | refine LeO.bind ?_ (fun _ => ?_)
    · intro y0 y1 y2 y3 y4 y5 y6 y7 y8 y9 y10 y11 y12 y13
      unfold heraldlaw08_VecBatches.l1
      repeat' first
      | (with_reducible exact ih0 _ _ _ _ _ _ _ _ _)
      | (with_reducible exact ih1 _ _ _ _ _ _ _ _ _ _ _ _ _)
      | (with_reducible exact ih2 _ _ _ _ _ _ _ _ _ _ _ _ _)
      | (with_reducible exact ih3 _ _ _ _ _ _ _ _ _ _ _ _ _ _)
      | (with_reducible exact ih4 _ _ _ _ _ _ _ _ _ _ _ _)
      | (with_reducible exact heraldlaw08_awake.mono _)
      | (with_reducible exact heraldlaw08_same_int64.mono _ _ _)
      | (with_reducible exact vec_Batch2.mono _ _ _ _)
      | (with_reducible exact vec_Times.mono _ _ _ _)
      | (with_reducible exact LeO.refl _)
      | (with_reducible exact LeO.none _)
      | (with_reducible refine LeO.ite ?_ ?_)
      | (with_reducible refine LeO.bind ?_ (fun _ => ?_))
      | exact ih0 _ _ _ _ _ _ _ _ _
      | exact ih1 _ _ _ _ _ _ _ _ _ _ _ _ _
      | exact ih2 _ _ _ _ _ _ _ _ _ _ _ _ _
      | exact ih3 _ _ _ _ _ _ _ _ _ _ _ _ _ _
      | exact ih4 _ _ _ _ _ _ _ _ _ _ _ _
      | exact heraldlaw08_awake.mono _
      | exact heraldlaw08_same_int64.mono _ _ _
      | exact vec_Batch2.mono _ _ _ _
      | exact vec_Times.mono _ _ _ _
      | exact LeO.none _
      | refine LeO.ite ?_ ?_
      | refine LeO.bind ?_ (fun _ => ?_)
    · intro y0 y1 y2 y3 y4 y5 y6 y7 y8 y9 y10 y11
      unfold heraldlaw08_VecBatches.j4
      repeat' first
      | (with_reducible exact ih0 _ _ _ _ _ _ _ _ _)
      | (with_reducible exact ih1 _ _ _ _ _ _ _ _ _ _ _ _ _)
      | (with_reducible exact ih2 _ _ _ _ _ _ _ _ _ _ _ _ _)
      | (with_reducible exact ih3 _ _ _ _ _ _ _ _ _ _ _ _ _ _)
      | (with_reducible exact ih4 _ _ _ _ _ _ _ _ _ _ _ _)
      | (with_reducible exact heraldlaw08_awake.mono _)
      | (with_reducible exact heraldlaw08_same_int64.mono _ _ _)
      | (with_reducible exact vec_Batch2.mono _ _ _ _)
      | (with_reducible exact vec_Times.mono _ _ _ _)
      | (with_reducible exact LeO.refl _)
      | (with_reducible exact LeO.none _)
      | (with_reducible refine LeO.ite ?_ ?_)
      | (with_reducible refine LeO.bind ?_ (fun _ => ?_))
      | exact ih0 _ _ _ _ _ _ _ _ _
      | exact ih1 _ _ _ _ _ _ _ _ _ _ _ _ _
      | exact ih2 _ _ _ _ _ _ _ _ _ _ _ _ _
      | exact ih3 _ _ _ _ _ _ _ _ _ _ _ _ _ _
      | exact ih4 _ _ _ _ _ _ _ _ _ _ _ _
      | exact heraldlaw08_awake.mono _
      | exact heraldlaw08_same_int64.mono _ _ _
      | exact vec_Batch2.mono _ _ _ _
      | exact vec_Times.mono _ _ _ _
      | exact LeO.none _
      | refine LeO.ite ?_ ?_
      | refine LeO.bind ?_ (fun _ => ?_)
theorem heraldlaw08_VecBatches.mono : ∀ a0 a1 a2 a3 a4 a5 k, LeO (heraldlaw08_VecBatches.f k a0 a1 a2 a3 a4 a5) (heraldlaw08_VecBatches.f (k + 1) a0 a1 a2 a3 a4 a5) := by
  intro a0 a1 a2 a3 a4 a5 k
  obtain ⟨ih0, ih1, ih2, ih3, ih4⟩ := heraldlaw08_VecBatches.mono_l k
  unfold heraldlaw08_VecBatches.f
  repeat' first
      | (with_reducible exact ih0 _ _ _ _ _ _ _ _ _)
      | (with_reducible exact ih1 _ _ _ _ _ _ _ _ _ _ _ _ _)
      | (with_reducible exact ih2 _ _ _ _ _ _ _ _ _ _ _ _ _)
      | (with_reducible exact ih3 _ _ _ _ _ _ _ _ _ _ _ _ _ _)
      | (with_reducible exact ih4 _ _ _ _ _ _ _ _ _ _ _ _)
      | (with_reducible exact heraldlaw08_awake.mono _)
      | (with_reducible exact heraldlaw08_same_int64.mono _ _ _)
      | (with_reducible exact vec_Batch2.mono _ _ _ _)
      | (with_reducible exact vec_Times.mono _ _ _ _)
      | (with_reducible exact LeO.refl _)
      | (with_reducible exact LeO.none _)
      | (with_reducible refine LeO.ite ?_ ?_)
      | (with_reducible refine LeO.bind ?_ (fun _ => ?_))
      | exact ih0 _ _ _ _ _ _ _ _ _
      | exact ih1 _ _ _ _ _ _ _ _ _ _ _ _ _
      | exact ih2 _ _ _ _ _ _ _ _ _ _ _ _ _
      | exact ih3 _ _ _ _ _ _ _ _ _ _ _ _ _ _
      | exact ih4 _ _ _ _ _ _ _ _ _ _ _ _
      | exact heraldlaw08_awake.mono _
      | exact heraldlaw08_same_int64.mono _ _ _
      | exact vec_Batch2.mono _ _ _ _
      | exact vec_Times.mono _ _ _ _
      | exact LeO.none _
      | refine LeO.ite ?_ ?_
      | refine LeO.bind ?_ (fun _ => ?_)
def heraldlaw08_VecBatches.T17 : Bool × List (List Nat × List Nat) := (true, [([], []), ([], []), ([0, 1], [0, 1]), ([2], [2]), ([], []), ([], []), ([4, 5], [4, 5]), ([6], [6]), ([7], [7]), ([3, 8], [3, 8]), ([9], [9]), ([10], [10]), ([10], [10]), ([11, 12, 10], [10, 11, 12]), ([13, 10], [10, 13]), ([10], [10]), ([10], [10]), ([15, 16, 10], [10, 15, 16]), ([17, 10], [10, 17]), ([18, 10], [10, 18]), ([14, 19, 10], [10, 14, 19]), ([10, 20], [10, 20])])
def heraldlaw08_VecBatches.B17 : List Nat := [0, 0, 3, 7, 0, 0, 48, 112, 240, 511, 1023, 2047, 2047, 8191, 16383, 2047, 2047, 100351, 231423, 493567, 1048575, 2097151]
theorem heraldlaw08_VecBatches.tab17 : rtab .any (opsOf Try.f5 17) = heraldlaw08_VecBatches.T17 := by kernel_rfl
theorem heraldlaw08_VecBatches.bits17 : waitsOk heraldlaw08_VecBatches.T17.2 heraldlaw08_VecBatches.B17 = true := by kernel_rfl
def heraldlaw08_VecBatches.T22 : Bool × List (List Nat × List Nat) := (true, [([], []), ([], []), ([1], [1]), ([0, 2], [0, 2]), ([], []), ([4], [4]), ([3, 5, 3], [3, 5]), ([], []), ([7], [7]), ([], []), ([6, 8, 9, 6], [6, 8, 9]), ([10], [10]), ([11], [11]), ([11], [11]), ([12, 10, 0, 1, 2, 3, 4, 5, 6, 7, 8, 9, 10, 11, 12], [12]), ([13, 14, 0, 1, 2, 3, 4, 5, 6, 7, 8, 9, 10, 11, 12, 13, 14], [13])])
def heraldlaw08_VecBatches.B22 : List Nat := [0, 0, 2, 7, 0, 16, 63, 0, 128, 0, 1023, 2047, 4095, 4095, 8191, 32767]
theorem heraldlaw08_VecBatches.tab22 : rtab .any (opsOf Try.f5 22) = heraldlaw08_VecBatches.T22 := by kernel_rfl
theorem heraldlaw08_VecBatches.bits22 : waitsOk heraldlaw08_VecBatches.T22.2 heraldlaw08_VecBatches.B22 = true := by kernel_rfl
set_option maxHeartbeats 8000000 in
set_option maxRecDepth 100000 in
theorem heraldlaw08_VecBatches.calls (k : Nat) (A0_0 : Option Addr) (c0_0 : Nat) (l0_0 : List Int) (a0_1 : Int) (A0_2 : Option Addr) (c0_2 : Nat) (l0_2 : List (List Int)) (A1_0 : Option Addr) (c1_0 : Nat) (l1_0 : List Int) (a1_1 : Int) (A1_2 : Option Addr) (c1_2 : Nat) (l1_2 : List (List Int)) (r : Bool) (w : World) (hr0_0 : Kd.C (Kd.int .i8) w A0_0 l0_0.length l0_0) (hc0_0 : l0_0.length ≤ c0_0) (hr0_2 : Kd.C (Kd.slice 42 (Kd.int .i8)) w A0_2 l0_2.length l0_2) (hc0_2 : l0_2.length ≤ c0_2) (hr1_0 : Kd.C (Kd.int .i8) w A1_0 l1_0.length l1_0) (hc1_0 : l1_0.length ≤ c1_0) (hr1_2 : Kd.C (Kd.slice 42 (Kd.int .i8)) w A1_2 l1_2.length l1_2) (hc1_2 : l1_2.length ≤ c1_2) (h : heraldlaw08_VecBatches.f k l0_0 a0_1 l0_2 l1_0 a1_1 l1_2 = some r) :
    Calls Try.prog 5 #[.agg #[.slice A0_0 l0_0.length c0_0, .int .i64 a0_1, .slice A0_2 l0_2.length c0_2], .agg #[.slice A1_0 l1_0.length c1_0, .int .i64 a1_1, .slice A1_2 l1_2.length c1_2]] w fun e w' => e = .returned (.bool r) ∧ Below w.heap.size w w' := by
 have hu25 := Try.underlying25
 have HR0_0 := ym hr0_0
 have HC0_0 := ym hc0_0
 clear hr0_0 hc0_0
 have HR0_2 := ym hr0_2
 have HC0_2 := ym hc0_2
 clear hr0_2 hc0_2
 have HR1_0 := ym hr1_0
 have HC1_0 := ym hc1_0
 clear hr1_0 hc1_0
 have HR1_2 := ym hr1_2
 have HC1_2 := ym hc1_2
 clear hr1_2 hc1_2
 have HB := ym (Below.refl w.heap.size w)
 have H : ((heraldlaw08_awake.f k).bind fun t128 => (if t128 = true then (heraldlaw08_VecBatches.l0 k l0_2 (l0_2.length : Int) 0 l0_0 a0_1 l0_2 l1_0 a1_1 l1_2) else (none))) = some r := h
 clear h
 replace H := Option.bind_eq_some_iff.mp H
 obtain ⟨t128, A30, H⟩ := H
 replace H : (if t128 = true then (heraldlaw08_VecBatches.l0 k l0_2 (l0_2.length : Int) 0 l0_0 a0_1 l0_2 l1_0 a1_1 l1_2) else (none)) = some r := H
 have A3 := ym A30
 clear A30
 by_cases c4 : t128 = true
 ·
  as_aux_lemma =>
  subst c4
  have H1 : (heraldlaw08_VecBatches.l0 k l0_2 (l0_2.length : Int) 0 l0_0 a0_1 l0_2 l1_0 a1_1 l1_2) = some r := by rw [if_pos rfl] at H; exact H
  clear H
  have H := H1
  clear H1
  have H' := ym H
  clear H
  go_enter Try.func5, Try.ntmps5
  go_wp2_with (first | ((with_reducible refine gate_dst (N := 2) rfl ?_); (try (refine gate_guard (by rfl) ?_; dsimp only)); refine box_event ?hg (N := 2) ?hd (cs := #[.slice A0_0 l0_0.length c0_0, .int .i64 a0_1, .slice A0_2 l0_2.length c0_2]) (t := 25) ?hr ?_; (case hd => rfl); (case hg => rfl); (case hr => first | (go_simp; done) | (go_simp; rfl)); intro gb126 hg w5 hbox hb; have n0_ := ym (yn (by repeat (first | (with_reducible first | exact HB.out | apply y3) | exact HB.out)) hb); have n1_ := ym (hbox); have n2_ := ym ((by rw [hg]; exact (below_size (by repeat (first | (with_reducible first | exact HB.out | apply y3) | exact HB.out))) : w.heap.size ≤ gb126)); have n3_ := n2_; clear HB; have HB := n0_; have BK126 := n1_; have GW126 := n2_; have GE126 := n3_; clear n0_ n1_ n2_ n3_; clear hb hbox hg) | ((with_reducible refine gate_dst (N := 3) rfl ?_); (try (refine gate_guard (by rfl) ?_; dsimp only)); refine box_event ?hg (N := 3) ?hd (cs := #[.slice A1_0 l1_0.length c1_0, .int .i64 a1_1, .slice A1_2 l1_2.length c1_2]) (t := 25) ?hr ?_; (case hd => rfl); (case hg => rfl); (case hr => first | (go_simp; done) | (go_simp; rfl)); intro gb127 hg w6 hbox hb; have n0_ := ym (yq (g := gb126) (o := .cells #[.slice A0_0 l0_0.length c0_0, .int .i64 a0_1, .slice A0_2 l0_2.length c0_2] 25 (0, 0)) (by (with_reducible repeat refine y4 ?_); exact BK126.out) hb); have n1_ := ym (yn (by repeat (first | (with_reducible first | exact HB.out | apply y3 | refine ys ?_ GE126.out) | exact HB.out)) hb); have n2_ := ym (hbox); have n3_ := ym ((by rw [hg]; exact (below_size (by repeat (first | (with_reducible first | exact HB.out | apply y3 | refine ys ?_ GE126.out) | exact HB.out))) : w.heap.size ≤ gb127)); have n4_ := n3_; have n5_ := ym ((by rw [hg]; exact Nat.ne_of_lt (blk_lt (g := gb126) (o := .cells #[.slice A0_0 l0_0.length c0_0, .int .i64 a0_1, .slice A0_2 l0_2.length c0_2] 25 (0, 0)) (by (with_reducible repeat refine y4 ?_); exact BK126.out)) : gb126 ≠ gb127)); have n6_ := ym ((by rw [hg]; exact Nat.ne_of_gt (blk_lt (g := gb126) (o := .cells #[.slice A0_0 l0_0.length c0_0, .int .i64 a0_1, .slice A0_2 l0_2.length c0_2] 25 (0, 0)) (by (with_reducible repeat refine y4 ?_); exact BK126.out)) : gb127 ≠ gb126)); clear BK126; clear HB; have BK126 := n0_; have HB := n1_; have BK127 := n2_; have GW127 := n3_; have GE127 := n4_; have NB126_127 := n5_; have NB127_126 := n6_; clear n0_ n1_ n2_ n3_ n4_ n5_ n6_; clear hb hbox hg) | ((with_reducible refine gate_callee (f := 13) rfl ?_); refine goesL_ (some 17) rfl rfl Try.func13 (by kernel_rfl) rfl #[] rfl (by (try simp only [List.map_toArray, List.map_cons, List.map_nil]); first | done | rfl | (simp only [List.length_drop, List.length_take]; rfl)) ?_; (with_reducible refine (heraldlaw08_awake.calls k  true _ A3.out).mono ?_); rintro e w7 ⟨rfl, hb⟩; refine ⟨_, rfl, ?_⟩; have n0_ := ym (yq (g := gb126) (o := .cells #[.slice A0_0 l0_0.length c0_0, .int .i64 a0_1, .slice A0_2 l0_2.length c0_2] 25 (0, 0)) (by (with_reducible repeat refine y4 ?_); exact BK126.out) hb); have n1_ := ym (yq (g := gb127) (o := .cells #[.slice A1_0 l1_0.length c1_0, .int .i64 a1_1, .slice A1_2 l1_2.length c1_2] 25 (0, 0)) (by (with_reducible repeat refine y4 ?_); exact BK127.out) hb); have n2_ := ym (yn (by repeat (first | (with_reducible first | exact HB.out | apply y3 | refine ys ?_ GE126.out | refine ys ?_ GE127.out) | exact HB.out)) hb); clear BK126; clear BK127; clear HB; have BK126 := n0_; have BK127 := n1_; have HB := n2_; clear n0_ n1_ n2_; (try clear hb); (try clear hb2); (try clear hk); (try clear hi); have hnb8 := NB126_127.out; have hnc8 := NB127_126.out; have hcz9_0 : w7.cell? ⟨gb126, 0, none⟩ = some (.slice A0_0 l0_0.length c0_0) := (yw BK126.out 0).trans rfl; have hcz9_1 : w7.cell? ⟨gb126, 1, none⟩ = some (.int .i64 a0_1) := (yw BK126.out 1).trans rfl; have hcz9_2 : w7.cell? ⟨gb126, 2, none⟩ = some (.slice A0_2 l0_2.length c0_2) := (yw BK126.out 2).trans rfl; have hfz9_0 := yv BK126.out 0; have hfz9_1 := yv BK126.out 1; have hfz9_2 := yv BK126.out 2))
  go_loopg [22] k (fun kq v22 w' => ∃ (x22_1 : Int), v22 = .int .i64 x22_1 ∧ Aside0 (heraldlaw08_VecBatches.l0 kq l0_2 (l0_2.length : Int) x22_1 l0_0 a0_1 l0_2 l1_0 a1_1 l1_2 = some r) ∧ Aside0 (kq ≤ k) ∧ Aside0 (w'.heap[gb126]? = some (.cells #[(.slice A0_0 l0_0.length c0_0), .int .i64 a0_1, (.slice A0_2 l0_2.length c0_2)] 25 (0, 0))) ∧ Aside0 (w'.heap[gb127]? = some (.cells #[(.slice A1_0 l1_0.length c1_0), .int .i64 a1_1, (.slice A1_2 l1_2.length c1_2)] 25 (0, 0))) ∧ Aside0 (Below w.heap.size w w'))
  case atStart => exact ⟨(0), (by first | rfl | (simp; done) | (simp [*]; done)), H', ⟨Nat.le_refl _⟩, ⟨by (with_reducible repeat refine y4 ?_); exact BK126.out⟩, ⟨by (with_reducible repeat refine y4 ?_); exact BK127.out⟩, ⟨by repeat (first | (with_reducible first | exact HB.out | apply y3 | refine ys ?_ GE126.out | refine ys ?_ GE127.out) | exact HB.out)⟩⟩
  case round =>
   clear H'
   try clear c1
   try clear p2
   try clear c4
   try clear c5
   try clear c8
   try clear hcz9_0
   try clear hcz9_1
   try clear hcz9_2
   try clear hfz9_0
   try clear hfz9_1
   try clear hfz9_2
   obtain ⟨x22_1, rfl, HA, HK1, BK126, BK127, HB⟩ := hrel
   cases gk with
   | zero => exact absurd HA.out (by simp [heraldlaw08_VecBatches.l0])
   | succ k1 =>
    have H := HA.out
    clear HA
    simp only [heraldlaw08_VecBatches.l0] at H
    by_cases c10 : x22_1 < (l0_2.length : Int)
    ·
     as_aux_lemma =>
     rw [if_pos c10] at H
     have c10b0 : decide (x22_1 < (l0_2.length : Int)) = true := decide_eq_true c10
     clear c10
     by_cases c11 : 0 ≤ x22_1
     ·
      as_aux_lemma =>
      rw [if_pos c11] at H
      have c11b0 : decide (0 ≤ x22_1) = true := decide_eq_true c11
      clear c11
      by_cases c12 : x22_1 < (l0_2.length : Int)
      ·
       as_aux_lemma =>
       rw [if_pos c12] at H
       have c12b0 : decide (x22_1 < (l0_2.length : Int)) = true := decide_eq_true c12
       clear c12
       replace H := Option.bind_eq_some_iff.mp H
       obtain ⟨⟨t130, t131⟩, A130, H⟩ := H
       replace H : ((vec_Batch2.f k1 l0_0 a0_1 (rd_L2 l0_2 x22_1)).bind fun bt134 => (if t131 = bt134.2 then (if t131 = 0 then (if (bt134.1.length : Int) = 2 then (if 0 < (bt134.1.length : Int) then ((heraldlaw08_same_int64.f k1 (rd_L3 bt134.1 0) t130).bind fun t139 => (if t139 = true then (if 1 < (bt134.1.length : Int) then ((heraldlaw08_same_int64.f k1 (rd_L3 bt134.1 1) t130).bind fun t141 => (heraldlaw08_VecBatches.j1 k1 (rd_L2 l0_2 x22_1) t130 t131 l0_2 (l0_2.length : Int) x22_1 (!t141) l0_0 a0_1 l0_2 l1_0 a1_1 l1_2)) else (none)) else (heraldlaw08_VecBatches.j1 k1 (rd_L2 l0_2 x22_1) t130 t131 l0_2 (l0_2.length : Int) x22_1 true l0_0 a0_1 l0_2 l1_0 a1_1 l1_2))) else (none)) else (heraldlaw08_VecBatches.j1 k1 (rd_L2 l0_2 x22_1) t130 t131 l0_2 (l0_2.length : Int) x22_1 true l0_0 a0_1 l0_2 l1_0 a1_1 l1_2)) else (heraldlaw08_VecBatches.j1 k1 (rd_L2 l0_2 x22_1) t130 t131 l0_2 (l0_2.length : Int) x22_1 false l0_0 a0_1 l0_2 l1_0 a1_1 l1_2)) else (heraldlaw08_VecBatches.j1 k1 (rd_L2 l0_2 x22_1) t130 t131 l0_2 (l0_2.length : Int) x22_1 true l0_0 a0_1 l0_2 l1_0 a1_1 l1_2))) = some r := H
       have A13 := ym A130
       clear A130
       replace H := Option.bind_eq_some_iff.mp H
       obtain ⟨⟨t134, t135⟩, A140, H⟩ := H
       replace H : (if t131 = t135 then (if t131 = 0 then (if (t134.length : Int) = 2 then (if 0 < (t134.length : Int) then ((heraldlaw08_same_int64.f k1 (rd_L3 t134 0) t130).bind fun t139 => (if t139 = true then (if 1 < (t134.length : Int) then ((heraldlaw08_same_int64.f k1 (rd_L3 t134 1) t130).bind fun t141 => (heraldlaw08_VecBatches.j1 k1 (rd_L2 l0_2 x22_1) t130 t131 l0_2 (l0_2.length : Int) x22_1 (!t141) l0_0 a0_1 l0_2 l1_0 a1_1 l1_2)) else (none)) else (heraldlaw08_VecBatches.j1 k1 (rd_L2 l0_2 x22_1) t130 t131 l0_2 (l0_2.length : Int) x22_1 true l0_0 a0_1 l0_2 l1_0 a1_1 l1_2))) else (none)) else (heraldlaw08_VecBatches.j1 k1 (rd_L2 l0_2 x22_1) t130 t131 l0_2 (l0_2.length : Int) x22_1 true l0_0 a0_1 l0_2 l1_0 a1_1 l1_2)) else (heraldlaw08_VecBatches.j1 k1 (rd_L2 l0_2 x22_1) t130 t131 l0_2 (l0_2.length : Int) x22_1 false l0_0 a0_1 l0_2 l1_0 a1_1 l1_2)) else (heraldlaw08_VecBatches.j1 k1 (rd_L2 l0_2 x22_1) t130 t131 l0_2 (l0_2.length : Int) x22_1 true l0_0 a0_1 l0_2 l1_0 a1_1 l1_2)) = some r := H
       have A14 := ym A140
       clear A140
       have HC15 := ym H
       clear H
       have p129 : 0 ≤ (x22_1 : Int) := of_decide_eq_true (by first | (with_reducible assumption) | assumption)
       have q129 : x22_1 < (l0_2.length : Int) := of_decide_eq_true (by first | (with_reducible assumption) | assumption)
       obtain ⟨ad129, A129_0, c129_0, e129, hx129_0, hl129_0, hi129_0⟩ := at_L2 HR0_2.out x22_1 p129 q129
       cases e129
       replace hx129_0 := (HB.out.cell (World.block_lt_of_cell? w _ hx129_0)).trans hx129_0
       have HR129_0 := ym hi129_0
       have HC129_0 := ym hl129_0
       clear hi129_0 hl129_0
       replace p129 := eq_true p129
       replace q129 := eq_true q129
       have hnb16 := NB126_127.out
       have hnc16 := NB127_126.out
       have hcz17_0 : wr.cell? ⟨gb126, 0, none⟩ = some (.slice A0_0 l0_0.length c0_0) := (yw BK126.out 0).trans rfl
       have hcz17_1 : wr.cell? ⟨gb126, 1, none⟩ = some (.int .i64 a0_1) := (yw BK126.out 1).trans rfl
       have hcz17_2 : wr.cell? ⟨gb126, 2, none⟩ = some (.slice (some ad129) l0_2.length c0_2) := (yw BK126.out 2).trans rfl
       have hfz17_0 := yv BK126.out 0
       have hfz17_1 := yv BK126.out 1
       have hfz17_2 := yv BK126.out 2
       go_upto_region 8 with (first | ((with_reducible refine gate_callee (f := 15) rfl ?_); refine goesL_ (some 32) rfl rfl Try.func15 (by kernel_rfl) rfl #[.slice A0_0 l0_0.length c0_0, .int .i64 a0_1, .slice A129_0 (rd_L2 l0_2 x22_1).length c129_0] rfl (by (try simp only [List.map_toArray, List.map_cons, List.map_nil]); first | done | rfl | (simp only [List.length_drop, List.length_take]; rfl)) ?_; (with_reducible refine (vec_Times.calls k1 _ _ l0_0 a0_1 _ _ (rd_L2 l0_2 x22_1) t130 t131 _ ?side1 ?side2 ?side3 ?side4 A13.out).mono ?_); (case side1 => repeat (first | exact (Kd.C_below HR0_0.out HB.out) | (with_reducible refine yi ?_ _) | (with_reducible refine yj ?_ _) | (with_reducible refine yk ?_))); (case side2 => exact HC0_0.out); (case side3 => repeat (first | exact (Kd.C_below HR129_0.out HB.out) | (with_reducible refine yi ?_ _) | (with_reducible refine yj ?_ _) | (with_reducible refine yk ?_))); (case side4 => exact HC129_0.out); rintro e w18 ⟨v132, rfl, ho0, hb⟩; refine ⟨_, rfl, ?_⟩; have n0_ := ym (yo ho0 (below_size (by repeat (first | (with_reducible first | exact HB.out | apply y3 | refine ys ?_ GE126.out | refine ys ?_ GE127.out) | exact HB.out)))); have n1_ := ym (yq (g := gb126) (o := .cells #[.slice A0_0 l0_0.length c0_0, .int .i64 a0_1, .slice (some ad129) l0_2.length c0_2] 25 (0, 0)) (by (with_reducible repeat refine y4 ?_); exact BK126.out) hb); have n2_ := ym (yq (g := gb127) (o := .cells #[.slice A1_0 l1_0.length c1_0, .int .i64 a1_1, .slice A1_2 l1_2.length c1_2] 25 (0, 0)) (by (with_reducible repeat refine y4 ?_); exact BK127.out) hb); have n3_ := ym (yn (by repeat (first | (with_reducible first | exact HB.out | apply y3 | refine ys ?_ GE126.out | refine ys ?_ GE127.out) | exact HB.out)) hb); clear BK126; clear BK127; clear HB; have HO133 := n0_; have BK126 := n1_; have BK127 := n2_; have HB := n3_; clear n0_ n1_ n2_ n3_; (try clear hb); (try clear hb2); (try clear hk); (try clear hi); (try clear ho0); have hcz19_0 : w18.cell? ⟨gb126, 0, none⟩ = some (.slice A0_0 l0_0.length c0_0) := (yw BK126.out 0).trans rfl; have hcz19_1 : w18.cell? ⟨gb126, 1, none⟩ = some (.int .i64 a0_1) := (yw BK126.out 1).trans rfl; have hcz19_2 : w18.cell? ⟨gb126, 2, none⟩ = some (.slice (some ad129) l0_2.length c0_2) := (yw BK126.out 2).trans rfl; have hfz19_0 := yv BK126.out 0; have hfz19_1 := yv BK126.out 1; have hfz19_2 := yv BK126.out 2) | ((with_reducible refine gate_callee (f := 18) rfl ?_); refine goesL_ (some 43) rfl rfl Try.func18 (by kernel_rfl) rfl #[.slice A0_0 l0_0.length c0_0, .int .i64 a0_1, .slice (some ⟨_, 0, none⟩) 2 2] rfl (by (try simp only [List.map_toArray, List.map_cons, List.map_nil]); first | done | rfl | (simp only [List.length_drop, List.length_take]; rfl)) ?_; (with_reducible refine (vec_Batch2.calls k1 _ _ l0_0 a0_1 _ _ (rd_L2 l0_2 x22_1) t134 t135 _ ?side1 ?side2 ?side3 ?side4 A14.out).mono ?_); (case side1 => repeat (first | exact (Kd.C_below HR0_0.out HB.out) | (with_reducible refine yi ?_ _) | (with_reducible refine yj ?_ _) | (with_reducible refine yk ?_))); (case side2 => exact HC0_0.out); (case side3 => repeat (first | exact (Kd.C_below HR129_0.out HB.out) | (with_reducible refine yi ?_ _) | (with_reducible refine yj ?_ _) | (with_reducible refine yk ?_))); (case side4 => exact HC129_0.out); rintro e w20 ⟨v136, rfl, ho0, hb⟩; refine ⟨_, rfl, ?_⟩; have n0_ := ym (yp (by (with_reducible repeat apply y2); exact HO133.out) hb); have n1_ := ym (Kd.S_lower (Kd.S_new' ho0 (Kd.R_lt (by (with_reducible repeat apply y2); exact HO133.out))) (below_size (by repeat (first | (with_reducible first | exact HB.out | apply y3 | refine ys ?_ GE126.out | refine ys ?_ GE127.out) | exact HB.out)))); have n2_ := ym (yq (g := gb126) (o := .cells #[.slice A0_0 l0_0.length c0_0, .int .i64 a0_1, .slice (some ad129) l0_2.length c0_2] 25 (0, 0)) (by (with_reducible repeat refine y4 ?_); exact BK126.out) hb); have n3_ := ym (yq (g := gb127) (o := .cells #[.slice A1_0 l1_0.length c1_0, .int .i64 a1_1, .slice A1_2 l1_2.length c1_2] 25 (0, 0)) (by (with_reducible repeat refine y4 ?_); exact BK127.out) hb); have n4_ := ym (yn (by repeat (first | (with_reducible first | exact HB.out | apply y3 | refine ys ?_ GE126.out | refine ys ?_ GE127.out) | exact HB.out)) hb); clear HO133; clear BK126; clear BK127; clear HB; have HO133 := n0_; have HO137 := n1_; have BK126 := n2_; have BK127 := n3_; have HB := n4_; clear n0_ n1_ n2_ n3_ n4_; (try clear hb); (try clear hb2); (try clear hk); (try clear hi); (try clear ho0)))
       (try simp only [Act.put, y0])
       go_cut [73] (fun v73 wc => ∃ (kq : Nat) (x73_14 : Bool), v73 = .bool x73_14 ∧ Aside0 (heraldlaw08_VecBatches.j1 kq (rd_L2 l0_2 x22_1) t130 t131 l0_2 (l0_2.length : Int) x22_1 x73_14 l0_0 a0_1 l0_2 l1_0 a1_1 l1_2 = some r) ∧ Aside0 (kq ≤ k1) ∧ Aside0 (Kd.R (Kd.int .i64) 2 wc w.heap.size (fun _ => True) v132 t130) ∧ Aside0 (wc.heap[gb126]? = some (.cells #[(.slice A0_0 l0_0.length c0_0), .int .i64 a0_1, (.slice (some ad129) l0_2.length c0_2)] 25 (0, 0))) ∧ Aside0 (wc.heap[gb127]? = some (.cells #[(.slice A1_0 l1_0.length c1_0), .int .i64 a1_1, (.slice A1_2 l1_2.length c1_2)] 25 (0, 0))) ∧ Aside0 (Below w.heap.size w wc))
       case first =>
        have H := HC15.out
        clear HC15
        by_cases c21 : t131 = t135
        ·
         as_aux_lemma =>
         rw [if_pos c21] at H
         have c21b0 : (t131 == t135) = true := beq_iff_eq.mpr c21
         have c21b1 : (t131 != t135) = false := bne_eq_false_iff_eq.mpr c21
         clear c21
         (first | rw [c21b0] | (simp only [i64_w, i32_w]; rw [c21b0]) | skip)
         by_cases c22 : t131 = 0
         ·
          as_aux_lemma =>
          rw [if_pos c22] at H
          have c22b0 : (t131 == 0) = true := beq_iff_eq.mpr c22
          have c22b1 : (t131 != 0) = false := bne_eq_false_iff_eq.mpr c22
          clear c22
          by_cases c23 : (t134.length : Int) = 2
          ·
           as_aux_lemma =>
           rw [if_pos c23] at H
           have c23b0 : ((t134.length : Int) == 2) = true := beq_iff_eq.mpr c23
           have c23b1 : ((t134.length : Int) != 2) = false := bne_eq_false_iff_eq.mpr c23
           clear c23
           by_cases c24 : 0 < (t134.length : Int)
           ·
            as_aux_lemma =>
            rw [if_pos c24] at H
            have c24b0 : decide (0 < (t134.length : Int)) = true := decide_eq_true c24
            have c24b1 : decide (0 < t134.length) = true := decide_eq_true (by omega)
            clear c24
            replace H := Option.bind_eq_some_iff.mp H
            obtain ⟨t139, A250, H⟩ := H
            replace H : (if t139 = true then (if 1 < (t134.length : Int) then ((heraldlaw08_same_int64.f k1 (rd_L3 t134 1) t130).bind fun t141 => (heraldlaw08_VecBatches.j1 k1 (rd_L2 l0_2 x22_1) t130 t131 l0_2 (l0_2.length : Int) x22_1 (!t141) l0_0 a0_1 l0_2 l1_0 a1_1 l1_2)) else (none)) else (heraldlaw08_VecBatches.j1 k1 (rd_L2 l0_2 x22_1) t130 t131 l0_2 (l0_2.length : Int) x22_1 true l0_0 a0_1 l0_2 l1_0 a1_1 l1_2)) = some r := H
            have A25 := ym A250
            clear A250
            by_cases c26 : t139 = true
            ·
             as_aux_lemma =>
             subst c26
             have H1 : (if 1 < (t134.length : Int) then ((heraldlaw08_same_int64.f k1 (rd_L3 t134 1) t130).bind fun t141 => (heraldlaw08_VecBatches.j1 k1 (rd_L2 l0_2 x22_1) t130 t131 l0_2 (l0_2.length : Int) x22_1 (!t141) l0_0 a0_1 l0_2 l1_0 a1_1 l1_2)) else (none)) = some r := by rw [if_pos rfl] at H; exact H
             clear H
             have H := H1
             clear H1
             by_cases c27 : 1 < (t134.length : Int)
             ·
              as_aux_lemma =>
              rw [if_pos c27] at H
              have c27b0 : decide (1 < (t134.length : Int)) = true := decide_eq_true c27
              have c27b1 : decide (1 < t134.length) = true := decide_eq_true (by omega)
              clear c27
              replace H := Option.bind_eq_some_iff.mp H
              obtain ⟨t141, A280, H⟩ := H
              replace H : (heraldlaw08_VecBatches.j1 k1 (rd_L2 l0_2 x22_1) t130 t131 l0_2 (l0_2.length : Int) x22_1 (!t141) l0_0 a0_1 l0_2 l1_0 a1_1 l1_2) = some r := H
              have A28 := ym A280
              clear A280
              have H' := ym H
              clear H
              obtain ⟨Ao29, co29, eo29⟩ := Kd.S_slice HO137.out
              subst eo29
              have p138 : 0 ≤ (0 : Int) := (by omega)
              have q138 : 0 < (t134.length : Int) := of_decide_eq_true (by first | (with_reducible assumption) | assumption)
              obtain ⟨ad138, A138_0, c138_0, e138, hx138_0, hl138_0, hi138_0⟩ := at_L3 (Kd.S_reads' HO137.out).2.2 0 p138 q138
              cases e138
              obtain ⟨ce138, hce138, hMe138, hcc138⟩ := Kd.S_get HO137.out [] 0 p138 (by first | exact q138 | exact of_decide_eq_true (by first | (with_reducible assumption) | assumption) | (have e_ := (Kd.S_reads' HO137.out).1; omega))
              obtain ⟨ve138_0, rfl, ge138_0⟩ := hMe138
              have hv138_0 := hcc138 0 _ rfl
              rw [Nat.add_zero, show ((Kd.slice 2 (Kd.int .i64))).sz = 1 from rfl, Nat.mul_one] at hv138_0
              replace hv138_0 := Option.some.inj (hv138_0.symm.trans hx138_0)
              rw [hv138_0] at ge138_0
              have HL138_0 := ym (show Kd.R (Kd.int .i64) 2 _ _ _ _ (rd_L3 t134 0) from ge138_0)
              clear hv138_0 ge138_0
              clear hcc138 hce138
              have qi138 : (0 < t134.length) = True := eq_true (by omega)
              (try rw [show ((0 : Int)).toNat = 0 from rfl] at hx138_0)
              (try rw [Addr.add_zero'] at hx138_0)
              have HR138_0 := ym hi138_0
              have HC138_0 := ym hl138_0
              clear hi138_0 hl138_0
              replace p138 := eq_true p138
              replace q138 := eq_true q138
              obtain ⟨Ao30, co30, eo30⟩ := Kd.R_slice HO133.out
              subst eo30
              go_wp2_with (first | (go_at_call 17; (with_reducible refine (heraldlaw08_same_int64.calls k1 _ _ (rd_L3 t134 0) _ _ t130 true _ ?side1 ?side2 ?side3 ?side4 A25.out).mono ?_); (case side1 => repeat (first | exact (by repeat (first | (with_reducible exact HR138_0.out) | (with_reducible refine yi ?_ _) | (with_reducible refine yj ?_ _) | (with_reducible refine yk ?_) | exact HR138_0.out)) | (with_reducible refine yi ?_ _) | (with_reducible refine yj ?_ _) | (with_reducible refine yk ?_))); (case side2 => exact HC138_0.out); (case side3 => repeat (first | exact (Kd.R_reads' HO133.out).2.2 | (with_reducible refine yi ?_ _) | (with_reducible refine yj ?_ _) | (with_reducible refine yk ?_))); (case side4 => exact (Kd.R_reads' HO133.out).2.1); rintro e w' ⟨rfl, ⟨nd, rfl⟩⟩; have p140 : 0 ≤ (1 : Int) := (by omega); have q140 : 1 < (t134.length : Int) := of_decide_eq_true (by first | (with_reducible assumption) | assumption); obtain ⟨ad140, A140_0, c140_0, e140, hx140_0, hl140_0, hi140_0⟩ := at_L3 (Kd.S_reads' HO137.out).2.2 1 p140 q140; obtain rfl : ad138 = ad140 := (by injection e140); obtain ⟨ce140, hce140, hMe140, hcc140⟩ := Kd.S_get HO137.out [] 1 p140 (by first | exact q140 | exact of_decide_eq_true (by first | (with_reducible assumption) | assumption) | (have e_ := (Kd.S_reads' HO137.out).1; omega)); obtain ⟨ve140_0, rfl, ge140_0⟩ := hMe140; have hv140_0 := hcc140 0 _ rfl; rw [Nat.add_zero, show ((Kd.slice 2 (Kd.int .i64))).sz = 1 from rfl, Nat.mul_one] at hv140_0; replace hv140_0 := Option.some.inj (hv140_0.symm.trans hx140_0); rw [hv140_0] at ge140_0; have HL140_0 := ym (show Kd.R (Kd.int .i64) 2 _ _ _ _ (rd_L3 t134 1) from ge140_0); clear hv140_0 ge140_0; clear hcc140 hce140; (try simp only [show (1 : Int).toNat = 1 from rfl, Nat.reduceMul, Nat.reduceEqDiff, Go.Addr.add, ↓reduceIte] at hx140_0); have qi140 : (1 < t134.length) = True := eq_true (by omega); (try rw [show ((1 : Int)).toNat = 1 from rfl] at hx140_0); have HR140_0 := ym hi140_0; have HC140_0 := ym hl140_0; clear hi140_0 hl140_0; replace p140 := eq_true p140; replace q140 := eq_true q140) | (go_at_call 17; (with_reducible refine (heraldlaw08_same_int64.calls k1 _ _ (rd_L3 t134 1) _ _ t130 t141 _ ?side1 ?side2 ?side3 ?side4 A28.out).mono ?_); (case side1 => repeat (first | exact (by repeat (first | (with_reducible exact HR140_0.out) | (with_reducible refine yi ?_ _) | (with_reducible refine yj ?_ _) | (with_reducible refine yk ?_) | exact HR140_0.out)) | (with_reducible refine yi ?_ _) | (with_reducible refine yj ?_ _) | (with_reducible refine yk ?_))); (case side2 => exact HC140_0.out); (case side3 => repeat (first | exact (Kd.R_reads' HO133.out).2.2 | (with_reducible refine yi ?_ _) | (with_reducible refine yj ?_ _) | (with_reducible refine yk ?_))); (case side4 => exact (Kd.R_reads' HO133.out).2.1); rintro e w' ⟨rfl, ⟨nd, rfl⟩⟩))
              go_meet
              case rel => exact ⟨_, (!t141), (by first | rfl | (simp; done) | (simp [*]; done)), H', ⟨by have := HK1.out; first | omega | exact Nat.le_refl _⟩, ⟨by (with_reducible repeat apply y2); exact HO133.out⟩, ⟨by (with_reducible repeat refine y4 ?_); exact BK126.out⟩, ⟨by (with_reducible repeat refine y4 ?_); exact BK127.out⟩, ⟨by repeat (first | (with_reducible first | exact HB.out | apply y3 | refine ys ?_ GE126.out | refine ys ?_ GE127.out) | exact HB.out)⟩⟩
             as_aux_lemma =>
             rw [if_neg c27] at H
             exact absurd H (by simp)
            as_aux_lemma =>
            replace c26 := Bool.eq_false_iff.mpr c26
            subst c26
            have H1 : (heraldlaw08_VecBatches.j1 k1 (rd_L2 l0_2 x22_1) t130 t131 l0_2 (l0_2.length : Int) x22_1 true l0_0 a0_1 l0_2 l1_0 a1_1 l1_2) = some r := by rw [if_neg (show ¬ (false = true) by decide)] at H; exact H
            clear H
            have H := H1
            clear H1
            have H' := ym H
            clear H
            obtain ⟨Ao31, co31, eo31⟩ := Kd.S_slice HO137.out
            subst eo31
            have p138 : 0 ≤ (0 : Int) := (by omega)
            have q138 : 0 < (t134.length : Int) := of_decide_eq_true (by first | (with_reducible assumption) | assumption)
            obtain ⟨ad138, A138_0, c138_0, e138, hx138_0, hl138_0, hi138_0⟩ := at_L3 (Kd.S_reads' HO137.out).2.2 0 p138 q138
            cases e138
            obtain ⟨ce138, hce138, hMe138, hcc138⟩ := Kd.S_get HO137.out [] 0 p138 (by first | exact q138 | exact of_decide_eq_true (by first | (with_reducible assumption) | assumption) | (have e_ := (Kd.S_reads' HO137.out).1; omega))
            obtain ⟨ve138_0, rfl, ge138_0⟩ := hMe138
            have hv138_0 := hcc138 0 _ rfl
            rw [Nat.add_zero, show ((Kd.slice 2 (Kd.int .i64))).sz = 1 from rfl, Nat.mul_one] at hv138_0
            replace hv138_0 := Option.some.inj (hv138_0.symm.trans hx138_0)
            rw [hv138_0] at ge138_0
            have HL138_0 := ym (show Kd.R (Kd.int .i64) 2 _ _ _ _ (rd_L3 t134 0) from ge138_0)
            clear hv138_0 ge138_0
            clear hcc138 hce138
            have qi138 : (0 < t134.length) = True := eq_true (by omega)
            (try rw [show ((0 : Int)).toNat = 0 from rfl] at hx138_0)
            (try rw [Addr.add_zero'] at hx138_0)
            have HR138_0 := ym hi138_0
            have HC138_0 := ym hl138_0
            clear hi138_0 hl138_0
            replace p138 := eq_true p138
            replace q138 := eq_true q138
            obtain ⟨Ao32, co32, eo32⟩ := Kd.R_slice HO133.out
            subst eo32
            go_wp2_with (first | (go_at_call 17; (with_reducible refine (heraldlaw08_same_int64.calls k1 _ _ (rd_L3 t134 0) _ _ t130 false _ ?side1 ?side2 ?side3 ?side4 A25.out).mono ?_); (case side1 => repeat (first | exact (by repeat (first | (with_reducible exact HR138_0.out) | (with_reducible refine yi ?_ _) | (with_reducible refine yj ?_ _) | (with_reducible refine yk ?_) | exact HR138_0.out)) | (with_reducible refine yi ?_ _) | (with_reducible refine yj ?_ _) | (with_reducible refine yk ?_))); (case side2 => exact HC138_0.out); (case side3 => repeat (first | exact (Kd.R_reads' HO133.out).2.2 | (with_reducible refine yi ?_ _) | (with_reducible refine yj ?_ _) | (with_reducible refine yk ?_))); (case side4 => exact (Kd.R_reads' HO133.out).2.1); rintro e w' ⟨rfl, ⟨nd, rfl⟩⟩))
            go_meet
            case rel => exact ⟨_, (true), (by first | rfl | (simp; done) | (simp [*]; done)), H', ⟨by have := HK1.out; first | omega | exact Nat.le_refl _⟩, ⟨by (with_reducible repeat apply y2); exact HO133.out⟩, ⟨by (with_reducible repeat refine y4 ?_); exact BK126.out⟩, ⟨by (with_reducible repeat refine y4 ?_); exact BK127.out⟩, ⟨by repeat (first | (with_reducible first | exact HB.out | apply y3 | refine ys ?_ GE126.out | refine ys ?_ GE127.out) | exact HB.out)⟩⟩
           as_aux_lemma =>
           rw [if_neg c24] at H
           exact absurd H (by simp)
          as_aux_lemma =>
          rw [if_neg c23] at H
          have c23b0 : ((t134.length : Int) == 2) = false := beq_eq_false_iff_ne.mpr c23
          have c23b1 : ((t134.length : Int) != 2) = true := bne_iff_ne.mpr c23
          have H' := ym H
          clear H
          obtain ⟨Ao33, co33, eo33⟩ := Kd.S_slice HO137.out
          subst eo33
          go_wp2
          go_meet
          case rel => exact ⟨_, (true), (by first | rfl | (simp; done) | (simp [*]; done)), H', ⟨by have := HK1.out; first | omega | exact Nat.le_refl _⟩, ⟨by (with_reducible repeat apply y2); exact HO133.out⟩, ⟨by (with_reducible repeat refine y4 ?_); exact BK126.out⟩, ⟨by (with_reducible repeat refine y4 ?_); exact BK127.out⟩, ⟨by repeat (first | (with_reducible first | exact HB.out | apply y3 | refine ys ?_ GE126.out | refine ys ?_ GE127.out) | exact HB.out)⟩⟩
         as_aux_lemma =>
         rw [if_neg c22] at H
         have c22b0 : (t131 == 0) = false := beq_eq_false_iff_ne.mpr c22
         have c22b1 : (t131 != 0) = true := bne_iff_ne.mpr c22
         have H' := ym H
         clear H
         go_wp2
         go_meet
         case rel => exact ⟨_, (false), (by first | rfl | (simp; done) | (simp [*]; done)), H', ⟨by have := HK1.out; first | omega | exact Nat.le_refl _⟩, ⟨by (with_reducible repeat apply y2); exact HO133.out⟩, ⟨by (with_reducible repeat refine y4 ?_); exact BK126.out⟩, ⟨by (with_reducible repeat refine y4 ?_); exact BK127.out⟩, ⟨by repeat (first | (with_reducible first | exact HB.out | apply y3 | refine ys ?_ GE126.out | refine ys ?_ GE127.out) | exact HB.out)⟩⟩
        as_aux_lemma =>
        rw [if_neg c21] at H
        have c21b0 : (t131 == t135) = false := beq_eq_false_iff_ne.mpr c21
        have c21b1 : (t131 != t135) = true := bne_iff_ne.mpr c21
        (first | rw [c21b0] | (simp only [i64_w, i32_w]; rw [c21b0]) | skip)
        have H' := ym H
        clear H
        go_wp2
        go_meet
        case rel => exact ⟨_, (true), (by first | rfl | (simp; done) | (simp [*]; done)), H', ⟨by have := HK1.out; first | omega | exact Nat.le_refl _⟩, ⟨by (with_reducible repeat apply y2); exact HO133.out⟩, ⟨by (with_reducible repeat refine y4 ?_); exact BK126.out⟩, ⟨by (with_reducible repeat refine y4 ?_); exact BK127.out⟩, ⟨by repeat (first | (with_reducible first | exact HB.out | apply y3 | refine ys ?_ GE126.out | refine ys ?_ GE127.out) | exact HB.out)⟩⟩
       case rest =>
        clear HC15
        try clear c1
        try clear p1
        try clear q1
        try clear hx1
        try clear qi1
        try clear c2
        try clear p2
        try clear c4
        try clear c5
        try clear c8
        try clear c10
        try clear c10b0
        try clear c11
        try clear c11b0
        try clear c12
        try clear c12b0
        try clear p12
        try clear q12
        try clear hx12
        try clear c13
        try clear p13
        try clear q13
        try clear hx13
        try clear qi13
        try clear c14
        try clear p14
        try clear q14
        try clear hx14
        try clear qi14
        try clear c15
        try clear c16
        try clear c21
        try clear c21b0
        try clear c21b1
        try clear c22
        try clear c22b0
        try clear c22b1
        try clear c23
        try clear c23b0
        try clear c23b1
        try clear c24
        try clear c24b0
        try clear c24b1
        try clear c26
        try clear c27
        try clear c27b0
        try clear c27b1
        try clear hcz17_0
        try clear hcz17_1
        try clear hcz17_2
        try clear hcz19_0
        try clear hcz19_1
        try clear hcz19_2
        try clear hcz9_0
        try clear hcz9_1
        try clear hcz9_2
        try clear hfz17_0
        try clear hfz17_1
        try clear hfz17_2
        try clear hfz19_0
        try clear hfz19_1
        try clear hfz19_2
        try clear hfz9_0
        try clear hfz9_1
        try clear hfz9_2
        try clear hx129_0
        try clear hx138_0
        try clear hx140_0
        try clear p129
        try clear p138
        try clear p140
        try clear p2
        try clear q129
        try clear q138
        try clear q140
        obtain ⟨kq, x73_14, rfl, HA, HJ14, HO_7, BK126, BK127, HB⟩ := hcut
        cases kq with
        | zero => exact absurd HA.out (by simp [heraldlaw08_VecBatches.j1])
        | succ kj14 =>
         have H := HA.out
         clear HA
         simp only [heraldlaw08_VecBatches.j1] at H
         by_cases c34 : x73_14 = true
         ·
          as_aux_lemma =>
          subst c34
          have H1 : (none) = some r := by rw [if_pos rfl] at H; exact H
          clear H
          have H := H1
          clear H1
          exact absurd H (by simp)
         as_aux_lemma =>
         replace c34 := Bool.eq_false_iff.mpr c34
         subst c34
         have H1 : (if t131 = 0 then ((vec_Sizes.f l0_0 a0_1).bind fun bt142 => (if bt142.2 = 0 then (heraldlaw08_VecBatches.j2 kj14 (rd_L2 l0_2 x22_1) t130 bt142.1 l0_2 (l0_2.length : Int) x22_1 ((bt142.1.length : Int) != (t130.length : Int)) l0_0 a0_1 l0_2 l1_0 a1_1 l1_2) else (heraldlaw08_VecBatches.j2 kj14 (rd_L2 l0_2 x22_1) t130 bt142.1 l0_2 (l0_2.length : Int) x22_1 true l0_0 a0_1 l0_2 l1_0 a1_1 l1_2))) else (heraldlaw08_VecBatches.l0 kj14 l0_2 (l0_2.length : Int) (wrap64 (x22_1 + 1)) l0_0 a0_1 l0_2 l1_0 a1_1 l1_2)) = some r := by rw [if_neg (show ¬ (false = true) by decide)] at H; exact H
         clear H
         have H := H1
         clear H1
         by_cases c35 : t131 = 0
         ·
          as_aux_lemma =>
          rw [if_pos c35] at H
          have c35b0 : (t131 == 0) = true := beq_iff_eq.mpr c35
          have c35b1 : (t131 != 0) = false := bne_eq_false_iff_eq.mpr c35
          clear c35
          replace H := Option.bind_eq_some_iff.mp H
          obtain ⟨⟨t142, t143⟩, A360, H⟩ := H
          replace H : (if t143 = 0 then (heraldlaw08_VecBatches.j2 kj14 (rd_L2 l0_2 x22_1) t130 t142 l0_2 (l0_2.length : Int) x22_1 ((t142.length : Int) != (t130.length : Int)) l0_0 a0_1 l0_2 l1_0 a1_1 l1_2) else (heraldlaw08_VecBatches.j2 kj14 (rd_L2 l0_2 x22_1) t130 t142 l0_2 (l0_2.length : Int) x22_1 true l0_0 a0_1 l0_2 l1_0 a1_1 l1_2)) = some r := H
          have A36 := ym A360
          clear A360
          have HC37 := ym H
          clear H
          have hnb38 := NB126_127.out
          have hnc38 := NB127_126.out
          have hcz39_0 : wc.cell? ⟨gb126, 0, none⟩ = some (.slice A0_0 l0_0.length c0_0) := (yw BK126.out 0).trans rfl
          have hcz39_1 : wc.cell? ⟨gb126, 1, none⟩ = some (.int .i64 a0_1) := (yw BK126.out 1).trans rfl
          have hcz39_2 : wc.cell? ⟨gb126, 2, none⟩ = some (.slice (some ad129) l0_2.length c0_2) := (yw BK126.out 2).trans rfl
          have hfz39_0 := yv BK126.out 0
          have hfz39_1 := yv BK126.out 1
          have hfz39_2 := yv BK126.out 2
          go_upto_region 12 with (first | ((with_reducible refine gate_callee (f := 25) rfl ?_); refine goesL_ (some 81) rfl rfl Try.func25 (by kernel_rfl) rfl #[.slice A0_0 l0_0.length c0_0, .int .i64 a0_1] rfl (by (try simp only [List.map_toArray, List.map_cons, List.map_nil]); first | done | rfl | (simp only [List.length_drop, List.length_take]; rfl)) ?_; (with_reducible refine (vec_Sizes.calls _ _ l0_0 a0_1 t142 t143 _ ?side1 ?side2 A36.out).mono ?_); (case side1 => repeat (first | exact (Kd.C_below HR0_0.out HB.out) | (with_reducible refine yi ?_ _) | (with_reducible refine yj ?_ _) | (with_reducible refine yk ?_))); (case side2 => exact HC0_0.out); rintro e w40 ⟨v144, rfl, ho0, hb⟩; refine ⟨_, rfl, ?_⟩; have n0_ := ym (Kd.R_elder' (by (with_reducible repeat apply y2); exact HO_7.out) (Kd.R_base ho0) hb); have n1_ := ym (yo (Kd.R_new' ho0 (Kd.R_lt (by (with_reducible repeat apply y2); exact HO_7.out))) (below_size (by repeat (first | (with_reducible first | exact HB.out | apply y3 | refine ys ?_ GE126.out | refine ys ?_ GE127.out) | exact HB.out)))); have n2_ := ym (yq (g := gb126) (o := .cells #[.slice A0_0 l0_0.length c0_0, .int .i64 a0_1, .slice (some ad129) l0_2.length c0_2] 25 (0, 0)) (by (with_reducible repeat refine y4 ?_); exact BK126.out) hb); have n3_ := ym (yq (g := gb127) (o := .cells #[.slice A1_0 l1_0.length c1_0, .int .i64 a1_1, .slice A1_2 l1_2.length c1_2] 25 (0, 0)) (by (with_reducible repeat refine y4 ?_); exact BK127.out) hb); have n4_ := ym (yn (by repeat (first | (with_reducible first | exact HB.out | apply y3 | refine ys ?_ GE126.out | refine ys ?_ GE127.out) | exact HB.out)) hb); clear HO_7; clear BK126; clear BK127; clear HB; have HO_7 := n0_; have HO145 := n1_; have BK126 := n2_; have BK127 := n3_; have HB := n4_; clear n0_ n1_ n2_ n3_ n4_; (try clear hb); (try clear hb2); (try clear hk); (try clear hi); (try clear ho0)))
          (try simp only [Act.put, y0])
          go_cut [92] (fun v92 wc => ∃ (kq : Nat) (x92_36 : Bool), v92 = .bool x92_36 ∧ Aside0 (heraldlaw08_VecBatches.j2 kq (rd_L2 l0_2 x22_1) t130 t142 l0_2 (l0_2.length : Int) x22_1 x92_36 l0_0 a0_1 l0_2 l1_0 a1_1 l1_2 = some r) ∧ Aside0 (kq ≤ kj14) ∧ Aside0 (Kd.R (Kd.int .i64) 2 wc w.heap.size (fun k_ => some k_ ≠ (v144 : Value).ownBlock) v132 t130) ∧ Aside0 (Kd.R (Kd.int .i64) 2 wc w.heap.size (fun k_ => some k_ ≠ (v132 : Value).ownBlock) v144 t142) ∧ Aside0 (wc.heap[gb126]? = some (.cells #[(.slice A0_0 l0_0.length c0_0), .int .i64 a0_1, (.slice (some ad129) l0_2.length c0_2)] 25 (0, 0))) ∧ Aside0 (wc.heap[gb127]? = some (.cells #[(.slice A1_0 l1_0.length c1_0), .int .i64 a1_1, (.slice A1_2 l1_2.length c1_2)] 25 (0, 0))) ∧ Aside0 (Below w.heap.size w wc))
          case first =>
           have H := HC37.out
           clear HC37
           by_cases c41 : t143 = 0
           ·
            as_aux_lemma =>
            rw [if_pos c41] at H
            have c41b0 : (t143 == 0) = true := beq_iff_eq.mpr c41
            have c41b1 : (t143 != 0) = false := bne_eq_false_iff_eq.mpr c41
            clear c41
            (first | rw [c41b0] | (simp only [i64_w, i32_w]; rw [c41b0]) | skip)
            have H' := ym H
            clear H
            obtain ⟨Ao42, co42, eo42⟩ := Kd.R_slice HO145.out
            subst eo42
            obtain ⟨Ao43, co43, eo43⟩ := Kd.R_slice HO_7.out
            subst eo43
            go_wp2
            go_meet
            case rel => exact ⟨_, (((t142.length : Int) != (t130.length : Int))), (by first | rfl | (simp; done) | (simp [*]; done)), H', ⟨by have := HK1.out; have := HJ14.out; first | omega | exact Nat.le_refl _⟩, ⟨by (with_reducible repeat apply y2); exact Kd.R_mono HO_7.out (fun _ hk => hk.2)⟩, ⟨by (with_reducible repeat apply y2); exact Kd.R_mono HO145.out (fun _ hk => hk.2)⟩, ⟨by (with_reducible repeat refine y4 ?_); exact BK126.out⟩, ⟨by (with_reducible repeat refine y4 ?_); exact BK127.out⟩, ⟨by repeat (first | (with_reducible first | exact HB.out | apply y3 | refine ys ?_ GE126.out | refine ys ?_ GE127.out) | exact HB.out)⟩⟩
           as_aux_lemma =>
           rw [if_neg c41] at H
           have c41b0 : (t143 == 0) = false := beq_eq_false_iff_ne.mpr c41
           have c41b1 : (t143 != 0) = true := bne_iff_ne.mpr c41
           (first | rw [c41b0] | (simp only [i64_w, i32_w]; rw [c41b0]) | skip)
           have H' := ym H
           clear H
           go_wp2
           go_meet
           case rel => exact ⟨_, (true), (by first | rfl | (simp; done) | (simp [*]; done)), H', ⟨by have := HK1.out; have := HJ14.out; first | omega | exact Nat.le_refl _⟩, ⟨by (with_reducible repeat apply y2); exact Kd.R_mono HO_7.out (fun _ hk => hk.2)⟩, ⟨by (with_reducible repeat apply y2); exact Kd.R_mono HO145.out (fun _ hk => hk.2)⟩, ⟨by (with_reducible repeat refine y4 ?_); exact BK126.out⟩, ⟨by (with_reducible repeat refine y4 ?_); exact BK127.out⟩, ⟨by repeat (first | (with_reducible first | exact HB.out | apply y3 | refine ys ?_ GE126.out | refine ys ?_ GE127.out) | exact HB.out)⟩⟩
          case rest =>
           clear HC37
           try clear c1
           try clear p1
           try clear q1
           try clear hx1
           try clear qi1
           try clear c2
           try clear p2
           try clear c3
           try clear c4
           try clear c5
           try clear p6
           try clear c8
           try clear c10
           try clear c10b0
           try clear c11
           try clear c11b0
           try clear c12
           try clear c12b0
           try clear p12
           try clear q12
           try clear hx12
           try clear c13
           try clear p13
           try clear q13
           try clear hx13
           try clear qi13
           try clear c14
           try clear p14
           try clear q14
           try clear hx14
           try clear qi14
           try clear c15
           try clear c16
           try clear c21
           try clear c21b0
           try clear c21b1
           try clear c22
           try clear c22b0
           try clear c22b1
           try clear c23
           try clear c23b0
           try clear c23b1
           try clear c24
           try clear c24b0
           try clear c24b1
           try clear c25
           try clear c26
           try clear c27
           try clear c27b0
           try clear c27b1
           try clear c34
           try clear c35
           try clear c35b0
           try clear c35b1
           try clear c38
           try clear c41
           try clear c41b0
           try clear c41b1
           try clear hcz17_0
           try clear hcz17_1
           try clear hcz17_2
           try clear hcz19_0
           try clear hcz19_1
           try clear hcz19_2
           try clear hcz39_0
           try clear hcz39_1
           try clear hcz39_2
           try clear hcz9_0
           try clear hcz9_1
           try clear hcz9_2
           try clear hfz17_0
           try clear hfz17_1
           try clear hfz17_2
           try clear hfz19_0
           try clear hfz19_1
           try clear hfz19_2
           try clear hfz39_0
           try clear hfz39_1
           try clear hfz39_2
           try clear hfz9_0
           try clear hfz9_1
           try clear hfz9_2
           try clear hx129_0
           try clear hx138_0
           try clear hx140_0
           try clear p1
           try clear p12
           try clear p129
           try clear p13
           try clear p138
           try clear p14
           try clear p140
           try clear p2
           try clear q1
           try clear q12
           try clear q129
           try clear q13
           try clear q138
           try clear q14
           try clear q140
           obtain ⟨kq, x92_36, rfl, HA, HJ36, HO_7, HO_11, BK126, BK127, HB⟩ := hcut
           cases kq with
           | zero => exact absurd HA.out (by simp [heraldlaw08_VecBatches.j2])
           | succ kj36 =>
            have H := HA.out
            clear HA
            simp only [heraldlaw08_VecBatches.j2] at H
            by_cases c44 : x92_36 = true
            ·
             as_aux_lemma =>
             subst c44
             have H1 : (none) = some r := by rw [if_pos rfl] at H; exact H
             clear H
             have H := H1
             clear H1
             exact absurd H (by simp)
            as_aux_lemma =>
            replace c44 := Bool.eq_false_iff.mpr c44
            subst c44
            have H1 : (heraldlaw08_VecBatches.l1 kj36 (rd_L2 l0_2 x22_1) t130 t142 l0_2 (l0_2.length : Int) x22_1 (t130.length : Int) 0 l0_0 a0_1 l0_2 l1_0 a1_1 l1_2) = some r := by rw [if_neg (show ¬ (false = true) by decide)] at H; exact H
            clear H
            have H := H1
            clear H1
            have H' := ym H
            clear H
            obtain ⟨Ao45, co45, eo45⟩ := Kd.R_slice HO_7.out
            subst eo45
            go_wp2
            go_loopg [95] kj36 (fun kq v95 w' => ∃ (x95_4 : Int), v95 = .int .i64 x95_4 ∧ Aside0 (heraldlaw08_VecBatches.l1 kq (rd_L2 l0_2 x22_1) t130 t142 l0_2 (l0_2.length : Int) x22_1 (t130.length : Int) x95_4 l0_0 a0_1 l0_2 l1_0 a1_1 l1_2 = some r) ∧ Aside0 (kq ≤ kj36) ∧ Aside0 (Kd.R (Kd.int .i64) 2 w' w.heap.size (fun k_ => some k_ ≠ (v144 : Value).ownBlock) (.slice Ao45 t130.length co45) t130) ∧ Aside0 (Kd.R (Kd.int .i64) 2 w' w.heap.size (fun k_ => some k_ ≠ ((.slice Ao45 t130.length co45) : Value).ownBlock) v144 t142) ∧ Aside0 (w'.heap[gb126]? = some (.cells #[(.slice A0_0 l0_0.length c0_0), .int .i64 a0_1, (.slice (some ad129) l0_2.length c0_2)] 25 (0, 0))) ∧ Aside0 (w'.heap[gb127]? = some (.cells #[(.slice A1_0 l1_0.length c1_0), .int .i64 a1_1, (.slice A1_2 l1_2.length c1_2)] 25 (0, 0))) ∧ Aside0 (Below w.heap.size w w'))
            case atStart => exact ⟨(0), (by first | rfl | (simp; done) | (simp [*]; done)), H', ⟨Nat.le_refl _⟩, ⟨by (with_reducible repeat apply y2); exact HO_7.out⟩, ⟨by (with_reducible repeat apply y2); exact HO_11.out⟩, ⟨by (with_reducible repeat refine y4 ?_); exact BK126.out⟩, ⟨by (with_reducible repeat refine y4 ?_); exact BK127.out⟩, ⟨by repeat (first | (with_reducible first | exact HB.out | apply y3 | refine ys ?_ GE126.out | refine ys ?_ GE127.out) | exact HB.out)⟩⟩
            case round =>
             clear H'
             try clear c1
             try clear p1
             try clear q1
             try clear hx1
             try clear qi1
             try clear c2
             try clear p2
             try clear c3
             try clear c4
             try clear c5
             try clear p6
             try clear c8
             try clear c10
             try clear c10b0
             try clear c11
             try clear c11b0
             try clear c12
             try clear c12b0
             try clear p12
             try clear q12
             try clear hx12
             try clear c13
             try clear p13
             try clear q13
             try clear hx13
             try clear qi13
             try clear c14
             try clear p14
             try clear q14
             try clear hx14
             try clear qi14
             try clear c15
             try clear c16
             try clear c21
             try clear c21b0
             try clear c21b1
             try clear c22
             try clear c22b0
             try clear c22b1
             try clear c23
             try clear c23b0
             try clear c23b1
             try clear c24
             try clear c24b0
             try clear c24b1
             try clear c25
             try clear c26
             try clear c27
             try clear c27b0
             try clear c27b1
             try clear c34
             try clear c35
             try clear c35b0
             try clear c35b1
             try clear c38
             try clear c41
             try clear c41b0
             try clear c41b1
             try clear c44
             try clear hcz17_0
             try clear hcz17_1
             try clear hcz17_2
             try clear hcz19_0
             try clear hcz19_1
             try clear hcz19_2
             try clear hcz39_0
             try clear hcz39_1
             try clear hcz39_2
             try clear hcz9_0
             try clear hcz9_1
             try clear hcz9_2
             try clear hfz17_0
             try clear hfz17_1
             try clear hfz17_2
             try clear hfz19_0
             try clear hfz19_1
             try clear hfz19_2
             try clear hfz39_0
             try clear hfz39_1
             try clear hfz39_2
             try clear hfz9_0
             try clear hfz9_1
             try clear hfz9_2
             try clear hx129_0
             try clear hx138_0
             try clear hx140_0
             try clear p1
             try clear p12
             try clear p129
             try clear p13
             try clear p138
             try clear p14
             try clear p140
             try clear p2
             try clear p6
             try clear q1
             try clear q12
             try clear q129
             try clear q13
             try clear q138
             try clear q14
             try clear q140
             obtain ⟨x95_4, rfl, HA, HK4, HO_7, HO_11, BK126, BK127, HB⟩ := hrel
             cases gk with
             | zero => exact absurd HA.out (by simp [heraldlaw08_VecBatches.l1])
             | succ k4 =>
              have H := HA.out
              clear HA
              simp only [heraldlaw08_VecBatches.l1] at H
              by_cases c46 : x95_4 < (t130.length : Int)
              ·
               as_aux_lemma =>
               rw [if_pos c46] at H
               have c46b0 : decide (x95_4 < (t130.length : Int)) = true := decide_eq_true c46
               clear c46
               by_cases c47 : 0 ≤ x95_4
               ·
                as_aux_lemma =>
                rw [if_pos c47] at H
                have c47b0 : decide (0 ≤ x95_4) = true := decide_eq_true c47
                clear c47
                by_cases c48 : x95_4 < (t130.length : Int)
                ·
                 as_aux_lemma =>
                 rw [if_pos c48] at H
                 have c48b0 : decide (x95_4 < (t130.length : Int)) = true := decide_eq_true c48
                 clear c48
                 by_cases c49 : x95_4 < (t142.length : Int)
                 ·
                  as_aux_lemma =>
                  rw [if_pos c49] at H
                  have c49b0 : decide (x95_4 < (t142.length : Int)) = true := decide_eq_true c49
                  clear c49
                  by_cases c50 : (rd t130 x95_4) > (wrap64 (128 * (rd t142 x95_4)))
                  ·
                   as_aux_lemma =>
                   rw [if_pos c50] at H
                   have c50b0 : decide ((wrap64 (128 * (rd t142 x95_4))) < (rd t130 x95_4)) = true := decide_eq_true c50
                   clear c50
                   exact absurd H (by simp)
                  as_aux_lemma =>
                  rw [if_neg c50] at H
                  have c50b0 : decide ((wrap64 (128 * (rd t142 x95_4))) < (rd t130 x95_4)) = false := decide_eq_false c50
                  clear c50
                  by_cases c51 : (rd t130 x95_4) < (wrap64 ((-128) * (rd t142 x95_4)))
                  ·
                   as_aux_lemma =>
                   rw [if_pos c51] at H
                   exact absurd H (by simp)
                  as_aux_lemma =>
                  rw [if_neg c51] at H
                  have c51b0 : decide ((rd t130 x95_4) < (wrap64 ((-128) * (rd t142 x95_4)))) = false := decide_eq_false c51
                  clear c51
                  have H' := ym H
                  clear H
                  try go_wp2
                  have n0_ := ym (yh HO_7.out)
                  have n1_ := ym (yh HO_11.out)
                  have n2_ := ym (yt BK126.out)
                  have n3_ := ym (yt BK127.out)
                  have n4_ := ym (ye HB.out)
                  clear HO_7
                  clear HO_11
                  clear BK126
                  clear BK127
                  clear HB
                  have HO_7 := n0_
                  have HO_11 := n1_
                  have BK126 := n2_
                  have BK127 := n3_
                  have HB := n4_
                  clear n0_ n1_ n2_ n3_ n4_
                  have p146 : 0 ≤ (x95_4 : Int) := of_decide_eq_true (by first | (with_reducible assumption) | assumption)
                  have q146 : x95_4 < (t130.length : Int) := of_decide_eq_true (by first | (with_reducible assumption) | assumption)
                  obtain ⟨ad146, e146, hx146_0⟩ := Kd.at_int (Kd.R_reads' HO_7.out).2.2 x95_4 p146 q146
                  cases e146
                  replace p146 := eq_true p146
                  replace q146 := eq_true q146
                  obtain ⟨Ao53, co53, eo53⟩ := Kd.R_slice HO_11.out
                  (first | subst eo53 | (injection eo53 with f1_ f2_ f3_; have f4_ := f1_.symm; have f5_ := f3_.symm; clear f1_ f2_ f3_; subst f4_; subst f5_))
                  have p147 : 0 ≤ (x95_4 : Int) := of_decide_eq_true (by first | (with_reducible assumption) | assumption)
                  have q147 : x95_4 < (t142.length : Int) := of_decide_eq_true (by first | (with_reducible assumption) | assumption)
                  obtain ⟨ad147, e147, hx147_0⟩ := Kd.at_int (Kd.R_reads' HO_11.out).2.2 x95_4 p147 q147
                  cases e147
                  replace p147 := eq_true p147
                  replace q147 := eq_true q147
                  have p148 : 0 ≤ (x95_4 : Int) := of_decide_eq_true (by first | (with_reducible assumption) | assumption)
                  have q148 : x95_4 < (t130.length : Int) := of_decide_eq_true (by first | (with_reducible assumption) | assumption)
                  obtain ⟨ad148, e148, hx148_0⟩ := Kd.at_int (Kd.R_reads' HO_7.out).2.2 x95_4 p148 q148
                  obtain rfl : ad146 = ad148 := (by injection e148)
                  replace p148 := eq_true p148
                  replace q148 := eq_true q148
                  have p149 : 0 ≤ (x95_4 : Int) := of_decide_eq_true (by first | (with_reducible assumption) | assumption)
                  have q149 : x95_4 < (t142.length : Int) := of_decide_eq_true (by first | (with_reducible assumption) | assumption)
                  obtain ⟨ad149, e149, hx149_0⟩ := Kd.at_int (Kd.R_reads' HO_11.out).2.2 x95_4 p149 q149
                  obtain rfl : ad147 = ad149 := (by injection e149)
                  replace p149 := eq_true p149
                  replace q149 := eq_true q149
                  refine start_ (n := 22) (S := fun w' => w'.cell? (ad146.add (x95_4).toNat) = some (.int .i64 (rd t130 x95_4)) ∧ w'.cell? (ad147.add (x95_4).toNat) = some (.int .i64 (rd t142 x95_4)) ∧ w'.cell? (ad146.add (x95_4).toNat) = some (.int .i64 (rd t130 x95_4)) ∧ w'.cell? (ad147.add (x95_4).toNat) = some (.int .i64 (rd t142 x95_4))) (ds := []) #[false, false, false, false, false, false, false, false, false, false, false, false, false, false, false, false, false, false, false, false, false, false] (by kernel_rfl) rfl rfl ⟨hx146_0, hx147_0, hx148_0, hx149_0⟩ (fun hHeld => ?_); refine with_tabW heraldlaw08_VecBatches.tab17 heraldlaw08_VecBatches.bits17 (fun HT_ HW_ => ?_)
                  generalize wr.drew = w52 at HO_7 HO_11 BK126 BK127 HB hx146_0 hx147_0 hx148_0 hx149_0 hHeld ⊢
                  refine pure_ (i := 0) (N := some 98) (v := ?_) (a' := ?_) #[true, false, false, false, false, false, false, false, false, false, false, false, false, false, false, false, false, false, false, false, false, false] rfl rfl (any_of HT_.out (by kernel_rfl)) (fun _ _ _ h => h) (Or.inl ⟨by rfl, ?_⟩) ?_ ?_
                  rotate_left
                  ·
                   intro w'
                   go_simp
                   with_reducible rfl
                  rotate_left
                  ·
                   simp only [Act.put, y0, y1]
                   rfl
                  refine pure_ (i := 1) (N := some 99) (v := ?_) (a' := ?_) #[true, true, false, false, false, false, false, false, false, false, false, false, false, false, false, false, false, false, false, false, false, false] rfl rfl (any_of HT_.out (by kernel_rfl)) (fun _ _ _ h => h) (Or.inl ⟨by rfl, ?_⟩) ?_ ?_
                  rotate_left
                  ·
                   intro w'
                   go_simp
                   with_reducible rfl
                  rotate_left
                  ·
                   simp only [Act.put, y0, y1]
                   rfl
                  refine pure_ (i := 2) (N := some 100) (v := ?_) (a' := ?_) #[true, true, true, false, false, false, false, false, false, false, false, false, false, false, false, false, false, false, false, false, false, false] rfl rfl (any_of HT_.out (by kernel_rfl)) (fun _ _ _ h => h) (Or.inl ⟨by rfl, ?_⟩) ?_ ?_
                  rotate_left
                  ·
                   intro w'
                   go_simp
                   with_reducible rfl
                  rotate_left
                  ·
                   simp only [Act.put, y0, y1]
                   rfl
                  refine pure_ (i := 4) (N := some 102) (v := ?_) (a' := ?_) #[true, true, true, false, true, false, false, false, false, false, false, false, false, false, false, false, false, false, false, false, false, false] rfl rfl (any_of HT_.out (by kernel_rfl)) (fun _ _ _ h => h) (Or.inl ⟨by rfl, ?_⟩) ?_ ?_
                  rotate_left
                  ·
                   intro w'
                   go_simp
                   with_reducible rfl
                  rotate_left
                  ·
                   simp only [Act.put, y0, y1]
                   rfl
                  refine pure_ (i := 5) (N := some 103) (v := ?_) (a' := ?_) #[true, true, true, false, true, true, false, false, false, false, false, false, false, false, false, false, false, false, false, false, false, false] rfl rfl (any_of HT_.out (by kernel_rfl)) (fun _ _ _ h => h) (Or.inl ⟨by rfl, ?_⟩) ?_ ?_
                  rotate_left
                  ·
                   intro w'
                   go_simp
                   with_reducible rfl
                  rotate_left
                  ·
                   simp only [Act.put, y0, y1]
                   rfl
                  refine pure_ (i := 6) (N := some 104) (v := ?_) (a' := ?_) #[true, true, true, false, true, true, true, false, false, false, false, false, false, false, false, false, false, false, false, false, false, false] rfl rfl (any_of HT_.out (by kernel_rfl)) (fun _ _ _ h => h) (Or.inl ⟨by rfl, ?_⟩) ?_ ?_
                  rotate_left
                  ·
                   intro w'
                   go_simp
                   with_reducible rfl
                  rotate_left
                  ·
                   simp only [Act.put, y0, y1]
                   rfl
                  refine take_ (i := 3) (N := some 101) (v := ?_) (a' := ?_) #[true, true, true, true, true, true, true, false, false, false, false, false, false, false, false, false, false, false, false, false, false, false] rfl rfl (take_ofW HT_.out HW_.out (by kernel_rfl)) (fun _ _ _ h => h) (Or.inl ⟨by rfl, ?_⟩) hHeld ?_ ?_
                  rotate_left
                  ·
                   rintro w' ⟨s0, s1, s2, s3⟩
                   go_simp
                   with_reducible rfl
                  rotate_left
                  ·
                   simp only [Act.put, y0, y1]
                   rfl
                  refine take_ (i := 7) (N := some 105) (v := ?_) (a' := ?_) #[true, true, true, true, true, true, true, true, false, false, false, false, false, false, false, false, false, false, false, false, false, false] rfl rfl (take_ofW HT_.out HW_.out (by kernel_rfl)) (fun _ _ _ h => h) (Or.inl ⟨by rfl, ?_⟩) hHeld ?_ ?_
                  rotate_left
                  ·
                   rintro w' ⟨s0, s1, s2, s3⟩
                   go_simp
                   with_reducible rfl
                  rotate_left
                  ·
                   simp only [Act.put, y0, y1]
                   rfl
                  refine pure_ (i := 8) (N := some 106) (v := ?_) (a' := ?_) #[true, true, true, true, true, true, true, true, true, false, false, false, false, false, false, false, false, false, false, false, false, false] rfl rfl (any_of HT_.out (by kernel_rfl)) (fun _ _ _ h => h) (Or.inl ⟨by rfl, ?_⟩) ?_ ?_
                  rotate_left
                  ·
                   intro w'
                   go_simp
                   with_reducible rfl
                  rotate_left
                  ·
                   simp only [Act.put, y0, y1]
                   rfl
                  refine pure_ (i := 9) (N := some 107) (v := ?_) (a' := ?_) #[true, true, true, true, true, true, true, true, true, true, false, false, false, false, false, false, false, false, false, false, false, false] rfl rfl (any_of HT_.out (by kernel_rfl)) (fun _ _ _ h => h) (Or.inl ⟨by rfl, ?_⟩) ?_ ?_
                  rotate_left
                  ·
                   intro w'
                   go_simp
                   with_reducible rfl
                  rotate_left
                  ·
                   simp only [Act.put, y0, y1]
                   rfl
                  refine pure_ (i := 10) (N := some 108) (v := ?_) (a' := ?_) #[true, true, true, true, true, true, true, true, true, true, true, false, false, false, false, false, false, false, false, false, false, false] rfl rfl (any_of HT_.out (by kernel_rfl)) (fun _ _ _ h => h) (Or.inl ⟨by rfl, ?_⟩) ?_ ?_
                  rotate_left
                  ·
                   intro w'
                   go_simp
                   with_reducible rfl
                  rotate_left
                  ·
                   simp only [Act.put, y0, y1]
                   rfl
                  refine pure_ (i := 11) (N := some 109) (v := ?_) (a' := ?_) #[true, true, true, true, true, true, true, true, true, true, true, true, false, false, false, false, false, false, false, false, false, false] rfl rfl (any_of HT_.out (by kernel_rfl)) (fun _ _ _ h => h) (Or.inl ⟨by rfl, ?_⟩) ?_ ?_
                  rotate_left
                  ·
                   intro w'
                   go_simp
                   with_reducible rfl
                  rotate_left
                  ·
                   simp only [Act.put, y0, y1]
                   rfl
                  refine pure_ (i := 12) (N := some 110) (v := ?_) (a' := ?_) #[true, true, true, true, true, true, true, true, true, true, true, true, true, false, false, false, false, false, false, false, false, false] rfl rfl (any_of HT_.out (by kernel_rfl)) (fun _ _ _ h => h) (Or.inl ⟨by rfl, ?_⟩) ?_ ?_
                  rotate_left
                  ·
                   intro w'
                   go_simp
                   with_reducible rfl
                  rotate_left
                  ·
                   simp only [Act.put, y0, y1]
                   rfl
                  refine pure_ (i := 13) (N := some 111) (v := ?_) (a' := ?_) #[true, true, true, true, true, true, true, true, true, true, true, true, true, true, false, false, false, false, false, false, false, false] rfl rfl (any_of HT_.out (by kernel_rfl)) (fun _ _ _ h => h) (Or.inl ⟨by rfl, ?_⟩) ?_ ?_
                  rotate_left
                  ·
                   intro w'
                   go_simp
                   with_reducible rfl
                  rotate_left
                  ·
                   simp only [Act.put, y0, y1]
                   rfl
                  refine pure_ (i := 15) (N := some 113) (v := ?_) (a' := ?_) #[true, true, true, true, true, true, true, true, true, true, true, true, true, true, false, true, false, false, false, false, false, false] rfl rfl (any_of HT_.out (by kernel_rfl)) (fun _ _ _ h => h) (Or.inl ⟨by rfl, ?_⟩) ?_ ?_
                  rotate_left
                  ·
                   intro w'
                   go_simp
                   with_reducible rfl
                  rotate_left
                  ·
                   simp only [Act.put, y0, y1]
                   rfl
                  refine pure_ (i := 16) (N := some 114) (v := ?_) (a' := ?_) #[true, true, true, true, true, true, true, true, true, true, true, true, true, true, false, true, true, false, false, false, false, false] rfl rfl (any_of HT_.out (by kernel_rfl)) (fun _ _ _ h => h) (Or.inl ⟨by rfl, ?_⟩) ?_ ?_
                  rotate_left
                  ·
                   intro w'
                   go_simp
                   with_reducible rfl
                  rotate_left
                  ·
                   simp only [Act.put, y0, y1]
                   rfl
                  refine pure_ (i := 17) (N := some 115) (v := ?_) (a' := ?_) #[true, true, true, true, true, true, true, true, true, true, true, true, true, true, false, true, true, true, false, false, false, false] rfl rfl (any_of HT_.out (by kernel_rfl)) (fun _ _ _ h => h) (Or.inl ⟨by rfl, ?_⟩) ?_ ?_
                  rotate_left
                  ·
                   intro w'
                   go_simp
                   with_reducible rfl
                  rotate_left
                  ·
                   simp only [Act.put, y0, y1]
                   rfl
                  refine take_ (i := 14) (N := some 112) (v := ?_) (a' := ?_) #[true, true, true, true, true, true, true, true, true, true, true, true, true, true, true, true, true, true, false, false, false, false] rfl rfl (take_ofW HT_.out HW_.out (by kernel_rfl)) (fun _ _ _ h => h) (Or.inl ⟨by rfl, ?_⟩) hHeld ?_ ?_
                  rotate_left
                  ·
                   rintro w' ⟨s0, s1, s2, s3⟩
                   go_simp
                   with_reducible rfl
                  rotate_left
                  ·
                   simp only [Act.put, y0, y1]
                   rfl
                  refine take_ (i := 18) (N := some 116) (v := ?_) (a' := ?_) #[true, true, true, true, true, true, true, true, true, true, true, true, true, true, true, true, true, true, true, false, false, false] rfl rfl (take_ofW HT_.out HW_.out (by kernel_rfl)) (fun _ _ _ h => h) (Or.inl ⟨by rfl, ?_⟩) hHeld ?_ ?_
                  rotate_left
                  ·
                   rintro w' ⟨s0, s1, s2, s3⟩
                   go_simp
                   with_reducible rfl
                  rotate_left
                  ·
                   simp only [Act.put, y0, y1]
                   rfl
                  refine pure_ (i := 19) (N := some 117) (v := ?_) (a' := ?_) #[true, true, true, true, true, true, true, true, true, true, true, true, true, true, true, true, true, true, true, true, false, false] rfl rfl (any_of HT_.out (by kernel_rfl)) (fun _ _ _ h => h) (Or.inl ⟨by rfl, ?_⟩) ?_ ?_
                  rotate_left
                  ·
                   intro w'
                   go_simp
                   with_reducible rfl
                  rotate_left
                  ·
                   simp only [Act.put, y0, y1]
                   rfl
                  refine pure_ (i := 20) (N := some 118) (v := ?_) (a' := ?_) #[true, true, true, true, true, true, true, true, true, true, true, true, true, true, true, true, true, true, true, true, true, false] rfl rfl (any_of HT_.out (by kernel_rfl)) (fun _ _ _ h => h) (Or.inl ⟨by rfl, ?_⟩) ?_ ?_
                  rotate_left
                  ·
                   intro w'
                   go_simp
                   with_reducible rfl
                  rotate_left
                  ·
                   simp only [Act.put, y0, y1]
                   rfl
                  refine pure_ (i := 21) (N := some 119) (v := ?_) (a' := ?_) #[true, true, true, true, true, true, true, true, true, true, true, true, true, true, true, true, true, true, true, true, true, true] rfl rfl (any_of HT_.out (by kernel_rfl)) (fun _ _ _ h => h) (Or.inl ⟨by rfl, ?_⟩) ?_ ?_
                  rotate_left
                  ·
                   intro w'
                   go_simp
                   with_reducible rfl
                  rotate_left
                  ·
                   simp only [Act.put, y0, y1]
                   rfl
                  refine done_ (done_of HT_.out (by kernel_rfl)) ?_
                  try go_wp2
                  go_roundg k4
                  case measure => have := HK1.out; have := HJ14.out; have := HJ36.out; have := HK4.out; omega
                  case rel => exact ⟨(wrap64 (x95_4 + 1)), (by first | rfl | (simp; done) | (simp [*]; done)), H', ⟨by have := HK1.out; have := HJ14.out; have := HJ36.out; have := HK4.out; omega⟩, ⟨by (with_reducible repeat apply y2); exact HO_7.out⟩, ⟨by (with_reducible repeat apply y2); exact HO_11.out⟩, ⟨by (with_reducible repeat refine y4 ?_); exact BK126.out⟩, ⟨by (with_reducible repeat refine y4 ?_); exact BK127.out⟩, ⟨by repeat (first | (with_reducible first | exact HB.out | apply y3 | refine ys ?_ GE126.out | refine ys ?_ GE127.out) | exact HB.out)⟩⟩
                 as_aux_lemma =>
                 rw [if_neg c49] at H
                 exact absurd H (by simp)
                as_aux_lemma =>
                rw [if_neg c48] at H
                exact absurd H (by simp)
               as_aux_lemma =>
               rw [if_neg c47] at H
               exact absurd H (by simp)
              as_aux_lemma =>
              rw [if_neg c46] at H
              have c46b0 : decide (x95_4 < (t130.length : Int)) = false := decide_eq_false c46
              clear c46
              have HC54 := ym H
              clear H
              go_upto_region 20 with (fail)
              go_cut [137] (fun v137 wc => ∃ (kq : Nat) (x137_53 : Bool), v137 = .bool x137_53 ∧ Aside0 (heraldlaw08_VecBatches.j4 kq (rd_L2 l0_2 x22_1) t130 l0_2 (l0_2.length : Int) x22_1 x137_53 l0_0 a0_1 l0_2 l1_0 a1_1 l1_2 = some r) ∧ Aside0 (kq ≤ k4) ∧ Aside0 (Kd.R (Kd.int .i64) 2 wc w.heap.size (fun _ => True) (.slice Ao45 t130.length co45) t130) ∧ Aside0 (wc.heap[gb126]? = some (.cells #[(.slice A0_0 l0_0.length c0_0), .int .i64 a0_1, (.slice (some ad129) l0_2.length c0_2)] 25 (0, 0))) ∧ Aside0 (wc.heap[gb127]? = some (.cells #[(.slice A1_0 l1_0.length c1_0), .int .i64 a1_1, (.slice A1_2 l1_2.length c1_2)] 25 (0, 0))) ∧ Aside0 (Below w.heap.size w wc))
              case first =>
               have H := HC54.out
               clear HC54
               by_cases c55 : a0_1 = 0
               ·
                as_aux_lemma =>
                rw [if_pos c55] at H
                exact absurd H (by simp)
               as_aux_lemma =>
               rw [if_neg c55] at H
               have c55b0 : (a0_1 == 0) = false := beq_eq_false_iff_ne.mpr c55
               have c55b1 : (a0_1 != 0) = true := bne_iff_ne.mpr c55
               (first | rw [c55b0] | (simp only [i64_w, i32_w]; rw [c55b0]) | skip)
               by_cases c56 : ((l1_0.length : Int) % a0_1) = 0
               ·
                as_aux_lemma =>
                rw [if_pos c56] at H
                have c56b0 : (((l1_0.length : Int) % a0_1) == 0) = true := beq_iff_eq.mpr c56
                have c56b1 : (((l1_0.length : Int) % a0_1) != 0) = false := bne_eq_false_iff_eq.mpr c56
                clear c56
                have H' := ym H
                clear H
                have hnb57 := NB127_126.out
                have hnc57 := NB126_127.out
                have hcz58_0 : wr.cell? ⟨gb127, 0, none⟩ = some (.slice A1_0 l1_0.length c1_0) := (yw BK127.out 0).trans rfl
                have hcz58_1 : wr.cell? ⟨gb127, 1, none⟩ = some (.int .i64 a1_1) := (yw BK127.out 1).trans rfl
                have hcz58_2 : wr.cell? ⟨gb127, 2, none⟩ = some (.slice A1_2 l1_2.length c1_2) := (yw BK127.out 2).trans rfl
                have hfz58_0 := yv BK127.out 0
                have hfz58_1 := yv BK127.out 1
                have hfz58_2 := yv BK127.out 2
                have hcz59_0 : wr.cell? ⟨gb126, 0, none⟩ = some (.slice A0_0 l0_0.length c0_0) := (yw BK126.out 0).trans rfl
                have hcz59_1 : wr.cell? ⟨gb126, 1, none⟩ = some (.int .i64 a0_1) := (yw BK126.out 1).trans rfl
                have hcz59_2 : wr.cell? ⟨gb126, 2, none⟩ = some (.slice (some ad129) l0_2.length c0_2) := (yw BK126.out 2).trans rfl
                have hfz59_0 := yv BK126.out 0
                have hfz59_1 := yv BK126.out 1
                have hfz59_2 := yv BK126.out 2
                go_wp2
                go_meet
                case rel => exact ⟨_, (decide ((wrap64 ((l0_0.length : Int) + (l1_0.length : Int))) > 1048576)), (by first | rfl | (simp; done) | (simp [*]; done)), H', ⟨by have := HK1.out; have := HJ14.out; have := HJ36.out; have := HK4.out; first | omega | exact Nat.le_refl _⟩, ⟨by (with_reducible repeat apply y2); exact Kd.R_mono HO_7.out (fun _ hk => trivial)⟩, ⟨by (with_reducible repeat refine y4 ?_); exact BK126.out⟩, ⟨by (with_reducible repeat refine y4 ?_); exact BK127.out⟩, ⟨by repeat (first | (with_reducible first | exact HB.out | apply y3 | refine ys ?_ GE126.out | refine ys ?_ GE127.out) | exact HB.out)⟩⟩
               as_aux_lemma =>
               rw [if_neg c56] at H
               have c56b0 : (((l1_0.length : Int) % a0_1) == 0) = false := beq_eq_false_iff_ne.mpr c56
               have c56b1 : (((l1_0.length : Int) % a0_1) != 0) = true := bne_iff_ne.mpr c56
               have H' := ym H
               clear H
               have hnb60 := NB127_126.out
               have hnc60 := NB126_127.out
               have hcz61_0 : wr.cell? ⟨gb127, 0, none⟩ = some (.slice A1_0 l1_0.length c1_0) := (yw BK127.out 0).trans rfl
               have hcz61_1 : wr.cell? ⟨gb127, 1, none⟩ = some (.int .i64 a1_1) := (yw BK127.out 1).trans rfl
               have hcz61_2 : wr.cell? ⟨gb127, 2, none⟩ = some (.slice A1_2 l1_2.length c1_2) := (yw BK127.out 2).trans rfl
               have hfz61_0 := yv BK127.out 0
               have hfz61_1 := yv BK127.out 1
               have hfz61_2 := yv BK127.out 2
               have hcz62_0 : wr.cell? ⟨gb126, 0, none⟩ = some (.slice A0_0 l0_0.length c0_0) := (yw BK126.out 0).trans rfl
               have hcz62_1 : wr.cell? ⟨gb126, 1, none⟩ = some (.int .i64 a0_1) := (yw BK126.out 1).trans rfl
               have hcz62_2 : wr.cell? ⟨gb126, 2, none⟩ = some (.slice (some ad129) l0_2.length c0_2) := (yw BK126.out 2).trans rfl
               have hfz62_0 := yv BK126.out 0
               have hfz62_1 := yv BK126.out 1
               have hfz62_2 := yv BK126.out 2
               go_wp2
               go_meet
               case rel => exact ⟨_, (true), (by first | rfl | (simp; done) | (simp [*]; done)), H', ⟨by have := HK1.out; have := HJ14.out; have := HJ36.out; have := HK4.out; first | omega | exact Nat.le_refl _⟩, ⟨by (with_reducible repeat apply y2); exact Kd.R_mono HO_7.out (fun _ hk => trivial)⟩, ⟨by (with_reducible repeat refine y4 ?_); exact BK126.out⟩, ⟨by (with_reducible repeat refine y4 ?_); exact BK127.out⟩, ⟨by repeat (first | (with_reducible first | exact HB.out | apply y3 | refine ys ?_ GE126.out | refine ys ?_ GE127.out) | exact HB.out)⟩⟩
              case rest =>
               clear HC54
               try clear c1
               try clear p1
               try clear q1
               try clear hx1
               try clear qi1
               try clear c2
               try clear p2
               try clear c3
               try clear c4
               try clear c5
               try clear c6
               try clear p6
               try clear c8
               try clear c10
               try clear c10b0
               try clear c11
               try clear c11b0
               try clear c12
               try clear c12b0
               try clear p12
               try clear q12
               try clear hx12
               try clear c13
               try clear p13
               try clear q13
               try clear hx13
               try clear qi13
               try clear c14
               try clear p14
               try clear q14
               try clear hx14
               try clear qi14
               try clear c15
               try clear c16
               try clear c21
               try clear c21b0
               try clear c21b1
               try clear c22
               try clear c22b0
               try clear c22b1
               try clear c23
               try clear c23b0
               try clear c23b1
               try clear c24
               try clear c24b0
               try clear c24b1
               try clear c25
               try clear c26
               try clear c27
               try clear c27b0
               try clear c27b1
               try clear c34
               try clear c35
               try clear c35b0
               try clear c35b1
               try clear c38
               try clear c41
               try clear c41b0
               try clear c41b1
               try clear c44
               try clear c46
               try clear c46b0
               try clear c47
               try clear c47b0
               try clear c48
               try clear c48b0
               try clear c49
               try clear c49b0
               try clear c50
               try clear c50b0
               try clear c51
               try clear c51b0
               try clear c55
               try clear c55b0
               try clear c55b1
               try clear c56
               try clear c56b0
               try clear c56b1
               try clear c57
               try clear c60
               try clear hcz17_0
               try clear hcz17_1
               try clear hcz17_2
               try clear hcz19_0
               try clear hcz19_1
               try clear hcz19_2
               try clear hcz39_0
               try clear hcz39_1
               try clear hcz39_2
               try clear hcz58_0
               try clear hcz58_1
               try clear hcz58_2
               try clear hcz59_0
               try clear hcz59_1
               try clear hcz59_2
               try clear hcz61_0
               try clear hcz61_1
               try clear hcz61_2
               try clear hcz62_0
               try clear hcz62_1
               try clear hcz62_2
               try clear hcz9_0
               try clear hcz9_1
               try clear hcz9_2
               try clear hfz17_0
               try clear hfz17_1
               try clear hfz17_2
               try clear hfz19_0
               try clear hfz19_1
               try clear hfz19_2
               try clear hfz39_0
               try clear hfz39_1
               try clear hfz39_2
               try clear hfz58_0
               try clear hfz58_1
               try clear hfz58_2
               try clear hfz59_0
               try clear hfz59_1
               try clear hfz59_2
               try clear hfz61_0
               try clear hfz61_1
               try clear hfz61_2
               try clear hfz62_0
               try clear hfz62_1
               try clear hfz62_2
               try clear hfz9_0
               try clear hfz9_1
               try clear hfz9_2
               try clear hx129_0
               try clear hx138_0
               try clear hx140_0
               try clear hx146_0
               try clear hx147_0
               try clear hx148_0
               try clear hx149_0
               try clear p1
               try clear p12
               try clear p129
               try clear p13
               try clear p138
               try clear p14
               try clear p140
               try clear p146
               try clear p147
               try clear p148
               try clear p149
               try clear p2
               try clear p6
               try clear q1
               try clear q12
               try clear q129
               try clear q13
               try clear q138
               try clear q14
               try clear q140
               try clear q146
               try clear q147
               try clear q148
               try clear q149
               obtain ⟨kq, x137_53, rfl, HA, HJ53, HO_7, BK126, BK127, HB⟩ := hcut
               cases kq with
               | zero => exact absurd HA.out (by simp [heraldlaw08_VecBatches.j4])
               | succ kj53 =>
                have H := HA.out
                clear HA
                simp only [heraldlaw08_VecBatches.j4] at H
                by_cases c63 : x137_53 = true
                ·
                 as_aux_lemma =>
                 subst c63
                 have H1 : (heraldlaw08_VecBatches.l0 kj53 l0_2 (l0_2.length : Int) (wrap64 (x22_1 + 1)) l0_0 a0_1 l0_2 l1_0 a1_1 l1_2) = some r := by rw [if_pos rfl] at H; exact H
                 clear H
                 have H := H1
                 clear H1
                 have H' := ym H
                 clear H
                 go_wp2
                 go_roundg kj53
                 case measure => have := HK1.out; have := HJ14.out; have := HJ36.out; have := HK4.out; have := HJ53.out; omega
                 case rel => exact ⟨(wrap64 (x22_1 + 1)), (by first | rfl | (simp; done) | (simp [*]; done)), H', ⟨by have := HK1.out; have := HJ14.out; have := HJ36.out; have := HK4.out; have := HJ53.out; omega⟩, ⟨by (with_reducible repeat refine y4 ?_); exact BK126.out⟩, ⟨by (with_reducible repeat refine y4 ?_); exact BK127.out⟩, ⟨by repeat (first | (with_reducible first | exact HB.out | apply y3 | refine ys ?_ GE126.out | refine ys ?_ GE127.out) | exact HB.out)⟩⟩
                as_aux_lemma =>
                replace c63 := Bool.eq_false_iff.mpr c63
                subst c63
                have H1 : ((vec_Times.f kj53 l1_0 a0_1 (rd_L2 l0_2 x22_1)).bind fun bt150 => ((some (([] : List Int) : List Int)).bind fun y154 => (if y154.length + l0_0.length < 140737488355328 then ((some (y154 ++ l0_0 : List Int)).bind fun y157 => (if y157.length + l1_0.length < 140737488355328 then ((vec_Times.f kj53 (y157 ++ l1_0) a0_1 (rd_L2 l0_2 x22_1)).bind fun bt163 => (if bt150.2 = 0 then (if bt163.2 = 0 then ((some (([] : List Int) : List Int)).bind fun y167 => (if y167.length + t130.length < 17592186044416 then ((some (y167 ++ t130 : List Int)).bind fun y170 => (if y170.length + bt150.1.length < 17592186044416 then ((heraldlaw08_same_int64.f kj53 bt163.1 (y170 ++ bt150.1)).bind fun t176 => (if t176 = true then (heraldlaw08_VecBatches.l0 kj53 l0_2 (l0_2.length : Int) (wrap64 (x22_1 + 1)) l0_0 a0_1 l0_2 l1_0 a1_1 l1_2) else (none))) else (none))) else (none))) else (none)) else (none))) else (none))) else (none)))) = some r := by rw [if_neg (show ¬ (false = true) by decide)] at H; exact H
                clear H
                have H := H1
                clear H1
                replace H := Option.bind_eq_some_iff.mp H
                obtain ⟨⟨t150, t151⟩, A640, H⟩ := H
                replace H : ((some (([] : List Int) : List Int)).bind fun y154 => (if y154.length + l0_0.length < 140737488355328 then ((some (y154 ++ l0_0 : List Int)).bind fun y157 => (if y157.length + l1_0.length < 140737488355328 then ((vec_Times.f kj53 (y157 ++ l1_0) a0_1 (rd_L2 l0_2 x22_1)).bind fun bt163 => (if t151 = 0 then (if bt163.2 = 0 then ((some (([] : List Int) : List Int)).bind fun y167 => (if y167.length + t130.length < 17592186044416 then ((some (y167 ++ t130 : List Int)).bind fun y170 => (if y170.length + t150.length < 17592186044416 then ((heraldlaw08_same_int64.f kj53 bt163.1 (y170 ++ t150)).bind fun t176 => (if t176 = true then (heraldlaw08_VecBatches.l0 kj53 l0_2 (l0_2.length : Int) (wrap64 (x22_1 + 1)) l0_0 a0_1 l0_2 l1_0 a1_1 l1_2) else (none))) else (none))) else (none))) else (none)) else (none))) else (none))) else (none))) = some r := H
                have A64 := ym A640
                clear A640
                obtain ⟨y154, hy154⟩ : ∃ y_ : List Int, y_ = (([] : List Int)) := ⟨_, rfl⟩
                replace H : (if y154.length + l0_0.length < 140737488355328 then ((some (y154 ++ l0_0 : List Int)).bind fun y157 => (if y157.length + l1_0.length < 140737488355328 then ((vec_Times.f kj53 (y157 ++ l1_0) a0_1 (rd_L2 l0_2 x22_1)).bind fun bt163 => (if t151 = 0 then (if bt163.2 = 0 then ((some (([] : List Int) : List Int)).bind fun y167 => (if y167.length + t130.length < 17592186044416 then ((some (y167 ++ t130 : List Int)).bind fun y170 => (if y170.length + t150.length < 17592186044416 then ((heraldlaw08_same_int64.f kj53 bt163.1 (y170 ++ t150)).bind fun t176 => (if t176 = true then (heraldlaw08_VecBatches.l0 kj53 l0_2 (l0_2.length : Int) (wrap64 (x22_1 + 1)) l0_0 a0_1 l0_2 l1_0 a1_1 l1_2) else (none))) else (none))) else (none))) else (none)) else (none))) else (none))) else (none)) = some r := by first | (rw [hy154]; with_reducible exact H) | (have H2_ := (Option.bind_some _ _).symm.trans H; rw [hy154]; with_reducible exact H2_) | (have H2_ := (Option.bind_some _ _).symm.trans H; with_reducible exact H2_) | with_reducible exact H | (rw [hy154]; exact H) | exact H
                have Ny154 := ym hy154
                clear hy154
                by_cases c65 : y154.length + l0_0.length < 140737488355328
                ·
                 as_aux_lemma =>
                 rw [if_pos c65] at H
                 have LMc65 := ym c65
                 clear c65
                 obtain ⟨y157, hy157⟩ : ∃ y_ : List Int, y_ = (y154 ++ l0_0) := ⟨_, rfl⟩
                 replace H : (if y157.length + l1_0.length < 140737488355328 then ((vec_Times.f kj53 (y157 ++ l1_0) a0_1 (rd_L2 l0_2 x22_1)).bind fun bt163 => (if t151 = 0 then (if bt163.2 = 0 then ((some (([] : List Int) : List Int)).bind fun y167 => (if y167.length + t130.length < 17592186044416 then ((some (y167 ++ t130 : List Int)).bind fun y170 => (if y170.length + t150.length < 17592186044416 then ((heraldlaw08_same_int64.f kj53 bt163.1 (y170 ++ t150)).bind fun t176 => (if t176 = true then (heraldlaw08_VecBatches.l0 kj53 l0_2 (l0_2.length : Int) (wrap64 (x22_1 + 1)) l0_0 a0_1 l0_2 l1_0 a1_1 l1_2) else (none))) else (none))) else (none))) else (none)) else (none))) else (none)) = some r := by first | (rw [hy157]; with_reducible exact H) | (have H2_ := (Option.bind_some _ _).symm.trans H; rw [hy157]; with_reducible exact H2_) | (have H2_ := (Option.bind_some _ _).symm.trans H; with_reducible exact H2_) | with_reducible exact H | (rw [hy157]; exact H) | exact H
                 have Ny157 := ym hy157
                 clear hy157
                 by_cases c66 : y157.length + l1_0.length < 140737488355328
                 ·
                  as_aux_lemma =>
                  rw [if_pos c66] at H
                  have LMc66 := ym c66
                  clear c66
                  obtain ⟨y160, hy160⟩ : ∃ y_ : List Int, y_ = (y157 ++ l1_0) := ⟨_, rfl⟩
                  replace H : ((vec_Times.f kj53 y160 a0_1 (rd_L2 l0_2 x22_1)).bind fun bt163 => (if t151 = 0 then (if bt163.2 = 0 then ((some (([] : List Int) : List Int)).bind fun y167 => (if y167.length + t130.length < 17592186044416 then ((some (y167 ++ t130 : List Int)).bind fun y170 => (if y170.length + t150.length < 17592186044416 then ((heraldlaw08_same_int64.f kj53 bt163.1 (y170 ++ t150)).bind fun t176 => (if t176 = true then (heraldlaw08_VecBatches.l0 kj53 l0_2 (l0_2.length : Int) (wrap64 (x22_1 + 1)) l0_0 a0_1 l0_2 l1_0 a1_1 l1_2) else (none))) else (none))) else (none))) else (none)) else (none))) = some r := by first | (rw [hy160]; with_reducible exact H) | (have H2_ := (Option.bind_some _ _).symm.trans H; rw [hy160]; with_reducible exact H2_) | (have H2_ := (Option.bind_some _ _).symm.trans H; with_reducible exact H2_) | with_reducible exact H | (rw [hy160]; exact H) | exact H
                  have Ny160 := ym hy160
                  clear hy160
                  replace H := Option.bind_eq_some_iff.mp H
                  obtain ⟨⟨t163, t164⟩, A670, H⟩ := H
                  replace H : (if t151 = 0 then (if t164 = 0 then ((some (([] : List Int) : List Int)).bind fun y167 => (if y167.length + t130.length < 17592186044416 then ((some (y167 ++ t130 : List Int)).bind fun y170 => (if y170.length + t150.length < 17592186044416 then ((heraldlaw08_same_int64.f kj53 t163 (y170 ++ t150)).bind fun t176 => (if t176 = true then (heraldlaw08_VecBatches.l0 kj53 l0_2 (l0_2.length : Int) (wrap64 (x22_1 + 1)) l0_0 a0_1 l0_2 l1_0 a1_1 l1_2) else (none))) else (none))) else (none))) else (none)) else (none)) = some r := H
                  have A67 := ym A670
                  clear A670
                  by_cases c68 : t151 = 0
                  ·
                   as_aux_lemma =>
                   rw [if_pos c68] at H
                   have c68b0 : (t151 == 0) = true := beq_iff_eq.mpr c68
                   have c68b1 : (t151 != 0) = false := bne_eq_false_iff_eq.mpr c68
                   clear c68
                   by_cases c69 : t164 = 0
                   ·
                    as_aux_lemma =>
                    rw [if_pos c69] at H
                    have c69b0 : (t164 == 0) = true := beq_iff_eq.mpr c69
                    have c69b1 : (t164 != 0) = false := bne_eq_false_iff_eq.mpr c69
                    clear c69
                    obtain ⟨y167, hy167⟩ : ∃ y_ : List Int, y_ = (([] : List Int)) := ⟨_, rfl⟩
                    replace H : (if y167.length + t130.length < 17592186044416 then ((some (y167 ++ t130 : List Int)).bind fun y170 => (if y170.length + t150.length < 17592186044416 then ((heraldlaw08_same_int64.f kj53 t163 (y170 ++ t150)).bind fun t176 => (if t176 = true then (heraldlaw08_VecBatches.l0 kj53 l0_2 (l0_2.length : Int) (wrap64 (x22_1 + 1)) l0_0 a0_1 l0_2 l1_0 a1_1 l1_2) else (none))) else (none))) else (none)) = some r := by first | (rw [hy167]; with_reducible exact H) | (have H2_ := (Option.bind_some _ _).symm.trans H; rw [hy167]; with_reducible exact H2_) | (have H2_ := (Option.bind_some _ _).symm.trans H; with_reducible exact H2_) | with_reducible exact H | (rw [hy167]; exact H) | exact H
                    have Ny167 := ym hy167
                    clear hy167
                    by_cases c70 : y167.length + t130.length < 17592186044416
                    ·
                     as_aux_lemma =>
                     rw [if_pos c70] at H
                     have LMc70 := ym c70
                     clear c70
                     obtain ⟨y170, hy170⟩ : ∃ y_ : List Int, y_ = (y167 ++ t130) := ⟨_, rfl⟩
                     replace H : (if y170.length + t150.length < 17592186044416 then ((heraldlaw08_same_int64.f kj53 t163 (y170 ++ t150)).bind fun t176 => (if t176 = true then (heraldlaw08_VecBatches.l0 kj53 l0_2 (l0_2.length : Int) (wrap64 (x22_1 + 1)) l0_0 a0_1 l0_2 l1_0 a1_1 l1_2) else (none))) else (none)) = some r := by first | (rw [hy170]; with_reducible exact H) | (have H2_ := (Option.bind_some _ _).symm.trans H; rw [hy170]; with_reducible exact H2_) | (have H2_ := (Option.bind_some _ _).symm.trans H; with_reducible exact H2_) | with_reducible exact H | (rw [hy170]; exact H) | exact H
                     have Ny170 := ym hy170
                     clear hy170
                     by_cases c71 : y170.length + t150.length < 17592186044416
                     ·
                      as_aux_lemma =>
                      rw [if_pos c71] at H
                      have LMc71 := ym c71
                      clear c71
                      obtain ⟨y173, hy173⟩ : ∃ y_ : List Int, y_ = (y170 ++ t150) := ⟨_, rfl⟩
                      replace H : ((heraldlaw08_same_int64.f kj53 t163 y173).bind fun t176 => (if t176 = true then (heraldlaw08_VecBatches.l0 kj53 l0_2 (l0_2.length : Int) (wrap64 (x22_1 + 1)) l0_0 a0_1 l0_2 l1_0 a1_1 l1_2) else (none))) = some r := by first | (rw [hy173]; with_reducible exact H) | (have H2_ := (Option.bind_some _ _).symm.trans H; rw [hy173]; with_reducible exact H2_) | (have H2_ := (Option.bind_some _ _).symm.trans H; with_reducible exact H2_) | with_reducible exact H | (rw [hy173]; exact H) | exact H
                      have Ny173 := ym hy173
                      clear hy173
                      replace H := Option.bind_eq_some_iff.mp H
                      obtain ⟨t176, A720, H⟩ := H
                      replace H : (if t176 = true then (heraldlaw08_VecBatches.l0 kj53 l0_2 (l0_2.length : Int) (wrap64 (x22_1 + 1)) l0_0 a0_1 l0_2 l1_0 a1_1 l1_2) else (none)) = some r := H
                      have A72 := ym A720
                      clear A720
                      by_cases c73 : t176 = true
                      ·
                       as_aux_lemma =>
                       subst c73
                       have H1 : (heraldlaw08_VecBatches.l0 kj53 l0_2 (l0_2.length : Int) (wrap64 (x22_1 + 1)) l0_0 a0_1 l0_2 l1_0 a1_1 l1_2) = some r := by rw [if_pos rfl] at H; exact H
                       clear H
                       have H := H1
                       clear H1
                       have H' := ym H
                       clear H
                       have hnb74 := NB127_126.out
                       have hnc74 := NB126_127.out
                       have hcz75_0 : wc.cell? ⟨gb127, 0, none⟩ = some (.slice A1_0 l1_0.length c1_0) := (yw BK127.out 0).trans rfl
                       have hcz75_1 : wc.cell? ⟨gb127, 1, none⟩ = some (.int .i64 a1_1) := (yw BK127.out 1).trans rfl
                       have hcz75_2 : wc.cell? ⟨gb127, 2, none⟩ = some (.slice A1_2 l1_2.length c1_2) := (yw BK127.out 2).trans rfl
                       have hfz75_0 := yv BK127.out 0
                       have hfz75_1 := yv BK127.out 1
                       have hfz75_2 := yv BK127.out 2
                       have hcz76_0 : wc.cell? ⟨gb126, 0, none⟩ = some (.slice A0_0 l0_0.length c0_0) := (yw BK126.out 0).trans rfl
                       have hcz76_1 : wc.cell? ⟨gb126, 1, none⟩ = some (.int .i64 a0_1) := (yw BK126.out 1).trans rfl
                       have hcz76_2 : wc.cell? ⟨gb126, 2, none⟩ = some (.slice (some ad129) l0_2.length c0_2) := (yw BK126.out 2).trans rfl
                       have hfz76_0 := yv BK126.out 0
                       have hfz76_1 := yv BK126.out 1
                       have hfz76_2 := yv BK126.out 2
                       try go_wp2_with (first | ((with_reducible refine gate_callee (f := 15) rfl ?_); refine goesL_ (some 144) rfl rfl Try.func15 (by kernel_rfl) rfl #[.slice A1_0 l1_0.length c1_0, .int .i64 a0_1, .slice A129_0 (rd_L2 l0_2 x22_1).length c129_0] rfl (by (try simp only [List.map_toArray, List.map_cons, List.map_nil]); first | done | rfl | (simp only [List.length_drop, List.length_take]; rfl)) ?_; (with_reducible refine (vec_Times.calls kj53 _ _ l1_0 a0_1 _ _ (rd_L2 l0_2 x22_1) t150 t151 _ ?side1 ?side2 ?side3 ?side4 A64.out).mono ?_); (case side1 => repeat (first | exact (Kd.C_below HR1_0.out HB.out) | (with_reducible refine yi ?_ _) | (with_reducible refine yj ?_ _) | (with_reducible refine yk ?_))); (case side2 => exact HC1_0.out); (case side3 => repeat (first | exact (Kd.C_below HR129_0.out HB.out) | (with_reducible refine yi ?_ _) | (with_reducible refine yj ?_ _) | (with_reducible refine yk ?_))); (case side4 => exact HC129_0.out); rintro e w77 ⟨v152, rfl, ho0, hb⟩; refine ⟨_, rfl, ?_⟩; have n0_ := ym (Kd.R_elder' (by (with_reducible repeat apply y2); exact HO_7.out) (Kd.R_base ho0) hb); have n1_ := ym (yo (Kd.R_new' ho0 (Kd.R_lt (by (with_reducible repeat apply y2); exact HO_7.out))) (below_size (by repeat (first | (with_reducible first | exact HB.out | apply y3 | refine ys ?_ GE126.out | refine ys ?_ GE127.out) | exact HB.out)))); have n2_ := ym (yq (g := gb126) (o := .cells #[.slice A0_0 l0_0.length c0_0, .int .i64 a0_1, .slice (some ad129) l0_2.length c0_2] 25 (0, 0)) (by (with_reducible repeat refine y4 ?_); exact BK126.out) hb); have n3_ := ym (yq (g := gb127) (o := .cells #[.slice A1_0 l1_0.length c1_0, .int .i64 a1_1, .slice A1_2 l1_2.length c1_2] 25 (0, 0)) (by (with_reducible repeat refine y4 ?_); exact BK127.out) hb); have n4_ := ym (yn (by repeat (first | (with_reducible first | exact HB.out | apply y3 | refine ys ?_ GE126.out | refine ys ?_ GE127.out) | exact HB.out)) hb); clear HO_7; clear BK126; clear BK127; clear HB; have HO_7 := n0_; have HO153 := n1_; have BK126 := n2_; have BK127 := n3_; have HB := n4_; clear n0_ n1_ n2_ n3_ n4_; (try clear hb); (try clear hb2); (try clear hk); (try clear hi); (try clear ho0)))
                       have n0_ := ym (yh HO_7.out)
                       have n1_ := ym (yh HO153.out)
                       have n2_ := ym (yt BK126.out)
                       have n3_ := ym (yt BK127.out)
                       have n4_ := ym (ye HB.out)
                       clear HO_7
                       clear HO153
                       clear BK126
                       clear BK127
                       clear HB
                       have HO_7 := n0_
                       have HO153 := n1_
                       have BK126 := n2_
                       have BK127 := n3_
                       have HB := n4_
                       clear n0_ n1_ n2_ n3_ n4_
                       refine start_ (n := 16) (S := fun w' => w'.cell? ⟨gb126, 0, none⟩ = some (.slice A0_0 l0_0.length c0_0) ∧ w'.cell? ⟨gb126, 1, none⟩ = some (.int .i64 a0_1) ∧ w'.cell? ⟨gb126, 2, none⟩ = some (.slice (some ad129) l0_2.length c0_2) ∧ w'.cell? ⟨gb127, 0, none⟩ = some (.slice A1_0 l1_0.length c1_0) ∧ w'.cell? ⟨gb127, 1, none⟩ = some (.int .i64 a1_1) ∧ w'.cell? ⟨gb127, 2, none⟩ = some (.slice A1_2 l1_2.length c1_2)) (ds := []) #[false, false, false, false, false, false, false, false, false, false, false, false, false, false, false, false] (by kernel_rfl) rfl rfl ⟨(yw BK126.out 0).trans rfl, (yw BK126.out 1).trans rfl, (yw BK126.out 2).trans rfl, (yw BK127.out 0).trans rfl, (yw BK127.out 1).trans rfl, (yw BK127.out 2).trans rfl⟩ (fun hHeld => ?_); refine with_tabW heraldlaw08_VecBatches.tab22 heraldlaw08_VecBatches.bits22 (fun HT_ HW_ => ?_)
                       generalize w77.drew = w78 at HO_7 HO153 BK126 BK127 HB hHeld ⊢
                       refine pure_ (i := 1) (N := some 149) (v := ?_) (a' := ?_) #[false, true, false, false, false, false, false, false, false, false, false, false, false, false, false, false] rfl rfl (any_of HT_.out (by kernel_rfl)) (fun _ _ _ h => h) (Or.inl ⟨by rfl, ?_⟩) ?_ ?_
                       rotate_left
                       ·
                        intro w'
                        go_simp
                        with_reducible rfl
                       rotate_left
                       ·
                        simp only [Act.put, y0, y1]
                        rfl
                       refine pure_ (i := 4) (N := some 152) (v := ?_) (a' := ?_) #[false, true, false, false, true, false, false, false, false, false, false, false, false, false, false, false] rfl rfl (any_of HT_.out (by kernel_rfl)) (fun _ _ _ h => h) (Or.inl ⟨by rfl, ?_⟩) ?_ ?_
                       rotate_left
                       ·
                        intro w'
                        go_simp
                        with_reducible rfl
                       rotate_left
                       ·
                        simp only [Act.put, y0, y1]
                        rfl
                       refine pure_ (i := 7) (N := some 155) (v := ?_) (a' := ?_) #[false, true, false, false, true, false, false, true, false, false, false, false, false, false, false, false] rfl rfl (any_of HT_.out (by kernel_rfl)) (fun _ _ _ h => h) (Or.inl ⟨by rfl, ?_⟩) ?_ ?_
                       rotate_left
                       ·
                        intro w'
                        go_simp
                        with_reducible rfl
                       rotate_left
                       ·
                        simp only [Act.put, y0, y1]
                        rfl
                       refine pure_ (i := 9) (N := some 157) (v := ?_) (a' := ?_) #[false, true, false, false, true, false, false, true, false, true, false, false, false, false, false, false] rfl rfl (any_of HT_.out (by kernel_rfl)) (fun _ _ _ h => h) (Or.inl ⟨by rfl, ?_⟩) ?_ ?_
                       rotate_left
                       ·
                        intro w'
                        go_simp
                        with_reducible rfl
                       rotate_left
                       ·
                        simp only [Act.put, y0, y1]
                        rfl
                       refine take_ (i := 2) (N := some 150) (v := ?_) (a' := ?_) #[false, true, true, false, true, false, false, true, false, true, false, false, false, false, false, false] rfl rfl (take_ofW HT_.out HW_.out (by kernel_rfl)) (fun _ _ _ h => h) (Or.inl ⟨by rfl, ?_⟩) hHeld ?_ ?_
                       rotate_left
                       ·
                        rintro w' ⟨s0, s1, s2, s3, s4, s5⟩
                        go_simp
                        with_reducible rfl
                       rotate_left
                       ·
                        simp only [Act.put, y0, y1]
                        rfl
                       refine take_ (i := 5) (N := some 153) (v := ?_) (a' := ?_) #[false, true, true, false, true, true, false, true, false, true, false, false, false, false, false, false] rfl rfl (take_ofW HT_.out HW_.out (by kernel_rfl)) (fun _ _ _ h => h) (Or.inl ⟨by rfl, ?_⟩) hHeld ?_ ?_
                       rotate_left
                       ·
                        rintro w' ⟨s0, s1, s2, s3, s4, s5⟩
                        go_simp
                        with_reducible rfl
                       rotate_left
                       ·
                        simp only [Act.put, y0, y1]
                        rfl
                       refine take_ (i := 8) (N := some 156) (v := ?_) (a' := ?_) #[false, true, true, false, true, true, false, true, true, true, false, false, false, false, false, false] rfl rfl (take_ofW HT_.out HW_.out (by kernel_rfl)) (fun _ _ _ h => h) (Or.inl ⟨by rfl, ?_⟩) hHeld ?_ ?_
                       rotate_left
                       ·
                        rintro w' ⟨s0, s1, s2, s3, s4, s5⟩
                        go_simp
                        with_reducible rfl
                       rotate_left
                       ·
                        simp only [Act.put, y0, y1]
                        rfl
                       refine one_ (i := 0) (N := some 148) #[true, true, true, false, true, true, false, true, true, true, false, false, false, false, false, false] rfl rfl (one_of HT_.out (by kernel_rfl)) (by decide) (fun K hK => ?_)
                       refine Kd.R_lit_step (Kd.int .i8) _ 42 ?hg (N := 148) ?hd (xs := ([] : List Int)) (inner := []) (ok := fun _ => True) (okp := fun _ => True) ?hr ?hp (fun _ hk => hk) trivial (Below.refl _ _) (Nat.le_refl _) (by simp) ?_; (case hd => rfl); (case hg => rfl); (case hr => first | (go_simp; done) | (go_simp; rfl)); (case hp => exact (Reps.none _ _))
                       intro v155 w79 ho80 hb hg_ hnew_
                       clear hg_ hnew_
                       (first | rw [← Ny154.out] at ho80 | (simp only [Int.reduceToNat] at ho80; rw [← Ny154.out] at ho80))
                       have n0_ := ym (yp (by (with_reducible repeat apply y2); exact HO_7.out) hb)
                       have n1_ := ym (yp (by (with_reducible repeat apply y2); exact HO153.out) hb)
                       have n2_ := ym (yo ho80 (below_size (by repeat (first | (with_reducible first | exact HB.out | apply y3 | refine ys ?_ GE126.out | refine ys ?_ GE127.out) | exact HB.out))))
                       have n3_ := ym (yq (g := gb126) (o := .cells #[.slice A0_0 l0_0.length c0_0, .int .i64 a0_1, .slice (some ad129) l0_2.length c0_2] 25 (0, 0)) (by (with_reducible repeat refine y4 ?_); exact BK126.out) hb)
                       have n4_ := ym (yq (g := gb127) (o := .cells #[.slice A1_0 l1_0.length c1_0, .int .i64 a1_1, .slice A1_2 l1_2.length c1_2] 25 (0, 0)) (by (with_reducible repeat refine y4 ?_); exact BK127.out) hb)
                       have n5_ := ym (yn (by repeat (first | (with_reducible first | exact HB.out | apply y3 | refine ys ?_ GE126.out | refine ys ?_ GE127.out) | exact HB.out)) hb)
                       clear HO_7
                       clear HO153
                       clear BK126
                       clear BK127
                       clear HB
                       have HO_7 := n0_
                       have HO153 := n1_
                       have HO156 := n2_
                       have BK126 := n3_
                       have BK127 := n4_
                       have HB := n5_
                       clear n0_ n1_ n2_ n3_ n4_ n5_
                       clear hb ho80
                       refine hK.out _ _ ⟨(yw BK126.out 0).trans rfl, (yw BK126.out 1).trans rfl, (yw BK126.out 2).trans rfl, (yw BK127.out 0).trans rfl, (yw BK127.out 1).trans rfl, (yw BK127.out 2).trans rfl⟩ (fun hHeld => ?_)
                       clear hK K
                       refine norm_ (a' := ?_) ?_ ?_
                       rotate_left
                       ·
                        show Act.put _ (some 148) _ = _
                        simp only [Act.put, y0, y1]
                        rfl
                       refine one_ (i := 3) (N := some 151) #[true, true, true, true, true, true, false, true, true, true, false, false, false, false, false, false] rfl rfl (one_of HT_.out (by kernel_rfl)) (by decide) (fun K hK => ?_)
                       refine Kd.R_append_rows_step (Kd.int .i8) (w0 := w) w.heap.size (by rfl) (.tmp 148) (.tmp 150) 22 42 (.int .i8 0) 1 rfl Try.underlying22 info42 rfl (by decide) (by omega) v155 y154 l0_0 _ _ _ (fun _ => True) (fun _ => False) rfl rfl ?aO ?aR (fun _ _ h => h) (fun _ h => h.elim) ?aF ?aB ?aS ?aL ?_
                       (case aR => repeat (first | exact (Kd.C_below HR0_0.out HB.out) | (with_reducible refine yi ?_ _) | (with_reducible refine yj ?_ _) | (with_reducible refine yk ?_)))
                       (case aB => exact (by repeat (first | (with_reducible first | exact HB.out | apply y3 | refine ys ?_ GE126.out | refine ys ?_ GE127.out) | exact HB.out)))
                       (case aF => exact (fun _ _ => trivial))
                       (case aO => exact (by (with_reducible repeat apply y2); exact HO156.out))
                       (case aS => exact (below_size (by repeat (first | (with_reducible first | exact HB.out | apply y3 | refine ys ?_ GE126.out | refine ys ?_ GE127.out) | exact HB.out))))
                       (case aL => have := LMc65.out; omega)
                       intro v158 w81 ho hb hg hat
                       rw [← Ny157.out] at ho
                       have n0_ := ym (Kd.R_over' (by (with_reducible repeat apply y2); exact HO_7.out) (Kd.R_typed (by (with_reducible repeat apply y2); exact HO156.out)) (by decide) hg)
                       have n1_ := ym (blk_grown (g := gb126) (o := .cells #[.slice A0_0 l0_0.length c0_0, .int .i64 a0_1, .slice (some ad129) l0_2.length c0_2] 25 (0, 0)) (by (with_reducible repeat refine y4 ?_); exact BK126.out) hg (Kd.R_ne HO156.out BK126.out (by decide)))
                       have n2_ := ym (blk_grown (g := gb127) (o := .cells #[.slice A1_0 l1_0.length c1_0, .int .i64 a1_1, .slice A1_2 l1_2.length c1_2] 25 (0, 0)) (by (with_reducible repeat refine y4 ?_); exact BK127.out) hg (Kd.R_ne HO156.out BK127.out (by decide)))
                       have n3_ := ym (Kd.R_over' (by (with_reducible repeat apply y2); exact HO153.out) (Kd.R_typed (by (with_reducible repeat apply y2); exact HO156.out)) (by decide) hg)
                       have n4_ := ym (hb)
                       have n5_ := ym (ho)
                       clear HO_7
                       clear BK126
                       clear BK127
                       clear HO153
                       clear HB
                       clear HO156
                       have HO_7 := n0_
                       have BK126 := n1_
                       have BK127 := n2_
                       have HO153 := n3_
                       have HB := n4_
                       have HO159 := n5_
                       clear n0_ n1_ n2_ n3_ n4_ n5_
                       clear ho hb hg hat
                       refine hK.out _ _ ⟨(yw BK126.out 0).trans rfl, (yw BK126.out 1).trans rfl, (yw BK126.out 2).trans rfl, (yw BK127.out 0).trans rfl, (yw BK127.out 1).trans rfl, (yw BK127.out 2).trans rfl⟩ (fun hHeld => ?_)
                       clear hK K
                       refine norm_ (a' := ?_) ?_ ?_
                       rotate_left
                       ·
                        show Act.put _ (some 151) _ = _
                        simp only [Act.put, y0, y1]
                        rfl
                       refine one_ (i := 6) (N := some 154) #[true, true, true, true, true, true, true, true, true, true, false, false, false, false, false, false] rfl rfl (one_of HT_.out (by kernel_rfl)) (by decide) (fun K hK => ?_)
                       refine Kd.R_append_rows_step (Kd.int .i8) (w0 := w) w.heap.size (by rfl) (.tmp 151) (.tmp 153) 22 42 (.int .i8 0) 1 rfl Try.underlying22 info42 rfl (by decide) (by omega) v158 y157 l1_0 _ _ _ (fun _ => True) (fun _ => False) rfl rfl ?aO ?aR (fun _ _ h => h) (fun _ h => h.elim) ?aF ?aB ?aS ?aL ?_
                       (case aR => repeat (first | exact (Kd.C_below HR1_0.out HB.out) | (with_reducible refine yi ?_ _) | (with_reducible refine yj ?_ _) | (with_reducible refine yk ?_)))
                       (case aB => exact (by repeat (first | (with_reducible first | exact HB.out | apply y3 | refine ys ?_ GE126.out | refine ys ?_ GE127.out) | exact HB.out)))
                       (case aF => exact (fun _ _ => trivial))
                       (case aO => exact (by (with_reducible repeat apply y2); exact HO159.out))
                       (case aS => exact (below_size (by repeat (first | (with_reducible first | exact HB.out | apply y3 | refine ys ?_ GE126.out | refine ys ?_ GE127.out) | exact HB.out))))
                       (case aL => have := LMc66.out; omega)
                       intro v161 w82 ho hb hg hat
                       rw [← Ny160.out] at ho
                       have n0_ := ym (Kd.R_over' (by (with_reducible repeat apply y2); exact HO_7.out) (Kd.R_typed (by (with_reducible repeat apply y2); exact HO159.out)) (by decide) hg)
                       have n1_ := ym (blk_grown (g := gb126) (o := .cells #[.slice A0_0 l0_0.length c0_0, .int .i64 a0_1, .slice (some ad129) l0_2.length c0_2] 25 (0, 0)) (by (with_reducible repeat refine y4 ?_); exact BK126.out) hg (Kd.R_ne HO159.out BK126.out (by decide)))
                       have n2_ := ym (blk_grown (g := gb127) (o := .cells #[.slice A1_0 l1_0.length c1_0, .int .i64 a1_1, .slice A1_2 l1_2.length c1_2] 25 (0, 0)) (by (with_reducible repeat refine y4 ?_); exact BK127.out) hg (Kd.R_ne HO159.out BK127.out (by decide)))
                       have n3_ := ym (Kd.R_over' (by (with_reducible repeat apply y2); exact HO153.out) (Kd.R_typed (by (with_reducible repeat apply y2); exact HO159.out)) (by decide) hg)
                       have n4_ := ym (hb)
                       have n5_ := ym (ho)
                       clear HO_7
                       clear BK126
                       clear BK127
                       clear HO153
                       clear HB
                       clear HO159
                       have HO_7 := n0_
                       have BK126 := n1_
                       have BK127 := n2_
                       have HO153 := n3_
                       have HB := n4_
                       have HO162 := n5_
                       clear n0_ n1_ n2_ n3_ n4_ n5_
                       clear ho hb hg hat
                       obtain ⟨Ao83, co83, eo83⟩ := Kd.R_slice HO162.out
                       (first | subst eo83 | (injection eo83 with f1_ f2_ f3_; have f4_ := f1_.symm; have f5_ := f3_.symm; clear f1_ f2_ f3_; subst f4_; subst f5_))
                       refine hK.out _ _ ⟨(yw BK126.out 0).trans rfl, (yw BK126.out 1).trans rfl, (yw BK126.out 2).trans rfl, (yw BK127.out 0).trans rfl, (yw BK127.out 1).trans rfl, (yw BK127.out 2).trans rfl⟩ (fun hHeld => ?_)
                       clear hK K
                       refine norm_ (a' := ?_) ?_ ?_
                       rotate_left
                       ·
                        show Act.put _ (some 154) _ = _
                        simp only [Act.put, y0, y1]
                        rfl
                       refine one_ (i := 10) (N := some 158) #[true, true, true, true, true, true, true, true, true, true, true, false, false, false, false, false] rfl rfl (one_of HT_.out (by kernel_rfl)) (by decide) (fun K hK => ?_)
                       refine goes_ Try.func15 (by kernel_rfl) rfl #[.slice Ao83 y160.length co83, .int .i64 a0_1, .slice A129_0 (rd_L2 l0_2 x22_1).length c129_0] (by rfl) rfl rfl (by (try simp only [List.map_toArray, List.map_cons, List.map_nil]); first | done | rfl | (simp only [List.length_drop, List.length_take]; rfl)) ?_
                       with_reducible refine (vec_Times.calls kj53 _ _ y160 a0_1 _ _ (rd_L2 l0_2 x22_1) t163 t164 _ ?side1 ?side2 ?side3 ?side4 A67.out).mono ?_
                       (case side1 => repeat (first | exact (Kd.R_reads' HO162.out).2.2 | (with_reducible refine yi ?_ _) | (with_reducible refine yj ?_ _) | (with_reducible refine yk ?_)))
                       (case side2 => exact (Kd.R_reads' HO162.out).2.1)
                       (case side3 => repeat (first | exact (Kd.C_below HR129_0.out HB.out) | (with_reducible refine yi ?_ _) | (with_reducible refine yj ?_ _) | (with_reducible refine yk ?_)))
                       (case side4 => exact HC129_0.out)
                       rintro e w84 ⟨v165, rfl, ho0, hb⟩
                       refine ⟨_, rfl, ?_⟩
                       have n0_ := ym (Kd.R_elder' (by (with_reducible repeat apply y2); exact HO_7.out) (Kd.R_base ho0) hb)
                       have n1_ := ym (Kd.R_elder' (by (with_reducible repeat apply y2); exact HO153.out) (Kd.R_base ho0) hb)
                       have n2_ := ym (yp (by (with_reducible repeat apply y2); exact HO162.out) hb)
                       have n3_ := ym (yo (Kd.R_new' (Kd.R_new' ho0 (Kd.R_lt (by (with_reducible repeat apply y2); exact HO_7.out))) (Kd.R_lt (by (with_reducible repeat apply y2); exact HO153.out))) (below_size (by repeat (first | (with_reducible first | exact HB.out | apply y3 | refine ys ?_ GE126.out | refine ys ?_ GE127.out) | exact HB.out))))
                       have n4_ := ym (yq (g := gb126) (o := .cells #[.slice A0_0 l0_0.length c0_0, .int .i64 a0_1, .slice (some ad129) l0_2.length c0_2] 25 (0, 0)) (by (with_reducible repeat refine y4 ?_); exact BK126.out) hb)
                       have n5_ := ym (yq (g := gb127) (o := .cells #[.slice A1_0 l1_0.length c1_0, .int .i64 a1_1, .slice A1_2 l1_2.length c1_2] 25 (0, 0)) (by (with_reducible repeat refine y4 ?_); exact BK127.out) hb)
                       have n6_ := ym (yn (by repeat (first | (with_reducible first | exact HB.out | apply y3 | refine ys ?_ GE126.out | refine ys ?_ GE127.out) | exact HB.out)) hb)
                       clear HO_7
                       clear HO153
                       clear HO162
                       clear BK126
                       clear BK127
                       clear HB
                       have HO_7 := n0_
                       have HO153 := n1_
                       have HO162 := n2_
                       have HO166 := n3_
                       have BK126 := n4_
                       have BK127 := n5_
                       have HB := n6_
                       clear n0_ n1_ n2_ n3_ n4_ n5_ n6_
                       (try clear hb)
                       (try clear hb2)
                       (try clear hk)
                       (try clear hi)
                       (try clear ho0)
                       refine hK.out _ _ ⟨(yw BK126.out 0).trans rfl, (yw BK126.out 1).trans rfl, (yw BK126.out 2).trans rfl, (yw BK127.out 0).trans rfl, (yw BK127.out 1).trans rfl, (yw BK127.out 2).trans rfl⟩ (fun hHeld => ?_)
                       clear hK K
                       refine norm_ (a' := ?_) ?_ ?_
                       rotate_left
                       ·
                        show Act.put _ (some 158) _ = _
                        simp only [Act.put, y0, y1]
                        rfl
                       refine pure_ (i := 11) (N := some 147) (v := ?_) (a' := ?_) #[true, true, true, true, true, true, true, true, true, true, true, true, false, false, false, false] rfl rfl (any_of HT_.out (by kernel_rfl)) (fun _ _ _ h => h) (Or.inl ⟨by rfl, ?_⟩) ?_ ?_
                       rotate_left
                       ·
                        intro w'
                        go_simp
                        with_reducible rfl
                       rotate_left
                       ·
                        simp only [Act.put, y0, y1]
                        rfl
                       refine pure_ (i := 12) (N := some 159) (v := ?_) (a' := ?_) #[true, true, true, true, true, true, true, true, true, true, true, true, true, false, false, false] rfl rfl (any_of HT_.out (by kernel_rfl)) (fun _ _ _ h => h) (Or.inl ⟨by rfl, ?_⟩) ?_ ?_
                       rotate_left
                       ·
                        intro w'
                        go_simp
                        with_reducible rfl
                       rotate_left
                       ·
                        simp only [Act.put, y0, y1]
                        rfl
                       refine pure_ (i := 13) (N := some 160) (v := ?_) (a' := ?_) #[true, true, true, true, true, true, true, true, true, true, true, true, true, true, false, false] rfl rfl (any_of HT_.out (by kernel_rfl)) (fun _ _ _ h => h) (Or.inl ⟨by rfl, ?_⟩) ?_ ?_
                       rotate_left
                       ·
                        intro w'
                        go_simp
                        with_reducible rfl
                       rotate_left
                       ·
                        simp only [Act.put, y0, y1]
                        rfl
                       refine pure_ (i := 14) (N := some 15) (v := ?_) (a' := ?_) #[true, true, true, true, true, true, true, true, true, true, true, true, true, true, true, false] rfl rfl (any_of HT_.out (by kernel_rfl)) (fun _ _ _ h => h) (Or.inl ⟨by rfl, ?_⟩) ?_ ?_
                       rotate_left
                       ·
                        intro w'
                        go_simp
                        with_reducible rfl
                       rotate_left
                       ·
                        simp only [Act.put, y0, y1]
                        rfl
                       refine pure_ (i := 15) (N := some 16) (v := ?_) (a' := ?_) #[true, true, true, true, true, true, true, true, true, true, true, true, true, true, true, true] rfl rfl (any_of HT_.out (by kernel_rfl)) (fun _ _ _ h => h) (Or.inl ⟨by rfl, ?_⟩) ?_ ?_
                       rotate_left
                       ·
                        intro w'
                        go_simp
                        with_reducible rfl
                       rotate_left
                       ·
                        simp only [Act.put, y0, y1]
                        rfl
                       refine done_ (done_of HT_.out (by kernel_rfl)) ?_
                       try go_wp2_with (first | ((with_reducible refine gate_dst (N := 169) rfl ?_); (try (refine gate_guard (by rfl) ?_; dsimp only)); refine Kd.R_lit (Kd.int .i64) _ 2 ?hg (N := 169) ?hd (xs := ([] : List Int)) (inner := []) (ok := fun _ => True) (okp := fun _ => True) ?hr ?hp (fun _ hk => hk) trivial (Below.refl _ _) (Nat.le_refl _) (by simp) ?_; (case hd => rfl); (case hg => rfl); (case hr => first | (go_simp; done) | (go_simp; rfl)); (case hp => exact (Reps.none _ _)); intro v168 w85 ho86 hb hg_ hnew_; clear hg_ hnew_; (first | rw [← Ny167.out] at ho86 | (simp only [Int.reduceToNat] at ho86; rw [← Ny167.out] at ho86)); have n0_ := ym (Kd.R_elder' (by (with_reducible repeat apply y2); exact HO_7.out) (Kd.R_base ho86) hb); have n1_ := ym (Kd.R_elder' (by (with_reducible repeat apply y2); exact HO153.out) (Kd.R_base ho86) hb); have n2_ := ym (yp (by (with_reducible repeat apply y2); exact HO162.out) hb); have n3_ := ym (Kd.R_elder' (by (with_reducible repeat apply y2); exact HO166.out) (Kd.R_base ho86) hb); have n4_ := ym (yo (Kd.R_new' (Kd.R_new' (Kd.R_new' ho86 (Kd.R_lt (by (with_reducible repeat apply y2); exact HO_7.out))) (Kd.R_lt (by (with_reducible repeat apply y2); exact HO153.out))) (Kd.R_lt (by (with_reducible repeat apply y2); exact HO166.out))) (below_size (by repeat (first | (with_reducible first | exact HB.out | apply y3 | refine ys ?_ GE126.out | refine ys ?_ GE127.out) | exact HB.out)))); have n5_ := ym (yq (g := gb126) (o := .cells #[.slice A0_0 l0_0.length c0_0, .int .i64 a0_1, .slice (some ad129) l0_2.length c0_2] 25 (0, 0)) (by (with_reducible repeat refine y4 ?_); exact BK126.out) hb); have n6_ := ym (yq (g := gb127) (o := .cells #[.slice A1_0 l1_0.length c1_0, .int .i64 a1_1, .slice A1_2 l1_2.length c1_2] 25 (0, 0)) (by (with_reducible repeat refine y4 ?_); exact BK127.out) hb); have n7_ := ym (yn (by repeat (first | (with_reducible first | exact HB.out | apply y3 | refine ys ?_ GE126.out | refine ys ?_ GE127.out) | exact HB.out)) hb); clear HO_7; clear HO153; clear HO162; clear HO166; clear BK126; clear BK127; clear HB; have HO_7 := n0_; have HO153 := n1_; have HO162 := n2_; have HO166 := n3_; have HO169 := n4_; have BK126 := n5_; have BK127 := n6_; have HB := n7_; clear n0_ n1_ n2_ n3_ n4_ n5_ n6_ n7_; clear hb ho86) | ((with_reducible refine gate_builtin (b := .append) (xs := #[.tmp 169, .tmp 170]) rfl ?_); (try (refine gate_guard (by rfl) ?_; dsimp only)); at_builtin; refine Kd.R_append_rows (Kd.int .i64) (w0 := w) w.heap.size rfl (.tmp 169) (.tmp 170) 28 2 (.int .i64 0) 8 rfl Try.underlying28 info2 rfl (by decide) (by omega) v168 y167 t130 _ _ _ (fun k_ => some k_ ≠ (.slice Ao45 t130.length co45 : Value).ownBlock ∧ some k_ ≠ (v152 : Value).ownBlock ∧ some k_ ≠ (v165 : Value).ownBlock) (fun _ => False) rfl rfl ?aO ?aR (fun _ _ h => h) (fun _ h => h.elim) ?aF ?aB ?aS ?aL ?_; (case aR => repeat (first | exact (Kd.R_reads' HO_7.out).2.2 | (with_reducible refine yi ?_ _) | (with_reducible refine yj ?_ _) | (with_reducible refine yk ?_))); (case aB => exact (by repeat (first | (with_reducible first | exact HB.out | apply y3 | refine ys ?_ GE126.out | refine ys ?_ GE127.out) | exact HB.out))); (case aF => exact (fun k_ hk => ⟨Kd.fresh' (Kd.R_lt (by (with_reducible repeat apply y2); exact HO_7.out)) k_ hk, Kd.fresh' (Kd.R_lt (by (with_reducible repeat apply y2); exact HO153.out)) k_ hk, Kd.fresh' (Kd.R_lt (by (with_reducible repeat apply y2); exact HO166.out)) k_ hk⟩)); (case aO => exact (by (with_reducible repeat apply y2); exact Kd.R_mono HO169.out (fun _ hk => ⟨hk.1.1.2, ⟨hk.1.2, hk.2⟩⟩))); (case aS => exact (below_size (by repeat (first | (with_reducible first | exact HB.out | apply y3 | refine ys ?_ GE126.out | refine ys ?_ GE127.out) | exact HB.out)))); (case aL => have := LMc70.out; omega); intro v171 w87 ho hb hg hat; rw [← Ny170.out] at ho; have n0_ := ym (Kd.R_after (ok := (fun k_ => some k_ ≠ (v152 : Value).ownBlock ∧ some k_ ≠ (v165 : Value).ownBlock)) (by (with_reducible repeat apply y2); exact Kd.R_mono HO_7.out (fun _ hk => ⟨⟨hk.1.1.2, hk.1.2⟩, hk.2⟩)) hg hat); have n1_ := ym (blk_grown (g := gb126) (o := .cells #[.slice A0_0 l0_0.length c0_0, .int .i64 a0_1, .slice (some ad129) l0_2.length c0_2] 25 (0, 0)) (by (with_reducible repeat refine y4 ?_); exact BK126.out) hg (Kd.R_ne HO169.out BK126.out (by decide))); have n2_ := ym (blk_grown (g := gb127) (o := .cells #[.slice A1_0 l1_0.length c1_0, .int .i64 a1_1, .slice A1_2 l1_2.length c1_2] 25 (0, 0)) (by (with_reducible repeat refine y4 ?_); exact BK127.out) hg (Kd.R_ne HO169.out BK127.out (by decide))); have n3_ := ym (Kd.R_after (ok := (fun k_ => some k_ ≠ (.slice Ao45 t130.length co45 : Value).ownBlock ∧ some k_ ≠ (v165 : Value).ownBlock)) (by (with_reducible repeat apply y2); exact Kd.R_mono HO153.out (fun _ hk => ⟨⟨hk.1.1.2, hk.1.2⟩, hk.2⟩)) hg hat); have n4_ := ym (Kd.R_over' (by (with_reducible repeat apply y2); exact HO162.out) (Kd.R_typed (by (with_reducible repeat apply y2); exact HO169.out)) (by decide) hg); have n5_ := ym (Kd.R_after (ok := (fun k_ => some k_ ≠ (.slice Ao45 t130.length co45 : Value).ownBlock ∧ some k_ ≠ (v152 : Value).ownBlock)) (by (with_reducible repeat apply y2); exact Kd.R_mono HO166.out (fun _ hk => ⟨⟨hk.1.1.2, hk.1.2⟩, hk.2⟩)) hg hat); have n6_ := ym (hb); have n7_ := ym (ho); clear HO_7; clear BK126; clear BK127; clear HO153; clear HO162; clear HO166; clear HB; clear HO169; have HO_7 := n0_; have BK126 := n1_; have BK127 := n2_; have HO153 := n3_; have HO162 := n4_; have HO166 := n5_; have HB := n6_; have HO172 := n7_; clear n0_ n1_ n2_ n3_ n4_ n5_ n6_ n7_; clear ho hb hg hat; obtain ⟨Ao89, co89, eo89⟩ := Kd.R_slice HO153.out; subst eo89) | ((with_reducible refine gate_builtin (b := .append) (xs := #[.tmp 171, .tmp 172]) rfl ?_); (try (refine gate_guard (by rfl) ?_; dsimp only)); at_builtin; refine Kd.R_append_rows (Kd.int .i64) (w0 := w) w.heap.size rfl (.tmp 171) (.tmp 172) 28 2 (.int .i64 0) 8 rfl Try.underlying28 info2 rfl (by decide) (by omega) v171 y170 t150 _ _ _ (fun k_ => some k_ ≠ (.slice Ao45 t130.length co45 : Value).ownBlock ∧ some k_ ≠ (.slice Ao89 t150.length co89 : Value).ownBlock ∧ some k_ ≠ (v165 : Value).ownBlock) (fun _ => False) rfl rfl ?aO ?aR (fun _ _ h => h) (fun _ h => h.elim) ?aF ?aB ?aS ?aL ?_; (case aR => repeat (first | exact (Kd.R_reads' HO153.out).2.2 | (with_reducible refine yi ?_ _) | (with_reducible refine yj ?_ _) | (with_reducible refine yk ?_))); (case aB => exact (by repeat (first | (with_reducible first | exact HB.out | apply y3 | refine ys ?_ GE126.out | refine ys ?_ GE127.out) | exact HB.out))); (case aF => exact (fun k_ hk => ⟨Kd.fresh' (Kd.R_lt (by (with_reducible repeat apply y2); exact HO_7.out)) k_ hk, Kd.fresh' (Kd.R_lt (by (with_reducible repeat apply y2); exact HO153.out)) k_ hk, Kd.fresh' (Kd.R_lt (by (with_reducible repeat apply y2); exact HO166.out)) k_ hk⟩)); (case aO => exact (by (with_reducible repeat apply y2); exact HO172.out)); (case aS => exact (below_size (by repeat (first | (with_reducible first | exact HB.out | apply y3 | refine ys ?_ GE126.out | refine ys ?_ GE127.out) | exact HB.out)))); (case aL => have := LMc71.out; omega); intro v174 w88 ho hb hg hat; rw [← Ny173.out] at ho; have n0_ := ym (Kd.R_after (ok := (fun k_ => some k_ ≠ (.slice Ao89 t150.length co89 : Value).ownBlock ∧ some k_ ≠ (v165 : Value).ownBlock)) (by (with_reducible repeat apply y2); exact HO_7.out) hg hat); have n1_ := ym (blk_grown (g := gb126) (o := .cells #[.slice A0_0 l0_0.length c0_0, .int .i64 a0_1, .slice (some ad129) l0_2.length c0_2] 25 (0, 0)) (by (with_reducible repeat refine y4 ?_); exact BK126.out) hg (Kd.R_ne HO172.out BK126.out (by decide))); have n2_ := ym (blk_grown (g := gb127) (o := .cells #[.slice A1_0 l1_0.length c1_0, .int .i64 a1_1, .slice A1_2 l1_2.length c1_2] 25 (0, 0)) (by (with_reducible repeat refine y4 ?_); exact BK127.out) hg (Kd.R_ne HO172.out BK127.out (by decide))); have n3_ := ym (Kd.R_after (ok := (fun k_ => some k_ ≠ (.slice Ao45 t130.length co45 : Value).ownBlock ∧ some k_ ≠ (v165 : Value).ownBlock)) (by (with_reducible repeat apply y2); exact HO153.out) hg hat); have n4_ := ym (Kd.R_over' (by (with_reducible repeat apply y2); exact HO162.out) (Kd.R_typed (by (with_reducible repeat apply y2); exact HO172.out)) (by decide) hg); have n5_ := ym (Kd.R_after (ok := (fun k_ => some k_ ≠ (.slice Ao45 t130.length co45 : Value).ownBlock ∧ some k_ ≠ (.slice Ao89 t150.length co89 : Value).ownBlock)) (by (with_reducible repeat apply y2); exact HO166.out) hg hat); have n6_ := ym (hb); have n7_ := ym (ho); clear HO_7; clear BK126; clear BK127; clear HO153; clear HO162; clear HO166; clear HB; clear HO172; have HO_7 := n0_; have BK126 := n1_; have BK127 := n2_; have HO153 := n3_; have HO162 := n4_; have HO166 := n5_; have HB := n6_; have HO175 := n7_; clear n0_ n1_ n2_ n3_ n4_ n5_ n6_ n7_; clear ho hb hg hat; obtain ⟨Ao90, co90, eo90⟩ := Kd.R_slice HO166.out; subst eo90; obtain ⟨Ao91, co91, eo91⟩ := Kd.R_slice HO175.out; subst eo91) | (go_at_call 17; (with_reducible refine (heraldlaw08_same_int64.calls kj53 _ _ t163 _ _ y173 true _ ?side1 ?side2 ?side3 ?side4 A72.out).mono ?_); (case side1 => repeat (first | exact (Kd.R_reads' HO166.out).2.2 | (with_reducible refine yi ?_ _) | (with_reducible refine yj ?_ _) | (with_reducible refine yk ?_))); (case side2 => exact (Kd.R_reads' HO166.out).2.1); (case side3 => repeat (first | exact (Kd.R_reads' HO175.out).2.2 | (with_reducible refine yi ?_ _) | (with_reducible refine yj ?_ _) | (with_reducible refine yk ?_))); (case side4 => exact (Kd.R_reads' HO175.out).2.1); rintro e w' ⟨rfl, ⟨nd, rfl⟩⟩))
                       go_roundg kj53
                       case measure => have := HK1.out; have := HJ14.out; have := HJ36.out; have := HK4.out; have := HJ53.out; omega
                       case rel => exact ⟨(wrap64 (x22_1 + 1)), (by first | rfl | (simp; done) | (simp [*]; done)), H', ⟨by have := HK1.out; have := HJ14.out; have := HJ36.out; have := HK4.out; have := HJ53.out; omega⟩, ⟨by (with_reducible repeat refine y4 ?_); exact BK126.out⟩, ⟨by (with_reducible repeat refine y4 ?_); exact BK127.out⟩, ⟨by repeat (first | (with_reducible first | exact HB.out | apply y3 | refine ys ?_ GE126.out | refine ys ?_ GE127.out) | exact HB.out)⟩⟩
                      as_aux_lemma =>
                      replace c73 := Bool.eq_false_iff.mpr c73
                      subst c73
                      have H1 : (none) = some r := by rw [if_neg (show ¬ (false = true) by decide)] at H; exact H
                      clear H
                      have H := H1
                      clear H1
                      exact absurd H (by simp)
                     as_aux_lemma =>
                     rw [if_neg c71] at H
                     exact absurd H (by simp)
                    as_aux_lemma =>
                    rw [if_neg c70] at H
                    exact absurd H (by simp)
                   as_aux_lemma =>
                   rw [if_neg c69] at H
                   exact absurd H (by simp)
                  as_aux_lemma =>
                  rw [if_neg c68] at H
                  exact absurd H (by simp)
                 as_aux_lemma =>
                 rw [if_neg c66] at H
                 exact absurd H (by simp)
                as_aux_lemma =>
                rw [if_neg c65] at H
                exact absurd H (by simp)
         as_aux_lemma =>
         rw [if_neg c35] at H
         have c35b0 : (t131 == 0) = false := beq_eq_false_iff_ne.mpr c35
         have c35b1 : (t131 != 0) = true := bne_iff_ne.mpr c35
         have H' := ym H
         clear H
         go_wp2
         go_roundg kj14
         case measure => have := HK1.out; have := HJ14.out; omega
         case rel => exact ⟨(wrap64 (x22_1 + 1)), (by first | rfl | (simp; done) | (simp [*]; done)), H', ⟨by have := HK1.out; have := HJ14.out; omega⟩, ⟨by (with_reducible repeat refine y4 ?_); exact BK126.out⟩, ⟨by (with_reducible repeat refine y4 ?_); exact BK127.out⟩, ⟨by repeat (first | (with_reducible first | exact HB.out | apply y3 | refine ys ?_ GE126.out | refine ys ?_ GE127.out) | exact HB.out)⟩⟩
      as_aux_lemma =>
      rw [if_neg c12] at H
      exact absurd H (by simp)
     as_aux_lemma =>
     rw [if_neg c11] at H
     exact absurd H (by simp)
    as_aux_lemma =>
    rw [if_neg c10] at H
    have c10b0 : decide (x22_1 < (l0_2.length : Int)) = false := decide_eq_false c10
    clear c10
    obtain rfl := Option.some.inj H
    go_wp2
    go_ret
    exact ⟨by first | rfl | (simp [errW_none, errW_some] <;> rfl) | (simp [*, errW_none, errW_some] <;> rfl), by repeat (first | (with_reducible first | exact HB.out | apply y3 | refine ys ?_ GE126.out | refine ys ?_ GE127.out) | exact HB.out)⟩
 as_aux_lemma =>
 replace c4 := Bool.eq_false_iff.mpr c4
 subst c4
 have H1 : (none) = some r := by rw [if_neg (show ¬ (false = true) by decide)] at H; exact H
 clear H
 have H := H1
 clear H1
 exact absurd H (by simp)

end Go.Proofs.Ytigfodkakefhcaa.P
