-- Printed by xprint.py (wip): functions, contracts, rows. Lean checks it.
import Derived.Test.YtengkjkmdodifaaDoorPx0
import Derived.Test.YtengkjkmdodifaaDoorPx5
import Derived.Test.YtengkjkmdodifaaDoorPx6
import Derived.Test.YtengkjkmdodifaaDoorPx7
import Derived.Test.YtengkjkmdodifaaDoorPx8
import Derived.Test.YtengkjkmdodifaaDoorPx9
import Derived.Test.YtengkjkmdodifaaDoorPx15
namespace Go.Proofs.YtengkjkmdodifaaDoor.P
open Go.RowKit Go.Proofs.YtengkjkmdodifaaDoorW.PrintWords Go.Proofs.YtengkjkmdodifaaDoorW.PrintLast Go.Proofs.YtengkjkmdodifaaDoorW.PrintMore
attribute [local go_sem] max2_int min2_int max_two min_two max_three min_three max_four min_four   -- for this text's walks alone
set_option linter.unusedVariables false
set_option linter.unusedSimpArgs false

/-! ### heraldlaw10_RopeRows: function 8 -/
mutual
def heraldlaw10_RopeRows.j0 : Nat → List (List Int) → List Int → List Int → List Int → Bool → List Int → List Int → Int → Int → Int → Int → Option (Bool)
  | 0, _, _, _, _, _, _, _, _, _, _, _ => none
  | k + 1, x0, x7, x8, x9, x73, x230000, x230001, x231000, x231001, x231002, x231003 => if x73 = true then (none) else (heraldlaw10_RopeRows.l0 k x0 x7 x8 x9 (x9.length : Int) 0 x230000 x230001 x231000 x231001 x231002 x231003)
def heraldlaw10_RopeRows.l0 : Nat → List (List Int) → List Int → List Int → List Int → Int → Int → List Int → List Int → Int → Int → Int → Int → Option (Bool)
  | 0, _, _, _, _, _, _, _, _, _, _, _, _ => none
  | k + 1, x0, x7, x8, x9, x75, x76, x230000, x230001, x231000, x231001, x231002, x231003 => if x76 < x75 then (if 0 ≤ x76 then (if x76 < (x9.length : Int) then (heraldlaw10_RopeRows.l0 k x0 x7 x8 (x9.set (x76 : Int).toNat 99) x75 (wrap64 (x76 + 1)) x230000 x230001 x231000 x231001 x231002 x231003) else (none)) else (none)) else (heraldlaw10_RopeRows.l1 k x0 x7 x8 ([] : List (List Int)) x0 (x0.length : Int) 0 x230000 x230001 x231000 x231001 x231002 x231003)
def heraldlaw10_RopeRows.l1 : Nat → List (List Int) → List Int → List Int → List (List Int) → List (List Int) → Int → Int → List Int → List Int → Int → Int → Int → Int → Option (Bool)
  | 0, _, _, _, _, _, _, _, _, _, _, _, _, _ => none
  | k + 1, x0, x7, x8, x16, x83, x84, x85, x230000, x230001, x231000, x231001, x231002, x231003 => if x85 < x84 then (if 0 ≤ x85 then (if x85 < (x83.length : Int) then ((some (([] : List Int) : List Int)).bind fun y262 => (if y262.length + (rd_L1 x83 x85).length < 140737488355328 then (if x16.length < 5864062014805 then (heraldlaw10_RopeRows.l1 k x0 x7 x8 (x16 ++ [(y262 ++ (rd_L1 x83 x85))]) x83 x84 (wrap64 (x85 + 1)) x230000 x230001 x231000 x231001 x231002 x231003) else (none)) else (none))) else (none)) else (none)) else ((rope_Rows.f k x16 x231000 x7 x8 x231001).bind fun bt271 => ((heraldref10_Rows.f k x0 x231000 x230000 x230001 x231001).bind fun bt276 => (if bt271.2.1 = bt276.2.1 then (if bt271.2.2 = bt276.2.2 then (if (bt271.1.length : Int) = (bt276.1.length : Int) then ((heraldlaw10_same.f k x7 x230000).bind fun t281 => (if t281 = true then ((heraldlaw10_same.f k x8 x230001).bind fun t282 => (heraldlaw10_RopeRows.j3 k x0 x16 bt271.1 bt276.1 (!t282))) else (heraldlaw10_RopeRows.j3 k x0 x16 bt271.1 bt276.1 true))) else (heraldlaw10_RopeRows.j3 k x0 x16 bt271.1 bt276.1 true)) else (heraldlaw10_RopeRows.j3 k x0 x16 bt271.1 bt276.1 true)) else (heraldlaw10_RopeRows.j3 k x0 x16 bt271.1 bt276.1 true))))
def heraldlaw10_RopeRows.j3 : Nat → List (List Int) → List (List Int) → List (List Int) → List (List Int) → Bool → Option (Bool)
  | 0, _, _, _, _, _ => none
  | k + 1, x0, x16, x19, x21, x150 => if x150 = true then (none) else (heraldlaw10_RopeRows.l2 k x0 x16 x19 x21 (x19.length : Int) 0)
def heraldlaw10_RopeRows.l2 : Nat → List (List Int) → List (List Int) → List (List Int) → List (List Int) → Int → Int → Option (Bool)
  | 0, _, _, _, _, _, _ => none
  | k + 1, x0, x16, x19, x21, x152, x153 => if x153 < x152 then (if 0 ≤ x153 then (if x153 < (x19.length : Int) then (if x153 < (x21.length : Int) then ((heraldlaw10_same.f k (rd_L1 x19 x153) (rd_L1 x21 x153)).bind fun t285 => (if t285 = true then (heraldlaw10_RopeRows.l2 k x0 x16 x19 x21 x152 (wrap64 (x153 + 1))) else (none))) else (none)) else (none)) else (none)) else (heraldlaw10_RopeRows.l3 k x0 x16 (x0.length : Int) 0)
def heraldlaw10_RopeRows.l3 : Nat → List (List Int) → List (List Int) → Int → Int → Option (Bool)
  | 0, _, _, _, _ => none
  | k + 1, x0, x16, x168, x169 => if x169 < x168 then (if 0 ≤ x169 then (if x169 < (x16.length : Int) then (if x169 < (x0.length : Int) then ((heraldlaw10_same.f k (rd_L1 x16 x169) (rd_L1 x0 x169)).bind fun t288 => (if t288 = true then (heraldlaw10_RopeRows.l3 k x0 x16 x168 (wrap64 (x169 + 1))) else (none))) else (none)) else (none)) else (none)) else (some true)
end
def heraldlaw10_RopeRows.f (k : Nat) (l0 : List (List Int)) (l1_0 : List Int) (l1_1 : List Int) (a2_0 : Int) (a2_1 : Int) (a2_2 : Int) (a2_3 : Int) : Option (Bool) := (heraldlaw10_awake.f k).bind fun t231 => (if t231 = true then ((some (([] : List Int) : List Int)).bind fun y232 => (if y232.length + l1_0.length < 140737488355328 then ((some (y232 ++ l1_0 : List Int)).bind fun y235 => ((some (([] : List Int) : List Int)).bind fun y238 => (if y238.length + l1_1.length < 140737488355328 then ((some (y238 ++ l1_1 : List Int)).bind fun y241 => ((rope_At.f k y235 y241 a2_2 a2_3).bind fun bt244 => ((heraldref10_At.f k l1_0 l1_1 a2_2 a2_3).bind fun bt251 => ((heraldlaw10_same.f k bt244.1 bt251.1).bind fun t258 => (if t258 = true then ((heraldlaw10_same.f k bt244.2.1 bt251.2.1).bind fun t259 => (if t259 = true then (heraldlaw10_RopeRows.j0 k l0 y235 y241 bt244.1 (bt244.2.2 != bt251.2.2) l1_0 l1_1 a2_0 a2_1 a2_2 a2_3) else (heraldlaw10_RopeRows.j0 k l0 y235 y241 bt244.1 true l1_0 l1_1 a2_0 a2_1 a2_2 a2_3))) else (heraldlaw10_RopeRows.j0 k l0 y235 y241 bt244.1 true l1_0 l1_1 a2_0 a2_1 a2_2 a2_3)))))) else (none)))) else (none))) else (none))
theorem heraldlaw10_RopeRows.mono_l : ∀ k, (∀ y0 y1 y2 y3 y4 y5 y6 y7 y8 y9 y10, LeO (heraldlaw10_RopeRows.j0 k y0 y1 y2 y3 y4 y5 y6 y7 y8 y9 y10) (heraldlaw10_RopeRows.j0 (k + 1) y0 y1 y2 y3 y4 y5 y6 y7 y8 y9 y10)) ∧ (∀ y0 y1 y2 y3 y4 y5 y6 y7 y8 y9 y10 y11, LeO (heraldlaw10_RopeRows.l0 k y0 y1 y2 y3 y4 y5 y6 y7 y8 y9 y10 y11) (heraldlaw10_RopeRows.l0 (k + 1) y0 y1 y2 y3 y4 y5 y6 y7 y8 y9 y10 y11)) ∧ (∀ y0 y1 y2 y3 y4 y5 y6 y7 y8 y9 y10 y11 y12, LeO (heraldlaw10_RopeRows.l1 k y0 y1 y2 y3 y4 y5 y6 y7 y8 y9 y10 y11 y12) (heraldlaw10_RopeRows.l1 (k + 1) y0 y1 y2 y3 y4 y5 y6 y7 y8 y9 y10 y11 y12)) ∧ (∀ y0 y1 y2 y3 y4, LeO (heraldlaw10_RopeRows.j3 k y0 y1 y2 y3 y4) (heraldlaw10_RopeRows.j3 (k + 1) y0 y1 y2 y3 y4)) ∧ (∀ y0 y1 y2 y3 y4 y5, LeO (heraldlaw10_RopeRows.l2 k y0 y1 y2 y3 y4 y5) (heraldlaw10_RopeRows.l2 (k + 1) y0 y1 y2 y3 y4 y5)) ∧ (∀ y0 y1 y2 y3, LeO (heraldlaw10_RopeRows.l3 k y0 y1 y2 y3) (heraldlaw10_RopeRows.l3 (k + 1) y0 y1 y2 y3))
  | 0 => ⟨fun _ _ _ _ _ _ _ _ _ _ _ r h => by simp [heraldlaw10_RopeRows.j0] at h, fun _ _ _ _ _ _ _ _ _ _ _ _ r h => by simp [heraldlaw10_RopeRows.l0] at h, fun _ _ _ _ _ _ _ _ _ _ _ _ _ r h => by simp [heraldlaw10_RopeRows.l1] at h, fun _ _ _ _ _ r h => by simp [heraldlaw10_RopeRows.j3] at h, fun _ _ _ _ _ _ r h => by simp [heraldlaw10_RopeRows.l2] at h, fun _ _ _ _ r h => by simp [heraldlaw10_RopeRows.l3] at h⟩
  | k + 1 => by
    obtain ⟨ih0, ih1, ih2, ih3, ih4, ih5⟩ := heraldlaw10_RopeRows.mono_l k
    refine ⟨?_, ?_, ?_, ?_, ?_, ?_⟩
    · intro y0 y1 y2 y3 y4 y5 y6 y7 y8 y9 y10
      unfold heraldlaw10_RopeRows.j0
      repeat' first
      | (with_reducible exact ih0 _ _ _ _ _ _ _ _ _ _ _)
      | (with_reducible exact ih1 _ _ _ _ _ _ _ _ _ _ _ _)
      | (with_reducible exact ih2 _ _ _ _ _ _ _ _ _ _ _ _ _)
      | (with_reducible exact ih3 _ _ _ _ _)
      | (with_reducible exact ih4 _ _ _ _ _ _)
      | (with_reducible exact ih5 _ _ _ _)
      | (with_reducible exact heraldlaw10_awake.mono _)
      | (with_reducible exact heraldlaw10_same.mono _ _ _)
      | (with_reducible exact heraldref10_At.mono _ _ _ _ _)
      | (with_reducible exact heraldref10_Rows.mono _ _ _ _ _ _)
      | (with_reducible exact rope_At.mono _ _ _ _ _)
      | (with_reducible exact rope_Rows.mono _ _ _ _ _ _)
      | (with_reducible exact LeO.refl _)
      | (with_reducible exact LeO.none _)
      | (with_reducible refine LeO.ite ?_ ?_)
      | (with_reducible refine LeO.bind ?_ (fun _ => ?_))
      | exact ih0 _ _ _ _ _ _ _ _ _ _ _
      | exact ih1 _ _ _ _ _ _ _ _ _ _ _ _
      | exact ih2 _ _ _ _ _ _ _ _ _ _ _ _ _
      | exact ih3 _ _ _ _ _
      | exact ih4 _ _ _ _ _ _
      | exact ih5 _ _ _ _
      | exact heraldlaw10_awake.mono _
      | exact heraldlaw10_same.mono _ _ _
      | exact heraldref10_At.mono _ _ _ _ _
      | exact heraldref10_Rows.mono _ _ _ _ _ _
      | exact rope_At.mono _ _ _ _ _
      | exact rope_Rows.mono _ _ _ _ _ _
      | exact LeO.none _
      | refine LeO.ite ?_ ?_
      | refine LeO.bind ?_ (fun _ => ?_)
    · intro y0 y1 y2 y3 y4 y5 y6 y7 y8 y9 y10 y11
      unfold heraldlaw10_RopeRows.l0
      repeat' first
      | (with_reducible exact ih0 _ _ _ _ _ _ _ _ _ _ _)
      | (with_reducible exact ih1 _ _ _ _ _ _ _ _ _ _ _ _)
      | (with_reducible exact ih2 _ _ _ _ _ _ _ _ _ _ _ _ _)
      | (with_reducible exact ih3 _ _ _ _ _)
      | (with_reducible exact ih4 _ _ _ _ _ _)
      | (with_reducible exact ih5 _ _ _ _)
      | (with_reducible exact heraldlaw10_awake.mono _)
      | (with_reducible exact heraldlaw10_same.mono _ _ _)
      | (with_reducible exact heraldref10_At.mono _ _ _ _ _)
      | (with_reducible exact heraldref10_Rows.mono _ _ _ _ _ _)
      | (with_reducible exact rope_At.mono _ _ _ _ _)
      | (with_reducible exact rope_Rows.mono _ _ _ _ _ _)
      | (with_reducible exact LeO.refl _)
      | (with_reducible exact LeO.none _)
      | (with_reducible refine LeO.ite ?_ ?_)
      | (with_reducible refine LeO.bind ?_ (fun _ => ?_))
      | exact ih0 _ _ _ _ _ _ _ _ _ _ _
      | exact ih1 _ _ _ _ _ _ _ _ _ _ _ _
      | exact ih2 _ _ _ _ _ _ _ _ _ _ _ _ _
      | exact ih3 _ _ _ _ _
      | exact ih4 _ _ _ _ _ _
      | exact ih5 _ _ _ _
      | exact heraldlaw10_awake.mono _
      | exact heraldlaw10_same.mono _ _ _
      | exact heraldref10_At.mono _ _ _ _ _
      | exact heraldref10_Rows.mono _ _ _ _ _ _
      | exact rope_At.mono _ _ _ _ _
      | exact rope_Rows.mono _ _ _ _ _ _
      | exact LeO.none _
      | refine LeO.ite ?_ ?_
      | refine LeO.bind ?_ (fun _ => ?_)
    · intro y0 y1 y2 y3 y4 y5 y6 y7 y8 y9 y10 y11 y12
      unfold heraldlaw10_RopeRows.l1
      repeat' first
      | (with_reducible exact ih0 _ _ _ _ _ _ _ _ _ _ _)
      | (with_reducible exact ih1 _ _ _ _ _ _ _ _ _ _ _ _)
      | (with_reducible exact ih2 _ _ _ _ _ _ _ _ _ _ _ _ _)
      | (with_reducible exact ih3 _ _ _ _ _)
      | (with_reducible exact ih4 _ _ _ _ _ _)
      | (with_reducible exact ih5 _ _ _ _)
      | (with_reducible exact heraldlaw10_awake.mono _)
      | (with_reducible exact heraldlaw10_same.mono _ _ _)
      | (with_reducible exact heraldref10_At.mono _ _ _ _ _)
      | (with_reducible exact heraldref10_Rows.mono _ _ _ _ _ _)
      | (with_reducible exact rope_At.mono _ _ _ _ _)
      | (with_reducible exact rope_Rows.mono _ _ _ _ _ _)
      | (with_reducible exact LeO.refl _)
      | (with_reducible exact LeO.none _)
      | (with_reducible refine LeO.ite ?_ ?_)
      | (with_reducible refine LeO.bind ?_ (fun _ => ?_))
      | exact ih0 _ _ _ _ _ _ _ _ _ _ _
      | exact ih1 _ _ _ _ _ _ _ _ _ _ _ _
      | exact ih2 _ _ _ _ _ _ _ _ _ _ _ _ _
      | exact ih3 _ _ _ _ _
      | exact ih4 _ _ _ _ _ _
      | exact ih5 _ _ _ _
      | exact heraldlaw10_awake.mono _
      | exact heraldlaw10_same.mono _ _ _
      | exact heraldref10_At.mono _ _ _ _ _
      | exact heraldref10_Rows.mono _ _ _ _ _ _
      | exact rope_At.mono _ _ _ _ _
      | exact rope_Rows.mono _ _ _ _ _ _
      | exact LeO.none _
      | refine LeO.ite ?_ ?_
      | refine LeO.bind ?_ (fun _ => ?_)
    · intro y0 y1 y2 y3 y4
      unfold heraldlaw10_RopeRows.j3
      repeat' first
      | (with_reducible exact ih0 _ _ _ _ _ _ _ _ _ _ _)
      | (with_reducible exact ih1 _ _ _ _ _ _ _ _ _ _ _ _)
      | (with_reducible exact ih2 _ _ _ _ _ _ _ _ _ _ _ _ _)
      | (with_reducible exact ih3 _ _ _ _ _)
      | (with_reducible exact ih4 _ _ _ _ _ _)
      | (with_reducible exact ih5 _ _ _ _)
      | (with_reducible exact heraldlaw10_awake.mono _)
      | (with_reducible exact heraldlaw10_same.mono _ _ _)
      | (with_reducible exact heraldref10_At.mono _ _ _ _ _)
      | (with_reducible exact heraldref10_Rows.mono _ _ _ _ _ _)
      | (with_reducible exact rope_At.mono _ _ _ _ _)
      | (with_reducible exact rope_Rows.mono _ _ _ _ _ _)
      | (with_reducible exact LeO.refl _)
      | (with_reducible exact LeO.none _)
      | (with_reducible refine LeO.ite ?_ ?_)
      | (with_reducible refine LeO.bind ?_ (fun _ => ?_))
      | exact ih0 _ _ _ _ _ _ _ _ _ _ _
      | exact ih1 _ _ _ _ _ _ _ _ _ _ _ _
      | exact ih2 _ _ _ _ _ _ _ _ _ _ _ _ _
      | exact ih3 _ _ _ _ _
      | exact ih4 _ _ _ _ _ _
      | exact ih5 _ _ _ _
      | exact heraldlaw10_awake.mono _
      | exact heraldlaw10_same.mono _ _ _
      | exact heraldref10_At.mono _ _ _ _ _
      | exact heraldref10_Rows.mono _ _ _ _ _ _
      | exact rope_At.mono _ _ _ _ _
      | exact rope_Rows.mono _ _ _ _ _ _
      | exact LeO.none _
      | refine LeO.ite ?_ ?_
      | refine LeO.bind ?_ (fun _ => ?_)
    · intro y0 y1 y2 y3 y4 y5
      unfold heraldlaw10_RopeRows.l2
      repeat' first
      | (with_reducible exact ih0 _ _ _ _ _ _ _ _ _ _ _)
      | (with_reducible exact ih1 _ _ _ _ _ _ _ _ _ _ _ _)
      | (with_reducible exact ih2 _ _ _ _ _ _ _ _ _ _ _ _ _)
      | (with_reducible exact ih3 _ _ _ _ _)
      | (with_reducible exact ih4 _ _ _ _ _ _)
      | (with_reducible exact ih5 _ _ _ _)
      | (with_reducible exact heraldlaw10_awake.mono _)
      | (with_reducible exact heraldlaw10_same.mono _ _ _)
      | (with_reducible exact heraldref10_At.mono _ _ _ _ _)
      | (with_reducible exact heraldref10_Rows.mono _ _ _ _ _ _)
      | (with_reducible exact rope_At.mono _ _ _ _ _)
      | (with_reducible exact rope_Rows.mono _ _ _ _ _ _)
      | (with_reducible exact LeO.refl _)
      | (with_reducible exact LeO.none _)
      | (with_reducible refine LeO.ite ?_ ?_)
      | (with_reducible refine LeO.bind ?_ (fun _ => ?_))
      | exact ih0 _ _ _ _ _ _ _ _ _ _ _
      | exact ih1 _ _ _ _ _ _ _ _ _ _ _ _
      | exact ih2 _ _ _ _ _ _ _ _ _ _ _ _ _
      | exact ih3 _ _ _ _ _
      | exact ih4 _ _ _ _ _ _
      | exact ih5 _ _ _ _
      | exact heraldlaw10_awake.mono _
      | exact heraldlaw10_same.mono _ _ _
      | exact heraldref10_At.mono _ _ _ _ _
      | exact heraldref10_Rows.mono _ _ _ _ _ _
      | exact rope_At.mono _ _ _ _ _
      | exact rope_Rows.mono _ _ _ _ _ _
      | exact LeO.none _
      | refine LeO.ite ?_ ?_
      | refine LeO.bind ?_ (fun _ => ?_)
    · intro y0 y1 y2 y3
      unfold heraldlaw10_RopeRows.l3
      repeat' first
      | (with_reducible exact ih0 _ _ _ _ _ _ _ _ _ _ _)
      | (with_reducible exact ih1 _ _ _ _ _ _ _ _ _ _ _ _)
      | (with_reducible exact ih2 _ _ _ _ _ _ _ _ _ _ _ _ _)
      | (with_reducible exact ih3 _ _ _ _ _)
      | (with_reducible exact ih4 _ _ _ _ _ _)
      | (with_reducible exact ih5 _ _ _ _)
      | (with_reducible exact heraldlaw10_awake.mono _)
      | (with_reducible exact heraldlaw10_same.mono _ _ _)
      | (with_reducible exact heraldref10_At.mono _ _ _ _ _)
      | (with_reducible exact heraldref10_Rows.mono _ _ _ _ _ _)
      | (with_reducible exact rope_At.mono _ _ _ _ _)
      | (with_reducible exact rope_Rows.mono _ _ _ _ _ _)
      | (with_reducible exact LeO.refl _)
      | (with_reducible exact LeO.none _)
      | (with_reducible refine LeO.ite ?_ ?_)
      | (with_reducible refine LeO.bind ?_ (fun _ => ?_))
      | exact ih0 _ _ _ _ _ _ _ _ _ _ _
      | exact ih1 _ _ _ _ _ _ _ _ _ _ _ _
      | exact ih2 _ _ _ _ _ _ _ _ _ _ _ _ _
      | exact ih3 _ _ _ _ _
      | exact ih4 _ _ _ _ _ _
      | exact ih5 _ _ _ _
      | exact heraldlaw10_awake.mono _
      | exact heraldlaw10_same.mono _ _ _
      | exact heraldref10_At.mono _ _ _ _ _
      | exact heraldref10_Rows.mono _ _ _ _ _ _
      | exact rope_At.mono _ _ _ _ _
      | exact rope_Rows.mono _ _ _ _ _ _
      | exact LeO.none _
      | refine LeO.ite ?_ ?_
      | refine LeO.bind ?_ (fun _ => ?_)
theorem heraldlaw10_RopeRows.mono : ∀ a0 a1 a2 a3 a4 a5 a6 k, LeO (heraldlaw10_RopeRows.f k a0 a1 a2 a3 a4 a5 a6) (heraldlaw10_RopeRows.f (k + 1) a0 a1 a2 a3 a4 a5 a6) := by
  intro a0 a1 a2 a3 a4 a5 a6 k
  obtain ⟨ih0, ih1, ih2, ih3, ih4, ih5⟩ := heraldlaw10_RopeRows.mono_l k
  unfold heraldlaw10_RopeRows.f
  repeat' first
      | (with_reducible exact ih0 _ _ _ _ _ _ _ _ _ _ _)
      | (with_reducible exact ih1 _ _ _ _ _ _ _ _ _ _ _ _)
      | (with_reducible exact ih2 _ _ _ _ _ _ _ _ _ _ _ _ _)
      | (with_reducible exact ih3 _ _ _ _ _)
      | (with_reducible exact ih4 _ _ _ _ _ _)
      | (with_reducible exact ih5 _ _ _ _)
      | (with_reducible exact heraldlaw10_awake.mono _)
      | (with_reducible exact heraldlaw10_same.mono _ _ _)
      | (with_reducible exact heraldref10_At.mono _ _ _ _ _)
      | (with_reducible exact heraldref10_Rows.mono _ _ _ _ _ _)
      | (with_reducible exact rope_At.mono _ _ _ _ _)
      | (with_reducible exact rope_Rows.mono _ _ _ _ _ _)
      | (with_reducible exact LeO.refl _)
      | (with_reducible exact LeO.none _)
      | (with_reducible refine LeO.ite ?_ ?_)
      | (with_reducible refine LeO.bind ?_ (fun _ => ?_))
      | exact ih0 _ _ _ _ _ _ _ _ _ _ _
      | exact ih1 _ _ _ _ _ _ _ _ _ _ _ _
      | exact ih2 _ _ _ _ _ _ _ _ _ _ _ _ _
      | exact ih3 _ _ _ _ _
      | exact ih4 _ _ _ _ _ _
      | exact ih5 _ _ _ _
      | exact heraldlaw10_awake.mono _
      | exact heraldlaw10_same.mono _ _ _
      | exact heraldref10_At.mono _ _ _ _ _
      | exact heraldref10_Rows.mono _ _ _ _ _ _
      | exact rope_At.mono _ _ _ _ _
      | exact rope_Rows.mono _ _ _ _ _ _
      | exact LeO.none _
      | refine LeO.ite ?_ ?_
      | refine LeO.bind ?_ (fun _ => ?_)
def heraldlaw10_RopeRows.T3 : Bool × List (List Nat × List Nat) := (true, [([], []), ([], []), ([1], [1]), ([0, 2], [0, 2]), ([], []), ([], []), ([5], [5]), ([4, 6, 3], [4, 6]), ([3, 7, 0, 1, 2, 3], [3]), ([7, 8, 0, 1, 2, 3, 4, 5, 6, 7, 8], [7])])
def heraldlaw10_RopeRows.B3 : List Nat := [0, 0, 2, 7, 0, 0, 32, 127, 255, 511]
theorem heraldlaw10_RopeRows.tab3 : rtab .any (opsOf Tryd.f8 3) = heraldlaw10_RopeRows.T3 := by kernel_rfl
theorem heraldlaw10_RopeRows.bits3 : waitsOk heraldlaw10_RopeRows.T3.2 heraldlaw10_RopeRows.B3 = true := by kernel_rfl
def heraldlaw10_RopeRows.T26 : Bool × List (List Nat × List Nat) := (true, [([], []), ([], []), ([0, 1], [0, 1]), ([2], [2]), ([], []), ([], []), ([4, 5], [4, 5]), ([6], [6]), ([3, 7], [3, 7]), ([8], [8])])
def heraldlaw10_RopeRows.B26 : List Nat := [0, 0, 3, 7, 0, 0, 48, 112, 255, 511]
theorem heraldlaw10_RopeRows.tab26 : rtab .any (opsOf Tryd.f8 26) = heraldlaw10_RopeRows.T26 := by kernel_rfl
theorem heraldlaw10_RopeRows.bits26 : waitsOk heraldlaw10_RopeRows.T26.2 heraldlaw10_RopeRows.B26 = true := by kernel_rfl
def heraldlaw10_RopeRows.T32 : Bool × List (List Nat × List Nat) := (true, [([], []), ([], []), ([0, 1], [0, 1]), ([2], [2]), ([], []), ([], []), ([4, 5], [4, 5]), ([6], [6]), ([3, 7], [3, 7]), ([8], [8])])
def heraldlaw10_RopeRows.B32 : List Nat := [0, 0, 3, 7, 0, 0, 48, 112, 255, 511]
theorem heraldlaw10_RopeRows.tab32 : rtab .any (opsOf Tryd.f8 32) = heraldlaw10_RopeRows.T32 := by kernel_rfl
theorem heraldlaw10_RopeRows.bits32 : waitsOk heraldlaw10_RopeRows.T32.2 heraldlaw10_RopeRows.B32 = true := by kernel_rfl
set_option maxHeartbeats 8000000 in
set_option maxRecDepth 100000 in
theorem heraldlaw10_RopeRows.calls (k : Nat) (A0 : Option Addr) (c0 : Nat) (l0 : List (List Int)) (A1_0 : Option Addr) (c1_0 : Nat) (l1_0 : List Int) (A1_1 : Option Addr) (c1_1 : Nat) (l1_1 : List Int) (a2_0 : Int) (a2_1 : Int) (a2_2 : Int) (a2_3 : Int) (r : Bool) (w : World) (hr0 : Kd.C (Kd.slice 33 (Kd.int .i8)) w A0 l0.length l0) (hc0 : l0.length ≤ c0) (hr1_0 : Kd.C (Kd.int .i8) w A1_0 l1_0.length l1_0) (hc1_0 : l1_0.length ≤ c1_0) (hr1_1 : Kd.C (Kd.int .i8) w A1_1 l1_1.length l1_1) (hc1_1 : l1_1.length ≤ c1_1) (h : heraldlaw10_RopeRows.f k l0 l1_0 l1_1 a2_0 a2_1 a2_2 a2_3 = some r) (ht : Tab w) :
    Calls Tryd.prog 8 #[.slice A0 l0.length c0, .agg #[.slice A1_0 l1_0.length c1_0, .slice A1_1 l1_1.length c1_1], .agg #[.int .i64 a2_0, .int .i64 a2_1, .int .i64 a2_2, .int .i64 a2_3]] w fun e w' => e = .returned (.bool r) ∧ Below w.heap.size w w' := by
 have HTAB := ym ht
 clear ht
 have hu24 := Tryd.underlying24
 have hu44 := Tryd.underlying44
 have HR0 := ym hr0
 have HC0 := ym hc0
 clear hr0 hc0
 have HR1_0 := ym hr1_0
 have HC1_0 := ym hc1_0
 clear hr1_0 hc1_0
 have HR1_1 := ym hr1_1
 have HC1_1 := ym hc1_1
 clear hr1_1 hc1_1
 have HB := ym (Below.refl w.heap.size w)
 have H : ((heraldlaw10_awake.f k).bind fun t231 => (if t231 = true then ((some (([] : List Int) : List Int)).bind fun y232 => (if y232.length + l1_0.length < 140737488355328 then ((some (y232 ++ l1_0 : List Int)).bind fun y235 => ((some (([] : List Int) : List Int)).bind fun y238 => (if y238.length + l1_1.length < 140737488355328 then ((some (y238 ++ l1_1 : List Int)).bind fun y241 => ((rope_At.f k y235 y241 a2_2 a2_3).bind fun bt244 => ((heraldref10_At.f k l1_0 l1_1 a2_2 a2_3).bind fun bt251 => ((heraldlaw10_same.f k bt244.1 bt251.1).bind fun t258 => (if t258 = true then ((heraldlaw10_same.f k bt244.2.1 bt251.2.1).bind fun t259 => (if t259 = true then (heraldlaw10_RopeRows.j0 k l0 y235 y241 bt244.1 (bt244.2.2 != bt251.2.2) l1_0 l1_1 a2_0 a2_1 a2_2 a2_3) else (heraldlaw10_RopeRows.j0 k l0 y235 y241 bt244.1 true l1_0 l1_1 a2_0 a2_1 a2_2 a2_3))) else (heraldlaw10_RopeRows.j0 k l0 y235 y241 bt244.1 true l1_0 l1_1 a2_0 a2_1 a2_2 a2_3)))))) else (none)))) else (none))) else (none))) = some r := h
 clear h
 replace H := Option.bind_eq_some_iff.mp H
 obtain ⟨t231, A40, H⟩ := H
 replace H : (if t231 = true then ((some (([] : List Int) : List Int)).bind fun y232 => (if y232.length + l1_0.length < 140737488355328 then ((some (y232 ++ l1_0 : List Int)).bind fun y235 => ((some (([] : List Int) : List Int)).bind fun y238 => (if y238.length + l1_1.length < 140737488355328 then ((some (y238 ++ l1_1 : List Int)).bind fun y241 => ((rope_At.f k y235 y241 a2_2 a2_3).bind fun bt244 => ((heraldref10_At.f k l1_0 l1_1 a2_2 a2_3).bind fun bt251 => ((heraldlaw10_same.f k bt244.1 bt251.1).bind fun t258 => (if t258 = true then ((heraldlaw10_same.f k bt244.2.1 bt251.2.1).bind fun t259 => (if t259 = true then (heraldlaw10_RopeRows.j0 k l0 y235 y241 bt244.1 (bt244.2.2 != bt251.2.2) l1_0 l1_1 a2_0 a2_1 a2_2 a2_3) else (heraldlaw10_RopeRows.j0 k l0 y235 y241 bt244.1 true l1_0 l1_1 a2_0 a2_1 a2_2 a2_3))) else (heraldlaw10_RopeRows.j0 k l0 y235 y241 bt244.1 true l1_0 l1_1 a2_0 a2_1 a2_2 a2_3)))))) else (none)))) else (none))) else (none)) = some r := H
 have A4 := ym A40
 clear A40
 by_cases c5 : t231 = true
 ·
  subst c5
  have H1 : ((some (([] : List Int) : List Int)).bind fun y232 => (if y232.length + l1_0.length < 140737488355328 then ((some (y232 ++ l1_0 : List Int)).bind fun y235 => ((some (([] : List Int) : List Int)).bind fun y238 => (if y238.length + l1_1.length < 140737488355328 then ((some (y238 ++ l1_1 : List Int)).bind fun y241 => ((rope_At.f k y235 y241 a2_2 a2_3).bind fun bt244 => ((heraldref10_At.f k l1_0 l1_1 a2_2 a2_3).bind fun bt251 => ((heraldlaw10_same.f k bt244.1 bt251.1).bind fun t258 => (if t258 = true then ((heraldlaw10_same.f k bt244.2.1 bt251.2.1).bind fun t259 => (if t259 = true then (heraldlaw10_RopeRows.j0 k l0 y235 y241 bt244.1 (bt244.2.2 != bt251.2.2) l1_0 l1_1 a2_0 a2_1 a2_2 a2_3) else (heraldlaw10_RopeRows.j0 k l0 y235 y241 bt244.1 true l1_0 l1_1 a2_0 a2_1 a2_2 a2_3))) else (heraldlaw10_RopeRows.j0 k l0 y235 y241 bt244.1 true l1_0 l1_1 a2_0 a2_1 a2_2 a2_3)))))) else (none)))) else (none))) = some r := by rw [if_pos rfl] at H; exact H
  clear H
  have H := H1
  clear H1
  obtain ⟨y232, hy232⟩ : ∃ y_ : List Int, y_ = (([] : List Int)) := ⟨_, rfl⟩
  replace H : (if y232.length + l1_0.length < 140737488355328 then ((some (y232 ++ l1_0 : List Int)).bind fun y235 => ((some (([] : List Int) : List Int)).bind fun y238 => (if y238.length + l1_1.length < 140737488355328 then ((some (y238 ++ l1_1 : List Int)).bind fun y241 => ((rope_At.f k y235 y241 a2_2 a2_3).bind fun bt244 => ((heraldref10_At.f k l1_0 l1_1 a2_2 a2_3).bind fun bt251 => ((heraldlaw10_same.f k bt244.1 bt251.1).bind fun t258 => (if t258 = true then ((heraldlaw10_same.f k bt244.2.1 bt251.2.1).bind fun t259 => (if t259 = true then (heraldlaw10_RopeRows.j0 k l0 y235 y241 bt244.1 (bt244.2.2 != bt251.2.2) l1_0 l1_1 a2_0 a2_1 a2_2 a2_3) else (heraldlaw10_RopeRows.j0 k l0 y235 y241 bt244.1 true l1_0 l1_1 a2_0 a2_1 a2_2 a2_3))) else (heraldlaw10_RopeRows.j0 k l0 y235 y241 bt244.1 true l1_0 l1_1 a2_0 a2_1 a2_2 a2_3)))))) else (none)))) else (none)) = some r := by first | (rw [hy232]; with_reducible exact H) | (have H2_ := (Option.bind_some _ _).symm.trans H; rw [hy232]; with_reducible exact H2_) | (have H2_ := (Option.bind_some _ _).symm.trans H; with_reducible exact H2_) | with_reducible exact H | (rw [hy232]; exact H) | exact H
  have Ny232 := ym hy232
  clear hy232
  by_cases c6 : y232.length + l1_0.length < 140737488355328
  ·
   rw [if_pos c6] at H
   have LMc6 := ym c6
   clear c6
   obtain ⟨y235, hy235⟩ : ∃ y_ : List Int, y_ = (y232 ++ l1_0) := ⟨_, rfl⟩
   replace H : ((some (([] : List Int) : List Int)).bind fun y238 => (if y238.length + l1_1.length < 140737488355328 then ((some (y238 ++ l1_1 : List Int)).bind fun y241 => ((rope_At.f k y235 y241 a2_2 a2_3).bind fun bt244 => ((heraldref10_At.f k l1_0 l1_1 a2_2 a2_3).bind fun bt251 => ((heraldlaw10_same.f k bt244.1 bt251.1).bind fun t258 => (if t258 = true then ((heraldlaw10_same.f k bt244.2.1 bt251.2.1).bind fun t259 => (if t259 = true then (heraldlaw10_RopeRows.j0 k l0 y235 y241 bt244.1 (bt244.2.2 != bt251.2.2) l1_0 l1_1 a2_0 a2_1 a2_2 a2_3) else (heraldlaw10_RopeRows.j0 k l0 y235 y241 bt244.1 true l1_0 l1_1 a2_0 a2_1 a2_2 a2_3))) else (heraldlaw10_RopeRows.j0 k l0 y235 y241 bt244.1 true l1_0 l1_1 a2_0 a2_1 a2_2 a2_3)))))) else (none))) = some r := by first | (rw [hy235]; with_reducible exact H) | (have H2_ := (Option.bind_some _ _).symm.trans H; rw [hy235]; with_reducible exact H2_) | (have H2_ := (Option.bind_some _ _).symm.trans H; with_reducible exact H2_) | with_reducible exact H | (rw [hy235]; exact H) | exact H
   have Ny235 := ym hy235
   clear hy235
   obtain ⟨y238, hy238⟩ : ∃ y_ : List Int, y_ = (([] : List Int)) := ⟨_, rfl⟩
   replace H : (if y238.length + l1_1.length < 140737488355328 then ((some (y238 ++ l1_1 : List Int)).bind fun y241 => ((rope_At.f k y235 y241 a2_2 a2_3).bind fun bt244 => ((heraldref10_At.f k l1_0 l1_1 a2_2 a2_3).bind fun bt251 => ((heraldlaw10_same.f k bt244.1 bt251.1).bind fun t258 => (if t258 = true then ((heraldlaw10_same.f k bt244.2.1 bt251.2.1).bind fun t259 => (if t259 = true then (heraldlaw10_RopeRows.j0 k l0 y235 y241 bt244.1 (bt244.2.2 != bt251.2.2) l1_0 l1_1 a2_0 a2_1 a2_2 a2_3) else (heraldlaw10_RopeRows.j0 k l0 y235 y241 bt244.1 true l1_0 l1_1 a2_0 a2_1 a2_2 a2_3))) else (heraldlaw10_RopeRows.j0 k l0 y235 y241 bt244.1 true l1_0 l1_1 a2_0 a2_1 a2_2 a2_3)))))) else (none)) = some r := by first | (rw [hy238]; with_reducible exact H) | (have H2_ := (Option.bind_some _ _).symm.trans H; rw [hy238]; with_reducible exact H2_) | (have H2_ := (Option.bind_some _ _).symm.trans H; with_reducible exact H2_) | with_reducible exact H | (rw [hy238]; exact H) | exact H
   have Ny238 := ym hy238
   clear hy238
   by_cases c7 : y238.length + l1_1.length < 140737488355328
   ·
    rw [if_pos c7] at H
    have LMc7 := ym c7
    clear c7
    obtain ⟨y241, hy241⟩ : ∃ y_ : List Int, y_ = (y238 ++ l1_1) := ⟨_, rfl⟩
    replace H : ((rope_At.f k y235 y241 a2_2 a2_3).bind fun bt244 => ((heraldref10_At.f k l1_0 l1_1 a2_2 a2_3).bind fun bt251 => ((heraldlaw10_same.f k bt244.1 bt251.1).bind fun t258 => (if t258 = true then ((heraldlaw10_same.f k bt244.2.1 bt251.2.1).bind fun t259 => (if t259 = true then (heraldlaw10_RopeRows.j0 k l0 y235 y241 bt244.1 (bt244.2.2 != bt251.2.2) l1_0 l1_1 a2_0 a2_1 a2_2 a2_3) else (heraldlaw10_RopeRows.j0 k l0 y235 y241 bt244.1 true l1_0 l1_1 a2_0 a2_1 a2_2 a2_3))) else (heraldlaw10_RopeRows.j0 k l0 y235 y241 bt244.1 true l1_0 l1_1 a2_0 a2_1 a2_2 a2_3))))) = some r := by first | (rw [hy241]; with_reducible exact H) | (have H2_ := (Option.bind_some _ _).symm.trans H; rw [hy241]; with_reducible exact H2_) | (have H2_ := (Option.bind_some _ _).symm.trans H; with_reducible exact H2_) | with_reducible exact H | (rw [hy241]; exact H) | exact H
    have Ny241 := ym hy241
    clear hy241
    replace H := Option.bind_eq_some_iff.mp H
    obtain ⟨⟨t244, t245, t246⟩, A80, H⟩ := H
    replace H : ((heraldref10_At.f k l1_0 l1_1 a2_2 a2_3).bind fun bt251 => ((heraldlaw10_same.f k t244 bt251.1).bind fun t258 => (if t258 = true then ((heraldlaw10_same.f k t245 bt251.2.1).bind fun t259 => (if t259 = true then (heraldlaw10_RopeRows.j0 k l0 y235 y241 t244 (t246 != bt251.2.2) l1_0 l1_1 a2_0 a2_1 a2_2 a2_3) else (heraldlaw10_RopeRows.j0 k l0 y235 y241 t244 true l1_0 l1_1 a2_0 a2_1 a2_2 a2_3))) else (heraldlaw10_RopeRows.j0 k l0 y235 y241 t244 true l1_0 l1_1 a2_0 a2_1 a2_2 a2_3)))) = some r := H
    have A8 := ym A80
    clear A80
    replace H := Option.bind_eq_some_iff.mp H
    obtain ⟨⟨t251, t254, t257⟩, A90, H⟩ := H
    replace H : ((heraldlaw10_same.f k t244 t251).bind fun t258 => (if t258 = true then ((heraldlaw10_same.f k t245 t254).bind fun t259 => (if t259 = true then (heraldlaw10_RopeRows.j0 k l0 y235 y241 t244 (t246 != t257) l1_0 l1_1 a2_0 a2_1 a2_2 a2_3) else (heraldlaw10_RopeRows.j0 k l0 y235 y241 t244 true l1_0 l1_1 a2_0 a2_1 a2_2 a2_3))) else (heraldlaw10_RopeRows.j0 k l0 y235 y241 t244 true l1_0 l1_1 a2_0 a2_1 a2_2 a2_3))) = some r := H
    have A9 := ym A90
    clear A90
    have HC10 := ym H
    clear H
    go_enter Tryd.func8, Tryd.ntmps8
    try go_wp2_with (first | ((with_reducible refine gate_dst (N := 4) rfl ?_); (try (refine gate_guard (by rfl) ?_; dsimp only)); refine box_event ?hg (N := 4) ?hd (cs := #[.slice A1_0 l1_0.length c1_0, .slice A1_1 l1_1.length c1_1]) (t := 24) ?hr ?_; (case hd => rfl); (case hg => rfl); (case hr => first | (go_simp; done) | (go_simp; rfl)); intro gb229 hg w11 hbox hb; have n0_ := ym (yn (by repeat (first | (with_reducible first | exact HB.out | apply y3) | exact HB.out)) hb); have n1_ := ym (hbox); have n2_ := ym ((by rw [hg]; exact (below_size (by repeat (first | (with_reducible first | exact HB.out | apply y3) | exact HB.out))) : w.heap.size ≤ gb229)); have n3_ := n2_; clear HB; have HB := n0_; have BK229 := n1_; have GW229 := n2_; have GE229 := n3_; clear n0_ n1_ n2_ n3_; clear hb hbox hg) | ((with_reducible refine gate_dst (N := 5) rfl ?_); (try (refine gate_guard (by rfl) ?_; dsimp only)); refine box_event ?hg (N := 5) ?hd (cs := #[.int .i64 a2_0, .int .i64 a2_1, .int .i64 a2_2, .int .i64 a2_3]) (t := 44) ?hr ?_; (case hd => rfl); (case hg => rfl); (case hr => first | (go_simp; done) | (go_simp; rfl)); intro gb230 hg w12 hbox hb; have n0_ := ym (yq (g := gb229) (o := .cells #[.slice A1_0 l1_0.length c1_0, .slice A1_1 l1_1.length c1_1] 24 (0, 0)) (by (with_reducible repeat refine y4 ?_); exact BK229.out) hb); have n1_ := ym (yn (by repeat (first | (with_reducible first | exact HB.out | apply y3 | refine ys ?_ GE229.out) | exact HB.out)) hb); have n2_ := ym (hbox); have n3_ := ym ((by rw [hg]; exact (below_size (by repeat (first | (with_reducible first | exact HB.out | apply y3 | refine ys ?_ GE229.out) | exact HB.out))) : w.heap.size ≤ gb230)); have n4_ := n3_; have n5_ := ym ((by rw [hg]; exact Nat.ne_of_lt (blk_lt (g := gb229) (o := .cells #[.slice A1_0 l1_0.length c1_0, .slice A1_1 l1_1.length c1_1] 24 (0, 0)) (by (with_reducible repeat refine y4 ?_); exact BK229.out)) : gb229 ≠ gb230)); have n6_ := ym ((by rw [hg]; exact Nat.ne_of_gt (blk_lt (g := gb229) (o := .cells #[.slice A1_0 l1_0.length c1_0, .slice A1_1 l1_1.length c1_1] 24 (0, 0)) (by (with_reducible repeat refine y4 ?_); exact BK229.out)) : gb230 ≠ gb229)); clear BK229; clear HB; have BK229 := n0_; have HB := n1_; have BK230 := n2_; have GW230 := n3_; have GE230 := n4_; have NB229_230 := n5_; have NB230_229 := n6_; clear n0_ n1_ n2_ n3_ n4_ n5_ n6_; clear hb hbox hg) | ((with_reducible refine gate_callee (f := 10) rfl ?_); refine goesL_ (some 25) rfl rfl Tryd.func10 (by kernel_rfl) rfl #[] rfl (by (try simp only [List.map_toArray, List.map_cons, List.map_nil]); first | done | rfl | (simp only [List.length_drop, List.length_take]; rfl)) ?_; (with_reducible refine (heraldlaw10_awake.calls k  true _ A4.out (tab_of HTAB.out (by repeat (first | (with_reducible first | exact HB.out | apply y3) | exact HB.out | exact Below.refl _ _)))).mono ?_); rintro e w13 ⟨rfl, hb⟩; refine ⟨_, rfl, ?_⟩; have n0_ := ym (yq (g := gb229) (o := .cells #[.slice A1_0 l1_0.length c1_0, .slice A1_1 l1_1.length c1_1] 24 (0, 0)) (by (with_reducible repeat refine y4 ?_); exact BK229.out) hb); have n1_ := ym (yq (g := gb230) (o := .cells #[.int .i64 a2_0, .int .i64 a2_1, .int .i64 a2_2, .int .i64 a2_3] 44 (0, 0)) (by (with_reducible repeat refine y4 ?_); exact BK230.out) hb); have n2_ := ym (yn (by repeat (first | (with_reducible first | exact HB.out | apply y3 | refine ys ?_ GE229.out | refine ys ?_ GE230.out) | exact HB.out)) hb); clear BK229; clear BK230; clear HB; have BK229 := n0_; have BK230 := n1_; have HB := n2_; clear n0_ n1_ n2_; (try clear hb); (try clear hb2); (try clear hk); (try clear hi)))
    have n0_ := ym (yt BK229.out)
    have n1_ := ym (yt BK230.out)
    have n2_ := ym (ye HB.out)
    clear BK229
    clear BK230
    clear HB
    have BK229 := n0_
    have BK230 := n1_
    have HB := n2_
    clear n0_ n1_ n2_
    refine start_ (n := 10) (S := fun w' => w'.cell? ⟨gb229, 0, none⟩ = some (.slice A1_0 l1_0.length c1_0) ∧ w'.cell? ⟨gb229, 1, none⟩ = some (.slice A1_1 l1_1.length c1_1)) (ds := []) #[false, false, false, false, false, false, false, false, false, false] (by kernel_rfl) rfl rfl ⟨(yw BK229.out 0).trans rfl, (yw BK229.out 1).trans rfl⟩ (fun hHeld => ?_); refine with_tabW heraldlaw10_RopeRows.tab3 heraldlaw10_RopeRows.bits3 (fun HT_ HW_ => ?_)
    generalize w13.drew = w14 at BK229 BK230 HB hHeld ⊢
    refine pure_ (i := 1) (N := some 28) (v := ?_) (a' := ?_) #[false, true, false, false, false, false, false, false, false, false] rfl rfl (any_of HT_.out (by kernel_rfl)) (fun _ _ _ h => h) (Or.inl ⟨by rfl, ?_⟩) ?_ ?_
    rotate_left
    ·
     intro w'
     go_simp
     with_reducible rfl
    rotate_left
    ·
     simp only [Act.put, y0, y1]
     rfl
    refine pure_ (i := 5) (N := some 32) (v := ?_) (a' := ?_) #[false, true, false, false, false, true, false, false, false, false] rfl rfl (any_of HT_.out (by kernel_rfl)) (fun _ _ _ h => h) (Or.inl ⟨by rfl, ?_⟩) ?_ ?_
    rotate_left
    ·
     intro w'
     go_simp
     with_reducible rfl
    rotate_left
    ·
     simp only [Act.put, y0, y1]
     rfl
    refine take_ (i := 2) (N := some 29) (v := ?_) (a' := ?_) #[false, true, true, false, false, true, false, false, false, false] rfl rfl (take_ofW HT_.out HW_.out (by kernel_rfl)) (fun _ _ _ h => h) (Or.inl ⟨by rfl, ?_⟩) hHeld ?_ ?_
    rotate_left
    ·
     rintro w' ⟨s0, s1⟩
     go_simp
     with_reducible rfl
    rotate_left
    ·
     simp only [Act.put, y0, y1]
     rfl
    refine take_ (i := 6) (N := some 33) (v := ?_) (a' := ?_) #[false, true, true, false, false, true, true, false, false, false] rfl rfl (take_ofW HT_.out HW_.out (by kernel_rfl)) (fun _ _ _ h => h) (Or.inl ⟨by rfl, ?_⟩) hHeld ?_ ?_
    rotate_left
    ·
     rintro w' ⟨s0, s1⟩
     go_simp
     with_reducible rfl
    rotate_left
    ·
     simp only [Act.put, y0, y1]
     rfl
    refine join_ (σ := Value × Value × Value) 3 #[true, true, true, true, true, true, true, false, false, false] (fun s_ => [(27, s_.1), (30, s_.2.1), (31, s_.2.2)]) (fun s_ w' => (w'.cell? ⟨gb229, 0, none⟩ = some (.slice A1_0 l1_0.length c1_0) ∧ w'.cell? ⟨gb229, 1, none⟩ = some (.slice A1_1 l1_1.length c1_1)) ∧ (Kd.R (Kd.int .i8) 33 w' w.heap.size (fun k_ => some k_ ≠ (s_.2.2 : Value).ownBlock) s_.2.1 y235) ∧ (Kd.R (Kd.int .i8) 33 w' w.heap.size (fun k_ => some k_ ≠ (s_.2.1 : Value).ownBlock) s_.2.2 y238) ∧ (w'.heap[gb229]? = some (.cells #[.slice A1_0 l1_0.length c1_0, .slice A1_1 l1_1.length c1_1] 24 (0, 0))) ∧ (w'.heap[gb230]? = some (.cells #[.int .i64 a2_0, .int .i64 a2_1, .int .i64 a2_2, .int .i64 a2_3] 44 (0, 0))) ∧ (Below w.heap.size w w')) ?_ ?_
    rotate_left
    ·
     intro hCont
     refine two_ (i := 0) (j := 4) (Ni := some 27) (Nj := some 31) #[true, true, true, false, false, true, true, false, false, false] #[false, true, true, false, true, true, true, false, false, false] rfl rfl rfl rfl (two_of HT_.out (by kernel_rfl)) (by decide) (by decide) (fun K hK => ?_) (fun K hK => ?_)
     ·
      skip
      refine Kd.R_lit_step (Kd.int .i8) _ 33 ?hg (N := 27) ?hd (xs := ([] : List Int)) (inner := []) (ok := fun _ => True) (okp := fun _ => True) ?hr ?hp (fun _ hk => hk) trivial (Below.refl _ _) (Nat.le_refl _) (by simp) ?_; (case hd => rfl); (case hg => rfl); (case hr => first | (go_simp; done) | (go_simp; rfl)); (case hp => exact (Reps.none _ _))
      intro v233 w15 ho16 hb hg_ hnew_
      clear hg_ hnew_
      (first | rw [← Ny232.out] at ho16 | (simp only [Int.reduceToNat] at ho16; rw [← Ny232.out] at ho16))
      have n0_ := ym (yo ho16 (below_size (by repeat (first | (with_reducible first | exact HB.out | apply y3 | refine ys ?_ GE229.out | refine ys ?_ GE230.out) | exact HB.out))))
      have n1_ := ym (yq (g := gb229) (o := .cells #[.slice A1_0 l1_0.length c1_0, .slice A1_1 l1_1.length c1_1] 24 (0, 0)) (by (with_reducible repeat refine y4 ?_); exact BK229.out) hb)
      have n2_ := ym (yq (g := gb230) (o := .cells #[.int .i64 a2_0, .int .i64 a2_1, .int .i64 a2_2, .int .i64 a2_3] 44 (0, 0)) (by (with_reducible repeat refine y4 ?_); exact BK230.out) hb)
      have n3_ := ym (yn (by repeat (first | (with_reducible first | exact HB.out | apply y3 | refine ys ?_ GE229.out | refine ys ?_ GE230.out) | exact HB.out)) hb)
      clear BK229
      clear BK230
      clear HB
      have HO234 := n0_
      have BK229 := n1_
      have BK230 := n2_
      have HB := n3_
      clear n0_ n1_ n2_ n3_
      clear hb ho16
      refine hK.out _ _ ⟨(yw BK229.out 0).trans rfl, (yw BK229.out 1).trans rfl⟩ (fun hHeld => ?_)
      clear hK K
      refine norm_ (a' := ?_) ?_ ?_
      rotate_left
      ·
       show Act.put _ (some 27) _ = _
       simp only [Act.put, y0, y1]
       rfl
      refine two_ (i := 3) (j := 4) (Ni := some 30) (Nj := some 31) #[true, true, true, true, false, true, true, false, false, false] #[true, true, true, false, true, true, true, false, false, false] rfl rfl rfl rfl (two_of HT_.out (by kernel_rfl)) (by decide) (by decide) (fun K hK => ?_) (fun K hK => ?_)
      ·
       skip
       refine Kd.R_append_rows_step (Kd.int .i8) (w0 := w) w.heap.size (by rfl) (.tmp 27) (.tmp 29) 22 33 (.int .i8 0) 1 rfl Tryd.underlying22 info33 rfl (by decide) (by omega) v233 y232 l1_0 _ _ _ (fun _ => True) (fun _ => False) rfl rfl ?aO ?aR (fun _ _ h => h) (fun _ h => h.elim) ?aF ?aB ?aS ?aL ?_
       (case aR => repeat (first | exact (Kd.C_below HR1_0.out HB.out) | (with_reducible refine yi ?_ _) | (with_reducible refine yj ?_ _) | (with_reducible refine yk ?_)))
       (case aB => exact (by repeat (first | (with_reducible first | exact HB.out | apply y3 | refine ys ?_ GE229.out | refine ys ?_ GE230.out) | exact HB.out)))
       (case aF => exact (fun _ _ => trivial))
       (case aO => exact (by (with_reducible repeat apply y2); exact HO234.out))
       (case aS => exact (below_size (by repeat (first | (with_reducible first | exact HB.out | apply y3 | refine ys ?_ GE229.out | refine ys ?_ GE230.out) | exact HB.out))))
       (case aL => have := LMc6.out; omega)
       intro v236 w17 ho hb hg hat
       rw [← Ny235.out] at ho
       have n0_ := ym (blk_grown (g := gb229) (o := .cells #[.slice A1_0 l1_0.length c1_0, .slice A1_1 l1_1.length c1_1] 24 (0, 0)) (by (with_reducible repeat refine y4 ?_); exact BK229.out) hg (Kd.R_ne HO234.out BK229.out (by decide)))
       have n1_ := ym (blk_grown (g := gb230) (o := .cells #[.int .i64 a2_0, .int .i64 a2_1, .int .i64 a2_2, .int .i64 a2_3] 44 (0, 0)) (by (with_reducible repeat refine y4 ?_); exact BK230.out) hg (Kd.R_ne HO234.out BK230.out (by decide)))
       have n2_ := ym (hb)
       have n3_ := ym (ho)
       clear BK229
       clear BK230
       clear HB
       clear HO234
       have BK229 := n0_
       have BK230 := n1_
       have HB := n2_
       have HO237 := n3_
       clear n0_ n1_ n2_ n3_
       clear ho hb hg hat
       refine hK.out _ _ ⟨(yw BK229.out 0).trans rfl, (yw BK229.out 1).trans rfl⟩ (fun hHeld => ?_)
       clear hK K
       refine norm_ (a' := ?_) ?_ ?_
       rotate_left
       ·
        show Act.put _ (some 30) _ = _
        simp only [Act.put, y0, y1]
        rfl
       refine one_ (i := 4) (N := some 31) #[true, true, true, true, true, true, true, false, false, false] rfl rfl (one_of HT_.out (by kernel_rfl)) (by decide) (fun K hK => ?_)
       refine Kd.R_lit_step (Kd.int .i8) _ 33 ?hg (N := 31) ?hd (xs := ([] : List Int)) (inner := []) (ok := fun _ => True) (okp := fun _ => True) ?hr ?hp (fun _ hk => hk) trivial (Below.refl _ _) (Nat.le_refl _) (by simp) ?_; (case hd => rfl); (case hg => rfl); (case hr => first | (go_simp; done) | (go_simp; rfl)); (case hp => exact (Reps.none _ _))
       intro v239 w18 ho19 hb hg_ hnew_
       clear hg_ hnew_
       (first | rw [← Ny238.out] at ho19 | (simp only [Int.reduceToNat] at ho19; rw [← Ny238.out] at ho19))
       have n0_ := ym (Kd.R_elder' (by (with_reducible repeat apply y2); exact HO237.out) (Kd.R_base ho19) hb)
       have n1_ := ym (yo (Kd.R_new' ho19 (Kd.R_lt (by (with_reducible repeat apply y2); exact HO237.out))) (below_size (by repeat (first | (with_reducible first | exact HB.out | apply y3 | refine ys ?_ GE229.out | refine ys ?_ GE230.out) | exact HB.out))))
       have n2_ := ym (yq (g := gb229) (o := .cells #[.slice A1_0 l1_0.length c1_0, .slice A1_1 l1_1.length c1_1] 24 (0, 0)) (by (with_reducible repeat refine y4 ?_); exact BK229.out) hb)
       have n3_ := ym (yq (g := gb230) (o := .cells #[.int .i64 a2_0, .int .i64 a2_1, .int .i64 a2_2, .int .i64 a2_3] 44 (0, 0)) (by (with_reducible repeat refine y4 ?_); exact BK230.out) hb)
       have n4_ := ym (yn (by repeat (first | (with_reducible first | exact HB.out | apply y3 | refine ys ?_ GE229.out | refine ys ?_ GE230.out) | exact HB.out)) hb)
       clear HO237
       clear BK229
       clear BK230
       clear HB
       have HO237 := n0_
       have HO240 := n1_
       have BK229 := n2_
       have BK230 := n3_
       have HB := n4_
       clear n0_ n1_ n2_ n3_ n4_
       clear hb ho19
       refine hK.out _ _ ⟨(yw BK229.out 0).trans rfl, (yw BK229.out 1).trans rfl⟩ (fun hHeld => ?_)
       clear hK K
       refine norm_ (a' := ?_) ?_ ?_
       rotate_left
       ·
        show Act.put _ (some 31) _ = _
        simp only [Act.put, y0, y1]
        rfl
       exact norm_ (by simp only [putAll, Act.put, y0]) (hCont (v233, v236, v239) _ ⟨hHeld, (by (with_reducible repeat apply y2); exact Kd.R_mono HO237.out (fun _ hk => hk.2)), (by (with_reducible repeat apply y2); exact Kd.R_mono HO240.out (fun _ hk => hk.2)), (by (with_reducible repeat refine y4 ?_); exact BK229.out), (by (with_reducible repeat refine y4 ?_); exact BK230.out), (by repeat (first | (with_reducible first | exact HB.out | apply y3 | refine ys ?_ GE229.out | refine ys ?_ GE230.out) | exact HB.out))⟩)
      ·
       skip
       refine Kd.R_lit_step (Kd.int .i8) _ 33 ?hg (N := 31) ?hd (xs := ([] : List Int)) (inner := []) (ok := fun _ => True) (okp := fun _ => True) ?hr ?hp (fun _ hk => hk) trivial (Below.refl _ _) (Nat.le_refl _) (by simp) ?_; (case hd => rfl); (case hg => rfl); (case hr => first | (go_simp; done) | (go_simp; rfl)); (case hp => exact (Reps.none _ _))
       intro v239 w17 ho18 hb hg_ hnew_
       clear hg_ hnew_
       (first | rw [← Ny238.out] at ho18 | (simp only [Int.reduceToNat] at ho18; rw [← Ny238.out] at ho18))
       have n0_ := ym (Kd.R_elder' (by (with_reducible repeat apply y2); exact HO234.out) (Kd.R_base ho18) hb)
       have n1_ := ym (yo (Kd.R_new' ho18 (Kd.R_lt (by (with_reducible repeat apply y2); exact HO234.out))) (below_size (by repeat (first | (with_reducible first | exact HB.out | apply y3 | refine ys ?_ GE229.out | refine ys ?_ GE230.out) | exact HB.out))))
       have n2_ := ym (yq (g := gb229) (o := .cells #[.slice A1_0 l1_0.length c1_0, .slice A1_1 l1_1.length c1_1] 24 (0, 0)) (by (with_reducible repeat refine y4 ?_); exact BK229.out) hb)
       have n3_ := ym (yq (g := gb230) (o := .cells #[.int .i64 a2_0, .int .i64 a2_1, .int .i64 a2_2, .int .i64 a2_3] 44 (0, 0)) (by (with_reducible repeat refine y4 ?_); exact BK230.out) hb)
       have n4_ := ym (yn (by repeat (first | (with_reducible first | exact HB.out | apply y3 | refine ys ?_ GE229.out | refine ys ?_ GE230.out) | exact HB.out)) hb)
       clear HO234
       clear BK229
       clear BK230
       clear HB
       have HO234 := n0_
       have HO240 := n1_
       have BK229 := n2_
       have BK230 := n3_
       have HB := n4_
       clear n0_ n1_ n2_ n3_ n4_
       clear hb ho18
       refine hK.out _ _ ⟨(yw BK229.out 0).trans rfl, (yw BK229.out 1).trans rfl⟩ (fun hHeld => ?_)
       clear hK K
       refine norm_ (a' := ?_) ?_ ?_
       rotate_left
       ·
        show Act.put _ (some 31) _ = _
        simp only [Act.put, y0, y1]
        rfl
       refine one_ (i := 3) (N := some 30) #[true, true, true, true, true, true, true, false, false, false] rfl rfl (one_of HT_.out (by kernel_rfl)) (by decide) (fun K hK => ?_)
       refine Kd.R_append_rows_step (Kd.int .i8) (w0 := w) w.heap.size (by rfl) (.tmp 27) (.tmp 29) 22 33 (.int .i8 0) 1 rfl Tryd.underlying22 info33 rfl (by decide) (by omega) v233 y232 l1_0 _ _ _ (fun k_ => some k_ ≠ (v239 : Value).ownBlock) (fun _ => False) rfl rfl ?aO ?aR (fun _ _ h => h) (fun _ h => h.elim) ?aF ?aB ?aS ?aL ?_
       (case aR => repeat (first | exact (Kd.C_below HR1_0.out HB.out) | (with_reducible refine yi ?_ _) | (with_reducible refine yj ?_ _) | (with_reducible refine yk ?_)))
       (case aB => exact (by repeat (first | (with_reducible first | exact HB.out | apply y3 | refine ys ?_ GE229.out | refine ys ?_ GE230.out) | exact HB.out)))
       (case aF => exact (fun k_ hk => Kd.fresh' (Kd.R_lt (by (with_reducible repeat apply y2); exact HO240.out)) k_ hk))
       (case aO => exact (by (with_reducible repeat apply y2); exact Kd.R_mono HO234.out (fun _ hk => hk.2)))
       (case aS => exact (below_size (by repeat (first | (with_reducible first | exact HB.out | apply y3 | refine ys ?_ GE229.out | refine ys ?_ GE230.out) | exact HB.out))))
       (case aL => have := LMc6.out; omega)
       intro v236 w19 ho hb hg hat
       rw [← Ny235.out] at ho
       have n0_ := ym (blk_grown (g := gb229) (o := .cells #[.slice A1_0 l1_0.length c1_0, .slice A1_1 l1_1.length c1_1] 24 (0, 0)) (by (with_reducible repeat refine y4 ?_); exact BK229.out) hg (Kd.R_ne HO234.out BK229.out (by decide)))
       have n1_ := ym (blk_grown (g := gb230) (o := .cells #[.int .i64 a2_0, .int .i64 a2_1, .int .i64 a2_2, .int .i64 a2_3] 44 (0, 0)) (by (with_reducible repeat refine y4 ?_); exact BK230.out) hg (Kd.R_ne HO234.out BK230.out (by decide)))
       have n2_ := ym (Kd.R_after (ok := (fun _ => True)) (by (with_reducible repeat apply y2); exact HO240.out) hg hat)
       have n3_ := ym (hb)
       have n4_ := ym (ho)
       clear BK229
       clear BK230
       clear HO240
       clear HB
       clear HO234
       have BK229 := n0_
       have BK230 := n1_
       have HO240 := n2_
       have HB := n3_
       have HO237 := n4_
       clear n0_ n1_ n2_ n3_ n4_
       clear ho hb hg hat
       refine hK.out _ _ ⟨(yw BK229.out 0).trans rfl, (yw BK229.out 1).trans rfl⟩ (fun hHeld => ?_)
       clear hK K
       refine norm_ (a' := ?_) ?_ ?_
       rotate_left
       ·
        show Act.put _ (some 30) _ = _
        simp only [Act.put, y0, y1]
        rfl
       exact norm_ (by simp only [putAll, Act.put, y0]) (hCont (v233, v236, v239) _ ⟨hHeld, (by (with_reducible repeat apply y2); exact HO237.out), (by (with_reducible repeat apply y2); exact Kd.R_mono HO240.out (fun _ hk => hk.2)), (by (with_reducible repeat refine y4 ?_); exact BK229.out), (by (with_reducible repeat refine y4 ?_); exact BK230.out), (by repeat (first | (with_reducible first | exact HB.out | apply y3 | refine ys ?_ GE229.out | refine ys ?_ GE230.out) | exact HB.out))⟩)
     ·
      skip
      refine Kd.R_lit_step (Kd.int .i8) _ 33 ?hg (N := 31) ?hd (xs := ([] : List Int)) (inner := []) (ok := fun _ => True) (okp := fun _ => True) ?hr ?hp (fun _ hk => hk) trivial (Below.refl _ _) (Nat.le_refl _) (by simp) ?_; (case hd => rfl); (case hg => rfl); (case hr => first | (go_simp; done) | (go_simp; rfl)); (case hp => exact (Reps.none _ _))
      intro v239 w15 ho16 hb hg_ hnew_
      clear hg_ hnew_
      (first | rw [← Ny238.out] at ho16 | (simp only [Int.reduceToNat] at ho16; rw [← Ny238.out] at ho16))
      have n0_ := ym (yo ho16 (below_size (by repeat (first | (with_reducible first | exact HB.out | apply y3 | refine ys ?_ GE229.out | refine ys ?_ GE230.out) | exact HB.out))))
      have n1_ := ym (yq (g := gb229) (o := .cells #[.slice A1_0 l1_0.length c1_0, .slice A1_1 l1_1.length c1_1] 24 (0, 0)) (by (with_reducible repeat refine y4 ?_); exact BK229.out) hb)
      have n2_ := ym (yq (g := gb230) (o := .cells #[.int .i64 a2_0, .int .i64 a2_1, .int .i64 a2_2, .int .i64 a2_3] 44 (0, 0)) (by (with_reducible repeat refine y4 ?_); exact BK230.out) hb)
      have n3_ := ym (yn (by repeat (first | (with_reducible first | exact HB.out | apply y3 | refine ys ?_ GE229.out | refine ys ?_ GE230.out) | exact HB.out)) hb)
      clear BK229
      clear BK230
      clear HB
      have HO240 := n0_
      have BK229 := n1_
      have BK230 := n2_
      have HB := n3_
      clear n0_ n1_ n2_ n3_
      clear hb ho16
      refine hK.out _ _ ⟨(yw BK229.out 0).trans rfl, (yw BK229.out 1).trans rfl⟩ (fun hHeld => ?_)
      clear hK K
      refine norm_ (a' := ?_) ?_ ?_
      rotate_left
      ·
       show Act.put _ (some 31) _ = _
       simp only [Act.put, y0, y1]
       rfl
      refine one_ (i := 0) (N := some 27) #[true, true, true, false, true, true, true, false, false, false] rfl rfl (one_of HT_.out (by kernel_rfl)) (by decide) (fun K hK => ?_)
      refine Kd.R_lit_step (Kd.int .i8) _ 33 ?hg (N := 27) ?hd (xs := ([] : List Int)) (inner := []) (ok := fun _ => True) (okp := fun _ => True) ?hr ?hp (fun _ hk => hk) trivial (Below.refl _ _) (Nat.le_refl _) (by simp) ?_; (case hd => rfl); (case hg => rfl); (case hr => first | (go_simp; done) | (go_simp; rfl)); (case hp => exact (Reps.none _ _))
      intro v233 w17 ho18 hb hg_ hnew_
      clear hg_ hnew_
      (first | rw [← Ny232.out] at ho18 | (simp only [Int.reduceToNat] at ho18; rw [← Ny232.out] at ho18))
      have n0_ := ym (Kd.R_elder' (by (with_reducible repeat apply y2); exact HO240.out) (Kd.R_base ho18) hb)
      have n1_ := ym (yo (Kd.R_new' ho18 (Kd.R_lt (by (with_reducible repeat apply y2); exact HO240.out))) (below_size (by repeat (first | (with_reducible first | exact HB.out | apply y3 | refine ys ?_ GE229.out | refine ys ?_ GE230.out) | exact HB.out))))
      have n2_ := ym (yq (g := gb229) (o := .cells #[.slice A1_0 l1_0.length c1_0, .slice A1_1 l1_1.length c1_1] 24 (0, 0)) (by (with_reducible repeat refine y4 ?_); exact BK229.out) hb)
      have n3_ := ym (yq (g := gb230) (o := .cells #[.int .i64 a2_0, .int .i64 a2_1, .int .i64 a2_2, .int .i64 a2_3] 44 (0, 0)) (by (with_reducible repeat refine y4 ?_); exact BK230.out) hb)
      have n4_ := ym (yn (by repeat (first | (with_reducible first | exact HB.out | apply y3 | refine ys ?_ GE229.out | refine ys ?_ GE230.out) | exact HB.out)) hb)
      clear HO240
      clear BK229
      clear BK230
      clear HB
      have HO240 := n0_
      have HO234 := n1_
      have BK229 := n2_
      have BK230 := n3_
      have HB := n4_
      clear n0_ n1_ n2_ n3_ n4_
      clear hb ho18
      refine hK.out _ _ ⟨(yw BK229.out 0).trans rfl, (yw BK229.out 1).trans rfl⟩ (fun hHeld => ?_)
      clear hK K
      refine norm_ (a' := ?_) ?_ ?_
      rotate_left
      ·
       show Act.put _ (some 27) _ = _
       simp only [Act.put, y0, y1]
       rfl
      refine one_ (i := 3) (N := some 30) #[true, true, true, true, true, true, true, false, false, false] rfl rfl (one_of HT_.out (by kernel_rfl)) (by decide) (fun K hK => ?_)
      refine Kd.R_append_rows_step (Kd.int .i8) (w0 := w) w.heap.size (by rfl) (.tmp 27) (.tmp 29) 22 33 (.int .i8 0) 1 rfl Tryd.underlying22 info33 rfl (by decide) (by omega) v233 y232 l1_0 _ _ _ (fun k_ => some k_ ≠ (v239 : Value).ownBlock) (fun _ => False) rfl rfl ?aO ?aR (fun _ _ h => h) (fun _ h => h.elim) ?aF ?aB ?aS ?aL ?_
      (case aR => repeat (first | exact (Kd.C_below HR1_0.out HB.out) | (with_reducible refine yi ?_ _) | (with_reducible refine yj ?_ _) | (with_reducible refine yk ?_)))
      (case aB => exact (by repeat (first | (with_reducible first | exact HB.out | apply y3 | refine ys ?_ GE229.out | refine ys ?_ GE230.out) | exact HB.out)))
      (case aF => exact (fun k_ hk => Kd.fresh' (Kd.R_lt (by (with_reducible repeat apply y2); exact HO240.out)) k_ hk))
      (case aO => exact (by (with_reducible repeat apply y2); exact Kd.R_mono HO234.out (fun _ hk => hk.2)))
      (case aS => exact (below_size (by repeat (first | (with_reducible first | exact HB.out | apply y3 | refine ys ?_ GE229.out | refine ys ?_ GE230.out) | exact HB.out))))
      (case aL => have := LMc6.out; omega)
      intro v236 w19 ho hb hg hat
      rw [← Ny235.out] at ho
      have n0_ := ym (blk_grown (g := gb229) (o := .cells #[.slice A1_0 l1_0.length c1_0, .slice A1_1 l1_1.length c1_1] 24 (0, 0)) (by (with_reducible repeat refine y4 ?_); exact BK229.out) hg (Kd.R_ne HO234.out BK229.out (by decide)))
      have n1_ := ym (blk_grown (g := gb230) (o := .cells #[.int .i64 a2_0, .int .i64 a2_1, .int .i64 a2_2, .int .i64 a2_3] 44 (0, 0)) (by (with_reducible repeat refine y4 ?_); exact BK230.out) hg (Kd.R_ne HO234.out BK230.out (by decide)))
      have n2_ := ym (Kd.R_after (ok := (fun _ => True)) (by (with_reducible repeat apply y2); exact HO240.out) hg hat)
      have n3_ := ym (hb)
      have n4_ := ym (ho)
      clear BK229
      clear BK230
      clear HO240
      clear HB
      clear HO234
      have BK229 := n0_
      have BK230 := n1_
      have HO240 := n2_
      have HB := n3_
      have HO237 := n4_
      clear n0_ n1_ n2_ n3_ n4_
      clear ho hb hg hat
      refine hK.out _ _ ⟨(yw BK229.out 0).trans rfl, (yw BK229.out 1).trans rfl⟩ (fun hHeld => ?_)
      clear hK K
      refine norm_ (a' := ?_) ?_ ?_
      rotate_left
      ·
       show Act.put _ (some 30) _ = _
       simp only [Act.put, y0, y1]
       rfl
      exact norm_ (by simp only [putAll, Act.put, y0]) (hCont (v233, v236, v239) _ ⟨hHeld, (by (with_reducible repeat apply y2); exact HO237.out), (by (with_reducible repeat apply y2); exact Kd.R_mono HO240.out (fun _ hk => hk.2)), (by (with_reducible repeat refine y4 ?_); exact BK229.out), (by (with_reducible repeat refine y4 ?_); exact BK230.out), (by repeat (first | (with_reducible first | exact HB.out | apply y3 | refine ys ?_ GE229.out | refine ys ?_ GE230.out) | exact HB.out))⟩)
    rintro ⟨v233, v236, v239⟩ w20 ⟨hS_, h0_, h1_, h2_, h3_, h4_⟩
    have n0_ : Aside0 (Kd.R (Kd.int .i8) 33 w20 w.heap.size (fun k_ => some k_ ≠ (v239 : Value).ownBlock) v236 y235) := ⟨h0_⟩
    have n1_ : Aside0 (Kd.R (Kd.int .i8) 33 w20 w.heap.size (fun k_ => some k_ ≠ (v236 : Value).ownBlock) v239 y238) := ⟨h1_⟩
    have n2_ : Aside0 (w20.heap[gb229]? = some (.cells #[.slice A1_0 l1_0.length c1_0, .slice A1_1 l1_1.length c1_1] 24 (0, 0))) := ⟨h2_⟩
    have n3_ : Aside0 (w20.heap[gb230]? = some (.cells #[.int .i64 a2_0, .int .i64 a2_1, .int .i64 a2_2, .int .i64 a2_3] 44 (0, 0))) := ⟨h3_⟩
    have n4_ : Aside0 (Below w.heap.size w w20) := ⟨h4_⟩
    clear BK229
    clear BK230
    clear HB
    clear h0_ h1_ h2_ h3_ h4_
    have HO237 := n0_
    have HO240 := n1_
    have BK229 := n2_
    have BK230 := n3_
    have HB := n4_
    clear n0_ n1_ n2_ n3_ n4_
    have hHeld : w20.cell? ⟨gb229, 0, none⟩ = some (.slice A1_0 l1_0.length c1_0) ∧ w20.cell? ⟨gb229, 1, none⟩ = some (.slice A1_1 l1_1.length c1_1) := hS_
    refine norm_ (a' := ?_) ?_ ?_
    rotate_left
    ·
     simp only [putAll, Act.put, y0]
     rfl
    refine one_ (i := 7) (N := some 34) #[true, true, true, true, true, true, true, true, false, false] rfl rfl (one_of HT_.out (by kernel_rfl)) (by decide) (fun K hK => ?_)
    refine Kd.R_append_rows_step (Kd.int .i8) (w0 := w) w.heap.size (by rfl) (.tmp 31) (.tmp 33) 22 33 (.int .i8 0) 1 rfl Tryd.underlying22 info33 rfl (by decide) (by omega) v239 y238 l1_1 _ _ _ (fun k_ => some k_ ≠ (v236 : Value).ownBlock) (fun _ => False) rfl rfl ?aO ?aR (fun _ _ h => h) (fun _ h => h.elim) ?aF ?aB ?aS ?aL ?_
    (case aR => repeat (first | exact (Kd.C_below HR1_1.out HB.out) | (with_reducible refine yi ?_ _) | (with_reducible refine yj ?_ _) | (with_reducible refine yk ?_)))
    (case aB => exact (by repeat (first | (with_reducible first | exact HB.out | apply y3 | refine ys ?_ GE229.out | refine ys ?_ GE230.out) | exact HB.out)))
    (case aF => exact (fun k_ hk => Kd.fresh' (Kd.R_lt (by (with_reducible repeat apply y2); exact HO237.out)) k_ hk))
    (case aO => exact (by (with_reducible repeat apply y2); exact HO240.out))
    (case aS => exact (below_size (by repeat (first | (with_reducible first | exact HB.out | apply y3 | refine ys ?_ GE229.out | refine ys ?_ GE230.out) | exact HB.out))))
    (case aL => have := LMc7.out; omega)
    intro v242 w21 ho hb hg hat
    rw [← Ny241.out] at ho
    have n0_ := ym (blk_grown (g := gb229) (o := .cells #[.slice A1_0 l1_0.length c1_0, .slice A1_1 l1_1.length c1_1] 24 (0, 0)) (by (with_reducible repeat refine y4 ?_); exact BK229.out) hg (Kd.R_ne HO240.out BK229.out (by decide)))
    have n1_ := ym (blk_grown (g := gb230) (o := .cells #[.int .i64 a2_0, .int .i64 a2_1, .int .i64 a2_2, .int .i64 a2_3] 44 (0, 0)) (by (with_reducible repeat refine y4 ?_); exact BK230.out) hg (Kd.R_ne HO240.out BK230.out (by decide)))
    have n2_ := ym (Kd.R_after (ok := (fun _ => True)) (by (with_reducible repeat apply y2); exact Kd.R_mono HO237.out (fun _ hk => ⟨trivial, hk⟩)) hg hat)
    have n3_ := ym (hb)
    have n4_ := ym (ho)
    clear BK229
    clear BK230
    clear HO237
    clear HB
    clear HO240
    have BK229 := n0_
    have BK230 := n1_
    have HO237 := n2_
    have HB := n3_
    have HO243 := n4_
    clear n0_ n1_ n2_ n3_ n4_
    clear ho hb hg hat
    refine hK.out _ _ ⟨(yw BK229.out 0).trans rfl, (yw BK229.out 1).trans rfl⟩ (fun hHeld => ?_)
    clear hK K
    refine norm_ (a' := ?_) ?_ ?_
    rotate_left
    ·
     show Act.put _ (some 34) _ = _
     simp only [Act.put, y0, y1]
     rfl
    refine pure_ (i := 8) (N := some 7) (v := ?_) (a' := ?_) #[true, true, true, true, true, true, true, true, true, false] rfl rfl (any_of HT_.out (by kernel_rfl)) (fun _ _ _ h => h) (Or.inl ⟨by rfl, ?_⟩) ?_ ?_
    rotate_left
    ·
     intro w'
     go_simp
     with_reducible rfl
    rotate_left
    ·
     simp only [Act.put, y0, y1]
     rfl
    refine pure_ (i := 9) (N := some 8) (v := ?_) (a' := ?_) #[true, true, true, true, true, true, true, true, true, true] rfl rfl (any_of HT_.out (by kernel_rfl)) (fun _ _ _ h => h) (Or.inl ⟨by rfl, ?_⟩) ?_ ?_
    rotate_left
    ·
     intro w'
     go_simp
     with_reducible rfl
    rotate_left
    ·
     simp only [Act.put, y0, y1]
     rfl
    refine done_ (done_of HT_.out (by kernel_rfl)) ?_
    have hnb22 := NB230_229.out
    have hnc22 := NB229_230.out
    have hcz23_0 : w21.cell? ⟨gb230, 0, none⟩ = some (.int .i64 a2_0) := (yw BK230.out 0).trans rfl
    have hcz23_1 : w21.cell? ⟨gb230, 1, none⟩ = some (.int .i64 a2_1) := (yw BK230.out 1).trans rfl
    have hcz23_2 : w21.cell? ⟨gb230, 2, none⟩ = some (.int .i64 a2_2) := (yw BK230.out 2).trans rfl
    have hcz23_3 : w21.cell? ⟨gb230, 3, none⟩ = some (.int .i64 a2_3) := (yw BK230.out 3).trans rfl
    have hfz23_0 := yv BK230.out 0
    have hfz23_1 := yv BK230.out 1
    have hfz23_2 := yv BK230.out 2
    have hfz23_3 := yv BK230.out 3
    obtain ⟨Ao24, co24, eo24⟩ := Kd.R_slice HO237.out
    subst eo24
    obtain ⟨Ao25, co25, eo25⟩ := Kd.R_slice HO243.out
    subst eo25
    go_upto_region 6 with (first | ((with_reducible refine gate_callee (f := 20) rfl ?_); refine goesL_ (some 42) rfl rfl Tryd.func20 (by kernel_rfl) rfl #[.slice Ao24 y235.length co24, .slice Ao25 y241.length co25, .int .i64 a2_2, .int .i64 a2_3] rfl (by (try simp only [List.map_toArray, List.map_cons, List.map_nil]); first | done | rfl | (simp only [List.length_drop, List.length_take]; rfl)) ?_; (with_reducible refine (rope_At.calls k _ _ y235 _ _ y241 a2_2 a2_3 t244 t245 t246 _ ?side1 ?side2 ?side3 ?side4 A8.out).mono ?_); (case side1 => repeat (first | exact (Kd.R_reads' HO237.out).2.2 | (with_reducible refine yi ?_ _) | (with_reducible refine yj ?_ _) | (with_reducible refine yk ?_))); (case side2 => exact (Kd.R_reads' HO237.out).2.1); (case side3 => repeat (first | exact (Kd.R_reads' HO243.out).2.2 | (with_reducible refine yi ?_ _) | (with_reducible refine yj ?_ _) | (with_reducible refine yk ?_))); (case side4 => exact (Kd.R_reads' HO243.out).2.1); rintro e w26 ⟨v247, v249, rfl, ho0, ho1, hb⟩; refine ⟨_, rfl, ?_⟩; have n0_ := ym (Kd.R_mono (Kd.R_told (Kd.R_told (Kd.R_old (by (with_reducible repeat apply y2); exact HO237.out) hb) (Kd.R_base ho0)) (Kd.R_base ho1)) (fun _ h_ => h_.1)); have n1_ := ym (Kd.R_mono (Kd.R_told (Kd.R_told (Kd.R_old (by (with_reducible repeat apply y2); exact HO243.out) hb) (Kd.R_base ho0)) (Kd.R_base ho1)) (fun _ h_ => h_.1)); have n2_ := ym (yo (Kd.R_new' (Kd.R_new' ho0 (Kd.R_lt (by (with_reducible repeat apply y2); exact HO237.out))) (Kd.R_lt (by (with_reducible repeat apply y2); exact HO243.out))) (below_size (by repeat (first | (with_reducible first | exact HB.out | apply y3 | refine ys ?_ GE229.out | refine ys ?_ GE230.out) | exact HB.out)))); have n3_ := ym (yo (Kd.R_new' (Kd.R_new' ho1 (Kd.R_lt (by (with_reducible repeat apply y2); exact HO237.out))) (Kd.R_lt (by (with_reducible repeat apply y2); exact HO243.out))) (below_size (by repeat (first | (with_reducible first | exact HB.out | apply y3 | refine ys ?_ GE229.out | refine ys ?_ GE230.out) | exact HB.out)))); have n4_ := ym (yq (g := gb229) (o := .cells #[.slice A1_0 l1_0.length c1_0, .slice A1_1 l1_1.length c1_1] 24 (0, 0)) (by (with_reducible repeat refine y4 ?_); exact BK229.out) hb); have n5_ := ym (yq (g := gb230) (o := .cells #[.int .i64 a2_0, .int .i64 a2_1, .int .i64 a2_2, .int .i64 a2_3] 44 (0, 0)) (by (with_reducible repeat refine y4 ?_); exact BK230.out) hb); have n6_ := ym (yn (by repeat (first | (with_reducible first | exact HB.out | apply y3 | refine ys ?_ GE229.out | refine ys ?_ GE230.out) | exact HB.out)) hb); clear HO237; clear HO243; clear BK229; clear BK230; clear HB; have HO237 := n0_; have HO243 := n1_; have HO248 := n2_; have HO250 := n3_; have BK229 := n4_; have BK230 := n5_; have HB := n6_; clear n0_ n1_ n2_ n3_ n4_ n5_ n6_; (try clear hb); (try clear hb2); (try clear hk); (try clear hi); (try clear ho0); (try clear ho1); have hcz27_0 : w26.cell? ⟨gb229, 0, none⟩ = some (.slice A1_0 l1_0.length c1_0) := (yw BK229.out 0).trans rfl; have hcz27_1 : w26.cell? ⟨gb229, 1, none⟩ = some (.slice A1_1 l1_1.length c1_1) := (yw BK229.out 1).trans rfl; have hfz27_0 := yv BK229.out 0; have hfz27_1 := yv BK229.out 1; have hcz28_0 : w26.cell? ⟨gb230, 0, none⟩ = some (.int .i64 a2_0) := (yw BK230.out 0).trans rfl; have hcz28_1 : w26.cell? ⟨gb230, 1, none⟩ = some (.int .i64 a2_1) := (yw BK230.out 1).trans rfl; have hcz28_2 : w26.cell? ⟨gb230, 2, none⟩ = some (.int .i64 a2_2) := (yw BK230.out 2).trans rfl; have hcz28_3 : w26.cell? ⟨gb230, 3, none⟩ = some (.int .i64 a2_3) := (yw BK230.out 3).trans rfl; have hfz28_0 := yv BK230.out 0; have hfz28_1 := yv BK230.out 1; have hfz28_2 := yv BK230.out 2; have hfz28_3 := yv BK230.out 3) | ((with_reducible refine gate_callee (f := 21) rfl ?_); refine goesL_ (some 55) rfl rfl Tryd.func21 (by kernel_rfl) rfl #[.slice A1_0 l1_0.length c1_0, .slice A1_1 l1_1.length c1_1, .int .i64 a2_2, .int .i64 a2_3] rfl (by (try simp only [List.map_toArray, List.map_cons, List.map_nil]); first | done | rfl | (simp only [List.length_drop, List.length_take]; rfl)) ?_; (with_reducible refine (heraldref10_At.calls k (fun k_ => k_ < w.heap.size) _ _ l1_0 (fun k_ => k_ < w.heap.size) _ _ l1_1 a2_2 a2_3 t251 t254 t257 _ ?side1 ?side2 A9.out).mono ?_); (case side1 => exact Kd.V_mk HC1_0.out (Kd.F_below (Kd.C_F (Kd.heap_int .i8) HR1_0.out) (by repeat (first | (with_reducible first | exact HB.out | apply y3 | refine ys ?_ GE229.out | refine ys ?_ GE230.out) | exact HB.out)))); (case side2 => exact Kd.V_mk HC1_1.out (Kd.F_below (Kd.C_F (Kd.heap_int .i8) HR1_1.out) (by repeat (first | (with_reducible first | exact HB.out | apply y3 | refine ys ?_ GE229.out | refine ys ?_ GE230.out) | exact HB.out)))); rintro e w29 ⟨v252, v255, rfl, ho0, ho1, hb⟩; refine ⟨_, rfl, ?_⟩; have n0_ := ym (yp (by (with_reducible repeat apply y2); exact HO237.out) hb); have n1_ := ym (yp (by (with_reducible repeat apply y2); exact HO243.out) hb); have n2_ := ym (yp (by (with_reducible repeat apply y2); exact HO248.out) hb); have n3_ := ym (yp (by (with_reducible repeat apply y2); exact HO250.out) hb); have n4_ := ym (Kd.V_lower (Kd.V_mono (ok' := fun k_ => some k_ ≠ (.slice Ao24 y235.length co24 : Value).ownBlock ∧ some k_ ≠ (.slice Ao25 y241.length co25 : Value).ownBlock ∧ some k_ ≠ (v247 : Value).ownBlock ∧ some k_ ≠ (v249 : Value).ownBlock ∧ k_ ≠ gb229 ∧ k_ ≠ gb230) ho0 (fun k_ hk_ => ⟨Or.elim hk_ (fun hs_ => Or.elim hs_ (fun hs_ => fun e_ => Nat.not_le.2 hs_ (Kd.R_base HO237.out k_ e_.symm)) (fun hs_ => fun e_ => Nat.not_le.2 hs_ (Kd.R_base HO237.out k_ e_.symm))) (fun hn_ => (Kd.fresh' (Kd.R_lt (by (with_reducible repeat apply y2); exact HO237.out)) k_ hn_)), Or.elim hk_ (fun hs_ => Or.elim hs_ (fun hs_ => fun e_ => Nat.not_le.2 hs_ (Kd.R_base HO243.out k_ e_.symm)) (fun hs_ => fun e_ => Nat.not_le.2 hs_ (Kd.R_base HO243.out k_ e_.symm))) (fun hn_ => (Kd.fresh' (Kd.R_lt (by (with_reducible repeat apply y2); exact HO243.out)) k_ hn_)), Or.elim hk_ (fun hs_ => Or.elim hs_ (fun hs_ => fun e_ => Nat.not_le.2 hs_ (Kd.R_base HO248.out k_ e_.symm)) (fun hs_ => fun e_ => Nat.not_le.2 hs_ (Kd.R_base HO248.out k_ e_.symm))) (fun hn_ => (Kd.fresh' (Kd.R_lt (by (with_reducible repeat apply y2); exact HO248.out)) k_ hn_)), Or.elim hk_ (fun hs_ => Or.elim hs_ (fun hs_ => fun e_ => Nat.not_le.2 hs_ (Kd.R_base HO250.out k_ e_.symm)) (fun hs_ => fun e_ => Nat.not_le.2 hs_ (Kd.R_base HO250.out k_ e_.symm))) (fun hn_ => (Kd.fresh' (Kd.R_lt (by (with_reducible repeat apply y2); exact HO250.out)) k_ hn_)), Or.elim hk_ (fun hs_ => Or.elim hs_ (fun hs_ => fun e_ => Nat.not_le.2 hs_ (by rw [e_]; exact GW229.out)) (fun hs_ => fun e_ => Nat.not_le.2 hs_ (by rw [e_]; exact GW229.out))) (fun hn_ => (Kd.freshB (g := gb229) (o := .cells #[.slice A1_0 l1_0.length c1_0, .slice A1_1 l1_1.length c1_1] 24 (0, 0)) (by (with_reducible repeat refine y4 ?_); exact BK229.out) k_ hn_)), Or.elim hk_ (fun hs_ => Or.elim hs_ (fun hs_ => fun e_ => Nat.not_le.2 hs_ (by rw [e_]; exact GW230.out)) (fun hs_ => fun e_ => Nat.not_le.2 hs_ (by rw [e_]; exact GW230.out))) (fun hn_ => (Kd.freshB (g := gb230) (o := .cells #[.int .i64 a2_0, .int .i64 a2_1, .int .i64 a2_2, .int .i64 a2_3] 44 (0, 0)) (by (with_reducible repeat refine y4 ?_); exact BK230.out) k_ hn_))⟩)) (below_size (by repeat (first | (with_reducible first | exact HB.out | apply y3 | refine ys ?_ GE229.out | refine ys ?_ GE230.out) | exact HB.out)))); have n5_ := ym (Kd.V_lower (Kd.V_mono (ok' := fun k_ => some k_ ≠ (.slice Ao24 y235.length co24 : Value).ownBlock ∧ some k_ ≠ (.slice Ao25 y241.length co25 : Value).ownBlock ∧ some k_ ≠ (v247 : Value).ownBlock ∧ some k_ ≠ (v249 : Value).ownBlock ∧ k_ ≠ gb229 ∧ k_ ≠ gb230) ho1 (fun k_ hk_ => ⟨Or.elim hk_ (fun hs_ => Or.elim hs_ (fun hs_ => fun e_ => Nat.not_le.2 hs_ (Kd.R_base HO237.out k_ e_.symm)) (fun hs_ => fun e_ => Nat.not_le.2 hs_ (Kd.R_base HO237.out k_ e_.symm))) (fun hn_ => (Kd.fresh' (Kd.R_lt (by (with_reducible repeat apply y2); exact HO237.out)) k_ hn_)), Or.elim hk_ (fun hs_ => Or.elim hs_ (fun hs_ => fun e_ => Nat.not_le.2 hs_ (Kd.R_base HO243.out k_ e_.symm)) (fun hs_ => fun e_ => Nat.not_le.2 hs_ (Kd.R_base HO243.out k_ e_.symm))) (fun hn_ => (Kd.fresh' (Kd.R_lt (by (with_reducible repeat apply y2); exact HO243.out)) k_ hn_)), Or.elim hk_ (fun hs_ => Or.elim hs_ (fun hs_ => fun e_ => Nat.not_le.2 hs_ (Kd.R_base HO248.out k_ e_.symm)) (fun hs_ => fun e_ => Nat.not_le.2 hs_ (Kd.R_base HO248.out k_ e_.symm))) (fun hn_ => (Kd.fresh' (Kd.R_lt (by (with_reducible repeat apply y2); exact HO248.out)) k_ hn_)), Or.elim hk_ (fun hs_ => Or.elim hs_ (fun hs_ => fun e_ => Nat.not_le.2 hs_ (Kd.R_base HO250.out k_ e_.symm)) (fun hs_ => fun e_ => Nat.not_le.2 hs_ (Kd.R_base HO250.out k_ e_.symm))) (fun hn_ => (Kd.fresh' (Kd.R_lt (by (with_reducible repeat apply y2); exact HO250.out)) k_ hn_)), Or.elim hk_ (fun hs_ => Or.elim hs_ (fun hs_ => fun e_ => Nat.not_le.2 hs_ (by rw [e_]; exact GW229.out)) (fun hs_ => fun e_ => Nat.not_le.2 hs_ (by rw [e_]; exact GW229.out))) (fun hn_ => (Kd.freshB (g := gb229) (o := .cells #[.slice A1_0 l1_0.length c1_0, .slice A1_1 l1_1.length c1_1] 24 (0, 0)) (by (with_reducible repeat refine y4 ?_); exact BK229.out) k_ hn_)), Or.elim hk_ (fun hs_ => Or.elim hs_ (fun hs_ => fun e_ => Nat.not_le.2 hs_ (by rw [e_]; exact GW230.out)) (fun hs_ => fun e_ => Nat.not_le.2 hs_ (by rw [e_]; exact GW230.out))) (fun hn_ => (Kd.freshB (g := gb230) (o := .cells #[.int .i64 a2_0, .int .i64 a2_1, .int .i64 a2_2, .int .i64 a2_3] 44 (0, 0)) (by (with_reducible repeat refine y4 ?_); exact BK230.out) k_ hn_))⟩)) (below_size (by repeat (first | (with_reducible first | exact HB.out | apply y3 | refine ys ?_ GE229.out | refine ys ?_ GE230.out) | exact HB.out)))); have n6_ := ym (yq (g := gb229) (o := .cells #[.slice A1_0 l1_0.length c1_0, .slice A1_1 l1_1.length c1_1] 24 (0, 0)) (by (with_reducible repeat refine y4 ?_); exact BK229.out) hb); have n7_ := ym (yq (g := gb230) (o := .cells #[.int .i64 a2_0, .int .i64 a2_1, .int .i64 a2_2, .int .i64 a2_3] 44 (0, 0)) (by (with_reducible repeat refine y4 ?_); exact BK230.out) hb); have n8_ := ym (yn (by repeat (first | (with_reducible first | exact HB.out | apply y3 | refine ys ?_ GE229.out | refine ys ?_ GE230.out) | exact HB.out)) hb); clear HO237; clear HO243; clear HO248; clear HO250; clear BK229; clear BK230; clear HB; have HO237 := n0_; have HO243 := n1_; have HO248 := n2_; have HO250 := n3_; have HO253 := n4_; have HO256 := n5_; have BK229 := n6_; have BK230 := n7_; have HB := n8_; clear n0_ n1_ n2_ n3_ n4_ n5_ n6_ n7_ n8_; (try clear hb); (try clear hb2); (try clear hk); (try clear hi); (try clear ho0); (try clear ho1)))
    (try simp only [Act.put, y0])
    go_cut [73] (fun v73 wc => ∃ (kq : Nat) (x73_9 : Bool), v73 = .bool x73_9 ∧ Aside0 (heraldlaw10_RopeRows.j0 kq l0 y235 y241 t244 x73_9 l1_0 l1_1 a2_0 a2_1 a2_2 a2_3 = some r) ∧ Aside0 (kq ≤ k) ∧ Aside0 (Kd.R (Kd.int .i8) 33 wc w.heap.size (fun k_ => some k_ ≠ ((.slice Ao25 y241.length co25) : Value).ownBlock ∧ some k_ ≠ (v247 : Value).ownBlock) (.slice Ao24 y235.length co24) y235) ∧ Aside0 (Kd.R (Kd.int .i8) 33 wc w.heap.size (fun k_ => some k_ ≠ ((.slice Ao24 y235.length co24) : Value).ownBlock ∧ some k_ ≠ (v247 : Value).ownBlock) (.slice Ao25 y241.length co25) y241) ∧ Aside0 (Kd.R (Kd.int .i8) 33 wc w.heap.size (fun k_ => some k_ ≠ ((.slice Ao24 y235.length co24) : Value).ownBlock ∧ some k_ ≠ ((.slice Ao25 y241.length co25) : Value).ownBlock) v247 t244) ∧ Aside0 (wc.heap[gb229]? = some (.cells #[(.slice A1_0 l1_0.length c1_0), (.slice A1_1 l1_1.length c1_1)] 24 (0, 0))) ∧ Aside0 (wc.heap[gb230]? = some (.cells #[.int .i64 a2_0, .int .i64 a2_1, .int .i64 a2_2, .int .i64 a2_3] 44 (0, 0))) ∧ Aside0 (Below w.heap.size w wc))
    case first =>
     have H := HC10.out
     clear HC10
     replace H := Option.bind_eq_some_iff.mp H
     obtain ⟨t258, A300, H⟩ := H
     replace H : (if t258 = true then ((heraldlaw10_same.f k t245 t254).bind fun t259 => (if t259 = true then (heraldlaw10_RopeRows.j0 k l0 y235 y241 t244 (t246 != t257) l1_0 l1_1 a2_0 a2_1 a2_2 a2_3) else (heraldlaw10_RopeRows.j0 k l0 y235 y241 t244 true l1_0 l1_1 a2_0 a2_1 a2_2 a2_3))) else (heraldlaw10_RopeRows.j0 k l0 y235 y241 t244 true l1_0 l1_1 a2_0 a2_1 a2_2 a2_3)) = some r := H
     have A30 := ym A300
     clear A300
     by_cases c31 : t258 = true
     ·
      subst c31
      have H1 : ((heraldlaw10_same.f k t245 t254).bind fun t259 => (if t259 = true then (heraldlaw10_RopeRows.j0 k l0 y235 y241 t244 (t246 != t257) l1_0 l1_1 a2_0 a2_1 a2_2 a2_3) else (heraldlaw10_RopeRows.j0 k l0 y235 y241 t244 true l1_0 l1_1 a2_0 a2_1 a2_2 a2_3))) = some r := by rw [if_pos rfl] at H; exact H
      clear H
      have H := H1
      clear H1
      replace H := Option.bind_eq_some_iff.mp H
      obtain ⟨t259, A320, H⟩ := H
      replace H : (if t259 = true then (heraldlaw10_RopeRows.j0 k l0 y235 y241 t244 (t246 != t257) l1_0 l1_1 a2_0 a2_1 a2_2 a2_3) else (heraldlaw10_RopeRows.j0 k l0 y235 y241 t244 true l1_0 l1_1 a2_0 a2_1 a2_2 a2_3)) = some r := H
      have A32 := ym A320
      clear A320
      by_cases c33 : t259 = true
      ·
       subst c33
       have H1 : (heraldlaw10_RopeRows.j0 k l0 y235 y241 t244 (t246 != t257) l1_0 l1_1 a2_0 a2_1 a2_2 a2_3) = some r := by rw [if_pos rfl] at H; exact H
       clear H
       have H := H1
       clear H1
       have H' := ym H
       clear H
       obtain ⟨Ao34, co34, eo34⟩ := Kd.R_slice HO248.out
       subst eo34
       obtain ⟨Ao35, co35, eo35⟩ := Kd.V_slice HO253.out
       subst eo35
       go_wp2_with (first | ((with_reducible refine gate_callee (f := 13) rfl ?_); refine goesL_ (some 61) rfl rfl Tryd.func13 (by kernel_rfl) rfl #[.slice Ao34 t244.length co34, .slice Ao35 t251.length co35] rfl (by (try simp only [List.map_toArray, List.map_cons, List.map_nil]); first | done | rfl | (simp only [List.length_drop, List.length_take]; rfl)) ?_; (with_reducible refine (heraldlaw10_same.calls k _ _ t244 _ _ t251 true _ ?side1 ?side2 ?side3 ?side4 A30.out).mono ?_); (case side1 => repeat (first | exact (Kd.R_reads' HO248.out).2.2 | (with_reducible refine yi ?_ _) | (with_reducible refine yj ?_ _) | (with_reducible refine yk ?_))); (case side2 => exact (Kd.R_reads' HO248.out).2.1); (case side3 => repeat (first | exact (Kd.V_reads' HO253.out).2.2 | (with_reducible refine yi ?_ _) | (with_reducible refine yj ?_ _) | (with_reducible refine yk ?_))); (case side4 => exact (Kd.V_reads' HO253.out).2.1); rintro e w' ⟨rfl, ⟨nd, rfl⟩⟩; refine ⟨_, rfl, ?_⟩; obtain ⟨Ao36, co36, eo36⟩ := Kd.R_slice HO250.out; subst eo36; obtain ⟨Ao37, co37, eo37⟩ := Kd.V_slice HO256.out; subst eo37) | (go_at_call 13; (with_reducible refine (heraldlaw10_same.calls k _ _ t245 _ _ t254 true _ ?side1 ?side2 ?side3 ?side4 A32.out).mono ?_); (case side1 => repeat (first | exact (Kd.R_reads' HO250.out).2.2 | (with_reducible refine yi ?_ _) | (with_reducible refine yj ?_ _) | (with_reducible refine yk ?_))); (case side2 => exact (Kd.R_reads' HO250.out).2.1); (case side3 => repeat (first | exact (Kd.V_reads' HO256.out).2.2 | (with_reducible refine yi ?_ _) | (with_reducible refine yj ?_ _) | (with_reducible refine yk ?_))); (case side4 => exact (Kd.V_reads' HO256.out).2.1); rintro e w' ⟨rfl, ⟨nd, rfl⟩⟩))
       go_meet
       case rel => exact ⟨_, ((t246 != t257)), (by first | rfl | (simp; done) | (simp [*]; done)), H', ⟨by first | omega | exact Nat.le_refl _⟩, ⟨by (with_reducible repeat apply y2); exact Kd.R_mono HO237.out (fun _ hk => ⟨hk.1.1.2, hk.1.2⟩)⟩, ⟨by (with_reducible repeat apply y2); exact Kd.R_mono HO243.out (fun _ hk => ⟨hk.1.1, hk.1.2⟩)⟩, ⟨by (with_reducible repeat apply y2); exact Kd.R_mono HO248.out (fun _ hk => ⟨hk.1.2, hk.2⟩)⟩, ⟨by (with_reducible repeat refine y4 ?_); exact BK229.out⟩, ⟨by (with_reducible repeat refine y4 ?_); exact BK230.out⟩, ⟨by repeat (first | (with_reducible first | exact HB.out | apply y3 | refine ys ?_ GE229.out | refine ys ?_ GE230.out) | exact HB.out)⟩⟩
      replace c33 := Bool.eq_false_iff.mpr c33
      subst c33
      have H1 : (heraldlaw10_RopeRows.j0 k l0 y235 y241 t244 true l1_0 l1_1 a2_0 a2_1 a2_2 a2_3) = some r := by rw [if_neg (show ¬ (false = true) by decide)] at H; exact H
      clear H
      have H := H1
      clear H1
      have H' := ym H
      clear H
      obtain ⟨Ao38, co38, eo38⟩ := Kd.R_slice HO248.out
      subst eo38
      obtain ⟨Ao39, co39, eo39⟩ := Kd.V_slice HO253.out
      subst eo39
      go_wp2_with (first | ((with_reducible refine gate_callee (f := 13) rfl ?_); refine goesL_ (some 61) rfl rfl Tryd.func13 (by kernel_rfl) rfl #[.slice Ao38 t244.length co38, .slice Ao39 t251.length co39] rfl (by (try simp only [List.map_toArray, List.map_cons, List.map_nil]); first | done | rfl | (simp only [List.length_drop, List.length_take]; rfl)) ?_; (with_reducible refine (heraldlaw10_same.calls k _ _ t244 _ _ t251 true _ ?side1 ?side2 ?side3 ?side4 A30.out).mono ?_); (case side1 => repeat (first | exact (Kd.R_reads' HO248.out).2.2 | (with_reducible refine yi ?_ _) | (with_reducible refine yj ?_ _) | (with_reducible refine yk ?_))); (case side2 => exact (Kd.R_reads' HO248.out).2.1); (case side3 => repeat (first | exact (Kd.V_reads' HO253.out).2.2 | (with_reducible refine yi ?_ _) | (with_reducible refine yj ?_ _) | (with_reducible refine yk ?_))); (case side4 => exact (Kd.V_reads' HO253.out).2.1); rintro e w' ⟨rfl, ⟨nd, rfl⟩⟩; refine ⟨_, rfl, ?_⟩; obtain ⟨Ao40, co40, eo40⟩ := Kd.R_slice HO250.out; subst eo40; obtain ⟨Ao41, co41, eo41⟩ := Kd.V_slice HO256.out; subst eo41) | (go_at_call 13; (with_reducible refine (heraldlaw10_same.calls k _ _ t245 _ _ t254 false _ ?side1 ?side2 ?side3 ?side4 A32.out).mono ?_); (case side1 => repeat (first | exact (Kd.R_reads' HO250.out).2.2 | (with_reducible refine yi ?_ _) | (with_reducible refine yj ?_ _) | (with_reducible refine yk ?_))); (case side2 => exact (Kd.R_reads' HO250.out).2.1); (case side3 => repeat (first | exact (Kd.V_reads' HO256.out).2.2 | (with_reducible refine yi ?_ _) | (with_reducible refine yj ?_ _) | (with_reducible refine yk ?_))); (case side4 => exact (Kd.V_reads' HO256.out).2.1); rintro e w' ⟨rfl, ⟨nd, rfl⟩⟩))
      go_meet
      case rel => exact ⟨_, (true), (by first | rfl | (simp; done) | (simp [*]; done)), H', ⟨by first | omega | exact Nat.le_refl _⟩, ⟨by (with_reducible repeat apply y2); exact Kd.R_mono HO237.out (fun _ hk => ⟨hk.1.1.2, hk.1.2⟩)⟩, ⟨by (with_reducible repeat apply y2); exact Kd.R_mono HO243.out (fun _ hk => ⟨hk.1.1, hk.1.2⟩)⟩, ⟨by (with_reducible repeat apply y2); exact Kd.R_mono HO248.out (fun _ hk => ⟨hk.1.2, hk.2⟩)⟩, ⟨by (with_reducible repeat refine y4 ?_); exact BK229.out⟩, ⟨by (with_reducible repeat refine y4 ?_); exact BK230.out⟩, ⟨by repeat (first | (with_reducible first | exact HB.out | apply y3 | refine ys ?_ GE229.out | refine ys ?_ GE230.out) | exact HB.out)⟩⟩
     replace c31 := Bool.eq_false_iff.mpr c31
     subst c31
     have H1 : (heraldlaw10_RopeRows.j0 k l0 y235 y241 t244 true l1_0 l1_1 a2_0 a2_1 a2_2 a2_3) = some r := by rw [if_neg (show ¬ (false = true) by decide)] at H; exact H
     clear H
     have H := H1
     clear H1
     have H' := ym H
     clear H
     obtain ⟨Ao42, co42, eo42⟩ := Kd.R_slice HO248.out
     subst eo42
     obtain ⟨Ao43, co43, eo43⟩ := Kd.V_slice HO253.out
     subst eo43
     go_wp2_with (first | ((with_reducible refine gate_callee (f := 13) rfl ?_); refine goesL_ (some 61) rfl rfl Tryd.func13 (by kernel_rfl) rfl #[.slice Ao42 t244.length co42, .slice Ao43 t251.length co43] rfl (by (try simp only [List.map_toArray, List.map_cons, List.map_nil]); first | done | rfl | (simp only [List.length_drop, List.length_take]; rfl)) ?_; (with_reducible refine (heraldlaw10_same.calls k _ _ t244 _ _ t251 false _ ?side1 ?side2 ?side3 ?side4 A30.out).mono ?_); (case side1 => repeat (first | exact (Kd.R_reads' HO248.out).2.2 | (with_reducible refine yi ?_ _) | (with_reducible refine yj ?_ _) | (with_reducible refine yk ?_))); (case side2 => exact (Kd.R_reads' HO248.out).2.1); (case side3 => repeat (first | exact (Kd.V_reads' HO253.out).2.2 | (with_reducible refine yi ?_ _) | (with_reducible refine yj ?_ _) | (with_reducible refine yk ?_))); (case side4 => exact (Kd.V_reads' HO253.out).2.1); rintro e w' ⟨rfl, ⟨nd, rfl⟩⟩; refine ⟨_, rfl, ?_⟩))
     go_meet
     case rel => exact ⟨_, (true), (by first | rfl | (simp; done) | (simp [*]; done)), H', ⟨by first | omega | exact Nat.le_refl _⟩, ⟨by (with_reducible repeat apply y2); exact Kd.R_mono HO237.out (fun _ hk => ⟨hk.1.1.2, hk.1.2⟩)⟩, ⟨by (with_reducible repeat apply y2); exact Kd.R_mono HO243.out (fun _ hk => ⟨hk.1.1, hk.1.2⟩)⟩, ⟨by (with_reducible repeat apply y2); exact Kd.R_mono HO248.out (fun _ hk => ⟨hk.1.2, hk.2⟩)⟩, ⟨by (with_reducible repeat refine y4 ?_); exact BK229.out⟩, ⟨by (with_reducible repeat refine y4 ?_); exact BK230.out⟩, ⟨by repeat (first | (with_reducible first | exact HB.out | apply y3 | refine ys ?_ GE229.out | refine ys ?_ GE230.out) | exact HB.out)⟩⟩
    case rest =>
     clear HC10
     try clear c1
     try clear c2
     try clear p2
     try clear c3
     try clear c5
     try clear c6
     try clear c7
     try clear c8
     try clear c10
     try clear c13
     try clear c20
     try clear c21
     try clear c22
     try clear c31
     try clear c33
     try clear hcz23_0
     try clear hcz23_1
     try clear hcz23_2
     try clear hcz23_3
     try clear hcz27_0
     try clear hcz27_1
     try clear hcz28_0
     try clear hcz28_1
     try clear hcz28_2
     try clear hcz28_3
     try clear hfz23_0
     try clear hfz23_1
     try clear hfz23_2
     try clear hfz23_3
     try clear hfz27_0
     try clear hfz27_1
     try clear hfz28_0
     try clear hfz28_1
     try clear hfz28_2
     try clear hfz28_3
     obtain ⟨kq, x73_9, rfl, HA, HJ9, HO_7, HO_8, HO_9, BK229, BK230, HB⟩ := hcut
     cases kq with
     | zero => exact absurd HA.out (by simp [heraldlaw10_RopeRows.j0])
     | succ kj9 =>
      have H := HA.out
      clear HA
      simp only [heraldlaw10_RopeRows.j0] at H
      by_cases c44 : x73_9 = true
      ·
       subst c44
       have H1 : (none) = some r := by rw [if_pos rfl] at H; exact H
       clear H
       have H := H1
       clear H1
       exact absurd H (by simp)
      replace c44 := Bool.eq_false_iff.mpr c44
      subst c44
      have H1 : (heraldlaw10_RopeRows.l0 kj9 l0 y235 y241 t244 (t244.length : Int) 0 l1_0 l1_1 a2_0 a2_1 a2_2 a2_3) = some r := by rw [if_neg (show ¬ (false = true) by decide)] at H; exact H
      clear H
      have H := H1
      clear H1
      have H' := ym H
      clear H
      obtain ⟨Ao45, co45, eo45⟩ := Kd.R_slice HO_9.out
      subst eo45
      go_wp2
      go_loopg [76] kj9 (fun kq v76 w' => ∃ (x9_2 : List Int) (x76_2 : Int), v76 = .int .i64 x76_2 ∧ Aside0 (heraldlaw10_RopeRows.l0 kq l0 y235 y241 x9_2 (t244.length : Int) x76_2 l1_0 l1_1 a2_0 a2_1 a2_2 a2_3 = some r) ∧ Aside0 (kq ≤ kj9) ∧ Aside0 (Kd.R (Kd.int .i8) 33 w' w.heap.size (fun k_ => some k_ ≠ ((.slice Ao25 y241.length co25) : Value).ownBlock ∧ some k_ ≠ ((.slice Ao45 t244.length co45) : Value).ownBlock) (.slice Ao24 y235.length co24) y235) ∧ Aside0 (Kd.R (Kd.int .i8) 33 w' w.heap.size (fun k_ => some k_ ≠ ((.slice Ao24 y235.length co24) : Value).ownBlock ∧ some k_ ≠ ((.slice Ao45 t244.length co45) : Value).ownBlock) (.slice Ao25 y241.length co25) y241) ∧ Aside0 (Kd.R (Kd.int .i8) 33 w' w.heap.size (fun k_ => some k_ ≠ ((.slice Ao24 y235.length co24) : Value).ownBlock ∧ some k_ ≠ ((.slice Ao25 y241.length co25) : Value).ownBlock) (.slice Ao45 t244.length co45) x9_2) ∧ Aside0 (w'.heap[gb229]? = some (.cells #[(.slice A1_0 l1_0.length c1_0), (.slice A1_1 l1_1.length c1_1)] 24 (0, 0))) ∧ Aside0 (w'.heap[gb230]? = some (.cells #[.int .i64 a2_0, .int .i64 a2_1, .int .i64 a2_2, .int .i64 a2_3] 44 (0, 0))) ∧ Aside0 (Below w.heap.size w w'))
      case atStart => exact ⟨(t244), (0), (by first | rfl | (simp; done) | (simp [*]; done)), H', ⟨Nat.le_refl _⟩, ⟨by (with_reducible repeat apply y2); exact HO_7.out⟩, ⟨by (with_reducible repeat apply y2); exact HO_8.out⟩, ⟨by (with_reducible repeat apply y2); exact HO_9.out⟩, ⟨by (with_reducible repeat refine y4 ?_); exact BK229.out⟩, ⟨by (with_reducible repeat refine y4 ?_); exact BK230.out⟩, ⟨by repeat (first | (with_reducible first | exact HB.out | apply y3 | refine ys ?_ GE229.out | refine ys ?_ GE230.out) | exact HB.out)⟩⟩
      case round =>
       clear H'
       try clear c1
       try clear c2
       try clear p2
       try clear c3
       try clear c4
       try clear c5
       try clear c6
       try clear c7
       try clear c8
       try clear c10
       try clear c13
       try clear c20
       try clear c21
       try clear c22
       try clear c31
       try clear c33
       try clear c44
       try clear hcz23_0
       try clear hcz23_1
       try clear hcz23_2
       try clear hcz23_3
       try clear hcz27_0
       try clear hcz27_1
       try clear hcz28_0
       try clear hcz28_1
       try clear hcz28_2
       try clear hcz28_3
       try clear hfz23_0
       try clear hfz23_1
       try clear hfz23_2
       try clear hfz23_3
       try clear hfz27_0
       try clear hfz27_1
       try clear hfz28_0
       try clear hfz28_1
       try clear hfz28_2
       try clear hfz28_3
       try clear p2
       obtain ⟨x9_2, x76_2, rfl, HA, HK2, HO_7, HO_8, HO_9, BK229, BK230, HB⟩ := hrel
       have hl9_2 := (Kd.R_reads' HO_9.out).1
       rw [hl9_2] at HO_9
       (try simp only [hl9_2])
       (try simp only [hl9_2] at BK229)
       (try simp only [hl9_2] at BK230)
       (try simp only [hl9_2] at HO_7)
       (try simp only [hl9_2] at HO_8)
       cases gk with
       | zero => exact absurd HA.out (by simp [heraldlaw10_RopeRows.l0])
       | succ k2 =>
        have H := HA.out
        clear HA
        simp only [heraldlaw10_RopeRows.l0] at H
        by_cases c46 : x76_2 < (t244.length : Int)
        ·
         rw [if_pos c46] at H
         have c46b0 : decide (x76_2 < (t244.length : Int)) = true := decide_eq_true c46
         try rw [hl9_2] at c46b0
         clear c46
         by_cases c47 : 0 ≤ x76_2
         ·
          rw [if_pos c47] at H
          have c47b0 : decide (0 ≤ x76_2) = true := decide_eq_true c47
          clear c47
          by_cases c48 : x76_2 < (x9_2.length : Int)
          ·
           rw [if_pos c48] at H
           have c48b0 : decide (x76_2 < (x9_2.length : Int)) = true := decide_eq_true c48
           clear c48
           obtain ⟨y260, hy260⟩ : ∃ y_ : List Int, y_ = (x9_2.set (x76_2 : Int).toNat 99) := ⟨_, rfl⟩
           replace H : (heraldlaw10_RopeRows.l0 k2 l0 y235 y241 y260 (t244.length : Int) (wrap64 (x76_2 + 1)) l1_0 l1_1 a2_0 a2_1 a2_2 a2_3) = some r := by first | (rw [hy260]; with_reducible exact H) | (have H2_ := (Option.bind_some _ _).symm.trans H; rw [hy260]; with_reducible exact H2_) | (have H2_ := (Option.bind_some _ _).symm.trans H; with_reducible exact H2_) | with_reducible exact H | (rw [hy260]; exact H) | exact H
           have Ny260 := ym hy260
           clear hy260
           have H' := ym H
           clear H
           have p49 : 0 ≤ (x76_2 : Int) := of_decide_eq_true (by first | (with_reducible assumption) | assumption)
           have q49 : (x76_2 : Int) < ((x9_2.length : Int) : Int) := of_decide_eq_true (by first | (with_reducible assumption) | assumption)
           obtain ⟨go49, co49, eo49, gb49, gl49, cl49, HG49⟩ := Kd.R_form HO_9.out (by omega)
           (first | cases eo49 | (injection eo49 with ea_ en_ ec_; (first | subst ea_ | (injection ea_ with ea_; subst ea_)); subst ec_; clear en_))
           have GB49 := ym gb49
           have GG49 := ym HG49
           clear gb49 gl49 HG49
           obtain ⟨hx49_0, hf49_0⟩ := Kd.R_celln 0 HO_9.out (x76_2 : Int) p49 q49
           replace p49 := eq_true p49
           replace q49 := eq_true q49
           have HP50 := Kd.R_putg HO_9.out (x76_2 : Int) 99
           go_wp2_with (first | ((with_reducible refine gate_store (t := 33) (p := 81) rfl ?_); refine store_event (t := 33) (p := 81) (v := ?vo_w51) (w1 := (wr.setCell ⟨go49, (x76_2 : Int).toNat, none⟩ (.int .i8 99))) ?hg ?ho ?hn ?hr ?_; (case ho => rfl); (case hg => rfl); (case hn => rfl); (case hr => first | (go_simp; done) | (go_simp; rfl)); intro w51 hw; have hg : wr.grownBy w51 (some go49) := (by rw [hw]; exact HP50.2); have hp_ : Kd.R (Kd.int .i8) 33 w51 w.heap.size (fun k_ => some k_ ≠ (.slice Ao24 y235.length co24 : Value).ownBlock ∧ some k_ ≠ (.slice Ao25 y241.length co25 : Value).ownBlock) (.slice (some ⟨go49, 0, none⟩) x9_2.length co45) y260 := (by rw [hw, Ny260.out]; exact HP50.1); clear HP50; have n0_ := ym (Kd.R_after (v := (.slice (some ⟨go49, 0, none⟩) x9_2.length co45)) (v1 := (.slice (some ⟨go49, 0, none⟩) x9_2.length co45)) (ok := (fun k_ => some k_ ≠ (.slice Ao25 y241.length co25 : Value).ownBlock)) (by (with_reducible repeat apply y2); exact HO_7.out) hg (.inl rfl)); have n1_ := ym (Kd.R_after (v := (.slice (some ⟨go49, 0, none⟩) x9_2.length co45)) (v1 := (.slice (some ⟨go49, 0, none⟩) x9_2.length co45)) (ok := (fun k_ => some k_ ≠ (.slice Ao24 y235.length co24 : Value).ownBlock)) (by (with_reducible repeat apply y2); exact HO_8.out) hg (.inl rfl)); have n2_ := ym (hp_); have n3_ := ym (blk_grown (g := gb229) (o := .cells #[.slice A1_0 l1_0.length c1_0, .slice A1_1 l1_1.length c1_1] 24 (0, 0)) (by (with_reducible repeat refine y4 ?_); exact BK229.out) hg (Kd.R_ne HO_9.out BK229.out (by decide))); have n4_ := ym (blk_grown (g := gb230) (o := .cells #[.int .i64 a2_0, .int .i64 a2_1, .int .i64 a2_2, .int .i64 a2_3] 44 (0, 0)) (by (with_reducible repeat refine y4 ?_); exact BK230.out) hg (Kd.R_ne HO_9.out BK230.out (by decide))); have n5_ := ym ((by rw [hw]; exact ys (HB.out) GB49.out : Below w.heap.size w w51)); clear HO_7; clear HO_8; clear HO_9; clear BK229; clear BK230; clear HB; have HO_7 := n0_; have HO_8 := n1_; have HO_9 := n2_; have BK229 := n3_; have BK230 := n4_; have HB := n5_; clear n0_ n1_ n2_ n3_ n4_ n5_; clear hg hw hp_))
           (try simp only [← hl9_2])
           go_roundg k2
           case measure => have := HJ9.out; have := HK2.out; omega
           case rel => exact ⟨(y260), (wrap64 (x76_2 + 1)), (by first | rfl | (simp; done) | (simp [*]; done)), H', ⟨by have := HJ9.out; have := HK2.out; omega⟩, ⟨by (try simp only [hl9_2]); (with_reducible repeat apply y2); exact HO_7.out⟩, ⟨by (try simp only [hl9_2]); (with_reducible repeat apply y2); exact HO_8.out⟩, ⟨by (try simp only [hl9_2]); (with_reducible repeat apply y2); exact HO_9.out⟩, ⟨by (try simp only [hl9_2]); (with_reducible repeat refine y4 ?_); exact BK229.out⟩, ⟨by (try simp only [hl9_2]); (with_reducible repeat refine y4 ?_); exact BK230.out⟩, ⟨by repeat (first | (with_reducible first | exact HB.out | apply y3 | refine ys ?_ GE229.out | refine ys ?_ GE230.out) | exact HB.out)⟩⟩
          rw [if_neg c48] at H
          exact absurd H (by simp)
         rw [if_neg c47] at H
         exact absurd H (by simp)
        rw [if_neg c46] at H
        have c46b0 : decide (x76_2 < (t244.length : Int)) = false := decide_eq_false c46
        try rw [hl9_2] at c46b0
        clear c46
        have H' := ym H
        clear H
        go_wp2
        go_loopg [16, 85] k2 (fun kq v16 v85 w' => ∃ (x16_3 : List (List Int)) (x85_3 : Int), v85 = .int .i64 x85_3 ∧ Aside0 (heraldlaw10_RopeRows.l1 kq l0 y235 y241 x16_3 l0 (l0.length : Int) x85_3 l1_0 l1_1 a2_0 a2_1 a2_2 a2_3 = some r) ∧ Aside0 (kq ≤ k2) ∧ Aside0 (Kd.R (Kd.int .i8) 33 w' w.heap.size (fun k_ => some k_ ≠ ((.slice Ao25 y241.length co25) : Value).ownBlock) (.slice Ao24 y235.length co24) y235) ∧ Aside0 (Kd.R (Kd.int .i8) 33 w' w.heap.size (fun k_ => some k_ ≠ ((.slice Ao24 y235.length co24) : Value).ownBlock) (.slice Ao25 y241.length co25) y241) ∧ Aside0 (Kd.S (Kd.slice 33 (Kd.int .i8)) 22 w' w.heap.size (fun k_ => some k_ ≠ ((.slice Ao24 y235.length co24) : Value).ownBlock ∧ some k_ ≠ ((.slice Ao25 y241.length co25) : Value).ownBlock) v16 x16_3) ∧ Aside0 (w'.heap[gb229]? = some (.cells #[(.slice A1_0 l1_0.length c1_0), (.slice A1_1 l1_1.length c1_1)] 24 (0, 0))) ∧ Aside0 (w'.heap[gb230]? = some (.cells #[.int .i64 a2_0, .int .i64 a2_1, .int .i64 a2_2, .int .i64 a2_3] 44 (0, 0))) ∧ Aside0 (Below w.heap.size w w'))
        case atStart => exact ⟨(([] : List (List Int))), (0), (by first | rfl | (simp; done) | (simp [*]; done)), H', ⟨Nat.le_refl _⟩, ⟨by (try simp only [hl9_2]); (with_reducible repeat apply y2); exact Kd.R_mono HO_7.out (fun _ hk => hk.1)⟩, ⟨by (try simp only [hl9_2]); (with_reducible repeat apply y2); exact Kd.R_mono HO_8.out (fun _ hk => hk.1)⟩, ⟨by (try simp only [hl9_2]); first | exact Kd.S_nil _ _ _ _ _ | exact Kd.N_nil _ _ _ _ _ | exact Kd.V_nil _ _ _ _ _ | exact Kd.Q_nil _ _ _ _ _ | exact Kd.R_nil _ _ _ _ _⟩, ⟨by (try simp only [hl9_2]); (with_reducible repeat refine y4 ?_); exact BK229.out⟩, ⟨by (try simp only [hl9_2]); (with_reducible repeat refine y4 ?_); exact BK230.out⟩, ⟨by repeat (first | (with_reducible first | exact HB.out | apply y3 | refine ys ?_ GE229.out | refine ys ?_ GE230.out) | exact HB.out)⟩⟩
        case round =>
         clear H'
         try clear c1
         try clear c2
         try clear p2
         try clear c3
         try clear c4
         try clear p4
         try clear q4
         try clear hx4
         try clear hf4
         try clear c5
         try clear c6
         try clear p6
         try clear c7
         try clear c8
         try clear c10
         try clear c13
         try clear c20
         try clear c21
         try clear c22
         try clear c31
         try clear c33
         try clear c44
         try clear c46
         try clear c46b0
         try clear c47
         try clear c47b0
         try clear c48
         try clear c48b0
         try clear p49
         try clear q49
         try clear hx49
         try clear hf49
         try clear hcz23_0
         try clear hcz23_1
         try clear hcz23_2
         try clear hcz23_3
         try clear hcz27_0
         try clear hcz27_1
         try clear hcz28_0
         try clear hcz28_1
         try clear hcz28_2
         try clear hcz28_3
         try clear hfz23_0
         try clear hfz23_1
         try clear hfz23_2
         try clear hfz23_3
         try clear hfz27_0
         try clear hfz27_1
         try clear hfz28_0
         try clear hfz28_1
         try clear hfz28_2
         try clear hfz28_3
         try clear hx49_0
         try clear p2
         try clear p49
         try clear q49
         obtain ⟨x16_3, x85_3, rfl, HA, HK3, HO_7, HO_8, HO_16, BK229, BK230, HB⟩ := hrel
         cases gk with
         | zero => exact absurd HA.out (by simp [heraldlaw10_RopeRows.l1])
         | succ k3 =>
          have H := HA.out
          clear HA
          simp only [heraldlaw10_RopeRows.l1] at H
          by_cases c52 : x85_3 < (l0.length : Int)
          ·
           rw [if_pos c52] at H
           have c52b0 : decide (x85_3 < (l0.length : Int)) = true := decide_eq_true c52
           clear c52
           by_cases c53 : 0 ≤ x85_3
           ·
            rw [if_pos c53] at H
            have c53b0 : decide (0 ≤ x85_3) = true := decide_eq_true c53
            clear c53
            by_cases c54 : x85_3 < (l0.length : Int)
            ·
             rw [if_pos c54] at H
             have c54b0 : decide (x85_3 < (l0.length : Int)) = true := decide_eq_true c54
             clear c54
             obtain ⟨y262, hy262⟩ : ∃ y_ : List Int, y_ = (([] : List Int)) := ⟨_, rfl⟩
             replace H : (if y262.length + (rd_L1 l0 x85_3).length < 140737488355328 then (if x16_3.length < 5864062014805 then (heraldlaw10_RopeRows.l1 k3 l0 y235 y241 (x16_3 ++ [(y262 ++ (rd_L1 l0 x85_3))]) l0 (l0.length : Int) (wrap64 (x85_3 + 1)) l1_0 l1_1 a2_0 a2_1 a2_2 a2_3) else (none)) else (none)) = some r := by first | (rw [hy262]; with_reducible exact H) | (have H2_ := (Option.bind_some _ _).symm.trans H; rw [hy262]; with_reducible exact H2_) | (have H2_ := (Option.bind_some _ _).symm.trans H; with_reducible exact H2_) | with_reducible exact H | (rw [hy262]; exact H) | exact H
             have Ny262 := ym hy262
             clear hy262
             by_cases c55 : y262.length + (rd_L1 l0 x85_3).length < 140737488355328
             ·
              rw [if_pos c55] at H
              have LMc55 := ym c55
              clear c55
              obtain ⟨y265, hy265⟩ : ∃ y_ : List Int, y_ = (y262 ++ (rd_L1 l0 x85_3)) := ⟨_, rfl⟩
              replace H : (if x16_3.length < 5864062014805 then (heraldlaw10_RopeRows.l1 k3 l0 y235 y241 (x16_3 ++ [y265]) l0 (l0.length : Int) (wrap64 (x85_3 + 1)) l1_0 l1_1 a2_0 a2_1 a2_2 a2_3) else (none)) = some r := by first | (rw [hy265]; with_reducible exact H) | (have H2_ := (Option.bind_some _ _).symm.trans H; rw [hy265]; with_reducible exact H2_) | (have H2_ := (Option.bind_some _ _).symm.trans H; with_reducible exact H2_) | with_reducible exact H | (rw [hy265]; exact H) | exact H
              have Ny265 := ym hy265
              clear hy265
              by_cases c56 : x16_3.length < 5864062014805
              ·
               rw [if_pos c56] at H
               have LMc56 := ym c56
               clear c56
               obtain ⟨y268, hy268⟩ : ∃ y_ : List (List Int), y_ = (x16_3 ++ [y265]) := ⟨_, rfl⟩
               replace H : (heraldlaw10_RopeRows.l1 k3 l0 y235 y241 y268 l0 (l0.length : Int) (wrap64 (x85_3 + 1)) l1_0 l1_1 a2_0 a2_1 a2_2 a2_3) = some r := by first | (rw [hy268]; with_reducible exact H) | (have H2_ := (Option.bind_some _ _).symm.trans H; rw [hy268]; with_reducible exact H2_) | (have H2_ := (Option.bind_some _ _).symm.trans H; with_reducible exact H2_) | with_reducible exact H | (rw [hy268]; exact H) | exact H
               have Ny268 := ym hy268
               clear hy268
               have H' := ym H
               clear H
               have p261 : 0 ≤ (x85_3 : Int) := of_decide_eq_true (by first | (with_reducible assumption) | assumption)
               have q261 : x85_3 < (l0.length : Int) := of_decide_eq_true (by first | (with_reducible assumption) | assumption)
               obtain ⟨ad261, A261_0, c261_0, e261, hx261_0, hl261_0, hi261_0⟩ := at_L1 HR0.out x85_3 p261 q261
               cases e261
               replace hx261_0 := (HB.out.cell (World.block_lt_of_cell? w _ hx261_0)).trans hx261_0
               have HR261_0 := ym hi261_0
               have HC261_0 := ym hl261_0
               clear hi261_0 hl261_0
               replace p261 := eq_true p261
               replace q261 := eq_true q261
               go_wp2_with (first | ((with_reducible refine gate_dst (N := 90) rfl ?_); (try (refine gate_guard (by rfl) ?_; dsimp only)); refine Kd.R_lit (Kd.int .i8) _ 33 ?hg (N := 90) ?hd (xs := ([] : List Int)) (inner := []) (ok := fun _ => True) (okp := fun _ => True) ?hr ?hp (fun _ hk => hk) trivial (Below.refl _ _) (Nat.le_refl _) (by simp) ?_; (case hd => rfl); (case hg => rfl); (case hr => first | (go_simp; done) | (go_simp; rfl)); (case hp => exact (Reps.none _ _)); intro v263 w57 ho58 hb hg_ hnew_; clear hg_ hnew_; (first | rw [← Ny262.out] at ho58 | (simp only [Int.reduceToNat] at ho58; rw [← Ny262.out] at ho58)); have n0_ := ym (Kd.R_elder' (by (with_reducible repeat apply y2); exact HO_7.out) (Kd.R_base ho58) hb); have n1_ := ym (Kd.R_elder' (by (with_reducible repeat apply y2); exact HO_8.out) (Kd.R_base ho58) hb); have n2_ := ym (Kd.S_elder' (by (with_reducible repeat (first | apply Kd.S_alloc | apply Kd.S_drewN | apply Kd.S_drew)); exact HO_16.out) (Kd.R_base ho58) hb); have n3_ := ym (yo (Kd.R_new' (Kd.R_new' ho58 (Kd.R_lt (by (with_reducible repeat apply y2); exact HO_7.out))) (Kd.R_lt (by (with_reducible repeat apply y2); exact HO_8.out))) (below_size (by repeat (first | (with_reducible first | exact HB.out | apply y3 | refine ys ?_ GE229.out | refine ys ?_ GE230.out) | exact HB.out)))); have n4_ := ym (yq (g := gb229) (o := .cells #[.slice A1_0 l1_0.length c1_0, .slice A1_1 l1_1.length c1_1] 24 (0, 0)) (by (with_reducible repeat refine y4 ?_); exact BK229.out) hb); have n5_ := ym (yq (g := gb230) (o := .cells #[.int .i64 a2_0, .int .i64 a2_1, .int .i64 a2_2, .int .i64 a2_3] 44 (0, 0)) (by (with_reducible repeat refine y4 ?_); exact BK230.out) hb); have n6_ := ym (yn (by repeat (first | (with_reducible first | exact HB.out | apply y3 | refine ys ?_ GE229.out | refine ys ?_ GE230.out) | exact HB.out)) hb); clear HO_7; clear HO_8; clear HO_16; clear BK229; clear BK230; clear HB; have HO_7 := n0_; have HO_8 := n1_; have HO_16 := n2_; have HO264 := n3_; have BK229 := n4_; have BK230 := n5_; have HB := n6_; clear n0_ n1_ n2_ n3_ n4_ n5_ n6_; clear hb ho58) | ((with_reducible refine gate_builtin (b := .append) (xs := #[.tmp 90, .tmp 91]) rfl ?_); (try (refine gate_guard (by rfl) ?_; dsimp only)); at_builtin; refine Kd.R_append_rows (Kd.int .i8) (w0 := w) w.heap.size rfl (.tmp 90) (.tmp 91) 22 33 (.int .i8 0) 1 rfl Tryd.underlying22 info33 rfl (by decide) (by omega) v263 y262 (rd_L1 l0 x85_3) _ _ _ (fun k_ => some k_ ≠ (.slice Ao24 y235.length co24 : Value).ownBlock ∧ some k_ ≠ (.slice Ao25 y241.length co25 : Value).ownBlock) (fun _ => False) rfl rfl ?aO ?aR (fun _ _ h => h) (fun _ h => h.elim) ?aF ?aB ?aS ?aL ?_; (case aR => repeat (first | exact (Kd.C_below HR261_0.out HB.out) | (with_reducible refine yi ?_ _) | (with_reducible refine yj ?_ _) | (with_reducible refine yk ?_))); (case aB => exact (by repeat (first | (with_reducible first | exact HB.out | apply y3 | refine ys ?_ GE229.out | refine ys ?_ GE230.out) | exact HB.out))); (case aF => exact (fun k_ hk => ⟨Kd.fresh' (Kd.R_lt (by (with_reducible repeat apply y2); exact HO_7.out)) k_ hk, Kd.fresh' (Kd.R_lt (by (with_reducible repeat apply y2); exact HO_8.out)) k_ hk⟩)); (case aO => exact (by (with_reducible repeat apply y2); exact Kd.R_mono HO264.out (fun _ hk => ⟨hk.1.2, hk.2⟩))); (case aS => exact (below_size (by repeat (first | (with_reducible first | exact HB.out | apply y3 | refine ys ?_ GE229.out | refine ys ?_ GE230.out) | exact HB.out)))); (case aL => have := LMc55.out; omega); intro v266 w59 ho hb hg hat; rw [← Ny265.out] at ho; have n0_ := ym (Kd.R_after (ok := (fun k_ => some k_ ≠ (.slice Ao25 y241.length co25 : Value).ownBlock)) (by (with_reducible repeat apply y2); exact HO_7.out) hg hat); have n1_ := ym (Kd.R_after (ok := (fun k_ => some k_ ≠ (.slice Ao24 y235.length co24 : Value).ownBlock)) (by (with_reducible repeat apply y2); exact HO_8.out) hg hat); have n2_ := ym (Kd.S_after (ok := (fun k_ => some k_ ≠ (.slice Ao24 y235.length co24 : Value).ownBlock ∧ some k_ ≠ (.slice Ao25 y241.length co25 : Value).ownBlock)) (by (with_reducible repeat (first | apply Kd.S_alloc | apply Kd.S_drewN | apply Kd.S_drew)); exact HO_16.out) hg hat); have n3_ := ym (blk_grown (g := gb229) (o := .cells #[.slice A1_0 l1_0.length c1_0, .slice A1_1 l1_1.length c1_1] 24 (0, 0)) (by (with_reducible repeat refine y4 ?_); exact BK229.out) hg (Kd.R_ne HO264.out BK229.out (by decide))); have n4_ := ym (blk_grown (g := gb230) (o := .cells #[.int .i64 a2_0, .int .i64 a2_1, .int .i64 a2_2, .int .i64 a2_3] 44 (0, 0)) (by (with_reducible repeat refine y4 ?_); exact BK230.out) hg (Kd.R_ne HO264.out BK230.out (by decide))); have n5_ := ym (hb); have n6_ := ym (ho); clear HO_7; clear HO_8; clear HO_16; clear BK229; clear BK230; clear HB; clear HO264; have HO_7 := n0_; have HO_8 := n1_; have HO_16 := n2_; have BK229 := n3_; have BK230 := n4_; have HB := n5_; have HO267 := n6_; clear n0_ n1_ n2_ n3_ n4_ n5_ n6_; clear ho hb hg hat; obtain ⟨Ao61, co61, eo61⟩ := Kd.R_slice HO267.out; subst eo61) | ((with_reducible refine gate_builtin (b := .append) (xs := #[.tmp 89, .tmp 93]) rfl ?_); (try (refine gate_guard (by rfl) ?_; dsimp only)); at_builtin; refine Kd.S_append (Kd.slice 33 (Kd.int .i8)) (w0 := w) w.heap.size rfl (.tmp 89) (.tmp 93) 41 22 (.slice none 0 0) 24 rfl Tryd.underlying41 info22 rfl (by decide) (by omega) u16 x16_3 y265 [.slice Ao61 y265.length co61] (fun k_ => some k_ ≠ (.slice Ao24 y235.length co24 : Value).ownBlock ∧ some k_ ≠ (.slice Ao25 y241.length co25 : Value).ownBlock) (fun k_ => some k_ = (.slice Ao61 y265.length co61 : Value).ownBlock) rfl rfl ?aP (fun k_ hk_ => ((Kd.R_mono (ok' := fun k_ => ((fun k_ => some k_ ≠ (.slice Ao24 y235.length co24 : Value).ownBlock ∧ some k_ ≠ (.slice Ao25 y241.length co25 : Value).ownBlock)) k_ ∧ some k_ ≠ (u16 : Value).ownBlock) (Kd.R_apart' (HO267.out) (Kd.S_typed HO_16.out) (by decide)) (fun k_ hk => ⟨⟨hk.1.1, hk.1.2⟩, hk.2⟩))).1 k_ hk_.symm) ?aF ?aO ?aB ?aS ?aL ?_; (case aP => exact Kd.M_row (Kd.R_mono (Kd.R_tight rfl (Kd.R_mono (ok' := fun k_ => ((fun k_ => some k_ ≠ (.slice Ao24 y235.length co24 : Value).ownBlock ∧ some k_ ≠ (.slice Ao25 y241.length co25 : Value).ownBlock)) k_ ∧ some k_ ≠ (u16 : Value).ownBlock) (Kd.R_apart' (HO267.out) (Kd.S_typed HO_16.out) (by decide)) (fun k_ hk => ⟨⟨hk.1.1, hk.1.2⟩, hk.2⟩))) (fun _ h_ => h_))); (case aB => exact (by repeat (first | (with_reducible first | exact HB.out | apply y3 | refine ys ?_ GE229.out | refine ys ?_ GE230.out) | exact HB.out))); (case aF => exact (fun k_ hk => ⟨Kd.fresh' (Kd.R_lt (by (with_reducible repeat apply y2); exact HO_7.out)) k_ hk, Kd.fresh' (Kd.R_lt (by (with_reducible repeat apply y2); exact HO_8.out)) k_ hk⟩)); (case aO => exact (by (with_reducible repeat (first | apply Kd.S_alloc | apply Kd.S_drewN | apply Kd.S_drew)); exact Kd.S_mono HO_16.out (fun k_ hk => ⟨⟨hk.1.1, hk.1.2⟩, fun e_ => hk.2 e_⟩))); (case aS => exact (below_size (by repeat (first | (with_reducible first | exact HB.out | apply y3 | refine ys ?_ GE229.out | refine ys ?_ GE230.out) | exact HB.out)))); (case aL => have := LMc56.out; omega); intro v269 w60 ho hb hg hat; rw [← Ny268.out] at ho; have n0_ := ym (Kd.R_over' (by (with_reducible repeat apply y2); exact HO_7.out) (Kd.S_typed (by (with_reducible repeat (first | apply Kd.S_alloc | apply Kd.S_drewN | apply Kd.S_drew)); exact HO_16.out)) (by decide) hg); have n1_ := ym (Kd.R_over' (by (with_reducible repeat apply y2); exact HO_8.out) (Kd.S_typed (by (with_reducible repeat (first | apply Kd.S_alloc | apply Kd.S_drewN | apply Kd.S_drew)); exact HO_16.out)) (by decide) hg); have n2_ := ym (blk_grown (g := gb229) (o := .cells #[.slice A1_0 l1_0.length c1_0, .slice A1_1 l1_1.length c1_1] 24 (0, 0)) (by (with_reducible repeat refine y4 ?_); exact BK229.out) hg (Kd.S_ne HO_16.out BK229.out (by decide))); have n3_ := ym (blk_grown (g := gb230) (o := .cells #[.int .i64 a2_0, .int .i64 a2_1, .int .i64 a2_2, .int .i64 a2_3] 44 (0, 0)) (by (with_reducible repeat refine y4 ?_); exact BK230.out) hg (Kd.S_ne HO_16.out BK230.out (by decide))); have n4_ := ym (hb); have n5_ := ym (ho); clear HO_7; clear HO_8; clear BK229; clear BK230; clear HB; clear HO_16; clear HO267; have HO_7 := n0_; have HO_8 := n1_; have BK229 := n2_; have BK230 := n3_; have HB := n4_; have HO270 := n5_; clear n0_ n1_ n2_ n3_ n4_ n5_; clear ho hb hg hat))
               go_roundg k3
               case measure => have := HJ9.out; have := HK2.out; have := HK3.out; omega
               case rel => exact ⟨(y268), (wrap64 (x85_3 + 1)), (by first | rfl | (simp; done) | (simp [*]; done)), H', ⟨by have := HJ9.out; have := HK2.out; have := HK3.out; omega⟩, ⟨by (try simp only [hl9_2]); (with_reducible repeat apply y2); exact Kd.R_mono HO_7.out (fun _ hk => hk.1)⟩, ⟨by (try simp only [hl9_2]); (with_reducible repeat apply y2); exact Kd.R_mono HO_8.out (fun _ hk => hk.1)⟩, ⟨by (try simp only [hl9_2]); (with_reducible repeat (first | apply Kd.S_alloc | apply Kd.S_drewN | apply Kd.S_drew)); exact HO270.out⟩, ⟨by (try simp only [hl9_2]); (with_reducible repeat refine y4 ?_); exact BK229.out⟩, ⟨by (try simp only [hl9_2]); (with_reducible repeat refine y4 ?_); exact BK230.out⟩, ⟨by repeat (first | (with_reducible first | exact HB.out | apply y3 | refine ys ?_ GE229.out | refine ys ?_ GE230.out) | exact HB.out)⟩⟩
              rw [if_neg c56] at H
              exact absurd H (by simp)
             rw [if_neg c55] at H
             exact absurd H (by simp)
            rw [if_neg c54] at H
            exact absurd H (by simp)
           rw [if_neg c53] at H
           exact absurd H (by simp)
          rw [if_neg c52] at H
          have c52b0 : decide (x85_3 < (l0.length : Int)) = false := decide_eq_false c52
          clear c52
          replace H := Option.bind_eq_some_iff.mp H
          obtain ⟨⟨t271, t272, t273⟩, A620, H⟩ := H
          replace H : ((heraldref10_Rows.f k3 l0 a2_0 l1_0 l1_1 a2_1).bind fun bt276 => (if t272 = bt276.2.1 then (if t273 = bt276.2.2 then (if (t271.length : Int) = (bt276.1.length : Int) then ((heraldlaw10_same.f k3 y235 l1_0).bind fun t281 => (if t281 = true then ((heraldlaw10_same.f k3 y241 l1_1).bind fun t282 => (heraldlaw10_RopeRows.j3 k3 l0 x16_3 t271 bt276.1 (!t282))) else (heraldlaw10_RopeRows.j3 k3 l0 x16_3 t271 bt276.1 true))) else (heraldlaw10_RopeRows.j3 k3 l0 x16_3 t271 bt276.1 true)) else (heraldlaw10_RopeRows.j3 k3 l0 x16_3 t271 bt276.1 true)) else (heraldlaw10_RopeRows.j3 k3 l0 x16_3 t271 bt276.1 true))) = some r := H
          have A62 := ym A620
          clear A620
          replace H := Option.bind_eq_some_iff.mp H
          obtain ⟨⟨t276, t277, t278⟩, A630, H⟩ := H
          replace H : (if t272 = t277 then (if t273 = t278 then (if (t271.length : Int) = (t276.length : Int) then ((heraldlaw10_same.f k3 y235 l1_0).bind fun t281 => (if t281 = true then ((heraldlaw10_same.f k3 y241 l1_1).bind fun t282 => (heraldlaw10_RopeRows.j3 k3 l0 x16_3 t271 t276 (!t282))) else (heraldlaw10_RopeRows.j3 k3 l0 x16_3 t271 t276 true))) else (heraldlaw10_RopeRows.j3 k3 l0 x16_3 t271 t276 true)) else (heraldlaw10_RopeRows.j3 k3 l0 x16_3 t271 t276 true)) else (heraldlaw10_RopeRows.j3 k3 l0 x16_3 t271 t276 true)) = some r := H
          have A63 := ym A630
          clear A630
          have HC64 := ym H
          clear H
          have hnb65 := NB230_229.out
          have hnc65 := NB229_230.out
          have hcz66_0 : wr.cell? ⟨gb230, 0, none⟩ = some (.int .i64 a2_0) := (yw BK230.out 0).trans rfl
          have hcz66_1 : wr.cell? ⟨gb230, 1, none⟩ = some (.int .i64 a2_1) := (yw BK230.out 1).trans rfl
          have hcz66_2 : wr.cell? ⟨gb230, 2, none⟩ = some (.int .i64 a2_2) := (yw BK230.out 2).trans rfl
          have hcz66_3 : wr.cell? ⟨gb230, 3, none⟩ = some (.int .i64 a2_3) := (yw BK230.out 3).trans rfl
          have hfz66_0 := yv BK230.out 0
          have hfz66_1 := yv BK230.out 1
          have hfz66_2 := yv BK230.out 2
          have hfz66_3 := yv BK230.out 3
          obtain ⟨Ao67, co67, eo67⟩ := Kd.S_slice HO_16.out
          subst eo67
          go_upto_region 21 with (first | ((with_reducible refine gate_callee (f := 22) rfl ?_); refine goesL_ (some 104) rfl rfl Tryd.func22 (by kernel_rfl) rfl #[.slice Ao67 x16_3.length co67, .int .i64 a2_0, .slice Ao24 y235.length co24, .slice Ao25 y241.length co25, .int .i64 a2_1] rfl (by (try simp only [List.map_toArray, List.map_cons, List.map_nil]); first | done | rfl | (simp only [List.length_drop, List.length_take]; rfl)) ?_; (with_reducible refine (rope_Rows.calls k3 _ _ x16_3 a2_0 _ _ y235 _ _ y241 a2_1 t271 t272 t273 _ ?side1 ?side2 ?side3 ?side4 ?side5 ?side6 A62.out).mono ?_); (case side1 => repeat (first | exact (Kd.S_reads' HO_16.out).2.2 | (with_reducible refine yi ?_ _) | (with_reducible refine yj ?_ _) | (with_reducible refine yk ?_))); (case side2 => exact (Kd.S_reads' HO_16.out).2.1); (case side3 => repeat (first | exact (Kd.R_reads' HO_7.out).2.2 | (with_reducible refine yi ?_ _) | (with_reducible refine yj ?_ _) | (with_reducible refine yk ?_))); (case side4 => exact (Kd.R_reads' HO_7.out).2.1); (case side5 => repeat (first | exact (Kd.R_reads' HO_8.out).2.2 | (with_reducible refine yi ?_ _) | (with_reducible refine yj ?_ _) | (with_reducible refine yk ?_))); (case side6 => exact (Kd.R_reads' HO_8.out).2.1); rintro e w68 ⟨v274, rfl, ho0, hb⟩; refine ⟨_, rfl, ?_⟩; have n0_ := ym (yp (by (with_reducible repeat apply y2); exact HO_7.out) hb); have n1_ := ym (yp (by (with_reducible repeat apply y2); exact HO_8.out) hb); have n2_ := ym (Kd.S_elder' (by (with_reducible repeat (first | apply Kd.S_alloc | apply Kd.S_drewN | apply Kd.S_drew)); exact HO_16.out) (Kd.S_base ho0) hb); have n3_ := ym (Kd.S_lower (Kd.S_new' (Kd.S_new' (Kd.S_new' ho0 (Kd.R_lt (by (with_reducible repeat apply y2); exact HO_7.out))) (Kd.R_lt (by (with_reducible repeat apply y2); exact HO_8.out))) (Kd.S_lt (by (with_reducible repeat (first | apply Kd.S_alloc | apply Kd.S_drewN | apply Kd.S_drew)); exact HO_16.out))) (below_size (by repeat (first | (with_reducible first | exact HB.out | apply y3 | refine ys ?_ GE229.out | refine ys ?_ GE230.out) | exact HB.out)))); have n4_ := ym (yq (g := gb229) (o := .cells #[.slice A1_0 l1_0.length c1_0, .slice A1_1 l1_1.length c1_1] 24 (0, 0)) (by (with_reducible repeat refine y4 ?_); exact BK229.out) hb); have n5_ := ym (yq (g := gb230) (o := .cells #[.int .i64 a2_0, .int .i64 a2_1, .int .i64 a2_2, .int .i64 a2_3] 44 (0, 0)) (by (with_reducible repeat refine y4 ?_); exact BK230.out) hb); have n6_ := ym (yn (by repeat (first | (with_reducible first | exact HB.out | apply y3 | refine ys ?_ GE229.out | refine ys ?_ GE230.out) | exact HB.out)) hb); clear HO_7; clear HO_8; clear HO_16; clear BK229; clear BK230; clear HB; have HO_7 := n0_; have HO_8 := n1_; have HO_16 := n2_; have HO275 := n3_; have BK229 := n4_; have BK230 := n5_; have HB := n6_; clear n0_ n1_ n2_ n3_ n4_ n5_ n6_; (try clear hb); (try clear hb2); (try clear hk); (try clear hi); (try clear ho0); have hcz69_0 : w68.cell? ⟨gb230, 0, none⟩ = some (.int .i64 a2_0) := (yw BK230.out 0).trans rfl; have hcz69_1 : w68.cell? ⟨gb230, 1, none⟩ = some (.int .i64 a2_1) := (yw BK230.out 1).trans rfl; have hcz69_2 : w68.cell? ⟨gb230, 2, none⟩ = some (.int .i64 a2_2) := (yw BK230.out 2).trans rfl; have hcz69_3 : w68.cell? ⟨gb230, 3, none⟩ = some (.int .i64 a2_3) := (yw BK230.out 3).trans rfl; have hfz69_0 := yv BK230.out 0; have hfz69_1 := yv BK230.out 1; have hfz69_2 := yv BK230.out 2; have hfz69_3 := yv BK230.out 3; have hcz70_0 : w68.cell? ⟨gb229, 0, none⟩ = some (.slice A1_0 l1_0.length c1_0) := (yw BK229.out 0).trans rfl; have hcz70_1 : w68.cell? ⟨gb229, 1, none⟩ = some (.slice A1_1 l1_1.length c1_1) := (yw BK229.out 1).trans rfl; have hfz70_0 := yv BK229.out 0; have hfz70_1 := yv BK229.out 1) | ((with_reducible refine gate_callee (f := 23) rfl ?_); refine goesL_ (some 118) rfl rfl Tryd.func23 (by kernel_rfl) rfl #[.slice A0 l0.length c0, .int .i64 a2_0, .slice A1_0 l1_0.length c1_0, .slice A1_1 l1_1.length c1_1, .int .i64 a2_1] rfl (by (try simp only [List.map_toArray, List.map_cons, List.map_nil]); first | done | rfl | (simp only [List.length_drop, List.length_take]; rfl)) ?_; (with_reducible refine (heraldref10_Rows.calls k3 _ _ l0 a2_0 _ _ l1_0 _ _ l1_1 a2_1 t276 t277 t278 _ ?side1 ?side2 ?side3 ?side4 ?side5 ?side6 A63.out).mono ?_); (case side1 => repeat (first | exact (Kd.C_below HR0.out HB.out) | (with_reducible refine yi ?_ _) | (with_reducible refine yj ?_ _) | (with_reducible refine yk ?_))); (case side2 => exact HC0.out); (case side3 => repeat (first | exact (Kd.C_below HR1_0.out HB.out) | (with_reducible refine yi ?_ _) | (with_reducible refine yj ?_ _) | (with_reducible refine yk ?_))); (case side4 => exact HC1_0.out); (case side5 => repeat (first | exact (Kd.C_below HR1_1.out HB.out) | (with_reducible refine yi ?_ _) | (with_reducible refine yj ?_ _) | (with_reducible refine yk ?_))); (case side6 => exact HC1_1.out); rintro e w71 ⟨v279, rfl, ho0, hb⟩; refine ⟨_, rfl, ?_⟩; have n0_ := ym (yp (by (with_reducible repeat apply y2); exact HO_7.out) hb); have n1_ := ym (yp (by (with_reducible repeat apply y2); exact HO_8.out) hb); have n2_ := ym (Kd.S_elder' (by (with_reducible repeat (first | apply Kd.S_alloc | apply Kd.S_drewN | apply Kd.S_drew)); exact HO_16.out) (Kd.S_base ho0) hb); have n3_ := ym (Kd.S_elder' (by (with_reducible repeat (first | apply Kd.S_alloc | apply Kd.S_drewN | apply Kd.S_drew)); exact HO275.out) (Kd.S_base ho0) hb); have n4_ := ym (Kd.S_lower (Kd.S_new' (Kd.S_new' (Kd.S_new' (Kd.S_new' ho0 (Kd.R_lt (by (with_reducible repeat apply y2); exact HO_7.out))) (Kd.R_lt (by (with_reducible repeat apply y2); exact HO_8.out))) (Kd.S_lt (by (with_reducible repeat (first | apply Kd.S_alloc | apply Kd.S_drewN | apply Kd.S_drew)); exact HO_16.out))) (Kd.S_lt (by (with_reducible repeat (first | apply Kd.S_alloc | apply Kd.S_drewN | apply Kd.S_drew)); exact HO275.out))) (below_size (by repeat (first | (with_reducible first | exact HB.out | apply y3 | refine ys ?_ GE229.out | refine ys ?_ GE230.out) | exact HB.out)))); have n5_ := ym (yq (g := gb229) (o := .cells #[.slice A1_0 l1_0.length c1_0, .slice A1_1 l1_1.length c1_1] 24 (0, 0)) (by (with_reducible repeat refine y4 ?_); exact BK229.out) hb); have n6_ := ym (yq (g := gb230) (o := .cells #[.int .i64 a2_0, .int .i64 a2_1, .int .i64 a2_2, .int .i64 a2_3] 44 (0, 0)) (by (with_reducible repeat refine y4 ?_); exact BK230.out) hb); have n7_ := ym (yn (by repeat (first | (with_reducible first | exact HB.out | apply y3 | refine ys ?_ GE229.out | refine ys ?_ GE230.out) | exact HB.out)) hb); clear HO_7; clear HO_8; clear HO_16; clear HO275; clear BK229; clear BK230; clear HB; have HO_7 := n0_; have HO_8 := n1_; have HO_16 := n2_; have HO275 := n3_; have HO280 := n4_; have BK229 := n5_; have BK230 := n6_; have HB := n7_; clear n0_ n1_ n2_ n3_ n4_ n5_ n6_ n7_; (try clear hb); (try clear hb2); (try clear hk); (try clear hi); (try clear ho0)))
          (try simp only [Act.put, y0])
          go_cut [150] (fun v150 wc => ∃ (kq : Nat) (x150_63 : Bool), v150 = .bool x150_63 ∧ Aside0 (heraldlaw10_RopeRows.j3 kq l0 x16_3 t271 t276 x150_63 = some r) ∧ Aside0 (kq ≤ k3) ∧ Aside0 (Kd.S (Kd.slice 33 (Kd.int .i8)) 22 wc w.heap.size (fun k_ => some k_ ≠ (v274 : Value).ownBlock ∧ some k_ ≠ (v279 : Value).ownBlock) (.slice Ao67 x16_3.length co67) x16_3) ∧ Aside0 (Kd.S (Kd.slice 33 (Kd.int .i8)) 22 wc w.heap.size (fun k_ => some k_ ≠ ((.slice Ao67 x16_3.length co67) : Value).ownBlock ∧ some k_ ≠ (v279 : Value).ownBlock) v274 t271) ∧ Aside0 (Kd.S (Kd.slice 33 (Kd.int .i8)) 22 wc w.heap.size (fun k_ => some k_ ≠ ((.slice Ao67 x16_3.length co67) : Value).ownBlock ∧ some k_ ≠ (v274 : Value).ownBlock) v279 t276) ∧ Aside0 (wc.heap[gb229]? = some (.cells #[(.slice A1_0 l1_0.length c1_0), (.slice A1_1 l1_1.length c1_1)] 24 (0, 0))) ∧ Aside0 (wc.heap[gb230]? = some (.cells #[.int .i64 a2_0, .int .i64 a2_1, .int .i64 a2_2, .int .i64 a2_3] 44 (0, 0))) ∧ Aside0 (Below w.heap.size w wc))
          case first =>
           have H := HC64.out
           clear HC64
           by_cases c72 : t272 = t277
           ·
            rw [if_pos c72] at H
            have c72b0 : (t272 == t277) = true := beq_iff_eq.mpr c72
            have c72b1 : (t272 != t277) = false := bne_eq_false_iff_eq.mpr c72
            clear c72
            (first | rw [c72b0] | (simp only [i64_w, i32_w]; rw [c72b0]) | skip)
            by_cases c73 : t273 = t278
            ·
             rw [if_pos c73] at H
             have c73b0 : (t273 == t278) = true := beq_iff_eq.mpr c73
             have c73b1 : (t273 != t278) = false := bne_eq_false_iff_eq.mpr c73
             clear c73
             by_cases c74 : (t271.length : Int) = (t276.length : Int)
             ·
              rw [if_pos c74] at H
              have c74b0 : ((t271.length : Int) == (t276.length : Int)) = true := beq_iff_eq.mpr c74
              have c74b1 : ((t271.length : Int) != (t276.length : Int)) = false := bne_eq_false_iff_eq.mpr c74
              have c74b2 : (t271.length == t276.length) = true := by first | simpa using c74 | (simp at c74 ⊢; omega)
              clear c74
              replace H := Option.bind_eq_some_iff.mp H
              obtain ⟨t281, A750, H⟩ := H
              replace H : (if t281 = true then ((heraldlaw10_same.f k3 y241 l1_1).bind fun t282 => (heraldlaw10_RopeRows.j3 k3 l0 x16_3 t271 t276 (!t282))) else (heraldlaw10_RopeRows.j3 k3 l0 x16_3 t271 t276 true)) = some r := H
              have A75 := ym A750
              clear A750
              by_cases c76 : t281 = true
              ·
               subst c76
               have H1 : ((heraldlaw10_same.f k3 y241 l1_1).bind fun t282 => (heraldlaw10_RopeRows.j3 k3 l0 x16_3 t271 t276 (!t282))) = some r := by rw [if_pos rfl] at H; exact H
               clear H
               have H := H1
               clear H1
               replace H := Option.bind_eq_some_iff.mp H
               obtain ⟨t282, A770, H⟩ := H
               replace H : (heraldlaw10_RopeRows.j3 k3 l0 x16_3 t271 t276 (!t282)) = some r := H
               have A77 := ym A770
               clear A770
               have H' := ym H
               clear H
               obtain ⟨Ao78, co78, eo78⟩ := Kd.S_slice HO275.out
               subst eo78
               obtain ⟨Ao79, co79, eo79⟩ := Kd.S_slice HO280.out
               subst eo79
               have hnb80 := NB229_230.out
               have hnc80 := NB230_229.out
               have hcz81_0 : w71.cell? ⟨gb229, 0, none⟩ = some (.slice A1_0 l1_0.length c1_0) := (yw BK229.out 0).trans rfl
               have hcz81_1 : w71.cell? ⟨gb229, 1, none⟩ = some (.slice A1_1 l1_1.length c1_1) := (yw BK229.out 1).trans rfl
               have hfz81_0 := yv BK229.out 0
               have hfz81_1 := yv BK229.out 1
               go_wp2_with (first | (go_at_call 13; (with_reducible refine (heraldlaw10_same.calls k3 _ _ y235 _ _ l1_0 true _ ?side1 ?side2 ?side3 ?side4 A75.out).mono ?_); (case side1 => repeat (first | exact (Kd.R_reads' HO_7.out).2.2 | (with_reducible refine yi ?_ _) | (with_reducible refine yj ?_ _) | (with_reducible refine yk ?_))); (case side2 => exact (Kd.R_reads' HO_7.out).2.1); (case side3 => repeat (first | exact (Kd.C_below HR1_0.out HB.out) | (with_reducible refine yi ?_ _) | (with_reducible refine yj ?_ _) | (with_reducible refine yk ?_))); (case side4 => exact HC1_0.out); rintro e w' ⟨rfl, ⟨nd, rfl⟩⟩) | (go_at_call 13; (with_reducible refine (heraldlaw10_same.calls k3 _ _ y241 _ _ l1_1 t282 _ ?side1 ?side2 ?side3 ?side4 A77.out).mono ?_); (case side1 => repeat (first | exact (Kd.R_reads' HO_8.out).2.2 | (with_reducible refine yi ?_ _) | (with_reducible refine yj ?_ _) | (with_reducible refine yk ?_))); (case side2 => exact (Kd.R_reads' HO_8.out).2.1); (case side3 => repeat (first | exact (Kd.C_below HR1_1.out (by repeat (first | (with_reducible first | exact HB.out | apply y3 | refine ys ?_ GE229.out | refine ys ?_ GE230.out) | exact HB.out))) | (with_reducible refine yi ?_ _) | (with_reducible refine yj ?_ _) | (with_reducible refine yk ?_))); (case side4 => exact HC1_1.out); rintro e w' ⟨rfl, ⟨nd, rfl⟩⟩))
               go_meet
               case rel => exact ⟨_, (!t282), (by first | rfl | (simp; done) | (simp [*]; done)), H', ⟨by have := HJ9.out; have := HK2.out; have := HK3.out; first | omega | exact Nat.le_refl _⟩, ⟨by (try simp only [hl9_2]); (with_reducible repeat (first | apply Kd.S_alloc | apply Kd.S_drewN | apply Kd.S_drew)); exact Kd.S_mono HO_16.out (fun _ hk => ⟨hk.1.2, hk.2⟩)⟩, ⟨by (try simp only [hl9_2]); (with_reducible repeat (first | apply Kd.S_alloc | apply Kd.S_drewN | apply Kd.S_drew)); exact Kd.S_mono HO275.out (fun _ hk => ⟨hk.1.2, hk.2⟩)⟩, ⟨by (try simp only [hl9_2]); (with_reducible repeat (first | apply Kd.S_alloc | apply Kd.S_drewN | apply Kd.S_drew)); exact Kd.S_mono HO280.out (fun _ hk => ⟨hk.1.2, hk.2⟩)⟩, ⟨by (try simp only [hl9_2]); (with_reducible repeat refine y4 ?_); exact BK229.out⟩, ⟨by (try simp only [hl9_2]); (with_reducible repeat refine y4 ?_); exact BK230.out⟩, ⟨by repeat (first | (with_reducible first | exact HB.out | apply y3 | refine ys ?_ GE229.out | refine ys ?_ GE230.out) | exact HB.out)⟩⟩
              replace c76 := Bool.eq_false_iff.mpr c76
              subst c76
              have H1 : (heraldlaw10_RopeRows.j3 k3 l0 x16_3 t271 t276 true) = some r := by rw [if_neg (show ¬ (false = true) by decide)] at H; exact H
              clear H
              have H := H1
              clear H1
              have H' := ym H
              clear H
              obtain ⟨Ao82, co82, eo82⟩ := Kd.S_slice HO275.out
              subst eo82
              obtain ⟨Ao83, co83, eo83⟩ := Kd.S_slice HO280.out
              subst eo83
              have hnb84 := NB229_230.out
              have hnc84 := NB230_229.out
              have hcz85_0 : w71.cell? ⟨gb229, 0, none⟩ = some (.slice A1_0 l1_0.length c1_0) := (yw BK229.out 0).trans rfl
              have hcz85_1 : w71.cell? ⟨gb229, 1, none⟩ = some (.slice A1_1 l1_1.length c1_1) := (yw BK229.out 1).trans rfl
              have hfz85_0 := yv BK229.out 0
              have hfz85_1 := yv BK229.out 1
              go_wp2_with (first | (go_at_call 13; (with_reducible refine (heraldlaw10_same.calls k3 _ _ y235 _ _ l1_0 false _ ?side1 ?side2 ?side3 ?side4 A75.out).mono ?_); (case side1 => repeat (first | exact (Kd.R_reads' HO_7.out).2.2 | (with_reducible refine yi ?_ _) | (with_reducible refine yj ?_ _) | (with_reducible refine yk ?_))); (case side2 => exact (Kd.R_reads' HO_7.out).2.1); (case side3 => repeat (first | exact (Kd.C_below HR1_0.out HB.out) | (with_reducible refine yi ?_ _) | (with_reducible refine yj ?_ _) | (with_reducible refine yk ?_))); (case side4 => exact HC1_0.out); rintro e w' ⟨rfl, ⟨nd, rfl⟩⟩))
              go_meet
              case rel => exact ⟨_, (true), (by first | rfl | (simp; done) | (simp [*]; done)), H', ⟨by have := HJ9.out; have := HK2.out; have := HK3.out; first | omega | exact Nat.le_refl _⟩, ⟨by (try simp only [hl9_2]); (with_reducible repeat (first | apply Kd.S_alloc | apply Kd.S_drewN | apply Kd.S_drew)); exact Kd.S_mono HO_16.out (fun _ hk => ⟨hk.1.2, hk.2⟩)⟩, ⟨by (try simp only [hl9_2]); (with_reducible repeat (first | apply Kd.S_alloc | apply Kd.S_drewN | apply Kd.S_drew)); exact Kd.S_mono HO275.out (fun _ hk => ⟨hk.1.2, hk.2⟩)⟩, ⟨by (try simp only [hl9_2]); (with_reducible repeat (first | apply Kd.S_alloc | apply Kd.S_drewN | apply Kd.S_drew)); exact Kd.S_mono HO280.out (fun _ hk => ⟨hk.1.2, hk.2⟩)⟩, ⟨by (try simp only [hl9_2]); (with_reducible repeat refine y4 ?_); exact BK229.out⟩, ⟨by (try simp only [hl9_2]); (with_reducible repeat refine y4 ?_); exact BK230.out⟩, ⟨by repeat (first | (with_reducible first | exact HB.out | apply y3 | refine ys ?_ GE229.out | refine ys ?_ GE230.out) | exact HB.out)⟩⟩
             rw [if_neg c74] at H
             have c74b0 : ((t271.length : Int) == (t276.length : Int)) = false := beq_eq_false_iff_ne.mpr c74
             have c74b1 : ((t271.length : Int) != (t276.length : Int)) = true := bne_iff_ne.mpr c74
             have c74b2 : (t271.length == t276.length) = false := by first | simpa using c74 | (simp at c74 ⊢; omega)
             have H' := ym H
             clear H
             obtain ⟨Ao86, co86, eo86⟩ := Kd.S_slice HO275.out
             subst eo86
             obtain ⟨Ao87, co87, eo87⟩ := Kd.S_slice HO280.out
             subst eo87
             go_wp2
             go_meet
             case rel => exact ⟨_, (true), (by first | rfl | (simp; done) | (simp [*]; done)), H', ⟨by have := HJ9.out; have := HK2.out; have := HK3.out; first | omega | exact Nat.le_refl _⟩, ⟨by (try simp only [hl9_2]); (with_reducible repeat (first | apply Kd.S_alloc | apply Kd.S_drewN | apply Kd.S_drew)); exact Kd.S_mono HO_16.out (fun _ hk => ⟨hk.1.2, hk.2⟩)⟩, ⟨by (try simp only [hl9_2]); (with_reducible repeat (first | apply Kd.S_alloc | apply Kd.S_drewN | apply Kd.S_drew)); exact Kd.S_mono HO275.out (fun _ hk => ⟨hk.1.2, hk.2⟩)⟩, ⟨by (try simp only [hl9_2]); (with_reducible repeat (first | apply Kd.S_alloc | apply Kd.S_drewN | apply Kd.S_drew)); exact Kd.S_mono HO280.out (fun _ hk => ⟨hk.1.2, hk.2⟩)⟩, ⟨by (try simp only [hl9_2]); (with_reducible repeat refine y4 ?_); exact BK229.out⟩, ⟨by (try simp only [hl9_2]); (with_reducible repeat refine y4 ?_); exact BK230.out⟩, ⟨by repeat (first | (with_reducible first | exact HB.out | apply y3 | refine ys ?_ GE229.out | refine ys ?_ GE230.out) | exact HB.out)⟩⟩
            rw [if_neg c73] at H
            have c73b0 : (t273 == t278) = false := beq_eq_false_iff_ne.mpr c73
            have c73b1 : (t273 != t278) = true := bne_iff_ne.mpr c73
            have H' := ym H
            clear H
            go_wp2
            go_meet
            case rel => exact ⟨_, (true), (by first | rfl | (simp; done) | (simp [*]; done)), H', ⟨by have := HJ9.out; have := HK2.out; have := HK3.out; first | omega | exact Nat.le_refl _⟩, ⟨by (try simp only [hl9_2]); (with_reducible repeat (first | apply Kd.S_alloc | apply Kd.S_drewN | apply Kd.S_drew)); exact Kd.S_mono HO_16.out (fun _ hk => ⟨hk.1.2, hk.2⟩)⟩, ⟨by (try simp only [hl9_2]); (with_reducible repeat (first | apply Kd.S_alloc | apply Kd.S_drewN | apply Kd.S_drew)); exact Kd.S_mono HO275.out (fun _ hk => ⟨hk.1.2, hk.2⟩)⟩, ⟨by (try simp only [hl9_2]); (with_reducible repeat (first | apply Kd.S_alloc | apply Kd.S_drewN | apply Kd.S_drew)); exact Kd.S_mono HO280.out (fun _ hk => ⟨hk.1.2, hk.2⟩)⟩, ⟨by (try simp only [hl9_2]); (with_reducible repeat refine y4 ?_); exact BK229.out⟩, ⟨by (try simp only [hl9_2]); (with_reducible repeat refine y4 ?_); exact BK230.out⟩, ⟨by repeat (first | (with_reducible first | exact HB.out | apply y3 | refine ys ?_ GE229.out | refine ys ?_ GE230.out) | exact HB.out)⟩⟩
           rw [if_neg c72] at H
           have c72b0 : (t272 == t277) = false := beq_eq_false_iff_ne.mpr c72
           have c72b1 : (t272 != t277) = true := bne_iff_ne.mpr c72
           (first | rw [c72b0] | (simp only [i64_w, i32_w]; rw [c72b0]) | skip)
           have H' := ym H
           clear H
           go_wp2
           go_meet
           case rel => exact ⟨_, (true), (by first | rfl | (simp; done) | (simp [*]; done)), H', ⟨by have := HJ9.out; have := HK2.out; have := HK3.out; first | omega | exact Nat.le_refl _⟩, ⟨by (try simp only [hl9_2]); (with_reducible repeat (first | apply Kd.S_alloc | apply Kd.S_drewN | apply Kd.S_drew)); exact Kd.S_mono HO_16.out (fun _ hk => ⟨hk.1.2, hk.2⟩)⟩, ⟨by (try simp only [hl9_2]); (with_reducible repeat (first | apply Kd.S_alloc | apply Kd.S_drewN | apply Kd.S_drew)); exact Kd.S_mono HO275.out (fun _ hk => ⟨hk.1.2, hk.2⟩)⟩, ⟨by (try simp only [hl9_2]); (with_reducible repeat (first | apply Kd.S_alloc | apply Kd.S_drewN | apply Kd.S_drew)); exact Kd.S_mono HO280.out (fun _ hk => ⟨hk.1.2, hk.2⟩)⟩, ⟨by (try simp only [hl9_2]); (with_reducible repeat refine y4 ?_); exact BK229.out⟩, ⟨by (try simp only [hl9_2]); (with_reducible repeat refine y4 ?_); exact BK230.out⟩, ⟨by repeat (first | (with_reducible first | exact HB.out | apply y3 | refine ys ?_ GE229.out | refine ys ?_ GE230.out) | exact HB.out)⟩⟩
          case rest =>
           clear HC64
           try clear c1
           try clear c2
           try clear p2
           try clear q2
           try clear hx2
           try clear c3
           try clear c4
           try clear p4
           try clear q4
           try clear hx4
           try clear hf4
           try clear c5
           try clear c6
           try clear p6
           try clear c7
           try clear c8
           try clear c10
           try clear c13
           try clear c20
           try clear c21
           try clear c22
           try clear c23
           try clear c26
           try clear p26
           try clear q26
           try clear hx26
           try clear c31
           try clear c33
           try clear c44
           try clear c46
           try clear c46b0
           try clear c47
           try clear c47b0
           try clear c48
           try clear c48b0
           try clear p49
           try clear q49
           try clear hx49
           try clear hf49
           try clear c52
           try clear c52b0
           try clear c53
           try clear c53b0
           try clear c54
           try clear c54b0
           try clear c55
           try clear c56
           try clear p64
           try clear c65
           try clear c72
           try clear c72b0
           try clear c72b1
           try clear c73
           try clear c73b0
           try clear c73b1
           try clear c74
           try clear c74b0
           try clear c74b1
           try clear c74b2
           try clear c76
           try clear c80
           try clear c84
           try clear hcz23_0
           try clear hcz23_1
           try clear hcz23_2
           try clear hcz23_3
           try clear hcz27_0
           try clear hcz27_1
           try clear hcz28_0
           try clear hcz28_1
           try clear hcz28_2
           try clear hcz28_3
           try clear hcz66_0
           try clear hcz66_1
           try clear hcz66_2
           try clear hcz66_3
           try clear hcz69_0
           try clear hcz69_1
           try clear hcz69_2
           try clear hcz69_3
           try clear hcz70_0
           try clear hcz70_1
           try clear hcz81_0
           try clear hcz81_1
           try clear hcz85_0
           try clear hcz85_1
           try clear hfz23_0
           try clear hfz23_1
           try clear hfz23_2
           try clear hfz23_3
           try clear hfz27_0
           try clear hfz27_1
           try clear hfz28_0
           try clear hfz28_1
           try clear hfz28_2
           try clear hfz28_3
           try clear hfz66_0
           try clear hfz66_1
           try clear hfz66_2
           try clear hfz66_3
           try clear hfz69_0
           try clear hfz69_1
           try clear hfz69_2
           try clear hfz69_3
           try clear hfz70_0
           try clear hfz70_1
           try clear hfz81_0
           try clear hfz81_1
           try clear hfz85_0
           try clear hfz85_1
           try clear hx261_0
           try clear hx49_0
           try clear p2
           try clear p261
           try clear p4
           try clear p49
           try clear p6
           try clear q261
           try clear q4
           try clear q49
           obtain ⟨kq, x150_63, rfl, HA, HJ63, HO_16, HO_19, HO_21, BK229, BK230, HB⟩ := hcut
           cases kq with
           | zero => exact absurd HA.out (by simp [heraldlaw10_RopeRows.j3])
           | succ kj63 =>
            have H := HA.out
            clear HA
            simp only [heraldlaw10_RopeRows.j3] at H
            by_cases c88 : x150_63 = true
            ·
             subst c88
             have H1 : (none) = some r := by rw [if_pos rfl] at H; exact H
             clear H
             have H := H1
             clear H1
             exact absurd H (by simp)
            replace c88 := Bool.eq_false_iff.mpr c88
            subst c88
            have H1 : (heraldlaw10_RopeRows.l2 kj63 l0 x16_3 t271 t276 (t271.length : Int) 0) = some r := by rw [if_neg (show ¬ (false = true) by decide)] at H; exact H
            clear H
            have H := H1
            clear H1
            have H' := ym H
            clear H
            obtain ⟨Ao89, co89, eo89⟩ := Kd.S_slice HO_19.out
            subst eo89
            go_wp2
            go_loopg [153] kj63 (fun kq v153 w' => ∃ (x153_5 : Int), v153 = .int .i64 x153_5 ∧ Aside0 (heraldlaw10_RopeRows.l2 kq l0 x16_3 t271 t276 (t271.length : Int) x153_5 = some r) ∧ Aside0 (kq ≤ kj63) ∧ Aside0 (Kd.S (Kd.slice 33 (Kd.int .i8)) 22 w' w.heap.size (fun k_ => some k_ ≠ ((.slice Ao89 t271.length co89) : Value).ownBlock ∧ some k_ ≠ (v279 : Value).ownBlock) (.slice Ao67 x16_3.length co67) x16_3) ∧ Aside0 (Kd.S (Kd.slice 33 (Kd.int .i8)) 22 w' w.heap.size (fun k_ => some k_ ≠ ((.slice Ao67 x16_3.length co67) : Value).ownBlock ∧ some k_ ≠ (v279 : Value).ownBlock) (.slice Ao89 t271.length co89) t271) ∧ Aside0 (Kd.S (Kd.slice 33 (Kd.int .i8)) 22 w' w.heap.size (fun k_ => some k_ ≠ ((.slice Ao67 x16_3.length co67) : Value).ownBlock ∧ some k_ ≠ ((.slice Ao89 t271.length co89) : Value).ownBlock) v279 t276) ∧ Aside0 (w'.heap[gb229]? = some (.cells #[(.slice A1_0 l1_0.length c1_0), (.slice A1_1 l1_1.length c1_1)] 24 (0, 0))) ∧ Aside0 (w'.heap[gb230]? = some (.cells #[.int .i64 a2_0, .int .i64 a2_1, .int .i64 a2_2, .int .i64 a2_3] 44 (0, 0))) ∧ Aside0 (Below w.heap.size w w'))
            case atStart => exact ⟨(0), (by first | rfl | (simp; done) | (simp [*]; done)), H', ⟨Nat.le_refl _⟩, ⟨by (try simp only [hl9_2]); (with_reducible repeat (first | apply Kd.S_alloc | apply Kd.S_drewN | apply Kd.S_drew)); exact HO_16.out⟩, ⟨by (try simp only [hl9_2]); (with_reducible repeat (first | apply Kd.S_alloc | apply Kd.S_drewN | apply Kd.S_drew)); exact HO_19.out⟩, ⟨by (try simp only [hl9_2]); (with_reducible repeat (first | apply Kd.S_alloc | apply Kd.S_drewN | apply Kd.S_drew)); exact HO_21.out⟩, ⟨by (try simp only [hl9_2]); (with_reducible repeat refine y4 ?_); exact BK229.out⟩, ⟨by (try simp only [hl9_2]); (with_reducible repeat refine y4 ?_); exact BK230.out⟩, ⟨by repeat (first | (with_reducible first | exact HB.out | apply y3 | refine ys ?_ GE229.out | refine ys ?_ GE230.out) | exact HB.out)⟩⟩
            case round =>
             clear H'
             try clear c1
             try clear c2
             try clear p2
             try clear q2
             try clear hx2
             try clear c3
             try clear c4
             try clear p4
             try clear q4
             try clear hx4
             try clear hf4
             try clear c5
             try clear c6
             try clear p6
             try clear c7
             try clear c8
             try clear c10
             try clear c13
             try clear c20
             try clear c21
             try clear c22
             try clear c23
             try clear c26
             try clear p26
             try clear q26
             try clear hx26
             try clear c31
             try clear c33
             try clear c44
             try clear c46
             try clear c46b0
             try clear c47
             try clear c47b0
             try clear c48
             try clear c48b0
             try clear p49
             try clear q49
             try clear hx49
             try clear hf49
             try clear c52
             try clear c52b0
             try clear c53
             try clear c53b0
             try clear c54
             try clear c54b0
             try clear c55
             try clear c56
             try clear p64
             try clear c65
             try clear c72
             try clear c72b0
             try clear c72b1
             try clear c73
             try clear c73b0
             try clear c73b1
             try clear c74
             try clear c74b0
             try clear c74b1
             try clear c74b2
             try clear c76
             try clear c80
             try clear c84
             try clear c88
             try clear hcz23_0
             try clear hcz23_1
             try clear hcz23_2
             try clear hcz23_3
             try clear hcz27_0
             try clear hcz27_1
             try clear hcz28_0
             try clear hcz28_1
             try clear hcz28_2
             try clear hcz28_3
             try clear hcz66_0
             try clear hcz66_1
             try clear hcz66_2
             try clear hcz66_3
             try clear hcz69_0
             try clear hcz69_1
             try clear hcz69_2
             try clear hcz69_3
             try clear hcz70_0
             try clear hcz70_1
             try clear hcz81_0
             try clear hcz81_1
             try clear hcz85_0
             try clear hcz85_1
             try clear hfz23_0
             try clear hfz23_1
             try clear hfz23_2
             try clear hfz23_3
             try clear hfz27_0
             try clear hfz27_1
             try clear hfz28_0
             try clear hfz28_1
             try clear hfz28_2
             try clear hfz28_3
             try clear hfz66_0
             try clear hfz66_1
             try clear hfz66_2
             try clear hfz66_3
             try clear hfz69_0
             try clear hfz69_1
             try clear hfz69_2
             try clear hfz69_3
             try clear hfz70_0
             try clear hfz70_1
             try clear hfz81_0
             try clear hfz81_1
             try clear hfz85_0
             try clear hfz85_1
             try clear hx261_0
             try clear hx49_0
             try clear p2
             try clear p26
             try clear p261
             try clear p4
             try clear p49
             try clear p6
             try clear p64
             try clear q2
             try clear q26
             try clear q261
             try clear q4
             try clear q49
             obtain ⟨x153_5, rfl, HA, HK5, HO_16, HO_19, HO_21, BK229, BK230, HB⟩ := hrel
             cases gk with
             | zero => exact absurd HA.out (by simp [heraldlaw10_RopeRows.l2])
             | succ k5 =>
              have H := HA.out
              clear HA
              simp only [heraldlaw10_RopeRows.l2] at H
              by_cases c90 : x153_5 < (t271.length : Int)
              ·
               rw [if_pos c90] at H
               have c90b0 : decide (x153_5 < (t271.length : Int)) = true := decide_eq_true c90
               clear c90
               by_cases c91 : 0 ≤ x153_5
               ·
                rw [if_pos c91] at H
                have c91b0 : decide (0 ≤ x153_5) = true := decide_eq_true c91
                clear c91
                by_cases c92 : x153_5 < (t271.length : Int)
                ·
                 rw [if_pos c92] at H
                 have c92b0 : decide (x153_5 < (t271.length : Int)) = true := decide_eq_true c92
                 clear c92
                 by_cases c93 : x153_5 < (t276.length : Int)
                 ·
                  rw [if_pos c93] at H
                  have c93b0 : decide (x153_5 < (t276.length : Int)) = true := decide_eq_true c93
                  clear c93
                  replace H := Option.bind_eq_some_iff.mp H
                  obtain ⟨t285, A940, H⟩ := H
                  replace H : (if t285 = true then (heraldlaw10_RopeRows.l2 k5 l0 x16_3 t271 t276 (t271.length : Int) (wrap64 (x153_5 + 1))) else (none)) = some r := H
                  have A94 := ym A940
                  clear A940
                  by_cases c95 : t285 = true
                  ·
                   subst c95
                   have H1 : (heraldlaw10_RopeRows.l2 k5 l0 x16_3 t271 t276 (t271.length : Int) (wrap64 (x153_5 + 1))) = some r := by rw [if_pos rfl] at H; exact H
                   clear H
                   have H := H1
                   clear H1
                   have H' := ym H
                   clear H
                   try go_wp2
                   have n0_ := ym (Kd.S_drew HO_16.out)
                   have n1_ := ym (Kd.S_drew HO_19.out)
                   have n2_ := ym (Kd.S_drew HO_21.out)
                   have n3_ := ym (yt BK229.out)
                   have n4_ := ym (yt BK230.out)
                   have n5_ := ym (ye HB.out)
                   clear HO_16
                   clear HO_19
                   clear HO_21
                   clear BK229
                   clear BK230
                   clear HB
                   have HO_16 := n0_
                   have HO_19 := n1_
                   have HO_21 := n2_
                   have BK229 := n3_
                   have BK230 := n4_
                   have HB := n5_
                   clear n0_ n1_ n2_ n3_ n4_ n5_
                   have p283 : 0 ≤ (x153_5 : Int) := of_decide_eq_true (by first | (with_reducible assumption) | assumption)
                   have q283 : x153_5 < (t271.length : Int) := of_decide_eq_true (by first | (with_reducible assumption) | assumption)
                   obtain ⟨ad283, A283_0, c283_0, e283, hx283_0, hl283_0, hi283_0⟩ := at_L1 (Kd.S_reads' HO_19.out).2.2 x153_5 p283 q283
                   cases e283
                   obtain ⟨ce283, hce283, hMe283, hcc283⟩ := Kd.S_get HO_19.out [] x153_5 p283 (by first | exact q283 | exact of_decide_eq_true (by first | (with_reducible assumption) | assumption) | (have e_ := (Kd.S_reads' HO_19.out).1; omega))
                   obtain ⟨ve283_0, rfl, ge283_0⟩ := hMe283
                   have hv283_0 := hcc283 0 _ rfl
                   rw [Nat.add_zero, show ((Kd.slice 33 (Kd.int .i8))).sz = 1 from rfl, Nat.mul_one] at hv283_0
                   replace hv283_0 := Option.some.inj (hv283_0.symm.trans hx283_0)
                   rw [hv283_0] at ge283_0
                   have HL283_0 := ym (show Kd.R (Kd.int .i8) 33 _ _ _ _ (rd_L1 t271 x153_5) from ge283_0)
                   clear hv283_0 ge283_0
                   clear hcc283 hce283
                   have HR283_0 := ym hi283_0
                   have HC283_0 := ym hl283_0
                   clear hi283_0 hl283_0
                   replace p283 := eq_true p283
                   replace q283 := eq_true q283
                   obtain ⟨Ao97, co97, eo97⟩ := Kd.S_slice HO_21.out
                   (first | subst eo97 | (injection eo97 with f1_ f2_ f3_; have f4_ := f1_.symm; have f5_ := f3_.symm; clear f1_ f2_ f3_; subst f4_; subst f5_))
                   have p284 : 0 ≤ (x153_5 : Int) := of_decide_eq_true (by first | (with_reducible assumption) | assumption)
                   have q284 : x153_5 < (t276.length : Int) := of_decide_eq_true (by first | (with_reducible assumption) | assumption)
                   obtain ⟨ad284, A284_0, c284_0, e284, hx284_0, hl284_0, hi284_0⟩ := at_L1 (Kd.S_reads' HO_21.out).2.2 x153_5 p284 q284
                   cases e284
                   obtain ⟨ce284, hce284, hMe284, hcc284⟩ := Kd.S_get HO_21.out [] x153_5 p284 (by first | exact q284 | exact of_decide_eq_true (by first | (with_reducible assumption) | assumption) | (have e_ := (Kd.S_reads' HO_21.out).1; omega))
                   obtain ⟨ve284_0, rfl, ge284_0⟩ := hMe284
                   have hv284_0 := hcc284 0 _ rfl
                   rw [Nat.add_zero, show ((Kd.slice 33 (Kd.int .i8))).sz = 1 from rfl, Nat.mul_one] at hv284_0
                   replace hv284_0 := Option.some.inj (hv284_0.symm.trans hx284_0)
                   rw [hv284_0] at ge284_0
                   have HL284_0 := ym (show Kd.R (Kd.int .i8) 33 _ _ _ _ (rd_L1 t276 x153_5) from ge284_0)
                   clear hv284_0 ge284_0
                   clear hcc284 hce284
                   have HR284_0 := ym hi284_0
                   have HC284_0 := ym hl284_0
                   clear hi284_0 hl284_0
                   replace p284 := eq_true p284
                   replace q284 := eq_true q284
                   refine start_ (n := 10) (S := fun w' => w'.cell? (ad283.add (x153_5).toNat) = some (.slice A283_0 (rd_L1 t271 x153_5).length c283_0) ∧ w'.cell? (ad284.add (x153_5).toNat) = some (.slice A284_0 (rd_L1 t276 x153_5).length c284_0)) (ds := []) #[false, false, false, false, false, false, false, false, false, false] (by kernel_rfl) rfl rfl ⟨hx283_0, hx284_0⟩ (fun hHeld => ?_); refine with_tabW heraldlaw10_RopeRows.tab26 heraldlaw10_RopeRows.bits26 (fun HT_ HW_ => ?_)
                   generalize wr.drew = w96 at HO_16 HO_19 HO_21 BK229 BK230 HB HL283_0 HL284_0 HR283_0 HR284_0 hx283_0 hx284_0 hHeld ⊢
                   refine pure_ (i := 0) (N := some 156) (v := ?_) (a' := ?_) #[true, false, false, false, false, false, false, false, false, false] rfl rfl (any_of HT_.out (by kernel_rfl)) (fun _ _ _ h => h) (Or.inl ⟨by rfl, ?_⟩) ?_ ?_
                   rotate_left
                   ·
                    intro w'
                    go_simp
                    with_reducible rfl
                   rotate_left
                   ·
                    simp only [Act.put, y0, y1]
                    rfl
                   refine pure_ (i := 1) (N := some 157) (v := ?_) (a' := ?_) #[true, true, false, false, false, false, false, false, false, false] rfl rfl (any_of HT_.out (by kernel_rfl)) (fun _ _ _ h => h) (Or.inl ⟨by rfl, ?_⟩) ?_ ?_
                   rotate_left
                   ·
                    intro w'
                    go_simp
                    with_reducible rfl
                   rotate_left
                   ·
                    simp only [Act.put, y0, y1]
                    rfl
                   refine pure_ (i := 2) (N := some 158) (v := ?_) (a' := ?_) #[true, true, true, false, false, false, false, false, false, false] rfl rfl (any_of HT_.out (by kernel_rfl)) (fun _ _ _ h => h) (Or.inl ⟨by rfl, ?_⟩) ?_ ?_
                   rotate_left
                   ·
                    intro w'
                    go_simp
                    with_reducible rfl
                   rotate_left
                   ·
                    simp only [Act.put, y0, y1]
                    rfl
                   refine pure_ (i := 4) (N := some 160) (v := ?_) (a' := ?_) #[true, true, true, false, true, false, false, false, false, false] rfl rfl (any_of HT_.out (by kernel_rfl)) (fun _ _ _ h => h) (Or.inl ⟨by rfl, ?_⟩) ?_ ?_
                   rotate_left
                   ·
                    intro w'
                    go_simp
                    with_reducible rfl
                   rotate_left
                   ·
                    simp only [Act.put, y0, y1]
                    rfl
                   refine pure_ (i := 5) (N := some 161) (v := ?_) (a' := ?_) #[true, true, true, false, true, true, false, false, false, false] rfl rfl (any_of HT_.out (by kernel_rfl)) (fun _ _ _ h => h) (Or.inl ⟨by rfl, ?_⟩) ?_ ?_
                   rotate_left
                   ·
                    intro w'
                    go_simp
                    with_reducible rfl
                   rotate_left
                   ·
                    simp only [Act.put, y0, y1]
                    rfl
                   refine pure_ (i := 6) (N := some 162) (v := ?_) (a' := ?_) #[true, true, true, false, true, true, true, false, false, false] rfl rfl (any_of HT_.out (by kernel_rfl)) (fun _ _ _ h => h) (Or.inl ⟨by rfl, ?_⟩) ?_ ?_
                   rotate_left
                   ·
                    intro w'
                    go_simp
                    with_reducible rfl
                   rotate_left
                   ·
                    simp only [Act.put, y0, y1]
                    rfl
                   refine take_ (i := 3) (N := some 159) (v := ?_) (a' := ?_) #[true, true, true, true, true, true, true, false, false, false] rfl rfl (take_ofW HT_.out HW_.out (by kernel_rfl)) (fun _ _ _ h => h) (Or.inl ⟨by rfl, ?_⟩) hHeld ?_ ?_
                   rotate_left
                   ·
                    rintro w' ⟨s0, s1⟩
                    go_simp
                    with_reducible rfl
                   rotate_left
                   ·
                    simp only [Act.put, y0, y1]
                    rfl
                   refine take_ (i := 7) (N := some 163) (v := ?_) (a' := ?_) #[true, true, true, true, true, true, true, true, false, false] rfl rfl (take_ofW HT_.out HW_.out (by kernel_rfl)) (fun _ _ _ h => h) (Or.inl ⟨by rfl, ?_⟩) hHeld ?_ ?_
                   rotate_left
                   ·
                    rintro w' ⟨s0, s1⟩
                    go_simp
                    with_reducible rfl
                   rotate_left
                   ·
                    simp only [Act.put, y0, y1]
                    rfl
                   refine one_ (i := 8) (N := some 164) #[true, true, true, true, true, true, true, true, true, false] rfl rfl (one_of HT_.out (by kernel_rfl)) (by decide) (fun K hK => ?_)
                   refine goes_ Tryd.func13 (by kernel_rfl) rfl #[.slice A283_0 (rd_L1 t271 x153_5).length c283_0, .slice A284_0 (rd_L1 t276 x153_5).length c284_0] (by rfl) rfl rfl (by (try simp only [List.map_toArray, List.map_cons, List.map_nil]); first | done | rfl | (simp only [List.length_drop, List.length_take]; rfl)) ?_
                   with_reducible refine (heraldlaw10_same.calls k5 _ _ (rd_L1 t271 x153_5) _ _ (rd_L1 t276 x153_5) true _ ?side1 ?side2 ?side3 ?side4 A94.out).mono ?_
                   (case side1 => repeat (first | exact (by repeat (first | (with_reducible exact HR283_0.out) | (with_reducible refine yi ?_ _) | (with_reducible refine yj ?_ _) | (with_reducible refine yk ?_) | exact HR283_0.out)) | (with_reducible refine yi ?_ _) | (with_reducible refine yj ?_ _) | (with_reducible refine yk ?_)))
                   (case side2 => exact HC283_0.out)
                   (case side3 => repeat (first | exact (by repeat (first | (with_reducible exact HR284_0.out) | (with_reducible refine yi ?_ _) | (with_reducible refine yj ?_ _) | (with_reducible refine yk ?_) | exact HR284_0.out)) | (with_reducible refine yi ?_ _) | (with_reducible refine yj ?_ _) | (with_reducible refine yk ?_)))
                   (case side4 => exact HC284_0.out)
                   rintro e w' ⟨rfl, ⟨nd, rfl⟩⟩
                   refine ⟨_, rfl, ?_⟩
                   refine hK.out _ _ ⟨hHeld.1, hHeld.2⟩ (fun hHeld => ?_)
                   clear hK K
                   refine norm_ (a' := ?_) ?_ ?_
                   rotate_left
                   ·
                    show Act.put _ (some 164) _ = _
                    simp only [Act.put, y0, y1]
                    rfl
                   refine pure_ (i := 9) (N := some 165) (v := ?_) (a' := ?_) #[true, true, true, true, true, true, true, true, true, true] rfl rfl (any_of HT_.out (by kernel_rfl)) (fun _ _ _ h => h) (Or.inl ⟨by rfl, ?_⟩) ?_ ?_
                   rotate_left
                   ·
                    intro w'
                    go_simp
                    with_reducible rfl
                   rotate_left
                   ·
                    simp only [Act.put, y0, y1]
                    rfl
                   refine done_ (done_of HT_.out (by kernel_rfl)) ?_
                   try go_wp2
                   go_roundg k5
                   case measure => have := HJ9.out; have := HK2.out; have := HK3.out; have := HJ63.out; have := HK5.out; omega
                   case rel => exact ⟨(wrap64 (x153_5 + 1)), (by first | rfl | (simp; done) | (simp [*]; done)), H', ⟨by have := HJ9.out; have := HK2.out; have := HK3.out; have := HJ63.out; have := HK5.out; omega⟩, ⟨by (try simp only [hl9_2]); (with_reducible repeat (first | apply Kd.S_alloc | apply Kd.S_drewN | apply Kd.S_drew)); exact HO_16.out⟩, ⟨by (try simp only [hl9_2]); (with_reducible repeat (first | apply Kd.S_alloc | apply Kd.S_drewN | apply Kd.S_drew)); exact HO_19.out⟩, ⟨by (try simp only [hl9_2]); (with_reducible repeat (first | apply Kd.S_alloc | apply Kd.S_drewN | apply Kd.S_drew)); exact HO_21.out⟩, ⟨by (try simp only [hl9_2]); (with_reducible repeat refine y4 ?_); exact BK229.out⟩, ⟨by (try simp only [hl9_2]); (with_reducible repeat refine y4 ?_); exact BK230.out⟩, ⟨by repeat (first | (with_reducible first | exact HB.out | apply y3 | refine ys ?_ GE229.out | refine ys ?_ GE230.out) | exact HB.out)⟩⟩
                  replace c95 := Bool.eq_false_iff.mpr c95
                  subst c95
                  have H1 : (none) = some r := by rw [if_neg (show ¬ (false = true) by decide)] at H; exact H
                  clear H
                  have H := H1
                  clear H1
                  exact absurd H (by simp)
                 rw [if_neg c93] at H
                 exact absurd H (by simp)
                rw [if_neg c92] at H
                exact absurd H (by simp)
               rw [if_neg c91] at H
               exact absurd H (by simp)
              rw [if_neg c90] at H
              have c90b0 : decide (x153_5 < (t271.length : Int)) = false := decide_eq_false c90
              clear c90
              have H' := ym H
              clear H
              go_wp2
              go_loopg [169] k5 (fun kq v169 w' => ∃ (x169_6 : Int), v169 = .int .i64 x169_6 ∧ Aside0 (heraldlaw10_RopeRows.l3 kq l0 x16_3 (l0.length : Int) x169_6 = some r) ∧ Aside0 (kq ≤ k5) ∧ Aside0 (Kd.S (Kd.slice 33 (Kd.int .i8)) 22 w' w.heap.size (fun _ => True) (.slice Ao67 x16_3.length co67) x16_3) ∧ Aside0 (w'.heap[gb229]? = some (.cells #[(.slice A1_0 l1_0.length c1_0), (.slice A1_1 l1_1.length c1_1)] 24 (0, 0))) ∧ Aside0 (w'.heap[gb230]? = some (.cells #[.int .i64 a2_0, .int .i64 a2_1, .int .i64 a2_2, .int .i64 a2_3] 44 (0, 0))) ∧ Aside0 (Below w.heap.size w w'))
              case atStart => exact ⟨(0), (by first | rfl | (simp; done) | (simp [*]; done)), H', ⟨Nat.le_refl _⟩, ⟨by (try simp only [hl9_2]); (with_reducible repeat (first | apply Kd.S_alloc | apply Kd.S_drewN | apply Kd.S_drew)); exact Kd.S_mono HO_16.out (fun _ hk => trivial)⟩, ⟨by (try simp only [hl9_2]); (with_reducible repeat refine y4 ?_); exact BK229.out⟩, ⟨by (try simp only [hl9_2]); (with_reducible repeat refine y4 ?_); exact BK230.out⟩, ⟨by repeat (first | (with_reducible first | exact HB.out | apply y3 | refine ys ?_ GE229.out | refine ys ?_ GE230.out) | exact HB.out)⟩⟩
              case round =>
               clear H'
               try clear c1
               try clear c2
               try clear p2
               try clear q2
               try clear hx2
               try clear c3
               try clear c4
               try clear p4
               try clear q4
               try clear hx4
               try clear hf4
               try clear c5
               try clear c6
               try clear p6
               try clear c7
               try clear c8
               try clear c9
               try clear c10
               try clear c13
               try clear c20
               try clear c21
               try clear c22
               try clear c23
               try clear c26
               try clear p26
               try clear q26
               try clear hx26
               try clear c28
               try clear p28
               try clear q28
               try clear hx28
               try clear c31
               try clear c33
               try clear c44
               try clear c46
               try clear c46b0
               try clear c47
               try clear c47b0
               try clear c48
               try clear c48b0
               try clear p49
               try clear q49
               try clear hx49
               try clear hf49
               try clear c52
               try clear c52b0
               try clear c53
               try clear c53b0
               try clear c54
               try clear c54b0
               try clear c55
               try clear c56
               try clear p64
               try clear c65
               try clear c72
               try clear c72b0
               try clear c72b1
               try clear c73
               try clear c73b0
               try clear c73b1
               try clear c74
               try clear c74b0
               try clear c74b1
               try clear c74b2
               try clear c76
               try clear c80
               try clear c84
               try clear c88
               try clear c90
               try clear c90b0
               try clear c91
               try clear c91b0
               try clear c92
               try clear c92b0
               try clear c93
               try clear c93b0
               try clear c95
               try clear hcz23_0
               try clear hcz23_1
               try clear hcz23_2
               try clear hcz23_3
               try clear hcz27_0
               try clear hcz27_1
               try clear hcz28_0
               try clear hcz28_1
               try clear hcz28_2
               try clear hcz28_3
               try clear hcz66_0
               try clear hcz66_1
               try clear hcz66_2
               try clear hcz66_3
               try clear hcz69_0
               try clear hcz69_1
               try clear hcz69_2
               try clear hcz69_3
               try clear hcz70_0
               try clear hcz70_1
               try clear hcz81_0
               try clear hcz81_1
               try clear hcz85_0
               try clear hcz85_1
               try clear hfz23_0
               try clear hfz23_1
               try clear hfz23_2
               try clear hfz23_3
               try clear hfz27_0
               try clear hfz27_1
               try clear hfz28_0
               try clear hfz28_1
               try clear hfz28_2
               try clear hfz28_3
               try clear hfz66_0
               try clear hfz66_1
               try clear hfz66_2
               try clear hfz66_3
               try clear hfz69_0
               try clear hfz69_1
               try clear hfz69_2
               try clear hfz69_3
               try clear hfz70_0
               try clear hfz70_1
               try clear hfz81_0
               try clear hfz81_1
               try clear hfz85_0
               try clear hfz85_1
               try clear hx261_0
               try clear hx283_0
               try clear hx284_0
               try clear hx49_0
               try clear p2
               try clear p26
               try clear p261
               try clear p283
               try clear p284
               try clear p4
               try clear p49
               try clear p6
               try clear p64
               try clear q2
               try clear q26
               try clear q261
               try clear q283
               try clear q284
               try clear q4
               try clear q49
               obtain ⟨x169_6, rfl, HA, HK6, HO_16, BK229, BK230, HB⟩ := hrel
               cases gk with
               | zero => exact absurd HA.out (by simp [heraldlaw10_RopeRows.l3])
               | succ k6 =>
                have H := HA.out
                clear HA
                simp only [heraldlaw10_RopeRows.l3] at H
                by_cases c98 : x169_6 < (l0.length : Int)
                ·
                 rw [if_pos c98] at H
                 have c98b0 : decide (x169_6 < (l0.length : Int)) = true := decide_eq_true c98
                 clear c98
                 by_cases c99 : 0 ≤ x169_6
                 ·
                  rw [if_pos c99] at H
                  have c99b0 : decide (0 ≤ x169_6) = true := decide_eq_true c99
                  clear c99
                  by_cases c100 : x169_6 < (x16_3.length : Int)
                  ·
                   rw [if_pos c100] at H
                   have c100b0 : decide (x169_6 < (x16_3.length : Int)) = true := decide_eq_true c100
                   clear c100
                   by_cases c101 : x169_6 < (l0.length : Int)
                   ·
                    rw [if_pos c101] at H
                    have c101b0 : decide (x169_6 < (l0.length : Int)) = true := decide_eq_true c101
                    clear c101
                    replace H := Option.bind_eq_some_iff.mp H
                    obtain ⟨t288, A1020, H⟩ := H
                    replace H : (if t288 = true then (heraldlaw10_RopeRows.l3 k6 l0 x16_3 (l0.length : Int) (wrap64 (x169_6 + 1))) else (none)) = some r := H
                    have A102 := ym A1020
                    clear A1020
                    by_cases c103 : t288 = true
                    ·
                     subst c103
                     have H1 : (heraldlaw10_RopeRows.l3 k6 l0 x16_3 (l0.length : Int) (wrap64 (x169_6 + 1))) = some r := by rw [if_pos rfl] at H; exact H
                     clear H
                     have H := H1
                     clear H1
                     have H' := ym H
                     clear H
                     try go_wp2
                     have n0_ := ym (Kd.S_drew HO_16.out)
                     have n1_ := ym (yt BK229.out)
                     have n2_ := ym (yt BK230.out)
                     have n3_ := ym (ye HB.out)
                     clear HO_16
                     clear BK229
                     clear BK230
                     clear HB
                     have HO_16 := n0_
                     have BK229 := n1_
                     have BK230 := n2_
                     have HB := n3_
                     clear n0_ n1_ n2_ n3_
                     have p286 : 0 ≤ (x169_6 : Int) := of_decide_eq_true (by first | (with_reducible assumption) | assumption)
                     have q286 : x169_6 < (x16_3.length : Int) := of_decide_eq_true (by first | (with_reducible assumption) | assumption)
                     obtain ⟨ad286, A286_0, c286_0, e286, hx286_0, hl286_0, hi286_0⟩ := at_L1 (Kd.S_reads' HO_16.out).2.2 x169_6 p286 q286
                     cases e286
                     obtain ⟨ce286, hce286, hMe286, hcc286⟩ := Kd.S_get HO_16.out [] x169_6 p286 (by first | exact q286 | exact of_decide_eq_true (by first | (with_reducible assumption) | assumption) | (have e_ := (Kd.S_reads' HO_16.out).1; omega))
                     obtain ⟨ve286_0, rfl, ge286_0⟩ := hMe286
                     have hv286_0 := hcc286 0 _ rfl
                     rw [Nat.add_zero, show ((Kd.slice 33 (Kd.int .i8))).sz = 1 from rfl, Nat.mul_one] at hv286_0
                     replace hv286_0 := Option.some.inj (hv286_0.symm.trans hx286_0)
                     rw [hv286_0] at ge286_0
                     have HL286_0 := ym (show Kd.R (Kd.int .i8) 33 _ _ _ _ (rd_L1 x16_3 x169_6) from ge286_0)
                     clear hv286_0 ge286_0
                     clear hcc286 hce286
                     have HR286_0 := ym hi286_0
                     have HC286_0 := ym hl286_0
                     clear hi286_0 hl286_0
                     replace p286 := eq_true p286
                     replace q286 := eq_true q286
                     have p287 : 0 ≤ (x169_6 : Int) := of_decide_eq_true (by first | (with_reducible assumption) | assumption)
                     have q287 : x169_6 < (l0.length : Int) := of_decide_eq_true (by first | (with_reducible assumption) | assumption)
                     obtain ⟨ad287, A287_0, c287_0, e287, hx287_0, hl287_0, hi287_0⟩ := at_L1 HR0.out x169_6 p287 q287
                     have hw287_0 := hx287_0
                     cases e287
                     replace hx287_0 := (HB.out.cell (World.block_lt_of_cell? w _ hx287_0)).trans hx287_0
                     have HR287_0 := ym hi287_0
                     have HC287_0 := ym hl287_0
                     clear hi287_0 hl287_0
                     replace p287 := eq_true p287
                     replace q287 := eq_true q287
                     refine start_ (n := 10) (S := fun w' => w'.cell? (ad286.add (x169_6).toNat) = some (.slice A286_0 (rd_L1 x16_3 x169_6).length c286_0) ∧ w'.cell? (ad287.add (x169_6).toNat) = some (.slice A287_0 (rd_L1 l0 x169_6).length c287_0)) (ds := []) #[false, false, false, false, false, false, false, false, false, false] (by kernel_rfl) rfl rfl ⟨hx286_0, ((HB.out.cell (World.block_lt_of_cell? w _ hw287_0)).trans hw287_0)⟩ (fun hHeld => ?_); refine with_tabW heraldlaw10_RopeRows.tab32 heraldlaw10_RopeRows.bits32 (fun HT_ HW_ => ?_)
                     generalize wr.drew = w104 at HO_16 BK229 BK230 HB HL286_0 HR286_0 HR287_0 hx286_0 hx287_0 hHeld ⊢
                     refine pure_ (i := 0) (N := some 172) (v := ?_) (a' := ?_) #[true, false, false, false, false, false, false, false, false, false] rfl rfl (any_of HT_.out (by kernel_rfl)) (fun _ _ _ h => h) (Or.inl ⟨by rfl, ?_⟩) ?_ ?_
                     rotate_left
                     ·
                      intro w'
                      go_simp
                      with_reducible rfl
                     rotate_left
                     ·
                      simp only [Act.put, y0, y1]
                      rfl
                     refine pure_ (i := 1) (N := some 173) (v := ?_) (a' := ?_) #[true, true, false, false, false, false, false, false, false, false] rfl rfl (any_of HT_.out (by kernel_rfl)) (fun _ _ _ h => h) (Or.inl ⟨by rfl, ?_⟩) ?_ ?_
                     rotate_left
                     ·
                      intro w'
                      go_simp
                      with_reducible rfl
                     rotate_left
                     ·
                      simp only [Act.put, y0, y1]
                      rfl
                     refine pure_ (i := 2) (N := some 174) (v := ?_) (a' := ?_) #[true, true, true, false, false, false, false, false, false, false] rfl rfl (any_of HT_.out (by kernel_rfl)) (fun _ _ _ h => h) (Or.inl ⟨by rfl, ?_⟩) ?_ ?_
                     rotate_left
                     ·
                      intro w'
                      go_simp
                      with_reducible rfl
                     rotate_left
                     ·
                      simp only [Act.put, y0, y1]
                      rfl
                     refine pure_ (i := 4) (N := some 176) (v := ?_) (a' := ?_) #[true, true, true, false, true, false, false, false, false, false] rfl rfl (any_of HT_.out (by kernel_rfl)) (fun _ _ _ h => h) (Or.inl ⟨by rfl, ?_⟩) ?_ ?_
                     rotate_left
                     ·
                      intro w'
                      go_simp
                      with_reducible rfl
                     rotate_left
                     ·
                      simp only [Act.put, y0, y1]
                      rfl
                     refine pure_ (i := 5) (N := some 177) (v := ?_) (a' := ?_) #[true, true, true, false, true, true, false, false, false, false] rfl rfl (any_of HT_.out (by kernel_rfl)) (fun _ _ _ h => h) (Or.inl ⟨by rfl, ?_⟩) ?_ ?_
                     rotate_left
                     ·
                      intro w'
                      go_simp
                      with_reducible rfl
                     rotate_left
                     ·
                      simp only [Act.put, y0, y1]
                      rfl
                     refine pure_ (i := 6) (N := some 178) (v := ?_) (a' := ?_) #[true, true, true, false, true, true, true, false, false, false] rfl rfl (any_of HT_.out (by kernel_rfl)) (fun _ _ _ h => h) (Or.inl ⟨by rfl, ?_⟩) ?_ ?_
                     rotate_left
                     ·
                      intro w'
                      go_simp
                      with_reducible rfl
                     rotate_left
                     ·
                      simp only [Act.put, y0, y1]
                      rfl
                     refine take_ (i := 3) (N := some 175) (v := ?_) (a' := ?_) #[true, true, true, true, true, true, true, false, false, false] rfl rfl (take_ofW HT_.out HW_.out (by kernel_rfl)) (fun _ _ _ h => h) (Or.inl ⟨by rfl, ?_⟩) hHeld ?_ ?_
                     rotate_left
                     ·
                      rintro w' ⟨s0, s1⟩
                      go_simp
                      with_reducible rfl
                     rotate_left
                     ·
                      simp only [Act.put, y0, y1]
                      rfl
                     refine take_ (i := 7) (N := some 179) (v := ?_) (a' := ?_) #[true, true, true, true, true, true, true, true, false, false] rfl rfl (take_ofW HT_.out HW_.out (by kernel_rfl)) (fun _ _ _ h => h) (Or.inl ⟨by rfl, ?_⟩) hHeld ?_ ?_
                     rotate_left
                     ·
                      rintro w' ⟨s0, s1⟩
                      go_simp
                      with_reducible rfl
                     rotate_left
                     ·
                      simp only [Act.put, y0, y1]
                      rfl
                     refine one_ (i := 8) (N := some 180) #[true, true, true, true, true, true, true, true, true, false] rfl rfl (one_of HT_.out (by kernel_rfl)) (by decide) (fun K hK => ?_)
                     refine goes_ Tryd.func13 (by kernel_rfl) rfl #[.slice A286_0 (rd_L1 x16_3 x169_6).length c286_0, .slice A287_0 (rd_L1 l0 x169_6).length c287_0] (by rfl) rfl rfl (by (try simp only [List.map_toArray, List.map_cons, List.map_nil]); first | done | rfl | (simp only [List.length_drop, List.length_take]; rfl)) ?_
                     with_reducible refine (heraldlaw10_same.calls k6 _ _ (rd_L1 x16_3 x169_6) _ _ (rd_L1 l0 x169_6) true _ ?side1 ?side2 ?side3 ?side4 A102.out).mono ?_
                     (case side1 => repeat (first | exact (by repeat (first | (with_reducible exact HR286_0.out) | (with_reducible refine yi ?_ _) | (with_reducible refine yj ?_ _) | (with_reducible refine yk ?_) | exact HR286_0.out)) | (with_reducible refine yi ?_ _) | (with_reducible refine yj ?_ _) | (with_reducible refine yk ?_)))
                     (case side2 => exact HC286_0.out)
                     (case side3 => repeat (first | exact (Kd.C_below HR287_0.out HB.out) | (with_reducible refine yi ?_ _) | (with_reducible refine yj ?_ _) | (with_reducible refine yk ?_)))
                     (case side4 => exact HC287_0.out)
                     rintro e w' ⟨rfl, ⟨nd, rfl⟩⟩
                     refine ⟨_, rfl, ?_⟩
                     refine hK.out _ _ ⟨hHeld.1, ((HB.out.cell (World.block_lt_of_cell? w _ hw287_0)).trans hw287_0)⟩ (fun hHeld => ?_)
                     clear hK K
                     refine norm_ (a' := ?_) ?_ ?_
                     rotate_left
                     ·
                      show Act.put _ (some 180) _ = _
                      simp only [Act.put, y0, y1]
                      rfl
                     refine pure_ (i := 9) (N := some 181) (v := ?_) (a' := ?_) #[true, true, true, true, true, true, true, true, true, true] rfl rfl (any_of HT_.out (by kernel_rfl)) (fun _ _ _ h => h) (Or.inl ⟨by rfl, ?_⟩) ?_ ?_
                     rotate_left
                     ·
                      intro w'
                      go_simp
                      with_reducible rfl
                     rotate_left
                     ·
                      simp only [Act.put, y0, y1]
                      rfl
                     refine done_ (done_of HT_.out (by kernel_rfl)) ?_
                     try go_wp2
                     go_roundg k6
                     case measure => have := HJ9.out; have := HK2.out; have := HK3.out; have := HJ63.out; have := HK5.out; have := HK6.out; omega
                     case rel => exact ⟨(wrap64 (x169_6 + 1)), (by first | rfl | (simp; done) | (simp [*]; done)), H', ⟨by have := HJ9.out; have := HK2.out; have := HK3.out; have := HJ63.out; have := HK5.out; have := HK6.out; omega⟩, ⟨by (try simp only [hl9_2]); (with_reducible repeat (first | apply Kd.S_alloc | apply Kd.S_drewN | apply Kd.S_drew)); exact HO_16.out⟩, ⟨by (try simp only [hl9_2]); (with_reducible repeat refine y4 ?_); exact BK229.out⟩, ⟨by (try simp only [hl9_2]); (with_reducible repeat refine y4 ?_); exact BK230.out⟩, ⟨by repeat (first | (with_reducible first | exact HB.out | apply y3 | refine ys ?_ GE229.out | refine ys ?_ GE230.out) | exact HB.out)⟩⟩
                    replace c103 := Bool.eq_false_iff.mpr c103
                    subst c103
                    have H1 : (none) = some r := by rw [if_neg (show ¬ (false = true) by decide)] at H; exact H
                    clear H
                    have H := H1
                    clear H1
                    exact absurd H (by simp)
                   rw [if_neg c101] at H
                   exact absurd H (by simp)
                  rw [if_neg c100] at H
                  exact absurd H (by simp)
                 rw [if_neg c99] at H
                 exact absurd H (by simp)
                rw [if_neg c98] at H
                have c98b0 : decide (x169_6 < (l0.length : Int)) = false := decide_eq_false c98
                clear c98
                obtain rfl := Option.some.inj H
                go_wp2
                go_ret
                exact ⟨by first | rfl | (simp [errW_none, errW_some] <;> rfl) | (simp [*, errW_none, errW_some] <;> rfl), by repeat (first | (with_reducible first | exact HB.out | apply y3 | refine ys ?_ GE229.out | refine ys ?_ GE230.out) | exact HB.out)⟩
   rw [if_neg c7] at H
   exact absurd H (by simp)
  rw [if_neg c6] at H
  exact absurd H (by simp)
 replace c5 := Bool.eq_false_iff.mpr c5
 subst c5
 have H1 : (none) = some r := by rw [if_neg (show ¬ (false = true) by decide)] at H; exact H
 clear H
 have H := H1
 clear H1
 exact absurd H (by simp)

end Go.Proofs.YtengkjkmdodifaaDoor.P
