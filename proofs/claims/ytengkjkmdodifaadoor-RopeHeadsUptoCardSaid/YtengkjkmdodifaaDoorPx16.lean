-- Printed by xprint.py (wip): functions, contracts, rows. Lean checks it.
import Derived.Test.YtengkjkmdodifaaDoorPx0
import Derived.Test.YtengkjkmdodifaaDoorPx9
import Derived.Test.YtengkjkmdodifaaDoorPx10
import Derived.Test.YtengkjkmdodifaaDoorPx12
import Derived.Test.YtengkjkmdodifaaDoorPx15
namespace Go.Proofs.YtengkjkmdodifaaDoor.P
open Go.RowKit Go.Proofs.YtengkjkmdodifaaDoorW.PrintWords Go.Proofs.YtengkjkmdodifaaDoorW.PrintLast Go.Proofs.YtengkjkmdodifaaDoorW.PrintMore
attribute [local go_sem] max2_int min2_int max_two min_two max_three min_three max_four min_four   -- for this text's walks alone
set_option linter.unusedVariables false
set_option linter.unusedSimpArgs false

/-! ### heraldlaw10_RopeHeads: function 4 -/
mutual
def heraldlaw10_RopeHeads.j0 : Nat → List Int → List Int → Int → Bool → List Int → List Int → Option (Bool)
  | 0, _, _, _, _, _, _ => none
  | k + 1, x0, x1, x7, x57, x165000, x165001 => if x57 = true then (some true) else ((rope_Turn.f k x0 (wrap64 (2 * x7)) x165000 x165001).bind fun bt166 => ((rope_Turn.f k x1 (wrap64 (2 * x7)) x165000 x165001).bind fun bt170 => ((some (([] : List Int) : List Int)).bind fun y174 => (if y174.length + x0.length < 140737488355328 then ((some (y174 ++ x0 : List Int)).bind fun y177 => (if y177.length + x1.length < 140737488355328 then ((rope_Turn.f k (y177 ++ x1) (wrap64 (2 * x7)) x165000 x165001).bind fun bt183 => (if bt166.2 = 0 then (if bt170.2 = 0 then (if bt183.2 = 0 then ((some (([] : List Int) : List Int)).bind fun y187 => (if y187.length + bt166.1.length < 140737488355328 then ((some (y187 ++ bt166.1 : List Int)).bind fun y190 => (if y190.length + bt170.1.length < 140737488355328 then ((heraldlaw10_same.f k bt183.1 (y190 ++ bt170.1)).bind fun t196 => (heraldlaw10_RopeHeads.j1 k x0 x7 (!t196) x165000 x165001)) else (none))) else (none))) else (heraldlaw10_RopeHeads.j1 k x0 x7 true x165000 x165001)) else (heraldlaw10_RopeHeads.j1 k x0 x7 true x165000 x165001)) else (heraldlaw10_RopeHeads.j1 k x0 x7 true x165000 x165001))) else (none))) else (none)))))
def heraldlaw10_RopeHeads.j1 : Nat → List Int → Int → Bool → List Int → List Int → Option (Bool)
  | 0, _, _, _, _, _ => none
  | k + 1, x0, x7, x114, x165000, x165001 => if x114 = true then (some false) else (if 0 ≤ x7 then (if (x7 : Int).toNat ≤ 281474976710656 then ((some (List.replicate (x7 : Int).toNat 0 : List Int)).bind fun y197 => (heraldlaw10_RopeHeads.l0 k x0 x7 y197 (List.replicate (x7 : Int).toNat 0) (List.replicate (x7 : Int).toNat 0) (List.replicate (x7 : Int).toNat 0) true (y197.length : Int) 0 x165000 x165001)) else (none)) else (none))
def heraldlaw10_RopeHeads.l0 : Nat → List Int → Int → List Int → List Int → List Int → List Int → Bool → Int → Int → List Int → List Int → Option (Bool)
  | 0, _, _, _, _, _, _, _, _, _, _, _ => none
  | k + 1, x0, x7, x14, x15, x16, x17, x18, x124, x125, x165000, x165001 => if x125 < x124 then (if 0 ≤ x125 then (if x125 < (x14.length : Int) then ((some (x14.set (x125 : Int).toNat 64 : List Int)).bind fun y209 => (if x125 < (x165001.length : Int) then (if x125 < (x17.length : Int) then ((some (x17.set (x125 : Int).toNat (IntKind.i8.wrap (-(rd x165001 x125))) : List Int)).bind fun y211 => (if x18 = true then (heraldlaw10_RopeHeads.l0 k x0 x7 y209 x15 x16 y211 ((rd x165001 x125) != (-128)) x124 (wrap64 (x125 + 1)) x165000 x165001) else (heraldlaw10_RopeHeads.l0 k x0 x7 y209 x15 x16 y211 false x124 (wrap64 (x125 + 1)) x165000 x165001))) else (none)) else (none))) else (none)) else (none)) else ((rope_Back.f k x0 (wrap64 (2 * x7)) x165000 x165001).bind fun bt213 => ((rope_Turn.f k x0 (wrap64 (2 * x7)) x165000 x17).bind fun bt217 => (if bt213.2 = 0 then (if bt217.2 = 0 then (if x18 = true then ((heraldlaw10_same.f k bt213.1 bt217.1).bind fun t221 => (heraldlaw10_RopeHeads.j3 k x0 x7 x14 x15 x16 (!t221))) else (heraldlaw10_RopeHeads.j3 k x0 x7 x14 x15 x16 false)) else (heraldlaw10_RopeHeads.j3 k x0 x7 x14 x15 x16 true)) else (heraldlaw10_RopeHeads.j3 k x0 x7 x14 x15 x16 true))))
def heraldlaw10_RopeHeads.j3 : Nat → List Int → Int → List Int → List Int → List Int → Bool → Option (Bool)
  | 0, _, _, _, _, _, _ => none
  | k + 1, x0, x7, x14, x15, x16, x185 => if x185 = true then (some false) else ((rope_Turn.f k x0 (wrap64 (2 * x7)) x14 x15).bind fun bt222 => (if bt222.2 = 0 then (heraldlaw10_RopeHeads.j4 k x0 x7 x14 x16 bt222.1 ((bt222.1.length : Int) != (x0.length : Int))) else (heraldlaw10_RopeHeads.j4 k x0 x7 x14 x16 bt222.1 true)))
def heraldlaw10_RopeHeads.j4 : Nat → List Int → Int → List Int → List Int → List Int → Bool → Option (Bool)
  | 0, _, _, _, _, _, _ => none
  | k + 1, x0, x7, x14, x16, x22, x203 => if x203 = true then (some false) else (heraldlaw10_RopeHeads.l1 k x0 x7 x14 x16 x22 (x0.length : Int) 0)
def heraldlaw10_RopeHeads.l1 : Nat → List Int → Int → List Int → List Int → List Int → Int → Int → Option (Bool)
  | 0, _, _, _, _, _, _, _ => none
  | k + 1, x0, x7, x14, x16, x22, x205, x206 => if x206 < x205 then (if 0 ≤ x206 then (if x206 < (x22.length : Int) then (if x206 < (x0.length : Int) then (if (rd x22 x206) = (mx (rd x0 x206) (-127)) then (heraldlaw10_RopeHeads.l1 k x0 x7 x14 x16 x22 x205 (wrap64 (x206 + 1))) else (some false)) else (none)) else (none)) else (none)) else (heraldlaw10_RopeHeads.l2 k x7 x14 x16 x22 x22 0)
def heraldlaw10_RopeHeads.l2 : Nat → Int → List Int → List Int → List Int → List Int → Int → Option (Bool)
  | 0, _, _, _, _, _, _ => none
  | k + 1, x7, x14, x16, x22, x24, x221 => if x221 < 4 then ((rope_Turn.f k x24 (wrap64 (2 * x7)) x16 x14).bind fun bt229 => (if bt229.2 = 0 then (heraldlaw10_RopeHeads.j7 k x7 x14 x16 x22 x24 bt229.1 x221 ((bt229.1.length : Int) != (x24.length : Int))) else (heraldlaw10_RopeHeads.j7 k x7 x14 x16 x22 x24 bt229.1 x221 true))) else ((heraldlaw10_same.f k x24 x22).bind fun t228 => (some t228))
def heraldlaw10_RopeHeads.j7 : Nat → Int → List Int → List Int → List Int → List Int → List Int → Int → Bool → Option (Bool)
  | 0, _, _, _, _, _, _, _, _ => none
  | k + 1, x7, x14, x16, x22, x24, x25, x221, x240 => if x240 = true then (some false) else (heraldlaw10_RopeHeads.l3 k x7 x14 x16 x22 x24 x25 0 x221)
def heraldlaw10_RopeHeads.l3 : Nat → Int → List Int → List Int → List Int → List Int → List Int → Int → Int → Option (Bool)
  | 0, _, _, _, _, _, _, _, _ => none
  | k + 1, x7, x14, x16, x22, x24, x25, x27, x221 => if (wrap64 (x27 + 1)) < (x25.length : Int) then (if 0 ≤ x27 then (if x27 < (x25.length : Int) then (if 0 ≤ (wrap64 (x27 + 1)) then (if (wrap64 (x27 + 1)) < (x24.length : Int) then (if (rd x25 x27) = (IntKind.i8.wrap (-(rd x24 (wrap64 (x27 + 1))))) then (if x27 < (x24.length : Int) then (if (rd x25 (wrap64 (x27 + 1))) = (rd x24 x27) then (heraldlaw10_RopeHeads.l3 k x7 x14 x16 x22 x24 x25 (wrap64 (x27 + 2)) x221) else (some false)) else (none)) else (some false)) else (none)) else (none)) else (none)) else (none)) else (heraldlaw10_RopeHeads.l2 k x7 x14 x16 x22 x25 (wrap64 (x221 + 1)))
end
def heraldlaw10_RopeHeads.f (k : Nat) (l0 : List Int) (l1 : List Int) (l2_0 : List Int) (l2_1 : List Int) : Option (Bool) := (heraldlaw10_awake.f k).bind fun t165 => (if t165 = true then (if (l2_0.length : Int) = 0 then (heraldlaw10_RopeHeads.j0 k l0 l1 (l2_0.length : Int) true l2_0 l2_1) else (if (l2_1.length : Int) = (l2_0.length : Int) then (if (wrap64 (2 * (l2_0.length : Int))) = 0 then (none) else (if ((l0.length : Int) % (wrap64 (2 * (l2_0.length : Int)))) = 0 then (heraldlaw10_RopeHeads.j0 k l0 l1 (l2_0.length : Int) (((l1.length : Int) % (wrap64 (2 * (l2_0.length : Int)))) != 0) l2_0 l2_1) else (heraldlaw10_RopeHeads.j0 k l0 l1 (l2_0.length : Int) true l2_0 l2_1))) else (heraldlaw10_RopeHeads.j0 k l0 l1 (l2_0.length : Int) true l2_0 l2_1))) else (some false))
theorem heraldlaw10_RopeHeads.mono_l : ∀ k, (∀ y0 y1 y2 y3 y4 y5, LeO (heraldlaw10_RopeHeads.j0 k y0 y1 y2 y3 y4 y5) (heraldlaw10_RopeHeads.j0 (k + 1) y0 y1 y2 y3 y4 y5)) ∧ (∀ y0 y1 y2 y3 y4, LeO (heraldlaw10_RopeHeads.j1 k y0 y1 y2 y3 y4) (heraldlaw10_RopeHeads.j1 (k + 1) y0 y1 y2 y3 y4)) ∧ (∀ y0 y1 y2 y3 y4 y5 y6 y7 y8 y9 y10, LeO (heraldlaw10_RopeHeads.l0 k y0 y1 y2 y3 y4 y5 y6 y7 y8 y9 y10) (heraldlaw10_RopeHeads.l0 (k + 1) y0 y1 y2 y3 y4 y5 y6 y7 y8 y9 y10)) ∧ (∀ y0 y1 y2 y3 y4 y5, LeO (heraldlaw10_RopeHeads.j3 k y0 y1 y2 y3 y4 y5) (heraldlaw10_RopeHeads.j3 (k + 1) y0 y1 y2 y3 y4 y5)) ∧ (∀ y0 y1 y2 y3 y4 y5, LeO (heraldlaw10_RopeHeads.j4 k y0 y1 y2 y3 y4 y5) (heraldlaw10_RopeHeads.j4 (k + 1) y0 y1 y2 y3 y4 y5)) ∧ (∀ y0 y1 y2 y3 y4 y5 y6, LeO (heraldlaw10_RopeHeads.l1 k y0 y1 y2 y3 y4 y5 y6) (heraldlaw10_RopeHeads.l1 (k + 1) y0 y1 y2 y3 y4 y5 y6)) ∧ (∀ y0 y1 y2 y3 y4 y5, LeO (heraldlaw10_RopeHeads.l2 k y0 y1 y2 y3 y4 y5) (heraldlaw10_RopeHeads.l2 (k + 1) y0 y1 y2 y3 y4 y5)) ∧ (∀ y0 y1 y2 y3 y4 y5 y6 y7, LeO (heraldlaw10_RopeHeads.j7 k y0 y1 y2 y3 y4 y5 y6 y7) (heraldlaw10_RopeHeads.j7 (k + 1) y0 y1 y2 y3 y4 y5 y6 y7)) ∧ (∀ y0 y1 y2 y3 y4 y5 y6 y7, LeO (heraldlaw10_RopeHeads.l3 k y0 y1 y2 y3 y4 y5 y6 y7) (heraldlaw10_RopeHeads.l3 (k + 1) y0 y1 y2 y3 y4 y5 y6 y7))
  | 0 => ⟨fun _ _ _ _ _ _ r h => by simp [heraldlaw10_RopeHeads.j0] at h, fun _ _ _ _ _ r h => by simp [heraldlaw10_RopeHeads.j1] at h, fun _ _ _ _ _ _ _ _ _ _ _ r h => by simp [heraldlaw10_RopeHeads.l0] at h, fun _ _ _ _ _ _ r h => by simp [heraldlaw10_RopeHeads.j3] at h, fun _ _ _ _ _ _ r h => by simp [heraldlaw10_RopeHeads.j4] at h, fun _ _ _ _ _ _ _ r h => by simp [heraldlaw10_RopeHeads.l1] at h, fun _ _ _ _ _ _ r h => by simp [heraldlaw10_RopeHeads.l2] at h, fun _ _ _ _ _ _ _ _ r h => by simp [heraldlaw10_RopeHeads.j7] at h, fun _ _ _ _ _ _ _ _ r h => by simp [heraldlaw10_RopeHeads.l3] at h⟩
  | k + 1 => by
    obtain ⟨ih0, ih1, ih2, ih3, ih4, ih5, ih6, ih7, ih8⟩ := heraldlaw10_RopeHeads.mono_l k
    refine ⟨?_, ?_, ?_, ?_, ?_, ?_, ?_, ?_, ?_⟩
    · intro y0 y1 y2 y3 y4 y5
      unfold heraldlaw10_RopeHeads.j0
      repeat' first
      | (with_reducible exact ih0 _ _ _ _ _ _)
      | (with_reducible exact ih1 _ _ _ _ _)
      | (with_reducible exact ih2 _ _ _ _ _ _ _ _ _ _ _)
      | (with_reducible exact ih3 _ _ _ _ _ _)
      | (with_reducible exact ih4 _ _ _ _ _ _)
      | (with_reducible exact ih5 _ _ _ _ _ _ _)
      | (with_reducible exact ih6 _ _ _ _ _ _)
      | (with_reducible exact ih7 _ _ _ _ _ _ _ _)
      | (with_reducible exact ih8 _ _ _ _ _ _ _ _)
      | (with_reducible exact heraldlaw10_awake.mono _)
      | (with_reducible exact heraldlaw10_same.mono _ _ _)
      | (with_reducible exact rope_Back.mono _ _ _ _ _)
      | (with_reducible exact rope_Turn.mono _ _ _ _ _)
      | (with_reducible exact LeO.refl _)
      | (with_reducible exact LeO.none _)
      | (with_reducible refine LeO.ite ?_ ?_)
      | (with_reducible refine LeO.bind ?_ (fun _ => ?_))
      | exact ih0 _ _ _ _ _ _
      | exact ih1 _ _ _ _ _
      | exact ih2 _ _ _ _ _ _ _ _ _ _ _
      | exact ih3 _ _ _ _ _ _
      | exact ih4 _ _ _ _ _ _
      | exact ih5 _ _ _ _ _ _ _
      | exact ih6 _ _ _ _ _ _
      | exact ih7 _ _ _ _ _ _ _ _
      | exact ih8 _ _ _ _ _ _ _ _
      | exact heraldlaw10_awake.mono _
      | exact heraldlaw10_same.mono _ _ _
      | exact rope_Back.mono _ _ _ _ _
      | exact rope_Turn.mono _ _ _ _ _
      | exact LeO.none _
      | refine LeO.ite ?_ ?_
      | refine LeO.bind ?_ (fun _ => ?_)
    · intro y0 y1 y2 y3 y4
      unfold heraldlaw10_RopeHeads.j1
      repeat' first
      | (with_reducible exact ih0 _ _ _ _ _ _)
      | (with_reducible exact ih1 _ _ _ _ _)
      | (with_reducible exact ih2 _ _ _ _ _ _ _ _ _ _ _)
      | (with_reducible exact ih3 _ _ _ _ _ _)
      | (with_reducible exact ih4 _ _ _ _ _ _)
      | (with_reducible exact ih5 _ _ _ _ _ _ _)
      | (with_reducible exact ih6 _ _ _ _ _ _)
      | (with_reducible exact ih7 _ _ _ _ _ _ _ _)
      | (with_reducible exact ih8 _ _ _ _ _ _ _ _)
      | (with_reducible exact heraldlaw10_awake.mono _)
      | (with_reducible exact heraldlaw10_same.mono _ _ _)
      | (with_reducible exact rope_Back.mono _ _ _ _ _)
      | (with_reducible exact rope_Turn.mono _ _ _ _ _)
      | (with_reducible exact LeO.refl _)
      | (with_reducible exact LeO.none _)
      | (with_reducible refine LeO.ite ?_ ?_)
      | (with_reducible refine LeO.bind ?_ (fun _ => ?_))
      | exact ih0 _ _ _ _ _ _
      | exact ih1 _ _ _ _ _
      | exact ih2 _ _ _ _ _ _ _ _ _ _ _
      | exact ih3 _ _ _ _ _ _
      | exact ih4 _ _ _ _ _ _
      | exact ih5 _ _ _ _ _ _ _
      | exact ih6 _ _ _ _ _ _
      | exact ih7 _ _ _ _ _ _ _ _
      | exact ih8 _ _ _ _ _ _ _ _
      | exact heraldlaw10_awake.mono _
      | exact heraldlaw10_same.mono _ _ _
      | exact rope_Back.mono _ _ _ _ _
      | exact rope_Turn.mono _ _ _ _ _
      | exact LeO.none _
      | refine LeO.ite ?_ ?_
      | refine LeO.bind ?_ (fun _ => ?_)
    · intro y0 y1 y2 y3 y4 y5 y6 y7 y8 y9 y10
      unfold heraldlaw10_RopeHeads.l0
      repeat' first
      | (with_reducible exact ih0 _ _ _ _ _ _)
      | (with_reducible exact ih1 _ _ _ _ _)
      | (with_reducible exact ih2 _ _ _ _ _ _ _ _ _ _ _)
      | (with_reducible exact ih3 _ _ _ _ _ _)
      | (with_reducible exact ih4 _ _ _ _ _ _)
      | (with_reducible exact ih5 _ _ _ _ _ _ _)
      | (with_reducible exact ih6 _ _ _ _ _ _)
      | (with_reducible exact ih7 _ _ _ _ _ _ _ _)
      | (with_reducible exact ih8 _ _ _ _ _ _ _ _)
      | (with_reducible exact heraldlaw10_awake.mono _)
      | (with_reducible exact heraldlaw10_same.mono _ _ _)
      | (with_reducible exact rope_Back.mono _ _ _ _ _)
      | (with_reducible exact rope_Turn.mono _ _ _ _ _)
      | (with_reducible exact LeO.refl _)
      | (with_reducible exact LeO.none _)
      | (with_reducible refine LeO.ite ?_ ?_)
      | (with_reducible refine LeO.bind ?_ (fun _ => ?_))
      | exact ih0 _ _ _ _ _ _
      | exact ih1 _ _ _ _ _
      | exact ih2 _ _ _ _ _ _ _ _ _ _ _
      | exact ih3 _ _ _ _ _ _
      | exact ih4 _ _ _ _ _ _
      | exact ih5 _ _ _ _ _ _ _
      | exact ih6 _ _ _ _ _ _
      | exact ih7 _ _ _ _ _ _ _ _
      | exact ih8 _ _ _ _ _ _ _ _
      | exact heraldlaw10_awake.mono _
      | exact heraldlaw10_same.mono _ _ _
      | exact rope_Back.mono _ _ _ _ _
      | exact rope_Turn.mono _ _ _ _ _
      | exact LeO.none _
      | refine LeO.ite ?_ ?_
      | refine LeO.bind ?_ (fun _ => ?_)
    · intro y0 y1 y2 y3 y4 y5
      unfold heraldlaw10_RopeHeads.j3
      repeat' first
      | (with_reducible exact ih0 _ _ _ _ _ _)
      | (with_reducible exact ih1 _ _ _ _ _)
      | (with_reducible exact ih2 _ _ _ _ _ _ _ _ _ _ _)
      | (with_reducible exact ih3 _ _ _ _ _ _)
      | (with_reducible exact ih4 _ _ _ _ _ _)
      | (with_reducible exact ih5 _ _ _ _ _ _ _)
      | (with_reducible exact ih6 _ _ _ _ _ _)
      | (with_reducible exact ih7 _ _ _ _ _ _ _ _)
      | (with_reducible exact ih8 _ _ _ _ _ _ _ _)
      | (with_reducible exact heraldlaw10_awake.mono _)
      | (with_reducible exact heraldlaw10_same.mono _ _ _)
      | (with_reducible exact rope_Back.mono _ _ _ _ _)
      | (with_reducible exact rope_Turn.mono _ _ _ _ _)
      | (with_reducible exact LeO.refl _)
      | (with_reducible exact LeO.none _)
      | (with_reducible refine LeO.ite ?_ ?_)
      | (with_reducible refine LeO.bind ?_ (fun _ => ?_))
      | exact ih0 _ _ _ _ _ _
      | exact ih1 _ _ _ _ _
      | exact ih2 _ _ _ _ _ _ _ _ _ _ _
      | exact ih3 _ _ _ _ _ _
      | exact ih4 _ _ _ _ _ _
      | exact ih5 _ _ _ _ _ _ _
      | exact ih6 _ _ _ _ _ _
      | exact ih7 _ _ _ _ _ _ _ _
      | exact ih8 _ _ _ _ _ _ _ _
      | exact heraldlaw10_awake.mono _
      | exact heraldlaw10_same.mono _ _ _
      | exact rope_Back.mono _ _ _ _ _
      | exact rope_Turn.mono _ _ _ _ _
      | exact LeO.none _
      | refine LeO.ite ?_ ?_
      | refine LeO.bind ?_ (fun _ => ?_)
    · intro y0 y1 y2 y3 y4 y5
      unfold heraldlaw10_RopeHeads.j4
      repeat' first
      | (with_reducible exact ih0 _ _ _ _ _ _)
      | (with_reducible exact ih1 _ _ _ _ _)
      | (with_reducible exact ih2 _ _ _ _ _ _ _ _ _ _ _)
      | (with_reducible exact ih3 _ _ _ _ _ _)
      | (with_reducible exact ih4 _ _ _ _ _ _)
      | (with_reducible exact ih5 _ _ _ _ _ _ _)
      | (with_reducible exact ih6 _ _ _ _ _ _)
      | (with_reducible exact ih7 _ _ _ _ _ _ _ _)
      | (with_reducible exact ih8 _ _ _ _ _ _ _ _)
      | (with_reducible exact heraldlaw10_awake.mono _)
      | (with_reducible exact heraldlaw10_same.mono _ _ _)
      | (with_reducible exact rope_Back.mono _ _ _ _ _)
      | (with_reducible exact rope_Turn.mono _ _ _ _ _)
      | (with_reducible exact LeO.refl _)
      | (with_reducible exact LeO.none _)
      | (with_reducible refine LeO.ite ?_ ?_)
      | (with_reducible refine LeO.bind ?_ (fun _ => ?_))
      | exact ih0 _ _ _ _ _ _
      | exact ih1 _ _ _ _ _
      | exact ih2 _ _ _ _ _ _ _ _ _ _ _
      | exact ih3 _ _ _ _ _ _
      | exact ih4 _ _ _ _ _ _
      | exact ih5 _ _ _ _ _ _ _
      | exact ih6 _ _ _ _ _ _
      | exact ih7 _ _ _ _ _ _ _ _
      | exact ih8 _ _ _ _ _ _ _ _
      | exact heraldlaw10_awake.mono _
      | exact heraldlaw10_same.mono _ _ _
      | exact rope_Back.mono _ _ _ _ _
      | exact rope_Turn.mono _ _ _ _ _
      | exact LeO.none _
      | refine LeO.ite ?_ ?_
      | refine LeO.bind ?_ (fun _ => ?_)
    · intro y0 y1 y2 y3 y4 y5 y6
      unfold heraldlaw10_RopeHeads.l1
      repeat' first
      | (with_reducible exact ih0 _ _ _ _ _ _)
      | (with_reducible exact ih1 _ _ _ _ _)
      | (with_reducible exact ih2 _ _ _ _ _ _ _ _ _ _ _)
      | (with_reducible exact ih3 _ _ _ _ _ _)
      | (with_reducible exact ih4 _ _ _ _ _ _)
      | (with_reducible exact ih5 _ _ _ _ _ _ _)
      | (with_reducible exact ih6 _ _ _ _ _ _)
      | (with_reducible exact ih7 _ _ _ _ _ _ _ _)
      | (with_reducible exact ih8 _ _ _ _ _ _ _ _)
      | (with_reducible exact heraldlaw10_awake.mono _)
      | (with_reducible exact heraldlaw10_same.mono _ _ _)
      | (with_reducible exact rope_Back.mono _ _ _ _ _)
      | (with_reducible exact rope_Turn.mono _ _ _ _ _)
      | (with_reducible exact LeO.refl _)
      | (with_reducible exact LeO.none _)
      | (with_reducible refine LeO.ite ?_ ?_)
      | (with_reducible refine LeO.bind ?_ (fun _ => ?_))
      | exact ih0 _ _ _ _ _ _
      | exact ih1 _ _ _ _ _
      | exact ih2 _ _ _ _ _ _ _ _ _ _ _
      | exact ih3 _ _ _ _ _ _
      | exact ih4 _ _ _ _ _ _
      | exact ih5 _ _ _ _ _ _ _
      | exact ih6 _ _ _ _ _ _
      | exact ih7 _ _ _ _ _ _ _ _
      | exact ih8 _ _ _ _ _ _ _ _
      | exact heraldlaw10_awake.mono _
      | exact heraldlaw10_same.mono _ _ _
      | exact rope_Back.mono _ _ _ _ _
      | exact rope_Turn.mono _ _ _ _ _
      | exact LeO.none _
      | refine LeO.ite ?_ ?_
      | refine LeO.bind ?_ (fun _ => ?_)
    · intro y0 y1 y2 y3 y4 y5
      unfold heraldlaw10_RopeHeads.l2
      repeat' first
      | (with_reducible exact ih0 _ _ _ _ _ _)
      | (with_reducible exact ih1 _ _ _ _ _)
      | (with_reducible exact ih2 _ _ _ _ _ _ _ _ _ _ _)
      | (with_reducible exact ih3 _ _ _ _ _ _)
      | (with_reducible exact ih4 _ _ _ _ _ _)
      | (with_reducible exact ih5 _ _ _ _ _ _ _)
      | (with_reducible exact ih6 _ _ _ _ _ _)
      | (with_reducible exact ih7 _ _ _ _ _ _ _ _)
      | (with_reducible exact ih8 _ _ _ _ _ _ _ _)
      | (with_reducible exact heraldlaw10_awake.mono _)
      | (with_reducible exact heraldlaw10_same.mono _ _ _)
      | (with_reducible exact rope_Back.mono _ _ _ _ _)
      | (with_reducible exact rope_Turn.mono _ _ _ _ _)
      | (with_reducible exact LeO.refl _)
      | (with_reducible exact LeO.none _)
      | (with_reducible refine LeO.ite ?_ ?_)
      | (with_reducible refine LeO.bind ?_ (fun _ => ?_))
      | exact ih0 _ _ _ _ _ _
      | exact ih1 _ _ _ _ _
      | exact ih2 _ _ _ _ _ _ _ _ _ _ _
      | exact ih3 _ _ _ _ _ _
      | exact ih4 _ _ _ _ _ _
      | exact ih5 _ _ _ _ _ _ _
      | exact ih6 _ _ _ _ _ _
      | exact ih7 _ _ _ _ _ _ _ _
      | exact ih8 _ _ _ _ _ _ _ _
      | exact heraldlaw10_awake.mono _
      | exact heraldlaw10_same.mono _ _ _
      | exact rope_Back.mono _ _ _ _ _
      | exact rope_Turn.mono _ _ _ _ _
      | exact LeO.none _
      | refine LeO.ite ?_ ?_
      | refine LeO.bind ?_ (fun _ => ?_)
    · intro y0 y1 y2 y3 y4 y5 y6 y7
      unfold heraldlaw10_RopeHeads.j7
      repeat' first
      | (with_reducible exact ih0 _ _ _ _ _ _)
      | (with_reducible exact ih1 _ _ _ _ _)
      | (with_reducible exact ih2 _ _ _ _ _ _ _ _ _ _ _)
      | (with_reducible exact ih3 _ _ _ _ _ _)
      | (with_reducible exact ih4 _ _ _ _ _ _)
      | (with_reducible exact ih5 _ _ _ _ _ _ _)
      | (with_reducible exact ih6 _ _ _ _ _ _)
      | (with_reducible exact ih7 _ _ _ _ _ _ _ _)
      | (with_reducible exact ih8 _ _ _ _ _ _ _ _)
      | (with_reducible exact heraldlaw10_awake.mono _)
      | (with_reducible exact heraldlaw10_same.mono _ _ _)
      | (with_reducible exact rope_Back.mono _ _ _ _ _)
      | (with_reducible exact rope_Turn.mono _ _ _ _ _)
      | (with_reducible exact LeO.refl _)
      | (with_reducible exact LeO.none _)
      | (with_reducible refine LeO.ite ?_ ?_)
      | (with_reducible refine LeO.bind ?_ (fun _ => ?_))
      | exact ih0 _ _ _ _ _ _
      | exact ih1 _ _ _ _ _
      | exact ih2 _ _ _ _ _ _ _ _ _ _ _
      | exact ih3 _ _ _ _ _ _
      | exact ih4 _ _ _ _ _ _
      | exact ih5 _ _ _ _ _ _ _
      | exact ih6 _ _ _ _ _ _
      | exact ih7 _ _ _ _ _ _ _ _
      | exact ih8 _ _ _ _ _ _ _ _
      | exact heraldlaw10_awake.mono _
      | exact heraldlaw10_same.mono _ _ _
      | exact rope_Back.mono _ _ _ _ _
      | exact rope_Turn.mono _ _ _ _ _
      | exact LeO.none _
      | refine LeO.ite ?_ ?_
      | refine LeO.bind ?_ (fun _ => ?_)
    · intro y0 y1 y2 y3 y4 y5 y6 y7
      unfold heraldlaw10_RopeHeads.l3
      repeat' first
      | (with_reducible exact ih0 _ _ _ _ _ _)
      | (with_reducible exact ih1 _ _ _ _ _)
      | (with_reducible exact ih2 _ _ _ _ _ _ _ _ _ _ _)
      | (with_reducible exact ih3 _ _ _ _ _ _)
      | (with_reducible exact ih4 _ _ _ _ _ _)
      | (with_reducible exact ih5 _ _ _ _ _ _ _)
      | (with_reducible exact ih6 _ _ _ _ _ _)
      | (with_reducible exact ih7 _ _ _ _ _ _ _ _)
      | (with_reducible exact ih8 _ _ _ _ _ _ _ _)
      | (with_reducible exact heraldlaw10_awake.mono _)
      | (with_reducible exact heraldlaw10_same.mono _ _ _)
      | (with_reducible exact rope_Back.mono _ _ _ _ _)
      | (with_reducible exact rope_Turn.mono _ _ _ _ _)
      | (with_reducible exact LeO.refl _)
      | (with_reducible exact LeO.none _)
      | (with_reducible refine LeO.ite ?_ ?_)
      | (with_reducible refine LeO.bind ?_ (fun _ => ?_))
      | exact ih0 _ _ _ _ _ _
      | exact ih1 _ _ _ _ _
      | exact ih2 _ _ _ _ _ _ _ _ _ _ _
      | exact ih3 _ _ _ _ _ _
      | exact ih4 _ _ _ _ _ _
      | exact ih5 _ _ _ _ _ _ _
      | exact ih6 _ _ _ _ _ _
      | exact ih7 _ _ _ _ _ _ _ _
      | exact ih8 _ _ _ _ _ _ _ _
      | exact heraldlaw10_awake.mono _
      | exact heraldlaw10_same.mono _ _ _
      | exact rope_Back.mono _ _ _ _ _
      | exact rope_Turn.mono _ _ _ _ _
      | exact LeO.none _
      | refine LeO.ite ?_ ?_
      | refine LeO.bind ?_ (fun _ => ?_)
theorem heraldlaw10_RopeHeads.mono : ∀ a0 a1 a2 a3 k, LeO (heraldlaw10_RopeHeads.f k a0 a1 a2 a3) (heraldlaw10_RopeHeads.f (k + 1) a0 a1 a2 a3) := by
  intro a0 a1 a2 a3 k
  obtain ⟨ih0, ih1, ih2, ih3, ih4, ih5, ih6, ih7, ih8⟩ := heraldlaw10_RopeHeads.mono_l k
  unfold heraldlaw10_RopeHeads.f
  repeat' first
      | (with_reducible exact ih0 _ _ _ _ _ _)
      | (with_reducible exact ih1 _ _ _ _ _)
      | (with_reducible exact ih2 _ _ _ _ _ _ _ _ _ _ _)
      | (with_reducible exact ih3 _ _ _ _ _ _)
      | (with_reducible exact ih4 _ _ _ _ _ _)
      | (with_reducible exact ih5 _ _ _ _ _ _ _)
      | (with_reducible exact ih6 _ _ _ _ _ _)
      | (with_reducible exact ih7 _ _ _ _ _ _ _ _)
      | (with_reducible exact ih8 _ _ _ _ _ _ _ _)
      | (with_reducible exact heraldlaw10_awake.mono _)
      | (with_reducible exact heraldlaw10_same.mono _ _ _)
      | (with_reducible exact rope_Back.mono _ _ _ _ _)
      | (with_reducible exact rope_Turn.mono _ _ _ _ _)
      | (with_reducible exact LeO.refl _)
      | (with_reducible exact LeO.none _)
      | (with_reducible refine LeO.ite ?_ ?_)
      | (with_reducible refine LeO.bind ?_ (fun _ => ?_))
      | exact ih0 _ _ _ _ _ _
      | exact ih1 _ _ _ _ _
      | exact ih2 _ _ _ _ _ _ _ _ _ _ _
      | exact ih3 _ _ _ _ _ _
      | exact ih4 _ _ _ _ _ _
      | exact ih5 _ _ _ _ _ _ _
      | exact ih6 _ _ _ _ _ _
      | exact ih7 _ _ _ _ _ _ _ _
      | exact ih8 _ _ _ _ _ _ _ _
      | exact heraldlaw10_awake.mono _
      | exact heraldlaw10_same.mono _ _ _
      | exact rope_Back.mono _ _ _ _ _
      | exact rope_Turn.mono _ _ _ _ _
      | exact LeO.none _
      | refine LeO.ite ?_ ?_
      | refine LeO.bind ?_ (fun _ => ?_)
def heraldlaw10_RopeHeads.T8 : Bool × List (List Nat × List Nat) := (true, [([], []), ([], []), ([0, 1], [0, 1]), ([], []), ([2, 3, 2], [2, 3]), ([], []), ([5], [5]), ([], []), ([7], [7]), ([], []), ([9], [9]), ([4, 6, 8, 10, 4], [4, 6, 8, 10]), ([11], [11]), ([12], [12]), ([12], [12]), ([13, 11, 0, 1, 2, 3, 4, 5, 6, 7, 8, 9, 10, 11, 12, 13], [13]), ([14, 15, 0, 1, 2, 3, 4, 5, 6, 7, 8, 9, 10, 11, 12, 13, 14, 15], [14])])
def heraldlaw10_RopeHeads.B8 : List Nat := [0, 0, 3, 0, 15, 0, 32, 0, 128, 0, 512, 2047, 4095, 8191, 8191, 16383, 65535]
theorem heraldlaw10_RopeHeads.tab8 : rtab .any (opsOf Tryd.f4 8) = heraldlaw10_RopeHeads.T8 := by kernel_rfl
theorem heraldlaw10_RopeHeads.bits8 : waitsOk heraldlaw10_RopeHeads.T8.2 heraldlaw10_RopeHeads.B8 = true := by kernel_rfl
def heraldlaw10_RopeHeads.T11 : Bool × List (List Nat × List Nat) := (true, [([], []), ([0, 0], [0]), ([], []), ([2, 2], [2]), ([], []), ([4, 4], [4]), ([1, 0, 1], [1]), ([3, 6, 0, 1, 2, 3, 6], [3]), ([5, 7, 0, 1, 2, 3, 4, 5, 6, 7], [5])])
def heraldlaw10_RopeHeads.B11 : List Nat := [0, 1, 0, 4, 0, 16, 3, 79, 255]
theorem heraldlaw10_RopeHeads.tab11 : rtab .any (opsOf Tryd.f4 11) = heraldlaw10_RopeHeads.T11 := by kernel_rfl
theorem heraldlaw10_RopeHeads.bits11 : waitsOk heraldlaw10_RopeHeads.T11.2 heraldlaw10_RopeHeads.B11 = true := by kernel_rfl
def heraldlaw10_RopeHeads.T30 : Bool × List (List Nat × List Nat) := (true, [([], []), ([], []), ([0, 1], [0, 1]), ([2], [2]), ([], []), ([], []), ([4, 5], [4, 5]), ([6], [6]), ([7], [7]), ([3, 8], [3, 8])])
def heraldlaw10_RopeHeads.B30 : List Nat := [0, 0, 3, 7, 0, 0, 48, 112, 240, 511]
theorem heraldlaw10_RopeHeads.tab30 : rtab .any (opsOf Tryd.f4 30) = heraldlaw10_RopeHeads.T30 := by kernel_rfl
theorem heraldlaw10_RopeHeads.bits30 : waitsOk heraldlaw10_RopeHeads.T30.2 heraldlaw10_RopeHeads.B30 = true := by kernel_rfl
def heraldlaw10_RopeHeads.T42 : Bool × List (List Nat × List Nat) := (true, [([], []), ([], []), ([0, 1], [0, 1]), ([2], [2]), ([], []), ([], []), ([5], [5]), ([4, 6], [4, 6]), ([7], [7]), ([8], [8]), ([3, 9], [3, 9]), ([10], [10]), ([11], [11]), ([11], [11]), ([13, 11], [11, 13]), ([12, 14, 11], [11, 12, 14]), ([15, 11], [11, 15]), ([11], [11]), ([11], [11]), ([17, 18, 11], [11, 17, 18]), ([19, 11], [11, 19]), ([16, 20, 11], [11, 16, 20]), ([11, 21], [11, 21])])
def heraldlaw10_RopeHeads.B42 : List Nat := [0, 0, 3, 7, 0, 0, 32, 112, 240, 496, 1023, 2047, 4095, 4095, 12287, 32767, 65535, 4095, 4095, 397311, 921599, 2097151, 4194303]
theorem heraldlaw10_RopeHeads.tab42 : rtab .any (opsOf Tryd.f4 42) = heraldlaw10_RopeHeads.T42 := by kernel_rfl
theorem heraldlaw10_RopeHeads.bits42 : waitsOk heraldlaw10_RopeHeads.T42.2 heraldlaw10_RopeHeads.B42 = true := by kernel_rfl
open heraldlaw10_RopeHeads in
set_option maxHeartbeats 8000000 in
set_option maxRecDepth 100000 in
theorem heraldlaw10_RopeHeads.calls (k : Nat) (A0 : Option Addr) (c0 : Nat) (l0 : List Int) (A1 : Option Addr) (c1 : Nat) (l1 : List Int) (A2_0 : Option Addr) (c2_0 : Nat) (l2_0 : List Int) (A2_1 : Option Addr) (c2_1 : Nat) (l2_1 : List Int) (r : Bool) (w : World) (hr0 : Kd.C (Kd.int .i8) w A0 l0.length l0) (hc0 : l0.length ≤ c0) (hr1 : Kd.C (Kd.int .i8) w A1 l1.length l1) (hc1 : l1.length ≤ c1) (hr2_0 : Kd.C (Kd.int .i8) w A2_0 l2_0.length l2_0) (hc2_0 : l2_0.length ≤ c2_0) (hr2_1 : Kd.C (Kd.int .i8) w A2_1 l2_1.length l2_1) (hc2_1 : l2_1.length ≤ c2_1) (h : heraldlaw10_RopeHeads.f k l0 l1 l2_0 l2_1 = some r) (ht : Tab w) :
    Calls Tryd.prog 4 #[.slice A0 l0.length c0, .slice A1 l1.length c1, .agg #[.slice A2_0 l2_0.length c2_0, .slice A2_1 l2_1.length c2_1]] w fun e w' => e = .returned (.bool r) ∧ Below w.heap.size w w' := by
 have HTAB := ym ht; clear ht; have hu24 := Tryd.underlying24; have HR0 := ym hr0; have HC0 := ym hc0; clear hr0 hc0; have HR1 := ym hr1; have HC1 := ym hc1; clear hr1 hc1; have HR2_0 := ym hr2_0; have HC2_0 := ym hc2_0; clear hr2_0 hc2_0; have HR2_1 := ym hr2_1; have HC2_1 := ym hc2_1; clear hr2_1 hc2_1; have HB := ym (Below.refl w.heap.size w); have H : ((heraldlaw10_awake.f k).bind fun t165 => (if t165 = true then (if (l2_0.length : Int) = 0 then (j0 k l0 l1 (l2_0.length : Int) true l2_0 l2_1) else (if (l2_1.length : Int) = (l2_0.length : Int) then (if (wrap64 (2 * (l2_0.length : Int))) = 0 then (none) else (if ((l0.length : Int) % (wrap64 (2 * (l2_0.length : Int)))) = 0 then (j0 k l0 l1 (l2_0.length : Int) (((l1.length : Int) % (wrap64 (2 * (l2_0.length : Int)))) != 0) l2_0 l2_1) else (j0 k l0 l1 (l2_0.length : Int) true l2_0 l2_1))) else (j0 k l0 l1 (l2_0.length : Int) true l2_0 l2_1))) else (some false))) = some r := h; clear h; replace H := Option.bind_eq_some_iff.mp H; obtain ⟨t165, A40, H⟩ := H; replace H : (if t165 = true then (if (l2_0.length : Int) = 0 then (j0 k l0 l1 (l2_0.length : Int) true l2_0 l2_1) else (if (l2_1.length : Int) = (l2_0.length : Int) then (if (wrap64 (2 * (l2_0.length : Int))) = 0 then (none) else (if ((l0.length : Int) % (wrap64 (2 * (l2_0.length : Int)))) = 0 then (j0 k l0 l1 (l2_0.length : Int) (((l1.length : Int) % (wrap64 (2 * (l2_0.length : Int)))) != 0) l2_0 l2_1) else (j0 k l0 l1 (l2_0.length : Int) true l2_0 l2_1))) else (j0 k l0 l1 (l2_0.length : Int) true l2_0 l2_1))) else (some false)) = some r := H; have A4 := ym A40; clear A40; by_cases c5 : t165 = true
 ·
  as_aux_lemma =>
  subst c5; (have H1 : (if (l2_0.length : Int) = 0 then (j0 k l0 l1 (l2_0.length : Int) true l2_0 l2_1) else (if (l2_1.length : Int) = (l2_0.length : Int) then (if (wrap64 (2 * (l2_0.length : Int))) = 0 then (none) else (if ((l0.length : Int) % (wrap64 (2 * (l2_0.length : Int)))) = 0 then (j0 k l0 l1 (l2_0.length : Int) (((l1.length : Int) % (wrap64 (2 * (l2_0.length : Int)))) != 0) l2_0 l2_1) else (j0 k l0 l1 (l2_0.length : Int) true l2_0 l2_1))) else (j0 k l0 l1 (l2_0.length : Int) true l2_0 l2_1))) = some r := by rw [if_pos rfl] at H; exact H); clear H; have H := H1; clear H1; have HC6 := ym H; clear H
  go_enter Tryd.func4, Tryd.ntmps4
  go_upto_region 4 with (first | ((with_reducible refine gate_dst (N := 5) rfl ?_); (try (refine gate_guard (by rfl) ?_; dsimp only)); refine box_event ?hg (N := 5) ?hd (cs := #[.slice A2_0 l2_0.length c2_0, .slice A2_1 l2_1.length c2_1]) (t := 24) ?hr ?_; (case hd => rfl); (case hg => rfl); (case hr => first | (go_simp; done) | (go_simp; rfl)); intro gb164 hg w7 hbox hb; have n0_ := ym (yn (by repeat (first | (with_reducible first | exact HB.out | apply y3) | exact HB.out)) hb); have n1_ := ym (hbox); have n2_ := ym ((by rw [hg]; exact (below_size (by repeat (first | (with_reducible first | exact HB.out | apply y3) | exact HB.out))) : w.heap.size ≤ gb164)); have n3_ := n2_; clear HB; have HB := n0_; have BK164 := n1_; have GW164 := n2_; have GE164 := n3_; clear n0_ n1_ n2_ n3_; clear hb hbox hg) | ((with_reducible refine gate_callee (f := 10) rfl ?_); refine goesL_ (some 28) rfl rfl Tryd.func10 (by kernel_rfl) rfl #[] rfl (by (try simp only [List.map_toArray, List.map_cons, List.map_nil]); first | done | rfl | (simp only [List.length_drop, List.length_take]; rfl)) ?_; (with_reducible refine (heraldlaw10_awake.calls k  true _ A4.out (tab_of HTAB.out (by repeat (first | (with_reducible first | exact HB.out | apply y3) | exact HB.out | exact Below.refl _ _)))).mono ?_); rintro e w8 ⟨rfl, hb⟩; refine ⟨_, rfl, ?_⟩; have n0_ := ym (yq (g := gb164) (o := .cells #[.slice A2_0 l2_0.length c2_0, .slice A2_1 l2_1.length c2_1] 24 (0, 0)) (by (with_reducible repeat refine y4 ?_); exact BK164.out) hb); have n1_ := ym (yn (by repeat (first | (with_reducible first | exact HB.out | apply y3 | refine ys ?_ GE164.out) | exact HB.out)) hb); clear BK164; clear HB; have BK164 := n0_; have HB := n1_; clear n0_ n1_; (try clear hb); (try clear hb2); (try clear hk); (try clear hi); have hcz9_0 : w8.cell? ⟨gb164, 0, none⟩ = some (.slice A2_0 l2_0.length c2_0) := (yw BK164.out 0).trans rfl; have hcz9_1 : w8.cell? ⟨gb164, 1, none⟩ = some (.slice A2_1 l2_1.length c2_1) := (yw BK164.out 1).trans rfl; have hfz9_0 := yv BK164.out 0; have hfz9_1 := yv BK164.out 1))
  (try simp only [Act.put, y0])
  go_cut [57] (fun v57 wc => ∃ (kq : Nat) (x57_5 : Bool), v57 = .bool x57_5 ∧ Aside0 (j0 kq l0 l1 (l2_0.length : Int) x57_5 l2_0 l2_1 = some r) ∧ Aside0 (kq ≤ k) ∧ Aside0 (wc.heap[gb164]? = some (.cells #[(.slice A2_0 l2_0.length c2_0), (.slice A2_1 l2_1.length c2_1)] 24 (0, 0))) ∧ Aside0 (Below w.heap.size w wc))
  case first =>
   have H := HC6.out; clear HC6; by_cases c10 : (l2_0.length : Int) = 0
   ·
    as_aux_lemma =>
    rw [if_pos c10] at H; have c10b0 : ((l2_0.length : Int) == 0) = true := beq_iff_eq.mpr c10; have c10b1 : ((l2_0.length : Int) != 0) = false := bne_eq_false_iff_eq.mpr c10; clear c10
    (first | rw [c10b0] | (simp only [i64_w, i32_w]; rw [c10b0]) | skip)
    have H' := ym H; clear H
    go_wp2
    go_meet
    case rel => exact ⟨_, (true), (by first | rfl | (simp; done) | (simp [*]; done)), H', ⟨by first | omega | exact Nat.le_refl _⟩, ⟨by (with_reducible repeat refine y4 ?_); exact BK164.out⟩, ⟨by repeat (first | (with_reducible first | exact HB.out | apply y3 | refine ys ?_ GE164.out) | exact HB.out)⟩⟩
   as_aux_lemma =>
   rw [if_neg c10] at H; have c10b0 : ((l2_0.length : Int) == 0) = false := beq_eq_false_iff_ne.mpr c10; have c10b1 : ((l2_0.length : Int) != 0) = true := bne_iff_ne.mpr c10; have c10b2 : ¬ (l2_0 = []) := fun h_ => c10 (by rw [h_]; rfl)
   (first | rw [c10b0] | (simp only [i64_w, i32_w]; rw [c10b0]) | skip)
   by_cases c11 : (l2_1.length : Int) = (l2_0.length : Int)
   ·
    as_aux_lemma =>
    rw [if_pos c11] at H; have c11b0 : ((l2_1.length : Int) == (l2_0.length : Int)) = true := beq_iff_eq.mpr c11; have c11b1 : ((l2_1.length : Int) != (l2_0.length : Int)) = false := bne_eq_false_iff_eq.mpr c11; (have c11b2 : (l2_1.length == l2_0.length) = true := by first | simpa using c11 | (simp at c11 ⊢; omega)); clear c11; by_cases c12 : (wrap64 (2 * (l2_0.length : Int))) = 0
    ·
     as_aux_lemma =>
     rw [if_pos c12] at H; exact absurd H (by simp)
    as_aux_lemma =>
    rw [if_neg c12] at H; have c12b0 : ((wrap64 (2 * (l2_0.length : Int))) == 0) = false := beq_eq_false_iff_ne.mpr c12; have c12b1 : ((wrap64 (2 * (l2_0.length : Int))) != 0) = true := bne_iff_ne.mpr c12; by_cases c13 : ((l0.length : Int) % (wrap64 (2 * (l2_0.length : Int)))) = 0
    ·
     as_aux_lemma =>
     rw [if_pos c13] at H; have c13b0 : (((l0.length : Int) % (wrap64 (2 * (l2_0.length : Int)))) == 0) = true := beq_iff_eq.mpr c13; have c13b1 : (((l0.length : Int) % (wrap64 (2 * (l2_0.length : Int)))) != 0) = false := bne_eq_false_iff_eq.mpr c13; clear c13; have H' := ym H; clear H; have hcz14_0 : w8.cell? ⟨gb164, 0, none⟩ = some (.slice A2_0 l2_0.length c2_0) := (yw BK164.out 0).trans rfl; have hcz14_1 : w8.cell? ⟨gb164, 1, none⟩ = some (.slice A2_1 l2_1.length c2_1) := (yw BK164.out 1).trans rfl; have hfz14_0 := yv BK164.out 0; have hfz14_1 := yv BK164.out 1
     go_wp2
     go_meet
     case rel => exact ⟨_, ((((l1.length : Int) % (wrap64 (2 * (l2_0.length : Int)))) != 0)), (by first | rfl | (simp; done) | (simp [*]; done)), H', ⟨by first | omega | exact Nat.le_refl _⟩, ⟨by (with_reducible repeat refine y4 ?_); exact BK164.out⟩, ⟨by repeat (first | (with_reducible first | exact HB.out | apply y3 | refine ys ?_ GE164.out) | exact HB.out)⟩⟩
    as_aux_lemma =>
    rw [if_neg c13] at H; have c13b0 : (((l0.length : Int) % (wrap64 (2 * (l2_0.length : Int)))) == 0) = false := beq_eq_false_iff_ne.mpr c13; have c13b1 : (((l0.length : Int) % (wrap64 (2 * (l2_0.length : Int)))) != 0) = true := bne_iff_ne.mpr c13; have H' := ym H; clear H; have hcz15_0 : w8.cell? ⟨gb164, 0, none⟩ = some (.slice A2_0 l2_0.length c2_0) := (yw BK164.out 0).trans rfl; have hcz15_1 : w8.cell? ⟨gb164, 1, none⟩ = some (.slice A2_1 l2_1.length c2_1) := (yw BK164.out 1).trans rfl; have hfz15_0 := yv BK164.out 0; have hfz15_1 := yv BK164.out 1
    go_wp2
    go_meet
    case rel => exact ⟨_, (true), (by first | rfl | (simp; done) | (simp [*]; done)), H', ⟨by first | omega | exact Nat.le_refl _⟩, ⟨by (with_reducible repeat refine y4 ?_); exact BK164.out⟩, ⟨by repeat (first | (with_reducible first | exact HB.out | apply y3 | refine ys ?_ GE164.out) | exact HB.out)⟩⟩
   as_aux_lemma =>
   rw [if_neg c11] at H; have c11b0 : ((l2_1.length : Int) == (l2_0.length : Int)) = false := beq_eq_false_iff_ne.mpr c11; have c11b1 : ((l2_1.length : Int) != (l2_0.length : Int)) = true := bne_iff_ne.mpr c11; (have c11b2 : (l2_1.length == l2_0.length) = false := by first | simpa using c11 | (simp at c11 ⊢; omega)); have H' := ym H; clear H; have hcz16_0 : w8.cell? ⟨gb164, 0, none⟩ = some (.slice A2_0 l2_0.length c2_0) := (yw BK164.out 0).trans rfl; have hcz16_1 : w8.cell? ⟨gb164, 1, none⟩ = some (.slice A2_1 l2_1.length c2_1) := (yw BK164.out 1).trans rfl; have hfz16_0 := yv BK164.out 0; have hfz16_1 := yv BK164.out 1
   go_wp2
   go_meet
   case rel => exact ⟨_, (true), (by first | rfl | (simp; done) | (simp [*]; done)), H', ⟨by first | omega | exact Nat.le_refl _⟩, ⟨by (with_reducible repeat refine y4 ?_); exact BK164.out⟩, ⟨by repeat (first | (with_reducible first | exact HB.out | apply y3 | refine ys ?_ GE164.out) | exact HB.out)⟩⟩
  case rest =>
   clear HC6; (try clear c1); (try clear c2); (try clear p2); (try clear c4); (try clear c5); (try clear p6); (try clear c10); (try clear c10b0); (try clear c10b1); (try clear c10b2); (try clear c11); (try clear c11b0); (try clear c11b1); (try clear c11b2); (try clear c12); (try clear c12b0); (try clear c12b1); (try clear c13); (try clear c13b0); (try clear c13b1); (try clear hcz14_0); (try clear hcz14_1); (try clear hcz15_0); (try clear hcz15_1); (try clear hcz16_0); (try clear hcz16_1); (try clear hcz9_0); (try clear hcz9_1); (try clear hfz14_0); (try clear hfz14_1); (try clear hfz15_0); (try clear hfz15_1); (try clear hfz16_0); (try clear hfz16_1); (try clear hfz9_0); (try clear hfz9_1); obtain ⟨kq, x57_5, rfl, HA, HJ5, BK164, HB⟩ := hcut
   cases kq with
   | zero => exact absurd HA.out (by simp [j0])
   | succ kj5 =>
    have H := HA.out; clear HA; simp only [j0] at H; by_cases c17 : x57_5 = true
    ·
     as_aux_lemma =>
     subst c17; (have H1 : (some true) = some r := by rw [if_pos rfl] at H; exact H); clear H; have H := H1; clear H1; obtain rfl := Option.some.inj H
     go_wp2
     go_ret
     exact ⟨by first | rfl | (simp [errW_none, errW_some] <;> rfl) | (simp [*, errW_none, errW_some] <;> rfl), by repeat (first | (with_reducible first | exact HB.out | apply y3 | refine ys ?_ GE164.out) | exact HB.out)⟩
    as_aux_lemma =>
    replace c17 := Bool.eq_false_iff.mpr c17; subst c17; (have H1 : ((rope_Turn.f kj5 l0 (wrap64 (2 * (l2_0.length : Int))) l2_0 l2_1).bind fun bt166 => ((rope_Turn.f kj5 l1 (wrap64 (2 * (l2_0.length : Int))) l2_0 l2_1).bind fun bt170 => ((some (([] : List Int) : List Int)).bind fun y174 => (if y174.length + l0.length < 140737488355328 then ((some (y174 ++ l0 : List Int)).bind fun y177 => (if y177.length + l1.length < 140737488355328 then ((rope_Turn.f kj5 (y177 ++ l1) (wrap64 (2 * (l2_0.length : Int))) l2_0 l2_1).bind fun bt183 => (if bt166.2 = 0 then (if bt170.2 = 0 then (if bt183.2 = 0 then ((some (([] : List Int) : List Int)).bind fun y187 => (if y187.length + bt166.1.length < 140737488355328 then ((some (y187 ++ bt166.1 : List Int)).bind fun y190 => (if y190.length + bt170.1.length < 140737488355328 then ((heraldlaw10_same.f kj5 bt183.1 (y190 ++ bt170.1)).bind fun t196 => (j1 kj5 l0 (l2_0.length : Int) (!t196) l2_0 l2_1)) else (none))) else (none))) else (j1 kj5 l0 (l2_0.length : Int) true l2_0 l2_1)) else (j1 kj5 l0 (l2_0.length : Int) true l2_0 l2_1)) else (j1 kj5 l0 (l2_0.length : Int) true l2_0 l2_1))) else (none))) else (none))))) = some r := by rw [if_neg (show ¬ (false = true) by decide)] at H; exact H); clear H; have H := H1; clear H1; replace H := Option.bind_eq_some_iff.mp H; obtain ⟨⟨t166, t167⟩, A180, H⟩ := H; replace H : ((rope_Turn.f kj5 l1 (wrap64 (2 * (l2_0.length : Int))) l2_0 l2_1).bind fun bt170 => ((some (([] : List Int) : List Int)).bind fun y174 => (if y174.length + l0.length < 140737488355328 then ((some (y174 ++ l0 : List Int)).bind fun y177 => (if y177.length + l1.length < 140737488355328 then ((rope_Turn.f kj5 (y177 ++ l1) (wrap64 (2 * (l2_0.length : Int))) l2_0 l2_1).bind fun bt183 => (if t167 = 0 then (if bt170.2 = 0 then (if bt183.2 = 0 then ((some (([] : List Int) : List Int)).bind fun y187 => (if y187.length + t166.length < 140737488355328 then ((some (y187 ++ t166 : List Int)).bind fun y190 => (if y190.length + bt170.1.length < 140737488355328 then ((heraldlaw10_same.f kj5 bt183.1 (y190 ++ bt170.1)).bind fun t196 => (j1 kj5 l0 (l2_0.length : Int) (!t196) l2_0 l2_1)) else (none))) else (none))) else (j1 kj5 l0 (l2_0.length : Int) true l2_0 l2_1)) else (j1 kj5 l0 (l2_0.length : Int) true l2_0 l2_1)) else (j1 kj5 l0 (l2_0.length : Int) true l2_0 l2_1))) else (none))) else (none)))) = some r := H; have A18 := ym A180; clear A180; replace H := Option.bind_eq_some_iff.mp H; obtain ⟨⟨t170, t171⟩, A190, H⟩ := H; replace H : ((some (([] : List Int) : List Int)).bind fun y174 => (if y174.length + l0.length < 140737488355328 then ((some (y174 ++ l0 : List Int)).bind fun y177 => (if y177.length + l1.length < 140737488355328 then ((rope_Turn.f kj5 (y177 ++ l1) (wrap64 (2 * (l2_0.length : Int))) l2_0 l2_1).bind fun bt183 => (if t167 = 0 then (if t171 = 0 then (if bt183.2 = 0 then ((some (([] : List Int) : List Int)).bind fun y187 => (if y187.length + t166.length < 140737488355328 then ((some (y187 ++ t166 : List Int)).bind fun y190 => (if y190.length + t170.length < 140737488355328 then ((heraldlaw10_same.f kj5 bt183.1 (y190 ++ t170)).bind fun t196 => (j1 kj5 l0 (l2_0.length : Int) (!t196) l2_0 l2_1)) else (none))) else (none))) else (j1 kj5 l0 (l2_0.length : Int) true l2_0 l2_1)) else (j1 kj5 l0 (l2_0.length : Int) true l2_0 l2_1)) else (j1 kj5 l0 (l2_0.length : Int) true l2_0 l2_1))) else (none))) else (none))) = some r := H; have A19 := ym A190; clear A190; obtain ⟨y174, hy174⟩ : ∃ y_ : List Int, y_ = (([] : List Int)) := ⟨_, rfl⟩; (replace H : (if y174.length + l0.length < 140737488355328 then ((some (y174 ++ l0 : List Int)).bind fun y177 => (if y177.length + l1.length < 140737488355328 then ((rope_Turn.f kj5 (y177 ++ l1) (wrap64 (2 * (l2_0.length : Int))) l2_0 l2_1).bind fun bt183 => (if t167 = 0 then (if t171 = 0 then (if bt183.2 = 0 then ((some (([] : List Int) : List Int)).bind fun y187 => (if y187.length + t166.length < 140737488355328 then ((some (y187 ++ t166 : List Int)).bind fun y190 => (if y190.length + t170.length < 140737488355328 then ((heraldlaw10_same.f kj5 bt183.1 (y190 ++ t170)).bind fun t196 => (j1 kj5 l0 (l2_0.length : Int) (!t196) l2_0 l2_1)) else (none))) else (none))) else (j1 kj5 l0 (l2_0.length : Int) true l2_0 l2_1)) else (j1 kj5 l0 (l2_0.length : Int) true l2_0 l2_1)) else (j1 kj5 l0 (l2_0.length : Int) true l2_0 l2_1))) else (none))) else (none)) = some r := by first | (rw [hy174]; with_reducible exact H) | (have H2_ := (Option.bind_some _ _).symm.trans H; rw [hy174]; with_reducible exact H2_) | (have H2_ := (Option.bind_some _ _).symm.trans H; with_reducible exact H2_) | with_reducible exact H | (rw [hy174]; exact H) | exact H); have Ny174 := ym hy174; clear hy174; by_cases c20 : y174.length + l0.length < 140737488355328
    ·
     as_aux_lemma =>
     rw [if_pos c20] at H; have LMc20 := ym c20; clear c20; obtain ⟨y177, hy177⟩ : ∃ y_ : List Int, y_ = (y174 ++ l0) := ⟨_, rfl⟩; (replace H : (if y177.length + l1.length < 140737488355328 then ((rope_Turn.f kj5 (y177 ++ l1) (wrap64 (2 * (l2_0.length : Int))) l2_0 l2_1).bind fun bt183 => (if t167 = 0 then (if t171 = 0 then (if bt183.2 = 0 then ((some (([] : List Int) : List Int)).bind fun y187 => (if y187.length + t166.length < 140737488355328 then ((some (y187 ++ t166 : List Int)).bind fun y190 => (if y190.length + t170.length < 140737488355328 then ((heraldlaw10_same.f kj5 bt183.1 (y190 ++ t170)).bind fun t196 => (j1 kj5 l0 (l2_0.length : Int) (!t196) l2_0 l2_1)) else (none))) else (none))) else (j1 kj5 l0 (l2_0.length : Int) true l2_0 l2_1)) else (j1 kj5 l0 (l2_0.length : Int) true l2_0 l2_1)) else (j1 kj5 l0 (l2_0.length : Int) true l2_0 l2_1))) else (none)) = some r := by first | (rw [hy177]; with_reducible exact H) | (have H2_ := (Option.bind_some _ _).symm.trans H; rw [hy177]; with_reducible exact H2_) | (have H2_ := (Option.bind_some _ _).symm.trans H; with_reducible exact H2_) | with_reducible exact H | (rw [hy177]; exact H) | exact H); have Ny177 := ym hy177; clear hy177; by_cases c21 : y177.length + l1.length < 140737488355328
     ·
      as_aux_lemma =>
      rw [if_pos c21] at H; have LMc21 := ym c21; clear c21; obtain ⟨y180, hy180⟩ : ∃ y_ : List Int, y_ = (y177 ++ l1) := ⟨_, rfl⟩; (replace H : ((rope_Turn.f kj5 y180 (wrap64 (2 * (l2_0.length : Int))) l2_0 l2_1).bind fun bt183 => (if t167 = 0 then (if t171 = 0 then (if bt183.2 = 0 then ((some (([] : List Int) : List Int)).bind fun y187 => (if y187.length + t166.length < 140737488355328 then ((some (y187 ++ t166 : List Int)).bind fun y190 => (if y190.length + t170.length < 140737488355328 then ((heraldlaw10_same.f kj5 bt183.1 (y190 ++ t170)).bind fun t196 => (j1 kj5 l0 (l2_0.length : Int) (!t196) l2_0 l2_1)) else (none))) else (none))) else (j1 kj5 l0 (l2_0.length : Int) true l2_0 l2_1)) else (j1 kj5 l0 (l2_0.length : Int) true l2_0 l2_1)) else (j1 kj5 l0 (l2_0.length : Int) true l2_0 l2_1))) = some r := by first | (rw [hy180]; with_reducible exact H) | (have H2_ := (Option.bind_some _ _).symm.trans H; rw [hy180]; with_reducible exact H2_) | (have H2_ := (Option.bind_some _ _).symm.trans H; with_reducible exact H2_) | with_reducible exact H | (rw [hy180]; exact H) | exact H); have Ny180 := ym hy180; clear hy180; replace H := Option.bind_eq_some_iff.mp H; obtain ⟨⟨t183, t184⟩, A220, H⟩ := H; replace H : (if t167 = 0 then (if t171 = 0 then (if t184 = 0 then ((some (([] : List Int) : List Int)).bind fun y187 => (if y187.length + t166.length < 140737488355328 then ((some (y187 ++ t166 : List Int)).bind fun y190 => (if y190.length + t170.length < 140737488355328 then ((heraldlaw10_same.f kj5 t183 (y190 ++ t170)).bind fun t196 => (j1 kj5 l0 (l2_0.length : Int) (!t196) l2_0 l2_1)) else (none))) else (none))) else (j1 kj5 l0 (l2_0.length : Int) true l2_0 l2_1)) else (j1 kj5 l0 (l2_0.length : Int) true l2_0 l2_1)) else (j1 kj5 l0 (l2_0.length : Int) true l2_0 l2_1)) = some r := H; have A22 := ym A220; clear A220; have HC23 := ym H; clear H; have hcz24_0 : wc.cell? ⟨gb164, 0, none⟩ = some (.slice A2_0 l2_0.length c2_0) := (yw BK164.out 0).trans rfl; have hcz24_1 : wc.cell? ⟨gb164, 1, none⟩ = some (.slice A2_1 l2_1.length c2_1) := (yw BK164.out 1).trans rfl; have hfz24_0 := yv BK164.out 0; have hfz24_1 := yv BK164.out 1; (try go_wp2_with (first | ((with_reducible refine gate_callee (f := 11) rfl ?_); refine goesL_ (some 66) rfl rfl Tryd.func11 (by kernel_rfl) rfl #[.slice A0 l0.length c0, .int .i64 (wrap64 (2 * (l2_0.length : Int))), .slice A2_0 l2_0.length c2_0, .slice A2_1 l2_1.length c2_1] rfl (by (try simp only [List.map_toArray, List.map_cons, List.map_nil]); first | done | rfl | (simp only [List.length_drop, List.length_take]; rfl)) ?_; (with_reducible refine (rope_Turn.calls kj5 _ _ l0 (wrap64 (2 * (l2_0.length : Int))) _ _ l2_0 _ _ l2_1 t166 t167 _ ?side1 ?side2 ?side3 ?side4 ?side5 ?side6 A18.out).mono ?_); (case side1 => repeat (first | exact (Kd.C_below HR0.out HB.out) | (with_reducible refine yi ?_ _) | (with_reducible refine yj ?_ _) | (with_reducible refine yk ?_))); (case side2 => exact HC0.out); (case side3 => repeat (first | exact (Kd.C_below HR2_0.out HB.out) | (with_reducible refine yi ?_ _) | (with_reducible refine yj ?_ _) | (with_reducible refine yk ?_))); (case side4 => exact HC2_0.out); (case side5 => repeat (first | exact (Kd.C_below HR2_1.out HB.out) | (with_reducible refine yi ?_ _) | (with_reducible refine yj ?_ _) | (with_reducible refine yk ?_))); (case side6 => exact HC2_1.out); rintro e w25 ⟨v168, rfl, ho0, hb⟩; refine ⟨_, rfl, ?_⟩; have n0_ := ym (yo ho0 (below_size (by repeat (first | (with_reducible first | exact HB.out | apply y3 | refine ys ?_ GE164.out) | exact HB.out)))); have n1_ := ym (yq (g := gb164) (o := .cells #[.slice A2_0 l2_0.length c2_0, .slice A2_1 l2_1.length c2_1] 24 (0, 0)) (by (with_reducible repeat refine y4 ?_); exact BK164.out) hb); have n2_ := ym (yn (by repeat (first | (with_reducible first | exact HB.out | apply y3 | refine ys ?_ GE164.out) | exact HB.out)) hb); clear BK164; clear HB; have HO169 := n0_; have BK164 := n1_; have HB := n2_; clear n0_ n1_ n2_; (try clear hb); (try clear hb2); (try clear hk); (try clear hi); (try clear ho0); have hcz26_0 : w25.cell? ⟨gb164, 0, none⟩ = some (.slice A2_0 l2_0.length c2_0) := (yw BK164.out 0).trans rfl; have hcz26_1 : w25.cell? ⟨gb164, 1, none⟩ = some (.slice A2_1 l2_1.length c2_1) := (yw BK164.out 1).trans rfl; have hfz26_0 := yv BK164.out 0; have hfz26_1 := yv BK164.out 1) | ((with_reducible refine gate_callee (f := 11) rfl ?_); refine goesL_ (some 77) rfl rfl Tryd.func11 (by kernel_rfl) rfl #[.slice A1 l1.length c1, .int .i64 (wrap64 (2 * (l2_0.length : Int))), .slice A2_0 l2_0.length c2_0, .slice A2_1 l2_1.length c2_1] rfl (by (try simp only [List.map_toArray, List.map_cons, List.map_nil]); first | done | rfl | (simp only [List.length_drop, List.length_take]; rfl)) ?_; (with_reducible refine (rope_Turn.calls kj5 _ _ l1 (wrap64 (2 * (l2_0.length : Int))) _ _ l2_0 _ _ l2_1 t170 t171 _ ?side1 ?side2 ?side3 ?side4 ?side5 ?side6 A19.out).mono ?_); (case side1 => repeat (first | exact (Kd.C_below HR1.out HB.out) | (with_reducible refine yi ?_ _) | (with_reducible refine yj ?_ _) | (with_reducible refine yk ?_))); (case side2 => exact HC1.out); (case side3 => repeat (first | exact (Kd.C_below HR2_0.out HB.out) | (with_reducible refine yi ?_ _) | (with_reducible refine yj ?_ _) | (with_reducible refine yk ?_))); (case side4 => exact HC2_0.out); (case side5 => repeat (first | exact (Kd.C_below HR2_1.out HB.out) | (with_reducible refine yi ?_ _) | (with_reducible refine yj ?_ _) | (with_reducible refine yk ?_))); (case side6 => exact HC2_1.out); rintro e w27 ⟨v172, rfl, ho0, hb⟩; refine ⟨_, rfl, ?_⟩; have n0_ := ym (Kd.R_elder' (by (with_reducible repeat apply y2); exact HO169.out) (Kd.R_base ho0) hb); have n1_ := ym (yo (Kd.R_new' ho0 (Kd.R_lt (by (with_reducible repeat apply y2); exact HO169.out))) (below_size (by repeat (first | (with_reducible first | exact HB.out | apply y3 | refine ys ?_ GE164.out) | exact HB.out)))); have n2_ := ym (yq (g := gb164) (o := .cells #[.slice A2_0 l2_0.length c2_0, .slice A2_1 l2_1.length c2_1] 24 (0, 0)) (by (with_reducible repeat refine y4 ?_); exact BK164.out) hb); have n3_ := ym (yn (by repeat (first | (with_reducible first | exact HB.out | apply y3 | refine ys ?_ GE164.out) | exact HB.out)) hb); clear HO169; clear BK164; clear HB; have HO169 := n0_; have HO173 := n1_; have BK164 := n2_; have HB := n3_; clear n0_ n1_ n2_ n3_; (try clear hb); (try clear hb2); (try clear hk); (try clear hi); (try clear ho0)))); have n0_ := ym (yh HO169.out); have n1_ := ym (yh HO173.out); have n2_ := ym (yt BK164.out); have n3_ := ym (ye HB.out); clear HO169; clear HO173; clear BK164; clear HB; have HO169 := n0_; have HO173 := n1_; have BK164 := n2_; have HB := n3_; clear n0_ n1_ n2_ n3_; refine start_ (n := 17) (S := fun w' => w'.cell? ⟨gb164, 0, none⟩ = some (.slice A2_0 l2_0.length c2_0) ∧ w'.cell? ⟨gb164, 1, none⟩ = some (.slice A2_1 l2_1.length c2_1)) (ds := []) #[o_, o_, o_, o_, o_, o_, o_, o_, o_, o_, o_, o_, o_, o_, o_, o_, o_] (by kernel_rfl) rfl rfl ⟨(yw BK164.out 0).trans rfl, (yw BK164.out 1).trans rfl⟩ (fun hHeld => ?_); refine with_tabW heraldlaw10_RopeHeads.tab8 heraldlaw10_RopeHeads.bits8 (fun HT_ HW_ => ?_); generalize w27.drew = w28 at HO169 HO173 BK164 HB hHeld ⊢; refine pure_ (i := 1) (N := some 82) (v := ?_) (a' := ?_) #[o_, i_, o_, o_, o_, o_, o_, o_, o_, o_, o_, o_, o_, o_, o_, o_, o_] rfl rfl (any_of HT_.out (by kernel_rfl)) (fun _ _ _ h => h) (Or.inl ⟨by rfl, ?_⟩) ?_ ?_; rotate_left
      ·
       intro w'
       go_simp
       with_reducible rfl
      rotate_left
      ·
       simp only [Act.put, y0, y1]
       rfl
      refine pure_ (i := 3) (N := some 84) (v := ?_) (a' := ?_) #[o_, i_, o_, i_, o_, o_, o_, o_, o_, o_, o_, o_, o_, o_, o_, o_, o_] rfl rfl (any_of HT_.out (by kernel_rfl)) (fun _ _ _ h => h) (Or.inl ⟨by rfl, ?_⟩) ?_ ?_; rotate_left
      ·
       intro w'
       go_simp
       with_reducible rfl
      rotate_left
      ·
       simp only [Act.put, y0, y1]
       rfl
      refine pure_ (i := 5) (N := some 86) (v := ?_) (a' := ?_) #[o_, i_, o_, i_, o_, i_, o_, o_, o_, o_, o_, o_, o_, o_, o_, o_, o_] rfl rfl (any_of HT_.out (by kernel_rfl)) (fun _ _ _ h => h) (Or.inl ⟨by rfl, ?_⟩) ?_ ?_; rotate_left
      ·
       intro w'
       go_simp
       with_reducible rfl
      rotate_left
      ·
       simp only [Act.put, y0, y1]
       rfl
      refine pure_ (i := 6) (N := some 87) (v := ?_) (a' := ?_) #[o_, i_, o_, i_, o_, i_, i_, o_, o_, o_, o_, o_, o_, o_, o_, o_, o_] rfl rfl (any_of HT_.out (by kernel_rfl)) (fun _ _ _ h => h) (Or.inl ⟨by rfl, ?_⟩) ?_ ?_; rotate_left
      ·
       intro w'
       go_simp
       with_reducible rfl
      rotate_left
      ·
       simp only [Act.put, y0, y1]
       rfl
      refine pure_ (i := 7) (N := some 88) (v := ?_) (a' := ?_) #[o_, i_, o_, i_, o_, i_, i_, i_, o_, o_, o_, o_, o_, o_, o_, o_, o_] rfl rfl (any_of HT_.out (by kernel_rfl)) (fun _ _ _ h => h) (Or.inl ⟨by rfl, ?_⟩) ?_ ?_; rotate_left
      ·
       intro w'
       go_simp
       with_reducible rfl
      rotate_left
      ·
       simp only [Act.put, y0, y1]
       rfl
      refine pure_ (i := 9) (N := some 90) (v := ?_) (a' := ?_) #[o_, i_, o_, i_, o_, i_, i_, i_, o_, i_, o_, o_, o_, o_, o_, o_, o_] rfl rfl (any_of HT_.out (by kernel_rfl)) (fun _ _ _ h => h) (Or.inl ⟨by rfl, ?_⟩) ?_ ?_; rotate_left
      ·
       intro w'
       go_simp
       with_reducible rfl
      rotate_left
      ·
       simp only [Act.put, y0, y1]
       rfl
      refine take_ (i := 8) (N := some 89) (v := ?_) (a' := ?_) #[o_, i_, o_, i_, o_, i_, i_, i_, i_, i_, o_, o_, o_, o_, o_, o_, o_] rfl rfl (take_ofW HT_.out HW_.out (by kernel_rfl)) (fun _ _ _ h => h) (Or.inl ⟨by rfl, ?_⟩) hHeld ?_ ?_; rotate_left
      ·
       rintro w' ⟨s0, s1⟩
       go_simp
       with_reducible rfl
      rotate_left
      ·
       simp only [Act.put, y0, y1]
       rfl
      refine take_ (i := 10) (N := some 91) (v := ?_) (a' := ?_) #[o_, i_, o_, i_, o_, i_, i_, i_, i_, i_, i_, o_, o_, o_, o_, o_, o_] rfl rfl (take_ofW HT_.out HW_.out (by kernel_rfl)) (fun _ _ _ h => h) (Or.inl ⟨by rfl, ?_⟩) hHeld ?_ ?_; rotate_left
      ·
       rintro w' ⟨s0, s1⟩
       go_simp
       with_reducible rfl
      rotate_left
      ·
       simp only [Act.put, y0, y1]
       rfl
      refine one_ (i := 0) (N := some 81) #[i_, i_, o_, i_, o_, i_, i_, i_, i_, i_, i_, o_, o_, o_, o_, o_, o_] rfl rfl (one_of HT_.out (by kernel_rfl)) (by decide) (fun K hK => ?_); refine Kd.R_lit_step (Kd.int .i8) _ 33 ?hg (N := 81) ?hd (xs := ([] : List Int)) (inner := []) (ok := fun _ => True) (okp := fun _ => True) ?hr ?hp (fun _ hk => hk) trivial (Below.refl _ _) (Nat.le_refl _) (by simp) ?_; (case hd => rfl); (case hg => rfl); (case hr => first | (go_simp; done) | (go_simp; rfl)); (case hp => exact (Reps.none _ _)); intro v175 w29 ho30 hb hg_ hnew_; clear hg_ hnew_
      (first | rw [← Ny174.out] at ho30 | (simp only [Int.reduceToNat] at ho30; rw [← Ny174.out] at ho30))
      have n0_ := ym (Kd.R_elder' (by (with_reducible repeat apply y2); exact HO169.out) (Kd.R_base ho30) hb); have n1_ := ym (Kd.R_elder' (by (with_reducible repeat apply y2); exact HO173.out) (Kd.R_base ho30) hb); have n2_ := ym (yo (Kd.R_new' (Kd.R_new' ho30 (Kd.R_lt (by (with_reducible repeat apply y2); exact HO169.out))) (Kd.R_lt (by (with_reducible repeat apply y2); exact HO173.out))) (below_size (by repeat (first | (with_reducible first | exact HB.out | apply y3 | refine ys ?_ GE164.out) | exact HB.out)))); have n3_ := ym (yq (g := gb164) (o := .cells #[.slice A2_0 l2_0.length c2_0, .slice A2_1 l2_1.length c2_1] 24 (0, 0)) (by (with_reducible repeat refine y4 ?_); exact BK164.out) hb); have n4_ := ym (yn (by repeat (first | (with_reducible first | exact HB.out | apply y3 | refine ys ?_ GE164.out) | exact HB.out)) hb); clear HO169; clear HO173; clear BK164; clear HB; have HO169 := n0_; have HO173 := n1_; have HO176 := n2_; have BK164 := n3_; have HB := n4_; clear n0_ n1_ n2_ n3_ n4_; clear hb ho30; refine hK.out _ _ ⟨(yw BK164.out 0).trans rfl, (yw BK164.out 1).trans rfl⟩ (fun hHeld => ?_); clear hK K; refine norm_ (a' := ?_) ?_ ?_; rotate_left
      ·
       show Act.put _ (some 81) _ = _
       simp only [Act.put, y0, y1]
       rfl
      refine one_ (i := 2) (N := some 83) #[i_, i_, i_, i_, o_, i_, i_, i_, i_, i_, i_, o_, o_, o_, o_, o_, o_] rfl rfl (one_of HT_.out (by kernel_rfl)) (by decide) (fun K hK => ?_); refine Kd.R_append_rows_step (Kd.int .i8) (w0 := w) w.heap.size (by rfl) (.tmp 81) (.tmp 82) 22 33 (.int .i8 0) 1 rfl Tryd.underlying22 info33 rfl (by decide) (by omega) v175 y174 l0 _ _ _ (fun k_ => some k_ ≠ (v168 : Value).ownBlock ∧ some k_ ≠ (v172 : Value).ownBlock) (fun _ => False) rfl rfl ?aO ?aR (fun _ _ h => h) (fun _ h => h.elim) ?aF ?aB ?aS ?aL ?_
      (case aR => repeat (first | exact (Kd.C_below HR0.out HB.out) | (with_reducible refine yi ?_ _) | (with_reducible refine yj ?_ _) | (with_reducible refine yk ?_)))
      (case aB => exact (by repeat (first | (with_reducible first | exact HB.out | apply y3 | refine ys ?_ GE164.out) | exact HB.out)))
      (case aF => exact (fun k_ hk => ⟨Kd.fresh' (Kd.R_lt (by (with_reducible repeat apply y2); exact HO169.out)) k_ hk, Kd.fresh' (Kd.R_lt (by (with_reducible repeat apply y2); exact HO173.out)) k_ hk⟩))
      (case aO => exact (by (with_reducible repeat apply y2); exact Kd.R_mono HO176.out (fun _ hk => ⟨hk.1.2, hk.2⟩)))
      (case aS => exact (below_size (by repeat (first | (with_reducible first | exact HB.out | apply y3 | refine ys ?_ GE164.out) | exact HB.out))))
      (case aL => have := LMc20.out; omega)
      intro v178 w31 ho hb hg hat; rw [← Ny177.out] at ho; have n0_ := ym (blk_grown (g := gb164) (o := .cells #[.slice A2_0 l2_0.length c2_0, .slice A2_1 l2_1.length c2_1] 24 (0, 0)) (by (with_reducible repeat refine y4 ?_); exact BK164.out) hg (Kd.R_ne HO176.out BK164.out (by decide))); have n1_ := ym (Kd.R_after (ok := (fun k_ => some k_ ≠ (v172 : Value).ownBlock)) (by (with_reducible repeat apply y2); exact Kd.R_mono HO169.out (fun _ hk => ⟨hk.1.2, hk.2⟩)) hg hat); have n2_ := ym (Kd.R_after (ok := (fun k_ => some k_ ≠ (v168 : Value).ownBlock)) (by (with_reducible repeat apply y2); exact Kd.R_mono HO173.out (fun _ hk => ⟨hk.1.2, hk.2⟩)) hg hat); have n3_ := ym (hb); have n4_ := ym (ho); clear BK164; clear HO169; clear HO173; clear HB; clear HO176; have BK164 := n0_; have HO169 := n1_; have HO173 := n2_; have HB := n3_; have HO179 := n4_; clear n0_ n1_ n2_ n3_ n4_; clear ho hb hg hat; refine hK.out _ _ ⟨(yw BK164.out 0).trans rfl, (yw BK164.out 1).trans rfl⟩ (fun hHeld => ?_); clear hK K; refine norm_ (a' := ?_) ?_ ?_; rotate_left
      ·
       show Act.put _ (some 83) _ = _
       simp only [Act.put, y0, y1]
       rfl
      refine one_ (i := 4) (N := some 85) #[i_, i_, i_, i_, i_, i_, i_, i_, i_, i_, i_, o_, o_, o_, o_, o_, o_] rfl rfl (one_of HT_.out (by kernel_rfl)) (by decide) (fun K hK => ?_); refine Kd.R_append_rows_step (Kd.int .i8) (w0 := w) w.heap.size (by rfl) (.tmp 83) (.tmp 84) 22 33 (.int .i8 0) 1 rfl Tryd.underlying22 info33 rfl (by decide) (by omega) v178 y177 l1 _ _ _ (fun k_ => some k_ ≠ (v168 : Value).ownBlock ∧ some k_ ≠ (v172 : Value).ownBlock) (fun _ => False) rfl rfl ?aO ?aR (fun _ _ h => h) (fun _ h => h.elim) ?aF ?aB ?aS ?aL ?_
      (case aR => repeat (first | exact (Kd.C_below HR1.out HB.out) | (with_reducible refine yi ?_ _) | (with_reducible refine yj ?_ _) | (with_reducible refine yk ?_)))
      (case aB => exact (by repeat (first | (with_reducible first | exact HB.out | apply y3 | refine ys ?_ GE164.out) | exact HB.out)))
      (case aF => exact (fun k_ hk => ⟨Kd.fresh' (Kd.R_lt (by (with_reducible repeat apply y2); exact HO169.out)) k_ hk, Kd.fresh' (Kd.R_lt (by (with_reducible repeat apply y2); exact HO173.out)) k_ hk⟩))
      (case aO => exact (by (with_reducible repeat apply y2); exact HO179.out))
      (case aS => exact (below_size (by repeat (first | (with_reducible first | exact HB.out | apply y3 | refine ys ?_ GE164.out) | exact HB.out))))
      (case aL => have := LMc21.out; omega)
      intro v181 w32 ho hb hg hat; rw [← Ny180.out] at ho; have n0_ := ym (blk_grown (g := gb164) (o := .cells #[.slice A2_0 l2_0.length c2_0, .slice A2_1 l2_1.length c2_1] 24 (0, 0)) (by (with_reducible repeat refine y4 ?_); exact BK164.out) hg (Kd.R_ne HO179.out BK164.out (by decide))); have n1_ := ym (Kd.R_after (ok := (fun k_ => some k_ ≠ (v172 : Value).ownBlock)) (by (with_reducible repeat apply y2); exact HO169.out) hg hat); have n2_ := ym (Kd.R_after (ok := (fun k_ => some k_ ≠ (v168 : Value).ownBlock)) (by (with_reducible repeat apply y2); exact HO173.out) hg hat); have n3_ := ym (hb); have n4_ := ym (ho); clear BK164; clear HO169; clear HO173; clear HB; clear HO179; have BK164 := n0_; have HO169 := n1_; have HO173 := n2_; have HB := n3_; have HO182 := n4_; clear n0_ n1_ n2_ n3_ n4_; clear ho hb hg hat; obtain ⟨Ao33, co33, eo33⟩ := Kd.R_slice HO182.out
      (first | subst eo33 | (injection eo33 with f1_ f2_ f3_; have f4_ := f1_.symm; have f5_ := f3_.symm; clear f1_ f2_ f3_; subst f4_; subst f5_))
      refine hK.out _ _ ⟨(yw BK164.out 0).trans rfl, (yw BK164.out 1).trans rfl⟩ (fun hHeld => ?_); clear hK K; refine norm_ (a' := ?_) ?_ ?_; rotate_left
      ·
       show Act.put _ (some 85) _ = _
       simp only [Act.put, y0, y1]
       rfl
      refine one_ (i := 11) (N := some 92) #[i_, i_, i_, i_, i_, i_, i_, i_, i_, i_, i_, i_, o_, o_, o_, o_, o_] rfl rfl (one_of HT_.out (by kernel_rfl)) (by decide) (fun K hK => ?_); refine goes_ Tryd.func11 (by kernel_rfl) rfl #[.slice Ao33 y180.length co33, .int .i64 (wrap64 (2 * (l2_0.length : Int))), .slice A2_0 l2_0.length c2_0, .slice A2_1 l2_1.length c2_1] (by rfl) rfl rfl (by (try simp only [List.map_toArray, List.map_cons, List.map_nil]); first | done | rfl | (simp only [List.length_drop, List.length_take]; rfl)) ?_; (with_reducible refine (rope_Turn.calls kj5 _ _ y180 (wrap64 (2 * (l2_0.length : Int))) _ _ l2_0 _ _ l2_1 t183 t184 _ ?side1 ?side2 ?side3 ?side4 ?side5 ?side6 A22.out).mono ?_)
      (case side1 => repeat (first | exact (Kd.R_reads' HO182.out).2.2 | (with_reducible refine yi ?_ _) | (with_reducible refine yj ?_ _) | (with_reducible refine yk ?_)))
      (case side2 => exact (Kd.R_reads' HO182.out).2.1)
      (case side3 => repeat (first | exact (Kd.C_below HR2_0.out HB.out) | (with_reducible refine yi ?_ _) | (with_reducible refine yj ?_ _) | (with_reducible refine yk ?_)))
      (case side4 => exact HC2_0.out)
      (case side5 => repeat (first | exact (Kd.C_below HR2_1.out HB.out) | (with_reducible refine yi ?_ _) | (with_reducible refine yj ?_ _) | (with_reducible refine yk ?_)))
      (case side6 => exact HC2_1.out)
      rintro e w34 ⟨v185, rfl, ho0, hb⟩; refine ⟨_, rfl, ?_⟩; have n0_ := ym (Kd.R_elder' (by (with_reducible repeat apply y2); exact HO169.out) (Kd.R_base ho0) hb); have n1_ := ym (Kd.R_elder' (by (with_reducible repeat apply y2); exact HO173.out) (Kd.R_base ho0) hb); have n2_ := ym (Kd.R_elder' (by (with_reducible repeat apply y2); exact HO182.out) (Kd.R_base ho0) hb); have n3_ := ym (yo (Kd.R_new' (Kd.R_new' (Kd.R_new' ho0 (Kd.R_lt (by (with_reducible repeat apply y2); exact HO169.out))) (Kd.R_lt (by (with_reducible repeat apply y2); exact HO173.out))) (Kd.R_lt (by (with_reducible repeat apply y2); exact HO182.out))) (below_size (by repeat (first | (with_reducible first | exact HB.out | apply y3 | refine ys ?_ GE164.out) | exact HB.out)))); have n4_ := ym (yq (g := gb164) (o := .cells #[.slice A2_0 l2_0.length c2_0, .slice A2_1 l2_1.length c2_1] 24 (0, 0)) (by (with_reducible repeat refine y4 ?_); exact BK164.out) hb); have n5_ := ym (yn (by repeat (first | (with_reducible first | exact HB.out | apply y3 | refine ys ?_ GE164.out) | exact HB.out)) hb); clear HO169; clear HO173; clear HO182; clear BK164; clear HB; have HO169 := n0_; have HO173 := n1_; have HO182 := n2_; have HO186 := n3_; have BK164 := n4_; have HB := n5_; clear n0_ n1_ n2_ n3_ n4_ n5_; (try clear hb); (try clear hb2); (try clear hk); (try clear hi); (try clear ho0); refine hK.out _ _ ⟨(yw BK164.out 0).trans rfl, (yw BK164.out 1).trans rfl⟩ (fun hHeld => ?_); clear hK K; refine norm_ (a' := ?_) ?_ ?_; rotate_left
      ·
       show Act.put _ (some 92) _ = _
       simp only [Act.put, y0, y1]
       rfl
      refine pure_ (i := 12) (N := some 80) (v := ?_) (a' := ?_) #[i_, i_, i_, i_, i_, i_, i_, i_, i_, i_, i_, i_, i_, o_, o_, o_, o_] rfl rfl (any_of HT_.out (by kernel_rfl)) (fun _ _ _ h => h) (Or.inl ⟨by rfl, ?_⟩) ?_ ?_; rotate_left
      ·
       intro w'
       go_simp
       with_reducible rfl
      rotate_left
      ·
       simp only [Act.put, y0, y1]
       rfl
      refine pure_ (i := 13) (N := some 93) (v := ?_) (a' := ?_) #[i_, i_, i_, i_, i_, i_, i_, i_, i_, i_, i_, i_, i_, i_, o_, o_, o_] rfl rfl (any_of HT_.out (by kernel_rfl)) (fun _ _ _ h => h) (Or.inl ⟨by rfl, ?_⟩) ?_ ?_; rotate_left
      ·
       intro w'
       go_simp
       with_reducible rfl
      rotate_left
      ·
       simp only [Act.put, y0, y1]
       rfl
      refine pure_ (i := 14) (N := some 94) (v := ?_) (a' := ?_) #[i_, i_, i_, i_, i_, i_, i_, i_, i_, i_, i_, i_, i_, i_, i_, o_, o_] rfl rfl (any_of HT_.out (by kernel_rfl)) (fun _ _ _ h => h) (Or.inl ⟨by rfl, ?_⟩) ?_ ?_; rotate_left
      ·
       intro w'
       go_simp
       with_reducible rfl
      rotate_left
      ·
       simp only [Act.put, y0, y1]
       rfl
      refine pure_ (i := 15) (N := some 12) (v := ?_) (a' := ?_) #[i_, i_, i_, i_, i_, i_, i_, i_, i_, i_, i_, i_, i_, i_, i_, i_, o_] rfl rfl (any_of HT_.out (by kernel_rfl)) (fun _ _ _ h => h) (Or.inl ⟨by rfl, ?_⟩) ?_ ?_; rotate_left
      ·
       intro w'
       go_simp
       with_reducible rfl
      rotate_left
      ·
       simp only [Act.put, y0, y1]
       rfl
      refine pure_ (i := 16) (N := some 13) (v := ?_) (a' := ?_) #[i_, i_, i_, i_, i_, i_, i_, i_, i_, i_, i_, i_, i_, i_, i_, i_, i_] rfl rfl (any_of HT_.out (by kernel_rfl)) (fun _ _ _ h => h) (Or.inl ⟨by rfl, ?_⟩) ?_ ?_; rotate_left
      ·
       intro w'
       go_simp
       with_reducible rfl
      rotate_left
      ·
       simp only [Act.put, y0, y1]
       rfl
      refine done_ (done_of HT_.out (by kernel_rfl)) ?_
      go_upto_region 9 with (fail)
      go_cut [114] (fun v114 wc => ∃ (kq : Nat) (x114_22 : Bool), v114 = .bool x114_22 ∧ Aside0 (j1 kq l0 (l2_0.length : Int) x114_22 l2_0 l2_1 = some r) ∧ Aside0 (kq ≤ kj5) ∧ Aside0 (wc.heap[gb164]? = some (.cells #[(.slice A2_0 l2_0.length c2_0), (.slice A2_1 l2_1.length c2_1)] 24 (0, 0))) ∧ Aside0 (Below w.heap.size w wc))
      case first =>
       have H := HC23.out; clear HC23; by_cases c35 : t167 = 0
       ·
        as_aux_lemma =>
        rw [if_pos c35] at H; have c35b0 : (t167 == 0) = true := beq_iff_eq.mpr c35; have c35b1 : (t167 != 0) = false := bne_eq_false_iff_eq.mpr c35; clear c35
        (first | rw [c35b0] | (simp only [i64_w, i32_w]; rw [c35b0]) | skip)
        by_cases c36 : t171 = 0
        ·
         as_aux_lemma =>
         rw [if_pos c36] at H; have c36b0 : (t171 == 0) = true := beq_iff_eq.mpr c36; have c36b1 : (t171 != 0) = false := bne_eq_false_iff_eq.mpr c36; clear c36; by_cases c37 : t184 = 0
         ·
          as_aux_lemma =>
          rw [if_pos c37] at H; have c37b0 : (t184 == 0) = true := beq_iff_eq.mpr c37; have c37b1 : (t184 != 0) = false := bne_eq_false_iff_eq.mpr c37; clear c37; obtain ⟨y187, hy187⟩ : ∃ y_ : List Int, y_ = (([] : List Int)) := ⟨_, rfl⟩; (replace H : (if y187.length + t166.length < 140737488355328 then ((some (y187 ++ t166 : List Int)).bind fun y190 => (if y190.length + t170.length < 140737488355328 then ((heraldlaw10_same.f kj5 t183 (y190 ++ t170)).bind fun t196 => (j1 kj5 l0 (l2_0.length : Int) (!t196) l2_0 l2_1)) else (none))) else (none)) = some r := by first | (rw [hy187]; with_reducible exact H) | (have H2_ := (Option.bind_some _ _).symm.trans H; rw [hy187]; with_reducible exact H2_) | (have H2_ := (Option.bind_some _ _).symm.trans H; with_reducible exact H2_) | with_reducible exact H | (rw [hy187]; exact H) | exact H); have Ny187 := ym hy187; clear hy187; by_cases c38 : y187.length + t166.length < 140737488355328
          ·
           as_aux_lemma =>
           rw [if_pos c38] at H; have LMc38 := ym c38; clear c38; obtain ⟨y190, hy190⟩ : ∃ y_ : List Int, y_ = (y187 ++ t166) := ⟨_, rfl⟩; (replace H : (if y190.length + t170.length < 140737488355328 then ((heraldlaw10_same.f kj5 t183 (y190 ++ t170)).bind fun t196 => (j1 kj5 l0 (l2_0.length : Int) (!t196) l2_0 l2_1)) else (none)) = some r := by first | (rw [hy190]; with_reducible exact H) | (have H2_ := (Option.bind_some _ _).symm.trans H; rw [hy190]; with_reducible exact H2_) | (have H2_ := (Option.bind_some _ _).symm.trans H; with_reducible exact H2_) | with_reducible exact H | (rw [hy190]; exact H) | exact H); have Ny190 := ym hy190; clear hy190; by_cases c39 : y190.length + t170.length < 140737488355328
           ·
            as_aux_lemma =>
            rw [if_pos c39] at H; have LMc39 := ym c39; clear c39; obtain ⟨y193, hy193⟩ : ∃ y_ : List Int, y_ = (y190 ++ t170) := ⟨_, rfl⟩; (replace H : ((heraldlaw10_same.f kj5 t183 y193).bind fun t196 => (j1 kj5 l0 (l2_0.length : Int) (!t196) l2_0 l2_1)) = some r := by first | (rw [hy193]; with_reducible exact H) | (have H2_ := (Option.bind_some _ _).symm.trans H; rw [hy193]; with_reducible exact H2_) | (have H2_ := (Option.bind_some _ _).symm.trans H; with_reducible exact H2_) | with_reducible exact H | (rw [hy193]; exact H) | exact H); have Ny193 := ym hy193; clear hy193; replace H := Option.bind_eq_some_iff.mp H; obtain ⟨t196, A400, H⟩ := H; replace H : (j1 kj5 l0 (l2_0.length : Int) (!t196) l2_0 l2_1) = some r := H; have A40 := ym A400; clear A400; have H' := ym H; clear H
            go_wp2_with (first | ((with_reducible refine gate_dst (N := 107) rfl ?_); (try (refine gate_guard (by rfl) ?_; dsimp only)); refine Kd.R_lit (Kd.int .i8) _ 33 ?hg (N := 107) ?hd (xs := ([] : List Int)) (inner := []) (ok := fun _ => True) (okp := fun _ => True) ?hr ?hp (fun _ hk => hk) trivial (Below.refl _ _) (Nat.le_refl _) (by simp) ?_; (case hd => rfl); (case hg => rfl); (case hr => first | (go_simp; done) | (go_simp; rfl)); (case hp => exact (Reps.none _ _)); intro v188 w41 ho42 hb hg_ hnew_; clear hg_ hnew_; (first | rw [← Ny187.out] at ho42 | (simp only [Int.reduceToNat] at ho42; rw [← Ny187.out] at ho42)); have n0_ := ym (Kd.R_elder' (by (with_reducible repeat apply y2); exact HO169.out) (Kd.R_base ho42) hb); have n1_ := ym (Kd.R_elder' (by (with_reducible repeat apply y2); exact HO173.out) (Kd.R_base ho42) hb); have n2_ := ym (Kd.R_elder' (by (with_reducible repeat apply y2); exact HO182.out) (Kd.R_base ho42) hb); have n3_ := ym (Kd.R_elder' (by (with_reducible repeat apply y2); exact HO186.out) (Kd.R_base ho42) hb); have n4_ := ym (yo (Kd.R_new' (Kd.R_new' (Kd.R_new' (Kd.R_new' ho42 (Kd.R_lt (by (with_reducible repeat apply y2); exact HO169.out))) (Kd.R_lt (by (with_reducible repeat apply y2); exact HO173.out))) (Kd.R_lt (by (with_reducible repeat apply y2); exact HO182.out))) (Kd.R_lt (by (with_reducible repeat apply y2); exact HO186.out))) (below_size (by repeat (first | (with_reducible first | exact HB.out | apply y3 | refine ys ?_ GE164.out) | exact HB.out)))); have n5_ := ym (yq (g := gb164) (o := .cells #[.slice A2_0 l2_0.length c2_0, .slice A2_1 l2_1.length c2_1] 24 (0, 0)) (by (with_reducible repeat refine y4 ?_); exact BK164.out) hb); have n6_ := ym (yn (by repeat (first | (with_reducible first | exact HB.out | apply y3 | refine ys ?_ GE164.out) | exact HB.out)) hb); clear HO169; clear HO173; clear HO182; clear HO186; clear BK164; clear HB; have HO169 := n0_; have HO173 := n1_; have HO182 := n2_; have HO186 := n3_; have HO189 := n4_; have BK164 := n5_; have HB := n6_; clear n0_ n1_ n2_ n3_ n4_ n5_ n6_; clear hb ho42; obtain ⟨Ao44, co44, eo44⟩ := Kd.R_slice HO169.out; subst eo44) | ((with_reducible refine gate_builtin (b := .append) (xs := #[.tmp 107, .tmp 108]) rfl ?_); (try (refine gate_guard (by rfl) ?_; dsimp only)); at_builtin; refine Kd.R_append_rows (Kd.int .i8) (w0 := w) w.heap.size rfl (.tmp 107) (.tmp 108) 22 33 (.int .i8 0) 1 rfl Tryd.underlying22 info33 rfl (by decide) (by omega) v188 y187 t166 _ _ _ (fun k_ => some k_ ≠ (.slice Ao44 t166.length co44 : Value).ownBlock ∧ some k_ ≠ (v172 : Value).ownBlock ∧ some k_ ≠ (.slice Ao33 y180.length co33 : Value).ownBlock ∧ some k_ ≠ (v185 : Value).ownBlock) (fun _ => False) rfl rfl ?aO ?aR (fun _ _ h => h) (fun _ h => h.elim) ?aF ?aB ?aS ?aL ?_; (case aR => repeat (first | exact (Kd.R_reads' HO169.out).2.2 | (with_reducible refine yi ?_ _) | (with_reducible refine yj ?_ _) | (with_reducible refine yk ?_))); (case aB => exact (by repeat (first | (with_reducible first | exact HB.out | apply y3 | refine ys ?_ GE164.out) | exact HB.out))); (case aF => exact (fun k_ hk => ⟨Kd.fresh' (Kd.R_lt (by (with_reducible repeat apply y2); exact HO169.out)) k_ hk, Kd.fresh' (Kd.R_lt (by (with_reducible repeat apply y2); exact HO173.out)) k_ hk, Kd.fresh' (Kd.R_lt (by (with_reducible repeat apply y2); exact HO182.out)) k_ hk, Kd.fresh' (Kd.R_lt (by (with_reducible repeat apply y2); exact HO186.out)) k_ hk⟩)); (case aO => exact (by (with_reducible repeat apply y2); exact Kd.R_mono HO189.out (fun _ hk => ⟨hk.1.1.1.2, ⟨hk.1.1.2, ⟨hk.1.2, hk.2⟩⟩⟩))); (case aS => exact (below_size (by repeat (first | (with_reducible first | exact HB.out | apply y3 | refine ys ?_ GE164.out) | exact HB.out)))); (case aL => have := LMc38.out; omega); intro v191 w43 ho hb hg hat; rw [← Ny190.out] at ho; have n0_ := ym (blk_grown (g := gb164) (o := .cells #[.slice A2_0 l2_0.length c2_0, .slice A2_1 l2_1.length c2_1] 24 (0, 0)) (by (with_reducible repeat refine y4 ?_); exact BK164.out) hg (Kd.R_ne HO189.out BK164.out (by decide))); have n1_ := ym (Kd.R_after (ok := (fun k_ => some k_ ≠ (v172 : Value).ownBlock ∧ some k_ ≠ (.slice Ao33 y180.length co33 : Value).ownBlock ∧ some k_ ≠ (v185 : Value).ownBlock)) (by (with_reducible repeat apply y2); exact Kd.R_mono HO169.out (fun _ hk => ⟨⟨hk.1.1.1, ⟨hk.1.1.2, hk.1.2⟩⟩, hk.2⟩)) hg hat); have n2_ := ym (Kd.R_after (ok := (fun k_ => some k_ ≠ (.slice Ao44 t166.length co44 : Value).ownBlock ∧ some k_ ≠ (.slice Ao33 y180.length co33 : Value).ownBlock ∧ some k_ ≠ (v185 : Value).ownBlock)) (by (with_reducible repeat apply y2); exact Kd.R_mono HO173.out (fun _ hk => ⟨⟨hk.1.1.1, ⟨hk.1.1.2, hk.1.2⟩⟩, hk.2⟩)) hg hat); have n3_ := ym (Kd.R_after (ok := (fun k_ => some k_ ≠ (.slice Ao44 t166.length co44 : Value).ownBlock ∧ some k_ ≠ (v172 : Value).ownBlock ∧ some k_ ≠ (v185 : Value).ownBlock)) (by (with_reducible repeat apply y2); exact Kd.R_mono HO182.out (fun _ hk => ⟨⟨hk.1.1.1, ⟨hk.1.1.2, hk.1.2⟩⟩, hk.2⟩)) hg hat); have n4_ := ym (Kd.R_after (ok := (fun k_ => some k_ ≠ (.slice Ao44 t166.length co44 : Value).ownBlock ∧ some k_ ≠ (v172 : Value).ownBlock ∧ some k_ ≠ (.slice Ao33 y180.length co33 : Value).ownBlock)) (by (with_reducible repeat apply y2); exact Kd.R_mono HO186.out (fun _ hk => ⟨⟨hk.1.1.1.2, ⟨hk.1.1.2, hk.1.2⟩⟩, hk.2⟩)) hg hat); have n5_ := ym (hb); have n6_ := ym (ho); clear BK164; clear HO169; clear HO173; clear HO182; clear HO186; clear HB; clear HO189; have BK164 := n0_; have HO169 := n1_; have HO173 := n2_; have HO182 := n3_; have HO186 := n4_; have HB := n5_; have HO192 := n6_; clear n0_ n1_ n2_ n3_ n4_ n5_ n6_; clear ho hb hg hat; obtain ⟨Ao46, co46, eo46⟩ := Kd.R_slice HO173.out; subst eo46) | ((with_reducible refine gate_builtin (b := .append) (xs := #[.tmp 109, .tmp 110]) rfl ?_); (try (refine gate_guard (by rfl) ?_; dsimp only)); at_builtin; refine Kd.R_append_rows (Kd.int .i8) (w0 := w) w.heap.size rfl (.tmp 109) (.tmp 110) 22 33 (.int .i8 0) 1 rfl Tryd.underlying22 info33 rfl (by decide) (by omega) v191 y190 t170 _ _ _ (fun k_ => some k_ ≠ (.slice Ao44 t166.length co44 : Value).ownBlock ∧ some k_ ≠ (.slice Ao46 t170.length co46 : Value).ownBlock ∧ some k_ ≠ (.slice Ao33 y180.length co33 : Value).ownBlock ∧ some k_ ≠ (v185 : Value).ownBlock) (fun _ => False) rfl rfl ?aO ?aR (fun _ _ h => h) (fun _ h => h.elim) ?aF ?aB ?aS ?aL ?_; (case aR => repeat (first | exact (Kd.R_reads' HO173.out).2.2 | (with_reducible refine yi ?_ _) | (with_reducible refine yj ?_ _) | (with_reducible refine yk ?_))); (case aB => exact (by repeat (first | (with_reducible first | exact HB.out | apply y3 | refine ys ?_ GE164.out) | exact HB.out))); (case aF => exact (fun k_ hk => ⟨Kd.fresh' (Kd.R_lt (by (with_reducible repeat apply y2); exact HO169.out)) k_ hk, Kd.fresh' (Kd.R_lt (by (with_reducible repeat apply y2); exact HO173.out)) k_ hk, Kd.fresh' (Kd.R_lt (by (with_reducible repeat apply y2); exact HO182.out)) k_ hk, Kd.fresh' (Kd.R_lt (by (with_reducible repeat apply y2); exact HO186.out)) k_ hk⟩)); (case aO => exact (by (with_reducible repeat apply y2); exact HO192.out)); (case aS => exact (below_size (by repeat (first | (with_reducible first | exact HB.out | apply y3 | refine ys ?_ GE164.out) | exact HB.out)))); (case aL => have := LMc39.out; omega); intro v194 w45 ho hb hg hat; rw [← Ny193.out] at ho; have n0_ := ym (blk_grown (g := gb164) (o := .cells #[.slice A2_0 l2_0.length c2_0, .slice A2_1 l2_1.length c2_1] 24 (0, 0)) (by (with_reducible repeat refine y4 ?_); exact BK164.out) hg (Kd.R_ne HO192.out BK164.out (by decide))); have n1_ := ym (Kd.R_after (ok := (fun k_ => some k_ ≠ (.slice Ao46 t170.length co46 : Value).ownBlock ∧ some k_ ≠ (.slice Ao33 y180.length co33 : Value).ownBlock ∧ some k_ ≠ (v185 : Value).ownBlock)) (by (with_reducible repeat apply y2); exact HO169.out) hg hat); have n2_ := ym (Kd.R_after (ok := (fun k_ => some k_ ≠ (.slice Ao44 t166.length co44 : Value).ownBlock ∧ some k_ ≠ (.slice Ao33 y180.length co33 : Value).ownBlock ∧ some k_ ≠ (v185 : Value).ownBlock)) (by (with_reducible repeat apply y2); exact HO173.out) hg hat); have n3_ := ym (Kd.R_after (ok := (fun k_ => some k_ ≠ (.slice Ao44 t166.length co44 : Value).ownBlock ∧ some k_ ≠ (.slice Ao46 t170.length co46 : Value).ownBlock ∧ some k_ ≠ (v185 : Value).ownBlock)) (by (with_reducible repeat apply y2); exact HO182.out) hg hat); have n4_ := ym (Kd.R_after (ok := (fun k_ => some k_ ≠ (.slice Ao44 t166.length co44 : Value).ownBlock ∧ some k_ ≠ (.slice Ao46 t170.length co46 : Value).ownBlock ∧ some k_ ≠ (.slice Ao33 y180.length co33 : Value).ownBlock)) (by (with_reducible repeat apply y2); exact HO186.out) hg hat); have n5_ := ym (hb); have n6_ := ym (ho); clear BK164; clear HO169; clear HO173; clear HO182; clear HO186; clear HB; clear HO192; have BK164 := n0_; have HO169 := n1_; have HO173 := n2_; have HO182 := n3_; have HO186 := n4_; have HB := n5_; have HO195 := n6_; clear n0_ n1_ n2_ n3_ n4_ n5_ n6_; clear ho hb hg hat; obtain ⟨Ao47, co47, eo47⟩ := Kd.R_slice HO186.out; subst eo47; obtain ⟨Ao48, co48, eo48⟩ := Kd.R_slice HO195.out; subst eo48) | (go_at_call 13; (with_reducible refine (heraldlaw10_same.calls kj5 _ _ t183 _ _ y193 t196 _ ?side1 ?side2 ?side3 ?side4 A40.out).mono ?_); (case side1 => repeat (first | exact (Kd.R_reads' HO186.out).2.2 | (with_reducible refine yi ?_ _) | (with_reducible refine yj ?_ _) | (with_reducible refine yk ?_))); (case side2 => exact (Kd.R_reads' HO186.out).2.1); (case side3 => repeat (first | exact (Kd.R_reads' HO195.out).2.2 | (with_reducible refine yi ?_ _) | (with_reducible refine yj ?_ _) | (with_reducible refine yk ?_))); (case side4 => exact (Kd.R_reads' HO195.out).2.1); rintro e w' ⟨rfl, ⟨nd, rfl⟩⟩))
            go_meet
            case rel => exact ⟨_, (!t196), (by first | rfl | (simp; done) | (simp [*]; done)), H', ⟨by have := HJ5.out; first | omega | exact Nat.le_refl _⟩, ⟨by (with_reducible repeat refine y4 ?_); exact BK164.out⟩, ⟨by repeat (first | (with_reducible first | exact HB.out | apply y3 | refine ys ?_ GE164.out) | exact HB.out)⟩⟩
           as_aux_lemma =>
           rw [if_neg c39] at H; exact absurd H (by simp)
          as_aux_lemma =>
          rw [if_neg c38] at H; exact absurd H (by simp)
         as_aux_lemma =>
         rw [if_neg c37] at H; have c37b0 : (t184 == 0) = false := beq_eq_false_iff_ne.mpr c37; have c37b1 : (t184 != 0) = true := bne_iff_ne.mpr c37; have H' := ym H; clear H
         go_wp2
         go_meet
         case rel => exact ⟨_, (true), (by first | rfl | (simp; done) | (simp [*]; done)), H', ⟨by have := HJ5.out; first | omega | exact Nat.le_refl _⟩, ⟨by (with_reducible repeat refine y4 ?_); exact BK164.out⟩, ⟨by repeat (first | (with_reducible first | exact HB.out | apply y3 | refine ys ?_ GE164.out) | exact HB.out)⟩⟩
        as_aux_lemma =>
        rw [if_neg c36] at H; have c36b0 : (t171 == 0) = false := beq_eq_false_iff_ne.mpr c36; have c36b1 : (t171 != 0) = true := bne_iff_ne.mpr c36; have H' := ym H; clear H
        go_wp2
        go_meet
        case rel => exact ⟨_, (true), (by first | rfl | (simp; done) | (simp [*]; done)), H', ⟨by have := HJ5.out; first | omega | exact Nat.le_refl _⟩, ⟨by (with_reducible repeat refine y4 ?_); exact BK164.out⟩, ⟨by repeat (first | (with_reducible first | exact HB.out | apply y3 | refine ys ?_ GE164.out) | exact HB.out)⟩⟩
       as_aux_lemma =>
       rw [if_neg c35] at H; have c35b0 : (t167 == 0) = false := beq_eq_false_iff_ne.mpr c35; have c35b1 : (t167 != 0) = true := bne_iff_ne.mpr c35
       (first | rw [c35b0] | (simp only [i64_w, i32_w]; rw [c35b0]) | skip)
       have H' := ym H; clear H
       go_wp2
       go_meet
       case rel => exact ⟨_, (true), (by first | rfl | (simp; done) | (simp [*]; done)), H', ⟨by have := HJ5.out; first | omega | exact Nat.le_refl _⟩, ⟨by (with_reducible repeat refine y4 ?_); exact BK164.out⟩, ⟨by repeat (first | (with_reducible first | exact HB.out | apply y3 | refine ys ?_ GE164.out) | exact HB.out)⟩⟩
      case rest =>
       clear HC23; (try clear c1); (try clear c2); (try clear p2); (try clear c3); (try clear c4); (try clear c5); (try clear p6); (try clear c10); (try clear c10b0); (try clear c10b1); (try clear c10b2); (try clear c11); (try clear c11b0); (try clear c11b1); (try clear c11b2); (try clear c12); (try clear c12b0); (try clear c12b1); (try clear c13); (try clear c13b0); (try clear c13b1); (try clear c17); (try clear c20); (try clear c21); (try clear c35); (try clear c35b0); (try clear c35b1); (try clear c36); (try clear c36b0); (try clear c36b1); (try clear c37); (try clear c37b0); (try clear c37b1); (try clear c38); (try clear c39); (try clear hcz14_0); (try clear hcz14_1); (try clear hcz15_0); (try clear hcz15_1); (try clear hcz16_0); (try clear hcz16_1); (try clear hcz24_0); (try clear hcz24_1); (try clear hcz26_0); (try clear hcz26_1); (try clear hcz9_0); (try clear hcz9_1); (try clear hfz14_0); (try clear hfz14_1); (try clear hfz15_0); (try clear hfz15_1); (try clear hfz16_0); (try clear hfz16_1); (try clear hfz24_0); (try clear hfz24_1); (try clear hfz26_0); (try clear hfz26_1); (try clear hfz9_0); (try clear hfz9_1); (try clear p2); (try clear p6); obtain ⟨kq, x114_22, rfl, HA, HJ22, BK164, HB⟩ := hcut
       cases kq with
       | zero => exact absurd HA.out (by simp [j1])
       | succ kj22 =>
        have H := HA.out; clear HA; simp only [j1] at H; by_cases c49 : x114_22 = true
        ·
         as_aux_lemma =>
         subst c49; (have H1 : (some false) = some r := by rw [if_pos rfl] at H; exact H); clear H; have H := H1; clear H1; obtain rfl := Option.some.inj H
         go_wp2
         go_ret
         exact ⟨by first | rfl | (simp [errW_none, errW_some] <;> rfl) | (simp [*, errW_none, errW_some] <;> rfl), by repeat (first | (with_reducible first | exact HB.out | apply y3 | refine ys ?_ GE164.out) | exact HB.out)⟩
        as_aux_lemma =>
        replace c49 := Bool.eq_false_iff.mpr c49; subst c49; (have H1 : (if 0 ≤ (l2_0.length : Int) then (if ((l2_0.length : Int) : Int).toNat ≤ 281474976710656 then ((some (List.replicate ((l2_0.length : Int) : Int).toNat 0 : List Int)).bind fun y197 => (heraldlaw10_RopeHeads.l0 kj22 l0 (l2_0.length : Int) y197 (List.replicate ((l2_0.length : Int) : Int).toNat 0) (List.replicate ((l2_0.length : Int) : Int).toNat 0) (List.replicate ((l2_0.length : Int) : Int).toNat 0) true (y197.length : Int) 0 l2_0 l2_1)) else (none)) else (none)) = some r := by rw [if_neg (show ¬ (false = true) by decide)] at H; exact H); clear H; have H := H1; clear H1; by_cases c50 : 0 ≤ (l2_0.length : Int)
        ·
         as_aux_lemma =>
         rw [if_pos c50] at H; have c50b0 := eq_true c50; have c50b1 : decide (0 ≤ (l2_0.length : Int)) = true := decide_eq_true c50; clear c50; by_cases c51 : ((l2_0.length : Int) : Int).toNat ≤ 281474976710656
         ·
          as_aux_lemma =>
          rw [if_pos c51] at H; have c51b0 := eq_true c51; have c51b1 : decide (((l2_0.length : Int) : Int).toNat ≤ 281474976710656) = true := decide_eq_true c51; clear c51; obtain ⟨y197, hy197⟩ : ∃ y_ : List Int, y_ = (List.replicate ((l2_0.length : Int) : Int).toNat 0) := ⟨_, rfl⟩; (replace H : (heraldlaw10_RopeHeads.l0 kj22 l0 (l2_0.length : Int) y197 (List.replicate ((l2_0.length : Int) : Int).toNat 0) (List.replicate ((l2_0.length : Int) : Int).toNat 0) (List.replicate ((l2_0.length : Int) : Int).toNat 0) true (y197.length : Int) 0 l2_0 l2_1) = some r := by first | (rw [hy197]; with_reducible exact H) | (have H2_ := (Option.bind_some _ _).symm.trans H; rw [hy197]; with_reducible exact H2_) | (have H2_ := (Option.bind_some _ _).symm.trans H; with_reducible exact H2_) | with_reducible exact H | (rw [hy197]; exact H) | exact H); have Ny197 := ym hy197; clear hy197; obtain ⟨y200, hy200⟩ : ∃ y_ : List Int, y_ = (List.replicate ((l2_0.length : Int) : Int).toNat 0) := ⟨_, rfl⟩; (replace H : (heraldlaw10_RopeHeads.l0 kj22 l0 (l2_0.length : Int) y197 y200 (List.replicate ((l2_0.length : Int) : Int).toNat 0) (List.replicate ((l2_0.length : Int) : Int).toNat 0) true (y197.length : Int) 0 l2_0 l2_1) = some r := by first | (rw [hy200]; with_reducible exact H) | (have H2_ := (Option.bind_some _ _).symm.trans H; rw [hy200]; with_reducible exact H2_) | (have H2_ := (Option.bind_some _ _).symm.trans H; with_reducible exact H2_) | with_reducible exact H | (rw [hy200]; exact H) | exact H); have Ny200 := ym hy200; clear hy200; obtain ⟨y203, hy203⟩ : ∃ y_ : List Int, y_ = (List.replicate ((l2_0.length : Int) : Int).toNat 0) := ⟨_, rfl⟩; (replace H : (heraldlaw10_RopeHeads.l0 kj22 l0 (l2_0.length : Int) y197 y200 y203 (List.replicate ((l2_0.length : Int) : Int).toNat 0) true (y197.length : Int) 0 l2_0 l2_1) = some r := by first | (rw [hy203]; with_reducible exact H) | (have H2_ := (Option.bind_some _ _).symm.trans H; rw [hy203]; with_reducible exact H2_) | (have H2_ := (Option.bind_some _ _).symm.trans H; with_reducible exact H2_) | with_reducible exact H | (rw [hy203]; exact H) | exact H); have Ny203 := ym hy203; clear hy203; obtain ⟨y206, hy206⟩ : ∃ y_ : List Int, y_ = (List.replicate ((l2_0.length : Int) : Int).toNat 0) := ⟨_, rfl⟩; (replace H : (heraldlaw10_RopeHeads.l0 kj22 l0 (l2_0.length : Int) y197 y200 y203 y206 true (y197.length : Int) 0 l2_0 l2_1) = some r := by first | (rw [hy206]; with_reducible exact H) | (have H2_ := (Option.bind_some _ _).symm.trans H; rw [hy206]; with_reducible exact H2_) | (have H2_ := (Option.bind_some _ _).symm.trans H; with_reducible exact H2_) | with_reducible exact H | (rw [hy206]; exact H) | exact H); have Ny206 := ym hy206; clear hy206; have H' := ym H; clear H; (try go_wp2); have n0_ := ym (yt BK164.out); have n1_ := ym (ye HB.out); clear BK164; clear HB; have BK164 := n0_; have HB := n1_; clear n0_ n1_; refine start_ (n := 9) (S := fun w' => True) (ds := []) #[o_, o_, o_, o_, o_, o_, o_, o_, o_] (by kernel_rfl) rfl rfl trivial (fun hHeld => ?_); refine with_tabW heraldlaw10_RopeHeads.tab11 heraldlaw10_RopeHeads.bits11 (fun HT_ HW_ => ?_); generalize wc.drew = w52 at BK164 HB hHeld ⊢; refine pure_ (i := 0) (N := some 115) (v := ?_) (a' := ?_) #[i_, o_, o_, o_, o_, o_, o_, o_, o_] rfl rfl (any_of HT_.out (by kernel_rfl)) (fun _ _ _ h => h) (Or.inl ⟨by rfl, ?_⟩) ?_ ?_; rotate_left
          ·
           as_aux_lemma =>
           intro w'
           go_simp
           with_reducible rfl
          rotate_left
          ·
           as_aux_lemma =>
           simp only [Act.put, y0, y1]
           rfl
          refine pure_ (i := 2) (N := some 117) (v := ?_) (a' := ?_) #[i_, o_, i_, o_, o_, o_, o_, o_, o_] rfl rfl (any_of HT_.out (by kernel_rfl)) (fun _ _ _ h => h) (Or.inl ⟨by rfl, ?_⟩) ?_ ?_; rotate_left
          ·
           as_aux_lemma =>
           intro w'
           go_simp
           with_reducible rfl
          rotate_left
          ·
           as_aux_lemma =>
           simp only [Act.put, y0, y1]
           rfl
          refine pure_ (i := 4) (N := some 119) (v := ?_) (a' := ?_) #[i_, o_, i_, o_, i_, o_, o_, o_, o_] rfl rfl (any_of HT_.out (by kernel_rfl)) (fun _ _ _ h => h) (Or.inl ⟨by rfl, ?_⟩) ?_ ?_; rotate_left
          ·
           as_aux_lemma =>
           intro w'
           go_simp
           with_reducible rfl
          rotate_left
          ·
           as_aux_lemma =>
           simp only [Act.put, y0, y1]
           rfl
          refine join_ (σ := Value × Value × Value) 1 #[i_, i_, i_, i_, i_, i_, i_, i_, o_] (fun s_ => [(116, s_.1), (118, s_.2.1), (120, s_.2.2), (14, s_.1), (15, s_.2.1)]) (fun s_ w' => (Kd.R (Kd.int .i8) 33 w' w.heap.size (fun k_ => some k_ ≠ (s_.2.1 : Value).ownBlock ∧ some k_ ≠ (s_.2.2 : Value).ownBlock) s_.1 y197) ∧ (Kd.R (Kd.int .i8) 33 w' w.heap.size (fun k_ => some k_ ≠ (s_.1 : Value).ownBlock ∧ some k_ ≠ (s_.2.2 : Value).ownBlock) s_.2.1 y200) ∧ (Kd.R (Kd.int .i8) 33 w' w.heap.size (fun k_ => some k_ ≠ (s_.1 : Value).ownBlock ∧ some k_ ≠ (s_.2.1 : Value).ownBlock) s_.2.2 y203) ∧ (w'.heap[gb164]? = some (.cells #[.slice A2_0 l2_0.length c2_0, .slice A2_1 l2_1.length c2_1] 24 (0, 0))) ∧ (Below w.heap.size w w')) ?_ ?_; rotate_left
          ·
           as_aux_lemma =>
           intro hJ1_3_5; refine join_ (σ := Value × Value) 2 #[i_, i_, i_, i_, i_, o_, i_, i_, o_] (fun s_ => [(116, s_.1), (118, s_.2), (14, s_.1), (15, s_.2)]) (fun s_ w' => (Kd.R (Kd.int .i8) 33 w' w.heap.size (fun k_ => some k_ ≠ (s_.2 : Value).ownBlock) s_.1 y197) ∧ (Kd.R (Kd.int .i8) 33 w' w.heap.size (fun k_ => some k_ ≠ (s_.1 : Value).ownBlock) s_.2 y200) ∧ (w'.heap[gb164]? = some (.cells #[.slice A2_0 l2_0.length c2_0, .slice A2_1 l2_1.length c2_1] 24 (0, 0))) ∧ (Below w.heap.size w w')) ?_ ?_; rotate_left
           ·
            intro hJ1_3; refine join_ (σ := Value × Value) 3 #[i_, i_, i_, o_, i_, i_, i_, o_, o_] (fun s_ => [(116, s_.1), (120, s_.2), (14, s_.1)]) (fun s_ w' => (Kd.R (Kd.int .i8) 33 w' w.heap.size (fun k_ => some k_ ≠ (s_.2 : Value).ownBlock) s_.1 y197) ∧ (Kd.R (Kd.int .i8) 33 w' w.heap.size (fun k_ => some k_ ≠ (s_.1 : Value).ownBlock) s_.2 y203) ∧ (w'.heap[gb164]? = some (.cells #[.slice A2_0 l2_0.length c2_0, .slice A2_1 l2_1.length c2_1] 24 (0, 0))) ∧ (Below w.heap.size w w')) ?_ ?_; rotate_left
            ·
             intro hJ1_5; refine join_ (σ := Value × Value) 4 #[i_, o_, i_, i_, i_, i_, o_, o_, o_] (fun s_ => [(118, s_.1), (120, s_.2)]) (fun s_ w' => (Kd.R (Kd.int .i8) 33 w' w.heap.size (fun k_ => some k_ ≠ (s_.2 : Value).ownBlock) s_.1 y200) ∧ (Kd.R (Kd.int .i8) 33 w' w.heap.size (fun k_ => some k_ ≠ (s_.1 : Value).ownBlock) s_.2 y203) ∧ (w'.heap[gb164]? = some (.cells #[.slice A2_0 l2_0.length c2_0, .slice A2_1 l2_1.length c2_1] 24 (0, 0))) ∧ (Below w.heap.size w w')) ?_ ?_; rotate_left
             ·
              intro hJ3_5; refine join_ (σ := Value) 4 #[i_, i_, i_, o_, i_, o_, i_, o_, o_] (fun s_ => [(116, s_), (14, s_)]) (fun s_ w' => (Kd.R (Kd.int .i8) 33 w' w.heap.size (fun _ => True) s_ y197) ∧ (w'.heap[gb164]? = some (.cells #[.slice A2_0 l2_0.length c2_0, .slice A2_1 l2_1.length c2_1] 24 (0, 0))) ∧ (Below w.heap.size w w')) ?_ ?_; rotate_left
              ·
               intro hJ1; refine join_ (σ := Value) 5 #[i_, o_, i_, i_, i_, o_, o_, o_, o_] (fun s_ => [(118, s_)]) (fun s_ w' => (Kd.R (Kd.int .i8) 33 w' w.heap.size (fun _ => True) s_ y200) ∧ (w'.heap[gb164]? = some (.cells #[.slice A2_0 l2_0.length c2_0, .slice A2_1 l2_1.length c2_1] 24 (0, 0))) ∧ (Below w.heap.size w w')) ?_ ?_; rotate_left
               ·
                intro hJ3; refine join_ (σ := Value) 5 #[i_, o_, i_, o_, i_, i_, o_, o_, o_] (fun s_ => [(120, s_)]) (fun s_ w' => (Kd.R (Kd.int .i8) 33 w' w.heap.size (fun _ => True) s_ y203) ∧ (w'.heap[gb164]? = some (.cells #[.slice A2_0 l2_0.length c2_0, .slice A2_1 l2_1.length c2_1] 24 (0, 0))) ∧ (Below w.heap.size w w')) ?_ ?_; rotate_left
                ·
                 intro hJ5; refine three_ (i := 1) (j := 3) (k := 5) (Ni := some 116) (Nj := some 118) (Nk := some 120) #[i_, i_, i_, o_, i_, o_, o_, o_, o_] #[i_, o_, i_, i_, i_, o_, o_, o_, o_] #[i_, o_, i_, o_, i_, i_, o_, o_, o_] rfl rfl rfl rfl rfl rfl (three_of HT_.out (by kernel_rfl)) (by decide) (by decide) (by decide) (fun K hK => ?_) (fun K hK => ?_) (fun K hK => ?_)
                 ·
                  skip
                  refine Kd.R_make_step (Kd.int .i8) _ 33 (by rfl) (N := 116) rfl 22 _ _ rfl (l2_0.length : Int) rfl rfl Tryd.underlying22 (.int .i8 0) 1 info33 rfl (by decide) (by omega) 0 (ok := fun _ => True) (okp := fun _ => True) rfl (fun _ hk => hk) trivial (of_decide_eq_true (by first | (with_reducible assumption) | assumption)) (Nat.le_trans (Nat.mul_le_mul_right _ (of_decide_eq_true (by first | (with_reducible assumption) | assumption) : (l2_0.length : Int).toNat ≤ 281474976710656)) (by omega)) (Below.refl _ _) (Nat.le_refl _) ?_; intro v198 w53 ho54 hb hg_ hnew_; clear hg_ hnew_
                  (first | rw [← Ny197.out] at ho54 | (simp only [Int.reduceToNat] at ho54; rw [← Ny197.out] at ho54))
                  have n0_ := ym (yo ho54 (below_size (by repeat (first | (with_reducible first | exact HB.out | apply y3 | refine ys ?_ GE164.out) | exact HB.out)))); have n1_ := ym (yq (g := gb164) (o := .cells #[.slice A2_0 l2_0.length c2_0, .slice A2_1 l2_1.length c2_1] 24 (0, 0)) (by (with_reducible repeat refine y4 ?_); exact BK164.out) hb); have n2_ := ym (yn (by repeat (first | (with_reducible first | exact HB.out | apply y3 | refine ys ?_ GE164.out) | exact HB.out)) hb); clear BK164; clear HB; have HO199 := n0_; have BK164 := n1_; have HB := n2_; clear n0_ n1_ n2_; clear hb ho54; refine hK.out _ _ trivial (fun hHeld => ?_); clear hK K; refine norm_ (a' := ?_) ?_ ?_; rotate_left
                  ·
                   show Act.put _ (some 116) _ = _
                   simp only [Act.put, y0, y1]
                   rfl
                  refine pure_ (i := 6) (N := some 14) (v := ?_) (a' := ?_) #[i_, i_, i_, o_, i_, o_, i_, o_, o_] rfl rfl (any_of HT_.out (by kernel_rfl)) (fun _ _ _ h => h) (Or.inl ⟨by rfl, ?_⟩) ?_ ?_; rotate_left
                  ·
                   intro w'
                   go_simp
                   with_reducible rfl
                  rotate_left
                  ·
                   simp only [Act.put, y0, y1]
                   rfl
                  exact norm_ (by first | (simp only [putAll, Act.put, y0]; done) | (simp only [putAll, Act.put, y0]; rfl)) (hJ1 (v198) _ ⟨(by (with_reducible repeat apply y2); exact HO199.out), (by (with_reducible repeat refine y4 ?_); exact BK164.out), (by repeat (first | (with_reducible first | exact HB.out | apply y3 | refine ys ?_ GE164.out) | exact HB.out))⟩)
                 ·
                  skip
                  refine Kd.R_make_step (Kd.int .i8) _ 33 (by rfl) (N := 118) rfl 22 _ _ rfl (l2_0.length : Int) rfl rfl Tryd.underlying22 (.int .i8 0) 1 info33 rfl (by decide) (by omega) 0 (ok := fun _ => True) (okp := fun _ => True) rfl (fun _ hk => hk) trivial (of_decide_eq_true (by first | (with_reducible assumption) | assumption)) (Nat.le_trans (Nat.mul_le_mul_right _ (of_decide_eq_true (by first | (with_reducible assumption) | assumption) : (l2_0.length : Int).toNat ≤ 281474976710656)) (by omega)) (Below.refl _ _) (Nat.le_refl _) ?_; intro v201 w53 ho54 hb hg_ hnew_; clear hg_ hnew_
                  (first | rw [← Ny200.out] at ho54 | (simp only [Int.reduceToNat] at ho54; rw [← Ny200.out] at ho54))
                  have n0_ := ym (yo ho54 (below_size (by repeat (first | (with_reducible first | exact HB.out | apply y3 | refine ys ?_ GE164.out) | exact HB.out)))); have n1_ := ym (yq (g := gb164) (o := .cells #[.slice A2_0 l2_0.length c2_0, .slice A2_1 l2_1.length c2_1] 24 (0, 0)) (by (with_reducible repeat refine y4 ?_); exact BK164.out) hb); have n2_ := ym (yn (by repeat (first | (with_reducible first | exact HB.out | apply y3 | refine ys ?_ GE164.out) | exact HB.out)) hb); clear BK164; clear HB; have HO202 := n0_; have BK164 := n1_; have HB := n2_; clear n0_ n1_ n2_; clear hb ho54; refine hK.out _ _ trivial (fun hHeld => ?_); clear hK K; refine norm_ (a' := ?_) ?_ ?_; rotate_left
                  ·
                   show Act.put _ (some 118) _ = _
                   simp only [Act.put, y0, y1]
                   rfl
                  exact norm_ (by first | (simp only [putAll, Act.put, y0]; done) | (simp only [putAll, Act.put, y0]; rfl)) (hJ3 (v201) _ ⟨(by (with_reducible repeat apply y2); exact HO202.out), (by (with_reducible repeat refine y4 ?_); exact BK164.out), (by repeat (first | (with_reducible first | exact HB.out | apply y3 | refine ys ?_ GE164.out) | exact HB.out))⟩)
                 ·
                  skip
                  refine Kd.R_make_step (Kd.int .i8) _ 33 (by rfl) (N := 120) rfl 22 _ _ rfl (l2_0.length : Int) rfl rfl Tryd.underlying22 (.int .i8 0) 1 info33 rfl (by decide) (by omega) 0 (ok := fun _ => True) (okp := fun _ => True) rfl (fun _ hk => hk) trivial (of_decide_eq_true (by first | (with_reducible assumption) | assumption)) (Nat.le_trans (Nat.mul_le_mul_right _ (of_decide_eq_true (by first | (with_reducible assumption) | assumption) : (l2_0.length : Int).toNat ≤ 281474976710656)) (by omega)) (Below.refl _ _) (Nat.le_refl _) ?_; intro v204 w53 ho54 hb hg_ hnew_; clear hg_ hnew_
                  (first | rw [← Ny203.out] at ho54 | (simp only [Int.reduceToNat] at ho54; rw [← Ny203.out] at ho54))
                  have n0_ := ym (yo ho54 (below_size (by repeat (first | (with_reducible first | exact HB.out | apply y3 | refine ys ?_ GE164.out) | exact HB.out)))); have n1_ := ym (yq (g := gb164) (o := .cells #[.slice A2_0 l2_0.length c2_0, .slice A2_1 l2_1.length c2_1] 24 (0, 0)) (by (with_reducible repeat refine y4 ?_); exact BK164.out) hb); have n2_ := ym (yn (by repeat (first | (with_reducible first | exact HB.out | apply y3 | refine ys ?_ GE164.out) | exact HB.out)) hb); clear BK164; clear HB; have HO205 := n0_; have BK164 := n1_; have HB := n2_; clear n0_ n1_ n2_; clear hb ho54; refine hK.out _ _ trivial (fun hHeld => ?_); clear hK K; refine norm_ (a' := ?_) ?_ ?_; rotate_left
                  ·
                   show Act.put _ (some 120) _ = _
                   simp only [Act.put, y0, y1]
                   rfl
                  exact norm_ (by first | (simp only [putAll, Act.put, y0]; done) | (simp only [putAll, Act.put, y0]; rfl)) (hJ5 (v204) _ ⟨(by (with_reducible repeat apply y2); exact HO205.out), (by (with_reducible repeat refine y4 ?_); exact BK164.out), (by repeat (first | (with_reducible first | exact HB.out | apply y3 | refine ys ?_ GE164.out) | exact HB.out))⟩)
                ·
                 skip
                 rintro v204 w55 ⟨h0_, h1_, h2_⟩; have n0_ : Aside0 (Kd.R (Kd.int .i8) 33 w55 w.heap.size (fun _ => True) v204 y203) := ⟨h0_⟩; have n1_ : Aside0 (w55.heap[gb164]? = some (.cells #[.slice A2_0 l2_0.length c2_0, .slice A2_1 l2_1.length c2_1] 24 (0, 0))) := ⟨h1_⟩; have n2_ : Aside0 (Below w.heap.size w w55) := ⟨h2_⟩; clear BK164; clear HB; clear h0_ h1_ h2_; have HO205 := n0_; have BK164 := n1_; have HB := n2_; clear n0_ n1_ n2_; have hHeld := trivial; refine norm_ (a' := ?_) ?_ ?_; rotate_left
                 ·
                  simp only [putAll, Act.put, y0]
                  rfl
                 refine two_ (i := 1) (j := 3) (Ni := some 116) (Nj := some 118) #[i_, i_, i_, o_, i_, i_, o_, o_, o_] #[i_, o_, i_, i_, i_, i_, o_, o_, o_] rfl rfl rfl rfl (two_of HT_.out (by kernel_rfl)) (by decide) (by decide) (fun K hK => ?_) (fun K hK => ?_)
                 ·
                  skip
                  refine Kd.R_make_step (Kd.int .i8) _ 33 (by rfl) (N := 116) rfl 22 _ _ rfl (l2_0.length : Int) rfl rfl Tryd.underlying22 (.int .i8 0) 1 info33 rfl (by decide) (by omega) 0 (ok := fun _ => True) (okp := fun _ => True) rfl (fun _ hk => hk) trivial (of_decide_eq_true (by first | (with_reducible assumption) | assumption)) (Nat.le_trans (Nat.mul_le_mul_right _ (of_decide_eq_true (by first | (with_reducible assumption) | assumption) : (l2_0.length : Int).toNat ≤ 281474976710656)) (by omega)) (Below.refl _ _) (Nat.le_refl _) ?_; intro v198 w56 ho57 hb hg_ hnew_; clear hg_ hnew_
                  (first | rw [← Ny197.out] at ho57 | (simp only [Int.reduceToNat] at ho57; rw [← Ny197.out] at ho57))
                  have n0_ := ym (Kd.R_elder' (by (with_reducible repeat apply y2); exact HO205.out) (Kd.R_base ho57) hb); have n1_ := ym (yo (Kd.R_new' ho57 (Kd.R_lt (by (with_reducible repeat apply y2); exact HO205.out))) (below_size (by repeat (first | (with_reducible first | exact HB.out | apply y3 | refine ys ?_ GE164.out) | exact HB.out)))); have n2_ := ym (yq (g := gb164) (o := .cells #[.slice A2_0 l2_0.length c2_0, .slice A2_1 l2_1.length c2_1] 24 (0, 0)) (by (with_reducible repeat refine y4 ?_); exact BK164.out) hb); have n3_ := ym (yn (by repeat (first | (with_reducible first | exact HB.out | apply y3 | refine ys ?_ GE164.out) | exact HB.out)) hb); clear HO205; clear BK164; clear HB; have HO205 := n0_; have HO199 := n1_; have BK164 := n2_; have HB := n3_; clear n0_ n1_ n2_ n3_; clear hb ho57; refine hK.out _ _ trivial (fun hHeld => ?_); clear hK K; refine norm_ (a' := ?_) ?_ ?_; rotate_left
                  ·
                   show Act.put _ (some 116) _ = _
                   simp only [Act.put, y0, y1]
                   rfl
                  refine pure_ (i := 6) (N := some 14) (v := ?_) (a' := ?_) #[i_, i_, i_, o_, i_, i_, i_, o_, o_] rfl rfl (any_of HT_.out (by kernel_rfl)) (fun _ _ _ h => h) (Or.inl ⟨by rfl, ?_⟩) ?_ ?_; rotate_left
                  ·
                   intro w'
                   go_simp
                   with_reducible rfl
                  rotate_left
                  ·
                   simp only [Act.put, y0, y1]
                   rfl
                  exact norm_ (by first | (simp only [putAll, Act.put, y0]; done) | (simp only [putAll, Act.put, y0]; rfl)) (hJ1_5 (v198, v204) _ ⟨(by (with_reducible repeat apply y2); exact Kd.R_mono HO199.out (fun _ hk => hk.2)), (by (with_reducible repeat apply y2); exact Kd.R_mono HO205.out (fun _ hk => hk.2)), (by (with_reducible repeat refine y4 ?_); exact BK164.out), (by repeat (first | (with_reducible first | exact HB.out | apply y3 | refine ys ?_ GE164.out) | exact HB.out))⟩)
                 ·
                  skip
                  refine Kd.R_make_step (Kd.int .i8) _ 33 (by rfl) (N := 118) rfl 22 _ _ rfl (l2_0.length : Int) rfl rfl Tryd.underlying22 (.int .i8 0) 1 info33 rfl (by decide) (by omega) 0 (ok := fun _ => True) (okp := fun _ => True) rfl (fun _ hk => hk) trivial (of_decide_eq_true (by first | (with_reducible assumption) | assumption)) (Nat.le_trans (Nat.mul_le_mul_right _ (of_decide_eq_true (by first | (with_reducible assumption) | assumption) : (l2_0.length : Int).toNat ≤ 281474976710656)) (by omega)) (Below.refl _ _) (Nat.le_refl _) ?_; intro v201 w56 ho57 hb hg_ hnew_; clear hg_ hnew_
                  (first | rw [← Ny200.out] at ho57 | (simp only [Int.reduceToNat] at ho57; rw [← Ny200.out] at ho57))
                  have n0_ := ym (Kd.R_elder' (by (with_reducible repeat apply y2); exact HO205.out) (Kd.R_base ho57) hb); have n1_ := ym (yo (Kd.R_new' ho57 (Kd.R_lt (by (with_reducible repeat apply y2); exact HO205.out))) (below_size (by repeat (first | (with_reducible first | exact HB.out | apply y3 | refine ys ?_ GE164.out) | exact HB.out)))); have n2_ := ym (yq (g := gb164) (o := .cells #[.slice A2_0 l2_0.length c2_0, .slice A2_1 l2_1.length c2_1] 24 (0, 0)) (by (with_reducible repeat refine y4 ?_); exact BK164.out) hb); have n3_ := ym (yn (by repeat (first | (with_reducible first | exact HB.out | apply y3 | refine ys ?_ GE164.out) | exact HB.out)) hb); clear HO205; clear BK164; clear HB; have HO205 := n0_; have HO202 := n1_; have BK164 := n2_; have HB := n3_; clear n0_ n1_ n2_ n3_; clear hb ho57; refine hK.out _ _ trivial (fun hHeld => ?_); clear hK K; refine norm_ (a' := ?_) ?_ ?_; rotate_left
                  ·
                   show Act.put _ (some 118) _ = _
                   simp only [Act.put, y0, y1]
                   rfl
                  exact norm_ (by first | (simp only [putAll, Act.put, y0]; done) | (simp only [putAll, Act.put, y0]; rfl)) (hJ3_5 (v201, v204) _ ⟨(by (with_reducible repeat apply y2); exact Kd.R_mono HO202.out (fun _ hk => hk.2)), (by (with_reducible repeat apply y2); exact Kd.R_mono HO205.out (fun _ hk => hk.2)), (by (with_reducible repeat refine y4 ?_); exact BK164.out), (by repeat (first | (with_reducible first | exact HB.out | apply y3 | refine ys ?_ GE164.out) | exact HB.out))⟩)
               ·
                skip
                rintro v201 w55 ⟨h0_, h1_, h2_⟩; have n0_ : Aside0 (Kd.R (Kd.int .i8) 33 w55 w.heap.size (fun _ => True) v201 y200) := ⟨h0_⟩; have n1_ : Aside0 (w55.heap[gb164]? = some (.cells #[.slice A2_0 l2_0.length c2_0, .slice A2_1 l2_1.length c2_1] 24 (0, 0))) := ⟨h1_⟩; have n2_ : Aside0 (Below w.heap.size w w55) := ⟨h2_⟩; clear BK164; clear HB; clear h0_ h1_ h2_; have HO202 := n0_; have BK164 := n1_; have HB := n2_; clear n0_ n1_ n2_; have hHeld := trivial; refine norm_ (a' := ?_) ?_ ?_; rotate_left
                ·
                 simp only [putAll, Act.put, y0]
                 rfl
                refine two_ (i := 1) (j := 5) (Ni := some 116) (Nj := some 120) #[i_, i_, i_, i_, i_, o_, o_, o_, o_] #[i_, o_, i_, i_, i_, i_, o_, o_, o_] rfl rfl rfl rfl (two_of HT_.out (by kernel_rfl)) (by decide) (by decide) (fun K hK => ?_) (fun K hK => ?_)
                ·
                 skip
                 refine Kd.R_make_step (Kd.int .i8) _ 33 (by rfl) (N := 116) rfl 22 _ _ rfl (l2_0.length : Int) rfl rfl Tryd.underlying22 (.int .i8 0) 1 info33 rfl (by decide) (by omega) 0 (ok := fun _ => True) (okp := fun _ => True) rfl (fun _ hk => hk) trivial (of_decide_eq_true (by first | (with_reducible assumption) | assumption)) (Nat.le_trans (Nat.mul_le_mul_right _ (of_decide_eq_true (by first | (with_reducible assumption) | assumption) : (l2_0.length : Int).toNat ≤ 281474976710656)) (by omega)) (Below.refl _ _) (Nat.le_refl _) ?_; intro v198 w56 ho57 hb hg_ hnew_; clear hg_ hnew_
                 (first | rw [← Ny197.out] at ho57 | (simp only [Int.reduceToNat] at ho57; rw [← Ny197.out] at ho57))
                 have n0_ := ym (Kd.R_elder' (by (with_reducible repeat apply y2); exact HO202.out) (Kd.R_base ho57) hb); have n1_ := ym (yo (Kd.R_new' ho57 (Kd.R_lt (by (with_reducible repeat apply y2); exact HO202.out))) (below_size (by repeat (first | (with_reducible first | exact HB.out | apply y3 | refine ys ?_ GE164.out) | exact HB.out)))); have n2_ := ym (yq (g := gb164) (o := .cells #[.slice A2_0 l2_0.length c2_0, .slice A2_1 l2_1.length c2_1] 24 (0, 0)) (by (with_reducible repeat refine y4 ?_); exact BK164.out) hb); have n3_ := ym (yn (by repeat (first | (with_reducible first | exact HB.out | apply y3 | refine ys ?_ GE164.out) | exact HB.out)) hb); clear HO202; clear BK164; clear HB; have HO202 := n0_; have HO199 := n1_; have BK164 := n2_; have HB := n3_; clear n0_ n1_ n2_ n3_; clear hb ho57; refine hK.out _ _ trivial (fun hHeld => ?_); clear hK K; refine norm_ (a' := ?_) ?_ ?_; rotate_left
                 ·
                  show Act.put _ (some 116) _ = _
                  simp only [Act.put, y0, y1]
                  rfl
                 refine pure_ (i := 6) (N := some 14) (v := ?_) (a' := ?_) #[i_, i_, i_, i_, i_, o_, i_, o_, o_] rfl rfl (any_of HT_.out (by kernel_rfl)) (fun _ _ _ h => h) (Or.inl ⟨by rfl, ?_⟩) ?_ ?_; rotate_left
                 ·
                  intro w'
                  go_simp
                  with_reducible rfl
                 rotate_left
                 ·
                  simp only [Act.put, y0, y1]
                  rfl
                 refine pure_ (i := 7) (N := some 15) (v := ?_) (a' := ?_) #[i_, i_, i_, i_, i_, o_, i_, i_, o_] rfl rfl (any_of HT_.out (by kernel_rfl)) (fun _ _ _ h => h) (Or.inl ⟨by rfl, ?_⟩) ?_ ?_; rotate_left
                 ·
                  intro w'
                  go_simp
                  with_reducible rfl
                 rotate_left
                 ·
                  simp only [Act.put, y0, y1]
                  rfl
                 exact norm_ (by first | (simp only [putAll, Act.put, y0]; done) | (simp only [putAll, Act.put, y0]; rfl)) (hJ1_3 (v198, v201) _ ⟨(by (with_reducible repeat apply y2); exact Kd.R_mono HO199.out (fun _ hk => hk.2)), (by (with_reducible repeat apply y2); exact Kd.R_mono HO202.out (fun _ hk => hk.2)), (by (with_reducible repeat refine y4 ?_); exact BK164.out), (by repeat (first | (with_reducible first | exact HB.out | apply y3 | refine ys ?_ GE164.out) | exact HB.out))⟩)
                ·
                 skip
                 refine Kd.R_make_step (Kd.int .i8) _ 33 (by rfl) (N := 120) rfl 22 _ _ rfl (l2_0.length : Int) rfl rfl Tryd.underlying22 (.int .i8 0) 1 info33 rfl (by decide) (by omega) 0 (ok := fun _ => True) (okp := fun _ => True) rfl (fun _ hk => hk) trivial (of_decide_eq_true (by first | (with_reducible assumption) | assumption)) (Nat.le_trans (Nat.mul_le_mul_right _ (of_decide_eq_true (by first | (with_reducible assumption) | assumption) : (l2_0.length : Int).toNat ≤ 281474976710656)) (by omega)) (Below.refl _ _) (Nat.le_refl _) ?_; intro v204 w56 ho57 hb hg_ hnew_; clear hg_ hnew_
                 (first | rw [← Ny203.out] at ho57 | (simp only [Int.reduceToNat] at ho57; rw [← Ny203.out] at ho57))
                 have n0_ := ym (Kd.R_elder' (by (with_reducible repeat apply y2); exact HO202.out) (Kd.R_base ho57) hb); have n1_ := ym (yo (Kd.R_new' ho57 (Kd.R_lt (by (with_reducible repeat apply y2); exact HO202.out))) (below_size (by repeat (first | (with_reducible first | exact HB.out | apply y3 | refine ys ?_ GE164.out) | exact HB.out)))); have n2_ := ym (yq (g := gb164) (o := .cells #[.slice A2_0 l2_0.length c2_0, .slice A2_1 l2_1.length c2_1] 24 (0, 0)) (by (with_reducible repeat refine y4 ?_); exact BK164.out) hb); have n3_ := ym (yn (by repeat (first | (with_reducible first | exact HB.out | apply y3 | refine ys ?_ GE164.out) | exact HB.out)) hb); clear HO202; clear BK164; clear HB; have HO202 := n0_; have HO205 := n1_; have BK164 := n2_; have HB := n3_; clear n0_ n1_ n2_ n3_; clear hb ho57; refine hK.out _ _ trivial (fun hHeld => ?_); clear hK K; refine norm_ (a' := ?_) ?_ ?_; rotate_left
                 ·
                  show Act.put _ (some 120) _ = _
                  simp only [Act.put, y0, y1]
                  rfl
                 exact norm_ (by first | (simp only [putAll, Act.put, y0]; done) | (simp only [putAll, Act.put, y0]; rfl)) (hJ3_5 (v201, v204) _ ⟨(by (with_reducible repeat apply y2); exact Kd.R_mono HO202.out (fun _ hk => hk.2)), (by (with_reducible repeat apply y2); exact Kd.R_mono HO205.out (fun _ hk => hk.2)), (by (with_reducible repeat refine y4 ?_); exact BK164.out), (by repeat (first | (with_reducible first | exact HB.out | apply y3 | refine ys ?_ GE164.out) | exact HB.out))⟩)
              ·
               skip
               rintro v198 w55 ⟨h0_, h1_, h2_⟩; have n0_ : Aside0 (Kd.R (Kd.int .i8) 33 w55 w.heap.size (fun _ => True) v198 y197) := ⟨h0_⟩; have n1_ : Aside0 (w55.heap[gb164]? = some (.cells #[.slice A2_0 l2_0.length c2_0, .slice A2_1 l2_1.length c2_1] 24 (0, 0))) := ⟨h1_⟩; have n2_ : Aside0 (Below w.heap.size w w55) := ⟨h2_⟩; clear BK164; clear HB; clear h0_ h1_ h2_; have HO199 := n0_; have BK164 := n1_; have HB := n2_; clear n0_ n1_ n2_; have hHeld := trivial; refine norm_ (a' := ?_) ?_ ?_; rotate_left
               ·
                simp only [putAll, Act.put, y0]
                rfl
               refine two_ (i := 3) (j := 5) (Ni := some 118) (Nj := some 120) #[i_, i_, i_, i_, i_, o_, i_, o_, o_] #[i_, i_, i_, o_, i_, i_, i_, o_, o_] rfl rfl rfl rfl (two_of HT_.out (by kernel_rfl)) (by decide) (by decide) (fun K hK => ?_) (fun K hK => ?_)
               ·
                skip
                refine Kd.R_make_step (Kd.int .i8) _ 33 (by rfl) (N := 118) rfl 22 _ _ rfl (l2_0.length : Int) rfl rfl Tryd.underlying22 (.int .i8 0) 1 info33 rfl (by decide) (by omega) 0 (ok := fun _ => True) (okp := fun _ => True) rfl (fun _ hk => hk) trivial (of_decide_eq_true (by first | (with_reducible assumption) | assumption)) (Nat.le_trans (Nat.mul_le_mul_right _ (of_decide_eq_true (by first | (with_reducible assumption) | assumption) : (l2_0.length : Int).toNat ≤ 281474976710656)) (by omega)) (Below.refl _ _) (Nat.le_refl _) ?_; intro v201 w56 ho57 hb hg_ hnew_; clear hg_ hnew_
                (first | rw [← Ny200.out] at ho57 | (simp only [Int.reduceToNat] at ho57; rw [← Ny200.out] at ho57))
                have n0_ := ym (Kd.R_elder' (by (with_reducible repeat apply y2); exact HO199.out) (Kd.R_base ho57) hb); have n1_ := ym (yo (Kd.R_new' ho57 (Kd.R_lt (by (with_reducible repeat apply y2); exact HO199.out))) (below_size (by repeat (first | (with_reducible first | exact HB.out | apply y3 | refine ys ?_ GE164.out) | exact HB.out)))); have n2_ := ym (yq (g := gb164) (o := .cells #[.slice A2_0 l2_0.length c2_0, .slice A2_1 l2_1.length c2_1] 24 (0, 0)) (by (with_reducible repeat refine y4 ?_); exact BK164.out) hb); have n3_ := ym (yn (by repeat (first | (with_reducible first | exact HB.out | apply y3 | refine ys ?_ GE164.out) | exact HB.out)) hb); clear HO199; clear BK164; clear HB; have HO199 := n0_; have HO202 := n1_; have BK164 := n2_; have HB := n3_; clear n0_ n1_ n2_ n3_; clear hb ho57; refine hK.out _ _ trivial (fun hHeld => ?_); clear hK K; refine norm_ (a' := ?_) ?_ ?_; rotate_left
                ·
                 show Act.put _ (some 118) _ = _
                 simp only [Act.put, y0, y1]
                 rfl
                refine pure_ (i := 7) (N := some 15) (v := ?_) (a' := ?_) #[i_, i_, i_, i_, i_, o_, i_, i_, o_] rfl rfl (any_of HT_.out (by kernel_rfl)) (fun _ _ _ h => h) (Or.inl ⟨by rfl, ?_⟩) ?_ ?_; rotate_left
                ·
                 intro w'
                 go_simp
                 with_reducible rfl
                rotate_left
                ·
                 simp only [Act.put, y0, y1]
                 rfl
                exact norm_ (by first | (simp only [putAll, Act.put, y0]; done) | (simp only [putAll, Act.put, y0]; rfl)) (hJ1_3 (v198, v201) _ ⟨(by (with_reducible repeat apply y2); exact Kd.R_mono HO199.out (fun _ hk => hk.2)), (by (with_reducible repeat apply y2); exact Kd.R_mono HO202.out (fun _ hk => hk.2)), (by (with_reducible repeat refine y4 ?_); exact BK164.out), (by repeat (first | (with_reducible first | exact HB.out | apply y3 | refine ys ?_ GE164.out) | exact HB.out))⟩)
               ·
                skip
                refine Kd.R_make_step (Kd.int .i8) _ 33 (by rfl) (N := 120) rfl 22 _ _ rfl (l2_0.length : Int) rfl rfl Tryd.underlying22 (.int .i8 0) 1 info33 rfl (by decide) (by omega) 0 (ok := fun _ => True) (okp := fun _ => True) rfl (fun _ hk => hk) trivial (of_decide_eq_true (by first | (with_reducible assumption) | assumption)) (Nat.le_trans (Nat.mul_le_mul_right _ (of_decide_eq_true (by first | (with_reducible assumption) | assumption) : (l2_0.length : Int).toNat ≤ 281474976710656)) (by omega)) (Below.refl _ _) (Nat.le_refl _) ?_; intro v204 w56 ho57 hb hg_ hnew_; clear hg_ hnew_
                (first | rw [← Ny203.out] at ho57 | (simp only [Int.reduceToNat] at ho57; rw [← Ny203.out] at ho57))
                have n0_ := ym (Kd.R_elder' (by (with_reducible repeat apply y2); exact HO199.out) (Kd.R_base ho57) hb); have n1_ := ym (yo (Kd.R_new' ho57 (Kd.R_lt (by (with_reducible repeat apply y2); exact HO199.out))) (below_size (by repeat (first | (with_reducible first | exact HB.out | apply y3 | refine ys ?_ GE164.out) | exact HB.out)))); have n2_ := ym (yq (g := gb164) (o := .cells #[.slice A2_0 l2_0.length c2_0, .slice A2_1 l2_1.length c2_1] 24 (0, 0)) (by (with_reducible repeat refine y4 ?_); exact BK164.out) hb); have n3_ := ym (yn (by repeat (first | (with_reducible first | exact HB.out | apply y3 | refine ys ?_ GE164.out) | exact HB.out)) hb); clear HO199; clear BK164; clear HB; have HO199 := n0_; have HO205 := n1_; have BK164 := n2_; have HB := n3_; clear n0_ n1_ n2_ n3_; clear hb ho57; refine hK.out _ _ trivial (fun hHeld => ?_); clear hK K; refine norm_ (a' := ?_) ?_ ?_; rotate_left
                ·
                 show Act.put _ (some 120) _ = _
                 simp only [Act.put, y0, y1]
                 rfl
                exact norm_ (by first | (simp only [putAll, Act.put, y0]; done) | (simp only [putAll, Act.put, y0]; rfl)) (hJ1_5 (v198, v204) _ ⟨(by (with_reducible repeat apply y2); exact Kd.R_mono HO199.out (fun _ hk => hk.2)), (by (with_reducible repeat apply y2); exact Kd.R_mono HO205.out (fun _ hk => hk.2)), (by (with_reducible repeat refine y4 ?_); exact BK164.out), (by repeat (first | (with_reducible first | exact HB.out | apply y3 | refine ys ?_ GE164.out) | exact HB.out))⟩)
             ·
              skip
              rintro ⟨v201, v204⟩ w57 ⟨h0_, h1_, h2_, h3_⟩; have n0_ : Aside0 (Kd.R (Kd.int .i8) 33 w57 w.heap.size (fun k_ => some k_ ≠ (v204 : Value).ownBlock) v201 y200) := ⟨h0_⟩; have n1_ : Aside0 (Kd.R (Kd.int .i8) 33 w57 w.heap.size (fun k_ => some k_ ≠ (v201 : Value).ownBlock) v204 y203) := ⟨h1_⟩; have n2_ : Aside0 (w57.heap[gb164]? = some (.cells #[.slice A2_0 l2_0.length c2_0, .slice A2_1 l2_1.length c2_1] 24 (0, 0))) := ⟨h2_⟩; have n3_ : Aside0 (Below w.heap.size w w57) := ⟨h3_⟩; clear BK164; clear HB; clear h0_ h1_ h2_ h3_; have HO202 := n0_; have HO205 := n1_; have BK164 := n2_; have HB := n3_; clear n0_ n1_ n2_ n3_; have hHeld := trivial; refine norm_ (a' := ?_) ?_ ?_; rotate_left
              ·
               simp only [putAll, Act.put, y0]
               rfl
              refine one_ (i := 1) (N := some 116) #[i_, i_, i_, i_, i_, i_, o_, o_, o_] rfl rfl (one_of HT_.out (by kernel_rfl)) (by decide) (fun K hK => ?_); refine Kd.R_make_step (Kd.int .i8) _ 33 (by rfl) (N := 116) rfl 22 _ _ rfl (l2_0.length : Int) rfl rfl Tryd.underlying22 (.int .i8 0) 1 info33 rfl (by decide) (by omega) 0 (ok := fun _ => True) (okp := fun _ => True) rfl (fun _ hk => hk) trivial (of_decide_eq_true (by first | (with_reducible assumption) | assumption)) (Nat.le_trans (Nat.mul_le_mul_right _ (of_decide_eq_true (by first | (with_reducible assumption) | assumption) : (l2_0.length : Int).toNat ≤ 281474976710656)) (by omega)) (Below.refl _ _) (Nat.le_refl _) ?_; intro v198 w58 ho59 hb hg_ hnew_; clear hg_ hnew_
              (first | rw [← Ny197.out] at ho59 | (simp only [Int.reduceToNat] at ho59; rw [← Ny197.out] at ho59))
              have n0_ := ym (Kd.R_elder' (by (with_reducible repeat apply y2); exact HO202.out) (Kd.R_base ho59) hb); have n1_ := ym (Kd.R_elder' (by (with_reducible repeat apply y2); exact HO205.out) (Kd.R_base ho59) hb); have n2_ := ym (yo (Kd.R_new' (Kd.R_new' ho59 (Kd.R_lt (by (with_reducible repeat apply y2); exact HO202.out))) (Kd.R_lt (by (with_reducible repeat apply y2); exact HO205.out))) (below_size (by repeat (first | (with_reducible first | exact HB.out | apply y3 | refine ys ?_ GE164.out) | exact HB.out)))); have n3_ := ym (yq (g := gb164) (o := .cells #[.slice A2_0 l2_0.length c2_0, .slice A2_1 l2_1.length c2_1] 24 (0, 0)) (by (with_reducible repeat refine y4 ?_); exact BK164.out) hb); have n4_ := ym (yn (by repeat (first | (with_reducible first | exact HB.out | apply y3 | refine ys ?_ GE164.out) | exact HB.out)) hb); clear HO202; clear HO205; clear BK164; clear HB; have HO202 := n0_; have HO205 := n1_; have HO199 := n2_; have BK164 := n3_; have HB := n4_; clear n0_ n1_ n2_ n3_ n4_; clear hb ho59; refine hK.out _ _ trivial (fun hHeld => ?_); clear hK K; refine norm_ (a' := ?_) ?_ ?_; rotate_left
              ·
               show Act.put _ (some 116) _ = _
               simp only [Act.put, y0, y1]
               rfl
              refine pure_ (i := 6) (N := some 14) (v := ?_) (a' := ?_) #[i_, i_, i_, i_, i_, i_, i_, o_, o_] rfl rfl (any_of HT_.out (by kernel_rfl)) (fun _ _ _ h => h) (Or.inl ⟨by rfl, ?_⟩) ?_ ?_; rotate_left
              ·
               intro w'
               go_simp
               with_reducible rfl
              rotate_left
              ·
               simp only [Act.put, y0, y1]
               rfl
              refine pure_ (i := 7) (N := some 15) (v := ?_) (a' := ?_) #[i_, i_, i_, i_, i_, i_, i_, i_, o_] rfl rfl (any_of HT_.out (by kernel_rfl)) (fun _ _ _ h => h) (Or.inl ⟨by rfl, ?_⟩) ?_ ?_; rotate_left
              ·
               intro w'
               go_simp
               with_reducible rfl
              rotate_left
              ·
               simp only [Act.put, y0, y1]
               rfl
              exact norm_ (by first | (simp only [putAll, Act.put, y0]; done) | (simp only [putAll, Act.put, y0]; rfl)) (hJ1_3_5 (v198, v201, v204) _ ⟨(by (with_reducible repeat apply y2); exact Kd.R_mono HO199.out (fun _ hk => ⟨hk.1.2, hk.2⟩)), (by (with_reducible repeat apply y2); exact Kd.R_mono HO202.out (fun _ hk => ⟨hk.2, hk.1⟩)), (by (with_reducible repeat apply y2); exact Kd.R_mono HO205.out (fun _ hk => ⟨hk.2, hk.1⟩)), (by (with_reducible repeat refine y4 ?_); exact BK164.out), (by repeat (first | (with_reducible first | exact HB.out | apply y3 | refine ys ?_ GE164.out) | exact HB.out))⟩)
            ·
             skip
             rintro ⟨v198, v204⟩ w57 ⟨h0_, h1_, h2_, h3_⟩; have n0_ : Aside0 (Kd.R (Kd.int .i8) 33 w57 w.heap.size (fun k_ => some k_ ≠ (v204 : Value).ownBlock) v198 y197) := ⟨h0_⟩; have n1_ : Aside0 (Kd.R (Kd.int .i8) 33 w57 w.heap.size (fun k_ => some k_ ≠ (v198 : Value).ownBlock) v204 y203) := ⟨h1_⟩; have n2_ : Aside0 (w57.heap[gb164]? = some (.cells #[.slice A2_0 l2_0.length c2_0, .slice A2_1 l2_1.length c2_1] 24 (0, 0))) := ⟨h2_⟩; have n3_ : Aside0 (Below w.heap.size w w57) := ⟨h3_⟩; clear BK164; clear HB; clear h0_ h1_ h2_ h3_; have HO199 := n0_; have HO205 := n1_; have BK164 := n2_; have HB := n3_; clear n0_ n1_ n2_ n3_; have hHeld := trivial; refine norm_ (a' := ?_) ?_ ?_; rotate_left
             ·
              simp only [putAll, Act.put, y0]
              rfl
             refine one_ (i := 3) (N := some 118) #[i_, i_, i_, i_, i_, i_, i_, o_, o_] rfl rfl (one_of HT_.out (by kernel_rfl)) (by decide) (fun K hK => ?_); refine Kd.R_make_step (Kd.int .i8) _ 33 (by rfl) (N := 118) rfl 22 _ _ rfl (l2_0.length : Int) rfl rfl Tryd.underlying22 (.int .i8 0) 1 info33 rfl (by decide) (by omega) 0 (ok := fun _ => True) (okp := fun _ => True) rfl (fun _ hk => hk) trivial (of_decide_eq_true (by first | (with_reducible assumption) | assumption)) (Nat.le_trans (Nat.mul_le_mul_right _ (of_decide_eq_true (by first | (with_reducible assumption) | assumption) : (l2_0.length : Int).toNat ≤ 281474976710656)) (by omega)) (Below.refl _ _) (Nat.le_refl _) ?_; intro v201 w58 ho59 hb hg_ hnew_; clear hg_ hnew_
             (first | rw [← Ny200.out] at ho59 | (simp only [Int.reduceToNat] at ho59; rw [← Ny200.out] at ho59))
             have n0_ := ym (Kd.R_elder' (by (with_reducible repeat apply y2); exact HO199.out) (Kd.R_base ho59) hb); have n1_ := ym (Kd.R_elder' (by (with_reducible repeat apply y2); exact HO205.out) (Kd.R_base ho59) hb); have n2_ := ym (yo (Kd.R_new' (Kd.R_new' ho59 (Kd.R_lt (by (with_reducible repeat apply y2); exact HO199.out))) (Kd.R_lt (by (with_reducible repeat apply y2); exact HO205.out))) (below_size (by repeat (first | (with_reducible first | exact HB.out | apply y3 | refine ys ?_ GE164.out) | exact HB.out)))); have n3_ := ym (yq (g := gb164) (o := .cells #[.slice A2_0 l2_0.length c2_0, .slice A2_1 l2_1.length c2_1] 24 (0, 0)) (by (with_reducible repeat refine y4 ?_); exact BK164.out) hb); have n4_ := ym (yn (by repeat (first | (with_reducible first | exact HB.out | apply y3 | refine ys ?_ GE164.out) | exact HB.out)) hb); clear HO199; clear HO205; clear BK164; clear HB; have HO199 := n0_; have HO205 := n1_; have HO202 := n2_; have BK164 := n3_; have HB := n4_; clear n0_ n1_ n2_ n3_ n4_; clear hb ho59; refine hK.out _ _ trivial (fun hHeld => ?_); clear hK K; refine norm_ (a' := ?_) ?_ ?_; rotate_left
             ·
              show Act.put _ (some 118) _ = _
              simp only [Act.put, y0, y1]
              rfl
             refine pure_ (i := 7) (N := some 15) (v := ?_) (a' := ?_) #[i_, i_, i_, i_, i_, i_, i_, i_, o_] rfl rfl (any_of HT_.out (by kernel_rfl)) (fun _ _ _ h => h) (Or.inl ⟨by rfl, ?_⟩) ?_ ?_; rotate_left
             ·
              intro w'
              go_simp
              with_reducible rfl
             rotate_left
             ·
              simp only [Act.put, y0, y1]
              rfl
             exact norm_ (by first | (simp only [putAll, Act.put, y0]; done) | (simp only [putAll, Act.put, y0]; rfl)) (hJ1_3_5 (v198, v201, v204) _ ⟨(by (with_reducible repeat apply y2); exact Kd.R_mono HO199.out (fun _ hk => ⟨hk.2, hk.1⟩)), (by (with_reducible repeat apply y2); exact Kd.R_mono HO202.out (fun _ hk => ⟨hk.1.2, hk.2⟩)), (by (with_reducible repeat apply y2); exact HO205.out), (by (with_reducible repeat refine y4 ?_); exact BK164.out), (by repeat (first | (with_reducible first | exact HB.out | apply y3 | refine ys ?_ GE164.out) | exact HB.out))⟩)
           ·
            skip
            rintro ⟨v198, v201⟩ w57 ⟨h0_, h1_, h2_, h3_⟩; have n0_ : Aside0 (Kd.R (Kd.int .i8) 33 w57 w.heap.size (fun k_ => some k_ ≠ (v201 : Value).ownBlock) v198 y197) := ⟨h0_⟩; have n1_ : Aside0 (Kd.R (Kd.int .i8) 33 w57 w.heap.size (fun k_ => some k_ ≠ (v198 : Value).ownBlock) v201 y200) := ⟨h1_⟩; have n2_ : Aside0 (w57.heap[gb164]? = some (.cells #[.slice A2_0 l2_0.length c2_0, .slice A2_1 l2_1.length c2_1] 24 (0, 0))) := ⟨h2_⟩; have n3_ : Aside0 (Below w.heap.size w w57) := ⟨h3_⟩; clear BK164; clear HB; clear h0_ h1_ h2_ h3_; have HO199 := n0_; have HO202 := n1_; have BK164 := n2_; have HB := n3_; clear n0_ n1_ n2_ n3_; have hHeld := trivial; refine norm_ (a' := ?_) ?_ ?_; rotate_left
            ·
             simp only [putAll, Act.put, y0]
             rfl
            refine one_ (i := 5) (N := some 120) #[i_, i_, i_, i_, i_, i_, i_, i_, o_] rfl rfl (one_of HT_.out (by kernel_rfl)) (by decide) (fun K hK => ?_); refine Kd.R_make_step (Kd.int .i8) _ 33 (by rfl) (N := 120) rfl 22 _ _ rfl (l2_0.length : Int) rfl rfl Tryd.underlying22 (.int .i8 0) 1 info33 rfl (by decide) (by omega) 0 (ok := fun _ => True) (okp := fun _ => True) rfl (fun _ hk => hk) trivial (of_decide_eq_true (by first | (with_reducible assumption) | assumption)) (Nat.le_trans (Nat.mul_le_mul_right _ (of_decide_eq_true (by first | (with_reducible assumption) | assumption) : (l2_0.length : Int).toNat ≤ 281474976710656)) (by omega)) (Below.refl _ _) (Nat.le_refl _) ?_; intro v204 w58 ho59 hb hg_ hnew_; clear hg_ hnew_
            (first | rw [← Ny203.out] at ho59 | (simp only [Int.reduceToNat] at ho59; rw [← Ny203.out] at ho59))
            have n0_ := ym (Kd.R_elder' (by (with_reducible repeat apply y2); exact HO199.out) (Kd.R_base ho59) hb); have n1_ := ym (Kd.R_elder' (by (with_reducible repeat apply y2); exact HO202.out) (Kd.R_base ho59) hb); have n2_ := ym (yo (Kd.R_new' (Kd.R_new' ho59 (Kd.R_lt (by (with_reducible repeat apply y2); exact HO199.out))) (Kd.R_lt (by (with_reducible repeat apply y2); exact HO202.out))) (below_size (by repeat (first | (with_reducible first | exact HB.out | apply y3 | refine ys ?_ GE164.out) | exact HB.out)))); have n3_ := ym (yq (g := gb164) (o := .cells #[.slice A2_0 l2_0.length c2_0, .slice A2_1 l2_1.length c2_1] 24 (0, 0)) (by (with_reducible repeat refine y4 ?_); exact BK164.out) hb); have n4_ := ym (yn (by repeat (first | (with_reducible first | exact HB.out | apply y3 | refine ys ?_ GE164.out) | exact HB.out)) hb); clear HO199; clear HO202; clear BK164; clear HB; have HO199 := n0_; have HO202 := n1_; have HO205 := n2_; have BK164 := n3_; have HB := n4_; clear n0_ n1_ n2_ n3_ n4_; clear hb ho59; refine hK.out _ _ trivial (fun hHeld => ?_); clear hK K; refine norm_ (a' := ?_) ?_ ?_; rotate_left
            ·
             show Act.put _ (some 120) _ = _
             simp only [Act.put, y0, y1]
             rfl
            exact norm_ (by first | (simp only [putAll, Act.put, y0]; done) | (simp only [putAll, Act.put, y0]; rfl)) (hJ1_3_5 (v198, v201, v204) _ ⟨(by (with_reducible repeat apply y2); exact HO199.out), (by (with_reducible repeat apply y2); exact HO202.out), (by (with_reducible repeat apply y2); exact Kd.R_mono HO205.out (fun _ hk => ⟨hk.1.2, hk.2⟩)), (by (with_reducible repeat refine y4 ?_); exact BK164.out), (by repeat (first | (with_reducible first | exact HB.out | apply y3 | refine ys ?_ GE164.out) | exact HB.out))⟩)
          rintro ⟨v198, v201, v204⟩ w59 ⟨h0_, h1_, h2_, h3_, h4_⟩; have n0_ : Aside0 (Kd.R (Kd.int .i8) 33 w59 w.heap.size (fun k_ => some k_ ≠ (v201 : Value).ownBlock ∧ some k_ ≠ (v204 : Value).ownBlock) v198 y197) := ⟨h0_⟩; have n1_ : Aside0 (Kd.R (Kd.int .i8) 33 w59 w.heap.size (fun k_ => some k_ ≠ (v198 : Value).ownBlock ∧ some k_ ≠ (v204 : Value).ownBlock) v201 y200) := ⟨h1_⟩; have n2_ : Aside0 (Kd.R (Kd.int .i8) 33 w59 w.heap.size (fun k_ => some k_ ≠ (v198 : Value).ownBlock ∧ some k_ ≠ (v201 : Value).ownBlock) v204 y203) := ⟨h2_⟩; have n3_ : Aside0 (w59.heap[gb164]? = some (.cells #[.slice A2_0 l2_0.length c2_0, .slice A2_1 l2_1.length c2_1] 24 (0, 0))) := ⟨h3_⟩; have n4_ : Aside0 (Below w.heap.size w w59) := ⟨h4_⟩; clear BK164; clear HB; clear h0_ h1_ h2_ h3_ h4_; have HO199 := n0_; have HO202 := n1_; have HO205 := n2_; have BK164 := n3_; have HB := n4_; clear n0_ n1_ n2_ n3_ n4_; have hHeld := trivial; refine norm_ (a' := ?_) ?_ ?_; rotate_left
          ·
           as_aux_lemma =>
           simp only [putAll, Act.put, y0]
           rfl
          refine pure_ (i := 8) (N := some 16) (v := ?_) (a' := ?_) #[i_, i_, i_, i_, i_, i_, i_, i_, i_] rfl rfl (any_of HT_.out (by kernel_rfl)) (fun _ _ _ h => h) (Or.inl ⟨by rfl, ?_⟩) ?_ ?_; rotate_left
          ·
           as_aux_lemma =>
           intro w'
           go_simp
           with_reducible rfl
          rotate_left
          ·
           as_aux_lemma =>
           simp only [Act.put, y0, y1]
           rfl
          refine done_ (done_of HT_.out (by kernel_rfl)) ?_; (try go_wp2_with (first | ((with_reducible refine gate_dst (N := 122) rfl ?_); (try (refine gate_guard (by rfl) ?_; dsimp only)); refine Kd.R_make (Kd.int .i8) _ 33 rfl (N := 122) rfl 22 _ _ rfl (l2_0.length : Int) rfl rfl Tryd.underlying22 (.int .i8 0) 1 info33 rfl (by decide) (by omega) 0 (ok := fun _ => True) (okp := fun _ => True) rfl (fun _ hk => hk) trivial (of_decide_eq_true (by first | (with_reducible assumption) | assumption)) (Nat.le_trans (Nat.mul_le_mul_right _ (of_decide_eq_true (by first | (with_reducible assumption) | assumption) : (l2_0.length : Int).toNat ≤ 281474976710656)) (by omega)) (Below.refl _ _) (Nat.le_refl _) ?_; intro v207 w60 ho61 hb hg_ hnew_; clear hg_ hnew_; (first | rw [← Ny206.out] at ho61 | (simp only [Int.reduceToNat] at ho61; rw [← Ny206.out] at ho61)); have n0_ := ym (Kd.R_elder' (by (with_reducible repeat apply y2); exact HO199.out) (Kd.R_base ho61) hb); have n1_ := ym (Kd.R_elder' (by (with_reducible repeat apply y2); exact HO202.out) (Kd.R_base ho61) hb); have n2_ := ym (Kd.R_elder' (by (with_reducible repeat apply y2); exact HO205.out) (Kd.R_base ho61) hb); have n3_ := ym (yo (Kd.R_new' (Kd.R_new' (Kd.R_new' ho61 (Kd.R_lt (by (with_reducible repeat apply y2); exact HO199.out))) (Kd.R_lt (by (with_reducible repeat apply y2); exact HO202.out))) (Kd.R_lt (by (with_reducible repeat apply y2); exact HO205.out))) (below_size (by repeat (first | (with_reducible first | exact HB.out | apply y3 | refine ys ?_ GE164.out) | exact HB.out)))); have n4_ := ym (yq (g := gb164) (o := .cells #[.slice A2_0 l2_0.length c2_0, .slice A2_1 l2_1.length c2_1] 24 (0, 0)) (by (with_reducible repeat refine y4 ?_); exact BK164.out) hb); have n5_ := ym (yn (by repeat (first | (with_reducible first | exact HB.out | apply y3 | refine ys ?_ GE164.out) | exact HB.out)) hb); clear HO199; clear HO202; clear HO205; clear BK164; clear HB; have HO199 := n0_; have HO202 := n1_; have HO205 := n2_; have HO208 := n3_; have BK164 := n4_; have HB := n5_; clear n0_ n1_ n2_ n3_ n4_ n5_; clear hb ho61; obtain ⟨Ao62, co62, eo62⟩ := Kd.R_slice HO199.out; subst eo62)))
          go_loopg [18, 125] kj22 (fun kq v18 v125 w' => ∃ (x14_3 : List Int) (x17_3 : List Int) (x18_3 : Bool) (x125_3 : Int), v18 = .bool x18_3 ∧ v125 = .int .i64 x125_3 ∧ Aside0 (heraldlaw10_RopeHeads.l0 kq l0 (l2_0.length : Int) x14_3 y200 y203 x17_3 x18_3 (y197.length : Int) x125_3 l2_0 l2_1 = some r) ∧ Aside0 (kq ≤ kj22) ∧ Aside0 (Kd.R (Kd.int .i8) 33 w' w.heap.size (fun k_ => some k_ ≠ (v201 : Value).ownBlock ∧ some k_ ≠ (v204 : Value).ownBlock ∧ some k_ ≠ (v207 : Value).ownBlock) (.slice Ao62 y197.length co62) x14_3) ∧ Aside0 (Kd.R (Kd.int .i8) 33 w' w.heap.size (fun k_ => some k_ ≠ ((.slice Ao62 y197.length co62) : Value).ownBlock ∧ some k_ ≠ (v204 : Value).ownBlock ∧ some k_ ≠ (v207 : Value).ownBlock) v201 y200) ∧ Aside0 (Kd.R (Kd.int .i8) 33 w' w.heap.size (fun k_ => some k_ ≠ ((.slice Ao62 y197.length co62) : Value).ownBlock ∧ some k_ ≠ (v201 : Value).ownBlock ∧ some k_ ≠ (v207 : Value).ownBlock) v204 y203) ∧ Aside0 (Kd.R (Kd.int .i8) 33 w' w.heap.size (fun k_ => some k_ ≠ ((.slice Ao62 y197.length co62) : Value).ownBlock ∧ some k_ ≠ (v201 : Value).ownBlock ∧ some k_ ≠ (v204 : Value).ownBlock) v207 x17_3) ∧ Aside0 (w'.heap[gb164]? = some (.cells #[(.slice A2_0 l2_0.length c2_0), (.slice A2_1 l2_1.length c2_1)] 24 (0, 0))) ∧ Aside0 (Below w.heap.size w w'))
          case atStart => exact ⟨(y197), (y206), (true), (0), (by first | rfl | (simp; done) | (simp [*]; done)), (by first | rfl | (simp; done) | (simp [*]; done)), H', ⟨Nat.le_refl _⟩, ⟨by (with_reducible repeat apply y2); exact Kd.R_mono HO199.out (fun _ hk => ⟨hk.1.1, ⟨hk.1.2, hk.2⟩⟩)⟩, ⟨by (with_reducible repeat apply y2); exact Kd.R_mono HO202.out (fun _ hk => ⟨hk.1.1, ⟨hk.1.2, hk.2⟩⟩)⟩, ⟨by (with_reducible repeat apply y2); exact Kd.R_mono HO205.out (fun _ hk => ⟨hk.1.1, ⟨hk.1.2, hk.2⟩⟩)⟩, ⟨by (with_reducible repeat apply y2); exact Kd.R_mono HO208.out (fun _ hk => ⟨hk.1.1.2, ⟨hk.1.2, hk.2⟩⟩)⟩, ⟨by (with_reducible repeat refine y4 ?_); exact BK164.out⟩, ⟨by repeat (first | (with_reducible first | exact HB.out | apply y3 | refine ys ?_ GE164.out) | exact HB.out)⟩⟩
          case round =>
           clear H'; (try clear c2); (try clear p2); obtain ⟨x14_3, x17_3, x18_3, x125_3, rfl, rfl, HA, HK3, HO_14, HO_15, HO_16, HO_17, BK164, HB⟩ := hrel; have hl14_3 := (Kd.R_reads' HO_14.out).1; rw [hl14_3] at HO_14; (try simp only [hl14_3]); (try simp only [hl14_3] at BK164); (try simp only [hl14_3] at HO_15); (try simp only [hl14_3] at HO_16); (try simp only [hl14_3] at HO_17)
           cases gk with
           | zero => exact absurd HA.out (by simp [heraldlaw10_RopeHeads.l0])
           | succ k3 =>
            have H := HA.out; clear HA; simp only [heraldlaw10_RopeHeads.l0] at H; by_cases c63 : x125_3 < (y197.length : Int)
            ·
             as_aux_lemma =>
             rw [if_pos c63] at H; have c63b0 : decide (x125_3 < (y197.length : Int)) = true := decide_eq_true c63; (try rw [hl14_3] at c63b0); clear c63; by_cases c64 : 0 ≤ x125_3
             ·
              as_aux_lemma =>
              rw [if_pos c64] at H; have c64b0 : decide (0 ≤ x125_3) = true := decide_eq_true c64; clear c64; by_cases c65 : x125_3 < (x14_3.length : Int)
              ·
               as_aux_lemma =>
               rw [if_pos c65] at H; have c65b0 : decide (x125_3 < (x14_3.length : Int)) = true := decide_eq_true c65; clear c65; obtain ⟨y209, hy209⟩ : ∃ y_ : List Int, y_ = (x14_3.set (x125_3 : Int).toNat 64) := ⟨_, rfl⟩; (replace H : (if x125_3 < (l2_1.length : Int) then (if x125_3 < (x17_3.length : Int) then ((some (x17_3.set (x125_3 : Int).toNat (IntKind.i8.wrap (-(rd l2_1 x125_3))) : List Int)).bind fun y211 => (if x18_3 = true then (heraldlaw10_RopeHeads.l0 k3 l0 (l2_0.length : Int) y209 y200 y203 y211 ((rd l2_1 x125_3) != (-128)) (y197.length : Int) (wrap64 (x125_3 + 1)) l2_0 l2_1) else (heraldlaw10_RopeHeads.l0 k3 l0 (l2_0.length : Int) y209 y200 y203 y211 false (y197.length : Int) (wrap64 (x125_3 + 1)) l2_0 l2_1))) else (none)) else (none)) = some r := by first | (rw [hy209]; with_reducible exact H) | (have H2_ := (Option.bind_some _ _).symm.trans H; rw [hy209]; with_reducible exact H2_) | (have H2_ := (Option.bind_some _ _).symm.trans H; with_reducible exact H2_) | with_reducible exact H | (rw [hy209]; exact H) | exact H); have Ny209 := ym hy209; clear hy209; by_cases c67 : x125_3 < (l2_1.length : Int)
               ·
                as_aux_lemma =>
                rw [if_pos c67] at H; have c67b0 : decide (x125_3 < (l2_1.length : Int)) = true := decide_eq_true c67; clear c67; by_cases c68 : x125_3 < (x17_3.length : Int)
                ·
                 as_aux_lemma =>
                 rw [if_pos c68] at H; have c68b0 : decide (x125_3 < (x17_3.length : Int)) = true := decide_eq_true c68; clear c68; obtain ⟨y211, hy211⟩ : ∃ y_ : List Int, y_ = (x17_3.set (x125_3 : Int).toNat (IntKind.i8.wrap (-(rd l2_1 x125_3)))) := ⟨_, rfl⟩; (replace H : (if x18_3 = true then (heraldlaw10_RopeHeads.l0 k3 l0 (l2_0.length : Int) y209 y200 y203 y211 ((rd l2_1 x125_3) != (-128)) (y197.length : Int) (wrap64 (x125_3 + 1)) l2_0 l2_1) else (heraldlaw10_RopeHeads.l0 k3 l0 (l2_0.length : Int) y209 y200 y203 y211 false (y197.length : Int) (wrap64 (x125_3 + 1)) l2_0 l2_1)) = some r := by first | (rw [hy211]; with_reducible exact H) | (have H2_ := (Option.bind_some _ _).symm.trans H; rw [hy211]; with_reducible exact H2_) | (have H2_ := (Option.bind_some _ _).symm.trans H; with_reducible exact H2_) | with_reducible exact H | (rw [hy211]; exact H) | exact H); have Ny211 := ym hy211; clear hy211; by_cases c70 : x18_3 = true
                 ·
                  as_aux_lemma =>
                  subst c70; (have H1 : (heraldlaw10_RopeHeads.l0 k3 l0 (l2_0.length : Int) y209 y200 y203 y211 ((rd l2_1 x125_3) != (-128)) (y197.length : Int) (wrap64 (x125_3 + 1)) l2_0 l2_1) = some r := by rw [if_pos rfl] at H; exact H); clear H; have H := H1; clear H1; have H' := ym H; clear H; have p66 : 0 ≤ (x125_3 : Int) := of_decide_eq_true (by first | (with_reducible assumption) | assumption); have q66 : (x125_3 : Int) < ((x14_3.length : Int) : Int) := of_decide_eq_true (by first | (with_reducible assumption) | assumption); obtain ⟨go66, co66, eo66, gb66, gl66, cl66, HG66⟩ := Kd.R_form HO_14.out (by omega)
                  (first | cases eo66 | (injection eo66 with ea_ en_ ec_; (first | subst ea_ | (injection ea_ with ea_; subst ea_)); subst ec_; clear en_))
                  have GB66 := ym gb66; have GG66 := ym HG66; clear gb66 gl66 HG66; obtain ⟨hx66_0, hf66_0⟩ := Kd.R_celln 0 HO_14.out (x125_3 : Int) p66 q66; replace p66 := eq_true p66; replace q66 := eq_true q66; have HP71 := Kd.R_putg HO_14.out (x125_3 : Int) 64
                  go_wp2_with (first | ((with_reducible refine gate_store (t := 33) (p := 130) rfl ?_); refine store_event (t := 33) (p := 130) (v := ?vo_w72) (w1 := (wr.setCell ⟨go66, (x125_3 : Int).toNat, none⟩ (.int .i8 64))) ?hg ?ho ?hn ?hr ?_; (case ho => rfl); (case hg => rfl); (case hn => rfl); (case hr => first | (go_simp; done) | (go_simp; rfl)); intro w72 hw; have hg : wr.grownBy w72 (some go66) := (by rw [hw]; exact HP71.2); have hp_ : Kd.R (Kd.int .i8) 33 w72 w.heap.size (fun k_ => some k_ ≠ (v201 : Value).ownBlock ∧ some k_ ≠ (v204 : Value).ownBlock ∧ some k_ ≠ (v207 : Value).ownBlock) (.slice (some ⟨go66, 0, none⟩) x14_3.length co62) y209 := (by rw [hw, Ny209.out]; exact HP71.1); clear HP71; have n0_ := ym (hp_); have n1_ := ym (Kd.R_after (v := (.slice (some ⟨go66, 0, none⟩) x14_3.length co62)) (v1 := (.slice (some ⟨go66, 0, none⟩) x14_3.length co62)) (ok := (fun k_ => some k_ ≠ (v204 : Value).ownBlock ∧ some k_ ≠ (v207 : Value).ownBlock)) (by (with_reducible repeat apply y2); exact Kd.R_mono HO_15.out (fun _ hk => ⟨⟨hk.2.1, hk.2.2⟩, hk.1⟩)) hg (.inl rfl)); have n2_ := ym (Kd.R_after (v := (.slice (some ⟨go66, 0, none⟩) x14_3.length co62)) (v1 := (.slice (some ⟨go66, 0, none⟩) x14_3.length co62)) (ok := (fun k_ => some k_ ≠ (v201 : Value).ownBlock ∧ some k_ ≠ (v207 : Value).ownBlock)) (by (with_reducible repeat apply y2); exact Kd.R_mono HO_16.out (fun _ hk => ⟨⟨hk.2.1, hk.2.2⟩, hk.1⟩)) hg (.inl rfl)); have n3_ := ym (Kd.R_after (v := (.slice (some ⟨go66, 0, none⟩) x14_3.length co62)) (v1 := (.slice (some ⟨go66, 0, none⟩) x14_3.length co62)) (ok := (fun k_ => some k_ ≠ (v201 : Value).ownBlock ∧ some k_ ≠ (v204 : Value).ownBlock)) (by (with_reducible repeat apply y2); exact Kd.R_mono HO_17.out (fun _ hk => ⟨⟨hk.2.1, hk.2.2⟩, hk.1⟩)) hg (.inl rfl)); have n4_ := ym (blk_grown (g := gb164) (o := .cells #[.slice A2_0 l2_0.length c2_0, .slice A2_1 l2_1.length c2_1] 24 (0, 0)) (by (with_reducible repeat refine y4 ?_); exact BK164.out) hg (Kd.R_ne HO_14.out BK164.out (by decide))); have n5_ := ym ((by rw [hw]; exact ys (HB.out) GB66.out : Below w.heap.size w w72)); clear HO_14; clear HO_15; clear HO_16; clear HO_17; clear BK164; clear HB; have HO_14 := n0_; have HO_15 := n1_; have HO_16 := n2_; have HO_17 := n3_; have BK164 := n4_; have HB := n5_; clear n0_ n1_ n2_ n3_ n4_ n5_; clear hg hw hp_; have hcz73_0 : w72.cell? ⟨gb164, 0, none⟩ = some (.slice A2_0 l2_0.length c2_0) := (yw BK164.out 0).trans rfl; have hcz73_1 : w72.cell? ⟨gb164, 1, none⟩ = some (.slice A2_1 l2_1.length c2_1) := (yw BK164.out 1).trans rfl; have hfz73_0 := yv BK164.out 0; have hfz73_1 := yv BK164.out 1; have p210 : 0 ≤ (x125_3 : Int) := of_decide_eq_true (by first | (with_reducible assumption) | assumption); have q210 : x125_3 < (l2_1.length : Int) := of_decide_eq_true (by first | (with_reducible assumption) | assumption); obtain ⟨ad210, e210, hx210_0⟩ := Kd.at_int HR2_1.out x125_3 p210 q210; cases e210; replace hx210_0 := (HB.out.cell (World.block_lt_of_cell? w _ hx210_0)).trans hx210_0; replace p210 := eq_true p210; replace q210 := eq_true q210; have p69 : 0 ≤ (x125_3 : Int) := of_decide_eq_true (by first | (with_reducible assumption) | assumption); have q69 : (x125_3 : Int) < ((x17_3.length : Int) : Int) := of_decide_eq_true (by first | (with_reducible assumption) | assumption); obtain ⟨go69, co69, eo69, gb69, gl69, cl69, HG69⟩ := Kd.R_form HO_17.out (by omega); (first | cases eo69 | (injection eo69 with ea_ en_ ec_; (first | subst ea_ | (injection ea_ with ea_; subst ea_)); subst ec_; clear en_)); have GB69 := ym gb69; have GG69 := ym HG69; clear gb69 gl69 HG69; obtain ⟨hx69_0, hf69_0⟩ := Kd.R_celln 0 HO_17.out (x125_3 : Int) p69 q69; replace p69 := eq_true p69; replace q69 := eq_true q69; have n_ := ym (Kd.R_mono (ok' := (fun k_ => some k_ ≠ (.slice (some ⟨go66, 0, none⟩) x14_3.length co62 : Value).ownBlock ∧ some k_ ≠ (v201 : Value).ownBlock ∧ some k_ ≠ (v204 : Value).ownBlock)) HO_17.out (fun k_ hk => ⟨hk.2, ⟨hk.1.1, hk.1.2⟩⟩)); clear HO_17; have HO_17 := n_; clear n_; obtain ⟨hy74_, hz74_⟩ := Kd.R_celln 0 HO_17.out (x125_3 : Int) (of_decide_eq_true (by first | (with_reducible assumption) | assumption)) (of_decide_eq_true (by first | (with_reducible assumption) | assumption)); have HP74 := Kd.R_putg HO_17.out (x125_3 : Int) (IntKind.i8.wrap (-(rd l2_1 x125_3)))) | ((with_reducible refine gate_store (t := 33) (p := 139) rfl ?_); refine store_event (t := 33) (p := 139) (v := ?vo_w75) (w1 := (w72.setCell ⟨go69, (x125_3 : Int).toNat, none⟩ (.int .i8 (IntKind.i8.wrap (-(rd l2_1 x125_3)))))) ?hg ?ho ?hn ?hr ?_; (case ho => rfl); (case hg => rfl); (case hn => rfl); (case hr => first | (go_simp; done) | (go_simp; rfl)); intro w75 hw; have hg : w72.grownBy w75 (some go69) := (by rw [hw]; exact HP74.2); have hp_ : Kd.R (Kd.int .i8) 33 w75 w.heap.size (fun k_ => some k_ ≠ (.slice (some ⟨go66, 0, none⟩) x14_3.length co62 : Value).ownBlock ∧ some k_ ≠ (v201 : Value).ownBlock ∧ some k_ ≠ (v204 : Value).ownBlock) (.slice (some ⟨go69, 0, none⟩) x17_3.length co69) y211 := (by rw [hw, Ny211.out]; exact HP74.1); clear HP74; have n0_ := ym (Kd.R_after (v := (.slice (some ⟨go69, 0, none⟩) x17_3.length co69)) (v1 := (.slice (some ⟨go69, 0, none⟩) x17_3.length co69)) (ok := (fun k_ => some k_ ≠ (v201 : Value).ownBlock ∧ some k_ ≠ (v204 : Value).ownBlock)) (by (with_reducible repeat apply y2); exact Kd.R_mono HO_14.out (fun _ hk => ⟨⟨hk.1, hk.2.1⟩, hk.2.2⟩)) hg (.inl rfl)); have n1_ := ym (Kd.R_after (v := (.slice (some ⟨go69, 0, none⟩) x17_3.length co69)) (v1 := (.slice (some ⟨go69, 0, none⟩) x17_3.length co69)) (ok := (fun k_ => some k_ ≠ (.slice (some ⟨go66, 0, none⟩) x14_3.length co62 : Value).ownBlock ∧ some k_ ≠ (v204 : Value).ownBlock)) (by (with_reducible repeat apply y2); exact Kd.R_mono HO_15.out (fun _ hk => ⟨⟨hk.2, hk.1.1⟩, hk.1.2⟩)) hg (.inl rfl)); have n2_ := ym (Kd.R_after (v := (.slice (some ⟨go69, 0, none⟩) x17_3.length co69)) (v1 := (.slice (some ⟨go69, 0, none⟩) x17_3.length co69)) (ok := (fun k_ => some k_ ≠ (.slice (some ⟨go66, 0, none⟩) x14_3.length co62 : Value).ownBlock ∧ some k_ ≠ (v201 : Value).ownBlock)) (by (with_reducible repeat apply y2); exact Kd.R_mono HO_16.out (fun _ hk => ⟨⟨hk.2, hk.1.1⟩, hk.1.2⟩)) hg (.inl rfl)); have n3_ := ym (hp_); have n4_ := ym (blk_grown (g := gb164) (o := .cells #[.slice A2_0 l2_0.length c2_0, .slice (some ad210) l2_1.length c2_1] 24 (0, 0)) (by (with_reducible repeat refine y4 ?_); exact BK164.out) hg (Kd.R_ne HO_17.out BK164.out (by decide))); have n5_ := ym ((by rw [hw]; exact ys (HB.out) GB69.out : Below w.heap.size w w75)); clear HO_14; clear HO_15; clear HO_16; clear HO_17; clear BK164; clear HB; have HO_14 := n0_; have HO_15 := n1_; have HO_16 := n2_; have HO_17 := n3_; have BK164 := n4_; have HB := n5_; clear n0_ n1_ n2_ n3_ n4_ n5_; clear hg hw hp_; have hcz76_0 : w75.cell? ⟨gb164, 0, none⟩ = some (.slice A2_0 l2_0.length c2_0) := (yw BK164.out 0).trans rfl; have hcz76_1 : w75.cell? ⟨gb164, 1, none⟩ = some (.slice (some ad210) l2_1.length c2_1) := (yw BK164.out 1).trans rfl; have hfz76_0 := yv BK164.out 0; have hfz76_1 := yv BK164.out 1; have p212 : 0 ≤ (x125_3 : Int) := of_decide_eq_true (by first | (with_reducible assumption) | assumption); have q212 : x125_3 < (l2_1.length : Int) := of_decide_eq_true (by first | (with_reducible assumption) | assumption); obtain ⟨ad212, e212, hx212_0⟩ := Kd.at_int HR2_1.out x125_3 p212 q212; obtain rfl : ad210 = ad212 := (by injection e212); replace hx212_0 := (HB.out.cell (World.block_lt_of_cell? w _ hx212_0)).trans hx212_0; replace p212 := eq_true p212; replace q212 := eq_true q212))
                  (try simp only [← hl14_3])
                  go_roundg k3
                  case measure => have := HJ5.out; have := HJ22.out; have := HK3.out; omega
                  case rel => exact ⟨(y209), (y211), (((rd l2_1 x125_3) != (-128))), (wrap64 (x125_3 + 1)), (by first | rfl | (simp; done) | (simp [*]; done)), (by first | rfl | (simp; done) | (simp [*]; done)), H', ⟨by have := HJ5.out; have := HJ22.out; have := HK3.out; omega⟩, ⟨by (try simp only [hl14_3]); (with_reducible repeat apply y2); exact Kd.R_mono HO_14.out (fun _ hk => ⟨hk.1.1, ⟨hk.1.2, hk.2⟩⟩)⟩, ⟨by (try simp only [hl14_3]); (with_reducible repeat apply y2); exact Kd.R_mono HO_15.out (fun _ hk => ⟨hk.1.1, ⟨hk.1.2, hk.2⟩⟩)⟩, ⟨by (try simp only [hl14_3]); (with_reducible repeat apply y2); exact Kd.R_mono HO_16.out (fun _ hk => ⟨hk.1.1, ⟨hk.1.2, hk.2⟩⟩)⟩, ⟨by (try simp only [hl14_3]); (with_reducible repeat apply y2); exact HO_17.out⟩, ⟨by (try simp only [hl14_3]); (with_reducible repeat refine y4 ?_); exact BK164.out⟩, ⟨by repeat (first | (with_reducible first | exact HB.out | apply y3 | refine ys ?_ GE164.out) | exact HB.out)⟩⟩
                 as_aux_lemma =>
                 replace c70 := Bool.eq_false_iff.mpr c70; subst c70; (have H1 : (heraldlaw10_RopeHeads.l0 k3 l0 (l2_0.length : Int) y209 y200 y203 y211 false (y197.length : Int) (wrap64 (x125_3 + 1)) l2_0 l2_1) = some r := by rw [if_neg (show ¬ (false = true) by decide)] at H; exact H); clear H; have H := H1; clear H1; have H' := ym H; clear H; have p66 : 0 ≤ (x125_3 : Int) := of_decide_eq_true (by first | (with_reducible assumption) | assumption); have q66 : (x125_3 : Int) < ((x14_3.length : Int) : Int) := of_decide_eq_true (by first | (with_reducible assumption) | assumption); obtain ⟨go66, co66, eo66, gb66, gl66, cl66, HG66⟩ := Kd.R_form HO_14.out (by omega)
                 (first | cases eo66 | (injection eo66 with ea_ en_ ec_; (first | subst ea_ | (injection ea_ with ea_; subst ea_)); subst ec_; clear en_))
                 have GB66 := ym gb66; have GG66 := ym HG66; clear gb66 gl66 HG66; obtain ⟨hx66_0, hf66_0⟩ := Kd.R_celln 0 HO_14.out (x125_3 : Int) p66 q66; replace p66 := eq_true p66; replace q66 := eq_true q66; have HP77 := Kd.R_putg HO_14.out (x125_3 : Int) 64
                 go_wp2_with (first | ((with_reducible refine gate_store (t := 33) (p := 130) rfl ?_); refine store_event (t := 33) (p := 130) (v := ?vo_w78) (w1 := (wr.setCell ⟨go66, (x125_3 : Int).toNat, none⟩ (.int .i8 64))) ?hg ?ho ?hn ?hr ?_; (case ho => rfl); (case hg => rfl); (case hn => rfl); (case hr => first | (go_simp; done) | (go_simp; rfl)); intro w78 hw; have hg : wr.grownBy w78 (some go66) := (by rw [hw]; exact HP77.2); have hp_ : Kd.R (Kd.int .i8) 33 w78 w.heap.size (fun k_ => some k_ ≠ (v201 : Value).ownBlock ∧ some k_ ≠ (v204 : Value).ownBlock ∧ some k_ ≠ (v207 : Value).ownBlock) (.slice (some ⟨go66, 0, none⟩) x14_3.length co62) y209 := (by rw [hw, Ny209.out]; exact HP77.1); clear HP77; have n0_ := ym (hp_); have n1_ := ym (Kd.R_after (v := (.slice (some ⟨go66, 0, none⟩) x14_3.length co62)) (v1 := (.slice (some ⟨go66, 0, none⟩) x14_3.length co62)) (ok := (fun k_ => some k_ ≠ (v204 : Value).ownBlock ∧ some k_ ≠ (v207 : Value).ownBlock)) (by (with_reducible repeat apply y2); exact Kd.R_mono HO_15.out (fun _ hk => ⟨⟨hk.2.1, hk.2.2⟩, hk.1⟩)) hg (.inl rfl)); have n2_ := ym (Kd.R_after (v := (.slice (some ⟨go66, 0, none⟩) x14_3.length co62)) (v1 := (.slice (some ⟨go66, 0, none⟩) x14_3.length co62)) (ok := (fun k_ => some k_ ≠ (v201 : Value).ownBlock ∧ some k_ ≠ (v207 : Value).ownBlock)) (by (with_reducible repeat apply y2); exact Kd.R_mono HO_16.out (fun _ hk => ⟨⟨hk.2.1, hk.2.2⟩, hk.1⟩)) hg (.inl rfl)); have n3_ := ym (Kd.R_after (v := (.slice (some ⟨go66, 0, none⟩) x14_3.length co62)) (v1 := (.slice (some ⟨go66, 0, none⟩) x14_3.length co62)) (ok := (fun k_ => some k_ ≠ (v201 : Value).ownBlock ∧ some k_ ≠ (v204 : Value).ownBlock)) (by (with_reducible repeat apply y2); exact Kd.R_mono HO_17.out (fun _ hk => ⟨⟨hk.2.1, hk.2.2⟩, hk.1⟩)) hg (.inl rfl)); have n4_ := ym (blk_grown (g := gb164) (o := .cells #[.slice A2_0 l2_0.length c2_0, .slice A2_1 l2_1.length c2_1] 24 (0, 0)) (by (with_reducible repeat refine y4 ?_); exact BK164.out) hg (Kd.R_ne HO_14.out BK164.out (by decide))); have n5_ := ym ((by rw [hw]; exact ys (HB.out) GB66.out : Below w.heap.size w w78)); clear HO_14; clear HO_15; clear HO_16; clear HO_17; clear BK164; clear HB; have HO_14 := n0_; have HO_15 := n1_; have HO_16 := n2_; have HO_17 := n3_; have BK164 := n4_; have HB := n5_; clear n0_ n1_ n2_ n3_ n4_ n5_; clear hg hw hp_; have hcz79_0 : w78.cell? ⟨gb164, 0, none⟩ = some (.slice A2_0 l2_0.length c2_0) := (yw BK164.out 0).trans rfl; have hcz79_1 : w78.cell? ⟨gb164, 1, none⟩ = some (.slice A2_1 l2_1.length c2_1) := (yw BK164.out 1).trans rfl; have hfz79_0 := yv BK164.out 0; have hfz79_1 := yv BK164.out 1; have p210 : 0 ≤ (x125_3 : Int) := of_decide_eq_true (by first | (with_reducible assumption) | assumption); have q210 : x125_3 < (l2_1.length : Int) := of_decide_eq_true (by first | (with_reducible assumption) | assumption); obtain ⟨ad210, e210, hx210_0⟩ := Kd.at_int HR2_1.out x125_3 p210 q210; cases e210; replace hx210_0 := (HB.out.cell (World.block_lt_of_cell? w _ hx210_0)).trans hx210_0; replace p210 := eq_true p210; replace q210 := eq_true q210; have p69 : 0 ≤ (x125_3 : Int) := of_decide_eq_true (by first | (with_reducible assumption) | assumption); have q69 : (x125_3 : Int) < ((x17_3.length : Int) : Int) := of_decide_eq_true (by first | (with_reducible assumption) | assumption); obtain ⟨go69, co69, eo69, gb69, gl69, cl69, HG69⟩ := Kd.R_form HO_17.out (by omega); (first | cases eo69 | (injection eo69 with ea_ en_ ec_; (first | subst ea_ | (injection ea_ with ea_; subst ea_)); subst ec_; clear en_)); have GB69 := ym gb69; have GG69 := ym HG69; clear gb69 gl69 HG69; obtain ⟨hx69_0, hf69_0⟩ := Kd.R_celln 0 HO_17.out (x125_3 : Int) p69 q69; replace p69 := eq_true p69; replace q69 := eq_true q69; have n_ := ym (Kd.R_mono (ok' := (fun k_ => some k_ ≠ (.slice (some ⟨go66, 0, none⟩) x14_3.length co62 : Value).ownBlock ∧ some k_ ≠ (v201 : Value).ownBlock ∧ some k_ ≠ (v204 : Value).ownBlock)) HO_17.out (fun k_ hk => ⟨hk.2, ⟨hk.1.1, hk.1.2⟩⟩)); clear HO_17; have HO_17 := n_; clear n_; obtain ⟨hy80_, hz80_⟩ := Kd.R_celln 0 HO_17.out (x125_3 : Int) (of_decide_eq_true (by first | (with_reducible assumption) | assumption)) (of_decide_eq_true (by first | (with_reducible assumption) | assumption)); have HP80 := Kd.R_putg HO_17.out (x125_3 : Int) (IntKind.i8.wrap (-(rd l2_1 x125_3)))) | ((with_reducible refine gate_store (t := 33) (p := 139) rfl ?_); refine store_event (t := 33) (p := 139) (v := ?vo_w81) (w1 := (w78.setCell ⟨go69, (x125_3 : Int).toNat, none⟩ (.int .i8 (IntKind.i8.wrap (-(rd l2_1 x125_3)))))) ?hg ?ho ?hn ?hr ?_; (case ho => rfl); (case hg => rfl); (case hn => rfl); (case hr => first | (go_simp; done) | (go_simp; rfl)); intro w81 hw; have hg : w78.grownBy w81 (some go69) := (by rw [hw]; exact HP80.2); have hp_ : Kd.R (Kd.int .i8) 33 w81 w.heap.size (fun k_ => some k_ ≠ (.slice (some ⟨go66, 0, none⟩) x14_3.length co62 : Value).ownBlock ∧ some k_ ≠ (v201 : Value).ownBlock ∧ some k_ ≠ (v204 : Value).ownBlock) (.slice (some ⟨go69, 0, none⟩) x17_3.length co69) y211 := (by rw [hw, Ny211.out]; exact HP80.1); clear HP80; have n0_ := ym (Kd.R_after (v := (.slice (some ⟨go69, 0, none⟩) x17_3.length co69)) (v1 := (.slice (some ⟨go69, 0, none⟩) x17_3.length co69)) (ok := (fun k_ => some k_ ≠ (v201 : Value).ownBlock ∧ some k_ ≠ (v204 : Value).ownBlock)) (by (with_reducible repeat apply y2); exact Kd.R_mono HO_14.out (fun _ hk => ⟨⟨hk.1, hk.2.1⟩, hk.2.2⟩)) hg (.inl rfl)); have n1_ := ym (Kd.R_after (v := (.slice (some ⟨go69, 0, none⟩) x17_3.length co69)) (v1 := (.slice (some ⟨go69, 0, none⟩) x17_3.length co69)) (ok := (fun k_ => some k_ ≠ (.slice (some ⟨go66, 0, none⟩) x14_3.length co62 : Value).ownBlock ∧ some k_ ≠ (v204 : Value).ownBlock)) (by (with_reducible repeat apply y2); exact Kd.R_mono HO_15.out (fun _ hk => ⟨⟨hk.2, hk.1.1⟩, hk.1.2⟩)) hg (.inl rfl)); have n2_ := ym (Kd.R_after (v := (.slice (some ⟨go69, 0, none⟩) x17_3.length co69)) (v1 := (.slice (some ⟨go69, 0, none⟩) x17_3.length co69)) (ok := (fun k_ => some k_ ≠ (.slice (some ⟨go66, 0, none⟩) x14_3.length co62 : Value).ownBlock ∧ some k_ ≠ (v201 : Value).ownBlock)) (by (with_reducible repeat apply y2); exact Kd.R_mono HO_16.out (fun _ hk => ⟨⟨hk.2, hk.1.1⟩, hk.1.2⟩)) hg (.inl rfl)); have n3_ := ym (hp_); have n4_ := ym (blk_grown (g := gb164) (o := .cells #[.slice A2_0 l2_0.length c2_0, .slice (some ad210) l2_1.length c2_1] 24 (0, 0)) (by (with_reducible repeat refine y4 ?_); exact BK164.out) hg (Kd.R_ne HO_17.out BK164.out (by decide))); have n5_ := ym ((by rw [hw]; exact ys (HB.out) GB69.out : Below w.heap.size w w81)); clear HO_14; clear HO_15; clear HO_16; clear HO_17; clear BK164; clear HB; have HO_14 := n0_; have HO_15 := n1_; have HO_16 := n2_; have HO_17 := n3_; have BK164 := n4_; have HB := n5_; clear n0_ n1_ n2_ n3_ n4_ n5_; clear hg hw hp_))
                 (try simp only [← hl14_3])
                 go_roundg k3
                 case measure => have := HJ5.out; have := HJ22.out; have := HK3.out; omega
                 case rel => exact ⟨(y209), (y211), (false), (wrap64 (x125_3 + 1)), (by first | rfl | (simp; done) | (simp [*]; done)), (by first | rfl | (simp; done) | (simp [*]; done)), H', ⟨by have := HJ5.out; have := HJ22.out; have := HK3.out; omega⟩, ⟨by (try simp only [hl14_3]); (with_reducible repeat apply y2); exact Kd.R_mono HO_14.out (fun _ hk => ⟨hk.1.1, ⟨hk.1.2, hk.2⟩⟩)⟩, ⟨by (try simp only [hl14_3]); (with_reducible repeat apply y2); exact Kd.R_mono HO_15.out (fun _ hk => ⟨hk.1.1, ⟨hk.1.2, hk.2⟩⟩)⟩, ⟨by (try simp only [hl14_3]); (with_reducible repeat apply y2); exact Kd.R_mono HO_16.out (fun _ hk => ⟨hk.1.1, ⟨hk.1.2, hk.2⟩⟩)⟩, ⟨by (try simp only [hl14_3]); (with_reducible repeat apply y2); exact HO_17.out⟩, ⟨by (try simp only [hl14_3]); (with_reducible repeat refine y4 ?_); exact BK164.out⟩, ⟨by repeat (first | (with_reducible first | exact HB.out | apply y3 | refine ys ?_ GE164.out) | exact HB.out)⟩⟩
                as_aux_lemma =>
                rw [if_neg c68] at H; exact absurd H (by simp)
               as_aux_lemma =>
               rw [if_neg c67] at H; exact absurd H (by simp)
              as_aux_lemma =>
              rw [if_neg c65] at H; exact absurd H (by simp)
             as_aux_lemma =>
             rw [if_neg c64] at H; exact absurd H (by simp)
            as_aux_lemma =>
            rw [if_neg c63] at H; have c63b0 : decide (x125_3 < (y197.length : Int)) = false := decide_eq_false c63; (try rw [hl14_3] at c63b0); clear c63; replace H := Option.bind_eq_some_iff.mp H; obtain ⟨⟨t213, t214⟩, A820, H⟩ := H; replace H : ((rope_Turn.f k3 l0 (wrap64 (2 * (l2_0.length : Int))) l2_0 x17_3).bind fun bt217 => (if t214 = 0 then (if bt217.2 = 0 then (if x18_3 = true then ((heraldlaw10_same.f k3 t213 bt217.1).bind fun t221 => (j3 k3 l0 (l2_0.length : Int) x14_3 y200 y203 (!t221))) else (j3 k3 l0 (l2_0.length : Int) x14_3 y200 y203 false)) else (j3 k3 l0 (l2_0.length : Int) x14_3 y200 y203 true)) else (j3 k3 l0 (l2_0.length : Int) x14_3 y200 y203 true))) = some r := H; have A82 := ym A820; clear A820; replace H := Option.bind_eq_some_iff.mp H; obtain ⟨⟨t217, t218⟩, A830, H⟩ := H; replace H : (if t214 = 0 then (if t218 = 0 then (if x18_3 = true then ((heraldlaw10_same.f k3 t213 t217).bind fun t221 => (j3 k3 l0 (l2_0.length : Int) x14_3 y200 y203 (!t221))) else (j3 k3 l0 (l2_0.length : Int) x14_3 y200 y203 false)) else (j3 k3 l0 (l2_0.length : Int) x14_3 y200 y203 true)) else (j3 k3 l0 (l2_0.length : Int) x14_3 y200 y203 true)) = some r := H; have A83 := ym A830; clear A830; have HC84 := ym H; clear H; have hcz85_0 : wr.cell? ⟨gb164, 0, none⟩ = some (.slice A2_0 l2_0.length c2_0) := (yw BK164.out 0).trans rfl; have hcz85_1 : wr.cell? ⟨gb164, 1, none⟩ = some (.slice A2_1 l2_1.length c2_1) := (yw BK164.out 1).trans rfl; have hfz85_0 := yv BK164.out 0; have hfz85_1 := yv BK164.out 1
            go_upto_region 22 with (first | ((with_reducible refine gate_callee (f := 14) rfl ?_); refine goesL_ (some 158) rfl rfl Tryd.func14 (by kernel_rfl) rfl #[.slice A0 l0.length c0, .int .i64 (wrap64 (2 * (l2_0.length : Int))), .slice A2_0 l2_0.length c2_0, .slice A2_1 l2_1.length c2_1] rfl (by (try simp only [List.map_toArray, List.map_cons, List.map_nil]); first | done | rfl | (simp only [List.length_drop, List.length_take]; rfl)) ?_; (with_reducible refine (rope_Back.calls k3 _ _ l0 (wrap64 (2 * (l2_0.length : Int))) _ _ l2_0 _ _ l2_1 t213 t214 _ ?side1 ?side2 ?side3 ?side4 ?side5 ?side6 A82.out).mono ?_); (case side1 => repeat (first | exact (Kd.C_below HR0.out HB.out) | (with_reducible refine yi ?_ _) | (with_reducible refine yj ?_ _) | (with_reducible refine yk ?_))); (case side2 => exact HC0.out); (case side3 => repeat (first | exact (Kd.C_below HR2_0.out HB.out) | (with_reducible refine yi ?_ _) | (with_reducible refine yj ?_ _) | (with_reducible refine yk ?_))); (case side4 => exact HC2_0.out); (case side5 => repeat (first | exact (Kd.C_below HR2_1.out HB.out) | (with_reducible refine yi ?_ _) | (with_reducible refine yj ?_ _) | (with_reducible refine yk ?_))); (case side6 => exact HC2_1.out); rintro e w86 ⟨v215, rfl, ho0, hb⟩; refine ⟨_, rfl, ?_⟩; have n0_ := ym (Kd.R_elder' (by (with_reducible repeat apply y2); exact HO_14.out) (Kd.R_base ho0) hb); have n1_ := ym (Kd.R_elder' (by (with_reducible repeat apply y2); exact HO_15.out) (Kd.R_base ho0) hb); have n2_ := ym (Kd.R_elder' (by (with_reducible repeat apply y2); exact HO_16.out) (Kd.R_base ho0) hb); have n3_ := ym (Kd.R_elder' (by (with_reducible repeat apply y2); exact HO_17.out) (Kd.R_base ho0) hb); have n4_ := ym (yo (Kd.R_new' (Kd.R_new' (Kd.R_new' (Kd.R_new' ho0 (Kd.R_lt (by (with_reducible repeat apply y2); exact HO_14.out))) (Kd.R_lt (by (with_reducible repeat apply y2); exact HO_15.out))) (Kd.R_lt (by (with_reducible repeat apply y2); exact HO_16.out))) (Kd.R_lt (by (with_reducible repeat apply y2); exact HO_17.out))) (below_size (by repeat (first | (with_reducible first | exact HB.out | apply y3 | refine ys ?_ GE164.out) | exact HB.out)))); have n5_ := ym (yq (g := gb164) (o := .cells #[.slice A2_0 l2_0.length c2_0, .slice A2_1 l2_1.length c2_1] 24 (0, 0)) (by (with_reducible repeat refine y4 ?_); exact BK164.out) hb); have n6_ := ym (yn (by repeat (first | (with_reducible first | exact HB.out | apply y3 | refine ys ?_ GE164.out) | exact HB.out)) hb); clear HO_14; clear HO_15; clear HO_16; clear HO_17; clear BK164; clear HB; have HO_14 := n0_; have HO_15 := n1_; have HO_16 := n2_; have HO_17 := n3_; have HO216 := n4_; have BK164 := n5_; have HB := n6_; clear n0_ n1_ n2_ n3_ n4_ n5_ n6_; (try clear hb); (try clear hb2); (try clear hk); (try clear hi); (try clear ho0); have hcz87_0 : w86.cell? ⟨gb164, 0, none⟩ = some (.slice A2_0 l2_0.length c2_0) := (yw BK164.out 0).trans rfl; have hcz87_1 : w86.cell? ⟨gb164, 1, none⟩ = some (.slice A2_1 l2_1.length c2_1) := (yw BK164.out 1).trans rfl; have hfz87_0 := yv BK164.out 0; have hfz87_1 := yv BK164.out 1; obtain ⟨Ao88, co88, eo88⟩ := Kd.R_slice HO_17.out; subst eo88) | ((with_reducible refine gate_callee (f := 11) rfl ?_); refine goesL_ (some 168) rfl rfl Tryd.func11 (by kernel_rfl) rfl #[.slice A0 l0.length c0, .int .i64 (wrap64 (2 * (l2_0.length : Int))), .slice A2_0 l2_0.length c2_0, .slice Ao88 x17_3.length co88] rfl (by (try simp only [List.map_toArray, List.map_cons, List.map_nil]); first | done | rfl | (simp only [List.length_drop, List.length_take]; rfl)) ?_; (with_reducible refine (rope_Turn.calls k3 _ _ l0 (wrap64 (2 * (l2_0.length : Int))) _ _ l2_0 _ _ x17_3 t217 t218 _ ?side1 ?side2 ?side3 ?side4 ?side5 ?side6 A83.out).mono ?_); (case side1 => repeat (first | exact (Kd.C_below HR0.out HB.out) | (with_reducible refine yi ?_ _) | (with_reducible refine yj ?_ _) | (with_reducible refine yk ?_))); (case side2 => exact HC0.out); (case side3 => repeat (first | exact (Kd.C_below HR2_0.out HB.out) | (with_reducible refine yi ?_ _) | (with_reducible refine yj ?_ _) | (with_reducible refine yk ?_))); (case side4 => exact HC2_0.out); (case side5 => repeat (first | exact (Kd.R_reads' HO_17.out).2.2 | (with_reducible refine yi ?_ _) | (with_reducible refine yj ?_ _) | (with_reducible refine yk ?_))); (case side6 => exact (Kd.R_reads' HO_17.out).2.1); rintro e w89 ⟨v219, rfl, ho0, hb⟩; refine ⟨_, rfl, ?_⟩; have n0_ := ym (Kd.R_elder' (by (with_reducible repeat apply y2); exact HO_14.out) (Kd.R_base ho0) hb); have n1_ := ym (Kd.R_elder' (by (with_reducible repeat apply y2); exact HO_15.out) (Kd.R_base ho0) hb); have n2_ := ym (Kd.R_elder' (by (with_reducible repeat apply y2); exact HO_16.out) (Kd.R_base ho0) hb); have n3_ := ym (Kd.R_elder' (by (with_reducible repeat apply y2); exact HO_17.out) (Kd.R_base ho0) hb); have n4_ := ym (Kd.R_elder' (by (with_reducible repeat apply y2); exact HO216.out) (Kd.R_base ho0) hb); have n5_ := ym (yo (Kd.R_new' (Kd.R_new' (Kd.R_new' (Kd.R_new' (Kd.R_new' ho0 (Kd.R_lt (by (with_reducible repeat apply y2); exact HO_14.out))) (Kd.R_lt (by (with_reducible repeat apply y2); exact HO_15.out))) (Kd.R_lt (by (with_reducible repeat apply y2); exact HO_16.out))) (Kd.R_lt (by (with_reducible repeat apply y2); exact HO_17.out))) (Kd.R_lt (by (with_reducible repeat apply y2); exact HO216.out))) (below_size (by repeat (first | (with_reducible first | exact HB.out | apply y3 | refine ys ?_ GE164.out) | exact HB.out)))); have n6_ := ym (yq (g := gb164) (o := .cells #[.slice A2_0 l2_0.length c2_0, .slice A2_1 l2_1.length c2_1] 24 (0, 0)) (by (with_reducible repeat refine y4 ?_); exact BK164.out) hb); have n7_ := ym (yn (by repeat (first | (with_reducible first | exact HB.out | apply y3 | refine ys ?_ GE164.out) | exact HB.out)) hb); clear HO_14; clear HO_15; clear HO_16; clear HO_17; clear HO216; clear BK164; clear HB; have HO_14 := n0_; have HO_15 := n1_; have HO_16 := n2_; have HO_17 := n3_; have HO216 := n4_; have HO220 := n5_; have BK164 := n6_; have HB := n7_; clear n0_ n1_ n2_ n3_ n4_ n5_ n6_ n7_; (try clear hb); (try clear hb2); (try clear hk); (try clear hi); (try clear ho0)))
            (try simp only [Act.put, y0])
            go_cut [185] (fun v185 wc => ∃ (kq : Nat) (x185_83 : Bool), v185 = .bool x185_83 ∧ Aside0 (j3 kq l0 (l2_0.length : Int) x14_3 y200 y203 x185_83 = some r) ∧ Aside0 (kq ≤ k3) ∧ Aside0 (Kd.R (Kd.int .i8) 33 wc w.heap.size (fun k_ => some k_ ≠ (v201 : Value).ownBlock ∧ some k_ ≠ (v204 : Value).ownBlock) (.slice Ao62 x14_3.length co62) x14_3) ∧ Aside0 (Kd.R (Kd.int .i8) 33 wc w.heap.size (fun k_ => some k_ ≠ ((.slice Ao62 x14_3.length co62) : Value).ownBlock ∧ some k_ ≠ (v204 : Value).ownBlock) v201 y200) ∧ Aside0 (Kd.R (Kd.int .i8) 33 wc w.heap.size (fun k_ => some k_ ≠ ((.slice Ao62 x14_3.length co62) : Value).ownBlock ∧ some k_ ≠ (v201 : Value).ownBlock) v204 y203) ∧ Aside0 (wc.heap[gb164]? = some (.cells #[(.slice A2_0 l2_0.length c2_0), (.slice A2_1 l2_1.length c2_1)] 24 (0, 0))) ∧ Aside0 (Below w.heap.size w wc))
            case first =>
             have H := HC84.out; clear HC84; by_cases c90 : t214 = 0
             ·
              as_aux_lemma =>
              rw [if_pos c90] at H; have c90b0 : (t214 == 0) = true := beq_iff_eq.mpr c90; have c90b1 : (t214 != 0) = false := bne_eq_false_iff_eq.mpr c90; clear c90
              (first | rw [c90b0] | (simp only [i64_w, i32_w]; rw [c90b0]) | skip)
              by_cases c91 : t218 = 0
              ·
               as_aux_lemma =>
               rw [if_pos c91] at H; have c91b0 : (t218 == 0) = true := beq_iff_eq.mpr c91; have c91b1 : (t218 != 0) = false := bne_eq_false_iff_eq.mpr c91; clear c91; by_cases c92 : x18_3 = true
               ·
                as_aux_lemma =>
                subst c92; (have H1 : ((heraldlaw10_same.f k3 t213 t217).bind fun t221 => (j3 k3 l0 (l2_0.length : Int) x14_3 y200 y203 (!t221))) = some r := by rw [if_pos rfl] at H; exact H); clear H; have H := H1; clear H1; replace H := Option.bind_eq_some_iff.mp H; obtain ⟨t221, A930, H⟩ := H; replace H : (j3 k3 l0 (l2_0.length : Int) x14_3 y200 y203 (!t221)) = some r := H; have A93 := ym A930; clear A930; have H' := ym H; clear H; obtain ⟨Ao94, co94, eo94⟩ := Kd.R_slice HO216.out; subst eo94; obtain ⟨Ao95, co95, eo95⟩ := Kd.R_slice HO220.out; subst eo95
                go_wp2_with (first | (go_at_call 13; (with_reducible refine (heraldlaw10_same.calls k3 _ _ t213 _ _ t217 t221 _ ?side1 ?side2 ?side3 ?side4 A93.out).mono ?_); (case side1 => repeat (first | exact (Kd.R_reads' HO216.out).2.2 | (with_reducible refine yi ?_ _) | (with_reducible refine yj ?_ _) | (with_reducible refine yk ?_))); (case side2 => exact (Kd.R_reads' HO216.out).2.1); (case side3 => repeat (first | exact (Kd.R_reads' HO220.out).2.2 | (with_reducible refine yi ?_ _) | (with_reducible refine yj ?_ _) | (with_reducible refine yk ?_))); (case side4 => exact (Kd.R_reads' HO220.out).2.1); rintro e w' ⟨rfl, ⟨nd, rfl⟩⟩))
                go_meet
                case rel => exact ⟨_, (!t221), (by first | rfl | (simp; done) | (simp [*]; done)), H', ⟨by have := HJ5.out; have := HJ22.out; have := HK3.out; first | omega | exact Nat.le_refl _⟩, ⟨by (try simp only [hl14_3]); (with_reducible repeat apply y2); exact Kd.R_mono HO_14.out (fun _ hk => ⟨hk.1.1.1, hk.1.1.2.1⟩)⟩, ⟨by (try simp only [hl14_3]); (with_reducible repeat apply y2); exact Kd.R_mono HO_15.out (fun _ hk => ⟨hk.1.1.1, hk.1.1.2.1⟩)⟩, ⟨by (try simp only [hl14_3]); (with_reducible repeat apply y2); exact Kd.R_mono HO_16.out (fun _ hk => ⟨hk.1.1.1, hk.1.1.2.1⟩)⟩, ⟨by (try simp only [hl14_3]); (with_reducible repeat refine y4 ?_); exact BK164.out⟩, ⟨by repeat (first | (with_reducible first | exact HB.out | apply y3 | refine ys ?_ GE164.out) | exact HB.out)⟩⟩
               as_aux_lemma =>
               replace c92 := Bool.eq_false_iff.mpr c92; subst c92; (have H1 : (j3 k3 l0 (l2_0.length : Int) x14_3 y200 y203 false) = some r := by rw [if_neg (show ¬ (false = true) by decide)] at H; exact H); clear H; have H := H1; clear H1; have H' := ym H; clear H
               go_wp2
               go_meet
               case rel => exact ⟨_, (false), (by first | rfl | (simp; done) | (simp [*]; done)), H', ⟨by have := HJ5.out; have := HJ22.out; have := HK3.out; first | omega | exact Nat.le_refl _⟩, ⟨by (try simp only [hl14_3]); (with_reducible repeat apply y2); exact Kd.R_mono HO_14.out (fun _ hk => ⟨hk.1.1.1, hk.1.1.2.1⟩)⟩, ⟨by (try simp only [hl14_3]); (with_reducible repeat apply y2); exact Kd.R_mono HO_15.out (fun _ hk => ⟨hk.1.1.1, hk.1.1.2.1⟩)⟩, ⟨by (try simp only [hl14_3]); (with_reducible repeat apply y2); exact Kd.R_mono HO_16.out (fun _ hk => ⟨hk.1.1.1, hk.1.1.2.1⟩)⟩, ⟨by (try simp only [hl14_3]); (with_reducible repeat refine y4 ?_); exact BK164.out⟩, ⟨by repeat (first | (with_reducible first | exact HB.out | apply y3 | refine ys ?_ GE164.out) | exact HB.out)⟩⟩
              as_aux_lemma =>
              rw [if_neg c91] at H; have c91b0 : (t218 == 0) = false := beq_eq_false_iff_ne.mpr c91; have c91b1 : (t218 != 0) = true := bne_iff_ne.mpr c91; have H' := ym H; clear H
              go_wp2
              go_meet
              case rel => exact ⟨_, (true), (by first | rfl | (simp; done) | (simp [*]; done)), H', ⟨by have := HJ5.out; have := HJ22.out; have := HK3.out; first | omega | exact Nat.le_refl _⟩, ⟨by (try simp only [hl14_3]); (with_reducible repeat apply y2); exact Kd.R_mono HO_14.out (fun _ hk => ⟨hk.1.1.1, hk.1.1.2.1⟩)⟩, ⟨by (try simp only [hl14_3]); (with_reducible repeat apply y2); exact Kd.R_mono HO_15.out (fun _ hk => ⟨hk.1.1.1, hk.1.1.2.1⟩)⟩, ⟨by (try simp only [hl14_3]); (with_reducible repeat apply y2); exact Kd.R_mono HO_16.out (fun _ hk => ⟨hk.1.1.1, hk.1.1.2.1⟩)⟩, ⟨by (try simp only [hl14_3]); (with_reducible repeat refine y4 ?_); exact BK164.out⟩, ⟨by repeat (first | (with_reducible first | exact HB.out | apply y3 | refine ys ?_ GE164.out) | exact HB.out)⟩⟩
             as_aux_lemma =>
             rw [if_neg c90] at H; have c90b0 : (t214 == 0) = false := beq_eq_false_iff_ne.mpr c90; have c90b1 : (t214 != 0) = true := bne_iff_ne.mpr c90
             (first | rw [c90b0] | (simp only [i64_w, i32_w]; rw [c90b0]) | skip)
             have H' := ym H; clear H
             go_wp2
             go_meet
             case rel => exact ⟨_, (true), (by first | rfl | (simp; done) | (simp [*]; done)), H', ⟨by have := HJ5.out; have := HJ22.out; have := HK3.out; first | omega | exact Nat.le_refl _⟩, ⟨by (try simp only [hl14_3]); (with_reducible repeat apply y2); exact Kd.R_mono HO_14.out (fun _ hk => ⟨hk.1.1.1, hk.1.1.2.1⟩)⟩, ⟨by (try simp only [hl14_3]); (with_reducible repeat apply y2); exact Kd.R_mono HO_15.out (fun _ hk => ⟨hk.1.1.1, hk.1.1.2.1⟩)⟩, ⟨by (try simp only [hl14_3]); (with_reducible repeat apply y2); exact Kd.R_mono HO_16.out (fun _ hk => ⟨hk.1.1.1, hk.1.1.2.1⟩)⟩, ⟨by (try simp only [hl14_3]); (with_reducible repeat refine y4 ?_); exact BK164.out⟩, ⟨by repeat (first | (with_reducible first | exact HB.out | apply y3 | refine ys ?_ GE164.out) | exact HB.out)⟩⟩
            case rest =>
             clear HC84; (try clear c1); (try clear c2); (try clear p2); (try clear q2); (try clear hx2); (try clear c6); (try clear p6); (try clear q6); (try clear hx6); (try clear hf6); (try clear c7); (try clear c9); (try clear c11); (try clear c14); (try clear p21); (try clear q21); (try clear hx21); (try clear c63); (try clear c63b0); (try clear c64); (try clear c64b0); (try clear p64); (try clear c65); (try clear c65b0); (try clear p66); (try clear q66); (try clear hx66); (try clear hf66); (try clear c67); (try clear c67b0); (try clear c68); (try clear c68b0); (try clear p69); (try clear q69); (try clear hx69); (try clear hf69); (try clear c70); (try clear c90); (try clear c90b0); (try clear c90b1); (try clear c91); (try clear c91b0); (try clear c91b1); (try clear c92); (try clear hcz73_0); (try clear hcz73_1); (try clear hcz76_0); (try clear hcz76_1); (try clear hcz79_0); (try clear hcz79_1); (try clear hcz85_0); (try clear hcz85_1); (try clear hcz87_0); (try clear hcz87_1); (try clear hfz73_0); (try clear hfz73_1); (try clear hfz76_0); (try clear hfz76_1); (try clear hfz79_0); (try clear hfz79_1); (try clear hfz85_0); (try clear hfz85_1); (try clear hfz87_0); (try clear hfz87_1); (try clear hx210_0); (try clear hx212_0); (try clear hx66_0); (try clear hx69_0); (try clear p2); (try clear p210); (try clear p212); (try clear p66); (try clear p69); (try clear q210); (try clear q212); (try clear q66); (try clear q69); obtain ⟨kq, x185_83, rfl, HA, HJ83, HO_14, HO_15, HO_16, BK164, HB⟩ := hcut
             cases kq with
             | zero => exact absurd HA.out (by simp [j3])
             | succ kj83 =>
              have H := HA.out; clear HA; simp only [j3] at H; by_cases c96 : x185_83 = true
              ·
               as_aux_lemma =>
               subst c96; (have H1 : (some false) = some r := by rw [if_pos rfl] at H; exact H); clear H; have H := H1; clear H1; obtain rfl := Option.some.inj H
               go_wp2
               go_ret
               exact ⟨by first | rfl | (simp [errW_none, errW_some] <;> rfl) | (simp [*, errW_none, errW_some] <;> rfl), by repeat (first | (with_reducible first | exact HB.out | apply y3 | refine ys ?_ GE164.out) | exact HB.out)⟩
              as_aux_lemma =>
              replace c96 := Bool.eq_false_iff.mpr c96; subst c96; (have H1 : ((rope_Turn.f kj83 l0 (wrap64 (2 * (l2_0.length : Int))) x14_3 y200).bind fun bt222 => (if bt222.2 = 0 then (j4 kj83 l0 (l2_0.length : Int) x14_3 y203 bt222.1 ((bt222.1.length : Int) != (l0.length : Int))) else (j4 kj83 l0 (l2_0.length : Int) x14_3 y203 bt222.1 true))) = some r := by rw [if_neg (show ¬ (false = true) by decide)] at H; exact H); clear H; have H := H1; clear H1; replace H := Option.bind_eq_some_iff.mp H; obtain ⟨⟨t222, t223⟩, A970, H⟩ := H; replace H : (if t223 = 0 then (j4 kj83 l0 (l2_0.length : Int) x14_3 y203 t222 ((t222.length : Int) != (l0.length : Int))) else (j4 kj83 l0 (l2_0.length : Int) x14_3 y203 t222 true)) = some r := H; have A97 := ym A970; clear A970; have HC98 := ym H; clear H; obtain ⟨Ao99, co99, eo99⟩ := Kd.R_slice HO_15.out; subst eo99
              go_upto_region 25 with (first | ((with_reducible refine gate_callee (f := 11) rfl ?_); refine goesL_ (some 192) rfl rfl Tryd.func11 (by kernel_rfl) rfl #[.slice A0 l0.length c0, .int .i64 (wrap64 (2 * (l2_0.length : Int))), .slice Ao62 x14_3.length co62, .slice Ao99 y200.length co99] rfl (by (try simp only [List.map_toArray, List.map_cons, List.map_nil]); first | done | rfl | (simp only [List.length_drop, List.length_take]; rfl)) ?_; (with_reducible refine (rope_Turn.calls kj83 _ _ l0 (wrap64 (2 * (l2_0.length : Int))) _ _ x14_3 _ _ y200 t222 t223 _ ?side1 ?side2 ?side3 ?side4 ?side5 ?side6 A97.out).mono ?_); (case side1 => repeat (first | exact (Kd.C_below HR0.out HB.out) | (with_reducible refine yi ?_ _) | (with_reducible refine yj ?_ _) | (with_reducible refine yk ?_))); (case side2 => exact HC0.out); (case side3 => repeat (first | exact (Kd.R_reads' HO_14.out).2.2 | (with_reducible refine yi ?_ _) | (with_reducible refine yj ?_ _) | (with_reducible refine yk ?_))); (case side4 => exact (Kd.R_reads' HO_14.out).2.1); (case side5 => repeat (first | exact (Kd.R_reads' HO_15.out).2.2 | (with_reducible refine yi ?_ _) | (with_reducible refine yj ?_ _) | (with_reducible refine yk ?_))); (case side6 => exact (Kd.R_reads' HO_15.out).2.1); rintro e w100 ⟨v224, rfl, ho0, hb⟩; refine ⟨_, rfl, ?_⟩; have n0_ := ym (Kd.R_elder' (by (with_reducible repeat apply y2); exact HO_14.out) (Kd.R_base ho0) hb); have n1_ := ym (Kd.R_elder' (by (with_reducible repeat apply y2); exact HO_15.out) (Kd.R_base ho0) hb); have n2_ := ym (Kd.R_elder' (by (with_reducible repeat apply y2); exact HO_16.out) (Kd.R_base ho0) hb); have n3_ := ym (yo (Kd.R_new' (Kd.R_new' (Kd.R_new' ho0 (Kd.R_lt (by (with_reducible repeat apply y2); exact HO_14.out))) (Kd.R_lt (by (with_reducible repeat apply y2); exact HO_15.out))) (Kd.R_lt (by (with_reducible repeat apply y2); exact HO_16.out))) (below_size (by repeat (first | (with_reducible first | exact HB.out | apply y3 | refine ys ?_ GE164.out) | exact HB.out)))); have n4_ := ym (yq (g := gb164) (o := .cells #[.slice A2_0 l2_0.length c2_0, .slice A2_1 l2_1.length c2_1] 24 (0, 0)) (by (with_reducible repeat refine y4 ?_); exact BK164.out) hb); have n5_ := ym (yn (by repeat (first | (with_reducible first | exact HB.out | apply y3 | refine ys ?_ GE164.out) | exact HB.out)) hb); clear HO_14; clear HO_15; clear HO_16; clear BK164; clear HB; have HO_14 := n0_; have HO_15 := n1_; have HO_16 := n2_; have HO225 := n3_; have BK164 := n4_; have HB := n5_; clear n0_ n1_ n2_ n3_ n4_ n5_; (try clear hb); (try clear hb2); (try clear hk); (try clear hi); (try clear ho0)))
              (try simp only [Act.put, y0])
              go_cut [203] (fun v203 wc => ∃ (kq : Nat) (x203_97 : Bool), v203 = .bool x203_97 ∧ Aside0 (j4 kq l0 (l2_0.length : Int) x14_3 y203 t222 x203_97 = some r) ∧ Aside0 (kq ≤ kj83) ∧ Aside0 (Kd.R (Kd.int .i8) 33 wc w.heap.size (fun k_ => some k_ ≠ (v204 : Value).ownBlock ∧ some k_ ≠ (v224 : Value).ownBlock) (.slice Ao62 x14_3.length co62) x14_3) ∧ Aside0 (Kd.R (Kd.int .i8) 33 wc w.heap.size (fun k_ => some k_ ≠ ((.slice Ao62 x14_3.length co62) : Value).ownBlock ∧ some k_ ≠ (v224 : Value).ownBlock) v204 y203) ∧ Aside0 (Kd.R (Kd.int .i8) 33 wc w.heap.size (fun k_ => some k_ ≠ ((.slice Ao62 x14_3.length co62) : Value).ownBlock ∧ some k_ ≠ (v204 : Value).ownBlock) v224 t222) ∧ Aside0 (wc.heap[gb164]? = some (.cells #[(.slice A2_0 l2_0.length c2_0), (.slice A2_1 l2_1.length c2_1)] 24 (0, 0))) ∧ Aside0 (Below w.heap.size w wc))
              case first =>
               have H := HC98.out; clear HC98; by_cases c101 : t223 = 0
               ·
                as_aux_lemma =>
                rw [if_pos c101] at H; have c101b0 : (t223 == 0) = true := beq_iff_eq.mpr c101; have c101b1 : (t223 != 0) = false := bne_eq_false_iff_eq.mpr c101; clear c101
                (first | rw [c101b0] | (simp only [i64_w, i32_w]; rw [c101b0]) | skip)
                have H' := ym H; clear H; obtain ⟨Ao102, co102, eo102⟩ := Kd.R_slice HO225.out; subst eo102
                go_wp2
                go_meet
                case rel => exact ⟨_, (((t222.length : Int) != (l0.length : Int))), (by first | rfl | (simp; done) | (simp [*]; done)), H', ⟨by have := HJ5.out; have := HJ22.out; have := HK3.out; have := HJ83.out; first | omega | exact Nat.le_refl _⟩, ⟨by (try simp only [hl14_3]); (with_reducible repeat apply y2); exact Kd.R_mono HO_14.out (fun _ hk => ⟨hk.1.2, hk.2⟩)⟩, ⟨by (try simp only [hl14_3]); (with_reducible repeat apply y2); exact Kd.R_mono HO_16.out (fun _ hk => ⟨hk.1.1, hk.2⟩)⟩, ⟨by (try simp only [hl14_3]); (with_reducible repeat apply y2); exact Kd.R_mono HO225.out (fun _ hk => ⟨hk.1.1.2, hk.2⟩)⟩, ⟨by (try simp only [hl14_3]); (with_reducible repeat refine y4 ?_); exact BK164.out⟩, ⟨by repeat (first | (with_reducible first | exact HB.out | apply y3 | refine ys ?_ GE164.out) | exact HB.out)⟩⟩
               as_aux_lemma =>
               rw [if_neg c101] at H; have c101b0 : (t223 == 0) = false := beq_eq_false_iff_ne.mpr c101; have c101b1 : (t223 != 0) = true := bne_iff_ne.mpr c101
               (first | rw [c101b0] | (simp only [i64_w, i32_w]; rw [c101b0]) | skip)
               have H' := ym H; clear H
               go_wp2
               go_meet
               case rel => exact ⟨_, (true), (by first | rfl | (simp; done) | (simp [*]; done)), H', ⟨by have := HJ5.out; have := HJ22.out; have := HK3.out; have := HJ83.out; first | omega | exact Nat.le_refl _⟩, ⟨by (try simp only [hl14_3]); (with_reducible repeat apply y2); exact Kd.R_mono HO_14.out (fun _ hk => ⟨hk.1.2, hk.2⟩)⟩, ⟨by (try simp only [hl14_3]); (with_reducible repeat apply y2); exact Kd.R_mono HO_16.out (fun _ hk => ⟨hk.1.1, hk.2⟩)⟩, ⟨by (try simp only [hl14_3]); (with_reducible repeat apply y2); exact Kd.R_mono HO225.out (fun _ hk => ⟨hk.1.1.2, hk.2⟩)⟩, ⟨by (try simp only [hl14_3]); (with_reducible repeat refine y4 ?_); exact BK164.out⟩, ⟨by repeat (first | (with_reducible first | exact HB.out | apply y3 | refine ys ?_ GE164.out) | exact HB.out)⟩⟩
              case rest =>
               clear HC98; (try clear c1); (try clear c2); (try clear p2); (try clear q2); (try clear hx2); (try clear c6); (try clear p6); (try clear q6); (try clear hx6); (try clear hf6); (try clear c7); (try clear c9); (try clear c10); (try clear c11); (try clear c14); (try clear p21); (try clear q21); (try clear hx21); (try clear c63); (try clear c63b0); (try clear c64); (try clear c64b0); (try clear p64); (try clear c65); (try clear c65b0); (try clear p66); (try clear q66); (try clear hx66); (try clear hf66); (try clear c67); (try clear c67b0); (try clear c68); (try clear c68b0); (try clear p69); (try clear q69); (try clear hx69); (try clear hf69); (try clear c70); (try clear c90); (try clear c90b0); (try clear c90b1); (try clear c91); (try clear c91b0); (try clear c91b1); (try clear c92); (try clear c96); (try clear c101); (try clear c101b0); (try clear c101b1); (try clear hcz73_0); (try clear hcz73_1); (try clear hcz76_0); (try clear hcz76_1); (try clear hcz79_0); (try clear hcz79_1); (try clear hcz85_0); (try clear hcz85_1); (try clear hcz87_0); (try clear hcz87_1); (try clear hfz73_0); (try clear hfz73_1); (try clear hfz76_0); (try clear hfz76_1); (try clear hfz79_0); (try clear hfz79_1); (try clear hfz85_0); (try clear hfz85_1); (try clear hfz87_0); (try clear hfz87_1); (try clear hx210_0); (try clear hx212_0); (try clear hx66_0); (try clear hx69_0); (try clear p2); (try clear p21); (try clear p210); (try clear p212); (try clear p6); (try clear p64); (try clear p66); (try clear p69); (try clear q2); (try clear q21); (try clear q210); (try clear q212); (try clear q6); (try clear q66); (try clear q69); obtain ⟨kq, x203_97, rfl, HA, HJ97, HO_14, HO_16, HO_22, BK164, HB⟩ := hcut
               cases kq with
               | zero => exact absurd HA.out (by simp [j4])
               | succ kj97 =>
                have H := HA.out; clear HA; simp only [j4] at H; by_cases c103 : x203_97 = true
                ·
                 as_aux_lemma =>
                 subst c103; (have H1 : (some false) = some r := by rw [if_pos rfl] at H; exact H); clear H; have H := H1; clear H1; obtain rfl := Option.some.inj H
                 go_wp2
                 go_ret
                 exact ⟨by first | rfl | (simp [errW_none, errW_some] <;> rfl) | (simp [*, errW_none, errW_some] <;> rfl), by repeat (first | (with_reducible first | exact HB.out | apply y3 | refine ys ?_ GE164.out) | exact HB.out)⟩
                as_aux_lemma =>
                replace c103 := Bool.eq_false_iff.mpr c103; subst c103; (have H1 : (heraldlaw10_RopeHeads.l1 kj97 l0 (l2_0.length : Int) x14_3 y203 t222 (l0.length : Int) 0) = some r := by rw [if_neg (show ¬ (false = true) by decide)] at H; exact H); clear H; have H := H1; clear H1; have H' := ym H; clear H
                go_wp2
                go_loopg [206] kj97 (fun kq v206 w' => ∃ (x206_6 : Int), v206 = .int .i64 x206_6 ∧ Aside0 (heraldlaw10_RopeHeads.l1 kq l0 (l2_0.length : Int) x14_3 y203 t222 (l0.length : Int) x206_6 = some r) ∧ Aside0 (kq ≤ kj97) ∧ Aside0 (Kd.R (Kd.int .i8) 33 w' w.heap.size (fun k_ => some k_ ≠ (v204 : Value).ownBlock ∧ some k_ ≠ (v224 : Value).ownBlock) (.slice Ao62 x14_3.length co62) x14_3) ∧ Aside0 (Kd.R (Kd.int .i8) 33 w' w.heap.size (fun k_ => some k_ ≠ ((.slice Ao62 x14_3.length co62) : Value).ownBlock ∧ some k_ ≠ (v224 : Value).ownBlock) v204 y203) ∧ Aside0 (Kd.R (Kd.int .i8) 33 w' w.heap.size (fun k_ => some k_ ≠ ((.slice Ao62 x14_3.length co62) : Value).ownBlock ∧ some k_ ≠ (v204 : Value).ownBlock) v224 t222) ∧ Aside0 (w'.heap[gb164]? = some (.cells #[(.slice A2_0 l2_0.length c2_0), (.slice A2_1 l2_1.length c2_1)] 24 (0, 0))) ∧ Aside0 (Below w.heap.size w w'))
                case atStart => exact ⟨(0), (by first | rfl | (simp; done) | (simp [*]; done)), H', ⟨Nat.le_refl _⟩, ⟨by (try simp only [hl14_3]); (with_reducible repeat apply y2); exact HO_14.out⟩, ⟨by (try simp only [hl14_3]); (with_reducible repeat apply y2); exact HO_16.out⟩, ⟨by (try simp only [hl14_3]); (with_reducible repeat apply y2); exact HO_22.out⟩, ⟨by (try simp only [hl14_3]); (with_reducible repeat refine y4 ?_); exact BK164.out⟩, ⟨by repeat (first | (with_reducible first | exact HB.out | apply y3 | refine ys ?_ GE164.out) | exact HB.out)⟩⟩
                case round =>
                 clear H'; (try clear c1); (try clear c2); (try clear p2); (try clear q2); (try clear hx2); (try clear c6); (try clear p6); (try clear q6); (try clear hx6); (try clear hf6); (try clear c7); (try clear c9); (try clear c10); (try clear c11); (try clear c14); (try clear p21); (try clear q21); (try clear hx21); (try clear c63); (try clear c63b0); (try clear c64); (try clear c64b0); (try clear p64); (try clear c65); (try clear c65b0); (try clear p66); (try clear q66); (try clear hx66); (try clear hf66); (try clear c67); (try clear c67b0); (try clear c68); (try clear c68b0); (try clear p69); (try clear q69); (try clear hx69); (try clear hf69); (try clear c70); (try clear c90); (try clear c90b0); (try clear c90b1); (try clear c91); (try clear c91b0); (try clear c91b1); (try clear c92); (try clear c96); (try clear c101); (try clear c101b0); (try clear c101b1); (try clear c103); (try clear hcz73_0); (try clear hcz73_1); (try clear hcz76_0); (try clear hcz76_1); (try clear hcz79_0); (try clear hcz79_1); (try clear hcz85_0); (try clear hcz85_1); (try clear hcz87_0); (try clear hcz87_1); (try clear hfz73_0); (try clear hfz73_1); (try clear hfz76_0); (try clear hfz76_1); (try clear hfz79_0); (try clear hfz79_1); (try clear hfz85_0); (try clear hfz85_1); (try clear hfz87_0); (try clear hfz87_1); (try clear hx210_0); (try clear hx212_0); (try clear hx66_0); (try clear hx69_0); (try clear p2); (try clear p21); (try clear p210); (try clear p212); (try clear p6); (try clear p64); (try clear p66); (try clear p69); (try clear q2); (try clear q21); (try clear q210); (try clear q212); (try clear q6); (try clear q66); (try clear q69); obtain ⟨x206_6, rfl, HA, HK6, HO_14, HO_16, HO_22, BK164, HB⟩ := hrel
                 cases gk with
                 | zero => exact absurd HA.out (by simp [heraldlaw10_RopeHeads.l1])
                 | succ k6 =>
                  have H := HA.out; clear HA; simp only [heraldlaw10_RopeHeads.l1] at H; by_cases c104 : x206_6 < (l0.length : Int)
                  ·
                   as_aux_lemma =>
                   rw [if_pos c104] at H; have c104b0 : decide (x206_6 < (l0.length : Int)) = true := decide_eq_true c104; clear c104; by_cases c105 : 0 ≤ x206_6
                   ·
                    as_aux_lemma =>
                    rw [if_pos c105] at H; have c105b0 : decide (0 ≤ x206_6) = true := decide_eq_true c105; clear c105; by_cases c106 : x206_6 < (t222.length : Int)
                    ·
                     as_aux_lemma =>
                     rw [if_pos c106] at H; have c106b0 : decide (x206_6 < (t222.length : Int)) = true := decide_eq_true c106; clear c106; by_cases c107 : x206_6 < (l0.length : Int)
                     ·
                      as_aux_lemma =>
                      rw [if_pos c107] at H; have c107b0 : decide (x206_6 < (l0.length : Int)) = true := decide_eq_true c107; clear c107; obtain ⟨ji108, hji108⟩ : ∃ j_ : Int, (mx (rd l0 x206_6) (-127)) = j_ := ⟨_, rfl⟩; (replace H : (if (rd t222 x206_6) = (ji108) then (heraldlaw10_RopeHeads.l1 k6 l0 (l2_0.length : Int) x14_3 y203 t222 (l0.length : Int) (wrap64 (x206_6 + 1))) else (some false)) = some r := by first | (rw [hji108] at H; exact H) | (simp only [hji108] at H ⊢; exact H)); have hji108_ : (if (rd l0 x206_6) < (-127) then (-127) else (rd l0 x206_6)) = ji108 := hji108; by_cases c109 : (rd t222 x206_6) = (ji108)
                      ·
                       as_aux_lemma =>
                       rw [if_pos c109] at H; have c109b0 : ((rd t222 x206_6) == (ji108)) = true := beq_iff_eq.mpr c109; have c109b1 : ((rd t222 x206_6) != (ji108)) = false := bne_eq_false_iff_eq.mpr c109; clear c109; have H' := ym H; clear H; (try go_wp2); have n0_ := ym (yh HO_14.out); have n1_ := ym (yh HO_16.out); have n2_ := ym (yh HO_22.out); have n3_ := ym (yt BK164.out); have n4_ := ym (ye HB.out); clear HO_14; clear HO_16; clear HO_22; clear BK164; clear HB; have HO_14 := n0_; have HO_16 := n1_; have HO_22 := n2_; have BK164 := n3_; have HB := n4_; clear n0_ n1_ n2_ n3_ n4_; obtain ⟨Ao111, co111, eo111⟩ := Kd.R_slice HO_22.out
                       (first | subst eo111 | (injection eo111 with f1_ f2_ f3_; have f4_ := f1_.symm; have f5_ := f3_.symm; clear f1_ f2_ f3_; subst f4_; subst f5_))
                       have p226 : 0 ≤ (x206_6 : Int) := of_decide_eq_true (by first | (with_reducible assumption) | assumption); have q226 : x206_6 < (t222.length : Int) := of_decide_eq_true (by first | (with_reducible assumption) | assumption); obtain ⟨ad226, e226, hx226_0⟩ := Kd.at_int (Kd.R_reads' HO_22.out).2.2 x206_6 p226 q226
                       cases e226
                       replace p226 := eq_true p226; replace q226 := eq_true q226; have p227 : 0 ≤ (x206_6 : Int) := of_decide_eq_true (by first | (with_reducible assumption) | assumption); have q227 : x206_6 < (l0.length : Int) := of_decide_eq_true (by first | (with_reducible assumption) | assumption); obtain ⟨ad227, e227, hx227_0⟩ := Kd.at_int HR0.out x206_6 p227 q227; have hw227_0 := hx227_0
                       cases e227
                       replace hx227_0 := (HB.out.cell (World.block_lt_of_cell? w _ hx227_0)).trans hx227_0; replace p227 := eq_true p227; replace q227 := eq_true q227; refine start_ (n := 10) (S := fun w' => w'.cell? (ad226.add (x206_6).toNat) = some (.int .i8 (rd t222 x206_6)) ∧ w'.cell? (ad227.add (x206_6).toNat) = some (.int .i8 (rd l0 x206_6))) (ds := []) #[o_, o_, o_, o_, o_, o_, o_, o_, o_, o_] (by kernel_rfl) rfl rfl ⟨hx226_0, ((HB.out.cell (World.block_lt_of_cell? w _ hw227_0)).trans hw227_0)⟩ (fun hHeld => ?_); refine with_tabW heraldlaw10_RopeHeads.tab30 heraldlaw10_RopeHeads.bits30 (fun HT_ HW_ => ?_); generalize wr.drew = w110 at HO_14 HO_16 HO_22 BK164 HB hx226_0 hx227_0 hHeld ⊢; refine pure_ (i := 0) (N := some 209) (v := ?_) (a' := ?_) #[i_, o_, o_, o_, o_, o_, o_, o_, o_, o_] rfl rfl (any_of HT_.out (by kernel_rfl)) (fun _ _ _ h => h) (Or.inl ⟨by rfl, ?_⟩) ?_ ?_; rotate_left
                       ·
                        intro w'
                        go_simp
                        with_reducible rfl
                       rotate_left
                       ·
                        simp only [Act.put, y0, y1]
                        rfl
                       refine pure_ (i := 1) (N := some 210) (v := ?_) (a' := ?_) #[i_, i_, o_, o_, o_, o_, o_, o_, o_, o_] rfl rfl (any_of HT_.out (by kernel_rfl)) (fun _ _ _ h => h) (Or.inl ⟨by rfl, ?_⟩) ?_ ?_; rotate_left
                       ·
                        intro w'
                        go_simp
                        with_reducible rfl
                       rotate_left
                       ·
                        simp only [Act.put, y0, y1]
                        rfl
                       refine pure_ (i := 2) (N := some 211) (v := ?_) (a' := ?_) #[i_, i_, i_, o_, o_, o_, o_, o_, o_, o_] rfl rfl (any_of HT_.out (by kernel_rfl)) (fun _ _ _ h => h) (Or.inl ⟨by rfl, ?_⟩) ?_ ?_; rotate_left
                       ·
                        intro w'
                        go_simp
                        with_reducible rfl
                       rotate_left
                       ·
                        simp only [Act.put, y0, y1]
                        rfl
                       refine pure_ (i := 4) (N := some 213) (v := ?_) (a' := ?_) #[i_, i_, i_, o_, i_, o_, o_, o_, o_, o_] rfl rfl (any_of HT_.out (by kernel_rfl)) (fun _ _ _ h => h) (Or.inl ⟨by rfl, ?_⟩) ?_ ?_; rotate_left
                       ·
                        intro w'
                        go_simp
                        with_reducible rfl
                       rotate_left
                       ·
                        simp only [Act.put, y0, y1]
                        rfl
                       refine pure_ (i := 5) (N := some 214) (v := ?_) (a' := ?_) #[i_, i_, i_, o_, i_, i_, o_, o_, o_, o_] rfl rfl (any_of HT_.out (by kernel_rfl)) (fun _ _ _ h => h) (Or.inl ⟨by rfl, ?_⟩) ?_ ?_; rotate_left
                       ·
                        intro w'
                        go_simp
                        with_reducible rfl
                       rotate_left
                       ·
                        simp only [Act.put, y0, y1]
                        rfl
                       refine pure_ (i := 6) (N := some 215) (v := ?_) (a' := ?_) #[i_, i_, i_, o_, i_, i_, i_, o_, o_, o_] rfl rfl (any_of HT_.out (by kernel_rfl)) (fun _ _ _ h => h) (Or.inl ⟨by rfl, ?_⟩) ?_ ?_; rotate_left
                       ·
                        intro w'
                        go_simp
                        with_reducible rfl
                       rotate_left
                       ·
                        simp only [Act.put, y0, y1]
                        rfl
                       refine take_ (i := 3) (N := some 212) (v := ?_) (a' := ?_) #[i_, i_, i_, i_, i_, i_, i_, o_, o_, o_] rfl rfl (take_ofW HT_.out HW_.out (by kernel_rfl)) (fun _ _ _ h => h) (Or.inl ⟨by rfl, ?_⟩) hHeld ?_ ?_; rotate_left
                       ·
                        rintro w' ⟨s0, s1⟩
                        go_simp
                        with_reducible rfl
                       rotate_left
                       ·
                        simp only [Act.put, y0, y1]
                        rfl
                       refine take_ (i := 7) (N := some 216) (v := ?_) (a' := ?_) #[i_, i_, i_, i_, i_, i_, i_, i_, o_, o_] rfl rfl (take_ofW HT_.out HW_.out (by kernel_rfl)) (fun _ _ _ h => h) (Or.inl ⟨by rfl, ?_⟩) hHeld ?_ ?_; rotate_left
                       ·
                        rintro w' ⟨s0, s1⟩
                        go_simp
                        with_reducible rfl
                       rotate_left
                       ·
                        simp only [Act.put, y0, y1]
                        rfl
                       refine pure_ (i := 8) (N := some 217) (v := ?_) (a' := ?_) #[i_, i_, i_, i_, i_, i_, i_, i_, i_, o_] rfl rfl (any_of HT_.out (by kernel_rfl)) (fun _ _ _ h => h) (Or.inl ⟨by rfl, ?_⟩) ?_ ?_; rotate_left
                       ·
                        intro w'
                        go_simp
                        with_reducible rfl
                       rotate_left
                       ·
                        simp only [Act.put, y0, y1]
                        rfl
                       refine pure_ (i := 9) (N := some 218) (v := ?_) (a' := ?_) #[i_, i_, i_, i_, i_, i_, i_, i_, i_, i_] rfl rfl (any_of HT_.out (by kernel_rfl)) (fun _ _ _ h => h) (Or.inl ⟨by rfl, ?_⟩) ?_ ?_; rotate_left
                       ·
                        intro w'
                        go_simp
                        with_reducible rfl
                       rotate_left
                       ·
                        simp only [Act.put, y0, y1]
                        rfl
                       refine done_ (done_of HT_.out (by kernel_rfl)) ?_; (try go_wp2)
                       go_roundg k6
                       case measure => have := HJ5.out; have := HJ22.out; have := HK3.out; have := HJ83.out; have := HJ97.out; have := HK6.out; omega
                       case rel => exact ⟨(wrap64 (x206_6 + 1)), (by first | rfl | (simp; done) | (simp [*]; done)), H', ⟨by have := HJ5.out; have := HJ22.out; have := HK3.out; have := HJ83.out; have := HJ97.out; have := HK6.out; omega⟩, ⟨by (try simp only [hl14_3]); (with_reducible repeat apply y2); exact HO_14.out⟩, ⟨by (try simp only [hl14_3]); (with_reducible repeat apply y2); exact HO_16.out⟩, ⟨by (try simp only [hl14_3]); (with_reducible repeat apply y2); exact HO_22.out⟩, ⟨by (try simp only [hl14_3]); (with_reducible repeat refine y4 ?_); exact BK164.out⟩, ⟨by repeat (first | (with_reducible first | exact HB.out | apply y3 | refine ys ?_ GE164.out) | exact HB.out)⟩⟩
                      as_aux_lemma =>
                      rw [if_neg c109] at H; have c109b0 : ((rd t222 x206_6) == (ji108)) = false := beq_eq_false_iff_ne.mpr c109; have c109b1 : ((rd t222 x206_6) != (ji108)) = true := bne_iff_ne.mpr c109; obtain rfl := Option.some.inj H; (try go_wp2); have n0_ := ym (yh HO_14.out); have n1_ := ym (yh HO_16.out); have n2_ := ym (yh HO_22.out); have n3_ := ym (yt BK164.out); have n4_ := ym (ye HB.out); clear HO_14; clear HO_16; clear HO_22; clear BK164; clear HB; have HO_14 := n0_; have HO_16 := n1_; have HO_22 := n2_; have BK164 := n3_; have HB := n4_; clear n0_ n1_ n2_ n3_ n4_; obtain ⟨Ao113, co113, eo113⟩ := Kd.R_slice HO_22.out
                      (first | subst eo113 | (injection eo113 with f1_ f2_ f3_; have f4_ := f1_.symm; have f5_ := f3_.symm; clear f1_ f2_ f3_; subst f4_; subst f5_))
                      have p226 : 0 ≤ (x206_6 : Int) := of_decide_eq_true (by first | (with_reducible assumption) | assumption); have q226 : x206_6 < (t222.length : Int) := of_decide_eq_true (by first | (with_reducible assumption) | assumption); obtain ⟨ad226, e226, hx226_0⟩ := Kd.at_int (Kd.R_reads' HO_22.out).2.2 x206_6 p226 q226
                      cases e226
                      replace p226 := eq_true p226; replace q226 := eq_true q226; have p227 : 0 ≤ (x206_6 : Int) := of_decide_eq_true (by first | (with_reducible assumption) | assumption); have q227 : x206_6 < (l0.length : Int) := of_decide_eq_true (by first | (with_reducible assumption) | assumption); obtain ⟨ad227, e227, hx227_0⟩ := Kd.at_int HR0.out x206_6 p227 q227; have hw227_0 := hx227_0
                      cases e227
                      replace hx227_0 := (HB.out.cell (World.block_lt_of_cell? w _ hx227_0)).trans hx227_0; replace p227 := eq_true p227; replace q227 := eq_true q227; refine start_ (n := 10) (S := fun w' => w'.cell? (ad226.add (x206_6).toNat) = some (.int .i8 (rd t222 x206_6)) ∧ w'.cell? (ad227.add (x206_6).toNat) = some (.int .i8 (rd l0 x206_6))) (ds := []) #[o_, o_, o_, o_, o_, o_, o_, o_, o_, o_] (by kernel_rfl) rfl rfl ⟨hx226_0, ((HB.out.cell (World.block_lt_of_cell? w _ hw227_0)).trans hw227_0)⟩ (fun hHeld => ?_); refine with_tabW heraldlaw10_RopeHeads.tab30 heraldlaw10_RopeHeads.bits30 (fun HT_ HW_ => ?_); generalize wr.drew = w112 at HO_14 HO_16 HO_22 BK164 HB hx226_0 hx227_0 hHeld ⊢; refine pure_ (i := 0) (N := some 209) (v := ?_) (a' := ?_) #[i_, o_, o_, o_, o_, o_, o_, o_, o_, o_] rfl rfl (any_of HT_.out (by kernel_rfl)) (fun _ _ _ h => h) (Or.inl ⟨by rfl, ?_⟩) ?_ ?_; rotate_left
                      ·
                       intro w'
                       go_simp
                       with_reducible rfl
                      rotate_left
                      ·
                       simp only [Act.put, y0, y1]
                       rfl
                      refine pure_ (i := 1) (N := some 210) (v := ?_) (a' := ?_) #[i_, i_, o_, o_, o_, o_, o_, o_, o_, o_] rfl rfl (any_of HT_.out (by kernel_rfl)) (fun _ _ _ h => h) (Or.inl ⟨by rfl, ?_⟩) ?_ ?_; rotate_left
                      ·
                       intro w'
                       go_simp
                       with_reducible rfl
                      rotate_left
                      ·
                       simp only [Act.put, y0, y1]
                       rfl
                      refine pure_ (i := 2) (N := some 211) (v := ?_) (a' := ?_) #[i_, i_, i_, o_, o_, o_, o_, o_, o_, o_] rfl rfl (any_of HT_.out (by kernel_rfl)) (fun _ _ _ h => h) (Or.inl ⟨by rfl, ?_⟩) ?_ ?_; rotate_left
                      ·
                       intro w'
                       go_simp
                       with_reducible rfl
                      rotate_left
                      ·
                       simp only [Act.put, y0, y1]
                       rfl
                      refine pure_ (i := 4) (N := some 213) (v := ?_) (a' := ?_) #[i_, i_, i_, o_, i_, o_, o_, o_, o_, o_] rfl rfl (any_of HT_.out (by kernel_rfl)) (fun _ _ _ h => h) (Or.inl ⟨by rfl, ?_⟩) ?_ ?_; rotate_left
                      ·
                       intro w'
                       go_simp
                       with_reducible rfl
                      rotate_left
                      ·
                       simp only [Act.put, y0, y1]
                       rfl
                      refine pure_ (i := 5) (N := some 214) (v := ?_) (a' := ?_) #[i_, i_, i_, o_, i_, i_, o_, o_, o_, o_] rfl rfl (any_of HT_.out (by kernel_rfl)) (fun _ _ _ h => h) (Or.inl ⟨by rfl, ?_⟩) ?_ ?_; rotate_left
                      ·
                       intro w'
                       go_simp
                       with_reducible rfl
                      rotate_left
                      ·
                       simp only [Act.put, y0, y1]
                       rfl
                      refine pure_ (i := 6) (N := some 215) (v := ?_) (a' := ?_) #[i_, i_, i_, o_, i_, i_, i_, o_, o_, o_] rfl rfl (any_of HT_.out (by kernel_rfl)) (fun _ _ _ h => h) (Or.inl ⟨by rfl, ?_⟩) ?_ ?_; rotate_left
                      ·
                       intro w'
                       go_simp
                       with_reducible rfl
                      rotate_left
                      ·
                       simp only [Act.put, y0, y1]
                       rfl
                      refine take_ (i := 3) (N := some 212) (v := ?_) (a' := ?_) #[i_, i_, i_, i_, i_, i_, i_, o_, o_, o_] rfl rfl (take_ofW HT_.out HW_.out (by kernel_rfl)) (fun _ _ _ h => h) (Or.inl ⟨by rfl, ?_⟩) hHeld ?_ ?_; rotate_left
                      ·
                       rintro w' ⟨s0, s1⟩
                       go_simp
                       with_reducible rfl
                      rotate_left
                      ·
                       simp only [Act.put, y0, y1]
                       rfl
                      refine take_ (i := 7) (N := some 216) (v := ?_) (a' := ?_) #[i_, i_, i_, i_, i_, i_, i_, i_, o_, o_] rfl rfl (take_ofW HT_.out HW_.out (by kernel_rfl)) (fun _ _ _ h => h) (Or.inl ⟨by rfl, ?_⟩) hHeld ?_ ?_; rotate_left
                      ·
                       rintro w' ⟨s0, s1⟩
                       go_simp
                       with_reducible rfl
                      rotate_left
                      ·
                       simp only [Act.put, y0, y1]
                       rfl
                      refine pure_ (i := 8) (N := some 217) (v := ?_) (a' := ?_) #[i_, i_, i_, i_, i_, i_, i_, i_, i_, o_] rfl rfl (any_of HT_.out (by kernel_rfl)) (fun _ _ _ h => h) (Or.inl ⟨by rfl, ?_⟩) ?_ ?_; rotate_left
                      ·
                       intro w'
                       go_simp
                       with_reducible rfl
                      rotate_left
                      ·
                       simp only [Act.put, y0, y1]
                       rfl
                      refine pure_ (i := 9) (N := some 218) (v := ?_) (a' := ?_) #[i_, i_, i_, i_, i_, i_, i_, i_, i_, i_] rfl rfl (any_of HT_.out (by kernel_rfl)) (fun _ _ _ h => h) (Or.inl ⟨by rfl, ?_⟩) ?_ ?_; rotate_left
                      ·
                       intro w'
                       go_simp
                       with_reducible rfl
                      rotate_left
                      ·
                       simp only [Act.put, y0, y1]
                       rfl
                      refine done_ (done_of HT_.out (by kernel_rfl)) ?_; (try go_wp2)
                      go_ret
                      exact ⟨by first | rfl | (simp [errW_none, errW_some] <;> rfl) | (simp only [← hji108]; first | rfl | (simp [errW_none, errW_some] <;> rfl)) | (simp [*, errW_none, errW_some] <;> rfl), by repeat (first | (with_reducible first | exact HB.out | apply y3 | refine ys ?_ GE164.out) | exact HB.out)⟩
                     as_aux_lemma =>
                     rw [if_neg c107] at H; exact absurd H (by simp)
                    as_aux_lemma =>
                    rw [if_neg c106] at H; exact absurd H (by simp)
                   as_aux_lemma =>
                   rw [if_neg c105] at H; exact absurd H (by simp)
                  as_aux_lemma =>
                  rw [if_neg c104] at H; have c104b0 : decide (x206_6 < (l0.length : Int)) = false := decide_eq_false c104; clear c104; have H' := ym H; clear H
                  go_wp2
                  go_loopg [24, 221] k6 (fun kq v24 v221 w' => ∃ (x24_7 : List Int) (x221_7 : Int), v221 = .int .i64 x221_7 ∧ Aside0 (heraldlaw10_RopeHeads.l2 kq (l2_0.length : Int) x14_3 y203 t222 x24_7 x221_7 = some r) ∧ Aside0 (kq ≤ k6) ∧ Aside0 (Kd.R (Kd.int .i8) 33 w' w.heap.size (fun k_ => some k_ ≠ (v204 : Value).ownBlock ∧ some k_ ≠ (v224 : Value).ownBlock ∧ some k_ ≠ (v24 : Value).ownBlock) (.slice Ao62 x14_3.length co62) x14_3) ∧ Aside0 (Kd.R (Kd.int .i8) 33 w' w.heap.size (fun k_ => some k_ ≠ ((.slice Ao62 x14_3.length co62) : Value).ownBlock ∧ some k_ ≠ (v224 : Value).ownBlock ∧ some k_ ≠ (v24 : Value).ownBlock) v204 y203) ∧ Aside0 (Kd.R (Kd.int .i8) 33 w' w.heap.size (fun k_ => some k_ ≠ ((.slice Ao62 x14_3.length co62) : Value).ownBlock ∧ some k_ ≠ (v204 : Value).ownBlock) v224 t222) ∧ Aside0 (Kd.R (Kd.int .i8) 33 w' w.heap.size (fun k_ => some k_ ≠ ((.slice Ao62 x14_3.length co62) : Value).ownBlock ∧ some k_ ≠ (v204 : Value).ownBlock) v24 x24_7) ∧ Aside0 (w'.heap[gb164]? = some (.cells #[(.slice A2_0 l2_0.length c2_0), (.slice A2_1 l2_1.length c2_1)] 24 (0, 0))) ∧ Aside0 (Below w.heap.size w w'))
                  case atStart => exact ⟨(t222), (0), (by first | rfl | (simp; done) | (simp [*]; done)), H', ⟨Nat.le_refl _⟩, ⟨by (try simp only [hl14_3]); (with_reducible repeat apply y2); exact Kd.R_mono HO_14.out (fun _ hk => ⟨hk.1, ⟨hk.2, hk.2⟩⟩)⟩, ⟨by (try simp only [hl14_3]); (with_reducible repeat apply y2); exact Kd.R_mono HO_16.out (fun _ hk => ⟨hk.1, ⟨hk.2, hk.2⟩⟩)⟩, ⟨by (try simp only [hl14_3]); (with_reducible repeat apply y2); exact HO_22.out⟩, ⟨by (try simp only [hl14_3]); (with_reducible repeat apply y2); exact HO_22.out⟩, ⟨by (try simp only [hl14_3]); (with_reducible repeat refine y4 ?_); exact BK164.out⟩, ⟨by repeat (first | (with_reducible first | exact HB.out | apply y3 | refine ys ?_ GE164.out) | exact HB.out)⟩⟩
                  case round =>
                   clear H'; (try clear c1); (try clear c2); (try clear p2); (try clear q2); (try clear hx2); (try clear c6); (try clear p6); (try clear q6); (try clear hx6); (try clear hf6); (try clear c7); (try clear c9); (try clear c10); (try clear c11); (try clear c14); (try clear p21); (try clear q21); (try clear hx21); (try clear p22); (try clear q22); (try clear hx22); (try clear c63); (try clear c63b0); (try clear c64); (try clear c64b0); (try clear p64); (try clear c65); (try clear c65b0); (try clear p66); (try clear q66); (try clear hx66); (try clear hf66); (try clear c67); (try clear c67b0); (try clear c68); (try clear c68b0); (try clear p69); (try clear q69); (try clear hx69); (try clear hf69); (try clear c70); (try clear c90); (try clear c90b0); (try clear c90b1); (try clear c91); (try clear c91b0); (try clear c91b1); (try clear c92); (try clear c96); (try clear c101); (try clear c101b0); (try clear c101b1); (try clear c103); (try clear c104); (try clear c104b0); (try clear c105); (try clear c105b0); (try clear c106); (try clear c106b0); (try clear c107); (try clear c107b0); (try clear c109); (try clear c109b0); (try clear c109b1); (try clear hcz73_0); (try clear hcz73_1); (try clear hcz76_0); (try clear hcz76_1); (try clear hcz79_0); (try clear hcz79_1); (try clear hcz85_0); (try clear hcz85_1); (try clear hcz87_0); (try clear hcz87_1); (try clear hfz73_0); (try clear hfz73_1); (try clear hfz76_0); (try clear hfz76_1); (try clear hfz79_0); (try clear hfz79_1); (try clear hfz85_0); (try clear hfz85_1); (try clear hfz87_0); (try clear hfz87_1); (try clear hx210_0); (try clear hx212_0); (try clear hx226_0); (try clear hx227_0); (try clear hx66_0); (try clear hx69_0); (try clear p2); (try clear p21); (try clear p210); (try clear p212); (try clear p226); (try clear p227); (try clear p6); (try clear p64); (try clear p66); (try clear p69); (try clear q2); (try clear q21); (try clear q210); (try clear q212); (try clear q226); (try clear q227); (try clear q6); (try clear q66); (try clear q69); obtain ⟨x24_7, x221_7, rfl, HA, HK7, HO_14, HO_16, HO_22, HO_24, BK164, HB⟩ := hrel
                   cases gk with
                   | zero => exact absurd HA.out (by simp [heraldlaw10_RopeHeads.l2])
                   | succ k7 =>
                    have H := HA.out; clear HA; simp only [heraldlaw10_RopeHeads.l2] at H; by_cases c114 : x221_7 < 4
                    ·
                     as_aux_lemma =>
                     rw [if_pos c114] at H; have c114b0 : decide (x221_7 < 4) = true := decide_eq_true c114; clear c114; replace H := Option.bind_eq_some_iff.mp H; obtain ⟨⟨t229, t230⟩, A1150, H⟩ := H; replace H : (if t230 = 0 then (j7 k7 (l2_0.length : Int) x14_3 y203 t222 x24_7 t229 x221_7 ((t229.length : Int) != (x24_7.length : Int))) else (j7 k7 (l2_0.length : Int) x14_3 y203 t222 x24_7 t229 x221_7 true)) = some r := H; have A115 := ym A1150; clear A1150; have HC116 := ym H; clear H; obtain ⟨Ao117, co117, eo117⟩ := Kd.R_slice HO_24.out; subst eo117; obtain ⟨Ao118, co118, eo118⟩ := Kd.R_slice HO_16.out; subst eo118
                     go_upto_region 37 with (first | ((with_reducible refine gate_callee (f := 11) rfl ?_); refine goesL_ (some 229) rfl rfl Tryd.func11 (by kernel_rfl) rfl #[.slice Ao117 x24_7.length co117, .int .i64 (wrap64 (2 * (l2_0.length : Int))), .slice Ao118 y203.length co118, .slice Ao62 x14_3.length co62] rfl (by (try simp only [List.map_toArray, List.map_cons, List.map_nil]); first | done | rfl | (simp only [List.length_drop, List.length_take]; rfl)) ?_; (with_reducible refine (rope_Turn.calls k7 _ _ x24_7 (wrap64 (2 * (l2_0.length : Int))) _ _ y203 _ _ x14_3 t229 t230 _ ?side1 ?side2 ?side3 ?side4 ?side5 ?side6 A115.out).mono ?_); (case side1 => repeat (first | exact (Kd.R_reads' HO_24.out).2.2 | (with_reducible refine yi ?_ _) | (with_reducible refine yj ?_ _) | (with_reducible refine yk ?_))); (case side2 => exact (Kd.R_reads' HO_24.out).2.1); (case side3 => repeat (first | exact (Kd.R_reads' HO_16.out).2.2 | (with_reducible refine yi ?_ _) | (with_reducible refine yj ?_ _) | (with_reducible refine yk ?_))); (case side4 => exact (Kd.R_reads' HO_16.out).2.1); (case side5 => repeat (first | exact (Kd.R_reads' HO_14.out).2.2 | (with_reducible refine yi ?_ _) | (with_reducible refine yj ?_ _) | (with_reducible refine yk ?_))); (case side6 => exact (Kd.R_reads' HO_14.out).2.1); rintro e w119 ⟨v231, rfl, ho0, hb⟩; refine ⟨_, rfl, ?_⟩; have n0_ := ym (Kd.R_elder' (by (with_reducible repeat apply y2); exact HO_14.out) (Kd.R_base ho0) hb); have n1_ := ym (Kd.R_elder' (by (with_reducible repeat apply y2); exact HO_16.out) (Kd.R_base ho0) hb); have n2_ := ym (Kd.R_elder' (by (with_reducible repeat apply y2); exact HO_22.out) (Kd.R_base ho0) hb); have n3_ := ym (Kd.R_elder' (by (with_reducible repeat apply y2); exact HO_24.out) (Kd.R_base ho0) hb); have n4_ := ym (yo (Kd.R_new' (Kd.R_new' (Kd.R_new' (Kd.R_new' ho0 (Kd.R_lt (by (with_reducible repeat apply y2); exact HO_14.out))) (Kd.R_lt (by (with_reducible repeat apply y2); exact HO_16.out))) (Kd.R_lt (by (with_reducible repeat apply y2); exact HO_22.out))) (Kd.R_lt (by (with_reducible repeat apply y2); exact HO_24.out))) (below_size (by repeat (first | (with_reducible first | exact HB.out | apply y3 | refine ys ?_ GE164.out) | exact HB.out)))); have n5_ := ym (yq (g := gb164) (o := .cells #[.slice A2_0 l2_0.length c2_0, .slice A2_1 l2_1.length c2_1] 24 (0, 0)) (by (with_reducible repeat refine y4 ?_); exact BK164.out) hb); have n6_ := ym (yn (by repeat (first | (with_reducible first | exact HB.out | apply y3 | refine ys ?_ GE164.out) | exact HB.out)) hb); clear HO_14; clear HO_16; clear HO_22; clear HO_24; clear BK164; clear HB; have HO_14 := n0_; have HO_16 := n1_; have HO_22 := n2_; have HO_24 := n3_; have HO232 := n4_; have BK164 := n5_; have HB := n6_; clear n0_ n1_ n2_ n3_ n4_ n5_ n6_; (try clear hb); (try clear hb2); (try clear hk); (try clear hi); (try clear ho0)))
                     (try simp only [Act.put, y0])
                     go_cut [240] (fun v240 wc => ∃ (kq : Nat) (x240_115 : Bool), v240 = .bool x240_115 ∧ Aside0 (j7 kq (l2_0.length : Int) x14_3 y203 t222 x24_7 t229 x221_7 x240_115 = some r) ∧ Aside0 (kq ≤ k7) ∧ Aside0 (Kd.R (Kd.int .i8) 33 wc w.heap.size (fun k_ => some k_ ≠ ((.slice Ao118 y203.length co118) : Value).ownBlock ∧ some k_ ≠ (v224 : Value).ownBlock ∧ some k_ ≠ ((.slice Ao117 x24_7.length co117) : Value).ownBlock ∧ some k_ ≠ (v231 : Value).ownBlock) (.slice Ao62 x14_3.length co62) x14_3) ∧ Aside0 (Kd.R (Kd.int .i8) 33 wc w.heap.size (fun k_ => some k_ ≠ ((.slice Ao62 x14_3.length co62) : Value).ownBlock ∧ some k_ ≠ (v224 : Value).ownBlock ∧ some k_ ≠ ((.slice Ao117 x24_7.length co117) : Value).ownBlock ∧ some k_ ≠ (v231 : Value).ownBlock) (.slice Ao118 y203.length co118) y203) ∧ Aside0 (Kd.R (Kd.int .i8) 33 wc w.heap.size (fun k_ => some k_ ≠ ((.slice Ao62 x14_3.length co62) : Value).ownBlock ∧ some k_ ≠ ((.slice Ao118 y203.length co118) : Value).ownBlock ∧ some k_ ≠ (v231 : Value).ownBlock) v224 t222) ∧ Aside0 (Kd.R (Kd.int .i8) 33 wc w.heap.size (fun k_ => some k_ ≠ ((.slice Ao62 x14_3.length co62) : Value).ownBlock ∧ some k_ ≠ ((.slice Ao118 y203.length co118) : Value).ownBlock ∧ some k_ ≠ (v231 : Value).ownBlock) (.slice Ao117 x24_7.length co117) x24_7) ∧ Aside0 (Kd.R (Kd.int .i8) 33 wc w.heap.size (fun k_ => some k_ ≠ ((.slice Ao62 x14_3.length co62) : Value).ownBlock ∧ some k_ ≠ ((.slice Ao118 y203.length co118) : Value).ownBlock ∧ some k_ ≠ (v224 : Value).ownBlock ∧ some k_ ≠ ((.slice Ao117 x24_7.length co117) : Value).ownBlock) v231 t229) ∧ Aside0 (wc.heap[gb164]? = some (.cells #[(.slice A2_0 l2_0.length c2_0), (.slice A2_1 l2_1.length c2_1)] 24 (0, 0))) ∧ Aside0 (Below w.heap.size w wc))
                     case first =>
                      have H := HC116.out; clear HC116; by_cases c120 : t230 = 0
                      ·
                       as_aux_lemma =>
                       rw [if_pos c120] at H; have c120b0 : (t230 == 0) = true := beq_iff_eq.mpr c120; have c120b1 : (t230 != 0) = false := bne_eq_false_iff_eq.mpr c120; clear c120
                       (first | rw [c120b0] | (simp only [i64_w, i32_w]; rw [c120b0]) | skip)
                       have H' := ym H; clear H; obtain ⟨Ao121, co121, eo121⟩ := Kd.R_slice HO232.out; subst eo121
                       go_wp2
                       go_meet
                       case rel => exact ⟨_, (((t229.length : Int) != (x24_7.length : Int))), (by first | rfl | (simp; done) | (simp [*]; done)), H', ⟨by have := HJ5.out; have := HJ22.out; have := HK3.out; have := HJ83.out; have := HJ97.out; have := HK6.out; have := HK7.out; first | omega | exact Nat.le_refl _⟩, ⟨by (try simp only [hl14_3]); (with_reducible repeat apply y2); exact Kd.R_mono HO_14.out (fun _ hk => ⟨hk.1.1, ⟨hk.1.2.1, ⟨hk.1.2.2, hk.2⟩⟩⟩)⟩, ⟨by (try simp only [hl14_3]); (with_reducible repeat apply y2); exact Kd.R_mono HO_16.out (fun _ hk => ⟨hk.1.1, ⟨hk.1.2.1, ⟨hk.1.2.2, hk.2⟩⟩⟩)⟩, ⟨by (try simp only [hl14_3]); (with_reducible repeat apply y2); exact Kd.R_mono HO_22.out (fun _ hk => ⟨hk.1.1, ⟨hk.1.2, hk.2⟩⟩)⟩, ⟨by (try simp only [hl14_3]); (with_reducible repeat apply y2); exact Kd.R_mono HO_24.out (fun _ hk => ⟨hk.1.1, ⟨hk.1.2, hk.2⟩⟩)⟩, ⟨by (try simp only [hl14_3]); (with_reducible repeat apply y2); exact Kd.R_mono HO232.out (fun _ hk => ⟨hk.1.1.1.2, ⟨hk.1.1.2, ⟨hk.1.2, hk.2⟩⟩⟩)⟩, ⟨by (try simp only [hl14_3]); (with_reducible repeat refine y4 ?_); exact BK164.out⟩, ⟨by repeat (first | (with_reducible first | exact HB.out | apply y3 | refine ys ?_ GE164.out) | exact HB.out)⟩⟩
                      as_aux_lemma =>
                      rw [if_neg c120] at H; have c120b0 : (t230 == 0) = false := beq_eq_false_iff_ne.mpr c120; have c120b1 : (t230 != 0) = true := bne_iff_ne.mpr c120
                      (first | rw [c120b0] | (simp only [i64_w, i32_w]; rw [c120b0]) | skip)
                      have H' := ym H; clear H
                      go_wp2
                      go_meet
                      case rel => exact ⟨_, (true), (by first | rfl | (simp; done) | (simp [*]; done)), H', ⟨by have := HJ5.out; have := HJ22.out; have := HK3.out; have := HJ83.out; have := HJ97.out; have := HK6.out; have := HK7.out; first | omega | exact Nat.le_refl _⟩, ⟨by (try simp only [hl14_3]); (with_reducible repeat apply y2); exact Kd.R_mono HO_14.out (fun _ hk => ⟨hk.1.1, ⟨hk.1.2.1, ⟨hk.1.2.2, hk.2⟩⟩⟩)⟩, ⟨by (try simp only [hl14_3]); (with_reducible repeat apply y2); exact Kd.R_mono HO_16.out (fun _ hk => ⟨hk.1.1, ⟨hk.1.2.1, ⟨hk.1.2.2, hk.2⟩⟩⟩)⟩, ⟨by (try simp only [hl14_3]); (with_reducible repeat apply y2); exact Kd.R_mono HO_22.out (fun _ hk => ⟨hk.1.1, ⟨hk.1.2, hk.2⟩⟩)⟩, ⟨by (try simp only [hl14_3]); (with_reducible repeat apply y2); exact Kd.R_mono HO_24.out (fun _ hk => ⟨hk.1.1, ⟨hk.1.2, hk.2⟩⟩)⟩, ⟨by (try simp only [hl14_3]); (with_reducible repeat apply y2); exact Kd.R_mono HO232.out (fun _ hk => ⟨hk.1.1.1.2, ⟨hk.1.1.2, ⟨hk.1.2, hk.2⟩⟩⟩)⟩, ⟨by (try simp only [hl14_3]); (with_reducible repeat refine y4 ?_); exact BK164.out⟩, ⟨by repeat (first | (with_reducible first | exact HB.out | apply y3 | refine ys ?_ GE164.out) | exact HB.out)⟩⟩
                     case rest =>
                      clear HC116; (try clear c1); (try clear c2); (try clear p2); (try clear q2); (try clear hx2); (try clear c6); (try clear p6); (try clear q6); (try clear hx6); (try clear hf6); (try clear c7); (try clear c9); (try clear c10); (try clear c11); (try clear c12); (try clear c14); (try clear p21); (try clear q21); (try clear hx21); (try clear p22); (try clear q22); (try clear hx22); (try clear c63); (try clear c63b0); (try clear c64); (try clear c64b0); (try clear p64); (try clear c65); (try clear c65b0); (try clear p66); (try clear q66); (try clear hx66); (try clear hf66); (try clear c67); (try clear c67b0); (try clear c68); (try clear c68b0); (try clear p69); (try clear q69); (try clear hx69); (try clear hf69); (try clear c70); (try clear c90); (try clear c90b0); (try clear c90b1); (try clear c91); (try clear c91b0); (try clear c91b1); (try clear c92); (try clear c96); (try clear c101); (try clear c101b0); (try clear c101b1); (try clear c103); (try clear c104); (try clear c104b0); (try clear c105); (try clear c105b0); (try clear c106); (try clear c106b0); (try clear c107); (try clear c107b0); (try clear c109); (try clear c109b0); (try clear c109b1); (try clear c114); (try clear c114b0); (try clear c120); (try clear c120b0); (try clear c120b1); (try clear hcz73_0); (try clear hcz73_1); (try clear hcz76_0); (try clear hcz76_1); (try clear hcz79_0); (try clear hcz79_1); (try clear hcz85_0); (try clear hcz85_1); (try clear hcz87_0); (try clear hcz87_1); (try clear hfz73_0); (try clear hfz73_1); (try clear hfz76_0); (try clear hfz76_1); (try clear hfz79_0); (try clear hfz79_1); (try clear hfz85_0); (try clear hfz85_1); (try clear hfz87_0); (try clear hfz87_1); (try clear hx210_0); (try clear hx212_0); (try clear hx226_0); (try clear hx227_0); (try clear hx66_0); (try clear hx69_0); (try clear p2); (try clear p21); (try clear p210); (try clear p212); (try clear p22); (try clear p226); (try clear p227); (try clear p6); (try clear p64); (try clear p66); (try clear p69); (try clear q2); (try clear q21); (try clear q210); (try clear q212); (try clear q22); (try clear q226); (try clear q227); (try clear q6); (try clear q66); (try clear q69); obtain ⟨kq, x240_115, rfl, HA, HJ115, HO_14, HO_16, HO_22, HO_24, HO_25, BK164, HB⟩ := hcut
                      cases kq with
                      | zero => exact absurd HA.out (by simp [j7])
                      | succ kj115 =>
                       have H := HA.out; clear HA; simp only [j7] at H; by_cases c122 : x240_115 = true
                       ·
                        as_aux_lemma =>
                        subst c122; (have H1 : (some false) = some r := by rw [if_pos rfl] at H; exact H); clear H; have H := H1; clear H1; obtain rfl := Option.some.inj H
                        go_wp2
                        go_ret
                        exact ⟨by first | rfl | (simp [errW_none, errW_some] <;> rfl) | (simp [*, errW_none, errW_some] <;> rfl), by repeat (first | (with_reducible first | exact HB.out | apply y3 | refine ys ?_ GE164.out) | exact HB.out)⟩
                       as_aux_lemma =>
                       replace c122 := Bool.eq_false_iff.mpr c122; subst c122; (have H1 : (heraldlaw10_RopeHeads.l3 kj115 (l2_0.length : Int) x14_3 y203 t222 x24_7 t229 0 x221_7) = some r := by rw [if_neg (show ¬ (false = true) by decide)] at H; exact H); clear H; have H := H1; clear H1; have H' := ym H; clear H
                       go_wp2
                       go_loopg [27] kj115 (fun kq v27 w' => ∃ (x27_9 : Int), v27 = .int .i64 x27_9 ∧ Aside0 (heraldlaw10_RopeHeads.l3 kq (l2_0.length : Int) x14_3 y203 t222 x24_7 t229 x27_9 x221_7 = some r) ∧ Aside0 (kq ≤ kj115) ∧ Aside0 (Kd.R (Kd.int .i8) 33 w' w.heap.size (fun k_ => some k_ ≠ ((.slice Ao118 y203.length co118) : Value).ownBlock ∧ some k_ ≠ (v224 : Value).ownBlock ∧ some k_ ≠ ((.slice Ao117 x24_7.length co117) : Value).ownBlock ∧ some k_ ≠ (v231 : Value).ownBlock) (.slice Ao62 x14_3.length co62) x14_3) ∧ Aside0 (Kd.R (Kd.int .i8) 33 w' w.heap.size (fun k_ => some k_ ≠ ((.slice Ao62 x14_3.length co62) : Value).ownBlock ∧ some k_ ≠ (v224 : Value).ownBlock ∧ some k_ ≠ ((.slice Ao117 x24_7.length co117) : Value).ownBlock ∧ some k_ ≠ (v231 : Value).ownBlock) (.slice Ao118 y203.length co118) y203) ∧ Aside0 (Kd.R (Kd.int .i8) 33 w' w.heap.size (fun k_ => some k_ ≠ ((.slice Ao62 x14_3.length co62) : Value).ownBlock ∧ some k_ ≠ ((.slice Ao118 y203.length co118) : Value).ownBlock ∧ some k_ ≠ (v231 : Value).ownBlock) v224 t222) ∧ Aside0 (Kd.R (Kd.int .i8) 33 w' w.heap.size (fun k_ => some k_ ≠ ((.slice Ao62 x14_3.length co62) : Value).ownBlock ∧ some k_ ≠ ((.slice Ao118 y203.length co118) : Value).ownBlock ∧ some k_ ≠ (v231 : Value).ownBlock) (.slice Ao117 x24_7.length co117) x24_7) ∧ Aside0 (Kd.R (Kd.int .i8) 33 w' w.heap.size (fun k_ => some k_ ≠ ((.slice Ao62 x14_3.length co62) : Value).ownBlock ∧ some k_ ≠ ((.slice Ao118 y203.length co118) : Value).ownBlock ∧ some k_ ≠ (v224 : Value).ownBlock ∧ some k_ ≠ ((.slice Ao117 x24_7.length co117) : Value).ownBlock) v231 t229) ∧ Aside0 (w'.heap[gb164]? = some (.cells #[(.slice A2_0 l2_0.length c2_0), (.slice A2_1 l2_1.length c2_1)] 24 (0, 0))) ∧ Aside0 (Below w.heap.size w w'))
                       case atStart => exact ⟨(0), (by first | rfl | (simp; done) | (simp [*]; done)), H', ⟨Nat.le_refl _⟩, ⟨by (try simp only [hl14_3]); (with_reducible repeat apply y2); exact HO_14.out⟩, ⟨by (try simp only [hl14_3]); (with_reducible repeat apply y2); exact HO_16.out⟩, ⟨by (try simp only [hl14_3]); (with_reducible repeat apply y2); exact HO_22.out⟩, ⟨by (try simp only [hl14_3]); (with_reducible repeat apply y2); exact HO_24.out⟩, ⟨by (try simp only [hl14_3]); (with_reducible repeat apply y2); exact HO_25.out⟩, ⟨by (try simp only [hl14_3]); (with_reducible repeat refine y4 ?_); exact BK164.out⟩, ⟨by repeat (first | (with_reducible first | exact HB.out | apply y3 | refine ys ?_ GE164.out) | exact HB.out)⟩⟩
                       case round =>
                        clear H'; (try clear c1); (try clear c2); (try clear p2); (try clear q2); (try clear hx2); (try clear c6); (try clear p6); (try clear q6); (try clear hx6); (try clear hf6); (try clear c7); (try clear c9); (try clear c10); (try clear c11); (try clear c12); (try clear c14); (try clear p21); (try clear q21); (try clear hx21); (try clear p22); (try clear q22); (try clear hx22); (try clear c63); (try clear c63b0); (try clear c64); (try clear c64b0); (try clear p64); (try clear c65); (try clear c65b0); (try clear p66); (try clear q66); (try clear hx66); (try clear hf66); (try clear c67); (try clear c67b0); (try clear c68); (try clear c68b0); (try clear p69); (try clear q69); (try clear hx69); (try clear hf69); (try clear c70); (try clear c90); (try clear c90b0); (try clear c90b1); (try clear c91); (try clear c91b0); (try clear c91b1); (try clear c92); (try clear c96); (try clear c101); (try clear c101b0); (try clear c101b1); (try clear c103); (try clear c104); (try clear c104b0); (try clear c105); (try clear c105b0); (try clear c106); (try clear c106b0); (try clear c107); (try clear c107b0); (try clear c109); (try clear c109b0); (try clear c109b1); (try clear c114); (try clear c114b0); (try clear c120); (try clear c120b0); (try clear c120b1); (try clear c122); (try clear hcz73_0); (try clear hcz73_1); (try clear hcz76_0); (try clear hcz76_1); (try clear hcz79_0); (try clear hcz79_1); (try clear hcz85_0); (try clear hcz85_1); (try clear hcz87_0); (try clear hcz87_1); (try clear hfz73_0); (try clear hfz73_1); (try clear hfz76_0); (try clear hfz76_1); (try clear hfz79_0); (try clear hfz79_1); (try clear hfz85_0); (try clear hfz85_1); (try clear hfz87_0); (try clear hfz87_1); (try clear hx210_0); (try clear hx212_0); (try clear hx226_0); (try clear hx227_0); (try clear hx66_0); (try clear hx69_0); (try clear p2); (try clear p21); (try clear p210); (try clear p212); (try clear p22); (try clear p226); (try clear p227); (try clear p6); (try clear p64); (try clear p66); (try clear p69); (try clear q2); (try clear q21); (try clear q210); (try clear q212); (try clear q22); (try clear q226); (try clear q227); (try clear q6); (try clear q66); (try clear q69); obtain ⟨x27_9, rfl, HA, HK9, HO_14, HO_16, HO_22, HO_24, HO_25, BK164, HB⟩ := hrel
                        cases gk with
                        | zero => exact absurd HA.out (by simp [heraldlaw10_RopeHeads.l3])
                        | succ k9 =>
                         have H := HA.out; clear HA; simp only [heraldlaw10_RopeHeads.l3] at H; by_cases c123 : (wrap64 (x27_9 + 1)) < (t229.length : Int)
                         ·
                          as_aux_lemma =>
                          rw [if_pos c123] at H; have c123b0 : decide ((wrap64 (x27_9 + 1)) < (t229.length : Int)) = true := decide_eq_true c123; clear c123; by_cases c124 : 0 ≤ x27_9
                          ·
                           as_aux_lemma =>
                           rw [if_pos c124] at H; have c124b0 : decide (0 ≤ x27_9) = true := decide_eq_true c124; clear c124; by_cases c125 : x27_9 < (t229.length : Int)
                           ·
                            as_aux_lemma =>
                            rw [if_pos c125] at H; have c125b0 : decide (x27_9 < (t229.length : Int)) = true := decide_eq_true c125; clear c125; obtain ⟨ji126, hji126⟩ : ∃ j_ : Int, (wrap64 (x27_9 + 1)) = j_ := ⟨_, rfl⟩; (replace H : (if 0 ≤ (ji126) then (if (ji126) < (x24_7.length : Int) then (if (rd t229 x27_9) = (IntKind.i8.wrap (-(rd x24_7 (ji126)))) then (if x27_9 < (x24_7.length : Int) then (if (rd t229 (ji126)) = (rd x24_7 x27_9) then (heraldlaw10_RopeHeads.l3 k9 (l2_0.length : Int) x14_3 y203 t222 x24_7 t229 (wrap64 (x27_9 + 2)) x221_7) else (some false)) else (none)) else (some false)) else (none)) else (none)) = some r := by first | (rw [hji126] at H; exact H) | (simp only [hji126] at H ⊢; exact H)); (try rw [hji126] at c123b0); have hji126w : (IntKind.i64.wrap (x27_9 + 1)) = ji126 := (i64_w _).trans hji126; by_cases c127 : 0 ≤ (ji126)
                            ·
                             as_aux_lemma =>
                             rw [if_pos c127] at H; have c127b0 : decide (0 ≤ (ji126)) = true := decide_eq_true c127; clear c127; by_cases c128 : (ji126) < (x24_7.length : Int)
                             ·
                              as_aux_lemma =>
                              rw [if_pos c128] at H; have c128b0 : decide ((ji126) < (x24_7.length : Int)) = true := decide_eq_true c128; clear c128; by_cases c129 : (rd t229 x27_9) = (IntKind.i8.wrap (-(rd x24_7 (ji126))))
                              ·
                               as_aux_lemma =>
                               rw [if_pos c129] at H; have c129b0 : ((rd t229 x27_9) == (IntKind.i8.wrap (-(rd x24_7 (ji126))))) = true := beq_iff_eq.mpr c129; have c129b1 : ((rd t229 x27_9) != (IntKind.i8.wrap (-(rd x24_7 (ji126))))) = false := bne_eq_false_iff_eq.mpr c129; clear c129; by_cases c130 : x27_9 < (x24_7.length : Int)
                               ·
                                as_aux_lemma =>
                                rw [if_pos c130] at H; have c130b0 : decide (x27_9 < (x24_7.length : Int)) = true := decide_eq_true c130; clear c130; by_cases c131 : (rd t229 (ji126)) = (rd x24_7 x27_9)
                                ·
                                 as_aux_lemma =>
                                 rw [if_pos c131] at H; have c131b0 : ((rd t229 (ji126)) == (rd x24_7 x27_9)) = true := beq_iff_eq.mpr c131; have c131b1 : ((rd t229 (ji126)) != (rd x24_7 x27_9)) = false := bne_eq_false_iff_eq.mpr c131; clear c131; have H' := ym H; clear H; obtain ⟨Ao132, co132, eo132⟩ := Kd.R_slice HO_25.out; subst eo132; (try go_wp2); have n0_ := ym (yh HO_14.out); have n1_ := ym (yh HO_16.out); have n2_ := ym (yh HO_22.out); have n3_ := ym (yh HO_24.out); have n4_ := ym (yh HO_25.out); have n5_ := ym (yt BK164.out); have n6_ := ym (ye HB.out); clear HO_14; clear HO_16; clear HO_22; clear HO_24; clear HO_25; clear BK164; clear HB; have HO_14 := n0_; have HO_16 := n1_; have HO_22 := n2_; have HO_24 := n3_; have HO_25 := n4_; have BK164 := n5_; have HB := n6_; clear n0_ n1_ n2_ n3_ n4_ n5_ n6_; have p233 : 0 ≤ (x27_9 : Int) := of_decide_eq_true (by first | (with_reducible assumption) | assumption); have q233 : x27_9 < (t229.length : Int) := of_decide_eq_true (by first | (with_reducible assumption) | assumption); obtain ⟨ad233, e233, hx233_0⟩ := Kd.at_int (Kd.R_reads' HO_25.out).2.2 x27_9 p233 q233
                                 cases e233
                                 replace p233 := eq_true p233; replace q233 := eq_true q233; have p234 : 0 ≤ ((ji126) : Int) := of_decide_eq_true (by first | (with_reducible assumption) | assumption); have q234 : (ji126) < (x24_7.length : Int) := of_decide_eq_true (by first | (with_reducible assumption) | assumption); obtain ⟨ad234, e234, hx234_0⟩ := Kd.at_int (Kd.R_reads' HO_24.out).2.2 (ji126) p234 q234
                                 cases e234
                                 replace p234 := eq_true p234; replace q234 := eq_true q234; have p235 : 0 ≤ ((ji126) : Int) := of_decide_eq_true (by first | (with_reducible assumption) | assumption); have q235 : (ji126) < (t229.length : Int) := of_decide_eq_true (by first | (with_reducible assumption) | assumption); obtain ⟨ad235, e235, hx235_0⟩ := Kd.at_int (Kd.R_reads' HO_25.out).2.2 (ji126) p235 q235; obtain rfl : ad233 = ad235 := (by injection e235); replace p235 := eq_true p235; replace q235 := eq_true q235; have p236 : 0 ≤ (x27_9 : Int) := of_decide_eq_true (by first | (with_reducible assumption) | assumption); have q236 : x27_9 < (x24_7.length : Int) := of_decide_eq_true (by first | (with_reducible assumption) | assumption); obtain ⟨ad236, e236, hx236_0⟩ := Kd.at_int (Kd.R_reads' HO_24.out).2.2 x27_9 p236 q236; obtain rfl : ad234 = ad236 := (by injection e236); replace p236 := eq_true p236; replace q236 := eq_true q236; refine start_ (n := 23) (S := fun w' => w'.cell? (ad233.add (x27_9).toNat) = some (.int .i8 (rd t229 x27_9)) ∧ w'.cell? (ad234.add ((ji126)).toNat) = some (.int .i8 (rd x24_7 (ji126))) ∧ w'.cell? (ad233.add ((ji126)).toNat) = some (.int .i8 (rd t229 (ji126))) ∧ w'.cell? (ad234.add (x27_9).toNat) = some (.int .i8 (rd x24_7 x27_9))) (ds := []) #[o_, o_, o_, o_, o_, o_, o_, o_, o_, o_, o_, o_, o_, o_, o_, o_, o_, o_, o_, o_, o_, o_, o_] (by kernel_rfl) rfl rfl ⟨hx233_0, hx234_0, hx235_0, hx236_0⟩ (fun hHeld => ?_); refine with_tabW heraldlaw10_RopeHeads.tab42 heraldlaw10_RopeHeads.bits42 (fun HT_ HW_ => ?_); generalize wr.drew = w133 at HO_14 HO_16 HO_22 HO_24 HO_25 BK164 HB hx233_0 hx234_0 hx235_0 hx236_0 hHeld ⊢; refine pure_ (i := 0) (N := some 248) (v := ?_) (a' := ?_) #[i_, o_, o_, o_, o_, o_, o_, o_, o_, o_, o_, o_, o_, o_, o_, o_, o_, o_, o_, o_, o_, o_, o_] rfl rfl (any_of HT_.out (by kernel_rfl)) (fun _ _ _ h => h) (Or.inl ⟨by rfl, ?_⟩) ?_ ?_; rotate_left
                                 ·
                                  intro w'
                                  go_simp
                                  with_reducible rfl
                                 rotate_left
                                 ·
                                  simp only [Act.put, y0, y1]
                                  rfl
                                 refine pure_ (i := 1) (N := some 249) (v := ?_) (a' := ?_) #[i_, i_, o_, o_, o_, o_, o_, o_, o_, o_, o_, o_, o_, o_, o_, o_, o_, o_, o_, o_, o_, o_, o_] rfl rfl (any_of HT_.out (by kernel_rfl)) (fun _ _ _ h => h) (Or.inl ⟨by rfl, ?_⟩) ?_ ?_; rotate_left
                                 ·
                                  intro w'
                                  go_simp
                                  with_reducible rfl
                                 rotate_left
                                 ·
                                  simp only [Act.put, y0, y1]
                                  rfl
                                 refine pure_ (i := 2) (N := some 250) (v := ?_) (a' := ?_) #[i_, i_, i_, o_, o_, o_, o_, o_, o_, o_, o_, o_, o_, o_, o_, o_, o_, o_, o_, o_, o_, o_, o_] rfl rfl (any_of HT_.out (by kernel_rfl)) (fun _ _ _ h => h) (Or.inl ⟨by rfl, ?_⟩) ?_ ?_; rotate_left
                                 ·
                                  intro w'
                                  go_simp
                                  with_reducible rfl
                                 rotate_left
                                 ·
                                  simp only [Act.put, y0, y1]
                                  rfl
                                 refine pure_ (i := 4) (N := some 252) (v := ?_) (a' := ?_) #[i_, i_, i_, o_, i_, o_, o_, o_, o_, o_, o_, o_, o_, o_, o_, o_, o_, o_, o_, o_, o_, o_, o_] rfl rfl (any_of HT_.out (by kernel_rfl)) (fun _ _ _ h => h) (Or.inl ⟨by rfl, ?_⟩) ?_ ?_; rotate_left
                                 ·
                                  intro w'
                                  go_simp
                                  with_reducible rfl
                                 rotate_left
                                 ·
                                  simp only [Act.put, y0, y1]
                                  rfl
                                 refine pure_ (i := 5) (N := some 253) (v := ?_) (a' := ?_) #[i_, i_, i_, o_, i_, i_, o_, o_, o_, o_, o_, o_, o_, o_, o_, o_, o_, o_, o_, o_, o_, o_, o_] rfl rfl (any_of HT_.out (by kernel_rfl)) (fun _ _ _ h => h) (Or.inl ⟨by rfl, ?_⟩) ?_ ?_; rotate_left
                                 ·
                                  intro w'
                                  go_simp
                                  with_reducible rfl
                                 rotate_left
                                 ·
                                  simp only [Act.put, y0, y1]
                                  rfl
                                 refine pure_ (i := 6) (N := some 254) (v := ?_) (a' := ?_) #[i_, i_, i_, o_, i_, i_, i_, o_, o_, o_, o_, o_, o_, o_, o_, o_, o_, o_, o_, o_, o_, o_, o_] rfl rfl (any_of HT_.out (by kernel_rfl)) (fun _ _ _ h => h) (Or.inl ⟨by rfl, ?_⟩) ?_ ?_; rotate_left
                                 ·
                                  intro w'
                                  go_simp
                                  with_reducible rfl
                                 rotate_left
                                 ·
                                  simp only [Act.put, y0, y1]
                                  rfl
                                 refine pure_ (i := 7) (N := some 255) (v := ?_) (a' := ?_) #[i_, i_, i_, o_, i_, i_, i_, i_, o_, o_, o_, o_, o_, o_, o_, o_, o_, o_, o_, o_, o_, o_, o_] rfl rfl (any_of HT_.out (by kernel_rfl)) (fun _ _ _ h => h) (Or.inl ⟨by rfl, ?_⟩) ?_ ?_; rotate_left
                                 ·
                                  intro w'
                                  go_simp
                                  with_reducible rfl
                                 rotate_left
                                 ·
                                  simp only [Act.put, y0, y1]
                                  rfl
                                 refine take_ (i := 3) (N := some 251) (v := ?_) (a' := ?_) #[i_, i_, i_, i_, i_, i_, i_, i_, o_, o_, o_, o_, o_, o_, o_, o_, o_, o_, o_, o_, o_, o_, o_] rfl rfl (take_ofW HT_.out HW_.out (by kernel_rfl)) (fun _ _ _ h => h) (Or.inl ⟨by rfl, ?_⟩) hHeld ?_ ?_; rotate_left
                                 ·
                                  rintro w' ⟨s0, s1, s2, s3⟩
                                  go_simp
                                  with_reducible rfl
                                 rotate_left
                                 ·
                                  simp only [Act.put, y0, y1]
                                  rfl
                                 refine take_ (i := 8) (N := some 256) (v := ?_) (a' := ?_) #[i_, i_, i_, i_, i_, i_, i_, i_, i_, o_, o_, o_, o_, o_, o_, o_, o_, o_, o_, o_, o_, o_, o_] rfl rfl (take_ofW HT_.out HW_.out (by kernel_rfl)) (fun _ _ _ h => h) (Or.inl ⟨by rfl, ?_⟩) hHeld ?_ ?_; rotate_left
                                 ·
                                  rintro w' ⟨s0, s1, s2, s3⟩
                                  go_simp
                                  with_reducible rfl
                                 rotate_left
                                 ·
                                  simp only [Act.put, y0, y1]
                                  rfl
                                 refine pure_ (i := 9) (N := some 257) (v := ?_) (a' := ?_) #[i_, i_, i_, i_, i_, i_, i_, i_, i_, i_, o_, o_, o_, o_, o_, o_, o_, o_, o_, o_, o_, o_, o_] rfl rfl (any_of HT_.out (by kernel_rfl)) (fun _ _ _ h => h) (Or.inl ⟨by rfl, ?_⟩) ?_ ?_; rotate_left
                                 ·
                                  intro w'
                                  go_simp
                                  with_reducible rfl
                                 rotate_left
                                 ·
                                  simp only [Act.put, y0, y1]
                                  rfl
                                 refine pure_ (i := 10) (N := some 258) (v := ?_) (a' := ?_) #[i_, i_, i_, i_, i_, i_, i_, i_, i_, i_, i_, o_, o_, o_, o_, o_, o_, o_, o_, o_, o_, o_, o_] rfl rfl (any_of HT_.out (by kernel_rfl)) (fun _ _ _ h => h) (Or.inl ⟨by rfl, ?_⟩) ?_ ?_; rotate_left
                                 ·
                                  intro w'
                                  go_simp
                                  with_reducible rfl
                                 rotate_left
                                 ·
                                  simp only [Act.put, y0, y1]
                                  rfl
                                 refine pure_ (i := 11) (N := some 259) (v := ?_) (a' := ?_) #[i_, i_, i_, i_, i_, i_, i_, i_, i_, i_, i_, i_, o_, o_, o_, o_, o_, o_, o_, o_, o_, o_, o_] rfl rfl (any_of HT_.out (by kernel_rfl)) (fun _ _ _ h => h) (Or.inl ⟨by rfl, ?_⟩) ?_ ?_; rotate_left
                                 ·
                                  intro w'
                                  go_simp
                                  with_reducible rfl
                                 rotate_left
                                 ·
                                  simp only [Act.put, y0, y1]
                                  rfl
                                 refine pure_ (i := 12) (N := some 260) (v := ?_) (a' := ?_) #[i_, i_, i_, i_, i_, i_, i_, i_, i_, i_, i_, i_, i_, o_, o_, o_, o_, o_, o_, o_, o_, o_, o_] rfl rfl (any_of HT_.out (by kernel_rfl)) (fun _ _ _ h => h) (Or.inl ⟨by rfl, ?_⟩) ?_ ?_; rotate_left
                                 ·
                                  intro w'
                                  go_simp
                                  with_reducible rfl
                                 rotate_left
                                 ·
                                  simp only [Act.put, y0, y1]
                                  rfl
                                 refine pure_ (i := 13) (N := some 261) (v := ?_) (a' := ?_) #[i_, i_, i_, i_, i_, i_, i_, i_, i_, i_, i_, i_, i_, i_, o_, o_, o_, o_, o_, o_, o_, o_, o_] rfl rfl (any_of HT_.out (by kernel_rfl)) (fun _ _ _ h => h) (Or.inl ⟨by rfl, ?_⟩) ?_ ?_; rotate_left
                                 ·
                                  intro w'
                                  go_simp
                                  with_reducible rfl
                                 rotate_left
                                 ·
                                  simp only [Act.put, y0, y1]
                                  rfl
                                 refine pure_ (i := 14) (N := some 262) (v := ?_) (a' := ?_) #[i_, i_, i_, i_, i_, i_, i_, i_, i_, i_, i_, i_, i_, i_, i_, o_, o_, o_, o_, o_, o_, o_, o_] rfl rfl (any_of HT_.out (by kernel_rfl)) (fun _ _ _ h => h) (Or.inl ⟨by rfl, ?_⟩) ?_ ?_; rotate_left
                                 ·
                                  intro w'
                                  go_simp
                                  with_reducible rfl
                                 rotate_left
                                 ·
                                  simp only [Act.put, y0, y1]
                                  rfl
                                 refine pure_ (i := 15) (N := some 263) (v := ?_) (a' := ?_) #[i_, i_, i_, i_, i_, i_, i_, i_, i_, i_, i_, i_, i_, i_, i_, i_, o_, o_, o_, o_, o_, o_, o_] rfl rfl (any_of HT_.out (by kernel_rfl)) (fun _ _ _ h => h) (Or.inl ⟨by rfl, ?_⟩) ?_ ?_; rotate_left
                                 ·
                                  intro w'
                                  go_simp
                                  with_reducible rfl
                                 rotate_left
                                 ·
                                  simp only [Act.put, y0, y1]
                                  rfl
                                 refine pure_ (i := 17) (N := some 265) (v := ?_) (a' := ?_) #[i_, i_, i_, i_, i_, i_, i_, i_, i_, i_, i_, i_, i_, i_, i_, i_, o_, i_, o_, o_, o_, o_, o_] rfl rfl (any_of HT_.out (by kernel_rfl)) (fun _ _ _ h => h) (Or.inl ⟨by rfl, ?_⟩) ?_ ?_; rotate_left
                                 ·
                                  intro w'
                                  go_simp
                                  with_reducible rfl
                                 rotate_left
                                 ·
                                  simp only [Act.put, y0, y1]
                                  rfl
                                 refine pure_ (i := 18) (N := some 266) (v := ?_) (a' := ?_) #[i_, i_, i_, i_, i_, i_, i_, i_, i_, i_, i_, i_, i_, i_, i_, i_, o_, i_, i_, o_, o_, o_, o_] rfl rfl (any_of HT_.out (by kernel_rfl)) (fun _ _ _ h => h) (Or.inl ⟨by rfl, ?_⟩) ?_ ?_; rotate_left
                                 ·
                                  intro w'
                                  go_simp
                                  with_reducible rfl
                                 rotate_left
                                 ·
                                  simp only [Act.put, y0, y1]
                                  rfl
                                 refine pure_ (i := 19) (N := some 267) (v := ?_) (a' := ?_) #[i_, i_, i_, i_, i_, i_, i_, i_, i_, i_, i_, i_, i_, i_, i_, i_, o_, i_, i_, i_, o_, o_, o_] rfl rfl (any_of HT_.out (by kernel_rfl)) (fun _ _ _ h => h) (Or.inl ⟨by rfl, ?_⟩) ?_ ?_; rotate_left
                                 ·
                                  intro w'
                                  go_simp
                                  with_reducible rfl
                                 rotate_left
                                 ·
                                  simp only [Act.put, y0, y1]
                                  rfl
                                 refine take_ (i := 16) (N := some 264) (v := ?_) (a' := ?_) #[i_, i_, i_, i_, i_, i_, i_, i_, i_, i_, i_, i_, i_, i_, i_, i_, i_, i_, i_, i_, o_, o_, o_] rfl rfl (take_ofW HT_.out HW_.out (by kernel_rfl)) (fun _ _ _ h => h) (Or.inl ⟨by rfl, ?_⟩) hHeld ?_ ?_; rotate_left
                                 ·
                                  rintro w' ⟨s0, s1, s2, s3⟩
                                  go_simp
                                  with_reducible rfl
                                 rotate_left
                                 ·
                                  simp only [Act.put, y0, y1]
                                  rfl
                                 refine take_ (i := 20) (N := some 268) (v := ?_) (a' := ?_) #[i_, i_, i_, i_, i_, i_, i_, i_, i_, i_, i_, i_, i_, i_, i_, i_, i_, i_, i_, i_, i_, o_, o_] rfl rfl (take_ofW HT_.out HW_.out (by kernel_rfl)) (fun _ _ _ h => h) (Or.inl ⟨by rfl, ?_⟩) hHeld ?_ ?_; rotate_left
                                 ·
                                  rintro w' ⟨s0, s1, s2, s3⟩
                                  go_simp
                                  with_reducible rfl
                                 rotate_left
                                 ·
                                  simp only [Act.put, y0, y1]
                                  rfl
                                 refine pure_ (i := 21) (N := some 269) (v := ?_) (a' := ?_) #[i_, i_, i_, i_, i_, i_, i_, i_, i_, i_, i_, i_, i_, i_, i_, i_, i_, i_, i_, i_, i_, i_, o_] rfl rfl (any_of HT_.out (by kernel_rfl)) (fun _ _ _ h => h) (Or.inl ⟨by rfl, ?_⟩) ?_ ?_; rotate_left
                                 ·
                                  intro w'
                                  go_simp
                                  with_reducible rfl
                                 rotate_left
                                 ·
                                  simp only [Act.put, y0, y1]
                                  rfl
                                 refine pure_ (i := 22) (N := some 270) (v := ?_) (a' := ?_) #[i_, i_, i_, i_, i_, i_, i_, i_, i_, i_, i_, i_, i_, i_, i_, i_, i_, i_, i_, i_, i_, i_, i_] rfl rfl (any_of HT_.out (by kernel_rfl)) (fun _ _ _ h => h) (Or.inl ⟨by rfl, ?_⟩) ?_ ?_; rotate_left
                                 ·
                                  intro w'
                                  go_simp
                                  with_reducible rfl
                                 rotate_left
                                 ·
                                  simp only [Act.put, y0, y1]
                                  rfl
                                 refine done_ (done_of HT_.out (by kernel_rfl)) ?_; (try go_wp2)
                                 go_roundg k9
                                 case measure => have := HJ5.out; have := HJ22.out; have := HK3.out; have := HJ83.out; have := HJ97.out; have := HK6.out; have := HK7.out; have := HJ115.out; have := HK9.out; omega
                                 case rel => exact ⟨(wrap64 (x27_9 + 2)), (by first | rfl | (simp; done) | (simp [*]; done)), H', ⟨by have := HJ5.out; have := HJ22.out; have := HK3.out; have := HJ83.out; have := HJ97.out; have := HK6.out; have := HK7.out; have := HJ115.out; have := HK9.out; omega⟩, ⟨by (try simp only [hl14_3]); (with_reducible repeat apply y2); exact HO_14.out⟩, ⟨by (try simp only [hl14_3]); (with_reducible repeat apply y2); exact HO_16.out⟩, ⟨by (try simp only [hl14_3]); (with_reducible repeat apply y2); exact HO_22.out⟩, ⟨by (try simp only [hl14_3]); (with_reducible repeat apply y2); exact HO_24.out⟩, ⟨by (try simp only [hl14_3]); (with_reducible repeat apply y2); exact HO_25.out⟩, ⟨by (try simp only [hl14_3]); (with_reducible repeat refine y4 ?_); exact BK164.out⟩, ⟨by repeat (first | (with_reducible first | exact HB.out | apply y3 | refine ys ?_ GE164.out) | exact HB.out)⟩⟩
                                as_aux_lemma =>
                                rw [if_neg c131] at H; have c131b0 : ((rd t229 (ji126)) == (rd x24_7 x27_9)) = false := beq_eq_false_iff_ne.mpr c131; have c131b1 : ((rd t229 (ji126)) != (rd x24_7 x27_9)) = true := bne_iff_ne.mpr c131; obtain rfl := Option.some.inj H; obtain ⟨Ao134, co134, eo134⟩ := Kd.R_slice HO_25.out; subst eo134; (try go_wp2); have n0_ := ym (yh HO_14.out); have n1_ := ym (yh HO_16.out); have n2_ := ym (yh HO_22.out); have n3_ := ym (yh HO_24.out); have n4_ := ym (yh HO_25.out); have n5_ := ym (yt BK164.out); have n6_ := ym (ye HB.out); clear HO_14; clear HO_16; clear HO_22; clear HO_24; clear HO_25; clear BK164; clear HB; have HO_14 := n0_; have HO_16 := n1_; have HO_22 := n2_; have HO_24 := n3_; have HO_25 := n4_; have BK164 := n5_; have HB := n6_; clear n0_ n1_ n2_ n3_ n4_ n5_ n6_; have p233 : 0 ≤ (x27_9 : Int) := of_decide_eq_true (by first | (with_reducible assumption) | assumption); have q233 : x27_9 < (t229.length : Int) := of_decide_eq_true (by first | (with_reducible assumption) | assumption); obtain ⟨ad233, e233, hx233_0⟩ := Kd.at_int (Kd.R_reads' HO_25.out).2.2 x27_9 p233 q233
                                cases e233
                                replace p233 := eq_true p233; replace q233 := eq_true q233; have p234 : 0 ≤ ((ji126) : Int) := of_decide_eq_true (by first | (with_reducible assumption) | assumption); have q234 : (ji126) < (x24_7.length : Int) := of_decide_eq_true (by first | (with_reducible assumption) | assumption); obtain ⟨ad234, e234, hx234_0⟩ := Kd.at_int (Kd.R_reads' HO_24.out).2.2 (ji126) p234 q234
                                cases e234
                                replace p234 := eq_true p234; replace q234 := eq_true q234; have p235 : 0 ≤ ((ji126) : Int) := of_decide_eq_true (by first | (with_reducible assumption) | assumption); have q235 : (ji126) < (t229.length : Int) := of_decide_eq_true (by first | (with_reducible assumption) | assumption); obtain ⟨ad235, e235, hx235_0⟩ := Kd.at_int (Kd.R_reads' HO_25.out).2.2 (ji126) p235 q235; obtain rfl : ad233 = ad235 := (by injection e235); replace p235 := eq_true p235; replace q235 := eq_true q235; have p236 : 0 ≤ (x27_9 : Int) := of_decide_eq_true (by first | (with_reducible assumption) | assumption); have q236 : x27_9 < (x24_7.length : Int) := of_decide_eq_true (by first | (with_reducible assumption) | assumption); obtain ⟨ad236, e236, hx236_0⟩ := Kd.at_int (Kd.R_reads' HO_24.out).2.2 x27_9 p236 q236; obtain rfl : ad234 = ad236 := (by injection e236); replace p236 := eq_true p236; replace q236 := eq_true q236; refine start_ (n := 23) (S := fun w' => w'.cell? (ad233.add (x27_9).toNat) = some (.int .i8 (rd t229 x27_9)) ∧ w'.cell? (ad234.add ((ji126)).toNat) = some (.int .i8 (rd x24_7 (ji126))) ∧ w'.cell? (ad233.add ((ji126)).toNat) = some (.int .i8 (rd t229 (ji126))) ∧ w'.cell? (ad234.add (x27_9).toNat) = some (.int .i8 (rd x24_7 x27_9))) (ds := []) #[o_, o_, o_, o_, o_, o_, o_, o_, o_, o_, o_, o_, o_, o_, o_, o_, o_, o_, o_, o_, o_, o_, o_] (by kernel_rfl) rfl rfl ⟨hx233_0, hx234_0, hx235_0, hx236_0⟩ (fun hHeld => ?_); refine with_tabW heraldlaw10_RopeHeads.tab42 heraldlaw10_RopeHeads.bits42 (fun HT_ HW_ => ?_); generalize wr.drew = w135 at HO_14 HO_16 HO_22 HO_24 HO_25 BK164 HB hx233_0 hx234_0 hx235_0 hx236_0 hHeld ⊢; refine pure_ (i := 0) (N := some 248) (v := ?_) (a' := ?_) #[i_, o_, o_, o_, o_, o_, o_, o_, o_, o_, o_, o_, o_, o_, o_, o_, o_, o_, o_, o_, o_, o_, o_] rfl rfl (any_of HT_.out (by kernel_rfl)) (fun _ _ _ h => h) (Or.inl ⟨by rfl, ?_⟩) ?_ ?_; rotate_left
                                ·
                                 intro w'
                                 go_simp
                                 with_reducible rfl
                                rotate_left
                                ·
                                 simp only [Act.put, y0, y1]
                                 rfl
                                refine pure_ (i := 1) (N := some 249) (v := ?_) (a' := ?_) #[i_, i_, o_, o_, o_, o_, o_, o_, o_, o_, o_, o_, o_, o_, o_, o_, o_, o_, o_, o_, o_, o_, o_] rfl rfl (any_of HT_.out (by kernel_rfl)) (fun _ _ _ h => h) (Or.inl ⟨by rfl, ?_⟩) ?_ ?_; rotate_left
                                ·
                                 intro w'
                                 go_simp
                                 with_reducible rfl
                                rotate_left
                                ·
                                 simp only [Act.put, y0, y1]
                                 rfl
                                refine pure_ (i := 2) (N := some 250) (v := ?_) (a' := ?_) #[i_, i_, i_, o_, o_, o_, o_, o_, o_, o_, o_, o_, o_, o_, o_, o_, o_, o_, o_, o_, o_, o_, o_] rfl rfl (any_of HT_.out (by kernel_rfl)) (fun _ _ _ h => h) (Or.inl ⟨by rfl, ?_⟩) ?_ ?_; rotate_left
                                ·
                                 intro w'
                                 go_simp
                                 with_reducible rfl
                                rotate_left
                                ·
                                 simp only [Act.put, y0, y1]
                                 rfl
                                refine pure_ (i := 4) (N := some 252) (v := ?_) (a' := ?_) #[i_, i_, i_, o_, i_, o_, o_, o_, o_, o_, o_, o_, o_, o_, o_, o_, o_, o_, o_, o_, o_, o_, o_] rfl rfl (any_of HT_.out (by kernel_rfl)) (fun _ _ _ h => h) (Or.inl ⟨by rfl, ?_⟩) ?_ ?_; rotate_left
                                ·
                                 intro w'
                                 go_simp
                                 with_reducible rfl
                                rotate_left
                                ·
                                 simp only [Act.put, y0, y1]
                                 rfl
                                refine pure_ (i := 5) (N := some 253) (v := ?_) (a' := ?_) #[i_, i_, i_, o_, i_, i_, o_, o_, o_, o_, o_, o_, o_, o_, o_, o_, o_, o_, o_, o_, o_, o_, o_] rfl rfl (any_of HT_.out (by kernel_rfl)) (fun _ _ _ h => h) (Or.inl ⟨by rfl, ?_⟩) ?_ ?_; rotate_left
                                ·
                                 intro w'
                                 go_simp
                                 with_reducible rfl
                                rotate_left
                                ·
                                 simp only [Act.put, y0, y1]
                                 rfl
                                refine pure_ (i := 6) (N := some 254) (v := ?_) (a' := ?_) #[i_, i_, i_, o_, i_, i_, i_, o_, o_, o_, o_, o_, o_, o_, o_, o_, o_, o_, o_, o_, o_, o_, o_] rfl rfl (any_of HT_.out (by kernel_rfl)) (fun _ _ _ h => h) (Or.inl ⟨by rfl, ?_⟩) ?_ ?_; rotate_left
                                ·
                                 intro w'
                                 go_simp
                                 with_reducible rfl
                                rotate_left
                                ·
                                 simp only [Act.put, y0, y1]
                                 rfl
                                refine pure_ (i := 7) (N := some 255) (v := ?_) (a' := ?_) #[i_, i_, i_, o_, i_, i_, i_, i_, o_, o_, o_, o_, o_, o_, o_, o_, o_, o_, o_, o_, o_, o_, o_] rfl rfl (any_of HT_.out (by kernel_rfl)) (fun _ _ _ h => h) (Or.inl ⟨by rfl, ?_⟩) ?_ ?_; rotate_left
                                ·
                                 intro w'
                                 go_simp
                                 with_reducible rfl
                                rotate_left
                                ·
                                 simp only [Act.put, y0, y1]
                                 rfl
                                refine take_ (i := 3) (N := some 251) (v := ?_) (a' := ?_) #[i_, i_, i_, i_, i_, i_, i_, i_, o_, o_, o_, o_, o_, o_, o_, o_, o_, o_, o_, o_, o_, o_, o_] rfl rfl (take_ofW HT_.out HW_.out (by kernel_rfl)) (fun _ _ _ h => h) (Or.inl ⟨by rfl, ?_⟩) hHeld ?_ ?_; rotate_left
                                ·
                                 rintro w' ⟨s0, s1, s2, s3⟩
                                 go_simp
                                 with_reducible rfl
                                rotate_left
                                ·
                                 simp only [Act.put, y0, y1]
                                 rfl
                                refine take_ (i := 8) (N := some 256) (v := ?_) (a' := ?_) #[i_, i_, i_, i_, i_, i_, i_, i_, i_, o_, o_, o_, o_, o_, o_, o_, o_, o_, o_, o_, o_, o_, o_] rfl rfl (take_ofW HT_.out HW_.out (by kernel_rfl)) (fun _ _ _ h => h) (Or.inl ⟨by rfl, ?_⟩) hHeld ?_ ?_; rotate_left
                                ·
                                 rintro w' ⟨s0, s1, s2, s3⟩
                                 go_simp
                                 with_reducible rfl
                                rotate_left
                                ·
                                 simp only [Act.put, y0, y1]
                                 rfl
                                refine pure_ (i := 9) (N := some 257) (v := ?_) (a' := ?_) #[i_, i_, i_, i_, i_, i_, i_, i_, i_, i_, o_, o_, o_, o_, o_, o_, o_, o_, o_, o_, o_, o_, o_] rfl rfl (any_of HT_.out (by kernel_rfl)) (fun _ _ _ h => h) (Or.inl ⟨by rfl, ?_⟩) ?_ ?_; rotate_left
                                ·
                                 intro w'
                                 go_simp
                                 with_reducible rfl
                                rotate_left
                                ·
                                 simp only [Act.put, y0, y1]
                                 rfl
                                refine pure_ (i := 10) (N := some 258) (v := ?_) (a' := ?_) #[i_, i_, i_, i_, i_, i_, i_, i_, i_, i_, i_, o_, o_, o_, o_, o_, o_, o_, o_, o_, o_, o_, o_] rfl rfl (any_of HT_.out (by kernel_rfl)) (fun _ _ _ h => h) (Or.inl ⟨by rfl, ?_⟩) ?_ ?_; rotate_left
                                ·
                                 intro w'
                                 go_simp
                                 with_reducible rfl
                                rotate_left
                                ·
                                 simp only [Act.put, y0, y1]
                                 rfl
                                refine pure_ (i := 11) (N := some 259) (v := ?_) (a' := ?_) #[i_, i_, i_, i_, i_, i_, i_, i_, i_, i_, i_, i_, o_, o_, o_, o_, o_, o_, o_, o_, o_, o_, o_] rfl rfl (any_of HT_.out (by kernel_rfl)) (fun _ _ _ h => h) (Or.inl ⟨by rfl, ?_⟩) ?_ ?_; rotate_left
                                ·
                                 intro w'
                                 go_simp
                                 with_reducible rfl
                                rotate_left
                                ·
                                 simp only [Act.put, y0, y1]
                                 rfl
                                refine pure_ (i := 12) (N := some 260) (v := ?_) (a' := ?_) #[i_, i_, i_, i_, i_, i_, i_, i_, i_, i_, i_, i_, i_, o_, o_, o_, o_, o_, o_, o_, o_, o_, o_] rfl rfl (any_of HT_.out (by kernel_rfl)) (fun _ _ _ h => h) (Or.inl ⟨by rfl, ?_⟩) ?_ ?_; rotate_left
                                ·
                                 intro w'
                                 go_simp
                                 with_reducible rfl
                                rotate_left
                                ·
                                 simp only [Act.put, y0, y1]
                                 rfl
                                refine pure_ (i := 13) (N := some 261) (v := ?_) (a' := ?_) #[i_, i_, i_, i_, i_, i_, i_, i_, i_, i_, i_, i_, i_, i_, o_, o_, o_, o_, o_, o_, o_, o_, o_] rfl rfl (any_of HT_.out (by kernel_rfl)) (fun _ _ _ h => h) (Or.inl ⟨by rfl, ?_⟩) ?_ ?_; rotate_left
                                ·
                                 intro w'
                                 go_simp
                                 with_reducible rfl
                                rotate_left
                                ·
                                 simp only [Act.put, y0, y1]
                                 rfl
                                refine pure_ (i := 14) (N := some 262) (v := ?_) (a' := ?_) #[i_, i_, i_, i_, i_, i_, i_, i_, i_, i_, i_, i_, i_, i_, i_, o_, o_, o_, o_, o_, o_, o_, o_] rfl rfl (any_of HT_.out (by kernel_rfl)) (fun _ _ _ h => h) (Or.inl ⟨by rfl, ?_⟩) ?_ ?_; rotate_left
                                ·
                                 intro w'
                                 go_simp
                                 with_reducible rfl
                                rotate_left
                                ·
                                 simp only [Act.put, y0, y1]
                                 rfl
                                refine pure_ (i := 15) (N := some 263) (v := ?_) (a' := ?_) #[i_, i_, i_, i_, i_, i_, i_, i_, i_, i_, i_, i_, i_, i_, i_, i_, o_, o_, o_, o_, o_, o_, o_] rfl rfl (any_of HT_.out (by kernel_rfl)) (fun _ _ _ h => h) (Or.inl ⟨by rfl, ?_⟩) ?_ ?_; rotate_left
                                ·
                                 intro w'
                                 go_simp
                                 with_reducible rfl
                                rotate_left
                                ·
                                 simp only [Act.put, y0, y1]
                                 rfl
                                refine pure_ (i := 17) (N := some 265) (v := ?_) (a' := ?_) #[i_, i_, i_, i_, i_, i_, i_, i_, i_, i_, i_, i_, i_, i_, i_, i_, o_, i_, o_, o_, o_, o_, o_] rfl rfl (any_of HT_.out (by kernel_rfl)) (fun _ _ _ h => h) (Or.inl ⟨by rfl, ?_⟩) ?_ ?_; rotate_left
                                ·
                                 intro w'
                                 go_simp
                                 with_reducible rfl
                                rotate_left
                                ·
                                 simp only [Act.put, y0, y1]
                                 rfl
                                refine pure_ (i := 18) (N := some 266) (v := ?_) (a' := ?_) #[i_, i_, i_, i_, i_, i_, i_, i_, i_, i_, i_, i_, i_, i_, i_, i_, o_, i_, i_, o_, o_, o_, o_] rfl rfl (any_of HT_.out (by kernel_rfl)) (fun _ _ _ h => h) (Or.inl ⟨by rfl, ?_⟩) ?_ ?_; rotate_left
                                ·
                                 intro w'
                                 go_simp
                                 with_reducible rfl
                                rotate_left
                                ·
                                 simp only [Act.put, y0, y1]
                                 rfl
                                refine pure_ (i := 19) (N := some 267) (v := ?_) (a' := ?_) #[i_, i_, i_, i_, i_, i_, i_, i_, i_, i_, i_, i_, i_, i_, i_, i_, o_, i_, i_, i_, o_, o_, o_] rfl rfl (any_of HT_.out (by kernel_rfl)) (fun _ _ _ h => h) (Or.inl ⟨by rfl, ?_⟩) ?_ ?_; rotate_left
                                ·
                                 intro w'
                                 go_simp
                                 with_reducible rfl
                                rotate_left
                                ·
                                 simp only [Act.put, y0, y1]
                                 rfl
                                refine take_ (i := 16) (N := some 264) (v := ?_) (a' := ?_) #[i_, i_, i_, i_, i_, i_, i_, i_, i_, i_, i_, i_, i_, i_, i_, i_, i_, i_, i_, i_, o_, o_, o_] rfl rfl (take_ofW HT_.out HW_.out (by kernel_rfl)) (fun _ _ _ h => h) (Or.inl ⟨by rfl, ?_⟩) hHeld ?_ ?_; rotate_left
                                ·
                                 rintro w' ⟨s0, s1, s2, s3⟩
                                 go_simp
                                 with_reducible rfl
                                rotate_left
                                ·
                                 simp only [Act.put, y0, y1]
                                 rfl
                                refine take_ (i := 20) (N := some 268) (v := ?_) (a' := ?_) #[i_, i_, i_, i_, i_, i_, i_, i_, i_, i_, i_, i_, i_, i_, i_, i_, i_, i_, i_, i_, i_, o_, o_] rfl rfl (take_ofW HT_.out HW_.out (by kernel_rfl)) (fun _ _ _ h => h) (Or.inl ⟨by rfl, ?_⟩) hHeld ?_ ?_; rotate_left
                                ·
                                 rintro w' ⟨s0, s1, s2, s3⟩
                                 go_simp
                                 with_reducible rfl
                                rotate_left
                                ·
                                 simp only [Act.put, y0, y1]
                                 rfl
                                refine pure_ (i := 21) (N := some 269) (v := ?_) (a' := ?_) #[i_, i_, i_, i_, i_, i_, i_, i_, i_, i_, i_, i_, i_, i_, i_, i_, i_, i_, i_, i_, i_, i_, o_] rfl rfl (any_of HT_.out (by kernel_rfl)) (fun _ _ _ h => h) (Or.inl ⟨by rfl, ?_⟩) ?_ ?_; rotate_left
                                ·
                                 intro w'
                                 go_simp
                                 with_reducible rfl
                                rotate_left
                                ·
                                 simp only [Act.put, y0, y1]
                                 rfl
                                refine pure_ (i := 22) (N := some 270) (v := ?_) (a' := ?_) #[i_, i_, i_, i_, i_, i_, i_, i_, i_, i_, i_, i_, i_, i_, i_, i_, i_, i_, i_, i_, i_, i_, i_] rfl rfl (any_of HT_.out (by kernel_rfl)) (fun _ _ _ h => h) (Or.inl ⟨by rfl, ?_⟩) ?_ ?_; rotate_left
                                ·
                                 intro w'
                                 go_simp
                                 with_reducible rfl
                                rotate_left
                                ·
                                 simp only [Act.put, y0, y1]
                                 rfl
                                refine done_ (done_of HT_.out (by kernel_rfl)) ?_; (try go_wp2)
                                go_ret
                                exact ⟨by first | rfl | (simp [errW_none, errW_some] <;> rfl) | (simp only [← hji126]; first | rfl | (simp [errW_none, errW_some] <;> rfl)) | (simp [*, errW_none, errW_some] <;> rfl), by repeat (first | (with_reducible first | exact HB.out | apply y3 | refine ys ?_ GE164.out) | exact HB.out)⟩
                               as_aux_lemma =>
                               rw [if_neg c130] at H; exact absurd H (by simp)
                              as_aux_lemma =>
                              rw [if_neg c129] at H; have c129b0 : ((rd t229 x27_9) == (IntKind.i8.wrap (-(rd x24_7 (ji126))))) = false := beq_eq_false_iff_ne.mpr c129; have c129b1 : ((rd t229 x27_9) != (IntKind.i8.wrap (-(rd x24_7 (ji126))))) = true := bne_iff_ne.mpr c129; obtain rfl := Option.some.inj H; obtain ⟨Ao136, co136, eo136⟩ := Kd.R_slice HO_25.out; subst eo136; (try go_wp2); have n0_ := ym (yh HO_14.out); have n1_ := ym (yh HO_16.out); have n2_ := ym (yh HO_22.out); have n3_ := ym (yh HO_24.out); have n4_ := ym (yh HO_25.out); have n5_ := ym (yt BK164.out); have n6_ := ym (ye HB.out); clear HO_14; clear HO_16; clear HO_22; clear HO_24; clear HO_25; clear BK164; clear HB; have HO_14 := n0_; have HO_16 := n1_; have HO_22 := n2_; have HO_24 := n3_; have HO_25 := n4_; have BK164 := n5_; have HB := n6_; clear n0_ n1_ n2_ n3_ n4_ n5_ n6_; have p233 : 0 ≤ (x27_9 : Int) := of_decide_eq_true (by first | (with_reducible assumption) | assumption); have q233 : x27_9 < (t229.length : Int) := of_decide_eq_true (by first | (with_reducible assumption) | assumption); obtain ⟨ad233, e233, hx233_0⟩ := Kd.at_int (Kd.R_reads' HO_25.out).2.2 x27_9 p233 q233
                              cases e233
                              replace p233 := eq_true p233; replace q233 := eq_true q233; have p234 : 0 ≤ ((ji126) : Int) := of_decide_eq_true (by first | (with_reducible assumption) | assumption); have q234 : (ji126) < (x24_7.length : Int) := of_decide_eq_true (by first | (with_reducible assumption) | assumption); obtain ⟨ad234, e234, hx234_0⟩ := Kd.at_int (Kd.R_reads' HO_24.out).2.2 (ji126) p234 q234
                              cases e234
                              replace p234 := eq_true p234; replace q234 := eq_true q234; refine start_ (n := 23) (S := fun w' => w'.cell? (ad233.add (x27_9).toNat) = some (.int .i8 (rd t229 x27_9)) ∧ w'.cell? (ad234.add ((ji126)).toNat) = some (.int .i8 (rd x24_7 (ji126)))) (ds := []) #[o_, o_, o_, o_, o_, o_, o_, o_, o_, o_, o_, o_, o_, o_, o_, o_, o_, o_, o_, o_, o_, o_, o_] (by kernel_rfl) rfl rfl ⟨hx233_0, hx234_0⟩ (fun hHeld => ?_); refine with_tabW heraldlaw10_RopeHeads.tab42 heraldlaw10_RopeHeads.bits42 (fun HT_ HW_ => ?_); generalize wr.drew = w137 at HO_14 HO_16 HO_22 HO_24 HO_25 BK164 HB hx233_0 hx234_0 hHeld ⊢; refine pure_ (i := 0) (N := some 248) (v := ?_) (a' := ?_) #[i_, o_, o_, o_, o_, o_, o_, o_, o_, o_, o_, o_, o_, o_, o_, o_, o_, o_, o_, o_, o_, o_, o_] rfl rfl (any_of HT_.out (by kernel_rfl)) (fun _ _ _ h => h) (Or.inl ⟨by rfl, ?_⟩) ?_ ?_; rotate_left
                              ·
                               as_aux_lemma =>
                               intro w'
                               go_simp
                               with_reducible rfl
                              rotate_left
                              ·
                               as_aux_lemma =>
                               simp only [Act.put, y0, y1]
                               rfl
                              refine pure_ (i := 1) (N := some 249) (v := ?_) (a' := ?_) #[i_, i_, o_, o_, o_, o_, o_, o_, o_, o_, o_, o_, o_, o_, o_, o_, o_, o_, o_, o_, o_, o_, o_] rfl rfl (any_of HT_.out (by kernel_rfl)) (fun _ _ _ h => h) (Or.inl ⟨by rfl, ?_⟩) ?_ ?_; rotate_left
                              ·
                               as_aux_lemma =>
                               intro w'
                               go_simp
                               with_reducible rfl
                              rotate_left
                              ·
                               as_aux_lemma =>
                               simp only [Act.put, y0, y1]
                               rfl
                              refine pure_ (i := 2) (N := some 250) (v := ?_) (a' := ?_) #[i_, i_, i_, o_, o_, o_, o_, o_, o_, o_, o_, o_, o_, o_, o_, o_, o_, o_, o_, o_, o_, o_, o_] rfl rfl (any_of HT_.out (by kernel_rfl)) (fun _ _ _ h => h) (Or.inl ⟨by rfl, ?_⟩) ?_ ?_; rotate_left
                              ·
                               as_aux_lemma =>
                               intro w'
                               go_simp
                               with_reducible rfl
                              rotate_left
                              ·
                               as_aux_lemma =>
                               simp only [Act.put, y0, y1]
                               rfl
                              refine pure_ (i := 4) (N := some 252) (v := ?_) (a' := ?_) #[i_, i_, i_, o_, i_, o_, o_, o_, o_, o_, o_, o_, o_, o_, o_, o_, o_, o_, o_, o_, o_, o_, o_] rfl rfl (any_of HT_.out (by kernel_rfl)) (fun _ _ _ h => h) (Or.inl ⟨by rfl, ?_⟩) ?_ ?_; rotate_left
                              ·
                               as_aux_lemma =>
                               intro w'
                               go_simp
                               with_reducible rfl
                              rotate_left
                              ·
                               as_aux_lemma =>
                               simp only [Act.put, y0, y1]
                               rfl
                              refine pure_ (i := 5) (N := some 253) (v := ?_) (a' := ?_) #[i_, i_, i_, o_, i_, i_, o_, o_, o_, o_, o_, o_, o_, o_, o_, o_, o_, o_, o_, o_, o_, o_, o_] rfl rfl (any_of HT_.out (by kernel_rfl)) (fun _ _ _ h => h) (Or.inl ⟨by rfl, ?_⟩) ?_ ?_; rotate_left
                              ·
                               as_aux_lemma =>
                               intro w'
                               go_simp
                               with_reducible rfl
                              rotate_left
                              ·
                               as_aux_lemma =>
                               simp only [Act.put, y0, y1]
                               rfl
                              refine pure_ (i := 6) (N := some 254) (v := ?_) (a' := ?_) #[i_, i_, i_, o_, i_, i_, i_, o_, o_, o_, o_, o_, o_, o_, o_, o_, o_, o_, o_, o_, o_, o_, o_] rfl rfl (any_of HT_.out (by kernel_rfl)) (fun _ _ _ h => h) (Or.inl ⟨by rfl, ?_⟩) ?_ ?_; rotate_left
                              ·
                               as_aux_lemma =>
                               intro w'
                               go_simp
                               with_reducible rfl
                              rotate_left
                              ·
                               as_aux_lemma =>
                               simp only [Act.put, y0, y1]
                               rfl
                              refine pure_ (i := 7) (N := some 255) (v := ?_) (a' := ?_) #[i_, i_, i_, o_, i_, i_, i_, i_, o_, o_, o_, o_, o_, o_, o_, o_, o_, o_, o_, o_, o_, o_, o_] rfl rfl (any_of HT_.out (by kernel_rfl)) (fun _ _ _ h => h) (Or.inl ⟨by rfl, ?_⟩) ?_ ?_; rotate_left
                              ·
                               as_aux_lemma =>
                               intro w'
                               go_simp
                               with_reducible rfl
                              rotate_left
                              ·
                               as_aux_lemma =>
                               simp only [Act.put, y0, y1]
                               rfl
                              refine take_ (i := 3) (N := some 251) (v := ?_) (a' := ?_) #[i_, i_, i_, i_, i_, i_, i_, i_, o_, o_, o_, o_, o_, o_, o_, o_, o_, o_, o_, o_, o_, o_, o_] rfl rfl (take_ofW HT_.out HW_.out (by kernel_rfl)) (fun _ _ _ h => h) (Or.inl ⟨by rfl, ?_⟩) hHeld ?_ ?_; rotate_left
                              ·
                               as_aux_lemma =>
                               rintro w' ⟨s0, s1⟩
                               go_simp
                               with_reducible rfl
                              rotate_left
                              ·
                               as_aux_lemma =>
                               simp only [Act.put, y0, y1]
                               rfl
                              refine take_ (i := 8) (N := some 256) (v := ?_) (a' := ?_) #[i_, i_, i_, i_, i_, i_, i_, i_, i_, o_, o_, o_, o_, o_, o_, o_, o_, o_, o_, o_, o_, o_, o_] rfl rfl (take_ofW HT_.out HW_.out (by kernel_rfl)) (fun _ _ _ h => h) (Or.inl ⟨by rfl, ?_⟩) hHeld ?_ ?_; rotate_left
                              ·
                               as_aux_lemma =>
                               rintro w' ⟨s0, s1⟩
                               go_simp
                               with_reducible rfl
                              rotate_left
                              ·
                               as_aux_lemma =>
                               simp only [Act.put, y0, y1]
                               rfl
                              refine pure_ (i := 9) (N := some 257) (v := ?_) (a' := ?_) #[i_, i_, i_, i_, i_, i_, i_, i_, i_, i_, o_, o_, o_, o_, o_, o_, o_, o_, o_, o_, o_, o_, o_] rfl rfl (any_of HT_.out (by kernel_rfl)) (fun _ _ _ h => h) (Or.inl ⟨by rfl, ?_⟩) ?_ ?_; rotate_left
                              ·
                               as_aux_lemma =>
                               intro w'
                               go_simp
                               with_reducible rfl
                              rotate_left
                              ·
                               as_aux_lemma =>
                               simp only [Act.put, y0, y1]
                               rfl
                              refine pure_ (i := 10) (N := some 258) (v := ?_) (a' := ?_) #[i_, i_, i_, i_, i_, i_, i_, i_, i_, i_, i_, o_, o_, o_, o_, o_, o_, o_, o_, o_, o_, o_, o_] rfl rfl (any_of HT_.out (by kernel_rfl)) (fun _ _ _ h => h) (Or.inl ⟨by rfl, ?_⟩) ?_ ?_; rotate_left
                              ·
                               as_aux_lemma =>
                               intro w'
                               go_simp
                               with_reducible rfl
                              rotate_left
                              ·
                               as_aux_lemma =>
                               simp only [Act.put, y0, y1]
                               rfl
                              refine pure_ (i := 11) (N := some 259) (v := ?_) (a' := ?_) #[i_, i_, i_, i_, i_, i_, i_, i_, i_, i_, i_, i_, o_, o_, o_, o_, o_, o_, o_, o_, o_, o_, o_] rfl rfl (any_of HT_.out (by kernel_rfl)) (fun _ _ _ h => h) (Or.inl ⟨by rfl, ?_⟩) ?_ ?_; rotate_left
                              ·
                               as_aux_lemma =>
                               intro w'
                               go_simp
                               with_reducible rfl
                              rotate_left
                              ·
                               as_aux_lemma =>
                               simp only [Act.put, y0, y1]
                               rfl
                              refine pure_ (i := 12) (N := some 260) (v := undef) (a' := ?_) #[i_, i_, i_, i_, i_, i_, i_, i_, i_, i_, i_, i_, i_, o_, o_, o_, o_, o_, o_, o_, o_, o_, o_] rfl rfl (any_of HT_.out (by kernel_rfl)) (fun _ _ _ h => h) (Or.inr ⟨by rfl, rfl⟩) ?_ ?_; rotate_left
                              ·
                               as_aux_lemma =>
                               simp only [Act.put, y0, y1]
                               rfl
                              refine pure_ (i := 13) (N := some 261) (v := undef) (a' := ?_) #[i_, i_, i_, i_, i_, i_, i_, i_, i_, i_, i_, i_, i_, i_, o_, o_, o_, o_, o_, o_, o_, o_, o_] rfl rfl (any_of HT_.out (by kernel_rfl)) (fun _ _ _ h => h) (Or.inr ⟨by rfl, rfl⟩) ?_ ?_; rotate_left
                              ·
                               as_aux_lemma =>
                               simp only [Act.put, y0, y1]
                               rfl
                              refine pure_ (i := 14) (N := some 262) (v := undef) (a' := ?_) #[i_, i_, i_, i_, i_, i_, i_, i_, i_, i_, i_, i_, i_, i_, i_, o_, o_, o_, o_, o_, o_, o_, o_] rfl rfl (any_of HT_.out (by kernel_rfl)) (fun _ _ _ h => h) (Or.inr ⟨by rfl, rfl⟩) ?_ ?_; rotate_left
                              ·
                               as_aux_lemma =>
                               simp only [Act.put, y0, y1]
                               rfl
                              refine pure_ (i := 15) (N := some 263) (v := undef) (a' := ?_) #[i_, i_, i_, i_, i_, i_, i_, i_, i_, i_, i_, i_, i_, i_, i_, i_, o_, o_, o_, o_, o_, o_, o_] rfl rfl (any_of HT_.out (by kernel_rfl)) (fun _ _ _ h => h) (Or.inr ⟨by rfl, rfl⟩) ?_ ?_; rotate_left
                              ·
                               as_aux_lemma =>
                               simp only [Act.put, y0, y1]
                               rfl
                              refine pure_ (i := 16) (N := some 264) (v := undef) (a' := ?_) #[i_, i_, i_, i_, i_, i_, i_, i_, i_, i_, i_, i_, i_, i_, i_, i_, i_, o_, o_, o_, o_, o_, o_] rfl rfl (any_of HT_.out (by kernel_rfl)) (fun _ _ _ h => h) (Or.inr ⟨by rfl, rfl⟩) ?_ ?_; rotate_left
                              ·
                               as_aux_lemma =>
                               simp only [Act.put, y0, y1]
                               rfl
                              refine pure_ (i := 17) (N := some 265) (v := undef) (a' := ?_) #[i_, i_, i_, i_, i_, i_, i_, i_, i_, i_, i_, i_, i_, i_, i_, i_, i_, i_, o_, o_, o_, o_, o_] rfl rfl (any_of HT_.out (by kernel_rfl)) (fun _ _ _ h => h) (Or.inr ⟨by rfl, rfl⟩) ?_ ?_; rotate_left
                              ·
                               as_aux_lemma =>
                               simp only [Act.put, y0, y1]
                               rfl
                              refine pure_ (i := 18) (N := some 266) (v := undef) (a' := ?_) #[i_, i_, i_, i_, i_, i_, i_, i_, i_, i_, i_, i_, i_, i_, i_, i_, i_, i_, i_, o_, o_, o_, o_] rfl rfl (any_of HT_.out (by kernel_rfl)) (fun _ _ _ h => h) (Or.inr ⟨by rfl, rfl⟩) ?_ ?_; rotate_left
                              ·
                               as_aux_lemma =>
                               simp only [Act.put, y0, y1]
                               rfl
                              refine pure_ (i := 19) (N := some 267) (v := undef) (a' := ?_) #[i_, i_, i_, i_, i_, i_, i_, i_, i_, i_, i_, i_, i_, i_, i_, i_, i_, i_, i_, i_, o_, o_, o_] rfl rfl (any_of HT_.out (by kernel_rfl)) (fun _ _ _ h => h) (Or.inr ⟨by rfl, rfl⟩) ?_ ?_; rotate_left
                              ·
                               as_aux_lemma =>
                               simp only [Act.put, y0, y1]
                               rfl
                              refine pure_ (i := 20) (N := some 268) (v := undef) (a' := ?_) #[i_, i_, i_, i_, i_, i_, i_, i_, i_, i_, i_, i_, i_, i_, i_, i_, i_, i_, i_, i_, i_, o_, o_] rfl rfl (any_of HT_.out (by kernel_rfl)) (fun _ _ _ h => h) (Or.inr ⟨by rfl, rfl⟩) ?_ ?_; rotate_left
                              ·
                               as_aux_lemma =>
                               simp only [Act.put, y0, y1]
                               rfl
                              refine pure_ (i := 21) (N := some 269) (v := undef) (a' := ?_) #[i_, i_, i_, i_, i_, i_, i_, i_, i_, i_, i_, i_, i_, i_, i_, i_, i_, i_, i_, i_, i_, i_, o_] rfl rfl (any_of HT_.out (by kernel_rfl)) (fun _ _ _ h => h) (Or.inr ⟨by rfl, rfl⟩) ?_ ?_; rotate_left
                              ·
                               as_aux_lemma =>
                               simp only [Act.put, y0, y1]
                               rfl
                              refine pure_ (i := 22) (N := some 270) (v := ?_) (a' := ?_) #[i_, i_, i_, i_, i_, i_, i_, i_, i_, i_, i_, i_, i_, i_, i_, i_, i_, i_, i_, i_, i_, i_, i_] rfl rfl (any_of HT_.out (by kernel_rfl)) (fun _ _ _ h => h) (Or.inl ⟨by rfl, ?_⟩) ?_ ?_; rotate_left
                              ·
                               as_aux_lemma =>
                               intro w'
                               go_simp
                               with_reducible rfl
                              rotate_left
                              ·
                               as_aux_lemma =>
                               simp only [Act.put, y0, y1]
                               rfl
                              refine done_ (done_of HT_.out (by kernel_rfl)) ?_; (try go_wp2)
                              go_ret
                              exact ⟨by first | rfl | (simp [errW_none, errW_some] <;> rfl) | (simp only [← hji126]; first | rfl | (simp [errW_none, errW_some] <;> rfl)) | (simp [*, errW_none, errW_some] <;> rfl), by repeat (first | (with_reducible first | exact HB.out | apply y3 | refine ys ?_ GE164.out) | exact HB.out)⟩
                             as_aux_lemma =>
                             rw [if_neg c128] at H; exact absurd H (by simp)
                            as_aux_lemma =>
                            rw [if_neg c127] at H; exact absurd H (by simp)
                           as_aux_lemma =>
                           rw [if_neg c125] at H; exact absurd H (by simp)
                          as_aux_lemma =>
                          rw [if_neg c124] at H; exact absurd H (by simp)
                         as_aux_lemma =>
                         rw [if_neg c123] at H; have c123b0 : decide ((wrap64 (x27_9 + 1)) < (t229.length : Int)) = false := decide_eq_false c123; clear c123; have H' := ym H; clear H; obtain ⟨Ao138, co138, eo138⟩ := Kd.R_slice HO_25.out; subst eo138
                         go_wp2
                         go_roundg k9
                         case measure => have := HJ5.out; have := HJ22.out; have := HK3.out; have := HJ83.out; have := HJ97.out; have := HK6.out; have := HK7.out; have := HJ115.out; have := HK9.out; omega
                         case rel => exact ⟨(t229), (wrap64 (x221_7 + 1)), (by first | rfl | (simp; done) | (simp [*]; done)), H', ⟨by have := HJ5.out; have := HJ22.out; have := HK3.out; have := HJ83.out; have := HJ97.out; have := HK6.out; have := HK7.out; have := HJ115.out; have := HK9.out; omega⟩, ⟨by (try simp only [hl14_3]); (with_reducible repeat apply y2); exact Kd.R_mono HO_14.out (fun _ hk => ⟨hk.1, ⟨hk.2.1, hk.2.2.2⟩⟩)⟩, ⟨by (try simp only [hl14_3]); (with_reducible repeat apply y2); exact Kd.R_mono HO_16.out (fun _ hk => ⟨hk.1, ⟨hk.2.1, hk.2.2.2⟩⟩)⟩, ⟨by (try simp only [hl14_3]); (with_reducible repeat apply y2); exact Kd.R_mono HO_22.out (fun _ hk => ⟨hk.1, hk.2.1⟩)⟩, ⟨by (try simp only [hl14_3]); (with_reducible repeat apply y2); exact Kd.R_mono HO_25.out (fun _ hk => ⟨hk.1, hk.2.1⟩)⟩, ⟨by (try simp only [hl14_3]); (with_reducible repeat refine y4 ?_); exact BK164.out⟩, ⟨by repeat (first | (with_reducible first | exact HB.out | apply y3 | refine ys ?_ GE164.out) | exact HB.out)⟩⟩
                    as_aux_lemma =>
                    rw [if_neg c114] at H; have c114b0 : decide (x221_7 < 4) = false := decide_eq_false c114; clear c114; replace H := Option.bind_eq_some_iff.mp H; obtain ⟨t228, A1390, H⟩ := H; replace H : (some t228) = some r := H; have A139 := ym A1390; clear A1390; obtain rfl := Option.some.inj H; obtain ⟨Ao140, co140, eo140⟩ := Kd.R_slice HO_24.out; subst eo140; obtain ⟨Ao141, co141, eo141⟩ := Kd.R_slice HO_22.out; subst eo141
                    go_wp2_with (first | ((with_reducible refine gate_callee (f := 13) rfl ?_); refine goesL_ (some 275) rfl rfl Tryd.func13 (by kernel_rfl) rfl #[.slice Ao140 x24_7.length co140, .slice Ao141 t222.length co141] rfl (by (try simp only [List.map_toArray, List.map_cons, List.map_nil]); first | done | rfl | (simp only [List.length_drop, List.length_take]; rfl)) ?_; (with_reducible refine (heraldlaw10_same.calls k7 _ _ x24_7 _ _ t222 t228 _ ?side1 ?side2 ?side3 ?side4 A139.out).mono ?_); (case side1 => repeat (first | exact (Kd.R_reads' HO_24.out).2.2 | (with_reducible refine yi ?_ _) | (with_reducible refine yj ?_ _) | (with_reducible refine yk ?_))); (case side2 => exact (Kd.R_reads' HO_24.out).2.1); (case side3 => repeat (first | exact (Kd.R_reads' HO_22.out).2.2 | (with_reducible refine yi ?_ _) | (with_reducible refine yj ?_ _) | (with_reducible refine yk ?_))); (case side4 => exact (Kd.R_reads' HO_22.out).2.1); rintro e w' ⟨rfl, ⟨nd, rfl⟩⟩; refine ⟨_, rfl, ?_⟩))
                    go_ret
                    exact ⟨by first | rfl | (simp [errW_none, errW_some] <;> rfl) | (simp [*, errW_none, errW_some] <;> rfl), by repeat (first | (with_reducible first | exact HB.out | apply y3 | refine ys ?_ GE164.out) | exact HB.out)⟩
         as_aux_lemma =>
         rw [if_neg c51] at H; exact absurd H (by simp)
        as_aux_lemma =>
        rw [if_neg c50] at H; exact absurd H (by simp)
     as_aux_lemma =>
     rw [if_neg c21] at H; exact absurd H (by simp)
    as_aux_lemma =>
    rw [if_neg c20] at H; exact absurd H (by simp)
 as_aux_lemma =>
 replace c5 := Bool.eq_false_iff.mpr c5; subst c5; (have H1 : (some false) = some r := by rw [if_neg (show ¬ (false = true) by decide)] at H; exact H); clear H; have H := H1; clear H1; obtain rfl := Option.some.inj H
 go_enter Tryd.func4, Tryd.ntmps4
 go_wp2_with (first | ((with_reducible refine gate_dst (N := 5) rfl ?_); (try (refine gate_guard (by rfl) ?_; dsimp only)); refine box_event ?hg (N := 5) ?hd (cs := #[.slice A2_0 l2_0.length c2_0, .slice A2_1 l2_1.length c2_1]) (t := 24) ?hr ?_; (case hd => rfl); (case hg => rfl); (case hr => first | (go_simp; done) | (go_simp; rfl)); intro gb164 hg w142 hbox hb; have n0_ := ym (yn (by repeat (first | (with_reducible first | exact HB.out | apply y3) | exact HB.out)) hb); have n1_ := ym (hbox); have n2_ := ym ((by rw [hg]; exact (below_size (by repeat (first | (with_reducible first | exact HB.out | apply y3) | exact HB.out))) : w.heap.size ≤ gb164)); have n3_ := n2_; clear HB; have HB := n0_; have BK164 := n1_; have GW164 := n2_; have GE164 := n3_; clear n0_ n1_ n2_ n3_; clear hb hbox hg) | ((with_reducible refine gate_callee (f := 10) rfl ?_); refine goesL_ (some 28) rfl rfl Tryd.func10 (by kernel_rfl) rfl #[] rfl (by (try simp only [List.map_toArray, List.map_cons, List.map_nil]); first | done | rfl | (simp only [List.length_drop, List.length_take]; rfl)) ?_; (with_reducible refine (heraldlaw10_awake.calls k  false _ A4.out (tab_of HTAB.out (by repeat (first | (with_reducible first | exact HB.out | apply y3) | exact HB.out | exact Below.refl _ _)))).mono ?_); rintro e w143 ⟨rfl, hb⟩; refine ⟨_, rfl, ?_⟩; have n0_ := ym (yq (g := gb164) (o := .cells #[.slice A2_0 l2_0.length c2_0, .slice A2_1 l2_1.length c2_1] 24 (0, 0)) (by (with_reducible repeat refine y4 ?_); exact BK164.out) hb); have n1_ := ym (yn (by repeat (first | (with_reducible first | exact HB.out | apply y3 | refine ys ?_ GE164.out) | exact HB.out)) hb); clear BK164; clear HB; have BK164 := n0_; have HB := n1_; clear n0_ n1_; (try clear hb); (try clear hb2); (try clear hk); (try clear hi)))
 go_ret
 exact ⟨by first | rfl | (simp [errW_none, errW_some] <;> rfl) | (simp [*, errW_none, errW_some] <;> rfl), by repeat (first | (with_reducible first | exact HB.out | apply y3 | refine ys ?_ GE164.out) | exact HB.out)⟩

end Go.Proofs.YtengkjkmdodifaaDoor.P
