-- Printed by xprint.py (wip): functions, contracts, rows. Lean checks it.
import Derived.Test.YtfjpnmhbbfiaaaaZGBPx0
import Derived.Test.YtfjpnmhbbfiaaaaZGBPx1
import Derived.Test.YtfjpnmhbbfiaaaaZGBPx6
import Derived.Test.YtfjpnmhbbfiaaaaZGBPx7
import Derived.Test.YtfjpnmhbbfiaaaaZGBPx9
import Derived.Test.YtfjpnmhbbfiaaaaZGBPx10
import Derived.Test.YtfjpnmhbbfiaaaaZGBPx15
import Derived.Test.YtfjpnmhbbfiaaaaZGBPx19
import Derived.Test.YtfjpnmhbbfiaaaaZGBPx24
import Derived.Test.YtfjpnmhbbfiaaaaZGBPx26
import Derived.Test.YtfjpnmhbbfiaaaaZGBPx29
import Derived.Test.YtfjpnmhbbfiaaaaZGBPx31
import Derived.Test.YtfjpnmhbbfiaaaaZGBTiny2
namespace Go.Proofs.Ytfjpnmhbbfiaaaa.P
open Go.RowKit Go.Proofs.YtfjpnmhbbfiaaaaW.PrintWords Go.Proofs.YtfjpnmhbbfiaaaaW.PrintLast Go.Proofs.YtfjpnmhbbfiaaaaW.PrintMore
attribute [local go_sem] max2_int min2_int max_two min_two max_three min_three max_four min_four   -- for this text's walks alone
set_option linter.unusedVariables false
set_option linter.unusedSimpArgs false

/-! ### heraldlaw15_GuideBinds: function 9 -/
mutual
def heraldlaw15_GuideBinds.j0 : Nat → List Int → Int → Int → Bool → List Bool → List (S92) → List ByteArray → List (S99) → Option (Bool)
  | 0, _, _, _, _, _, _, _, _ => none
  | k + 1, x2, x8, x10, x45, x494000, x494001, x495000, x495001 => if x45 = true then ((guide_Mask.f k x494000 x494001 x495000 x495001 0).bind fun bt512 => ((heraldlaw15_awake.f k).bind fun t516 => (if t516 = true then (if x8 = 0 then (some ((bt512.2 != 0) == (x10 != 0))) else (some ((bt512.2 != 0) == true))) else (none)))) else (heraldlaw15_GuideBinds.l0 k x2 0 (⟨#[]⟩ : ByteArray) (([] : List Int)) 0 x494000 x494001 x495000 x495001)
def heraldlaw15_GuideBinds.l0 : Nat → List Int → Int → ByteArray → List Int → Int → List Bool → List (S92) → List ByteArray → List (S99) → Option (Bool)
  | 0, _, _, _, _, _, _, _, _, _ => none
  | k + 1, x2, x13, x14, x15, x16, x494000, x494001, x495000, x495001 => if x16 < (x2.length : Int) then ((guide_Mask.f k x494000 x494001 x495000 x495001 x13).bind fun bt520 => (if bt520.2 = 0 then (heraldlaw15_GuideBinds.j2 k x2 x13 x14 x15 x16 bt520.1 ((bt520.1.length : Int) != (x495000.length : Int)) x494000 x494001 x495000 x495001) else (heraldlaw15_GuideBinds.j2 k x2 x13 x14 x15 x16 bt520.1 true x494000 x494001 x495000 x495001))) else (some true)
def heraldlaw15_GuideBinds.j2 : Nat → List Int → Int → ByteArray → List Int → Int → List Bool → Bool → List Bool → List (S92) → List ByteArray → List (S99) → Option (Bool)
  | 0, _, _, _, _, _, _, _, _, _, _, _ => none
  | k + 1, x2, x13, x14, x15, x16, x17, x87, x494000, x494001, x495000, x495001 => if x87 = true then (none) else (heraldlaw15_GuideBinds.l1 k x2 x13 x14 x15 x16 x17 (([] : List Int)) 0 x494000 x494001 x495000 x495001)
def heraldlaw15_GuideBinds.l1 : Nat → List Int → Int → ByteArray → List Int → Int → List Bool → List Int → Int → List Bool → List (S92) → List ByteArray → List (S99) → Option (Bool)
  | 0, _, _, _, _, _, _, _, _, _, _, _, _ => none
  | k + 1, x2, x13, x14, x15, x16, x17, x19, x20, x494000, x494001, x495000, x495001 => if x20 < (x17.length : Int) then (if 0 ≤ x20 then (if rdOf false x17 x20 = true then (if x19.length < 17592186044416 then (heraldlaw15_GuideBinds.l1 k x2 x13 x14 x15 x16 x17 (x19 ++ [x20]) (wrap64 (x20 + 1)) x494000 x494001 x495000 x495001) else (none)) else (heraldlaw15_GuideBinds.l1 k x2 x13 x14 x15 x16 x17 x19 (wrap64 (x20 + 1)) x494000 x494001 x495000 x495001)) else (none)) else (if (x19.length : Int) = 0 then (none) else (if 0 ≤ x16 then (if x16 < (x2.length : Int) then (if 0 ≤ (Int.tmod (wrap64 ((Int.tmod (rd x2 x16) (x19.length : Int)) + (x19.length : Int))) (x19.length : Int)) then (if (Int.tmod (wrap64 ((Int.tmod (rd x2 x16) (x19.length : Int)) + (x19.length : Int))) (x19.length : Int)) < (x19.length : Int) then (if (rd x19 (Int.tmod (wrap64 ((Int.tmod (rd x2 x16) (x19.length : Int)) + (x19.length : Int))) (x19.length : Int))) = 0 then ((guide_Accepts.f k x494000 x494001 x14).bind fun t533 => (if t533 = true then (some true) else (some ((x19.length : Int) == 1)))) else (if 0 ≤ (rd x19 (Int.tmod (wrap64 ((Int.tmod (rd x2 x16) (x19.length : Int)) + (x19.length : Int))) (x19.length : Int))) then (if (rd x19 (Int.tmod (wrap64 ((Int.tmod (rd x2 x16) (x19.length : Int)) + (x19.length : Int))) (x19.length : Int))) < (x495000.length : Int) then (if x14.size + (rdOf ByteArray.empty x495000 (rd x19 (Int.tmod (wrap64 ((Int.tmod (rd x2 x16) (x19.length : Int)) + (x19.length : Int))) (x19.length : Int)))).size ≤ 9223372036854775807 then (if x15.length < 17592186044416 then ((some (x15 ++ [rd x19 (Int.tmod (wrap64 ((Int.tmod (rd x2 x16) (x19.length : Int)) + (x19.length : Int))) (x19.length : Int))] : List Int)).bind fun y535 => ((guide_Next.f k x494000 x494001 x495000 x495001 x13 (rd x19 (Int.tmod (wrap64 ((Int.tmod (rd x2 x16) (x19.length : Int)) + (x19.length : Int))) (x19.length : Int)))).bind fun t538 => ((guide_Walk.f k x494000 x494001 0 (x14 ++ (rdOf ByteArray.empty x495000 (rd x19 (Int.tmod (wrap64 ((Int.tmod (rd x2 x16) (x19.length : Int)) + (x19.length : Int))) (x19.length : Int)))))).bind fun t539 => (if t538 = t539 then ((guide_State.f k x494000 x494001 x495000 x495001 y535).bind fun t540 => (if t538 = t540 then (heraldlaw15_GuideBinds.j4 k x2 t538 (x14 ++ (rdOf ByteArray.empty x495000 (rd x19 (Int.tmod (wrap64 ((Int.tmod (rd x2 x16) (x19.length : Int)) + (x19.length : Int))) (x19.length : Int))))) y535 x16 (decide (t538 < 0)) x494000 x494001 x495000 x495001) else (heraldlaw15_GuideBinds.j4 k x2 t538 (x14 ++ (rdOf ByteArray.empty x495000 (rd x19 (Int.tmod (wrap64 ((Int.tmod (rd x2 x16) (x19.length : Int)) + (x19.length : Int))) (x19.length : Int))))) y535 x16 true x494000 x494001 x495000 x495001))) else (heraldlaw15_GuideBinds.j4 k x2 t538 (x14 ++ (rdOf ByteArray.empty x495000 (rd x19 (Int.tmod (wrap64 ((Int.tmod (rd x2 x16) (x19.length : Int)) + (x19.length : Int))) (x19.length : Int))))) y535 x16 true x494000 x494001 x495000 x495001))))) else (none)) else (none)) else (none)) else (none))) else (none)) else (none)) else (none)) else (none)))
def heraldlaw15_GuideBinds.j4 : Nat → List Int → Int → ByteArray → List Int → Int → Bool → List Bool → List (S92) → List ByteArray → List (S99) → Option (Bool)
  | 0, _, _, _, _, _, _, _, _, _, _ => none
  | k + 1, x2, x13, x14, x15, x16, x164, x494000, x494001, x495000, x495001 => if x164 = true then (none) else ((guide_Alive.f k x494000 x494001).bind fun bt541 => (if (x494000.length : Int) > 0 then (if x13 ≥ (bt541.1.length : Int) then (none) else (if 0 ≤ x13 then (if x13 < (bt541.1.length : Int) then (if rdOf false bt541.1 x13 = true then (heraldlaw15_GuideBinds.l0 k x2 x13 x14 x15 (wrap64 (x16 + 1)) x494000 x494001 x495000 x495001) else (none)) else (none)) else (none))) else (heraldlaw15_GuideBinds.l0 k x2 x13 x14 x15 (wrap64 (x16 + 1)) x494000 x494001 x495000 x495001)))
end
def heraldlaw15_GuideBinds.f (k : Nat) (l0_0 : List Bool) (l0_1 : List (S92)) (l1_0 : List ByteArray) (l1_1 : List (S99)) (l2 : List Int) : Option (Bool) := (heraldlaw15_given.f k l0_0 l0_1).bind fun bt495 => ((heraldref15_Check.f k bt495.1 bt495.2).bind fun bt501 => ((heraldlaw15_words.f k l1_0 l1_1).bind fun bt503 => ((heraldref13_Check.f k bt503.1 bt503.2).bind fun bt509 => ((heraldlaw15_awake.f k).bind fun t511 => (if t511 = true then (if bt501.2 = 0 then (heraldlaw15_GuideBinds.j0 k l2 bt501.2 bt509.2 (bt509.2 != 0) l0_0 l0_1 l1_0 l1_1) else (heraldlaw15_GuideBinds.j0 k l2 bt501.2 bt509.2 true l0_0 l0_1 l1_0 l1_1)) else (heraldlaw15_GuideBinds.j0 k l2 bt501.2 bt509.2 true l0_0 l0_1 l1_0 l1_1))))))
theorem heraldlaw15_GuideBinds.mono_l : ∀ k, (∀ y0 y1 y2 y3 y4 y5 y6 y7, LeO (heraldlaw15_GuideBinds.j0 k y0 y1 y2 y3 y4 y5 y6 y7) (heraldlaw15_GuideBinds.j0 (k + 1) y0 y1 y2 y3 y4 y5 y6 y7)) ∧ (∀ y0 y1 y2 y3 y4 y5 y6 y7 y8, LeO (heraldlaw15_GuideBinds.l0 k y0 y1 y2 y3 y4 y5 y6 y7 y8) (heraldlaw15_GuideBinds.l0 (k + 1) y0 y1 y2 y3 y4 y5 y6 y7 y8)) ∧ (∀ y0 y1 y2 y3 y4 y5 y6 y7 y8 y9 y10, LeO (heraldlaw15_GuideBinds.j2 k y0 y1 y2 y3 y4 y5 y6 y7 y8 y9 y10) (heraldlaw15_GuideBinds.j2 (k + 1) y0 y1 y2 y3 y4 y5 y6 y7 y8 y9 y10)) ∧ (∀ y0 y1 y2 y3 y4 y5 y6 y7 y8 y9 y10 y11, LeO (heraldlaw15_GuideBinds.l1 k y0 y1 y2 y3 y4 y5 y6 y7 y8 y9 y10 y11) (heraldlaw15_GuideBinds.l1 (k + 1) y0 y1 y2 y3 y4 y5 y6 y7 y8 y9 y10 y11)) ∧ (∀ y0 y1 y2 y3 y4 y5 y6 y7 y8 y9, LeO (heraldlaw15_GuideBinds.j4 k y0 y1 y2 y3 y4 y5 y6 y7 y8 y9) (heraldlaw15_GuideBinds.j4 (k + 1) y0 y1 y2 y3 y4 y5 y6 y7 y8 y9))
  | 0 => ⟨fun _ _ _ _ _ _ _ _ r h => by simp [heraldlaw15_GuideBinds.j0] at h, fun _ _ _ _ _ _ _ _ _ r h => by simp [heraldlaw15_GuideBinds.l0] at h, fun _ _ _ _ _ _ _ _ _ _ _ r h => by simp [heraldlaw15_GuideBinds.j2] at h, fun _ _ _ _ _ _ _ _ _ _ _ _ r h => by simp [heraldlaw15_GuideBinds.l1] at h, fun _ _ _ _ _ _ _ _ _ _ r h => by simp [heraldlaw15_GuideBinds.j4] at h⟩
  | k + 1 => by
    obtain ⟨ih0, ih1, ih2, ih3, ih4⟩ := heraldlaw15_GuideBinds.mono_l k
    refine ⟨?_, ?_, ?_, ?_, ?_⟩
    · intro y0 y1 y2 y3 y4 y5 y6 y7
      unfold heraldlaw15_GuideBinds.j0
      repeat' first
      | (with_reducible exact ih0 _ _ _ _ _ _ _ _)
      | (with_reducible exact ih1 _ _ _ _ _ _ _ _ _)
      | (with_reducible exact ih2 _ _ _ _ _ _ _ _ _ _ _)
      | (with_reducible exact ih3 _ _ _ _ _ _ _ _ _ _ _ _)
      | (with_reducible exact ih4 _ _ _ _ _ _ _ _ _ _)
      | (with_reducible exact guide_Accepts.mono _ _ _ _)
      | (with_reducible exact guide_Alive.mono _ _ _)
      | (with_reducible exact guide_Mask.mono _ _ _ _ _ _)
      | (with_reducible exact guide_Next.mono _ _ _ _ _ _ _)
      | (with_reducible exact guide_State.mono _ _ _ _ _ _)
      | (with_reducible exact guide_Walk.mono _ _ _ _ _)
      | (with_reducible exact heraldlaw15_awake.mono _)
      | (with_reducible exact heraldlaw15_given.mono _ _ _)
      | (with_reducible exact heraldlaw15_words.mono _ _ _)
      | (with_reducible exact heraldref13_Check.mono _ _ _)
      | (with_reducible exact heraldref15_Check.mono _ _ _)
      | (with_reducible exact LeO.refl _)
      | (with_reducible exact LeO.none _)
      | (with_reducible refine LeO.ite ?_ ?_)
      | (with_reducible refine LeO.bind ?_ (fun _ => ?_))
      | exact ih0 _ _ _ _ _ _ _ _
      | exact ih1 _ _ _ _ _ _ _ _ _
      | exact ih2 _ _ _ _ _ _ _ _ _ _ _
      | exact ih3 _ _ _ _ _ _ _ _ _ _ _ _
      | exact ih4 _ _ _ _ _ _ _ _ _ _
      | exact guide_Accepts.mono _ _ _ _
      | exact guide_Alive.mono _ _ _
      | exact guide_Mask.mono _ _ _ _ _ _
      | exact guide_Next.mono _ _ _ _ _ _ _
      | exact guide_State.mono _ _ _ _ _ _
      | exact guide_Walk.mono _ _ _ _ _
      | exact heraldlaw15_awake.mono _
      | exact heraldlaw15_given.mono _ _ _
      | exact heraldlaw15_words.mono _ _ _
      | exact heraldref13_Check.mono _ _ _
      | exact heraldref15_Check.mono _ _ _
      | exact LeO.none _
      | refine LeO.ite ?_ ?_
      | refine LeO.bind ?_ (fun _ => ?_)
    · intro y0 y1 y2 y3 y4 y5 y6 y7 y8
      unfold heraldlaw15_GuideBinds.l0
      repeat' first
      | (with_reducible exact ih0 _ _ _ _ _ _ _ _)
      | (with_reducible exact ih1 _ _ _ _ _ _ _ _ _)
      | (with_reducible exact ih2 _ _ _ _ _ _ _ _ _ _ _)
      | (with_reducible exact ih3 _ _ _ _ _ _ _ _ _ _ _ _)
      | (with_reducible exact ih4 _ _ _ _ _ _ _ _ _ _)
      | (with_reducible exact guide_Accepts.mono _ _ _ _)
      | (with_reducible exact guide_Alive.mono _ _ _)
      | (with_reducible exact guide_Mask.mono _ _ _ _ _ _)
      | (with_reducible exact guide_Next.mono _ _ _ _ _ _ _)
      | (with_reducible exact guide_State.mono _ _ _ _ _ _)
      | (with_reducible exact guide_Walk.mono _ _ _ _ _)
      | (with_reducible exact heraldlaw15_awake.mono _)
      | (with_reducible exact heraldlaw15_given.mono _ _ _)
      | (with_reducible exact heraldlaw15_words.mono _ _ _)
      | (with_reducible exact heraldref13_Check.mono _ _ _)
      | (with_reducible exact heraldref15_Check.mono _ _ _)
      | (with_reducible exact LeO.refl _)
      | (with_reducible exact LeO.none _)
      | (with_reducible refine LeO.ite ?_ ?_)
      | (with_reducible refine LeO.bind ?_ (fun _ => ?_))
      | exact ih0 _ _ _ _ _ _ _ _
      | exact ih1 _ _ _ _ _ _ _ _ _
      | exact ih2 _ _ _ _ _ _ _ _ _ _ _
      | exact ih3 _ _ _ _ _ _ _ _ _ _ _ _
      | exact ih4 _ _ _ _ _ _ _ _ _ _
      | exact guide_Accepts.mono _ _ _ _
      | exact guide_Alive.mono _ _ _
      | exact guide_Mask.mono _ _ _ _ _ _
      | exact guide_Next.mono _ _ _ _ _ _ _
      | exact guide_State.mono _ _ _ _ _ _
      | exact guide_Walk.mono _ _ _ _ _
      | exact heraldlaw15_awake.mono _
      | exact heraldlaw15_given.mono _ _ _
      | exact heraldlaw15_words.mono _ _ _
      | exact heraldref13_Check.mono _ _ _
      | exact heraldref15_Check.mono _ _ _
      | exact LeO.none _
      | refine LeO.ite ?_ ?_
      | refine LeO.bind ?_ (fun _ => ?_)
    · intro y0 y1 y2 y3 y4 y5 y6 y7 y8 y9 y10
      unfold heraldlaw15_GuideBinds.j2
      repeat' first
      | (with_reducible exact ih0 _ _ _ _ _ _ _ _)
      | (with_reducible exact ih1 _ _ _ _ _ _ _ _ _)
      | (with_reducible exact ih2 _ _ _ _ _ _ _ _ _ _ _)
      | (with_reducible exact ih3 _ _ _ _ _ _ _ _ _ _ _ _)
      | (with_reducible exact ih4 _ _ _ _ _ _ _ _ _ _)
      | (with_reducible exact guide_Accepts.mono _ _ _ _)
      | (with_reducible exact guide_Alive.mono _ _ _)
      | (with_reducible exact guide_Mask.mono _ _ _ _ _ _)
      | (with_reducible exact guide_Next.mono _ _ _ _ _ _ _)
      | (with_reducible exact guide_State.mono _ _ _ _ _ _)
      | (with_reducible exact guide_Walk.mono _ _ _ _ _)
      | (with_reducible exact heraldlaw15_awake.mono _)
      | (with_reducible exact heraldlaw15_given.mono _ _ _)
      | (with_reducible exact heraldlaw15_words.mono _ _ _)
      | (with_reducible exact heraldref13_Check.mono _ _ _)
      | (with_reducible exact heraldref15_Check.mono _ _ _)
      | (with_reducible exact LeO.refl _)
      | (with_reducible exact LeO.none _)
      | (with_reducible refine LeO.ite ?_ ?_)
      | (with_reducible refine LeO.bind ?_ (fun _ => ?_))
      | exact ih0 _ _ _ _ _ _ _ _
      | exact ih1 _ _ _ _ _ _ _ _ _
      | exact ih2 _ _ _ _ _ _ _ _ _ _ _
      | exact ih3 _ _ _ _ _ _ _ _ _ _ _ _
      | exact ih4 _ _ _ _ _ _ _ _ _ _
      | exact guide_Accepts.mono _ _ _ _
      | exact guide_Alive.mono _ _ _
      | exact guide_Mask.mono _ _ _ _ _ _
      | exact guide_Next.mono _ _ _ _ _ _ _
      | exact guide_State.mono _ _ _ _ _ _
      | exact guide_Walk.mono _ _ _ _ _
      | exact heraldlaw15_awake.mono _
      | exact heraldlaw15_given.mono _ _ _
      | exact heraldlaw15_words.mono _ _ _
      | exact heraldref13_Check.mono _ _ _
      | exact heraldref15_Check.mono _ _ _
      | exact LeO.none _
      | refine LeO.ite ?_ ?_
      | refine LeO.bind ?_ (fun _ => ?_)
    · intro y0 y1 y2 y3 y4 y5 y6 y7 y8 y9 y10 y11
      unfold heraldlaw15_GuideBinds.l1
      repeat' first
      | (with_reducible exact ih0 _ _ _ _ _ _ _ _)
      | (with_reducible exact ih1 _ _ _ _ _ _ _ _ _)
      | (with_reducible exact ih2 _ _ _ _ _ _ _ _ _ _ _)
      | (with_reducible exact ih3 _ _ _ _ _ _ _ _ _ _ _ _)
      | (with_reducible exact ih4 _ _ _ _ _ _ _ _ _ _)
      | (with_reducible exact guide_Accepts.mono _ _ _ _)
      | (with_reducible exact guide_Alive.mono _ _ _)
      | (with_reducible exact guide_Mask.mono _ _ _ _ _ _)
      | (with_reducible exact guide_Next.mono _ _ _ _ _ _ _)
      | (with_reducible exact guide_State.mono _ _ _ _ _ _)
      | (with_reducible exact guide_Walk.mono _ _ _ _ _)
      | (with_reducible exact heraldlaw15_awake.mono _)
      | (with_reducible exact heraldlaw15_given.mono _ _ _)
      | (with_reducible exact heraldlaw15_words.mono _ _ _)
      | (with_reducible exact heraldref13_Check.mono _ _ _)
      | (with_reducible exact heraldref15_Check.mono _ _ _)
      | (with_reducible exact LeO.refl _)
      | (with_reducible exact LeO.none _)
      | (with_reducible refine LeO.ite ?_ ?_)
      | (with_reducible refine LeO.bind ?_ (fun _ => ?_))
      | exact ih0 _ _ _ _ _ _ _ _
      | exact ih1 _ _ _ _ _ _ _ _ _
      | exact ih2 _ _ _ _ _ _ _ _ _ _ _
      | exact ih3 _ _ _ _ _ _ _ _ _ _ _ _
      | exact ih4 _ _ _ _ _ _ _ _ _ _
      | exact guide_Accepts.mono _ _ _ _
      | exact guide_Alive.mono _ _ _
      | exact guide_Mask.mono _ _ _ _ _ _
      | exact guide_Next.mono _ _ _ _ _ _ _
      | exact guide_State.mono _ _ _ _ _ _
      | exact guide_Walk.mono _ _ _ _ _
      | exact heraldlaw15_awake.mono _
      | exact heraldlaw15_given.mono _ _ _
      | exact heraldlaw15_words.mono _ _ _
      | exact heraldref13_Check.mono _ _ _
      | exact heraldref15_Check.mono _ _ _
      | exact LeO.none _
      | refine LeO.ite ?_ ?_
      | refine LeO.bind ?_ (fun _ => ?_)
    · intro y0 y1 y2 y3 y4 y5 y6 y7 y8 y9
      unfold heraldlaw15_GuideBinds.j4
      repeat' first
      | (with_reducible exact ih0 _ _ _ _ _ _ _ _)
      | (with_reducible exact ih1 _ _ _ _ _ _ _ _ _)
      | (with_reducible exact ih2 _ _ _ _ _ _ _ _ _ _ _)
      | (with_reducible exact ih3 _ _ _ _ _ _ _ _ _ _ _ _)
      | (with_reducible exact ih4 _ _ _ _ _ _ _ _ _ _)
      | (with_reducible exact guide_Accepts.mono _ _ _ _)
      | (with_reducible exact guide_Alive.mono _ _ _)
      | (with_reducible exact guide_Mask.mono _ _ _ _ _ _)
      | (with_reducible exact guide_Next.mono _ _ _ _ _ _ _)
      | (with_reducible exact guide_State.mono _ _ _ _ _ _)
      | (with_reducible exact guide_Walk.mono _ _ _ _ _)
      | (with_reducible exact heraldlaw15_awake.mono _)
      | (with_reducible exact heraldlaw15_given.mono _ _ _)
      | (with_reducible exact heraldlaw15_words.mono _ _ _)
      | (with_reducible exact heraldref13_Check.mono _ _ _)
      | (with_reducible exact heraldref15_Check.mono _ _ _)
      | (with_reducible exact LeO.refl _)
      | (with_reducible exact LeO.none _)
      | (with_reducible refine LeO.ite ?_ ?_)
      | (with_reducible refine LeO.bind ?_ (fun _ => ?_))
      | exact ih0 _ _ _ _ _ _ _ _
      | exact ih1 _ _ _ _ _ _ _ _ _
      | exact ih2 _ _ _ _ _ _ _ _ _ _ _
      | exact ih3 _ _ _ _ _ _ _ _ _ _ _ _
      | exact ih4 _ _ _ _ _ _ _ _ _ _
      | exact guide_Accepts.mono _ _ _ _
      | exact guide_Alive.mono _ _ _
      | exact guide_Mask.mono _ _ _ _ _ _
      | exact guide_Next.mono _ _ _ _ _ _ _
      | exact guide_State.mono _ _ _ _ _ _
      | exact guide_Walk.mono _ _ _ _ _
      | exact heraldlaw15_awake.mono _
      | exact heraldlaw15_given.mono _ _ _
      | exact heraldlaw15_words.mono _ _ _
      | exact heraldref13_Check.mono _ _ _
      | exact heraldref15_Check.mono _ _ _
      | exact LeO.none _
      | refine LeO.ite ?_ ?_
      | refine LeO.bind ?_ (fun _ => ?_)
theorem heraldlaw15_GuideBinds.mono : ∀ a0 a1 a2 a3 a4 k, LeO (heraldlaw15_GuideBinds.f k a0 a1 a2 a3 a4) (heraldlaw15_GuideBinds.f (k + 1) a0 a1 a2 a3 a4) := by
  intro a0 a1 a2 a3 a4 k
  obtain ⟨ih0, ih1, ih2, ih3, ih4⟩ := heraldlaw15_GuideBinds.mono_l k
  unfold heraldlaw15_GuideBinds.f
  repeat' first
      | (with_reducible exact ih0 _ _ _ _ _ _ _ _)
      | (with_reducible exact ih1 _ _ _ _ _ _ _ _ _)
      | (with_reducible exact ih2 _ _ _ _ _ _ _ _ _ _ _)
      | (with_reducible exact ih3 _ _ _ _ _ _ _ _ _ _ _ _)
      | (with_reducible exact ih4 _ _ _ _ _ _ _ _ _ _)
      | (with_reducible exact guide_Accepts.mono _ _ _ _)
      | (with_reducible exact guide_Alive.mono _ _ _)
      | (with_reducible exact guide_Mask.mono _ _ _ _ _ _)
      | (with_reducible exact guide_Next.mono _ _ _ _ _ _ _)
      | (with_reducible exact guide_State.mono _ _ _ _ _ _)
      | (with_reducible exact guide_Walk.mono _ _ _ _ _)
      | (with_reducible exact heraldlaw15_awake.mono _)
      | (with_reducible exact heraldlaw15_given.mono _ _ _)
      | (with_reducible exact heraldlaw15_words.mono _ _ _)
      | (with_reducible exact heraldref13_Check.mono _ _ _)
      | (with_reducible exact heraldref15_Check.mono _ _ _)
      | (with_reducible exact LeO.refl _)
      | (with_reducible exact LeO.none _)
      | (with_reducible refine LeO.ite ?_ ?_)
      | (with_reducible refine LeO.bind ?_ (fun _ => ?_))
      | exact ih0 _ _ _ _ _ _ _ _
      | exact ih1 _ _ _ _ _ _ _ _ _
      | exact ih2 _ _ _ _ _ _ _ _ _ _ _
      | exact ih3 _ _ _ _ _ _ _ _ _ _ _ _
      | exact ih4 _ _ _ _ _ _ _ _ _ _
      | exact guide_Accepts.mono _ _ _ _
      | exact guide_Alive.mono _ _ _
      | exact guide_Mask.mono _ _ _ _ _ _
      | exact guide_Next.mono _ _ _ _ _ _ _
      | exact guide_State.mono _ _ _ _ _ _
      | exact guide_Walk.mono _ _ _ _ _
      | exact heraldlaw15_awake.mono _
      | exact heraldlaw15_given.mono _ _ _
      | exact heraldlaw15_words.mono _ _ _
      | exact heraldref13_Check.mono _ _ _
      | exact heraldref15_Check.mono _ _ _
      | exact LeO.none _
      | refine LeO.ite ?_ ?_
      | refine LeO.bind ?_ (fun _ => ?_)
set_option maxHeartbeats 8000000 in
set_option maxRecDepth 100000 in
theorem heraldlaw15_GuideBinds.calls (k : Nat) (A0_0 : Option Addr) (c0_0 : Nat) (l0_0 : List Bool) (A0_1 : Option Addr) (c0_1 : Nat) (l0_1 : List (S92)) (A1_0 : Option Addr) (c1_0 : Nat) (l1_0 : List ByteArray) (A1_1 : Option Addr) (c1_1 : Nat) (l1_1 : List (S99)) (A2 : Option Addr) (c2 : Nat) (l2 : List Int) (r : Bool) (w : World) (hr0_0 : Kd.C Kd.bool w A0_0 l0_0.length l0_0) (hc0_0 : l0_0.length ≤ c0_0) (hr0_1 : Kd.C k92 w A0_1 l0_1.length l0_1) (hc0_1 : l0_1.length ≤ c0_1) (hr1_0 : Kd.C Kd.string w A1_0 l1_0.length l1_0) (hc1_0 : l1_0.length ≤ c1_0) (hr1_1 : Kd.C k99 w A1_1 l1_1.length l1_1) (hc1_1 : l1_1.length ≤ c1_1) (hr2 : Kd.C (Kd.int .i64) w A2 l2.length l2) (hc2 : l2.length ≤ c2) (h : heraldlaw15_GuideBinds.f k l0_0 l0_1 l1_0 l1_1 l2 = some r) :
    Calls Try.prog 9 #[.agg #[.slice A0_0 l0_0.length c0_0, .slice A0_1 l0_1.length c0_1], .agg #[.slice A1_0 l1_0.length c1_0, .slice A1_1 l1_1.length c1_1], .slice A2 l2.length c2] w fun e w' => e = .returned (.bool r) ∧ Below w.heap.size w w' := by
 have hu25 := Try.underlying25; have hu52 := Try.underlying52; have HR0_0 := ym hr0_0; have HC0_0 := ym hc0_0; clear hr0_0 hc0_0; have HR0_1 := ym hr0_1; have HC0_1 := ym hc0_1; clear hr0_1 hc0_1; have HR1_0 := ym hr1_0; have HC1_0 := ym hc1_0; clear hr1_0 hc1_0; have HR1_1 := ym hr1_1; have HC1_1 := ym hc1_1; clear hr1_1 hc1_1; have HR2 := ym hr2; have HC2 := ym hc2; clear hr2 hc2; have HB := ym (Below.refl w.heap.size w); have H : ((heraldlaw15_given.f k l0_0 l0_1).bind fun bt495 => ((heraldref15_Check.f k bt495.1 bt495.2).bind fun bt501 => ((heraldlaw15_words.f k l1_0 l1_1).bind fun bt503 => ((heraldref13_Check.f k bt503.1 bt503.2).bind fun bt509 => ((heraldlaw15_awake.f k).bind fun t511 => (if t511 = true then (if bt501.2 = 0 then (heraldlaw15_GuideBinds.j0 k l2 bt501.2 bt509.2 (bt509.2 != 0) l0_0 l0_1 l1_0 l1_1) else (heraldlaw15_GuideBinds.j0 k l2 bt501.2 bt509.2 true l0_0 l0_1 l1_0 l1_1)) else (heraldlaw15_GuideBinds.j0 k l2 bt501.2 bt509.2 true l0_0 l0_1 l1_0 l1_1))))))) = some r := h; clear h; replace H := Option.bind_eq_some_iff.mp H; obtain ⟨⟨t495, t498⟩, A40, H⟩ := H; replace H : ((heraldref15_Check.f k t495 t498).bind fun bt501 => ((heraldlaw15_words.f k l1_0 l1_1).bind fun bt503 => ((heraldref13_Check.f k bt503.1 bt503.2).bind fun bt509 => ((heraldlaw15_awake.f k).bind fun t511 => (if t511 = true then (if bt501.2 = 0 then (heraldlaw15_GuideBinds.j0 k l2 bt501.2 bt509.2 (bt509.2 != 0) l0_0 l0_1 l1_0 l1_1) else (heraldlaw15_GuideBinds.j0 k l2 bt501.2 bt509.2 true l0_0 l0_1 l1_0 l1_1)) else (heraldlaw15_GuideBinds.j0 k l2 bt501.2 bt509.2 true l0_0 l0_1 l1_0 l1_1)))))) = some r := H; have A4 := ym A40; clear A40; replace H := Option.bind_eq_some_iff.mp H; obtain ⟨⟨t501, t502⟩, A50, H⟩ := H; replace H : ((heraldlaw15_words.f k l1_0 l1_1).bind fun bt503 => ((heraldref13_Check.f k bt503.1 bt503.2).bind fun bt509 => ((heraldlaw15_awake.f k).bind fun t511 => (if t511 = true then (if t502 = 0 then (heraldlaw15_GuideBinds.j0 k l2 t502 bt509.2 (bt509.2 != 0) l0_0 l0_1 l1_0 l1_1) else (heraldlaw15_GuideBinds.j0 k l2 t502 bt509.2 true l0_0 l0_1 l1_0 l1_1)) else (heraldlaw15_GuideBinds.j0 k l2 t502 bt509.2 true l0_0 l0_1 l1_0 l1_1))))) = some r := H; have A5 := ym A50; clear A50; replace H := Option.bind_eq_some_iff.mp H; obtain ⟨⟨t503, t506⟩, A60, H⟩ := H; replace H : ((heraldref13_Check.f k t503 t506).bind fun bt509 => ((heraldlaw15_awake.f k).bind fun t511 => (if t511 = true then (if t502 = 0 then (heraldlaw15_GuideBinds.j0 k l2 t502 bt509.2 (bt509.2 != 0) l0_0 l0_1 l1_0 l1_1) else (heraldlaw15_GuideBinds.j0 k l2 t502 bt509.2 true l0_0 l0_1 l1_0 l1_1)) else (heraldlaw15_GuideBinds.j0 k l2 t502 bt509.2 true l0_0 l0_1 l1_0 l1_1)))) = some r := H; have A6 := ym A60; clear A60; replace H := Option.bind_eq_some_iff.mp H; obtain ⟨⟨t509, t510⟩, A70, H⟩ := H; replace H : ((heraldlaw15_awake.f k).bind fun t511 => (if t511 = true then (if t502 = 0 then (heraldlaw15_GuideBinds.j0 k l2 t502 t510 (t510 != 0) l0_0 l0_1 l1_0 l1_1) else (heraldlaw15_GuideBinds.j0 k l2 t502 t510 true l0_0 l0_1 l1_0 l1_1)) else (heraldlaw15_GuideBinds.j0 k l2 t502 t510 true l0_0 l0_1 l1_0 l1_1))) = some r := H; have A7 := ym A70; clear A70; have HC8 := ym H; clear H
 go_enter Try.func9, Try.ntmps9
 go_upto_region 3 with (first | (refine zb (N := 3) (cs := #[.slice A0_0 l0_0.length c0_0, .slice A0_1 l0_1.length c0_1]) (t := 25) ?_; intro gb493 hg w9 hbox hb; have BK493 := ym (hbox); have GW493 := yE hg; replace HB := yN hb; have GE493 := GW493; clear hb hbox hg) | (refine zb (N := 4) (cs := #[.slice A1_0 l1_0.length c1_0, .slice A1_1 l1_1.length c1_1]) (t := 52) ?_; intro gb494 hg w10 hbox hb; have BK494 := ym (hbox); have GW494 := yE hg; replace HB := yN hb; have GE494 := GW494; have NB493_494 := yF hg BK493; have NB494_493 := yH hg BK493; replace BK493 := yQ BK493 hb; clear hb hbox hg; have hnb11 := NB493_494.out; have hnc11 := NB494_493.out; have hcz12_0 := yW BK493 0; have hcz12_1 := yW BK493 1; have hfz12_0 := yv BK493.out 0; have hfz12_1 := yv BK493.out 1) | ((with_reducible refine gate_callee (f := 13) rfl ?_); refine goesL_ (some 26) rfl rfl Try.func13 (by kernel_rfl) rfl #[.agg #[.slice A0_0 l0_0.length c0_0, .slice A0_1 l0_1.length c0_1]] rfl y6 ?_; (with_reducible refine (heraldlaw15_given.calls k _ _ l0_0 _ _ l0_1 t495 t498 _ ?side1 ?side2 ?side3 ?side4 A4.out).mono ?_); (case side1 => exact y9 HR0_0); (case side2 => exact HC0_0.out); (case side3 => exact y9 HR0_1); (case side4 => exact HC0_1.out); rintro e w13 ⟨v496, v499, rfl, ho0, ho1, hb⟩; refine ⟨_, rfl, ?_⟩; have HO497 := ym (yo ho0 (below_size yb)); have HO500 := ym (yo ho1 (below_size yb)); replace BK493 := yQ BK493 hb; replace BK494 := yQ BK494 hb; replace HB := yN hb; (try clear hb); (try clear hb2); (try clear hk); (try clear hi); (try clear ho0); (try clear ho1); obtain ⟨Ao14, co14, eo14⟩ := Kd.R_slice HO497.out; subst eo14; obtain ⟨Ao15, co15, eo15⟩ := Kd.R_slice HO500.out; subst eo15) | ((with_reducible refine gate_callee (f := 20) rfl ?_); refine goesL_ (some 27) rfl rfl Try.func20 (by kernel_rfl) rfl #[.agg #[.slice Ao14 t495.length co14, .slice Ao15 t498.length co15]] rfl y6 ?_; (with_reducible refine (heraldref15_Check.calls k _ _ t495 _ _ t498 t501 t502 _ ?side1 ?side2 ?side3 ?side4 A5.out).mono ?_); (case side1 => repeat (first | exact (Kd.R_reads' HO497.out).2.2 | (with_reducible refine yi ?_ _) | (with_reducible refine yj ?_ _) | (with_reducible refine yk ?_))); (case side2 => exact (Kd.R_reads' HO497.out).2.1); (case side3 => repeat (first | exact (Kd.R_reads' HO500.out).2.2 | (with_reducible refine yi ?_ _) | (with_reducible refine yj ?_ _) | (with_reducible refine yk ?_))); (case side4 => exact (Kd.R_reads' HO500.out).2.1); rintro e w16 ⟨rfl, hb⟩; refine ⟨_, rfl, ?_⟩; replace HO497 := ym (yp (by (with_reducible repeat apply y2); exact HO497.out) hb); replace HO500 := ym (yp (by (with_reducible repeat apply y2); exact HO500.out) hb); replace BK493 := yQ BK493 hb; replace BK494 := yQ BK494 hb; replace HB := yN hb; (try clear hb); (try clear hb2); (try clear hk); (try clear hi); have hcz17_0 := yW BK494 0; have hcz17_1 := yW BK494 1; have hfz17_0 := yv BK494.out 0; have hfz17_1 := yv BK494.out 1) | ((with_reducible refine gate_callee (f := 24) rfl ?_); refine goesL_ (some 32) rfl rfl Try.func24 (by kernel_rfl) rfl #[.agg #[.slice A1_0 l1_0.length c1_0, .slice A1_1 l1_1.length c1_1]] rfl y6 ?_; (with_reducible refine (heraldlaw15_words.calls k _ _ l1_0 _ _ l1_1 t503 t506 _ ?side1 ?side2 ?side3 ?side4 A6.out).mono ?_); (case side1 => exact y9 HR1_0); (case side2 => exact HC1_0.out); (case side3 => exact y9 HR1_1); (case side4 => exact HC1_1.out); rintro e w18 ⟨v504, v507, rfl, ho0, ho1, hb⟩; refine ⟨_, rfl, ?_⟩; replace HO497 := ym (yp (by (with_reducible repeat apply y2); exact HO497.out) hb); replace HO500 := ym (yp (by (with_reducible repeat apply y2); exact HO500.out) hb); have HO505 := ym (yo ho0 (below_size yb)); have HO508 := ym (yo ho1 (below_size yb)); replace BK493 := yQ BK493 hb; replace BK494 := yQ BK494 hb; replace HB := yN hb; (try clear hb); (try clear hb2); (try clear hk); (try clear hi); (try clear ho0); (try clear ho1); obtain ⟨Ao19, co19, eo19⟩ := Kd.R_slice HO505.out; subst eo19; obtain ⟨Ao20, co20, eo20⟩ := Kd.R_slice HO508.out; subst eo20) | ((with_reducible refine gate_callee (f := 31) rfl ?_); refine goesL_ (some 33) rfl rfl Try.func31 (by kernel_rfl) rfl #[.agg #[.slice Ao19 t503.length co19, .slice Ao20 t506.length co20]] rfl y6 ?_; (with_reducible refine (heraldref13_Check.calls k _ _ t503 _ _ t506 t509 t510 _ ?side1 ?side2 ?side3 ?side4 A7.out).mono ?_); (case side1 => repeat (first | exact (Kd.R_reads' HO505.out).2.2 | (with_reducible refine yi ?_ _) | (with_reducible refine yj ?_ _) | (with_reducible refine yk ?_))); (case side2 => exact (Kd.R_reads' HO505.out).2.1); (case side3 => repeat (first | exact (Kd.R_reads' HO508.out).2.2 | (with_reducible refine yi ?_ _) | (with_reducible refine yj ?_ _) | (with_reducible refine yk ?_))); (case side4 => exact (Kd.R_reads' HO508.out).2.1); rintro e w21 ⟨rfl, hb⟩; refine ⟨_, rfl, ?_⟩; replace HO497 := ym (yp (by (with_reducible repeat apply y2); exact HO497.out) hb); replace HO500 := ym (yp (by (with_reducible repeat apply y2); exact HO500.out) hb); replace HO505 := ym (yp (by (with_reducible repeat apply y2); exact HO505.out) hb); replace HO508 := ym (yp (by (with_reducible repeat apply y2); exact HO508.out) hb); replace BK493 := yQ BK493 hb; replace BK494 := yQ BK494 hb; replace HB := yN hb; (try clear hb); (try clear hb2); (try clear hk); (try clear hi)))
 (try simp only [Act.put, y0])
 go_cut [45] (fun v45 wc => ∃ (kq : Nat) (x45_7 : Bool), v45 = .bool x45_7 ∧ Aside0 (heraldlaw15_GuideBinds.j0 kq l2 t502 t510 x45_7 l0_0 l0_1 l1_0 l1_1 = some r) ∧ Aside0 (kq ≤ k) ∧ Aside0 (wc.heap[gb493]? = some (.cells #[(.slice A0_0 l0_0.length c0_0), (.slice A0_1 l0_1.length c0_1)] 25 (0, 0))) ∧ Aside0 (wc.heap[gb494]? = some (.cells #[(.slice A1_0 l1_0.length c1_0), (.slice A1_1 l1_1.length c1_1)] 52 (0, 0))) ∧ Aside0 (Below w.heap.size w wc))
 case first =>
  have H := HC8.out; clear HC8; replace H := Option.bind_eq_some_iff.mp H; obtain ⟨t511, A220, H⟩ := H; replace H : (if t511 = true then (if t502 = 0 then (heraldlaw15_GuideBinds.j0 k l2 t502 t510 (t510 != 0) l0_0 l0_1 l1_0 l1_1) else (heraldlaw15_GuideBinds.j0 k l2 t502 t510 true l0_0 l0_1 l1_0 l1_1)) else (heraldlaw15_GuideBinds.j0 k l2 t502 t510 true l0_0 l0_1 l1_0 l1_1)) = some r := H; have A22 := ym A220; clear A220; by_cases c23 : t511 = true
  ·
   subst c23; (have H1 : (if t502 = 0 then (heraldlaw15_GuideBinds.j0 k l2 t502 t510 (t510 != 0) l0_0 l0_1 l1_0 l1_1) else (heraldlaw15_GuideBinds.j0 k l2 t502 t510 true l0_0 l0_1 l1_0 l1_1)) = some r := by rw [if_pos rfl] at H; exact H); clear H; have H := H1; clear H1; by_cases c24 : t502 = 0
   ·
    rw [if_pos c24] at H; have c24b0 : (t502 == 0) = true := beq_iff_eq.mpr c24; have c24b1 : (t502 != 0) = false := bne_eq_false_iff_eq.mpr c24; clear c24
    (first | rw [c24b0] | (simp only [i64_w, i32_w]; rw [c24b0]) | skip)
    have H' := ym H; clear H
    go_wp2_with (first | ((with_reducible refine gate_callee (f := 14) rfl ?_); refine goesL_ (some 36) rfl rfl Try.func14 (by kernel_rfl) rfl #[] rfl y6 ?_; (with_reducible refine (heraldlaw15_awake.calls k  true _ A22.out).mono ?_); rintro e w25 ⟨rfl, hb⟩; refine ⟨_, rfl, ?_⟩; replace HO497 := ym (yp (by (with_reducible repeat apply y2); exact HO497.out) hb); replace HO500 := ym (yp (by (with_reducible repeat apply y2); exact HO500.out) hb); replace HO505 := ym (yp (by (with_reducible repeat apply y2); exact HO505.out) hb); replace HO508 := ym (yp (by (with_reducible repeat apply y2); exact HO508.out) hb); replace BK493 := yQ BK493 hb; replace BK494 := yQ BK494 hb; replace HB := yN hb; (try clear hb); (try clear hb2); (try clear hk); (try clear hi)))
    go_meet
    case rel => exact ⟨_, ((t510 != 0)), y7, H', ⟨by first | omega | exact Nat.le_refl _⟩, ⟨by (with_reducible repeat refine y4 ?_); exact BK493.out⟩, ⟨by (with_reducible repeat refine y4 ?_); exact BK494.out⟩, ⟨by repeat (first | (with_reducible first | exact HB.out | apply y3 | refine ys ?_ GE493.out | refine ys ?_ GE494.out) | exact HB.out)⟩⟩
   rw [if_neg c24] at H; have c24b0 : (t502 == 0) = false := beq_eq_false_iff_ne.mpr c24; have c24b1 : (t502 != 0) = true := bne_iff_ne.mpr c24
   (first | rw [c24b0] | (simp only [i64_w, i32_w]; rw [c24b0]) | skip)
   have H' := ym H; clear H
   go_wp2_with (first | ((with_reducible refine gate_callee (f := 14) rfl ?_); refine goesL_ (some 36) rfl rfl Try.func14 (by kernel_rfl) rfl #[] rfl y6 ?_; (with_reducible refine (heraldlaw15_awake.calls k  true _ A22.out).mono ?_); rintro e w26 ⟨rfl, hb⟩; refine ⟨_, rfl, ?_⟩; replace HO497 := ym (yp (by (with_reducible repeat apply y2); exact HO497.out) hb); replace HO500 := ym (yp (by (with_reducible repeat apply y2); exact HO500.out) hb); replace HO505 := ym (yp (by (with_reducible repeat apply y2); exact HO505.out) hb); replace HO508 := ym (yp (by (with_reducible repeat apply y2); exact HO508.out) hb); replace BK493 := yQ BK493 hb; replace BK494 := yQ BK494 hb; replace HB := yN hb; (try clear hb); (try clear hb2); (try clear hk); (try clear hi)))
   go_meet
   case rel => exact ⟨_, (true), y7, H', ⟨by first | omega | exact Nat.le_refl _⟩, ⟨by (with_reducible repeat refine y4 ?_); exact BK493.out⟩, ⟨by (with_reducible repeat refine y4 ?_); exact BK494.out⟩, ⟨by repeat (first | (with_reducible first | exact HB.out | apply y3 | refine ys ?_ GE493.out | refine ys ?_ GE494.out) | exact HB.out)⟩⟩
  replace c23 := Bool.eq_false_iff.mpr c23; subst c23; (have H1 : (heraldlaw15_GuideBinds.j0 k l2 t502 t510 true l0_0 l0_1 l1_0 l1_1) = some r := by rw [if_neg (show ¬ (false = true) by decide)] at H; exact H); clear H; have H := H1; clear H1; have H' := ym H; clear H
  go_wp2_with (first | ((with_reducible refine gate_callee (f := 14) rfl ?_); refine goesL_ (some 36) rfl rfl Try.func14 (by kernel_rfl) rfl #[] rfl y6 ?_; (with_reducible refine (heraldlaw15_awake.calls k  false _ A22.out).mono ?_); rintro e w27 ⟨rfl, hb⟩; refine ⟨_, rfl, ?_⟩; replace HO497 := ym (yp (by (with_reducible repeat apply y2); exact HO497.out) hb); replace HO500 := ym (yp (by (with_reducible repeat apply y2); exact HO500.out) hb); replace HO505 := ym (yp (by (with_reducible repeat apply y2); exact HO505.out) hb); replace HO508 := ym (yp (by (with_reducible repeat apply y2); exact HO508.out) hb); replace BK493 := yQ BK493 hb; replace BK494 := yQ BK494 hb; replace HB := yN hb; (try clear hb); (try clear hb2); (try clear hk); (try clear hi)))
  go_meet
  case rel => exact ⟨_, (true), y7, H', ⟨by first | omega | exact Nat.le_refl _⟩, ⟨by (with_reducible repeat refine y4 ?_); exact BK493.out⟩, ⟨by (with_reducible repeat refine y4 ?_); exact BK494.out⟩, ⟨by repeat (first | (with_reducible first | exact HB.out | apply y3 | refine ys ?_ GE493.out | refine ys ?_ GE494.out) | exact HB.out)⟩⟩
 case rest =>
  clear HC8; (try clear c1); (try clear c2); (try clear p2); (try clear c3); (try clear c9); (try clear c11); (try clear c13); (try clear c14); (try clear c20); (try clear c23); (try clear c24); (try clear c24b0); (try clear c24b1); (try clear hcz12_0); (try clear hcz12_1); (try clear hcz17_0); (try clear hcz17_1); (try clear hfz12_0); (try clear hfz12_1); (try clear hfz17_0); (try clear hfz17_1); obtain ⟨kq, x45_7, rfl, HA, HJ7, BK493, BK494, HB⟩ := hcut
  cases kq with
  | zero => exact absurd HA.out (by simp [heraldlaw15_GuideBinds.j0])
  | succ kj7 =>
   have H := HA.out; clear HA; simp only [heraldlaw15_GuideBinds.j0] at H; by_cases c28 : x45_7 = true
   ·
    subst c28; (have H1 : ((guide_Mask.f kj7 l0_0 l0_1 l1_0 l1_1 0).bind fun bt512 => ((heraldlaw15_awake.f kj7).bind fun t516 => (if t516 = true then (if t502 = 0 then (some ((bt512.2 != 0) == (t510 != 0))) else (some ((bt512.2 != 0) == true))) else (none)))) = some r := by rw [if_pos rfl] at H; exact H); clear H; have H := H1; clear H1; replace H := Option.bind_eq_some_iff.mp H; obtain ⟨⟨t512, t515⟩, A290, H⟩ := H; replace H : ((heraldlaw15_awake.f kj7).bind fun t516 => (if t516 = true then (if t502 = 0 then (some ((t515 != 0) == (t510 != 0))) else (some ((t515 != 0) == true))) else (none))) = some r := H; have A29 := ym A290; clear A290; replace H := Option.bind_eq_some_iff.mp H; obtain ⟨t516, A300, H⟩ := H; replace H : (if t516 = true then (if t502 = 0 then (some ((t515 != 0) == (t510 != 0))) else (some ((t515 != 0) == true))) else (none)) = some r := H; have A30 := ym A300; clear A300; by_cases c31 : t516 = true
    ·
     subst c31; (have H1 : (if t502 = 0 then (some ((t515 != 0) == (t510 != 0))) else (some ((t515 != 0) == true))) = some r := by rw [if_pos rfl] at H; exact H); clear H; have H := H1; clear H1; by_cases c32 : t502 = 0
     ·
      rw [if_pos c32] at H; have c32b0 : (t502 == 0) = true := beq_iff_eq.mpr c32; have c32b1 : (t502 != 0) = false := bne_eq_false_iff_eq.mpr c32; clear c32; obtain rfl := Option.some.inj H; have hnb33 := NB493_494.out; have hnc33 := NB494_493.out; have hcz34_0 := yW BK493 0; have hcz34_1 := yW BK493 1; have hfz34_0 := yv BK493.out 0; have hfz34_1 := yv BK493.out 1; have hcz35_0 := yW BK494 0; have hcz35_1 := yW BK494 1; have hfz35_0 := yv BK494.out 0; have hfz35_1 := yv BK494.out 1
      go_wp2_with (first | ((with_reducible refine gate_callee (f := 29) rfl ?_); refine goesL_ (some 49) rfl rfl Try.func29 (by kernel_rfl) rfl #[.agg #[.slice A0_0 l0_0.length c0_0, .slice A0_1 l0_1.length c0_1], .agg #[.slice A1_0 l1_0.length c1_0, .slice A1_1 l1_1.length c1_1], .int .i64 0] rfl y6 ?_; (with_reducible refine (guide_Mask.calls kj7 _ _ l0_0 _ _ l0_1 _ _ l1_0 _ _ l1_1 0 t512 t515 _ ?side1 ?side2 ?side3 ?side4 ?side5 ?side6 ?side7 ?side8 A29.out).mono ?_); (case side1 => exact y9 HR0_0); (case side2 => exact HC0_0.out); (case side3 => exact y9 HR0_1); (case side4 => exact HC0_1.out); (case side5 => exact y9 HR1_0); (case side6 => exact HC1_0.out); (case side7 => exact y9 HR1_1); (case side8 => exact HC1_1.out); rintro e w36 ⟨v513, rfl, ho0, hb⟩; refine ⟨_, rfl, ?_⟩; have HO514 := ym (yo ho0 (below_size yb)); replace BK493 := yQ BK493 hb; replace BK494 := yQ BK494 hb; replace HB := yN hb; (try clear hb); (try clear hb2); (try clear hk); (try clear hi); (try clear ho0)) | ((with_reducible refine gate_callee (f := 14) rfl ?_); refine goesL_ (some 52) rfl rfl Try.func14 (by kernel_rfl) rfl #[] rfl y6 ?_; (with_reducible refine (heraldlaw15_awake.calls kj7  true _ A30.out).mono ?_); rintro e w37 ⟨rfl, hb⟩; refine ⟨_, rfl, ?_⟩; replace HO514 := ym (yp (by (with_reducible repeat apply y2); exact HO514.out) hb); replace BK493 := yQ BK493 hb; replace BK494 := yQ BK494 hb; replace HB := yN hb; (try clear hb); (try clear hb2); (try clear hk); (try clear hi)))
      go_ret
      exact ⟨by first | rfl | (simp [errW_none, errW_some] <;> rfl) | (simp [*, errW_none, errW_some] <;> rfl), by repeat (first | (with_reducible first | exact HB.out | apply y3 | refine ys ?_ GE493.out | refine ys ?_ GE494.out) | exact HB.out)⟩
     rw [if_neg c32] at H; have c32b0 : (t502 == 0) = false := beq_eq_false_iff_ne.mpr c32; have c32b1 : (t502 != 0) = true := bne_iff_ne.mpr c32; obtain rfl := Option.some.inj H; have hnb38 := NB493_494.out; have hnc38 := NB494_493.out; have hcz39_0 := yW BK493 0; have hcz39_1 := yW BK493 1; have hfz39_0 := yv BK493.out 0; have hfz39_1 := yv BK493.out 1; have hcz40_0 := yW BK494 0; have hcz40_1 := yW BK494 1; have hfz40_0 := yv BK494.out 0; have hfz40_1 := yv BK494.out 1
     go_wp2_with (first | ((with_reducible refine gate_callee (f := 29) rfl ?_); refine goesL_ (some 49) rfl rfl Try.func29 (by kernel_rfl) rfl #[.agg #[.slice A0_0 l0_0.length c0_0, .slice A0_1 l0_1.length c0_1], .agg #[.slice A1_0 l1_0.length c1_0, .slice A1_1 l1_1.length c1_1], .int .i64 0] rfl y6 ?_; (with_reducible refine (guide_Mask.calls kj7 _ _ l0_0 _ _ l0_1 _ _ l1_0 _ _ l1_1 0 t512 t515 _ ?side1 ?side2 ?side3 ?side4 ?side5 ?side6 ?side7 ?side8 A29.out).mono ?_); (case side1 => exact y9 HR0_0); (case side2 => exact HC0_0.out); (case side3 => exact y9 HR0_1); (case side4 => exact HC0_1.out); (case side5 => exact y9 HR1_0); (case side6 => exact HC1_0.out); (case side7 => exact y9 HR1_1); (case side8 => exact HC1_1.out); rintro e w41 ⟨v513, rfl, ho0, hb⟩; refine ⟨_, rfl, ?_⟩; have HO514 := ym (yo ho0 (below_size yb)); replace BK493 := yQ BK493 hb; replace BK494 := yQ BK494 hb; replace HB := yN hb; (try clear hb); (try clear hb2); (try clear hk); (try clear hi); (try clear ho0)) | ((with_reducible refine gate_callee (f := 14) rfl ?_); refine goesL_ (some 52) rfl rfl Try.func14 (by kernel_rfl) rfl #[] rfl y6 ?_; (with_reducible refine (heraldlaw15_awake.calls kj7  true _ A30.out).mono ?_); rintro e w42 ⟨rfl, hb⟩; refine ⟨_, rfl, ?_⟩; replace HO514 := ym (yp (by (with_reducible repeat apply y2); exact HO514.out) hb); replace BK493 := yQ BK493 hb; replace BK494 := yQ BK494 hb; replace HB := yN hb; (try clear hb); (try clear hb2); (try clear hk); (try clear hi)))
     go_ret
     exact ⟨by first | rfl | (simp [errW_none, errW_some] <;> rfl) | (simp [*, errW_none, errW_some] <;> rfl), by repeat (first | (with_reducible first | exact HB.out | apply y3 | refine ys ?_ GE493.out | refine ys ?_ GE494.out) | exact HB.out)⟩
    replace c31 := Bool.eq_false_iff.mpr c31; subst c31; (have H1 : (none) = some r := by rw [if_neg (show ¬ (false = true) by decide)] at H; exact H); clear H; have H := H1; clear H1; exact absurd H (by simp)
   replace c28 := Bool.eq_false_iff.mpr c28; subst c28; (have H1 : (heraldlaw15_GuideBinds.l0 kj7 l2 0 (⟨#[]⟩ : ByteArray) (([] : List Int)) 0 l0_0 l0_1 l1_0 l1_1) = some r := by rw [if_neg (show ¬ (false = true) by decide)] at H; exact H); clear H; have H := H1; clear H1; obtain ⟨y517, hy517⟩ : ∃ y_ : List Int, y_ = (([] : List Int)) := ⟨_, rfl⟩; (replace H : (heraldlaw15_GuideBinds.l0 kj7 l2 0 (⟨#[]⟩ : ByteArray) y517 0 l0_0 l0_1 l1_0 l1_1) = some r := by first | (rw [hy517]; with_reducible exact H) | (have H2_ := (Option.bind_some _ _).symm.trans H; rw [hy517]; with_reducible exact H2_) | (have H2_ := (Option.bind_some _ _).symm.trans H; with_reducible exact H2_) | with_reducible exact H | (rw [hy517]; exact H) | exact H); have Ny517 := ym hy517; clear hy517; have H' := ym H; clear H
   go_wp2_with (first | ((with_reducible refine gate_dst (N := 64) rfl ?_); refine Kd.R_lit (Kd.int .i64) _ 3 ?hg (N := 64) ?hd (xs := ([] : List Int)) (inner := []) (ok := fun _ => True) (okp := fun _ => True) ?hr ?hp (fun _ hk => hk) trivial (Below.refl _ _) (Nat.le_refl _) (by simp) ?_; (case hd => rfl); (case hg => rfl); (case hr => first | (go_simp; done) | (go_simp; rfl)); (case hp => exact (Reps.none _ _)); intro v518 w43 ho44 hb hg_ hnew_; clear hg_ hnew_; (first | rw [← Ny517.out] at ho44 | (simp only [Int.reduceToNat] at ho44; rw [← Ny517.out] at ho44)); have HO519 := ym (yo ho44 (below_size yb)); replace BK493 := yQ BK493 hb; replace BK494 := yQ BK494 hb; replace HB := yN hb; clear hb ho44))
   go_loopg [13, 14, 15, 16] kj7 (fun kq v13 v14 v15 v16 w' => ∃ (x13_2 : Int) (x14_2 : ByteArray) (x15_2 : List Int) (x16_2 : Int), v13 = .int .i64 x13_2 ∧ v14 = .string x14_2 ∧ v16 = .int .i64 x16_2 ∧ Aside0 (heraldlaw15_GuideBinds.l0 kq l2 x13_2 x14_2 x15_2 x16_2 l0_0 l0_1 l1_0 l1_1 = some r) ∧ Aside0 (kq ≤ kj7) ∧ Aside0 (Kd.R (Kd.int .i64) 3 w' w.heap.size (fun _ => True) v15 x15_2) ∧ Aside0 (w'.heap[gb493]? = some (.cells #[(.slice A0_0 l0_0.length c0_0), (.slice A0_1 l0_1.length c0_1)] 25 (0, 0))) ∧ Aside0 (w'.heap[gb494]? = some (.cells #[(.slice A1_0 l1_0.length c1_0), (.slice A1_1 l1_1.length c1_1)] 52 (0, 0))) ∧ Aside0 (Below w.heap.size w w'))
   case atStart => exact ⟨(0), ((⟨#[]⟩ : ByteArray)), (y517), (0), y7, y7, y7, H', ⟨Nat.le_refl _⟩, ⟨by (with_reducible repeat apply y2); exact HO519.out⟩, ⟨by (with_reducible repeat refine y4 ?_); exact BK493.out⟩, ⟨by (with_reducible repeat refine y4 ?_); exact BK494.out⟩, ⟨by repeat (first | (with_reducible first | exact HB.out | apply y3 | refine ys ?_ GE493.out | refine ys ?_ GE494.out) | exact HB.out)⟩⟩
   case round =>
    clear H'; (try clear c1); (try clear c2); (try clear p2); (try clear c3); (try clear c9); (try clear c11); (try clear c13); (try clear c14); (try clear c20); (try clear c23); (try clear c24); (try clear c24b0); (try clear c24b1); (try clear c28); (try clear c29); (try clear c31); (try clear c32); (try clear c32b0); (try clear c32b1); (try clear c33); (try clear c38); (try clear hcz12_0); (try clear hcz12_1); (try clear hcz17_0); (try clear hcz17_1); (try clear hcz34_0); (try clear hcz34_1); (try clear hcz35_0); (try clear hcz35_1); (try clear hcz39_0); (try clear hcz39_1); (try clear hcz40_0); (try clear hcz40_1); (try clear hfz12_0); (try clear hfz12_1); (try clear hfz17_0); (try clear hfz17_1); (try clear hfz34_0); (try clear hfz34_1); (try clear hfz35_0); (try clear hfz35_1); (try clear hfz39_0); (try clear hfz39_1); (try clear hfz40_0); (try clear hfz40_1); (try clear p2); obtain ⟨x13_2, x14_2, x15_2, x16_2, rfl, rfl, rfl, HA, HK2, HO_15, BK493, BK494, HB⟩ := hrel
    cases gk with
    | zero => exact absurd HA.out (by simp [heraldlaw15_GuideBinds.l0])
    | succ k2 =>
     have H := HA.out; clear HA; simp only [heraldlaw15_GuideBinds.l0] at H; by_cases c45 : x16_2 < (l2.length : Int)
     ·
      rw [if_pos c45] at H; have c45b0 : decide (x16_2 < (l2.length : Int)) = true := decide_eq_true c45; clear c45; replace H := Option.bind_eq_some_iff.mp H; obtain ⟨⟨t520, t523⟩, A460, H⟩ := H; replace H : (if t523 = 0 then (heraldlaw15_GuideBinds.j2 k2 l2 x13_2 x14_2 x15_2 x16_2 t520 ((t520.length : Int) != (l1_0.length : Int)) l0_0 l0_1 l1_0 l1_1) else (heraldlaw15_GuideBinds.j2 k2 l2 x13_2 x14_2 x15_2 x16_2 t520 true l0_0 l0_1 l1_0 l1_1)) = some r := H; have A46 := ym A460; clear A460; have HC47 := ym H; clear H; have hnb48 := NB493_494.out; have hnc48 := NB494_493.out; have hcz49_0 := yW BK493 0; have hcz49_1 := yW BK493 1; have hfz49_0 := yv BK493.out 0; have hfz49_1 := yv BK493.out 1; have hcz50_0 := yW BK494 0; have hcz50_1 := yW BK494 1; have hfz50_0 := yv BK494.out 0; have hfz50_1 := yv BK494.out 1
      go_upto_region 12 with (first | ((with_reducible refine gate_callee (f := 29) rfl ?_); refine goesL_ (some 75) rfl rfl Try.func29 (by kernel_rfl) rfl #[.agg #[.slice A0_0 l0_0.length c0_0, .slice A0_1 l0_1.length c0_1], .agg #[.slice A1_0 l1_0.length c1_0, .slice A1_1 l1_1.length c1_1], .int .i64 x13_2] rfl y6 ?_; (with_reducible refine (guide_Mask.calls k2 _ _ l0_0 _ _ l0_1 _ _ l1_0 _ _ l1_1 x13_2 t520 t523 _ ?side1 ?side2 ?side3 ?side4 ?side5 ?side6 ?side7 ?side8 A46.out).mono ?_); (case side1 => exact y9 HR0_0); (case side2 => exact HC0_0.out); (case side3 => exact y9 HR0_1); (case side4 => exact HC0_1.out); (case side5 => exact y9 HR1_0); (case side6 => exact HC1_0.out); (case side7 => exact y9 HR1_1); (case side8 => exact HC1_1.out); rintro e w51 ⟨v521, rfl, ho0, hb⟩; refine ⟨_, rfl, ?_⟩; replace HO_15 := ym (yp (by (with_reducible repeat apply y2); exact HO_15.out) hb); have HO522 := ym (yo ho0 (below_size yb)); replace BK493 := yQ BK493 hb; replace BK494 := yQ BK494 hb; replace HB := yN hb; (try clear hb); (try clear hb2); (try clear hk); (try clear hi); (try clear ho0)))
      (try simp only [Act.put, y0])
      go_cut [87] (fun v87 wc => ∃ (kq : Nat) (x87_46 : Bool), v87 = .bool x87_46 ∧ Aside0 (heraldlaw15_GuideBinds.j2 kq l2 x13_2 x14_2 x15_2 x16_2 t520 x87_46 l0_0 l0_1 l1_0 l1_1 = some r) ∧ Aside0 (kq ≤ k2) ∧ Aside0 (Kd.R (Kd.int .i64) 3 wc w.heap.size (fun _ => True) u15 x15_2) ∧ Aside0 (Kd.R Kd.bool 4 wc w.heap.size (fun _ => True) v521 t520) ∧ Aside0 (wc.heap[gb493]? = some (.cells #[(.slice A0_0 l0_0.length c0_0), (.slice A0_1 l0_1.length c0_1)] 25 (0, 0))) ∧ Aside0 (wc.heap[gb494]? = some (.cells #[(.slice A1_0 l1_0.length c1_0), (.slice A1_1 l1_1.length c1_1)] 52 (0, 0))) ∧ Aside0 (Below w.heap.size w wc))
      case first =>
       have H := HC47.out; clear HC47; by_cases c52 : t523 = 0
       ·
        rw [if_pos c52] at H; have c52b0 : (t523 == 0) = true := beq_iff_eq.mpr c52; have c52b1 : (t523 != 0) = false := bne_eq_false_iff_eq.mpr c52; clear c52
        (first | rw [c52b0] | (simp only [i64_w, i32_w]; rw [c52b0]) | skip)
        have H' := ym H; clear H; obtain ⟨Ao53, co53, eo53⟩ := Kd.R_slice HO522.out; subst eo53; have hnb54 := NB494_493.out; have hnc54 := NB493_494.out; have hcz55_0 := yW BK494 0; have hcz55_1 := yW BK494 1; have hfz55_0 := yv BK494.out 0; have hfz55_1 := yv BK494.out 1
        go_wp2
        go_meet
        case rel => exact ⟨_, (((t520.length : Int) != (l1_0.length : Int))), y7, H', ⟨by have := HJ7.out; have := HK2.out; first | omega | exact Nat.le_refl _⟩, ⟨by (with_reducible repeat apply y2); exact HO_15.out⟩, ⟨by (with_reducible repeat apply y2); exact HO522.out⟩, ⟨by (with_reducible repeat refine y4 ?_); exact BK493.out⟩, ⟨by (with_reducible repeat refine y4 ?_); exact BK494.out⟩, ⟨by repeat (first | (with_reducible first | exact HB.out | apply y3 | refine ys ?_ GE493.out | refine ys ?_ GE494.out) | exact HB.out)⟩⟩
       rw [if_neg c52] at H; have c52b0 : (t523 == 0) = false := beq_eq_false_iff_ne.mpr c52; have c52b1 : (t523 != 0) = true := bne_iff_ne.mpr c52
       (first | rw [c52b0] | (simp only [i64_w, i32_w]; rw [c52b0]) | skip)
       have H' := ym H; clear H
       go_wp2
       go_meet
       case rel => exact ⟨_, (true), y7, H', ⟨by have := HJ7.out; have := HK2.out; first | omega | exact Nat.le_refl _⟩, ⟨by (with_reducible repeat apply y2); exact HO_15.out⟩, ⟨by (with_reducible repeat apply y2); exact HO522.out⟩, ⟨by (with_reducible repeat refine y4 ?_); exact BK493.out⟩, ⟨by (with_reducible repeat refine y4 ?_); exact BK494.out⟩, ⟨by repeat (first | (with_reducible first | exact HB.out | apply y3 | refine ys ?_ GE493.out | refine ys ?_ GE494.out) | exact HB.out)⟩⟩
      case rest =>
       clear HC47; (try clear c1); (try clear c2); (try clear p2); (try clear c3); (try clear c4); (try clear c5); (try clear c9); (try clear c11); (try clear c13); (try clear c14); (try clear c20); (try clear c23); (try clear c24); (try clear c24b0); (try clear c24b1); (try clear c28); (try clear c29); (try clear c31); (try clear c32); (try clear c32b0); (try clear c32b1); (try clear c33); (try clear c38); (try clear c45); (try clear c45b0); (try clear c48); (try clear c52); (try clear c52b0); (try clear c52b1); (try clear c54); (try clear hcz12_0); (try clear hcz12_1); (try clear hcz17_0); (try clear hcz17_1); (try clear hcz34_0); (try clear hcz34_1); (try clear hcz35_0); (try clear hcz35_1); (try clear hcz39_0); (try clear hcz39_1); (try clear hcz40_0); (try clear hcz40_1); (try clear hcz49_0); (try clear hcz49_1); (try clear hcz50_0); (try clear hcz50_1); (try clear hcz55_0); (try clear hcz55_1); (try clear hfz12_0); (try clear hfz12_1); (try clear hfz17_0); (try clear hfz17_1); (try clear hfz34_0); (try clear hfz34_1); (try clear hfz35_0); (try clear hfz35_1); (try clear hfz39_0); (try clear hfz39_1); (try clear hfz40_0); (try clear hfz40_1); (try clear hfz49_0); (try clear hfz49_1); (try clear hfz50_0); (try clear hfz50_1); (try clear hfz55_0); (try clear hfz55_1); (try clear p2); obtain ⟨kq, x87_46, rfl, HA, HJ46, HO_15, HO_17, BK493, BK494, HB⟩ := hcut
       cases kq with
       | zero => exact absurd HA.out (by simp [heraldlaw15_GuideBinds.j2])
       | succ kj46 =>
        have H := HA.out; clear HA; simp only [heraldlaw15_GuideBinds.j2] at H; by_cases c56 : x87_46 = true
        ·
         subst c56; (have H1 : (none) = some r := by rw [if_pos rfl] at H; exact H); clear H; have H := H1; clear H1; exact absurd H (by simp)
        replace c56 := Bool.eq_false_iff.mpr c56; subst c56; (have H1 : (heraldlaw15_GuideBinds.l1 kj46 l2 x13_2 x14_2 x15_2 x16_2 t520 (([] : List Int)) 0 l0_0 l0_1 l1_0 l1_1) = some r := by rw [if_neg (show ¬ (false = true) by decide)] at H; exact H); clear H; have H := H1; clear H1; obtain ⟨y524, hy524⟩ : ∃ y_ : List Int, y_ = (([] : List Int)) := ⟨_, rfl⟩; (replace H : (heraldlaw15_GuideBinds.l1 kj46 l2 x13_2 x14_2 x15_2 x16_2 t520 y524 0 l0_0 l0_1 l1_0 l1_1) = some r := by first | (rw [hy524]; with_reducible exact H) | (have H2_ := (Option.bind_some _ _).symm.trans H; rw [hy524]; with_reducible exact H2_) | (have H2_ := (Option.bind_some _ _).symm.trans H; with_reducible exact H2_) | with_reducible exact H | (rw [hy524]; exact H) | exact H); have Ny524 := ym hy524; clear hy524; have H' := ym H; clear H
        go_wp2_with (first | ((with_reducible refine gate_dst (N := 88) rfl ?_); refine Kd.R_lit (Kd.int .i64) _ 3 ?hg (N := 88) ?hd (xs := ([] : List Int)) (inner := []) (ok := fun _ => True) (okp := fun _ => True) ?hr ?hp (fun _ hk => hk) trivial (Below.refl _ _) (Nat.le_refl _) (by simp) ?_; (case hd => rfl); (case hg => rfl); (case hr => first | (go_simp; done) | (go_simp; rfl)); (case hp => exact (Reps.none _ _)); intro v525 w57 ho58 hb hg_ hnew_; clear hg_ hnew_; (first | rw [← Ny524.out] at ho58 | (simp only [Int.reduceToNat] at ho58; rw [← Ny524.out] at ho58)); replace HO_17 := ym (yp (by (with_reducible repeat apply y2); exact HO_17.out) hb); have HO526 := ym (yo (Kd.R_new' ho58 (Kd.R_lt (by (with_reducible repeat apply y2); exact HO_15.out))) (below_size yb)); replace HO_15 := ym (Kd.R_elder' (by (with_reducible repeat apply y2); exact HO_15.out) (Kd.R_base ho58) hb); replace BK493 := yQ BK493 hb; replace BK494 := yQ BK494 hb; replace HB := yN hb; clear hb ho58))
        go_loopg [19, 20] kj46 (fun kq v19 v20 w' => ∃ (x19_4 : List Int) (x20_4 : Int), v20 = .int .i64 x20_4 ∧ Aside0 (heraldlaw15_GuideBinds.l1 kq l2 x13_2 x14_2 x15_2 x16_2 t520 x19_4 x20_4 l0_0 l0_1 l1_0 l1_1 = some r) ∧ Aside0 (kq ≤ kj46) ∧ Aside0 (Kd.R (Kd.int .i64) 3 w' w.heap.size (fun k_ => some k_ ≠ (v19 : Value).ownBlock) u15 x15_2) ∧ Aside0 (Kd.R Kd.bool 4 w' w.heap.size (fun _ => True) v521 t520) ∧ Aside0 (Kd.R (Kd.int .i64) 3 w' w.heap.size (fun k_ => some k_ ≠ (u15 : Value).ownBlock) v19 x19_4) ∧ Aside0 (w'.heap[gb493]? = some (.cells #[(.slice A0_0 l0_0.length c0_0), (.slice A0_1 l0_1.length c0_1)] 25 (0, 0))) ∧ Aside0 (w'.heap[gb494]? = some (.cells #[(.slice A1_0 l1_0.length c1_0), (.slice A1_1 l1_1.length c1_1)] 52 (0, 0))) ∧ Aside0 (Below w.heap.size w w'))
        case atStart => exact ⟨(y524), (0), y7, H', ⟨Nat.le_refl _⟩, ⟨by (with_reducible repeat apply y2); exact Kd.R_mono HO_15.out (fun _ hk => hk.2)⟩, ⟨by (with_reducible repeat apply y2); exact HO_17.out⟩, ⟨by (with_reducible repeat apply y2); exact Kd.R_mono HO526.out (fun _ hk => hk.2)⟩, ⟨by (with_reducible repeat refine y4 ?_); exact BK493.out⟩, ⟨by (with_reducible repeat refine y4 ?_); exact BK494.out⟩, ⟨by repeat (first | (with_reducible first | exact HB.out | apply y3 | refine ys ?_ GE493.out | refine ys ?_ GE494.out) | exact HB.out)⟩⟩
        case round =>
         clear H'; (try clear c1); (try clear c2); (try clear p2); (try clear c3); (try clear c4); (try clear c5); (try clear c9); (try clear c11); (try clear c13); (try clear c14); (try clear c20); (try clear c23); (try clear c24); (try clear c24b0); (try clear c24b1); (try clear c28); (try clear c29); (try clear c31); (try clear c32); (try clear c32b0); (try clear c32b1); (try clear c33); (try clear c38); (try clear c45); (try clear c45b0); (try clear c48); (try clear c52); (try clear c52b0); (try clear c52b1); (try clear c54); (try clear c56); (try clear hcz12_0); (try clear hcz12_1); (try clear hcz17_0); (try clear hcz17_1); (try clear hcz34_0); (try clear hcz34_1); (try clear hcz35_0); (try clear hcz35_1); (try clear hcz39_0); (try clear hcz39_1); (try clear hcz40_0); (try clear hcz40_1); (try clear hcz49_0); (try clear hcz49_1); (try clear hcz50_0); (try clear hcz50_1); (try clear hcz55_0); (try clear hcz55_1); (try clear hfz12_0); (try clear hfz12_1); (try clear hfz17_0); (try clear hfz17_1); (try clear hfz34_0); (try clear hfz34_1); (try clear hfz35_0); (try clear hfz35_1); (try clear hfz39_0); (try clear hfz39_1); (try clear hfz40_0); (try clear hfz40_1); (try clear hfz49_0); (try clear hfz49_1); (try clear hfz50_0); (try clear hfz50_1); (try clear hfz55_0); (try clear hfz55_1); (try clear p2); obtain ⟨x19_4, x20_4, rfl, HA, HK4, HO_15, HO_17, HO_19, BK493, BK494, HB⟩ := hrel
         cases gk with
         | zero => exact absurd HA.out (by simp [heraldlaw15_GuideBinds.l1])
         | succ k4 =>
          have H := HA.out; clear HA; simp only [heraldlaw15_GuideBinds.l1] at H; by_cases c59 : x20_4 < (t520.length : Int)
          ·
           rw [if_pos c59] at H; have c59b0 : decide (x20_4 < (t520.length : Int)) = true := decide_eq_true c59; clear c59; by_cases c60 : 0 ≤ x20_4
           ·
            rw [if_pos c60] at H; have c60b0 : decide (0 ≤ x20_4) = true := decide_eq_true c60; clear c60; obtain ⟨bq61, hbq61⟩ : ∃ b_ : Bool, b_ = (rdOf false t520 x20_4) := ⟨_, rfl⟩; (replace H : (if bq61 = true then (if x19_4.length < 17592186044416 then (heraldlaw15_GuideBinds.l1 k4 l2 x13_2 x14_2 x15_2 x16_2 t520 (x19_4 ++ [x20_4]) (wrap64 (x20_4 + 1)) l0_0 l0_1 l1_0 l1_1) else (none)) else (heraldlaw15_GuideBinds.l1 k4 l2 x13_2 x14_2 x15_2 x16_2 t520 x19_4 (wrap64 (x20_4 + 1)) l0_0 l0_1 l1_0 l1_1)) = some r := by rw [← hbq61] at H; exact H); have Nbq61 := ym hbq61; clear hbq61; by_cases c62 : bq61 = true
            ·
             subst c62; (have H1 : (if x19_4.length < 17592186044416 then (heraldlaw15_GuideBinds.l1 k4 l2 x13_2 x14_2 x15_2 x16_2 t520 (x19_4 ++ [x20_4]) (wrap64 (x20_4 + 1)) l0_0 l0_1 l1_0 l1_1) else (none)) = some r := by rw [if_pos rfl] at H; exact H); clear H; have H := H1; clear H1; by_cases c63 : x19_4.length < 17592186044416
             ·
              rw [if_pos c63] at H; have LMc63 := ym c63; clear c63; obtain ⟨y528, hy528⟩ : ∃ y_ : List Int, y_ = (x19_4 ++ [x20_4]) := ⟨_, rfl⟩; (replace H : (heraldlaw15_GuideBinds.l1 k4 l2 x13_2 x14_2 x15_2 x16_2 t520 y528 (wrap64 (x20_4 + 1)) l0_0 l0_1 l1_0 l1_1) = some r := by first | (rw [hy528]; with_reducible exact H) | (have H2_ := (Option.bind_some _ _).symm.trans H; rw [hy528]; with_reducible exact H2_) | (have H2_ := (Option.bind_some _ _).symm.trans H; with_reducible exact H2_) | with_reducible exact H | (rw [hy528]; exact H) | exact H); have Ny528 := ym hy528; clear hy528; have H' := ym H; clear H; obtain ⟨Ao64, co64, eo64⟩ := Kd.R_slice HO_17.out; subst eo64; have p527 : 0 ≤ (x20_4 : Int) := of_decide_eq_true y5; have q527 : x20_4 < (t520.length : Int) := of_decide_eq_true y5; obtain ⟨ad527, e527, hx527_0⟩ := Kd.at_bool (Kd.R_reads' HO_17.out).2.2 x20_4 p527 q527; (try rw [← Nbq61.out] at hx527_0)
              cases e527
              replace p527 := eq_true p527; replace q527 := eq_true q527
              go_wp2_with (first | ((with_reducible refine gate_builtin (b := .append) (xs := #[.tmp 99, .tmp 101]) rfl ?_); at_builtin; refine Kd.R_append (Kd.int .i64) (w0 := w) w.heap.size rfl (.tmp 99) (.tmp 101) 53 3 (.int .i64 0) 8 rfl Try.underlying53 info3 rfl (by decide) (by omega) u19 x19_4 x20_4 [.int .i64 x20_4] (fun k_ => some k_ ≠ (u15 : Value).ownBlock) (fun _ => False) rfl rfl ?aP (fun _ hk => hk.elim) ?aF ?aO ?aB ?aS ?aL ?_; (case aP => exact rfl); (case aB => exact yb); (case aF => exact (fun k_ hk => Kd.fresh' (Kd.R_lt (by (with_reducible repeat apply y2); exact HO_15.out)) k_ hk)); (case aO => exact (by (with_reducible repeat apply y2); exact HO_19.out)); (case aS => exact (below_size yb)); (case aL => have := LMc63.out; omega); intro v529 w65 ho hb hg hat; rw [← Ny528.out] at ho; replace HO_15 := ym (Kd.R_after (ok := (fun _ => True)) (by (with_reducible repeat apply y2); exact Kd.R_mono HO_15.out (fun _ hk => ⟨trivial, hk⟩)) hg hat); replace HO_17 := ym (Kd.R_over' (by (with_reducible repeat apply y2); exact HO_17.out) (Kd.R_typed (by (with_reducible repeat apply y2); exact HO_19.out)) (by decide) hg); replace BK493 := ym (blk_grown (g := gb493) (o := .cells #[.slice A0_0 l0_0.length c0_0, .slice A0_1 l0_1.length c0_1] 25 (0, 0)) (yc BK493) hg (Kd.R_ne HO_19.out BK493.out (by decide))); replace BK494 := ym (blk_grown (g := gb494) (o := .cells #[.slice A1_0 l1_0.length c1_0, .slice A1_1 l1_1.length c1_1] 52 (0, 0)) (yc BK494) hg (Kd.R_ne HO_19.out BK494.out (by decide))); replace HB := ym (hb); have HO530 := ym (ho); clear HO_19; clear ho hb hg hat))
              go_roundg k4
              case measure => have := HJ7.out; have := HK2.out; have := HJ46.out; have := HK4.out; omega
              case rel => exact ⟨(y528), (wrap64 (x20_4 + 1)), y7, H', ⟨by have := HJ7.out; have := HK2.out; have := HJ46.out; have := HK4.out; omega⟩, ⟨by (with_reducible repeat apply y2); exact Kd.R_mono HO_15.out (fun _ hk => hk.2)⟩, ⟨by (with_reducible repeat apply y2); exact HO_17.out⟩, ⟨by (with_reducible repeat apply y2); exact HO530.out⟩, ⟨by (with_reducible repeat refine y4 ?_); exact BK493.out⟩, ⟨by (with_reducible repeat refine y4 ?_); exact BK494.out⟩, ⟨by repeat (first | (with_reducible first | exact HB.out | apply y3 | refine ys ?_ GE493.out | refine ys ?_ GE494.out) | exact HB.out)⟩⟩
             rw [if_neg c63] at H; exact absurd H (by simp)
            replace c62 := Bool.eq_false_iff.mpr c62; subst c62; (have H1 : (heraldlaw15_GuideBinds.l1 k4 l2 x13_2 x14_2 x15_2 x16_2 t520 x19_4 (wrap64 (x20_4 + 1)) l0_0 l0_1 l1_0 l1_1) = some r := by rw [if_neg (show ¬ (false = true) by decide)] at H; exact H); clear H; have H := H1; clear H1; have H' := ym H; clear H; obtain ⟨Ao66, co66, eo66⟩ := Kd.R_slice HO_17.out; subst eo66; have p527 : 0 ≤ (x20_4 : Int) := of_decide_eq_true y5; have q527 : x20_4 < (t520.length : Int) := of_decide_eq_true y5; obtain ⟨ad527, e527, hx527_0⟩ := Kd.at_bool (Kd.R_reads' HO_17.out).2.2 x20_4 p527 q527; (try rw [← Nbq61.out] at hx527_0)
            cases e527
            replace p527 := eq_true p527; replace q527 := eq_true q527
            go_wp2
            go_roundg k4
            case measure => have := HJ7.out; have := HK2.out; have := HJ46.out; have := HK4.out; omega
            case rel => exact ⟨(x19_4), (wrap64 (x20_4 + 1)), y7, H', ⟨by have := HJ7.out; have := HK2.out; have := HJ46.out; have := HK4.out; omega⟩, ⟨by (with_reducible repeat apply y2); exact HO_15.out⟩, ⟨by (with_reducible repeat apply y2); exact HO_17.out⟩, ⟨by (with_reducible repeat apply y2); exact HO_19.out⟩, ⟨by (with_reducible repeat refine y4 ?_); exact BK493.out⟩, ⟨by (with_reducible repeat refine y4 ?_); exact BK494.out⟩, ⟨by repeat (first | (with_reducible first | exact HB.out | apply y3 | refine ys ?_ GE493.out | refine ys ?_ GE494.out) | exact HB.out)⟩⟩
           rw [if_neg c60] at H; exact absurd H (by simp)
          rw [if_neg c59] at H; have c59b0 : decide (x20_4 < (t520.length : Int)) = false := decide_eq_false c59; clear c59; by_cases c67 : (x19_4.length : Int) = 0
          ·
           rw [if_pos c67] at H; exact absurd H (by simp)
          rw [if_neg c67] at H; have c67b0 : ((x19_4.length : Int) == 0) = false := beq_eq_false_iff_ne.mpr c67; have c67b1 : ((x19_4.length : Int) != 0) = true := bne_iff_ne.mpr c67; have c67b2 : ¬ (x19_4 = []) := fun h_ => c67 (by rw [h_]; rfl); by_cases c68 : 0 ≤ x16_2
          ·
           rw [if_pos c68] at H; have c68b0 : decide (0 ≤ x16_2) = true := decide_eq_true c68; clear c68; by_cases c69 : x16_2 < (l2.length : Int)
           ·
            rw [if_pos c69] at H; have c69b0 : decide (x16_2 < (l2.length : Int)) = true := decide_eq_true c69; clear c69; obtain ⟨ji70, hji70⟩ : ∃ j_ : Int, (Int.tmod (wrap64 ((Int.tmod (rd l2 x16_2) (x19_4.length : Int)) + (x19_4.length : Int))) (x19_4.length : Int)) = j_ := ⟨_, rfl⟩; (replace H : (if 0 ≤ (ji70) then (if (ji70) < (x19_4.length : Int) then (if (rd x19_4 (ji70)) = 0 then ((guide_Accepts.f k4 l0_0 l0_1 x14_2).bind fun t533 => (if t533 = true then (some true) else (some ((x19_4.length : Int) == 1)))) else (if 0 ≤ (rd x19_4 (ji70)) then (if (rd x19_4 (ji70)) < (l1_0.length : Int) then (if x14_2.size + (rdOf ByteArray.empty l1_0 (rd x19_4 (ji70))).size ≤ 9223372036854775807 then (if x15_2.length < 17592186044416 then ((some (x15_2 ++ [rd x19_4 (ji70)] : List Int)).bind fun y535 => ((guide_Next.f k4 l0_0 l0_1 l1_0 l1_1 x13_2 (rd x19_4 (ji70))).bind fun t538 => ((guide_Walk.f k4 l0_0 l0_1 0 (x14_2 ++ (rdOf ByteArray.empty l1_0 (rd x19_4 (ji70))))).bind fun t539 => (if t538 = t539 then ((guide_State.f k4 l0_0 l0_1 l1_0 l1_1 y535).bind fun t540 => (if t538 = t540 then (heraldlaw15_GuideBinds.j4 k4 l2 t538 (x14_2 ++ (rdOf ByteArray.empty l1_0 (rd x19_4 (ji70)))) y535 x16_2 (decide (t538 < 0)) l0_0 l0_1 l1_0 l1_1) else (heraldlaw15_GuideBinds.j4 k4 l2 t538 (x14_2 ++ (rdOf ByteArray.empty l1_0 (rd x19_4 (ji70)))) y535 x16_2 true l0_0 l0_1 l1_0 l1_1))) else (heraldlaw15_GuideBinds.j4 k4 l2 t538 (x14_2 ++ (rdOf ByteArray.empty l1_0 (rd x19_4 (ji70)))) y535 x16_2 true l0_0 l0_1 l1_0 l1_1))))) else (none)) else (none)) else (none)) else (none))) else (none)) else (none)) = some r := by first | (rw [hji70] at H; exact H) | (simp only [hji70] at H ⊢; exact H)); by_cases c71 : 0 ≤ (ji70)
            ·
             rw [if_pos c71] at H; have c71b0 : decide (0 ≤ (ji70)) = true := decide_eq_true c71; clear c71; by_cases c72 : (ji70) < (x19_4.length : Int)
             ·
              rw [if_pos c72] at H; have c72b0 : decide ((ji70) < (x19_4.length : Int)) = true := decide_eq_true c72; clear c72; by_cases c73 : (rd x19_4 (ji70)) = 0
              ·
               rw [if_pos c73] at H; have c73b0 : ((rd x19_4 (ji70)) == 0) = true := beq_iff_eq.mpr c73; have c73b1 : ((rd x19_4 (ji70)) != 0) = false := bne_eq_false_iff_eq.mpr c73; clear c73; replace H := Option.bind_eq_some_iff.mp H; obtain ⟨t533, A740, H⟩ := H; replace H : (if t533 = true then (some true) else (some ((x19_4.length : Int) == 1))) = some r := H; have A74 := ym A740; clear A740; by_cases c75 : t533 = true
               ·
                subst c75; (have H1 : (some true) = some r := by rw [if_pos rfl] at H; exact H); clear H; have H := H1; clear H1; obtain rfl := Option.some.inj H; obtain ⟨Ao76, co76, eo76⟩ := Kd.R_slice HO_17.out; subst eo76; obtain ⟨Ao77, co77, eo77⟩ := Kd.R_slice HO_19.out; subst eo77; have p531 : 0 ≤ (x16_2 : Int) := of_decide_eq_true y5; have q531 : x16_2 < (l2.length : Int) := of_decide_eq_true y5; obtain ⟨ad531, e531, hx531_0⟩ := Kd.at_int HR2.out x16_2 p531 q531
                cases e531
                replace hx531_0 := (HB.out.cell (World.block_lt_of_cell? w _ hx531_0)).trans hx531_0; replace p531 := eq_true p531; replace q531 := eq_true q531; have p532 : 0 ≤ ((ji70) : Int) := of_decide_eq_true y5; have q532 : (ji70) < (x19_4.length : Int) := of_decide_eq_true y5; obtain ⟨ad532, e532, hx532_0⟩ := Kd.at_int (Kd.R_reads' HO_19.out).2.2 (ji70) p532 q532
                cases e532
                replace p532 := eq_true p532; replace q532 := eq_true q532; have hnb78 := NB493_494.out; have hnc78 := NB494_493.out; have hcz79_0 := yW BK493 0; have hcz79_1 := yW BK493 1; have hfz79_0 := yv BK493.out 0; have hfz79_1 := yv BK493.out 1
                go_wp2_with (first | ((with_reducible refine gate_callee (f := 17) rfl ?_); refine goesL_ (some 126) rfl rfl Try.func17 (by kernel_rfl) rfl #[.agg #[.slice A0_0 l0_0.length c0_0, .slice A0_1 l0_1.length c0_1], .string x14_2] rfl y6 ?_; (with_reducible refine (guide_Accepts.calls k4 _ _ l0_0 _ _ l0_1 x14_2 true _ ?side1 ?side2 ?side3 ?side4 A74.out).mono ?_); (case side1 => exact y9 HR0_0); (case side2 => exact HC0_0.out); (case side3 => exact y9 HR0_1); (case side4 => exact HC0_1.out); rintro e w80 ⟨rfl, hb⟩; refine ⟨_, rfl, ?_⟩; replace HO_15 := ym (yp (by (with_reducible repeat apply y2); exact HO_15.out) hb); replace HO_17 := ym (yp (by (with_reducible repeat apply y2); exact HO_17.out) hb); replace HO_19 := ym (yp (by (with_reducible repeat apply y2); exact HO_19.out) hb); replace BK493 := yQ BK493 hb; replace BK494 := yQ BK494 hb; replace HB := yN hb; (try clear hb); (try clear hb2); (try clear hk); (try clear hi)))
                go_ret
                exact ⟨by first | rfl | (simp [errW_none, errW_some] <;> rfl) | (simp only [← hji70]; first | rfl | (simp [errW_none, errW_some] <;> rfl)) | (simp [*, errW_none, errW_some] <;> rfl), by repeat (first | (with_reducible first | exact HB.out | apply y3 | refine ys ?_ GE493.out | refine ys ?_ GE494.out) | exact HB.out)⟩
               replace c75 := Bool.eq_false_iff.mpr c75; subst c75; (have H1 : (some ((x19_4.length : Int) == 1)) = some r := by rw [if_neg (show ¬ (false = true) by decide)] at H; exact H); clear H; have H := H1; clear H1; obtain rfl := Option.some.inj H; obtain ⟨Ao81, co81, eo81⟩ := Kd.R_slice HO_17.out; subst eo81; obtain ⟨Ao82, co82, eo82⟩ := Kd.R_slice HO_19.out; subst eo82; have p531 : 0 ≤ (x16_2 : Int) := of_decide_eq_true y5; have q531 : x16_2 < (l2.length : Int) := of_decide_eq_true y5; obtain ⟨ad531, e531, hx531_0⟩ := Kd.at_int HR2.out x16_2 p531 q531
               cases e531
               replace hx531_0 := (HB.out.cell (World.block_lt_of_cell? w _ hx531_0)).trans hx531_0; replace p531 := eq_true p531; replace q531 := eq_true q531; have p532 : 0 ≤ ((ji70) : Int) := of_decide_eq_true y5; have q532 : (ji70) < (x19_4.length : Int) := of_decide_eq_true y5; obtain ⟨ad532, e532, hx532_0⟩ := Kd.at_int (Kd.R_reads' HO_19.out).2.2 (ji70) p532 q532
               cases e532
               replace p532 := eq_true p532; replace q532 := eq_true q532; have hnb83 := NB493_494.out; have hnc83 := NB494_493.out; have hcz84_0 := yW BK493 0; have hcz84_1 := yW BK493 1; have hfz84_0 := yv BK493.out 0; have hfz84_1 := yv BK493.out 1
               go_wp2_with (first | ((with_reducible refine gate_callee (f := 17) rfl ?_); refine goesL_ (some 126) rfl rfl Try.func17 (by kernel_rfl) rfl #[.agg #[.slice A0_0 l0_0.length c0_0, .slice A0_1 l0_1.length c0_1], .string x14_2] rfl y6 ?_; (with_reducible refine (guide_Accepts.calls k4 _ _ l0_0 _ _ l0_1 x14_2 false _ ?side1 ?side2 ?side3 ?side4 A74.out).mono ?_); (case side1 => exact y9 HR0_0); (case side2 => exact HC0_0.out); (case side3 => exact y9 HR0_1); (case side4 => exact HC0_1.out); rintro e w85 ⟨rfl, hb⟩; refine ⟨_, rfl, ?_⟩; replace HO_15 := ym (yp (by (with_reducible repeat apply y2); exact HO_15.out) hb); replace HO_17 := ym (yp (by (with_reducible repeat apply y2); exact HO_17.out) hb); replace HO_19 := ym (yp (by (with_reducible repeat apply y2); exact HO_19.out) hb); replace BK493 := yQ BK493 hb; replace BK494 := yQ BK494 hb; replace HB := yN hb; (try clear hb); (try clear hb2); (try clear hk); (try clear hi)))
               go_ret
               exact ⟨by first | rfl | (simp [errW_none, errW_some] <;> rfl) | (simp only [← hji70]; first | rfl | (simp [errW_none, errW_some] <;> rfl)) | (simp [*, errW_none, errW_some] <;> rfl), by repeat (first | (with_reducible first | exact HB.out | apply y3 | refine ys ?_ GE493.out | refine ys ?_ GE494.out) | exact HB.out)⟩
              rw [if_neg c73] at H; have c73b0 : ((rd x19_4 (ji70)) == 0) = false := beq_eq_false_iff_ne.mpr c73; have c73b1 : ((rd x19_4 (ji70)) != 0) = true := bne_iff_ne.mpr c73; by_cases c86 : 0 ≤ (rd x19_4 (ji70))
              ·
               rw [if_pos c86] at H; have c86b0 : decide (0 ≤ (rd x19_4 (ji70))) = true := decide_eq_true c86; clear c86; by_cases c87 : (rd x19_4 (ji70)) < (l1_0.length : Int)
               ·
                rw [if_pos c87] at H; have c87b0 : decide ((rd x19_4 (ji70)) < (l1_0.length : Int)) = true := decide_eq_true c87; clear c87; by_cases c88 : x14_2.size + (rdOf ByteArray.empty l1_0 (rd x19_4 (ji70))).size ≤ 9223372036854775807
                ·
                 rw [if_pos c88] at H; have c88b0 := eq_true c88; have c88b1 : decide (x14_2.size + (rdOf ByteArray.empty l1_0 (rd x19_4 (ji70))).size ≤ 9223372036854775807) = true := decide_eq_true c88; (try have c88b2 : (9223372036854775807 < x14_2.size + (rdOf ByteArray.empty l1_0 (rd x19_4 (ji70))).size) = False := eq_false (Nat.not_lt.2 c88)); by_cases c89 : x15_2.length < 17592186044416
                 ·
                  rw [if_pos c89] at H; have LMc89 := ym c89; clear c89; obtain ⟨y535, hy535⟩ : ∃ y_ : List Int, y_ = (x15_2 ++ [rd x19_4 (ji70)]) := ⟨_, rfl⟩; (replace H : ((guide_Next.f k4 l0_0 l0_1 l1_0 l1_1 x13_2 (rd x19_4 (ji70))).bind fun t538 => ((guide_Walk.f k4 l0_0 l0_1 0 (x14_2 ++ (rdOf ByteArray.empty l1_0 (rd x19_4 (ji70))))).bind fun t539 => (if t538 = t539 then ((guide_State.f k4 l0_0 l0_1 l1_0 l1_1 y535).bind fun t540 => (if t538 = t540 then (heraldlaw15_GuideBinds.j4 k4 l2 t538 (x14_2 ++ (rdOf ByteArray.empty l1_0 (rd x19_4 (ji70)))) y535 x16_2 (decide (t538 < 0)) l0_0 l0_1 l1_0 l1_1) else (heraldlaw15_GuideBinds.j4 k4 l2 t538 (x14_2 ++ (rdOf ByteArray.empty l1_0 (rd x19_4 (ji70)))) y535 x16_2 true l0_0 l0_1 l1_0 l1_1))) else (heraldlaw15_GuideBinds.j4 k4 l2 t538 (x14_2 ++ (rdOf ByteArray.empty l1_0 (rd x19_4 (ji70)))) y535 x16_2 true l0_0 l0_1 l1_0 l1_1)))) = some r := by first | (rw [hy535]; with_reducible exact H) | (have H2_ := (Option.bind_some _ _).symm.trans H; rw [hy535]; with_reducible exact H2_) | (have H2_ := (Option.bind_some _ _).symm.trans H; with_reducible exact H2_) | with_reducible exact H | (rw [hy535]; exact H) | exact H); have Ny535 := ym hy535; clear hy535; replace H := Option.bind_eq_some_iff.mp H; obtain ⟨t538, A900, H⟩ := H; replace H : ((guide_Walk.f k4 l0_0 l0_1 0 (x14_2 ++ (rdOf ByteArray.empty l1_0 (rd x19_4 (ji70))))).bind fun t539 => (if t538 = t539 then ((guide_State.f k4 l0_0 l0_1 l1_0 l1_1 y535).bind fun t540 => (if t538 = t540 then (heraldlaw15_GuideBinds.j4 k4 l2 t538 (x14_2 ++ (rdOf ByteArray.empty l1_0 (rd x19_4 (ji70)))) y535 x16_2 (decide (t538 < 0)) l0_0 l0_1 l1_0 l1_1) else (heraldlaw15_GuideBinds.j4 k4 l2 t538 (x14_2 ++ (rdOf ByteArray.empty l1_0 (rd x19_4 (ji70)))) y535 x16_2 true l0_0 l0_1 l1_0 l1_1))) else (heraldlaw15_GuideBinds.j4 k4 l2 t538 (x14_2 ++ (rdOf ByteArray.empty l1_0 (rd x19_4 (ji70)))) y535 x16_2 true l0_0 l0_1 l1_0 l1_1))) = some r := H; have A90 := ym A900; clear A900; have HC91 := ym H; clear H; obtain ⟨Ao92, co92, eo92⟩ := Kd.R_slice HO_17.out; subst eo92; obtain ⟨Ao93, co93, eo93⟩ := Kd.R_slice HO_19.out; subst eo93; have p531 : 0 ≤ (x16_2 : Int) := of_decide_eq_true y5; have q531 : x16_2 < (l2.length : Int) := of_decide_eq_true y5; obtain ⟨ad531, e531, hx531_0⟩ := Kd.at_int HR2.out x16_2 p531 q531
                  cases e531
                  replace hx531_0 := (HB.out.cell (World.block_lt_of_cell? w _ hx531_0)).trans hx531_0; replace p531 := eq_true p531; replace q531 := eq_true q531; have p532 : 0 ≤ ((ji70) : Int) := of_decide_eq_true y5; have q532 : (ji70) < (x19_4.length : Int) := of_decide_eq_true y5; obtain ⟨ad532, e532, hx532_0⟩ := Kd.at_int (Kd.R_reads' HO_19.out).2.2 (ji70) p532 q532
                  cases e532
                  replace p532 := eq_true p532; replace q532 := eq_true q532; have hnb94 := NB494_493.out; have hnc94 := NB493_494.out; have hcz95_0 := yW BK494 0; have hcz95_1 := yW BK494 1; have hfz95_0 := yv BK494.out 0; have hfz95_1 := yv BK494.out 1; have p534 : 0 ≤ ((rd x19_4 (ji70)) : Int) := of_decide_eq_true y5; have q534 : (rd x19_4 (ji70)) < (l1_0.length : Int) := of_decide_eq_true y5; obtain ⟨ad534, e534, hx534_0⟩ := Kd.at_string HR1_0.out (rd x19_4 (ji70)) p534 q534
                  cases e534
                  replace hx534_0 := (HB.out.cell (World.block_lt_of_cell? w _ hx534_0)).trans hx534_0; replace p534 := eq_true p534; replace q534 := eq_true q534
                  go_upto_region 28 with (first | ((with_reducible refine gate_builtin (b := .append) (xs := #[.tmp 139, .tmp 141]) rfl ?_); at_builtin; refine Kd.R_append (Kd.int .i64) (w0 := w) w.heap.size rfl (.tmp 139) (.tmp 141) 53 3 (.int .i64 0) 8 rfl Try.underlying53 info3 rfl (by decide) (by omega) u15 x15_2 (rd x19_4 (ji70)) [.int .i64 (rd x19_4 (ji70))] (fun k_ => some k_ ≠ (.slice (some ad532) x19_4.length co93 : Value).ownBlock) (fun _ => False) rfl rfl ?aP (fun _ hk => hk.elim) ?aF ?aO ?aB ?aS ?aL ?_; (case aP => exact rfl); (case aB => exact yb); (case aF => exact (fun k_ hk => Kd.fresh' (Kd.R_lt (by (with_reducible repeat apply y2); exact HO_19.out)) k_ hk)); (case aO => exact (by (with_reducible repeat apply y2); exact HO_15.out)); (case aS => exact (below_size yb)); (case aL => have := LMc89.out; omega); intro v536 w96 ho hb hg hat; rw [← Ny535.out] at ho; replace HO_17 := ym (Kd.R_over' (by (with_reducible repeat apply y2); exact HO_17.out) (Kd.R_typed (by (with_reducible repeat apply y2); exact HO_15.out)) (by decide) hg); replace HO_19 := ym (Kd.R_after (ok := (fun _ => True)) (by (with_reducible repeat apply y2); exact Kd.R_mono HO_19.out (fun _ hk => ⟨trivial, hk⟩)) hg hat); replace BK493 := ym (blk_grown (g := gb493) (o := .cells #[.slice A0_0 l0_0.length c0_0, .slice A0_1 l0_1.length c0_1] 25 (0, 0)) (yc BK493) hg (Kd.R_ne HO_15.out BK493.out (by decide))); replace BK494 := ym (blk_grown (g := gb494) (o := .cells #[.slice (some ad534) l1_0.length c1_0, .slice A1_1 l1_1.length c1_1] 52 (0, 0)) (yc BK494) hg (Kd.R_ne HO_15.out BK494.out (by decide))); replace HB := ym (hb); have HO537 := ym (ho); clear HO_15; clear ho hb hg hat; have hcz97_0 := yW BK493 0; have hcz97_1 := yW BK493 1; have hfz97_0 := yv BK493.out 0; have hfz97_1 := yv BK493.out 1; have hcz98_0 := yW BK494 0; have hcz98_1 := yW BK494 1; have hfz98_0 := yv BK494.out 0; have hfz98_1 := yv BK494.out 1) | ((with_reducible refine gate_callee (f := 25) rfl ?_); refine goesL_ (some 147) rfl rfl Try.func25 (by kernel_rfl) rfl #[.agg #[.slice A0_0 l0_0.length c0_0, .slice A0_1 l0_1.length c0_1], .agg #[.slice (some ad534) l1_0.length c1_0, .slice A1_1 l1_1.length c1_1], .int .i64 x13_2, .int .i64 (rd x19_4 (ji70))] rfl (by (try simp only [List.map_toArray, List.map_cons, List.map_nil]); first | done | (simp only [hji70]; rfl) | rfl | (simp only [List.length_drop, List.length_take]; rfl)) ?_; (with_reducible refine (guide_Next.calls k4 _ _ l0_0 _ _ l0_1 _ _ l1_0 _ _ l1_1 x13_2 (rd x19_4 (ji70)) t538 _ ?side1 ?side2 ?side3 ?side4 ?side5 ?side6 ?side7 ?side8 A90.out).mono ?_); (case side1 => exact y9 HR0_0); (case side2 => exact HC0_0.out); (case side3 => exact y9 HR0_1); (case side4 => exact HC0_1.out); (case side5 => exact y9 HR1_0); (case side6 => exact HC1_0.out); (case side7 => exact y9 HR1_1); (case side8 => exact HC1_1.out); rintro e w99 ⟨rfl, hb⟩; refine ⟨_, rfl, ?_⟩; replace HO_17 := ym (yp (by (with_reducible repeat apply y2); exact HO_17.out) hb); replace HO_19 := ym (yp (by (with_reducible repeat apply y2); exact HO_19.out) hb); replace HO537 := ym (yp (by (with_reducible repeat apply y2); exact HO537.out) hb); replace BK493 := yQ BK493 hb; replace BK494 := yQ BK494 hb; replace HB := yN hb; (try clear hb); (try clear hb2); (try clear hk); (try clear hi)))
                  (try simp only [Act.put, y0])
                  go_cut [164] (fun v164 wc => ∃ (kq : Nat) (x164_90 : Bool), v164 = .bool x164_90 ∧ Aside0 (heraldlaw15_GuideBinds.j4 kq l2 t538 (x14_2 ++ (rdOf ByteArray.empty l1_0 (rd x19_4 (ji70)))) y535 x16_2 x164_90 l0_0 l0_1 l1_0 l1_1 = some r) ∧ Aside0 (kq ≤ k4) ∧ Aside0 (Kd.R (Kd.int .i64) 3 wc w.heap.size (fun _ => True) v536 y535) ∧ Aside0 (wc.heap[gb493]? = some (.cells #[(.slice A0_0 l0_0.length c0_0), (.slice A0_1 l0_1.length c0_1)] 25 (0, 0))) ∧ Aside0 (wc.heap[gb494]? = some (.cells #[(.slice (some ad534) l1_0.length c1_0), (.slice A1_1 l1_1.length c1_1)] 52 (0, 0))) ∧ Aside0 (Below w.heap.size w wc))
                  case first =>
                   have H := HC91.out; clear HC91; replace H := Option.bind_eq_some_iff.mp H; obtain ⟨t539, A1000, H⟩ := H; replace H : (if t538 = t539 then ((guide_State.f k4 l0_0 l0_1 l1_0 l1_1 y535).bind fun t540 => (if t538 = t540 then (heraldlaw15_GuideBinds.j4 k4 l2 t538 (x14_2 ++ (rdOf ByteArray.empty l1_0 (rd x19_4 (ji70)))) y535 x16_2 (decide (t538 < 0)) l0_0 l0_1 l1_0 l1_1) else (heraldlaw15_GuideBinds.j4 k4 l2 t538 (x14_2 ++ (rdOf ByteArray.empty l1_0 (rd x19_4 (ji70)))) y535 x16_2 true l0_0 l0_1 l1_0 l1_1))) else (heraldlaw15_GuideBinds.j4 k4 l2 t538 (x14_2 ++ (rdOf ByteArray.empty l1_0 (rd x19_4 (ji70)))) y535 x16_2 true l0_0 l0_1 l1_0 l1_1)) = some r := H; have A100 := ym A1000; clear A1000; by_cases c101 : t538 = t539
                   ·
                    rw [if_pos c101] at H; have c101b0 : (t538 == t539) = true := beq_iff_eq.mpr c101; have c101b1 : (t538 != t539) = false := bne_eq_false_iff_eq.mpr c101; clear c101
                    (first | rw [c101b0] | (simp only [i64_w, i32_w]; rw [c101b0]) | skip)
                    replace H := Option.bind_eq_some_iff.mp H; obtain ⟨t540, A1020, H⟩ := H; replace H : (if t538 = t540 then (heraldlaw15_GuideBinds.j4 k4 l2 t538 (x14_2 ++ (rdOf ByteArray.empty l1_0 (rd x19_4 (ji70)))) y535 x16_2 (decide (t538 < 0)) l0_0 l0_1 l1_0 l1_1) else (heraldlaw15_GuideBinds.j4 k4 l2 t538 (x14_2 ++ (rdOf ByteArray.empty l1_0 (rd x19_4 (ji70)))) y535 x16_2 true l0_0 l0_1 l1_0 l1_1)) = some r := H; have A102 := ym A1020; clear A1020; by_cases c103 : t538 = t540
                    ·
                     rw [if_pos c103] at H; have c103b0 : (t538 == t540) = true := beq_iff_eq.mpr c103; have c103b1 : (t538 != t540) = false := bne_eq_false_iff_eq.mpr c103; clear c103; have H' := ym H; clear H; have hnb104 := NB493_494.out; have hnc104 := NB494_493.out; have hcz105_0 := yW BK493 0; have hcz105_1 := yW BK493 1; have hfz105_0 := yv BK493.out 0; have hfz105_1 := yv BK493.out 1
                     go_wp2_with (first | ((with_reducible refine gate_callee (f := 15) rfl ?_); refine goesL_ (some 151) rfl rfl Try.func15 (by kernel_rfl) rfl #[.agg #[.slice A0_0 l0_0.length c0_0, .slice A0_1 l0_1.length c0_1], .int .i64 0, .string (x14_2 ++ (rdOf ByteArray.empty l1_0 (rd x19_4 (ji70))))] rfl (by (try simp only [List.map_toArray, List.map_cons, List.map_nil]); first | done | (simp only [hji70]; rfl) | rfl | (simp only [List.length_drop, List.length_take]; rfl)) ?_; (with_reducible refine (guide_Walk.calls k4 _ _ l0_0 _ _ l0_1 0 (x14_2 ++ (rdOf ByteArray.empty l1_0 (rd x19_4 (ji70)))) t539 _ ?side1 ?side2 ?side3 ?side4 A100.out).mono ?_); (case side1 => exact y9 HR0_0); (case side2 => exact HC0_0.out); (case side3 => exact y9 HR0_1); (case side4 => exact HC0_1.out); rintro e w106 ⟨rfl, hb⟩; refine ⟨_, rfl, ?_⟩; replace HO_17 := ym (yp (by (with_reducible repeat apply y2); exact HO_17.out) hb); replace HO_19 := ym (yp (by (with_reducible repeat apply y2); exact HO_19.out) hb); replace HO537 := ym (yp (by (with_reducible repeat apply y2); exact HO537.out) hb); replace BK493 := yQ BK493 hb; replace BK494 := yQ BK494 hb; replace HB := yN hb; (try clear hb); (try clear hb2); (try clear hk); (try clear hi); have hcz107_0 := yW BK493 0; have hcz107_1 := yW BK493 1; have hfz107_0 := yv BK493.out 0; have hfz107_1 := yv BK493.out 1; have hcz108_0 := yW BK494 0; have hcz108_1 := yW BK494 1; have hfz108_0 := yv BK494.out 0; have hfz108_1 := yv BK494.out 1; obtain ⟨Ao109, co109, eo109⟩ := Kd.R_slice HO537.out; subst eo109) | (go_at_call 27; (with_reducible refine (guide_State.calls k4 _ _ l0_0 _ _ l0_1 _ _ l1_0 _ _ l1_1 _ _ y535 t540 _ ?side1 ?side2 ?side3 ?side4 ?side5 ?side6 ?side7 ?side8 ?side9 ?side10 A102.out).mono ?_); (case side1 => exact y9 HR0_0); (case side2 => exact HC0_0.out); (case side3 => exact y9 HR0_1); (case side4 => exact HC0_1.out); (case side5 => exact y9 HR1_0); (case side6 => exact HC1_0.out); (case side7 => exact y9 HR1_1); (case side8 => exact HC1_1.out); (case side9 => repeat (first | exact (Kd.R_reads' HO537.out).2.2 | (with_reducible refine yi ?_ _) | (with_reducible refine yj ?_ _) | (with_reducible refine yk ?_))); (case side10 => exact (Kd.R_reads' HO537.out).2.1); rintro e w110 ⟨rfl, hb⟩; replace HO_17 := ym (yp (by (with_reducible repeat apply y2); exact HO_17.out) hb); replace HO_19 := ym (yp (by (with_reducible repeat apply y2); exact HO_19.out) hb); replace HO537 := ym (yp (by (with_reducible repeat apply y2); exact HO537.out) hb); replace BK493 := yQ BK493 hb; replace BK494 := yQ BK494 hb; replace HB := yN hb; (try clear hb); (try clear hb2); (try clear hk); (try clear hi)))
                     go_meet
                     case rel => exact ⟨_, (decide (t538 < 0)), y7, H', ⟨by have := HJ7.out; have := HK2.out; have := HJ46.out; have := HK4.out; first | omega | exact Nat.le_refl _⟩, ⟨by (with_reducible repeat apply y2); exact Kd.R_mono HO537.out (fun _ hk => trivial)⟩, ⟨by (with_reducible repeat refine y4 ?_); exact BK493.out⟩, ⟨by (with_reducible repeat refine y4 ?_); exact BK494.out⟩, ⟨by repeat (first | (with_reducible first | exact HB.out | apply y3 | refine ys ?_ GE493.out | refine ys ?_ GE494.out) | exact HB.out)⟩⟩
                    rw [if_neg c103] at H; have c103b0 : (t538 == t540) = false := beq_eq_false_iff_ne.mpr c103; have c103b1 : (t538 != t540) = true := bne_iff_ne.mpr c103; have H' := ym H; clear H; have hnb111 := NB493_494.out; have hnc111 := NB494_493.out; have hcz112_0 := yW BK493 0; have hcz112_1 := yW BK493 1; have hfz112_0 := yv BK493.out 0; have hfz112_1 := yv BK493.out 1
                    go_wp2_with (first | ((with_reducible refine gate_callee (f := 15) rfl ?_); refine goesL_ (some 151) rfl rfl Try.func15 (by kernel_rfl) rfl #[.agg #[.slice A0_0 l0_0.length c0_0, .slice A0_1 l0_1.length c0_1], .int .i64 0, .string (x14_2 ++ (rdOf ByteArray.empty l1_0 (rd x19_4 (ji70))))] rfl (by (try simp only [List.map_toArray, List.map_cons, List.map_nil]); first | done | (simp only [hji70]; rfl) | rfl | (simp only [List.length_drop, List.length_take]; rfl)) ?_; (with_reducible refine (guide_Walk.calls k4 _ _ l0_0 _ _ l0_1 0 (x14_2 ++ (rdOf ByteArray.empty l1_0 (rd x19_4 (ji70)))) t539 _ ?side1 ?side2 ?side3 ?side4 A100.out).mono ?_); (case side1 => exact y9 HR0_0); (case side2 => exact HC0_0.out); (case side3 => exact y9 HR0_1); (case side4 => exact HC0_1.out); rintro e w113 ⟨rfl, hb⟩; refine ⟨_, rfl, ?_⟩; replace HO_17 := ym (yp (by (with_reducible repeat apply y2); exact HO_17.out) hb); replace HO_19 := ym (yp (by (with_reducible repeat apply y2); exact HO_19.out) hb); replace HO537 := ym (yp (by (with_reducible repeat apply y2); exact HO537.out) hb); replace BK493 := yQ BK493 hb; replace BK494 := yQ BK494 hb; replace HB := yN hb; (try clear hb); (try clear hb2); (try clear hk); (try clear hi); have hcz114_0 := yW BK493 0; have hcz114_1 := yW BK493 1; have hfz114_0 := yv BK493.out 0; have hfz114_1 := yv BK493.out 1; have hcz115_0 := yW BK494 0; have hcz115_1 := yW BK494 1; have hfz115_0 := yv BK494.out 0; have hfz115_1 := yv BK494.out 1; obtain ⟨Ao116, co116, eo116⟩ := Kd.R_slice HO537.out; subst eo116) | (go_at_call 27; (with_reducible refine (guide_State.calls k4 _ _ l0_0 _ _ l0_1 _ _ l1_0 _ _ l1_1 _ _ y535 t540 _ ?side1 ?side2 ?side3 ?side4 ?side5 ?side6 ?side7 ?side8 ?side9 ?side10 A102.out).mono ?_); (case side1 => exact y9 HR0_0); (case side2 => exact HC0_0.out); (case side3 => exact y9 HR0_1); (case side4 => exact HC0_1.out); (case side5 => exact y9 HR1_0); (case side6 => exact HC1_0.out); (case side7 => exact y9 HR1_1); (case side8 => exact HC1_1.out); (case side9 => repeat (first | exact (Kd.R_reads' HO537.out).2.2 | (with_reducible refine yi ?_ _) | (with_reducible refine yj ?_ _) | (with_reducible refine yk ?_))); (case side10 => exact (Kd.R_reads' HO537.out).2.1); rintro e w117 ⟨rfl, hb⟩; replace HO_17 := ym (yp (by (with_reducible repeat apply y2); exact HO_17.out) hb); replace HO_19 := ym (yp (by (with_reducible repeat apply y2); exact HO_19.out) hb); replace HO537 := ym (yp (by (with_reducible repeat apply y2); exact HO537.out) hb); replace BK493 := yQ BK493 hb; replace BK494 := yQ BK494 hb; replace HB := yN hb; (try clear hb); (try clear hb2); (try clear hk); (try clear hi)))
                    go_meet
                    case rel => exact ⟨_, (true), y7, H', ⟨by have := HJ7.out; have := HK2.out; have := HJ46.out; have := HK4.out; first | omega | exact Nat.le_refl _⟩, ⟨by (with_reducible repeat apply y2); exact Kd.R_mono HO537.out (fun _ hk => trivial)⟩, ⟨by (with_reducible repeat refine y4 ?_); exact BK493.out⟩, ⟨by (with_reducible repeat refine y4 ?_); exact BK494.out⟩, ⟨by repeat (first | (with_reducible first | exact HB.out | apply y3 | refine ys ?_ GE493.out | refine ys ?_ GE494.out) | exact HB.out)⟩⟩
                   rw [if_neg c101] at H; have c101b0 : (t538 == t539) = false := beq_eq_false_iff_ne.mpr c101; have c101b1 : (t538 != t539) = true := bne_iff_ne.mpr c101
                   (first | rw [c101b0] | (simp only [i64_w, i32_w]; rw [c101b0]) | skip)
                   have H' := ym H; clear H; have hnb118 := NB493_494.out; have hnc118 := NB494_493.out; have hcz119_0 := yW BK493 0; have hcz119_1 := yW BK493 1; have hfz119_0 := yv BK493.out 0; have hfz119_1 := yv BK493.out 1
                   go_wp2_with (first | ((with_reducible refine gate_callee (f := 15) rfl ?_); refine goesL_ (some 151) rfl rfl Try.func15 (by kernel_rfl) rfl #[.agg #[.slice A0_0 l0_0.length c0_0, .slice A0_1 l0_1.length c0_1], .int .i64 0, .string (x14_2 ++ (rdOf ByteArray.empty l1_0 (rd x19_4 (ji70))))] rfl (by (try simp only [List.map_toArray, List.map_cons, List.map_nil]); first | done | (simp only [hji70]; rfl) | rfl | (simp only [List.length_drop, List.length_take]; rfl)) ?_; (with_reducible refine (guide_Walk.calls k4 _ _ l0_0 _ _ l0_1 0 (x14_2 ++ (rdOf ByteArray.empty l1_0 (rd x19_4 (ji70)))) t539 _ ?side1 ?side2 ?side3 ?side4 A100.out).mono ?_); (case side1 => exact y9 HR0_0); (case side2 => exact HC0_0.out); (case side3 => exact y9 HR0_1); (case side4 => exact HC0_1.out); rintro e w120 ⟨rfl, hb⟩; refine ⟨_, rfl, ?_⟩; replace HO_17 := ym (yp (by (with_reducible repeat apply y2); exact HO_17.out) hb); replace HO_19 := ym (yp (by (with_reducible repeat apply y2); exact HO_19.out) hb); replace HO537 := ym (yp (by (with_reducible repeat apply y2); exact HO537.out) hb); replace BK493 := yQ BK493 hb; replace BK494 := yQ BK494 hb; replace HB := yN hb; (try clear hb); (try clear hb2); (try clear hk); (try clear hi)))
                   go_meet
                   case rel => exact ⟨_, (true), y7, H', ⟨by have := HJ7.out; have := HK2.out; have := HJ46.out; have := HK4.out; first | omega | exact Nat.le_refl _⟩, ⟨by (with_reducible repeat apply y2); exact Kd.R_mono HO537.out (fun _ hk => trivial)⟩, ⟨by (with_reducible repeat refine y4 ?_); exact BK493.out⟩, ⟨by (with_reducible repeat refine y4 ?_); exact BK494.out⟩, ⟨by repeat (first | (with_reducible first | exact HB.out | apply y3 | refine ys ?_ GE493.out | refine ys ?_ GE494.out) | exact HB.out)⟩⟩
                  case rest =>
                   clear HC91; (try clear c1); (try clear c2); (try clear p2); (try clear c3); (try clear c4); (try clear c5); (try clear p5); (try clear q5); (try clear hx5); (try clear c6); (try clear p6); (try clear q6); (try clear c7); (try clear c8); (try clear c9); (try clear c10); (try clear c11); (try clear c13); (try clear c14); (try clear c15); (try clear c17); (try clear c20); (try clear c23); (try clear c24); (try clear c24b0); (try clear c24b1); (try clear c25); (try clear c28); (try clear c29); (try clear c31); (try clear c32); (try clear c32b0); (try clear c32b1); (try clear c33); (try clear c38); (try clear c45); (try clear c45b0); (try clear c48); (try clear c52); (try clear c52b0); (try clear c52b1); (try clear p52); (try clear q52); (try clear hx52); (try clear p53); (try clear q53); (try clear hx53); (try clear c54); (try clear c56); (try clear c59); (try clear c59b0); (try clear c60); (try clear c60b0); (try clear q61); (try clear c62); (try clear c63); (try clear p64); (try clear c67); (try clear c67b0); (try clear c67b1); (try clear c67b2); (try clear c68); (try clear c68b0); (try clear c69); (try clear c69b0); (try clear c71); (try clear c71b0); (try clear c72); (try clear c72b0); (try clear c73); (try clear c73b0); (try clear c73b1); (try clear c75); (try clear c78); (try clear c83); (try clear c86); (try clear c86b0); (try clear c87); (try clear c87b0); (try clear c88); (try clear c88b0); (try clear c88b1); (try clear c88b2); (try clear c89); (try clear c94); (try clear c101); (try clear c101b0); (try clear c101b1); (try clear c103); (try clear c103b0); (try clear c103b1); (try clear c104); (try clear c111); (try clear c118); (try clear hcz105_0); (try clear hcz105_1); (try clear hcz107_0); (try clear hcz107_1); (try clear hcz108_0); (try clear hcz108_1); (try clear hcz112_0); (try clear hcz112_1); (try clear hcz114_0); (try clear hcz114_1); (try clear hcz115_0); (try clear hcz115_1); (try clear hcz119_0); (try clear hcz119_1); (try clear hcz12_0); (try clear hcz12_1); (try clear hcz17_0); (try clear hcz17_1); (try clear hcz34_0); (try clear hcz34_1); (try clear hcz35_0); (try clear hcz35_1); (try clear hcz39_0); (try clear hcz39_1); (try clear hcz40_0); (try clear hcz40_1); (try clear hcz49_0); (try clear hcz49_1); (try clear hcz50_0); (try clear hcz50_1); (try clear hcz55_0); (try clear hcz55_1); (try clear hcz79_0); (try clear hcz79_1); (try clear hcz84_0); (try clear hcz84_1); (try clear hcz95_0); (try clear hcz95_1); (try clear hcz97_0); (try clear hcz97_1); (try clear hcz98_0); (try clear hcz98_1); (try clear hfz105_0); (try clear hfz105_1); (try clear hfz107_0); (try clear hfz107_1); (try clear hfz108_0); (try clear hfz108_1); (try clear hfz112_0); (try clear hfz112_1); (try clear hfz114_0); (try clear hfz114_1); (try clear hfz115_0); (try clear hfz115_1); (try clear hfz119_0); (try clear hfz119_1); (try clear hfz12_0); (try clear hfz12_1); (try clear hfz17_0); (try clear hfz17_1); (try clear hfz34_0); (try clear hfz34_1); (try clear hfz35_0); (try clear hfz35_1); (try clear hfz39_0); (try clear hfz39_1); (try clear hfz40_0); (try clear hfz40_1); (try clear hfz49_0); (try clear hfz49_1); (try clear hfz50_0); (try clear hfz50_1); (try clear hfz55_0); (try clear hfz55_1); (try clear hfz79_0); (try clear hfz79_1); (try clear hfz84_0); (try clear hfz84_1); (try clear hfz95_0); (try clear hfz95_1); (try clear hfz97_0); (try clear hfz97_1); (try clear hfz98_0); (try clear hfz98_1); (try clear hx527_0); (try clear hx531_0); (try clear hx532_0); (try clear hx534_0); (try clear p2); (try clear p527); (try clear p531); (try clear p532); (try clear p534); (try clear q527); (try clear q531); (try clear q532); (try clear q534); obtain ⟨kq, x164_90, rfl, HA, HJ90, HO_15, BK493, BK494, HB⟩ := hcut
                   cases kq with
                   | zero => exact absurd HA.out (by simp [heraldlaw15_GuideBinds.j4])
                   | succ kj90 =>
                    have H := HA.out; clear HA; simp only [heraldlaw15_GuideBinds.j4] at H; by_cases c121 : x164_90 = true
                    ·
                     subst c121; (have H1 : (none) = some r := by rw [if_pos rfl] at H; exact H); clear H; have H := H1; clear H1; exact absurd H (by simp)
                    replace c121 := Bool.eq_false_iff.mpr c121; subst c121; (have H1 : ((guide_Alive.f kj90 l0_0 l0_1).bind fun bt541 => (if (l0_0.length : Int) > 0 then (if t538 ≥ (bt541.1.length : Int) then (none) else (if 0 ≤ t538 then (if t538 < (bt541.1.length : Int) then (if rdOf false bt541.1 t538 = true then (heraldlaw15_GuideBinds.l0 kj90 l2 t538 (x14_2 ++ (rdOf ByteArray.empty l1_0 (rd x19_4 (ji70)))) y535 (wrap64 (x16_2 + 1)) l0_0 l0_1 l1_0 l1_1) else (none)) else (none)) else (none))) else (heraldlaw15_GuideBinds.l0 kj90 l2 t538 (x14_2 ++ (rdOf ByteArray.empty l1_0 (rd x19_4 (ji70)))) y535 (wrap64 (x16_2 + 1)) l0_0 l0_1 l1_0 l1_1))) = some r := by rw [if_neg (show ¬ (false = true) by decide)] at H; exact H); clear H; have H := H1; clear H1; replace H := Option.bind_eq_some_iff.mp H; obtain ⟨⟨t541, t544⟩, A1220, H⟩ := H; replace H : (if (l0_0.length : Int) > 0 then (if t538 ≥ (t541.length : Int) then (none) else (if 0 ≤ t538 then (if t538 < (t541.length : Int) then (if rdOf false t541 t538 = true then (heraldlaw15_GuideBinds.l0 kj90 l2 t538 (x14_2 ++ (rdOf ByteArray.empty l1_0 (rd x19_4 (ji70)))) y535 (wrap64 (x16_2 + 1)) l0_0 l0_1 l1_0 l1_1) else (none)) else (none)) else (none))) else (heraldlaw15_GuideBinds.l0 kj90 l2 t538 (x14_2 ++ (rdOf ByteArray.empty l1_0 (rd x19_4 (ji70)))) y535 (wrap64 (x16_2 + 1)) l0_0 l0_1 l1_0 l1_1)) = some r := H; have A122 := ym A1220; clear A1220; by_cases c123 : (l0_0.length : Int) > 0
                    ·
                     rw [if_pos c123] at H; have c123b0 : decide (0 < (l0_0.length : Int)) = true := decide_eq_true c123; have c123b1 : decide (0 < l0_0.length) = true := decide_eq_true (by omega); clear c123; by_cases c124 : t538 ≥ (t541.length : Int)
                     ·
                      rw [if_pos c124] at H; exact absurd H (by simp)
                     rw [if_neg c124] at H; have c124b0 : decide ((t541.length : Int) ≤ t538) = false := decide_eq_false c124; clear c124; by_cases c125 : 0 ≤ t538
                     ·
                      rw [if_pos c125] at H; have c125b0 : decide (0 ≤ t538) = true := decide_eq_true c125; clear c125; by_cases c126 : t538 < (t541.length : Int)
                      ·
                       rw [if_pos c126] at H; have c126b0 : decide (t538 < (t541.length : Int)) = true := decide_eq_true c126; clear c126; obtain ⟨bq127, hbq127⟩ : ∃ b_ : Bool, b_ = (rdOf false t541 t538) := ⟨_, rfl⟩; (replace H : (if bq127 = true then (heraldlaw15_GuideBinds.l0 kj90 l2 t538 (x14_2 ++ (rdOf ByteArray.empty l1_0 (rd x19_4 (ji70)))) y535 (wrap64 (x16_2 + 1)) l0_0 l0_1 l1_0 l1_1) else (none)) = some r := by rw [← hbq127] at H; exact H); have Nbq127 := ym hbq127; clear hbq127; by_cases c128 : bq127 = true
                       ·
                        subst c128; (have H1 : (heraldlaw15_GuideBinds.l0 kj90 l2 t538 (x14_2 ++ (rdOf ByteArray.empty l1_0 (rd x19_4 (ji70)))) y535 (wrap64 (x16_2 + 1)) l0_0 l0_1 l1_0 l1_1) = some r := by rw [if_pos rfl] at H; exact H); clear H; have H := H1; clear H1; have H' := ym H; clear H; have hnb129 := NB493_494.out; have hnc129 := NB494_493.out; have hcz130_0 := yW BK493 0; have hcz130_1 := yW BK493 1; have hfz130_0 := yv BK493.out 0; have hfz130_1 := yv BK493.out 1
                        go_wp2_with (first | ((with_reducible refine gate_callee (f := 21) rfl ?_); refine goesL_ (some 167) rfl rfl Try.func21 (by kernel_rfl) rfl #[.agg #[.slice A0_0 l0_0.length c0_0, .slice A0_1 l0_1.length c0_1]] rfl y6 ?_; (with_reducible refine (guide_Alive.calls kj90 _ _ l0_0 _ _ l0_1 t541 t544 _ ?side1 ?side2 ?side3 ?side4 A122.out).mono ?_); (case side1 => exact y9 HR0_0); (case side2 => exact HC0_0.out); (case side3 => exact y9 HR0_1); (case side4 => exact HC0_1.out); rintro e w131 ⟨v542, rfl, ho0, hb⟩; refine ⟨_, rfl, ?_⟩; replace HO_15 := ym (yp (by (with_reducible repeat apply y2); exact HO_15.out) hb); have HO543 := ym (yo ho0 (below_size yb)); replace BK493 := yQ BK493 hb; replace BK494 := yQ BK494 hb; replace HB := yN hb; (try clear hb); (try clear hb2); (try clear hk); (try clear hi); (try clear ho0); have hcz132_0 := yW BK493 0; have hcz132_1 := yW BK493 1; have hfz132_0 := yv BK493.out 0; have hfz132_1 := yv BK493.out 1; obtain ⟨Ao133, co133, eo133⟩ := Kd.R_slice HO543.out; subst eo133; have p545 : 0 ≤ (t538 : Int) := of_decide_eq_true y5; have q545 : t538 < (t541.length : Int) := of_decide_eq_true y5; obtain ⟨ad545, e545, hx545_0⟩ := Kd.at_bool (Kd.R_reads' HO543.out).2.2 t538 p545 q545; (try rw [← Nbq127.out] at hx545_0); cases e545; replace p545 := eq_true p545; replace q545 := eq_true q545))
                        go_roundg kj90
                        case measure => have := HJ7.out; have := HK2.out; have := HJ46.out; have := HK4.out; have := HJ90.out; omega
                        case rel => exact ⟨(t538), ((x14_2 ++ (rdOf ByteArray.empty l1_0 (rd x19_4 (ji70))))), (y535), (wrap64 (x16_2 + 1)), y7, (by first | rfl | (simp; done) | (simp only [← hji70] <;> (first | rfl | simp)) | (simp [*]; done)), y7, H', ⟨by have := HJ7.out; have := HK2.out; have := HJ46.out; have := HK4.out; have := HJ90.out; omega⟩, ⟨by (with_reducible repeat apply y2); exact HO_15.out⟩, ⟨by (with_reducible repeat refine y4 ?_); exact BK493.out⟩, ⟨by (with_reducible repeat refine y4 ?_); exact BK494.out⟩, ⟨by repeat (first | (with_reducible first | exact HB.out | apply y3 | refine ys ?_ GE493.out | refine ys ?_ GE494.out) | exact HB.out)⟩⟩
                       replace c128 := Bool.eq_false_iff.mpr c128; subst c128; (have H1 : (none) = some r := by rw [if_neg (show ¬ (false = true) by decide)] at H; exact H); clear H; have H := H1; clear H1; exact absurd H (by simp)
                      rw [if_neg c126] at H; exact absurd H (by simp)
                     rw [if_neg c125] at H; exact absurd H (by simp)
                    rw [if_neg c123] at H; have c123b0 : decide (0 < (l0_0.length : Int)) = false := decide_eq_false c123; have c123b1 : decide (0 < l0_0.length) = false := decide_eq_false (by omega); clear c123; have H' := ym H; clear H; have hnb134 := NB493_494.out; have hnc134 := NB494_493.out; have hcz135_0 := yW BK493 0; have hcz135_1 := yW BK493 1; have hfz135_0 := yv BK493.out 0; have hfz135_1 := yv BK493.out 1
                    go_wp2_with (first | ((with_reducible refine gate_callee (f := 21) rfl ?_); refine goesL_ (some 167) rfl rfl Try.func21 (by kernel_rfl) rfl #[.agg #[.slice A0_0 l0_0.length c0_0, .slice A0_1 l0_1.length c0_1]] rfl y6 ?_; (with_reducible refine (guide_Alive.calls kj90 _ _ l0_0 _ _ l0_1 t541 t544 _ ?side1 ?side2 ?side3 ?side4 A122.out).mono ?_); (case side1 => exact y9 HR0_0); (case side2 => exact HC0_0.out); (case side3 => exact y9 HR0_1); (case side4 => exact HC0_1.out); rintro e w136 ⟨v542, rfl, ho0, hb⟩; refine ⟨_, rfl, ?_⟩; replace HO_15 := ym (yp (by (with_reducible repeat apply y2); exact HO_15.out) hb); have HO543 := ym (yo ho0 (below_size yb)); replace BK493 := yQ BK493 hb; replace BK494 := yQ BK494 hb; replace HB := yN hb; (try clear hb); (try clear hb2); (try clear hk); (try clear hi); (try clear ho0); have hcz137_0 := yW BK493 0; have hcz137_1 := yW BK493 1; have hfz137_0 := yv BK493.out 0; have hfz137_1 := yv BK493.out 1))
                    go_roundg kj90
                    case measure => have := HJ7.out; have := HK2.out; have := HJ46.out; have := HK4.out; have := HJ90.out; omega
                    case rel => exact ⟨(t538), ((x14_2 ++ (rdOf ByteArray.empty l1_0 (rd x19_4 (ji70))))), (y535), (wrap64 (x16_2 + 1)), y7, (by first | rfl | (simp; done) | (simp only [← hji70] <;> (first | rfl | simp)) | (simp [*]; done)), y7, H', ⟨by have := HJ7.out; have := HK2.out; have := HJ46.out; have := HK4.out; have := HJ90.out; omega⟩, ⟨by (with_reducible repeat apply y2); exact HO_15.out⟩, ⟨by (with_reducible repeat refine y4 ?_); exact BK493.out⟩, ⟨by (with_reducible repeat refine y4 ?_); exact BK494.out⟩, ⟨by repeat (first | (with_reducible first | exact HB.out | apply y3 | refine ys ?_ GE493.out | refine ys ?_ GE494.out) | exact HB.out)⟩⟩
                 rw [if_neg c89] at H; exact absurd H (by simp)
                rw [if_neg c88] at H; exact absurd H (by simp)
               rw [if_neg c87] at H; exact absurd H (by simp)
              rw [if_neg c86] at H; exact absurd H (by simp)
             rw [if_neg c72] at H; exact absurd H (by simp)
            rw [if_neg c71] at H; exact absurd H (by simp)
           rw [if_neg c69] at H; exact absurd H (by simp)
          rw [if_neg c68] at H; exact absurd H (by simp)
     rw [if_neg c45] at H; have c45b0 : decide (x16_2 < (l2.length : Int)) = false := decide_eq_false c45; clear c45; obtain rfl := Option.some.inj H
     go_wp2
     go_ret
     exact ⟨by first | rfl | (simp [errW_none, errW_some] <;> rfl) | (simp [*, errW_none, errW_some] <;> rfl), by repeat (first | (with_reducible first | exact HB.out | apply y3 | refine ys ?_ GE493.out | refine ys ?_ GE494.out) | exact HB.out)⟩

end Go.Proofs.Ytfjpnmhbbfiaaaa.P
