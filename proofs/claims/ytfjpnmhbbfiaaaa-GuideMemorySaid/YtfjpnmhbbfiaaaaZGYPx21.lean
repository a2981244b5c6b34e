-- Printed by xprint.py (wip): functions, contracts, rows. Lean checks it.
import Derived.Test.YtfjpnmhbbfiaaaaZGYPx0
import Derived.Test.YtfjpnmhbbfiaaaaZGYTiny2
namespace Go.Proofs.Ytfjpnmhbbfiaaaa.P
open Go.RowKit Go.Proofs.YtfjpnmhbbfiaaaaW.PrintWords Go.Proofs.YtfjpnmhbbfiaaaaW.PrintLast Go.Proofs.YtfjpnmhbbfiaaaaW.PrintMore
attribute [local go_sem] max2_int min2_int max_two min_two max_three min_three max_four min_four   -- for this text's walks alone
set_option linter.unusedVariables false
set_option linter.unusedSimpArgs false

/-! ### heraldref13_text: function 54 -/
def heraldref13_text.l0 : Nat → Int → ByteArray → Int → List ByteArray → List (S100) → Option (Bool)
  | 0, _, _, _, _, _ => none
  | k + 1, x1, x5, x6, x268000, x268001 => if x6 < x1 then (if 0 ≤ x6 then (if x6 < (x268000.length : Int) then (if (rdOf ByteArray.empty x268000 x6).toList = x5.toList then (some false) else (heraldref13_text.l0 k x1 x5 (wrap64 (x6 + 1)) x268000 x268001)) else (none)) else (none)) else (if ((x5.toList == ([] : List UInt8)) == (x1 == 0)) = true then (some (decide ((x5.size : Int) ≤ 64))) else (some false))
def heraldref13_text.f (k : Nat) (l0_0 : List ByteArray) (l0_1 : List (S100)) (a1 : Int) : Option (Bool) := if 0 ≤ a1 then (if a1 < (l0_0.length : Int) then (heraldref13_text.l0 k a1 (rdOf ByteArray.empty l0_0 a1) 0 l0_0 l0_1) else (none)) else (none)
theorem heraldref13_text.mono_l : ∀ k, (∀ y0 y1 y2 y3 y4, LeO (heraldref13_text.l0 k y0 y1 y2 y3 y4) (heraldref13_text.l0 (k + 1) y0 y1 y2 y3 y4))
  | 0 => fun _ _ _ _ _ r h => by simp [heraldref13_text.l0] at h
  | k + 1 => by
    have ih0 := heraldref13_text.mono_l k
    · intro y0 y1 y2 y3 y4
      unfold heraldref13_text.l0
      repeat' first
      | (with_reducible exact ih0 _ _ _ _ _)
      | (with_reducible exact LeO.refl _)
      | (with_reducible exact LeO.none _)
      | (with_reducible refine LeO.ite ?_ ?_)
      | (with_reducible refine LeO.bind ?_ (fun _ => ?_))
      | exact ih0 _ _ _ _ _
      | exact LeO.none _
      | refine LeO.ite ?_ ?_
      | refine LeO.bind ?_ (fun _ => ?_)
theorem heraldref13_text.mono : ∀ a0 a1 a2 k, LeO (heraldref13_text.f k a0 a1 a2) (heraldref13_text.f (k + 1) a0 a1 a2) := by
  intro a0 a1 a2 k
  have ih0 := heraldref13_text.mono_l k
  unfold heraldref13_text.f
  repeat' first
      | (with_reducible exact ih0 _ _ _ _ _)
      | (with_reducible exact LeO.refl _)
      | (with_reducible exact LeO.none _)
      | (with_reducible refine LeO.ite ?_ ?_)
      | (with_reducible refine LeO.bind ?_ (fun _ => ?_))
      | exact ih0 _ _ _ _ _
      | exact LeO.none _
      | refine LeO.ite ?_ ?_
      | refine LeO.bind ?_ (fun _ => ?_)
set_option maxHeartbeats 8000000 in
set_option maxRecDepth 100000 in
theorem heraldref13_text.calls (k : Nat) (A0_0 : Option Addr) (c0_0 : Nat) (l0_0 : List ByteArray) (A0_1 : Option Addr) (c0_1 : Nat) (l0_1 : List (S100)) (a1 : Int) (r : Bool) (w : World) (hr0_0 : Kd.C Kd.string w A0_0 l0_0.length l0_0) (hc0_0 : l0_0.length ≤ c0_0) (hr0_1 : Kd.C k100 w A0_1 l0_1.length l0_1) (hc0_1 : l0_1.length ≤ c0_1) (h : heraldref13_text.f k l0_0 l0_1 a1 = some r) :
    Calls Try.prog 54 #[.agg #[.slice A0_0 l0_0.length c0_0, .slice A0_1 l0_1.length c0_1], .int .i64 a1] w fun e w' => e = .returned (.bool r) ∧ Below w.heap.size w w' := by
 have hu56 := Try.underlying56; have HR0_0 := ym hr0_0; have HC0_0 := ym hc0_0; clear hr0_0 hc0_0; have HR0_1 := ym hr0_1; have HC0_1 := ym hc0_1; clear hr0_1 hc0_1; have HB := ym (Below.refl w.heap.size w); have H : (if 0 ≤ a1 then (if a1 < (l0_0.length : Int) then (heraldref13_text.l0 k a1 (rdOf ByteArray.empty l0_0 a1) 0 l0_0 l0_1) else (none)) else (none)) = some r := h; clear h; by_cases c3 : 0 ≤ a1
 ·
  rw [if_pos c3] at H; have c3b0 : decide (0 ≤ a1) = true := decide_eq_true c3; clear c3; by_cases c4 : a1 < (l0_0.length : Int)
  ·
   rw [if_pos c4] at H; have c4b0 : decide (a1 < (l0_0.length : Int)) = true := decide_eq_true c4; clear c4; have H' := ym H; clear H
   go_enter Try.func54, Try.ntmps54
   go_wp2_with (first | (refine zb (N := 2) (cs := #[.slice A0_0 l0_0.length c0_0, .slice A0_1 l0_1.length c0_1]) (t := 56) ?_; intro gb267 hg w5 hbox hb; have BK267 := ym (hbox); have GW267 := yE hg; replace HB := yN hb; have GE267 := GW267; clear hb hbox hg; have hcz6_0 := yW BK267 0; have hcz6_1 := yW BK267 1; have hfz6_0 := yv BK267.out 0; have hfz6_1 := yv BK267.out 1; have p268 : 0 ≤ (a1 : Int) := of_decide_eq_true y5; have q268 : a1 < (l0_0.length : Int) := of_decide_eq_true y5; obtain ⟨ad268, e268, hx268_0⟩ := Kd.at_string HR0_0.out a1 p268 q268; cases e268; replace hx268_0 := (HB.out.cell (World.block_lt_of_cell? w _ hx268_0)).trans hx268_0; replace p268 := eq_true p268; replace q268 := eq_true q268))
   go_loopg [6] k (fun kq v6 w' => ∃ (x6_1 : Int), v6 = .int .i64 x6_1 ∧ Aside0 (heraldref13_text.l0 kq a1 (rdOf ByteArray.empty l0_0 a1) x6_1 l0_0 l0_1 = some r) ∧ Aside0 (kq ≤ k) ∧ Aside0 (w'.heap[gb267]? = some (.cells #[(.slice (some ad268) l0_0.length c0_0), (.slice A0_1 l0_1.length c0_1)] 56 (0, 0))) ∧ Aside0 (Below w.heap.size w w'))
   case atStart => exact ⟨(0), y7, H', ⟨Nat.le_refl _⟩, ⟨by (with_reducible repeat refine y4 ?_); exact BK267.out⟩, ⟨by repeat (first | (with_reducible first | exact HB.out | apply y3 | refine ys ?_ GE267.out) | exact HB.out)⟩⟩
   case round =>
    clear H'; (try clear p2); (try clear q2); (try clear hx2); (try clear c3); (try clear c3b0); (try clear c4); (try clear c4b0); (try clear c5); (try clear hcz6_0); (try clear hcz6_1); (try clear hfz6_0); (try clear hfz6_1); (try clear hx268_0); (try clear p268); (try clear q268); obtain ⟨x6_1, rfl, HA, HK1, BK267, HB⟩ := hrel
    cases gk with
    | zero => exact absurd HA.out (by simp [heraldref13_text.l0])
    | succ k1 =>
     have H := HA.out; clear HA; simp only [heraldref13_text.l0] at H; by_cases c7 : x6_1 < a1
     ·
      rw [if_pos c7] at H; have c7b0 : decide (x6_1 < a1) = true := decide_eq_true c7; clear c7; by_cases c8 : 0 ≤ x6_1
      ·
       rw [if_pos c8] at H; have c8b0 : decide (0 ≤ x6_1) = true := decide_eq_true c8; clear c8; by_cases c9 : x6_1 < (l0_0.length : Int)
       ·
        rw [if_pos c9] at H; have c9b0 : decide (x6_1 < (l0_0.length : Int)) = true := decide_eq_true c9; clear c9; by_cases c10 : (rdOf ByteArray.empty l0_0 x6_1).toList = (rdOf ByteArray.empty l0_0 a1).toList
        ·
         rw [if_pos c10] at H; have c10b0 : ((rdOf ByteArray.empty l0_0 x6_1).toList == (rdOf ByteArray.empty l0_0 a1).toList) = true := beq_iff_eq.mpr c10; have c10b1 : ((rdOf ByteArray.empty l0_0 x6_1).toList != (rdOf ByteArray.empty l0_0 a1).toList) = false := bne_eq_false_iff_eq.mpr c10; clear c10; obtain rfl := Option.some.inj H; have hcz11_0 := yW BK267 0; have hcz11_1 := yW BK267 1; have hfz11_0 := yv BK267.out 0; have hfz11_1 := yv BK267.out 1; have p269 : 0 ≤ (x6_1 : Int) := of_decide_eq_true y5; have q269 : x6_1 < (l0_0.length : Int) := of_decide_eq_true y5; obtain ⟨ad269, e269, hx269_0⟩ := Kd.at_string HR0_0.out x6_1 p269 q269; obtain rfl : ad268 = ad269 := (by injection e269); replace hx269_0 := (HB.out.cell (World.block_lt_of_cell? w _ hx269_0)).trans hx269_0; replace p269 := eq_true p269; replace q269 := eq_true q269
         go_wp2
         go_ret
         exact ⟨by first | rfl | (simp [errW_none, errW_some] <;> rfl) | (simp [*, errW_none, errW_some] <;> rfl), by repeat (first | (with_reducible first | exact HB.out | apply y3 | refine ys ?_ GE267.out) | exact HB.out)⟩
        rw [if_neg c10] at H; have c10b0 : ((rdOf ByteArray.empty l0_0 x6_1).toList == (rdOf ByteArray.empty l0_0 a1).toList) = false := beq_eq_false_iff_ne.mpr c10; have c10b1 : ((rdOf ByteArray.empty l0_0 x6_1).toList != (rdOf ByteArray.empty l0_0 a1).toList) = true := bne_iff_ne.mpr c10; have H' := ym H; clear H; have hcz12_0 := yW BK267 0; have hcz12_1 := yW BK267 1; have hfz12_0 := yv BK267.out 0; have hfz12_1 := yv BK267.out 1; have p269 : 0 ≤ (x6_1 : Int) := of_decide_eq_true y5; have q269 : x6_1 < (l0_0.length : Int) := of_decide_eq_true y5; obtain ⟨ad269, e269, hx269_0⟩ := Kd.at_string HR0_0.out x6_1 p269 q269; obtain rfl : ad268 = ad269 := (by injection e269); replace hx269_0 := (HB.out.cell (World.block_lt_of_cell? w _ hx269_0)).trans hx269_0; replace p269 := eq_true p269; replace q269 := eq_true q269
        go_wp2
        go_roundg k1
        case measure => have := HK1.out; omega
        case rel => exact ⟨(wrap64 (x6_1 + 1)), y7, H', ⟨by have := HK1.out; omega⟩, ⟨by (with_reducible repeat refine y4 ?_); exact BK267.out⟩, ⟨by repeat (first | (with_reducible first | exact HB.out | apply y3 | refine ys ?_ GE267.out) | exact HB.out)⟩⟩
       rw [if_neg c9] at H; exact absurd H (by simp)
      rw [if_neg c8] at H; exact absurd H (by simp)
     rw [if_neg c7] at H; have c7b0 : decide (x6_1 < a1) = false := decide_eq_false c7; clear c7; by_cases c13 : (((rdOf ByteArray.empty l0_0 a1).toList == ([] : List UInt8)) == (a1 == 0)) = true
     ·
      rw [if_pos c13] at H; have c13b0 : (((rdOf ByteArray.empty l0_0 a1).toList == ([] : List UInt8)) == (a1 == 0)) = true := c13; have c13e : (rdOf ByteArray.empty l0_0 a1).toList.isEmpty = ((a1 == 0)) := Seen.test_eq c13b0; (try (have c13b1 : decide (((rdOf ByteArray.empty l0_0 a1).toList == ([] : List UInt8)) = (a1 == 0)) = true := by simpa using c13)); (try (have c13b2 : (((rdOf ByteArray.empty l0_0 a1).toList == ([] : List UInt8)) == (a1 == 0)) = true := by simpa using c13)); clear c13; obtain rfl := Option.some.inj H
      go_wp2
      go_ret
      exact ⟨by first | rfl | (simp [errW_none, errW_some] <;> rfl) | (simp [*, errW_none, errW_some] <;> rfl), by repeat (first | (with_reducible first | exact HB.out | apply y3 | refine ys ?_ GE267.out) | exact HB.out)⟩
     rw [if_neg c13] at H; (have c13b0 : (((rdOf ByteArray.empty l0_0 a1).toList == ([] : List UInt8)) == (a1 == 0)) = false := by simpa using c13); have c13e : (rdOf ByteArray.empty l0_0 a1).toList.isEmpty = (!(a1 == 0)) := Seen.test_eq0 c13b0; (try (have c13b1 : decide (((rdOf ByteArray.empty l0_0 a1).toList == ([] : List UInt8)) = (a1 == 0)) = false := by simpa using c13)); (try (have c13b2 : (((rdOf ByteArray.empty l0_0 a1).toList == ([] : List UInt8)) == (a1 == 0)) = false := by simpa using c13)); (try (have c13b3 : ¬ (((rdOf ByteArray.empty l0_0 a1).toList == ([] : List UInt8)) = (a1 == 0)) := by simpa using c13)); clear c13; obtain rfl := Option.some.inj H
     go_wp2
     go_ret
     exact ⟨by first | rfl | (simp [errW_none, errW_some] <;> rfl) | (simp [*, errW_none, errW_some] <;> rfl), by repeat (first | (with_reducible first | exact HB.out | apply y3 | refine ys ?_ GE267.out) | exact HB.out)⟩
  rw [if_neg c4] at H; exact absurd H (by simp)
 rw [if_neg c3] at H; exact absurd H (by simp)

end Go.Proofs.Ytfjpnmhbbfiaaaa.P
