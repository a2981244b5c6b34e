-- Printed by xprint.py (wip): functions, contracts, rows. Lean checks it.
import Derived.Test.YtfjpnmhbbfiaaaaZGYPx0
import Derived.Test.YtfjpnmhbbfiaaaaZGYPx21
import Derived.Test.YtfjpnmhbbfiaaaaZGYPx23
import Derived.Test.YtfjpnmhbbfiaaaaZGYTiny2
namespace Go.Proofs.Ytfjpnmhbbfiaaaa.P
open Go.RowKit Go.Proofs.YtfjpnmhbbfiaaaaW.PrintWords Go.Proofs.YtfjpnmhbbfiaaaaW.PrintLast Go.Proofs.YtfjpnmhbbfiaaaaW.PrintMore
attribute [local go_sem] max2_int min2_int max_two min_two max_three min_three max_four min_four   -- for this text's walks alone
set_option linter.unusedVariables false
set_option linter.unusedSimpArgs false

/-! ### heraldref13_Check: function 31 -/
mutual
def heraldref13_Check.l0 : Nat → Int → List ByteArray → List (S100) → Option (Int × Int)
  | 0, _, _, _ => none
  | k + 1, x4, x283000, x283001 => if x4 < (x283000.length : Int) then ((heraldref13_text.f k x283000 x283001 x4).bind fun t283 => (if t283 = true then (heraldref13_Check.l0 k (wrap64 (x4 + 1)) x283000 x283001) else (some (x4, 130)))) else (if (x283000.length : Int) < 2 then (some ((x283000.length : Int), 130)) else (if (x283001.length : Int) > 1024 then (some (1024, 131)) else (heraldref13_Check.l1 k 0 x283000 x283001)))
def heraldref13_Check.l1 : Nat → Int → List ByteArray → List (S100) → Option (Int × Int)
  | 0, _, _, _ => none
  | k + 1, x5, x283000, x283001 => if x5 < (x283001.length : Int) then ((heraldref13_merge.f k x283000 x283001 x5).bind fun t284 => (if t284 = true then (heraldref13_Check.l1 k (wrap64 (x5 + 1)) x283000 x283001) else (some (x5, 131)))) else (some (0, 0))
end
def heraldref13_Check.f (k : Nat) (l0_0 : List ByteArray) (l0_1 : List (S100)) : Option (Int × Int) := if (l0_0.length : Int) > 512 then (some (512, 130)) else (heraldref13_Check.l0 k 0 l0_0 l0_1)
theorem heraldref13_Check.mono_l : ∀ k, (∀ y0 y1 y2, LeO (heraldref13_Check.l0 k y0 y1 y2) (heraldref13_Check.l0 (k + 1) y0 y1 y2)) ∧ (∀ y0 y1 y2, LeO (heraldref13_Check.l1 k y0 y1 y2) (heraldref13_Check.l1 (k + 1) y0 y1 y2))
  | 0 => ⟨fun _ _ _ r h => by simp [heraldref13_Check.l0] at h, fun _ _ _ r h => by simp [heraldref13_Check.l1] at h⟩
  | k + 1 => by
    obtain ⟨ih0, ih1⟩ := heraldref13_Check.mono_l k
    refine ⟨?_, ?_⟩
    · intro y0 y1 y2
      unfold heraldref13_Check.l0
      repeat' first
      | (with_reducible exact ih0 _ _ _)
      | (with_reducible exact ih1 _ _ _)
      | (with_reducible exact heraldref13_merge.mono _ _ _ _)
      | (with_reducible exact heraldref13_text.mono _ _ _ _)
      | (with_reducible exact LeO.refl _)
      | (with_reducible exact LeO.none _)
      | (with_reducible refine LeO.ite ?_ ?_)
      | (with_reducible refine LeO.bind ?_ (fun _ => ?_))
      | exact ih0 _ _ _
      | exact ih1 _ _ _
      | exact heraldref13_merge.mono _ _ _ _
      | exact heraldref13_text.mono _ _ _ _
      | exact LeO.none _
      | refine LeO.ite ?_ ?_
      | refine LeO.bind ?_ (fun _ => ?_)
    · intro y0 y1 y2
      unfold heraldref13_Check.l1
      repeat' first
      | (with_reducible exact ih0 _ _ _)
      | (with_reducible exact ih1 _ _ _)
      | (with_reducible exact heraldref13_merge.mono _ _ _ _)
      | (with_reducible exact heraldref13_text.mono _ _ _ _)
      | (with_reducible exact LeO.refl _)
      | (with_reducible exact LeO.none _)
      | (with_reducible refine LeO.ite ?_ ?_)
      | (with_reducible refine LeO.bind ?_ (fun _ => ?_))
      | exact ih0 _ _ _
      | exact ih1 _ _ _
      | exact heraldref13_merge.mono _ _ _ _
      | exact heraldref13_text.mono _ _ _ _
      | exact LeO.none _
      | refine LeO.ite ?_ ?_
      | refine LeO.bind ?_ (fun _ => ?_)
theorem heraldref13_Check.mono : ∀ a0 a1 k, LeO (heraldref13_Check.f k a0 a1) (heraldref13_Check.f (k + 1) a0 a1) := by
  intro a0 a1 k
  obtain ⟨ih0, ih1⟩ := heraldref13_Check.mono_l k
  unfold heraldref13_Check.f
  repeat' first
      | (with_reducible exact ih0 _ _ _)
      | (with_reducible exact ih1 _ _ _)
      | (with_reducible exact heraldref13_merge.mono _ _ _ _)
      | (with_reducible exact heraldref13_text.mono _ _ _ _)
      | (with_reducible exact LeO.refl _)
      | (with_reducible exact LeO.none _)
      | (with_reducible refine LeO.ite ?_ ?_)
      | (with_reducible refine LeO.bind ?_ (fun _ => ?_))
      | exact ih0 _ _ _
      | exact ih1 _ _ _
      | exact heraldref13_merge.mono _ _ _ _
      | exact heraldref13_text.mono _ _ _ _
      | exact LeO.none _
      | refine LeO.ite ?_ ?_
      | refine LeO.bind ?_ (fun _ => ?_)
set_option maxHeartbeats 8000000 in
set_option maxRecDepth 100000 in
theorem heraldref13_Check.calls (k : Nat) (A0_0 : Option Addr) (c0_0 : Nat) (l0_0 : List ByteArray) (A0_1 : Option Addr) (c0_1 : Nat) (l0_1 : List (S100)) (r1 : Int) (r2 : Int) (w : World) (hr0_0 : Kd.C Kd.string w A0_0 l0_0.length l0_0) (hc0_0 : l0_0.length ≤ c0_0) (hr0_1 : Kd.C k100 w A0_1 l0_1.length l0_1) (hc0_1 : l0_1.length ≤ c0_1) (h : heraldref13_Check.f k l0_0 l0_1 = some (r1, r2)) :
    Calls Try.prog 31 #[.agg #[.slice A0_0 l0_0.length c0_0, .slice A0_1 l0_1.length c0_1]] w fun e w' => e = .returned (.tuple #[.int .i64 r1, .int .i64 r2]) ∧ Below w.heap.size w w' := by
 have hu56 := Try.underlying56; have HR0_0 := ym hr0_0; have HC0_0 := ym hc0_0; clear hr0_0 hc0_0; have HR0_1 := ym hr0_1; have HC0_1 := ym hc0_1; clear hr0_1 hc0_1; have HB := ym (Below.refl w.heap.size w); have H : (if (l0_0.length : Int) > 512 then (some (512, 130)) else (heraldref13_Check.l0 k 0 l0_0 l0_1)) = some (r1, r2) := h; clear h; by_cases c2 : (l0_0.length : Int) > 512
 ·
  rw [if_pos c2] at H; have c2b0 : decide (512 < (l0_0.length : Int)) = true := decide_eq_true c2; have c2b1 : decide (512 < l0_0.length) = true := decide_eq_true (by omega); clear c2; simp only [Option.some.injEq, Prod.mk.injEq] at H; obtain ⟨rfl, rfl⟩ := H
  go_enter Try.func31, Try.ntmps31
  go_wp2_with (first | (refine zb (N := 1) (cs := #[.slice A0_0 l0_0.length c0_0, .slice A0_1 l0_1.length c0_1]) (t := 56) ?_; intro gb282 hg w3 hbox hb; have BK282 := ym (hbox); have GW282 := yE hg; replace HB := yN hb; have GE282 := GW282; clear hb hbox hg; have hcz4_0 := yW BK282 0; have hcz4_1 := yW BK282 1; have hfz4_0 := yv BK282.out 0; have hfz4_1 := yv BK282.out 1))
  go_ret2
  exact ⟨by first | rfl | (simp [errW_none, errW_some] <;> rfl) | (simp [*, errW_none, errW_some] <;> rfl), by repeat (first | (with_reducible first | exact HB.out | apply y3 | refine ys ?_ GE282.out) | exact HB.out)⟩
 rw [if_neg c2] at H; have c2b0 : decide (512 < (l0_0.length : Int)) = false := decide_eq_false c2; have c2b1 : decide (512 < l0_0.length) = false := decide_eq_false (by omega); clear c2; have H' := ym H; clear H
 go_enter Try.func31, Try.ntmps31
 go_wp2_with (first | (refine zb (N := 1) (cs := #[.slice A0_0 l0_0.length c0_0, .slice A0_1 l0_1.length c0_1]) (t := 56) ?_; intro gb282 hg w5 hbox hb; have BK282 := ym (hbox); have GW282 := yE hg; replace HB := yN hb; have GE282 := GW282; clear hb hbox hg; have hcz6_0 := yW BK282 0; have hcz6_1 := yW BK282 1; have hfz6_0 := yv BK282.out 0; have hfz6_1 := yv BK282.out 1))
 go_loopg [4] k (fun kq v4 w' => ∃ (x4_1 : Int), v4 = .int .i64 x4_1 ∧ Aside0 (heraldref13_Check.l0 kq x4_1 l0_0 l0_1 = some (r1, r2)) ∧ Aside0 (kq ≤ k) ∧ Aside0 (w'.heap[gb282]? = some (.cells #[(.slice A0_0 l0_0.length c0_0), (.slice A0_1 l0_1.length c0_1)] 56 (0, 0))) ∧ Aside0 (Below w.heap.size w w'))
 case atStart => exact ⟨(0), y7, H', ⟨Nat.le_refl _⟩, ⟨by (with_reducible repeat refine y4 ?_); exact BK282.out⟩, ⟨by repeat (first | (with_reducible first | exact HB.out | apply y3 | refine ys ?_ GE282.out) | exact HB.out)⟩⟩
 case round =>
  clear H'; (try clear c2); (try clear c2b0); (try clear c2b1); (try clear p2); (try clear c3); (try clear hcz4_0); (try clear hcz4_1); (try clear hcz6_0); (try clear hcz6_1); (try clear hfz4_0); (try clear hfz4_1); (try clear hfz6_0); (try clear hfz6_1); obtain ⟨x4_1, rfl, HA, HK1, BK282, HB⟩ := hrel
  cases gk with
  | zero => exact absurd HA.out (by simp [heraldref13_Check.l0])
  | succ k1 =>
   have H := HA.out; clear HA; simp only [heraldref13_Check.l0] at H; by_cases c7 : x4_1 < (l0_0.length : Int)
   ·
    rw [if_pos c7] at H; have c7b0 : decide (x4_1 < (l0_0.length : Int)) = true := decide_eq_true c7; clear c7; replace H := Option.bind_eq_some_iff.mp H; obtain ⟨t283, A80, H⟩ := H; replace H : (if t283 = true then (heraldref13_Check.l0 k1 (wrap64 (x4_1 + 1)) l0_0 l0_1) else (some (x4_1, 130))) = some (r1, r2) := H; have A8 := ym A80; clear A80; by_cases c9 : t283 = true
    ·
     subst c9; (have H1 : (heraldref13_Check.l0 k1 (wrap64 (x4_1 + 1)) l0_0 l0_1) = some (r1, r2) := by rw [if_pos rfl] at H; exact H); clear H; have H := H1; clear H1; have H' := ym H; clear H; have hcz10_0 := yW BK282 0; have hcz10_1 := yW BK282 1; have hfz10_0 := yv BK282.out 0; have hfz10_1 := yv BK282.out 1
     go_wp2_with (first | ((with_reducible refine gate_callee (f := 54) rfl ?_); refine goesL_ (some 19) rfl rfl Try.func54 (by kernel_rfl) rfl #[.agg #[.slice A0_0 l0_0.length c0_0, .slice A0_1 l0_1.length c0_1], .int .i64 x4_1] rfl y6 ?_; (with_reducible refine (heraldref13_text.calls k1 _ _ l0_0 _ _ l0_1 x4_1 true _ ?side1 ?side2 ?side3 ?side4 A8.out).mono ?_); (case side1 => exact y9 HR0_0); (case side2 => exact HC0_0.out); (case side3 => exact y9 HR0_1); (case side4 => exact HC0_1.out); rintro e w11 ⟨rfl, hb⟩; refine ⟨_, rfl, ?_⟩; replace BK282 := yQ BK282 hb; replace HB := yN hb; (try clear hb); (try clear hb2); (try clear hk); (try clear hi)))
     go_roundg k1
     case measure => have := HK1.out; omega
     case rel => exact ⟨(wrap64 (x4_1 + 1)), y7, H', ⟨by have := HK1.out; omega⟩, ⟨by (with_reducible repeat refine y4 ?_); exact BK282.out⟩, ⟨by repeat (first | (with_reducible first | exact HB.out | apply y3 | refine ys ?_ GE282.out) | exact HB.out)⟩⟩
    replace c9 := Bool.eq_false_iff.mpr c9; subst c9; (have H1 : (some (x4_1, 130)) = some (r1, r2) := by rw [if_neg (show ¬ (false = true) by decide)] at H; exact H); clear H; have H := H1; clear H1; simp only [Option.some.injEq, Prod.mk.injEq] at H; obtain ⟨rfl, rfl⟩ := H; have hcz12_0 := yW BK282 0; have hcz12_1 := yW BK282 1; have hfz12_0 := yv BK282.out 0; have hfz12_1 := yv BK282.out 1
    go_wp2_with (first | ((with_reducible refine gate_callee (f := 54) rfl ?_); refine goesL_ (some 19) rfl rfl Try.func54 (by kernel_rfl) rfl #[.agg #[.slice A0_0 l0_0.length c0_0, .slice A0_1 l0_1.length c0_1], .int .i64 x4_1] rfl y6 ?_; (with_reducible refine (heraldref13_text.calls k1 _ _ l0_0 _ _ l0_1 x4_1 false _ ?side1 ?side2 ?side3 ?side4 A8.out).mono ?_); (case side1 => exact y9 HR0_0); (case side2 => exact HC0_0.out); (case side3 => exact y9 HR0_1); (case side4 => exact HC0_1.out); rintro e w13 ⟨rfl, hb⟩; refine ⟨_, rfl, ?_⟩; replace BK282 := yQ BK282 hb; replace HB := yN hb; (try clear hb); (try clear hb2); (try clear hk); (try clear hi)))
    go_ret2
    exact ⟨by first | rfl | (simp [errW_none, errW_some] <;> rfl) | (simp [*, errW_none, errW_some] <;> rfl), by repeat (first | (with_reducible first | exact HB.out | apply y3 | refine ys ?_ GE282.out) | exact HB.out)⟩
   rw [if_neg c7] at H; have c7b0 : decide (x4_1 < (l0_0.length : Int)) = false := decide_eq_false c7; clear c7; by_cases c14 : (l0_0.length : Int) < 2
   ·
    rw [if_pos c14] at H; have c14b0 : decide ((l0_0.length : Int) < 2) = true := decide_eq_true c14; have c14b1 : decide (l0_0.length < 2) = true := decide_eq_true (by omega); clear c14; simp only [Option.some.injEq, Prod.mk.injEq] at H; obtain ⟨rfl, rfl⟩ := H; have hcz15_0 := yW BK282 0; have hcz15_1 := yW BK282 1; have hfz15_0 := yv BK282.out 0; have hfz15_1 := yv BK282.out 1
    go_wp2
    go_ret2
    exact ⟨by first | rfl | (simp [errW_none, errW_some] <;> rfl) | (simp [*, errW_none, errW_some] <;> rfl), by repeat (first | (with_reducible first | exact HB.out | apply y3 | refine ys ?_ GE282.out) | exact HB.out)⟩
   rw [if_neg c14] at H; have c14b0 : decide ((l0_0.length : Int) < 2) = false := decide_eq_false c14; have c14b1 : decide (l0_0.length < 2) = false := decide_eq_false (by omega); clear c14; by_cases c16 : (l0_1.length : Int) > 1024
   ·
    rw [if_pos c16] at H; have c16b0 : decide (1024 < (l0_1.length : Int)) = true := decide_eq_true c16; have c16b1 : decide (1024 < l0_1.length) = true := decide_eq_true (by omega); clear c16; simp only [Option.some.injEq, Prod.mk.injEq] at H; obtain ⟨rfl, rfl⟩ := H; have hcz17_0 := yW BK282 0; have hcz17_1 := yW BK282 1; have hfz17_0 := yv BK282.out 0; have hfz17_1 := yv BK282.out 1
    go_wp2
    go_ret2
    exact ⟨by first | rfl | (simp [errW_none, errW_some] <;> rfl) | (simp [*, errW_none, errW_some] <;> rfl), by repeat (first | (with_reducible first | exact HB.out | apply y3 | refine ys ?_ GE282.out) | exact HB.out)⟩
   rw [if_neg c16] at H; have c16b0 : decide (1024 < (l0_1.length : Int)) = false := decide_eq_false c16; have c16b1 : decide (1024 < l0_1.length) = false := decide_eq_false (by omega); clear c16; have H' := ym H; clear H; have hcz18_0 := yW BK282 0; have hcz18_1 := yW BK282 1; have hfz18_0 := yv BK282.out 0; have hfz18_1 := yv BK282.out 1
   go_wp2
   go_loopg [5] k1 (fun kq v5 w' => ∃ (x5_2 : Int), v5 = .int .i64 x5_2 ∧ Aside0 (heraldref13_Check.l1 kq x5_2 l0_0 l0_1 = some (r1, r2)) ∧ Aside0 (kq ≤ k1) ∧ Aside0 (w'.heap[gb282]? = some (.cells #[(.slice A0_0 l0_0.length c0_0), (.slice A0_1 l0_1.length c0_1)] 56 (0, 0))) ∧ Aside0 (Below w.heap.size w w'))
   case atStart => exact ⟨(0), y7, H', ⟨Nat.le_refl _⟩, ⟨by (with_reducible repeat refine y4 ?_); exact BK282.out⟩, ⟨by repeat (first | (with_reducible first | exact HB.out | apply y3 | refine ys ?_ GE282.out) | exact HB.out)⟩⟩
   case round =>
    clear H'; (try clear c1); (try clear c2); (try clear c2b0); (try clear c2b1); (try clear p2); (try clear c3); (try clear c5); (try clear p6); (try clear c7); (try clear c7b0); (try clear c9); (try clear c14); (try clear c14b0); (try clear c14b1); (try clear c16); (try clear c16b0); (try clear c16b1); (try clear hcz10_0); (try clear hcz10_1); (try clear hcz12_0); (try clear hcz12_1); (try clear hcz15_0); (try clear hcz15_1); (try clear hcz17_0); (try clear hcz17_1); (try clear hcz18_0); (try clear hcz18_1); (try clear hcz4_0); (try clear hcz4_1); (try clear hcz6_0); (try clear hcz6_1); (try clear hfz10_0); (try clear hfz10_1); (try clear hfz12_0); (try clear hfz12_1); (try clear hfz15_0); (try clear hfz15_1); (try clear hfz17_0); (try clear hfz17_1); (try clear hfz18_0); (try clear hfz18_1); (try clear hfz4_0); (try clear hfz4_1); (try clear hfz6_0); (try clear hfz6_1); (try clear p2); obtain ⟨x5_2, rfl, HA, HK2, BK282, HB⟩ := hrel
    cases gk with
    | zero => exact absurd HA.out (by simp [heraldref13_Check.l1])
    | succ k2 =>
     have H := HA.out; clear HA; simp only [heraldref13_Check.l1] at H; by_cases c19 : x5_2 < (l0_1.length : Int)
     ·
      rw [if_pos c19] at H; have c19b0 : decide (x5_2 < (l0_1.length : Int)) = true := decide_eq_true c19; clear c19; replace H := Option.bind_eq_some_iff.mp H; obtain ⟨t284, A200, H⟩ := H; replace H : (if t284 = true then (heraldref13_Check.l1 k2 (wrap64 (x5_2 + 1)) l0_0 l0_1) else (some (x5_2, 131))) = some (r1, r2) := H; have A20 := ym A200; clear A200; by_cases c21 : t284 = true
      ·
       subst c21; (have H1 : (heraldref13_Check.l1 k2 (wrap64 (x5_2 + 1)) l0_0 l0_1) = some (r1, r2) := by rw [if_pos rfl] at H; exact H); clear H; have H := H1; clear H1; have H' := ym H; clear H; have hcz22_0 := yW BK282 0; have hcz22_1 := yW BK282 1; have hfz22_0 := yv BK282.out 0; have hfz22_1 := yv BK282.out 1
       go_wp2_with (first | ((with_reducible refine gate_callee (f := 55) rfl ?_); refine goesL_ (some 42) rfl rfl Try.func55 (by kernel_rfl) rfl #[.agg #[.slice A0_0 l0_0.length c0_0, .slice A0_1 l0_1.length c0_1], .int .i64 x5_2] rfl y6 ?_; (with_reducible refine (heraldref13_merge.calls k2 _ _ l0_0 _ _ l0_1 x5_2 true _ ?side1 ?side2 ?side3 ?side4 A20.out).mono ?_); (case side1 => exact y9 HR0_0); (case side2 => exact HC0_0.out); (case side3 => exact y9 HR0_1); (case side4 => exact HC0_1.out); rintro e w23 ⟨rfl, hb⟩; refine ⟨_, rfl, ?_⟩; replace BK282 := yQ BK282 hb; replace HB := yN hb; (try clear hb); (try clear hb2); (try clear hk); (try clear hi)))
       go_roundg k2
       case measure => have := HK1.out; have := HK2.out; omega
       case rel => exact ⟨(wrap64 (x5_2 + 1)), y7, H', ⟨by have := HK1.out; have := HK2.out; omega⟩, ⟨by (with_reducible repeat refine y4 ?_); exact BK282.out⟩, ⟨by repeat (first | (with_reducible first | exact HB.out | apply y3 | refine ys ?_ GE282.out) | exact HB.out)⟩⟩
      replace c21 := Bool.eq_false_iff.mpr c21; subst c21; (have H1 : (some (x5_2, 131)) = some (r1, r2) := by rw [if_neg (show ¬ (false = true) by decide)] at H; exact H); clear H; have H := H1; clear H1; simp only [Option.some.injEq, Prod.mk.injEq] at H; obtain ⟨rfl, rfl⟩ := H; have hcz24_0 := yW BK282 0; have hcz24_1 := yW BK282 1; have hfz24_0 := yv BK282.out 0; have hfz24_1 := yv BK282.out 1
      go_wp2_with (first | ((with_reducible refine gate_callee (f := 55) rfl ?_); refine goesL_ (some 42) rfl rfl Try.func55 (by kernel_rfl) rfl #[.agg #[.slice A0_0 l0_0.length c0_0, .slice A0_1 l0_1.length c0_1], .int .i64 x5_2] rfl y6 ?_; (with_reducible refine (heraldref13_merge.calls k2 _ _ l0_0 _ _ l0_1 x5_2 false _ ?side1 ?side2 ?side3 ?side4 A20.out).mono ?_); (case side1 => exact y9 HR0_0); (case side2 => exact HC0_0.out); (case side3 => exact y9 HR0_1); (case side4 => exact HC0_1.out); rintro e w25 ⟨rfl, hb⟩; refine ⟨_, rfl, ?_⟩; replace BK282 := yQ BK282 hb; replace HB := yN hb; (try clear hb); (try clear hb2); (try clear hk); (try clear hi)))
      go_ret2
      exact ⟨by first | rfl | (simp [errW_none, errW_some] <;> rfl) | (simp [*, errW_none, errW_some] <;> rfl), by repeat (first | (with_reducible first | exact HB.out | apply y3 | refine ys ?_ GE282.out) | exact HB.out)⟩
     rw [if_neg c19] at H; have c19b0 : decide (x5_2 < (l0_1.length : Int)) = false := decide_eq_false c19; clear c19; simp only [Option.some.injEq, Prod.mk.injEq] at H; obtain ⟨rfl, rfl⟩ := H; have hcz26_0 := yW BK282 0; have hcz26_1 := yW BK282 1; have hfz26_0 := yv BK282.out 0; have hfz26_1 := yv BK282.out 1
     go_wp2
     go_ret2
     exact ⟨by first | rfl | (simp [errW_none, errW_some] <;> rfl) | (simp [*, errW_none, errW_some] <;> rfl), by repeat (first | (with_reducible first | exact HB.out | apply y3 | refine ys ?_ GE282.out) | exact HB.out)⟩

end Go.Proofs.Ytfjpnmhbbfiaaaa.P
