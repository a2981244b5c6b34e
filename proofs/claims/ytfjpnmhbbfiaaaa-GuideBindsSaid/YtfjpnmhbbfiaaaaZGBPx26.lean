-- Printed by xprint.py (wip): functions, contracts, rows. Lean checks it.
import Derived.Test.YtfjpnmhbbfiaaaaZGBPx0
import Derived.Test.YtfjpnmhbbfiaaaaZGBPx15
import Derived.Test.YtfjpnmhbbfiaaaaZGBTiny2
namespace Go.Proofs.Ytfjpnmhbbfiaaaa.P
open Go.RowKit Go.Proofs.YtfjpnmhbbfiaaaaW.PrintWords Go.Proofs.YtfjpnmhbbfiaaaaW.PrintLast Go.Proofs.YtfjpnmhbbfiaaaaW.PrintMore
attribute [local go_sem] max2_int min2_int max_two min_two max_three min_three max_four min_four   -- for this text's walks alone
set_option linter.unusedVariables false
set_option linter.unusedSimpArgs false

/-! ### guide_State: function 27 -/
def guide_State.l0 : Nat → Int → List Int → Int → Int → List Bool → List (S92) → List ByteArray → List (S99) → Option (Int)
  | 0, _, _, _, _, _, _, _, _ => none
  | k + 1, x7, x10, x11, x12, x292000, x292001, x293000, x293001 => if x12 < x11 then (if 0 ≤ x12 then (if x12 < (x10.length : Int) then ((guide_Next.f k x292000 x292001 x293000 x293001 x7 (rd x10 x12)).bind fun t294 => (guide_State.l0 k t294 x10 x11 (wrap64 (x12 + 1)) x292000 x292001 x293000 x293001)) else (none)) else (none)) else (some x7)
def guide_State.f (k : Nat) (l0_0 : List Bool) (l0_1 : List (S92)) (l1_0 : List ByteArray) (l1_1 : List (S99)) (l2 : List Int) : Option (Int) := guide_State.l0 k 0 l2 (l2.length : Int) 0 l0_0 l0_1 l1_0 l1_1
theorem guide_State.mono_l : ∀ k, (∀ y0 y1 y2 y3 y4 y5 y6 y7, LeO (guide_State.l0 k y0 y1 y2 y3 y4 y5 y6 y7) (guide_State.l0 (k + 1) y0 y1 y2 y3 y4 y5 y6 y7))
  | 0 => fun _ _ _ _ _ _ _ _ r h => by simp [guide_State.l0] at h
  | k + 1 => by
    have ih0 := guide_State.mono_l k
    · intro y0 y1 y2 y3 y4 y5 y6 y7
      unfold guide_State.l0
      repeat' first
      | (with_reducible exact ih0 _ _ _ _ _ _ _ _)
      | (with_reducible exact guide_Next.mono _ _ _ _ _ _ _)
      | (with_reducible exact LeO.refl _)
      | (with_reducible exact LeO.none _)
      | (with_reducible refine LeO.ite ?_ ?_)
      | (with_reducible refine LeO.bind ?_ (fun _ => ?_))
      | exact ih0 _ _ _ _ _ _ _ _
      | exact guide_Next.mono _ _ _ _ _ _ _
      | exact LeO.none _
      | refine LeO.ite ?_ ?_
      | refine LeO.bind ?_ (fun _ => ?_)
theorem guide_State.mono : ∀ a0 a1 a2 a3 a4 k, LeO (guide_State.f k a0 a1 a2 a3 a4) (guide_State.f (k + 1) a0 a1 a2 a3 a4) := by
  intro a0 a1 a2 a3 a4 k
  have ih0 := guide_State.mono_l k
  unfold guide_State.f
  repeat' first
      | (with_reducible exact ih0 _ _ _ _ _ _ _ _)
      | (with_reducible exact guide_Next.mono _ _ _ _ _ _ _)
      | (with_reducible exact LeO.refl _)
      | (with_reducible exact LeO.none _)
      | (with_reducible refine LeO.ite ?_ ?_)
      | (with_reducible refine LeO.bind ?_ (fun _ => ?_))
      | exact ih0 _ _ _ _ _ _ _ _
      | exact guide_Next.mono _ _ _ _ _ _ _
      | exact LeO.none _
      | refine LeO.ite ?_ ?_
      | refine LeO.bind ?_ (fun _ => ?_)
set_option maxHeartbeats 8000000 in
set_option maxRecDepth 100000 in
theorem guide_State.calls (k : Nat) (A0_0 : Option Addr) (c0_0 : Nat) (l0_0 : List Bool) (A0_1 : Option Addr) (c0_1 : Nat) (l0_1 : List (S92)) (A1_0 : Option Addr) (c1_0 : Nat) (l1_0 : List ByteArray) (A1_1 : Option Addr) (c1_1 : Nat) (l1_1 : List (S99)) (A2 : Option Addr) (c2 : Nat) (l2 : List Int) (r : Int) (w : World) (hr0_0 : Kd.C Kd.bool w A0_0 l0_0.length l0_0) (hc0_0 : l0_0.length ≤ c0_0) (hr0_1 : Kd.C k92 w A0_1 l0_1.length l0_1) (hc0_1 : l0_1.length ≤ c0_1) (hr1_0 : Kd.C Kd.string w A1_0 l1_0.length l1_0) (hc1_0 : l1_0.length ≤ c1_0) (hr1_1 : Kd.C k99 w A1_1 l1_1.length l1_1) (hc1_1 : l1_1.length ≤ c1_1) (hr2 : Kd.C (Kd.int .i64) w A2 l2.length l2) (hc2 : l2.length ≤ c2) (h : guide_State.f k l0_0 l0_1 l1_0 l1_1 l2 = some r) :
    Calls Try.prog 27 #[.agg #[.slice A0_0 l0_0.length c0_0, .slice A0_1 l0_1.length c0_1], .agg #[.slice A1_0 l1_0.length c1_0, .slice A1_1 l1_1.length c1_1], .slice A2 l2.length c2] w fun e w' => e = .returned (.int .i64 r) ∧ Below w.heap.size w w' := by
 have hu25 := Try.underlying25; have hu52 := Try.underlying52; have HR0_0 := ym hr0_0; have HC0_0 := ym hc0_0; clear hr0_0 hc0_0; have HR0_1 := ym hr0_1; have HC0_1 := ym hc0_1; clear hr0_1 hc0_1; have HR1_0 := ym hr1_0; have HC1_0 := ym hc1_0; clear hr1_0 hc1_0; have HR1_1 := ym hr1_1; have HC1_1 := ym hc1_1; clear hr1_1 hc1_1; have HR2 := ym hr2; have HC2 := ym hc2; clear hr2 hc2; have HB := ym (Below.refl w.heap.size w); have H : (guide_State.l0 k 0 l2 (l2.length : Int) 0 l0_0 l0_1 l1_0 l1_1) = some r := h; clear h; have H' := ym H; clear H
 go_enter Try.func27, Try.ntmps27
 go_wp2_with (first | (refine zb (N := 3) (cs := #[.slice A0_0 l0_0.length c0_0, .slice A0_1 l0_1.length c0_1]) (t := 25) ?_; intro gb291 hg w4 hbox hb; have BK291 := ym (hbox); have GW291 := yE hg; replace HB := yN hb; have GE291 := GW291; clear hb hbox hg) | (refine zb (N := 4) (cs := #[.slice A1_0 l1_0.length c1_0, .slice A1_1 l1_1.length c1_1]) (t := 52) ?_; intro gb292 hg w5 hbox hb; have BK292 := ym (hbox); have GW292 := yE hg; replace HB := yN hb; have GE292 := GW292; have NB291_292 := yF hg BK291; have NB292_291 := yH hg BK291; replace BK291 := yQ BK291 hb; clear hb hbox hg))
 go_loopg [7, 12] k (fun kq v7 v12 w' => ∃ (x7_1 : Int) (x12_1 : Int), v7 = .int .i64 x7_1 ∧ v12 = .int .i64 x12_1 ∧ Aside0 (guide_State.l0 kq x7_1 l2 (l2.length : Int) x12_1 l0_0 l0_1 l1_0 l1_1 = some r) ∧ Aside0 (kq ≤ k) ∧ Aside0 (w'.heap[gb291]? = some (.cells #[(.slice A0_0 l0_0.length c0_0), (.slice A0_1 l0_1.length c0_1)] 25 (0, 0))) ∧ Aside0 (w'.heap[gb292]? = some (.cells #[(.slice A1_0 l1_0.length c1_0), (.slice A1_1 l1_1.length c1_1)] 52 (0, 0))) ∧ Aside0 (Below w.heap.size w w'))
 case atStart => exact ⟨(0), (0), y7, y7, H', ⟨Nat.le_refl _⟩, ⟨by (with_reducible repeat refine y4 ?_); exact BK291.out⟩, ⟨by (with_reducible repeat refine y4 ?_); exact BK292.out⟩, ⟨by repeat (first | (with_reducible first | exact HB.out | apply y3 | refine ys ?_ GE291.out | refine ys ?_ GE292.out) | exact HB.out)⟩⟩
 case round =>
  clear H'; (try clear c1); (try clear c2); (try clear p2); obtain ⟨x7_1, x12_1, rfl, rfl, HA, HK1, BK291, BK292, HB⟩ := hrel
  cases gk with
  | zero => exact absurd HA.out (by simp [guide_State.l0])
  | succ k1 =>
   have H := HA.out; clear HA; simp only [guide_State.l0] at H; by_cases c6 : x12_1 < (l2.length : Int)
   ·
    rw [if_pos c6] at H; have c6b0 : decide (x12_1 < (l2.length : Int)) = true := decide_eq_true c6; clear c6; by_cases c7 : 0 ≤ x12_1
    ·
     rw [if_pos c7] at H; have c7b0 : decide (0 ≤ x12_1) = true := decide_eq_true c7; clear c7; by_cases c8 : x12_1 < (l2.length : Int)
     ·
      rw [if_pos c8] at H; have c8b0 : decide (x12_1 < (l2.length : Int)) = true := decide_eq_true c8; clear c8; replace H := Option.bind_eq_some_iff.mp H; obtain ⟨t294, A90, H⟩ := H; replace H : (guide_State.l0 k1 t294 l2 (l2.length : Int) (wrap64 (x12_1 + 1)) l0_0 l0_1 l1_0 l1_1) = some r := H; have A9 := ym A90; clear A90; have H' := ym H; clear H; have p293 : 0 ≤ (x12_1 : Int) := of_decide_eq_true y5; have q293 : x12_1 < (l2.length : Int) := of_decide_eq_true y5; obtain ⟨ad293, e293, hx293_0⟩ := Kd.at_int HR2.out x12_1 p293 q293
      cases e293
      replace hx293_0 := (HB.out.cell (World.block_lt_of_cell? w _ hx293_0)).trans hx293_0; replace p293 := eq_true p293; replace q293 := eq_true q293; have hnb10 := NB291_292.out; have hnc10 := NB292_291.out; have hcz11_0 := yW BK291 0; have hcz11_1 := yW BK291 1; have hfz11_0 := yv BK291.out 0; have hfz11_1 := yv BK291.out 1; have hcz12_0 := yW BK292 0; have hcz12_1 := yW BK292 1; have hfz12_0 := yv BK292.out 0; have hfz12_1 := yv BK292.out 1
      go_wp2_with (first | ((with_reducible refine gate_callee (f := 25) rfl ?_); refine goesL_ (some 20) rfl rfl Try.func25 (by kernel_rfl) rfl #[.agg #[.slice A0_0 l0_0.length c0_0, .slice A0_1 l0_1.length c0_1], .agg #[.slice A1_0 l1_0.length c1_0, .slice A1_1 l1_1.length c1_1], .int .i64 x7_1, .int .i64 (rd l2 x12_1)] rfl y6 ?_; (with_reducible refine (guide_Next.calls k1 _ _ l0_0 _ _ l0_1 _ _ l1_0 _ _ l1_1 x7_1 (rd l2 x12_1) t294 _ ?side1 ?side2 ?side3 ?side4 ?side5 ?side6 ?side7 ?side8 A9.out).mono ?_); (case side1 => exact y9 HR0_0); (case side2 => exact HC0_0.out); (case side3 => exact y9 HR0_1); (case side4 => exact HC0_1.out); (case side5 => exact y9 HR1_0); (case side6 => exact HC1_0.out); (case side7 => exact y9 HR1_1); (case side8 => exact HC1_1.out); rintro e w13 ⟨rfl, hb⟩; refine ⟨_, rfl, ?_⟩; replace BK291 := yQ BK291 hb; replace BK292 := yQ BK292 hb; replace HB := yN hb; (try clear hb); (try clear hb2); (try clear hk); (try clear hi)))
      go_roundg k1
      case measure => have := HK1.out; omega
      case rel => exact ⟨(t294), (wrap64 (x12_1 + 1)), y7, y7, H', ⟨by have := HK1.out; omega⟩, ⟨by (with_reducible repeat refine y4 ?_); exact BK291.out⟩, ⟨by (with_reducible repeat refine y4 ?_); exact BK292.out⟩, ⟨by repeat (first | (with_reducible first | exact HB.out | apply y3 | refine ys ?_ GE291.out | refine ys ?_ GE292.out) | exact HB.out)⟩⟩
     rw [if_neg c8] at H; exact absurd H (by simp)
    rw [if_neg c7] at H; exact absurd H (by simp)
   rw [if_neg c6] at H; have c6b0 : decide (x12_1 < (l2.length : Int)) = false := decide_eq_false c6; clear c6; obtain rfl := Option.some.inj H
   go_wp2
   go_ret
   exact ⟨by first | rfl | (simp [errW_none, errW_some] <;> rfl) | (simp [*, errW_none, errW_some] <;> rfl), by repeat (first | (with_reducible first | exact HB.out | apply y3 | refine ys ?_ GE291.out | refine ys ?_ GE292.out) | exact HB.out)⟩

end Go.Proofs.Ytfjpnmhbbfiaaaa.P
