-- Printed by xprint.py (wip): functions, contracts, rows. Lean checks it.
import Derived.Test.YtfjpnmhbbfiaaaaZGSPx0
import Derived.Test.YtfjpnmhbbfiaaaaZGSPx4
import Derived.Test.YtfjpnmhbbfiaaaaZGSPx5
import Derived.Test.YtfjpnmhbbfiaaaaZGSWRepsOne
namespace Go.Proofs.Ytfjpnmhbbfiaaaa.P
open Go.RowKit Go.Proofs.YtfjpnmhbbfiaaaaW.PrintWords Go.Proofs.YtfjpnmhbbfiaaaaW.PrintLast Go.Proofs.YtfjpnmhbbfiaaaaW.PrintMore
attribute [local go_sem] max2_int min2_int max_two min_two max_three min_three max_four min_four   -- for this text's walks alone
set_option linter.unusedVariables false
set_option linter.unusedSimpArgs false

/-! ### guide_Walk: function 15 -/
def guide_Walk.f (k : Nat) (l0_0 : List Bool) (l0_1 : List (S92)) (a1 : Int) (a2 : ByteArray) : Option (Int) := (guide_Check.f k l0_0 l0_1).bind fun bt156 => (if bt156.2 = 0 then ((guide_walk.f k l0_0 l0_1 a1 a2).bind fun t158 => (some t158)) else (some (-1)))
theorem guide_Walk.mono : ∀ a0 a1 a2 a3 k, LeO (guide_Walk.f k a0 a1 a2 a3) (guide_Walk.f (k + 1) a0 a1 a2 a3) := by
  intro a0 a1 a2 a3 k
  unfold guide_Walk.f
  repeat' first
      | (with_reducible exact guide_Check.mono _ _ _)
      | (with_reducible exact guide_walk.mono _ _ _ _ _)
      | (with_reducible exact LeO.refl _)
      | (with_reducible exact LeO.none _)
      | (with_reducible refine LeO.ite ?_ ?_)
      | (with_reducible refine LeO.bind ?_ (fun _ => ?_))
      | exact guide_Check.mono _ _ _
      | exact guide_walk.mono _ _ _ _ _
      | exact LeO.none _
      | refine LeO.ite ?_ ?_
      | refine LeO.bind ?_ (fun _ => ?_)
set_option maxHeartbeats 8000000 in
set_option maxRecDepth 100000 in
theorem guide_Walk.calls (k : Nat) (A0_0 : Option Addr) (c0_0 : Nat) (l0_0 : List Bool) (A0_1 : Option Addr) (c0_1 : Nat) (l0_1 : List (S92)) (a1 : Int) (a2 : ByteArray) (r : Int) (w : World) (hr0_0 : Kd.C Kd.bool w A0_0 l0_0.length l0_0) (hc0_0 : l0_0.length ≤ c0_0) (hr0_1 : Kd.C k92 w A0_1 l0_1.length l0_1) (hc0_1 : l0_1.length ≤ c0_1) (h : guide_Walk.f k l0_0 l0_1 a1 a2 = some r) :
    Calls Try.prog 15 #[.agg #[.slice A0_0 l0_0.length c0_0, .slice A0_1 l0_1.length c0_1], .int .i64 a1, .string a2] w fun e w' => e = .returned (.int .i64 r) ∧ Below w.heap.size w w' := by
 have hu25 := Try.underlying25; have HR0_0 := ym hr0_0; have HC0_0 := ym hc0_0; clear hr0_0 hc0_0; have HR0_1 := ym hr0_1; have HC0_1 := ym hc0_1; clear hr0_1 hc0_1; have HB := ym (Below.refl w.heap.size w); have H : ((guide_Check.f k l0_0 l0_1).bind fun bt156 => (if bt156.2 = 0 then ((guide_walk.f k l0_0 l0_1 a1 a2).bind fun t158 => (some t158)) else (some (-1)))) = some r := h; clear h; replace H := Option.bind_eq_some_iff.mp H; obtain ⟨⟨t156, t157⟩, A40, H⟩ := H; replace H : (if t157 = 0 then ((guide_walk.f k l0_0 l0_1 a1 a2).bind fun t158 => (some t158)) else (some (-1))) = some r := H; have A4 := ym A40; clear A40; by_cases c5 : t157 = 0
 ·
  rw [if_pos c5] at H; have c5b0 : (t157 == 0) = true := beq_iff_eq.mpr c5; have c5b1 : (t157 != 0) = false := bne_eq_false_iff_eq.mpr c5; clear c5; replace H := Option.bind_eq_some_iff.mp H; obtain ⟨t158, A60, H⟩ := H; replace H : (some t158) = some r := H; have A6 := ym A60; clear A60; obtain rfl := Option.some.inj H
  go_enter Try.func15, Try.ntmps15
  go_wp2_with (first | (refine zb (N := 3) (cs := #[.slice A0_0 l0_0.length c0_0, .slice A0_1 l0_1.length c0_1]) (t := 25) ?_; intro gb155 hg w7 hbox hb; have BK155 := ym (hbox); have GW155 := yE hg; replace HB := yN hb; have GE155 := GW155; clear hb hbox hg; have hcz8_0 := yW BK155 0; have hcz8_1 := yW BK155 1; have hfz8_0 := yv BK155.out 0; have hfz8_1 := yv BK155.out 1) | ((with_reducible refine gate_callee (f := 19) rfl ?_); refine goesL_ (some 11) rfl rfl Try.func19 (by kernel_rfl) rfl #[.agg #[.slice A0_0 l0_0.length c0_0, .slice A0_1 l0_1.length c0_1]] rfl y6 ?_; (with_reducible refine (guide_Check.calls k _ _ l0_0 _ _ l0_1 t156 t157 _ ?side1 ?side2 ?side3 ?side4 A4.out).mono ?_); (case side1 => exact y9 HR0_0); (case side2 => exact HC0_0.out); (case side3 => exact y9 HR0_1); (case side4 => exact HC0_1.out); rintro e w9 ⟨rfl, hb⟩; refine ⟨_, rfl, ?_⟩; replace BK155 := yQ BK155 hb; replace HB := yN hb; (try clear hb); (try clear hb2); (try clear hk); (try clear hi); have hcz10_0 := yW BK155 0; have hcz10_1 := yW BK155 1; have hfz10_0 := yv BK155.out 0; have hfz10_1 := yv BK155.out 1) | ((with_reducible refine gate_callee (f := 48) rfl ?_); refine goesL_ (some 19) rfl rfl Try.func48 (by kernel_rfl) rfl #[.agg #[.slice A0_0 l0_0.length c0_0, .slice A0_1 l0_1.length c0_1], .int .i64 a1, .string a2] rfl y6 ?_; (with_reducible refine (guide_walk.calls k _ _ l0_0 _ _ l0_1 a1 a2 t158 _ ?side1 ?side2 ?side3 ?side4 A6.out).mono ?_); (case side1 => exact y9 HR0_0); (case side2 => exact HC0_0.out); (case side3 => exact y9 HR0_1); (case side4 => exact HC0_1.out); rintro e w11 ⟨rfl, hb⟩; refine ⟨_, rfl, ?_⟩; replace BK155 := yQ BK155 hb; replace HB := yN hb; (try clear hb); (try clear hb2); (try clear hk); (try clear hi)))
  go_ret
  exact ⟨by first | rfl | (simp [errW_none, errW_some] <;> rfl) | (simp [*, errW_none, errW_some] <;> rfl), by repeat (first | (with_reducible first | exact HB.out | apply y3 | refine ys ?_ GE155.out) | exact HB.out)⟩
 rw [if_neg c5] at H; have c5b0 : (t157 == 0) = false := beq_eq_false_iff_ne.mpr c5; have c5b1 : (t157 != 0) = true := bne_iff_ne.mpr c5; obtain rfl := Option.some.inj H
 go_enter Try.func15, Try.ntmps15
 go_wp2_with (first | (refine zb (N := 3) (cs := #[.slice A0_0 l0_0.length c0_0, .slice A0_1 l0_1.length c0_1]) (t := 25) ?_; intro gb155 hg w12 hbox hb; have BK155 := ym (hbox); have GW155 := yE hg; replace HB := yN hb; have GE155 := GW155; clear hb hbox hg; have hcz13_0 := yW BK155 0; have hcz13_1 := yW BK155 1; have hfz13_0 := yv BK155.out 0; have hfz13_1 := yv BK155.out 1) | ((with_reducible refine gate_callee (f := 19) rfl ?_); refine goesL_ (some 11) rfl rfl Try.func19 (by kernel_rfl) rfl #[.agg #[.slice A0_0 l0_0.length c0_0, .slice A0_1 l0_1.length c0_1]] rfl y6 ?_; (with_reducible refine (guide_Check.calls k _ _ l0_0 _ _ l0_1 t156 t157 _ ?side1 ?side2 ?side3 ?side4 A4.out).mono ?_); (case side1 => exact y9 HR0_0); (case side2 => exact HC0_0.out); (case side3 => exact y9 HR0_1); (case side4 => exact HC0_1.out); rintro e w14 ⟨rfl, hb⟩; refine ⟨_, rfl, ?_⟩; replace BK155 := yQ BK155 hb; replace HB := yN hb; (try clear hb); (try clear hb2); (try clear hk); (try clear hi)))
 go_ret
 exact ⟨by first | rfl | (simp [errW_none, errW_some] <;> rfl) | (simp [*, errW_none, errW_some] <;> rfl), by repeat (first | (with_reducible first | exact HB.out | apply y3 | refine ys ?_ GE155.out) | exact HB.out)⟩

end Go.Proofs.Ytfjpnmhbbfiaaaa.P
