-- Printed by xprint.py (wip): functions, contracts, rows. Lean checks it.
import Derived.Test.YtfjpnmhbbfiaaaaZGYPx0
import Derived.Test.YtfjpnmhbbfiaaaaZGYPx3
import Derived.Test.YtfjpnmhbbfiaaaaZGYPx4
import Derived.Test.YtfjpnmhbbfiaaaaZGYTiny2
namespace Go.Proofs.Ytfjpnmhbbfiaaaa.P
open Go.RowKit Go.Proofs.YtfjpnmhbbfiaaaaW.PrintWords Go.Proofs.YtfjpnmhbbfiaaaaW.PrintLast Go.Proofs.YtfjpnmhbbfiaaaaW.PrintMore
attribute [local go_sem] max2_int min2_int max_two min_two max_three min_three max_four min_four   -- for this text's walks alone
set_option linter.unusedVariables false
set_option linter.unusedSimpArgs false

/-! ### guide_Alive: function 21 -/
def guide_Alive.f (k : Nat) (l0_0 : List Bool) (l0_1 : List (S92)) : Option (List Bool × Int) := (guide_Check.f k l0_0 l0_1).bind fun bt459 => (if bt459.2 = 0 then ((guide_alive.f k l0_0 l0_1).bind fun t461 => (some (t461, 0))) else (some (([] : List Bool), bt459.2)))
theorem guide_Alive.mono : ∀ a0 a1 k, LeO (guide_Alive.f k a0 a1) (guide_Alive.f (k + 1) a0 a1) := by
  intro a0 a1 k
  unfold guide_Alive.f
  repeat' first
      | (with_reducible exact guide_Check.mono _ _ _)
      | (with_reducible exact guide_alive.mono _ _ _)
      | (with_reducible exact LeO.refl _)
      | (with_reducible exact LeO.none _)
      | (with_reducible refine LeO.ite ?_ ?_)
      | (with_reducible refine LeO.bind ?_ (fun _ => ?_))
      | exact guide_Check.mono _ _ _
      | exact guide_alive.mono _ _ _
      | exact LeO.none _
      | refine LeO.ite ?_ ?_
      | refine LeO.bind ?_ (fun _ => ?_)
set_option maxHeartbeats 8000000 in
set_option maxRecDepth 100000 in
theorem guide_Alive.calls (k : Nat) (A0_0 : Option Addr) (c0_0 : Nat) (l0_0 : List Bool) (A0_1 : Option Addr) (c0_1 : Nat) (l0_1 : List (S92)) (r1 : List Bool) (r2 : Int) (w : World) (hr0_0 : Kd.C Kd.bool w A0_0 l0_0.length l0_0) (hc0_0 : l0_0.length ≤ c0_0) (hr0_1 : Kd.C k92 w A0_1 l0_1.length l0_1) (hc0_1 : l0_1.length ≤ c0_1) (h : guide_Alive.f k l0_0 l0_1 = some (r1, r2)) :
    Calls Try.prog 21 #[.agg #[.slice A0_0 l0_0.length c0_0, .slice A0_1 l0_1.length c0_1]] w fun e w' => ∃ v0_ : Value, e = .returned (.tuple #[v0_, .int .i64 r2]) ∧ Kd.R Kd.bool 4 w' w.heap.size (fun _ => True) v0_ r1 ∧ Below w.heap.size w w' := by
 have hu25 := Try.underlying25; have HR0_0 := ym hr0_0; have HC0_0 := ym hc0_0; clear hr0_0 hc0_0; have HR0_1 := ym hr0_1; have HC0_1 := ym hc0_1; clear hr0_1 hc0_1; have HB := ym (Below.refl w.heap.size w); have H : ((guide_Check.f k l0_0 l0_1).bind fun bt459 => (if bt459.2 = 0 then ((guide_alive.f k l0_0 l0_1).bind fun t461 => (some (t461, 0))) else (some (([] : List Bool), bt459.2)))) = some (r1, r2) := h; clear h; replace H := Option.bind_eq_some_iff.mp H; obtain ⟨⟨t459, t460⟩, A20, H⟩ := H; replace H : (if t460 = 0 then ((guide_alive.f k l0_0 l0_1).bind fun t461 => (some (t461, 0))) else (some (([] : List Bool), t460))) = some (r1, r2) := H; have A2 := ym A20; clear A20; by_cases c3 : t460 = 0
 ·
  rw [if_pos c3] at H; have c3b0 : (t460 == 0) = true := beq_iff_eq.mpr c3; have c3b1 : (t460 != 0) = false := bne_eq_false_iff_eq.mpr c3; clear c3; replace H := Option.bind_eq_some_iff.mp H; obtain ⟨t461, A40, H⟩ := H; replace H : (some (t461, 0)) = some (r1, r2) := H; have A4 := ym A40; clear A40; simp only [Option.some.injEq, Prod.mk.injEq] at H; obtain ⟨rfl, rfl⟩ := H
  go_enter Try.func21, Try.ntmps21
  go_wp2_with (first | (refine zb (N := 1) (cs := #[.slice A0_0 l0_0.length c0_0, .slice A0_1 l0_1.length c0_1]) (t := 25) ?_; intro gb458 hg w5 hbox hb; have BK458 := ym (hbox); have GW458 := yE hg; replace HB := yN hb; have GE458 := GW458; clear hb hbox hg; have hcz6_0 := yW BK458 0; have hcz6_1 := yW BK458 1; have hfz6_0 := yv BK458.out 0; have hfz6_1 := yv BK458.out 1) | ((with_reducible refine gate_callee (f := 19) rfl ?_); refine goesL_ (some 8) rfl rfl Try.func19 (by kernel_rfl) rfl #[.agg #[.slice A0_0 l0_0.length c0_0, .slice A0_1 l0_1.length c0_1]] rfl y6 ?_; (with_reducible refine (guide_Check.calls k _ _ l0_0 _ _ l0_1 t459 t460 _ ?side1 ?side2 ?side3 ?side4 A2.out).mono ?_); (case side1 => exact y9 HR0_0); (case side2 => exact HC0_0.out); (case side3 => exact y9 HR0_1); (case side4 => exact HC0_1.out); rintro e w7 ⟨rfl, hb⟩; refine ⟨_, rfl, ?_⟩; replace BK458 := yQ BK458 hb; replace HB := yN hb; (try clear hb); (try clear hb2); (try clear hk); (try clear hi); have hcz8_0 := yW BK458 0; have hcz8_1 := yW BK458 1; have hfz8_0 := yv BK458.out 0; have hfz8_1 := yv BK458.out 1) | ((with_reducible refine gate_callee (f := 51) rfl ?_); refine goesL_ (some 15) rfl rfl Try.func51 (by kernel_rfl) rfl #[.agg #[.slice A0_0 l0_0.length c0_0, .slice A0_1 l0_1.length c0_1]] rfl y6 ?_; (with_reducible refine (guide_alive.calls k _ _ l0_0 _ _ l0_1 t461 _ ?side1 ?side2 ?side3 ?side4 A4.out).mono ?_); (case side1 => exact y9 HR0_0); (case side2 => exact HC0_0.out); (case side3 => exact y9 HR0_1); (case side4 => exact HC0_1.out); rintro e w9 ⟨v462, rfl, ho0, hb⟩; refine ⟨_, rfl, ?_⟩; have HO463 := ym (yo ho0 (below_size yb)); replace BK458 := yQ BK458 hb; replace HB := yN hb; (try clear hb); (try clear hb2); (try clear hk); (try clear hi); (try clear ho0)))
  go_ret2
  exact ⟨_, by first | rfl | (simp [errW_none, errW_some] <;> rfl) | (simp [*, errW_none, errW_some] <;> rfl), by (with_reducible repeat apply y2); exact HO463.out, by repeat (first | (with_reducible first | exact HB.out | apply y3 | refine ys ?_ GE458.out) | exact HB.out)⟩
 rw [if_neg c3] at H; have c3b0 : (t460 == 0) = false := beq_eq_false_iff_ne.mpr c3; have c3b1 : (t460 != 0) = true := bne_iff_ne.mpr c3; simp only [Option.some.injEq, Prod.mk.injEq] at H; obtain ⟨rfl, rfl⟩ := H
 go_enter Try.func21, Try.ntmps21
 go_wp2_with (first | (refine zb (N := 1) (cs := #[.slice A0_0 l0_0.length c0_0, .slice A0_1 l0_1.length c0_1]) (t := 25) ?_; intro gb458 hg w10 hbox hb; have BK458 := ym (hbox); have GW458 := yE hg; replace HB := yN hb; have GE458 := GW458; clear hb hbox hg; have hcz11_0 := yW BK458 0; have hcz11_1 := yW BK458 1; have hfz11_0 := yv BK458.out 0; have hfz11_1 := yv BK458.out 1) | ((with_reducible refine gate_callee (f := 19) rfl ?_); refine goesL_ (some 8) rfl rfl Try.func19 (by kernel_rfl) rfl #[.agg #[.slice A0_0 l0_0.length c0_0, .slice A0_1 l0_1.length c0_1]] rfl y6 ?_; (with_reducible refine (guide_Check.calls k _ _ l0_0 _ _ l0_1 t459 t460 _ ?side1 ?side2 ?side3 ?side4 A2.out).mono ?_); (case side1 => exact y9 HR0_0); (case side2 => exact HC0_0.out); (case side3 => exact y9 HR0_1); (case side4 => exact HC0_1.out); rintro e w12 ⟨rfl, hb⟩; refine ⟨_, rfl, ?_⟩; replace BK458 := yQ BK458 hb; replace HB := yN hb; (try clear hb); (try clear hb2); (try clear hk); (try clear hi)))
 go_ret2
 exact ⟨_, by first | rfl | (simp [errW_none, errW_some] <;> rfl) | (simp [*, errW_none, errW_some] <;> rfl), by first | exact Kd.R_nil _ _ _ _ _ | exact Kd.N_nil _ _ _ _ _ | exact Kd.V_nil _ _ _ _ _ | exact Kd.Q_nil _ _ _ _ _ | exact Kd.S_nil _ _ _ _ _, by repeat (first | (with_reducible first | exact HB.out | apply y3 | refine ys ?_ GE458.out) | exact HB.out)⟩

end Go.Proofs.Ytfjpnmhbbfiaaaa.P
