-- Printed by xprint.py (wip): functions, contracts, rows. Lean checks it.
import Derived.Test.YtfjpnmhbbfiaaaaZGSPx0
import Derived.Test.YtfjpnmhbbfiaaaaZGSPx4
import Derived.Test.YtfjpnmhbbfiaaaaZGSPx5
import Derived.Test.YtfjpnmhbbfiaaaaZGSWRepsOne
namespace Go.Proofs.Ytfjpnmhbbfiaaaa.P
open Go.RowKit Go.Proofs.YtfjpnmhbbfiaaaaW.PrintWords Go.Proofs.YtfjpnmhbbfiaaaaW.PrintLast Go.Proofs.YtfjpnmhbbfiaaaaW.PrintMore
attribute [local go_sem] max2_int min2_int max_two min_two max_three min_three max_four min_four   -- for this text's walks alone
set_option linter.unusedVariables false
set_option linter.unusedSimpArgs false

/-! ### guide_Accepts: function 17 -/
def guide_Accepts.f (k : Nat) (l0_0 : List Bool) (l0_1 : List (S92)) (a1 : ByteArray) : Option (Bool) := (guide_Check.f k l0_0 l0_1).bind fun bt160 => (if bt160.2 = 0 then (if (l0_0.length : Int) = 0 then (some true) else ((guide_walk.f k l0_0 l0_1 0 a1).bind fun t162 => (if t162 ≥ 0 then (if 0 ≤ t162 then (if t162 < (l0_0.length : Int) then (some (rdOf false l0_0 t162)) else (none)) else (none)) else (some false)))) else (some false))
theorem guide_Accepts.mono : ∀ a0 a1 a2 k, LeO (guide_Accepts.f k a0 a1 a2) (guide_Accepts.f (k + 1) a0 a1 a2) := by
  intro a0 a1 a2 k
  unfold guide_Accepts.f
  repeat' first
      | (with_reducible exact guide_Check.mono _ _ _)
      | (with_reducible exact guide_walk.mono _ _ _ _ _)
      | (with_reducible exact LeO.refl _)
      | (with_reducible exact LeO.none _)
      | (with_reducible refine LeO.ite ?_ ?_)
      | (with_reducible refine LeO.bind ?_ (fun _ => ?_))
      | exact guide_Check.mono _ _ _
      | exact guide_walk.mono _ _ _ _ _
      | exact LeO.none _
      | refine LeO.ite ?_ ?_
      | refine LeO.bind ?_ (fun _ => ?_)
set_option maxHeartbeats 8000000 in
set_option maxRecDepth 100000 in
theorem guide_Accepts.calls (k : Nat) (A0_0 : Option Addr) (c0_0 : Nat) (l0_0 : List Bool) (A0_1 : Option Addr) (c0_1 : Nat) (l0_1 : List (S92)) (a1 : ByteArray) (r : Bool) (w : World) (hr0_0 : Kd.C Kd.bool w A0_0 l0_0.length l0_0) (hc0_0 : l0_0.length ≤ c0_0) (hr0_1 : Kd.C k92 w A0_1 l0_1.length l0_1) (hc0_1 : l0_1.length ≤ c0_1) (h : guide_Accepts.f k l0_0 l0_1 a1 = some r) :
    Calls Try.prog 17 #[.agg #[.slice A0_0 l0_0.length c0_0, .slice A0_1 l0_1.length c0_1], .string a1] w fun e w' => e = .returned (.bool r) ∧ Below w.heap.size w w' := by
 have hu25 := Try.underlying25; have HR0_0 := ym hr0_0; have HC0_0 := ym hc0_0; clear hr0_0 hc0_0; have HR0_1 := ym hr0_1; have HC0_1 := ym hc0_1; clear hr0_1 hc0_1; have HB := ym (Below.refl w.heap.size w); have H : ((guide_Check.f k l0_0 l0_1).bind fun bt160 => (if bt160.2 = 0 then (if (l0_0.length : Int) = 0 then (some true) else ((guide_walk.f k l0_0 l0_1 0 a1).bind fun t162 => (if t162 ≥ 0 then (if 0 ≤ t162 then (if t162 < (l0_0.length : Int) then (some (rdOf false l0_0 t162)) else (none)) else (none)) else (some false)))) else (some false))) = some r := h; clear h; replace H := Option.bind_eq_some_iff.mp H; obtain ⟨⟨t160, t161⟩, A30, H⟩ := H; replace H : (if t161 = 0 then (if (l0_0.length : Int) = 0 then (some true) else ((guide_walk.f k l0_0 l0_1 0 a1).bind fun t162 => (if t162 ≥ 0 then (if 0 ≤ t162 then (if t162 < (l0_0.length : Int) then (some (rdOf false l0_0 t162)) else (none)) else (none)) else (some false)))) else (some false)) = some r := H; have A3 := ym A30; clear A30; by_cases c4 : t161 = 0
 ·
  rw [if_pos c4] at H; have c4b0 : (t161 == 0) = true := beq_iff_eq.mpr c4; have c4b1 : (t161 != 0) = false := bne_eq_false_iff_eq.mpr c4; clear c4; by_cases c5 : (l0_0.length : Int) = 0
  ·
   rw [if_pos c5] at H; have c5b0 : ((l0_0.length : Int) == 0) = true := beq_iff_eq.mpr c5; have c5b1 : ((l0_0.length : Int) != 0) = false := bne_eq_false_iff_eq.mpr c5; clear c5; obtain rfl := Option.some.inj H
   go_enter Try.func17, Try.ntmps17
   go_wp2_with (first | (refine zb (N := 2) (cs := #[.slice A0_0 l0_0.length c0_0, .slice A0_1 l0_1.length c0_1]) (t := 25) ?_; intro gb159 hg w6 hbox hb; have BK159 := ym (hbox); have GW159 := yE hg; replace HB := yN hb; have GE159 := GW159; clear hb hbox hg; have hcz7_0 := yW BK159 0; have hcz7_1 := yW BK159 1; have hfz7_0 := yv BK159.out 0; have hfz7_1 := yv BK159.out 1) | ((with_reducible refine gate_callee (f := 19) rfl ?_); refine goesL_ (some 10) rfl rfl Try.func19 (by kernel_rfl) rfl #[.agg #[.slice A0_0 l0_0.length c0_0, .slice A0_1 l0_1.length c0_1]] rfl y6 ?_; (with_reducible refine (guide_Check.calls k _ _ l0_0 _ _ l0_1 t160 t161 _ ?side1 ?side2 ?side3 ?side4 A3.out).mono ?_); (case side1 => exact y9 HR0_0); (case side2 => exact HC0_0.out); (case side3 => exact y9 HR0_1); (case side4 => exact HC0_1.out); rintro e w8 ⟨rfl, hb⟩; refine ⟨_, rfl, ?_⟩; replace BK159 := yQ BK159 hb; replace HB := yN hb; (try clear hb); (try clear hb2); (try clear hk); (try clear hi); have hcz9_0 := yW BK159 0; have hcz9_1 := yW BK159 1; have hfz9_0 := yv BK159.out 0; have hfz9_1 := yv BK159.out 1))
   go_ret
   exact ⟨by first | rfl | (simp [errW_none, errW_some] <;> rfl) | (simp [*, errW_none, errW_some] <;> rfl), by repeat (first | (with_reducible first | exact HB.out | apply y3 | refine ys ?_ GE159.out) | exact HB.out)⟩
  rw [if_neg c5] at H; have c5b0 : ((l0_0.length : Int) == 0) = false := beq_eq_false_iff_ne.mpr c5; have c5b1 : ((l0_0.length : Int) != 0) = true := bne_iff_ne.mpr c5; have c5b2 : ¬ (l0_0 = []) := fun h_ => c5 (by rw [h_]; rfl); replace H := Option.bind_eq_some_iff.mp H; obtain ⟨t162, A100, H⟩ := H; replace H : (if t162 ≥ 0 then (if 0 ≤ t162 then (if t162 < (l0_0.length : Int) then (some (rdOf false l0_0 t162)) else (none)) else (none)) else (some false)) = some r := H; have A10 := ym A100; clear A100; by_cases c11 : t162 ≥ 0
  ·
   rw [if_pos c11] at H; have c11b0 : decide (0 ≤ t162) = true := decide_eq_true c11; clear c11; by_cases c12 : 0 ≤ t162
   ·
    rw [if_pos c12] at H; have c12b0 : decide (0 ≤ t162) = true := decide_eq_true c12; clear c12; by_cases c13 : t162 < (l0_0.length : Int)
    ·
     rw [if_pos c13] at H; have c13b0 : decide (t162 < (l0_0.length : Int)) = true := decide_eq_true c13; clear c13; obtain rfl := Option.some.inj H
     go_enter Try.func17, Try.ntmps17
     go_wp2_with (first | (refine zb (N := 2) (cs := #[.slice A0_0 l0_0.length c0_0, .slice A0_1 l0_1.length c0_1]) (t := 25) ?_; intro gb159 hg w14 hbox hb; have BK159 := ym (hbox); have GW159 := yE hg; replace HB := yN hb; have GE159 := GW159; clear hb hbox hg; have hcz15_0 := yW BK159 0; have hcz15_1 := yW BK159 1; have hfz15_0 := yv BK159.out 0; have hfz15_1 := yv BK159.out 1) | ((with_reducible refine gate_callee (f := 19) rfl ?_); refine goesL_ (some 10) rfl rfl Try.func19 (by kernel_rfl) rfl #[.agg #[.slice A0_0 l0_0.length c0_0, .slice A0_1 l0_1.length c0_1]] rfl y6 ?_; (with_reducible refine (guide_Check.calls k _ _ l0_0 _ _ l0_1 t160 t161 _ ?side1 ?side2 ?side3 ?side4 A3.out).mono ?_); (case side1 => exact y9 HR0_0); (case side2 => exact HC0_0.out); (case side3 => exact y9 HR0_1); (case side4 => exact HC0_1.out); rintro e w16 ⟨rfl, hb⟩; refine ⟨_, rfl, ?_⟩; replace BK159 := yQ BK159 hb; replace HB := yN hb; (try clear hb); (try clear hb2); (try clear hk); (try clear hi); have hcz17_0 := yW BK159 0; have hcz17_1 := yW BK159 1; have hfz17_0 := yv BK159.out 0; have hfz17_1 := yv BK159.out 1) | ((with_reducible refine gate_callee (f := 48) rfl ?_); refine goesL_ (some 21) rfl rfl Try.func48 (by kernel_rfl) rfl #[.agg #[.slice A0_0 l0_0.length c0_0, .slice A0_1 l0_1.length c0_1], .int .i64 0, .string a1] rfl y6 ?_; (with_reducible refine (guide_walk.calls k _ _ l0_0 _ _ l0_1 0 a1 t162 _ ?side1 ?side2 ?side3 ?side4 A10.out).mono ?_); (case side1 => exact y9 HR0_0); (case side2 => exact HC0_0.out); (case side3 => exact y9 HR0_1); (case side4 => exact HC0_1.out); rintro e w18 ⟨rfl, hb⟩; refine ⟨_, rfl, ?_⟩; replace BK159 := yQ BK159 hb; replace HB := yN hb; (try clear hb); (try clear hb2); (try clear hk); (try clear hi); have hcz19_0 := yW BK159 0; have hcz19_1 := yW BK159 1; have hfz19_0 := yv BK159.out 0; have hfz19_1 := yv BK159.out 1; have p163 : 0 ≤ (t162 : Int) := of_decide_eq_true y5; have q163 : t162 < (l0_0.length : Int) := of_decide_eq_true y5; obtain ⟨ad163, e163, hx163_0⟩ := Kd.at_bool HR0_0.out t162 p163 q163; cases e163; replace hx163_0 := (HB.out.cell (World.block_lt_of_cell? w _ hx163_0)).trans hx163_0; replace p163 := eq_true p163; replace q163 := eq_true q163))
     go_ret
     exact ⟨by first | rfl | (simp [errW_none, errW_some] <;> rfl) | (simp [*, errW_none, errW_some] <;> rfl), by repeat (first | (with_reducible first | exact HB.out | apply y3 | refine ys ?_ GE159.out) | exact HB.out)⟩
    rw [if_neg c13] at H; exact absurd H (by simp)
   rw [if_neg c12] at H; exact absurd H (by simp)
  rw [if_neg c11] at H; have c11b0 : decide (0 ≤ t162) = false := decide_eq_false c11; clear c11; obtain rfl := Option.some.inj H
  go_enter Try.func17, Try.ntmps17
  go_wp2_with (first | (refine zb (N := 2) (cs := #[.slice A0_0 l0_0.length c0_0, .slice A0_1 l0_1.length c0_1]) (t := 25) ?_; intro gb159 hg w20 hbox hb; have BK159 := ym (hbox); have GW159 := yE hg; replace HB := yN hb; have GE159 := GW159; clear hb hbox hg; have hcz21_0 := yW BK159 0; have hcz21_1 := yW BK159 1; have hfz21_0 := yv BK159.out 0; have hfz21_1 := yv BK159.out 1) | ((with_reducible refine gate_callee (f := 19) rfl ?_); refine goesL_ (some 10) rfl rfl Try.func19 (by kernel_rfl) rfl #[.agg #[.slice A0_0 l0_0.length c0_0, .slice A0_1 l0_1.length c0_1]] rfl y6 ?_; (with_reducible refine (guide_Check.calls k _ _ l0_0 _ _ l0_1 t160 t161 _ ?side1 ?side2 ?side3 ?side4 A3.out).mono ?_); (case side1 => exact y9 HR0_0); (case side2 => exact HC0_0.out); (case side3 => exact y9 HR0_1); (case side4 => exact HC0_1.out); rintro e w22 ⟨rfl, hb⟩; refine ⟨_, rfl, ?_⟩; replace BK159 := yQ BK159 hb; replace HB := yN hb; (try clear hb); (try clear hb2); (try clear hk); (try clear hi); have hcz23_0 := yW BK159 0; have hcz23_1 := yW BK159 1; have hfz23_0 := yv BK159.out 0; have hfz23_1 := yv BK159.out 1) | ((with_reducible refine gate_callee (f := 48) rfl ?_); refine goesL_ (some 21) rfl rfl Try.func48 (by kernel_rfl) rfl #[.agg #[.slice A0_0 l0_0.length c0_0, .slice A0_1 l0_1.length c0_1], .int .i64 0, .string a1] rfl y6 ?_; (with_reducible refine (guide_walk.calls k _ _ l0_0 _ _ l0_1 0 a1 t162 _ ?side1 ?side2 ?side3 ?side4 A10.out).mono ?_); (case side1 => exact y9 HR0_0); (case side2 => exact HC0_0.out); (case side3 => exact y9 HR0_1); (case side4 => exact HC0_1.out); rintro e w24 ⟨rfl, hb⟩; refine ⟨_, rfl, ?_⟩; replace BK159 := yQ BK159 hb; replace HB := yN hb; (try clear hb); (try clear hb2); (try clear hk); (try clear hi)))
  go_ret
  exact ⟨by first | rfl | (simp [errW_none, errW_some] <;> rfl) | (simp [*, errW_none, errW_some] <;> rfl), by repeat (first | (with_reducible first | exact HB.out | apply y3 | refine ys ?_ GE159.out) | exact HB.out)⟩
 rw [if_neg c4] at H; have c4b0 : (t161 == 0) = false := beq_eq_false_iff_ne.mpr c4; have c4b1 : (t161 != 0) = true := bne_iff_ne.mpr c4; obtain rfl := Option.some.inj H
 go_enter Try.func17, Try.ntmps17
 go_wp2_with (first | (refine zb (N := 2) (cs := #[.slice A0_0 l0_0.length c0_0, .slice A0_1 l0_1.length c0_1]) (t := 25) ?_; intro gb159 hg w25 hbox hb; have BK159 := ym (hbox); have GW159 := yE hg; replace HB := yN hb; have GE159 := GW159; clear hb hbox hg; have hcz26_0 := yW BK159 0; have hcz26_1 := yW BK159 1; have hfz26_0 := yv BK159.out 0; have hfz26_1 := yv BK159.out 1) | ((with_reducible refine gate_callee (f := 19) rfl ?_); refine goesL_ (some 10) rfl rfl Try.func19 (by kernel_rfl) rfl #[.agg #[.slice A0_0 l0_0.length c0_0, .slice A0_1 l0_1.length c0_1]] rfl y6 ?_; (with_reducible refine (guide_Check.calls k _ _ l0_0 _ _ l0_1 t160 t161 _ ?side1 ?side2 ?side3 ?side4 A3.out).mono ?_); (case side1 => exact y9 HR0_0); (case side2 => exact HC0_0.out); (case side3 => exact y9 HR0_1); (case side4 => exact HC0_1.out); rintro e w27 ⟨rfl, hb⟩; refine ⟨_, rfl, ?_⟩; replace BK159 := yQ BK159 hb; replace HB := yN hb; (try clear hb); (try clear hb2); (try clear hk); (try clear hi)))
 go_ret
 exact ⟨by first | rfl | (simp [errW_none, errW_some] <;> rfl) | (simp [*, errW_none, errW_some] <;> rfl), by repeat (first | (with_reducible first | exact HB.out | apply y3 | refine ys ?_ GE159.out) | exact HB.out)⟩

end Go.Proofs.Ytfjpnmhbbfiaaaa.P
