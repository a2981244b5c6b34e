-- Printed by xprint.py (wip): functions, contracts, rows. Lean checks it.
import Derived.Test.YtfjpnmhbbfiaaaaZGBPx0
import Derived.Test.YtfjpnmhbbfiaaaaZGBPx6
import Derived.Test.YtfjpnmhbbfiaaaaZGBPx14
import Derived.Test.YtfjpnmhbbfiaaaaZGBTiny2
namespace Go.Proofs.Ytfjpnmhbbfiaaaa.P
open Go.RowKit Go.Proofs.YtfjpnmhbbfiaaaaW.PrintWords Go.Proofs.YtfjpnmhbbfiaaaaW.PrintLast Go.Proofs.YtfjpnmhbbfiaaaaW.PrintMore
attribute [local go_sem] max2_int min2_int max_two min_two max_three min_three max_four min_four   -- for this text's walks alone
set_option linter.unusedVariables false
set_option linter.unusedSimpArgs false

/-! ### guide_Next: function 25 -/
def guide_Next.f (k : Nat) (l0_0 : List Bool) (l0_1 : List (S92)) (l1_0 : List ByteArray) (l1_1 : List (S99)) (a2 : Int) (a3 : Int) : Option (Int) := (vocab_Check.f k l1_0 l1_1).bind fun bt230 => (if bt230.2 = 0 then (if a3 < 1 then (some (-1)) else (if a3 ≥ (l1_0.length : Int) then (some (-1)) else (if 0 ≤ a3 then (if a3 < (l1_0.length : Int) then ((guide_Walk.f k l0_0 l0_1 a2 (rdOf ByteArray.empty l1_0 a3)).bind fun t233 => (some t233)) else (none)) else (none)))) else (some (-1)))
theorem guide_Next.mono : ∀ a0 a1 a2 a3 a4 a5 k, LeO (guide_Next.f k a0 a1 a2 a3 a4 a5) (guide_Next.f (k + 1) a0 a1 a2 a3 a4 a5) := by
  intro a0 a1 a2 a3 a4 a5 k
  unfold guide_Next.f
  repeat' first
      | (with_reducible exact guide_Walk.mono _ _ _ _ _)
      | (with_reducible exact vocab_Check.mono _ _ _)
      | (with_reducible exact LeO.refl _)
      | (with_reducible exact LeO.none _)
      | (with_reducible refine LeO.ite ?_ ?_)
      | (with_reducible refine LeO.bind ?_ (fun _ => ?_))
      | exact guide_Walk.mono _ _ _ _ _
      | exact vocab_Check.mono _ _ _
      | exact LeO.none _
      | refine LeO.ite ?_ ?_
      | refine LeO.bind ?_ (fun _ => ?_)
def guide_Next.T4 : Bool × List (List Nat × List Nat) := (true, [([], []), ([], []), ([], []), ([2], [2]), ([], []), ([3, 4], [3, 4]), ([5], [5]), ([0, 1, 6], [0, 1, 6]), ([7, 7, 0, 1, 2, 3, 4, 5, 6, 7], [7])])
def guide_Next.B4 : List Nat := [0, 0, 0, 4, 0, 28, 60, 127, 255]
theorem guide_Next.tab4 : rtab .any (opsOf Try.f25 4) = guide_Next.T4 := by kernel_rfl
theorem guide_Next.bits4 : waitsOk guide_Next.T4.2 guide_Next.B4 = true := by kernel_rfl
set_option maxHeartbeats 8000000 in
set_option maxRecDepth 100000 in
theorem guide_Next.calls (k : Nat) (A0_0 : Option Addr) (c0_0 : Nat) (l0_0 : List Bool) (A0_1 : Option Addr) (c0_1 : Nat) (l0_1 : List (S92)) (A1_0 : Option Addr) (c1_0 : Nat) (l1_0 : List ByteArray) (A1_1 : Option Addr) (c1_1 : Nat) (l1_1 : List (S99)) (a2 : Int) (a3 : Int) (r : Int) (w : World) (hr0_0 : Kd.C Kd.bool w A0_0 l0_0.length l0_0) (hc0_0 : l0_0.length ≤ c0_0) (hr0_1 : Kd.C k92 w A0_1 l0_1.length l0_1) (hc0_1 : l0_1.length ≤ c0_1) (hr1_0 : Kd.C Kd.string w A1_0 l1_0.length l1_0) (hc1_0 : l1_0.length ≤ c1_0) (hr1_1 : Kd.C k99 w A1_1 l1_1.length l1_1) (hc1_1 : l1_1.length ≤ c1_1) (h : guide_Next.f k l0_0 l0_1 l1_0 l1_1 a2 a3 = some r) :
    Calls Try.prog 25 #[.agg #[.slice A0_0 l0_0.length c0_0, .slice A0_1 l0_1.length c0_1], .agg #[.slice A1_0 l1_0.length c1_0, .slice A1_1 l1_1.length c1_1], .int .i64 a2, .int .i64 a3] w fun e w' => e = .returned (.int .i64 r) ∧ Below w.heap.size w w' := by
 have hu25 := Try.underlying25; have hu52 := Try.underlying52; have HR0_0 := ym hr0_0; have HC0_0 := ym hc0_0; clear hr0_0 hc0_0; have HR0_1 := ym hr0_1; have HC0_1 := ym hc0_1; clear hr0_1 hc0_1; have HR1_0 := ym hr1_0; have HC1_0 := ym hc1_0; clear hr1_0 hc1_0; have HR1_1 := ym hr1_1; have HC1_1 := ym hc1_1; clear hr1_1 hc1_1; have HB := ym (Below.refl w.heap.size w); have H : ((vocab_Check.f k l1_0 l1_1).bind fun bt230 => (if bt230.2 = 0 then (if a3 < 1 then (some (-1)) else (if a3 ≥ (l1_0.length : Int) then (some (-1)) else (if 0 ≤ a3 then (if a3 < (l1_0.length : Int) then ((guide_Walk.f k l0_0 l0_1 a2 (rdOf ByteArray.empty l1_0 a3)).bind fun t233 => (some t233)) else (none)) else (none)))) else (some (-1)))) = some r := h; clear h; replace H := Option.bind_eq_some_iff.mp H; obtain ⟨⟨t230, t231⟩, A50, H⟩ := H; replace H : (if t231 = 0 then (if a3 < 1 then (some (-1)) else (if a3 ≥ (l1_0.length : Int) then (some (-1)) else (if 0 ≤ a3 then (if a3 < (l1_0.length : Int) then ((guide_Walk.f k l0_0 l0_1 a2 (rdOf ByteArray.empty l1_0 a3)).bind fun t233 => (some t233)) else (none)) else (none)))) else (some (-1))) = some r := H; have A5 := ym A50; clear A50; by_cases c6 : t231 = 0
 ·
  rw [if_pos c6] at H; have c6b0 : (t231 == 0) = true := beq_iff_eq.mpr c6; have c6b1 : (t231 != 0) = false := bne_eq_false_iff_eq.mpr c6; clear c6; by_cases c7 : a3 < 1
  ·
   rw [if_pos c7] at H; have c7b0 : decide (a3 < 1) = true := decide_eq_true c7; clear c7; obtain rfl := Option.some.inj H
   go_enter Try.func25, Try.ntmps25
   go_wp2_with (first | (refine zb (N := 4) (cs := #[.slice A0_0 l0_0.length c0_0, .slice A0_1 l0_1.length c0_1]) (t := 25) ?_; intro gb228 hg w8 hbox hb; have BK228 := ym (hbox); have GW228 := yE hg; replace HB := yN hb; have GE228 := GW228; clear hb hbox hg) | (refine zb (N := 5) (cs := #[.slice A1_0 l1_0.length c1_0, .slice A1_1 l1_1.length c1_1]) (t := 52) ?_; intro gb229 hg w9 hbox hb; have BK229 := ym (hbox); have GW229 := yE hg; replace HB := yN hb; have GE229 := GW229; have NB228_229 := yF hg BK228; have NB229_228 := yH hg BK228; replace BK228 := yQ BK228 hb; clear hb hbox hg; have hnb10 := NB229_228.out; have hnc10 := NB228_229.out; have hcz11_0 := yW BK229 0; have hcz11_1 := yW BK229 1; have hfz11_0 := yv BK229.out 0; have hfz11_1 := yv BK229.out 1) | ((with_reducible refine gate_callee (f := 53) rfl ?_); refine goesL_ (some 13) rfl rfl Try.func53 (by kernel_rfl) rfl #[.agg #[.slice A1_0 l1_0.length c1_0, .slice A1_1 l1_1.length c1_1]] rfl y6 ?_; (with_reducible refine (vocab_Check.calls k _ _ l1_0 _ _ l1_1 t230 t231 _ ?side1 ?side2 ?side3 ?side4 A5.out).mono ?_); (case side1 => exact y9 HR1_0); (case side2 => exact HC1_0.out); (case side3 => exact y9 HR1_1); (case side4 => exact HC1_1.out); rintro e w12 ⟨rfl, hb⟩; refine ⟨_, rfl, ?_⟩; replace BK228 := yQ BK228 hb; replace BK229 := yQ BK229 hb; replace HB := yN hb; (try clear hb); (try clear hb2); (try clear hk); (try clear hi)))
   go_ret
   exact ⟨by first | rfl | (simp [errW_none, errW_some] <;> rfl) | (simp [*, errW_none, errW_some] <;> rfl), by repeat (first | (with_reducible first | exact HB.out | apply y3 | refine ys ?_ GE228.out | refine ys ?_ GE229.out) | exact HB.out)⟩
  rw [if_neg c7] at H; have c7b0 : decide (a3 < 1) = false := decide_eq_false c7; clear c7; by_cases c13 : a3 ≥ (l1_0.length : Int)
  ·
   rw [if_pos c13] at H; have c13b0 : decide ((l1_0.length : Int) ≤ a3) = true := decide_eq_true c13; clear c13; obtain rfl := Option.some.inj H
   go_enter Try.func25, Try.ntmps25
   go_wp2_with (first | (refine zb (N := 4) (cs := #[.slice A0_0 l0_0.length c0_0, .slice A0_1 l0_1.length c0_1]) (t := 25) ?_; intro gb228 hg w14 hbox hb; have BK228 := ym (hbox); have GW228 := yE hg; replace HB := yN hb; have GE228 := GW228; clear hb hbox hg) | (refine zb (N := 5) (cs := #[.slice A1_0 l1_0.length c1_0, .slice A1_1 l1_1.length c1_1]) (t := 52) ?_; intro gb229 hg w15 hbox hb; have BK229 := ym (hbox); have GW229 := yE hg; replace HB := yN hb; have GE229 := GW229; have NB228_229 := yF hg BK228; have NB229_228 := yH hg BK228; replace BK228 := yQ BK228 hb; clear hb hbox hg; have hnb16 := NB229_228.out; have hnc16 := NB228_229.out; have hcz17_0 := yW BK229 0; have hcz17_1 := yW BK229 1; have hfz17_0 := yv BK229.out 0; have hfz17_1 := yv BK229.out 1) | ((with_reducible refine gate_callee (f := 53) rfl ?_); refine goesL_ (some 13) rfl rfl Try.func53 (by kernel_rfl) rfl #[.agg #[.slice A1_0 l1_0.length c1_0, .slice A1_1 l1_1.length c1_1]] rfl y6 ?_; (with_reducible refine (vocab_Check.calls k _ _ l1_0 _ _ l1_1 t230 t231 _ ?side1 ?side2 ?side3 ?side4 A5.out).mono ?_); (case side1 => exact y9 HR1_0); (case side2 => exact HC1_0.out); (case side3 => exact y9 HR1_1); (case side4 => exact HC1_1.out); rintro e w18 ⟨rfl, hb⟩; refine ⟨_, rfl, ?_⟩; replace BK228 := yQ BK228 hb; replace BK229 := yQ BK229 hb; replace HB := yN hb; (try clear hb); (try clear hb2); (try clear hk); (try clear hi); have hcz19_0 := yW BK229 0; have hcz19_1 := yW BK229 1; have hfz19_0 := yv BK229.out 0; have hfz19_1 := yv BK229.out 1))
   go_ret
   exact ⟨by first | rfl | (simp [errW_none, errW_some] <;> rfl) | (simp [*, errW_none, errW_some] <;> rfl), by repeat (first | (with_reducible first | exact HB.out | apply y3 | refine ys ?_ GE228.out | refine ys ?_ GE229.out) | exact HB.out)⟩
  rw [if_neg c13] at H; have c13b0 : decide ((l1_0.length : Int) ≤ a3) = false := decide_eq_false c13; clear c13; by_cases c20 : 0 ≤ a3
  ·
   rw [if_pos c20] at H; have c20b0 : decide (0 ≤ a3) = true := decide_eq_true c20; clear c20; by_cases c21 : a3 < (l1_0.length : Int)
   ·
    rw [if_pos c21] at H; have c21b0 : decide (a3 < (l1_0.length : Int)) = true := decide_eq_true c21; clear c21; replace H := Option.bind_eq_some_iff.mp H; obtain ⟨t233, A220, H⟩ := H; replace H : (some t233) = some r := H; have A22 := ym A220; clear A220; obtain rfl := Option.some.inj H
    go_enter Try.func25, Try.ntmps25
    (try go_wp2_with (first | (refine zb (N := 4) (cs := #[.slice A0_0 l0_0.length c0_0, .slice A0_1 l0_1.length c0_1]) (t := 25) ?_; intro gb228 hg w23 hbox hb; have BK228 := ym (hbox); have GW228 := yE hg; replace HB := yN hb; have GE228 := GW228; clear hb hbox hg) | (refine zb (N := 5) (cs := #[.slice A1_0 l1_0.length c1_0, .slice A1_1 l1_1.length c1_1]) (t := 52) ?_; intro gb229 hg w24 hbox hb; have BK229 := ym (hbox); have GW229 := yE hg; replace HB := yN hb; have GE229 := GW229; have NB228_229 := yF hg BK228; have NB229_228 := yH hg BK228; replace BK228 := yQ BK228 hb; clear hb hbox hg; have hnb25 := NB229_228.out; have hnc25 := NB228_229.out; have hcz26_0 := yW BK229 0; have hcz26_1 := yW BK229 1; have hfz26_0 := yv BK229.out 0; have hfz26_1 := yv BK229.out 1) | ((with_reducible refine gate_callee (f := 53) rfl ?_); refine goesL_ (some 13) rfl rfl Try.func53 (by kernel_rfl) rfl #[.agg #[.slice A1_0 l1_0.length c1_0, .slice A1_1 l1_1.length c1_1]] rfl y6 ?_; (with_reducible refine (vocab_Check.calls k _ _ l1_0 _ _ l1_1 t230 t231 _ ?side1 ?side2 ?side3 ?side4 A5.out).mono ?_); (case side1 => exact y9 HR1_0); (case side2 => exact HC1_0.out); (case side3 => exact y9 HR1_1); (case side4 => exact HC1_1.out); rintro e w27 ⟨rfl, hb⟩; refine ⟨_, rfl, ?_⟩; replace BK228 := yQ BK228 hb; replace BK229 := yQ BK229 hb; replace HB := yN hb; (try clear hb); (try clear hb2); (try clear hk); (try clear hi); have hcz28_0 := yW BK229 0; have hcz28_1 := yW BK229 1; have hfz28_0 := yv BK229.out 0; have hfz28_1 := yv BK229.out 1))); replace BK228 := ym (yt BK228.out); replace BK229 := ym (yt BK229.out); replace HB := ym (ye HB.out); have p232 : 0 ≤ (a3 : Int) := of_decide_eq_true y5; have q232 : a3 < (l1_0.length : Int) := of_decide_eq_true y5; obtain ⟨ad232, e232, hx232_0⟩ := Kd.at_string HR1_0.out a3 p232 q232; have hw232_0 := hx232_0
    cases e232
    replace hx232_0 := (HB.out.cell (World.block_lt_of_cell? w _ hx232_0)).trans hx232_0; replace p232 := eq_true p232; replace q232 := eq_true q232; refine start_ (n := 9) (S := fun w' => w'.cell? ⟨gb228, 0, none⟩ = some (.slice A0_0 l0_0.length c0_0) ∧ w'.cell? ⟨gb228, 1, none⟩ = some (.slice A0_1 l0_1.length c0_1) ∧ w'.cell? ⟨gb229, 0, none⟩ = some (.slice (some ad232) l1_0.length c1_0) ∧ w'.cell? ⟨gb229, 1, none⟩ = some (.slice A1_1 l1_1.length c1_1) ∧ w'.cell? (ad232.add (a3).toNat) = some (.string (rdOf ByteArray.empty l1_0 a3))) (ds := []) #[o_, o_, o_, o_, o_, o_, o_, o_, o_] (by kernel_rfl) rfl rfl ⟨(yw BK228.out 0).trans rfl, (yw BK228.out 1).trans rfl, (yw BK229.out 0).trans rfl, (yw BK229.out 1).trans rfl, ((HB.out.cell (World.block_lt_of_cell? w _ hw232_0)).trans hw232_0)⟩ (fun hHeld => ?_); refine with_tabW guide_Next.tab4 guide_Next.bits4 (fun HT_ HW_ => ?_); generalize w27.drew = w29 at BK228 BK229 HB hx232_0 hHeld ⊢; refine zt (i := 1) (N := some 30) HT_ ?_; refine zt (i := 2) (N := some 31) HT_ ?_; refine zt (i := 4) (N := some 33) HT_ ?_; refine zw (i := 0) (N := some 29) HT_ HW_ hHeld ?_ (hv := (by rintro w' ⟨s0, s1, s2, s3, s4⟩; go_simp; with_reducible rfl)); refine zw (i := 3) (N := some 32) HT_ HW_ hHeld ?_ (hv := (by rintro w' ⟨s0, s1, s2, s3, s4⟩; go_simp; with_reducible rfl)); refine zt (i := 5) (N := some 34) HT_ ?_; refine zw (i := 6) (N := some 35) HT_ HW_ hHeld ?_ (hv := (by rintro w' ⟨s0, s1, s2, s3, s4⟩; go_simp; with_reducible rfl)); refine one_ (i := 7) (N := some 36) #[i_, i_, i_, i_, i_, i_, i_, i_, o_] rfl rfl (one_of HT_.out (by kernel_rfl)) (by decide) (fun K hK => ?_); refine goes_ Try.func15 (by kernel_rfl) rfl #[.agg #[.slice A0_0 l0_0.length c0_0, .slice A0_1 l0_1.length c0_1], .int .i64 a2, .string (rdOf ByteArray.empty l1_0 a3)] (by rfl) rfl rfl y6 ?_; (with_reducible refine (guide_Walk.calls k _ _ l0_0 _ _ l0_1 a2 (rdOf ByteArray.empty l1_0 a3) t233 _ ?side1 ?side2 ?side3 ?side4 A22.out).mono ?_)
    (case side1 => exact y9 HR0_0)
    (case side2 => exact HC0_0.out)
    (case side3 => exact y9 HR0_1)
    (case side4 => exact HC0_1.out)
    rintro e w30 ⟨rfl, hb⟩; refine ⟨_, rfl, ?_⟩; replace BK228 := yQ BK228 hb; replace BK229 := yQ BK229 hb; replace HB := yN hb; (try clear hb); (try clear hb2); (try clear hk); (try clear hi); refine hK.out _ _ ⟨(yw BK228.out 0).trans rfl, (yw BK228.out 1).trans rfl, (yw BK229.out 0).trans rfl, (yw BK229.out 1).trans rfl, ((HB.out.cell (World.block_lt_of_cell? w _ hw232_0)).trans hw232_0)⟩ (fun hHeld => ?_); clear hK K; refine norm_ (a' := ?_) ?_ ?_; rotate_left
    ·
     show Act.put _ (some 36) _ = _
     simp only [Act.put, y0, y1]
     rfl
    refine zt (i := 8) (N := some 8) HT_ ?_; refine done_ (done_of HT_.out (by kernel_rfl)) ?_; (try go_wp2)
    go_ret
    exact ⟨by first | rfl | (simp [errW_none, errW_some] <;> rfl) | (simp [*, errW_none, errW_some] <;> rfl), by repeat (first | (with_reducible first | exact HB.out | apply y3 | refine ys ?_ GE228.out | refine ys ?_ GE229.out) | exact HB.out)⟩
   rw [if_neg c21] at H; exact absurd H (by simp)
  rw [if_neg c20] at H; exact absurd H (by simp)
 rw [if_neg c6] at H; have c6b0 : (t231 == 0) = false := beq_eq_false_iff_ne.mpr c6; have c6b1 : (t231 != 0) = true := bne_iff_ne.mpr c6; obtain rfl := Option.some.inj H
 go_enter Try.func25, Try.ntmps25
 go_wp2_with (first | (refine zb (N := 4) (cs := #[.slice A0_0 l0_0.length c0_0, .slice A0_1 l0_1.length c0_1]) (t := 25) ?_; intro gb228 hg w31 hbox hb; have BK228 := ym (hbox); have GW228 := yE hg; replace HB := yN hb; have GE228 := GW228; clear hb hbox hg) | (refine zb (N := 5) (cs := #[.slice A1_0 l1_0.length c1_0, .slice A1_1 l1_1.length c1_1]) (t := 52) ?_; intro gb229 hg w32 hbox hb; have BK229 := ym (hbox); have GW229 := yE hg; replace HB := yN hb; have GE229 := GW229; have NB228_229 := yF hg BK228; have NB229_228 := yH hg BK228; replace BK228 := yQ BK228 hb; clear hb hbox hg; have hnb33 := NB229_228.out; have hnc33 := NB228_229.out; have hcz34_0 := yW BK229 0; have hcz34_1 := yW BK229 1; have hfz34_0 := yv BK229.out 0; have hfz34_1 := yv BK229.out 1) | ((with_reducible refine gate_callee (f := 53) rfl ?_); refine goesL_ (some 13) rfl rfl Try.func53 (by kernel_rfl) rfl #[.agg #[.slice A1_0 l1_0.length c1_0, .slice A1_1 l1_1.length c1_1]] rfl y6 ?_; (with_reducible refine (vocab_Check.calls k _ _ l1_0 _ _ l1_1 t230 t231 _ ?side1 ?side2 ?side3 ?side4 A5.out).mono ?_); (case side1 => exact y9 HR1_0); (case side2 => exact HC1_0.out); (case side3 => exact y9 HR1_1); (case side4 => exact HC1_1.out); rintro e w35 ⟨rfl, hb⟩; refine ⟨_, rfl, ?_⟩; replace BK228 := yQ BK228 hb; replace BK229 := yQ BK229 hb; replace HB := yN hb; (try clear hb); (try clear hb2); (try clear hk); (try clear hi)))
 go_ret
 exact ⟨by first | rfl | (simp [errW_none, errW_some] <;> rfl) | (simp [*, errW_none, errW_some] <;> rfl), by repeat (first | (with_reducible first | exact HB.out | apply y3 | refine ys ?_ GE228.out | refine ys ?_ GE229.out) | exact HB.out)⟩

end Go.Proofs.Ytfjpnmhbbfiaaaa.P
