-- Printed by xprint.py (wip): functions, contracts, rows. Lean checks it.
import Derived.Test.YtfjpnmhbbfiaaaaZGMPx0
import Derived.Test.YtfjpnmhbbfiaaaaZGMPx1
import Derived.Test.YtfjpnmhbbfiaaaaZGMPx9
import Derived.Test.YtfjpnmhbbfiaaaaZGMPx10
import Derived.Test.YtfjpnmhbbfiaaaaZGMPx28
import Derived.Test.YtfjpnmhbbfiaaaaZGMPx29
import Derived.Test.YtfjpnmhbbfiaaaaZGMPx30
import Derived.Test.YtfjpnmhbbfiaaaaZGMTiny2
namespace Go.Proofs.Ytfjpnmhbbfiaaaa.P
open Go.RowKit Go.Proofs.YtfjpnmhbbfiaaaaW.PrintWords Go.Proofs.YtfjpnmhbbfiaaaaW.PrintLast Go.Proofs.YtfjpnmhbbfiaaaaW.PrintMore
attribute [local go_sem] max2_int min2_int max_two min_two max_three min_three max_four min_four   -- for this text's walks alone
set_option linter.unusedVariables false
set_option linter.unusedSimpArgs false

/-! ### heraldlaw15_GuideMasks: function 7 -/
def heraldlaw15_GuideMasks.f (k : Nat) (l0_0 : List Bool) (l0_1 : List (S92)) (l1_0 : List ByteArray) (l1_1 : List (S99)) (a2 : Int) : Option (Bool) := (guide_Mask.f k l0_0 l0_1 l1_0 l1_1 a2).bind fun bt436 => ((heraldlaw15_given.f k l0_0 l0_1).bind fun bt440 => ((heraldlaw15_words.f k l1_0 l1_1).bind fun bt446 => ((heraldref15_Mask.f k bt440.1 bt440.2 bt446.1 bt446.2 a2).bind fun bt452 => ((heraldlaw15_awake.f k).bind fun t456 => (if t456 = true then ((heraldlaw15_truths.f k bt436.1 bt452.1).bind fun t457 => (if t457 = true then (some (bt436.2 == bt452.2)) else (none))) else (none))))))
theorem heraldlaw15_GuideMasks.mono : ∀ a0 a1 a2 a3 a4 k, LeO (heraldlaw15_GuideMasks.f k a0 a1 a2 a3 a4) (heraldlaw15_GuideMasks.f (k + 1) a0 a1 a2 a3 a4) := by
  intro a0 a1 a2 a3 a4 k
  unfold heraldlaw15_GuideMasks.f
  repeat' first
      | (with_reducible exact guide_Mask.mono _ _ _ _ _ _)
      | (with_reducible exact heraldlaw15_awake.mono _)
      | (with_reducible exact heraldlaw15_given.mono _ _ _)
      | (with_reducible exact heraldlaw15_truths.mono _ _ _)
      | (with_reducible exact heraldlaw15_words.mono _ _ _)
      | (with_reducible exact heraldref15_Mask.mono _ _ _ _ _ _)
      | (with_reducible exact LeO.refl _)
      | (with_reducible exact LeO.none _)
      | (with_reducible refine LeO.ite ?_ ?_)
      | (with_reducible refine LeO.bind ?_ (fun _ => ?_))
      | exact guide_Mask.mono _ _ _ _ _ _
      | exact heraldlaw15_awake.mono _
      | exact heraldlaw15_given.mono _ _ _
      | exact heraldlaw15_truths.mono _ _ _
      | exact heraldlaw15_words.mono _ _ _
      | exact heraldref15_Mask.mono _ _ _ _ _ _
      | exact LeO.none _
      | refine LeO.ite ?_ ?_
      | refine LeO.bind ?_ (fun _ => ?_)
def heraldlaw15_GuideMasks.T2 : Bool × List (List Nat × List Nat) := (true, [([], []), ([0], [0]), ([], []), ([2, 1], [2]), ([], []), ([1, 3, 4, 3], [1, 3, 4]), ([5], [5]), ([6], [6]), ([6], [6]), ([7, 5, 0, 1, 2, 3, 4, 5, 6, 7], [7]), ([8, 9, 0, 1, 2, 3, 4, 5, 6, 7, 8, 9], [8])])
def heraldlaw15_GuideMasks.B2 : List Nat := [0, 1, 0, 7, 0, 31, 63, 127, 127, 255, 1023]
theorem heraldlaw15_GuideMasks.tab2 : rtab .any (opsOf Try.f7 2) = heraldlaw15_GuideMasks.T2 := by kernel_rfl
theorem heraldlaw15_GuideMasks.bits2 : waitsOk heraldlaw15_GuideMasks.T2.2 heraldlaw15_GuideMasks.B2 = true := by kernel_rfl
set_option maxHeartbeats 8000000 in
set_option maxRecDepth 100000 in
theorem heraldlaw15_GuideMasks.calls (k : Nat) (A0_0 : Option Addr) (c0_0 : Nat) (l0_0 : List Bool) (A0_1 : Option Addr) (c0_1 : Nat) (l0_1 : List (S92)) (A1_0 : Option Addr) (c1_0 : Nat) (l1_0 : List ByteArray) (A1_1 : Option Addr) (c1_1 : Nat) (l1_1 : List (S99)) (a2 : Int) (r : Bool) (w : World) (hr0_0 : Kd.C Kd.bool w A0_0 l0_0.length l0_0) (hc0_0 : l0_0.length ≤ c0_0) (hr0_1 : Kd.C k92 w A0_1 l0_1.length l0_1) (hc0_1 : l0_1.length ≤ c0_1) (hr1_0 : Kd.C Kd.string w A1_0 l1_0.length l1_0) (hc1_0 : l1_0.length ≤ c1_0) (hr1_1 : Kd.C k99 w A1_1 l1_1.length l1_1) (hc1_1 : l1_1.length ≤ c1_1) (h : heraldlaw15_GuideMasks.f k l0_0 l0_1 l1_0 l1_1 a2 = some r) :
    Calls Try.prog 7 #[.agg #[.slice A0_0 l0_0.length c0_0, .slice A0_1 l0_1.length c0_1], .agg #[.slice A1_0 l1_0.length c1_0, .slice A1_1 l1_1.length c1_1], .int .i64 a2] w fun e w' => e = .returned (.bool r) ∧ Below w.heap.size w w' := by
 have hu25 := Try.underlying25; have hu52 := Try.underlying52; have HR0_0 := ym hr0_0; have HC0_0 := ym hc0_0; clear hr0_0 hc0_0; have HR0_1 := ym hr0_1; have HC0_1 := ym hc0_1; clear hr0_1 hc0_1; have HR1_0 := ym hr1_0; have HC1_0 := ym hc1_0; clear hr1_0 hc1_0; have HR1_1 := ym hr1_1; have HC1_1 := ym hc1_1; clear hr1_1 hc1_1; have HB := ym (Below.refl w.heap.size w); have H : ((guide_Mask.f k l0_0 l0_1 l1_0 l1_1 a2).bind fun bt436 => ((heraldlaw15_given.f k l0_0 l0_1).bind fun bt440 => ((heraldlaw15_words.f k l1_0 l1_1).bind fun bt446 => ((heraldref15_Mask.f k bt440.1 bt440.2 bt446.1 bt446.2 a2).bind fun bt452 => ((heraldlaw15_awake.f k).bind fun t456 => (if t456 = true then ((heraldlaw15_truths.f k bt436.1 bt452.1).bind fun t457 => (if t457 = true then (some (bt436.2 == bt452.2)) else (none))) else (none))))))) = some r := h; clear h; replace H := Option.bind_eq_some_iff.mp H; obtain ⟨⟨t436, t439⟩, A40, H⟩ := H; replace H : ((heraldlaw15_given.f k l0_0 l0_1).bind fun bt440 => ((heraldlaw15_words.f k l1_0 l1_1).bind fun bt446 => ((heraldref15_Mask.f k bt440.1 bt440.2 bt446.1 bt446.2 a2).bind fun bt452 => ((heraldlaw15_awake.f k).bind fun t456 => (if t456 = true then ((heraldlaw15_truths.f k t436 bt452.1).bind fun t457 => (if t457 = true then (some (t439 == bt452.2)) else (none))) else (none)))))) = some r := H; have A4 := ym A40; clear A40; replace H := Option.bind_eq_some_iff.mp H; obtain ⟨⟨t440, t443⟩, A50, H⟩ := H; replace H : ((heraldlaw15_words.f k l1_0 l1_1).bind fun bt446 => ((heraldref15_Mask.f k t440 t443 bt446.1 bt446.2 a2).bind fun bt452 => ((heraldlaw15_awake.f k).bind fun t456 => (if t456 = true then ((heraldlaw15_truths.f k t436 bt452.1).bind fun t457 => (if t457 = true then (some (t439 == bt452.2)) else (none))) else (none))))) = some r := H; have A5 := ym A50; clear A50; replace H := Option.bind_eq_some_iff.mp H; obtain ⟨⟨t446, t449⟩, A60, H⟩ := H; replace H : ((heraldref15_Mask.f k t440 t443 t446 t449 a2).bind fun bt452 => ((heraldlaw15_awake.f k).bind fun t456 => (if t456 = true then ((heraldlaw15_truths.f k t436 bt452.1).bind fun t457 => (if t457 = true then (some (t439 == bt452.2)) else (none))) else (none)))) = some r := H; have A6 := ym A60; clear A60; replace H := Option.bind_eq_some_iff.mp H; obtain ⟨⟨t452, t455⟩, A70, H⟩ := H; replace H : ((heraldlaw15_awake.f k).bind fun t456 => (if t456 = true then ((heraldlaw15_truths.f k t436 t452).bind fun t457 => (if t457 = true then (some (t439 == t455)) else (none))) else (none))) = some r := H; have A7 := ym A70; clear A70; replace H := Option.bind_eq_some_iff.mp H; obtain ⟨t456, A80, H⟩ := H; replace H : (if t456 = true then ((heraldlaw15_truths.f k t436 t452).bind fun t457 => (if t457 = true then (some (t439 == t455)) else (none))) else (none)) = some r := H; have A8 := ym A80; clear A80; by_cases c9 : t456 = true
 ·
  subst c9; (have H1 : ((heraldlaw15_truths.f k t436 t452).bind fun t457 => (if t457 = true then (some (t439 == t455)) else (none))) = some r := by rw [if_pos rfl] at H; exact H); clear H; have H := H1; clear H1; replace H := Option.bind_eq_some_iff.mp H; obtain ⟨t457, A100, H⟩ := H; replace H : (if t457 = true then (some (t439 == t455)) else (none)) = some r := H; have A10 := ym A100; clear A100; by_cases c11 : t457 = true
  ·
   subst c11; (have H1 : (some (t439 == t455)) = some r := by rw [if_pos rfl] at H; exact H); clear H; have H := H1; clear H1; obtain rfl := Option.some.inj H
   go_enter Try.func7, Try.ntmps7
   (try go_wp2_with (first | (refine zb (N := 3) (cs := #[.slice A0_0 l0_0.length c0_0, .slice A0_1 l0_1.length c0_1]) (t := 25) ?_; intro gb434 hg w12 hbox hb; have BK434 := ym (hbox); have GW434 := yE hg; replace HB := yN hb; have GE434 := GW434; clear hb hbox hg) | (refine zb (N := 4) (cs := #[.slice A1_0 l1_0.length c1_0, .slice A1_1 l1_1.length c1_1]) (t := 52) ?_; intro gb435 hg w13 hbox hb; have BK435 := ym (hbox); have GW435 := yE hg; replace HB := yN hb; have GE435 := GW435; have NB434_435 := yF hg BK434; have NB435_434 := yH hg BK434; replace BK434 := yQ BK434 hb; clear hb hbox hg; have hnb14 := NB434_435.out; have hnc14 := NB435_434.out; have hcz15_0 := yW BK434 0; have hcz15_1 := yW BK434 1; have hfz15_0 := yv BK434.out 0; have hfz15_1 := yv BK434.out 1; have hcz16_0 := yW BK435 0; have hcz16_1 := yW BK435 1; have hfz16_0 := yv BK435.out 0; have hfz16_1 := yv BK435.out 1) | ((with_reducible refine gate_callee (f := 29) rfl ?_); refine goesL_ (some 15) rfl rfl Try.func29 (by kernel_rfl) rfl #[.agg #[.slice A0_0 l0_0.length c0_0, .slice A0_1 l0_1.length c0_1], .agg #[.slice A1_0 l1_0.length c1_0, .slice A1_1 l1_1.length c1_1], .int .i64 a2] rfl y6 ?_; (with_reducible refine (guide_Mask.calls k _ _ l0_0 _ _ l0_1 _ _ l1_0 _ _ l1_1 a2 t436 t439 _ ?side1 ?side2 ?side3 ?side4 ?side5 ?side6 ?side7 ?side8 A4.out).mono ?_); (case side1 => exact y9 HR0_0); (case side2 => exact HC0_0.out); (case side3 => exact y9 HR0_1); (case side4 => exact HC0_1.out); (case side5 => exact y9 HR1_0); (case side6 => exact HC1_0.out); (case side7 => exact y9 HR1_1); (case side8 => exact HC1_1.out); rintro e w17 ⟨v437, rfl, ho0, hb⟩; refine ⟨_, rfl, ?_⟩; have HO438 := ym (yo ho0 (below_size yb)); replace BK434 := yQ BK434 hb; replace BK435 := yQ BK435 hb; replace HB := yN hb; (try clear hb); (try clear hb2); (try clear hk); (try clear hi); (try clear ho0)))); replace HO438 := ym (yh HO438.out); replace BK434 := ym (yt BK434.out); replace BK435 := ym (yt BK435.out); replace HB := ym (ye HB.out); refine start_ (n := 11) (S := fun w' => w'.cell? ⟨gb434, 0, none⟩ = some (.slice A0_0 l0_0.length c0_0) ∧ w'.cell? ⟨gb434, 1, none⟩ = some (.slice A0_1 l0_1.length c0_1) ∧ w'.cell? ⟨gb435, 0, none⟩ = some (.slice A1_0 l1_0.length c1_0) ∧ w'.cell? ⟨gb435, 1, none⟩ = some (.slice A1_1 l1_1.length c1_1)) (ds := []) #[o_, o_, o_, o_, o_, o_, o_, o_, o_, o_, o_] (by kernel_rfl) rfl rfl ⟨(yw BK434.out 0).trans rfl, (yw BK434.out 1).trans rfl, (yw BK435.out 0).trans rfl, (yw BK435.out 1).trans rfl⟩ (fun hHeld => ?_); refine with_tabW heraldlaw15_GuideMasks.tab2 heraldlaw15_GuideMasks.bits2 (fun HT_ HW_ => ?_); generalize w17.drew = w18 at HO438 BK434 BK435 HB hHeld ⊢; refine zt (i := 4) (N := some 23) HT_ ?_; refine zw (i := 0) (N := some 19) HT_ HW_ hHeld ?_ (hv := (by rintro w' ⟨s0, s1, s2, s3⟩; go_simp; with_reducible rfl)); refine zw (i := 2) (N := some 21) HT_ HW_ hHeld ?_ (hv := (by rintro w' ⟨s0, s1, s2, s3⟩; go_simp; with_reducible rfl)); refine one_ (i := 1) (N := some 20) #[i_, i_, i_, o_, i_, o_, o_, o_, o_, o_, o_] rfl rfl (one_of HT_.out (by kernel_rfl)) (by decide) (fun K hK => ?_); refine goes_ Try.func13 (by kernel_rfl) rfl #[.agg #[.slice A0_0 l0_0.length c0_0, .slice A0_1 l0_1.length c0_1]] (by rfl) rfl rfl y6 ?_; (with_reducible refine (heraldlaw15_given.calls k _ _ l0_0 _ _ l0_1 t440 t443 _ ?side1 ?side2 ?side3 ?side4 A5.out).mono ?_)
   (case side1 => exact y9 HR0_0)
   (case side2 => exact HC0_0.out)
   (case side3 => exact y9 HR0_1)
   (case side4 => exact HC0_1.out)
   rintro e w19 ⟨v441, v444, rfl, ho0, ho1, hb⟩; refine ⟨_, rfl, ?_⟩; have HO442 := ym (yo (Kd.R_new' ho0 (Kd.R_lt (by (with_reducible repeat apply y2); exact HO438.out))) (below_size yb)); replace HO438 := ym (Kd.R_elder' (by (with_reducible repeat apply y2); exact HO438.out) (Kd.R_base ho0) hb); have HO445 := ym (yo ho1 (below_size yb)); replace BK434 := yQ BK434 hb; replace BK435 := yQ BK435 hb; replace HB := yN hb; (try clear hb); (try clear hb2); (try clear hk); (try clear hi); (try clear ho0); (try clear ho1); refine hK.out _ _ ⟨(yw BK434.out 0).trans rfl, (yw BK434.out 1).trans rfl, (yw BK435.out 0).trans rfl, (yw BK435.out 1).trans rfl⟩ (fun hHeld => ?_); clear hK K; refine norm_ (a' := ?_) ?_ ?_; rotate_left
   ·
    show Act.put _ (some 20) _ = _
    simp only [Act.put, y0, y1]
    rfl
   refine one_ (i := 3) (N := some 22) #[i_, i_, i_, i_, i_, o_, o_, o_, o_, o_, o_] rfl rfl (one_of HT_.out (by kernel_rfl)) (by decide) (fun K hK => ?_); refine goes_ Try.func24 (by kernel_rfl) rfl #[.agg #[.slice A1_0 l1_0.length c1_0, .slice A1_1 l1_1.length c1_1]] (by rfl) rfl rfl y6 ?_; (with_reducible refine (heraldlaw15_words.calls k _ _ l1_0 _ _ l1_1 t446 t449 _ ?side1 ?side2 ?side3 ?side4 A6.out).mono ?_)
   (case side1 => exact y9 HR1_0)
   (case side2 => exact HC1_0.out)
   (case side3 => exact y9 HR1_1)
   (case side4 => exact HC1_1.out)
   rintro e w20 ⟨v447, v450, rfl, ho0, ho1, hb⟩; refine ⟨_, rfl, ?_⟩; replace HO438 := ym (yp (by (with_reducible repeat apply y2); exact HO438.out) hb); replace HO442 := ym (yp (by (with_reducible repeat apply y2); exact HO442.out) hb); replace HO445 := ym (yp (by (with_reducible repeat apply y2); exact HO445.out) hb); have HO448 := ym (yo ho0 (below_size yb)); have HO451 := ym (yo ho1 (below_size yb)); replace BK434 := yQ BK434 hb; replace BK435 := yQ BK435 hb; replace HB := yN hb; (try clear hb); (try clear hb2); (try clear hk); (try clear hi); (try clear ho0); (try clear ho1); obtain ⟨Ao21, co21, eo21⟩ := Kd.R_slice HO442.out
   (first | subst eo21 | (injection eo21 with f1_ f2_ f3_; have f4_ := f1_.symm; have f5_ := f3_.symm; clear f1_ f2_ f3_; subst f4_; subst f5_))
   obtain ⟨Ao22, co22, eo22⟩ := Kd.R_slice HO445.out
   (first | subst eo22 | (injection eo22 with f1_ f2_ f3_; have f4_ := f1_.symm; have f5_ := f3_.symm; clear f1_ f2_ f3_; subst f4_; subst f5_))
   obtain ⟨Ao23, co23, eo23⟩ := Kd.R_slice HO448.out
   (first | subst eo23 | (injection eo23 with f1_ f2_ f3_; have f4_ := f1_.symm; have f5_ := f3_.symm; clear f1_ f2_ f3_; subst f4_; subst f5_))
   obtain ⟨Ao24, co24, eo24⟩ := Kd.R_slice HO451.out
   (first | subst eo24 | (injection eo24 with f1_ f2_ f3_; have f4_ := f1_.symm; have f5_ := f3_.symm; clear f1_ f2_ f3_; subst f4_; subst f5_))
   refine hK.out _ _ ⟨(yw BK434.out 0).trans rfl, (yw BK434.out 1).trans rfl, (yw BK435.out 0).trans rfl, (yw BK435.out 1).trans rfl⟩ (fun hHeld => ?_); clear hK K; refine norm_ (a' := ?_) ?_ ?_; rotate_left
   ·
    show Act.put _ (some 22) _ = _
    simp only [Act.put, y0, y1]
    rfl
   refine one_ (i := 5) (N := some 24) #[i_, i_, i_, i_, i_, i_, o_, o_, o_, o_, o_] rfl rfl (one_of HT_.out (by kernel_rfl)) (by decide) (fun K hK => ?_); refine goes_ Try.func30 (by kernel_rfl) rfl #[.agg #[.slice Ao21 t440.length co21, .slice Ao22 t443.length co22], .agg #[.slice Ao23 t446.length co23, .slice Ao24 t449.length co24], .int .i64 a2] (by rfl) rfl rfl y6 ?_; (with_reducible refine (heraldref15_Mask.calls k _ _ t440 _ _ t443 _ _ t446 _ _ t449 a2 t452 t455 _ ?side1 ?side2 ?side3 ?side4 ?side5 ?side6 ?side7 ?side8 A7.out).mono ?_)
   (case side1 => repeat (first | exact (Kd.R_reads' HO442.out).2.2 | (with_reducible refine yi ?_ _) | (with_reducible refine yj ?_ _) | (with_reducible refine yk ?_)))
   (case side2 => exact (Kd.R_reads' HO442.out).2.1)
   (case side3 => repeat (first | exact (Kd.R_reads' HO445.out).2.2 | (with_reducible refine yi ?_ _) | (with_reducible refine yj ?_ _) | (with_reducible refine yk ?_)))
   (case side4 => exact (Kd.R_reads' HO445.out).2.1)
   (case side5 => repeat (first | exact (Kd.R_reads' HO448.out).2.2 | (with_reducible refine yi ?_ _) | (with_reducible refine yj ?_ _) | (with_reducible refine yk ?_)))
   (case side6 => exact (Kd.R_reads' HO448.out).2.1)
   (case side7 => repeat (first | exact (Kd.R_reads' HO451.out).2.2 | (with_reducible refine yi ?_ _) | (with_reducible refine yj ?_ _) | (with_reducible refine yk ?_)))
   (case side8 => exact (Kd.R_reads' HO451.out).2.1)
   rintro e w25 ⟨v453, rfl, ho0, hb⟩; refine ⟨_, rfl, ?_⟩; replace HO445 := ym (yp (by (with_reducible repeat apply y2); exact HO445.out) hb); replace HO448 := ym (yp (by (with_reducible repeat apply y2); exact HO448.out) hb); replace HO451 := ym (yp (by (with_reducible repeat apply y2); exact HO451.out) hb); have HO454 := ym (yo (Kd.R_new' (Kd.R_new' ho0 (Kd.R_lt (by (with_reducible repeat apply y2); exact HO438.out))) (Kd.R_lt (by (with_reducible repeat apply y2); exact HO442.out))) (below_size yb)); replace HO438 := ym (Kd.R_elder' (by (with_reducible repeat apply y2); exact HO438.out) (Kd.R_base ho0) hb); replace HO442 := ym (Kd.R_elder' (by (with_reducible repeat apply y2); exact HO442.out) (Kd.R_base ho0) hb); replace BK434 := yQ BK434 hb; replace BK435 := yQ BK435 hb; replace HB := yN hb; (try clear hb); (try clear hb2); (try clear hk); (try clear hi); (try clear ho0); refine hK.out _ _ ⟨(yw BK434.out 0).trans rfl, (yw BK434.out 1).trans rfl, (yw BK435.out 0).trans rfl, (yw BK435.out 1).trans rfl⟩ (fun hHeld => ?_); clear hK K; refine norm_ (a' := ?_) ?_ ?_; rotate_left
   ·
    show Act.put _ (some 24) _ = _
    simp only [Act.put, y0, y1]
    rfl
   refine zt (i := 6) (N := some 18) HT_ ?_; refine zt (i := 7) (N := some 25) HT_ ?_; refine zt (i := 8) (N := some 26) HT_ ?_; refine zt (i := 9) (N := some 9) HT_ ?_; refine zt (i := 10) (N := some 10) HT_ ?_; refine done_ (done_of HT_.out (by kernel_rfl)) ?_; (try go_wp2_with (first | ((with_reducible refine gate_callee (f := 14) rfl ?_); refine goesL_ (some 27) rfl rfl Try.func14 (by kernel_rfl) rfl #[] rfl y6 ?_; (with_reducible refine (heraldlaw15_awake.calls k  true _ A8.out).mono ?_); rintro e w26 ⟨rfl, hb⟩; refine ⟨_, rfl, ?_⟩; replace HO438 := ym (yp (by (with_reducible repeat apply y2); exact HO438.out) hb); replace HO442 := ym (yp (by (with_reducible repeat apply y2); exact HO442.out) hb); replace HO445 := ym (yp (by (with_reducible repeat apply y2); exact HO445.out) hb); replace HO448 := ym (yp (by (with_reducible repeat apply y2); exact HO448.out) hb); replace HO451 := ym (yp (by (with_reducible repeat apply y2); exact HO451.out) hb); replace HO454 := ym (yp (by (with_reducible repeat apply y2); exact HO454.out) hb); replace BK434 := yQ BK434 hb; replace BK435 := yQ BK435 hb; replace HB := yN hb; (try clear hb); (try clear hb2); (try clear hk); (try clear hi); obtain ⟨Ao27, co27, eo27⟩ := Kd.R_slice HO438.out; subst eo27; obtain ⟨Ao28, co28, eo28⟩ := Kd.R_slice HO454.out; subst eo28) | (go_at_call 23; (with_reducible refine (heraldlaw15_truths.calls k _ _ t436 _ _ t452 true _ ?side1 ?side2 ?side3 ?side4 A10.out).mono ?_); (case side1 => repeat (first | exact (Kd.R_reads' HO438.out).2.2 | (with_reducible refine yi ?_ _) | (with_reducible refine yj ?_ _) | (with_reducible refine yk ?_))); (case side2 => exact (Kd.R_reads' HO438.out).2.1); (case side3 => repeat (first | exact (Kd.R_reads' HO454.out).2.2 | (with_reducible refine yi ?_ _) | (with_reducible refine yj ?_ _) | (with_reducible refine yk ?_))); (case side4 => exact (Kd.R_reads' HO454.out).2.1); rintro e w' ⟨rfl, ⟨nd, rfl⟩⟩)))
   go_ret
   exact ⟨by first | rfl | (simp [errW_none, errW_some] <;> rfl) | (simp [*, errW_none, errW_some] <;> rfl), by repeat (first | (with_reducible first | exact HB.out | apply y3 | refine ys ?_ GE434.out | refine ys ?_ GE435.out) | exact HB.out)⟩
  replace c11 := Bool.eq_false_iff.mpr c11; subst c11; (have H1 : (none) = some r := by rw [if_neg (show ¬ (false = true) by decide)] at H; exact H); clear H; have H := H1; clear H1; exact absurd H (by simp)
 replace c9 := Bool.eq_false_iff.mpr c9; subst c9; (have H1 : (none) = some r := by rw [if_neg (show ¬ (false = true) by decide)] at H; exact H); clear H; have H := H1; clear H1; exact absurd H (by simp)

end Go.Proofs.Ytfjpnmhbbfiaaaa.P
