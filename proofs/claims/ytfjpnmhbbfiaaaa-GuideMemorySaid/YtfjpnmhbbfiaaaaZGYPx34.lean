-- Printed by xprint.py (wip): functions, contracts, rows. Lean checks it.
import Derived.Test.YtfjpnmhbbfiaaaaZGYPx0
import Derived.Test.YtfjpnmhbbfiaaaaZGYPx1
import Derived.Test.YtfjpnmhbbfiaaaaZGYPx9
import Derived.Test.YtfjpnmhbbfiaaaaZGYPx10
import Derived.Test.YtfjpnmhbbfiaaaaZGYPx28
import Derived.Test.YtfjpnmhbbfiaaaaZGYPx29
import Derived.Test.YtfjpnmhbbfiaaaaZGYPx30
import Derived.Test.YtfjpnmhbbfiaaaaZGYPx31
namespace Go.Proofs.Ytfjpnmhbbfiaaaa.P
open Go.RowKit Go.Proofs.YtfjpnmhbbfiaaaaW.PrintWords Go.Proofs.YtfjpnmhbbfiaaaaW.PrintLast Go.Proofs.YtfjpnmhbbfiaaaaW.PrintMore
attribute [local go_sem] max2_int min2_int max_two min_two max_three min_three max_four min_four   -- for this text's walks alone
set_option linter.unusedVariables false
set_option linter.unusedSimpArgs false

/-! ### heraldlaw15_GuideMemory: function 8 -/
/-- A kept row's mark. -/
def gmark (m : Nat) : Bool := ((m : Int) % 3 == 0)
def heraldlaw15_GuideMemory.f (k : Nat) (l0_0 : List Bool) (l0_1 : List (S92)) (l1_0 : List ByteArray) (l1_1 : List (S99)) (a2 : Int) : Option (Bool) := (heraldlaw15_given.f k l0_0 l0_1).bind fun bt466 => ((heraldlaw15_words.f k l1_0 l1_1).bind fun bt472 => ((heraldref15_Mask.f k bt466.1 bt466.2 bt472.1 bt472.2 a2).bind fun bt478 => ((guide_Mask.f k l0_0 l0_1 l1_0 l1_1 a2).bind fun bt482 => ((guide_Alive.f k l0_0 l0_1).bind fun bt486 => ((heraldlaw15_truths.f k bt482.1 bt478.1).bind fun t490 => (if t490 = true then ((heraldlaw15_awake.f k).bind fun t491 => (if t491 = true then ((heraldlaw15_truths.f k bt482.1 bt478.1).bind fun t492 => (if bt482.1.length ≤ 1048576 ∧ bt486.1.length ≤ 1048576 then (some t492) else (none))) else (none))) else (none)))))))
theorem heraldlaw15_GuideMemory.mono : ∀ a0 a1 a2 a3 a4 k, LeO (heraldlaw15_GuideMemory.f k a0 a1 a2 a3 a4) (heraldlaw15_GuideMemory.f (k + 1) a0 a1 a2 a3 a4) := by
  intro a0 a1 a2 a3 a4 k
  unfold heraldlaw15_GuideMemory.f
  repeat' first
      | (with_reducible exact guide_Alive.mono _ _ _)
      | (with_reducible exact guide_Mask.mono _ _ _ _ _ _)
      | (with_reducible exact heraldlaw15_awake.mono _)
      | (with_reducible exact heraldlaw15_given.mono _ _ _)
      | (with_reducible exact heraldlaw15_truths.mono _ _ _)
      | (with_reducible exact heraldlaw15_words.mono _ _ _)
      | (with_reducible exact heraldref15_Mask.mono _ _ _ _ _ _)
      | (with_reducible exact LeO.refl _)
      | (with_reducible exact LeO.none _)
      | (with_reducible refine LeO.ite ?_ ?_)
      | (with_reducible refine LeO.bind ?_ (fun _ => ?_))
      | exact guide_Alive.mono _ _ _
      | exact guide_Mask.mono _ _ _ _ _ _
      | exact heraldlaw15_awake.mono _
      | exact heraldlaw15_given.mono _ _ _
      | exact heraldlaw15_truths.mono _ _ _
      | exact heraldlaw15_words.mono _ _ _
      | exact heraldref15_Mask.mono _ _ _ _ _ _
      | exact LeO.none _
      | refine LeO.ite ?_ ?_
      | refine LeO.bind ?_ (fun _ => ?_)
def heraldlaw15_GuideMemory.T1 : Bool × List (List Nat × List Nat) := (true, [([], []), ([0], [0]), ([], []), ([2, 1], [2]), ([], []), ([1, 3, 4, 3], [1, 3, 4]), ([5], [5]), ([6], [6]), ([6], [6]), ([7, 5, 0, 1, 2, 3, 4, 5, 6, 7], [7]), ([8, 9, 0, 1, 2, 3, 4, 5, 6, 7, 8, 9], [8])])
def heraldlaw15_GuideMemory.B1 : List Nat := [0, 1, 0, 7, 0, 31, 63, 127, 127, 255, 1023]
theorem heraldlaw15_GuideMemory.tab1 : rtab .any (opsOf Try.f8 1) = heraldlaw15_GuideMemory.T1 := by kernel_rfl
theorem heraldlaw15_GuideMemory.bits1 : waitsOk heraldlaw15_GuideMemory.T1.2 heraldlaw15_GuideMemory.B1 = true := by kernel_rfl
set_option maxHeartbeats 8000000 in
set_option maxRecDepth 100000 in
theorem heraldlaw15_GuideMemory.calls (k : Nat) (A0_0 : Option Addr) (c0_0 : Nat) (l0_0 : List Bool) (A0_1 : Option Addr) (c0_1 : Nat) (l0_1 : List (S92)) (A1_0 : Option Addr) (c1_0 : Nat) (l1_0 : List ByteArray) (A1_1 : Option Addr) (c1_1 : Nat) (l1_1 : List (S99)) (a2 : Int) (r : Bool) (w : World) (hr0_0 : Kd.C Kd.bool w A0_0 l0_0.length l0_0) (hc0_0 : l0_0.length ≤ c0_0) (hr0_1 : Kd.C k92 w A0_1 l0_1.length l0_1) (hc0_1 : l0_1.length ≤ c0_1) (hr1_0 : Kd.C Kd.string w A1_0 l1_0.length l1_0) (hc1_0 : l1_0.length ≤ c1_0) (hr1_1 : Kd.C k99 w A1_1 l1_1.length l1_1) (hc1_1 : l1_1.length ≤ c1_1) (h : heraldlaw15_GuideMemory.f k l0_0 l0_1 l1_0 l1_1 a2 = some r) :
    Calls Try.prog 8 #[.agg #[.slice A0_0 l0_0.length c0_0, .slice A0_1 l0_1.length c0_1], .agg #[.slice A1_0 l1_0.length c1_0, .slice A1_1 l1_1.length c1_1], .int .i64 a2] w fun e w' => e = .returned (.bool r) ∧ Below w.heap.size w w' := by
 have hu25 := Try.underlying25
 have hu52 := Try.underlying52
 have HR0_0 := ym hr0_0
 have HC0_0 := ym hc0_0
 clear hr0_0 hc0_0
 have HR0_1 := ym hr0_1
 have HC0_1 := ym hc0_1
 clear hr0_1 hc0_1
 have HR1_0 := ym hr1_0
 have HC1_0 := ym hc1_0
 clear hr1_0 hc1_0
 have HR1_1 := ym hr1_1
 have HC1_1 := ym hc1_1
 clear hr1_1 hc1_1
 have HB := ym (Below.refl w.heap.size w)
 have H : ((heraldlaw15_given.f k l0_0 l0_1).bind fun bt466 => ((heraldlaw15_words.f k l1_0 l1_1).bind fun bt472 => ((heraldref15_Mask.f k bt466.1 bt466.2 bt472.1 bt472.2 a2).bind fun bt478 => ((guide_Mask.f k l0_0 l0_1 l1_0 l1_1 a2).bind fun bt482 => ((guide_Alive.f k l0_0 l0_1).bind fun bt486 => ((heraldlaw15_truths.f k bt482.1 bt478.1).bind fun t490 => (if t490 = true then ((heraldlaw15_awake.f k).bind fun t491 => (if t491 = true then ((heraldlaw15_truths.f k bt482.1 bt478.1).bind fun t492 => (if bt482.1.length ≤ 1048576 ∧ bt486.1.length ≤ 1048576 then (some t492) else (none))) else (none))) else (none)))))))) = some r := h
 clear h
 replace H := Option.bind_eq_some_iff.mp H
 obtain ⟨⟨t466, t469⟩, A40, H⟩ := H
 replace H : ((heraldlaw15_words.f k l1_0 l1_1).bind fun bt472 => ((heraldref15_Mask.f k t466 t469 bt472.1 bt472.2 a2).bind fun bt478 => ((guide_Mask.f k l0_0 l0_1 l1_0 l1_1 a2).bind fun bt482 => ((guide_Alive.f k l0_0 l0_1).bind fun bt486 => ((heraldlaw15_truths.f k bt482.1 bt478.1).bind fun t490 => (if t490 = true then ((heraldlaw15_awake.f k).bind fun t491 => (if t491 = true then ((heraldlaw15_truths.f k bt482.1 bt478.1).bind fun t492 => (if bt482.1.length ≤ 1048576 ∧ bt486.1.length ≤ 1048576 then (some t492) else (none))) else (none))) else (none))))))) = some r := H
 have A4 := ym A40
 clear A40
 replace H := Option.bind_eq_some_iff.mp H
 obtain ⟨⟨t472, t475⟩, A50, H⟩ := H
 replace H : ((heraldref15_Mask.f k t466 t469 t472 t475 a2).bind fun bt478 => ((guide_Mask.f k l0_0 l0_1 l1_0 l1_1 a2).bind fun bt482 => ((guide_Alive.f k l0_0 l0_1).bind fun bt486 => ((heraldlaw15_truths.f k bt482.1 bt478.1).bind fun t490 => (if t490 = true then ((heraldlaw15_awake.f k).bind fun t491 => (if t491 = true then ((heraldlaw15_truths.f k bt482.1 bt478.1).bind fun t492 => (if bt482.1.length ≤ 1048576 ∧ bt486.1.length ≤ 1048576 then (some t492) else (none))) else (none))) else (none)))))) = some r := H
 have A5 := ym A50
 clear A50
 replace H := Option.bind_eq_some_iff.mp H
 obtain ⟨⟨t478, t481⟩, A60, H⟩ := H
 replace H : ((guide_Mask.f k l0_0 l0_1 l1_0 l1_1 a2).bind fun bt482 => ((guide_Alive.f k l0_0 l0_1).bind fun bt486 => ((heraldlaw15_truths.f k bt482.1 t478).bind fun t490 => (if t490 = true then ((heraldlaw15_awake.f k).bind fun t491 => (if t491 = true then ((heraldlaw15_truths.f k bt482.1 t478).bind fun t492 => (if bt482.1.length ≤ 1048576 ∧ bt486.1.length ≤ 1048576 then (some t492) else (none))) else (none))) else (none))))) = some r := H
 have A6 := ym A60
 clear A60
 replace H := Option.bind_eq_some_iff.mp H
 obtain ⟨⟨t482, t485⟩, A70, H⟩ := H
 replace H : ((guide_Alive.f k l0_0 l0_1).bind fun bt486 => ((heraldlaw15_truths.f k t482 t478).bind fun t490 => (if t490 = true then ((heraldlaw15_awake.f k).bind fun t491 => (if t491 = true then ((heraldlaw15_truths.f k t482 t478).bind fun t492 => (if t482.length ≤ 1048576 ∧ bt486.1.length ≤ 1048576 then (some t492) else (none))) else (none))) else (none)))) = some r := H
 have A7 := ym A70
 clear A70
 replace H := Option.bind_eq_some_iff.mp H
 obtain ⟨⟨t486, t489⟩, A80, H⟩ := H
 replace H : ((heraldlaw15_truths.f k t482 t478).bind fun t490 => (if t490 = true then ((heraldlaw15_awake.f k).bind fun t491 => (if t491 = true then ((heraldlaw15_truths.f k t482 t478).bind fun t492 => (if t482.length ≤ 1048576 ∧ t486.length ≤ 1048576 then (some t492) else (none))) else (none))) else (none))) = some r := H
 have A8 := ym A80
 clear A80
 replace H := Option.bind_eq_some_iff.mp H
 obtain ⟨t490, A90, H⟩ := H
 replace H : (if t490 = true then ((heraldlaw15_awake.f k).bind fun t491 => (if t491 = true then ((heraldlaw15_truths.f k t482 t478).bind fun t492 => (if t482.length ≤ 1048576 ∧ t486.length ≤ 1048576 then (some t492) else (none))) else (none))) else (none)) = some r := H
 have A9 := ym A90
 clear A90
 by_cases c10 : t490 = true
 ·
  subst c10
  have H1 : ((heraldlaw15_awake.f k).bind fun t491 => (if t491 = true then ((heraldlaw15_truths.f k t482 t478).bind fun t492 => (if t482.length ≤ 1048576 ∧ t486.length ≤ 1048576 then (some t492) else (none))) else (none))) = some r := by rw [if_pos rfl] at H; exact H
  clear H
  have H := H1
  clear H1
  replace H := Option.bind_eq_some_iff.mp H
  obtain ⟨t491, A110, H⟩ := H
  replace H : (if t491 = true then ((heraldlaw15_truths.f k t482 t478).bind fun t492 => (if t482.length ≤ 1048576 ∧ t486.length ≤ 1048576 then (some t492) else (none))) else (none)) = some r := H
  have A11 := ym A110
  clear A110
  by_cases c12 : t491 = true
  ·
   subst c12
   have H1 : ((heraldlaw15_truths.f k t482 t478).bind fun t492 => (if t482.length ≤ 1048576 ∧ t486.length ≤ 1048576 then (some t492) else (none))) = some r := by rw [if_pos rfl] at H; exact H
   clear H
   have H := H1
   clear H1
   replace H := Option.bind_eq_some_iff.mp H
   obtain ⟨t492, A130, H⟩ := H
   replace H : (if t482.length ≤ 1048576 ∧ t486.length ≤ 1048576 then (some t492) else (none)) = some r := H
   have A13 := ym A130
   clear A130
   have hl_ : t482.length ≤ 1048576 ∧ t486.length ≤ 1048576 := by
     by_cases c_ : (t482.length ≤ 1048576 ∧ t486.length ≤ 1048576)
     · exact c_
     · rw [if_neg c_] at H; cases H
   rw [if_pos hl_] at H
   have HLA := ym hl_.1
   have HLB := ym hl_.2
   clear hl_
   obtain rfl := Option.some.inj H
   obtain rfl : t492 = true := Option.some.inj (A13.out.symm.trans A9.out)
   go_enter Try.func8, Try.ntmps8
   try go_wp2_with (first | ((with_reducible refine gate_dst (N := 3) rfl ?_); refine box_event ?hg (N := 3) ?hd (cs := #[.slice A0_0 l0_0.length c0_0, .slice A0_1 l0_1.length c0_1]) (t := 25) ?hr ?_; (case hd => rfl); (case hg => rfl); (case hr => first | (go_simp; done) | (go_simp; rfl)); intro gb464 hg w14 hbox hb; have n0_ := ym (yn (by repeat (first | (with_reducible first | exact HB.out | apply y3) | exact HB.out)) hb); have n1_ := ym (hbox); have n2_ := ym ((by rw [hg]; exact (below_size (by repeat (first | (with_reducible first | exact HB.out | apply y3) | exact HB.out))) : w.heap.size ≤ gb464)); have n3_ := n2_; clear HB; have HB := n0_; have BK464 := n1_; have GW464 := n2_; have GE464 := n3_; clear n0_ n1_ n2_ n3_; clear hb hbox hg) | ((with_reducible refine gate_dst (N := 4) rfl ?_); refine box_event ?hg (N := 4) ?hd (cs := #[.slice A1_0 l1_0.length c1_0, .slice A1_1 l1_1.length c1_1]) (t := 52) ?hr ?_; (case hd => rfl); (case hg => rfl); (case hr => first | (go_simp; done) | (go_simp; rfl)); intro gb465 hg w15 hbox hb; have n0_ := ym (yq (g := gb464) (o := .cells #[.slice A0_0 l0_0.length c0_0, .slice A0_1 l0_1.length c0_1] 25 (0, 0)) (by (with_reducible repeat refine y4 ?_); exact BK464.out) hb); have n1_ := ym (yn (by repeat (first | (with_reducible first | exact HB.out | apply y3 | refine ys ?_ GE464.out) | exact HB.out)) hb); have n2_ := ym (hbox); have n3_ := ym ((by rw [hg]; exact (below_size (by repeat (first | (with_reducible first | exact HB.out | apply y3 | refine ys ?_ GE464.out) | exact HB.out))) : w.heap.size ≤ gb465)); have n4_ := n3_; have n5_ := ym ((by rw [hg]; exact Nat.ne_of_lt (blk_lt (g := gb464) (o := .cells #[.slice A0_0 l0_0.length c0_0, .slice A0_1 l0_1.length c0_1] 25 (0, 0)) (by (with_reducible repeat refine y4 ?_); exact BK464.out)) : gb464 ≠ gb465)); have n6_ := ym ((by rw [hg]; exact Nat.ne_of_gt (blk_lt (g := gb464) (o := .cells #[.slice A0_0 l0_0.length c0_0, .slice A0_1 l0_1.length c0_1] 25 (0, 0)) (by (with_reducible repeat refine y4 ?_); exact BK464.out)) : gb465 ≠ gb464)); clear BK464; clear HB; have BK464 := n0_; have HB := n1_; have BK465 := n2_; have GW465 := n3_; have GE465 := n4_; have NB464_465 := n5_; have NB465_464 := n6_; clear n0_ n1_ n2_ n3_ n4_ n5_ n6_; clear hb hbox hg))
   have n0_ := ym (yt BK464.out)
   have n1_ := ym (yt BK465.out)
   have n2_ := ym (ye HB.out)
   clear BK464
   clear BK465
   clear HB
   have BK464 := n0_
   have BK465 := n1_
   have HB := n2_
   clear n0_ n1_ n2_
   refine start_ (n := 11) (S := fun w' => w'.cell? ⟨gb464, 0, none⟩ = some (.slice A0_0 l0_0.length c0_0) ∧ w'.cell? ⟨gb464, 1, none⟩ = some (.slice A0_1 l0_1.length c0_1) ∧ w'.cell? ⟨gb465, 0, none⟩ = some (.slice A1_0 l1_0.length c1_0) ∧ w'.cell? ⟨gb465, 1, none⟩ = some (.slice A1_1 l1_1.length c1_1)) (ds := []) #[false, false, false, false, false, false, false, false, false, false, false] (by kernel_rfl) rfl rfl ⟨(yw BK464.out 0).trans rfl, (yw BK464.out 1).trans rfl, (yw BK465.out 0).trans rfl, (yw BK465.out 1).trans rfl⟩ (fun hHeld => ?_); refine with_tabW heraldlaw15_GuideMemory.tab1 heraldlaw15_GuideMemory.bits1 (fun HT_ HW_ => ?_)
   generalize w15.drew = w16 at BK464 BK465 HB hHeld ⊢
   refine st_ (i := 4) (N := some 29) HT_ rfl rfl (by simp only [y0]; rfl) (by kernel_rfl) (fun _ _ _ h => h) (by rfl) (by intro w'; go_simp; with_reducible rfl) (by simp only [Act.put, y0, y1]; rfl) ?_
   refine tk_ (i := 0) (N := some 25) HT_ HW_ rfl rfl (by simp only [y0]; rfl) (by kernel_rfl) (fun _ _ _ h => h) hHeld (by rfl) (by rintro w' ⟨s0, s1, s2, s3⟩; go_simp; with_reducible rfl) (by simp only [Act.put, y0, y1]; rfl) ?_
   refine tk_ (i := 2) (N := some 27) HT_ HW_ rfl rfl (by simp only [y0]; rfl) (by kernel_rfl) (fun _ _ _ h => h) hHeld (by rfl) (by rintro w' ⟨s0, s1, s2, s3⟩; go_simp; with_reducible rfl) (by simp only [Act.put, y0, y1]; rfl) ?_
   refine one_ (i := 1) (N := some 26) #[true, true, true, false, true, false, false, false, false, false, false] rfl rfl (one_of HT_.out (by kernel_rfl)) (by decide) (fun K hK => ?_)
   refine goes_ Try.func13 (by kernel_rfl) rfl #[.agg #[.slice A0_0 l0_0.length c0_0, .slice A0_1 l0_1.length c0_1]] (by rfl) rfl rfl (by (try simp only [List.map_toArray, List.map_cons, List.map_nil]); first | done | rfl | (simp only [List.length_drop, List.length_take]; rfl)) ?_
   with_reducible refine (heraldlaw15_given.calls k _ _ l0_0 _ _ l0_1 t466 t469 _ ?side1 ?side2 ?side3 ?side4 A4.out).mono ?_
   (case side1 => repeat (first | exact (Kd.C_below HR0_0.out HB.out) | (with_reducible refine yi ?_ _) | (with_reducible refine yj ?_ _) | (with_reducible refine yk ?_)))
   (case side2 => exact HC0_0.out)
   (case side3 => repeat (first | exact (Kd.C_below HR0_1.out HB.out) | (with_reducible refine yi ?_ _) | (with_reducible refine yj ?_ _) | (with_reducible refine yk ?_)))
   (case side4 => exact HC0_1.out)
   rintro e w17 ⟨v467, v470, rfl, ho0, ho1, hb⟩
   refine ⟨_, rfl, ?_⟩
   have n0_ := ym (yo ho0 (below_size (by repeat (first | (with_reducible first | exact HB.out | apply y3 | refine ys ?_ GE464.out | refine ys ?_ GE465.out) | exact HB.out))))
   have n1_ := ym (yo ho1 (below_size (by repeat (first | (with_reducible first | exact HB.out | apply y3 | refine ys ?_ GE464.out | refine ys ?_ GE465.out) | exact HB.out))))
   have n2_ := ym (yq (g := gb464) (o := .cells #[.slice A0_0 l0_0.length c0_0, .slice A0_1 l0_1.length c0_1] 25 (0, 0)) (by (with_reducible repeat refine y4 ?_); exact BK464.out) hb)
   have n3_ := ym (yq (g := gb465) (o := .cells #[.slice A1_0 l1_0.length c1_0, .slice A1_1 l1_1.length c1_1] 52 (0, 0)) (by (with_reducible repeat refine y4 ?_); exact BK465.out) hb)
   have n4_ := ym (yn (by repeat (first | (with_reducible first | exact HB.out | apply y3 | refine ys ?_ GE464.out | refine ys ?_ GE465.out) | exact HB.out)) hb)
   clear BK464
   clear BK465
   clear HB
   have HO468 := n0_
   have HO471 := n1_
   have BK464 := n2_
   have BK465 := n3_
   have HB := n4_
   clear n0_ n1_ n2_ n3_ n4_
   (try clear hb)
   (try clear hb2)
   (try clear hk)
   (try clear hi)
   (try clear ho0)
   (try clear ho1)
   refine hK.out _ _ ⟨(yw BK464.out 0).trans rfl, (yw BK464.out 1).trans rfl, (yw BK465.out 0).trans rfl, (yw BK465.out 1).trans rfl⟩ (fun hHeld => ?_)
   clear hK K
   refine norm_ (a' := ?_) ?_ ?_
   rotate_left
   ·
    show Act.put _ (some 26) _ = _
    simp only [Act.put, y0, y1]
    rfl
   refine one_ (i := 3) (N := some 28) #[true, true, true, true, true, false, false, false, false, false, false] rfl rfl (one_of HT_.out (by kernel_rfl)) (by decide) (fun K hK => ?_)
   refine goes_ Try.func24 (by kernel_rfl) rfl #[.agg #[.slice A1_0 l1_0.length c1_0, .slice A1_1 l1_1.length c1_1]] (by rfl) rfl rfl (by (try simp only [List.map_toArray, List.map_cons, List.map_nil]); first | done | rfl | (simp only [List.length_drop, List.length_take]; rfl)) ?_
   with_reducible refine (heraldlaw15_words.calls k _ _ l1_0 _ _ l1_1 t472 t475 _ ?side1 ?side2 ?side3 ?side4 A5.out).mono ?_
   (case side1 => repeat (first | exact (Kd.C_below HR1_0.out HB.out) | (with_reducible refine yi ?_ _) | (with_reducible refine yj ?_ _) | (with_reducible refine yk ?_)))
   (case side2 => exact HC1_0.out)
   (case side3 => repeat (first | exact (Kd.C_below HR1_1.out HB.out) | (with_reducible refine yi ?_ _) | (with_reducible refine yj ?_ _) | (with_reducible refine yk ?_)))
   (case side4 => exact HC1_1.out)
   rintro e w18 ⟨v473, v476, rfl, ho0, ho1, hb⟩
   refine ⟨_, rfl, ?_⟩
   have n0_ := ym (yp (by (with_reducible repeat apply y2); exact HO468.out) hb)
   have n1_ := ym (yp (by (with_reducible repeat apply y2); exact HO471.out) hb)
   have n2_ := ym (yo ho0 (below_size (by repeat (first | (with_reducible first | exact HB.out | apply y3 | refine ys ?_ GE464.out | refine ys ?_ GE465.out) | exact HB.out))))
   have n3_ := ym (yo ho1 (below_size (by repeat (first | (with_reducible first | exact HB.out | apply y3 | refine ys ?_ GE464.out | refine ys ?_ GE465.out) | exact HB.out))))
   have n4_ := ym (yq (g := gb464) (o := .cells #[.slice A0_0 l0_0.length c0_0, .slice A0_1 l0_1.length c0_1] 25 (0, 0)) (by (with_reducible repeat refine y4 ?_); exact BK464.out) hb)
   have n5_ := ym (yq (g := gb465) (o := .cells #[.slice A1_0 l1_0.length c1_0, .slice A1_1 l1_1.length c1_1] 52 (0, 0)) (by (with_reducible repeat refine y4 ?_); exact BK465.out) hb)
   have n6_ := ym (yn (by repeat (first | (with_reducible first | exact HB.out | apply y3 | refine ys ?_ GE464.out | refine ys ?_ GE465.out) | exact HB.out)) hb)
   clear HO468
   clear HO471
   clear BK464
   clear BK465
   clear HB
   have HO468 := n0_
   have HO471 := n1_
   have HO474 := n2_
   have HO477 := n3_
   have BK464 := n4_
   have BK465 := n5_
   have HB := n6_
   clear n0_ n1_ n2_ n3_ n4_ n5_ n6_
   (try clear hb)
   (try clear hb2)
   (try clear hk)
   (try clear hi)
   (try clear ho0)
   (try clear ho1)
   obtain ⟨Ao19, co19, eo19⟩ := Kd.R_slice HO468.out
   (first | subst eo19 | (injection eo19 with f1_ f2_ f3_; have f4_ := f1_.symm; have f5_ := f3_.symm; clear f1_ f2_ f3_; subst f4_; subst f5_))
   obtain ⟨Ao20, co20, eo20⟩ := Kd.R_slice HO471.out
   (first | subst eo20 | (injection eo20 with f1_ f2_ f3_; have f4_ := f1_.symm; have f5_ := f3_.symm; clear f1_ f2_ f3_; subst f4_; subst f5_))
   obtain ⟨Ao21, co21, eo21⟩ := Kd.R_slice HO474.out
   (first | subst eo21 | (injection eo21 with f1_ f2_ f3_; have f4_ := f1_.symm; have f5_ := f3_.symm; clear f1_ f2_ f3_; subst f4_; subst f5_))
   obtain ⟨Ao22, co22, eo22⟩ := Kd.R_slice HO477.out
   (first | subst eo22 | (injection eo22 with f1_ f2_ f3_; have f4_ := f1_.symm; have f5_ := f3_.symm; clear f1_ f2_ f3_; subst f4_; subst f5_))
   refine hK.out _ _ ⟨(yw BK464.out 0).trans rfl, (yw BK464.out 1).trans rfl, (yw BK465.out 0).trans rfl, (yw BK465.out 1).trans rfl⟩ (fun hHeld => ?_)
   clear hK K
   refine norm_ (a' := ?_) ?_ ?_
   rotate_left
   ·
    show Act.put _ (some 28) _ = _
    simp only [Act.put, y0, y1]
    rfl
   refine one_ (i := 5) (N := some 30) #[true, true, true, true, true, true, false, false, false, false, false] rfl rfl (one_of HT_.out (by kernel_rfl)) (by decide) (fun K hK => ?_)
   refine goes_ Try.func30 (by kernel_rfl) rfl #[.agg #[.slice Ao19 t466.length co19, .slice Ao20 t469.length co20], .agg #[.slice Ao21 t472.length co21, .slice Ao22 t475.length co22], .int .i64 a2] (by rfl) rfl rfl (by (try simp only [List.map_toArray, List.map_cons, List.map_nil]); first | done | rfl | (simp only [List.length_drop, List.length_take]; rfl)) ?_
   with_reducible refine (heraldref15_Mask.calls k _ _ t466 _ _ t469 _ _ t472 _ _ t475 a2 t478 t481 _ ?side1 ?side2 ?side3 ?side4 ?side5 ?side6 ?side7 ?side8 A6.out).mono ?_
   (case side1 => repeat (first | exact (Kd.R_reads' HO468.out).2.2 | (with_reducible refine yi ?_ _) | (with_reducible refine yj ?_ _) | (with_reducible refine yk ?_)))
   (case side2 => exact (Kd.R_reads' HO468.out).2.1)
   (case side3 => repeat (first | exact (Kd.R_reads' HO471.out).2.2 | (with_reducible refine yi ?_ _) | (with_reducible refine yj ?_ _) | (with_reducible refine yk ?_)))
   (case side4 => exact (Kd.R_reads' HO471.out).2.1)
   (case side5 => repeat (first | exact (Kd.R_reads' HO474.out).2.2 | (with_reducible refine yi ?_ _) | (with_reducible refine yj ?_ _) | (with_reducible refine yk ?_)))
   (case side6 => exact (Kd.R_reads' HO474.out).2.1)
   (case side7 => repeat (first | exact (Kd.R_reads' HO477.out).2.2 | (with_reducible refine yi ?_ _) | (with_reducible refine yj ?_ _) | (with_reducible refine yk ?_)))
   (case side8 => exact (Kd.R_reads' HO477.out).2.1)
   rintro e w23 ⟨v479, rfl, ho0, hb⟩
   refine ⟨_, rfl, ?_⟩
   have n0_ := ym (Kd.R_elder' (by (with_reducible repeat apply y2); exact HO468.out) (Kd.R_base ho0) hb)
   have n1_ := ym (yp (by (with_reducible repeat apply y2); exact HO471.out) hb)
   have n2_ := ym (yp (by (with_reducible repeat apply y2); exact HO474.out) hb)
   have n3_ := ym (yp (by (with_reducible repeat apply y2); exact HO477.out) hb)
   have n4_ := ym (yo (Kd.R_new' ho0 (Kd.R_lt (by (with_reducible repeat apply y2); exact HO468.out))) (below_size (by repeat (first | (with_reducible first | exact HB.out | apply y3 | refine ys ?_ GE464.out | refine ys ?_ GE465.out) | exact HB.out))))
   have n5_ := ym (yq (g := gb464) (o := .cells #[.slice A0_0 l0_0.length c0_0, .slice A0_1 l0_1.length c0_1] 25 (0, 0)) (by (with_reducible repeat refine y4 ?_); exact BK464.out) hb)
   have n6_ := ym (yq (g := gb465) (o := .cells #[.slice A1_0 l1_0.length c1_0, .slice A1_1 l1_1.length c1_1] 52 (0, 0)) (by (with_reducible repeat refine y4 ?_); exact BK465.out) hb)
   have n7_ := ym (yn (by repeat (first | (with_reducible first | exact HB.out | apply y3 | refine ys ?_ GE464.out | refine ys ?_ GE465.out) | exact HB.out)) hb)
   clear HO468
   clear HO471
   clear HO474
   clear HO477
   clear BK464
   clear BK465
   clear HB
   have HO468 := n0_
   have HO471 := n1_
   have HO474 := n2_
   have HO477 := n3_
   have HO480 := n4_
   have BK464 := n5_
   have BK465 := n6_
   have HB := n7_
   clear n0_ n1_ n2_ n3_ n4_ n5_ n6_ n7_
   (try clear hb)
   (try clear hb2)
   (try clear hk)
   (try clear hi)
   (try clear ho0)
   refine hK.out _ _ ⟨(yw BK464.out 0).trans rfl, (yw BK464.out 1).trans rfl, (yw BK465.out 0).trans rfl, (yw BK465.out 1).trans rfl⟩ (fun hHeld => ?_)
   clear hK K
   refine norm_ (a' := ?_) ?_ ?_
   rotate_left
   ·
    show Act.put _ (some 30) _ = _
    simp only [Act.put, y0, y1]
    rfl
   refine st_ (i := 6) (N := some 24) HT_ rfl rfl (by simp only [y0]; rfl) (by kernel_rfl) (fun _ _ _ h => h) (by rfl) (by intro w'; go_simp; with_reducible rfl) (by simp only [Act.put, y0, y1]; rfl) ?_
   refine st_ (i := 7) (N := some 31) HT_ rfl rfl (by simp only [y0]; rfl) (by kernel_rfl) (fun _ _ _ h => h) (by rfl) (by intro w'; go_simp; with_reducible rfl) (by simp only [Act.put, y0, y1]; rfl) ?_
   refine st_ (i := 8) (N := some 32) HT_ rfl rfl (by simp only [y0]; rfl) (by kernel_rfl) (fun _ _ _ h => h) (by rfl) (by intro w'; go_simp; with_reducible rfl) (by simp only [Act.put, y0, y1]; rfl) ?_
   refine st_ (i := 9) (N := some 7) HT_ rfl rfl (by simp only [y0]; rfl) (by kernel_rfl) (fun _ _ _ h => h) (by rfl) (by intro w'; go_simp; with_reducible rfl) (by simp only [Act.put, y0, y1]; rfl) ?_
   refine st_ (i := 10) (N := some 8) HT_ rfl rfl (by simp only [y0]; rfl) (by kernel_rfl) (fun _ _ _ h => h) (by rfl) (by intro w'; go_simp; with_reducible rfl) (by simp only [Act.put, y0, y1]; rfl) ?_
   refine done_ (done_of HT_.out (by kernel_rfl)) ?_
   have hnb24 := NB464_465.out
   have hnc24 := NB465_464.out
   have hcz25_0 : w23.cell? ⟨gb464, 0, none⟩ = some (.slice A0_0 l0_0.length c0_0) := (yw BK464.out 0).trans rfl
   have hcz25_1 : w23.cell? ⟨gb464, 1, none⟩ = some (.slice A0_1 l0_1.length c0_1) := (yw BK464.out 1).trans rfl
   have hfz25_0 := yv BK464.out 0
   have hfz25_1 := yv BK464.out 1
   have hcz26_0 : w23.cell? ⟨gb465, 0, none⟩ = some (.slice A1_0 l1_0.length c1_0) := (yw BK465.out 0).trans rfl
   have hcz26_1 : w23.cell? ⟨gb465, 1, none⟩ = some (.slice A1_1 l1_1.length c1_1) := (yw BK465.out 1).trans rfl
   have hfz26_0 := yv BK465.out 0
   have hfz26_1 := yv BK465.out 1
   obtain ⟨Aw, cw, ew_⟩ := Kd.R_slice HO480.out
   subst ew_
   have HW := ym (Pool.Inner.one (enc := Value.bool) (Kd.own_of_R HO480.out))
   (try clear A6); (try clear A4); (try clear A5); (try clear A13); (try clear HT_); (try clear HW_); (try clear hHeld); (try clear HO468); (try clear HO471); (try clear HO474); (try clear HO477)
   go_wp2
   go_loopw [9, 10] (fun v i wr => ∃ (n : Nat) (us : List Value) (xss : List (List Bool)), i = .int .i64 n ∧ n ≤ 3 ∧ us.length = 2 * n ∧ Aside0 (Pool.Inner 4 Value.bool wr w.heap.size (.slice Aw t478.length cw :: us) (t478 :: xss)) ∧ Aside0 (wr.ownsRow w.heap.size 22 1 v us.length us) ∧ Aside0 (Below w.heap.size w wr) ∧ Aside0 (∀ x ∈ xss, x.length ≤ 1048576) ∧ Aside0 (wr.heap[gb464]? = some (.cells #[.slice A0_0 l0_0.length c0_0, .slice A0_1 l0_1.length c0_1] 25 (0, 0))) ∧ Aside0 (wr.heap[gb465]? = some (.cells #[.slice A1_0 l1_0.length c1_0, .slice A1_1 l1_1.length c1_1] 52 (0, 0)))) (fun _ i _ => 3 - (intOf i).toNat)
   case atStart => exact ⟨0, [], [], rfl, by omega, rfl, ⟨HW.out.below (ya (Below.refl _ _) _)⟩, ⟨World.ownsRow_lit w23 #[] 0 HB.out.size (by unfold maxLen; omega) rfl⟩, ⟨ya HB.out _⟩, ⟨by simp⟩, ⟨yq BK464.out (ya (Below.refl _ _) _)⟩, ⟨yq BK465.out (ya (Below.refl _ _) _)⟩⟩
   case round =>
     clear HB BK464 BK465 HW
     (try clear hcz25_0); (try clear hcz25_1); (try clear hcz26_0); (try clear hcz26_1); (try clear hfz25_0); (try clear hfz25_1); (try clear hfz26_0); (try clear hfz26_1)
     obtain ⟨n, us, xss, rfl, hn, hus, HI, HO, HB, HX, BA, BB⟩ := hrel
     obtain ⟨Ak, ck, rfl⟩ := own_slice HO.out
     have HRw := ym (Kd.R_of_own (h1 := fun _ => rfl) (ok := fun _ => True) (HI.out.own 0 _ t478 rfl rfl) (fun _ _ => trivial))
     by_cases hlt : n < 3
     · have a0 := (yw BA.out 0).trans rfl
       have a1 := (yw BA.out 1).trans rfl
       have b0 := (yw BB.out 0).trans rfl
       have b1 := (yw BB.out 1).trans rfl
       have HUS := ym hus
       clear hus
       go_wp2_with (first
         | (go_at_call 29; refine (guide_Mask.calls k _ _ l0_0 _ _ l0_1 _ _ l1_0 _ _ l1_1 a2 t482 t485 _ (Kd.C_below HR0_0.out HB.out) HC0_0.out (Kd.C_below HR0_1.out HB.out) HC0_1.out (Kd.C_below HR1_0.out HB.out) HC1_0.out (Kd.C_below HR1_1.out HB.out) HC1_1.out A7.out).mono ?_; rintro e w6 ⟨va, rfl, ho, hb⟩; obtain ⟨Aa, ca, rfl⟩ := Kd.R_slice ho; have HI6 := ym (HI.out.join hb HB.out.size (Pool.Inner.one (enc := Value.bool) (Kd.own_of_R ho))); have HO6 := ym (pw_own_below HO.out hb); have HRw6 := ym (yp HRw.out hb); have HRa := ym ho; have HB6 := ym (yn HB.out hb); have BA6 := ym (yq BA.out hb); have BB6 := ym (yq BB.out hb); clear ho hb; have a0 := (yw BA6.out 0).trans rfl; have a1 := (yw BA6.out 1).trans rfl)
         | (go_at_call 21; refine (guide_Alive.calls k _ _ l0_0 _ _ l0_1 t486 t489 _ (Kd.C_below HR0_0.out HB6.out) HC0_0.out (Kd.C_below HR0_1.out HB6.out) HC0_1.out A8.out).mono ?_; rintro e w7 ⟨vb, rfl, ho, hb⟩; obtain ⟨Ab, cb, rfl⟩ := Kd.R_slice ho; have HI7 := ym (HI6.out.join hb HB6.out.size (Pool.Inner.one (enc := Value.bool) (Kd.own_of_R ho))); have HO7 := ym (pw_own_below HO6.out hb); have HRw7 := ym (yp HRw6.out hb); have HRa7 := ym (yp HRa.out hb); have HB7 := ym (yn HB6.out hb); have BA7 := ym (yq BA6.out hb); have BB7 := ym (yq BB6.out hb); clear ho hb)
         | (go_at_call 23; refine (heraldlaw15_truths.calls k _ _ t482 _ _ t478 true _ (Kd.R_reads' HRa7.out).2.2 (Kd.R_reads' HRa7.out).2.1 (Kd.R_reads' HRw7.out).2.2 (Kd.R_reads' HRw7.out).2.1 A9.out).mono ?_; rintro e w8 ⟨rfl, hd⟩; have hb := hd.below; have HI8 := ym ((HI7.out.below hb).below (ya (Below.refl _ _) (.cells #[.slice Aa t482.length ca, .slice Ab t486.length cb] 22))); have HO8 := ym (pw_own_below (pw_own_below HO7.out hb) (ya (Below.refl _ _) (.cells #[.slice Aa t482.length ca, .slice Ab t486.length cb] 22))); have HB8 := ym (ya (yn HB7.out hb) (.cells #[.slice Aa t482.length ca, .slice Ab t486.length cb] 22)); have HD8 := ym (World.ownsRow_lit (base := w.heap.size) (e := 22) (size := 1) w8 #[.slice Aa t482.length ca, .slice Ab t486.length cb] 2 (yn HB7.out hb).size (by unfold maxLen; omega) rfl); have BA8 := ym (yq (yq BA7.out hb) (ya (Below.refl _ _) (.cells #[.slice Aa t482.length ca, .slice Ab t486.length cb] 22))); have BB8 := ym (yq (yq BB7.out hb) (ya (Below.refl _ _) (.cells #[.slice Aa t482.length ca, .slice Ab t486.length cb] 22))); clear hb hd)
         | ((with_reducible refine gate_builtin (b := .append) (xs := #[.tmp 54, .tmp 57]) rfl ?_); at_builtin; refine Pool.wpList_append_keptAllT (W0 := w) rfl (.tmp 54) (.tmp 57) 67 rfl (.slice none 0 0) 24 Try.underlying67 info22 rfl (by omega) HI8.out _ _ us HO8.out (by decide) _ 2 _ HD8.out (by simp [Value.oneCell']) rfl rfl HB8.out HB8.out.size ?hl ?_; (case hl => have := HUS.out; omega); intro v9 w9 hi ho hb hs hty hne; have HI9 := ym hi; have HO9 := ym ho; have HB9 := ym hb; have BA9 := ym (Pool.blk_ty BA8.out hty (by decide)); have BB9 := ym (Pool.blk_ty BB8.out hty (by decide)); clear hi ho hb hs hty hne))
       go_roundw
       case measure => simp only [intOf]; omega
       case rel => exact ⟨n + 1, us ++ [.slice Aa t482.length ca, .slice Ab t486.length cb], xss ++ [t482, t486], by simp, by omega, by have := HUS.out; simp; omega, ⟨by simpa using HI9.out⟩, ⟨by simpa using HO9.out⟩, HB9, ⟨by intro z hz; simp only [List.mem_append, List.mem_cons, List.not_mem_nil, or_false] at hz; rcases hz with hz | rfl | rfl; exact HX.out z hz; exact HLA.out; exact HLB.out⟩, BA9, BB9⟩
     · have hus6 : us.length ≤ 6 := by omega
       clear HRw
       obtain ⟨wz, rfl⟩ : ∃ wo, wo = wr := ⟨_, rfl⟩
       go_wp2
       clear hlt hus hn
       go_loopw [15] (fun v wr => ∃ (m : Nat) (yss : List (List Bool)), v = .int .i64 m ∧ m ≤ us.length ∧ Aside0 (Pool.Inner 4 Value.bool wr w.heap.size (.slice Aw t478.length cw :: us) (t478 :: yss)) ∧ Aside0 (wr.ownsRow w.heap.size 22 1 (.slice Ak us.length ck) us.length us) ∧ Aside0 (Below w.heap.size w wr) ∧ Aside0 (∀ x ∈ yss, x.length ≤ 1048576) ∧ Aside0 (Pool.Marked gmark yss m) ∧ Aside0 (wr.heap[gb464]? = some (.cells #[.slice A0_0 l0_0.length c0_0, .slice A0_1 l0_1.length c0_1] 25 (0, 0))) ∧ Aside0 (wr.heap[gb465]? = some (.cells #[.slice A1_0 l1_0.length c1_0, .slice A1_1 l1_1.length c1_1] 52 (0, 0)))) (fun v _ => us.length - (intOf v).toNat)
       case atStart => exact ⟨0, xss, rfl, Nat.zero_le _, HI, HO, HB, HX, ⟨Pool.Marked.zero _ _⟩, BA, BB⟩
       case round =>
         clear HI HO HB HX xss BA BB
         obtain ⟨m, xss, rfl, hm, HI, HO, HB, HX, HM, BA, BB⟩ := hrel
         by_cases hlt : m < us.length
         · obtain ⟨wo, rfl⟩ : ∃ wo, wo = wr := ⟨_, rfl⟩
           obtain ⟨um, hum⟩ : ∃ um, us[m]? = some um := ⟨_, List.getElem?_eq_getElem hlt⟩
           have hum' : (Value.slice Aw t478.length cw :: us)[m + 1]? = some um := hum
           obtain ⟨xm, hxm, hown⟩ := HI.out.at_ hum'
           obtain ⟨Am, cm, rfl⟩ := HI.out.form hum' hxm
           obtain ⟨gk, ck', e, hcell⟩ := Pool.outer_cell HO.out hum
           cases e
           obtain ⟨L, hL⟩ : ∃ L, L = xm.length := ⟨_, rfl⟩
           rw [← hL] at hum hum' hcell
           clear hL hown hxm xm
           go_wp2
           go_loopw [16] (fun v wr => ∃ (j : Nat) (yss : List (List Bool)), v = .int .i64 j ∧ j ≤ L ∧ Aside0 (Pool.Inner 4 Value.bool wr w.heap.size (.slice Aw t478.length cw :: us) (t478 :: yss)) ∧ Aside0 (wr.ownsRow w.heap.size 22 1 (.slice (some ⟨gk, 0, none⟩) us.length ck) us.length us) ∧ Aside0 (Below w.heap.size w wr) ∧ Aside0 (∀ x ∈ yss, x.length ≤ 1048576) ∧ Aside0 (Pool.Marked gmark yss m) ∧ Aside0 (Pool.Part gmark yss m j) ∧ Aside0 (wr.heap[gb464]? = some (.cells #[.slice A0_0 l0_0.length c0_0, .slice A0_1 l0_1.length c0_1] 25 (0, 0))) ∧ Aside0 (wr.heap[gb465]? = some (.cells #[.slice A1_0 l1_0.length c1_0, .slice A1_1 l1_1.length c1_1] 52 (0, 0)))) (fun v _ => L - (intOf v).toNat)
           case atStart => exact ⟨0, xss, rfl, Nat.zero_le _, HI, HO, HB, HX, HM, ⟨Pool.Part.zero _ _ _⟩, BA, BB⟩
           case round =>
             clear HI HO HB HX HM xss hcell BA BB
             obtain ⟨j, xss, rfl, hj, HI, HO, HB, HX, HM, HP, BA, BB⟩ := hrel
             obtain ⟨_, _, e, hcell⟩ := Pool.outer_cell HO.out hum
             cases e
             obtain ⟨xm, hxm, hown⟩ := HI.out.at_ hum'
             obtain rfl : L = xm.length := by
               obtain ⟨A, c, e⟩ := own_slice hown
               cases e; rfl
             clear hown
             have hxm' : xss[m]? = some xm := hxm
             have hL20 : xm.length ≤ 1048576 := HX.out xm (List.mem_of_getElem? hxm')
             by_cases hlj : j < xm.length
             · obtain ⟨g, c, e⟩ := HI.out.formed hum' hxm (by omega)
               cases e
               obtain ⟨hcj, hfj⟩ := HI.out.cell hxm hum' (List.getElem?_eq_getElem hlj)
               have HTY := ym (Pool.ty_store (HI.out.own _ _ xm hum' hxm) j (.bool (gmark m)))
               go_wp2
               go_roundw
               case measure => simp only [intOf]; omega
               case rel => exact ⟨j + 1, xss.set m (xm.set j (gmark m)), by simp, by omega, ⟨HI.out.store hxm hum' j (gmark m)⟩, ⟨Pool.outer_store HO.out HI.out (by decide) hum' j _⟩, ⟨ys HB.out (HI.out.lt hum' rfl).1⟩, ⟨by intro z hz; rcases List.mem_or_eq_of_mem_set hz with hz | rfl; exact HX.out z hz; rw [List.length_set]; exact hL20⟩, ⟨HM.out.store _⟩, ⟨HP.out.store hxm'⟩, ⟨Pool.blk_ty BA.out HTY.out (by decide)⟩, ⟨Pool.blk_ty BB.out HTY.out (by decide)⟩⟩
             · obtain rfl : j = xm.length := by omega
               go_wp2
               go_roundw
               case measure => simp only [intOf]; omega
               case rel => exact ⟨m + 1, xss, by simp, by omega, HI, HO, HB, HX, ⟨HM.out.next hxm' HP.out⟩, BA, BB⟩
         · obtain rfl : m = us.length := by omega
           obtain ⟨wo, rfl⟩ : ∃ wo, wo = wr := ⟨_, rfl⟩
           go_wp2
           go_loopw [17, 18, 19] (fun v _ _ wr => ∃ (m : Nat), v = .int .i64 m ∧ m ≤ us.length ∧ Aside0 (Pool.Inner 4 Value.bool wr w.heap.size (.slice Aw t478.length cw :: us) (t478 :: xss)) ∧ Aside0 (wr.ownsRow w.heap.size 22 1 (.slice Ak us.length ck) us.length us) ∧ Aside0 (Below w.heap.size w wr) ∧ Aside0 (wr.heap[gb464]? = some (.cells #[.slice A0_0 l0_0.length c0_0, .slice A0_1 l0_1.length c0_1] 25 (0, 0))) ∧ Aside0 (wr.heap[gb465]? = some (.cells #[.slice A1_0 l1_0.length c1_0, .slice A1_1 l1_1.length c1_1] 52 (0, 0)))) (fun v _ _ _ => us.length - (intOf v).toNat)
           case atStart => exact ⟨0, rfl, Nat.zero_le _, HI, HO, HB, BA, BB⟩
           case round =>
             clear HI HO HB BA BB
             obtain ⟨m, rfl, hm, HI, HO, HB, BA, BB⟩ := hrel
             by_cases hlt : m < us.length
             · obtain ⟨wo2, rfl⟩ : ∃ wo, wo = wr := ⟨_, rfl⟩
               obtain ⟨um, hum⟩ : ∃ um, us[m]? = some um := ⟨_, List.getElem?_eq_getElem hlt⟩
               have hum' : (Value.slice Aw t478.length cw :: us)[m + 1]? = some um := hum
               obtain ⟨xm, hxm, hown⟩ := HI.out.at_ hum'
               have hL20 : xm.length ≤ 1048576 := HX.out xm (List.mem_of_getElem? (show xss[m]? = some xm from hxm))
               have HG := ym (Pool.Ghost.start HI.out hum' hxm)
               obtain ⟨Am, cm, rfl⟩ := HI.out.form hum' hxm
               obtain ⟨gk, ck', e, hcell⟩ := Pool.outer_cell HO.out hum
               cases e
               clear hown
               go_wp2
               go_loopw [18, 19] (fun gv v wr => ∃ (j : Nat), v = .int .i64 j ∧ j ≤ 20 ∧ Aside0 (Pool.Ghost 4 wr w.heap.size (.slice Aw t478.length cw :: us) (m + 1) gv (xm.length + j)) ∧ Aside0 (Pool.Inner 4 Value.bool wr w.heap.size (.slice Aw t478.length cw :: us) (t478 :: xss)) ∧ Aside0 (wr.ownsRow w.heap.size 22 1 (.slice (some ⟨gk, 0, none⟩) us.length ck) us.length us) ∧ Aside0 (Below w.heap.size w wr) ∧ Aside0 (wr.heap[gb464]? = some (.cells #[.slice A0_0 l0_0.length c0_0, .slice A0_1 l0_1.length c0_1] 25 (0, 0))) ∧ Aside0 (wr.heap[gb465]? = some (.cells #[.slice A1_0 l1_0.length c1_0, .slice A1_1 l1_1.length c1_1] 52 (0, 0)))) (fun _ v _ => 20 - (intOf v).toNat)
               case atStart => exact ⟨0, rfl, Nat.zero_le _, HG, HI, HO, HB, BA, BB⟩
               case round =>
                 clear HI HO HB HG hcell BA BB
                 obtain ⟨j, rfl, hj, HG, HI, HO, HB, BA, BB⟩ := hrel
                 by_cases hlj : j < 20
                 · obtain ⟨Ag, cg, rfl⟩ := HG.out.form
                   go_wp2_with (first
                     | ((with_reducible refine gate_builtin (b := .append) (xs := #[.tmp 97, .tmp 101]) rfl ?_); at_builtin; refine Pool.wpList_append_ghostT (W0 := w) rfl (.tmp 97) (.tmp 101) 22 rfl (.bool false) 1 Try.underlying22 info4 rfl (by omega) (fun _ => rfl) HI.out _ _ us HO.out (by decide) (m + 1) _ _ HG.out _ rfl rfl HB.out HB.out.size ?hl ?_; (case hl => omega); intro v9 w9 hi ho hg hb hs hty; have HI9 := ym hi; have HO9 := ym ho; have HG9 := ym hg; have HB9 := ym hb; have BA9 := ym (Pool.blk_ty BA.out hty (by decide)); have BB9 := ym (Pool.blk_ty BB.out hty (by decide)); clear hi ho hg hb hs hty))
                   go_roundw
                   case measure => simp only [intOf]; omega
                   case rel => exact ⟨j + 1, by simp, by omega, ⟨by simpa only [Nat.add_assoc] using HG9.out⟩, HI9, HO9, HB9, BA9, BB9⟩
                 · obtain rfl : j = 20 := by omega
                   go_wp2
                   go_roundw
                   case measure => simp only [intOf]; omega
                   case rel => exact ⟨m + 1, by simp, by omega, HI, HO, HB, BA, BB⟩
             · obtain rfl : m = us.length := by omega
               obtain ⟨wo2, rfl⟩ : ∃ wo, wo = wr := ⟨_, rfl⟩
               go_wp2
               go_loopw [20, 21] (fun v _ wr => ∃ (m : Nat), v = .int .i64 m ∧ m ≤ us.length ∧ Aside0 (Pool.Inner 4 Value.bool wr w.heap.size (.slice Aw t478.length cw :: us) (t478 :: xss)) ∧ Aside0 (wr.ownsRow w.heap.size 22 1 (.slice Ak us.length ck) us.length us) ∧ Aside0 (Below w.heap.size w wr) ∧ Aside0 (wr.heap[gb464]? = some (.cells #[.slice A0_0 l0_0.length c0_0, .slice A0_1 l0_1.length c0_1] 25 (0, 0))) ∧ Aside0 (wr.heap[gb465]? = some (.cells #[.slice A1_0 l1_0.length c1_0, .slice A1_1 l1_1.length c1_1] 52 (0, 0)))) (fun v _ _ => us.length - (intOf v).toNat)
               case atStart => exact ⟨0, rfl, Nat.zero_le _, HI, HO, HB, BA, BB⟩
               case round =>
                 clear HI HO HB BA BB
                 obtain ⟨m, rfl, hm, HI, HO, HB, BA, BB⟩ := hrel
                 by_cases hlt : m < us.length
                 · obtain ⟨wo3, rfl⟩ : ∃ wo, wo = wr := ⟨_, rfl⟩
                   obtain ⟨um, hum⟩ : ∃ um, us[m]? = some um := ⟨_, List.getElem?_eq_getElem hlt⟩
                   have hum' : (Value.slice Aw t478.length cw :: us)[m + 1]? = some um := hum
                   obtain ⟨xm, hxm, hown⟩ := HI.out.at_ hum'
                   have hL20 : xm.length ≤ 1048576 := HX.out xm (List.mem_of_getElem? (show xss[m]? = some xm from hxm))
                   obtain ⟨Am, cm, rfl⟩ := HI.out.form hum' hxm
                   obtain ⟨gk, ck', e, hcell⟩ := Pool.outer_cell HO.out hum
                   cases e
                   clear hown
                   go_wp2
                   go_loopw [21] (fun v wr => ∃ (j : Nat), v = .int .i64 j ∧ j ≤ xm.length ∧ Aside0 (Pool.Inner 4 Value.bool wr w.heap.size (.slice Aw t478.length cw :: us) (t478 :: xss)) ∧ Aside0 (wr.ownsRow w.heap.size 22 1 (.slice (some ⟨gk, 0, none⟩) us.length ck) us.length us) ∧ Aside0 (Below w.heap.size w wr) ∧ Aside0 (wr.heap[gb464]? = some (.cells #[.slice A0_0 l0_0.length c0_0, .slice A0_1 l0_1.length c0_1] 25 (0, 0))) ∧ Aside0 (wr.heap[gb465]? = some (.cells #[.slice A1_0 l1_0.length c1_0, .slice A1_1 l1_1.length c1_1] 52 (0, 0)))) (fun v _ => xm.length - (intOf v).toNat)
                   case atStart => exact ⟨0, rfl, Nat.zero_le _, HI, HO, HB, BA, BB⟩
                   case round =>
                     clear HI HO HB hcell BA BB
                     obtain ⟨j, rfl, hj, HI, HO, HB, BA, BB⟩ := hrel
                     obtain ⟨_, _, e, hcell⟩ := Pool.outer_cell HO.out hum
                     cases e
                     by_cases hlj : j < xm.length
                     · obtain ⟨g, c, e⟩ := HI.out.formed hum' hxm (by omega)
                       cases e
                       obtain ⟨hcj, hfj⟩ := HI.out.cell hxm hum' (List.getElem?_eq_getElem hlj)
                       have hv : xm[j] = gmark m := HM.out.at_ hlt (show xss[m]? = some xm from hxm) (List.getElem?_eq_getElem hlj)
                       rw [hv] at hcj
                       unfold gmark at hcj
                       go_wp2
                       go_roundw
                       case measure => simp only [intOf]; omega
                       case rel => exact ⟨j + 1, by simp, by omega, HI, HO, HB, BA, BB⟩
                     · obtain rfl : j = xm.length := by omega
                       go_wp2
                       go_roundw
                       case measure => simp only [intOf]; omega
                       case rel => exact ⟨m + 1, by simp, by omega, HI, HO, HB, BA, BB⟩
                 · obtain rfl : m = us.length := by omega
                   have HRw := ym (Kd.R_of_own (h1 := fun _ => rfl) (ok := fun _ => True) (HI.out.own 0 _ t478 rfl rfl) (fun _ _ => trivial))
                   have a0 := (yw BA.out 0).trans rfl
                   have a1 := (yw BA.out 1).trans rfl
                   have b0 := (yw BB.out 0).trans rfl
                   have b1 := (yw BB.out 1).trans rfl
                   go_wp2_with (first
                     | (go_at_call 29; refine (guide_Mask.calls k _ _ l0_0 _ _ l0_1 _ _ l1_0 _ _ l1_1 a2 t482 t485 _ (Kd.C_below HR0_0.out HB.out) HC0_0.out (Kd.C_below HR0_1.out HB.out) HC0_1.out (Kd.C_below HR1_0.out HB.out) HC1_0.out (Kd.C_below HR1_1.out HB.out) HC1_1.out A7.out).mono ?_; rintro e w6 ⟨va, rfl, ho, hb⟩; obtain ⟨Aa, ca, rfl⟩ := Kd.R_slice ho; have HRw6 := ym (yp HRw.out hb); have HRa := ym ho; have HB6 := ym (yn HB.out hb); clear ho hb)
                     | (go_at_call 14; refine (heraldlaw15_awake.calls k true _ A11.out).mono ?_; rintro e w7 ⟨rfl, hb⟩; have HRw7 := ym (yp HRw6.out hb); have HRa7 := ym (yp HRa.out hb); have HB7 := ym (yn HB6.out hb); clear hb)
                     | (go_at_call 23; refine (heraldlaw15_truths.calls k _ _ t482 _ _ t478 true _ (Kd.R_reads' HRa7.out).2.2 (Kd.R_reads' HRa7.out).2.1 (Kd.R_reads' HRw7.out).2.2 (Kd.R_reads' HRw7.out).2.1 A9.out).mono ?_; rintro e w8 ⟨rfl, hd⟩; have HB8 := ym (yn HB7.out hd.below); clear hd))
                   go_ret
                   exact ⟨rfl, HB8.out⟩
  replace c12 := Bool.eq_false_iff.mpr c12
  subst c12
  have H1 : (none) = some r := by rw [if_neg (show ¬ (false = true) by decide)] at H; exact H
  clear H
  have H := H1
  clear H1
  exact absurd H (by simp)
 replace c10 := Bool.eq_false_iff.mpr c10
 subst c10
 have H1 : (none) = some r := by rw [if_neg (show ¬ (false = true) by decide)] at H; exact H
 clear H
 have H := H1
 clear H1
 exact absurd H (by simp)

end Go.Proofs.Ytfjpnmhbbfiaaaa.P
