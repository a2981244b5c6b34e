-- Printed by xprint.py (wip): functions, contracts, rows. Lean checks it.
import Derived.Test.YtfjpnmhbbfiaaaaPx0
import Derived.Test.YtfjpnmhbbfiaaaaPx1
import Derived.Test.YtfjpnmhbbfiaaaaPx6
import Derived.Test.YtfjpnmhbbfiaaaaPx7
import Derived.Test.YtfjpnmhbbfiaaaaPx9
import Derived.Test.YtfjpnmhbbfiaaaaPx14
import Derived.Test.YtfjpnmhbbfiaaaaPx15
namespace Go.Proofs.Ytfjpnmhbbfiaaaa.P
open Go.RowKit Go.Proofs.YtfjpnmhbbfiaaaaW.PrintWords Go.Proofs.YtfjpnmhbbfiaaaaW.PrintLast Go.Proofs.YtfjpnmhbbfiaaaaW.PrintMore
attribute [local go_sem] max2_int min2_int max_two min_two max_three min_three max_four min_four   -- for this text's walks alone
set_option linter.unusedVariables false
set_option linter.unusedSimpArgs false

/-! ### heraldlaw15_GuideWalks: function 3 -/
def heraldlaw15_GuideWalks.f (k : Nat) (l0_0 : List Bool) (l0_1 : List (S92)) (a1 : Int) (a2 : ByteArray) : Option (Bool) := (heraldlaw15_given.f k l0_0 l0_1).bind fun bt239 => ((heraldlaw15_awake.f k).bind fun t246 => (if t246 = true then ((guide_Walk.f k l0_0 l0_1 a1 a2).bind fun t247 => ((heraldref15_Walk.f k bt239.1 bt239.2 a1 a2).bind fun t248 => (if t247 = t248 then ((guide_Accepts.f k l0_0 l0_1 a2).bind fun t249 => ((heraldref15_Accepts.f k bt239.1 bt239.2 a2).bind fun t250 => (some (t249 == t250)))) else (some false)))) else (some false)))
theorem heraldlaw15_GuideWalks.mono : ∀ a0 a1 a2 a3 k, LeO (heraldlaw15_GuideWalks.f k a0 a1 a2 a3) (heraldlaw15_GuideWalks.f (k + 1) a0 a1 a2 a3) := by
  intro a0 a1 a2 a3 k
  unfold heraldlaw15_GuideWalks.f
  repeat' first
      | (with_reducible exact guide_Accepts.mono _ _ _ _)
      | (with_reducible exact guide_Walk.mono _ _ _ _ _)
      | (with_reducible exact heraldlaw15_awake.mono _)
      | (with_reducible exact heraldlaw15_given.mono _ _ _)
      | (with_reducible exact heraldref15_Accepts.mono _ _ _ _)
      | (with_reducible exact heraldref15_Walk.mono _ _ _ _ _)
      | (with_reducible exact LeO.refl _)
      | (with_reducible exact LeO.none _)
      | (with_reducible refine LeO.ite ?_ ?_)
      | (with_reducible refine LeO.bind ?_ (fun _ => ?_))
      | exact guide_Accepts.mono _ _ _ _
      | exact guide_Walk.mono _ _ _ _ _
      | exact heraldlaw15_awake.mono _
      | exact heraldlaw15_given.mono _ _ _
      | exact heraldref15_Accepts.mono _ _ _ _
      | exact heraldref15_Walk.mono _ _ _ _ _
      | exact LeO.none _
      | refine LeO.ite ?_ ?_
      | refine LeO.bind ?_ (fun _ => ?_)
def heraldlaw15_GuideWalks.T2 : Bool × List (List Nat × List Nat) := (true, [([], []), ([0, 0], [0]), ([1], [1]), ([1], [1]), ([1], [1]), ([2, 3, 4, 1, 1], [1, 2, 3, 4]), ([1], [1]), ([1], [1]), ([1], [1]), ([6, 7, 8, 5, 1], [1, 6, 7, 8]), ([5, 9, 1], [1, 5, 9]), ([1, 10], [1, 10]), ([11, 9], [11]), ([12], [12]), ([12], [12]), ([13, 14, 12, 12], [12, 13, 14]), ([12], [12]), ([12], [12]), ([16, 17, 15, 12], [12, 16, 17]), ([15, 18, 12], [12, 15, 18]), ([12, 19], [12, 19]), ([20, 18, 0, 1, 2, 3, 4, 5, 6, 7, 8, 9, 10, 11, 12, 13, 14, 15, 16, 17, 18, 19, 20], [20])])
def heraldlaw15_GuideWalks.B2 : List Nat := [0, 1, 3, 3, 3, 31, 3, 3, 3, 511, 1023, 2047, 4095, 8191, 8191, 32767, 8191, 8191, 262143, 524287, 1048575, 2097151]
theorem heraldlaw15_GuideWalks.tab2 : rtab .any (opsOf Try.f3 2) = heraldlaw15_GuideWalks.T2 := by kernel_rfl
theorem heraldlaw15_GuideWalks.bits2 : waitsOk heraldlaw15_GuideWalks.T2.2 heraldlaw15_GuideWalks.B2 = true := by kernel_rfl
set_option maxHeartbeats 8000000 in
set_option maxRecDepth 100000 in
theorem heraldlaw15_GuideWalks.calls (k : Nat) (A0_0 : Option Addr) (c0_0 : Nat) (l0_0 : List Bool) (A0_1 : Option Addr) (c0_1 : Nat) (l0_1 : List (S92)) (a1 : Int) (a2 : ByteArray) (r : Bool) (w : World) (hr0_0 : Kd.C Kd.bool w A0_0 l0_0.length l0_0) (hc0_0 : l0_0.length ≤ c0_0) (hr0_1 : Kd.C k92 w A0_1 l0_1.length l0_1) (hc0_1 : l0_1.length ≤ c0_1) (h : heraldlaw15_GuideWalks.f k l0_0 l0_1 a1 a2 = some r) :
    Calls Try.prog 3 #[.agg #[.slice A0_0 l0_0.length c0_0, .slice A0_1 l0_1.length c0_1], .int .i64 a1, .string a2] w fun e w' => e = .returned (.bool r) ∧ Below w.heap.size w w' := by
 have hu25 := Try.underlying25
 have hu28 := Try.underlying28
 have HR0_0 := ym hr0_0
 have HC0_0 := ym hc0_0
 clear hr0_0 hc0_0
 have HR0_1 := ym hr0_1
 have HC0_1 := ym hc0_1
 clear hr0_1 hc0_1
 have HB := ym (Below.refl w.heap.size w)
 have H : ((heraldlaw15_given.f k l0_0 l0_1).bind fun bt239 => ((heraldlaw15_awake.f k).bind fun t246 => (if t246 = true then ((guide_Walk.f k l0_0 l0_1 a1 a2).bind fun t247 => ((heraldref15_Walk.f k bt239.1 bt239.2 a1 a2).bind fun t248 => (if t247 = t248 then ((guide_Accepts.f k l0_0 l0_1 a2).bind fun t249 => ((heraldref15_Accepts.f k bt239.1 bt239.2 a2).bind fun t250 => (some (t249 == t250)))) else (some false)))) else (some false)))) = some r := h
 clear h
 replace H := Option.bind_eq_some_iff.mp H
 obtain ⟨⟨t239, t242⟩, A40, H⟩ := H
 replace H : ((heraldlaw15_awake.f k).bind fun t246 => (if t246 = true then ((guide_Walk.f k l0_0 l0_1 a1 a2).bind fun t247 => ((heraldref15_Walk.f k t239 t242 a1 a2).bind fun t248 => (if t247 = t248 then ((guide_Accepts.f k l0_0 l0_1 a2).bind fun t249 => ((heraldref15_Accepts.f k t239 t242 a2).bind fun t250 => (some (t249 == t250)))) else (some false)))) else (some false))) = some r := H
 have A4 := ym A40
 clear A40
 replace H := Option.bind_eq_some_iff.mp H
 obtain ⟨t246, A50, H⟩ := H
 replace H : (if t246 = true then ((guide_Walk.f k l0_0 l0_1 a1 a2).bind fun t247 => ((heraldref15_Walk.f k t239 t242 a1 a2).bind fun t248 => (if t247 = t248 then ((guide_Accepts.f k l0_0 l0_1 a2).bind fun t249 => ((heraldref15_Accepts.f k t239 t242 a2).bind fun t250 => (some (t249 == t250)))) else (some false)))) else (some false)) = some r := H
 have A5 := ym A50
 clear A50
 by_cases c6 : t246 = true
 ·
  subst c6
  have H1 : ((guide_Walk.f k l0_0 l0_1 a1 a2).bind fun t247 => ((heraldref15_Walk.f k t239 t242 a1 a2).bind fun t248 => (if t247 = t248 then ((guide_Accepts.f k l0_0 l0_1 a2).bind fun t249 => ((heraldref15_Accepts.f k t239 t242 a2).bind fun t250 => (some (t249 == t250)))) else (some false)))) = some r := by rw [if_pos rfl] at H; exact H
  clear H
  have H := H1
  clear H1
  replace H := Option.bind_eq_some_iff.mp H
  obtain ⟨t247, A70, H⟩ := H
  replace H : ((heraldref15_Walk.f k t239 t242 a1 a2).bind fun t248 => (if t247 = t248 then ((guide_Accepts.f k l0_0 l0_1 a2).bind fun t249 => ((heraldref15_Accepts.f k t239 t242 a2).bind fun t250 => (some (t249 == t250)))) else (some false))) = some r := H
  have A7 := ym A70
  clear A70
  replace H := Option.bind_eq_some_iff.mp H
  obtain ⟨t248, A80, H⟩ := H
  replace H : (if t247 = t248 then ((guide_Accepts.f k l0_0 l0_1 a2).bind fun t249 => ((heraldref15_Accepts.f k t239 t242 a2).bind fun t250 => (some (t249 == t250)))) else (some false)) = some r := H
  have A8 := ym A80
  clear A80
  by_cases c9 : t247 = t248
  ·
   rw [if_pos c9] at H
   have c9b0 : (t247 == t248) = true := beq_iff_eq.mpr c9
   have c9b1 : (t247 != t248) = false := bne_eq_false_iff_eq.mpr c9
   clear c9
   replace H := Option.bind_eq_some_iff.mp H
   obtain ⟨t249, A100, H⟩ := H
   replace H : ((heraldref15_Accepts.f k t239 t242 a2).bind fun t250 => (some (t249 == t250))) = some r := H
   have A10 := ym A100
   clear A100
   replace H := Option.bind_eq_some_iff.mp H
   obtain ⟨t250, A110, H⟩ := H
   replace H : (some (t249 == t250)) = some r := H
   have A11 := ym A110
   clear A110
   obtain rfl := Option.some.inj H
   go_enter Try.func3, Try.ntmps3
   try go_wp2_with (first | ((with_reducible refine gate_dst (N := 3) rfl ?_); refine box_event ?hg (N := 3) ?hd (cs := #[.slice A0_0 l0_0.length c0_0, .slice A0_1 l0_1.length c0_1]) (t := 25) ?hr ?_; (case hd => rfl); (case hg => rfl); (case hr => first | (go_simp; done) | (go_simp; rfl)); intro gb238 hg w12 hbox hb; have n0_ := ym (yn (by repeat (first | (with_reducible first | exact HB.out | apply ya | apply yd | apply ye) | exact HB.out)) hb); have n1_ := ym (hbox); have n2_ := ym ((by rw [hg]; exact (below_size (by repeat (first | (with_reducible first | exact HB.out | apply ya | apply yd | apply ye) | exact HB.out))) : w.heap.size ≤ gb238)); have n3_ := n2_; clear HB; have HB := n0_; have BK238 := n1_; have GW238 := n2_; have GE238 := n3_; clear n0_ n1_ n2_ n3_; clear hb hbox hg; have hcz13_0 : w12.cell? ⟨gb238, 0, none⟩ = some (.slice A0_0 l0_0.length c0_0) := (yw BK238.out 0).trans rfl; have hcz13_1 : w12.cell? ⟨gb238, 1, none⟩ = some (.slice A0_1 l0_1.length c0_1) := (yw BK238.out 1).trans rfl; have hfz13_0 := yv BK238.out 0; have hfz13_1 := yv BK238.out 1) | ((with_reducible refine gate_callee (f := 13) rfl ?_); refine goesL_ (some 9) rfl rfl Try.func13 (by kernel_rfl) rfl #[.agg #[.slice A0_0 l0_0.length c0_0, .slice A0_1 l0_1.length c0_1]] rfl (by (try simp only [List.map_toArray, List.map_cons, List.map_nil]); first | done | rfl | (simp only [List.length_drop, List.length_take]; rfl)) ?_; (with_reducible refine (heraldlaw15_given.calls k _ _ l0_0 _ _ l0_1 t239 t242 _ ?side1 ?side2 ?side3 ?side4 A4.out).mono ?_); (case side1 => repeat (first | exact (Kd.C_below HR0_0.out HB.out) | (with_reducible refine yi ?_ _) | (with_reducible refine yj ?_ _) | (with_reducible refine yk ?_))); (case side2 => exact HC0_0.out); (case side3 => repeat (first | exact (Kd.C_below HR0_1.out HB.out) | (with_reducible refine yi ?_ _) | (with_reducible refine yj ?_ _) | (with_reducible refine yk ?_))); (case side4 => exact HC0_1.out); rintro e w14 ⟨v240, v243, rfl, ho0, ho1, hb⟩; refine ⟨_, rfl, ?_⟩; have n0_ := ym (yo ho0 (below_size (by repeat (first | (with_reducible first | exact HB.out | apply ya | apply yd | apply ye | refine ys ?_ GE238.out) | exact HB.out)))); have n1_ := ym (yo ho1 (below_size (by repeat (first | (with_reducible first | exact HB.out | apply ya | apply yd | apply ye | refine ys ?_ GE238.out) | exact HB.out)))); have n2_ := ym (yq (g := gb238) (o := .cells #[.slice A0_0 l0_0.length c0_0, .slice A0_1 l0_1.length c0_1] 25 (0, 0)) (by (with_reducible repeat (first | refine yr ?_ _ | refine yt ?_ | refine yu ?_ _)); exact BK238.out) hb); have n3_ := ym (yn (by repeat (first | (with_reducible first | exact HB.out | apply ya | apply yd | apply ye | refine ys ?_ GE238.out) | exact HB.out)) hb); clear BK238; clear HB; have HO241 := n0_; have HO244 := n1_; have BK238 := n2_; have HB := n3_; clear n0_ n1_ n2_ n3_; (try clear hb); (try clear hb2); (try clear hk); (try clear hi); (try clear ho0); (try clear ho1)) | ((with_reducible refine gate_dst (N := 7) rfl ?_); refine box_event ?hg (N := 7) ?hd (cs := #[.slice none 0 0, .slice none 0 0]) (t := 28) ?hr ?_; (case hd => rfl); (case hg => rfl); (case hr => first | (go_simp; done) | (go_simp; rfl)); intro gb245 hg w15 hbox hb; have n0_ := ym (yp (by (with_reducible repeat (first | apply yf | apply yg | apply yh)); exact HO241.out) hb); have n1_ := ym (yp (by (with_reducible repeat (first | apply yf | apply yg | apply yh)); exact HO244.out) hb); have n2_ := ym (yq (g := gb238) (o := .cells #[.slice A0_0 l0_0.length c0_0, .slice A0_1 l0_1.length c0_1] 25 (0, 0)) (by (with_reducible repeat (first | refine yr ?_ _ | refine yt ?_ | refine yu ?_ _)); exact BK238.out) hb); have n3_ := ym (yn (by repeat (first | (with_reducible first | exact HB.out | apply ya | apply yd | apply ye | refine ys ?_ GE238.out) | exact HB.out)) hb); have n4_ := ym (hbox); have n5_ := ym ((by rw [hg]; exact (below_size (by repeat (first | (with_reducible first | exact HB.out | apply ya | apply yd | apply ye | refine ys ?_ GE238.out) | exact HB.out))) : w.heap.size ≤ gb245)); have n6_ := n5_; have n7_ := ym ((by rw [hg]; exact Nat.ne_of_lt (blk_lt (g := gb238) (o := .cells #[.slice A0_0 l0_0.length c0_0, .slice A0_1 l0_1.length c0_1] 25 (0, 0)) (by (with_reducible repeat (first | refine yr ?_ _ | refine yt ?_ | refine yu ?_ _)); exact BK238.out)) : gb238 ≠ gb245)); have n8_ := ym ((by rw [hg]; exact Nat.ne_of_gt (blk_lt (g := gb238) (o := .cells #[.slice A0_0 l0_0.length c0_0, .slice A0_1 l0_1.length c0_1] 25 (0, 0)) (by (with_reducible repeat (first | refine yr ?_ _ | refine yt ?_ | refine yu ?_ _)); exact BK238.out)) : gb245 ≠ gb238)); clear HO241; clear HO244; clear BK238; clear HB; have HO241 := n0_; have HO244 := n1_; have BK238 := n2_; have HB := n3_; have BK245 := n4_; have GW245 := n5_; have GE245 := n6_; have NB238_245 := n7_; have NB245_238 := n8_; clear n0_ n1_ n2_ n3_ n4_ n5_ n6_ n7_ n8_; clear hb hbox hg; obtain ⟨Ao16, co16, eo16⟩ := Kd.R_slice HO241.out; subst eo16; have hnb17 := NB245_238.out; have hnc17 := NB238_245.out; have hcz18_0 : w15.cell? ⟨gb245, 0, none⟩ = some (.slice none 0 0) := (yw BK245.out 0).trans rfl; have hcz18_1 : w15.cell? ⟨gb245, 1, none⟩ = some (.slice none 0 0) := (yw BK245.out 1).trans rfl; have hfz18_0 := yv BK245.out 0; have hfz18_1 := yv BK245.out 1; obtain ⟨Ao19, co19, eo19⟩ := Kd.R_slice HO244.out; subst eo19))
   have n0_ : Aside0 (Kd.R Kd.bool 4 ((w15.setCell ⟨gb245, 0, none⟩ (.slice Ao16 t239.length co16)).setCell ⟨gb245, 1, none⟩ (.slice Ao19 t242.length co19)) w.heap.size (fun _ => True) (.slice Ao16 t239.length co16) t239) := ⟨by (with_reducible repeat (first | apply yf | apply yg | apply yh)); exact Kd.R_mono (Kd.R_far (p := ⟨gb245, 1, none⟩) (Kd.R_far (p := ⟨gb245, 0, none⟩) (Kd.R_types HO241.out BK245.out (by decide)) (fun _ hk => hk.2) (.slice Ao16 t239.length co16)) (fun _ hk => hk.2) (.slice Ao19 t242.length co19)) (fun _ hk => trivial)⟩
   have n1_ : Aside0 (Kd.R k93 93 ((w15.setCell ⟨gb245, 0, none⟩ (.slice Ao16 t239.length co16)).setCell ⟨gb245, 1, none⟩ (.slice Ao19 t242.length co19)) w.heap.size (fun _ => True) (.slice Ao19 t242.length co19) t242) := ⟨by (with_reducible repeat (first | apply yf | apply yg | apply yh)); exact Kd.R_mono (Kd.R_far (p := ⟨gb245, 1, none⟩) (Kd.R_far (p := ⟨gb245, 0, none⟩) (Kd.R_types HO244.out BK245.out (by decide)) (fun _ hk => hk.2) (.slice Ao16 t239.length co16)) (fun _ hk => hk.2) (.slice Ao19 t242.length co19)) (fun _ hk => trivial)⟩
   have n2_ : Aside0 (((w15.setCell ⟨gb245, 0, none⟩ (.slice Ao16 t239.length co16)).setCell ⟨gb245, 1, none⟩ (.slice Ao19 t242.length co19)).heap[gb238]? = some (.cells #[.slice A0_0 l0_0.length c0_0, .slice A0_1 l0_1.length c0_1] 25 (0, 0))) := ⟨by (with_reducible repeat (first | refine yr ?_ _ | refine yt ?_ | refine yu ?_ _)); refine yx ?_ NB238_245.out _; (with_reducible repeat (first | refine yr ?_ _ | refine yt ?_ | refine yu ?_ _)); refine yx ?_ NB238_245.out _; (with_reducible repeat (first | refine yr ?_ _ | refine yt ?_ | refine yu ?_ _)); exact BK238.out⟩
   have n3_ : Aside0 (((w15.setCell ⟨gb245, 0, none⟩ (.slice Ao16 t239.length co16)).setCell ⟨gb245, 1, none⟩ (.slice Ao19 t242.length co19)).heap[gb245]? = some (.cells #[.slice Ao16 t239.length co16, .slice Ao19 t242.length co19] 28 (0, 0))) := ⟨by (with_reducible repeat (first | refine yr ?_ _ | refine yt ?_ | refine yu ?_ _)); refine yy (cs := #[.slice Ao16 t239.length co16, .slice none 0 0]) ?_ 1 _ rfl; (with_reducible repeat (first | refine yr ?_ _ | refine yt ?_ | refine yu ?_ _)); refine yy (cs := #[.slice none 0 0, .slice none 0 0]) ?_ 0 _ rfl; (with_reducible repeat (first | refine yr ?_ _ | refine yt ?_ | refine yu ?_ _)); exact BK245.out⟩
   have n4_ : Aside0 (Below w.heap.size w ((w15.setCell ⟨gb245, 0, none⟩ (.slice Ao16 t239.length co16)).setCell ⟨gb245, 1, none⟩ (.slice Ao19 t242.length co19))) := ⟨by repeat (first | (with_reducible first | exact HB.out | apply ya | apply yd | apply ye | refine ys ?_ GE238.out | refine ys ?_ GE245.out) | exact HB.out)⟩
   (try clear HO241)
   (try clear HO244)
   (try clear BK238)
   (try clear BK245)
   (try clear HB)
   generalize ((w15.setCell ⟨gb245, 0, none⟩ (.slice Ao16 t239.length co16)).setCell ⟨gb245, 1, none⟩ (.slice Ao19 t242.length co19)) = w20 at n0_ n1_ n2_ n3_ n4_ ⊢
   have HO241 := n0_
   have HO244 := n1_
   have BK238 := n2_
   have BK245 := n3_
   have HB := n4_
   clear n0_ n1_ n2_ n3_ n4_
   have n0_ := ym (yh HO241.out)
   have n1_ := ym (yh HO244.out)
   have n2_ := ym (yt BK238.out)
   have n3_ := ym (yt BK245.out)
   have n4_ := ym (ye HB.out)
   clear HO241
   clear HO244
   clear BK238
   clear BK245
   clear HB
   have HO241 := n0_
   have HO244 := n1_
   have BK238 := n2_
   have BK245 := n3_
   have HB := n4_
   clear n0_ n1_ n2_ n3_ n4_
   refine start_ (n := 22) (S := fun w' => w'.cell? ⟨gb238, 0, none⟩ = some (.slice A0_0 l0_0.length c0_0) ∧ w'.cell? ⟨gb238, 1, none⟩ = some (.slice A0_1 l0_1.length c0_1) ∧ w'.cell? ⟨gb245, 0, none⟩ = some (.slice Ao16 t239.length co16) ∧ w'.cell? ⟨gb245, 1, none⟩ = some (.slice Ao19 t242.length co19)) (ds := []) #[false, false, false, false, false, false, false, false, false, false, false, false, false, false, false, false, false, false, false, false, false, false] (by kernel_rfl) rfl rfl ⟨(yw BK238.out 0).trans rfl, (yw BK238.out 1).trans rfl, (yw BK245.out 0).trans rfl, (yw BK245.out 1).trans rfl⟩ (fun hHeld => ?_); refine with_tabW heraldlaw15_GuideWalks.tab2 heraldlaw15_GuideWalks.bits2 (fun HT_ HW_ => ?_)
   generalize w20.drew = w21 at HO241 HO244 BK238 BK245 HB hHeld ⊢
   refine one_ (i := 0) (N := some 10) #[true, false, false, false, false, false, false, false, false, false, false, false, false, false, false, false, false, false, false, false, false, false] rfl rfl (one_of HT_.out (by kernel_rfl)) (by decide) (fun K hK => ?_)
   refine goes_ Try.func14 (by kernel_rfl) rfl #[] (by rfl) rfl rfl (by (try simp only [List.map_toArray, List.map_cons, List.map_nil]); first | done | rfl | (simp only [List.length_drop, List.length_take]; rfl)) ?_
   with_reducible refine (heraldlaw15_awake.calls k  true _ A5.out).mono ?_
   rintro e w22 ⟨rfl, hb⟩
   refine ⟨_, rfl, ?_⟩
   have n0_ := ym (yp (by (with_reducible repeat (first | apply yf | apply yg | apply yh)); exact HO241.out) hb)
   have n1_ := ym (yp (by (with_reducible repeat (first | apply yf | apply yg | apply yh)); exact HO244.out) hb)
   have n2_ := ym (yq (g := gb238) (o := .cells #[.slice A0_0 l0_0.length c0_0, .slice A0_1 l0_1.length c0_1] 25 (0, 0)) (by (with_reducible repeat (first | refine yr ?_ _ | refine yt ?_ | refine yu ?_ _)); exact BK238.out) hb)
   have n3_ := ym (yq (g := gb245) (o := .cells #[.slice Ao16 t239.length co16, .slice Ao19 t242.length co19] 28 (0, 0)) (by (with_reducible repeat (first | refine yr ?_ _ | refine yt ?_ | refine yu ?_ _)); exact BK245.out) hb)
   have n4_ := ym (yn (by repeat (first | (with_reducible first | exact HB.out | apply ya | apply yd | apply ye | refine ys ?_ GE238.out | refine ys ?_ GE245.out) | exact HB.out)) hb)
   clear HO241
   clear HO244
   clear BK238
   clear BK245
   clear HB
   have HO241 := n0_
   have HO244 := n1_
   have BK238 := n2_
   have BK245 := n3_
   have HB := n4_
   clear n0_ n1_ n2_ n3_ n4_
   (try clear hb)
   (try clear hb2)
   (try clear hk)
   (try clear hi)
   refine hK.out _ _ ⟨(yw BK238.out 0).trans rfl, (yw BK238.out 1).trans rfl, (yw BK245.out 0).trans rfl, (yw BK245.out 1).trans rfl⟩ (fun hHeld => ?_)
   clear hK K
   refine norm_ (a' := ?_) ?_ ?_
   rotate_left
   ·
    show Act.put _ (some 10) _ = _
    simp only [Act.put, List.setIfInBounds_toArray, List.set_cons_zero, List.set_cons_succ, i64_w, i32_w]
    rfl
   refine pure_ (i := 1) (N := some 11) (v := ?_) (a' := ?_) #[true, true, false, false, false, false, false, false, false, false, false, false, false, false, false, false, false, false, false, false, false, false] rfl rfl (any_of HT_.out (by kernel_rfl)) (fun _ _ _ h => h) (Or.inl ⟨by rfl, ?_⟩) ?_ ?_
   rotate_left
   ·
    intro w'
    go_simp
    with_reducible rfl
   rotate_left
   ·
    simp only [Act.put, List.setIfInBounds_toArray, List.set_cons_zero, List.set_cons_succ, i64_w, i32_w]
    rfl
   refine pure_ (i := 3) (N := some 13) (v := ?_) (a' := ?_) #[true, true, false, true, false, false, false, false, false, false, false, false, false, false, false, false, false, false, false, false, false, false] rfl rfl (any_of HT_.out (by kernel_rfl)) (fun _ _ _ h => h) (Or.inl ⟨by rfl, ?_⟩) ?_ ?_
   rotate_left
   ·
    intro w'
    go_simp
    with_reducible rfl
   rotate_left
   ·
    simp only [Act.put, List.setIfInBounds_toArray, List.set_cons_zero, List.set_cons_succ, i64_w, i32_w]
    rfl
   refine pure_ (i := 4) (N := some 14) (v := ?_) (a' := ?_) #[true, true, false, true, true, false, false, false, false, false, false, false, false, false, false, false, false, false, false, false, false, false] rfl rfl (any_of HT_.out (by kernel_rfl)) (fun _ _ _ h => h) (Or.inl ⟨by rfl, ?_⟩) ?_ ?_
   rotate_left
   ·
    intro w'
    go_simp
    with_reducible rfl
   rotate_left
   ·
    simp only [Act.put, List.setIfInBounds_toArray, List.set_cons_zero, List.set_cons_succ, i64_w, i32_w]
    rfl
   refine pure_ (i := 7) (N := some 17) (v := ?_) (a' := ?_) #[true, true, false, true, true, false, false, true, false, false, false, false, false, false, false, false, false, false, false, false, false, false] rfl rfl (any_of HT_.out (by kernel_rfl)) (fun _ _ _ h => h) (Or.inl ⟨by rfl, ?_⟩) ?_ ?_
   rotate_left
   ·
    intro w'
    go_simp
    with_reducible rfl
   rotate_left
   ·
    simp only [Act.put, List.setIfInBounds_toArray, List.set_cons_zero, List.set_cons_succ, i64_w, i32_w]
    rfl
   refine pure_ (i := 8) (N := some 18) (v := ?_) (a' := ?_) #[true, true, false, true, true, false, false, true, true, false, false, false, false, false, false, false, false, false, false, false, false, false] rfl rfl (any_of HT_.out (by kernel_rfl)) (fun _ _ _ h => h) (Or.inl ⟨by rfl, ?_⟩) ?_ ?_
   rotate_left
   ·
    intro w'
    go_simp
    with_reducible rfl
   rotate_left
   ·
    simp only [Act.put, List.setIfInBounds_toArray, List.set_cons_zero, List.set_cons_succ, i64_w, i32_w]
    rfl
   refine take_ (i := 2) (N := some 12) (v := ?_) (a' := ?_) #[true, true, true, true, true, false, false, true, true, false, false, false, false, false, false, false, false, false, false, false, false, false] rfl rfl (take_ofW HT_.out HW_.out (by kernel_rfl)) (fun _ _ _ h => h) (Or.inl ⟨by rfl, ?_⟩) hHeld ?_ ?_
   rotate_left
   ·
    rintro w' ⟨s0, s1, s2, s3⟩
    go_simp
    with_reducible rfl
   rotate_left
   ·
    simp only [Act.put, List.setIfInBounds_toArray, List.set_cons_zero, List.set_cons_succ, i64_w, i32_w]
    rfl
   refine take_ (i := 6) (N := some 16) (v := ?_) (a' := ?_) #[true, true, true, true, true, false, true, true, true, false, false, false, false, false, false, false, false, false, false, false, false, false] rfl rfl (take_ofW HT_.out HW_.out (by kernel_rfl)) (fun _ _ _ h => h) (Or.inl ⟨by rfl, ?_⟩) hHeld ?_ ?_
   rotate_left
   ·
    rintro w' ⟨s0, s1, s2, s3⟩
    go_simp
    with_reducible rfl
   rotate_left
   ·
    simp only [Act.put, List.setIfInBounds_toArray, List.set_cons_zero, List.set_cons_succ, i64_w, i32_w]
    rfl
   refine one_ (i := 5) (N := some 15) #[true, true, true, true, true, true, true, true, true, false, false, false, false, false, false, false, false, false, false, false, false, false] rfl rfl (one_of HT_.out (by kernel_rfl)) (by decide) (fun K hK => ?_)
   refine goes_ Try.func15 (by kernel_rfl) rfl #[.agg #[.slice A0_0 l0_0.length c0_0, .slice A0_1 l0_1.length c0_1], .int .i64 a1, .string a2] (by rfl) rfl rfl (by (try simp only [List.map_toArray, List.map_cons, List.map_nil]); first | done | rfl | (simp only [List.length_drop, List.length_take]; rfl)) ?_
   with_reducible refine (guide_Walk.calls k _ _ l0_0 _ _ l0_1 a1 a2 t247 _ ?side1 ?side2 ?side3 ?side4 A7.out).mono ?_
   (case side1 => repeat (first | exact (Kd.C_below HR0_0.out HB.out) | (with_reducible refine yi ?_ _) | (with_reducible refine yj ?_ _) | (with_reducible refine yk ?_)))
   (case side2 => exact HC0_0.out)
   (case side3 => repeat (first | exact (Kd.C_below HR0_1.out HB.out) | (with_reducible refine yi ?_ _) | (with_reducible refine yj ?_ _) | (with_reducible refine yk ?_)))
   (case side4 => exact HC0_1.out)
   rintro e w23 ⟨rfl, hb⟩
   refine ⟨_, rfl, ?_⟩
   have n0_ := ym (yp (by (with_reducible repeat (first | apply yf | apply yg | apply yh)); exact HO241.out) hb)
   have n1_ := ym (yp (by (with_reducible repeat (first | apply yf | apply yg | apply yh)); exact HO244.out) hb)
   have n2_ := ym (yq (g := gb238) (o := .cells #[.slice A0_0 l0_0.length c0_0, .slice A0_1 l0_1.length c0_1] 25 (0, 0)) (by (with_reducible repeat (first | refine yr ?_ _ | refine yt ?_ | refine yu ?_ _)); exact BK238.out) hb)
   have n3_ := ym (yq (g := gb245) (o := .cells #[.slice Ao16 t239.length co16, .slice Ao19 t242.length co19] 28 (0, 0)) (by (with_reducible repeat (first | refine yr ?_ _ | refine yt ?_ | refine yu ?_ _)); exact BK245.out) hb)
   have n4_ := ym (yn (by repeat (first | (with_reducible first | exact HB.out | apply ya | apply yd | apply ye | refine ys ?_ GE238.out | refine ys ?_ GE245.out) | exact HB.out)) hb)
   clear HO241
   clear HO244
   clear BK238
   clear BK245
   clear HB
   have HO241 := n0_
   have HO244 := n1_
   have BK238 := n2_
   have BK245 := n3_
   have HB := n4_
   clear n0_ n1_ n2_ n3_ n4_
   (try clear hb)
   (try clear hb2)
   (try clear hk)
   (try clear hi)
   refine hK.out _ _ ⟨(yw BK238.out 0).trans rfl, (yw BK238.out 1).trans rfl, (yw BK245.out 0).trans rfl, (yw BK245.out 1).trans rfl⟩ (fun hHeld => ?_)
   clear hK K
   refine norm_ (a' := ?_) ?_ ?_
   rotate_left
   ·
    show Act.put _ (some 15) _ = _
    simp only [Act.put, List.setIfInBounds_toArray, List.set_cons_zero, List.set_cons_succ, i64_w, i32_w]
    rfl
   refine one_ (i := 9) (N := some 19) #[true, true, true, true, true, true, true, true, true, true, false, false, false, false, false, false, false, false, false, false, false, false] rfl rfl (one_of HT_.out (by kernel_rfl)) (by decide) (fun K hK => ?_)
   refine goes_ Try.func16 (by kernel_rfl) rfl #[.agg #[.slice Ao16 t239.length co16, .slice Ao19 t242.length co19], .int .i64 a1, .string a2] (by rfl) rfl rfl (by (try simp only [List.map_toArray, List.map_cons, List.map_nil]); first | done | rfl | (simp only [List.length_drop, List.length_take]; rfl)) ?_
   with_reducible refine (heraldref15_Walk.calls k _ _ t239 _ _ t242 a1 a2 t248 _ ?side1 ?side2 ?side3 ?side4 A8.out).mono ?_
   (case side1 => repeat (first | exact (Kd.R_reads' HO241.out).2.2 | (with_reducible refine yi ?_ _) | (with_reducible refine yj ?_ _) | (with_reducible refine yk ?_)))
   (case side2 => exact (Kd.R_reads' HO241.out).2.1)
   (case side3 => repeat (first | exact (Kd.R_reads' HO244.out).2.2 | (with_reducible refine yi ?_ _) | (with_reducible refine yj ?_ _) | (with_reducible refine yk ?_)))
   (case side4 => exact (Kd.R_reads' HO244.out).2.1)
   rintro e w24 ⟨rfl, hb⟩
   refine ⟨_, rfl, ?_⟩
   have n0_ := ym (yp (by (with_reducible repeat (first | apply yf | apply yg | apply yh)); exact HO241.out) hb)
   have n1_ := ym (yp (by (with_reducible repeat (first | apply yf | apply yg | apply yh)); exact HO244.out) hb)
   have n2_ := ym (yq (g := gb238) (o := .cells #[.slice A0_0 l0_0.length c0_0, .slice A0_1 l0_1.length c0_1] 25 (0, 0)) (by (with_reducible repeat (first | refine yr ?_ _ | refine yt ?_ | refine yu ?_ _)); exact BK238.out) hb)
   have n3_ := ym (yq (g := gb245) (o := .cells #[.slice Ao16 t239.length co16, .slice Ao19 t242.length co19] 28 (0, 0)) (by (with_reducible repeat (first | refine yr ?_ _ | refine yt ?_ | refine yu ?_ _)); exact BK245.out) hb)
   have n4_ := ym (yn (by repeat (first | (with_reducible first | exact HB.out | apply ya | apply yd | apply ye | refine ys ?_ GE238.out | refine ys ?_ GE245.out) | exact HB.out)) hb)
   clear HO241
   clear HO244
   clear BK238
   clear BK245
   clear HB
   have HO241 := n0_
   have HO244 := n1_
   have BK238 := n2_
   have BK245 := n3_
   have HB := n4_
   clear n0_ n1_ n2_ n3_ n4_
   (try clear hb)
   (try clear hb2)
   (try clear hk)
   (try clear hi)
   refine hK.out _ _ ⟨(yw BK238.out 0).trans rfl, (yw BK238.out 1).trans rfl, (yw BK245.out 0).trans rfl, (yw BK245.out 1).trans rfl⟩ (fun hHeld => ?_)
   clear hK K
   refine norm_ (a' := ?_) ?_ ?_
   rotate_left
   ·
    show Act.put _ (some 19) _ = _
    simp only [Act.put, List.setIfInBounds_toArray, List.set_cons_zero, List.set_cons_succ, i64_w, i32_w]
    rfl
   refine pure_ (i := 10) (N := some 20) (v := ?_) (a' := ?_) #[true, true, true, true, true, true, true, true, true, true, true, false, false, false, false, false, false, false, false, false, false, false] rfl rfl (any_of HT_.out (by kernel_rfl)) (fun _ _ _ h => h) (Or.inl ⟨by rfl, ?_⟩) ?_ ?_
   rotate_left
   ·
    intro w'
    go_simp
    with_reducible rfl
   rotate_left
   ·
    simp only [Act.put, List.setIfInBounds_toArray, List.set_cons_zero, List.set_cons_succ, i64_w, i32_w]
    rfl
   refine pure_ (i := 11) (N := some 21) (v := ?_) (a' := ?_) #[true, true, true, true, true, true, true, true, true, true, true, true, false, false, false, false, false, false, false, false, false, false] rfl rfl (any_of HT_.out (by kernel_rfl)) (fun _ _ _ h => h) (Or.inl ⟨by rfl, ?_⟩) ?_ ?_
   rotate_left
   ·
    intro w'
    go_simp
    with_reducible rfl
   rotate_left
   ·
    simp only [Act.put, List.setIfInBounds_toArray, List.set_cons_zero, List.set_cons_succ, i64_w, i32_w]
    rfl
   refine pure_ (i := 12) (N := some 22) (v := ?_) (a' := ?_) #[true, true, true, true, true, true, true, true, true, true, true, true, true, false, false, false, false, false, false, false, false, false] rfl rfl (any_of HT_.out (by kernel_rfl)) (fun _ _ _ h => h) (Or.inl ⟨by rfl, ?_⟩) ?_ ?_
   rotate_left
   ·
    intro w'
    go_simp
    with_reducible rfl
   rotate_left
   ·
    simp only [Act.put, List.setIfInBounds_toArray, List.set_cons_zero, List.set_cons_succ, i64_w, i32_w]
    rfl
   refine pure_ (i := 14) (N := some 24) (v := ?_) (a' := ?_) #[true, true, true, true, true, true, true, true, true, true, true, true, true, false, true, false, false, false, false, false, false, false] rfl rfl (any_of HT_.out (by kernel_rfl)) (fun _ _ _ h => h) (Or.inl ⟨by rfl, ?_⟩) ?_ ?_
   rotate_left
   ·
    intro w'
    go_simp
    with_reducible rfl
   rotate_left
   ·
    simp only [Act.put, List.setIfInBounds_toArray, List.set_cons_zero, List.set_cons_succ, i64_w, i32_w]
    rfl
   refine pure_ (i := 17) (N := some 27) (v := ?_) (a' := ?_) #[true, true, true, true, true, true, true, true, true, true, true, true, true, false, true, false, false, true, false, false, false, false] rfl rfl (any_of HT_.out (by kernel_rfl)) (fun _ _ _ h => h) (Or.inl ⟨by rfl, ?_⟩) ?_ ?_
   rotate_left
   ·
    intro w'
    go_simp
    with_reducible rfl
   rotate_left
   ·
    simp only [Act.put, List.setIfInBounds_toArray, List.set_cons_zero, List.set_cons_succ, i64_w, i32_w]
    rfl
   refine take_ (i := 13) (N := some 23) (v := ?_) (a' := ?_) #[true, true, true, true, true, true, true, true, true, true, true, true, true, true, true, false, false, true, false, false, false, false] rfl rfl (take_ofW HT_.out HW_.out (by kernel_rfl)) (fun _ _ _ h => h) (Or.inl ⟨by rfl, ?_⟩) hHeld ?_ ?_
   rotate_left
   ·
    rintro w' ⟨s0, s1, s2, s3⟩
    go_simp
    with_reducible rfl
   rotate_left
   ·
    simp only [Act.put, List.setIfInBounds_toArray, List.set_cons_zero, List.set_cons_succ, i64_w, i32_w]
    rfl
   refine take_ (i := 16) (N := some 26) (v := ?_) (a' := ?_) #[true, true, true, true, true, true, true, true, true, true, true, true, true, true, true, false, true, true, false, false, false, false] rfl rfl (take_ofW HT_.out HW_.out (by kernel_rfl)) (fun _ _ _ h => h) (Or.inl ⟨by rfl, ?_⟩) hHeld ?_ ?_
   rotate_left
   ·
    rintro w' ⟨s0, s1, s2, s3⟩
    go_simp
    with_reducible rfl
   rotate_left
   ·
    simp only [Act.put, List.setIfInBounds_toArray, List.set_cons_zero, List.set_cons_succ, i64_w, i32_w]
    rfl
   refine one_ (i := 15) (N := some 25) #[true, true, true, true, true, true, true, true, true, true, true, true, true, true, true, true, true, true, false, false, false, false] rfl rfl (one_of HT_.out (by kernel_rfl)) (by decide) (fun K hK => ?_)
   refine goes_ Try.func17 (by kernel_rfl) rfl #[.agg #[.slice A0_0 l0_0.length c0_0, .slice A0_1 l0_1.length c0_1], .string a2] (by rfl) rfl rfl (by (try simp only [List.map_toArray, List.map_cons, List.map_nil]); first | done | rfl | (simp only [List.length_drop, List.length_take]; rfl)) ?_
   with_reducible refine (guide_Accepts.calls k _ _ l0_0 _ _ l0_1 a2 t249 _ ?side1 ?side2 ?side3 ?side4 A10.out).mono ?_
   (case side1 => repeat (first | exact (Kd.C_below HR0_0.out HB.out) | (with_reducible refine yi ?_ _) | (with_reducible refine yj ?_ _) | (with_reducible refine yk ?_)))
   (case side2 => exact HC0_0.out)
   (case side3 => repeat (first | exact (Kd.C_below HR0_1.out HB.out) | (with_reducible refine yi ?_ _) | (with_reducible refine yj ?_ _) | (with_reducible refine yk ?_)))
   (case side4 => exact HC0_1.out)
   rintro e w25 ⟨rfl, hb⟩
   refine ⟨_, rfl, ?_⟩
   have n0_ := ym (yp (by (with_reducible repeat (first | apply yf | apply yg | apply yh)); exact HO241.out) hb)
   have n1_ := ym (yp (by (with_reducible repeat (first | apply yf | apply yg | apply yh)); exact HO244.out) hb)
   have n2_ := ym (yq (g := gb238) (o := .cells #[.slice A0_0 l0_0.length c0_0, .slice A0_1 l0_1.length c0_1] 25 (0, 0)) (by (with_reducible repeat (first | refine yr ?_ _ | refine yt ?_ | refine yu ?_ _)); exact BK238.out) hb)
   have n3_ := ym (yq (g := gb245) (o := .cells #[.slice Ao16 t239.length co16, .slice Ao19 t242.length co19] 28 (0, 0)) (by (with_reducible repeat (first | refine yr ?_ _ | refine yt ?_ | refine yu ?_ _)); exact BK245.out) hb)
   have n4_ := ym (yn (by repeat (first | (with_reducible first | exact HB.out | apply ya | apply yd | apply ye | refine ys ?_ GE238.out | refine ys ?_ GE245.out) | exact HB.out)) hb)
   clear HO241
   clear HO244
   clear BK238
   clear BK245
   clear HB
   have HO241 := n0_
   have HO244 := n1_
   have BK238 := n2_
   have BK245 := n3_
   have HB := n4_
   clear n0_ n1_ n2_ n3_ n4_
   (try clear hb)
   (try clear hb2)
   (try clear hk)
   (try clear hi)
   refine hK.out _ _ ⟨(yw BK238.out 0).trans rfl, (yw BK238.out 1).trans rfl, (yw BK245.out 0).trans rfl, (yw BK245.out 1).trans rfl⟩ (fun hHeld => ?_)
   clear hK K
   refine norm_ (a' := ?_) ?_ ?_
   rotate_left
   ·
    show Act.put _ (some 25) _ = _
    simp only [Act.put, List.setIfInBounds_toArray, List.set_cons_zero, List.set_cons_succ, i64_w, i32_w]
    rfl
   refine one_ (i := 18) (N := some 28) #[true, true, true, true, true, true, true, true, true, true, true, true, true, true, true, true, true, true, true, false, false, false] rfl rfl (one_of HT_.out (by kernel_rfl)) (by decide) (fun K hK => ?_)
   refine goes_ Try.func18 (by kernel_rfl) rfl #[.agg #[.slice Ao16 t239.length co16, .slice Ao19 t242.length co19], .string a2] (by rfl) rfl rfl (by (try simp only [List.map_toArray, List.map_cons, List.map_nil]); first | done | rfl | (simp only [List.length_drop, List.length_take]; rfl)) ?_
   with_reducible refine (heraldref15_Accepts.calls k _ _ t239 _ _ t242 a2 t250 _ ?side1 ?side2 ?side3 ?side4 A11.out).mono ?_
   (case side1 => repeat (first | exact (Kd.R_reads' HO241.out).2.2 | (with_reducible refine yi ?_ _) | (with_reducible refine yj ?_ _) | (with_reducible refine yk ?_)))
   (case side2 => exact (Kd.R_reads' HO241.out).2.1)
   (case side3 => repeat (first | exact (Kd.R_reads' HO244.out).2.2 | (with_reducible refine yi ?_ _) | (with_reducible refine yj ?_ _) | (with_reducible refine yk ?_)))
   (case side4 => exact (Kd.R_reads' HO244.out).2.1)
   rintro e w26 ⟨rfl, hb⟩
   refine ⟨_, rfl, ?_⟩
   have n0_ := ym (yp (by (with_reducible repeat (first | apply yf | apply yg | apply yh)); exact HO241.out) hb)
   have n1_ := ym (yp (by (with_reducible repeat (first | apply yf | apply yg | apply yh)); exact HO244.out) hb)
   have n2_ := ym (yq (g := gb238) (o := .cells #[.slice A0_0 l0_0.length c0_0, .slice A0_1 l0_1.length c0_1] 25 (0, 0)) (by (with_reducible repeat (first | refine yr ?_ _ | refine yt ?_ | refine yu ?_ _)); exact BK238.out) hb)
   have n3_ := ym (yq (g := gb245) (o := .cells #[.slice Ao16 t239.length co16, .slice Ao19 t242.length co19] 28 (0, 0)) (by (with_reducible repeat (first | refine yr ?_ _ | refine yt ?_ | refine yu ?_ _)); exact BK245.out) hb)
   have n4_ := ym (yn (by repeat (first | (with_reducible first | exact HB.out | apply ya | apply yd | apply ye | refine ys ?_ GE238.out | refine ys ?_ GE245.out) | exact HB.out)) hb)
   clear HO241
   clear HO244
   clear BK238
   clear BK245
   clear HB
   have HO241 := n0_
   have HO244 := n1_
   have BK238 := n2_
   have BK245 := n3_
   have HB := n4_
   clear n0_ n1_ n2_ n3_ n4_
   (try clear hb)
   (try clear hb2)
   (try clear hk)
   (try clear hi)
   refine hK.out _ _ ⟨(yw BK238.out 0).trans rfl, (yw BK238.out 1).trans rfl, (yw BK245.out 0).trans rfl, (yw BK245.out 1).trans rfl⟩ (fun hHeld => ?_)
   clear hK K
   refine norm_ (a' := ?_) ?_ ?_
   rotate_left
   ·
    show Act.put _ (some 28) _ = _
    simp only [Act.put, List.setIfInBounds_toArray, List.set_cons_zero, List.set_cons_succ, i64_w, i32_w]
    rfl
   refine pure_ (i := 19) (N := some 29) (v := ?_) (a' := ?_) #[true, true, true, true, true, true, true, true, true, true, true, true, true, true, true, true, true, true, true, true, false, false] rfl rfl (any_of HT_.out (by kernel_rfl)) (fun _ _ _ h => h) (Or.inl ⟨by rfl, ?_⟩) ?_ ?_
   rotate_left
   ·
    intro w'
    go_simp
    with_reducible rfl
   rotate_left
   ·
    simp only [Act.put, List.setIfInBounds_toArray, List.set_cons_zero, List.set_cons_succ, i64_w, i32_w]
    rfl
   refine pure_ (i := 20) (N := some 30) (v := ?_) (a' := ?_) #[true, true, true, true, true, true, true, true, true, true, true, true, true, true, true, true, true, true, true, true, true, false] rfl rfl (any_of HT_.out (by kernel_rfl)) (fun _ _ _ h => h) (Or.inl ⟨by rfl, ?_⟩) ?_ ?_
   rotate_left
   ·
    intro w'
    go_simp
    with_reducible rfl
   rotate_left
   ·
    simp only [Act.put, List.setIfInBounds_toArray, List.set_cons_zero, List.set_cons_succ, i64_w, i32_w]
    rfl
   refine pure_ (i := 21) (N := some 6) (v := ?_) (a' := ?_) #[true, true, true, true, true, true, true, true, true, true, true, true, true, true, true, true, true, true, true, true, true, true] rfl rfl (any_of HT_.out (by kernel_rfl)) (fun _ _ _ h => h) (Or.inl ⟨by rfl, ?_⟩) ?_ ?_
   rotate_left
   ·
    intro w'
    go_simp
    with_reducible rfl
   rotate_left
   ·
    simp only [Act.put, List.setIfInBounds_toArray, List.set_cons_zero, List.set_cons_succ, i64_w, i32_w]
    rfl
   refine done_ (done_of HT_.out (by kernel_rfl)) ?_
   try go_wp2
   go_ret
   exact ⟨by first | rfl | (simp [errW_none, errW_some] <;> rfl) | (simp [*, errW_none, errW_some] <;> rfl), by repeat (first | (with_reducible first | exact HB.out | apply ya | apply yd | apply ye | refine ys ?_ GE238.out | refine ys ?_ GE245.out) | exact HB.out)⟩
  rw [if_neg c9] at H
  have c9b0 : (t247 == t248) = false := beq_eq_false_iff_ne.mpr c9
  have c9b1 : (t247 != t248) = true := bne_iff_ne.mpr c9
  obtain rfl := Option.some.inj H
  go_enter Try.func3, Try.ntmps3
  try go_wp2_with (first | ((with_reducible refine gate_dst (N := 3) rfl ?_); refine box_event ?hg (N := 3) ?hd (cs := #[.slice A0_0 l0_0.length c0_0, .slice A0_1 l0_1.length c0_1]) (t := 25) ?hr ?_; (case hd => rfl); (case hg => rfl); (case hr => first | (go_simp; done) | (go_simp; rfl)); intro gb238 hg w27 hbox hb; have n0_ := ym (yn (by repeat (first | (with_reducible first | exact HB.out | apply ya | apply yd | apply ye) | exact HB.out)) hb); have n1_ := ym (hbox); have n2_ := ym ((by rw [hg]; exact (below_size (by repeat (first | (with_reducible first | exact HB.out | apply ya | apply yd | apply ye) | exact HB.out))) : w.heap.size ≤ gb238)); have n3_ := n2_; clear HB; have HB := n0_; have BK238 := n1_; have GW238 := n2_; have GE238 := n3_; clear n0_ n1_ n2_ n3_; clear hb hbox hg; have hcz28_0 : w27.cell? ⟨gb238, 0, none⟩ = some (.slice A0_0 l0_0.length c0_0) := (yw BK238.out 0).trans rfl; have hcz28_1 : w27.cell? ⟨gb238, 1, none⟩ = some (.slice A0_1 l0_1.length c0_1) := (yw BK238.out 1).trans rfl; have hfz28_0 := yv BK238.out 0; have hfz28_1 := yv BK238.out 1) | ((with_reducible refine gate_callee (f := 13) rfl ?_); refine goesL_ (some 9) rfl rfl Try.func13 (by kernel_rfl) rfl #[.agg #[.slice A0_0 l0_0.length c0_0, .slice A0_1 l0_1.length c0_1]] rfl (by (try simp only [List.map_toArray, List.map_cons, List.map_nil]); first | done | rfl | (simp only [List.length_drop, List.length_take]; rfl)) ?_; (with_reducible refine (heraldlaw15_given.calls k _ _ l0_0 _ _ l0_1 t239 t242 _ ?side1 ?side2 ?side3 ?side4 A4.out).mono ?_); (case side1 => repeat (first | exact (Kd.C_below HR0_0.out HB.out) | (with_reducible refine yi ?_ _) | (with_reducible refine yj ?_ _) | (with_reducible refine yk ?_))); (case side2 => exact HC0_0.out); (case side3 => repeat (first | exact (Kd.C_below HR0_1.out HB.out) | (with_reducible refine yi ?_ _) | (with_reducible refine yj ?_ _) | (with_reducible refine yk ?_))); (case side4 => exact HC0_1.out); rintro e w29 ⟨v240, v243, rfl, ho0, ho1, hb⟩; refine ⟨_, rfl, ?_⟩; have n0_ := ym (yo ho0 (below_size (by repeat (first | (with_reducible first | exact HB.out | apply ya | apply yd | apply ye | refine ys ?_ GE238.out) | exact HB.out)))); have n1_ := ym (yo ho1 (below_size (by repeat (first | (with_reducible first | exact HB.out | apply ya | apply yd | apply ye | refine ys ?_ GE238.out) | exact HB.out)))); have n2_ := ym (yq (g := gb238) (o := .cells #[.slice A0_0 l0_0.length c0_0, .slice A0_1 l0_1.length c0_1] 25 (0, 0)) (by (with_reducible repeat (first | refine yr ?_ _ | refine yt ?_ | refine yu ?_ _)); exact BK238.out) hb); have n3_ := ym (yn (by repeat (first | (with_reducible first | exact HB.out | apply ya | apply yd | apply ye | refine ys ?_ GE238.out) | exact HB.out)) hb); clear BK238; clear HB; have HO241 := n0_; have HO244 := n1_; have BK238 := n2_; have HB := n3_; clear n0_ n1_ n2_ n3_; (try clear hb); (try clear hb2); (try clear hk); (try clear hi); (try clear ho0); (try clear ho1)) | ((with_reducible refine gate_dst (N := 7) rfl ?_); refine box_event ?hg (N := 7) ?hd (cs := #[.slice none 0 0, .slice none 0 0]) (t := 28) ?hr ?_; (case hd => rfl); (case hg => rfl); (case hr => first | (go_simp; done) | (go_simp; rfl)); intro gb245 hg w30 hbox hb; have n0_ := ym (yp (by (with_reducible repeat (first | apply yf | apply yg | apply yh)); exact HO241.out) hb); have n1_ := ym (yp (by (with_reducible repeat (first | apply yf | apply yg | apply yh)); exact HO244.out) hb); have n2_ := ym (yq (g := gb238) (o := .cells #[.slice A0_0 l0_0.length c0_0, .slice A0_1 l0_1.length c0_1] 25 (0, 0)) (by (with_reducible repeat (first | refine yr ?_ _ | refine yt ?_ | refine yu ?_ _)); exact BK238.out) hb); have n3_ := ym (yn (by repeat (first | (with_reducible first | exact HB.out | apply ya | apply yd | apply ye | refine ys ?_ GE238.out) | exact HB.out)) hb); have n4_ := ym (hbox); have n5_ := ym ((by rw [hg]; exact (below_size (by repeat (first | (with_reducible first | exact HB.out | apply ya | apply yd | apply ye | refine ys ?_ GE238.out) | exact HB.out))) : w.heap.size ≤ gb245)); have n6_ := n5_; have n7_ := ym ((by rw [hg]; exact Nat.ne_of_lt (blk_lt (g := gb238) (o := .cells #[.slice A0_0 l0_0.length c0_0, .slice A0_1 l0_1.length c0_1] 25 (0, 0)) (by (with_reducible repeat (first | refine yr ?_ _ | refine yt ?_ | refine yu ?_ _)); exact BK238.out)) : gb238 ≠ gb245)); have n8_ := ym ((by rw [hg]; exact Nat.ne_of_gt (blk_lt (g := gb238) (o := .cells #[.slice A0_0 l0_0.length c0_0, .slice A0_1 l0_1.length c0_1] 25 (0, 0)) (by (with_reducible repeat (first | refine yr ?_ _ | refine yt ?_ | refine yu ?_ _)); exact BK238.out)) : gb245 ≠ gb238)); clear HO241; clear HO244; clear BK238; clear HB; have HO241 := n0_; have HO244 := n1_; have BK238 := n2_; have HB := n3_; have BK245 := n4_; have GW245 := n5_; have GE245 := n6_; have NB238_245 := n7_; have NB245_238 := n8_; clear n0_ n1_ n2_ n3_ n4_ n5_ n6_ n7_ n8_; clear hb hbox hg; obtain ⟨Ao31, co31, eo31⟩ := Kd.R_slice HO241.out; subst eo31; have hnb32 := NB245_238.out; have hnc32 := NB238_245.out; have hcz33_0 : w30.cell? ⟨gb245, 0, none⟩ = some (.slice none 0 0) := (yw BK245.out 0).trans rfl; have hcz33_1 : w30.cell? ⟨gb245, 1, none⟩ = some (.slice none 0 0) := (yw BK245.out 1).trans rfl; have hfz33_0 := yv BK245.out 0; have hfz33_1 := yv BK245.out 1; obtain ⟨Ao34, co34, eo34⟩ := Kd.R_slice HO244.out; subst eo34))
  have n0_ : Aside0 (Kd.R Kd.bool 4 ((w30.setCell ⟨gb245, 0, none⟩ (.slice Ao31 t239.length co31)).setCell ⟨gb245, 1, none⟩ (.slice Ao34 t242.length co34)) w.heap.size (fun _ => True) (.slice Ao31 t239.length co31) t239) := ⟨by (with_reducible repeat (first | apply yf | apply yg | apply yh)); exact Kd.R_mono (Kd.R_far (p := ⟨gb245, 1, none⟩) (Kd.R_far (p := ⟨gb245, 0, none⟩) (Kd.R_types HO241.out BK245.out (by decide)) (fun _ hk => hk.2) (.slice Ao31 t239.length co31)) (fun _ hk => hk.2) (.slice Ao34 t242.length co34)) (fun _ hk => trivial)⟩
  have n1_ : Aside0 (Kd.R k93 93 ((w30.setCell ⟨gb245, 0, none⟩ (.slice Ao31 t239.length co31)).setCell ⟨gb245, 1, none⟩ (.slice Ao34 t242.length co34)) w.heap.size (fun _ => True) (.slice Ao34 t242.length co34) t242) := ⟨by (with_reducible repeat (first | apply yf | apply yg | apply yh)); exact Kd.R_mono (Kd.R_far (p := ⟨gb245, 1, none⟩) (Kd.R_far (p := ⟨gb245, 0, none⟩) (Kd.R_types HO244.out BK245.out (by decide)) (fun _ hk => hk.2) (.slice Ao31 t239.length co31)) (fun _ hk => hk.2) (.slice Ao34 t242.length co34)) (fun _ hk => trivial)⟩
  have n2_ : Aside0 (((w30.setCell ⟨gb245, 0, none⟩ (.slice Ao31 t239.length co31)).setCell ⟨gb245, 1, none⟩ (.slice Ao34 t242.length co34)).heap[gb238]? = some (.cells #[.slice A0_0 l0_0.length c0_0, .slice A0_1 l0_1.length c0_1] 25 (0, 0))) := ⟨by (with_reducible repeat (first | refine yr ?_ _ | refine yt ?_ | refine yu ?_ _)); refine yx ?_ NB238_245.out _; (with_reducible repeat (first | refine yr ?_ _ | refine yt ?_ | refine yu ?_ _)); refine yx ?_ NB238_245.out _; (with_reducible repeat (first | refine yr ?_ _ | refine yt ?_ | refine yu ?_ _)); exact BK238.out⟩
  have n3_ : Aside0 (((w30.setCell ⟨gb245, 0, none⟩ (.slice Ao31 t239.length co31)).setCell ⟨gb245, 1, none⟩ (.slice Ao34 t242.length co34)).heap[gb245]? = some (.cells #[.slice Ao31 t239.length co31, .slice Ao34 t242.length co34] 28 (0, 0))) := ⟨by (with_reducible repeat (first | refine yr ?_ _ | refine yt ?_ | refine yu ?_ _)); refine yy (cs := #[.slice Ao31 t239.length co31, .slice none 0 0]) ?_ 1 _ rfl; (with_reducible repeat (first | refine yr ?_ _ | refine yt ?_ | refine yu ?_ _)); refine yy (cs := #[.slice none 0 0, .slice none 0 0]) ?_ 0 _ rfl; (with_reducible repeat (first | refine yr ?_ _ | refine yt ?_ | refine yu ?_ _)); exact BK245.out⟩
  have n4_ : Aside0 (Below w.heap.size w ((w30.setCell ⟨gb245, 0, none⟩ (.slice Ao31 t239.length co31)).setCell ⟨gb245, 1, none⟩ (.slice Ao34 t242.length co34))) := ⟨by repeat (first | (with_reducible first | exact HB.out | apply ya | apply yd | apply ye | refine ys ?_ GE238.out | refine ys ?_ GE245.out) | exact HB.out)⟩
  (try clear HO241)
  (try clear HO244)
  (try clear BK238)
  (try clear BK245)
  (try clear HB)
  generalize ((w30.setCell ⟨gb245, 0, none⟩ (.slice Ao31 t239.length co31)).setCell ⟨gb245, 1, none⟩ (.slice Ao34 t242.length co34)) = w35 at n0_ n1_ n2_ n3_ n4_ ⊢
  have HO241 := n0_
  have HO244 := n1_
  have BK238 := n2_
  have BK245 := n3_
  have HB := n4_
  clear n0_ n1_ n2_ n3_ n4_
  have n0_ := ym (yh HO241.out)
  have n1_ := ym (yh HO244.out)
  have n2_ := ym (yt BK238.out)
  have n3_ := ym (yt BK245.out)
  have n4_ := ym (ye HB.out)
  clear HO241
  clear HO244
  clear BK238
  clear BK245
  clear HB
  have HO241 := n0_
  have HO244 := n1_
  have BK238 := n2_
  have BK245 := n3_
  have HB := n4_
  clear n0_ n1_ n2_ n3_ n4_
  refine start_ (n := 22) (S := fun w' => w'.cell? ⟨gb238, 0, none⟩ = some (.slice A0_0 l0_0.length c0_0) ∧ w'.cell? ⟨gb238, 1, none⟩ = some (.slice A0_1 l0_1.length c0_1) ∧ w'.cell? ⟨gb245, 0, none⟩ = some (.slice Ao31 t239.length co31) ∧ w'.cell? ⟨gb245, 1, none⟩ = some (.slice Ao34 t242.length co34)) (ds := []) #[false, false, false, false, false, false, false, false, false, false, false, false, false, false, false, false, false, false, false, false, false, false] (by kernel_rfl) rfl rfl ⟨(yw BK238.out 0).trans rfl, (yw BK238.out 1).trans rfl, (yw BK245.out 0).trans rfl, (yw BK245.out 1).trans rfl⟩ (fun hHeld => ?_); refine with_tabW heraldlaw15_GuideWalks.tab2 heraldlaw15_GuideWalks.bits2 (fun HT_ HW_ => ?_)
  generalize w35.drew = w36 at HO241 HO244 BK238 BK245 HB hHeld ⊢
  refine one_ (i := 0) (N := some 10) #[true, false, false, false, false, false, false, false, false, false, false, false, false, false, false, false, false, false, false, false, false, false] rfl rfl (one_of HT_.out (by kernel_rfl)) (by decide) (fun K hK => ?_)
  refine goes_ Try.func14 (by kernel_rfl) rfl #[] (by rfl) rfl rfl (by (try simp only [List.map_toArray, List.map_cons, List.map_nil]); first | done | rfl | (simp only [List.length_drop, List.length_take]; rfl)) ?_
  with_reducible refine (heraldlaw15_awake.calls k  true _ A5.out).mono ?_
  rintro e w37 ⟨rfl, hb⟩
  refine ⟨_, rfl, ?_⟩
  have n0_ := ym (yp (by (with_reducible repeat (first | apply yf | apply yg | apply yh)); exact HO241.out) hb)
  have n1_ := ym (yp (by (with_reducible repeat (first | apply yf | apply yg | apply yh)); exact HO244.out) hb)
  have n2_ := ym (yq (g := gb238) (o := .cells #[.slice A0_0 l0_0.length c0_0, .slice A0_1 l0_1.length c0_1] 25 (0, 0)) (by (with_reducible repeat (first | refine yr ?_ _ | refine yt ?_ | refine yu ?_ _)); exact BK238.out) hb)
  have n3_ := ym (yq (g := gb245) (o := .cells #[.slice Ao31 t239.length co31, .slice Ao34 t242.length co34] 28 (0, 0)) (by (with_reducible repeat (first | refine yr ?_ _ | refine yt ?_ | refine yu ?_ _)); exact BK245.out) hb)
  have n4_ := ym (yn (by repeat (first | (with_reducible first | exact HB.out | apply ya | apply yd | apply ye | refine ys ?_ GE238.out | refine ys ?_ GE245.out) | exact HB.out)) hb)
  clear HO241
  clear HO244
  clear BK238
  clear BK245
  clear HB
  have HO241 := n0_
  have HO244 := n1_
  have BK238 := n2_
  have BK245 := n3_
  have HB := n4_
  clear n0_ n1_ n2_ n3_ n4_
  (try clear hb)
  (try clear hb2)
  (try clear hk)
  (try clear hi)
  refine hK.out _ _ ⟨(yw BK238.out 0).trans rfl, (yw BK238.out 1).trans rfl, (yw BK245.out 0).trans rfl, (yw BK245.out 1).trans rfl⟩ (fun hHeld => ?_)
  clear hK K
  refine norm_ (a' := ?_) ?_ ?_
  rotate_left
  ·
   show Act.put _ (some 10) _ = _
   simp only [Act.put, List.setIfInBounds_toArray, List.set_cons_zero, List.set_cons_succ, i64_w, i32_w]
   rfl
  refine pure_ (i := 1) (N := some 11) (v := ?_) (a' := ?_) #[true, true, false, false, false, false, false, false, false, false, false, false, false, false, false, false, false, false, false, false, false, false] rfl rfl (any_of HT_.out (by kernel_rfl)) (fun _ _ _ h => h) (Or.inl ⟨by rfl, ?_⟩) ?_ ?_
  rotate_left
  ·
   intro w'
   go_simp
   with_reducible rfl
  rotate_left
  ·
   simp only [Act.put, List.setIfInBounds_toArray, List.set_cons_zero, List.set_cons_succ, i64_w, i32_w]
   rfl
  refine pure_ (i := 3) (N := some 13) (v := ?_) (a' := ?_) #[true, true, false, true, false, false, false, false, false, false, false, false, false, false, false, false, false, false, false, false, false, false] rfl rfl (any_of HT_.out (by kernel_rfl)) (fun _ _ _ h => h) (Or.inl ⟨by rfl, ?_⟩) ?_ ?_
  rotate_left
  ·
   intro w'
   go_simp
   with_reducible rfl
  rotate_left
  ·
   simp only [Act.put, List.setIfInBounds_toArray, List.set_cons_zero, List.set_cons_succ, i64_w, i32_w]
   rfl
  refine pure_ (i := 4) (N := some 14) (v := ?_) (a' := ?_) #[true, true, false, true, true, false, false, false, false, false, false, false, false, false, false, false, false, false, false, false, false, false] rfl rfl (any_of HT_.out (by kernel_rfl)) (fun _ _ _ h => h) (Or.inl ⟨by rfl, ?_⟩) ?_ ?_
  rotate_left
  ·
   intro w'
   go_simp
   with_reducible rfl
  rotate_left
  ·
   simp only [Act.put, List.setIfInBounds_toArray, List.set_cons_zero, List.set_cons_succ, i64_w, i32_w]
   rfl
  refine pure_ (i := 7) (N := some 17) (v := ?_) (a' := ?_) #[true, true, false, true, true, false, false, true, false, false, false, false, false, false, false, false, false, false, false, false, false, false] rfl rfl (any_of HT_.out (by kernel_rfl)) (fun _ _ _ h => h) (Or.inl ⟨by rfl, ?_⟩) ?_ ?_
  rotate_left
  ·
   intro w'
   go_simp
   with_reducible rfl
  rotate_left
  ·
   simp only [Act.put, List.setIfInBounds_toArray, List.set_cons_zero, List.set_cons_succ, i64_w, i32_w]
   rfl
  refine pure_ (i := 8) (N := some 18) (v := ?_) (a' := ?_) #[true, true, false, true, true, false, false, true, true, false, false, false, false, false, false, false, false, false, false, false, false, false] rfl rfl (any_of HT_.out (by kernel_rfl)) (fun _ _ _ h => h) (Or.inl ⟨by rfl, ?_⟩) ?_ ?_
  rotate_left
  ·
   intro w'
   go_simp
   with_reducible rfl
  rotate_left
  ·
   simp only [Act.put, List.setIfInBounds_toArray, List.set_cons_zero, List.set_cons_succ, i64_w, i32_w]
   rfl
  refine take_ (i := 2) (N := some 12) (v := ?_) (a' := ?_) #[true, true, true, true, true, false, false, true, true, false, false, false, false, false, false, false, false, false, false, false, false, false] rfl rfl (take_ofW HT_.out HW_.out (by kernel_rfl)) (fun _ _ _ h => h) (Or.inl ⟨by rfl, ?_⟩) hHeld ?_ ?_
  rotate_left
  ·
   rintro w' ⟨s0, s1, s2, s3⟩
   go_simp
   with_reducible rfl
  rotate_left
  ·
   simp only [Act.put, List.setIfInBounds_toArray, List.set_cons_zero, List.set_cons_succ, i64_w, i32_w]
   rfl
  refine take_ (i := 6) (N := some 16) (v := ?_) (a' := ?_) #[true, true, true, true, true, false, true, true, true, false, false, false, false, false, false, false, false, false, false, false, false, false] rfl rfl (take_ofW HT_.out HW_.out (by kernel_rfl)) (fun _ _ _ h => h) (Or.inl ⟨by rfl, ?_⟩) hHeld ?_ ?_
  rotate_left
  ·
   rintro w' ⟨s0, s1, s2, s3⟩
   go_simp
   with_reducible rfl
  rotate_left
  ·
   simp only [Act.put, List.setIfInBounds_toArray, List.set_cons_zero, List.set_cons_succ, i64_w, i32_w]
   rfl
  refine one_ (i := 5) (N := some 15) #[true, true, true, true, true, true, true, true, true, false, false, false, false, false, false, false, false, false, false, false, false, false] rfl rfl (one_of HT_.out (by kernel_rfl)) (by decide) (fun K hK => ?_)
  refine goes_ Try.func15 (by kernel_rfl) rfl #[.agg #[.slice A0_0 l0_0.length c0_0, .slice A0_1 l0_1.length c0_1], .int .i64 a1, .string a2] (by rfl) rfl rfl (by (try simp only [List.map_toArray, List.map_cons, List.map_nil]); first | done | rfl | (simp only [List.length_drop, List.length_take]; rfl)) ?_
  with_reducible refine (guide_Walk.calls k _ _ l0_0 _ _ l0_1 a1 a2 t247 _ ?side1 ?side2 ?side3 ?side4 A7.out).mono ?_
  (case side1 => repeat (first | exact (Kd.C_below HR0_0.out HB.out) | (with_reducible refine yi ?_ _) | (with_reducible refine yj ?_ _) | (with_reducible refine yk ?_)))
  (case side2 => exact HC0_0.out)
  (case side3 => repeat (first | exact (Kd.C_below HR0_1.out HB.out) | (with_reducible refine yi ?_ _) | (with_reducible refine yj ?_ _) | (with_reducible refine yk ?_)))
  (case side4 => exact HC0_1.out)
  rintro e w38 ⟨rfl, hb⟩
  refine ⟨_, rfl, ?_⟩
  have n0_ := ym (yp (by (with_reducible repeat (first | apply yf | apply yg | apply yh)); exact HO241.out) hb)
  have n1_ := ym (yp (by (with_reducible repeat (first | apply yf | apply yg | apply yh)); exact HO244.out) hb)
  have n2_ := ym (yq (g := gb238) (o := .cells #[.slice A0_0 l0_0.length c0_0, .slice A0_1 l0_1.length c0_1] 25 (0, 0)) (by (with_reducible repeat (first | refine yr ?_ _ | refine yt ?_ | refine yu ?_ _)); exact BK238.out) hb)
  have n3_ := ym (yq (g := gb245) (o := .cells #[.slice Ao31 t239.length co31, .slice Ao34 t242.length co34] 28 (0, 0)) (by (with_reducible repeat (first | refine yr ?_ _ | refine yt ?_ | refine yu ?_ _)); exact BK245.out) hb)
  have n4_ := ym (yn (by repeat (first | (with_reducible first | exact HB.out | apply ya | apply yd | apply ye | refine ys ?_ GE238.out | refine ys ?_ GE245.out) | exact HB.out)) hb)
  clear HO241
  clear HO244
  clear BK238
  clear BK245
  clear HB
  have HO241 := n0_
  have HO244 := n1_
  have BK238 := n2_
  have BK245 := n3_
  have HB := n4_
  clear n0_ n1_ n2_ n3_ n4_
  (try clear hb)
  (try clear hb2)
  (try clear hk)
  (try clear hi)
  refine hK.out _ _ ⟨(yw BK238.out 0).trans rfl, (yw BK238.out 1).trans rfl, (yw BK245.out 0).trans rfl, (yw BK245.out 1).trans rfl⟩ (fun hHeld => ?_)
  clear hK K
  refine norm_ (a' := ?_) ?_ ?_
  rotate_left
  ·
   show Act.put _ (some 15) _ = _
   simp only [Act.put, List.setIfInBounds_toArray, List.set_cons_zero, List.set_cons_succ, i64_w, i32_w]
   rfl
  refine one_ (i := 9) (N := some 19) #[true, true, true, true, true, true, true, true, true, true, false, false, false, false, false, false, false, false, false, false, false, false] rfl rfl (one_of HT_.out (by kernel_rfl)) (by decide) (fun K hK => ?_)
  refine goes_ Try.func16 (by kernel_rfl) rfl #[.agg #[.slice Ao31 t239.length co31, .slice Ao34 t242.length co34], .int .i64 a1, .string a2] (by rfl) rfl rfl (by (try simp only [List.map_toArray, List.map_cons, List.map_nil]); first | done | rfl | (simp only [List.length_drop, List.length_take]; rfl)) ?_
  with_reducible refine (heraldref15_Walk.calls k _ _ t239 _ _ t242 a1 a2 t248 _ ?side1 ?side2 ?side3 ?side4 A8.out).mono ?_
  (case side1 => repeat (first | exact (Kd.R_reads' HO241.out).2.2 | (with_reducible refine yi ?_ _) | (with_reducible refine yj ?_ _) | (with_reducible refine yk ?_)))
  (case side2 => exact (Kd.R_reads' HO241.out).2.1)
  (case side3 => repeat (first | exact (Kd.R_reads' HO244.out).2.2 | (with_reducible refine yi ?_ _) | (with_reducible refine yj ?_ _) | (with_reducible refine yk ?_)))
  (case side4 => exact (Kd.R_reads' HO244.out).2.1)
  rintro e w39 ⟨rfl, hb⟩
  refine ⟨_, rfl, ?_⟩
  have n0_ := ym (yp (by (with_reducible repeat (first | apply yf | apply yg | apply yh)); exact HO241.out) hb)
  have n1_ := ym (yp (by (with_reducible repeat (first | apply yf | apply yg | apply yh)); exact HO244.out) hb)
  have n2_ := ym (yq (g := gb238) (o := .cells #[.slice A0_0 l0_0.length c0_0, .slice A0_1 l0_1.length c0_1] 25 (0, 0)) (by (with_reducible repeat (first | refine yr ?_ _ | refine yt ?_ | refine yu ?_ _)); exact BK238.out) hb)
  have n3_ := ym (yq (g := gb245) (o := .cells #[.slice Ao31 t239.length co31, .slice Ao34 t242.length co34] 28 (0, 0)) (by (with_reducible repeat (first | refine yr ?_ _ | refine yt ?_ | refine yu ?_ _)); exact BK245.out) hb)
  have n4_ := ym (yn (by repeat (first | (with_reducible first | exact HB.out | apply ya | apply yd | apply ye | refine ys ?_ GE238.out | refine ys ?_ GE245.out) | exact HB.out)) hb)
  clear HO241
  clear HO244
  clear BK238
  clear BK245
  clear HB
  have HO241 := n0_
  have HO244 := n1_
  have BK238 := n2_
  have BK245 := n3_
  have HB := n4_
  clear n0_ n1_ n2_ n3_ n4_
  (try clear hb)
  (try clear hb2)
  (try clear hk)
  (try clear hi)
  refine hK.out _ _ ⟨(yw BK238.out 0).trans rfl, (yw BK238.out 1).trans rfl, (yw BK245.out 0).trans rfl, (yw BK245.out 1).trans rfl⟩ (fun hHeld => ?_)
  clear hK K
  refine norm_ (a' := ?_) ?_ ?_
  rotate_left
  ·
   show Act.put _ (some 19) _ = _
   simp only [Act.put, List.setIfInBounds_toArray, List.set_cons_zero, List.set_cons_succ, i64_w, i32_w]
   rfl
  refine pure_ (i := 10) (N := some 20) (v := ?_) (a' := ?_) #[true, true, true, true, true, true, true, true, true, true, true, false, false, false, false, false, false, false, false, false, false, false] rfl rfl (any_of HT_.out (by kernel_rfl)) (fun _ _ _ h => h) (Or.inl ⟨by rfl, ?_⟩) ?_ ?_
  rotate_left
  ·
   intro w'
   go_simp
   with_reducible rfl
  rotate_left
  ·
   simp only [Act.put, List.setIfInBounds_toArray, List.set_cons_zero, List.set_cons_succ, i64_w, i32_w]
   rfl
  refine pure_ (i := 11) (N := some 21) (v := ?_) (a' := ?_) #[true, true, true, true, true, true, true, true, true, true, true, true, false, false, false, false, false, false, false, false, false, false] rfl rfl (any_of HT_.out (by kernel_rfl)) (fun _ _ _ h => h) (Or.inl ⟨by rfl, ?_⟩) ?_ ?_
  rotate_left
  ·
   intro w'
   go_simp
   with_reducible rfl
  rotate_left
  ·
   simp only [Act.put, List.setIfInBounds_toArray, List.set_cons_zero, List.set_cons_succ, i64_w, i32_w]
   rfl
  refine pure_ (i := 12) (N := some 22) (v := ?_) (a' := ?_) #[true, true, true, true, true, true, true, true, true, true, true, true, true, false, false, false, false, false, false, false, false, false] rfl rfl (any_of HT_.out (by kernel_rfl)) (fun _ _ _ h => h) (Or.inl ⟨by rfl, ?_⟩) ?_ ?_
  rotate_left
  ·
   intro w'
   go_simp
   with_reducible rfl
  rotate_left
  ·
   simp only [Act.put, List.setIfInBounds_toArray, List.set_cons_zero, List.set_cons_succ, i64_w, i32_w]
   rfl
  refine pure_ (i := 13) (N := some 23) (v := undef) (a' := ?_) #[true, true, true, true, true, true, true, true, true, true, true, true, true, true, false, false, false, false, false, false, false, false] rfl rfl (any_of HT_.out (by kernel_rfl)) (fun _ _ _ h => h) (Or.inr ⟨by rfl, rfl⟩) ?_ ?_
  rotate_left
  ·
   simp only [Act.put, List.setIfInBounds_toArray, List.set_cons_zero, List.set_cons_succ, i64_w, i32_w]
   rfl
  refine pure_ (i := 14) (N := some 24) (v := undef) (a' := ?_) #[true, true, true, true, true, true, true, true, true, true, true, true, true, true, true, false, false, false, false, false, false, false] rfl rfl (any_of HT_.out (by kernel_rfl)) (fun _ _ _ h => h) (Or.inr ⟨by rfl, rfl⟩) ?_ ?_
  rotate_left
  ·
   simp only [Act.put, List.setIfInBounds_toArray, List.set_cons_zero, List.set_cons_succ, i64_w, i32_w]
   rfl
  refine pure_ (i := 15) (N := some 25) (v := undef) (a' := ?_) #[true, true, true, true, true, true, true, true, true, true, true, true, true, true, true, true, false, false, false, false, false, false] rfl rfl (any_of HT_.out (by kernel_rfl)) (fun _ _ _ h => h) (Or.inr ⟨by rfl, rfl⟩) ?_ ?_
  rotate_left
  ·
   simp only [Act.put, List.setIfInBounds_toArray, List.set_cons_zero, List.set_cons_succ, i64_w, i32_w]
   rfl
  refine pure_ (i := 16) (N := some 26) (v := undef) (a' := ?_) #[true, true, true, true, true, true, true, true, true, true, true, true, true, true, true, true, true, false, false, false, false, false] rfl rfl (any_of HT_.out (by kernel_rfl)) (fun _ _ _ h => h) (Or.inr ⟨by rfl, rfl⟩) ?_ ?_
  rotate_left
  ·
   simp only [Act.put, List.setIfInBounds_toArray, List.set_cons_zero, List.set_cons_succ, i64_w, i32_w]
   rfl
  refine pure_ (i := 17) (N := some 27) (v := undef) (a' := ?_) #[true, true, true, true, true, true, true, true, true, true, true, true, true, true, true, true, true, true, false, false, false, false] rfl rfl (any_of HT_.out (by kernel_rfl)) (fun _ _ _ h => h) (Or.inr ⟨by rfl, rfl⟩) ?_ ?_
  rotate_left
  ·
   simp only [Act.put, List.setIfInBounds_toArray, List.set_cons_zero, List.set_cons_succ, i64_w, i32_w]
   rfl
  refine pure_ (i := 18) (N := some 28) (v := undef) (a' := ?_) #[true, true, true, true, true, true, true, true, true, true, true, true, true, true, true, true, true, true, true, false, false, false] rfl rfl (any_of HT_.out (by kernel_rfl)) (fun _ _ _ h => h) (Or.inr ⟨by rfl, rfl⟩) ?_ ?_
  rotate_left
  ·
   simp only [Act.put, List.setIfInBounds_toArray, List.set_cons_zero, List.set_cons_succ, i64_w, i32_w]
   rfl
  refine pure_ (i := 19) (N := some 29) (v := undef) (a' := ?_) #[true, true, true, true, true, true, true, true, true, true, true, true, true, true, true, true, true, true, true, true, false, false] rfl rfl (any_of HT_.out (by kernel_rfl)) (fun _ _ _ h => h) (Or.inr ⟨by rfl, rfl⟩) ?_ ?_
  rotate_left
  ·
   simp only [Act.put, List.setIfInBounds_toArray, List.set_cons_zero, List.set_cons_succ, i64_w, i32_w]
   rfl
  refine pure_ (i := 20) (N := some 30) (v := ?_) (a' := ?_) #[true, true, true, true, true, true, true, true, true, true, true, true, true, true, true, true, true, true, true, true, true, false] rfl rfl (any_of HT_.out (by kernel_rfl)) (fun _ _ _ h => h) (Or.inl ⟨by rfl, ?_⟩) ?_ ?_
  rotate_left
  ·
   intro w'
   go_simp
   with_reducible rfl
  rotate_left
  ·
   simp only [Act.put, List.setIfInBounds_toArray, List.set_cons_zero, List.set_cons_succ, i64_w, i32_w]
   rfl
  refine pure_ (i := 21) (N := some 6) (v := ?_) (a' := ?_) #[true, true, true, true, true, true, true, true, true, true, true, true, true, true, true, true, true, true, true, true, true, true] rfl rfl (any_of HT_.out (by kernel_rfl)) (fun _ _ _ h => h) (Or.inl ⟨by rfl, ?_⟩) ?_ ?_
  rotate_left
  ·
   intro w'
   go_simp
   with_reducible rfl
  rotate_left
  ·
   simp only [Act.put, List.setIfInBounds_toArray, List.set_cons_zero, List.set_cons_succ, i64_w, i32_w]
   rfl
  refine done_ (done_of HT_.out (by kernel_rfl)) ?_
  try go_wp2
  go_ret
  exact ⟨by first | rfl | (simp [errW_none, errW_some] <;> rfl) | (simp [*, errW_none, errW_some] <;> rfl), by repeat (first | (with_reducible first | exact HB.out | apply ya | apply yd | apply ye | refine ys ?_ GE238.out | refine ys ?_ GE245.out) | exact HB.out)⟩
 replace c6 := Bool.eq_false_iff.mpr c6
 subst c6
 have H1 : (some false) = some r := by rw [if_neg (show ¬ (false = true) by decide)] at H; exact H
 clear H
 have H := H1
 clear H1
 obtain rfl := Option.some.inj H
 go_enter Try.func3, Try.ntmps3
 try go_wp2_with (first | ((with_reducible refine gate_dst (N := 3) rfl ?_); refine box_event ?hg (N := 3) ?hd (cs := #[.slice A0_0 l0_0.length c0_0, .slice A0_1 l0_1.length c0_1]) (t := 25) ?hr ?_; (case hd => rfl); (case hg => rfl); (case hr => first | (go_simp; done) | (go_simp; rfl)); intro gb238 hg w40 hbox hb; have n0_ := ym (yn (by repeat (first | (with_reducible first | exact HB.out | apply ya | apply yd | apply ye) | exact HB.out)) hb); have n1_ := ym (hbox); have n2_ := ym ((by rw [hg]; exact (below_size (by repeat (first | (with_reducible first | exact HB.out | apply ya | apply yd | apply ye) | exact HB.out))) : w.heap.size ≤ gb238)); have n3_ := n2_; clear HB; have HB := n0_; have BK238 := n1_; have GW238 := n2_; have GE238 := n3_; clear n0_ n1_ n2_ n3_; clear hb hbox hg; have hcz41_0 : w40.cell? ⟨gb238, 0, none⟩ = some (.slice A0_0 l0_0.length c0_0) := (yw BK238.out 0).trans rfl; have hcz41_1 : w40.cell? ⟨gb238, 1, none⟩ = some (.slice A0_1 l0_1.length c0_1) := (yw BK238.out 1).trans rfl; have hfz41_0 := yv BK238.out 0; have hfz41_1 := yv BK238.out 1) | ((with_reducible refine gate_callee (f := 13) rfl ?_); refine goesL_ (some 9) rfl rfl Try.func13 (by kernel_rfl) rfl #[.agg #[.slice A0_0 l0_0.length c0_0, .slice A0_1 l0_1.length c0_1]] rfl (by (try simp only [List.map_toArray, List.map_cons, List.map_nil]); first | done | rfl | (simp only [List.length_drop, List.length_take]; rfl)) ?_; (with_reducible refine (heraldlaw15_given.calls k _ _ l0_0 _ _ l0_1 t239 t242 _ ?side1 ?side2 ?side3 ?side4 A4.out).mono ?_); (case side1 => repeat (first | exact (Kd.C_below HR0_0.out HB.out) | (with_reducible refine yi ?_ _) | (with_reducible refine yj ?_ _) | (with_reducible refine yk ?_))); (case side2 => exact HC0_0.out); (case side3 => repeat (first | exact (Kd.C_below HR0_1.out HB.out) | (with_reducible refine yi ?_ _) | (with_reducible refine yj ?_ _) | (with_reducible refine yk ?_))); (case side4 => exact HC0_1.out); rintro e w42 ⟨v240, v243, rfl, ho0, ho1, hb⟩; refine ⟨_, rfl, ?_⟩; have n0_ := ym (yo ho0 (below_size (by repeat (first | (with_reducible first | exact HB.out | apply ya | apply yd | apply ye | refine ys ?_ GE238.out) | exact HB.out)))); have n1_ := ym (yo ho1 (below_size (by repeat (first | (with_reducible first | exact HB.out | apply ya | apply yd | apply ye | refine ys ?_ GE238.out) | exact HB.out)))); have n2_ := ym (yq (g := gb238) (o := .cells #[.slice A0_0 l0_0.length c0_0, .slice A0_1 l0_1.length c0_1] 25 (0, 0)) (by (with_reducible repeat (first | refine yr ?_ _ | refine yt ?_ | refine yu ?_ _)); exact BK238.out) hb); have n3_ := ym (yn (by repeat (first | (with_reducible first | exact HB.out | apply ya | apply yd | apply ye | refine ys ?_ GE238.out) | exact HB.out)) hb); clear BK238; clear HB; have HO241 := n0_; have HO244 := n1_; have BK238 := n2_; have HB := n3_; clear n0_ n1_ n2_ n3_; (try clear hb); (try clear hb2); (try clear hk); (try clear hi); (try clear ho0); (try clear ho1)) | ((with_reducible refine gate_dst (N := 7) rfl ?_); refine box_event ?hg (N := 7) ?hd (cs := #[.slice none 0 0, .slice none 0 0]) (t := 28) ?hr ?_; (case hd => rfl); (case hg => rfl); (case hr => first | (go_simp; done) | (go_simp; rfl)); intro gb245 hg w43 hbox hb; have n0_ := ym (yp (by (with_reducible repeat (first | apply yf | apply yg | apply yh)); exact HO241.out) hb); have n1_ := ym (yp (by (with_reducible repeat (first | apply yf | apply yg | apply yh)); exact HO244.out) hb); have n2_ := ym (yq (g := gb238) (o := .cells #[.slice A0_0 l0_0.length c0_0, .slice A0_1 l0_1.length c0_1] 25 (0, 0)) (by (with_reducible repeat (first | refine yr ?_ _ | refine yt ?_ | refine yu ?_ _)); exact BK238.out) hb); have n3_ := ym (yn (by repeat (first | (with_reducible first | exact HB.out | apply ya | apply yd | apply ye | refine ys ?_ GE238.out) | exact HB.out)) hb); have n4_ := ym (hbox); have n5_ := ym ((by rw [hg]; exact (below_size (by repeat (first | (with_reducible first | exact HB.out | apply ya | apply yd | apply ye | refine ys ?_ GE238.out) | exact HB.out))) : w.heap.size ≤ gb245)); have n6_ := n5_; have n7_ := ym ((by rw [hg]; exact Nat.ne_of_lt (blk_lt (g := gb238) (o := .cells #[.slice A0_0 l0_0.length c0_0, .slice A0_1 l0_1.length c0_1] 25 (0, 0)) (by (with_reducible repeat (first | refine yr ?_ _ | refine yt ?_ | refine yu ?_ _)); exact BK238.out)) : gb238 ≠ gb245)); have n8_ := ym ((by rw [hg]; exact Nat.ne_of_gt (blk_lt (g := gb238) (o := .cells #[.slice A0_0 l0_0.length c0_0, .slice A0_1 l0_1.length c0_1] 25 (0, 0)) (by (with_reducible repeat (first | refine yr ?_ _ | refine yt ?_ | refine yu ?_ _)); exact BK238.out)) : gb245 ≠ gb238)); clear HO241; clear HO244; clear BK238; clear HB; have HO241 := n0_; have HO244 := n1_; have BK238 := n2_; have HB := n3_; have BK245 := n4_; have GW245 := n5_; have GE245 := n6_; have NB238_245 := n7_; have NB245_238 := n8_; clear n0_ n1_ n2_ n3_ n4_ n5_ n6_ n7_ n8_; clear hb hbox hg; obtain ⟨Ao44, co44, eo44⟩ := Kd.R_slice HO241.out; subst eo44; have hnb45 := NB245_238.out; have hnc45 := NB238_245.out; have hcz46_0 : w43.cell? ⟨gb245, 0, none⟩ = some (.slice none 0 0) := (yw BK245.out 0).trans rfl; have hcz46_1 : w43.cell? ⟨gb245, 1, none⟩ = some (.slice none 0 0) := (yw BK245.out 1).trans rfl; have hfz46_0 := yv BK245.out 0; have hfz46_1 := yv BK245.out 1; obtain ⟨Ao47, co47, eo47⟩ := Kd.R_slice HO244.out; subst eo47))
 have n0_ : Aside0 (Kd.R Kd.bool 4 ((w43.setCell ⟨gb245, 0, none⟩ (.slice Ao44 t239.length co44)).setCell ⟨gb245, 1, none⟩ (.slice Ao47 t242.length co47)) w.heap.size (fun _ => True) (.slice Ao44 t239.length co44) t239) := ⟨by (with_reducible repeat (first | apply yf | apply yg | apply yh)); exact Kd.R_mono (Kd.R_far (p := ⟨gb245, 1, none⟩) (Kd.R_far (p := ⟨gb245, 0, none⟩) (Kd.R_types HO241.out BK245.out (by decide)) (fun _ hk => hk.2) (.slice Ao44 t239.length co44)) (fun _ hk => hk.2) (.slice Ao47 t242.length co47)) (fun _ hk => trivial)⟩
 have n1_ : Aside0 (Kd.R k93 93 ((w43.setCell ⟨gb245, 0, none⟩ (.slice Ao44 t239.length co44)).setCell ⟨gb245, 1, none⟩ (.slice Ao47 t242.length co47)) w.heap.size (fun _ => True) (.slice Ao47 t242.length co47) t242) := ⟨by (with_reducible repeat (first | apply yf | apply yg | apply yh)); exact Kd.R_mono (Kd.R_far (p := ⟨gb245, 1, none⟩) (Kd.R_far (p := ⟨gb245, 0, none⟩) (Kd.R_types HO244.out BK245.out (by decide)) (fun _ hk => hk.2) (.slice Ao44 t239.length co44)) (fun _ hk => hk.2) (.slice Ao47 t242.length co47)) (fun _ hk => trivial)⟩
 have n2_ : Aside0 (((w43.setCell ⟨gb245, 0, none⟩ (.slice Ao44 t239.length co44)).setCell ⟨gb245, 1, none⟩ (.slice Ao47 t242.length co47)).heap[gb238]? = some (.cells #[.slice A0_0 l0_0.length c0_0, .slice A0_1 l0_1.length c0_1] 25 (0, 0))) := ⟨by (with_reducible repeat (first | refine yr ?_ _ | refine yt ?_ | refine yu ?_ _)); refine yx ?_ NB238_245.out _; (with_reducible repeat (first | refine yr ?_ _ | refine yt ?_ | refine yu ?_ _)); refine yx ?_ NB238_245.out _; (with_reducible repeat (first | refine yr ?_ _ | refine yt ?_ | refine yu ?_ _)); exact BK238.out⟩
 have n3_ : Aside0 (((w43.setCell ⟨gb245, 0, none⟩ (.slice Ao44 t239.length co44)).setCell ⟨gb245, 1, none⟩ (.slice Ao47 t242.length co47)).heap[gb245]? = some (.cells #[.slice Ao44 t239.length co44, .slice Ao47 t242.length co47] 28 (0, 0))) := ⟨by (with_reducible repeat (first | refine yr ?_ _ | refine yt ?_ | refine yu ?_ _)); refine yy (cs := #[.slice Ao44 t239.length co44, .slice none 0 0]) ?_ 1 _ rfl; (with_reducible repeat (first | refine yr ?_ _ | refine yt ?_ | refine yu ?_ _)); refine yy (cs := #[.slice none 0 0, .slice none 0 0]) ?_ 0 _ rfl; (with_reducible repeat (first | refine yr ?_ _ | refine yt ?_ | refine yu ?_ _)); exact BK245.out⟩
 have n4_ : Aside0 (Below w.heap.size w ((w43.setCell ⟨gb245, 0, none⟩ (.slice Ao44 t239.length co44)).setCell ⟨gb245, 1, none⟩ (.slice Ao47 t242.length co47))) := ⟨by repeat (first | (with_reducible first | exact HB.out | apply ya | apply yd | apply ye | refine ys ?_ GE238.out | refine ys ?_ GE245.out) | exact HB.out)⟩
 (try clear HO241)
 (try clear HO244)
 (try clear BK238)
 (try clear BK245)
 (try clear HB)
 generalize ((w43.setCell ⟨gb245, 0, none⟩ (.slice Ao44 t239.length co44)).setCell ⟨gb245, 1, none⟩ (.slice Ao47 t242.length co47)) = w48 at n0_ n1_ n2_ n3_ n4_ ⊢
 have HO241 := n0_
 have HO244 := n1_
 have BK238 := n2_
 have BK245 := n3_
 have HB := n4_
 clear n0_ n1_ n2_ n3_ n4_
 have n0_ := ym (yh HO241.out)
 have n1_ := ym (yh HO244.out)
 have n2_ := ym (yt BK238.out)
 have n3_ := ym (yt BK245.out)
 have n4_ := ym (ye HB.out)
 clear HO241
 clear HO244
 clear BK238
 clear BK245
 clear HB
 have HO241 := n0_
 have HO244 := n1_
 have BK238 := n2_
 have BK245 := n3_
 have HB := n4_
 clear n0_ n1_ n2_ n3_ n4_
 refine start_ (n := 22) (S := fun w' => True) (ds := []) #[false, false, false, false, false, false, false, false, false, false, false, false, false, false, false, false, false, false, false, false, false, false] (by kernel_rfl) rfl rfl trivial (fun hHeld => ?_); refine with_tabW heraldlaw15_GuideWalks.tab2 heraldlaw15_GuideWalks.bits2 (fun HT_ HW_ => ?_)
 generalize w48.drew = w49 at HO241 HO244 BK238 BK245 HB hHeld ⊢
 refine one_ (i := 0) (N := some 10) #[true, false, false, false, false, false, false, false, false, false, false, false, false, false, false, false, false, false, false, false, false, false] rfl rfl (one_of HT_.out (by kernel_rfl)) (by decide) (fun K hK => ?_)
 refine goes_ Try.func14 (by kernel_rfl) rfl #[] (by rfl) rfl rfl (by (try simp only [List.map_toArray, List.map_cons, List.map_nil]); first | done | rfl | (simp only [List.length_drop, List.length_take]; rfl)) ?_
 with_reducible refine (heraldlaw15_awake.calls k  false _ A5.out).mono ?_
 rintro e w50 ⟨rfl, hb⟩
 refine ⟨_, rfl, ?_⟩
 have n0_ := ym (yp (by (with_reducible repeat (first | apply yf | apply yg | apply yh)); exact HO241.out) hb)
 have n1_ := ym (yp (by (with_reducible repeat (first | apply yf | apply yg | apply yh)); exact HO244.out) hb)
 have n2_ := ym (yq (g := gb238) (o := .cells #[.slice A0_0 l0_0.length c0_0, .slice A0_1 l0_1.length c0_1] 25 (0, 0)) (by (with_reducible repeat (first | refine yr ?_ _ | refine yt ?_ | refine yu ?_ _)); exact BK238.out) hb)
 have n3_ := ym (yq (g := gb245) (o := .cells #[.slice Ao44 t239.length co44, .slice Ao47 t242.length co47] 28 (0, 0)) (by (with_reducible repeat (first | refine yr ?_ _ | refine yt ?_ | refine yu ?_ _)); exact BK245.out) hb)
 have n4_ := ym (yn (by repeat (first | (with_reducible first | exact HB.out | apply ya | apply yd | apply ye | refine ys ?_ GE238.out | refine ys ?_ GE245.out) | exact HB.out)) hb)
 clear HO241
 clear HO244
 clear BK238
 clear BK245
 clear HB
 have HO241 := n0_
 have HO244 := n1_
 have BK238 := n2_
 have BK245 := n3_
 have HB := n4_
 clear n0_ n1_ n2_ n3_ n4_
 (try clear hb)
 (try clear hb2)
 (try clear hk)
 (try clear hi)
 refine hK.out _ _ trivial (fun hHeld => ?_)
 clear hK K
 refine norm_ (a' := ?_) ?_ ?_
 rotate_left
 ·
  show Act.put _ (some 10) _ = _
  simp only [Act.put, List.setIfInBounds_toArray, List.set_cons_zero, List.set_cons_succ, i64_w, i32_w]
  rfl
 refine pure_ (i := 1) (N := some 11) (v := ?_) (a' := ?_) #[true, true, false, false, false, false, false, false, false, false, false, false, false, false, false, false, false, false, false, false, false, false] rfl rfl (any_of HT_.out (by kernel_rfl)) (fun _ _ _ h => h) (Or.inl ⟨by rfl, ?_⟩) ?_ ?_
 rotate_left
 ·
  intro w'
  go_simp
  with_reducible rfl
 rotate_left
 ·
  simp only [Act.put, List.setIfInBounds_toArray, List.set_cons_zero, List.set_cons_succ, i64_w, i32_w]
  rfl
 refine pure_ (i := 2) (N := some 12) (v := undef) (a' := ?_) #[true, true, true, false, false, false, false, false, false, false, false, false, false, false, false, false, false, false, false, false, false, false] rfl rfl (any_of HT_.out (by kernel_rfl)) (fun _ _ _ h => h) (Or.inr ⟨by rfl, rfl⟩) ?_ ?_
 rotate_left
 ·
  simp only [Act.put, List.setIfInBounds_toArray, List.set_cons_zero, List.set_cons_succ, i64_w, i32_w]
  rfl
 refine pure_ (i := 3) (N := some 13) (v := undef) (a' := ?_) #[true, true, true, true, false, false, false, false, false, false, false, false, false, false, false, false, false, false, false, false, false, false] rfl rfl (any_of HT_.out (by kernel_rfl)) (fun _ _ _ h => h) (Or.inr ⟨by rfl, rfl⟩) ?_ ?_
 rotate_left
 ·
  simp only [Act.put, List.setIfInBounds_toArray, List.set_cons_zero, List.set_cons_succ, i64_w, i32_w]
  rfl
 refine pure_ (i := 4) (N := some 14) (v := undef) (a' := ?_) #[true, true, true, true, true, false, false, false, false, false, false, false, false, false, false, false, false, false, false, false, false, false] rfl rfl (any_of HT_.out (by kernel_rfl)) (fun _ _ _ h => h) (Or.inr ⟨by rfl, rfl⟩) ?_ ?_
 rotate_left
 ·
  simp only [Act.put, List.setIfInBounds_toArray, List.set_cons_zero, List.set_cons_succ, i64_w, i32_w]
  rfl
 refine pure_ (i := 5) (N := some 15) (v := undef) (a' := ?_) #[true, true, true, true, true, true, false, false, false, false, false, false, false, false, false, false, false, false, false, false, false, false] rfl rfl (any_of HT_.out (by kernel_rfl)) (fun _ _ _ h => h) (Or.inr ⟨by rfl, rfl⟩) ?_ ?_
 rotate_left
 ·
  simp only [Act.put, List.setIfInBounds_toArray, List.set_cons_zero, List.set_cons_succ, i64_w, i32_w]
  rfl
 refine pure_ (i := 6) (N := some 16) (v := undef) (a' := ?_) #[true, true, true, true, true, true, true, false, false, false, false, false, false, false, false, false, false, false, false, false, false, false] rfl rfl (any_of HT_.out (by kernel_rfl)) (fun _ _ _ h => h) (Or.inr ⟨by rfl, rfl⟩) ?_ ?_
 rotate_left
 ·
  simp only [Act.put, List.setIfInBounds_toArray, List.set_cons_zero, List.set_cons_succ, i64_w, i32_w]
  rfl
 refine pure_ (i := 7) (N := some 17) (v := undef) (a' := ?_) #[true, true, true, true, true, true, true, true, false, false, false, false, false, false, false, false, false, false, false, false, false, false] rfl rfl (any_of HT_.out (by kernel_rfl)) (fun _ _ _ h => h) (Or.inr ⟨by rfl, rfl⟩) ?_ ?_
 rotate_left
 ·
  simp only [Act.put, List.setIfInBounds_toArray, List.set_cons_zero, List.set_cons_succ, i64_w, i32_w]
  rfl
 refine pure_ (i := 8) (N := some 18) (v := undef) (a' := ?_) #[true, true, true, true, true, true, true, true, true, false, false, false, false, false, false, false, false, false, false, false, false, false] rfl rfl (any_of HT_.out (by kernel_rfl)) (fun _ _ _ h => h) (Or.inr ⟨by rfl, rfl⟩) ?_ ?_
 rotate_left
 ·
  simp only [Act.put, List.setIfInBounds_toArray, List.set_cons_zero, List.set_cons_succ, i64_w, i32_w]
  rfl
 refine pure_ (i := 9) (N := some 19) (v := undef) (a' := ?_) #[true, true, true, true, true, true, true, true, true, true, false, false, false, false, false, false, false, false, false, false, false, false] rfl rfl (any_of HT_.out (by kernel_rfl)) (fun _ _ _ h => h) (Or.inr ⟨by rfl, rfl⟩) ?_ ?_
 rotate_left
 ·
  simp only [Act.put, List.setIfInBounds_toArray, List.set_cons_zero, List.set_cons_succ, i64_w, i32_w]
  rfl
 refine pure_ (i := 10) (N := some 20) (v := undef) (a' := ?_) #[true, true, true, true, true, true, true, true, true, true, true, false, false, false, false, false, false, false, false, false, false, false] rfl rfl (any_of HT_.out (by kernel_rfl)) (fun _ _ _ h => h) (Or.inr ⟨by rfl, rfl⟩) ?_ ?_
 rotate_left
 ·
  simp only [Act.put, List.setIfInBounds_toArray, List.set_cons_zero, List.set_cons_succ, i64_w, i32_w]
  rfl
 refine pure_ (i := 11) (N := some 21) (v := ?_) (a' := ?_) #[true, true, true, true, true, true, true, true, true, true, true, true, false, false, false, false, false, false, false, false, false, false] rfl rfl (any_of HT_.out (by kernel_rfl)) (fun _ _ _ h => h) (Or.inl ⟨by rfl, ?_⟩) ?_ ?_
 rotate_left
 ·
  intro w'
  go_simp
  with_reducible rfl
 rotate_left
 ·
  simp only [Act.put, List.setIfInBounds_toArray, List.set_cons_zero, List.set_cons_succ, i64_w, i32_w]
  rfl
 refine pure_ (i := 12) (N := some 22) (v := ?_) (a' := ?_) #[true, true, true, true, true, true, true, true, true, true, true, true, true, false, false, false, false, false, false, false, false, false] rfl rfl (any_of HT_.out (by kernel_rfl)) (fun _ _ _ h => h) (Or.inl ⟨by rfl, ?_⟩) ?_ ?_
 rotate_left
 ·
  intro w'
  go_simp
  with_reducible rfl
 rotate_left
 ·
  simp only [Act.put, List.setIfInBounds_toArray, List.set_cons_zero, List.set_cons_succ, i64_w, i32_w]
  rfl
 refine pure_ (i := 13) (N := some 23) (v := undef) (a' := ?_) #[true, true, true, true, true, true, true, true, true, true, true, true, true, true, false, false, false, false, false, false, false, false] rfl rfl (any_of HT_.out (by kernel_rfl)) (fun _ _ _ h => h) (Or.inr ⟨by rfl, rfl⟩) ?_ ?_
 rotate_left
 ·
  simp only [Act.put, List.setIfInBounds_toArray, List.set_cons_zero, List.set_cons_succ, i64_w, i32_w]
  rfl
 refine pure_ (i := 14) (N := some 24) (v := undef) (a' := ?_) #[true, true, true, true, true, true, true, true, true, true, true, true, true, true, true, false, false, false, false, false, false, false] rfl rfl (any_of HT_.out (by kernel_rfl)) (fun _ _ _ h => h) (Or.inr ⟨by rfl, rfl⟩) ?_ ?_
 rotate_left
 ·
  simp only [Act.put, List.setIfInBounds_toArray, List.set_cons_zero, List.set_cons_succ, i64_w, i32_w]
  rfl
 refine pure_ (i := 15) (N := some 25) (v := undef) (a' := ?_) #[true, true, true, true, true, true, true, true, true, true, true, true, true, true, true, true, false, false, false, false, false, false] rfl rfl (any_of HT_.out (by kernel_rfl)) (fun _ _ _ h => h) (Or.inr ⟨by rfl, rfl⟩) ?_ ?_
 rotate_left
 ·
  simp only [Act.put, List.setIfInBounds_toArray, List.set_cons_zero, List.set_cons_succ, i64_w, i32_w]
  rfl
 refine pure_ (i := 16) (N := some 26) (v := undef) (a' := ?_) #[true, true, true, true, true, true, true, true, true, true, true, true, true, true, true, true, true, false, false, false, false, false] rfl rfl (any_of HT_.out (by kernel_rfl)) (fun _ _ _ h => h) (Or.inr ⟨by rfl, rfl⟩) ?_ ?_
 rotate_left
 ·
  simp only [Act.put, List.setIfInBounds_toArray, List.set_cons_zero, List.set_cons_succ, i64_w, i32_w]
  rfl
 refine pure_ (i := 17) (N := some 27) (v := undef) (a' := ?_) #[true, true, true, true, true, true, true, true, true, true, true, true, true, true, true, true, true, true, false, false, false, false] rfl rfl (any_of HT_.out (by kernel_rfl)) (fun _ _ _ h => h) (Or.inr ⟨by rfl, rfl⟩) ?_ ?_
 rotate_left
 ·
  simp only [Act.put, List.setIfInBounds_toArray, List.set_cons_zero, List.set_cons_succ, i64_w, i32_w]
  rfl
 refine pure_ (i := 18) (N := some 28) (v := undef) (a' := ?_) #[true, true, true, true, true, true, true, true, true, true, true, true, true, true, true, true, true, true, true, false, false, false] rfl rfl (any_of HT_.out (by kernel_rfl)) (fun _ _ _ h => h) (Or.inr ⟨by rfl, rfl⟩) ?_ ?_
 rotate_left
 ·
  simp only [Act.put, List.setIfInBounds_toArray, List.set_cons_zero, List.set_cons_succ, i64_w, i32_w]
  rfl
 refine pure_ (i := 19) (N := some 29) (v := undef) (a' := ?_) #[true, true, true, true, true, true, true, true, true, true, true, true, true, true, true, true, true, true, true, true, false, false] rfl rfl (any_of HT_.out (by kernel_rfl)) (fun _ _ _ h => h) (Or.inr ⟨by rfl, rfl⟩) ?_ ?_
 rotate_left
 ·
  simp only [Act.put, List.setIfInBounds_toArray, List.set_cons_zero, List.set_cons_succ, i64_w, i32_w]
  rfl
 refine pure_ (i := 20) (N := some 30) (v := ?_) (a' := ?_) #[true, true, true, true, true, true, true, true, true, true, true, true, true, true, true, true, true, true, true, true, true, false] rfl rfl (any_of HT_.out (by kernel_rfl)) (fun _ _ _ h => h) (Or.inl ⟨by rfl, ?_⟩) ?_ ?_
 rotate_left
 ·
  intro w'
  go_simp
  with_reducible rfl
 rotate_left
 ·
  simp only [Act.put, List.setIfInBounds_toArray, List.set_cons_zero, List.set_cons_succ, i64_w, i32_w]
  rfl
 refine pure_ (i := 21) (N := some 6) (v := ?_) (a' := ?_) #[true, true, true, true, true, true, true, true, true, true, true, true, true, true, true, true, true, true, true, true, true, true] rfl rfl (any_of HT_.out (by kernel_rfl)) (fun _ _ _ h => h) (Or.inl ⟨by rfl, ?_⟩) ?_ ?_
 rotate_left
 ·
  intro w'
  go_simp
  with_reducible rfl
 rotate_left
 ·
  simp only [Act.put, List.setIfInBounds_toArray, List.set_cons_zero, List.set_cons_succ, i64_w, i32_w]
  rfl
 refine done_ (done_of HT_.out (by kernel_rfl)) ?_
 try go_wp2
 go_ret
 exact ⟨by first | rfl | (simp [errW_none, errW_some] <;> rfl) | (simp [*, errW_none, errW_some] <;> rfl), by repeat (first | (with_reducible first | exact HB.out | apply ya | apply yd | apply ye | refine ys ?_ GE238.out | refine ys ?_ GE245.out) | exact HB.out)⟩

end Go.Proofs.Ytfjpnmhbbfiaaaa.P
