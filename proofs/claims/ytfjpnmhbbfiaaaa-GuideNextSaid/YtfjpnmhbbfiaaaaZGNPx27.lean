-- Printed by xprint.py (wip): functions, contracts, rows. Lean checks it.
import Derived.Test.YtfjpnmhbbfiaaaaZGNPx0
import Derived.Test.YtfjpnmhbbfiaaaaZGNPx25
import Derived.Test.YtfjpnmhbbfiaaaaZGNTiny
namespace Go.Proofs.Ytfjpnmhbbfiaaaa.P
open Go.RowKit Go.Proofs.YtfjpnmhbbfiaaaaW.PrintWords Go.Proofs.YtfjpnmhbbfiaaaaW.PrintLast Go.Proofs.YtfjpnmhbbfiaaaaW.PrintMore
attribute [local go_sem] max2_int min2_int max_two min_two max_three min_three max_four min_four   -- for this text's walks alone
set_option linter.unusedVariables false
set_option linter.unusedSimpArgs false

/-! ### heraldref15_State: function 28 -/
def heraldref15_State.l0 : Nat → List Int → Int → Int → List Bool → List (S93) → List ByteArray → List (S100) → Option (Int)
  | 0, _, _, _, _, _, _, _ => none
  | k + 1, x2, x7, x8, x296000, x296001, x297000, x297001 => if x8 < (x2.length : Int) then (if 0 ≤ x8 then ((heraldref15_Next.f k x296000 x296001 x297000 x297001 x7 (rd x2 x8)).bind fun t298 => (heraldref15_State.l0 k x2 t298 (wrap64 (x8 + 1)) x296000 x296001 x297000 x297001)) else (none)) else (some x7)
def heraldref15_State.f (k : Nat) (l0_0 : List Bool) (l0_1 : List (S93)) (l1_0 : List ByteArray) (l1_1 : List (S100)) (l2 : List Int) : Option (Int) := heraldref15_State.l0 k l2 0 0 l0_0 l0_1 l1_0 l1_1
theorem heraldref15_State.mono_l : ∀ k, (∀ y0 y1 y2 y3 y4 y5 y6, LeO (heraldref15_State.l0 k y0 y1 y2 y3 y4 y5 y6) (heraldref15_State.l0 (k + 1) y0 y1 y2 y3 y4 y5 y6))
  | 0 => fun _ _ _ _ _ _ _ r h => by simp [heraldref15_State.l0] at h
  | k + 1 => by
    have ih0 := heraldref15_State.mono_l k
    · intro y0 y1 y2 y3 y4 y5 y6
      unfold heraldref15_State.l0
      repeat' first
      | (with_reducible exact ih0 _ _ _ _ _ _ _)
      | (with_reducible exact heraldref15_Next.mono _ _ _ _ _ _ _)
      | (with_reducible exact LeO.refl _)
      | (with_reducible exact LeO.none _)
      | (with_reducible refine LeO.ite ?_ ?_)
      | (with_reducible refine LeO.bind ?_ (fun _ => ?_))
      | exact ih0 _ _ _ _ _ _ _
      | exact heraldref15_Next.mono _ _ _ _ _ _ _
      | exact LeO.none _
      | refine LeO.ite ?_ ?_
      | refine LeO.bind ?_ (fun _ => ?_)
theorem heraldref15_State.mono : ∀ a0 a1 a2 a3 a4 k, LeO (heraldref15_State.f k a0 a1 a2 a3 a4) (heraldref15_State.f (k + 1) a0 a1 a2 a3 a4) := by
  intro a0 a1 a2 a3 a4 k
  have ih0 := heraldref15_State.mono_l k
  unfold heraldref15_State.f
  repeat' first
      | (with_reducible exact ih0 _ _ _ _ _ _ _)
      | (with_reducible exact heraldref15_Next.mono _ _ _ _ _ _ _)
      | (with_reducible exact LeO.refl _)
      | (with_reducible exact LeO.none _)
      | (with_reducible refine LeO.ite ?_ ?_)
      | (with_reducible refine LeO.bind ?_ (fun _ => ?_))
      | exact ih0 _ _ _ _ _ _ _
      | exact heraldref15_Next.mono _ _ _ _ _ _ _
      | exact LeO.none _
      | refine LeO.ite ?_ ?_
      | refine LeO.bind ?_ (fun _ => ?_)
def heraldref15_State.T5 : Bool × List (List Nat × List Nat) := (true, [([], []), ([], []), ([], []), ([], []), ([], []), ([3, 4], [3, 4]), ([5], [5]), ([0, 1, 2, 6], [0, 1, 2, 6]), ([7, 7, 0, 1, 2, 3, 4, 5, 6, 7], [2, 7])])
def heraldref15_State.B5 : List Nat := [0, 0, 0, 0, 0, 24, 56, 127, 255]
theorem heraldref15_State.tab5 : rtab .any (opsOf Try.f28 5) = heraldref15_State.T5 := by kernel_rfl
theorem heraldref15_State.bits5 : waitsOk heraldref15_State.T5.2 heraldref15_State.B5 = true := by kernel_rfl
set_option maxHeartbeats 8000000 in
set_option maxRecDepth 100000 in
theorem heraldref15_State.calls (k : Nat) (A0_0 : Option Addr) (c0_0 : Nat) (l0_0 : List Bool) (A0_1 : Option Addr) (c0_1 : Nat) (l0_1 : List (S93)) (A1_0 : Option Addr) (c1_0 : Nat) (l1_0 : List ByteArray) (A1_1 : Option Addr) (c1_1 : Nat) (l1_1 : List (S100)) (A2 : Option Addr) (c2 : Nat) (l2 : List Int) (r : Int) (w : World) (hr0_0 : Kd.C Kd.bool w A0_0 l0_0.length l0_0) (hc0_0 : l0_0.length ≤ c0_0) (hr0_1 : Kd.C k93 w A0_1 l0_1.length l0_1) (hc0_1 : l0_1.length ≤ c0_1) (hr1_0 : Kd.C Kd.string w A1_0 l1_0.length l1_0) (hc1_0 : l1_0.length ≤ c1_0) (hr1_1 : Kd.C k100 w A1_1 l1_1.length l1_1) (hc1_1 : l1_1.length ≤ c1_1) (hr2 : Kd.C (Kd.int .i64) w A2 l2.length l2) (hc2 : l2.length ≤ c2) (h : heraldref15_State.f k l0_0 l0_1 l1_0 l1_1 l2 = some r) :
    Calls Try.prog 28 #[.agg #[.slice A0_0 l0_0.length c0_0, .slice A0_1 l0_1.length c0_1], .agg #[.slice A1_0 l1_0.length c1_0, .slice A1_1 l1_1.length c1_1], .slice A2 l2.length c2] w fun e w' => e = .returned (.int .i64 r) ∧ Below w.heap.size w w' := by
 have hu28 := Try.underlying28
 have hu56 := Try.underlying56
 have HR0_0 := ym hr0_0
 have HC0_0 := ym hc0_0
 clear hr0_0 hc0_0
 have HR0_1 := ym hr0_1
 have HC0_1 := ym hc0_1
 clear hr0_1 hc0_1
 have HR1_0 := ym hr1_0
 have HC1_0 := ym hc1_0
 clear hr1_0 hc1_0
 have HR1_1 := ym hr1_1
 have HC1_1 := ym hc1_1
 clear hr1_1 hc1_1
 have HR2 := ym hr2
 have HC2 := ym hc2
 clear hr2 hc2
 have HB := ym (Below.refl w.heap.size w)
 have H : (heraldref15_State.l0 k l2 0 0 l0_0 l0_1 l1_0 l1_1) = some r := h
 clear h
 have H' := ym H
 clear H
 go_enter Try.func28, Try.ntmps28
 go_wp2_with (first | ((with_reducible refine gate_dst (N := 3) rfl ?_); refine box_event ?hg (N := 3) ?hd (cs := #[.slice A0_0 l0_0.length c0_0, .slice A0_1 l0_1.length c0_1]) (t := 28) ?hr ?_; (case hd => rfl); (case hg => rfl); (case hr => first | (go_simp; done) | (go_simp; rfl)); intro gb295 hg w4 hbox hb; have n0_ := ym (yn yb hb); have n1_ := ym (hbox); have n2_ := ym ((by rw [hg]; exact (below_size yb) : w.heap.size ≤ gb295)); have n3_ := n2_; clear HB; have HB := n0_; have BK295 := n1_; have GW295 := n2_; have GE295 := n3_; clear n0_ n1_ n2_ n3_; clear hb hbox hg) | ((with_reducible refine gate_dst (N := 4) rfl ?_); refine box_event ?hg (N := 4) ?hd (cs := #[.slice A1_0 l1_0.length c1_0, .slice A1_1 l1_1.length c1_1]) (t := 56) ?hr ?_; (case hd => rfl); (case hg => rfl); (case hr => first | (go_simp; done) | (go_simp; rfl)); intro gb296 hg w5 hbox hb; have n0_ := ym (yq (g := gb295) (o := .cells #[.slice A0_0 l0_0.length c0_0, .slice A0_1 l0_1.length c0_1] 28 (0, 0)) (yc BK295) hb); have n1_ := ym (yn yb hb); have n2_ := ym (hbox); have n3_ := ym ((by rw [hg]; exact (below_size yb) : w.heap.size ≤ gb296)); have n4_ := n3_; have n5_ := ym ((by rw [hg]; exact Nat.ne_of_lt (blk_lt (g := gb295) (o := .cells #[.slice A0_0 l0_0.length c0_0, .slice A0_1 l0_1.length c0_1] 28 (0, 0)) (yc BK295)) : gb295 ≠ gb296)); have n6_ := ym ((by rw [hg]; exact Nat.ne_of_gt (blk_lt (g := gb295) (o := .cells #[.slice A0_0 l0_0.length c0_0, .slice A0_1 l0_1.length c0_1] 28 (0, 0)) (yc BK295)) : gb296 ≠ gb295)); clear BK295; clear HB; have BK295 := n0_; have HB := n1_; have BK296 := n2_; have GW296 := n3_; have GE296 := n4_; have NB295_296 := n5_; have NB296_295 := n6_; clear n0_ n1_ n2_ n3_ n4_ n5_ n6_; clear hb hbox hg))
 go_loopg [7, 8] k (fun kq v7 v8 w' => ∃ (x7_1 : Int) (x8_1 : Int), v7 = .int .i64 x7_1 ∧ v8 = .int .i64 x8_1 ∧ Aside0 (heraldref15_State.l0 kq l2 x7_1 x8_1 l0_0 l0_1 l1_0 l1_1 = some r) ∧ Aside0 (kq ≤ k) ∧ Aside0 (w'.heap[gb295]? = some (.cells #[(.slice A0_0 l0_0.length c0_0), (.slice A0_1 l0_1.length c0_1)] 28 (0, 0))) ∧ Aside0 (w'.heap[gb296]? = some (.cells #[(.slice A1_0 l1_0.length c1_0), (.slice A1_1 l1_1.length c1_1)] 56 (0, 0))) ∧ Aside0 (Below w.heap.size w w'))
 case atStart => exact ⟨(0), (0), y7, y7, H', ⟨Nat.le_refl _⟩, ⟨by (with_reducible repeat refine y4 ?_); exact BK295.out⟩, ⟨by (with_reducible repeat refine y4 ?_); exact BK296.out⟩, ⟨by repeat (first | (with_reducible first | exact HB.out | apply y3 | refine ys ?_ GE295.out | refine ys ?_ GE296.out) | exact HB.out)⟩⟩
 case round =>
  clear H'
  try clear c1
  try clear c2
  try clear p2
  obtain ⟨x7_1, x8_1, rfl, rfl, HA, HK1, BK295, BK296, HB⟩ := hrel
  cases gk with
  | zero => exact absurd HA.out (by simp [heraldref15_State.l0])
  | succ k1 =>
   have H := HA.out
   clear HA
   simp only [heraldref15_State.l0] at H
   by_cases c6 : x8_1 < (l2.length : Int)
   ·
    rw [if_pos c6] at H
    have c6b0 : decide (x8_1 < (l2.length : Int)) = true := decide_eq_true c6
    clear c6
    by_cases c7 : 0 ≤ x8_1
    ·
     rw [if_pos c7] at H
     have c7b0 : decide (0 ≤ x8_1) = true := decide_eq_true c7
     clear c7
     replace H := Option.bind_eq_some_iff.mp H
     obtain ⟨t298, A80, H⟩ := H
     replace H : (heraldref15_State.l0 k1 l2 t298 (wrap64 (x8_1 + 1)) l0_0 l0_1 l1_0 l1_1) = some r := H
     have A8 := ym A80
     clear A80
     have H' := ym H
     clear H
     try go_wp2
     have n0_ := ym (yt BK295.out)
     have n1_ := ym (yt BK296.out)
     have n2_ := ym (ye HB.out)
     clear BK295
     clear BK296
     clear HB
     have BK295 := n0_
     have BK296 := n1_
     have HB := n2_
     clear n0_ n1_ n2_
     have p297 : 0 ≤ (x8_1 : Int) := of_decide_eq_true y5
     have q297 : x8_1 < (l2.length : Int) := of_decide_eq_true y5
     obtain ⟨ad297, e297, hx297_0⟩ := Kd.at_int HR2.out x8_1 p297 q297
     have hw297_0 := hx297_0
     cases e297
     replace hx297_0 := (HB.out.cell (World.block_lt_of_cell? w _ hx297_0)).trans hx297_0
     replace p297 := eq_true p297
     replace q297 := eq_true q297
     refine start_ (n := 9) (S := fun w' => w'.cell? ⟨gb295, 0, none⟩ = some (.slice A0_0 l0_0.length c0_0) ∧ w'.cell? ⟨gb295, 1, none⟩ = some (.slice A0_1 l0_1.length c0_1) ∧ w'.cell? ⟨gb296, 0, none⟩ = some (.slice A1_0 l1_0.length c1_0) ∧ w'.cell? ⟨gb296, 1, none⟩ = some (.slice A1_1 l1_1.length c1_1) ∧ w'.cell? (ad297.add (x8_1).toNat) = some (.int .i64 (rd l2 x8_1))) (ds := []) #[o_, o_, o_, o_, o_, o_, o_, o_, o_] (by kernel_rfl) rfl rfl ⟨(yw BK295.out 0).trans rfl, (yw BK295.out 1).trans rfl, (yw BK296.out 0).trans rfl, (yw BK296.out 1).trans rfl, ((HB.out.cell (World.block_lt_of_cell? w _ hw297_0)).trans hw297_0)⟩ (fun hHeld => ?_); refine with_tabW heraldref15_State.tab5 heraldref15_State.bits5 (fun HT_ HW_ => ?_)
     generalize wr.drew = w9 at BK295 BK296 HB hx297_0 hHeld ⊢
     refine zt (i := 2) (N := some 17) HT_ ?_
     refine zt (i := 3) (N := some 18) HT_ ?_
     refine zt (i := 4) (N := some 19) HT_ ?_
     refine zt (i := 5) (N := some 20) HT_ ?_
     refine zw (i := 0) (N := some 15) HT_ HW_ hHeld ?_ (hv := (by rintro w' ⟨s0, s1, s2, s3, s4⟩; go_simp; with_reducible rfl))
     refine zw (i := 1) (N := some 16) HT_ HW_ hHeld ?_ (hv := (by rintro w' ⟨s0, s1, s2, s3, s4⟩; go_simp; with_reducible rfl))
     refine zw (i := 6) (N := some 21) HT_ HW_ hHeld ?_ (hv := (by rintro w' ⟨s0, s1, s2, s3, s4⟩; go_simp; with_reducible rfl))
     refine one_ (i := 7) (N := some 22) #[i_, i_, i_, i_, i_, i_, i_, i_, o_] rfl rfl (one_of HT_.out (by kernel_rfl)) (by decide) (fun K hK => ?_)
     refine goes_ Try.func26 (by kernel_rfl) rfl #[.agg #[.slice A0_0 l0_0.length c0_0, .slice A0_1 l0_1.length c0_1], .agg #[.slice A1_0 l1_0.length c1_0, .slice A1_1 l1_1.length c1_1], .int .i64 x7_1, .int .i64 (rd l2 x8_1)] (by rfl) rfl rfl y6 ?_
     with_reducible refine (heraldref15_Next.calls k1 _ _ l0_0 _ _ l0_1 _ _ l1_0 _ _ l1_1 x7_1 (rd l2 x8_1) t298 _ ?side1 ?side2 ?side3 ?side4 ?side5 ?side6 ?side7 ?side8 A8.out).mono ?_
     (case side1 => exact y9 HR0_0)
     (case side2 => exact HC0_0.out)
     (case side3 => exact y9 HR0_1)
     (case side4 => exact HC0_1.out)
     (case side5 => exact y9 HR1_0)
     (case side6 => exact HC1_0.out)
     (case side7 => exact y9 HR1_1)
     (case side8 => exact HC1_1.out)
     rintro e w10 ⟨rfl, hb⟩
     refine ⟨_, rfl, ?_⟩
     have n0_ := ym (yq (g := gb295) (o := .cells #[.slice A0_0 l0_0.length c0_0, .slice A0_1 l0_1.length c0_1] 28 (0, 0)) (yc BK295) hb)
     have n1_ := ym (yq (g := gb296) (o := .cells #[.slice A1_0 l1_0.length c1_0, .slice A1_1 l1_1.length c1_1] 56 (0, 0)) (yc BK296) hb)
     have n2_ := ym (yn yb hb)
     clear BK295
     clear BK296
     clear HB
     have BK295 := n0_
     have BK296 := n1_
     have HB := n2_
     clear n0_ n1_ n2_
     (try clear hb)
     (try clear hb2)
     (try clear hk)
     (try clear hi)
     refine hK.out _ _ ⟨(yw BK295.out 0).trans rfl, (yw BK295.out 1).trans rfl, (yw BK296.out 0).trans rfl, (yw BK296.out 1).trans rfl, ((HB.out.cell (World.block_lt_of_cell? w _ hw297_0)).trans hw297_0)⟩ (fun hHeld => ?_)
     clear hK K
     refine norm_ (a' := ?_) ?_ ?_
     rotate_left
     ·
      show Act.put _ (some 22) _ = _
      simp only [Act.put, y0, y1]
      rfl
     refine zt (i := 8) (N := some 7) HT_ ?_
     refine done_ (done_of HT_.out (by kernel_rfl)) ?_
     try go_wp2
     go_roundg k1
     case measure => have := HK1.out; omega
     case rel => exact ⟨(t298), (wrap64 (x8_1 + 1)), y7, y7, H', ⟨by have := HK1.out; omega⟩, ⟨by (with_reducible repeat refine y4 ?_); exact BK295.out⟩, ⟨by (with_reducible repeat refine y4 ?_); exact BK296.out⟩, ⟨by repeat (first | (with_reducible first | exact HB.out | apply y3 | refine ys ?_ GE295.out | refine ys ?_ GE296.out) | exact HB.out)⟩⟩
    rw [if_neg c7] at H
    exact absurd H (by simp)
   rw [if_neg c6] at H
   have c6b0 : decide (x8_1 < (l2.length : Int)) = false := decide_eq_false c6
   clear c6
   obtain rfl := Option.some.inj H
   go_wp2
   go_ret
   exact ⟨by first | rfl | (simp [errW_none, errW_some] <;> rfl) | (simp [*, errW_none, errW_some] <;> rfl), by repeat (first | (with_reducible first | exact HB.out | apply y3 | refine ys ?_ GE295.out | refine ys ?_ GE296.out) | exact HB.out)⟩

end Go.Proofs.Ytfjpnmhbbfiaaaa.P
