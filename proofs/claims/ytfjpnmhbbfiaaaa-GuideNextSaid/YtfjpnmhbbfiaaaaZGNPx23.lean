-- Printed by xprint.py (wip): functions, contracts, rows. Lean checks it.
import Derived.Test.YtfjpnmhbbfiaaaaZGNPx0
import Derived.Test.YtfjpnmhbbfiaaaaZGNPx22
import Derived.Test.YtfjpnmhbbfiaaaaZGNTiny
namespace Go.Proofs.Ytfjpnmhbbfiaaaa.P
open Go.RowKit Go.Proofs.YtfjpnmhbbfiaaaaW.PrintWords Go.Proofs.YtfjpnmhbbfiaaaaW.PrintLast Go.Proofs.YtfjpnmhbbfiaaaaW.PrintMore
attribute [local go_sem] max2_int min2_int max_two min_two max_three min_three max_four min_four   -- for this text's walks alone
set_option linter.unusedVariables false
set_option linter.unusedSimpArgs false

/-! ### heraldref13_merge: function 55 -/
mutual
def heraldref13_merge.j0 : Nat → Int → Bool → List ByteArray → List (S100) → Int → Int → Int → Option (Bool)
  | 0, _, _, _, _, _, _, _ => none
  | k + 1, x1, x52, x272000, x272001, x274000, x274001, x274002 => if x52 = true then (some false) else (heraldref13_merge.l0 k x1 0 x272000 x272001 x274000 x274001 x274002)
def heraldref13_merge.l0 : Nat → Int → Int → List ByteArray → List (S100) → Int → Int → Int → Option (Bool)
  | 0, _, _, _, _, _, _, _ => none
  | k + 1, x1, x6, x272000, x272001, x274000, x274001, x274002 => if x6 < x1 then (if 0 ≤ x6 then (if x6 < (x272001.length : Int) then (if ((rd_T100 x272001 x6).f0) = x274000 then (if ((rd_T100 x272001 x6).f1) = x274001 then (some false) else (heraldref13_merge.l0 k x1 (wrap64 (x6 + 1)) x272000 x272001 x274000 x274001 x274002)) else (heraldref13_merge.l0 k x1 (wrap64 (x6 + 1)) x272000 x272001 x274000 x274001 x274002)) else (none)) else (none)) else (some true)
end
def heraldref13_merge.f (k : Nat) (l0_0 : List ByteArray) (l0_1 : List (S100)) (a1 : Int) : Option (Bool) := if 0 ≤ a1 then (if a1 < (l0_1.length : Int) then ((heraldref13_token.f l0_0 l0_1 ((rd_T100 l0_1 a1).f0)).bind fun t274 => (if t274 = true then ((heraldref13_token.f l0_0 l0_1 ((rd_T100 l0_1 a1).f1)).bind fun t275 => (if t275 = true then ((heraldref13_token.f l0_0 l0_1 ((rd_T100 l0_1 a1).f2)).bind fun t276 => (if t276 = true then (if 0 ≤ ((rd_T100 l0_1 a1).f2) then (if ((rd_T100 l0_1 a1).f2) < (l0_0.length : Int) then (if 0 ≤ ((rd_T100 l0_1 a1).f0) then (if ((rd_T100 l0_1 a1).f0) < (l0_0.length : Int) then (if 0 ≤ ((rd_T100 l0_1 a1).f1) then (if ((rd_T100 l0_1 a1).f1) < (l0_0.length : Int) then (if (rdOf ByteArray.empty l0_0 ((rd_T100 l0_1 a1).f0)).size + (rdOf ByteArray.empty l0_0 ((rd_T100 l0_1 a1).f1)).size ≤ 9223372036854775807 then (heraldref13_merge.j0 k a1 ((rdOf ByteArray.empty l0_0 ((rd_T100 l0_1 a1).f2)).toList != ((rdOf ByteArray.empty l0_0 ((rd_T100 l0_1 a1).f0)) ++ (rdOf ByteArray.empty l0_0 ((rd_T100 l0_1 a1).f1))).toList) l0_0 l0_1 ((rd_T100 l0_1 a1).f0) ((rd_T100 l0_1 a1).f1) ((rd_T100 l0_1 a1).f2)) else (none)) else (none)) else (none)) else (none)) else (none)) else (none)) else (none)) else (heraldref13_merge.j0 k a1 true l0_0 l0_1 ((rd_T100 l0_1 a1).f0) ((rd_T100 l0_1 a1).f1) ((rd_T100 l0_1 a1).f2)))) else (heraldref13_merge.j0 k a1 true l0_0 l0_1 ((rd_T100 l0_1 a1).f0) ((rd_T100 l0_1 a1).f1) ((rd_T100 l0_1 a1).f2)))) else (heraldref13_merge.j0 k a1 true l0_0 l0_1 ((rd_T100 l0_1 a1).f0) ((rd_T100 l0_1 a1).f1) ((rd_T100 l0_1 a1).f2)))) else (none)) else (none)
theorem heraldref13_merge.mono_l : ∀ k, (∀ y0 y1 y2 y3 y4 y5 y6, LeO (heraldref13_merge.j0 k y0 y1 y2 y3 y4 y5 y6) (heraldref13_merge.j0 (k + 1) y0 y1 y2 y3 y4 y5 y6)) ∧ (∀ y0 y1 y2 y3 y4 y5 y6, LeO (heraldref13_merge.l0 k y0 y1 y2 y3 y4 y5 y6) (heraldref13_merge.l0 (k + 1) y0 y1 y2 y3 y4 y5 y6))
  | 0 => ⟨fun _ _ _ _ _ _ _ r h => by simp [heraldref13_merge.j0] at h, fun _ _ _ _ _ _ _ r h => by simp [heraldref13_merge.l0] at h⟩
  | k + 1 => by
    obtain ⟨ih0, ih1⟩ := heraldref13_merge.mono_l k
    refine ⟨?_, ?_⟩
    · intro y0 y1 y2 y3 y4 y5 y6
      unfold heraldref13_merge.j0
      repeat' first
      | (with_reducible exact ih0 _ _ _ _ _ _ _)
      | (with_reducible exact ih1 _ _ _ _ _ _ _)
      | (with_reducible exact LeO.refl _)
      | (with_reducible exact LeO.none _)
      | (with_reducible refine LeO.ite ?_ ?_)
      | (with_reducible refine LeO.bind ?_ (fun _ => ?_))
      | exact ih0 _ _ _ _ _ _ _
      | exact ih1 _ _ _ _ _ _ _
      | exact LeO.none _
      | refine LeO.ite ?_ ?_
      | refine LeO.bind ?_ (fun _ => ?_)
    · intro y0 y1 y2 y3 y4 y5 y6
      unfold heraldref13_merge.l0
      repeat' first
      | (with_reducible exact ih0 _ _ _ _ _ _ _)
      | (with_reducible exact ih1 _ _ _ _ _ _ _)
      | (with_reducible exact LeO.refl _)
      | (with_reducible exact LeO.none _)
      | (with_reducible refine LeO.ite ?_ ?_)
      | (with_reducible refine LeO.bind ?_ (fun _ => ?_))
      | exact ih0 _ _ _ _ _ _ _
      | exact ih1 _ _ _ _ _ _ _
      | exact LeO.none _
      | refine LeO.ite ?_ ?_
      | refine LeO.bind ?_ (fun _ => ?_)
theorem heraldref13_merge.mono : ∀ a0 a1 a2 k, LeO (heraldref13_merge.f k a0 a1 a2) (heraldref13_merge.f (k + 1) a0 a1 a2) := by
  intro a0 a1 a2 k
  obtain ⟨ih0, ih1⟩ := heraldref13_merge.mono_l k
  unfold heraldref13_merge.f
  repeat' first
      | (with_reducible exact ih0 _ _ _ _ _ _ _)
      | (with_reducible exact ih1 _ _ _ _ _ _ _)
      | (with_reducible exact LeO.refl _)
      | (with_reducible exact LeO.none _)
      | (with_reducible refine LeO.ite ?_ ?_)
      | (with_reducible refine LeO.bind ?_ (fun _ => ?_))
      | exact ih0 _ _ _ _ _ _ _
      | exact ih1 _ _ _ _ _ _ _
      | exact LeO.none _
      | refine LeO.ite ?_ ?_
      | refine LeO.bind ?_ (fun _ => ?_)
def heraldref13_merge.T2 : Bool × List (List Nat × List Nat) := (true, [([], []), ([], []), ([1], [1]), ([0, 2], [0, 2]), ([3], [3]), ([4, 3], [4]), ([5], [5]), ([5], [5]), ([7, 5], [5, 7]), ([6, 8, 5, 5], [5, 6, 8]), ([9, 5], [5, 9]), ([5, 10], [5, 10]), ([11, 9], [11]), ([12], [12]), ([12], [12]), ([14, 12], [12, 14]), ([13, 15, 12, 12], [12, 13, 15]), ([16, 12], [12, 16]), ([12, 17], [12, 17]), ([18, 16], [18]), ([19], [19]), ([20, 19], [19, 20]), ([19], [19]), ([22, 19], [19, 22]), ([21, 23, 19], [19, 21, 23]), ([24, 19], [19, 24]), ([19], [19]), ([26, 19], [19, 26]), ([19], [19]), ([28, 19], [19, 28]), ([27, 29, 19], [19, 27, 29]), ([30, 19], [19, 30]), ([19], [19]), ([32, 19], [19, 32]), ([19], [19]), ([34, 19], [19, 34]), ([33, 35, 19], [19, 33, 35]), ([36, 19], [19, 36]), ([31, 37, 19], [19, 31, 37]), ([25, 38, 19], [19, 25, 38]), ([19, 39], [19, 39])])
def heraldref13_merge.B2 : List Nat := [0, 0, 2, 7, 15, 31, 63, 63, 191, 511, 1023, 2047, 4095, 8191, 8191, 24575, 65535, 131071, 262143, 524287, 1048575, 2097151, 1048575, 5242879, 16777215, 33554431, 1048575, 68157439, 1048575, 269484031, 1007681535, 2081423359, 1048575, 4296015871, 1048575, 17180917759, 64425558015, 133145034751, 274811846655, 549755813887, 1099511627775]
theorem heraldref13_merge.tab2 : rtab .any (opsOf Try.f55 2) = heraldref13_merge.T2 := by kernel_rfl
theorem heraldref13_merge.bits2 : waitsOk heraldref13_merge.T2.2 heraldref13_merge.B2 = true := by kernel_rfl
def heraldref13_merge.T7 : Bool × List (List Nat × List Nat) := (true, [([], []), ([0], [0]), ([], []), ([1, 2], [1, 2]), ([3], [3]), ([4], [4]), ([], []), ([6], [6]), ([5, 7], [5, 7]), ([8], [8]), ([9], [9]), ([10, 9], [9, 10]), ([9], [9]), ([11, 12, 9], [9, 11, 12]), ([13, 9], [9, 13]), ([14, 9], [9, 14]), ([9], [9]), ([16, 9], [9, 16]), ([15, 17, 9], [9, 15, 17]), ([9, 18], [9, 18])])
def heraldref13_merge.B7 : List Nat := [0, 1, 0, 7, 15, 31, 0, 64, 255, 511, 1023, 2047, 1023, 8191, 16383, 32767, 1023, 66559, 262143, 524287]
theorem heraldref13_merge.tab7 : rtab .any (opsOf Try.f55 7) = heraldref13_merge.T7 := by kernel_rfl
theorem heraldref13_merge.bits7 : waitsOk heraldref13_merge.T7.2 heraldref13_merge.B7 = true := by kernel_rfl
set_option maxHeartbeats 8000000 in
set_option maxRecDepth 100000 in
theorem heraldref13_merge.calls (k : Nat) (A0_0 : Option Addr) (c0_0 : Nat) (l0_0 : List ByteArray) (A0_1 : Option Addr) (c0_1 : Nat) (l0_1 : List (S100)) (a1 : Int) (r : Bool) (w : World) (hr0_0 : Kd.C Kd.string w A0_0 l0_0.length l0_0) (hc0_0 : l0_0.length ≤ c0_0) (hr0_1 : Kd.C k100 w A0_1 l0_1.length l0_1) (hc0_1 : l0_1.length ≤ c0_1) (h : heraldref13_merge.f k l0_0 l0_1 a1 = some r) :
    Calls Try.prog 55 #[.agg #[.slice A0_0 l0_0.length c0_0, .slice A0_1 l0_1.length c0_1], .int .i64 a1] w fun e w' => e = .returned (.bool r) ∧ Below w.heap.size w w' := by
 have hu56 := Try.underlying56
 have hu100 := Try.underlying100
 have HR0_0 := ym hr0_0
 have HC0_0 := ym hc0_0
 clear hr0_0 hc0_0
 have HR0_1 := ym hr0_1
 have HC0_1 := ym hc0_1
 clear hr0_1 hc0_1
 have HB := ym (Below.refl w.heap.size w)
 have H : (if 0 ≤ a1 then (if a1 < (l0_1.length : Int) then ((heraldref13_token.f l0_0 l0_1 ((rd_T100 l0_1 a1).f0)).bind fun t274 => (if t274 = true then ((heraldref13_token.f l0_0 l0_1 ((rd_T100 l0_1 a1).f1)).bind fun t275 => (if t275 = true then ((heraldref13_token.f l0_0 l0_1 ((rd_T100 l0_1 a1).f2)).bind fun t276 => (if t276 = true then (if 0 ≤ ((rd_T100 l0_1 a1).f2) then (if ((rd_T100 l0_1 a1).f2) < (l0_0.length : Int) then (if 0 ≤ ((rd_T100 l0_1 a1).f0) then (if ((rd_T100 l0_1 a1).f0) < (l0_0.length : Int) then (if 0 ≤ ((rd_T100 l0_1 a1).f1) then (if ((rd_T100 l0_1 a1).f1) < (l0_0.length : Int) then (if (rdOf ByteArray.empty l0_0 ((rd_T100 l0_1 a1).f0)).size + (rdOf ByteArray.empty l0_0 ((rd_T100 l0_1 a1).f1)).size ≤ 9223372036854775807 then (heraldref13_merge.j0 k a1 ((rdOf ByteArray.empty l0_0 ((rd_T100 l0_1 a1).f2)).toList != ((rdOf ByteArray.empty l0_0 ((rd_T100 l0_1 a1).f0)) ++ (rdOf ByteArray.empty l0_0 ((rd_T100 l0_1 a1).f1))).toList) l0_0 l0_1 ((rd_T100 l0_1 a1).f0) ((rd_T100 l0_1 a1).f1) ((rd_T100 l0_1 a1).f2)) else (none)) else (none)) else (none)) else (none)) else (none)) else (none)) else (none)) else (heraldref13_merge.j0 k a1 true l0_0 l0_1 ((rd_T100 l0_1 a1).f0) ((rd_T100 l0_1 a1).f1) ((rd_T100 l0_1 a1).f2)))) else (heraldref13_merge.j0 k a1 true l0_0 l0_1 ((rd_T100 l0_1 a1).f0) ((rd_T100 l0_1 a1).f1) ((rd_T100 l0_1 a1).f2)))) else (heraldref13_merge.j0 k a1 true l0_0 l0_1 ((rd_T100 l0_1 a1).f0) ((rd_T100 l0_1 a1).f1) ((rd_T100 l0_1 a1).f2)))) else (none)) else (none)) = some r := h
 clear h
 by_cases c3 : 0 ≤ a1
 ·
  rw [if_pos c3] at H
  have c3b0 : decide (0 ≤ a1) = true := decide_eq_true c3
  clear c3
  by_cases c4 : a1 < (l0_1.length : Int)
  ·
   rw [if_pos c4] at H
   have c4b0 : decide (a1 < (l0_1.length : Int)) = true := decide_eq_true c4
   clear c4
   have HC5 := ym H
   clear H
   go_enter Try.func55, Try.ntmps55
   go_upto_region 2 with (first | ((with_reducible refine gate_dst (N := 2) rfl ?_); refine box_event ?hg (N := 2) ?hd (cs := #[.slice A0_0 l0_0.length c0_0, .slice A0_1 l0_1.length c0_1]) (t := 56) ?hr ?_; (case hd => rfl); (case hg => rfl); (case hr => first | (go_simp; done) | (go_simp; rfl)); intro gb271 hg w6 hbox hb; have n0_ := ym (yn yb hb); have n1_ := ym (hbox); have n2_ := ym ((by rw [hg]; exact (below_size yb) : w.heap.size ≤ gb271)); have n3_ := n2_; clear HB; have HB := n0_; have BK271 := n1_; have GW271 := n2_; have GE271 := n3_; clear n0_ n1_ n2_ n3_; clear hb hbox hg; have hcz7_0 : w6.cell? ⟨gb271, 0, none⟩ = some (.slice A0_0 l0_0.length c0_0) := (yw BK271.out 0).trans rfl; have hcz7_1 : w6.cell? ⟨gb271, 1, none⟩ = some (.slice A0_1 l0_1.length c0_1) := (yw BK271.out 1).trans rfl; have hfz7_0 := yv BK271.out 0; have hfz7_1 := yv BK271.out 1; have p272 : 0 ≤ (a1 : Int) := of_decide_eq_true y5; have q272 : a1 < (l0_1.length : Int) := of_decide_eq_true y5; obtain ⟨ad272, e272, hx272_0, hx272_1, hx272_2⟩ := at_T100 HR0_1.out a1 p272 q272; cases e272; replace hx272_0 := (HB.out.cell (World.block_lt_of_cell? w _ hx272_0)).trans hx272_0; replace hx272_1 := (HB.out.cell (World.block_lt_of_cell? w _ hx272_1)).trans hx272_1; replace hx272_2 := (HB.out.cell (World.block_lt_of_cell? w _ hx272_2)).trans hx272_2; replace p272 := eq_true p272; replace q272 := eq_true q272) | ((with_reducible refine gate_dst (N := 5) rfl ?_); refine box_event ?hg (N := 5) ?hd (cs := #[.int .i64 0, .int .i64 0, .int .i64 0]) (t := 100) ?hr ?_; (case hd => rfl); (case hg => rfl); (case hr => first | (go_simp; done) | (go_simp; rfl)); intro gb273 hg w8 hbox hb; have n0_ := ym (yq (g := gb271) (o := .cells #[.slice A0_0 l0_0.length c0_0, .slice (some ad272) l0_1.length c0_1] 56 (0, 0)) (yc BK271) hb); have n1_ := ym (yn yb hb); have n2_ := ym (hbox); have n3_ := ym ((by rw [hg]; exact (below_size yb) : w.heap.size ≤ gb273)); have n4_ := n3_; have n5_ := ym ((by rw [hg]; exact Nat.ne_of_lt (blk_lt (g := gb271) (o := .cells #[.slice A0_0 l0_0.length c0_0, .slice (some ad272) l0_1.length c0_1] 56 (0, 0)) (yc BK271)) : gb271 ≠ gb273)); have n6_ := ym ((by rw [hg]; exact Nat.ne_of_gt (blk_lt (g := gb271) (o := .cells #[.slice A0_0 l0_0.length c0_0, .slice (some ad272) l0_1.length c0_1] 56 (0, 0)) (yc BK271)) : gb273 ≠ gb271)); clear BK271; clear HB; have BK271 := n0_; have HB := n1_; have BK273 := n2_; have GW273 := n3_; have GE273 := n4_; have NB271_273 := n5_; have NB273_271 := n6_; clear n0_ n1_ n2_ n3_ n4_ n5_ n6_; clear hb hbox hg; have hnb9 := NB273_271.out; have hnc9 := NB271_273.out; have hcz10_0 : w8.cell? ⟨gb273, 0, none⟩ = some (.int .i64 0) := (yw BK273.out 0).trans rfl; have hcz10_1 : w8.cell? ⟨gb273, 1, none⟩ = some (.int .i64 0) := (yw BK273.out 1).trans rfl; have hcz10_2 : w8.cell? ⟨gb273, 2, none⟩ = some (.int .i64 0) := (yw BK273.out 2).trans rfl; have hfz10_0 := yv BK273.out 0; have hfz10_1 := yv BK273.out 1; have hfz10_2 := yv BK273.out 2))
   (try simp only [Act.put, y0])
   go_cut [52] (fun v52 wc => ∃ (kq : Nat) (x52_4 : Bool), v52 = .bool x52_4 ∧ Aside0 (heraldref13_merge.j0 kq a1 x52_4 l0_0 l0_1 ((rd_T100 l0_1 a1).f0) ((rd_T100 l0_1 a1).f1) ((rd_T100 l0_1 a1).f2) = some r) ∧ Aside0 (kq ≤ k) ∧ Aside0 (wc.heap[gb271]? = some (.cells #[(.slice A0_0 l0_0.length c0_0), (.slice (some ad272) l0_1.length c0_1)] 56 (0, 0))) ∧ Aside0 (wc.heap[gb273]? = some (.cells #[.int .i64 ((rd_T100 l0_1 a1).f0), .int .i64 ((rd_T100 l0_1 a1).f1), .int .i64 ((rd_T100 l0_1 a1).f2)] 100 (0, 0))) ∧ Aside0 (Below w.heap.size w wc))
   case first =>
    have H := HC5.out
    clear HC5
    replace H := Option.bind_eq_some_iff.mp H
    obtain ⟨t274, A110, H⟩ := H
    replace H : (if t274 = true then ((heraldref13_token.f l0_0 l0_1 ((rd_T100 l0_1 a1).f1)).bind fun t275 => (if t275 = true then ((heraldref13_token.f l0_0 l0_1 ((rd_T100 l0_1 a1).f2)).bind fun t276 => (if t276 = true then (if 0 ≤ ((rd_T100 l0_1 a1).f2) then (if ((rd_T100 l0_1 a1).f2) < (l0_0.length : Int) then (if 0 ≤ ((rd_T100 l0_1 a1).f0) then (if ((rd_T100 l0_1 a1).f0) < (l0_0.length : Int) then (if 0 ≤ ((rd_T100 l0_1 a1).f1) then (if ((rd_T100 l0_1 a1).f1) < (l0_0.length : Int) then (if (rdOf ByteArray.empty l0_0 ((rd_T100 l0_1 a1).f0)).size + (rdOf ByteArray.empty l0_0 ((rd_T100 l0_1 a1).f1)).size ≤ 9223372036854775807 then (heraldref13_merge.j0 k a1 ((rdOf ByteArray.empty l0_0 ((rd_T100 l0_1 a1).f2)).toList != ((rdOf ByteArray.empty l0_0 ((rd_T100 l0_1 a1).f0)) ++ (rdOf ByteArray.empty l0_0 ((rd_T100 l0_1 a1).f1))).toList) l0_0 l0_1 ((rd_T100 l0_1 a1).f0) ((rd_T100 l0_1 a1).f1) ((rd_T100 l0_1 a1).f2)) else (none)) else (none)) else (none)) else (none)) else (none)) else (none)) else (none)) else (heraldref13_merge.j0 k a1 true l0_0 l0_1 ((rd_T100 l0_1 a1).f0) ((rd_T100 l0_1 a1).f1) ((rd_T100 l0_1 a1).f2)))) else (heraldref13_merge.j0 k a1 true l0_0 l0_1 ((rd_T100 l0_1 a1).f0) ((rd_T100 l0_1 a1).f1) ((rd_T100 l0_1 a1).f2)))) else (heraldref13_merge.j0 k a1 true l0_0 l0_1 ((rd_T100 l0_1 a1).f0) ((rd_T100 l0_1 a1).f1) ((rd_T100 l0_1 a1).f2))) = some r := H
    have A11 := ym A110
    clear A110
    by_cases c12 : t274 = true
    ·
     subst c12
     have H1 : ((heraldref13_token.f l0_0 l0_1 ((rd_T100 l0_1 a1).f1)).bind fun t275 => (if t275 = true then ((heraldref13_token.f l0_0 l0_1 ((rd_T100 l0_1 a1).f2)).bind fun t276 => (if t276 = true then (if 0 ≤ ((rd_T100 l0_1 a1).f2) then (if ((rd_T100 l0_1 a1).f2) < (l0_0.length : Int) then (if 0 ≤ ((rd_T100 l0_1 a1).f0) then (if ((rd_T100 l0_1 a1).f0) < (l0_0.length : Int) then (if 0 ≤ ((rd_T100 l0_1 a1).f1) then (if ((rd_T100 l0_1 a1).f1) < (l0_0.length : Int) then (if (rdOf ByteArray.empty l0_0 ((rd_T100 l0_1 a1).f0)).size + (rdOf ByteArray.empty l0_0 ((rd_T100 l0_1 a1).f1)).size ≤ 9223372036854775807 then (heraldref13_merge.j0 k a1 ((rdOf ByteArray.empty l0_0 ((rd_T100 l0_1 a1).f2)).toList != ((rdOf ByteArray.empty l0_0 ((rd_T100 l0_1 a1).f0)) ++ (rdOf ByteArray.empty l0_0 ((rd_T100 l0_1 a1).f1))).toList) l0_0 l0_1 ((rd_T100 l0_1 a1).f0) ((rd_T100 l0_1 a1).f1) ((rd_T100 l0_1 a1).f2)) else (none)) else (none)) else (none)) else (none)) else (none)) else (none)) else (none)) else (heraldref13_merge.j0 k a1 true l0_0 l0_1 ((rd_T100 l0_1 a1).f0) ((rd_T100 l0_1 a1).f1) ((rd_T100 l0_1 a1).f2)))) else (heraldref13_merge.j0 k a1 true l0_0 l0_1 ((rd_T100 l0_1 a1).f0) ((rd_T100 l0_1 a1).f1) ((rd_T100 l0_1 a1).f2)))) = some r := by rw [if_pos rfl] at H; exact H
     clear H
     have H := H1
     clear H1
     replace H := Option.bind_eq_some_iff.mp H
     obtain ⟨t275, A130, H⟩ := H
     replace H : (if t275 = true then ((heraldref13_token.f l0_0 l0_1 ((rd_T100 l0_1 a1).f2)).bind fun t276 => (if t276 = true then (if 0 ≤ ((rd_T100 l0_1 a1).f2) then (if ((rd_T100 l0_1 a1).f2) < (l0_0.length : Int) then (if 0 ≤ ((rd_T100 l0_1 a1).f0) then (if ((rd_T100 l0_1 a1).f0) < (l0_0.length : Int) then (if 0 ≤ ((rd_T100 l0_1 a1).f1) then (if ((rd_T100 l0_1 a1).f1) < (l0_0.length : Int) then (if (rdOf ByteArray.empty l0_0 ((rd_T100 l0_1 a1).f0)).size + (rdOf ByteArray.empty l0_0 ((rd_T100 l0_1 a1).f1)).size ≤ 9223372036854775807 then (heraldref13_merge.j0 k a1 ((rdOf ByteArray.empty l0_0 ((rd_T100 l0_1 a1).f2)).toList != ((rdOf ByteArray.empty l0_0 ((rd_T100 l0_1 a1).f0)) ++ (rdOf ByteArray.empty l0_0 ((rd_T100 l0_1 a1).f1))).toList) l0_0 l0_1 ((rd_T100 l0_1 a1).f0) ((rd_T100 l0_1 a1).f1) ((rd_T100 l0_1 a1).f2)) else (none)) else (none)) else (none)) else (none)) else (none)) else (none)) else (none)) else (heraldref13_merge.j0 k a1 true l0_0 l0_1 ((rd_T100 l0_1 a1).f0) ((rd_T100 l0_1 a1).f1) ((rd_T100 l0_1 a1).f2)))) else (heraldref13_merge.j0 k a1 true l0_0 l0_1 ((rd_T100 l0_1 a1).f0) ((rd_T100 l0_1 a1).f1) ((rd_T100 l0_1 a1).f2))) = some r := H
     have A13 := ym A130
     clear A130
     by_cases c14 : t275 = true
     ·
      subst c14
      have H1 : ((heraldref13_token.f l0_0 l0_1 ((rd_T100 l0_1 a1).f2)).bind fun t276 => (if t276 = true then (if 0 ≤ ((rd_T100 l0_1 a1).f2) then (if ((rd_T100 l0_1 a1).f2) < (l0_0.length : Int) then (if 0 ≤ ((rd_T100 l0_1 a1).f0) then (if ((rd_T100 l0_1 a1).f0) < (l0_0.length : Int) then (if 0 ≤ ((rd_T100 l0_1 a1).f1) then (if ((rd_T100 l0_1 a1).f1) < (l0_0.length : Int) then (if (rdOf ByteArray.empty l0_0 ((rd_T100 l0_1 a1).f0)).size + (rdOf ByteArray.empty l0_0 ((rd_T100 l0_1 a1).f1)).size ≤ 9223372036854775807 then (heraldref13_merge.j0 k a1 ((rdOf ByteArray.empty l0_0 ((rd_T100 l0_1 a1).f2)).toList != ((rdOf ByteArray.empty l0_0 ((rd_T100 l0_1 a1).f0)) ++ (rdOf ByteArray.empty l0_0 ((rd_T100 l0_1 a1).f1))).toList) l0_0 l0_1 ((rd_T100 l0_1 a1).f0) ((rd_T100 l0_1 a1).f1) ((rd_T100 l0_1 a1).f2)) else (none)) else (none)) else (none)) else (none)) else (none)) else (none)) else (none)) else (heraldref13_merge.j0 k a1 true l0_0 l0_1 ((rd_T100 l0_1 a1).f0) ((rd_T100 l0_1 a1).f1) ((rd_T100 l0_1 a1).f2)))) = some r := by rw [if_pos rfl] at H; exact H
      clear H
      have H := H1
      clear H1
      replace H := Option.bind_eq_some_iff.mp H
      obtain ⟨t276, A150, H⟩ := H
      replace H : (if t276 = true then (if 0 ≤ ((rd_T100 l0_1 a1).f2) then (if ((rd_T100 l0_1 a1).f2) < (l0_0.length : Int) then (if 0 ≤ ((rd_T100 l0_1 a1).f0) then (if ((rd_T100 l0_1 a1).f0) < (l0_0.length : Int) then (if 0 ≤ ((rd_T100 l0_1 a1).f1) then (if ((rd_T100 l0_1 a1).f1) < (l0_0.length : Int) then (if (rdOf ByteArray.empty l0_0 ((rd_T100 l0_1 a1).f0)).size + (rdOf ByteArray.empty l0_0 ((rd_T100 l0_1 a1).f1)).size ≤ 9223372036854775807 then (heraldref13_merge.j0 k a1 ((rdOf ByteArray.empty l0_0 ((rd_T100 l0_1 a1).f2)).toList != ((rdOf ByteArray.empty l0_0 ((rd_T100 l0_1 a1).f0)) ++ (rdOf ByteArray.empty l0_0 ((rd_T100 l0_1 a1).f1))).toList) l0_0 l0_1 ((rd_T100 l0_1 a1).f0) ((rd_T100 l0_1 a1).f1) ((rd_T100 l0_1 a1).f2)) else (none)) else (none)) else (none)) else (none)) else (none)) else (none)) else (none)) else (heraldref13_merge.j0 k a1 true l0_0 l0_1 ((rd_T100 l0_1 a1).f0) ((rd_T100 l0_1 a1).f1) ((rd_T100 l0_1 a1).f2))) = some r := H
      have A15 := ym A150
      clear A150
      by_cases c16 : t276 = true
      ·
       subst c16
       have H1 : (if 0 ≤ ((rd_T100 l0_1 a1).f2) then (if ((rd_T100 l0_1 a1).f2) < (l0_0.length : Int) then (if 0 ≤ ((rd_T100 l0_1 a1).f0) then (if ((rd_T100 l0_1 a1).f0) < (l0_0.length : Int) then (if 0 ≤ ((rd_T100 l0_1 a1).f1) then (if ((rd_T100 l0_1 a1).f1) < (l0_0.length : Int) then (if (rdOf ByteArray.empty l0_0 ((rd_T100 l0_1 a1).f0)).size + (rdOf ByteArray.empty l0_0 ((rd_T100 l0_1 a1).f1)).size ≤ 9223372036854775807 then (heraldref13_merge.j0 k a1 ((rdOf ByteArray.empty l0_0 ((rd_T100 l0_1 a1).f2)).toList != ((rdOf ByteArray.empty l0_0 ((rd_T100 l0_1 a1).f0)) ++ (rdOf ByteArray.empty l0_0 ((rd_T100 l0_1 a1).f1))).toList) l0_0 l0_1 ((rd_T100 l0_1 a1).f0) ((rd_T100 l0_1 a1).f1) ((rd_T100 l0_1 a1).f2)) else (none)) else (none)) else (none)) else (none)) else (none)) else (none)) else (none)) = some r := by rw [if_pos rfl] at H; exact H
       clear H
       have H := H1
       clear H1
       by_cases c17 : 0 ≤ ((rd_T100 l0_1 a1).f2)
       ·
        rw [if_pos c17] at H
        have c17b0 : decide (0 ≤ ((rd_T100 l0_1 a1).f2)) = true := decide_eq_true c17
        clear c17
        (first | rw [c17b0] | (simp only [i64_w, i32_w]; rw [c17b0]) | skip)
        by_cases c18 : ((rd_T100 l0_1 a1).f2) < (l0_0.length : Int)
        ·
         rw [if_pos c18] at H
         have c18b0 : decide (((rd_T100 l0_1 a1).f2) < (l0_0.length : Int)) = true := decide_eq_true c18
         clear c18
         by_cases c19 : 0 ≤ ((rd_T100 l0_1 a1).f0)
         ·
          rw [if_pos c19] at H
          have c19b0 : decide (0 ≤ ((rd_T100 l0_1 a1).f0)) = true := decide_eq_true c19
          clear c19
          by_cases c20 : ((rd_T100 l0_1 a1).f0) < (l0_0.length : Int)
          ·
           rw [if_pos c20] at H
           have c20b0 : decide (((rd_T100 l0_1 a1).f0) < (l0_0.length : Int)) = true := decide_eq_true c20
           clear c20
           by_cases c21 : 0 ≤ ((rd_T100 l0_1 a1).f1)
           ·
            rw [if_pos c21] at H
            have c21b0 : decide (0 ≤ ((rd_T100 l0_1 a1).f1)) = true := decide_eq_true c21
            clear c21
            by_cases c22 : ((rd_T100 l0_1 a1).f1) < (l0_0.length : Int)
            ·
             rw [if_pos c22] at H
             have c22b0 : decide (((rd_T100 l0_1 a1).f1) < (l0_0.length : Int)) = true := decide_eq_true c22
             clear c22
             by_cases c23 : (rdOf ByteArray.empty l0_0 ((rd_T100 l0_1 a1).f0)).size + (rdOf ByteArray.empty l0_0 ((rd_T100 l0_1 a1).f1)).size ≤ 9223372036854775807
             ·
              rw [if_pos c23] at H
              have c23b0 := eq_true c23
              have c23b1 : decide ((rdOf ByteArray.empty l0_0 ((rd_T100 l0_1 a1).f0)).size + (rdOf ByteArray.empty l0_0 ((rd_T100 l0_1 a1).f1)).size ≤ 9223372036854775807) = true := decide_eq_true c23
              try have c23b2 : (9223372036854775807 < (rdOf ByteArray.empty l0_0 ((rd_T100 l0_1 a1).f0)).size + (rdOf ByteArray.empty l0_0 ((rd_T100 l0_1 a1).f1)).size) = False := eq_false (Nat.not_lt.2 c23)
              have H' := ym H
              clear H
              try go_wp2
              have n0_ : Aside0 ((((w8.setCell ⟨gb273, 0, none⟩ (.int .i64 ((rd_T100 l0_1 a1).f0))).setCell ⟨gb273, 1, none⟩ (.int .i64 ((rd_T100 l0_1 a1).f1))).setCell ⟨gb273, 2, none⟩ (.int .i64 ((rd_T100 l0_1 a1).f2))).heap[gb271]? = some (.cells #[.slice A0_0 l0_0.length c0_0, .slice (some ad272) l0_1.length c0_1] 56 (0, 0))) := ⟨by (with_reducible repeat refine y4 ?_); refine yx ?_ NB271_273.out _; (with_reducible repeat refine y4 ?_); refine yx ?_ NB271_273.out _; (with_reducible repeat refine y4 ?_); refine yx ?_ NB271_273.out _; (with_reducible repeat refine y4 ?_); exact BK271.out⟩
              have n1_ : Aside0 ((((w8.setCell ⟨gb273, 0, none⟩ (.int .i64 ((rd_T100 l0_1 a1).f0))).setCell ⟨gb273, 1, none⟩ (.int .i64 ((rd_T100 l0_1 a1).f1))).setCell ⟨gb273, 2, none⟩ (.int .i64 ((rd_T100 l0_1 a1).f2))).heap[gb273]? = some (.cells #[.int .i64 ((rd_T100 l0_1 a1).f0), .int .i64 ((rd_T100 l0_1 a1).f1), .int .i64 ((rd_T100 l0_1 a1).f2)] 100 (0, 0))) := ⟨by (with_reducible repeat refine y4 ?_); refine yy (cs := #[.int .i64 ((rd_T100 l0_1 a1).f0), .int .i64 ((rd_T100 l0_1 a1).f1), .int .i64 0]) ?_ 2 _ rfl; (with_reducible repeat refine y4 ?_); refine yy (cs := #[.int .i64 ((rd_T100 l0_1 a1).f0), .int .i64 0, .int .i64 0]) ?_ 1 _ rfl; (with_reducible repeat refine y4 ?_); refine yy (cs := #[.int .i64 0, .int .i64 0, .int .i64 0]) ?_ 0 _ rfl; (with_reducible repeat refine y4 ?_); exact BK273.out⟩
              have n2_ : Aside0 (Below w.heap.size w (((w8.setCell ⟨gb273, 0, none⟩ (.int .i64 ((rd_T100 l0_1 a1).f0))).setCell ⟨gb273, 1, none⟩ (.int .i64 ((rd_T100 l0_1 a1).f1))).setCell ⟨gb273, 2, none⟩ (.int .i64 ((rd_T100 l0_1 a1).f2)))) := ⟨by repeat (first | (with_reducible first | exact HB.out | apply y3 | refine ys ?_ GE271.out | refine ys ?_ GE273.out) | exact HB.out)⟩
              (try clear BK271)
              (try clear BK273)
              (try clear HB)
              generalize (((w8.setCell ⟨gb273, 0, none⟩ (.int .i64 ((rd_T100 l0_1 a1).f0))).setCell ⟨gb273, 1, none⟩ (.int .i64 ((rd_T100 l0_1 a1).f1))).setCell ⟨gb273, 2, none⟩ (.int .i64 ((rd_T100 l0_1 a1).f2))) = w24 at n0_ n1_ n2_ ⊢
              have BK271 := n0_
              have BK273 := n1_
              have HB := n2_
              clear n0_ n1_ n2_
              have n0_ := ym (yt BK271.out)
              have n1_ := ym (yt BK273.out)
              have n2_ := ym (ye HB.out)
              clear BK271
              clear BK273
              clear HB
              have BK271 := n0_
              have BK273 := n1_
              have HB := n2_
              clear n0_ n1_ n2_
              have p277 : 0 ≤ (((rd_T100 l0_1 a1).f2) : Int) := of_decide_eq_true y5
              have q277 : ((rd_T100 l0_1 a1).f2) < (l0_0.length : Int) := of_decide_eq_true y5
              obtain ⟨ad277, e277, hx277_0⟩ := Kd.at_string HR0_0.out ((rd_T100 l0_1 a1).f2) p277 q277
              have hw277_0 := hx277_0
              cases e277
              replace hx277_0 := (HB.out.cell (World.block_lt_of_cell? w _ hx277_0)).trans hx277_0
              replace p277 := eq_true p277
              replace q277 := eq_true q277
              have p278 : 0 ≤ (((rd_T100 l0_1 a1).f0) : Int) := of_decide_eq_true y5
              have q278 : ((rd_T100 l0_1 a1).f0) < (l0_0.length : Int) := of_decide_eq_true y5
              obtain ⟨ad278, e278, hx278_0⟩ := Kd.at_string HR0_0.out ((rd_T100 l0_1 a1).f0) p278 q278
              have hw278_0 := hx278_0
              obtain rfl : ad277 = ad278 := (by injection e278)
              replace hx278_0 := (HB.out.cell (World.block_lt_of_cell? w _ hx278_0)).trans hx278_0
              replace p278 := eq_true p278
              replace q278 := eq_true q278
              have p279 : 0 ≤ (((rd_T100 l0_1 a1).f1) : Int) := of_decide_eq_true y5
              have q279 : ((rd_T100 l0_1 a1).f1) < (l0_0.length : Int) := of_decide_eq_true y5
              obtain ⟨ad279, e279, hx279_0⟩ := Kd.at_string HR0_0.out ((rd_T100 l0_1 a1).f1) p279 q279
              have hw279_0 := hx279_0
              obtain rfl : ad277 = ad279 := (by injection e279)
              replace hx279_0 := (HB.out.cell (World.block_lt_of_cell? w _ hx279_0)).trans hx279_0
              replace p279 := eq_true p279
              replace q279 := eq_true q279
              refine start_ (n := 41) (S := fun w' => w'.cell? ⟨gb271, 0, none⟩ = some (.slice (some ad277) l0_0.length c0_0) ∧ w'.cell? ⟨gb271, 1, none⟩ = some (.slice (some ad272) l0_1.length c0_1) ∧ w'.cell? ⟨gb273, 0, none⟩ = some (.int .i64 ((rd_T100 l0_1 a1).f0)) ∧ w'.cell? ⟨gb273, 1, none⟩ = some (.int .i64 ((rd_T100 l0_1 a1).f1)) ∧ w'.cell? ⟨gb273, 2, none⟩ = some (.int .i64 ((rd_T100 l0_1 a1).f2)) ∧ w'.cell? (ad277.add (((rd_T100 l0_1 a1).f2)).toNat) = some (.string (rdOf ByteArray.empty l0_0 ((rd_T100 l0_1 a1).f2))) ∧ w'.cell? (ad277.add (((rd_T100 l0_1 a1).f0)).toNat) = some (.string (rdOf ByteArray.empty l0_0 ((rd_T100 l0_1 a1).f0))) ∧ w'.cell? (ad277.add (((rd_T100 l0_1 a1).f1)).toNat) = some (.string (rdOf ByteArray.empty l0_0 ((rd_T100 l0_1 a1).f1)))) (ds := []) #[o_, o_, o_, o_, o_, o_, o_, o_, o_, o_, o_, o_, o_, o_, o_, o_, o_, o_, o_, o_, o_, o_, o_, o_, o_, o_, o_, o_, o_, o_, o_, o_, o_, o_, o_, o_, o_, o_, o_, o_, o_] (by kernel_rfl) rfl rfl ⟨(yw BK271.out 0).trans rfl, (yw BK271.out 1).trans rfl, (yw BK273.out 0).trans rfl, (yw BK273.out 1).trans rfl, (yw BK273.out 2).trans rfl, ((HB.out.cell (World.block_lt_of_cell? w _ hw277_0)).trans hw277_0), ((HB.out.cell (World.block_lt_of_cell? w _ hw278_0)).trans hw278_0), ((HB.out.cell (World.block_lt_of_cell? w _ hw279_0)).trans hw279_0)⟩ (fun hHeld => ?_); refine with_tabW heraldref13_merge.tab2 heraldref13_merge.bits2 (fun HT_ HW_ => ?_)
              generalize w24.drew = w25 at BK271 BK273 HB hx277_0 hx278_0 hx279_0 hHeld ⊢
              refine zt (i := 1) (N := some 13) HT_ ?_
              refine zw (i := 0) (N := some 12) HT_ HW_ hHeld ?_ (hv := (by rintro w' ⟨s0, s1, s2, s3, s4, s5, s6, s7⟩; go_simp; with_reducible rfl))
              refine zw (i := 2) (N := some 14) HT_ HW_ hHeld ?_ (hv := (by rintro w' ⟨s0, s1, s2, s3, s4, s5, s6, s7⟩; go_simp; with_reducible rfl))
              refine one_ (i := 3) (N := some 15) #[i_, i_, i_, i_, o_, o_, o_, o_, o_, o_, o_, o_, o_, o_, o_, o_, o_, o_, o_, o_, o_, o_, o_, o_, o_, o_, o_, o_, o_, o_, o_, o_, o_, o_, o_, o_, o_, o_, o_, o_, o_] rfl rfl (one_of HT_.out (by kernel_rfl)) (by decide) (fun K hK => ?_)
              refine goes_ Try.func75 (by kernel_rfl) rfl #[.agg #[.slice (some ad277) l0_0.length c0_0, .slice (some ad272) l0_1.length c0_1], .int .i64 ((rd_T100 l0_1 a1).f0)] (by rfl) rfl rfl y6 ?_
              with_reducible refine (heraldref13_token.calls _ _ l0_0 _ _ l0_1 ((rd_T100 l0_1 a1).f0) true _ ?side1 ?side2 ?side3 ?side4 A11.out).mono ?_
              (case side1 => exact y9 HR0_0)
              (case side2 => exact HC0_0.out)
              (case side3 => exact y9 HR0_1)
              (case side4 => exact HC0_1.out)
              rintro e w26 ⟨rfl, hb⟩
              refine ⟨_, rfl, ?_⟩
              have n0_ := ym (yq (g := gb271) (o := .cells #[.slice (some ad277) l0_0.length c0_0, .slice (some ad272) l0_1.length c0_1] 56 (0, 0)) (yc BK271) hb)
              have n1_ := ym (yq (g := gb273) (o := .cells #[.int .i64 ((rd_T100 l0_1 a1).f0), .int .i64 ((rd_T100 l0_1 a1).f1), .int .i64 ((rd_T100 l0_1 a1).f2)] 100 (0, 0)) (yc BK273) hb)
              have n2_ := ym (yn yb hb)
              clear BK271
              clear BK273
              clear HB
              have BK271 := n0_
              have BK273 := n1_
              have HB := n2_
              clear n0_ n1_ n2_
              (try clear hb)
              (try clear hb2)
              (try clear hk)
              (try clear hi)
              refine hK.out _ _ ⟨(yw BK271.out 0).trans rfl, (yw BK271.out 1).trans rfl, (yw BK273.out 0).trans rfl, (yw BK273.out 1).trans rfl, (yw BK273.out 2).trans rfl, ((HB.out.cell (World.block_lt_of_cell? w _ hw277_0)).trans hw277_0), ((HB.out.cell (World.block_lt_of_cell? w _ hw278_0)).trans hw278_0), ((HB.out.cell (World.block_lt_of_cell? w _ hw279_0)).trans hw279_0)⟩ (fun hHeld => ?_)
              clear hK K
              refine norm_ (a' := ?_) ?_ ?_
              rotate_left
              ·
               show Act.put _ (some 15) _ = _
               simp only [Act.put, y0, y1]
               rfl
              refine zt (i := 4) (N := some 16) HT_ ?_
              refine zt (i := 5) (N := some 17) HT_ ?_
              refine zt (i := 7) (N := some 19) HT_ ?_
              refine zw (i := 6) (N := some 18) HT_ HW_ hHeld ?_ (hv := (by rintro w' ⟨s0, s1, s2, s3, s4, s5, s6, s7⟩; go_simp; with_reducible rfl))
              refine zw (i := 8) (N := some 20) HT_ HW_ hHeld ?_ (hv := (by rintro w' ⟨s0, s1, s2, s3, s4, s5, s6, s7⟩; go_simp; with_reducible rfl))
              refine one_ (i := 9) (N := some 21) #[i_, i_, i_, i_, i_, i_, i_, i_, i_, i_, o_, o_, o_, o_, o_, o_, o_, o_, o_, o_, o_, o_, o_, o_, o_, o_, o_, o_, o_, o_, o_, o_, o_, o_, o_, o_, o_, o_, o_, o_, o_] rfl rfl (one_of HT_.out (by kernel_rfl)) (by decide) (fun K hK => ?_)
              refine goes_ Try.func75 (by kernel_rfl) rfl #[.agg #[.slice (some ad277) l0_0.length c0_0, .slice (some ad272) l0_1.length c0_1], .int .i64 ((rd_T100 l0_1 a1).f1)] (by rfl) rfl rfl y6 ?_
              with_reducible refine (heraldref13_token.calls _ _ l0_0 _ _ l0_1 ((rd_T100 l0_1 a1).f1) true _ ?side1 ?side2 ?side3 ?side4 A13.out).mono ?_
              (case side1 => exact y9 HR0_0)
              (case side2 => exact HC0_0.out)
              (case side3 => exact y9 HR0_1)
              (case side4 => exact HC0_1.out)
              rintro e w27 ⟨rfl, hb⟩
              refine ⟨_, rfl, ?_⟩
              have n0_ := ym (yq (g := gb271) (o := .cells #[.slice (some ad277) l0_0.length c0_0, .slice (some ad272) l0_1.length c0_1] 56 (0, 0)) (yc BK271) hb)
              have n1_ := ym (yq (g := gb273) (o := .cells #[.int .i64 ((rd_T100 l0_1 a1).f0), .int .i64 ((rd_T100 l0_1 a1).f1), .int .i64 ((rd_T100 l0_1 a1).f2)] 100 (0, 0)) (yc BK273) hb)
              have n2_ := ym (yn yb hb)
              clear BK271
              clear BK273
              clear HB
              have BK271 := n0_
              have BK273 := n1_
              have HB := n2_
              clear n0_ n1_ n2_
              (try clear hb)
              (try clear hb2)
              (try clear hk)
              (try clear hi)
              refine hK.out _ _ ⟨(yw BK271.out 0).trans rfl, (yw BK271.out 1).trans rfl, (yw BK273.out 0).trans rfl, (yw BK273.out 1).trans rfl, (yw BK273.out 2).trans rfl, ((HB.out.cell (World.block_lt_of_cell? w _ hw277_0)).trans hw277_0), ((HB.out.cell (World.block_lt_of_cell? w _ hw278_0)).trans hw278_0), ((HB.out.cell (World.block_lt_of_cell? w _ hw279_0)).trans hw279_0)⟩ (fun hHeld => ?_)
              clear hK K
              refine norm_ (a' := ?_) ?_ ?_
              rotate_left
              ·
               show Act.put _ (some 21) _ = _
               simp only [Act.put, y0, y1]
               rfl
              refine zt (i := 10) (N := some 22) HT_ ?_
              refine zt (i := 11) (N := some 23) HT_ ?_
              refine zt (i := 12) (N := some 24) HT_ ?_
              refine zt (i := 14) (N := some 26) HT_ ?_
              refine zw (i := 13) (N := some 25) HT_ HW_ hHeld ?_ (hv := (by rintro w' ⟨s0, s1, s2, s3, s4, s5, s6, s7⟩; go_simp; with_reducible rfl))
              refine zw (i := 15) (N := some 27) HT_ HW_ hHeld ?_ (hv := (by rintro w' ⟨s0, s1, s2, s3, s4, s5, s6, s7⟩; go_simp; with_reducible rfl))
              refine one_ (i := 16) (N := some 28) #[i_, i_, i_, i_, i_, i_, i_, i_, i_, i_, i_, i_, i_, i_, i_, i_, i_, o_, o_, o_, o_, o_, o_, o_, o_, o_, o_, o_, o_, o_, o_, o_, o_, o_, o_, o_, o_, o_, o_, o_, o_] rfl rfl (one_of HT_.out (by kernel_rfl)) (by decide) (fun K hK => ?_)
              refine goes_ Try.func75 (by kernel_rfl) rfl #[.agg #[.slice (some ad277) l0_0.length c0_0, .slice (some ad272) l0_1.length c0_1], .int .i64 ((rd_T100 l0_1 a1).f2)] (by rfl) rfl rfl y6 ?_
              with_reducible refine (heraldref13_token.calls _ _ l0_0 _ _ l0_1 ((rd_T100 l0_1 a1).f2) true _ ?side1 ?side2 ?side3 ?side4 A15.out).mono ?_
              (case side1 => exact y9 HR0_0)
              (case side2 => exact HC0_0.out)
              (case side3 => exact y9 HR0_1)
              (case side4 => exact HC0_1.out)
              rintro e w28 ⟨rfl, hb⟩
              refine ⟨_, rfl, ?_⟩
              have n0_ := ym (yq (g := gb271) (o := .cells #[.slice (some ad277) l0_0.length c0_0, .slice (some ad272) l0_1.length c0_1] 56 (0, 0)) (yc BK271) hb)
              have n1_ := ym (yq (g := gb273) (o := .cells #[.int .i64 ((rd_T100 l0_1 a1).f0), .int .i64 ((rd_T100 l0_1 a1).f1), .int .i64 ((rd_T100 l0_1 a1).f2)] 100 (0, 0)) (yc BK273) hb)
              have n2_ := ym (yn yb hb)
              clear BK271
              clear BK273
              clear HB
              have BK271 := n0_
              have BK273 := n1_
              have HB := n2_
              clear n0_ n1_ n2_
              (try clear hb)
              (try clear hb2)
              (try clear hk)
              (try clear hi)
              refine hK.out _ _ ⟨(yw BK271.out 0).trans rfl, (yw BK271.out 1).trans rfl, (yw BK273.out 0).trans rfl, (yw BK273.out 1).trans rfl, (yw BK273.out 2).trans rfl, ((HB.out.cell (World.block_lt_of_cell? w _ hw277_0)).trans hw277_0), ((HB.out.cell (World.block_lt_of_cell? w _ hw278_0)).trans hw278_0), ((HB.out.cell (World.block_lt_of_cell? w _ hw279_0)).trans hw279_0)⟩ (fun hHeld => ?_)
              clear hK K
              refine norm_ (a' := ?_) ?_ ?_
              rotate_left
              ·
               show Act.put _ (some 28) _ = _
               simp only [Act.put, y0, y1]
               rfl
              refine zt (i := 17) (N := some 29) HT_ ?_
              refine zt (i := 18) (N := some 30) HT_ ?_
              refine zt (i := 19) (N := some 31) HT_ ?_
              refine zt (i := 20) (N := some 32) HT_ ?_
              refine zt (i := 22) (N := some 34) HT_ ?_
              refine zt (i := 26) (N := some 38) HT_ ?_
              refine zt (i := 28) (N := some 40) HT_ ?_
              refine zt (i := 32) (N := some 44) HT_ ?_
              refine zt (i := 34) (N := some 46) HT_ ?_
              refine zw (i := 21) (N := some 33) HT_ HW_ hHeld ?_ (hv := (by rintro w' ⟨s0, s1, s2, s3, s4, s5, s6, s7⟩; go_simp; with_reducible rfl))
              refine zw (i := 23) (N := some 35) HT_ HW_ hHeld ?_ (hv := (by rintro w' ⟨s0, s1, s2, s3, s4, s5, s6, s7⟩; go_simp; with_reducible rfl))
              refine zt (i := 24) (N := some 36) HT_ ?_
              refine zw (i := 25) (N := some 37) HT_ HW_ hHeld ?_ (hv := (by rintro w' ⟨s0, s1, s2, s3, s4, s5, s6, s7⟩; go_simp; with_reducible rfl))
              refine zw (i := 27) (N := some 39) HT_ HW_ hHeld ?_ (hv := (by rintro w' ⟨s0, s1, s2, s3, s4, s5, s6, s7⟩; go_simp; with_reducible rfl))
              refine zw (i := 29) (N := some 41) HT_ HW_ hHeld ?_ (hv := (by rintro w' ⟨s0, s1, s2, s3, s4, s5, s6, s7⟩; go_simp; with_reducible rfl))
              refine zt (i := 30) (N := some 42) HT_ ?_
              refine zw (i := 31) (N := some 43) HT_ HW_ hHeld ?_ (hv := (by rintro w' ⟨s0, s1, s2, s3, s4, s5, s6, s7⟩; go_simp; with_reducible rfl))
              refine zw (i := 33) (N := some 45) HT_ HW_ hHeld ?_ (hv := (by rintro w' ⟨s0, s1, s2, s3, s4, s5, s6, s7⟩; go_simp; with_reducible rfl))
              refine zw (i := 35) (N := some 47) HT_ HW_ hHeld ?_ (hv := (by rintro w' ⟨s0, s1, s2, s3, s4, s5, s6, s7⟩; go_simp; with_reducible rfl))
              refine zt (i := 36) (N := some 48) HT_ ?_
              refine zw (i := 37) (N := some 49) HT_ HW_ hHeld ?_ (hv := (by rintro w' ⟨s0, s1, s2, s3, s4, s5, s6, s7⟩; go_simp; with_reducible rfl))
              refine zt (i := 38) (N := some 50) HT_ ?_
              refine zt (i := 39) (N := some 51) HT_ ?_
              refine zt (i := 40) (N := some 52) HT_ ?_
              refine done_ (done_of HT_.out (by kernel_rfl)) ?_
              try go_wp2
              go_meet
              case rel => exact ⟨_, (((rdOf ByteArray.empty l0_0 ((rd_T100 l0_1 a1).f2)).toList != ((rdOf ByteArray.empty l0_0 ((rd_T100 l0_1 a1).f0)) ++ (rdOf ByteArray.empty l0_0 ((rd_T100 l0_1 a1).f1))).toList)), y7, H', ⟨by first | omega | exact Nat.le_refl _⟩, ⟨by (with_reducible repeat refine y4 ?_); exact BK271.out⟩, ⟨by (with_reducible repeat refine y4 ?_); exact BK273.out⟩, ⟨by repeat (first | (with_reducible first | exact HB.out | apply y3 | refine ys ?_ GE271.out | refine ys ?_ GE273.out) | exact HB.out)⟩⟩
             rw [if_neg c23] at H
             exact absurd H (by simp)
            rw [if_neg c22] at H
            exact absurd H (by simp)
           rw [if_neg c21] at H
           exact absurd H (by simp)
          rw [if_neg c20] at H
          exact absurd H (by simp)
         rw [if_neg c19] at H
         exact absurd H (by simp)
        rw [if_neg c18] at H
        exact absurd H (by simp)
       rw [if_neg c17] at H
       exact absurd H (by simp)
      replace c16 := Bool.eq_false_iff.mpr c16
      subst c16
      have H1 : (heraldref13_merge.j0 k a1 true l0_0 l0_1 ((rd_T100 l0_1 a1).f0) ((rd_T100 l0_1 a1).f1) ((rd_T100 l0_1 a1).f2)) = some r := by rw [if_neg (show ¬ (false = true) by decide)] at H; exact H
      clear H
      have H := H1
      clear H1
      have H' := ym H
      clear H
      try go_wp2
      have n0_ : Aside0 ((((w8.setCell ⟨gb273, 0, none⟩ (.int .i64 ((rd_T100 l0_1 a1).f0))).setCell ⟨gb273, 1, none⟩ (.int .i64 ((rd_T100 l0_1 a1).f1))).setCell ⟨gb273, 2, none⟩ (.int .i64 ((rd_T100 l0_1 a1).f2))).heap[gb271]? = some (.cells #[.slice A0_0 l0_0.length c0_0, .slice (some ad272) l0_1.length c0_1] 56 (0, 0))) := ⟨by (with_reducible repeat refine y4 ?_); refine yx ?_ NB271_273.out _; (with_reducible repeat refine y4 ?_); refine yx ?_ NB271_273.out _; (with_reducible repeat refine y4 ?_); refine yx ?_ NB271_273.out _; (with_reducible repeat refine y4 ?_); exact BK271.out⟩
      have n1_ : Aside0 ((((w8.setCell ⟨gb273, 0, none⟩ (.int .i64 ((rd_T100 l0_1 a1).f0))).setCell ⟨gb273, 1, none⟩ (.int .i64 ((rd_T100 l0_1 a1).f1))).setCell ⟨gb273, 2, none⟩ (.int .i64 ((rd_T100 l0_1 a1).f2))).heap[gb273]? = some (.cells #[.int .i64 ((rd_T100 l0_1 a1).f0), .int .i64 ((rd_T100 l0_1 a1).f1), .int .i64 ((rd_T100 l0_1 a1).f2)] 100 (0, 0))) := ⟨by (with_reducible repeat refine y4 ?_); refine yy (cs := #[.int .i64 ((rd_T100 l0_1 a1).f0), .int .i64 ((rd_T100 l0_1 a1).f1), .int .i64 0]) ?_ 2 _ rfl; (with_reducible repeat refine y4 ?_); refine yy (cs := #[.int .i64 ((rd_T100 l0_1 a1).f0), .int .i64 0, .int .i64 0]) ?_ 1 _ rfl; (with_reducible repeat refine y4 ?_); refine yy (cs := #[.int .i64 0, .int .i64 0, .int .i64 0]) ?_ 0 _ rfl; (with_reducible repeat refine y4 ?_); exact BK273.out⟩
      have n2_ : Aside0 (Below w.heap.size w (((w8.setCell ⟨gb273, 0, none⟩ (.int .i64 ((rd_T100 l0_1 a1).f0))).setCell ⟨gb273, 1, none⟩ (.int .i64 ((rd_T100 l0_1 a1).f1))).setCell ⟨gb273, 2, none⟩ (.int .i64 ((rd_T100 l0_1 a1).f2)))) := ⟨by repeat (first | (with_reducible first | exact HB.out | apply y3 | refine ys ?_ GE271.out | refine ys ?_ GE273.out) | exact HB.out)⟩
      (try clear BK271)
      (try clear BK273)
      (try clear HB)
      generalize (((w8.setCell ⟨gb273, 0, none⟩ (.int .i64 ((rd_T100 l0_1 a1).f0))).setCell ⟨gb273, 1, none⟩ (.int .i64 ((rd_T100 l0_1 a1).f1))).setCell ⟨gb273, 2, none⟩ (.int .i64 ((rd_T100 l0_1 a1).f2))) = w29 at n0_ n1_ n2_ ⊢
      have BK271 := n0_
      have BK273 := n1_
      have HB := n2_
      clear n0_ n1_ n2_
      have n0_ := ym (yt BK271.out)
      have n1_ := ym (yt BK273.out)
      have n2_ := ym (ye HB.out)
      clear BK271
      clear BK273
      clear HB
      have BK271 := n0_
      have BK273 := n1_
      have HB := n2_
      clear n0_ n1_ n2_
      refine start_ (n := 41) (S := fun w' => w'.cell? ⟨gb271, 0, none⟩ = some (.slice A0_0 l0_0.length c0_0) ∧ w'.cell? ⟨gb271, 1, none⟩ = some (.slice (some ad272) l0_1.length c0_1) ∧ w'.cell? ⟨gb273, 0, none⟩ = some (.int .i64 ((rd_T100 l0_1 a1).f0)) ∧ w'.cell? ⟨gb273, 1, none⟩ = some (.int .i64 ((rd_T100 l0_1 a1).f1)) ∧ w'.cell? ⟨gb273, 2, none⟩ = some (.int .i64 ((rd_T100 l0_1 a1).f2))) (ds := []) #[o_, o_, o_, o_, o_, o_, o_, o_, o_, o_, o_, o_, o_, o_, o_, o_, o_, o_, o_, o_, o_, o_, o_, o_, o_, o_, o_, o_, o_, o_, o_, o_, o_, o_, o_, o_, o_, o_, o_, o_, o_] (by kernel_rfl) rfl rfl ⟨(yw BK271.out 0).trans rfl, (yw BK271.out 1).trans rfl, (yw BK273.out 0).trans rfl, (yw BK273.out 1).trans rfl, (yw BK273.out 2).trans rfl⟩ (fun hHeld => ?_); refine with_tabW heraldref13_merge.tab2 heraldref13_merge.bits2 (fun HT_ HW_ => ?_)
      generalize w29.drew = w30 at BK271 BK273 HB hHeld ⊢
      refine zt (i := 1) (N := some 13) HT_ ?_
      refine zw (i := 0) (N := some 12) HT_ HW_ hHeld ?_ (hv := (by rintro w' ⟨s0, s1, s2, s3, s4⟩; go_simp; with_reducible rfl))
      refine zw (i := 2) (N := some 14) HT_ HW_ hHeld ?_ (hv := (by rintro w' ⟨s0, s1, s2, s3, s4⟩; go_simp; with_reducible rfl))
      refine one_ (i := 3) (N := some 15) #[i_, i_, i_, i_, o_, o_, o_, o_, o_, o_, o_, o_, o_, o_, o_, o_, o_, o_, o_, o_, o_, o_, o_, o_, o_, o_, o_, o_, o_, o_, o_, o_, o_, o_, o_, o_, o_, o_, o_, o_, o_] rfl rfl (one_of HT_.out (by kernel_rfl)) (by decide) (fun K hK => ?_)
      refine goes_ Try.func75 (by kernel_rfl) rfl #[.agg #[.slice A0_0 l0_0.length c0_0, .slice (some ad272) l0_1.length c0_1], .int .i64 ((rd_T100 l0_1 a1).f0)] (by rfl) rfl rfl y6 ?_
      with_reducible refine (heraldref13_token.calls _ _ l0_0 _ _ l0_1 ((rd_T100 l0_1 a1).f0) true _ ?side1 ?side2 ?side3 ?side4 A11.out).mono ?_
      (case side1 => exact y9 HR0_0)
      (case side2 => exact HC0_0.out)
      (case side3 => exact y9 HR0_1)
      (case side4 => exact HC0_1.out)
      rintro e w31 ⟨rfl, hb⟩
      refine ⟨_, rfl, ?_⟩
      have n0_ := ym (yq (g := gb271) (o := .cells #[.slice A0_0 l0_0.length c0_0, .slice (some ad272) l0_1.length c0_1] 56 (0, 0)) (yc BK271) hb)
      have n1_ := ym (yq (g := gb273) (o := .cells #[.int .i64 ((rd_T100 l0_1 a1).f0), .int .i64 ((rd_T100 l0_1 a1).f1), .int .i64 ((rd_T100 l0_1 a1).f2)] 100 (0, 0)) (yc BK273) hb)
      have n2_ := ym (yn yb hb)
      clear BK271
      clear BK273
      clear HB
      have BK271 := n0_
      have BK273 := n1_
      have HB := n2_
      clear n0_ n1_ n2_
      (try clear hb)
      (try clear hb2)
      (try clear hk)
      (try clear hi)
      refine hK.out _ _ ⟨(yw BK271.out 0).trans rfl, (yw BK271.out 1).trans rfl, (yw BK273.out 0).trans rfl, (yw BK273.out 1).trans rfl, (yw BK273.out 2).trans rfl⟩ (fun hHeld => ?_)
      clear hK K
      refine norm_ (a' := ?_) ?_ ?_
      rotate_left
      ·
       show Act.put _ (some 15) _ = _
       simp only [Act.put, y0, y1]
       rfl
      refine zt (i := 4) (N := some 16) HT_ ?_
      refine zt (i := 5) (N := some 17) HT_ ?_
      refine zt (i := 7) (N := some 19) HT_ ?_
      refine zw (i := 6) (N := some 18) HT_ HW_ hHeld ?_ (hv := (by rintro w' ⟨s0, s1, s2, s3, s4⟩; go_simp; with_reducible rfl))
      refine zw (i := 8) (N := some 20) HT_ HW_ hHeld ?_ (hv := (by rintro w' ⟨s0, s1, s2, s3, s4⟩; go_simp; with_reducible rfl))
      refine one_ (i := 9) (N := some 21) #[i_, i_, i_, i_, i_, i_, i_, i_, i_, i_, o_, o_, o_, o_, o_, o_, o_, o_, o_, o_, o_, o_, o_, o_, o_, o_, o_, o_, o_, o_, o_, o_, o_, o_, o_, o_, o_, o_, o_, o_, o_] rfl rfl (one_of HT_.out (by kernel_rfl)) (by decide) (fun K hK => ?_)
      refine goes_ Try.func75 (by kernel_rfl) rfl #[.agg #[.slice A0_0 l0_0.length c0_0, .slice (some ad272) l0_1.length c0_1], .int .i64 ((rd_T100 l0_1 a1).f1)] (by rfl) rfl rfl y6 ?_
      with_reducible refine (heraldref13_token.calls _ _ l0_0 _ _ l0_1 ((rd_T100 l0_1 a1).f1) true _ ?side1 ?side2 ?side3 ?side4 A13.out).mono ?_
      (case side1 => exact y9 HR0_0)
      (case side2 => exact HC0_0.out)
      (case side3 => exact y9 HR0_1)
      (case side4 => exact HC0_1.out)
      rintro e w32 ⟨rfl, hb⟩
      refine ⟨_, rfl, ?_⟩
      have n0_ := ym (yq (g := gb271) (o := .cells #[.slice A0_0 l0_0.length c0_0, .slice (some ad272) l0_1.length c0_1] 56 (0, 0)) (yc BK271) hb)
      have n1_ := ym (yq (g := gb273) (o := .cells #[.int .i64 ((rd_T100 l0_1 a1).f0), .int .i64 ((rd_T100 l0_1 a1).f1), .int .i64 ((rd_T100 l0_1 a1).f2)] 100 (0, 0)) (yc BK273) hb)
      have n2_ := ym (yn yb hb)
      clear BK271
      clear BK273
      clear HB
      have BK271 := n0_
      have BK273 := n1_
      have HB := n2_
      clear n0_ n1_ n2_
      (try clear hb)
      (try clear hb2)
      (try clear hk)
      (try clear hi)
      refine hK.out _ _ ⟨(yw BK271.out 0).trans rfl, (yw BK271.out 1).trans rfl, (yw BK273.out 0).trans rfl, (yw BK273.out 1).trans rfl, (yw BK273.out 2).trans rfl⟩ (fun hHeld => ?_)
      clear hK K
      refine norm_ (a' := ?_) ?_ ?_
      rotate_left
      ·
       show Act.put _ (some 21) _ = _
       simp only [Act.put, y0, y1]
       rfl
      refine zt (i := 10) (N := some 22) HT_ ?_
      refine zt (i := 11) (N := some 23) HT_ ?_
      refine zt (i := 12) (N := some 24) HT_ ?_
      refine zt (i := 14) (N := some 26) HT_ ?_
      refine zw (i := 13) (N := some 25) HT_ HW_ hHeld ?_ (hv := (by rintro w' ⟨s0, s1, s2, s3, s4⟩; go_simp; with_reducible rfl))
      refine zw (i := 15) (N := some 27) HT_ HW_ hHeld ?_ (hv := (by rintro w' ⟨s0, s1, s2, s3, s4⟩; go_simp; with_reducible rfl))
      refine one_ (i := 16) (N := some 28) #[i_, i_, i_, i_, i_, i_, i_, i_, i_, i_, i_, i_, i_, i_, i_, i_, i_, o_, o_, o_, o_, o_, o_, o_, o_, o_, o_, o_, o_, o_, o_, o_, o_, o_, o_, o_, o_, o_, o_, o_, o_] rfl rfl (one_of HT_.out (by kernel_rfl)) (by decide) (fun K hK => ?_)
      refine goes_ Try.func75 (by kernel_rfl) rfl #[.agg #[.slice A0_0 l0_0.length c0_0, .slice (some ad272) l0_1.length c0_1], .int .i64 ((rd_T100 l0_1 a1).f2)] (by rfl) rfl rfl y6 ?_
      with_reducible refine (heraldref13_token.calls _ _ l0_0 _ _ l0_1 ((rd_T100 l0_1 a1).f2) false _ ?side1 ?side2 ?side3 ?side4 A15.out).mono ?_
      (case side1 => exact y9 HR0_0)
      (case side2 => exact HC0_0.out)
      (case side3 => exact y9 HR0_1)
      (case side4 => exact HC0_1.out)
      rintro e w33 ⟨rfl, hb⟩
      refine ⟨_, rfl, ?_⟩
      have n0_ := ym (yq (g := gb271) (o := .cells #[.slice A0_0 l0_0.length c0_0, .slice (some ad272) l0_1.length c0_1] 56 (0, 0)) (yc BK271) hb)
      have n1_ := ym (yq (g := gb273) (o := .cells #[.int .i64 ((rd_T100 l0_1 a1).f0), .int .i64 ((rd_T100 l0_1 a1).f1), .int .i64 ((rd_T100 l0_1 a1).f2)] 100 (0, 0)) (yc BK273) hb)
      have n2_ := ym (yn yb hb)
      clear BK271
      clear BK273
      clear HB
      have BK271 := n0_
      have BK273 := n1_
      have HB := n2_
      clear n0_ n1_ n2_
      (try clear hb)
      (try clear hb2)
      (try clear hk)
      (try clear hi)
      refine hK.out _ _ ⟨(yw BK271.out 0).trans rfl, (yw BK271.out 1).trans rfl, (yw BK273.out 0).trans rfl, (yw BK273.out 1).trans rfl, (yw BK273.out 2).trans rfl⟩ (fun hHeld => ?_)
      clear hK K
      refine norm_ (a' := ?_) ?_ ?_
      rotate_left
      ·
       show Act.put _ (some 28) _ = _
       simp only [Act.put, y0, y1]
       rfl
      refine zt (i := 17) (N := some 29) HT_ ?_
      refine zt (i := 18) (N := some 30) HT_ ?_
      refine zt (i := 19) (N := some 31) HT_ ?_
      refine zk (i := 20) (N := some 32) HT_ ?_
      refine zk (i := 21) (N := some 33) HT_ ?_
      refine zk (i := 22) (N := some 34) HT_ ?_
      refine zk (i := 23) (N := some 35) HT_ ?_
      refine zk (i := 24) (N := some 36) HT_ ?_
      refine zk (i := 25) (N := some 37) HT_ ?_
      refine zk (i := 26) (N := some 38) HT_ ?_
      refine zk (i := 27) (N := some 39) HT_ ?_
      refine zk (i := 28) (N := some 40) HT_ ?_
      refine zk (i := 29) (N := some 41) HT_ ?_
      refine zk (i := 30) (N := some 42) HT_ ?_
      refine zk (i := 31) (N := some 43) HT_ ?_
      refine zk (i := 32) (N := some 44) HT_ ?_
      refine zk (i := 33) (N := some 45) HT_ ?_
      refine zk (i := 34) (N := some 46) HT_ ?_
      refine zk (i := 35) (N := some 47) HT_ ?_
      refine zk (i := 36) (N := some 48) HT_ ?_
      refine zk (i := 37) (N := some 49) HT_ ?_
      refine zk (i := 38) (N := some 50) HT_ ?_
      refine zk (i := 39) (N := some 51) HT_ ?_
      refine zt (i := 40) (N := some 52) HT_ ?_
      refine done_ (done_of HT_.out (by kernel_rfl)) ?_
      try go_wp2
      go_meet
      case rel => exact ⟨_, (true), y7, H', ⟨by first | omega | exact Nat.le_refl _⟩, ⟨by (with_reducible repeat refine y4 ?_); exact BK271.out⟩, ⟨by (with_reducible repeat refine y4 ?_); exact BK273.out⟩, ⟨by repeat (first | (with_reducible first | exact HB.out | apply y3 | refine ys ?_ GE271.out | refine ys ?_ GE273.out) | exact HB.out)⟩⟩
     replace c14 := Bool.eq_false_iff.mpr c14
     subst c14
     have H1 : (heraldref13_merge.j0 k a1 true l0_0 l0_1 ((rd_T100 l0_1 a1).f0) ((rd_T100 l0_1 a1).f1) ((rd_T100 l0_1 a1).f2)) = some r := by rw [if_neg (show ¬ (false = true) by decide)] at H; exact H
     clear H
     have H := H1
     clear H1
     have H' := ym H
     clear H
     try go_wp2
     have n0_ : Aside0 ((((w8.setCell ⟨gb273, 0, none⟩ (.int .i64 ((rd_T100 l0_1 a1).f0))).setCell ⟨gb273, 1, none⟩ (.int .i64 ((rd_T100 l0_1 a1).f1))).setCell ⟨gb273, 2, none⟩ (.int .i64 ((rd_T100 l0_1 a1).f2))).heap[gb271]? = some (.cells #[.slice A0_0 l0_0.length c0_0, .slice (some ad272) l0_1.length c0_1] 56 (0, 0))) := ⟨by (with_reducible repeat refine y4 ?_); refine yx ?_ NB271_273.out _; (with_reducible repeat refine y4 ?_); refine yx ?_ NB271_273.out _; (with_reducible repeat refine y4 ?_); refine yx ?_ NB271_273.out _; (with_reducible repeat refine y4 ?_); exact BK271.out⟩
     have n1_ : Aside0 ((((w8.setCell ⟨gb273, 0, none⟩ (.int .i64 ((rd_T100 l0_1 a1).f0))).setCell ⟨gb273, 1, none⟩ (.int .i64 ((rd_T100 l0_1 a1).f1))).setCell ⟨gb273, 2, none⟩ (.int .i64 ((rd_T100 l0_1 a1).f2))).heap[gb273]? = some (.cells #[.int .i64 ((rd_T100 l0_1 a1).f0), .int .i64 ((rd_T100 l0_1 a1).f1), .int .i64 ((rd_T100 l0_1 a1).f2)] 100 (0, 0))) := ⟨by (with_reducible repeat refine y4 ?_); refine yy (cs := #[.int .i64 ((rd_T100 l0_1 a1).f0), .int .i64 ((rd_T100 l0_1 a1).f1), .int .i64 0]) ?_ 2 _ rfl; (with_reducible repeat refine y4 ?_); refine yy (cs := #[.int .i64 ((rd_T100 l0_1 a1).f0), .int .i64 0, .int .i64 0]) ?_ 1 _ rfl; (with_reducible repeat refine y4 ?_); refine yy (cs := #[.int .i64 0, .int .i64 0, .int .i64 0]) ?_ 0 _ rfl; (with_reducible repeat refine y4 ?_); exact BK273.out⟩
     have n2_ : Aside0 (Below w.heap.size w (((w8.setCell ⟨gb273, 0, none⟩ (.int .i64 ((rd_T100 l0_1 a1).f0))).setCell ⟨gb273, 1, none⟩ (.int .i64 ((rd_T100 l0_1 a1).f1))).setCell ⟨gb273, 2, none⟩ (.int .i64 ((rd_T100 l0_1 a1).f2)))) := ⟨by repeat (first | (with_reducible first | exact HB.out | apply y3 | refine ys ?_ GE271.out | refine ys ?_ GE273.out) | exact HB.out)⟩
     (try clear BK271)
     (try clear BK273)
     (try clear HB)
     generalize (((w8.setCell ⟨gb273, 0, none⟩ (.int .i64 ((rd_T100 l0_1 a1).f0))).setCell ⟨gb273, 1, none⟩ (.int .i64 ((rd_T100 l0_1 a1).f1))).setCell ⟨gb273, 2, none⟩ (.int .i64 ((rd_T100 l0_1 a1).f2))) = w34 at n0_ n1_ n2_ ⊢
     have BK271 := n0_
     have BK273 := n1_
     have HB := n2_
     clear n0_ n1_ n2_
     have n0_ := ym (yt BK271.out)
     have n1_ := ym (yt BK273.out)
     have n2_ := ym (ye HB.out)
     clear BK271
     clear BK273
     clear HB
     have BK271 := n0_
     have BK273 := n1_
     have HB := n2_
     clear n0_ n1_ n2_
     refine start_ (n := 41) (S := fun w' => w'.cell? ⟨gb271, 0, none⟩ = some (.slice A0_0 l0_0.length c0_0) ∧ w'.cell? ⟨gb271, 1, none⟩ = some (.slice (some ad272) l0_1.length c0_1) ∧ w'.cell? ⟨gb273, 0, none⟩ = some (.int .i64 ((rd_T100 l0_1 a1).f0)) ∧ w'.cell? ⟨gb273, 1, none⟩ = some (.int .i64 ((rd_T100 l0_1 a1).f1)) ∧ w'.cell? ⟨gb273, 2, none⟩ = some (.int .i64 ((rd_T100 l0_1 a1).f2))) (ds := []) #[o_, o_, o_, o_, o_, o_, o_, o_, o_, o_, o_, o_, o_, o_, o_, o_, o_, o_, o_, o_, o_, o_, o_, o_, o_, o_, o_, o_, o_, o_, o_, o_, o_, o_, o_, o_, o_, o_, o_, o_, o_] (by kernel_rfl) rfl rfl ⟨(yw BK271.out 0).trans rfl, (yw BK271.out 1).trans rfl, (yw BK273.out 0).trans rfl, (yw BK273.out 1).trans rfl, (yw BK273.out 2).trans rfl⟩ (fun hHeld => ?_); refine with_tabW heraldref13_merge.tab2 heraldref13_merge.bits2 (fun HT_ HW_ => ?_)
     generalize w34.drew = w35 at BK271 BK273 HB hHeld ⊢
     refine zt (i := 1) (N := some 13) HT_ ?_
     refine zw (i := 0) (N := some 12) HT_ HW_ hHeld ?_ (hv := (by rintro w' ⟨s0, s1, s2, s3, s4⟩; go_simp; with_reducible rfl))
     refine zw (i := 2) (N := some 14) HT_ HW_ hHeld ?_ (hv := (by rintro w' ⟨s0, s1, s2, s3, s4⟩; go_simp; with_reducible rfl))
     refine one_ (i := 3) (N := some 15) #[i_, i_, i_, i_, o_, o_, o_, o_, o_, o_, o_, o_, o_, o_, o_, o_, o_, o_, o_, o_, o_, o_, o_, o_, o_, o_, o_, o_, o_, o_, o_, o_, o_, o_, o_, o_, o_, o_, o_, o_, o_] rfl rfl (one_of HT_.out (by kernel_rfl)) (by decide) (fun K hK => ?_)
     refine goes_ Try.func75 (by kernel_rfl) rfl #[.agg #[.slice A0_0 l0_0.length c0_0, .slice (some ad272) l0_1.length c0_1], .int .i64 ((rd_T100 l0_1 a1).f0)] (by rfl) rfl rfl y6 ?_
     with_reducible refine (heraldref13_token.calls _ _ l0_0 _ _ l0_1 ((rd_T100 l0_1 a1).f0) true _ ?side1 ?side2 ?side3 ?side4 A11.out).mono ?_
     (case side1 => exact y9 HR0_0)
     (case side2 => exact HC0_0.out)
     (case side3 => exact y9 HR0_1)
     (case side4 => exact HC0_1.out)
     rintro e w36 ⟨rfl, hb⟩
     refine ⟨_, rfl, ?_⟩
     have n0_ := ym (yq (g := gb271) (o := .cells #[.slice A0_0 l0_0.length c0_0, .slice (some ad272) l0_1.length c0_1] 56 (0, 0)) (yc BK271) hb)
     have n1_ := ym (yq (g := gb273) (o := .cells #[.int .i64 ((rd_T100 l0_1 a1).f0), .int .i64 ((rd_T100 l0_1 a1).f1), .int .i64 ((rd_T100 l0_1 a1).f2)] 100 (0, 0)) (yc BK273) hb)
     have n2_ := ym (yn yb hb)
     clear BK271
     clear BK273
     clear HB
     have BK271 := n0_
     have BK273 := n1_
     have HB := n2_
     clear n0_ n1_ n2_
     (try clear hb)
     (try clear hb2)
     (try clear hk)
     (try clear hi)
     refine hK.out _ _ ⟨(yw BK271.out 0).trans rfl, (yw BK271.out 1).trans rfl, (yw BK273.out 0).trans rfl, (yw BK273.out 1).trans rfl, (yw BK273.out 2).trans rfl⟩ (fun hHeld => ?_)
     clear hK K
     refine norm_ (a' := ?_) ?_ ?_
     rotate_left
     ·
      show Act.put _ (some 15) _ = _
      simp only [Act.put, y0, y1]
      rfl
     refine zt (i := 4) (N := some 16) HT_ ?_
     refine zt (i := 5) (N := some 17) HT_ ?_
     refine zt (i := 7) (N := some 19) HT_ ?_
     refine zw (i := 6) (N := some 18) HT_ HW_ hHeld ?_ (hv := (by rintro w' ⟨s0, s1, s2, s3, s4⟩; go_simp; with_reducible rfl))
     refine zw (i := 8) (N := some 20) HT_ HW_ hHeld ?_ (hv := (by rintro w' ⟨s0, s1, s2, s3, s4⟩; go_simp; with_reducible rfl))
     refine one_ (i := 9) (N := some 21) #[i_, i_, i_, i_, i_, i_, i_, i_, i_, i_, o_, o_, o_, o_, o_, o_, o_, o_, o_, o_, o_, o_, o_, o_, o_, o_, o_, o_, o_, o_, o_, o_, o_, o_, o_, o_, o_, o_, o_, o_, o_] rfl rfl (one_of HT_.out (by kernel_rfl)) (by decide) (fun K hK => ?_)
     refine goes_ Try.func75 (by kernel_rfl) rfl #[.agg #[.slice A0_0 l0_0.length c0_0, .slice (some ad272) l0_1.length c0_1], .int .i64 ((rd_T100 l0_1 a1).f1)] (by rfl) rfl rfl y6 ?_
     with_reducible refine (heraldref13_token.calls _ _ l0_0 _ _ l0_1 ((rd_T100 l0_1 a1).f1) false _ ?side1 ?side2 ?side3 ?side4 A13.out).mono ?_
     (case side1 => exact y9 HR0_0)
     (case side2 => exact HC0_0.out)
     (case side3 => exact y9 HR0_1)
     (case side4 => exact HC0_1.out)
     rintro e w37 ⟨rfl, hb⟩
     refine ⟨_, rfl, ?_⟩
     have n0_ := ym (yq (g := gb271) (o := .cells #[.slice A0_0 l0_0.length c0_0, .slice (some ad272) l0_1.length c0_1] 56 (0, 0)) (yc BK271) hb)
     have n1_ := ym (yq (g := gb273) (o := .cells #[.int .i64 ((rd_T100 l0_1 a1).f0), .int .i64 ((rd_T100 l0_1 a1).f1), .int .i64 ((rd_T100 l0_1 a1).f2)] 100 (0, 0)) (yc BK273) hb)
     have n2_ := ym (yn yb hb)
     clear BK271
     clear BK273
     clear HB
     have BK271 := n0_
     have BK273 := n1_
     have HB := n2_
     clear n0_ n1_ n2_
     (try clear hb)
     (try clear hb2)
     (try clear hk)
     (try clear hi)
     refine hK.out _ _ ⟨(yw BK271.out 0).trans rfl, (yw BK271.out 1).trans rfl, (yw BK273.out 0).trans rfl, (yw BK273.out 1).trans rfl, (yw BK273.out 2).trans rfl⟩ (fun hHeld => ?_)
     clear hK K
     refine norm_ (a' := ?_) ?_ ?_
     rotate_left
     ·
      show Act.put _ (some 21) _ = _
      simp only [Act.put, y0, y1]
      rfl
     refine zt (i := 10) (N := some 22) HT_ ?_
     refine zt (i := 11) (N := some 23) HT_ ?_
     refine zt (i := 12) (N := some 24) HT_ ?_
     refine zk (i := 13) (N := some 25) HT_ ?_
     refine zk (i := 14) (N := some 26) HT_ ?_
     refine zk (i := 15) (N := some 27) HT_ ?_
     refine zk (i := 16) (N := some 28) HT_ ?_
     refine zk (i := 17) (N := some 29) HT_ ?_
     refine zt (i := 18) (N := some 30) HT_ ?_
     refine zt (i := 19) (N := some 31) HT_ ?_
     refine zk (i := 20) (N := some 32) HT_ ?_
     refine zk (i := 21) (N := some 33) HT_ ?_
     refine zk (i := 22) (N := some 34) HT_ ?_
     refine zk (i := 23) (N := some 35) HT_ ?_
     refine zk (i := 24) (N := some 36) HT_ ?_
     refine zk (i := 25) (N := some 37) HT_ ?_
     refine zk (i := 26) (N := some 38) HT_ ?_
     refine zk (i := 27) (N := some 39) HT_ ?_
     refine zk (i := 28) (N := some 40) HT_ ?_
     refine zk (i := 29) (N := some 41) HT_ ?_
     refine zk (i := 30) (N := some 42) HT_ ?_
     refine zk (i := 31) (N := some 43) HT_ ?_
     refine zk (i := 32) (N := some 44) HT_ ?_
     refine zk (i := 33) (N := some 45) HT_ ?_
     refine zk (i := 34) (N := some 46) HT_ ?_
     refine zk (i := 35) (N := some 47) HT_ ?_
     refine zk (i := 36) (N := some 48) HT_ ?_
     refine zk (i := 37) (N := some 49) HT_ ?_
     refine zk (i := 38) (N := some 50) HT_ ?_
     refine zk (i := 39) (N := some 51) HT_ ?_
     refine zt (i := 40) (N := some 52) HT_ ?_
     refine done_ (done_of HT_.out (by kernel_rfl)) ?_
     try go_wp2
     go_meet
     case rel => exact ⟨_, (true), y7, H', ⟨by first | omega | exact Nat.le_refl _⟩, ⟨by (with_reducible repeat refine y4 ?_); exact BK271.out⟩, ⟨by (with_reducible repeat refine y4 ?_); exact BK273.out⟩, ⟨by repeat (first | (with_reducible first | exact HB.out | apply y3 | refine ys ?_ GE271.out | refine ys ?_ GE273.out) | exact HB.out)⟩⟩
    replace c12 := Bool.eq_false_iff.mpr c12
    subst c12
    have H1 : (heraldref13_merge.j0 k a1 true l0_0 l0_1 ((rd_T100 l0_1 a1).f0) ((rd_T100 l0_1 a1).f1) ((rd_T100 l0_1 a1).f2)) = some r := by rw [if_neg (show ¬ (false = true) by decide)] at H; exact H
    clear H
    have H := H1
    clear H1
    have H' := ym H
    clear H
    try go_wp2
    have n0_ : Aside0 ((((w8.setCell ⟨gb273, 0, none⟩ (.int .i64 ((rd_T100 l0_1 a1).f0))).setCell ⟨gb273, 1, none⟩ (.int .i64 ((rd_T100 l0_1 a1).f1))).setCell ⟨gb273, 2, none⟩ (.int .i64 ((rd_T100 l0_1 a1).f2))).heap[gb271]? = some (.cells #[.slice A0_0 l0_0.length c0_0, .slice (some ad272) l0_1.length c0_1] 56 (0, 0))) := ⟨by (with_reducible repeat refine y4 ?_); refine yx ?_ NB271_273.out _; (with_reducible repeat refine y4 ?_); refine yx ?_ NB271_273.out _; (with_reducible repeat refine y4 ?_); refine yx ?_ NB271_273.out _; (with_reducible repeat refine y4 ?_); exact BK271.out⟩
    have n1_ : Aside0 ((((w8.setCell ⟨gb273, 0, none⟩ (.int .i64 ((rd_T100 l0_1 a1).f0))).setCell ⟨gb273, 1, none⟩ (.int .i64 ((rd_T100 l0_1 a1).f1))).setCell ⟨gb273, 2, none⟩ (.int .i64 ((rd_T100 l0_1 a1).f2))).heap[gb273]? = some (.cells #[.int .i64 ((rd_T100 l0_1 a1).f0), .int .i64 ((rd_T100 l0_1 a1).f1), .int .i64 ((rd_T100 l0_1 a1).f2)] 100 (0, 0))) := ⟨by (with_reducible repeat refine y4 ?_); refine yy (cs := #[.int .i64 ((rd_T100 l0_1 a1).f0), .int .i64 ((rd_T100 l0_1 a1).f1), .int .i64 0]) ?_ 2 _ rfl; (with_reducible repeat refine y4 ?_); refine yy (cs := #[.int .i64 ((rd_T100 l0_1 a1).f0), .int .i64 0, .int .i64 0]) ?_ 1 _ rfl; (with_reducible repeat refine y4 ?_); refine yy (cs := #[.int .i64 0, .int .i64 0, .int .i64 0]) ?_ 0 _ rfl; (with_reducible repeat refine y4 ?_); exact BK273.out⟩
    have n2_ : Aside0 (Below w.heap.size w (((w8.setCell ⟨gb273, 0, none⟩ (.int .i64 ((rd_T100 l0_1 a1).f0))).setCell ⟨gb273, 1, none⟩ (.int .i64 ((rd_T100 l0_1 a1).f1))).setCell ⟨gb273, 2, none⟩ (.int .i64 ((rd_T100 l0_1 a1).f2)))) := ⟨by repeat (first | (with_reducible first | exact HB.out | apply y3 | refine ys ?_ GE271.out | refine ys ?_ GE273.out) | exact HB.out)⟩
    (try clear BK271)
    (try clear BK273)
    (try clear HB)
    generalize (((w8.setCell ⟨gb273, 0, none⟩ (.int .i64 ((rd_T100 l0_1 a1).f0))).setCell ⟨gb273, 1, none⟩ (.int .i64 ((rd_T100 l0_1 a1).f1))).setCell ⟨gb273, 2, none⟩ (.int .i64 ((rd_T100 l0_1 a1).f2))) = w38 at n0_ n1_ n2_ ⊢
    have BK271 := n0_
    have BK273 := n1_
    have HB := n2_
    clear n0_ n1_ n2_
    have n0_ := ym (yt BK271.out)
    have n1_ := ym (yt BK273.out)
    have n2_ := ym (ye HB.out)
    clear BK271
    clear BK273
    clear HB
    have BK271 := n0_
    have BK273 := n1_
    have HB := n2_
    clear n0_ n1_ n2_
    refine start_ (n := 41) (S := fun w' => w'.cell? ⟨gb271, 0, none⟩ = some (.slice A0_0 l0_0.length c0_0) ∧ w'.cell? ⟨gb271, 1, none⟩ = some (.slice (some ad272) l0_1.length c0_1) ∧ w'.cell? ⟨gb273, 0, none⟩ = some (.int .i64 ((rd_T100 l0_1 a1).f0)) ∧ w'.cell? ⟨gb273, 1, none⟩ = some (.int .i64 ((rd_T100 l0_1 a1).f1)) ∧ w'.cell? ⟨gb273, 2, none⟩ = some (.int .i64 ((rd_T100 l0_1 a1).f2))) (ds := []) #[o_, o_, o_, o_, o_, o_, o_, o_, o_, o_, o_, o_, o_, o_, o_, o_, o_, o_, o_, o_, o_, o_, o_, o_, o_, o_, o_, o_, o_, o_, o_, o_, o_, o_, o_, o_, o_, o_, o_, o_, o_] (by kernel_rfl) rfl rfl ⟨(yw BK271.out 0).trans rfl, (yw BK271.out 1).trans rfl, (yw BK273.out 0).trans rfl, (yw BK273.out 1).trans rfl, (yw BK273.out 2).trans rfl⟩ (fun hHeld => ?_); refine with_tabW heraldref13_merge.tab2 heraldref13_merge.bits2 (fun HT_ HW_ => ?_)
    generalize w38.drew = w39 at BK271 BK273 HB hHeld ⊢
    refine zt (i := 1) (N := some 13) HT_ ?_
    refine zw (i := 0) (N := some 12) HT_ HW_ hHeld ?_ (hv := (by rintro w' ⟨s0, s1, s2, s3, s4⟩; go_simp; with_reducible rfl))
    refine zw (i := 2) (N := some 14) HT_ HW_ hHeld ?_ (hv := (by rintro w' ⟨s0, s1, s2, s3, s4⟩; go_simp; with_reducible rfl))
    refine one_ (i := 3) (N := some 15) #[i_, i_, i_, i_, o_, o_, o_, o_, o_, o_, o_, o_, o_, o_, o_, o_, o_, o_, o_, o_, o_, o_, o_, o_, o_, o_, o_, o_, o_, o_, o_, o_, o_, o_, o_, o_, o_, o_, o_, o_, o_] rfl rfl (one_of HT_.out (by kernel_rfl)) (by decide) (fun K hK => ?_)
    refine goes_ Try.func75 (by kernel_rfl) rfl #[.agg #[.slice A0_0 l0_0.length c0_0, .slice (some ad272) l0_1.length c0_1], .int .i64 ((rd_T100 l0_1 a1).f0)] (by rfl) rfl rfl y6 ?_
    with_reducible refine (heraldref13_token.calls _ _ l0_0 _ _ l0_1 ((rd_T100 l0_1 a1).f0) false _ ?side1 ?side2 ?side3 ?side4 A11.out).mono ?_
    (case side1 => exact y9 HR0_0)
    (case side2 => exact HC0_0.out)
    (case side3 => exact y9 HR0_1)
    (case side4 => exact HC0_1.out)
    rintro e w40 ⟨rfl, hb⟩
    refine ⟨_, rfl, ?_⟩
    have n0_ := ym (yq (g := gb271) (o := .cells #[.slice A0_0 l0_0.length c0_0, .slice (some ad272) l0_1.length c0_1] 56 (0, 0)) (yc BK271) hb)
    have n1_ := ym (yq (g := gb273) (o := .cells #[.int .i64 ((rd_T100 l0_1 a1).f0), .int .i64 ((rd_T100 l0_1 a1).f1), .int .i64 ((rd_T100 l0_1 a1).f2)] 100 (0, 0)) (yc BK273) hb)
    have n2_ := ym (yn yb hb)
    clear BK271
    clear BK273
    clear HB
    have BK271 := n0_
    have BK273 := n1_
    have HB := n2_
    clear n0_ n1_ n2_
    (try clear hb)
    (try clear hb2)
    (try clear hk)
    (try clear hi)
    refine hK.out _ _ ⟨(yw BK271.out 0).trans rfl, (yw BK271.out 1).trans rfl, (yw BK273.out 0).trans rfl, (yw BK273.out 1).trans rfl, (yw BK273.out 2).trans rfl⟩ (fun hHeld => ?_)
    clear hK K
    refine norm_ (a' := ?_) ?_ ?_
    rotate_left
    ·
     show Act.put _ (some 15) _ = _
     simp only [Act.put, y0, y1]
     rfl
    refine zt (i := 4) (N := some 16) HT_ ?_
    refine zt (i := 5) (N := some 17) HT_ ?_
    refine zk (i := 6) (N := some 18) HT_ ?_
    refine zk (i := 7) (N := some 19) HT_ ?_
    refine zk (i := 8) (N := some 20) HT_ ?_
    refine zk (i := 9) (N := some 21) HT_ ?_
    refine zk (i := 10) (N := some 22) HT_ ?_
    refine zt (i := 11) (N := some 23) HT_ ?_
    refine zt (i := 12) (N := some 24) HT_ ?_
    refine zk (i := 13) (N := some 25) HT_ ?_
    refine zk (i := 14) (N := some 26) HT_ ?_
    refine zk (i := 15) (N := some 27) HT_ ?_
    refine zk (i := 16) (N := some 28) HT_ ?_
    refine zk (i := 17) (N := some 29) HT_ ?_
    refine zt (i := 18) (N := some 30) HT_ ?_
    refine zt (i := 19) (N := some 31) HT_ ?_
    refine zk (i := 20) (N := some 32) HT_ ?_
    refine zk (i := 21) (N := some 33) HT_ ?_
    refine zk (i := 22) (N := some 34) HT_ ?_
    refine zk (i := 23) (N := some 35) HT_ ?_
    refine zk (i := 24) (N := some 36) HT_ ?_
    refine zk (i := 25) (N := some 37) HT_ ?_
    refine zk (i := 26) (N := some 38) HT_ ?_
    refine zk (i := 27) (N := some 39) HT_ ?_
    refine zk (i := 28) (N := some 40) HT_ ?_
    refine zk (i := 29) (N := some 41) HT_ ?_
    refine zk (i := 30) (N := some 42) HT_ ?_
    refine zk (i := 31) (N := some 43) HT_ ?_
    refine zk (i := 32) (N := some 44) HT_ ?_
    refine zk (i := 33) (N := some 45) HT_ ?_
    refine zk (i := 34) (N := some 46) HT_ ?_
    refine zk (i := 35) (N := some 47) HT_ ?_
    refine zk (i := 36) (N := some 48) HT_ ?_
    refine zk (i := 37) (N := some 49) HT_ ?_
    refine zk (i := 38) (N := some 50) HT_ ?_
    refine zk (i := 39) (N := some 51) HT_ ?_
    refine zt (i := 40) (N := some 52) HT_ ?_
    refine done_ (done_of HT_.out (by kernel_rfl)) ?_
    try go_wp2
    go_meet
    case rel => exact ⟨_, (true), y7, H', ⟨by first | omega | exact Nat.le_refl _⟩, ⟨by (with_reducible repeat refine y4 ?_); exact BK271.out⟩, ⟨by (with_reducible repeat refine y4 ?_); exact BK273.out⟩, ⟨by repeat (first | (with_reducible first | exact HB.out | apply y3 | refine ys ?_ GE271.out | refine ys ?_ GE273.out) | exact HB.out)⟩⟩
   case rest =>
    clear HC5
    try clear c1
    try clear p2
    try clear c7
    try clear c12
    obtain ⟨kq, x52_4, rfl, HA, HJ4, BK271, BK273, HB⟩ := hcut
    cases kq with
    | zero => exact absurd HA.out (by simp [heraldref13_merge.j0])
    | succ kj4 =>
     have H := HA.out
     clear HA
     simp only [heraldref13_merge.j0] at H
     by_cases c41 : x52_4 = true
     ·
      subst c41
      have H1 : (some false) = some r := by rw [if_pos rfl] at H; exact H
      clear H
      have H := H1
      clear H1
      obtain rfl := Option.some.inj H
      go_wp2
      go_ret
      exact ⟨by first | rfl | (simp [errW_none, errW_some] <;> rfl) | (simp [*, errW_none, errW_some] <;> rfl), by repeat (first | (with_reducible first | exact HB.out | apply y3 | refine ys ?_ GE271.out | refine ys ?_ GE273.out) | exact HB.out)⟩
     replace c41 := Bool.eq_false_iff.mpr c41
     subst c41
     have H1 : (heraldref13_merge.l0 kj4 a1 0 l0_0 l0_1 ((rd_T100 l0_1 a1).f0) ((rd_T100 l0_1 a1).f1) ((rd_T100 l0_1 a1).f2)) = some r := by rw [if_neg (show ¬ (false = true) by decide)] at H; exact H
     clear H
     have H := H1
     clear H1
     have H' := ym H
     clear H
     go_wp2
     go_loopg [6] kj4 (fun kq v6 w' => ∃ (x6_2 : Int), v6 = .int .i64 x6_2 ∧ Aside0 (heraldref13_merge.l0 kq a1 x6_2 l0_0 l0_1 ((rd_T100 l0_1 a1).f0) ((rd_T100 l0_1 a1).f1) ((rd_T100 l0_1 a1).f2) = some r) ∧ Aside0 (kq ≤ kj4) ∧ Aside0 (w'.heap[gb271]? = some (.cells #[(.slice A0_0 l0_0.length c0_0), (.slice (some ad272) l0_1.length c0_1)] 56 (0, 0))) ∧ Aside0 (w'.heap[gb273]? = some (.cells #[.int .i64 ((rd_T100 l0_1 a1).f0), .int .i64 ((rd_T100 l0_1 a1).f1), .int .i64 ((rd_T100 l0_1 a1).f2)] 100 (0, 0))) ∧ Aside0 (Below w.heap.size w w'))
     case atStart => exact ⟨(0), y7, H', ⟨Nat.le_refl _⟩, ⟨by (with_reducible repeat refine y4 ?_); exact BK271.out⟩, ⟨by (with_reducible repeat refine y4 ?_); exact BK273.out⟩, ⟨by repeat (first | (with_reducible first | exact HB.out | apply y3 | refine ys ?_ GE271.out | refine ys ?_ GE273.out) | exact HB.out)⟩⟩
     case round =>
      clear H'
      try clear c1
      try clear p2
      try clear c4
      try clear c7
      try clear c12
      try clear c41
      try clear p2
      obtain ⟨x6_2, rfl, HA, HK2, BK271, BK273, HB⟩ := hrel
      cases gk with
      | zero => exact absurd HA.out (by simp [heraldref13_merge.l0])
      | succ k2 =>
       have H := HA.out
       clear HA
       simp only [heraldref13_merge.l0] at H
       by_cases c42 : x6_2 < a1
       ·
        rw [if_pos c42] at H
        have c42b0 : decide (x6_2 < a1) = true := decide_eq_true c42
        clear c42
        by_cases c43 : 0 ≤ x6_2
        ·
         rw [if_pos c43] at H
         have c43b0 : decide (0 ≤ x6_2) = true := decide_eq_true c43
         clear c43
         by_cases c44 : x6_2 < (l0_1.length : Int)
         ·
          rw [if_pos c44] at H
          have c44b0 : decide (x6_2 < (l0_1.length : Int)) = true := decide_eq_true c44
          clear c44
          by_cases c45 : ((rd_T100 l0_1 x6_2).f0) = ((rd_T100 l0_1 a1).f0)
          ·
           rw [if_pos c45] at H
           have c45b0 : (((rd_T100 l0_1 x6_2).f0) == ((rd_T100 l0_1 a1).f0)) = true := beq_iff_eq.mpr c45
           have c45b1 : (((rd_T100 l0_1 x6_2).f0) != ((rd_T100 l0_1 a1).f0)) = false := bne_eq_false_iff_eq.mpr c45
           clear c45
           by_cases c46 : ((rd_T100 l0_1 x6_2).f1) = ((rd_T100 l0_1 a1).f1)
           ·
            rw [if_pos c46] at H
            have c46b0 : (((rd_T100 l0_1 x6_2).f1) == ((rd_T100 l0_1 a1).f1)) = true := beq_iff_eq.mpr c46
            have c46b1 : (((rd_T100 l0_1 x6_2).f1) != ((rd_T100 l0_1 a1).f1)) = false := bne_eq_false_iff_eq.mpr c46
            clear c46
            obtain rfl := Option.some.inj H
            try go_wp2
            have n0_ := ym (yt BK271.out)
            have n1_ := ym (yt BK273.out)
            have n2_ := ym (ye HB.out)
            clear BK271
            clear BK273
            clear HB
            have BK271 := n0_
            have BK273 := n1_
            have HB := n2_
            clear n0_ n1_ n2_
            have p280 : 0 ≤ (x6_2 : Int) := of_decide_eq_true y5
            have q280 : x6_2 < (l0_1.length : Int) := of_decide_eq_true y5
            obtain ⟨ad280, e280, hx280_0, hx280_1, hx280_2⟩ := at_T100 HR0_1.out x6_2 p280 q280
            have hw280_2 := hx280_2
            have hw280_1 := hx280_1
            have hw280_0 := hx280_0
            obtain rfl : ad272 = ad280 := (by injection e280)
            replace hx280_0 := (HB.out.cell (World.block_lt_of_cell? w _ hx280_0)).trans hx280_0
            replace hx280_1 := (HB.out.cell (World.block_lt_of_cell? w _ hx280_1)).trans hx280_1
            replace hx280_2 := (HB.out.cell (World.block_lt_of_cell? w _ hx280_2)).trans hx280_2
            replace p280 := eq_true p280
            replace q280 := eq_true q280
            have p281 : 0 ≤ (x6_2 : Int) := of_decide_eq_true y5
            have q281 : x6_2 < (l0_1.length : Int) := of_decide_eq_true y5
            obtain ⟨ad281, e281, hx281_0, hx281_1, hx281_2⟩ := at_T100 HR0_1.out x6_2 p281 q281
            have hw281_2 := hx281_2
            have hw281_1 := hx281_1
            have hw281_0 := hx281_0
            obtain rfl : ad272 = ad281 := (by injection e281)
            replace hx281_0 := (HB.out.cell (World.block_lt_of_cell? w _ hx281_0)).trans hx281_0
            replace hx281_1 := (HB.out.cell (World.block_lt_of_cell? w _ hx281_1)).trans hx281_1
            replace hx281_2 := (HB.out.cell (World.block_lt_of_cell? w _ hx281_2)).trans hx281_2
            replace p281 := eq_true p281
            replace q281 := eq_true q281
            refine start_ (n := 20) (S := fun w' => w'.cell? ⟨gb271, 0, none⟩ = some (.slice A0_0 l0_0.length c0_0) ∧ w'.cell? ⟨gb271, 1, none⟩ = some (.slice (some ad272) l0_1.length c0_1) ∧ w'.cell? ⟨gb273, 0, none⟩ = some (.int .i64 ((rd_T100 l0_1 a1).f0)) ∧ w'.cell? ⟨gb273, 1, none⟩ = some (.int .i64 ((rd_T100 l0_1 a1).f1)) ∧ w'.cell? ⟨gb273, 2, none⟩ = some (.int .i64 ((rd_T100 l0_1 a1).f2)) ∧ w'.cell? (ad272.add ((x6_2).toNat * 3)) = some (.int .i64 ((rd_T100 l0_1 x6_2).f0)) ∧ w'.cell? ⟨(ad272.add ((x6_2).toNat * 3)).block, (ad272.add ((x6_2).toNat * 3)).off + 1, none⟩ = some (.int .i64 ((rd_T100 l0_1 x6_2).f1)) ∧ w'.cell? ⟨(ad272.add ((x6_2).toNat * 3)).block, (ad272.add ((x6_2).toNat * 3)).off + 2, none⟩ = some (.int .i64 ((rd_T100 l0_1 x6_2).f2)) ∧ w'.cell? (ad272.add ((x6_2).toNat * 3)) = some (.int .i64 ((rd_T100 l0_1 x6_2).f0)) ∧ w'.cell? ⟨(ad272.add ((x6_2).toNat * 3)).block, (ad272.add ((x6_2).toNat * 3)).off + 1, none⟩ = some (.int .i64 ((rd_T100 l0_1 x6_2).f1)) ∧ w'.cell? ⟨(ad272.add ((x6_2).toNat * 3)).block, (ad272.add ((x6_2).toNat * 3)).off + 2, none⟩ = some (.int .i64 ((rd_T100 l0_1 x6_2).f2))) (ds := []) #[o_, o_, o_, o_, o_, o_, o_, o_, o_, o_, o_, o_, o_, o_, o_, o_, o_, o_, o_, o_] (by kernel_rfl) rfl rfl ⟨(yw BK271.out 0).trans rfl, (yw BK271.out 1).trans rfl, (yw BK273.out 0).trans rfl, (yw BK273.out 1).trans rfl, (yw BK273.out 2).trans rfl, ((HB.out.cell (World.block_lt_of_cell? w _ hw280_0)).trans hw280_0), ((HB.out.cell (World.block_lt_of_cell? w _ hw280_1)).trans hw280_1), ((HB.out.cell (World.block_lt_of_cell? w _ hw280_2)).trans hw280_2), ((HB.out.cell (World.block_lt_of_cell? w _ hw281_0)).trans hw281_0), ((HB.out.cell (World.block_lt_of_cell? w _ hw281_1)).trans hw281_1), ((HB.out.cell (World.block_lt_of_cell? w _ hw281_2)).trans hw281_2)⟩ (fun hHeld => ?_); refine with_tabW heraldref13_merge.tab7 heraldref13_merge.bits7 (fun HT_ HW_ => ?_)
            generalize wr.drew = w47 at BK271 BK273 HB hx280_0 hx280_1 hx280_2 hx281_0 hx281_1 hx281_2 hHeld ⊢
            refine zt (i := 0) (N := some 58) HT_ ?_
            refine zt (i := 2) (N := some 60) HT_ ?_
            refine zt (i := 6) (N := some 64) HT_ ?_
            refine zw (i := 1) (N := some 59) HT_ HW_ hHeld ?_ (hv := (by rintro w' ⟨s0, s1, s2, s3, s4, s5, s6, s7, s8, s9, s10⟩; go_simp; with_reducible rfl))
            refine zt (i := 3) (N := some 61) HT_ ?_
            refine zt (i := 4) (N := some 62) HT_ ?_
            refine zw (i := 5) (N := some 63) HT_ HW_ hHeld ?_ (hv := (by rintro w' ⟨s0, s1, s2, s3, s4, s5, s6, s7, s8, s9, s10⟩; go_simp; with_reducible rfl))
            refine zw (i := 7) (N := some 65) HT_ HW_ hHeld ?_ (hv := (by rintro w' ⟨s0, s1, s2, s3, s4, s5, s6, s7, s8, s9, s10⟩; go_simp; with_reducible rfl))
            refine zt (i := 8) (N := some 66) HT_ ?_
            refine zt (i := 9) (N := some 67) HT_ ?_
            refine zt (i := 10) (N := some 68) HT_ ?_
            refine zt (i := 12) (N := some 70) HT_ ?_
            refine zt (i := 16) (N := some 74) HT_ ?_
            refine zw (i := 11) (N := some 69) HT_ HW_ hHeld ?_ (hv := (by rintro w' ⟨s0, s1, s2, s3, s4, s5, s6, s7, s8, s9, s10⟩; go_simp; with_reducible rfl))
            refine zt (i := 13) (N := some 71) HT_ ?_
            refine zt (i := 14) (N := some 72) HT_ ?_
            refine zw (i := 15) (N := some 73) HT_ HW_ hHeld ?_ (hv := (by rintro w' ⟨s0, s1, s2, s3, s4, s5, s6, s7, s8, s9, s10⟩; go_simp; with_reducible rfl))
            refine zw (i := 17) (N := some 75) HT_ HW_ hHeld ?_ (hv := (by rintro w' ⟨s0, s1, s2, s3, s4, s5, s6, s7, s8, s9, s10⟩; go_simp; with_reducible rfl))
            refine zt (i := 18) (N := some 76) HT_ ?_
            refine zt (i := 19) (N := some 77) HT_ ?_
            refine done_ (done_of HT_.out (by kernel_rfl)) ?_
            try go_wp2
            go_ret
            exact ⟨by first | rfl | (simp [errW_none, errW_some] <;> rfl) | (simp [*, errW_none, errW_some] <;> rfl), by repeat (first | (with_reducible first | exact HB.out | apply y3 | refine ys ?_ GE271.out | refine ys ?_ GE273.out) | exact HB.out)⟩
           rw [if_neg c46] at H
           have c46b0 : (((rd_T100 l0_1 x6_2).f1) == ((rd_T100 l0_1 a1).f1)) = false := beq_eq_false_iff_ne.mpr c46
           have c46b1 : (((rd_T100 l0_1 x6_2).f1) != ((rd_T100 l0_1 a1).f1)) = true := bne_iff_ne.mpr c46
           have H' := ym H
           clear H
           try go_wp2
           have n0_ := ym (yt BK271.out)
           have n1_ := ym (yt BK273.out)
           have n2_ := ym (ye HB.out)
           clear BK271
           clear BK273
           clear HB
           have BK271 := n0_
           have BK273 := n1_
           have HB := n2_
           clear n0_ n1_ n2_
           have p280 : 0 ≤ (x6_2 : Int) := of_decide_eq_true y5
           have q280 : x6_2 < (l0_1.length : Int) := of_decide_eq_true y5
           obtain ⟨ad280, e280, hx280_0, hx280_1, hx280_2⟩ := at_T100 HR0_1.out x6_2 p280 q280
           have hw280_2 := hx280_2
           have hw280_1 := hx280_1
           have hw280_0 := hx280_0
           obtain rfl : ad272 = ad280 := (by injection e280)
           replace hx280_0 := (HB.out.cell (World.block_lt_of_cell? w _ hx280_0)).trans hx280_0
           replace hx280_1 := (HB.out.cell (World.block_lt_of_cell? w _ hx280_1)).trans hx280_1
           replace hx280_2 := (HB.out.cell (World.block_lt_of_cell? w _ hx280_2)).trans hx280_2
           replace p280 := eq_true p280
           replace q280 := eq_true q280
           have p281 : 0 ≤ (x6_2 : Int) := of_decide_eq_true y5
           have q281 : x6_2 < (l0_1.length : Int) := of_decide_eq_true y5
           obtain ⟨ad281, e281, hx281_0, hx281_1, hx281_2⟩ := at_T100 HR0_1.out x6_2 p281 q281
           have hw281_2 := hx281_2
           have hw281_1 := hx281_1
           have hw281_0 := hx281_0
           obtain rfl : ad272 = ad281 := (by injection e281)
           replace hx281_0 := (HB.out.cell (World.block_lt_of_cell? w _ hx281_0)).trans hx281_0
           replace hx281_1 := (HB.out.cell (World.block_lt_of_cell? w _ hx281_1)).trans hx281_1
           replace hx281_2 := (HB.out.cell (World.block_lt_of_cell? w _ hx281_2)).trans hx281_2
           replace p281 := eq_true p281
           replace q281 := eq_true q281
           refine start_ (n := 20) (S := fun w' => w'.cell? ⟨gb271, 0, none⟩ = some (.slice A0_0 l0_0.length c0_0) ∧ w'.cell? ⟨gb271, 1, none⟩ = some (.slice (some ad272) l0_1.length c0_1) ∧ w'.cell? ⟨gb273, 0, none⟩ = some (.int .i64 ((rd_T100 l0_1 a1).f0)) ∧ w'.cell? ⟨gb273, 1, none⟩ = some (.int .i64 ((rd_T100 l0_1 a1).f1)) ∧ w'.cell? ⟨gb273, 2, none⟩ = some (.int .i64 ((rd_T100 l0_1 a1).f2)) ∧ w'.cell? (ad272.add ((x6_2).toNat * 3)) = some (.int .i64 ((rd_T100 l0_1 x6_2).f0)) ∧ w'.cell? ⟨(ad272.add ((x6_2).toNat * 3)).block, (ad272.add ((x6_2).toNat * 3)).off + 1, none⟩ = some (.int .i64 ((rd_T100 l0_1 x6_2).f1)) ∧ w'.cell? ⟨(ad272.add ((x6_2).toNat * 3)).block, (ad272.add ((x6_2).toNat * 3)).off + 2, none⟩ = some (.int .i64 ((rd_T100 l0_1 x6_2).f2)) ∧ w'.cell? (ad272.add ((x6_2).toNat * 3)) = some (.int .i64 ((rd_T100 l0_1 x6_2).f0)) ∧ w'.cell? ⟨(ad272.add ((x6_2).toNat * 3)).block, (ad272.add ((x6_2).toNat * 3)).off + 1, none⟩ = some (.int .i64 ((rd_T100 l0_1 x6_2).f1)) ∧ w'.cell? ⟨(ad272.add ((x6_2).toNat * 3)).block, (ad272.add ((x6_2).toNat * 3)).off + 2, none⟩ = some (.int .i64 ((rd_T100 l0_1 x6_2).f2))) (ds := []) #[o_, o_, o_, o_, o_, o_, o_, o_, o_, o_, o_, o_, o_, o_, o_, o_, o_, o_, o_, o_] (by kernel_rfl) rfl rfl ⟨(yw BK271.out 0).trans rfl, (yw BK271.out 1).trans rfl, (yw BK273.out 0).trans rfl, (yw BK273.out 1).trans rfl, (yw BK273.out 2).trans rfl, ((HB.out.cell (World.block_lt_of_cell? w _ hw280_0)).trans hw280_0), ((HB.out.cell (World.block_lt_of_cell? w _ hw280_1)).trans hw280_1), ((HB.out.cell (World.block_lt_of_cell? w _ hw280_2)).trans hw280_2), ((HB.out.cell (World.block_lt_of_cell? w _ hw281_0)).trans hw281_0), ((HB.out.cell (World.block_lt_of_cell? w _ hw281_1)).trans hw281_1), ((HB.out.cell (World.block_lt_of_cell? w _ hw281_2)).trans hw281_2)⟩ (fun hHeld => ?_); refine with_tabW heraldref13_merge.tab7 heraldref13_merge.bits7 (fun HT_ HW_ => ?_)
           generalize wr.drew = w48 at BK271 BK273 HB hx280_0 hx280_1 hx280_2 hx281_0 hx281_1 hx281_2 hHeld ⊢
           refine zt (i := 0) (N := some 58) HT_ ?_
           refine zt (i := 2) (N := some 60) HT_ ?_
           refine zt (i := 6) (N := some 64) HT_ ?_
           refine zw (i := 1) (N := some 59) HT_ HW_ hHeld ?_ (hv := (by rintro w' ⟨s0, s1, s2, s3, s4, s5, s6, s7, s8, s9, s10⟩; go_simp; with_reducible rfl))
           refine zt (i := 3) (N := some 61) HT_ ?_
           refine zt (i := 4) (N := some 62) HT_ ?_
           refine zw (i := 5) (N := some 63) HT_ HW_ hHeld ?_ (hv := (by rintro w' ⟨s0, s1, s2, s3, s4, s5, s6, s7, s8, s9, s10⟩; go_simp; with_reducible rfl))
           refine zw (i := 7) (N := some 65) HT_ HW_ hHeld ?_ (hv := (by rintro w' ⟨s0, s1, s2, s3, s4, s5, s6, s7, s8, s9, s10⟩; go_simp; with_reducible rfl))
           refine zt (i := 8) (N := some 66) HT_ ?_
           refine zt (i := 9) (N := some 67) HT_ ?_
           refine zt (i := 10) (N := some 68) HT_ ?_
           refine zt (i := 12) (N := some 70) HT_ ?_
           refine zt (i := 16) (N := some 74) HT_ ?_
           refine zw (i := 11) (N := some 69) HT_ HW_ hHeld ?_ (hv := (by rintro w' ⟨s0, s1, s2, s3, s4, s5, s6, s7, s8, s9, s10⟩; go_simp; with_reducible rfl))
           refine zt (i := 13) (N := some 71) HT_ ?_
           refine zt (i := 14) (N := some 72) HT_ ?_
           refine zw (i := 15) (N := some 73) HT_ HW_ hHeld ?_ (hv := (by rintro w' ⟨s0, s1, s2, s3, s4, s5, s6, s7, s8, s9, s10⟩; go_simp; with_reducible rfl))
           refine zw (i := 17) (N := some 75) HT_ HW_ hHeld ?_ (hv := (by rintro w' ⟨s0, s1, s2, s3, s4, s5, s6, s7, s8, s9, s10⟩; go_simp; with_reducible rfl))
           refine zt (i := 18) (N := some 76) HT_ ?_
           refine zt (i := 19) (N := some 77) HT_ ?_
           refine done_ (done_of HT_.out (by kernel_rfl)) ?_
           try go_wp2
           go_roundg k2
           case measure => have := HJ4.out; have := HK2.out; omega
           case rel => exact ⟨(wrap64 (x6_2 + 1)), y7, H', ⟨by have := HJ4.out; have := HK2.out; omega⟩, ⟨by (with_reducible repeat refine y4 ?_); exact BK271.out⟩, ⟨by (with_reducible repeat refine y4 ?_); exact BK273.out⟩, ⟨by repeat (first | (with_reducible first | exact HB.out | apply y3 | refine ys ?_ GE271.out | refine ys ?_ GE273.out) | exact HB.out)⟩⟩
          rw [if_neg c45] at H
          have c45b0 : (((rd_T100 l0_1 x6_2).f0) == ((rd_T100 l0_1 a1).f0)) = false := beq_eq_false_iff_ne.mpr c45
          have c45b1 : (((rd_T100 l0_1 x6_2).f0) != ((rd_T100 l0_1 a1).f0)) = true := bne_iff_ne.mpr c45
          have H' := ym H
          clear H
          try go_wp2
          have n0_ := ym (yt BK271.out)
          have n1_ := ym (yt BK273.out)
          have n2_ := ym (ye HB.out)
          clear BK271
          clear BK273
          clear HB
          have BK271 := n0_
          have BK273 := n1_
          have HB := n2_
          clear n0_ n1_ n2_
          have p280 : 0 ≤ (x6_2 : Int) := of_decide_eq_true y5
          have q280 : x6_2 < (l0_1.length : Int) := of_decide_eq_true y5
          obtain ⟨ad280, e280, hx280_0, hx280_1, hx280_2⟩ := at_T100 HR0_1.out x6_2 p280 q280
          have hw280_2 := hx280_2
          have hw280_1 := hx280_1
          have hw280_0 := hx280_0
          obtain rfl : ad272 = ad280 := (by injection e280)
          replace hx280_0 := (HB.out.cell (World.block_lt_of_cell? w _ hx280_0)).trans hx280_0
          replace hx280_1 := (HB.out.cell (World.block_lt_of_cell? w _ hx280_1)).trans hx280_1
          replace hx280_2 := (HB.out.cell (World.block_lt_of_cell? w _ hx280_2)).trans hx280_2
          replace p280 := eq_true p280
          replace q280 := eq_true q280
          refine start_ (n := 20) (S := fun w' => w'.cell? ⟨gb271, 0, none⟩ = some (.slice A0_0 l0_0.length c0_0) ∧ w'.cell? ⟨gb271, 1, none⟩ = some (.slice (some ad272) l0_1.length c0_1) ∧ w'.cell? ⟨gb273, 0, none⟩ = some (.int .i64 ((rd_T100 l0_1 a1).f0)) ∧ w'.cell? ⟨gb273, 1, none⟩ = some (.int .i64 ((rd_T100 l0_1 a1).f1)) ∧ w'.cell? ⟨gb273, 2, none⟩ = some (.int .i64 ((rd_T100 l0_1 a1).f2)) ∧ w'.cell? (ad272.add ((x6_2).toNat * 3)) = some (.int .i64 ((rd_T100 l0_1 x6_2).f0)) ∧ w'.cell? ⟨(ad272.add ((x6_2).toNat * 3)).block, (ad272.add ((x6_2).toNat * 3)).off + 1, none⟩ = some (.int .i64 ((rd_T100 l0_1 x6_2).f1)) ∧ w'.cell? ⟨(ad272.add ((x6_2).toNat * 3)).block, (ad272.add ((x6_2).toNat * 3)).off + 2, none⟩ = some (.int .i64 ((rd_T100 l0_1 x6_2).f2))) (ds := []) #[o_, o_, o_, o_, o_, o_, o_, o_, o_, o_, o_, o_, o_, o_, o_, o_, o_, o_, o_, o_] (by kernel_rfl) rfl rfl ⟨(yw BK271.out 0).trans rfl, (yw BK271.out 1).trans rfl, (yw BK273.out 0).trans rfl, (yw BK273.out 1).trans rfl, (yw BK273.out 2).trans rfl, ((HB.out.cell (World.block_lt_of_cell? w _ hw280_0)).trans hw280_0), ((HB.out.cell (World.block_lt_of_cell? w _ hw280_1)).trans hw280_1), ((HB.out.cell (World.block_lt_of_cell? w _ hw280_2)).trans hw280_2)⟩ (fun hHeld => ?_); refine with_tabW heraldref13_merge.tab7 heraldref13_merge.bits7 (fun HT_ HW_ => ?_)
          generalize wr.drew = w49 at BK271 BK273 HB hx280_0 hx280_1 hx280_2 hHeld ⊢
          refine zt (i := 0) (N := some 58) HT_ ?_
          refine zt (i := 2) (N := some 60) HT_ ?_
          refine zt (i := 6) (N := some 64) HT_ ?_
          refine zw (i := 1) (N := some 59) HT_ HW_ hHeld ?_ (hv := (by rintro w' ⟨s0, s1, s2, s3, s4, s5, s6, s7⟩; go_simp; with_reducible rfl))
          refine zt (i := 3) (N := some 61) HT_ ?_
          refine zt (i := 4) (N := some 62) HT_ ?_
          refine zw (i := 5) (N := some 63) HT_ HW_ hHeld ?_ (hv := (by rintro w' ⟨s0, s1, s2, s3, s4, s5, s6, s7⟩; go_simp; with_reducible rfl))
          refine zw (i := 7) (N := some 65) HT_ HW_ hHeld ?_ (hv := (by rintro w' ⟨s0, s1, s2, s3, s4, s5, s6, s7⟩; go_simp; with_reducible rfl))
          refine zt (i := 8) (N := some 66) HT_ ?_
          refine zt (i := 9) (N := some 67) HT_ ?_
          refine zk (i := 10) (N := some 68) HT_ ?_
          refine zk (i := 11) (N := some 69) HT_ ?_
          refine zk (i := 12) (N := some 70) HT_ ?_
          refine zk (i := 13) (N := some 71) HT_ ?_
          refine zk (i := 14) (N := some 72) HT_ ?_
          refine zk (i := 15) (N := some 73) HT_ ?_
          refine zk (i := 16) (N := some 74) HT_ ?_
          refine zk (i := 17) (N := some 75) HT_ ?_
          refine zk (i := 18) (N := some 76) HT_ ?_
          refine zt (i := 19) (N := some 77) HT_ ?_
          refine done_ (done_of HT_.out (by kernel_rfl)) ?_
          try go_wp2
          go_roundg k2
          case measure => have := HJ4.out; have := HK2.out; omega
          case rel => exact ⟨(wrap64 (x6_2 + 1)), y7, H', ⟨by have := HJ4.out; have := HK2.out; omega⟩, ⟨by (with_reducible repeat refine y4 ?_); exact BK271.out⟩, ⟨by (with_reducible repeat refine y4 ?_); exact BK273.out⟩, ⟨by repeat (first | (with_reducible first | exact HB.out | apply y3 | refine ys ?_ GE271.out | refine ys ?_ GE273.out) | exact HB.out)⟩⟩
         rw [if_neg c44] at H
         exact absurd H (by simp)
        rw [if_neg c43] at H
        exact absurd H (by simp)
       rw [if_neg c42] at H
       have c42b0 : decide (x6_2 < a1) = false := decide_eq_false c42
       clear c42
       obtain rfl := Option.some.inj H
       go_wp2
       go_ret
       exact ⟨by first | rfl | (simp [errW_none, errW_some] <;> rfl) | (simp [*, errW_none, errW_some] <;> rfl), by repeat (first | (with_reducible first | exact HB.out | apply y3 | refine ys ?_ GE271.out | refine ys ?_ GE273.out) | exact HB.out)⟩
  rw [if_neg c4] at H
  exact absurd H (by simp)
 rw [if_neg c3] at H
 exact absurd H (by simp)

end Go.Proofs.Ytfjpnmhbbfiaaaa.P
