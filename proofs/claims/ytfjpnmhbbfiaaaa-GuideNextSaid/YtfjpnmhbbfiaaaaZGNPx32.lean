-- Printed by xprint.py (wip): functions, contracts, rows. Lean checks it.
import Derived.Test.YtfjpnmhbbfiaaaaZGNPx0
import Derived.Test.YtfjpnmhbbfiaaaaZGNPx1
import Derived.Test.YtfjpnmhbbfiaaaaZGNPx9
import Derived.Test.YtfjpnmhbbfiaaaaZGNPx10
import Derived.Test.YtfjpnmhbbfiaaaaZGNPx15
import Derived.Test.YtfjpnmhbbfiaaaaZGNPx25
import Derived.Test.YtfjpnmhbbfiaaaaZGNPx26
import Derived.Test.YtfjpnmhbbfiaaaaZGNPx27
import Derived.Test.YtfjpnmhbbfiaaaaZGNTiny
namespace Go.Proofs.Ytfjpnmhbbfiaaaa.P
open Go.RowKit Go.Proofs.YtfjpnmhbbfiaaaaW.PrintWords Go.Proofs.YtfjpnmhbbfiaaaaW.PrintLast Go.Proofs.YtfjpnmhbbfiaaaaW.PrintMore
attribute [local go_sem] max2_int min2_int max_two min_two max_three min_three max_four min_four   -- for this text's walks alone
set_option linter.unusedVariables false
set_option linter.unusedSimpArgs false

/-! ### heraldlaw15_GuideNext: function 6 -/
def heraldlaw15_GuideNext.l0 : Nat → List Int → Int → Int → List Bool → List (S92) → List ByteArray → List (S99) → List Bool → List (S93) → List ByteArray → List (S100) → Option (Bool)
  | 0, _, _, _, _, _, _, _, _, _, _, _ => none
  | k + 1, x2, x9, x10, x300000, x300001, x301000, x301001, x314000, x314001, x315000, x315001 => if x10 < (x2.length : Int) then (if 0 ≤ x10 then ((guide_Next.f k x300000 x300001 x301000 x301001 x9 (rd x2 x10)).bind fun t319 => ((heraldref15_Next.f k x314000 x314001 x315000 x315001 x9 (rd x2 x10)).bind fun t321 => (if t319 = t321 then ((guide_Next.f k x300000 x300001 x301000 x301001 (wrap64 (x10 - 1)) (rd x2 x10)).bind fun t323 => ((heraldref15_Next.f k x314000 x314001 x315000 x315001 (wrap64 (x10 - 1)) (rd x2 x10)).bind fun t325 => (if t323 = t325 then (heraldlaw15_GuideNext.l0 k x2 t319 (wrap64 (x10 + 1)) x300000 x300001 x301000 x301001 x314000 x314001 x315000 x315001) else (none)))) else (none)))) else (none)) else ((heraldlaw15_awake.f k).bind fun t315 => (if t315 = true then ((guide_State.f k x300000 x300001 x301000 x301001 x2).bind fun t316 => ((heraldref15_State.f k x314000 x314001 x315000 x315001 x2).bind fun t317 => (some (t316 == t317)))) else (none)))
def heraldlaw15_GuideNext.f (k : Nat) (l0_0 : List Bool) (l0_1 : List (S92)) (l1_0 : List ByteArray) (l1_1 : List (S99)) (l2 : List Int) : Option (Bool) := (heraldlaw15_given.f k l0_0 l0_1).bind fun bt301 => ((heraldlaw15_words.f k l1_0 l1_1).bind fun bt307 => (heraldlaw15_GuideNext.l0 k l2 0 0 l0_0 l0_1 l1_0 l1_1 bt301.1 bt301.2 bt307.1 bt307.2))
theorem heraldlaw15_GuideNext.mono_l : ∀ k, (∀ y0 y1 y2 y3 y4 y5 y6 y7 y8 y9 y10, LeO (heraldlaw15_GuideNext.l0 k y0 y1 y2 y3 y4 y5 y6 y7 y8 y9 y10) (heraldlaw15_GuideNext.l0 (k + 1) y0 y1 y2 y3 y4 y5 y6 y7 y8 y9 y10))
  | 0 => fun _ _ _ _ _ _ _ _ _ _ _ r h => by simp [heraldlaw15_GuideNext.l0] at h
  | k + 1 => by
    have ih0 := heraldlaw15_GuideNext.mono_l k
    · intro y0 y1 y2 y3 y4 y5 y6 y7 y8 y9 y10
      unfold heraldlaw15_GuideNext.l0
      repeat' first
      | (with_reducible exact ih0 _ _ _ _ _ _ _ _ _ _ _)
      | (with_reducible exact guide_Next.mono _ _ _ _ _ _ _)
      | (with_reducible exact guide_State.mono _ _ _ _ _ _)
      | (with_reducible exact heraldlaw15_awake.mono _)
      | (with_reducible exact heraldlaw15_given.mono _ _ _)
      | (with_reducible exact heraldlaw15_words.mono _ _ _)
      | (with_reducible exact heraldref15_Next.mono _ _ _ _ _ _ _)
      | (with_reducible exact heraldref15_State.mono _ _ _ _ _ _)
      | (with_reducible exact LeO.refl _)
      | (with_reducible exact LeO.none _)
      | (with_reducible refine LeO.ite ?_ ?_)
      | (with_reducible refine LeO.bind ?_ (fun _ => ?_))
      | exact ih0 _ _ _ _ _ _ _ _ _ _ _
      | exact guide_Next.mono _ _ _ _ _ _ _
      | exact guide_State.mono _ _ _ _ _ _
      | exact heraldlaw15_awake.mono _
      | exact heraldlaw15_given.mono _ _ _
      | exact heraldlaw15_words.mono _ _ _
      | exact heraldref15_Next.mono _ _ _ _ _ _ _
      | exact heraldref15_State.mono _ _ _ _ _ _
      | exact LeO.none _
      | refine LeO.ite ?_ ?_
      | refine LeO.bind ?_ (fun _ => ?_)
theorem heraldlaw15_GuideNext.mono : ∀ a0 a1 a2 a3 a4 k, LeO (heraldlaw15_GuideNext.f k a0 a1 a2 a3 a4) (heraldlaw15_GuideNext.f (k + 1) a0 a1 a2 a3 a4) := by
  intro a0 a1 a2 a3 a4 k
  have ih0 := heraldlaw15_GuideNext.mono_l k
  unfold heraldlaw15_GuideNext.f
  repeat' first
      | (with_reducible exact ih0 _ _ _ _ _ _ _ _ _ _ _)
      | (with_reducible exact guide_Next.mono _ _ _ _ _ _ _)
      | (with_reducible exact guide_State.mono _ _ _ _ _ _)
      | (with_reducible exact heraldlaw15_awake.mono _)
      | (with_reducible exact heraldlaw15_given.mono _ _ _)
      | (with_reducible exact heraldlaw15_words.mono _ _ _)
      | (with_reducible exact heraldref15_Next.mono _ _ _ _ _ _ _)
      | (with_reducible exact heraldref15_State.mono _ _ _ _ _ _)
      | (with_reducible exact LeO.refl _)
      | (with_reducible exact LeO.none _)
      | (with_reducible refine LeO.ite ?_ ?_)
      | (with_reducible refine LeO.bind ?_ (fun _ => ?_))
      | exact ih0 _ _ _ _ _ _ _ _ _ _ _
      | exact guide_Next.mono _ _ _ _ _ _ _
      | exact guide_State.mono _ _ _ _ _ _
      | exact heraldlaw15_awake.mono _
      | exact heraldlaw15_given.mono _ _ _
      | exact heraldlaw15_words.mono _ _ _
      | exact heraldref15_Next.mono _ _ _ _ _ _ _
      | exact heraldref15_State.mono _ _ _ _ _ _
      | exact LeO.none _
      | refine LeO.ite ?_ ?_
      | refine LeO.bind ?_ (fun _ => ?_)
def heraldlaw15_GuideNext.T1 : Bool × List (List Nat × List Nat) := (true, [([], []), ([0], [0]), ([], []), ([2, 1], [2]), ([], []), ([], []), ([4, 1, 3, 0, 1, 4, 5], [1, 4]), ([5, 3, 6, 0, 1, 2, 3, 4, 5, 6], [3, 5])])
def heraldlaw15_GuideNext.B1 : List Nat := [0, 1, 0, 7, 0, 0, 63, 127]
theorem heraldlaw15_GuideNext.tab1 : rtab .any (opsOf Try.f6 1) = heraldlaw15_GuideNext.T1 := by kernel_rfl
theorem heraldlaw15_GuideNext.bits1 : waitsOk heraldlaw15_GuideNext.T1.2 heraldlaw15_GuideNext.B1 = true := by kernel_rfl
def heraldlaw15_GuideNext.T6 : Bool × List (List Nat × List Nat) := (true, [([], []), ([], []), ([], []), ([], []), ([], []), ([3, 4], [3, 4]), ([5], [5]), ([0, 1, 2, 6], [0, 1, 2, 6]), ([7, 7, 0, 1, 2, 3, 4, 5, 6, 7], [7])])
def heraldlaw15_GuideNext.B6 : List Nat := [0, 0, 0, 0, 0, 24, 56, 127, 255]
theorem heraldlaw15_GuideNext.tab6 : rtab .any (opsOf Try.f6 6) = heraldlaw15_GuideNext.T6 := by kernel_rfl
theorem heraldlaw15_GuideNext.bits6 : waitsOk heraldlaw15_GuideNext.T6.2 heraldlaw15_GuideNext.B6 = true := by kernel_rfl
def heraldlaw15_GuideNext.T7 : Bool × List (List Nat × List Nat) := (true, [([], []), ([], []), ([], []), ([], []), ([], []), ([], []), ([4, 5], [4, 5]), ([6], [6]), ([1, 2, 3, 7], [1, 2, 3, 7]), ([0, 8], [0, 8]), ([9, 8], [9]), ([10], [10]), ([10], [10]), ([10], [10]), ([13, 10], [10, 13]), ([10], [10]), ([10], [10]), ([15, 16, 10], [10, 15, 16]), ([17, 10], [10, 17]), ([11, 12, 14, 18, 10, 10], [10, 11, 12, 14, 18]), ([10], [10]), ([10], [10]), ([10], [10]), ([22, 10], [10, 22]), ([10], [10]), ([10], [10]), ([24, 25, 10], [10, 24, 25]), ([26, 10], [10, 26]), ([20, 21, 23, 27, 19, 10], [10, 20, 21, 23, 27]), ([19, 28, 10], [10, 19, 28]), ([10, 29], [10, 29])])
def heraldlaw15_GuideNext.B7 : List Nat := [0, 0, 0, 0, 0, 0, 48, 112, 254, 511, 1023, 2047, 2047, 2047, 10239, 2047, 2047, 100351, 231423, 524287, 2047, 2047, 2047, 4196351, 2047, 2047, 50333695, 117442559, 268435455, 536870911, 1073741823]
theorem heraldlaw15_GuideNext.tab7 : rtab .any (opsOf Try.f6 7) = heraldlaw15_GuideNext.T7 := by kernel_rfl
theorem heraldlaw15_GuideNext.bits7 : waitsOk heraldlaw15_GuideNext.T7.2 heraldlaw15_GuideNext.B7 = true := by kernel_rfl
def heraldlaw15_GuideNext.T10 : Bool × List (List Nat × List Nat) := (true, [([], []), ([0, 0], [0]), ([1], [1]), ([1], [1]), ([1], [1]), ([2, 3, 4, 1, 1], [1, 2, 3, 4]), ([1], [1]), ([1], [1]), ([1], [1]), ([6, 7, 8, 5, 1], [1, 6, 7, 8]), ([5, 9, 1], [1, 5, 9]), ([1, 10], [1, 10]), ([11, 9, 0, 1, 2, 3, 4, 5, 6, 7, 8, 9, 10, 11], [11])])
def heraldlaw15_GuideNext.B10 : List Nat := [0, 1, 3, 3, 3, 31, 3, 3, 3, 511, 1023, 2047, 4095]
theorem heraldlaw15_GuideNext.tab10 : rtab .any (opsOf Try.f6 10) = heraldlaw15_GuideNext.T10 := by kernel_rfl
theorem heraldlaw15_GuideNext.bits10 : waitsOk heraldlaw15_GuideNext.T10.2 heraldlaw15_GuideNext.B10 = true := by kernel_rfl
set_option maxHeartbeats 8000000 in
set_option maxRecDepth 100000 in
theorem heraldlaw15_GuideNext.calls (k : Nat) (A0_0 : Option Addr) (c0_0 : Nat) (l0_0 : List Bool) (A0_1 : Option Addr) (c0_1 : Nat) (l0_1 : List (S92)) (A1_0 : Option Addr) (c1_0 : Nat) (l1_0 : List ByteArray) (A1_1 : Option Addr) (c1_1 : Nat) (l1_1 : List (S99)) (A2 : Option Addr) (c2 : Nat) (l2 : List Int) (r : Bool) (w : World) (hr0_0 : Kd.C Kd.bool w A0_0 l0_0.length l0_0) (hc0_0 : l0_0.length ≤ c0_0) (hr0_1 : Kd.C k92 w A0_1 l0_1.length l0_1) (hc0_1 : l0_1.length ≤ c0_1) (hr1_0 : Kd.C Kd.string w A1_0 l1_0.length l1_0) (hc1_0 : l1_0.length ≤ c1_0) (hr1_1 : Kd.C k99 w A1_1 l1_1.length l1_1) (hc1_1 : l1_1.length ≤ c1_1) (hr2 : Kd.C (Kd.int .i64) w A2 l2.length l2) (hc2 : l2.length ≤ c2) (h : heraldlaw15_GuideNext.f k l0_0 l0_1 l1_0 l1_1 l2 = some r) :
    Calls Try.prog 6 #[.agg #[.slice A0_0 l0_0.length c0_0, .slice A0_1 l0_1.length c0_1], .agg #[.slice A1_0 l1_0.length c1_0, .slice A1_1 l1_1.length c1_1], .slice A2 l2.length c2] w fun e w' => e = .returned (.bool r) ∧ Below w.heap.size w w' := by
 have hu25 := Try.underlying25
 have hu52 := Try.underlying52
 have hu28 := Try.underlying28
 have hu56 := Try.underlying56
 have HR0_0 := ym hr0_0
 have HC0_0 := ym hc0_0
 clear hr0_0 hc0_0
 have HR0_1 := ym hr0_1
 have HC0_1 := ym hc0_1
 clear hr0_1 hc0_1
 have HR1_0 := ym hr1_0
 have HC1_0 := ym hc1_0
 clear hr1_0 hc1_0
 have HR1_1 := ym hr1_1
 have HC1_1 := ym hc1_1
 clear hr1_1 hc1_1
 have HR2 := ym hr2
 have HC2 := ym hc2
 clear hr2 hc2
 have HB := ym (Below.refl w.heap.size w)
 have H : ((heraldlaw15_given.f k l0_0 l0_1).bind fun bt301 => ((heraldlaw15_words.f k l1_0 l1_1).bind fun bt307 => (heraldlaw15_GuideNext.l0 k l2 0 0 l0_0 l0_1 l1_0 l1_1 bt301.1 bt301.2 bt307.1 bt307.2))) = some r := h
 clear h
 replace H := Option.bind_eq_some_iff.mp H
 obtain ⟨⟨t301, t304⟩, A40, H⟩ := H
 replace H : ((heraldlaw15_words.f k l1_0 l1_1).bind fun bt307 => (heraldlaw15_GuideNext.l0 k l2 0 0 l0_0 l0_1 l1_0 l1_1 t301 t304 bt307.1 bt307.2)) = some r := H
 have A4 := ym A40
 clear A40
 replace H := Option.bind_eq_some_iff.mp H
 obtain ⟨⟨t307, t310⟩, A50, H⟩ := H
 replace H : (heraldlaw15_GuideNext.l0 k l2 0 0 l0_0 l0_1 l1_0 l1_1 t301 t304 t307 t310) = some r := H
 have A5 := ym A50
 clear A50
 have H' := ym H
 clear H
 go_enter Try.func6, Try.ntmps6
 try go_wp2_with (first | ((with_reducible refine gate_dst (N := 3) rfl ?_); refine box_event ?hg (N := 3) ?hd (cs := #[.slice A0_0 l0_0.length c0_0, .slice A0_1 l0_1.length c0_1]) (t := 25) ?hr ?_; (case hd => rfl); (case hg => rfl); (case hr => first | (go_simp; done) | (go_simp; rfl)); intro gb299 hg w6 hbox hb; have n0_ := ym (yn yb hb); have n1_ := ym (hbox); have n2_ := ym ((by rw [hg]; exact (below_size yb) : w.heap.size ≤ gb299)); have n3_ := n2_; clear HB; have HB := n0_; have BK299 := n1_; have GW299 := n2_; have GE299 := n3_; clear n0_ n1_ n2_ n3_; clear hb hbox hg) | ((with_reducible refine gate_dst (N := 4) rfl ?_); refine box_event ?hg (N := 4) ?hd (cs := #[.slice A1_0 l1_0.length c1_0, .slice A1_1 l1_1.length c1_1]) (t := 52) ?hr ?_; (case hd => rfl); (case hg => rfl); (case hr => first | (go_simp; done) | (go_simp; rfl)); intro gb300 hg w7 hbox hb; have n0_ := ym (yq (g := gb299) (o := .cells #[.slice A0_0 l0_0.length c0_0, .slice A0_1 l0_1.length c0_1] 25 (0, 0)) (yc BK299) hb); have n1_ := ym (yn yb hb); have n2_ := ym (hbox); have n3_ := ym ((by rw [hg]; exact (below_size yb) : w.heap.size ≤ gb300)); have n4_ := n3_; have n5_ := ym ((by rw [hg]; exact Nat.ne_of_lt (blk_lt (g := gb299) (o := .cells #[.slice A0_0 l0_0.length c0_0, .slice A0_1 l0_1.length c0_1] 25 (0, 0)) (yc BK299)) : gb299 ≠ gb300)); have n6_ := ym ((by rw [hg]; exact Nat.ne_of_gt (blk_lt (g := gb299) (o := .cells #[.slice A0_0 l0_0.length c0_0, .slice A0_1 l0_1.length c0_1] 25 (0, 0)) (yc BK299)) : gb300 ≠ gb299)); clear BK299; clear HB; have BK299 := n0_; have HB := n1_; have BK300 := n2_; have GW300 := n3_; have GE300 := n4_; have NB299_300 := n5_; have NB300_299 := n6_; clear n0_ n1_ n2_ n3_ n4_ n5_ n6_; clear hb hbox hg))
 have n0_ := ym (yt BK299.out)
 have n1_ := ym (yt BK300.out)
 have n2_ := ym (ye HB.out)
 clear BK299
 clear BK300
 clear HB
 have BK299 := n0_
 have BK300 := n1_
 have HB := n2_
 clear n0_ n1_ n2_
 refine start_ (n := 8) (S := fun w' => w'.cell? ⟨gb299, 0, none⟩ = some (.slice A0_0 l0_0.length c0_0) ∧ w'.cell? ⟨gb299, 1, none⟩ = some (.slice A0_1 l0_1.length c0_1) ∧ w'.cell? ⟨gb300, 0, none⟩ = some (.slice A1_0 l1_0.length c1_0) ∧ w'.cell? ⟨gb300, 1, none⟩ = some (.slice A1_1 l1_1.length c1_1)) (ds := []) #[o_, o_, o_, o_, o_, o_, o_, o_] (by kernel_rfl) rfl rfl ⟨(yw BK299.out 0).trans rfl, (yw BK299.out 1).trans rfl, (yw BK300.out 0).trans rfl, (yw BK300.out 1).trans rfl⟩ (fun hHeld => ?_); refine with_tabW heraldlaw15_GuideNext.tab1 heraldlaw15_GuideNext.bits1 (fun HT_ HW_ => ?_)
 generalize w7.drew = w8 at BK299 BK300 HB hHeld ⊢
 refine zw (i := 0) (N := some 12) HT_ HW_ hHeld ?_ (hv := (by rintro w' ⟨s0, s1, s2, s3⟩; go_simp; with_reducible rfl))
 refine zw (i := 2) (N := some 14) HT_ HW_ hHeld ?_ (hv := (by rintro w' ⟨s0, s1, s2, s3⟩; go_simp; with_reducible rfl))
 refine join_ (σ := Value × Value × Value × Value × Nat × Nat) 2 #[i_, i_, i_, i_, i_, i_, o_, o_] (fun s_ => [(13, .agg #[s_.1, s_.2.1]), (15, .agg #[s_.2.2.1, s_.2.2.2.1]), (7, .pointer (some ⟨s_.2.2.2.2.1, 0, none⟩)), (8, .pointer (some ⟨s_.2.2.2.2.2, 0, none⟩))]) (fun s_ w' => (w'.cell? ⟨gb299, 0, none⟩ = some (.slice A0_0 l0_0.length c0_0) ∧ w'.cell? ⟨gb299, 1, none⟩ = some (.slice A0_1 l0_1.length c0_1) ∧ w'.cell? ⟨gb300, 0, none⟩ = some (.slice A1_0 l1_0.length c1_0) ∧ w'.cell? ⟨gb300, 1, none⟩ = some (.slice A1_1 l1_1.length c1_1)) ∧ (Kd.R Kd.bool 4 w' w.heap.size (fun _ => True) s_.1 t301) ∧ (Kd.R k93 93 w' w.heap.size (fun _ => True) s_.2.1 t304) ∧ (Kd.R Kd.string 9 w' w.heap.size (fun _ => True) s_.2.2.1 t307) ∧ (Kd.R k100 100 w' w.heap.size (fun _ => True) s_.2.2.2.1 t310) ∧ (w'.heap[gb299]? = some (.cells #[.slice A0_0 l0_0.length c0_0, .slice A0_1 l0_1.length c0_1] 25 (0, 0))) ∧ (w'.heap[gb300]? = some (.cells #[.slice A1_0 l1_0.length c1_0, .slice A1_1 l1_1.length c1_1] 52 (0, 0))) ∧ (w'.heap[s_.2.2.2.2.1]? = some (.cells #[.slice none 0 0, .slice none 0 0] 28 (0, 0))) ∧ (w'.heap[s_.2.2.2.2.2]? = some (.cells #[.slice none 0 0, .slice none 0 0] 56 (0, 0))) ∧ (w.heap.size ≤ s_.2.2.2.2.1) ∧ (w.heap.size ≤ s_.2.2.2.2.1) ∧ (gb299 ≠ s_.2.2.2.2.1) ∧ (s_.2.2.2.2.1 ≠ gb299) ∧ (gb300 ≠ s_.2.2.2.2.1) ∧ (s_.2.2.2.2.1 ≠ gb300) ∧ (s_.2.2.2.2.2 ≠ s_.2.2.2.2.1) ∧ (s_.2.2.2.2.1 ≠ s_.2.2.2.2.2) ∧ (w.heap.size ≤ s_.2.2.2.2.2) ∧ (w.heap.size ≤ s_.2.2.2.2.2) ∧ (gb299 ≠ s_.2.2.2.2.2) ∧ (s_.2.2.2.2.2 ≠ gb299) ∧ (gb300 ≠ s_.2.2.2.2.2) ∧ (s_.2.2.2.2.2 ≠ gb300) ∧ (Below w.heap.size w w')) ?_ ?_
 rotate_left
 ·
  intro hJ1_3_4_5
  refine join_ (σ := Value × Value × Value × Value × Nat) 3 #[i_, i_, i_, i_, i_, o_, o_, o_] (fun s_ => [(13, .agg #[s_.1, s_.2.1]), (15, .agg #[s_.2.2.1, s_.2.2.2.1]), (7, .pointer (some ⟨s_.2.2.2.2, 0, none⟩))]) (fun s_ w' => (w'.cell? ⟨gb299, 0, none⟩ = some (.slice A0_0 l0_0.length c0_0) ∧ w'.cell? ⟨gb299, 1, none⟩ = some (.slice A0_1 l0_1.length c0_1) ∧ w'.cell? ⟨gb300, 0, none⟩ = some (.slice A1_0 l1_0.length c1_0) ∧ w'.cell? ⟨gb300, 1, none⟩ = some (.slice A1_1 l1_1.length c1_1)) ∧ (Kd.R Kd.bool 4 w' w.heap.size (fun _ => True) s_.1 t301) ∧ (Kd.R k93 93 w' w.heap.size (fun _ => True) s_.2.1 t304) ∧ (Kd.R Kd.string 9 w' w.heap.size (fun _ => True) s_.2.2.1 t307) ∧ (Kd.R k100 100 w' w.heap.size (fun _ => True) s_.2.2.2.1 t310) ∧ (w'.heap[gb299]? = some (.cells #[.slice A0_0 l0_0.length c0_0, .slice A0_1 l0_1.length c0_1] 25 (0, 0))) ∧ (w'.heap[gb300]? = some (.cells #[.slice A1_0 l1_0.length c1_0, .slice A1_1 l1_1.length c1_1] 52 (0, 0))) ∧ (w'.heap[s_.2.2.2.2]? = some (.cells #[.slice none 0 0, .slice none 0 0] 28 (0, 0))) ∧ (w.heap.size ≤ s_.2.2.2.2) ∧ (w.heap.size ≤ s_.2.2.2.2) ∧ (gb299 ≠ s_.2.2.2.2) ∧ (s_.2.2.2.2 ≠ gb299) ∧ (gb300 ≠ s_.2.2.2.2) ∧ (s_.2.2.2.2 ≠ gb300) ∧ (Below w.heap.size w w')) ?_ ?_
  rotate_left
  ·
   intro hJ1_3_4
   refine join_ (σ := Value × Value × Value × Value × Nat) 3 #[i_, i_, i_, i_, o_, i_, o_, o_] (fun s_ => [(13, .agg #[s_.1, s_.2.1]), (15, .agg #[s_.2.2.1, s_.2.2.2.1]), (8, .pointer (some ⟨s_.2.2.2.2, 0, none⟩))]) (fun s_ w' => (w'.cell? ⟨gb299, 0, none⟩ = some (.slice A0_0 l0_0.length c0_0) ∧ w'.cell? ⟨gb299, 1, none⟩ = some (.slice A0_1 l0_1.length c0_1) ∧ w'.cell? ⟨gb300, 0, none⟩ = some (.slice A1_0 l1_0.length c1_0) ∧ w'.cell? ⟨gb300, 1, none⟩ = some (.slice A1_1 l1_1.length c1_1)) ∧ (Kd.R Kd.bool 4 w' w.heap.size (fun _ => True) s_.1 t301) ∧ (Kd.R k93 93 w' w.heap.size (fun _ => True) s_.2.1 t304) ∧ (Kd.R Kd.string 9 w' w.heap.size (fun _ => True) s_.2.2.1 t307) ∧ (Kd.R k100 100 w' w.heap.size (fun _ => True) s_.2.2.2.1 t310) ∧ (w'.heap[gb299]? = some (.cells #[.slice A0_0 l0_0.length c0_0, .slice A0_1 l0_1.length c0_1] 25 (0, 0))) ∧ (w'.heap[gb300]? = some (.cells #[.slice A1_0 l1_0.length c1_0, .slice A1_1 l1_1.length c1_1] 52 (0, 0))) ∧ (w'.heap[s_.2.2.2.2]? = some (.cells #[.slice none 0 0, .slice none 0 0] 56 (0, 0))) ∧ (w.heap.size ≤ s_.2.2.2.2) ∧ (w.heap.size ≤ s_.2.2.2.2) ∧ (gb299 ≠ s_.2.2.2.2) ∧ (s_.2.2.2.2 ≠ gb299) ∧ (gb300 ≠ s_.2.2.2.2) ∧ (s_.2.2.2.2 ≠ gb300) ∧ (Below w.heap.size w w')) ?_ ?_
   rotate_left
   ·
    intro hJ1_3_5
    refine join_ (σ := Value × Value × Nat × Nat) 3 #[i_, i_, i_, o_, i_, i_, o_, o_] (fun s_ => [(13, .agg #[s_.1, s_.2.1]), (7, .pointer (some ⟨s_.2.2.1, 0, none⟩)), (8, .pointer (some ⟨s_.2.2.2, 0, none⟩))]) (fun s_ w' => (w'.cell? ⟨gb299, 0, none⟩ = some (.slice A0_0 l0_0.length c0_0) ∧ w'.cell? ⟨gb299, 1, none⟩ = some (.slice A0_1 l0_1.length c0_1) ∧ w'.cell? ⟨gb300, 0, none⟩ = some (.slice A1_0 l1_0.length c1_0) ∧ w'.cell? ⟨gb300, 1, none⟩ = some (.slice A1_1 l1_1.length c1_1)) ∧ (Kd.R Kd.bool 4 w' w.heap.size (fun _ => True) s_.1 t301) ∧ (Kd.R k93 93 w' w.heap.size (fun _ => True) s_.2.1 t304) ∧ (w'.heap[gb299]? = some (.cells #[.slice A0_0 l0_0.length c0_0, .slice A0_1 l0_1.length c0_1] 25 (0, 0))) ∧ (w'.heap[gb300]? = some (.cells #[.slice A1_0 l1_0.length c1_0, .slice A1_1 l1_1.length c1_1] 52 (0, 0))) ∧ (w'.heap[s_.2.2.1]? = some (.cells #[.slice none 0 0, .slice none 0 0] 28 (0, 0))) ∧ (w'.heap[s_.2.2.2]? = some (.cells #[.slice none 0 0, .slice none 0 0] 56 (0, 0))) ∧ (w.heap.size ≤ s_.2.2.1) ∧ (w.heap.size ≤ s_.2.2.1) ∧ (gb299 ≠ s_.2.2.1) ∧ (s_.2.2.1 ≠ gb299) ∧ (gb300 ≠ s_.2.2.1) ∧ (s_.2.2.1 ≠ gb300) ∧ (s_.2.2.2 ≠ s_.2.2.1) ∧ (s_.2.2.1 ≠ s_.2.2.2) ∧ (w.heap.size ≤ s_.2.2.2) ∧ (w.heap.size ≤ s_.2.2.2) ∧ (gb299 ≠ s_.2.2.2) ∧ (s_.2.2.2 ≠ gb299) ∧ (gb300 ≠ s_.2.2.2) ∧ (s_.2.2.2 ≠ gb300) ∧ (Below w.heap.size w w')) ?_ ?_
    rotate_left
    ·
     intro hJ1_4_5
     refine join_ (σ := Value × Value × Value × Value) 4 #[i_, i_, i_, i_, o_, o_, o_, o_] (fun s_ => [(13, .agg #[s_.1, s_.2.1]), (15, .agg #[s_.2.2.1, s_.2.2.2])]) (fun s_ w' => (w'.cell? ⟨gb299, 0, none⟩ = some (.slice A0_0 l0_0.length c0_0) ∧ w'.cell? ⟨gb299, 1, none⟩ = some (.slice A0_1 l0_1.length c0_1) ∧ w'.cell? ⟨gb300, 0, none⟩ = some (.slice A1_0 l1_0.length c1_0) ∧ w'.cell? ⟨gb300, 1, none⟩ = some (.slice A1_1 l1_1.length c1_1)) ∧ (Kd.R Kd.bool 4 w' w.heap.size (fun _ => True) s_.1 t301) ∧ (Kd.R k93 93 w' w.heap.size (fun _ => True) s_.2.1 t304) ∧ (Kd.R Kd.string 9 w' w.heap.size (fun _ => True) s_.2.2.1 t307) ∧ (Kd.R k100 100 w' w.heap.size (fun _ => True) s_.2.2.2 t310) ∧ (w'.heap[gb299]? = some (.cells #[.slice A0_0 l0_0.length c0_0, .slice A0_1 l0_1.length c0_1] 25 (0, 0))) ∧ (w'.heap[gb300]? = some (.cells #[.slice A1_0 l1_0.length c1_0, .slice A1_1 l1_1.length c1_1] 52 (0, 0))) ∧ (Below w.heap.size w w')) ?_ ?_
     rotate_left
     ·
      intro hJ1_3
      refine join_ (σ := Value × Value × Nat) 4 #[i_, i_, i_, o_, i_, o_, o_, o_] (fun s_ => [(13, .agg #[s_.1, s_.2.1]), (7, .pointer (some ⟨s_.2.2, 0, none⟩))]) (fun s_ w' => (w'.cell? ⟨gb299, 0, none⟩ = some (.slice A0_0 l0_0.length c0_0) ∧ w'.cell? ⟨gb299, 1, none⟩ = some (.slice A0_1 l0_1.length c0_1) ∧ w'.cell? ⟨gb300, 0, none⟩ = some (.slice A1_0 l1_0.length c1_0) ∧ w'.cell? ⟨gb300, 1, none⟩ = some (.slice A1_1 l1_1.length c1_1)) ∧ (Kd.R Kd.bool 4 w' w.heap.size (fun _ => True) s_.1 t301) ∧ (Kd.R k93 93 w' w.heap.size (fun _ => True) s_.2.1 t304) ∧ (w'.heap[gb299]? = some (.cells #[.slice A0_0 l0_0.length c0_0, .slice A0_1 l0_1.length c0_1] 25 (0, 0))) ∧ (w'.heap[gb300]? = some (.cells #[.slice A1_0 l1_0.length c1_0, .slice A1_1 l1_1.length c1_1] 52 (0, 0))) ∧ (w'.heap[s_.2.2]? = some (.cells #[.slice none 0 0, .slice none 0 0] 28 (0, 0))) ∧ (w.heap.size ≤ s_.2.2) ∧ (w.heap.size ≤ s_.2.2) ∧ (gb299 ≠ s_.2.2) ∧ (s_.2.2 ≠ gb299) ∧ (gb300 ≠ s_.2.2) ∧ (s_.2.2 ≠ gb300) ∧ (Below w.heap.size w w')) ?_ ?_
      rotate_left
      ·
       intro hJ1_4
       refine join_ (σ := Value × Value × Nat) 4 #[i_, i_, i_, o_, o_, i_, o_, o_] (fun s_ => [(13, .agg #[s_.1, s_.2.1]), (8, .pointer (some ⟨s_.2.2, 0, none⟩))]) (fun s_ w' => (w'.cell? ⟨gb299, 0, none⟩ = some (.slice A0_0 l0_0.length c0_0) ∧ w'.cell? ⟨gb299, 1, none⟩ = some (.slice A0_1 l0_1.length c0_1) ∧ w'.cell? ⟨gb300, 0, none⟩ = some (.slice A1_0 l1_0.length c1_0) ∧ w'.cell? ⟨gb300, 1, none⟩ = some (.slice A1_1 l1_1.length c1_1)) ∧ (Kd.R Kd.bool 4 w' w.heap.size (fun _ => True) s_.1 t301) ∧ (Kd.R k93 93 w' w.heap.size (fun _ => True) s_.2.1 t304) ∧ (w'.heap[gb299]? = some (.cells #[.slice A0_0 l0_0.length c0_0, .slice A0_1 l0_1.length c0_1] 25 (0, 0))) ∧ (w'.heap[gb300]? = some (.cells #[.slice A1_0 l1_0.length c1_0, .slice A1_1 l1_1.length c1_1] 52 (0, 0))) ∧ (w'.heap[s_.2.2]? = some (.cells #[.slice none 0 0, .slice none 0 0] 56 (0, 0))) ∧ (w.heap.size ≤ s_.2.2) ∧ (w.heap.size ≤ s_.2.2) ∧ (gb299 ≠ s_.2.2) ∧ (s_.2.2 ≠ gb299) ∧ (gb300 ≠ s_.2.2) ∧ (s_.2.2 ≠ gb300) ∧ (Below w.heap.size w w')) ?_ ?_
       rotate_left
       ·
        intro hJ1_5
        refine join_ (σ := Nat × Nat) 4 #[i_, o_, i_, o_, i_, i_, o_, o_] (fun s_ => [(7, .pointer (some ⟨s_.1, 0, none⟩)), (8, .pointer (some ⟨s_.2, 0, none⟩))]) (fun s_ w' => (w'.cell? ⟨gb299, 0, none⟩ = some (.slice A0_0 l0_0.length c0_0) ∧ w'.cell? ⟨gb299, 1, none⟩ = some (.slice A0_1 l0_1.length c0_1) ∧ w'.cell? ⟨gb300, 0, none⟩ = some (.slice A1_0 l1_0.length c1_0) ∧ w'.cell? ⟨gb300, 1, none⟩ = some (.slice A1_1 l1_1.length c1_1)) ∧ (w'.heap[gb299]? = some (.cells #[.slice A0_0 l0_0.length c0_0, .slice A0_1 l0_1.length c0_1] 25 (0, 0))) ∧ (w'.heap[gb300]? = some (.cells #[.slice A1_0 l1_0.length c1_0, .slice A1_1 l1_1.length c1_1] 52 (0, 0))) ∧ (w'.heap[s_.1]? = some (.cells #[.slice none 0 0, .slice none 0 0] 28 (0, 0))) ∧ (w'.heap[s_.2]? = some (.cells #[.slice none 0 0, .slice none 0 0] 56 (0, 0))) ∧ (w.heap.size ≤ s_.1) ∧ (w.heap.size ≤ s_.1) ∧ (gb299 ≠ s_.1) ∧ (s_.1 ≠ gb299) ∧ (gb300 ≠ s_.1) ∧ (s_.1 ≠ gb300) ∧ (s_.2 ≠ s_.1) ∧ (s_.1 ≠ s_.2) ∧ (w.heap.size ≤ s_.2) ∧ (w.heap.size ≤ s_.2) ∧ (gb299 ≠ s_.2) ∧ (s_.2 ≠ gb299) ∧ (gb300 ≠ s_.2) ∧ (s_.2 ≠ gb300) ∧ (Below w.heap.size w w')) ?_ ?_
        rotate_left
        ·
         intro hJ4_5
         refine join_ (σ := Value × Value) 5 #[i_, i_, i_, o_, o_, o_, o_, o_] (fun s_ => [(13, .agg #[s_.1, s_.2])]) (fun s_ w' => (w'.cell? ⟨gb299, 0, none⟩ = some (.slice A0_0 l0_0.length c0_0) ∧ w'.cell? ⟨gb299, 1, none⟩ = some (.slice A0_1 l0_1.length c0_1) ∧ w'.cell? ⟨gb300, 0, none⟩ = some (.slice A1_0 l1_0.length c1_0) ∧ w'.cell? ⟨gb300, 1, none⟩ = some (.slice A1_1 l1_1.length c1_1)) ∧ (Kd.R Kd.bool 4 w' w.heap.size (fun _ => True) s_.1 t301) ∧ (Kd.R k93 93 w' w.heap.size (fun _ => True) s_.2 t304) ∧ (w'.heap[gb299]? = some (.cells #[.slice A0_0 l0_0.length c0_0, .slice A0_1 l0_1.length c0_1] 25 (0, 0))) ∧ (w'.heap[gb300]? = some (.cells #[.slice A1_0 l1_0.length c1_0, .slice A1_1 l1_1.length c1_1] 52 (0, 0))) ∧ (Below w.heap.size w w')) ?_ ?_
         rotate_left
         ·
          intro hJ1
          refine join_ (σ := Nat) 5 #[i_, o_, i_, o_, i_, o_, o_, o_] (fun s_ => [(7, .pointer (some ⟨s_, 0, none⟩))]) (fun s_ w' => (w'.cell? ⟨gb299, 0, none⟩ = some (.slice A0_0 l0_0.length c0_0) ∧ w'.cell? ⟨gb299, 1, none⟩ = some (.slice A0_1 l0_1.length c0_1) ∧ w'.cell? ⟨gb300, 0, none⟩ = some (.slice A1_0 l1_0.length c1_0) ∧ w'.cell? ⟨gb300, 1, none⟩ = some (.slice A1_1 l1_1.length c1_1)) ∧ (w'.heap[gb299]? = some (.cells #[.slice A0_0 l0_0.length c0_0, .slice A0_1 l0_1.length c0_1] 25 (0, 0))) ∧ (w'.heap[gb300]? = some (.cells #[.slice A1_0 l1_0.length c1_0, .slice A1_1 l1_1.length c1_1] 52 (0, 0))) ∧ (w'.heap[s_]? = some (.cells #[.slice none 0 0, .slice none 0 0] 28 (0, 0))) ∧ (w.heap.size ≤ s_) ∧ (w.heap.size ≤ s_) ∧ (gb299 ≠ s_) ∧ (s_ ≠ gb299) ∧ (gb300 ≠ s_) ∧ (s_ ≠ gb300) ∧ (Below w.heap.size w w')) ?_ ?_
          rotate_left
          ·
           intro hJ4
           refine join_ (σ := Nat) 5 #[i_, o_, i_, o_, o_, i_, o_, o_] (fun s_ => [(8, .pointer (some ⟨s_, 0, none⟩))]) (fun s_ w' => (w'.cell? ⟨gb299, 0, none⟩ = some (.slice A0_0 l0_0.length c0_0) ∧ w'.cell? ⟨gb299, 1, none⟩ = some (.slice A0_1 l0_1.length c0_1) ∧ w'.cell? ⟨gb300, 0, none⟩ = some (.slice A1_0 l1_0.length c1_0) ∧ w'.cell? ⟨gb300, 1, none⟩ = some (.slice A1_1 l1_1.length c1_1)) ∧ (w'.heap[gb299]? = some (.cells #[.slice A0_0 l0_0.length c0_0, .slice A0_1 l0_1.length c0_1] 25 (0, 0))) ∧ (w'.heap[gb300]? = some (.cells #[.slice A1_0 l1_0.length c1_0, .slice A1_1 l1_1.length c1_1] 52 (0, 0))) ∧ (w'.heap[s_]? = some (.cells #[.slice none 0 0, .slice none 0 0] 56 (0, 0))) ∧ (w.heap.size ≤ s_) ∧ (w.heap.size ≤ s_) ∧ (gb299 ≠ s_) ∧ (s_ ≠ gb299) ∧ (gb300 ≠ s_) ∧ (s_ ≠ gb300) ∧ (Below w.heap.size w w')) ?_ ?_
           rotate_left
           ·
            intro hJ5
            refine three_ (i := 1) (j := 4) (k := 5) (Ni := some 13) (Nj := some 7) (Nk := some 8) #[i_, i_, i_, o_, o_, o_, o_, o_] #[i_, o_, i_, o_, i_, o_, o_, o_] #[i_, o_, i_, o_, o_, i_, o_, o_] rfl rfl rfl rfl rfl rfl (three_of HT_.out (by kernel_rfl)) (by decide) (by decide) (by decide) (fun K hK => ?_) (fun K hK => ?_) (fun K hK => ?_)
            ·
             skip
             refine goes_ Try.func13 (by kernel_rfl) rfl #[.agg #[.slice A0_0 l0_0.length c0_0, .slice A0_1 l0_1.length c0_1]] (by rfl) rfl rfl y6 ?_
             with_reducible refine (heraldlaw15_given.calls k _ _ l0_0 _ _ l0_1 t301 t304 _ ?side1 ?side2 ?side3 ?side4 A4.out).mono ?_
             (case side1 => exact y9 HR0_0)
             (case side2 => exact HC0_0.out)
             (case side3 => exact y9 HR0_1)
             (case side4 => exact HC0_1.out)
             rintro e w9 ⟨v302, v305, rfl, ho0, ho1, hb⟩
             refine ⟨_, rfl, ?_⟩
             have n0_ := ym (yo ho0 (below_size yb))
             have n1_ := ym (yo ho1 (below_size yb))
             have n2_ := ym (yq (g := gb299) (o := .cells #[.slice A0_0 l0_0.length c0_0, .slice A0_1 l0_1.length c0_1] 25 (0, 0)) (yc BK299) hb)
             have n3_ := ym (yq (g := gb300) (o := .cells #[.slice A1_0 l1_0.length c1_0, .slice A1_1 l1_1.length c1_1] 52 (0, 0)) (yc BK300) hb)
             have n4_ := ym (yn yb hb)
             clear BK299
             clear BK300
             clear HB
             have HO303 := n0_
             have HO306 := n1_
             have BK299 := n2_
             have BK300 := n3_
             have HB := n4_
             clear n0_ n1_ n2_ n3_ n4_
             (try clear hb)
             (try clear hb2)
             (try clear hk)
             (try clear hi)
             (try clear ho0)
             (try clear ho1)
             refine hK.out _ _ ⟨(yw BK299.out 0).trans rfl, (yw BK299.out 1).trans rfl, (yw BK300.out 0).trans rfl, (yw BK300.out 1).trans rfl⟩ (fun hHeld => ?_)
             clear hK K
             refine norm_ (a' := ?_) ?_ ?_
             rotate_left
             ·
              show Act.put _ (some 13) _ = _
              simp only [Act.put, y0, y1]
              rfl
             exact norm_ (by first | (simp only [putAll, Act.put, y0]; done) | (simp only [putAll, Act.put, y0]; rfl)) (hJ1 (v302, v305) _ ⟨hHeld, (by (with_reducible repeat apply y2); exact HO303.out), (by (with_reducible repeat apply y2); exact HO306.out), (yc BK299), (yc BK300), yb⟩)
            ·
             skip
             refine box_step ?hg (N := 7) ?hd (cs := #[.slice none 0 0, .slice none 0 0]) (t := 28) ?hr ?_; (case hd => rfl); (case hg => rfl); (case hr => first | (go_simp; done) | (go_simp; rfl))
             intro gb313 hg w9 hbox hb
             have n0_ := ym (yq (g := gb299) (o := .cells #[.slice A0_0 l0_0.length c0_0, .slice A0_1 l0_1.length c0_1] 25 (0, 0)) (yc BK299) hb)
             have n1_ := ym (yq (g := gb300) (o := .cells #[.slice A1_0 l1_0.length c1_0, .slice A1_1 l1_1.length c1_1] 52 (0, 0)) (yc BK300) hb)
             have n2_ := ym (yn yb hb)
             have n3_ := ym (hbox)
             have n4_ := ym ((by rw [hg]; exact (below_size yb) : w.heap.size ≤ gb313))
             have n5_ := ym ((by rw [hg]; exact (below_size yb) : w.heap.size ≤ gb313))
             have n6_ := ym ((by rw [hg]; exact Nat.ne_of_lt (blk_lt (g := gb299) (o := .cells #[.slice A0_0 l0_0.length c0_0, .slice A0_1 l0_1.length c0_1] 25 (0, 0)) (yc BK299)) : gb299 ≠ gb313))
             have n7_ := ym ((by rw [hg]; exact Nat.ne_of_gt (blk_lt (g := gb299) (o := .cells #[.slice A0_0 l0_0.length c0_0, .slice A0_1 l0_1.length c0_1] 25 (0, 0)) (yc BK299)) : gb313 ≠ gb299))
             have n8_ := ym ((by rw [hg]; exact Nat.ne_of_lt (blk_lt (g := gb300) (o := .cells #[.slice A1_0 l1_0.length c1_0, .slice A1_1 l1_1.length c1_1] 52 (0, 0)) (yc BK300)) : gb300 ≠ gb313))
             have n9_ := ym ((by rw [hg]; exact Nat.ne_of_gt (blk_lt (g := gb300) (o := .cells #[.slice A1_0 l1_0.length c1_0, .slice A1_1 l1_1.length c1_1] 52 (0, 0)) (yc BK300)) : gb313 ≠ gb300))
             clear BK299
             clear BK300
             clear HB
             have BK299 := n0_
             have BK300 := n1_
             have HB := n2_
             have BK313 := n3_
             have GW313 := n4_
             have GE313 := n5_
             have NB299_313 := n6_
             have NB313_299 := n7_
             have NB300_313 := n8_
             have NB313_300 := n9_
             clear n0_ n1_ n2_ n3_ n4_ n5_ n6_ n7_ n8_ n9_
             clear hb hbox hg
             refine hK.out _ _ ⟨(yw BK299.out 0).trans rfl, (yw BK299.out 1).trans rfl, (yw BK300.out 0).trans rfl, (yw BK300.out 1).trans rfl⟩ (fun hHeld => ?_)
             clear hK K
             refine norm_ (a' := ?_) ?_ ?_
             rotate_left
             ·
              show Act.put _ (some 7) _ = _
              simp only [Act.put, y0, y1]
              rfl
             exact norm_ (by first | (simp only [putAll, Act.put, y0]; done) | (simp only [putAll, Act.put, y0]; rfl)) (hJ4 (gb313) _ ⟨hHeld, (yc BK299), (yc BK300), (yc BK313), GW313.out, GE313.out, NB299_313.out, NB313_299.out, NB300_313.out, NB313_300.out, yb⟩)
            ·
             skip
             refine box_step ?hg (N := 8) ?hd (cs := #[.slice none 0 0, .slice none 0 0]) (t := 56) ?hr ?_; (case hd => rfl); (case hg => rfl); (case hr => first | (go_simp; done) | (go_simp; rfl))
             intro gb314 hg w9 hbox hb
             have n0_ := ym (yq (g := gb299) (o := .cells #[.slice A0_0 l0_0.length c0_0, .slice A0_1 l0_1.length c0_1] 25 (0, 0)) (yc BK299) hb)
             have n1_ := ym (yq (g := gb300) (o := .cells #[.slice A1_0 l1_0.length c1_0, .slice A1_1 l1_1.length c1_1] 52 (0, 0)) (yc BK300) hb)
             have n2_ := ym (yn yb hb)
             have n3_ := ym (hbox)
             have n4_ := ym ((by rw [hg]; exact (below_size yb) : w.heap.size ≤ gb314))
             have n5_ := ym ((by rw [hg]; exact (below_size yb) : w.heap.size ≤ gb314))
             have n6_ := ym ((by rw [hg]; exact Nat.ne_of_lt (blk_lt (g := gb299) (o := .cells #[.slice A0_0 l0_0.length c0_0, .slice A0_1 l0_1.length c0_1] 25 (0, 0)) (yc BK299)) : gb299 ≠ gb314))
             have n7_ := ym ((by rw [hg]; exact Nat.ne_of_gt (blk_lt (g := gb299) (o := .cells #[.slice A0_0 l0_0.length c0_0, .slice A0_1 l0_1.length c0_1] 25 (0, 0)) (yc BK299)) : gb314 ≠ gb299))
             have n8_ := ym ((by rw [hg]; exact Nat.ne_of_lt (blk_lt (g := gb300) (o := .cells #[.slice A1_0 l1_0.length c1_0, .slice A1_1 l1_1.length c1_1] 52 (0, 0)) (yc BK300)) : gb300 ≠ gb314))
             have n9_ := ym ((by rw [hg]; exact Nat.ne_of_gt (blk_lt (g := gb300) (o := .cells #[.slice A1_0 l1_0.length c1_0, .slice A1_1 l1_1.length c1_1] 52 (0, 0)) (yc BK300)) : gb314 ≠ gb300))
             clear BK299
             clear BK300
             clear HB
             have BK299 := n0_
             have BK300 := n1_
             have HB := n2_
             have BK314 := n3_
             have GW314 := n4_
             have GE314 := n5_
             have NB299_314 := n6_
             have NB314_299 := n7_
             have NB300_314 := n8_
             have NB314_300 := n9_
             clear n0_ n1_ n2_ n3_ n4_ n5_ n6_ n7_ n8_ n9_
             clear hb hbox hg
             refine hK.out _ _ ⟨(yw BK299.out 0).trans rfl, (yw BK299.out 1).trans rfl, (yw BK300.out 0).trans rfl, (yw BK300.out 1).trans rfl⟩ (fun hHeld => ?_)
             clear hK K
             refine norm_ (a' := ?_) ?_ ?_
             rotate_left
             ·
              show Act.put _ (some 8) _ = _
              simp only [Act.put, y0, y1]
              rfl
             exact norm_ (by first | (simp only [putAll, Act.put, y0]; done) | (simp only [putAll, Act.put, y0]; rfl)) (hJ5 (gb314) _ ⟨hHeld, (yc BK299), (yc BK300), (yc BK314), GW314.out, GE314.out, NB299_314.out, NB314_299.out, NB300_314.out, NB314_300.out, yb⟩)
           ·
            skip
            rintro gb314 w10 ⟨hS_, h0_, h1_, h2_, h3_, h4_, h5_, h6_, h7_, h8_, h9_⟩
            have n0_ : Aside0 (w10.heap[gb299]? = some (.cells #[.slice A0_0 l0_0.length c0_0, .slice A0_1 l0_1.length c0_1] 25 (0, 0))) := ⟨h0_⟩
            have n1_ : Aside0 (w10.heap[gb300]? = some (.cells #[.slice A1_0 l1_0.length c1_0, .slice A1_1 l1_1.length c1_1] 52 (0, 0))) := ⟨h1_⟩
            have n2_ : Aside0 (w10.heap[gb314]? = some (.cells #[.slice none 0 0, .slice none 0 0] 56 (0, 0))) := ⟨h2_⟩
            have n3_ : Aside0 (w.heap.size ≤ gb314) := ⟨h3_⟩
            have n4_ : Aside0 (w.heap.size ≤ gb314) := ⟨h4_⟩
            have n5_ : Aside0 (gb299 ≠ gb314) := ⟨h5_⟩
            have n6_ : Aside0 (gb314 ≠ gb299) := ⟨h6_⟩
            have n7_ : Aside0 (gb300 ≠ gb314) := ⟨h7_⟩
            have n8_ : Aside0 (gb314 ≠ gb300) := ⟨h8_⟩
            have n9_ : Aside0 (Below w.heap.size w w10) := ⟨h9_⟩
            clear BK299
            clear BK300
            clear HB
            clear h0_ h1_ h2_ h3_ h4_ h5_ h6_ h7_ h8_ h9_
            have BK299 := n0_
            have BK300 := n1_
            have BK314 := n2_
            have GW314 := n3_
            have GE314 := n4_
            have NB299_314 := n5_
            have NB314_299 := n6_
            have NB300_314 := n7_
            have NB314_300 := n8_
            have HB := n9_
            clear n0_ n1_ n2_ n3_ n4_ n5_ n6_ n7_ n8_ n9_
            have hHeld : w10.cell? ⟨gb299, 0, none⟩ = some (.slice A0_0 l0_0.length c0_0) ∧ w10.cell? ⟨gb299, 1, none⟩ = some (.slice A0_1 l0_1.length c0_1) ∧ w10.cell? ⟨gb300, 0, none⟩ = some (.slice A1_0 l1_0.length c1_0) ∧ w10.cell? ⟨gb300, 1, none⟩ = some (.slice A1_1 l1_1.length c1_1) := hS_
            refine norm_ (a' := ?_) ?_ ?_
            rotate_left
            ·
             simp only [putAll, Act.put, y0]
             rfl
            refine two_ (i := 1) (j := 4) (Ni := some 13) (Nj := some 7) #[i_, i_, i_, o_, o_, i_, o_, o_] #[i_, o_, i_, o_, i_, i_, o_, o_] rfl rfl rfl rfl (two_of HT_.out (by kernel_rfl)) (by decide) (by decide) (fun K hK => ?_) (fun K hK => ?_)
            ·
             skip
             refine goes_ Try.func13 (by kernel_rfl) rfl #[.agg #[.slice A0_0 l0_0.length c0_0, .slice A0_1 l0_1.length c0_1]] (by rfl) rfl rfl y6 ?_
             with_reducible refine (heraldlaw15_given.calls k _ _ l0_0 _ _ l0_1 t301 t304 _ ?side1 ?side2 ?side3 ?side4 A4.out).mono ?_
             (case side1 => exact y9 HR0_0)
             (case side2 => exact HC0_0.out)
             (case side3 => exact y9 HR0_1)
             (case side4 => exact HC0_1.out)
             rintro e w11 ⟨v302, v305, rfl, ho0, ho1, hb⟩
             refine ⟨_, rfl, ?_⟩
             have n0_ := ym (yo ho0 (below_size yb))
             have n1_ := ym (yo ho1 (below_size yb))
             have n2_ := ym (yq (g := gb299) (o := .cells #[.slice A0_0 l0_0.length c0_0, .slice A0_1 l0_1.length c0_1] 25 (0, 0)) (yc BK299) hb)
             have n3_ := ym (yq (g := gb300) (o := .cells #[.slice A1_0 l1_0.length c1_0, .slice A1_1 l1_1.length c1_1] 52 (0, 0)) (yc BK300) hb)
             have n4_ := ym (yq (g := gb314) (o := .cells #[.slice none 0 0, .slice none 0 0] 56 (0, 0)) (yc BK314) hb)
             have n5_ := ym (yn yb hb)
             clear BK299
             clear BK300
             clear BK314
             clear HB
             have HO303 := n0_
             have HO306 := n1_
             have BK299 := n2_
             have BK300 := n3_
             have BK314 := n4_
             have HB := n5_
             clear n0_ n1_ n2_ n3_ n4_ n5_
             (try clear hb)
             (try clear hb2)
             (try clear hk)
             (try clear hi)
             (try clear ho0)
             (try clear ho1)
             refine hK.out _ _ ⟨(yw BK299.out 0).trans rfl, (yw BK299.out 1).trans rfl, (yw BK300.out 0).trans rfl, (yw BK300.out 1).trans rfl⟩ (fun hHeld => ?_)
             clear hK K
             refine norm_ (a' := ?_) ?_ ?_
             rotate_left
             ·
              show Act.put _ (some 13) _ = _
              simp only [Act.put, y0, y1]
              rfl
             exact norm_ (by first | (simp only [putAll, Act.put, y0]; done) | (simp only [putAll, Act.put, y0]; rfl)) (hJ1_5 (v302, v305, gb314) _ ⟨hHeld, (by (with_reducible repeat apply y2); exact HO303.out), (by (with_reducible repeat apply y2); exact HO306.out), (yc BK299), (yc BK300), (yc BK314), GW314.out, GE314.out, NB299_314.out, NB314_299.out, NB300_314.out, NB314_300.out, yb⟩)
            ·
             skip
             refine box_step ?hg (N := 7) ?hd (cs := #[.slice none 0 0, .slice none 0 0]) (t := 28) ?hr ?_; (case hd => rfl); (case hg => rfl); (case hr => first | (go_simp; done) | (go_simp; rfl))
             intro gb313 hg w11 hbox hb
             have n0_ := ym (yq (g := gb299) (o := .cells #[.slice A0_0 l0_0.length c0_0, .slice A0_1 l0_1.length c0_1] 25 (0, 0)) (yc BK299) hb)
             have n1_ := ym (yq (g := gb300) (o := .cells #[.slice A1_0 l1_0.length c1_0, .slice A1_1 l1_1.length c1_1] 52 (0, 0)) (yc BK300) hb)
             have n2_ := ym (yq (g := gb314) (o := .cells #[.slice none 0 0, .slice none 0 0] 56 (0, 0)) (yc BK314) hb)
             have n3_ := ym (yn yb hb)
             have n4_ := ym (hbox)
             have n5_ := ym ((by rw [hg]; exact (below_size yb) : w.heap.size ≤ gb313))
             have n6_ := ym ((by rw [hg]; exact (below_size yb) : w.heap.size ≤ gb313))
             have n7_ := ym ((by rw [hg]; exact Nat.ne_of_lt (blk_lt (g := gb299) (o := .cells #[.slice A0_0 l0_0.length c0_0, .slice A0_1 l0_1.length c0_1] 25 (0, 0)) (yc BK299)) : gb299 ≠ gb313))
             have n8_ := ym ((by rw [hg]; exact Nat.ne_of_gt (blk_lt (g := gb299) (o := .cells #[.slice A0_0 l0_0.length c0_0, .slice A0_1 l0_1.length c0_1] 25 (0, 0)) (yc BK299)) : gb313 ≠ gb299))
             have n9_ := ym ((by rw [hg]; exact Nat.ne_of_lt (blk_lt (g := gb300) (o := .cells #[.slice A1_0 l1_0.length c1_0, .slice A1_1 l1_1.length c1_1] 52 (0, 0)) (yc BK300)) : gb300 ≠ gb313))
             have n10_ := ym ((by rw [hg]; exact Nat.ne_of_gt (blk_lt (g := gb300) (o := .cells #[.slice A1_0 l1_0.length c1_0, .slice A1_1 l1_1.length c1_1] 52 (0, 0)) (yc BK300)) : gb313 ≠ gb300))
             have n11_ := ym ((by rw [hg]; exact Nat.ne_of_lt (blk_lt (g := gb314) (o := .cells #[.slice none 0 0, .slice none 0 0] 56 (0, 0)) (yc BK314)) : gb314 ≠ gb313))
             have n12_ := ym ((by rw [hg]; exact Nat.ne_of_gt (blk_lt (g := gb314) (o := .cells #[.slice none 0 0, .slice none 0 0] 56 (0, 0)) (yc BK314)) : gb313 ≠ gb314))
             clear BK299
             clear BK300
             clear BK314
             clear HB
             have BK299 := n0_
             have BK300 := n1_
             have BK314 := n2_
             have HB := n3_
             have BK313 := n4_
             have GW313 := n5_
             have GE313 := n6_
             have NB299_313 := n7_
             have NB313_299 := n8_
             have NB300_313 := n9_
             have NB313_300 := n10_
             have NB314_313 := n11_
             have NB313_314 := n12_
             clear n0_ n1_ n2_ n3_ n4_ n5_ n6_ n7_ n8_ n9_ n10_ n11_ n12_
             clear hb hbox hg
             refine hK.out _ _ ⟨(yw BK299.out 0).trans rfl, (yw BK299.out 1).trans rfl, (yw BK300.out 0).trans rfl, (yw BK300.out 1).trans rfl⟩ (fun hHeld => ?_)
             clear hK K
             refine norm_ (a' := ?_) ?_ ?_
             rotate_left
             ·
              show Act.put _ (some 7) _ = _
              simp only [Act.put, y0, y1]
              rfl
             exact norm_ (by first | (simp only [putAll, Act.put, y0]; done) | (simp only [putAll, Act.put, y0]; rfl)) (hJ4_5 (gb313, gb314) _ ⟨hHeld, (yc BK299), (yc BK300), (yc BK313), (yc BK314), GW313.out, GE313.out, NB299_313.out, NB313_299.out, NB300_313.out, NB313_300.out, NB314_313.out, NB313_314.out, GW314.out, GE314.out, NB299_314.out, NB314_299.out, NB300_314.out, NB314_300.out, yb⟩)
          ·
           skip
           rintro gb313 w10 ⟨hS_, h0_, h1_, h2_, h3_, h4_, h5_, h6_, h7_, h8_, h9_⟩
           have n0_ : Aside0 (w10.heap[gb299]? = some (.cells #[.slice A0_0 l0_0.length c0_0, .slice A0_1 l0_1.length c0_1] 25 (0, 0))) := ⟨h0_⟩
           have n1_ : Aside0 (w10.heap[gb300]? = some (.cells #[.slice A1_0 l1_0.length c1_0, .slice A1_1 l1_1.length c1_1] 52 (0, 0))) := ⟨h1_⟩
           have n2_ : Aside0 (w10.heap[gb313]? = some (.cells #[.slice none 0 0, .slice none 0 0] 28 (0, 0))) := ⟨h2_⟩
           have n3_ : Aside0 (w.heap.size ≤ gb313) := ⟨h3_⟩
           have n4_ : Aside0 (w.heap.size ≤ gb313) := ⟨h4_⟩
           have n5_ : Aside0 (gb299 ≠ gb313) := ⟨h5_⟩
           have n6_ : Aside0 (gb313 ≠ gb299) := ⟨h6_⟩
           have n7_ : Aside0 (gb300 ≠ gb313) := ⟨h7_⟩
           have n8_ : Aside0 (gb313 ≠ gb300) := ⟨h8_⟩
           have n9_ : Aside0 (Below w.heap.size w w10) := ⟨h9_⟩
           clear BK299
           clear BK300
           clear HB
           clear h0_ h1_ h2_ h3_ h4_ h5_ h6_ h7_ h8_ h9_
           have BK299 := n0_
           have BK300 := n1_
           have BK313 := n2_
           have GW313 := n3_
           have GE313 := n4_
           have NB299_313 := n5_
           have NB313_299 := n6_
           have NB300_313 := n7_
           have NB313_300 := n8_
           have HB := n9_
           clear n0_ n1_ n2_ n3_ n4_ n5_ n6_ n7_ n8_ n9_
           have hHeld : w10.cell? ⟨gb299, 0, none⟩ = some (.slice A0_0 l0_0.length c0_0) ∧ w10.cell? ⟨gb299, 1, none⟩ = some (.slice A0_1 l0_1.length c0_1) ∧ w10.cell? ⟨gb300, 0, none⟩ = some (.slice A1_0 l1_0.length c1_0) ∧ w10.cell? ⟨gb300, 1, none⟩ = some (.slice A1_1 l1_1.length c1_1) := hS_
           refine norm_ (a' := ?_) ?_ ?_
           rotate_left
           ·
            simp only [putAll, Act.put, y0]
            rfl
           refine two_ (i := 1) (j := 5) (Ni := some 13) (Nj := some 8) #[i_, i_, i_, o_, i_, o_, o_, o_] #[i_, o_, i_, o_, i_, i_, o_, o_] rfl rfl rfl rfl (two_of HT_.out (by kernel_rfl)) (by decide) (by decide) (fun K hK => ?_) (fun K hK => ?_)
           ·
            skip
            refine goes_ Try.func13 (by kernel_rfl) rfl #[.agg #[.slice A0_0 l0_0.length c0_0, .slice A0_1 l0_1.length c0_1]] (by rfl) rfl rfl y6 ?_
            with_reducible refine (heraldlaw15_given.calls k _ _ l0_0 _ _ l0_1 t301 t304 _ ?side1 ?side2 ?side3 ?side4 A4.out).mono ?_
            (case side1 => exact y9 HR0_0)
            (case side2 => exact HC0_0.out)
            (case side3 => exact y9 HR0_1)
            (case side4 => exact HC0_1.out)
            rintro e w11 ⟨v302, v305, rfl, ho0, ho1, hb⟩
            refine ⟨_, rfl, ?_⟩
            have n0_ := ym (yo ho0 (below_size yb))
            have n1_ := ym (yo ho1 (below_size yb))
            have n2_ := ym (yq (g := gb299) (o := .cells #[.slice A0_0 l0_0.length c0_0, .slice A0_1 l0_1.length c0_1] 25 (0, 0)) (yc BK299) hb)
            have n3_ := ym (yq (g := gb300) (o := .cells #[.slice A1_0 l1_0.length c1_0, .slice A1_1 l1_1.length c1_1] 52 (0, 0)) (yc BK300) hb)
            have n4_ := ym (yq (g := gb313) (o := .cells #[.slice none 0 0, .slice none 0 0] 28 (0, 0)) (yc BK313) hb)
            have n5_ := ym (yn yb hb)
            clear BK299
            clear BK300
            clear BK313
            clear HB
            have HO303 := n0_
            have HO306 := n1_
            have BK299 := n2_
            have BK300 := n3_
            have BK313 := n4_
            have HB := n5_
            clear n0_ n1_ n2_ n3_ n4_ n5_
            (try clear hb)
            (try clear hb2)
            (try clear hk)
            (try clear hi)
            (try clear ho0)
            (try clear ho1)
            refine hK.out _ _ ⟨(yw BK299.out 0).trans rfl, (yw BK299.out 1).trans rfl, (yw BK300.out 0).trans rfl, (yw BK300.out 1).trans rfl⟩ (fun hHeld => ?_)
            clear hK K
            refine norm_ (a' := ?_) ?_ ?_
            rotate_left
            ·
             show Act.put _ (some 13) _ = _
             simp only [Act.put, y0, y1]
             rfl
            exact norm_ (by first | (simp only [putAll, Act.put, y0]; done) | (simp only [putAll, Act.put, y0]; rfl)) (hJ1_4 (v302, v305, gb313) _ ⟨hHeld, (by (with_reducible repeat apply y2); exact HO303.out), (by (with_reducible repeat apply y2); exact HO306.out), (yc BK299), (yc BK300), (yc BK313), GW313.out, GE313.out, NB299_313.out, NB313_299.out, NB300_313.out, NB313_300.out, yb⟩)
           ·
            skip
            refine box_step ?hg (N := 8) ?hd (cs := #[.slice none 0 0, .slice none 0 0]) (t := 56) ?hr ?_; (case hd => rfl); (case hg => rfl); (case hr => first | (go_simp; done) | (go_simp; rfl))
            intro gb314 hg w11 hbox hb
            have n0_ := ym (yq (g := gb299) (o := .cells #[.slice A0_0 l0_0.length c0_0, .slice A0_1 l0_1.length c0_1] 25 (0, 0)) (yc BK299) hb)
            have n1_ := ym (yq (g := gb300) (o := .cells #[.slice A1_0 l1_0.length c1_0, .slice A1_1 l1_1.length c1_1] 52 (0, 0)) (yc BK300) hb)
            have n2_ := ym (yq (g := gb313) (o := .cells #[.slice none 0 0, .slice none 0 0] 28 (0, 0)) (yc BK313) hb)
            have n3_ := ym (yn yb hb)
            have n4_ := ym (hbox)
            have n5_ := ym ((by rw [hg]; exact (below_size yb) : w.heap.size ≤ gb314))
            have n6_ := ym ((by rw [hg]; exact (below_size yb) : w.heap.size ≤ gb314))
            have n7_ := ym ((by rw [hg]; exact Nat.ne_of_lt (blk_lt (g := gb299) (o := .cells #[.slice A0_0 l0_0.length c0_0, .slice A0_1 l0_1.length c0_1] 25 (0, 0)) (yc BK299)) : gb299 ≠ gb314))
            have n8_ := ym ((by rw [hg]; exact Nat.ne_of_gt (blk_lt (g := gb299) (o := .cells #[.slice A0_0 l0_0.length c0_0, .slice A0_1 l0_1.length c0_1] 25 (0, 0)) (yc BK299)) : gb314 ≠ gb299))
            have n9_ := ym ((by rw [hg]; exact Nat.ne_of_lt (blk_lt (g := gb300) (o := .cells #[.slice A1_0 l1_0.length c1_0, .slice A1_1 l1_1.length c1_1] 52 (0, 0)) (yc BK300)) : gb300 ≠ gb314))
            have n10_ := ym ((by rw [hg]; exact Nat.ne_of_gt (blk_lt (g := gb300) (o := .cells #[.slice A1_0 l1_0.length c1_0, .slice A1_1 l1_1.length c1_1] 52 (0, 0)) (yc BK300)) : gb314 ≠ gb300))
            have n11_ := ym ((by rw [hg]; exact Nat.ne_of_lt (blk_lt (g := gb313) (o := .cells #[.slice none 0 0, .slice none 0 0] 28 (0, 0)) (yc BK313)) : gb313 ≠ gb314))
            have n12_ := ym ((by rw [hg]; exact Nat.ne_of_gt (blk_lt (g := gb313) (o := .cells #[.slice none 0 0, .slice none 0 0] 28 (0, 0)) (yc BK313)) : gb314 ≠ gb313))
            clear BK299
            clear BK300
            clear BK313
            clear HB
            have BK299 := n0_
            have BK300 := n1_
            have BK313 := n2_
            have HB := n3_
            have BK314 := n4_
            have GW314 := n5_
            have GE314 := n6_
            have NB299_314 := n7_
            have NB314_299 := n8_
            have NB300_314 := n9_
            have NB314_300 := n10_
            have NB313_314 := n11_
            have NB314_313 := n12_
            clear n0_ n1_ n2_ n3_ n4_ n5_ n6_ n7_ n8_ n9_ n10_ n11_ n12_
            clear hb hbox hg
            refine hK.out _ _ ⟨(yw BK299.out 0).trans rfl, (yw BK299.out 1).trans rfl, (yw BK300.out 0).trans rfl, (yw BK300.out 1).trans rfl⟩ (fun hHeld => ?_)
            clear hK K
            refine norm_ (a' := ?_) ?_ ?_
            rotate_left
            ·
             show Act.put _ (some 8) _ = _
             simp only [Act.put, y0, y1]
             rfl
            exact norm_ (by first | (simp only [putAll, Act.put, y0]; done) | (simp only [putAll, Act.put, y0]; rfl)) (hJ4_5 (gb313, gb314) _ ⟨hHeld, (yc BK299), (yc BK300), (yc BK313), (yc BK314), GW313.out, GE313.out, NB299_313.out, NB313_299.out, NB300_313.out, NB313_300.out, NB314_313.out, NB313_314.out, GW314.out, GE314.out, NB299_314.out, NB314_299.out, NB300_314.out, NB314_300.out, yb⟩)
         ·
          skip
          rintro ⟨v302, v305⟩ w10 ⟨hS_, h0_, h1_, h2_, h3_, h4_⟩
          have n0_ : Aside0 (Kd.R Kd.bool 4 w10 w.heap.size (fun _ => True) v302 t301) := ⟨h0_⟩
          have n1_ : Aside0 (Kd.R k93 93 w10 w.heap.size (fun _ => True) v305 t304) := ⟨h1_⟩
          have n2_ : Aside0 (w10.heap[gb299]? = some (.cells #[.slice A0_0 l0_0.length c0_0, .slice A0_1 l0_1.length c0_1] 25 (0, 0))) := ⟨h2_⟩
          have n3_ : Aside0 (w10.heap[gb300]? = some (.cells #[.slice A1_0 l1_0.length c1_0, .slice A1_1 l1_1.length c1_1] 52 (0, 0))) := ⟨h3_⟩
          have n4_ : Aside0 (Below w.heap.size w w10) := ⟨h4_⟩
          clear BK299
          clear BK300
          clear HB
          clear h0_ h1_ h2_ h3_ h4_
          have HO303 := n0_
          have HO306 := n1_
          have BK299 := n2_
          have BK300 := n3_
          have HB := n4_
          clear n0_ n1_ n2_ n3_ n4_
          have hHeld : w10.cell? ⟨gb299, 0, none⟩ = some (.slice A0_0 l0_0.length c0_0) ∧ w10.cell? ⟨gb299, 1, none⟩ = some (.slice A0_1 l0_1.length c0_1) ∧ w10.cell? ⟨gb300, 0, none⟩ = some (.slice A1_0 l1_0.length c1_0) ∧ w10.cell? ⟨gb300, 1, none⟩ = some (.slice A1_1 l1_1.length c1_1) := hS_
          refine norm_ (a' := ?_) ?_ ?_
          rotate_left
          ·
           simp only [putAll, Act.put, y0]
           rfl
          refine three_ (i := 3) (j := 4) (k := 5) (Ni := some 15) (Nj := some 7) (Nk := some 8) #[i_, i_, i_, i_, o_, o_, o_, o_] #[i_, i_, i_, o_, i_, o_, o_, o_] #[i_, i_, i_, o_, o_, i_, o_, o_] rfl rfl rfl rfl rfl rfl (three_of HT_.out (by kernel_rfl)) (by decide) (by decide) (by decide) (fun K hK => ?_) (fun K hK => ?_) (fun K hK => ?_)
          ·
           skip
           refine goes_ Try.func24 (by kernel_rfl) rfl #[.agg #[.slice A1_0 l1_0.length c1_0, .slice A1_1 l1_1.length c1_1]] (by rfl) rfl rfl y6 ?_
           with_reducible refine (heraldlaw15_words.calls k _ _ l1_0 _ _ l1_1 t307 t310 _ ?side1 ?side2 ?side3 ?side4 A5.out).mono ?_
           (case side1 => exact y9 HR1_0)
           (case side2 => exact HC1_0.out)
           (case side3 => exact y9 HR1_1)
           (case side4 => exact HC1_1.out)
           rintro e w11 ⟨v308, v311, rfl, ho0, ho1, hb⟩
           refine ⟨_, rfl, ?_⟩
           have n0_ := ym (yp (by (with_reducible repeat apply y2); exact HO303.out) hb)
           have n1_ := ym (yp (by (with_reducible repeat apply y2); exact HO306.out) hb)
           have n2_ := ym (yo ho0 (below_size yb))
           have n3_ := ym (yo ho1 (below_size yb))
           have n4_ := ym (yq (g := gb299) (o := .cells #[.slice A0_0 l0_0.length c0_0, .slice A0_1 l0_1.length c0_1] 25 (0, 0)) (yc BK299) hb)
           have n5_ := ym (yq (g := gb300) (o := .cells #[.slice A1_0 l1_0.length c1_0, .slice A1_1 l1_1.length c1_1] 52 (0, 0)) (yc BK300) hb)
           have n6_ := ym (yn yb hb)
           clear HO303
           clear HO306
           clear BK299
           clear BK300
           clear HB
           have HO303 := n0_
           have HO306 := n1_
           have HO309 := n2_
           have HO312 := n3_
           have BK299 := n4_
           have BK300 := n5_
           have HB := n6_
           clear n0_ n1_ n2_ n3_ n4_ n5_ n6_
           (try clear hb)
           (try clear hb2)
           (try clear hk)
           (try clear hi)
           (try clear ho0)
           (try clear ho1)
           refine hK.out _ _ ⟨(yw BK299.out 0).trans rfl, (yw BK299.out 1).trans rfl, (yw BK300.out 0).trans rfl, (yw BK300.out 1).trans rfl⟩ (fun hHeld => ?_)
           clear hK K
           refine norm_ (a' := ?_) ?_ ?_
           rotate_left
           ·
            show Act.put _ (some 15) _ = _
            simp only [Act.put, y0, y1]
            rfl
           exact norm_ (by first | (simp only [putAll, Act.put, y0]; done) | (simp only [putAll, Act.put, y0]; rfl)) (hJ1_3 (v302, v305, v308, v311) _ ⟨hHeld, (by (with_reducible repeat apply y2); exact HO303.out), (by (with_reducible repeat apply y2); exact HO306.out), (by (with_reducible repeat apply y2); exact HO309.out), (by (with_reducible repeat apply y2); exact HO312.out), (yc BK299), (yc BK300), yb⟩)
          ·
           skip
           refine box_step ?hg (N := 7) ?hd (cs := #[.slice none 0 0, .slice none 0 0]) (t := 28) ?hr ?_; (case hd => rfl); (case hg => rfl); (case hr => first | (go_simp; done) | (go_simp; rfl))
           intro gb313 hg w11 hbox hb
           have n0_ := ym (yp (by (with_reducible repeat apply y2); exact HO303.out) hb)
           have n1_ := ym (yp (by (with_reducible repeat apply y2); exact HO306.out) hb)
           have n2_ := ym (yq (g := gb299) (o := .cells #[.slice A0_0 l0_0.length c0_0, .slice A0_1 l0_1.length c0_1] 25 (0, 0)) (yc BK299) hb)
           have n3_ := ym (yq (g := gb300) (o := .cells #[.slice A1_0 l1_0.length c1_0, .slice A1_1 l1_1.length c1_1] 52 (0, 0)) (yc BK300) hb)
           have n4_ := ym (yn yb hb)
           have n5_ := ym (hbox)
           have n6_ := ym ((by rw [hg]; exact (below_size yb) : w.heap.size ≤ gb313))
           have n7_ := ym ((by rw [hg]; exact (below_size yb) : w.heap.size ≤ gb313))
           have n8_ := ym ((by rw [hg]; exact Nat.ne_of_lt (blk_lt (g := gb299) (o := .cells #[.slice A0_0 l0_0.length c0_0, .slice A0_1 l0_1.length c0_1] 25 (0, 0)) (yc BK299)) : gb299 ≠ gb313))
           have n9_ := ym ((by rw [hg]; exact Nat.ne_of_gt (blk_lt (g := gb299) (o := .cells #[.slice A0_0 l0_0.length c0_0, .slice A0_1 l0_1.length c0_1] 25 (0, 0)) (yc BK299)) : gb313 ≠ gb299))
           have n10_ := ym ((by rw [hg]; exact Nat.ne_of_lt (blk_lt (g := gb300) (o := .cells #[.slice A1_0 l1_0.length c1_0, .slice A1_1 l1_1.length c1_1] 52 (0, 0)) (yc BK300)) : gb300 ≠ gb313))
           have n11_ := ym ((by rw [hg]; exact Nat.ne_of_gt (blk_lt (g := gb300) (o := .cells #[.slice A1_0 l1_0.length c1_0, .slice A1_1 l1_1.length c1_1] 52 (0, 0)) (yc BK300)) : gb313 ≠ gb300))
           clear HO303
           clear HO306
           clear BK299
           clear BK300
           clear HB
           have HO303 := n0_
           have HO306 := n1_
           have BK299 := n2_
           have BK300 := n3_
           have HB := n4_
           have BK313 := n5_
           have GW313 := n6_
           have GE313 := n7_
           have NB299_313 := n8_
           have NB313_299 := n9_
           have NB300_313 := n10_
           have NB313_300 := n11_
           clear n0_ n1_ n2_ n3_ n4_ n5_ n6_ n7_ n8_ n9_ n10_ n11_
           clear hb hbox hg
           refine hK.out _ _ ⟨(yw BK299.out 0).trans rfl, (yw BK299.out 1).trans rfl, (yw BK300.out 0).trans rfl, (yw BK300.out 1).trans rfl⟩ (fun hHeld => ?_)
           clear hK K
           refine norm_ (a' := ?_) ?_ ?_
           rotate_left
           ·
            show Act.put _ (some 7) _ = _
            simp only [Act.put, y0, y1]
            rfl
           exact norm_ (by first | (simp only [putAll, Act.put, y0]; done) | (simp only [putAll, Act.put, y0]; rfl)) (hJ1_4 (v302, v305, gb313) _ ⟨hHeld, (by (with_reducible repeat apply y2); exact HO303.out), (by (with_reducible repeat apply y2); exact HO306.out), (yc BK299), (yc BK300), (yc BK313), GW313.out, GE313.out, NB299_313.out, NB313_299.out, NB300_313.out, NB313_300.out, yb⟩)
          ·
           skip
           refine box_step ?hg (N := 8) ?hd (cs := #[.slice none 0 0, .slice none 0 0]) (t := 56) ?hr ?_; (case hd => rfl); (case hg => rfl); (case hr => first | (go_simp; done) | (go_simp; rfl))
           intro gb314 hg w11 hbox hb
           have n0_ := ym (yp (by (with_reducible repeat apply y2); exact HO303.out) hb)
           have n1_ := ym (yp (by (with_reducible repeat apply y2); exact HO306.out) hb)
           have n2_ := ym (yq (g := gb299) (o := .cells #[.slice A0_0 l0_0.length c0_0, .slice A0_1 l0_1.length c0_1] 25 (0, 0)) (yc BK299) hb)
           have n3_ := ym (yq (g := gb300) (o := .cells #[.slice A1_0 l1_0.length c1_0, .slice A1_1 l1_1.length c1_1] 52 (0, 0)) (yc BK300) hb)
           have n4_ := ym (yn yb hb)
           have n5_ := ym (hbox)
           have n6_ := ym ((by rw [hg]; exact (below_size yb) : w.heap.size ≤ gb314))
           have n7_ := ym ((by rw [hg]; exact (below_size yb) : w.heap.size ≤ gb314))
           have n8_ := ym ((by rw [hg]; exact Nat.ne_of_lt (blk_lt (g := gb299) (o := .cells #[.slice A0_0 l0_0.length c0_0, .slice A0_1 l0_1.length c0_1] 25 (0, 0)) (yc BK299)) : gb299 ≠ gb314))
           have n9_ := ym ((by rw [hg]; exact Nat.ne_of_gt (blk_lt (g := gb299) (o := .cells #[.slice A0_0 l0_0.length c0_0, .slice A0_1 l0_1.length c0_1] 25 (0, 0)) (yc BK299)) : gb314 ≠ gb299))
           have n10_ := ym ((by rw [hg]; exact Nat.ne_of_lt (blk_lt (g := gb300) (o := .cells #[.slice A1_0 l1_0.length c1_0, .slice A1_1 l1_1.length c1_1] 52 (0, 0)) (yc BK300)) : gb300 ≠ gb314))
           have n11_ := ym ((by rw [hg]; exact Nat.ne_of_gt (blk_lt (g := gb300) (o := .cells #[.slice A1_0 l1_0.length c1_0, .slice A1_1 l1_1.length c1_1] 52 (0, 0)) (yc BK300)) : gb314 ≠ gb300))
           clear HO303
           clear HO306
           clear BK299
           clear BK300
           clear HB
           have HO303 := n0_
           have HO306 := n1_
           have BK299 := n2_
           have BK300 := n3_
           have HB := n4_
           have BK314 := n5_
           have GW314 := n6_
           have GE314 := n7_
           have NB299_314 := n8_
           have NB314_299 := n9_
           have NB300_314 := n10_
           have NB314_300 := n11_
           clear n0_ n1_ n2_ n3_ n4_ n5_ n6_ n7_ n8_ n9_ n10_ n11_
           clear hb hbox hg
           refine hK.out _ _ ⟨(yw BK299.out 0).trans rfl, (yw BK299.out 1).trans rfl, (yw BK300.out 0).trans rfl, (yw BK300.out 1).trans rfl⟩ (fun hHeld => ?_)
           clear hK K
           refine norm_ (a' := ?_) ?_ ?_
           rotate_left
           ·
            show Act.put _ (some 8) _ = _
            simp only [Act.put, y0, y1]
            rfl
           exact norm_ (by first | (simp only [putAll, Act.put, y0]; done) | (simp only [putAll, Act.put, y0]; rfl)) (hJ1_5 (v302, v305, gb314) _ ⟨hHeld, (by (with_reducible repeat apply y2); exact HO303.out), (by (with_reducible repeat apply y2); exact HO306.out), (yc BK299), (yc BK300), (yc BK314), GW314.out, GE314.out, NB299_314.out, NB314_299.out, NB300_314.out, NB314_300.out, yb⟩)
        ·
         skip
         rintro ⟨gb313, gb314⟩ w11 ⟨hS_, h0_, h1_, h2_, h3_, h4_, h5_, h6_, h7_, h8_, h9_, h10_, h11_, h12_, h13_, h14_, h15_, h16_, h17_, h18_⟩
         have n0_ : Aside0 (w11.heap[gb299]? = some (.cells #[.slice A0_0 l0_0.length c0_0, .slice A0_1 l0_1.length c0_1] 25 (0, 0))) := ⟨h0_⟩
         have n1_ : Aside0 (w11.heap[gb300]? = some (.cells #[.slice A1_0 l1_0.length c1_0, .slice A1_1 l1_1.length c1_1] 52 (0, 0))) := ⟨h1_⟩
         have n2_ : Aside0 (w11.heap[gb313]? = some (.cells #[.slice none 0 0, .slice none 0 0] 28 (0, 0))) := ⟨h2_⟩
         have n3_ : Aside0 (w11.heap[gb314]? = some (.cells #[.slice none 0 0, .slice none 0 0] 56 (0, 0))) := ⟨h3_⟩
         have n4_ : Aside0 (w.heap.size ≤ gb313) := ⟨h4_⟩
         have n5_ : Aside0 (w.heap.size ≤ gb313) := ⟨h5_⟩
         have n6_ : Aside0 (gb299 ≠ gb313) := ⟨h6_⟩
         have n7_ : Aside0 (gb313 ≠ gb299) := ⟨h7_⟩
         have n8_ : Aside0 (gb300 ≠ gb313) := ⟨h8_⟩
         have n9_ : Aside0 (gb313 ≠ gb300) := ⟨h9_⟩
         have n10_ : Aside0 (gb314 ≠ gb313) := ⟨h10_⟩
         have n11_ : Aside0 (gb313 ≠ gb314) := ⟨h11_⟩
         have n12_ : Aside0 (w.heap.size ≤ gb314) := ⟨h12_⟩
         have n13_ : Aside0 (w.heap.size ≤ gb314) := ⟨h13_⟩
         have n14_ : Aside0 (gb299 ≠ gb314) := ⟨h14_⟩
         have n15_ : Aside0 (gb314 ≠ gb299) := ⟨h15_⟩
         have n16_ : Aside0 (gb300 ≠ gb314) := ⟨h16_⟩
         have n17_ : Aside0 (gb314 ≠ gb300) := ⟨h17_⟩
         have n18_ : Aside0 (Below w.heap.size w w11) := ⟨h18_⟩
         clear BK299
         clear BK300
         clear HB
         clear h0_ h1_ h2_ h3_ h4_ h5_ h6_ h7_ h8_ h9_ h10_ h11_ h12_ h13_ h14_ h15_ h16_ h17_ h18_
         have BK299 := n0_
         have BK300 := n1_
         have BK313 := n2_
         have BK314 := n3_
         have GW313 := n4_
         have GE313 := n5_
         have NB299_313 := n6_
         have NB313_299 := n7_
         have NB300_313 := n8_
         have NB313_300 := n9_
         have NB314_313 := n10_
         have NB313_314 := n11_
         have GW314 := n12_
         have GE314 := n13_
         have NB299_314 := n14_
         have NB314_299 := n15_
         have NB300_314 := n16_
         have NB314_300 := n17_
         have HB := n18_
         clear n0_ n1_ n2_ n3_ n4_ n5_ n6_ n7_ n8_ n9_ n10_ n11_ n12_ n13_ n14_ n15_ n16_ n17_ n18_
         have hHeld : w11.cell? ⟨gb299, 0, none⟩ = some (.slice A0_0 l0_0.length c0_0) ∧ w11.cell? ⟨gb299, 1, none⟩ = some (.slice A0_1 l0_1.length c0_1) ∧ w11.cell? ⟨gb300, 0, none⟩ = some (.slice A1_0 l1_0.length c1_0) ∧ w11.cell? ⟨gb300, 1, none⟩ = some (.slice A1_1 l1_1.length c1_1) := hS_
         refine norm_ (a' := ?_) ?_ ?_
         rotate_left
         ·
          simp only [putAll, Act.put, y0]
          rfl
         refine one_ (i := 1) (N := some 13) #[i_, i_, i_, o_, i_, i_, o_, o_] rfl rfl (one_of HT_.out (by kernel_rfl)) (by decide) (fun K hK => ?_)
         refine goes_ Try.func13 (by kernel_rfl) rfl #[.agg #[.slice A0_0 l0_0.length c0_0, .slice A0_1 l0_1.length c0_1]] (by rfl) rfl rfl y6 ?_
         with_reducible refine (heraldlaw15_given.calls k _ _ l0_0 _ _ l0_1 t301 t304 _ ?side1 ?side2 ?side3 ?side4 A4.out).mono ?_
         (case side1 => exact y9 HR0_0)
         (case side2 => exact HC0_0.out)
         (case side3 => exact y9 HR0_1)
         (case side4 => exact HC0_1.out)
         rintro e w12 ⟨v302, v305, rfl, ho0, ho1, hb⟩
         refine ⟨_, rfl, ?_⟩
         have n0_ := ym (yo ho0 (below_size yb))
         have n1_ := ym (yo ho1 (below_size yb))
         have n2_ := ym (yq (g := gb299) (o := .cells #[.slice A0_0 l0_0.length c0_0, .slice A0_1 l0_1.length c0_1] 25 (0, 0)) (yc BK299) hb)
         have n3_ := ym (yq (g := gb300) (o := .cells #[.slice A1_0 l1_0.length c1_0, .slice A1_1 l1_1.length c1_1] 52 (0, 0)) (yc BK300) hb)
         have n4_ := ym (yq (g := gb313) (o := .cells #[.slice none 0 0, .slice none 0 0] 28 (0, 0)) (yc BK313) hb)
         have n5_ := ym (yq (g := gb314) (o := .cells #[.slice none 0 0, .slice none 0 0] 56 (0, 0)) (yc BK314) hb)
         have n6_ := ym (yn yb hb)
         clear BK299
         clear BK300
         clear BK313
         clear BK314
         clear HB
         have HO303 := n0_
         have HO306 := n1_
         have BK299 := n2_
         have BK300 := n3_
         have BK313 := n4_
         have BK314 := n5_
         have HB := n6_
         clear n0_ n1_ n2_ n3_ n4_ n5_ n6_
         (try clear hb)
         (try clear hb2)
         (try clear hk)
         (try clear hi)
         (try clear ho0)
         (try clear ho1)
         refine hK.out _ _ ⟨(yw BK299.out 0).trans rfl, (yw BK299.out 1).trans rfl, (yw BK300.out 0).trans rfl, (yw BK300.out 1).trans rfl⟩ (fun hHeld => ?_)
         clear hK K
         refine norm_ (a' := ?_) ?_ ?_
         rotate_left
         ·
          show Act.put _ (some 13) _ = _
          simp only [Act.put, y0, y1]
          rfl
         exact norm_ (by first | (simp only [putAll, Act.put, y0]; done) | (simp only [putAll, Act.put, y0]; rfl)) (hJ1_4_5 (v302, v305, gb313, gb314) _ ⟨hHeld, (by (with_reducible repeat apply y2); exact HO303.out), (by (with_reducible repeat apply y2); exact HO306.out), (yc BK299), (yc BK300), (yc BK313), (yc BK314), GW313.out, GE313.out, NB299_313.out, NB313_299.out, NB300_313.out, NB313_300.out, NB314_313.out, NB313_314.out, GW314.out, GE314.out, NB299_314.out, NB314_299.out, NB300_314.out, NB314_300.out, yb⟩)
       ·
        skip
        rintro ⟨v302, v305, gb314⟩ w11 ⟨hS_, h0_, h1_, h2_, h3_, h4_, h5_, h6_, h7_, h8_, h9_, h10_, h11_⟩
        have n0_ : Aside0 (Kd.R Kd.bool 4 w11 w.heap.size (fun _ => True) v302 t301) := ⟨h0_⟩
        have n1_ : Aside0 (Kd.R k93 93 w11 w.heap.size (fun _ => True) v305 t304) := ⟨h1_⟩
        have n2_ : Aside0 (w11.heap[gb299]? = some (.cells #[.slice A0_0 l0_0.length c0_0, .slice A0_1 l0_1.length c0_1] 25 (0, 0))) := ⟨h2_⟩
        have n3_ : Aside0 (w11.heap[gb300]? = some (.cells #[.slice A1_0 l1_0.length c1_0, .slice A1_1 l1_1.length c1_1] 52 (0, 0))) := ⟨h3_⟩
        have n4_ : Aside0 (w11.heap[gb314]? = some (.cells #[.slice none 0 0, .slice none 0 0] 56 (0, 0))) := ⟨h4_⟩
        have n5_ : Aside0 (w.heap.size ≤ gb314) := ⟨h5_⟩
        have n6_ : Aside0 (w.heap.size ≤ gb314) := ⟨h6_⟩
        have n7_ : Aside0 (gb299 ≠ gb314) := ⟨h7_⟩
        have n8_ : Aside0 (gb314 ≠ gb299) := ⟨h8_⟩
        have n9_ : Aside0 (gb300 ≠ gb314) := ⟨h9_⟩
        have n10_ : Aside0 (gb314 ≠ gb300) := ⟨h10_⟩
        have n11_ : Aside0 (Below w.heap.size w w11) := ⟨h11_⟩
        clear BK299
        clear BK300
        clear HB
        clear h0_ h1_ h2_ h3_ h4_ h5_ h6_ h7_ h8_ h9_ h10_ h11_
        have HO303 := n0_
        have HO306 := n1_
        have BK299 := n2_
        have BK300 := n3_
        have BK314 := n4_
        have GW314 := n5_
        have GE314 := n6_
        have NB299_314 := n7_
        have NB314_299 := n8_
        have NB300_314 := n9_
        have NB314_300 := n10_
        have HB := n11_
        clear n0_ n1_ n2_ n3_ n4_ n5_ n6_ n7_ n8_ n9_ n10_ n11_
        have hHeld : w11.cell? ⟨gb299, 0, none⟩ = some (.slice A0_0 l0_0.length c0_0) ∧ w11.cell? ⟨gb299, 1, none⟩ = some (.slice A0_1 l0_1.length c0_1) ∧ w11.cell? ⟨gb300, 0, none⟩ = some (.slice A1_0 l1_0.length c1_0) ∧ w11.cell? ⟨gb300, 1, none⟩ = some (.slice A1_1 l1_1.length c1_1) := hS_
        refine norm_ (a' := ?_) ?_ ?_
        rotate_left
        ·
         simp only [putAll, Act.put, y0]
         rfl
        refine two_ (i := 3) (j := 4) (Ni := some 15) (Nj := some 7) #[i_, i_, i_, i_, o_, i_, o_, o_] #[i_, i_, i_, o_, i_, i_, o_, o_] rfl rfl rfl rfl (two_of HT_.out (by kernel_rfl)) (by decide) (by decide) (fun K hK => ?_) (fun K hK => ?_)
        ·
         skip
         refine goes_ Try.func24 (by kernel_rfl) rfl #[.agg #[.slice A1_0 l1_0.length c1_0, .slice A1_1 l1_1.length c1_1]] (by rfl) rfl rfl y6 ?_
         with_reducible refine (heraldlaw15_words.calls k _ _ l1_0 _ _ l1_1 t307 t310 _ ?side1 ?side2 ?side3 ?side4 A5.out).mono ?_
         (case side1 => exact y9 HR1_0)
         (case side2 => exact HC1_0.out)
         (case side3 => exact y9 HR1_1)
         (case side4 => exact HC1_1.out)
         rintro e w12 ⟨v308, v311, rfl, ho0, ho1, hb⟩
         refine ⟨_, rfl, ?_⟩
         have n0_ := ym (yp (by (with_reducible repeat apply y2); exact HO303.out) hb)
         have n1_ := ym (yp (by (with_reducible repeat apply y2); exact HO306.out) hb)
         have n2_ := ym (yo ho0 (below_size yb))
         have n3_ := ym (yo ho1 (below_size yb))
         have n4_ := ym (yq (g := gb299) (o := .cells #[.slice A0_0 l0_0.length c0_0, .slice A0_1 l0_1.length c0_1] 25 (0, 0)) (yc BK299) hb)
         have n5_ := ym (yq (g := gb300) (o := .cells #[.slice A1_0 l1_0.length c1_0, .slice A1_1 l1_1.length c1_1] 52 (0, 0)) (yc BK300) hb)
         have n6_ := ym (yq (g := gb314) (o := .cells #[.slice none 0 0, .slice none 0 0] 56 (0, 0)) (yc BK314) hb)
         have n7_ := ym (yn yb hb)
         clear HO303
         clear HO306
         clear BK299
         clear BK300
         clear BK314
         clear HB
         have HO303 := n0_
         have HO306 := n1_
         have HO309 := n2_
         have HO312 := n3_
         have BK299 := n4_
         have BK300 := n5_
         have BK314 := n6_
         have HB := n7_
         clear n0_ n1_ n2_ n3_ n4_ n5_ n6_ n7_
         (try clear hb)
         (try clear hb2)
         (try clear hk)
         (try clear hi)
         (try clear ho0)
         (try clear ho1)
         refine hK.out _ _ ⟨(yw BK299.out 0).trans rfl, (yw BK299.out 1).trans rfl, (yw BK300.out 0).trans rfl, (yw BK300.out 1).trans rfl⟩ (fun hHeld => ?_)
         clear hK K
         refine norm_ (a' := ?_) ?_ ?_
         rotate_left
         ·
          show Act.put _ (some 15) _ = _
          simp only [Act.put, y0, y1]
          rfl
         exact norm_ (by first | (simp only [putAll, Act.put, y0]; done) | (simp only [putAll, Act.put, y0]; rfl)) (hJ1_3_5 (v302, v305, v308, v311, gb314) _ ⟨hHeld, (by (with_reducible repeat apply y2); exact HO303.out), (by (with_reducible repeat apply y2); exact HO306.out), (by (with_reducible repeat apply y2); exact HO309.out), (by (with_reducible repeat apply y2); exact HO312.out), (yc BK299), (yc BK300), (yc BK314), GW314.out, GE314.out, NB299_314.out, NB314_299.out, NB300_314.out, NB314_300.out, yb⟩)
        ·
         skip
         refine box_step ?hg (N := 7) ?hd (cs := #[.slice none 0 0, .slice none 0 0]) (t := 28) ?hr ?_; (case hd => rfl); (case hg => rfl); (case hr => first | (go_simp; done) | (go_simp; rfl))
         intro gb313 hg w12 hbox hb
         have n0_ := ym (yp (by (with_reducible repeat apply y2); exact HO303.out) hb)
         have n1_ := ym (yp (by (with_reducible repeat apply y2); exact HO306.out) hb)
         have n2_ := ym (yq (g := gb299) (o := .cells #[.slice A0_0 l0_0.length c0_0, .slice A0_1 l0_1.length c0_1] 25 (0, 0)) (yc BK299) hb)
         have n3_ := ym (yq (g := gb300) (o := .cells #[.slice A1_0 l1_0.length c1_0, .slice A1_1 l1_1.length c1_1] 52 (0, 0)) (yc BK300) hb)
         have n4_ := ym (yq (g := gb314) (o := .cells #[.slice none 0 0, .slice none 0 0] 56 (0, 0)) (yc BK314) hb)
         have n5_ := ym (yn yb hb)
         have n6_ := ym (hbox)
         have n7_ := ym ((by rw [hg]; exact (below_size yb) : w.heap.size ≤ gb313))
         have n8_ := ym ((by rw [hg]; exact (below_size yb) : w.heap.size ≤ gb313))
         have n9_ := ym ((by rw [hg]; exact Nat.ne_of_lt (blk_lt (g := gb299) (o := .cells #[.slice A0_0 l0_0.length c0_0, .slice A0_1 l0_1.length c0_1] 25 (0, 0)) (yc BK299)) : gb299 ≠ gb313))
         have n10_ := ym ((by rw [hg]; exact Nat.ne_of_gt (blk_lt (g := gb299) (o := .cells #[.slice A0_0 l0_0.length c0_0, .slice A0_1 l0_1.length c0_1] 25 (0, 0)) (yc BK299)) : gb313 ≠ gb299))
         have n11_ := ym ((by rw [hg]; exact Nat.ne_of_lt (blk_lt (g := gb300) (o := .cells #[.slice A1_0 l1_0.length c1_0, .slice A1_1 l1_1.length c1_1] 52 (0, 0)) (yc BK300)) : gb300 ≠ gb313))
         have n12_ := ym ((by rw [hg]; exact Nat.ne_of_gt (blk_lt (g := gb300) (o := .cells #[.slice A1_0 l1_0.length c1_0, .slice A1_1 l1_1.length c1_1] 52 (0, 0)) (yc BK300)) : gb313 ≠ gb300))
         have n13_ := ym ((by rw [hg]; exact Nat.ne_of_lt (blk_lt (g := gb314) (o := .cells #[.slice none 0 0, .slice none 0 0] 56 (0, 0)) (yc BK314)) : gb314 ≠ gb313))
         have n14_ := ym ((by rw [hg]; exact Nat.ne_of_gt (blk_lt (g := gb314) (o := .cells #[.slice none 0 0, .slice none 0 0] 56 (0, 0)) (yc BK314)) : gb313 ≠ gb314))
         clear HO303
         clear HO306
         clear BK299
         clear BK300
         clear BK314
         clear HB
         have HO303 := n0_
         have HO306 := n1_
         have BK299 := n2_
         have BK300 := n3_
         have BK314 := n4_
         have HB := n5_
         have BK313 := n6_
         have GW313 := n7_
         have GE313 := n8_
         have NB299_313 := n9_
         have NB313_299 := n10_
         have NB300_313 := n11_
         have NB313_300 := n12_
         have NB314_313 := n13_
         have NB313_314 := n14_
         clear n0_ n1_ n2_ n3_ n4_ n5_ n6_ n7_ n8_ n9_ n10_ n11_ n12_ n13_ n14_
         clear hb hbox hg
         refine hK.out _ _ ⟨(yw BK299.out 0).trans rfl, (yw BK299.out 1).trans rfl, (yw BK300.out 0).trans rfl, (yw BK300.out 1).trans rfl⟩ (fun hHeld => ?_)
         clear hK K
         refine norm_ (a' := ?_) ?_ ?_
         rotate_left
         ·
          show Act.put _ (some 7) _ = _
          simp only [Act.put, y0, y1]
          rfl
         exact norm_ (by first | (simp only [putAll, Act.put, y0]; done) | (simp only [putAll, Act.put, y0]; rfl)) (hJ1_4_5 (v302, v305, gb313, gb314) _ ⟨hHeld, (by (with_reducible repeat apply y2); exact HO303.out), (by (with_reducible repeat apply y2); exact HO306.out), (yc BK299), (yc BK300), (yc BK313), (yc BK314), GW313.out, GE313.out, NB299_313.out, NB313_299.out, NB300_313.out, NB313_300.out, NB314_313.out, NB313_314.out, GW314.out, GE314.out, NB299_314.out, NB314_299.out, NB300_314.out, NB314_300.out, yb⟩)
      ·
       skip
       rintro ⟨v302, v305, gb313⟩ w11 ⟨hS_, h0_, h1_, h2_, h3_, h4_, h5_, h6_, h7_, h8_, h9_, h10_, h11_⟩
       have n0_ : Aside0 (Kd.R Kd.bool 4 w11 w.heap.size (fun _ => True) v302 t301) := ⟨h0_⟩
       have n1_ : Aside0 (Kd.R k93 93 w11 w.heap.size (fun _ => True) v305 t304) := ⟨h1_⟩
       have n2_ : Aside0 (w11.heap[gb299]? = some (.cells #[.slice A0_0 l0_0.length c0_0, .slice A0_1 l0_1.length c0_1] 25 (0, 0))) := ⟨h2_⟩
       have n3_ : Aside0 (w11.heap[gb300]? = some (.cells #[.slice A1_0 l1_0.length c1_0, .slice A1_1 l1_1.length c1_1] 52 (0, 0))) := ⟨h3_⟩
       have n4_ : Aside0 (w11.heap[gb313]? = some (.cells #[.slice none 0 0, .slice none 0 0] 28 (0, 0))) := ⟨h4_⟩
       have n5_ : Aside0 (w.heap.size ≤ gb313) := ⟨h5_⟩
       have n6_ : Aside0 (w.heap.size ≤ gb313) := ⟨h6_⟩
       have n7_ : Aside0 (gb299 ≠ gb313) := ⟨h7_⟩
       have n8_ : Aside0 (gb313 ≠ gb299) := ⟨h8_⟩
       have n9_ : Aside0 (gb300 ≠ gb313) := ⟨h9_⟩
       have n10_ : Aside0 (gb313 ≠ gb300) := ⟨h10_⟩
       have n11_ : Aside0 (Below w.heap.size w w11) := ⟨h11_⟩
       clear BK299
       clear BK300
       clear HB
       clear h0_ h1_ h2_ h3_ h4_ h5_ h6_ h7_ h8_ h9_ h10_ h11_
       have HO303 := n0_
       have HO306 := n1_
       have BK299 := n2_
       have BK300 := n3_
       have BK313 := n4_
       have GW313 := n5_
       have GE313 := n6_
       have NB299_313 := n7_
       have NB313_299 := n8_
       have NB300_313 := n9_
       have NB313_300 := n10_
       have HB := n11_
       clear n0_ n1_ n2_ n3_ n4_ n5_ n6_ n7_ n8_ n9_ n10_ n11_
       have hHeld : w11.cell? ⟨gb299, 0, none⟩ = some (.slice A0_0 l0_0.length c0_0) ∧ w11.cell? ⟨gb299, 1, none⟩ = some (.slice A0_1 l0_1.length c0_1) ∧ w11.cell? ⟨gb300, 0, none⟩ = some (.slice A1_0 l1_0.length c1_0) ∧ w11.cell? ⟨gb300, 1, none⟩ = some (.slice A1_1 l1_1.length c1_1) := hS_
       refine norm_ (a' := ?_) ?_ ?_
       rotate_left
       ·
        simp only [putAll, Act.put, y0]
        rfl
       refine two_ (i := 3) (j := 5) (Ni := some 15) (Nj := some 8) #[i_, i_, i_, i_, i_, o_, o_, o_] #[i_, i_, i_, o_, i_, i_, o_, o_] rfl rfl rfl rfl (two_of HT_.out (by kernel_rfl)) (by decide) (by decide) (fun K hK => ?_) (fun K hK => ?_)
       ·
        skip
        refine goes_ Try.func24 (by kernel_rfl) rfl #[.agg #[.slice A1_0 l1_0.length c1_0, .slice A1_1 l1_1.length c1_1]] (by rfl) rfl rfl y6 ?_
        with_reducible refine (heraldlaw15_words.calls k _ _ l1_0 _ _ l1_1 t307 t310 _ ?side1 ?side2 ?side3 ?side4 A5.out).mono ?_
        (case side1 => exact y9 HR1_0)
        (case side2 => exact HC1_0.out)
        (case side3 => exact y9 HR1_1)
        (case side4 => exact HC1_1.out)
        rintro e w12 ⟨v308, v311, rfl, ho0, ho1, hb⟩
        refine ⟨_, rfl, ?_⟩
        have n0_ := ym (yp (by (with_reducible repeat apply y2); exact HO303.out) hb)
        have n1_ := ym (yp (by (with_reducible repeat apply y2); exact HO306.out) hb)
        have n2_ := ym (yo ho0 (below_size yb))
        have n3_ := ym (yo ho1 (below_size yb))
        have n4_ := ym (yq (g := gb299) (o := .cells #[.slice A0_0 l0_0.length c0_0, .slice A0_1 l0_1.length c0_1] 25 (0, 0)) (yc BK299) hb)
        have n5_ := ym (yq (g := gb300) (o := .cells #[.slice A1_0 l1_0.length c1_0, .slice A1_1 l1_1.length c1_1] 52 (0, 0)) (yc BK300) hb)
        have n6_ := ym (yq (g := gb313) (o := .cells #[.slice none 0 0, .slice none 0 0] 28 (0, 0)) (yc BK313) hb)
        have n7_ := ym (yn yb hb)
        clear HO303
        clear HO306
        clear BK299
        clear BK300
        clear BK313
        clear HB
        have HO303 := n0_
        have HO306 := n1_
        have HO309 := n2_
        have HO312 := n3_
        have BK299 := n4_
        have BK300 := n5_
        have BK313 := n6_
        have HB := n7_
        clear n0_ n1_ n2_ n3_ n4_ n5_ n6_ n7_
        (try clear hb)
        (try clear hb2)
        (try clear hk)
        (try clear hi)
        (try clear ho0)
        (try clear ho1)
        refine hK.out _ _ ⟨(yw BK299.out 0).trans rfl, (yw BK299.out 1).trans rfl, (yw BK300.out 0).trans rfl, (yw BK300.out 1).trans rfl⟩ (fun hHeld => ?_)
        clear hK K
        refine norm_ (a' := ?_) ?_ ?_
        rotate_left
        ·
         show Act.put _ (some 15) _ = _
         simp only [Act.put, y0, y1]
         rfl
        exact norm_ (by first | (simp only [putAll, Act.put, y0]; done) | (simp only [putAll, Act.put, y0]; rfl)) (hJ1_3_4 (v302, v305, v308, v311, gb313) _ ⟨hHeld, (by (with_reducible repeat apply y2); exact HO303.out), (by (with_reducible repeat apply y2); exact HO306.out), (by (with_reducible repeat apply y2); exact HO309.out), (by (with_reducible repeat apply y2); exact HO312.out), (yc BK299), (yc BK300), (yc BK313), GW313.out, GE313.out, NB299_313.out, NB313_299.out, NB300_313.out, NB313_300.out, yb⟩)
       ·
        skip
        refine box_step ?hg (N := 8) ?hd (cs := #[.slice none 0 0, .slice none 0 0]) (t := 56) ?hr ?_; (case hd => rfl); (case hg => rfl); (case hr => first | (go_simp; done) | (go_simp; rfl))
        intro gb314 hg w12 hbox hb
        have n0_ := ym (yp (by (with_reducible repeat apply y2); exact HO303.out) hb)
        have n1_ := ym (yp (by (with_reducible repeat apply y2); exact HO306.out) hb)
        have n2_ := ym (yq (g := gb299) (o := .cells #[.slice A0_0 l0_0.length c0_0, .slice A0_1 l0_1.length c0_1] 25 (0, 0)) (yc BK299) hb)
        have n3_ := ym (yq (g := gb300) (o := .cells #[.slice A1_0 l1_0.length c1_0, .slice A1_1 l1_1.length c1_1] 52 (0, 0)) (yc BK300) hb)
        have n4_ := ym (yq (g := gb313) (o := .cells #[.slice none 0 0, .slice none 0 0] 28 (0, 0)) (yc BK313) hb)
        have n5_ := ym (yn yb hb)
        have n6_ := ym (hbox)
        have n7_ := ym ((by rw [hg]; exact (below_size yb) : w.heap.size ≤ gb314))
        have n8_ := ym ((by rw [hg]; exact (below_size yb) : w.heap.size ≤ gb314))
        have n9_ := ym ((by rw [hg]; exact Nat.ne_of_lt (blk_lt (g := gb299) (o := .cells #[.slice A0_0 l0_0.length c0_0, .slice A0_1 l0_1.length c0_1] 25 (0, 0)) (yc BK299)) : gb299 ≠ gb314))
        have n10_ := ym ((by rw [hg]; exact Nat.ne_of_gt (blk_lt (g := gb299) (o := .cells #[.slice A0_0 l0_0.length c0_0, .slice A0_1 l0_1.length c0_1] 25 (0, 0)) (yc BK299)) : gb314 ≠ gb299))
        have n11_ := ym ((by rw [hg]; exact Nat.ne_of_lt (blk_lt (g := gb300) (o := .cells #[.slice A1_0 l1_0.length c1_0, .slice A1_1 l1_1.length c1_1] 52 (0, 0)) (yc BK300)) : gb300 ≠ gb314))
        have n12_ := ym ((by rw [hg]; exact Nat.ne_of_gt (blk_lt (g := gb300) (o := .cells #[.slice A1_0 l1_0.length c1_0, .slice A1_1 l1_1.length c1_1] 52 (0, 0)) (yc BK300)) : gb314 ≠ gb300))
        have n13_ := ym ((by rw [hg]; exact Nat.ne_of_lt (blk_lt (g := gb313) (o := .cells #[.slice none 0 0, .slice none 0 0] 28 (0, 0)) (yc BK313)) : gb313 ≠ gb314))
        have n14_ := ym ((by rw [hg]; exact Nat.ne_of_gt (blk_lt (g := gb313) (o := .cells #[.slice none 0 0, .slice none 0 0] 28 (0, 0)) (yc BK313)) : gb314 ≠ gb313))
        clear HO303
        clear HO306
        clear BK299
        clear BK300
        clear BK313
        clear HB
        have HO303 := n0_
        have HO306 := n1_
        have BK299 := n2_
        have BK300 := n3_
        have BK313 := n4_
        have HB := n5_
        have BK314 := n6_
        have GW314 := n7_
        have GE314 := n8_
        have NB299_314 := n9_
        have NB314_299 := n10_
        have NB300_314 := n11_
        have NB314_300 := n12_
        have NB313_314 := n13_
        have NB314_313 := n14_
        clear n0_ n1_ n2_ n3_ n4_ n5_ n6_ n7_ n8_ n9_ n10_ n11_ n12_ n13_ n14_
        clear hb hbox hg
        refine hK.out _ _ ⟨(yw BK299.out 0).trans rfl, (yw BK299.out 1).trans rfl, (yw BK300.out 0).trans rfl, (yw BK300.out 1).trans rfl⟩ (fun hHeld => ?_)
        clear hK K
        refine norm_ (a' := ?_) ?_ ?_
        rotate_left
        ·
         show Act.put _ (some 8) _ = _
         simp only [Act.put, y0, y1]
         rfl
        exact norm_ (by first | (simp only [putAll, Act.put, y0]; done) | (simp only [putAll, Act.put, y0]; rfl)) (hJ1_4_5 (v302, v305, gb313, gb314) _ ⟨hHeld, (by (with_reducible repeat apply y2); exact HO303.out), (by (with_reducible repeat apply y2); exact HO306.out), (yc BK299), (yc BK300), (yc BK313), (yc BK314), GW313.out, GE313.out, NB299_313.out, NB313_299.out, NB300_313.out, NB313_300.out, NB314_313.out, NB313_314.out, GW314.out, GE314.out, NB299_314.out, NB314_299.out, NB300_314.out, NB314_300.out, yb⟩)
     ·
      skip
      rintro ⟨v302, v305, v308, v311⟩ w11 ⟨hS_, h0_, h1_, h2_, h3_, h4_, h5_, h6_⟩
      have n0_ : Aside0 (Kd.R Kd.bool 4 w11 w.heap.size (fun _ => True) v302 t301) := ⟨h0_⟩
      have n1_ : Aside0 (Kd.R k93 93 w11 w.heap.size (fun _ => True) v305 t304) := ⟨h1_⟩
      have n2_ : Aside0 (Kd.R Kd.string 9 w11 w.heap.size (fun _ => True) v308 t307) := ⟨h2_⟩
      have n3_ : Aside0 (Kd.R k100 100 w11 w.heap.size (fun _ => True) v311 t310) := ⟨h3_⟩
      have n4_ : Aside0 (w11.heap[gb299]? = some (.cells #[.slice A0_0 l0_0.length c0_0, .slice A0_1 l0_1.length c0_1] 25 (0, 0))) := ⟨h4_⟩
      have n5_ : Aside0 (w11.heap[gb300]? = some (.cells #[.slice A1_0 l1_0.length c1_0, .slice A1_1 l1_1.length c1_1] 52 (0, 0))) := ⟨h5_⟩
      have n6_ : Aside0 (Below w.heap.size w w11) := ⟨h6_⟩
      clear BK299
      clear BK300
      clear HB
      clear h0_ h1_ h2_ h3_ h4_ h5_ h6_
      have HO303 := n0_
      have HO306 := n1_
      have HO309 := n2_
      have HO312 := n3_
      have BK299 := n4_
      have BK300 := n5_
      have HB := n6_
      clear n0_ n1_ n2_ n3_ n4_ n5_ n6_
      have hHeld : w11.cell? ⟨gb299, 0, none⟩ = some (.slice A0_0 l0_0.length c0_0) ∧ w11.cell? ⟨gb299, 1, none⟩ = some (.slice A0_1 l0_1.length c0_1) ∧ w11.cell? ⟨gb300, 0, none⟩ = some (.slice A1_0 l1_0.length c1_0) ∧ w11.cell? ⟨gb300, 1, none⟩ = some (.slice A1_1 l1_1.length c1_1) := hS_
      refine norm_ (a' := ?_) ?_ ?_
      rotate_left
      ·
       simp only [putAll, Act.put, y0]
       rfl
      refine two_ (i := 4) (j := 5) (Ni := some 7) (Nj := some 8) #[i_, i_, i_, i_, i_, o_, o_, o_] #[i_, i_, i_, i_, o_, i_, o_, o_] rfl rfl rfl rfl (two_of HT_.out (by kernel_rfl)) (by decide) (by decide) (fun K hK => ?_) (fun K hK => ?_)
      ·
       skip
       refine box_step ?hg (N := 7) ?hd (cs := #[.slice none 0 0, .slice none 0 0]) (t := 28) ?hr ?_; (case hd => rfl); (case hg => rfl); (case hr => first | (go_simp; done) | (go_simp; rfl))
       intro gb313 hg w12 hbox hb
       have n0_ := ym (yp (by (with_reducible repeat apply y2); exact HO303.out) hb)
       have n1_ := ym (yp (by (with_reducible repeat apply y2); exact HO306.out) hb)
       have n2_ := ym (yp (by (with_reducible repeat apply y2); exact HO309.out) hb)
       have n3_ := ym (yp (by (with_reducible repeat apply y2); exact HO312.out) hb)
       have n4_ := ym (yq (g := gb299) (o := .cells #[.slice A0_0 l0_0.length c0_0, .slice A0_1 l0_1.length c0_1] 25 (0, 0)) (yc BK299) hb)
       have n5_ := ym (yq (g := gb300) (o := .cells #[.slice A1_0 l1_0.length c1_0, .slice A1_1 l1_1.length c1_1] 52 (0, 0)) (yc BK300) hb)
       have n6_ := ym (yn yb hb)
       have n7_ := ym (hbox)
       have n8_ := ym ((by rw [hg]; exact (below_size yb) : w.heap.size ≤ gb313))
       have n9_ := ym ((by rw [hg]; exact (below_size yb) : w.heap.size ≤ gb313))
       have n10_ := ym ((by rw [hg]; exact Nat.ne_of_lt (blk_lt (g := gb299) (o := .cells #[.slice A0_0 l0_0.length c0_0, .slice A0_1 l0_1.length c0_1] 25 (0, 0)) (yc BK299)) : gb299 ≠ gb313))
       have n11_ := ym ((by rw [hg]; exact Nat.ne_of_gt (blk_lt (g := gb299) (o := .cells #[.slice A0_0 l0_0.length c0_0, .slice A0_1 l0_1.length c0_1] 25 (0, 0)) (yc BK299)) : gb313 ≠ gb299))
       have n12_ := ym ((by rw [hg]; exact Nat.ne_of_lt (blk_lt (g := gb300) (o := .cells #[.slice A1_0 l1_0.length c1_0, .slice A1_1 l1_1.length c1_1] 52 (0, 0)) (yc BK300)) : gb300 ≠ gb313))
       have n13_ := ym ((by rw [hg]; exact Nat.ne_of_gt (blk_lt (g := gb300) (o := .cells #[.slice A1_0 l1_0.length c1_0, .slice A1_1 l1_1.length c1_1] 52 (0, 0)) (yc BK300)) : gb313 ≠ gb300))
       clear HO303
       clear HO306
       clear HO309
       clear HO312
       clear BK299
       clear BK300
       clear HB
       have HO303 := n0_
       have HO306 := n1_
       have HO309 := n2_
       have HO312 := n3_
       have BK299 := n4_
       have BK300 := n5_
       have HB := n6_
       have BK313 := n7_
       have GW313 := n8_
       have GE313 := n9_
       have NB299_313 := n10_
       have NB313_299 := n11_
       have NB300_313 := n12_
       have NB313_300 := n13_
       clear n0_ n1_ n2_ n3_ n4_ n5_ n6_ n7_ n8_ n9_ n10_ n11_ n12_ n13_
       clear hb hbox hg
       refine hK.out _ _ ⟨(yw BK299.out 0).trans rfl, (yw BK299.out 1).trans rfl, (yw BK300.out 0).trans rfl, (yw BK300.out 1).trans rfl⟩ (fun hHeld => ?_)
       clear hK K
       refine norm_ (a' := ?_) ?_ ?_
       rotate_left
       ·
        show Act.put _ (some 7) _ = _
        simp only [Act.put, y0, y1]
        rfl
       exact norm_ (by first | (simp only [putAll, Act.put, y0]; done) | (simp only [putAll, Act.put, y0]; rfl)) (hJ1_3_4 (v302, v305, v308, v311, gb313) _ ⟨hHeld, (by (with_reducible repeat apply y2); exact HO303.out), (by (with_reducible repeat apply y2); exact HO306.out), (by (with_reducible repeat apply y2); exact HO309.out), (by (with_reducible repeat apply y2); exact HO312.out), (yc BK299), (yc BK300), (yc BK313), GW313.out, GE313.out, NB299_313.out, NB313_299.out, NB300_313.out, NB313_300.out, yb⟩)
      ·
       skip
       refine box_step ?hg (N := 8) ?hd (cs := #[.slice none 0 0, .slice none 0 0]) (t := 56) ?hr ?_; (case hd => rfl); (case hg => rfl); (case hr => first | (go_simp; done) | (go_simp; rfl))
       intro gb314 hg w12 hbox hb
       have n0_ := ym (yp (by (with_reducible repeat apply y2); exact HO303.out) hb)
       have n1_ := ym (yp (by (with_reducible repeat apply y2); exact HO306.out) hb)
       have n2_ := ym (yp (by (with_reducible repeat apply y2); exact HO309.out) hb)
       have n3_ := ym (yp (by (with_reducible repeat apply y2); exact HO312.out) hb)
       have n4_ := ym (yq (g := gb299) (o := .cells #[.slice A0_0 l0_0.length c0_0, .slice A0_1 l0_1.length c0_1] 25 (0, 0)) (yc BK299) hb)
       have n5_ := ym (yq (g := gb300) (o := .cells #[.slice A1_0 l1_0.length c1_0, .slice A1_1 l1_1.length c1_1] 52 (0, 0)) (yc BK300) hb)
       have n6_ := ym (yn yb hb)
       have n7_ := ym (hbox)
       have n8_ := ym ((by rw [hg]; exact (below_size yb) : w.heap.size ≤ gb314))
       have n9_ := ym ((by rw [hg]; exact (below_size yb) : w.heap.size ≤ gb314))
       have n10_ := ym ((by rw [hg]; exact Nat.ne_of_lt (blk_lt (g := gb299) (o := .cells #[.slice A0_0 l0_0.length c0_0, .slice A0_1 l0_1.length c0_1] 25 (0, 0)) (yc BK299)) : gb299 ≠ gb314))
       have n11_ := ym ((by rw [hg]; exact Nat.ne_of_gt (blk_lt (g := gb299) (o := .cells #[.slice A0_0 l0_0.length c0_0, .slice A0_1 l0_1.length c0_1] 25 (0, 0)) (yc BK299)) : gb314 ≠ gb299))
       have n12_ := ym ((by rw [hg]; exact Nat.ne_of_lt (blk_lt (g := gb300) (o := .cells #[.slice A1_0 l1_0.length c1_0, .slice A1_1 l1_1.length c1_1] 52 (0, 0)) (yc BK300)) : gb300 ≠ gb314))
       have n13_ := ym ((by rw [hg]; exact Nat.ne_of_gt (blk_lt (g := gb300) (o := .cells #[.slice A1_0 l1_0.length c1_0, .slice A1_1 l1_1.length c1_1] 52 (0, 0)) (yc BK300)) : gb314 ≠ gb300))
       clear HO303
       clear HO306
       clear HO309
       clear HO312
       clear BK299
       clear BK300
       clear HB
       have HO303 := n0_
       have HO306 := n1_
       have HO309 := n2_
       have HO312 := n3_
       have BK299 := n4_
       have BK300 := n5_
       have HB := n6_
       have BK314 := n7_
       have GW314 := n8_
       have GE314 := n9_
       have NB299_314 := n10_
       have NB314_299 := n11_
       have NB300_314 := n12_
       have NB314_300 := n13_
       clear n0_ n1_ n2_ n3_ n4_ n5_ n6_ n7_ n8_ n9_ n10_ n11_ n12_ n13_
       clear hb hbox hg
       refine hK.out _ _ ⟨(yw BK299.out 0).trans rfl, (yw BK299.out 1).trans rfl, (yw BK300.out 0).trans rfl, (yw BK300.out 1).trans rfl⟩ (fun hHeld => ?_)
       clear hK K
       refine norm_ (a' := ?_) ?_ ?_
       rotate_left
       ·
        show Act.put _ (some 8) _ = _
        simp only [Act.put, y0, y1]
        rfl
       exact norm_ (by first | (simp only [putAll, Act.put, y0]; done) | (simp only [putAll, Act.put, y0]; rfl)) (hJ1_3_5 (v302, v305, v308, v311, gb314) _ ⟨hHeld, (by (with_reducible repeat apply y2); exact HO303.out), (by (with_reducible repeat apply y2); exact HO306.out), (by (with_reducible repeat apply y2); exact HO309.out), (by (with_reducible repeat apply y2); exact HO312.out), (yc BK299), (yc BK300), (yc BK314), GW314.out, GE314.out, NB299_314.out, NB314_299.out, NB300_314.out, NB314_300.out, yb⟩)
    ·
     skip
     rintro ⟨v302, v305, gb313, gb314⟩ w12 ⟨hS_, h0_, h1_, h2_, h3_, h4_, h5_, h6_, h7_, h8_, h9_, h10_, h11_, h12_, h13_, h14_, h15_, h16_, h17_, h18_, h19_, h20_⟩
     have n0_ : Aside0 (Kd.R Kd.bool 4 w12 w.heap.size (fun _ => True) v302 t301) := ⟨h0_⟩
     have n1_ : Aside0 (Kd.R k93 93 w12 w.heap.size (fun _ => True) v305 t304) := ⟨h1_⟩
     have n2_ : Aside0 (w12.heap[gb299]? = some (.cells #[.slice A0_0 l0_0.length c0_0, .slice A0_1 l0_1.length c0_1] 25 (0, 0))) := ⟨h2_⟩
     have n3_ : Aside0 (w12.heap[gb300]? = some (.cells #[.slice A1_0 l1_0.length c1_0, .slice A1_1 l1_1.length c1_1] 52 (0, 0))) := ⟨h3_⟩
     have n4_ : Aside0 (w12.heap[gb313]? = some (.cells #[.slice none 0 0, .slice none 0 0] 28 (0, 0))) := ⟨h4_⟩
     have n5_ : Aside0 (w12.heap[gb314]? = some (.cells #[.slice none 0 0, .slice none 0 0] 56 (0, 0))) := ⟨h5_⟩
     have n6_ : Aside0 (w.heap.size ≤ gb313) := ⟨h6_⟩
     have n7_ : Aside0 (w.heap.size ≤ gb313) := ⟨h7_⟩
     have n8_ : Aside0 (gb299 ≠ gb313) := ⟨h8_⟩
     have n9_ : Aside0 (gb313 ≠ gb299) := ⟨h9_⟩
     have n10_ : Aside0 (gb300 ≠ gb313) := ⟨h10_⟩
     have n11_ : Aside0 (gb313 ≠ gb300) := ⟨h11_⟩
     have n12_ : Aside0 (gb314 ≠ gb313) := ⟨h12_⟩
     have n13_ : Aside0 (gb313 ≠ gb314) := ⟨h13_⟩
     have n14_ : Aside0 (w.heap.size ≤ gb314) := ⟨h14_⟩
     have n15_ : Aside0 (w.heap.size ≤ gb314) := ⟨h15_⟩
     have n16_ : Aside0 (gb299 ≠ gb314) := ⟨h16_⟩
     have n17_ : Aside0 (gb314 ≠ gb299) := ⟨h17_⟩
     have n18_ : Aside0 (gb300 ≠ gb314) := ⟨h18_⟩
     have n19_ : Aside0 (gb314 ≠ gb300) := ⟨h19_⟩
     have n20_ : Aside0 (Below w.heap.size w w12) := ⟨h20_⟩
     clear BK299
     clear BK300
     clear HB
     clear h0_ h1_ h2_ h3_ h4_ h5_ h6_ h7_ h8_ h9_ h10_ h11_ h12_ h13_ h14_ h15_ h16_ h17_ h18_ h19_ h20_
     have HO303 := n0_
     have HO306 := n1_
     have BK299 := n2_
     have BK300 := n3_
     have BK313 := n4_
     have BK314 := n5_
     have GW313 := n6_
     have GE313 := n7_
     have NB299_313 := n8_
     have NB313_299 := n9_
     have NB300_313 := n10_
     have NB313_300 := n11_
     have NB314_313 := n12_
     have NB313_314 := n13_
     have GW314 := n14_
     have GE314 := n15_
     have NB299_314 := n16_
     have NB314_299 := n17_
     have NB300_314 := n18_
     have NB314_300 := n19_
     have HB := n20_
     clear n0_ n1_ n2_ n3_ n4_ n5_ n6_ n7_ n8_ n9_ n10_ n11_ n12_ n13_ n14_ n15_ n16_ n17_ n18_ n19_ n20_
     have hHeld : w12.cell? ⟨gb299, 0, none⟩ = some (.slice A0_0 l0_0.length c0_0) ∧ w12.cell? ⟨gb299, 1, none⟩ = some (.slice A0_1 l0_1.length c0_1) ∧ w12.cell? ⟨gb300, 0, none⟩ = some (.slice A1_0 l1_0.length c1_0) ∧ w12.cell? ⟨gb300, 1, none⟩ = some (.slice A1_1 l1_1.length c1_1) := hS_
     refine norm_ (a' := ?_) ?_ ?_
     rotate_left
     ·
      simp only [putAll, Act.put, y0]
      rfl
     refine one_ (i := 3) (N := some 15) #[i_, i_, i_, i_, i_, i_, o_, o_] rfl rfl (one_of HT_.out (by kernel_rfl)) (by decide) (fun K hK => ?_)
     refine goes_ Try.func24 (by kernel_rfl) rfl #[.agg #[.slice A1_0 l1_0.length c1_0, .slice A1_1 l1_1.length c1_1]] (by rfl) rfl rfl y6 ?_
     with_reducible refine (heraldlaw15_words.calls k _ _ l1_0 _ _ l1_1 t307 t310 _ ?side1 ?side2 ?side3 ?side4 A5.out).mono ?_
     (case side1 => exact y9 HR1_0)
     (case side2 => exact HC1_0.out)
     (case side3 => exact y9 HR1_1)
     (case side4 => exact HC1_1.out)
     rintro e w13 ⟨v308, v311, rfl, ho0, ho1, hb⟩
     refine ⟨_, rfl, ?_⟩
     have n0_ := ym (yp (by (with_reducible repeat apply y2); exact HO303.out) hb)
     have n1_ := ym (yp (by (with_reducible repeat apply y2); exact HO306.out) hb)
     have n2_ := ym (yo ho0 (below_size yb))
     have n3_ := ym (yo ho1 (below_size yb))
     have n4_ := ym (yq (g := gb299) (o := .cells #[.slice A0_0 l0_0.length c0_0, .slice A0_1 l0_1.length c0_1] 25 (0, 0)) (yc BK299) hb)
     have n5_ := ym (yq (g := gb300) (o := .cells #[.slice A1_0 l1_0.length c1_0, .slice A1_1 l1_1.length c1_1] 52 (0, 0)) (yc BK300) hb)
     have n6_ := ym (yq (g := gb313) (o := .cells #[.slice none 0 0, .slice none 0 0] 28 (0, 0)) (yc BK313) hb)
     have n7_ := ym (yq (g := gb314) (o := .cells #[.slice none 0 0, .slice none 0 0] 56 (0, 0)) (yc BK314) hb)
     have n8_ := ym (yn yb hb)
     clear HO303
     clear HO306
     clear BK299
     clear BK300
     clear BK313
     clear BK314
     clear HB
     have HO303 := n0_
     have HO306 := n1_
     have HO309 := n2_
     have HO312 := n3_
     have BK299 := n4_
     have BK300 := n5_
     have BK313 := n6_
     have BK314 := n7_
     have HB := n8_
     clear n0_ n1_ n2_ n3_ n4_ n5_ n6_ n7_ n8_
     (try clear hb)
     (try clear hb2)
     (try clear hk)
     (try clear hi)
     (try clear ho0)
     (try clear ho1)
     refine hK.out _ _ ⟨(yw BK299.out 0).trans rfl, (yw BK299.out 1).trans rfl, (yw BK300.out 0).trans rfl, (yw BK300.out 1).trans rfl⟩ (fun hHeld => ?_)
     clear hK K
     refine norm_ (a' := ?_) ?_ ?_
     rotate_left
     ·
      show Act.put _ (some 15) _ = _
      simp only [Act.put, y0, y1]
      rfl
     exact norm_ (by first | (simp only [putAll, Act.put, y0]; done) | (simp only [putAll, Act.put, y0]; rfl)) (hJ1_3_4_5 (v302, v305, v308, v311, gb313, gb314) _ ⟨hHeld, (by (with_reducible repeat apply y2); exact HO303.out), (by (with_reducible repeat apply y2); exact HO306.out), (by (with_reducible repeat apply y2); exact HO309.out), (by (with_reducible repeat apply y2); exact HO312.out), (yc BK299), (yc BK300), (yc BK313), (yc BK314), GW313.out, GE313.out, NB299_313.out, NB313_299.out, NB300_313.out, NB313_300.out, NB314_313.out, NB313_314.out, GW314.out, GE314.out, NB299_314.out, NB314_299.out, NB300_314.out, NB314_300.out, yb⟩)
   ·
    skip
    rintro ⟨v302, v305, v308, v311, gb314⟩ w12 ⟨hS_, h0_, h1_, h2_, h3_, h4_, h5_, h6_, h7_, h8_, h9_, h10_, h11_, h12_, h13_⟩
    have n0_ : Aside0 (Kd.R Kd.bool 4 w12 w.heap.size (fun _ => True) v302 t301) := ⟨h0_⟩
    have n1_ : Aside0 (Kd.R k93 93 w12 w.heap.size (fun _ => True) v305 t304) := ⟨h1_⟩
    have n2_ : Aside0 (Kd.R Kd.string 9 w12 w.heap.size (fun _ => True) v308 t307) := ⟨h2_⟩
    have n3_ : Aside0 (Kd.R k100 100 w12 w.heap.size (fun _ => True) v311 t310) := ⟨h3_⟩
    have n4_ : Aside0 (w12.heap[gb299]? = some (.cells #[.slice A0_0 l0_0.length c0_0, .slice A0_1 l0_1.length c0_1] 25 (0, 0))) := ⟨h4_⟩
    have n5_ : Aside0 (w12.heap[gb300]? = some (.cells #[.slice A1_0 l1_0.length c1_0, .slice A1_1 l1_1.length c1_1] 52 (0, 0))) := ⟨h5_⟩
    have n6_ : Aside0 (w12.heap[gb314]? = some (.cells #[.slice none 0 0, .slice none 0 0] 56 (0, 0))) := ⟨h6_⟩
    have n7_ : Aside0 (w.heap.size ≤ gb314) := ⟨h7_⟩
    have n8_ : Aside0 (w.heap.size ≤ gb314) := ⟨h8_⟩
    have n9_ : Aside0 (gb299 ≠ gb314) := ⟨h9_⟩
    have n10_ : Aside0 (gb314 ≠ gb299) := ⟨h10_⟩
    have n11_ : Aside0 (gb300 ≠ gb314) := ⟨h11_⟩
    have n12_ : Aside0 (gb314 ≠ gb300) := ⟨h12_⟩
    have n13_ : Aside0 (Below w.heap.size w w12) := ⟨h13_⟩
    clear BK299
    clear BK300
    clear HB
    clear h0_ h1_ h2_ h3_ h4_ h5_ h6_ h7_ h8_ h9_ h10_ h11_ h12_ h13_
    have HO303 := n0_
    have HO306 := n1_
    have HO309 := n2_
    have HO312 := n3_
    have BK299 := n4_
    have BK300 := n5_
    have BK314 := n6_
    have GW314 := n7_
    have GE314 := n8_
    have NB299_314 := n9_
    have NB314_299 := n10_
    have NB300_314 := n11_
    have NB314_300 := n12_
    have HB := n13_
    clear n0_ n1_ n2_ n3_ n4_ n5_ n6_ n7_ n8_ n9_ n10_ n11_ n12_ n13_
    have hHeld : w12.cell? ⟨gb299, 0, none⟩ = some (.slice A0_0 l0_0.length c0_0) ∧ w12.cell? ⟨gb299, 1, none⟩ = some (.slice A0_1 l0_1.length c0_1) ∧ w12.cell? ⟨gb300, 0, none⟩ = some (.slice A1_0 l1_0.length c1_0) ∧ w12.cell? ⟨gb300, 1, none⟩ = some (.slice A1_1 l1_1.length c1_1) := hS_
    refine norm_ (a' := ?_) ?_ ?_
    rotate_left
    ·
     simp only [putAll, Act.put, y0]
     rfl
    refine one_ (i := 4) (N := some 7) #[i_, i_, i_, i_, i_, i_, o_, o_] rfl rfl (one_of HT_.out (by kernel_rfl)) (by decide) (fun K hK => ?_)
    refine box_step ?hg (N := 7) ?hd (cs := #[.slice none 0 0, .slice none 0 0]) (t := 28) ?hr ?_; (case hd => rfl); (case hg => rfl); (case hr => first | (go_simp; done) | (go_simp; rfl))
    intro gb313 hg w13 hbox hb
    have n0_ := ym (yp (by (with_reducible repeat apply y2); exact HO303.out) hb)
    have n1_ := ym (yp (by (with_reducible repeat apply y2); exact HO306.out) hb)
    have n2_ := ym (yp (by (with_reducible repeat apply y2); exact HO309.out) hb)
    have n3_ := ym (yp (by (with_reducible repeat apply y2); exact HO312.out) hb)
    have n4_ := ym (yq (g := gb299) (o := .cells #[.slice A0_0 l0_0.length c0_0, .slice A0_1 l0_1.length c0_1] 25 (0, 0)) (yc BK299) hb)
    have n5_ := ym (yq (g := gb300) (o := .cells #[.slice A1_0 l1_0.length c1_0, .slice A1_1 l1_1.length c1_1] 52 (0, 0)) (yc BK300) hb)
    have n6_ := ym (yq (g := gb314) (o := .cells #[.slice none 0 0, .slice none 0 0] 56 (0, 0)) (yc BK314) hb)
    have n7_ := ym (yn yb hb)
    have n8_ := ym (hbox)
    have n9_ := ym ((by rw [hg]; exact (below_size yb) : w.heap.size ≤ gb313))
    have n10_ := ym ((by rw [hg]; exact (below_size yb) : w.heap.size ≤ gb313))
    have n11_ := ym ((by rw [hg]; exact Nat.ne_of_lt (blk_lt (g := gb299) (o := .cells #[.slice A0_0 l0_0.length c0_0, .slice A0_1 l0_1.length c0_1] 25 (0, 0)) (yc BK299)) : gb299 ≠ gb313))
    have n12_ := ym ((by rw [hg]; exact Nat.ne_of_gt (blk_lt (g := gb299) (o := .cells #[.slice A0_0 l0_0.length c0_0, .slice A0_1 l0_1.length c0_1] 25 (0, 0)) (yc BK299)) : gb313 ≠ gb299))
    have n13_ := ym ((by rw [hg]; exact Nat.ne_of_lt (blk_lt (g := gb300) (o := .cells #[.slice A1_0 l1_0.length c1_0, .slice A1_1 l1_1.length c1_1] 52 (0, 0)) (yc BK300)) : gb300 ≠ gb313))
    have n14_ := ym ((by rw [hg]; exact Nat.ne_of_gt (blk_lt (g := gb300) (o := .cells #[.slice A1_0 l1_0.length c1_0, .slice A1_1 l1_1.length c1_1] 52 (0, 0)) (yc BK300)) : gb313 ≠ gb300))
    have n15_ := ym ((by rw [hg]; exact Nat.ne_of_lt (blk_lt (g := gb314) (o := .cells #[.slice none 0 0, .slice none 0 0] 56 (0, 0)) (yc BK314)) : gb314 ≠ gb313))
    have n16_ := ym ((by rw [hg]; exact Nat.ne_of_gt (blk_lt (g := gb314) (o := .cells #[.slice none 0 0, .slice none 0 0] 56 (0, 0)) (yc BK314)) : gb313 ≠ gb314))
    clear HO303
    clear HO306
    clear HO309
    clear HO312
    clear BK299
    clear BK300
    clear BK314
    clear HB
    have HO303 := n0_
    have HO306 := n1_
    have HO309 := n2_
    have HO312 := n3_
    have BK299 := n4_
    have BK300 := n5_
    have BK314 := n6_
    have HB := n7_
    have BK313 := n8_
    have GW313 := n9_
    have GE313 := n10_
    have NB299_313 := n11_
    have NB313_299 := n12_
    have NB300_313 := n13_
    have NB313_300 := n14_
    have NB314_313 := n15_
    have NB313_314 := n16_
    clear n0_ n1_ n2_ n3_ n4_ n5_ n6_ n7_ n8_ n9_ n10_ n11_ n12_ n13_ n14_ n15_ n16_
    clear hb hbox hg
    refine hK.out _ _ ⟨(yw BK299.out 0).trans rfl, (yw BK299.out 1).trans rfl, (yw BK300.out 0).trans rfl, (yw BK300.out 1).trans rfl⟩ (fun hHeld => ?_)
    clear hK K
    refine norm_ (a' := ?_) ?_ ?_
    rotate_left
    ·
     show Act.put _ (some 7) _ = _
     simp only [Act.put, y0, y1]
     rfl
    exact norm_ (by first | (simp only [putAll, Act.put, y0]; done) | (simp only [putAll, Act.put, y0]; rfl)) (hJ1_3_4_5 (v302, v305, v308, v311, gb313, gb314) _ ⟨hHeld, (by (with_reducible repeat apply y2); exact HO303.out), (by (with_reducible repeat apply y2); exact HO306.out), (by (with_reducible repeat apply y2); exact HO309.out), (by (with_reducible repeat apply y2); exact HO312.out), (yc BK299), (yc BK300), (yc BK313), (yc BK314), GW313.out, GE313.out, NB299_313.out, NB313_299.out, NB300_313.out, NB313_300.out, NB314_313.out, NB313_314.out, GW314.out, GE314.out, NB299_314.out, NB314_299.out, NB300_314.out, NB314_300.out, yb⟩)
  ·
   skip
   rintro ⟨v302, v305, v308, v311, gb313⟩ w12 ⟨hS_, h0_, h1_, h2_, h3_, h4_, h5_, h6_, h7_, h8_, h9_, h10_, h11_, h12_, h13_⟩
   have n0_ : Aside0 (Kd.R Kd.bool 4 w12 w.heap.size (fun _ => True) v302 t301) := ⟨h0_⟩
   have n1_ : Aside0 (Kd.R k93 93 w12 w.heap.size (fun _ => True) v305 t304) := ⟨h1_⟩
   have n2_ : Aside0 (Kd.R Kd.string 9 w12 w.heap.size (fun _ => True) v308 t307) := ⟨h2_⟩
   have n3_ : Aside0 (Kd.R k100 100 w12 w.heap.size (fun _ => True) v311 t310) := ⟨h3_⟩
   have n4_ : Aside0 (w12.heap[gb299]? = some (.cells #[.slice A0_0 l0_0.length c0_0, .slice A0_1 l0_1.length c0_1] 25 (0, 0))) := ⟨h4_⟩
   have n5_ : Aside0 (w12.heap[gb300]? = some (.cells #[.slice A1_0 l1_0.length c1_0, .slice A1_1 l1_1.length c1_1] 52 (0, 0))) := ⟨h5_⟩
   have n6_ : Aside0 (w12.heap[gb313]? = some (.cells #[.slice none 0 0, .slice none 0 0] 28 (0, 0))) := ⟨h6_⟩
   have n7_ : Aside0 (w.heap.size ≤ gb313) := ⟨h7_⟩
   have n8_ : Aside0 (w.heap.size ≤ gb313) := ⟨h8_⟩
   have n9_ : Aside0 (gb299 ≠ gb313) := ⟨h9_⟩
   have n10_ : Aside0 (gb313 ≠ gb299) := ⟨h10_⟩
   have n11_ : Aside0 (gb300 ≠ gb313) := ⟨h11_⟩
   have n12_ : Aside0 (gb313 ≠ gb300) := ⟨h12_⟩
   have n13_ : Aside0 (Below w.heap.size w w12) := ⟨h13_⟩
   clear BK299
   clear BK300
   clear HB
   clear h0_ h1_ h2_ h3_ h4_ h5_ h6_ h7_ h8_ h9_ h10_ h11_ h12_ h13_
   have HO303 := n0_
   have HO306 := n1_
   have HO309 := n2_
   have HO312 := n3_
   have BK299 := n4_
   have BK300 := n5_
   have BK313 := n6_
   have GW313 := n7_
   have GE313 := n8_
   have NB299_313 := n9_
   have NB313_299 := n10_
   have NB300_313 := n11_
   have NB313_300 := n12_
   have HB := n13_
   clear n0_ n1_ n2_ n3_ n4_ n5_ n6_ n7_ n8_ n9_ n10_ n11_ n12_ n13_
   have hHeld : w12.cell? ⟨gb299, 0, none⟩ = some (.slice A0_0 l0_0.length c0_0) ∧ w12.cell? ⟨gb299, 1, none⟩ = some (.slice A0_1 l0_1.length c0_1) ∧ w12.cell? ⟨gb300, 0, none⟩ = some (.slice A1_0 l1_0.length c1_0) ∧ w12.cell? ⟨gb300, 1, none⟩ = some (.slice A1_1 l1_1.length c1_1) := hS_
   refine norm_ (a' := ?_) ?_ ?_
   rotate_left
   ·
    simp only [putAll, Act.put, y0]
    rfl
   refine one_ (i := 5) (N := some 8) #[i_, i_, i_, i_, i_, i_, o_, o_] rfl rfl (one_of HT_.out (by kernel_rfl)) (by decide) (fun K hK => ?_)
   refine box_step ?hg (N := 8) ?hd (cs := #[.slice none 0 0, .slice none 0 0]) (t := 56) ?hr ?_; (case hd => rfl); (case hg => rfl); (case hr => first | (go_simp; done) | (go_simp; rfl))
   intro gb314 hg w13 hbox hb
   have n0_ := ym (yp (by (with_reducible repeat apply y2); exact HO303.out) hb)
   have n1_ := ym (yp (by (with_reducible repeat apply y2); exact HO306.out) hb)
   have n2_ := ym (yp (by (with_reducible repeat apply y2); exact HO309.out) hb)
   have n3_ := ym (yp (by (with_reducible repeat apply y2); exact HO312.out) hb)
   have n4_ := ym (yq (g := gb299) (o := .cells #[.slice A0_0 l0_0.length c0_0, .slice A0_1 l0_1.length c0_1] 25 (0, 0)) (yc BK299) hb)
   have n5_ := ym (yq (g := gb300) (o := .cells #[.slice A1_0 l1_0.length c1_0, .slice A1_1 l1_1.length c1_1] 52 (0, 0)) (yc BK300) hb)
   have n6_ := ym (yq (g := gb313) (o := .cells #[.slice none 0 0, .slice none 0 0] 28 (0, 0)) (yc BK313) hb)
   have n7_ := ym (yn yb hb)
   have n8_ := ym (hbox)
   have n9_ := ym ((by rw [hg]; exact (below_size yb) : w.heap.size ≤ gb314))
   have n10_ := ym ((by rw [hg]; exact (below_size yb) : w.heap.size ≤ gb314))
   have n11_ := ym ((by rw [hg]; exact Nat.ne_of_lt (blk_lt (g := gb299) (o := .cells #[.slice A0_0 l0_0.length c0_0, .slice A0_1 l0_1.length c0_1] 25 (0, 0)) (yc BK299)) : gb299 ≠ gb314))
   have n12_ := ym ((by rw [hg]; exact Nat.ne_of_gt (blk_lt (g := gb299) (o := .cells #[.slice A0_0 l0_0.length c0_0, .slice A0_1 l0_1.length c0_1] 25 (0, 0)) (yc BK299)) : gb314 ≠ gb299))
   have n13_ := ym ((by rw [hg]; exact Nat.ne_of_lt (blk_lt (g := gb300) (o := .cells #[.slice A1_0 l1_0.length c1_0, .slice A1_1 l1_1.length c1_1] 52 (0, 0)) (yc BK300)) : gb300 ≠ gb314))
   have n14_ := ym ((by rw [hg]; exact Nat.ne_of_gt (blk_lt (g := gb300) (o := .cells #[.slice A1_0 l1_0.length c1_0, .slice A1_1 l1_1.length c1_1] 52 (0, 0)) (yc BK300)) : gb314 ≠ gb300))
   have n15_ := ym ((by rw [hg]; exact Nat.ne_of_lt (blk_lt (g := gb313) (o := .cells #[.slice none 0 0, .slice none 0 0] 28 (0, 0)) (yc BK313)) : gb313 ≠ gb314))
   have n16_ := ym ((by rw [hg]; exact Nat.ne_of_gt (blk_lt (g := gb313) (o := .cells #[.slice none 0 0, .slice none 0 0] 28 (0, 0)) (yc BK313)) : gb314 ≠ gb313))
   clear HO303
   clear HO306
   clear HO309
   clear HO312
   clear BK299
   clear BK300
   clear BK313
   clear HB
   have HO303 := n0_
   have HO306 := n1_
   have HO309 := n2_
   have HO312 := n3_
   have BK299 := n4_
   have BK300 := n5_
   have BK313 := n6_
   have HB := n7_
   have BK314 := n8_
   have GW314 := n9_
   have GE314 := n10_
   have NB299_314 := n11_
   have NB314_299 := n12_
   have NB300_314 := n13_
   have NB314_300 := n14_
   have NB313_314 := n15_
   have NB314_313 := n16_
   clear n0_ n1_ n2_ n3_ n4_ n5_ n6_ n7_ n8_ n9_ n10_ n11_ n12_ n13_ n14_ n15_ n16_
   clear hb hbox hg
   refine hK.out _ _ ⟨(yw BK299.out 0).trans rfl, (yw BK299.out 1).trans rfl, (yw BK300.out 0).trans rfl, (yw BK300.out 1).trans rfl⟩ (fun hHeld => ?_)
   clear hK K
   refine norm_ (a' := ?_) ?_ ?_
   rotate_left
   ·
    show Act.put _ (some 8) _ = _
    simp only [Act.put, y0, y1]
    rfl
   exact norm_ (by first | (simp only [putAll, Act.put, y0]; done) | (simp only [putAll, Act.put, y0]; rfl)) (hJ1_3_4_5 (v302, v305, v308, v311, gb313, gb314) _ ⟨hHeld, (by (with_reducible repeat apply y2); exact HO303.out), (by (with_reducible repeat apply y2); exact HO306.out), (by (with_reducible repeat apply y2); exact HO309.out), (by (with_reducible repeat apply y2); exact HO312.out), (yc BK299), (yc BK300), (yc BK313), (yc BK314), GW313.out, GE313.out, NB299_313.out, NB313_299.out, NB300_313.out, NB313_300.out, NB314_313.out, NB313_314.out, GW314.out, GE314.out, NB299_314.out, NB314_299.out, NB300_314.out, NB314_300.out, yb⟩)
 rintro ⟨v302, v305, v308, v311, gb313, gb314⟩ w13 ⟨hS_, h0_, h1_, h2_, h3_, h4_, h5_, h6_, h7_, h8_, h9_, h10_, h11_, h12_, h13_, h14_, h15_, h16_, h17_, h18_, h19_, h20_, h21_, h22_⟩
 have n0_ : Aside0 (Kd.R Kd.bool 4 w13 w.heap.size (fun _ => True) v302 t301) := ⟨h0_⟩
 have n1_ : Aside0 (Kd.R k93 93 w13 w.heap.size (fun _ => True) v305 t304) := ⟨h1_⟩
 have n2_ : Aside0 (Kd.R Kd.string 9 w13 w.heap.size (fun _ => True) v308 t307) := ⟨h2_⟩
 have n3_ : Aside0 (Kd.R k100 100 w13 w.heap.size (fun _ => True) v311 t310) := ⟨h3_⟩
 have n4_ : Aside0 (w13.heap[gb299]? = some (.cells #[.slice A0_0 l0_0.length c0_0, .slice A0_1 l0_1.length c0_1] 25 (0, 0))) := ⟨h4_⟩
 have n5_ : Aside0 (w13.heap[gb300]? = some (.cells #[.slice A1_0 l1_0.length c1_0, .slice A1_1 l1_1.length c1_1] 52 (0, 0))) := ⟨h5_⟩
 have n6_ : Aside0 (w13.heap[gb313]? = some (.cells #[.slice none 0 0, .slice none 0 0] 28 (0, 0))) := ⟨h6_⟩
 have n7_ : Aside0 (w13.heap[gb314]? = some (.cells #[.slice none 0 0, .slice none 0 0] 56 (0, 0))) := ⟨h7_⟩
 have n8_ : Aside0 (w.heap.size ≤ gb313) := ⟨h8_⟩
 have n9_ : Aside0 (w.heap.size ≤ gb313) := ⟨h9_⟩
 have n10_ : Aside0 (gb299 ≠ gb313) := ⟨h10_⟩
 have n11_ : Aside0 (gb313 ≠ gb299) := ⟨h11_⟩
 have n12_ : Aside0 (gb300 ≠ gb313) := ⟨h12_⟩
 have n13_ : Aside0 (gb313 ≠ gb300) := ⟨h13_⟩
 have n14_ : Aside0 (gb314 ≠ gb313) := ⟨h14_⟩
 have n15_ : Aside0 (gb313 ≠ gb314) := ⟨h15_⟩
 have n16_ : Aside0 (w.heap.size ≤ gb314) := ⟨h16_⟩
 have n17_ : Aside0 (w.heap.size ≤ gb314) := ⟨h17_⟩
 have n18_ : Aside0 (gb299 ≠ gb314) := ⟨h18_⟩
 have n19_ : Aside0 (gb314 ≠ gb299) := ⟨h19_⟩
 have n20_ : Aside0 (gb300 ≠ gb314) := ⟨h20_⟩
 have n21_ : Aside0 (gb314 ≠ gb300) := ⟨h21_⟩
 have n22_ : Aside0 (Below w.heap.size w w13) := ⟨h22_⟩
 clear BK299
 clear BK300
 clear HB
 clear h0_ h1_ h2_ h3_ h4_ h5_ h6_ h7_ h8_ h9_ h10_ h11_ h12_ h13_ h14_ h15_ h16_ h17_ h18_ h19_ h20_ h21_ h22_
 have HO303 := n0_
 have HO306 := n1_
 have HO309 := n2_
 have HO312 := n3_
 have BK299 := n4_
 have BK300 := n5_
 have BK313 := n6_
 have BK314 := n7_
 have GW313 := n8_
 have GE313 := n9_
 have NB299_313 := n10_
 have NB313_299 := n11_
 have NB300_313 := n12_
 have NB313_300 := n13_
 have NB314_313 := n14_
 have NB313_314 := n15_
 have GW314 := n16_
 have GE314 := n17_
 have NB299_314 := n18_
 have NB314_299 := n19_
 have NB300_314 := n20_
 have NB314_300 := n21_
 have HB := n22_
 clear n0_ n1_ n2_ n3_ n4_ n5_ n6_ n7_ n8_ n9_ n10_ n11_ n12_ n13_ n14_ n15_ n16_ n17_ n18_ n19_ n20_ n21_ n22_
 have hHeld : w13.cell? ⟨gb299, 0, none⟩ = some (.slice A0_0 l0_0.length c0_0) ∧ w13.cell? ⟨gb299, 1, none⟩ = some (.slice A0_1 l0_1.length c0_1) ∧ w13.cell? ⟨gb300, 0, none⟩ = some (.slice A1_0 l1_0.length c1_0) ∧ w13.cell? ⟨gb300, 1, none⟩ = some (.slice A1_1 l1_1.length c1_1) := hS_
 obtain ⟨Ao14, co14, eo14⟩ := Kd.R_slice HO303.out
 (first | subst eo14 | (injection eo14 with f1_ f2_ f3_; have f4_ := f1_.symm; have f5_ := f3_.symm; clear f1_ f2_ f3_; subst f4_; subst f5_))
 obtain ⟨Ao16, co16, eo16⟩ := Kd.R_slice HO306.out
 (first | subst eo16 | (injection eo16 with f1_ f2_ f3_; have f4_ := f1_.symm; have f5_ := f3_.symm; clear f1_ f2_ f3_; subst f4_; subst f5_))
 obtain ⟨Ao18, co18, eo18⟩ := Kd.R_slice HO309.out
 (first | subst eo18 | (injection eo18 with f1_ f2_ f3_; have f4_ := f1_.symm; have f5_ := f3_.symm; clear f1_ f2_ f3_; subst f4_; subst f5_))
 obtain ⟨Ao20, co20, eo20⟩ := Kd.R_slice HO312.out
 (first | subst eo20 | (injection eo20 with f1_ f2_ f3_; have f4_ := f1_.symm; have f5_ := f3_.symm; clear f1_ f2_ f3_; subst f4_; subst f5_))
 refine norm_ (a' := ?_) ?_ ?_
 rotate_left
 ·
  simp only [putAll, Act.put, y0]
  rfl
 refine one_ (i := 6) (N := none) #[i_, i_, i_, i_, i_, i_, i_, o_] rfl rfl (one_of HT_.out (by kernel_rfl)) (by decide) (fun K hK => ?_)
 have hs15 : w13.cell? ⟨gb313, 0, none⟩ = some (.slice none 0 0) := (yw BK313.out 0).trans rfl
 have hfs15 := yv BK313.out 0
 have hns15_0 := NB299_313.out
 have hns15_1 := NB300_313.out
 have hns15_3 := NB314_313.out
 have hms15_0 := NB313_299.out
 have hms15_1 := NB313_300.out
 have hms15_3 := NB313_314.out
 have hs17 : w13.cell? ⟨gb313, 1, none⟩ = some (.slice none 0 0) := (yw BK313.out 1).trans rfl
 have hfs17 := yv BK313.out 1
 have hns17_0 := NB299_313.out
 have hns17_1 := NB300_313.out
 have hns17_3 := NB314_313.out
 have hms17_0 := NB313_299.out
 have hms17_1 := NB313_300.out
 have hms17_3 := NB313_314.out
 refine skip_ (w1 := ?_) (by rfl) rfl ?_ ?_
 rotate_left
 ·
  go_simp
  rfl
 refine hK.out _ _ ⟨((cell_far (p := ⟨gb313, _, none⟩) NB299_313.out _).trans (((cell_far (p := ⟨gb313, _, none⟩) NB299_313.out _).trans (hHeld.1)))), ((cell_far (p := ⟨gb313, _, none⟩) NB299_313.out _).trans (((cell_far (p := ⟨gb313, _, none⟩) NB299_313.out _).trans (hHeld.2.1)))), ((cell_far (p := ⟨gb313, _, none⟩) NB300_313.out _).trans (((cell_far (p := ⟨gb313, _, none⟩) NB300_313.out _).trans (hHeld.2.2.1)))), ((cell_far (p := ⟨gb313, _, none⟩) NB300_313.out _).trans (((cell_far (p := ⟨gb313, _, none⟩) NB300_313.out _).trans (hHeld.2.2.2))))⟩ (fun hHeld => ?_)
 clear hK K
 refine one_ (i := 7) (N := none) #[i_, i_, i_, i_, i_, i_, i_, i_] rfl rfl (one_of HT_.out (by kernel_rfl)) (by decide) (fun K hK => ?_)
 have hs19 : w13.cell? ⟨gb314, 0, none⟩ = some (.slice none 0 0) := (yw BK314.out 0).trans rfl
 have hfs19 := yv BK314.out 0
 have hns19_0 := NB299_314.out
 have hns19_1 := NB300_314.out
 have hns19_2 := NB313_314.out
 have hms19_0 := NB314_299.out
 have hms19_1 := NB314_300.out
 have hms19_2 := NB314_313.out
 have hs21 : w13.cell? ⟨gb314, 1, none⟩ = some (.slice none 0 0) := (yw BK314.out 1).trans rfl
 have hfs21 := yv BK314.out 1
 have hns21_0 := NB299_314.out
 have hns21_1 := NB300_314.out
 have hns21_2 := NB313_314.out
 have hms21_0 := NB314_299.out
 have hms21_1 := NB314_300.out
 have hms21_2 := NB314_313.out
 refine skip_ (w1 := ?_) (by rfl) rfl ?_ ?_
 rotate_left
 ·
  go_simp
  rfl
 refine hK.out _ _ ⟨((cell_far (p := ⟨gb314, _, none⟩) NB299_314.out _).trans (((cell_far (p := ⟨gb314, _, none⟩) NB299_314.out _).trans (hHeld.1)))), ((cell_far (p := ⟨gb314, _, none⟩) NB299_314.out _).trans (((cell_far (p := ⟨gb314, _, none⟩) NB299_314.out _).trans (hHeld.2.1)))), ((cell_far (p := ⟨gb314, _, none⟩) NB300_314.out _).trans (((cell_far (p := ⟨gb314, _, none⟩) NB300_314.out _).trans (hHeld.2.2.1)))), ((cell_far (p := ⟨gb314, _, none⟩) NB300_314.out _).trans (((cell_far (p := ⟨gb314, _, none⟩) NB300_314.out _).trans (hHeld.2.2.2))))⟩ (fun hHeld => ?_)
 clear hK K
 refine done_ (done_of HT_.out (by kernel_rfl)) ?_
 try go_wp2
 go_loopg [9, 10] k (fun kq v9 v10 w' => ∃ (x9_1 : Int) (x10_1 : Int), v9 = .int .i64 x9_1 ∧ v10 = .int .i64 x10_1 ∧ Aside0 (heraldlaw15_GuideNext.l0 kq l2 x9_1 x10_1 l0_0 l0_1 l1_0 l1_1 t301 t304 t307 t310 = some r) ∧ Aside0 (kq ≤ k) ∧ Aside0 (Kd.R Kd.bool 4 w' w.heap.size (fun _ => True) (.slice Ao14 t301.length co14) t301) ∧ Aside0 (Kd.R k93 93 w' w.heap.size (fun _ => True) (.slice Ao16 t304.length co16) t304) ∧ Aside0 (Kd.R Kd.string 9 w' w.heap.size (fun _ => True) (.slice Ao18 t307.length co18) t307) ∧ Aside0 (Kd.R k100 100 w' w.heap.size (fun _ => True) (.slice Ao20 t310.length co20) t310) ∧ Aside0 (w'.heap[gb299]? = some (.cells #[(.slice A0_0 l0_0.length c0_0), (.slice A0_1 l0_1.length c0_1)] 25 (0, 0))) ∧ Aside0 (w'.heap[gb300]? = some (.cells #[(.slice A1_0 l1_0.length c1_0), (.slice A1_1 l1_1.length c1_1)] 52 (0, 0))) ∧ Aside0 (w'.heap[gb313]? = some (.cells #[(.slice Ao14 t301.length co14), (.slice Ao16 t304.length co16)] 28 (0, 0))) ∧ Aside0 (w'.heap[gb314]? = some (.cells #[(.slice Ao18 t307.length co18), (.slice Ao20 t310.length co20)] 56 (0, 0))) ∧ Aside0 (Below w.heap.size w w'))
 case atStart => exact ⟨(0), (0), y7, y7, H', ⟨Nat.le_refl _⟩, ⟨by (with_reducible repeat apply y2); exact Kd.R_mono (Kd.R_far (p := ⟨gb314, 1, none⟩) (Kd.R_far (p := ⟨gb314, 0, none⟩) (Kd.R_far (p := ⟨gb313, 1, none⟩) (Kd.R_far (p := ⟨gb313, 0, none⟩) (Kd.R_types (Kd.R_types HO303.out BK313.out (by decide)) BK314.out (by decide)) (fun _ hk => hk.1.2) (.slice Ao14 t301.length co14)) (fun _ hk => hk.1.2) (.slice Ao16 t304.length co16)) (fun _ hk => hk.2) (.slice Ao18 t307.length co18)) (fun _ hk => hk.2) (.slice Ao20 t310.length co20)) (fun _ hk => trivial)⟩, ⟨by (with_reducible repeat apply y2); exact Kd.R_mono (Kd.R_far (p := ⟨gb314, 1, none⟩) (Kd.R_far (p := ⟨gb314, 0, none⟩) (Kd.R_far (p := ⟨gb313, 1, none⟩) (Kd.R_far (p := ⟨gb313, 0, none⟩) (Kd.R_types (Kd.R_types HO306.out BK313.out (by decide)) BK314.out (by decide)) (fun _ hk => hk.1.2) (.slice Ao14 t301.length co14)) (fun _ hk => hk.1.2) (.slice Ao16 t304.length co16)) (fun _ hk => hk.2) (.slice Ao18 t307.length co18)) (fun _ hk => hk.2) (.slice Ao20 t310.length co20)) (fun _ hk => trivial)⟩, ⟨by (with_reducible repeat apply y2); exact Kd.R_mono (Kd.R_far (p := ⟨gb314, 1, none⟩) (Kd.R_far (p := ⟨gb314, 0, none⟩) (Kd.R_far (p := ⟨gb313, 1, none⟩) (Kd.R_far (p := ⟨gb313, 0, none⟩) (Kd.R_types (Kd.R_types HO309.out BK313.out (by decide)) BK314.out (by decide)) (fun _ hk => hk.1.2) (.slice Ao14 t301.length co14)) (fun _ hk => hk.1.2) (.slice Ao16 t304.length co16)) (fun _ hk => hk.2) (.slice Ao18 t307.length co18)) (fun _ hk => hk.2) (.slice Ao20 t310.length co20)) (fun _ hk => trivial)⟩, ⟨by (with_reducible repeat apply y2); exact Kd.R_mono (Kd.R_far (p := ⟨gb314, 1, none⟩) (Kd.R_far (p := ⟨gb314, 0, none⟩) (Kd.R_far (p := ⟨gb313, 1, none⟩) (Kd.R_far (p := ⟨gb313, 0, none⟩) (Kd.R_types (Kd.R_types HO312.out BK313.out (by decide)) BK314.out (by decide)) (fun _ hk => hk.1.2) (.slice Ao14 t301.length co14)) (fun _ hk => hk.1.2) (.slice Ao16 t304.length co16)) (fun _ hk => hk.2) (.slice Ao18 t307.length co18)) (fun _ hk => hk.2) (.slice Ao20 t310.length co20)) (fun _ hk => trivial)⟩, ⟨by (with_reducible repeat refine y4 ?_); refine yx ?_ NB299_314.out _; (with_reducible repeat refine y4 ?_); refine yx ?_ NB299_314.out _; (with_reducible repeat refine y4 ?_); refine yx ?_ NB299_313.out _; (with_reducible repeat refine y4 ?_); refine yx ?_ NB299_313.out _; (with_reducible repeat refine y4 ?_); exact BK299.out⟩, ⟨by (with_reducible repeat refine y4 ?_); refine yx ?_ NB300_314.out _; (with_reducible repeat refine y4 ?_); refine yx ?_ NB300_314.out _; (with_reducible repeat refine y4 ?_); refine yx ?_ NB300_313.out _; (with_reducible repeat refine y4 ?_); refine yx ?_ NB300_313.out _; (with_reducible repeat refine y4 ?_); exact BK300.out⟩, ⟨by (with_reducible repeat refine y4 ?_); refine yx ?_ NB313_314.out _; (with_reducible repeat refine y4 ?_); refine yx ?_ NB313_314.out _; (with_reducible repeat refine y4 ?_); refine yy (cs := #[.slice Ao14 t301.length co14, .slice none 0 0]) ?_ 1 _ rfl; (with_reducible repeat refine y4 ?_); refine yy (cs := #[.slice none 0 0, .slice none 0 0]) ?_ 0 _ rfl; (with_reducible repeat refine y4 ?_); exact BK313.out⟩, ⟨by (with_reducible repeat refine y4 ?_); refine yy (cs := #[.slice Ao18 t307.length co18, .slice none 0 0]) ?_ 1 _ rfl; (with_reducible repeat refine y4 ?_); refine yy (cs := #[.slice none 0 0, .slice none 0 0]) ?_ 0 _ rfl; (with_reducible repeat refine y4 ?_); refine yx ?_ NB314_313.out _; (with_reducible repeat refine y4 ?_); refine yx ?_ NB314_313.out _; (with_reducible repeat refine y4 ?_); exact BK314.out⟩, ⟨by repeat (first | (with_reducible first | exact HB.out | apply y3 | refine ys ?_ GE299.out | refine ys ?_ GE300.out | refine ys ?_ GE313.out | refine ys ?_ GE314.out) | exact HB.out)⟩⟩
 case round =>
  clear H'
  try clear c1
  try clear c2
  try clear p2
  obtain ⟨x9_1, x10_1, rfl, rfl, HA, HK1, HO_314000, HO_314001, HO_315000, HO_315001, BK299, BK300, BK313, BK314, HB⟩ := hrel
  cases gk with
  | zero => exact absurd HA.out (by simp [heraldlaw15_GuideNext.l0])
  | succ k1 =>
   have H := HA.out
   clear HA
   simp only [heraldlaw15_GuideNext.l0] at H
   by_cases c22 : x10_1 < (l2.length : Int)
   ·
    rw [if_pos c22] at H
    have c22b0 : decide (x10_1 < (l2.length : Int)) = true := decide_eq_true c22
    clear c22
    by_cases c23 : 0 ≤ x10_1
    ·
     rw [if_pos c23] at H
     have c23b0 : decide (0 ≤ x10_1) = true := decide_eq_true c23
     clear c23
     replace H := Option.bind_eq_some_iff.mp H
     obtain ⟨t319, A240, H⟩ := H
     replace H : ((heraldref15_Next.f k1 t301 t304 t307 t310 x9_1 (rd l2 x10_1)).bind fun t321 => (if t319 = t321 then ((guide_Next.f k1 l0_0 l0_1 l1_0 l1_1 (wrap64 (x10_1 - 1)) (rd l2 x10_1)).bind fun t323 => ((heraldref15_Next.f k1 t301 t304 t307 t310 (wrap64 (x10_1 - 1)) (rd l2 x10_1)).bind fun t325 => (if t323 = t325 then (heraldlaw15_GuideNext.l0 k1 l2 t319 (wrap64 (x10_1 + 1)) l0_0 l0_1 l1_0 l1_1 t301 t304 t307 t310) else (none)))) else (none))) = some r := H
     have A24 := ym A240
     clear A240
     replace H := Option.bind_eq_some_iff.mp H
     obtain ⟨t321, A250, H⟩ := H
     replace H : (if t319 = t321 then ((guide_Next.f k1 l0_0 l0_1 l1_0 l1_1 (wrap64 (x10_1 - 1)) (rd l2 x10_1)).bind fun t323 => ((heraldref15_Next.f k1 t301 t304 t307 t310 (wrap64 (x10_1 - 1)) (rd l2 x10_1)).bind fun t325 => (if t323 = t325 then (heraldlaw15_GuideNext.l0 k1 l2 t319 (wrap64 (x10_1 + 1)) l0_0 l0_1 l1_0 l1_1 t301 t304 t307 t310) else (none)))) else (none)) = some r := H
     have A25 := ym A250
     clear A250
     by_cases c26 : t319 = t321
     ·
      rw [if_pos c26] at H
      have c26b0 : (t319 == t321) = true := beq_iff_eq.mpr c26
      have c26b1 : (t319 != t321) = false := bne_eq_false_iff_eq.mpr c26
      clear c26
      replace H := Option.bind_eq_some_iff.mp H
      obtain ⟨t323, A270, H⟩ := H
      replace H : ((heraldref15_Next.f k1 t301 t304 t307 t310 (wrap64 (x10_1 - 1)) (rd l2 x10_1)).bind fun t325 => (if t323 = t325 then (heraldlaw15_GuideNext.l0 k1 l2 t319 (wrap64 (x10_1 + 1)) l0_0 l0_1 l1_0 l1_1 t301 t304 t307 t310) else (none))) = some r := H
      have A27 := ym A270
      clear A270
      replace H := Option.bind_eq_some_iff.mp H
      obtain ⟨t325, A280, H⟩ := H
      replace H : (if t323 = t325 then (heraldlaw15_GuideNext.l0 k1 l2 t319 (wrap64 (x10_1 + 1)) l0_0 l0_1 l1_0 l1_1 t301 t304 t307 t310) else (none)) = some r := H
      have A28 := ym A280
      clear A280
      by_cases c29 : t323 = t325
      ·
       rw [if_pos c29] at H
       have c29b0 : (t323 == t325) = true := beq_iff_eq.mpr c29
       have c29b1 : (t323 != t325) = false := bne_eq_false_iff_eq.mpr c29
       clear c29
       have H' := ym H
       clear H
       try go_wp2
       have n0_ := ym (yh HO_314000.out)
       have n1_ := ym (yh HO_314001.out)
       have n2_ := ym (yh HO_315000.out)
       have n3_ := ym (yh HO_315001.out)
       have n4_ := ym (yt BK299.out)
       have n5_ := ym (yt BK300.out)
       have n6_ := ym (yt BK313.out)
       have n7_ := ym (yt BK314.out)
       have n8_ := ym (ye HB.out)
       clear HO_314000
       clear HO_314001
       clear HO_315000
       clear HO_315001
       clear BK299
       clear BK300
       clear BK313
       clear BK314
       clear HB
       have HO_314000 := n0_
       have HO_314001 := n1_
       have HO_315000 := n2_
       have HO_315001 := n3_
       have BK299 := n4_
       have BK300 := n5_
       have BK313 := n6_
       have BK314 := n7_
       have HB := n8_
       clear n0_ n1_ n2_ n3_ n4_ n5_ n6_ n7_ n8_
       have p318 : 0 ≤ (x10_1 : Int) := of_decide_eq_true y5
       have q318 : x10_1 < (l2.length : Int) := of_decide_eq_true y5
       obtain ⟨ad318, e318, hx318_0⟩ := Kd.at_int HR2.out x10_1 p318 q318
       have hw318_0 := hx318_0
       cases e318
       replace hx318_0 := (HB.out.cell (World.block_lt_of_cell? w _ hx318_0)).trans hx318_0
       replace p318 := eq_true p318
       replace q318 := eq_true q318
       refine start_ (n := 9) (S := fun w' => w'.cell? ⟨gb299, 0, none⟩ = some (.slice A0_0 l0_0.length c0_0) ∧ w'.cell? ⟨gb299, 1, none⟩ = some (.slice A0_1 l0_1.length c0_1) ∧ w'.cell? ⟨gb300, 0, none⟩ = some (.slice A1_0 l1_0.length c1_0) ∧ w'.cell? ⟨gb300, 1, none⟩ = some (.slice A1_1 l1_1.length c1_1) ∧ w'.cell? (ad318.add (x10_1).toNat) = some (.int .i64 (rd l2 x10_1))) (ds := []) #[o_, o_, o_, o_, o_, o_, o_, o_, o_] (by kernel_rfl) rfl rfl ⟨(yw BK299.out 0).trans rfl, (yw BK299.out 1).trans rfl, (yw BK300.out 0).trans rfl, (yw BK300.out 1).trans rfl, ((HB.out.cell (World.block_lt_of_cell? w _ hw318_0)).trans hw318_0)⟩ (fun hHeld => ?_); refine with_tabW heraldlaw15_GuideNext.tab6 heraldlaw15_GuideNext.bits6 (fun HT_ HW_ => ?_)
       generalize wr.drew = w30 at HO_314000 HO_314001 HO_315000 HO_315001 BK299 BK300 BK313 BK314 HB hx318_0 hHeld ⊢
       refine zt (i := 2) (N := some 24) HT_ ?_
       refine zt (i := 3) (N := some 25) HT_ ?_
       refine zt (i := 4) (N := some 26) HT_ ?_
       refine zt (i := 5) (N := some 27) HT_ ?_
       refine zw (i := 0) (N := some 22) HT_ HW_ hHeld ?_ (hv := (by rintro w' ⟨s0, s1, s2, s3, s4⟩; go_simp; with_reducible rfl))
       refine zw (i := 1) (N := some 23) HT_ HW_ hHeld ?_ (hv := (by rintro w' ⟨s0, s1, s2, s3, s4⟩; go_simp; with_reducible rfl))
       refine zw (i := 6) (N := some 28) HT_ HW_ hHeld ?_ (hv := (by rintro w' ⟨s0, s1, s2, s3, s4⟩; go_simp; with_reducible rfl))
       refine one_ (i := 7) (N := some 29) #[i_, i_, i_, i_, i_, i_, i_, i_, o_] rfl rfl (one_of HT_.out (by kernel_rfl)) (by decide) (fun K hK => ?_)
       refine goes_ Try.func25 (by kernel_rfl) rfl #[.agg #[.slice A0_0 l0_0.length c0_0, .slice A0_1 l0_1.length c0_1], .agg #[.slice A1_0 l1_0.length c1_0, .slice A1_1 l1_1.length c1_1], .int .i64 x9_1, .int .i64 (rd l2 x10_1)] (by rfl) rfl rfl y6 ?_
       with_reducible refine (guide_Next.calls k1 _ _ l0_0 _ _ l0_1 _ _ l1_0 _ _ l1_1 x9_1 (rd l2 x10_1) t319 _ ?side1 ?side2 ?side3 ?side4 ?side5 ?side6 ?side7 ?side8 A24.out).mono ?_
       (case side1 => exact y9 HR0_0)
       (case side2 => exact HC0_0.out)
       (case side3 => exact y9 HR0_1)
       (case side4 => exact HC0_1.out)
       (case side5 => exact y9 HR1_0)
       (case side6 => exact HC1_0.out)
       (case side7 => exact y9 HR1_1)
       (case side8 => exact HC1_1.out)
       rintro e w31 ⟨rfl, hb⟩
       refine ⟨_, rfl, ?_⟩
       have n0_ := ym (yp (by (with_reducible repeat apply y2); exact HO_314000.out) hb)
       have n1_ := ym (yp (by (with_reducible repeat apply y2); exact HO_314001.out) hb)
       have n2_ := ym (yp (by (with_reducible repeat apply y2); exact HO_315000.out) hb)
       have n3_ := ym (yp (by (with_reducible repeat apply y2); exact HO_315001.out) hb)
       have n4_ := ym (yq (g := gb299) (o := .cells #[.slice A0_0 l0_0.length c0_0, .slice A0_1 l0_1.length c0_1] 25 (0, 0)) (yc BK299) hb)
       have n5_ := ym (yq (g := gb300) (o := .cells #[.slice A1_0 l1_0.length c1_0, .slice A1_1 l1_1.length c1_1] 52 (0, 0)) (yc BK300) hb)
       have n6_ := ym (yq (g := gb313) (o := .cells #[.slice Ao14 t301.length co14, .slice Ao16 t304.length co16] 28 (0, 0)) (yc BK313) hb)
       have n7_ := ym (yq (g := gb314) (o := .cells #[.slice Ao18 t307.length co18, .slice Ao20 t310.length co20] 56 (0, 0)) (yc BK314) hb)
       have n8_ := ym (yn yb hb)
       clear HO_314000
       clear HO_314001
       clear HO_315000
       clear HO_315001
       clear BK299
       clear BK300
       clear BK313
       clear BK314
       clear HB
       have HO_314000 := n0_
       have HO_314001 := n1_
       have HO_315000 := n2_
       have HO_315001 := n3_
       have BK299 := n4_
       have BK300 := n5_
       have BK313 := n6_
       have BK314 := n7_
       have HB := n8_
       clear n0_ n1_ n2_ n3_ n4_ n5_ n6_ n7_ n8_
       (try clear hb)
       (try clear hb2)
       (try clear hk)
       (try clear hi)
       refine hK.out _ _ ⟨(yw BK299.out 0).trans rfl, (yw BK299.out 1).trans rfl, (yw BK300.out 0).trans rfl, (yw BK300.out 1).trans rfl, ((HB.out.cell (World.block_lt_of_cell? w _ hw318_0)).trans hw318_0)⟩ (fun hHeld => ?_)
       clear hK K
       refine norm_ (a' := ?_) ?_ ?_
       rotate_left
       ·
        show Act.put _ (some 29) _ = _
        simp only [Act.put, y0, y1]
        rfl
       refine zt (i := 8) (N := some 11) HT_ ?_
       refine done_ (done_of HT_.out (by kernel_rfl)) ?_
       try go_wp2
       have n0_ := ym (yh HO_314000.out)
       have n1_ := ym (yh HO_314001.out)
       have n2_ := ym (yh HO_315000.out)
       have n3_ := ym (yh HO_315001.out)
       have n4_ := ym (yt BK299.out)
       have n5_ := ym (yt BK300.out)
       have n6_ := ym (yt BK313.out)
       have n7_ := ym (yt BK314.out)
       have n8_ := ym (ye HB.out)
       clear HO_314000
       clear HO_314001
       clear HO_315000
       clear HO_315001
       clear BK299
       clear BK300
       clear BK313
       clear BK314
       clear HB
       have HO_314000 := n0_
       have HO_314001 := n1_
       have HO_315000 := n2_
       have HO_315001 := n3_
       have BK299 := n4_
       have BK300 := n5_
       have BK313 := n6_
       have BK314 := n7_
       have HB := n8_
       clear n0_ n1_ n2_ n3_ n4_ n5_ n6_ n7_ n8_
       have p320 : 0 ≤ (x10_1 : Int) := of_decide_eq_true y5
       have q320 : x10_1 < (l2.length : Int) := of_decide_eq_true y5
       obtain ⟨ad320, e320, hx320_0⟩ := Kd.at_int HR2.out x10_1 p320 q320
       have hw320_0 := hx320_0
       obtain rfl : ad318 = ad320 := (by injection e320)
       replace hx320_0 := (HB.out.cell (World.block_lt_of_cell? w _ hx320_0)).trans hx320_0
       replace p320 := eq_true p320
       replace q320 := eq_true q320
       have p322 : 0 ≤ (x10_1 : Int) := of_decide_eq_true y5
       have q322 : x10_1 < (l2.length : Int) := of_decide_eq_true y5
       obtain ⟨ad322, e322, hx322_0⟩ := Kd.at_int HR2.out x10_1 p322 q322
       have hw322_0 := hx322_0
       obtain rfl : ad318 = ad322 := (by injection e322)
       replace hx322_0 := (HB.out.cell (World.block_lt_of_cell? w _ hx322_0)).trans hx322_0
       replace p322 := eq_true p322
       replace q322 := eq_true q322
       have p324 : 0 ≤ (x10_1 : Int) := of_decide_eq_true y5
       have q324 : x10_1 < (l2.length : Int) := of_decide_eq_true y5
       obtain ⟨ad324, e324, hx324_0⟩ := Kd.at_int HR2.out x10_1 p324 q324
       have hw324_0 := hx324_0
       obtain rfl : ad318 = ad324 := (by injection e324)
       replace hx324_0 := (HB.out.cell (World.block_lt_of_cell? w _ hx324_0)).trans hx324_0
       replace p324 := eq_true p324
       replace q324 := eq_true q324
       refine start_ (n := 31) (S := fun w' => w'.cell? ⟨gb313, 0, none⟩ = some (.slice Ao14 t301.length co14) ∧ w'.cell? ⟨gb313, 1, none⟩ = some (.slice Ao16 t304.length co16) ∧ w'.cell? ⟨gb314, 0, none⟩ = some (.slice Ao18 t307.length co18) ∧ w'.cell? ⟨gb314, 1, none⟩ = some (.slice Ao20 t310.length co20) ∧ w'.cell? ⟨gb299, 0, none⟩ = some (.slice A0_0 l0_0.length c0_0) ∧ w'.cell? ⟨gb299, 1, none⟩ = some (.slice A0_1 l0_1.length c0_1) ∧ w'.cell? ⟨gb300, 0, none⟩ = some (.slice A1_0 l1_0.length c1_0) ∧ w'.cell? ⟨gb300, 1, none⟩ = some (.slice A1_1 l1_1.length c1_1) ∧ w'.cell? (ad318.add (x10_1).toNat) = some (.int .i64 (rd l2 x10_1)) ∧ w'.cell? (ad318.add (x10_1).toNat) = some (.int .i64 (rd l2 x10_1)) ∧ w'.cell? (ad318.add (x10_1).toNat) = some (.int .i64 (rd l2 x10_1))) (ds := []) #[o_, o_, o_, o_, o_, o_, o_, o_, o_, o_, o_, o_, o_, o_, o_, o_, o_, o_, o_, o_, o_, o_, o_, o_, o_, o_, o_, o_, o_, o_, o_] (by kernel_rfl) rfl rfl ⟨(yw BK313.out 0).trans rfl, (yw BK313.out 1).trans rfl, (yw BK314.out 0).trans rfl, (yw BK314.out 1).trans rfl, (yw BK299.out 0).trans rfl, (yw BK299.out 1).trans rfl, (yw BK300.out 0).trans rfl, (yw BK300.out 1).trans rfl, ((HB.out.cell (World.block_lt_of_cell? w _ hw320_0)).trans hw320_0), ((HB.out.cell (World.block_lt_of_cell? w _ hw322_0)).trans hw322_0), ((HB.out.cell (World.block_lt_of_cell? w _ hw324_0)).trans hw324_0)⟩ (fun hHeld => ?_); refine with_tabW heraldlaw15_GuideNext.tab7 heraldlaw15_GuideNext.bits7 (fun HT_ HW_ => ?_)
       generalize w31.drew = w32 at HO_314000 HO_314001 HO_315000 HO_315001 BK299 BK300 BK313 BK314 HB hx320_0 hx322_0 hx324_0 hHeld ⊢
       refine zt (i := 0) (N := some 30) HT_ ?_
       refine zt (i := 3) (N := some 33) HT_ ?_
       refine zt (i := 4) (N := some 34) HT_ ?_
       refine zt (i := 5) (N := some 35) HT_ ?_
       refine zt (i := 6) (N := some 36) HT_ ?_
       refine zw (i := 1) (N := some 31) HT_ HW_ hHeld ?_ (hv := (by rintro w' ⟨s0, s1, s2, s3, s4, s5, s6, s7, s8, s9, s10⟩; go_simp; with_reducible rfl))
       refine zw (i := 2) (N := some 32) HT_ HW_ hHeld ?_ (hv := (by rintro w' ⟨s0, s1, s2, s3, s4, s5, s6, s7, s8, s9, s10⟩; go_simp; with_reducible rfl))
       refine zw (i := 7) (N := some 37) HT_ HW_ hHeld ?_ (hv := (by rintro w' ⟨s0, s1, s2, s3, s4, s5, s6, s7, s8, s9, s10⟩; go_simp; with_reducible rfl))
       refine one_ (i := 8) (N := some 38) #[i_, i_, i_, i_, i_, i_, i_, i_, i_, o_, o_, o_, o_, o_, o_, o_, o_, o_, o_, o_, o_, o_, o_, o_, o_, o_, o_, o_, o_, o_, o_] rfl rfl (one_of HT_.out (by kernel_rfl)) (by decide) (fun K hK => ?_)
       refine goes_ Try.func26 (by kernel_rfl) rfl #[.agg #[.slice Ao14 t301.length co14, .slice Ao16 t304.length co16], .agg #[.slice Ao18 t307.length co18, .slice Ao20 t310.length co20], .int .i64 x9_1, .int .i64 (rd l2 x10_1)] (by rfl) rfl rfl y6 ?_
       with_reducible refine (heraldref15_Next.calls k1 _ _ t301 _ _ t304 _ _ t307 _ _ t310 x9_1 (rd l2 x10_1) t321 _ ?side1 ?side2 ?side3 ?side4 ?side5 ?side6 ?side7 ?side8 A25.out).mono ?_
       (case side1 => repeat (first | exact (Kd.R_reads' HO_314000.out).2.2 | (with_reducible refine yi ?_ _) | (with_reducible refine yj ?_ _) | (with_reducible refine yk ?_)))
       (case side2 => exact (Kd.R_reads' HO_314000.out).2.1)
       (case side3 => repeat (first | exact (Kd.R_reads' HO_314001.out).2.2 | (with_reducible refine yi ?_ _) | (with_reducible refine yj ?_ _) | (with_reducible refine yk ?_)))
       (case side4 => exact (Kd.R_reads' HO_314001.out).2.1)
       (case side5 => repeat (first | exact (Kd.R_reads' HO_315000.out).2.2 | (with_reducible refine yi ?_ _) | (with_reducible refine yj ?_ _) | (with_reducible refine yk ?_)))
       (case side6 => exact (Kd.R_reads' HO_315000.out).2.1)
       (case side7 => repeat (first | exact (Kd.R_reads' HO_315001.out).2.2 | (with_reducible refine yi ?_ _) | (with_reducible refine yj ?_ _) | (with_reducible refine yk ?_)))
       (case side8 => exact (Kd.R_reads' HO_315001.out).2.1)
       rintro e w33 ⟨rfl, hb⟩
       refine ⟨_, rfl, ?_⟩
       have n0_ := ym (yp (by (with_reducible repeat apply y2); exact HO_314000.out) hb)
       have n1_ := ym (yp (by (with_reducible repeat apply y2); exact HO_314001.out) hb)
       have n2_ := ym (yp (by (with_reducible repeat apply y2); exact HO_315000.out) hb)
       have n3_ := ym (yp (by (with_reducible repeat apply y2); exact HO_315001.out) hb)
       have n4_ := ym (yq (g := gb299) (o := .cells #[.slice A0_0 l0_0.length c0_0, .slice A0_1 l0_1.length c0_1] 25 (0, 0)) (yc BK299) hb)
       have n5_ := ym (yq (g := gb300) (o := .cells #[.slice A1_0 l1_0.length c1_0, .slice A1_1 l1_1.length c1_1] 52 (0, 0)) (yc BK300) hb)
       have n6_ := ym (yq (g := gb313) (o := .cells #[.slice Ao14 t301.length co14, .slice Ao16 t304.length co16] 28 (0, 0)) (yc BK313) hb)
       have n7_ := ym (yq (g := gb314) (o := .cells #[.slice Ao18 t307.length co18, .slice Ao20 t310.length co20] 56 (0, 0)) (yc BK314) hb)
       have n8_ := ym (yn yb hb)
       clear HO_314000
       clear HO_314001
       clear HO_315000
       clear HO_315001
       clear BK299
       clear BK300
       clear BK313
       clear BK314
       clear HB
       have HO_314000 := n0_
       have HO_314001 := n1_
       have HO_315000 := n2_
       have HO_315001 := n3_
       have BK299 := n4_
       have BK300 := n5_
       have BK313 := n6_
       have BK314 := n7_
       have HB := n8_
       clear n0_ n1_ n2_ n3_ n4_ n5_ n6_ n7_ n8_
       (try clear hb)
       (try clear hb2)
       (try clear hk)
       (try clear hi)
       refine hK.out _ _ ⟨(yw BK313.out 0).trans rfl, (yw BK313.out 1).trans rfl, (yw BK314.out 0).trans rfl, (yw BK314.out 1).trans rfl, (yw BK299.out 0).trans rfl, (yw BK299.out 1).trans rfl, (yw BK300.out 0).trans rfl, (yw BK300.out 1).trans rfl, ((HB.out.cell (World.block_lt_of_cell? w _ hw320_0)).trans hw320_0), ((HB.out.cell (World.block_lt_of_cell? w _ hw322_0)).trans hw322_0), ((HB.out.cell (World.block_lt_of_cell? w _ hw324_0)).trans hw324_0)⟩ (fun hHeld => ?_)
       clear hK K
       refine norm_ (a' := ?_) ?_ ?_
       rotate_left
       ·
        show Act.put _ (some 38) _ = _
        simp only [Act.put, y0, y1]
        rfl
       refine zt (i := 9) (N := some 39) HT_ ?_
       refine zt (i := 10) (N := some 40) HT_ ?_
       refine zt (i := 13) (N := some 43) HT_ ?_
       refine zt (i := 14) (N := some 44) HT_ ?_
       refine zt (i := 15) (N := some 45) HT_ ?_
       refine zt (i := 16) (N := some 46) HT_ ?_
       refine zt (i := 17) (N := some 47) HT_ ?_
       refine zt (i := 22) (N := some 52) HT_ ?_
       refine zt (i := 23) (N := some 53) HT_ ?_
       refine zt (i := 24) (N := some 54) HT_ ?_
       refine zt (i := 25) (N := some 55) HT_ ?_
       refine zt (i := 26) (N := some 56) HT_ ?_
       refine zw (i := 11) (N := some 41) HT_ HW_ hHeld ?_ (hv := (by rintro w' ⟨s0, s1, s2, s3, s4, s5, s6, s7, s8, s9, s10⟩; go_simp; with_reducible rfl))
       refine zw (i := 12) (N := some 42) HT_ HW_ hHeld ?_ (hv := (by rintro w' ⟨s0, s1, s2, s3, s4, s5, s6, s7, s8, s9, s10⟩; go_simp; with_reducible rfl))
       refine zw (i := 18) (N := some 48) HT_ HW_ hHeld ?_ (hv := (by rintro w' ⟨s0, s1, s2, s3, s4, s5, s6, s7, s8, s9, s10⟩; go_simp; with_reducible rfl))
       refine zw (i := 20) (N := some 50) HT_ HW_ hHeld ?_ (hv := (by rintro w' ⟨s0, s1, s2, s3, s4, s5, s6, s7, s8, s9, s10⟩; go_simp; with_reducible rfl))
       refine zw (i := 21) (N := some 51) HT_ HW_ hHeld ?_ (hv := (by rintro w' ⟨s0, s1, s2, s3, s4, s5, s6, s7, s8, s9, s10⟩; go_simp; with_reducible rfl))
       refine zw (i := 27) (N := some 57) HT_ HW_ hHeld ?_ (hv := (by rintro w' ⟨s0, s1, s2, s3, s4, s5, s6, s7, s8, s9, s10⟩; go_simp; with_reducible rfl))
       refine one_ (i := 19) (N := some 49) #[i_, i_, i_, i_, i_, i_, i_, i_, i_, i_, i_, i_, i_, i_, i_, i_, i_, i_, i_, i_, i_, i_, i_, i_, i_, i_, i_, i_, o_, o_, o_] rfl rfl (one_of HT_.out (by kernel_rfl)) (by decide) (fun K hK => ?_)
       refine goes_ Try.func25 (by kernel_rfl) rfl #[.agg #[.slice A0_0 l0_0.length c0_0, .slice A0_1 l0_1.length c0_1], .agg #[.slice A1_0 l1_0.length c1_0, .slice A1_1 l1_1.length c1_1], .int .i64 (wrap64 (x10_1 - 1)), .int .i64 (rd l2 x10_1)] (by rfl) rfl rfl y6 ?_
       with_reducible refine (guide_Next.calls k1 _ _ l0_0 _ _ l0_1 _ _ l1_0 _ _ l1_1 (wrap64 (x10_1 - 1)) (rd l2 x10_1) t323 _ ?side1 ?side2 ?side3 ?side4 ?side5 ?side6 ?side7 ?side8 A27.out).mono ?_
       (case side1 => exact y9 HR0_0)
       (case side2 => exact HC0_0.out)
       (case side3 => exact y9 HR0_1)
       (case side4 => exact HC0_1.out)
       (case side5 => exact y9 HR1_0)
       (case side6 => exact HC1_0.out)
       (case side7 => exact y9 HR1_1)
       (case side8 => exact HC1_1.out)
       rintro e w34 ⟨rfl, hb⟩
       refine ⟨_, rfl, ?_⟩
       have n0_ := ym (yp (by (with_reducible repeat apply y2); exact HO_314000.out) hb)
       have n1_ := ym (yp (by (with_reducible repeat apply y2); exact HO_314001.out) hb)
       have n2_ := ym (yp (by (with_reducible repeat apply y2); exact HO_315000.out) hb)
       have n3_ := ym (yp (by (with_reducible repeat apply y2); exact HO_315001.out) hb)
       have n4_ := ym (yq (g := gb299) (o := .cells #[.slice A0_0 l0_0.length c0_0, .slice A0_1 l0_1.length c0_1] 25 (0, 0)) (yc BK299) hb)
       have n5_ := ym (yq (g := gb300) (o := .cells #[.slice A1_0 l1_0.length c1_0, .slice A1_1 l1_1.length c1_1] 52 (0, 0)) (yc BK300) hb)
       have n6_ := ym (yq (g := gb313) (o := .cells #[.slice Ao14 t301.length co14, .slice Ao16 t304.length co16] 28 (0, 0)) (yc BK313) hb)
       have n7_ := ym (yq (g := gb314) (o := .cells #[.slice Ao18 t307.length co18, .slice Ao20 t310.length co20] 56 (0, 0)) (yc BK314) hb)
       have n8_ := ym (yn yb hb)
       clear HO_314000
       clear HO_314001
       clear HO_315000
       clear HO_315001
       clear BK299
       clear BK300
       clear BK313
       clear BK314
       clear HB
       have HO_314000 := n0_
       have HO_314001 := n1_
       have HO_315000 := n2_
       have HO_315001 := n3_
       have BK299 := n4_
       have BK300 := n5_
       have BK313 := n6_
       have BK314 := n7_
       have HB := n8_
       clear n0_ n1_ n2_ n3_ n4_ n5_ n6_ n7_ n8_
       (try clear hb)
       (try clear hb2)
       (try clear hk)
       (try clear hi)
       refine hK.out _ _ ⟨(yw BK313.out 0).trans rfl, (yw BK313.out 1).trans rfl, (yw BK314.out 0).trans rfl, (yw BK314.out 1).trans rfl, (yw BK299.out 0).trans rfl, (yw BK299.out 1).trans rfl, (yw BK300.out 0).trans rfl, (yw BK300.out 1).trans rfl, ((HB.out.cell (World.block_lt_of_cell? w _ hw320_0)).trans hw320_0), ((HB.out.cell (World.block_lt_of_cell? w _ hw322_0)).trans hw322_0), ((HB.out.cell (World.block_lt_of_cell? w _ hw324_0)).trans hw324_0)⟩ (fun hHeld => ?_)
       clear hK K
       refine norm_ (a' := ?_) ?_ ?_
       rotate_left
       ·
        show Act.put _ (some 49) _ = _
        simp only [Act.put, y0, y1]
        rfl
       refine one_ (i := 28) (N := some 58) #[i_, i_, i_, i_, i_, i_, i_, i_, i_, i_, i_, i_, i_, i_, i_, i_, i_, i_, i_, i_, i_, i_, i_, i_, i_, i_, i_, i_, i_, o_, o_] rfl rfl (one_of HT_.out (by kernel_rfl)) (by decide) (fun K hK => ?_)
       refine goes_ Try.func26 (by kernel_rfl) rfl #[.agg #[.slice Ao14 t301.length co14, .slice Ao16 t304.length co16], .agg #[.slice Ao18 t307.length co18, .slice Ao20 t310.length co20], .int .i64 (wrap64 (x10_1 - 1)), .int .i64 (rd l2 x10_1)] (by rfl) rfl rfl y6 ?_
       with_reducible refine (heraldref15_Next.calls k1 _ _ t301 _ _ t304 _ _ t307 _ _ t310 (wrap64 (x10_1 - 1)) (rd l2 x10_1) t325 _ ?side1 ?side2 ?side3 ?side4 ?side5 ?side6 ?side7 ?side8 A28.out).mono ?_
       (case side1 => repeat (first | exact (Kd.R_reads' HO_314000.out).2.2 | (with_reducible refine yi ?_ _) | (with_reducible refine yj ?_ _) | (with_reducible refine yk ?_)))
       (case side2 => exact (Kd.R_reads' HO_314000.out).2.1)
       (case side3 => repeat (first | exact (Kd.R_reads' HO_314001.out).2.2 | (with_reducible refine yi ?_ _) | (with_reducible refine yj ?_ _) | (with_reducible refine yk ?_)))
       (case side4 => exact (Kd.R_reads' HO_314001.out).2.1)
       (case side5 => repeat (first | exact (Kd.R_reads' HO_315000.out).2.2 | (with_reducible refine yi ?_ _) | (with_reducible refine yj ?_ _) | (with_reducible refine yk ?_)))
       (case side6 => exact (Kd.R_reads' HO_315000.out).2.1)
       (case side7 => repeat (first | exact (Kd.R_reads' HO_315001.out).2.2 | (with_reducible refine yi ?_ _) | (with_reducible refine yj ?_ _) | (with_reducible refine yk ?_)))
       (case side8 => exact (Kd.R_reads' HO_315001.out).2.1)
       rintro e w35 ⟨rfl, hb⟩
       refine ⟨_, rfl, ?_⟩
       have n0_ := ym (yp (by (with_reducible repeat apply y2); exact HO_314000.out) hb)
       have n1_ := ym (yp (by (with_reducible repeat apply y2); exact HO_314001.out) hb)
       have n2_ := ym (yp (by (with_reducible repeat apply y2); exact HO_315000.out) hb)
       have n3_ := ym (yp (by (with_reducible repeat apply y2); exact HO_315001.out) hb)
       have n4_ := ym (yq (g := gb299) (o := .cells #[.slice A0_0 l0_0.length c0_0, .slice A0_1 l0_1.length c0_1] 25 (0, 0)) (yc BK299) hb)
       have n5_ := ym (yq (g := gb300) (o := .cells #[.slice A1_0 l1_0.length c1_0, .slice A1_1 l1_1.length c1_1] 52 (0, 0)) (yc BK300) hb)
       have n6_ := ym (yq (g := gb313) (o := .cells #[.slice Ao14 t301.length co14, .slice Ao16 t304.length co16] 28 (0, 0)) (yc BK313) hb)
       have n7_ := ym (yq (g := gb314) (o := .cells #[.slice Ao18 t307.length co18, .slice Ao20 t310.length co20] 56 (0, 0)) (yc BK314) hb)
       have n8_ := ym (yn yb hb)
       clear HO_314000
       clear HO_314001
       clear HO_315000
       clear HO_315001
       clear BK299
       clear BK300
       clear BK313
       clear BK314
       clear HB
       have HO_314000 := n0_
       have HO_314001 := n1_
       have HO_315000 := n2_
       have HO_315001 := n3_
       have BK299 := n4_
       have BK300 := n5_
       have BK313 := n6_
       have BK314 := n7_
       have HB := n8_
       clear n0_ n1_ n2_ n3_ n4_ n5_ n6_ n7_ n8_
       (try clear hb)
       (try clear hb2)
       (try clear hk)
       (try clear hi)
       refine hK.out _ _ ⟨(yw BK313.out 0).trans rfl, (yw BK313.out 1).trans rfl, (yw BK314.out 0).trans rfl, (yw BK314.out 1).trans rfl, (yw BK299.out 0).trans rfl, (yw BK299.out 1).trans rfl, (yw BK300.out 0).trans rfl, (yw BK300.out 1).trans rfl, ((HB.out.cell (World.block_lt_of_cell? w _ hw320_0)).trans hw320_0), ((HB.out.cell (World.block_lt_of_cell? w _ hw322_0)).trans hw322_0), ((HB.out.cell (World.block_lt_of_cell? w _ hw324_0)).trans hw324_0)⟩ (fun hHeld => ?_)
       clear hK K
       refine norm_ (a' := ?_) ?_ ?_
       rotate_left
       ·
        show Act.put _ (some 58) _ = _
        simp only [Act.put, y0, y1]
        rfl
       refine zt (i := 29) (N := some 59) HT_ ?_
       refine zt (i := 30) (N := some 60) HT_ ?_
       refine done_ (done_of HT_.out (by kernel_rfl)) ?_
       try go_wp2
       go_roundg k1
       case measure => have := HK1.out; omega
       case rel => exact ⟨(t319), (wrap64 (x10_1 + 1)), y7, y7, H', ⟨by have := HK1.out; omega⟩, ⟨by (with_reducible repeat apply y2); exact HO_314000.out⟩, ⟨by (with_reducible repeat apply y2); exact HO_314001.out⟩, ⟨by (with_reducible repeat apply y2); exact HO_315000.out⟩, ⟨by (with_reducible repeat apply y2); exact HO_315001.out⟩, ⟨by (with_reducible repeat refine y4 ?_); exact BK299.out⟩, ⟨by (with_reducible repeat refine y4 ?_); exact BK300.out⟩, ⟨by (with_reducible repeat refine y4 ?_); exact BK313.out⟩, ⟨by (with_reducible repeat refine y4 ?_); exact BK314.out⟩, ⟨by repeat (first | (with_reducible first | exact HB.out | apply y3 | refine ys ?_ GE299.out | refine ys ?_ GE300.out | refine ys ?_ GE313.out | refine ys ?_ GE314.out) | exact HB.out)⟩⟩
      rw [if_neg c29] at H
      exact absurd H (by simp)
     rw [if_neg c26] at H
     have c26b0 : (t319 == t321) = false := beq_eq_false_iff_ne.mpr c26
     have c26b1 : (t319 != t321) = true := bne_iff_ne.mpr c26
     exact absurd H (by simp)
    rw [if_neg c23] at H
    exact absurd H (by simp)
   rw [if_neg c22] at H
   have c22b0 : decide (x10_1 < (l2.length : Int)) = false := decide_eq_false c22
   clear c22
   replace H := Option.bind_eq_some_iff.mp H
   obtain ⟨t315, A360, H⟩ := H
   replace H : (if t315 = true then ((guide_State.f k1 l0_0 l0_1 l1_0 l1_1 l2).bind fun t316 => ((heraldref15_State.f k1 t301 t304 t307 t310 l2).bind fun t317 => (some (t316 == t317)))) else (none)) = some r := H
   have A36 := ym A360
   clear A360
   by_cases c37 : t315 = true
   ·
    subst c37
    have H1 : ((guide_State.f k1 l0_0 l0_1 l1_0 l1_1 l2).bind fun t316 => ((heraldref15_State.f k1 t301 t304 t307 t310 l2).bind fun t317 => (some (t316 == t317)))) = some r := by rw [if_pos rfl] at H; exact H
    clear H
    have H := H1
    clear H1
    replace H := Option.bind_eq_some_iff.mp H
    obtain ⟨t316, A380, H⟩ := H
    replace H : ((heraldref15_State.f k1 t301 t304 t307 t310 l2).bind fun t317 => (some (t316 == t317))) = some r := H
    have A38 := ym A380
    clear A380
    replace H := Option.bind_eq_some_iff.mp H
    obtain ⟨t317, A390, H⟩ := H
    replace H : (some (t316 == t317)) = some r := H
    have A39 := ym A390
    clear A390
    obtain rfl := Option.some.inj H
    try go_wp2
    have n0_ := ym (yh HO_314000.out)
    have n1_ := ym (yh HO_314001.out)
    have n2_ := ym (yh HO_315000.out)
    have n3_ := ym (yh HO_315001.out)
    have n4_ := ym (yt BK299.out)
    have n5_ := ym (yt BK300.out)
    have n6_ := ym (yt BK313.out)
    have n7_ := ym (yt BK314.out)
    have n8_ := ym (ye HB.out)
    clear HO_314000
    clear HO_314001
    clear HO_315000
    clear HO_315001
    clear BK299
    clear BK300
    clear BK313
    clear BK314
    clear HB
    have HO_314000 := n0_
    have HO_314001 := n1_
    have HO_315000 := n2_
    have HO_315001 := n3_
    have BK299 := n4_
    have BK300 := n5_
    have BK313 := n6_
    have BK314 := n7_
    have HB := n8_
    clear n0_ n1_ n2_ n3_ n4_ n5_ n6_ n7_ n8_
    refine start_ (n := 13) (S := fun w' => w'.cell? ⟨gb299, 0, none⟩ = some (.slice A0_0 l0_0.length c0_0) ∧ w'.cell? ⟨gb299, 1, none⟩ = some (.slice A0_1 l0_1.length c0_1) ∧ w'.cell? ⟨gb300, 0, none⟩ = some (.slice A1_0 l1_0.length c1_0) ∧ w'.cell? ⟨gb300, 1, none⟩ = some (.slice A1_1 l1_1.length c1_1) ∧ w'.cell? ⟨gb313, 0, none⟩ = some (.slice Ao14 t301.length co14) ∧ w'.cell? ⟨gb313, 1, none⟩ = some (.slice Ao16 t304.length co16) ∧ w'.cell? ⟨gb314, 0, none⟩ = some (.slice Ao18 t307.length co18) ∧ w'.cell? ⟨gb314, 1, none⟩ = some (.slice Ao20 t310.length co20)) (ds := []) #[o_, o_, o_, o_, o_, o_, o_, o_, o_, o_, o_, o_, o_] (by kernel_rfl) rfl rfl ⟨(yw BK299.out 0).trans rfl, (yw BK299.out 1).trans rfl, (yw BK300.out 0).trans rfl, (yw BK300.out 1).trans rfl, (yw BK313.out 0).trans rfl, (yw BK313.out 1).trans rfl, (yw BK314.out 0).trans rfl, (yw BK314.out 1).trans rfl⟩ (fun hHeld => ?_); refine with_tabW heraldlaw15_GuideNext.tab10 heraldlaw15_GuideNext.bits10 (fun HT_ HW_ => ?_)
    generalize wr.drew = w40 at HO_314000 HO_314001 HO_315000 HO_315001 BK299 BK300 BK313 BK314 HB hHeld ⊢
    refine one_ (i := 0) (N := some 62) #[i_, o_, o_, o_, o_, o_, o_, o_, o_, o_, o_, o_, o_] rfl rfl (one_of HT_.out (by kernel_rfl)) (by decide) (fun K hK => ?_)
    refine goes_ Try.func14 (by kernel_rfl) rfl #[] (by rfl) rfl rfl y6 ?_
    with_reducible refine (heraldlaw15_awake.calls k1  true _ A36.out).mono ?_
    rintro e w41 ⟨rfl, hb⟩
    refine ⟨_, rfl, ?_⟩
    have n0_ := ym (yp (by (with_reducible repeat apply y2); exact HO_314000.out) hb)
    have n1_ := ym (yp (by (with_reducible repeat apply y2); exact HO_314001.out) hb)
    have n2_ := ym (yp (by (with_reducible repeat apply y2); exact HO_315000.out) hb)
    have n3_ := ym (yp (by (with_reducible repeat apply y2); exact HO_315001.out) hb)
    have n4_ := ym (yq (g := gb299) (o := .cells #[.slice A0_0 l0_0.length c0_0, .slice A0_1 l0_1.length c0_1] 25 (0, 0)) (yc BK299) hb)
    have n5_ := ym (yq (g := gb300) (o := .cells #[.slice A1_0 l1_0.length c1_0, .slice A1_1 l1_1.length c1_1] 52 (0, 0)) (yc BK300) hb)
    have n6_ := ym (yq (g := gb313) (o := .cells #[.slice Ao14 t301.length co14, .slice Ao16 t304.length co16] 28 (0, 0)) (yc BK313) hb)
    have n7_ := ym (yq (g := gb314) (o := .cells #[.slice Ao18 t307.length co18, .slice Ao20 t310.length co20] 56 (0, 0)) (yc BK314) hb)
    have n8_ := ym (yn yb hb)
    clear HO_314000
    clear HO_314001
    clear HO_315000
    clear HO_315001
    clear BK299
    clear BK300
    clear BK313
    clear BK314
    clear HB
    have HO_314000 := n0_
    have HO_314001 := n1_
    have HO_315000 := n2_
    have HO_315001 := n3_
    have BK299 := n4_
    have BK300 := n5_
    have BK313 := n6_
    have BK314 := n7_
    have HB := n8_
    clear n0_ n1_ n2_ n3_ n4_ n5_ n6_ n7_ n8_
    (try clear hb)
    (try clear hb2)
    (try clear hk)
    (try clear hi)
    refine hK.out _ _ ⟨(yw BK299.out 0).trans rfl, (yw BK299.out 1).trans rfl, (yw BK300.out 0).trans rfl, (yw BK300.out 1).trans rfl, (yw BK313.out 0).trans rfl, (yw BK313.out 1).trans rfl, (yw BK314.out 0).trans rfl, (yw BK314.out 1).trans rfl⟩ (fun hHeld => ?_)
    clear hK K
    refine norm_ (a' := ?_) ?_ ?_
    rotate_left
    ·
     show Act.put _ (some 62) _ = _
     simp only [Act.put, y0, y1]
     rfl
    refine zt (i := 1) (N := some 63) HT_ ?_
    refine zt (i := 4) (N := some 66) HT_ ?_
    refine zt (i := 8) (N := some 70) HT_ ?_
    refine zw (i := 2) (N := some 64) HT_ HW_ hHeld ?_ (hv := (by rintro w' ⟨s0, s1, s2, s3, s4, s5, s6, s7⟩; go_simp; with_reducible rfl))
    refine zw (i := 3) (N := some 65) HT_ HW_ hHeld ?_ (hv := (by rintro w' ⟨s0, s1, s2, s3, s4, s5, s6, s7⟩; go_simp; with_reducible rfl))
    refine zw (i := 6) (N := some 68) HT_ HW_ hHeld ?_ (hv := (by rintro w' ⟨s0, s1, s2, s3, s4, s5, s6, s7⟩; go_simp; with_reducible rfl))
    refine zw (i := 7) (N := some 69) HT_ HW_ hHeld ?_ (hv := (by rintro w' ⟨s0, s1, s2, s3, s4, s5, s6, s7⟩; go_simp; with_reducible rfl))
    refine one_ (i := 5) (N := some 67) #[i_, i_, i_, i_, i_, i_, i_, i_, i_, o_, o_, o_, o_] rfl rfl (one_of HT_.out (by kernel_rfl)) (by decide) (fun K hK => ?_)
    refine goes_ Try.func27 (by kernel_rfl) rfl #[.agg #[.slice A0_0 l0_0.length c0_0, .slice A0_1 l0_1.length c0_1], .agg #[.slice A1_0 l1_0.length c1_0, .slice A1_1 l1_1.length c1_1], .slice A2 l2.length c2] (by rfl) rfl rfl y6 ?_
    with_reducible refine (guide_State.calls k1 _ _ l0_0 _ _ l0_1 _ _ l1_0 _ _ l1_1 _ _ l2 t316 _ ?side1 ?side2 ?side3 ?side4 ?side5 ?side6 ?side7 ?side8 ?side9 ?side10 A38.out).mono ?_
    (case side1 => exact y9 HR0_0)
    (case side2 => exact HC0_0.out)
    (case side3 => exact y9 HR0_1)
    (case side4 => exact HC0_1.out)
    (case side5 => exact y9 HR1_0)
    (case side6 => exact HC1_0.out)
    (case side7 => exact y9 HR1_1)
    (case side8 => exact HC1_1.out)
    (case side9 => exact y9 HR2)
    (case side10 => exact HC2.out)
    rintro e w42 ⟨rfl, hb⟩
    refine ⟨_, rfl, ?_⟩
    have n0_ := ym (yp (by (with_reducible repeat apply y2); exact HO_314000.out) hb)
    have n1_ := ym (yp (by (with_reducible repeat apply y2); exact HO_314001.out) hb)
    have n2_ := ym (yp (by (with_reducible repeat apply y2); exact HO_315000.out) hb)
    have n3_ := ym (yp (by (with_reducible repeat apply y2); exact HO_315001.out) hb)
    have n4_ := ym (yq (g := gb299) (o := .cells #[.slice A0_0 l0_0.length c0_0, .slice A0_1 l0_1.length c0_1] 25 (0, 0)) (yc BK299) hb)
    have n5_ := ym (yq (g := gb300) (o := .cells #[.slice A1_0 l1_0.length c1_0, .slice A1_1 l1_1.length c1_1] 52 (0, 0)) (yc BK300) hb)
    have n6_ := ym (yq (g := gb313) (o := .cells #[.slice Ao14 t301.length co14, .slice Ao16 t304.length co16] 28 (0, 0)) (yc BK313) hb)
    have n7_ := ym (yq (g := gb314) (o := .cells #[.slice Ao18 t307.length co18, .slice Ao20 t310.length co20] 56 (0, 0)) (yc BK314) hb)
    have n8_ := ym (yn yb hb)
    clear HO_314000
    clear HO_314001
    clear HO_315000
    clear HO_315001
    clear BK299
    clear BK300
    clear BK313
    clear BK314
    clear HB
    have HO_314000 := n0_
    have HO_314001 := n1_
    have HO_315000 := n2_
    have HO_315001 := n3_
    have BK299 := n4_
    have BK300 := n5_
    have BK313 := n6_
    have BK314 := n7_
    have HB := n8_
    clear n0_ n1_ n2_ n3_ n4_ n5_ n6_ n7_ n8_
    (try clear hb)
    (try clear hb2)
    (try clear hk)
    (try clear hi)
    refine hK.out _ _ ⟨(yw BK299.out 0).trans rfl, (yw BK299.out 1).trans rfl, (yw BK300.out 0).trans rfl, (yw BK300.out 1).trans rfl, (yw BK313.out 0).trans rfl, (yw BK313.out 1).trans rfl, (yw BK314.out 0).trans rfl, (yw BK314.out 1).trans rfl⟩ (fun hHeld => ?_)
    clear hK K
    refine norm_ (a' := ?_) ?_ ?_
    rotate_left
    ·
     show Act.put _ (some 67) _ = _
     simp only [Act.put, y0, y1]
     rfl
    refine one_ (i := 9) (N := some 71) #[i_, i_, i_, i_, i_, i_, i_, i_, i_, i_, o_, o_, o_] rfl rfl (one_of HT_.out (by kernel_rfl)) (by decide) (fun K hK => ?_)
    refine goes_ Try.func28 (by kernel_rfl) rfl #[.agg #[.slice Ao14 t301.length co14, .slice Ao16 t304.length co16], .agg #[.slice Ao18 t307.length co18, .slice Ao20 t310.length co20], .slice A2 l2.length c2] (by rfl) rfl rfl y6 ?_
    with_reducible refine (heraldref15_State.calls k1 _ _ t301 _ _ t304 _ _ t307 _ _ t310 _ _ l2 t317 _ ?side1 ?side2 ?side3 ?side4 ?side5 ?side6 ?side7 ?side8 ?side9 ?side10 A39.out).mono ?_
    (case side1 => repeat (first | exact (Kd.R_reads' HO_314000.out).2.2 | (with_reducible refine yi ?_ _) | (with_reducible refine yj ?_ _) | (with_reducible refine yk ?_)))
    (case side2 => exact (Kd.R_reads' HO_314000.out).2.1)
    (case side3 => repeat (first | exact (Kd.R_reads' HO_314001.out).2.2 | (with_reducible refine yi ?_ _) | (with_reducible refine yj ?_ _) | (with_reducible refine yk ?_)))
    (case side4 => exact (Kd.R_reads' HO_314001.out).2.1)
    (case side5 => repeat (first | exact (Kd.R_reads' HO_315000.out).2.2 | (with_reducible refine yi ?_ _) | (with_reducible refine yj ?_ _) | (with_reducible refine yk ?_)))
    (case side6 => exact (Kd.R_reads' HO_315000.out).2.1)
    (case side7 => repeat (first | exact (Kd.R_reads' HO_315001.out).2.2 | (with_reducible refine yi ?_ _) | (with_reducible refine yj ?_ _) | (with_reducible refine yk ?_)))
    (case side8 => exact (Kd.R_reads' HO_315001.out).2.1)
    (case side9 => exact y9 HR2)
    (case side10 => exact HC2.out)
    rintro e w43 ⟨rfl, hb⟩
    refine ⟨_, rfl, ?_⟩
    have n0_ := ym (yp (by (with_reducible repeat apply y2); exact HO_314000.out) hb)
    have n1_ := ym (yp (by (with_reducible repeat apply y2); exact HO_314001.out) hb)
    have n2_ := ym (yp (by (with_reducible repeat apply y2); exact HO_315000.out) hb)
    have n3_ := ym (yp (by (with_reducible repeat apply y2); exact HO_315001.out) hb)
    have n4_ := ym (yq (g := gb299) (o := .cells #[.slice A0_0 l0_0.length c0_0, .slice A0_1 l0_1.length c0_1] 25 (0, 0)) (yc BK299) hb)
    have n5_ := ym (yq (g := gb300) (o := .cells #[.slice A1_0 l1_0.length c1_0, .slice A1_1 l1_1.length c1_1] 52 (0, 0)) (yc BK300) hb)
    have n6_ := ym (yq (g := gb313) (o := .cells #[.slice Ao14 t301.length co14, .slice Ao16 t304.length co16] 28 (0, 0)) (yc BK313) hb)
    have n7_ := ym (yq (g := gb314) (o := .cells #[.slice Ao18 t307.length co18, .slice Ao20 t310.length co20] 56 (0, 0)) (yc BK314) hb)
    have n8_ := ym (yn yb hb)
    clear HO_314000
    clear HO_314001
    clear HO_315000
    clear HO_315001
    clear BK299
    clear BK300
    clear BK313
    clear BK314
    clear HB
    have HO_314000 := n0_
    have HO_314001 := n1_
    have HO_315000 := n2_
    have HO_315001 := n3_
    have BK299 := n4_
    have BK300 := n5_
    have BK313 := n6_
    have BK314 := n7_
    have HB := n8_
    clear n0_ n1_ n2_ n3_ n4_ n5_ n6_ n7_ n8_
    (try clear hb)
    (try clear hb2)
    (try clear hk)
    (try clear hi)
    refine hK.out _ _ ⟨(yw BK299.out 0).trans rfl, (yw BK299.out 1).trans rfl, (yw BK300.out 0).trans rfl, (yw BK300.out 1).trans rfl, (yw BK313.out 0).trans rfl, (yw BK313.out 1).trans rfl, (yw BK314.out 0).trans rfl, (yw BK314.out 1).trans rfl⟩ (fun hHeld => ?_)
    clear hK K
    refine norm_ (a' := ?_) ?_ ?_
    rotate_left
    ·
     show Act.put _ (some 71) _ = _
     simp only [Act.put, y0, y1]
     rfl
    refine zt (i := 10) (N := some 72) HT_ ?_
    refine zt (i := 11) (N := some 73) HT_ ?_
    refine zt (i := 12) (N := some 6) HT_ ?_
    refine done_ (done_of HT_.out (by kernel_rfl)) ?_
    try go_wp2
    go_ret
    exact ⟨by first | rfl | (simp [errW_none, errW_some] <;> rfl) | (simp [*, errW_none, errW_some] <;> rfl), by repeat (first | (with_reducible first | exact HB.out | apply y3 | refine ys ?_ GE299.out | refine ys ?_ GE300.out | refine ys ?_ GE313.out | refine ys ?_ GE314.out) | exact HB.out)⟩
   replace c37 := Bool.eq_false_iff.mpr c37
   subst c37
   have H1 : (none) = some r := by rw [if_neg (show ¬ (false = true) by decide)] at H; exact H
   clear H
   have H := H1
   clear H1
   exact absurd H (by simp)

end Go.Proofs.Ytfjpnmhbbfiaaaa.P
