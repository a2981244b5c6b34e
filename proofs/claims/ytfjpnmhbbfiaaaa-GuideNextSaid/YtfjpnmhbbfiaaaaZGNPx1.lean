-- Printed by xprint.py (wip): functions, contracts, rows. Lean checks it.
import Derived.Test.YtfjpnmhbbfiaaaaZGNPx0
import Derived.Test.YtfjpnmhbbfiaaaaZGNTiny
namespace Go.Proofs.Ytfjpnmhbbfiaaaa.P
open Go.RowKit Go.Proofs.YtfjpnmhbbfiaaaaW.PrintWords Go.Proofs.YtfjpnmhbbfiaaaaW.PrintLast Go.Proofs.YtfjpnmhbbfiaaaaW.PrintMore
attribute [local go_sem] max2_int min2_int max_two min_two max_three min_three max_four min_four   -- for this text's walks alone
set_option linter.unusedVariables false
set_option linter.unusedSimpArgs false

/-! ### heraldlaw15_given: function 13 -/
def heraldlaw15_given.l0 : Nat → Int → List Bool → List (S92) → List Bool → List (S93) → Option (List Bool × (List (S93)))
  | 0, _, _, _, _, _ => none
  | k + 1, x4, x102000, x102001, x110000, x110001 => if x4 < (x102001.length : Int) then (if 0 ≤ x4 then (if x110001.length < 5864062014805 then (heraldlaw15_given.l0 k (wrap64 (x4 + 1)) x102000 x102001 x110000 (x110001 ++ [(⟨(rd_T92 x102001 x4).f0, (rd_T92 x102001 x4).f1, (rd_T92 x102001 x4).f2, (rd_T92 x102001 x4).f3⟩ : S93)])) else (none)) else (none)) else (some (x110000, x110001))
def heraldlaw15_given.f (k : Nat) (l0_0 : List Bool) (l0_1 : List (S92)) : Option (List Bool × (List (S93))) := (some (([] : List Bool) : List Bool)).bind fun y103 => (if y103.length + l0_0.length < 140737488355328 then (heraldlaw15_given.l0 k 0 l0_0 l0_1 (y103 ++ l0_0) ([] : List (S93))) else (none))
theorem heraldlaw15_given.mono_l : ∀ k, (∀ y0 y1 y2 y3 y4, LeO (heraldlaw15_given.l0 k y0 y1 y2 y3 y4) (heraldlaw15_given.l0 (k + 1) y0 y1 y2 y3 y4))
  | 0 => fun _ _ _ _ _ r h => by simp [heraldlaw15_given.l0] at h
  | k + 1 => by
    have ih0 := heraldlaw15_given.mono_l k
    · intro y0 y1 y2 y3 y4
      unfold heraldlaw15_given.l0
      repeat' first
      | (with_reducible exact ih0 _ _ _ _ _)
      | (with_reducible exact LeO.refl _)
      | (with_reducible exact LeO.none _)
      | (with_reducible refine LeO.ite ?_ ?_)
      | (with_reducible refine LeO.bind ?_ (fun _ => ?_))
      | exact ih0 _ _ _ _ _
      | exact LeO.none _
      | refine LeO.ite ?_ ?_
      | refine LeO.bind ?_ (fun _ => ?_)
theorem heraldlaw15_given.mono : ∀ a0 a1 k, LeO (heraldlaw15_given.f k a0 a1) (heraldlaw15_given.f (k + 1) a0 a1) := by
  intro a0 a1 k
  have ih0 := heraldlaw15_given.mono_l k
  unfold heraldlaw15_given.f
  repeat' first
      | (with_reducible exact ih0 _ _ _ _ _)
      | (with_reducible exact LeO.refl _)
      | (with_reducible exact LeO.none _)
      | (with_reducible refine LeO.ite ?_ ?_)
      | (with_reducible refine LeO.bind ?_ (fun _ => ?_))
      | exact ih0 _ _ _ _ _
      | exact LeO.none _
      | refine LeO.ite ?_ ?_
      | refine LeO.bind ?_ (fun _ => ?_)
set_option maxHeartbeats 8000000 in
set_option maxRecDepth 100000 in
theorem heraldlaw15_given.calls (k : Nat) (A0_0 : Option Addr) (c0_0 : Nat) (l0_0 : List Bool) (A0_1 : Option Addr) (c0_1 : Nat) (l0_1 : List (S92)) (r1 : List Bool) (r2 : List (S93)) (w : World) (hr0_0 : Kd.C Kd.bool w A0_0 l0_0.length l0_0) (hc0_0 : l0_0.length ≤ c0_0) (hr0_1 : Kd.C k92 w A0_1 l0_1.length l0_1) (hc0_1 : l0_1.length ≤ c0_1) (h : heraldlaw15_given.f k l0_0 l0_1 = some (r1, r2)) :
    Calls Try.prog 13 #[.agg #[.slice A0_0 l0_0.length c0_0, .slice A0_1 l0_1.length c0_1]] w fun e w' => ∃ v0_ v1_ : Value, e = .returned (.agg #[v0_, v1_]) ∧ Kd.R Kd.bool 4 w' w.heap.size (fun _ => True) v0_ r1 ∧ Kd.R k93 93 w' w.heap.size (fun _ => True) v1_ r2 ∧ Below w.heap.size w w' := by
 have hu25 := Try.underlying25
 have hu28 := Try.underlying28
 have hu92 := Try.underlying92
 have hu93 := Try.underlying93
 have HR0_0 := ym hr0_0
 have HC0_0 := ym hc0_0
 clear hr0_0 hc0_0
 have HR0_1 := ym hr0_1
 have HC0_1 := ym hc0_1
 clear hr0_1 hc0_1
 have HB := ym (Below.refl w.heap.size w)
 have H : ((some (([] : List Bool) : List Bool)).bind fun y103 => (if y103.length + l0_0.length < 140737488355328 then (heraldlaw15_given.l0 k 0 l0_0 l0_1 (y103 ++ l0_0) ([] : List (S93))) else (none))) = some (r1, r2) := h
 clear h
 obtain ⟨y103, hy103⟩ : ∃ y_ : List Bool, y_ = (([] : List Bool)) := ⟨_, rfl⟩
 replace H : (if y103.length + l0_0.length < 140737488355328 then (heraldlaw15_given.l0 k 0 l0_0 l0_1 (y103 ++ l0_0) ([] : List (S93))) else (none)) = some (r1, r2) := by first | (rw [hy103]; with_reducible exact H) | (have H2_ := (Option.bind_some _ _).symm.trans H; rw [hy103]; with_reducible exact H2_) | (have H2_ := (Option.bind_some _ _).symm.trans H; with_reducible exact H2_) | with_reducible exact H | (rw [hy103]; exact H) | exact H
 have Ny103 := ym hy103
 clear hy103
 by_cases c2 : y103.length + l0_0.length < 140737488355328
 ·
  rw [if_pos c2] at H
  have LMc2 := ym c2
  clear c2
  obtain ⟨y106, hy106⟩ : ∃ y_ : List Bool, y_ = (y103 ++ l0_0) := ⟨_, rfl⟩
  replace H : (heraldlaw15_given.l0 k 0 l0_0 l0_1 y106 ([] : List (S93))) = some (r1, r2) := by first | (rw [hy106]; with_reducible exact H) | (have H2_ := (Option.bind_some _ _).symm.trans H; rw [hy106]; with_reducible exact H2_) | (have H2_ := (Option.bind_some _ _).symm.trans H; with_reducible exact H2_) | with_reducible exact H | (rw [hy106]; exact H) | exact H
  have Ny106 := ym hy106
  clear hy106
  have H' := ym H
  clear H
  go_enter Try.func13, Try.ntmps13
  go_wp2_with (first | ((with_reducible refine gate_dst (N := 1) rfl ?_); refine box_event ?hg (N := 1) ?hd (cs := #[.slice A0_0 l0_0.length c0_0, .slice A0_1 l0_1.length c0_1]) (t := 25) ?hr ?_; (case hd => rfl); (case hg => rfl); (case hr => first | (go_simp; done) | (go_simp; rfl)); intro gb101 hg w3 hbox hb; have n0_ := ym (yn yb hb); have n1_ := ym (hbox); have n2_ := ym ((by rw [hg]; exact (below_size yb) : w.heap.size ≤ gb101)); have n3_ := n2_; clear HB; have HB := n0_; have BK101 := n1_; have GW101 := n2_; have GE101 := n3_; clear n0_ n1_ n2_ n3_; clear hb hbox hg) | ((with_reducible refine gate_dst (N := 2) rfl ?_); refine box_event ?hg (N := 2) ?hd (cs := #[.slice none 0 0, .slice none 0 0]) (t := 28) ?hr ?_; (case hd => rfl); (case hg => rfl); (case hr => first | (go_simp; done) | (go_simp; rfl)); intro gb102 hg w4 hbox hb; have n0_ := ym (yq (g := gb101) (o := .cells #[.slice A0_0 l0_0.length c0_0, .slice A0_1 l0_1.length c0_1] 25 (0, 0)) (yc BK101) hb); have n1_ := ym (yn yb hb); have n2_ := ym (hbox); have n3_ := ym ((by rw [hg]; exact (below_size yb) : w.heap.size ≤ gb102)); have n4_ := n3_; have n5_ := ym ((by rw [hg]; exact Nat.ne_of_lt (blk_lt (g := gb101) (o := .cells #[.slice A0_0 l0_0.length c0_0, .slice A0_1 l0_1.length c0_1] 25 (0, 0)) (yc BK101)) : gb101 ≠ gb102)); have n6_ := ym ((by rw [hg]; exact Nat.ne_of_gt (blk_lt (g := gb101) (o := .cells #[.slice A0_0 l0_0.length c0_0, .slice A0_1 l0_1.length c0_1] 25 (0, 0)) (yc BK101)) : gb102 ≠ gb101)); clear BK101; clear HB; have BK101 := n0_; have HB := n1_; have BK102 := n2_; have GW102 := n3_; have GE102 := n4_; have NB101_102 := n5_; have NB102_101 := n6_; clear n0_ n1_ n2_ n3_ n4_ n5_ n6_; clear hb hbox hg) | ((with_reducible refine gate_dst (N := 6) rfl ?_); refine Kd.R_lit Kd.bool _ 4 ?hg (N := 6) ?hd (xs := ([] : List Bool)) (inner := []) (ok := fun _ => True) (okp := fun _ => True) ?hr ?hp (fun _ hk => hk) trivial (Below.refl _ _) (Nat.le_refl _) (by simp) ?_; (case hd => rfl); (case hg => rfl); (case hr => first | (go_simp; done) | (go_simp; rfl)); (case hp => exact (Reps.none _ _)); intro v104 w5 ho6 hb hg_ hnew_; clear hg_ hnew_; (first | rw [← Ny103.out] at ho6 | (simp only [Int.reduceToNat] at ho6; rw [← Ny103.out] at ho6)); have n0_ := ym (yo ho6 (below_size yb)); have n1_ := ym (yq (g := gb101) (o := .cells #[.slice A0_0 l0_0.length c0_0, .slice A0_1 l0_1.length c0_1] 25 (0, 0)) (yc BK101) hb); have n2_ := ym (yq (g := gb102) (o := .cells #[.slice none 0 0, .slice none 0 0] 28 (0, 0)) (yc BK102) hb); have n3_ := ym (yn yb hb); clear BK101; clear BK102; clear HB; have HO105 := n0_; have BK101 := n1_; have BK102 := n2_; have HB := n3_; clear n0_ n1_ n2_ n3_; clear hb ho6; have hnb7 := NB101_102.out; have hnc7 := NB102_101.out; have hcz8_0 : w5.cell? ⟨gb101, 0, none⟩ = some (.slice A0_0 l0_0.length c0_0) := (yw BK101.out 0).trans rfl; have hcz8_1 : w5.cell? ⟨gb101, 1, none⟩ = some (.slice A0_1 l0_1.length c0_1) := (yw BK101.out 1).trans rfl; have hfz8_0 := yv BK101.out 0; have hfz8_1 := yv BK101.out 1) | ((with_reducible refine gate_builtin (b := .append) (xs := #[.tmp 6, .tmp 8]) rfl ?_); at_builtin; refine Kd.R_append_rows Kd.bool (w0 := w) w.heap.size rfl (.tmp 6) (.tmp 8) 22 4 (.bool false) 1 rfl Try.underlying22 info4 rfl (by decide) (by omega) v104 y103 l0_0 _ _ _ (fun _ => True) (fun _ => False) rfl rfl ?aO ?aR (fun _ _ h => h) (fun _ h => h.elim) ?aF ?aB ?aS ?aL ?_; (case aR => repeat (first | exact (Kd.C_below HR0_0.out HB.out) | (with_reducible refine yi ?_ _) | (with_reducible refine yj ?_ _) | (with_reducible refine yk ?_))); (case aB => exact yb); (case aF => exact (fun _ _ => trivial)); (case aO => exact (by (with_reducible repeat apply y2); exact HO105.out)); (case aS => exact (below_size yb)); (case aL => have := LMc2.out; omega); intro v107 w9 ho hb hg hat; rw [← Ny106.out] at ho; have n0_ := ym (blk_grown (g := gb101) (o := .cells #[.slice A0_0 l0_0.length c0_0, .slice A0_1 l0_1.length c0_1] 25 (0, 0)) (yc BK101) hg (Kd.R_ne HO105.out BK101.out (by decide))); have n1_ := ym (blk_grown (g := gb102) (o := .cells #[.slice none 0 0, .slice none 0 0] 28 (0, 0)) (yc BK102) hg (Kd.R_ne HO105.out BK102.out (by decide))); have n2_ := ym (hb); have n3_ := ym (ho); clear BK101; clear BK102; clear HB; clear HO105; have BK101 := n0_; have BK102 := n1_; have HB := n2_; have HO108 := n3_; clear n0_ n1_ n2_ n3_; clear ho hb hg hat; obtain ⟨Ao10, co10, eo10⟩ := Kd.R_slice HO108.out; subst eo10) | ((with_reducible refine gate_dst (N := 3) rfl ?_); refine box_event ?hg (N := 3) ?hd (cs := #[.slice none 0 0, .slice none 0 0]) (t := 28) ?hr ?_; (case hd => rfl); (case hg => rfl); (case hr => first | (go_simp; done) | (go_simp; rfl)); intro gb109 hg w11 hbox hb; have n0_ := ym (yp (by (with_reducible repeat apply y2); exact HO108.out) hb); have n1_ := ym (yq (g := gb101) (o := .cells #[.slice A0_0 l0_0.length c0_0, .slice A0_1 l0_1.length c0_1] 25 (0, 0)) (yc BK101) hb); have n2_ := ym (yq (g := gb102) (o := .cells #[.slice none 0 0, .slice none 0 0] 28 (0, 0)) (yc BK102) hb); have n3_ := ym (yn yb hb); have n4_ := ym (hbox); have n5_ := ym ((by rw [hg]; exact (below_size yb) : w.heap.size ≤ gb109)); have n6_ := n5_; have n7_ := ym ((by rw [hg]; exact Nat.ne_of_lt (blk_lt (g := gb101) (o := .cells #[.slice A0_0 l0_0.length c0_0, .slice A0_1 l0_1.length c0_1] 25 (0, 0)) (yc BK101)) : gb101 ≠ gb109)); have n8_ := ym ((by rw [hg]; exact Nat.ne_of_gt (blk_lt (g := gb101) (o := .cells #[.slice A0_0 l0_0.length c0_0, .slice A0_1 l0_1.length c0_1] 25 (0, 0)) (yc BK101)) : gb109 ≠ gb101)); have n9_ := ym ((by rw [hg]; exact Nat.ne_of_lt (blk_lt (g := gb102) (o := .cells #[.slice none 0 0, .slice none 0 0] 28 (0, 0)) (yc BK102)) : gb102 ≠ gb109)); have n10_ := ym ((by rw [hg]; exact Nat.ne_of_gt (blk_lt (g := gb102) (o := .cells #[.slice none 0 0, .slice none 0 0] 28 (0, 0)) (yc BK102)) : gb109 ≠ gb102)); clear HO108; clear BK101; clear BK102; clear HB; have HO108 := n0_; have BK101 := n1_; have BK102 := n2_; have HB := n3_; have BK109 := n4_; have GW109 := n5_; have GE109 := n6_; have NB101_109 := n7_; have NB109_101 := n8_; have NB102_109 := n9_; have NB109_102 := n10_; clear n0_ n1_ n2_ n3_ n4_ n5_ n6_ n7_ n8_ n9_ n10_; clear hb hbox hg; have hnb12 := NB109_101.out; have hnc12 := NB101_109.out; have hnb13 := NB109_102.out; have hnc13 := NB102_109.out; have hcz14_0 : w11.cell? ⟨gb109, 0, none⟩ = some (.slice none 0 0) := (yw BK109.out 0).trans rfl; have hcz14_1 : w11.cell? ⟨gb109, 1, none⟩ = some (.slice none 0 0) := (yw BK109.out 1).trans rfl; have hfz14_0 := yv BK109.out 0; have hfz14_1 := yv BK109.out 1))
  go_loopg [4] k (fun kq v4 w' => ∃ (x4_1 : Int) (x110001_1 : List (S93)) (u110001 : Value), v4 = .int .i64 x4_1 ∧ Aside0 (heraldlaw15_given.l0 kq x4_1 l0_0 l0_1 y106 x110001_1 = some (r1, r2)) ∧ Aside0 (kq ≤ k) ∧ Aside0 (Kd.R Kd.bool 4 w' w.heap.size (fun _ => True) (.slice Ao10 y106.length co10) y106) ∧ Aside0 (Kd.R k93 93 w' w.heap.size (fun _ => True) u110001 x110001_1) ∧ Aside0 (w'.heap[gb101]? = some (.cells #[(.slice A0_0 l0_0.length c0_0), (.slice A0_1 l0_1.length c0_1)] 25 (0, 0))) ∧ Aside0 (w'.heap[gb102]? = some (.cells #[(.slice none 0 0), (.slice none 0 0)] 28 (0, 0))) ∧ Aside0 (w'.heap[gb109]? = some (.cells #[(.slice Ao10 y106.length co10), u110001] 28 (0, 0))) ∧ Aside0 (Below w.heap.size w w'))
  case atStart => exact ⟨(0), (([] : List (S93))), (.slice none 0 0), y7, H', ⟨Nat.le_refl _⟩, ⟨by (with_reducible repeat apply y2); exact Kd.R_mono (Kd.R_far (p := ⟨gb109, 1, none⟩) (Kd.R_far (p := ⟨gb109, 0, none⟩) (Kd.R_types HO108.out BK109.out (by decide)) (fun _ hk => hk.2) (.slice Ao10 y106.length co10)) (fun _ hk => hk.2) (.slice none 0 0)) (fun _ hk => trivial)⟩, ⟨by first | exact Kd.R_nil _ _ _ _ _ | exact Kd.N_nil _ _ _ _ _ | exact Kd.V_nil _ _ _ _ _ | exact Kd.Q_nil _ _ _ _ _ | exact Kd.S_nil _ _ _ _ _⟩, ⟨by (with_reducible repeat refine y4 ?_); refine yx ?_ NB101_109.out _; (with_reducible repeat refine y4 ?_); refine yx ?_ NB101_109.out _; (with_reducible repeat refine y4 ?_); exact BK101.out⟩, ⟨by (with_reducible repeat refine y4 ?_); refine yx ?_ NB102_109.out _; (with_reducible repeat refine y4 ?_); refine yx ?_ NB102_109.out _; (with_reducible repeat refine y4 ?_); exact BK102.out⟩, ⟨by (with_reducible repeat refine y4 ?_); refine yy (cs := #[.slice Ao10 y106.length co10, .slice none 0 0]) ?_ 1 _ rfl; (with_reducible repeat refine y4 ?_); refine yy (cs := #[.slice none 0 0, .slice none 0 0]) ?_ 0 _ rfl; (with_reducible repeat refine y4 ?_); exact BK109.out⟩, ⟨by repeat (first | (with_reducible first | exact HB.out | apply y3 | refine ys ?_ GE101.out | refine ys ?_ GE102.out | refine ys ?_ GE109.out) | exact HB.out)⟩⟩
  case round =>
   clear H'
   try clear c1
   try clear c2
   try clear p2
   try clear c7
   try clear c12
   try clear c13
   try clear hcz14_0
   try clear hcz14_1
   try clear hcz8_0
   try clear hcz8_1
   try clear hfz14_0
   try clear hfz14_1
   try clear hfz8_0
   try clear hfz8_1
   obtain ⟨x4_1, x110001_1, u110001, rfl, HA, HK1, HO_110000, HO_110001, BK101, BK102, BK109, HB⟩ := hrel
   cases gk with
   | zero => exact absurd HA.out (by simp [heraldlaw15_given.l0])
   | succ k1 =>
    have H := HA.out
    clear HA
    simp only [heraldlaw15_given.l0] at H
    by_cases c15 : x4_1 < (l0_1.length : Int)
    ·
     rw [if_pos c15] at H
     have c15b0 : decide (x4_1 < (l0_1.length : Int)) = true := decide_eq_true c15
     clear c15
     by_cases c16 : 0 ≤ x4_1
     ·
      rw [if_pos c16] at H
      have c16b0 : decide (0 ≤ x4_1) = true := decide_eq_true c16
      clear c16
      by_cases c17 : x110001_1.length < 5864062014805
      ·
       rw [if_pos c17] at H
       have LMc17 := ym c17
       clear c17
       obtain ⟨y112, hy112⟩ : ∃ y_ : List (S93), y_ = (x110001_1 ++ [(⟨(rd_T92 l0_1 x4_1).f0, (rd_T92 l0_1 x4_1).f1, (rd_T92 l0_1 x4_1).f2, (rd_T92 l0_1 x4_1).f3⟩ : S93)]) := ⟨_, rfl⟩
       replace H : (heraldlaw15_given.l0 k1 (wrap64 (x4_1 + 1)) l0_0 l0_1 y106 y112) = some (r1, r2) := by first | (rw [hy112]; with_reducible exact H) | (have H2_ := (Option.bind_some _ _).symm.trans H; rw [hy112]; with_reducible exact H2_) | (have H2_ := (Option.bind_some _ _).symm.trans H; with_reducible exact H2_) | with_reducible exact H | (rw [hy112]; exact H) | exact H
       have Ny112 := ym hy112
       clear hy112
       have H' := ym H
       clear H
       have hnb18 := NB101_102.out
       have hnc18 := NB102_101.out
       have hnb19 := NB101_109.out
       have hnc19 := NB109_101.out
       have hcz20_0 : wr.cell? ⟨gb101, 0, none⟩ = some (.slice A0_0 l0_0.length c0_0) := (yw BK101.out 0).trans rfl
       have hcz20_1 : wr.cell? ⟨gb101, 1, none⟩ = some (.slice A0_1 l0_1.length c0_1) := (yw BK101.out 1).trans rfl
       have hfz20_0 := yv BK101.out 0
       have hfz20_1 := yv BK101.out 1
       have p110 : 0 ≤ (x4_1 : Int) := of_decide_eq_true y5
       have q110 : x4_1 < (l0_1.length : Int) := of_decide_eq_true y5
       obtain ⟨ad110, e110, hx110_0, hx110_1, hx110_2, hx110_3⟩ := at_T92 HR0_1.out x4_1 p110 q110
       cases e110
       replace hx110_0 := (HB.out.cell (World.block_lt_of_cell? w _ hx110_0)).trans hx110_0
       replace hx110_1 := (HB.out.cell (World.block_lt_of_cell? w _ hx110_1)).trans hx110_1
       replace hx110_2 := (HB.out.cell (World.block_lt_of_cell? w _ hx110_2)).trans hx110_2
       replace hx110_3 := (HB.out.cell (World.block_lt_of_cell? w _ hx110_3)).trans hx110_3
       replace p110 := eq_true p110
       replace q110 := eq_true q110
       go_wp2_with (first | ((with_reducible refine gate_dst (N := 5) rfl ?_); refine box_event ?hg (N := 5) ?hd (cs := #[.int .i64 0, .int .u8 0, .int .u8 0, .int .i64 0]) (t := 92) ?hr ?_; (case hd => rfl); (case hg => rfl); (case hr => first | (go_simp; done) | (go_simp; rfl)); intro gb111 hg w21 hbox hb; have n0_ := ym (yp (by (with_reducible repeat apply y2); exact HO_110000.out) hb); have n1_ := ym (yp (by (with_reducible repeat apply y2); exact HO_110001.out) hb); have n2_ := ym (yq (g := gb101) (o := .cells #[.slice A0_0 l0_0.length c0_0, .slice (some ad110) l0_1.length c0_1] 25 (0, 0)) (yc BK101) hb); have n3_ := ym (yq (g := gb102) (o := .cells #[.slice none 0 0, .slice none 0 0] 28 (0, 0)) (yc BK102) hb); have n4_ := ym (yq (g := gb109) (o := .cells #[.slice Ao10 y106.length co10, u110001] 28 (0, 0)) (yc BK109) hb); have n5_ := ym (yn yb hb); have n6_ := ym (hbox); have n7_ := ym ((by rw [hg]; exact (below_size yb) : w.heap.size ≤ gb111)); have n8_ := n7_; have n9_ := ym ((by rw [hg]; exact Nat.ne_of_lt (blk_lt (g := gb101) (o := .cells #[.slice A0_0 l0_0.length c0_0, .slice (some ad110) l0_1.length c0_1] 25 (0, 0)) (yc BK101)) : gb101 ≠ gb111)); have n10_ := ym ((by rw [hg]; exact Nat.ne_of_gt (blk_lt (g := gb101) (o := .cells #[.slice A0_0 l0_0.length c0_0, .slice (some ad110) l0_1.length c0_1] 25 (0, 0)) (yc BK101)) : gb111 ≠ gb101)); have n11_ := ym ((by rw [hg]; exact Nat.ne_of_lt (blk_lt (g := gb102) (o := .cells #[.slice none 0 0, .slice none 0 0] 28 (0, 0)) (yc BK102)) : gb102 ≠ gb111)); have n12_ := ym ((by rw [hg]; exact Nat.ne_of_gt (blk_lt (g := gb102) (o := .cells #[.slice none 0 0, .slice none 0 0] 28 (0, 0)) (yc BK102)) : gb111 ≠ gb102)); have n13_ := ym ((by rw [hg]; exact Nat.ne_of_lt (blk_lt (g := gb109) (o := .cells #[.slice Ao10 y106.length co10, u110001] 28 (0, 0)) (yc BK109)) : gb109 ≠ gb111)); have n14_ := ym ((by rw [hg]; exact Nat.ne_of_gt (blk_lt (g := gb109) (o := .cells #[.slice Ao10 y106.length co10, u110001] 28 (0, 0)) (yc BK109)) : gb111 ≠ gb109)); clear HO_110000; clear HO_110001; clear BK101; clear BK102; clear BK109; clear HB; have HO_110000 := n0_; have HO_110001 := n1_; have BK101 := n2_; have BK102 := n3_; have BK109 := n4_; have HB := n5_; have BK111 := n6_; have GW111 := n7_; have GE111 := n8_; have NB101_111 := n9_; have NB111_101 := n10_; have NB102_111 := n11_; have NB111_102 := n12_; have NB109_111 := n13_; have NB111_109 := n14_; clear n0_ n1_ n2_ n3_ n4_ n5_ n6_ n7_ n8_ n9_ n10_ n11_ n12_ n13_ n14_; clear hb hbox hg; have hnb22 := NB111_101.out; have hnc22 := NB101_111.out; have hnb23 := NB111_102.out; have hnc23 := NB102_111.out; have hnb24 := NB111_109.out; have hnc24 := NB109_111.out; have hcz25_0 : w21.cell? ⟨gb111, 0, none⟩ = some (.int .i64 0) := (yw BK111.out 0).trans rfl; have hcz25_1 : w21.cell? ⟨gb111, 1, none⟩ = some (.int .u8 0) := (yw BK111.out 1).trans rfl; have hcz25_2 : w21.cell? ⟨gb111, 2, none⟩ = some (.int .u8 0) := (yw BK111.out 2).trans rfl; have hcz25_3 : w21.cell? ⟨gb111, 3, none⟩ = some (.int .i64 0) := (yw BK111.out 3).trans rfl; have hfz25_0 := yv BK111.out 0; have hfz25_1 := yv BK111.out 1; have hfz25_2 := yv BK111.out 2; have hfz25_3 := yv BK111.out 3; have hnb26 := NB109_102.out; have hnc26 := NB102_109.out; have hcz27_0 : w21.cell? ⟨gb109, 0, none⟩ = some (.slice Ao10 y106.length co10) := (yw BK109.out 0).trans rfl; have hcz27_1 : w21.cell? ⟨gb109, 1, none⟩ = some (u110001) := (yw BK109.out 1).trans rfl; have hfz27_0 := yv BK109.out 0; have hfz27_1 := yv BK109.out 1) | ((with_reducible refine gate_builtin (b := .append) (xs := #[.tmp 24, .tmp 34]) rfl ?_); at_builtin; refine Kd.R_append k93 (w0 := w) w.heap.size rfl (.tmp 24) (.tmp 34) 26 93 (.agg #[(.int .i64 0), (.int .u8 0), (.int .u8 0), (.int .i64 0)]) 24 rfl Try.underlying26 info93 rfl (by decide) (by omega) u110001 x110001_1 (⟨(rd_T92 l0_1 x4_1).f0, (rd_T92 l0_1 x4_1).f1, (rd_T92 l0_1 x4_1).f2, (rd_T92 l0_1 x4_1).f3⟩ : S93) [.int .i64 ((rd_T92 l0_1 x4_1).f0), .int .u8 ((rd_T92 l0_1 x4_1).f1), .int .u8 ((rd_T92 l0_1 x4_1).f2), .int .i64 ((rd_T92 l0_1 x4_1).f3)] (fun _ => True) (fun _ => False) rfl (by first | (go_simp; done) | (go_simp; rfl)) ?aP (fun _ hk => hk.elim) ?aF ?aO ?aB ?aS ?aL ?_; (case aP => exact k93_mkM _ _ _ (⟨(rd_T92 l0_1 x4_1).f0, (rd_T92 l0_1 x4_1).f1, (rd_T92 l0_1 x4_1).f2, (rd_T92 l0_1 x4_1).f3⟩ : S93)); (case aB => exact yb); (case aF => exact (fun _ _ => trivial)); (case aO => exact (by (with_reducible repeat apply y2); exact Kd.R_mono (Kd.R_far (p := ⟨gb111, 3, none⟩) (Kd.R_far (p := ⟨gb111, 2, none⟩) (Kd.R_far (p := ⟨gb111, 1, none⟩) (Kd.R_far (p := ⟨gb111, 0, none⟩) (Kd.R_types HO_110001.out BK111.out (by decide)) (fun _ hk => hk.2) (.int .i64 ((rd_T92 l0_1 x4_1).f0))) (fun _ hk => hk.2) (.int .u8 ((rd_T92 l0_1 x4_1).f1))) (fun _ hk => hk.2) (.int .u8 ((rd_T92 l0_1 x4_1).f2))) (fun _ hk => hk.2) (.int .i64 ((rd_T92 l0_1 x4_1).f3))) (fun _ hk => trivial))); (case aS => exact (below_size yb)); (case aL => have := LMc17.out; omega); intro v113 w28 ho hb hg hat; rw [← Ny112.out] at ho; have n0_ := ym (Kd.R_over' (by (with_reducible repeat apply y2); exact (Kd.R_mono (Kd.R_far (p := ⟨gb111, 3, none⟩) (Kd.R_far (p := ⟨gb111, 2, none⟩) (Kd.R_far (p := ⟨gb111, 1, none⟩) (Kd.R_far (p := ⟨gb111, 0, none⟩) (Kd.R_types HO_110000.out BK111.out (by decide)) (fun _ hk => hk.2) (.int .i64 ((rd_T92 l0_1 x4_1).f0))) (fun _ hk => hk.2) (.int .u8 ((rd_T92 l0_1 x4_1).f1))) (fun _ hk => hk.2) (.int .u8 ((rd_T92 l0_1 x4_1).f2))) (fun _ hk => hk.2) (.int .i64 ((rd_T92 l0_1 x4_1).f3))) (fun _ h_ => h_.1))) (Kd.R_typed (by (with_reducible repeat apply y2); exact (Kd.R_mono (Kd.R_far (p := ⟨gb111, 3, none⟩) (Kd.R_far (p := ⟨gb111, 2, none⟩) (Kd.R_far (p := ⟨gb111, 1, none⟩) (Kd.R_far (p := ⟨gb111, 0, none⟩) (Kd.R_types HO_110001.out BK111.out (by decide)) (fun _ hk => hk.2) (.int .i64 ((rd_T92 l0_1 x4_1).f0))) (fun _ hk => hk.2) (.int .u8 ((rd_T92 l0_1 x4_1).f1))) (fun _ hk => hk.2) (.int .u8 ((rd_T92 l0_1 x4_1).f2))) (fun _ hk => hk.2) (.int .i64 ((rd_T92 l0_1 x4_1).f3))) (fun _ h_ => h_.1)))) (by decide) hg); have n1_ := ym (blk_grown (g := gb101) (o := .cells #[.slice A0_0 l0_0.length c0_0, .slice (some ad110) l0_1.length c0_1] 25 (0, 0)) (by (with_reducible repeat refine y4 ?_); refine yx ?_ NB101_111.out _; (with_reducible repeat refine y4 ?_); refine yx ?_ NB101_111.out _; (with_reducible repeat refine y4 ?_); refine yx ?_ NB101_111.out _; (with_reducible repeat refine y4 ?_); refine yx ?_ NB101_111.out _; (with_reducible repeat refine y4 ?_); exact BK101.out) hg (Kd.R_ne HO_110001.out BK101.out (by decide))); have n2_ := ym (blk_grown (g := gb102) (o := .cells #[.slice none 0 0, .slice none 0 0] 28 (0, 0)) (by (with_reducible repeat refine y4 ?_); refine yx ?_ NB102_111.out _; (with_reducible repeat refine y4 ?_); refine yx ?_ NB102_111.out _; (with_reducible repeat refine y4 ?_); refine yx ?_ NB102_111.out _; (with_reducible repeat refine y4 ?_); refine yx ?_ NB102_111.out _; (with_reducible repeat refine y4 ?_); exact BK102.out) hg (Kd.R_ne HO_110001.out BK102.out (by decide))); have n3_ := ym (blk_grown (g := gb109) (o := .cells #[.slice Ao10 y106.length co10, u110001] 28 (0, 0)) (by (with_reducible repeat refine y4 ?_); refine yx ?_ NB109_111.out _; (with_reducible repeat refine y4 ?_); refine yx ?_ NB109_111.out _; (with_reducible repeat refine y4 ?_); refine yx ?_ NB109_111.out _; (with_reducible repeat refine y4 ?_); refine yx ?_ NB109_111.out _; (with_reducible repeat refine y4 ?_); exact BK109.out) hg (Kd.R_ne HO_110001.out BK109.out (by decide))); have n4_ := ym (blk_grown (g := gb111) (o := .cells #[.int .i64 ((rd_T92 l0_1 x4_1).f0), .int .u8 ((rd_T92 l0_1 x4_1).f1), .int .u8 ((rd_T92 l0_1 x4_1).f2), .int .i64 ((rd_T92 l0_1 x4_1).f3)] 92 (0, 0)) (by (with_reducible repeat refine y4 ?_); refine yy (cs := #[.int .i64 ((rd_T92 l0_1 x4_1).f0), .int .u8 ((rd_T92 l0_1 x4_1).f1), .int .u8 ((rd_T92 l0_1 x4_1).f2), .int .i64 0]) ?_ 3 _ rfl; (with_reducible repeat refine y4 ?_); refine yy (cs := #[.int .i64 ((rd_T92 l0_1 x4_1).f0), .int .u8 ((rd_T92 l0_1 x4_1).f1), .int .u8 0, .int .i64 0]) ?_ 2 _ rfl; (with_reducible repeat refine y4 ?_); refine yy (cs := #[.int .i64 ((rd_T92 l0_1 x4_1).f0), .int .u8 0, .int .u8 0, .int .i64 0]) ?_ 1 _ rfl; (with_reducible repeat refine y4 ?_); refine yy (cs := #[.int .i64 0, .int .u8 0, .int .u8 0, .int .i64 0]) ?_ 0 _ rfl; (with_reducible repeat refine y4 ?_); exact BK111.out) hg (Kd.R_ne HO_110001.out BK111.out (by decide))); have n5_ := ym (hb); have n6_ := ym (ho); clear HO_110000; clear BK101; clear BK102; clear BK109; clear BK111; clear HB; clear HO_110001; have HO_110000 := n0_; have BK101 := n1_; have BK102 := n2_; have BK109 := n3_; have BK111 := n4_; have HB := n5_; have HO114 := n6_; clear n0_ n1_ n2_ n3_ n4_ n5_ n6_; clear ho hb hg hat; obtain ⟨Ao29, co29, eo29⟩ := Kd.R_slice HO114.out; subst eo29; have hcz30_0 : w28.cell? ⟨gb109, 0, none⟩ = some (.slice Ao10 y106.length co10) := (yw BK109.out 0).trans rfl; have hcz30_1 : w28.cell? ⟨gb109, 1, none⟩ = some (u110001) := (yw BK109.out 1).trans rfl; have hfz30_0 := yv BK109.out 0; have hfz30_1 := yv BK109.out 1))
       go_roundg k1
       case measure => have := HK1.out; omega
       case rel => exact ⟨(wrap64 (x4_1 + 1)), (y112), (.slice Ao29 y112.length co29), y7, H', ⟨by have := HK1.out; omega⟩, ⟨by (with_reducible repeat apply y2); exact Kd.R_mono (Kd.R_far (p := ⟨gb109, 1, none⟩) (Kd.R_types HO_110000.out BK109.out (by decide)) (fun _ hk => hk.2) (.slice Ao29 y112.length co29)) (fun _ hk => trivial)⟩, ⟨by (with_reducible repeat apply y2); exact Kd.R_mono (Kd.R_far (p := ⟨gb109, 1, none⟩) (Kd.R_types HO114.out BK109.out (by decide)) (fun _ hk => hk.2) (.slice Ao29 y112.length co29)) (fun _ hk => trivial)⟩, ⟨by (with_reducible repeat refine y4 ?_); refine yx ?_ NB101_109.out _; (with_reducible repeat refine y4 ?_); exact BK101.out⟩, ⟨by (with_reducible repeat refine y4 ?_); refine yx ?_ NB102_109.out _; (with_reducible repeat refine y4 ?_); exact BK102.out⟩, ⟨by (with_reducible repeat refine y4 ?_); refine yy (cs := #[.slice Ao10 y106.length co10, u110001]) ?_ 1 _ rfl; (with_reducible repeat refine y4 ?_); exact BK109.out⟩, ⟨by repeat (first | (with_reducible first | exact HB.out | apply y3 | refine ys ?_ GE101.out | refine ys ?_ GE102.out | refine ys ?_ GE109.out | refine ys ?_ GE111.out) | exact HB.out)⟩⟩
      rw [if_neg c17] at H
      exact absurd H (by simp)
     rw [if_neg c16] at H
     exact absurd H (by simp)
    rw [if_neg c15] at H
    have c15b0 : decide (x4_1 < (l0_1.length : Int)) = false := decide_eq_false c15
    clear c15
    simp only [Option.some.injEq, Prod.mk.injEq] at H
    obtain ⟨rfl, rfl⟩ := H
    have hnb31 := NB101_102.out
    have hnc31 := NB102_101.out
    have hnb32 := NB101_109.out
    have hnc32 := NB109_101.out
    have hcz33_0 : wr.cell? ⟨gb101, 0, none⟩ = some (.slice A0_0 l0_0.length c0_0) := (yw BK101.out 0).trans rfl
    have hcz33_1 : wr.cell? ⟨gb101, 1, none⟩ = some (.slice A0_1 l0_1.length c0_1) := (yw BK101.out 1).trans rfl
    have hfz33_0 := yv BK101.out 0
    have hfz33_1 := yv BK101.out 1
    have hnb34 := NB109_102.out
    have hnc34 := NB102_109.out
    have hcz35_0 : wr.cell? ⟨gb109, 0, none⟩ = some (.slice Ao10 y106.length co10) := (yw BK109.out 0).trans rfl
    have hcz35_1 : wr.cell? ⟨gb109, 1, none⟩ = some (u110001) := (yw BK109.out 1).trans rfl
    have hfz35_0 := yv BK109.out 0
    have hfz35_1 := yv BK109.out 1
    have hcz36_0 : wr.cell? ⟨gb102, 0, none⟩ = some (.slice none 0 0) := (yw BK102.out 0).trans rfl
    have hcz36_1 : wr.cell? ⟨gb102, 1, none⟩ = some (.slice none 0 0) := (yw BK102.out 1).trans rfl
    have hfz36_0 := yv BK102.out 0
    have hfz36_1 := yv BK102.out 1
    obtain ⟨Ao37, co37, eo37⟩ := Kd.R_slice HO_110001.out
    subst eo37
    go_wp2
    refine bodyPost_ret (results_cell_row rfl _ _ gb102 28 #[.slice Ao10 y106.length co10, .slice Ao37 x110001_1.length co37] (0, 0) _ rfl (by (with_reducible repeat refine y4 ?_); refine yy (cs := #[.slice Ao10 y106.length co10, .slice none 0 0]) ?_ 1 _ rfl; (with_reducible repeat refine y4 ?_); refine yy (cs := #[.slice none 0 0, .slice none 0 0]) ?_ 0 _ rfl; (with_reducible repeat refine y4 ?_); exact BK102.out) Try.underlying28 rfl (by kernel_rfl)) rfl ?_
    exact ⟨_, _, by first | rfl | (simp [errW_none, errW_some] <;> rfl) | (simp [*, errW_none, errW_some] <;> rfl), by (with_reducible repeat apply y2); exact Kd.R_mono (Kd.R_far (p := ⟨gb102, 1, none⟩) (Kd.R_far (p := ⟨gb102, 0, none⟩) (Kd.R_types HO_110000.out BK102.out (by decide)) (fun _ hk => hk.2) (.slice Ao10 y106.length co10)) (fun _ hk => hk.2) (.slice Ao37 x110001_1.length co37)) (fun _ hk => trivial), by (with_reducible repeat apply y2); exact Kd.R_mono (Kd.R_far (p := ⟨gb102, 1, none⟩) (Kd.R_far (p := ⟨gb102, 0, none⟩) (Kd.R_types HO_110001.out BK102.out (by decide)) (fun _ hk => hk.2) (.slice Ao10 y106.length co10)) (fun _ hk => hk.2) (.slice Ao37 x110001_1.length co37)) (fun _ hk => trivial), by repeat (first | (with_reducible first | exact HB.out | apply y3 | refine ys ?_ GE101.out | refine ys ?_ GE102.out | refine ys ?_ GE109.out) | exact HB.out)⟩
 rw [if_neg c2] at H
 exact absurd H (by simp)

end Go.Proofs.Ytfjpnmhbbfiaaaa.P
