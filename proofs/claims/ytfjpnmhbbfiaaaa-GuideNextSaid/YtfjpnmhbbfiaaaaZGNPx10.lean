-- Printed by xprint.py (wip): functions, contracts, rows. Lean checks it.
import Derived.Test.YtfjpnmhbbfiaaaaZGNPx0
import Derived.Test.YtfjpnmhbbfiaaaaZGNTiny
namespace Go.Proofs.Ytfjpnmhbbfiaaaa.P
open Go.RowKit Go.Proofs.YtfjpnmhbbfiaaaaW.PrintWords Go.Proofs.YtfjpnmhbbfiaaaaW.PrintLast Go.Proofs.YtfjpnmhbbfiaaaaW.PrintMore
attribute [local go_sem] max2_int min2_int max_two min_two max_three min_three max_four min_four   -- for this text's walks alone
set_option linter.unusedVariables false
set_option linter.unusedSimpArgs false

/-! ### heraldlaw15_words: function 24 -/
def heraldlaw15_words.l0 : Nat → Int → List ByteArray → List (S99) → List ByteArray → List (S100) → Option (List ByteArray × (List (S100)))
  | 0, _, _, _, _, _ => none
  | k + 1, x4, x201000, x201001, x209000, x209001 => if x4 < (x201001.length : Int) then (if 0 ≤ x4 then (if x209001.length < 5864062014805 then (heraldlaw15_words.l0 k (wrap64 (x4 + 1)) x201000 x201001 x209000 (x209001 ++ [(⟨(rd_T99 x201001 x4).f0, (rd_T99 x201001 x4).f1, (rd_T99 x201001 x4).f2⟩ : S100)])) else (none)) else (none)) else (some (x209000, x209001))
def heraldlaw15_words.f (k : Nat) (l0_0 : List ByteArray) (l0_1 : List (S99)) : Option (List ByteArray × (List (S100))) := (some (([] : List ByteArray) : List ByteArray)).bind fun y202 => (if y202.length + l0_0.length < 8796093022208 then (heraldlaw15_words.l0 k 0 l0_0 l0_1 (y202 ++ l0_0) ([] : List (S100))) else (none))
theorem heraldlaw15_words.mono_l : ∀ k, (∀ y0 y1 y2 y3 y4, LeO (heraldlaw15_words.l0 k y0 y1 y2 y3 y4) (heraldlaw15_words.l0 (k + 1) y0 y1 y2 y3 y4))
  | 0 => fun _ _ _ _ _ r h => by simp [heraldlaw15_words.l0] at h
  | k + 1 => by
    have ih0 := heraldlaw15_words.mono_l k
    · intro y0 y1 y2 y3 y4
      unfold heraldlaw15_words.l0
      repeat' first
      | (with_reducible exact ih0 _ _ _ _ _)
      | (with_reducible exact LeO.refl _)
      | (with_reducible exact LeO.none _)
      | (with_reducible refine LeO.ite ?_ ?_)
      | (with_reducible refine LeO.bind ?_ (fun _ => ?_))
      | exact ih0 _ _ _ _ _
      | exact LeO.none _
      | refine LeO.ite ?_ ?_
      | refine LeO.bind ?_ (fun _ => ?_)
theorem heraldlaw15_words.mono : ∀ a0 a1 k, LeO (heraldlaw15_words.f k a0 a1) (heraldlaw15_words.f (k + 1) a0 a1) := by
  intro a0 a1 k
  have ih0 := heraldlaw15_words.mono_l k
  unfold heraldlaw15_words.f
  repeat' first
      | (with_reducible exact ih0 _ _ _ _ _)
      | (with_reducible exact LeO.refl _)
      | (with_reducible exact LeO.none _)
      | (with_reducible refine LeO.ite ?_ ?_)
      | (with_reducible refine LeO.bind ?_ (fun _ => ?_))
      | exact ih0 _ _ _ _ _
      | exact LeO.none _
      | refine LeO.ite ?_ ?_
      | refine LeO.bind ?_ (fun _ => ?_)
set_option maxHeartbeats 8000000 in
set_option maxRecDepth 100000 in
theorem heraldlaw15_words.calls (k : Nat) (A0_0 : Option Addr) (c0_0 : Nat) (l0_0 : List ByteArray) (A0_1 : Option Addr) (c0_1 : Nat) (l0_1 : List (S99)) (r1 : List ByteArray) (r2 : List (S100)) (w : World) (hr0_0 : Kd.C Kd.string w A0_0 l0_0.length l0_0) (hc0_0 : l0_0.length ≤ c0_0) (hr0_1 : Kd.C k99 w A0_1 l0_1.length l0_1) (hc0_1 : l0_1.length ≤ c0_1) (h : heraldlaw15_words.f k l0_0 l0_1 = some (r1, r2)) :
    Calls Try.prog 24 #[.agg #[.slice A0_0 l0_0.length c0_0, .slice A0_1 l0_1.length c0_1]] w fun e w' => ∃ v0_ v1_ : Value, e = .returned (.agg #[v0_, v1_]) ∧ Kd.R Kd.string 9 w' w.heap.size (fun _ => True) v0_ r1 ∧ Kd.R k100 100 w' w.heap.size (fun _ => True) v1_ r2 ∧ Below w.heap.size w w' := by
 have hu52 := Try.underlying52
 have hu56 := Try.underlying56
 have hu99 := Try.underlying99
 have hu100 := Try.underlying100
 have HR0_0 := ym hr0_0
 have HC0_0 := ym hc0_0
 clear hr0_0 hc0_0
 have HR0_1 := ym hr0_1
 have HC0_1 := ym hc0_1
 clear hr0_1 hc0_1
 have HB := ym (Below.refl w.heap.size w)
 have H : ((some (([] : List ByteArray) : List ByteArray)).bind fun y202 => (if y202.length + l0_0.length < 8796093022208 then (heraldlaw15_words.l0 k 0 l0_0 l0_1 (y202 ++ l0_0) ([] : List (S100))) else (none))) = some (r1, r2) := h
 clear h
 obtain ⟨y202, hy202⟩ : ∃ y_ : List ByteArray, y_ = (([] : List ByteArray)) := ⟨_, rfl⟩
 replace H : (if y202.length + l0_0.length < 8796093022208 then (heraldlaw15_words.l0 k 0 l0_0 l0_1 (y202 ++ l0_0) ([] : List (S100))) else (none)) = some (r1, r2) := by first | (rw [hy202]; with_reducible exact H) | (have H2_ := (Option.bind_some _ _).symm.trans H; rw [hy202]; with_reducible exact H2_) | (have H2_ := (Option.bind_some _ _).symm.trans H; with_reducible exact H2_) | with_reducible exact H | (rw [hy202]; exact H) | exact H
 have Ny202 := ym hy202
 clear hy202
 by_cases c2 : y202.length + l0_0.length < 8796093022208
 ·
  rw [if_pos c2] at H
  have LMc2 := ym c2
  clear c2
  obtain ⟨y205, hy205⟩ : ∃ y_ : List ByteArray, y_ = (y202 ++ l0_0) := ⟨_, rfl⟩
  replace H : (heraldlaw15_words.l0 k 0 l0_0 l0_1 y205 ([] : List (S100))) = some (r1, r2) := by first | (rw [hy205]; with_reducible exact H) | (have H2_ := (Option.bind_some _ _).symm.trans H; rw [hy205]; with_reducible exact H2_) | (have H2_ := (Option.bind_some _ _).symm.trans H; with_reducible exact H2_) | with_reducible exact H | (rw [hy205]; exact H) | exact H
  have Ny205 := ym hy205
  clear hy205
  have H' := ym H
  clear H
  go_enter Try.func24, Try.ntmps24
  go_wp2_with (first | ((with_reducible refine gate_dst (N := 1) rfl ?_); refine box_event ?hg (N := 1) ?hd (cs := #[.slice A0_0 l0_0.length c0_0, .slice A0_1 l0_1.length c0_1]) (t := 52) ?hr ?_; (case hd => rfl); (case hg => rfl); (case hr => first | (go_simp; done) | (go_simp; rfl)); intro gb200 hg w3 hbox hb; have n0_ := ym (yn yb hb); have n1_ := ym (hbox); have n2_ := ym ((by rw [hg]; exact (below_size yb) : w.heap.size ≤ gb200)); have n3_ := n2_; clear HB; have HB := n0_; have BK200 := n1_; have GW200 := n2_; have GE200 := n3_; clear n0_ n1_ n2_ n3_; clear hb hbox hg) | ((with_reducible refine gate_dst (N := 2) rfl ?_); refine box_event ?hg (N := 2) ?hd (cs := #[.slice none 0 0, .slice none 0 0]) (t := 56) ?hr ?_; (case hd => rfl); (case hg => rfl); (case hr => first | (go_simp; done) | (go_simp; rfl)); intro gb201 hg w4 hbox hb; have n0_ := ym (yq (g := gb200) (o := .cells #[.slice A0_0 l0_0.length c0_0, .slice A0_1 l0_1.length c0_1] 52 (0, 0)) (yc BK200) hb); have n1_ := ym (yn yb hb); have n2_ := ym (hbox); have n3_ := ym ((by rw [hg]; exact (below_size yb) : w.heap.size ≤ gb201)); have n4_ := n3_; have n5_ := ym ((by rw [hg]; exact Nat.ne_of_lt (blk_lt (g := gb200) (o := .cells #[.slice A0_0 l0_0.length c0_0, .slice A0_1 l0_1.length c0_1] 52 (0, 0)) (yc BK200)) : gb200 ≠ gb201)); have n6_ := ym ((by rw [hg]; exact Nat.ne_of_gt (blk_lt (g := gb200) (o := .cells #[.slice A0_0 l0_0.length c0_0, .slice A0_1 l0_1.length c0_1] 52 (0, 0)) (yc BK200)) : gb201 ≠ gb200)); clear BK200; clear HB; have BK200 := n0_; have HB := n1_; have BK201 := n2_; have GW201 := n3_; have GE201 := n4_; have NB200_201 := n5_; have NB201_200 := n6_; clear n0_ n1_ n2_ n3_ n4_ n5_ n6_; clear hb hbox hg) | ((with_reducible refine gate_dst (N := 6) rfl ?_); refine Kd.R_lit Kd.string _ 9 ?hg (N := 6) ?hd (xs := ([] : List ByteArray)) (inner := []) (ok := fun _ => True) (okp := fun _ => True) ?hr ?hp (fun _ hk => hk) trivial (Below.refl _ _) (Nat.le_refl _) (by simp) ?_; (case hd => rfl); (case hg => rfl); (case hr => first | (go_simp; done) | (go_simp; rfl)); (case hp => exact (Reps.none _ _)); intro v203 w5 ho6 hb hg_ hnew_; clear hg_ hnew_; (first | rw [← Ny202.out] at ho6 | (simp only [Int.reduceToNat] at ho6; rw [← Ny202.out] at ho6)); have n0_ := ym (yo ho6 (below_size yb)); have n1_ := ym (yq (g := gb200) (o := .cells #[.slice A0_0 l0_0.length c0_0, .slice A0_1 l0_1.length c0_1] 52 (0, 0)) (yc BK200) hb); have n2_ := ym (yq (g := gb201) (o := .cells #[.slice none 0 0, .slice none 0 0] 56 (0, 0)) (yc BK201) hb); have n3_ := ym (yn yb hb); clear BK200; clear BK201; clear HB; have HO204 := n0_; have BK200 := n1_; have BK201 := n2_; have HB := n3_; clear n0_ n1_ n2_ n3_; clear hb ho6; have hnb7 := NB200_201.out; have hnc7 := NB201_200.out; have hcz8_0 : w5.cell? ⟨gb200, 0, none⟩ = some (.slice A0_0 l0_0.length c0_0) := (yw BK200.out 0).trans rfl; have hcz8_1 : w5.cell? ⟨gb200, 1, none⟩ = some (.slice A0_1 l0_1.length c0_1) := (yw BK200.out 1).trans rfl; have hfz8_0 := yv BK200.out 0; have hfz8_1 := yv BK200.out 1) | ((with_reducible refine gate_builtin (b := .append) (xs := #[.tmp 6, .tmp 8]) rfl ?_); at_builtin; refine Kd.R_append_rows Kd.string (w0 := w) w.heap.size rfl (.tmp 6) (.tmp 8) 49 9 (.string ⟨#[]⟩) 16 rfl Try.underlying49 info9 rfl (by decide) (by omega) v203 y202 l0_0 _ _ _ (fun _ => True) (fun _ => False) rfl rfl ?aO ?aR (fun _ _ h => h) (fun _ h => h.elim) ?aF ?aB ?aS ?aL ?_; (case aR => repeat (first | exact (Kd.C_below HR0_0.out HB.out) | (with_reducible refine yi ?_ _) | (with_reducible refine yj ?_ _) | (with_reducible refine yk ?_))); (case aB => exact yb); (case aF => exact (fun _ _ => trivial)); (case aO => exact (by (with_reducible repeat apply y2); exact HO204.out)); (case aS => exact (below_size yb)); (case aL => have := LMc2.out; omega); intro v206 w9 ho hb hg hat; rw [← Ny205.out] at ho; have n0_ := ym (blk_grown (g := gb200) (o := .cells #[.slice A0_0 l0_0.length c0_0, .slice A0_1 l0_1.length c0_1] 52 (0, 0)) (yc BK200) hg (Kd.R_ne HO204.out BK200.out (by decide))); have n1_ := ym (blk_grown (g := gb201) (o := .cells #[.slice none 0 0, .slice none 0 0] 56 (0, 0)) (yc BK201) hg (Kd.R_ne HO204.out BK201.out (by decide))); have n2_ := ym (hb); have n3_ := ym (ho); clear BK200; clear BK201; clear HB; clear HO204; have BK200 := n0_; have BK201 := n1_; have HB := n2_; have HO207 := n3_; clear n0_ n1_ n2_ n3_; clear ho hb hg hat; obtain ⟨Ao10, co10, eo10⟩ := Kd.R_slice HO207.out; subst eo10) | ((with_reducible refine gate_dst (N := 3) rfl ?_); refine box_event ?hg (N := 3) ?hd (cs := #[.slice none 0 0, .slice none 0 0]) (t := 56) ?hr ?_; (case hd => rfl); (case hg => rfl); (case hr => first | (go_simp; done) | (go_simp; rfl)); intro gb208 hg w11 hbox hb; have n0_ := ym (yp (by (with_reducible repeat apply y2); exact HO207.out) hb); have n1_ := ym (yq (g := gb200) (o := .cells #[.slice A0_0 l0_0.length c0_0, .slice A0_1 l0_1.length c0_1] 52 (0, 0)) (yc BK200) hb); have n2_ := ym (yq (g := gb201) (o := .cells #[.slice none 0 0, .slice none 0 0] 56 (0, 0)) (yc BK201) hb); have n3_ := ym (yn yb hb); have n4_ := ym (hbox); have n5_ := ym ((by rw [hg]; exact (below_size yb) : w.heap.size ≤ gb208)); have n6_ := n5_; have n7_ := ym ((by rw [hg]; exact Nat.ne_of_lt (blk_lt (g := gb200) (o := .cells #[.slice A0_0 l0_0.length c0_0, .slice A0_1 l0_1.length c0_1] 52 (0, 0)) (yc BK200)) : gb200 ≠ gb208)); have n8_ := ym ((by rw [hg]; exact Nat.ne_of_gt (blk_lt (g := gb200) (o := .cells #[.slice A0_0 l0_0.length c0_0, .slice A0_1 l0_1.length c0_1] 52 (0, 0)) (yc BK200)) : gb208 ≠ gb200)); have n9_ := ym ((by rw [hg]; exact Nat.ne_of_lt (blk_lt (g := gb201) (o := .cells #[.slice none 0 0, .slice none 0 0] 56 (0, 0)) (yc BK201)) : gb201 ≠ gb208)); have n10_ := ym ((by rw [hg]; exact Nat.ne_of_gt (blk_lt (g := gb201) (o := .cells #[.slice none 0 0, .slice none 0 0] 56 (0, 0)) (yc BK201)) : gb208 ≠ gb201)); clear HO207; clear BK200; clear BK201; clear HB; have HO207 := n0_; have BK200 := n1_; have BK201 := n2_; have HB := n3_; have BK208 := n4_; have GW208 := n5_; have GE208 := n6_; have NB200_208 := n7_; have NB208_200 := n8_; have NB201_208 := n9_; have NB208_201 := n10_; clear n0_ n1_ n2_ n3_ n4_ n5_ n6_ n7_ n8_ n9_ n10_; clear hb hbox hg; have hnb12 := NB208_200.out; have hnc12 := NB200_208.out; have hnb13 := NB208_201.out; have hnc13 := NB201_208.out; have hcz14_0 : w11.cell? ⟨gb208, 0, none⟩ = some (.slice none 0 0) := (yw BK208.out 0).trans rfl; have hcz14_1 : w11.cell? ⟨gb208, 1, none⟩ = some (.slice none 0 0) := (yw BK208.out 1).trans rfl; have hfz14_0 := yv BK208.out 0; have hfz14_1 := yv BK208.out 1))
  go_loopg [4] k (fun kq v4 w' => ∃ (x4_1 : Int) (x209001_1 : List (S100)) (u209001 : Value), v4 = .int .i64 x4_1 ∧ Aside0 (heraldlaw15_words.l0 kq x4_1 l0_0 l0_1 y205 x209001_1 = some (r1, r2)) ∧ Aside0 (kq ≤ k) ∧ Aside0 (Kd.R Kd.string 9 w' w.heap.size (fun _ => True) (.slice Ao10 y205.length co10) y205) ∧ Aside0 (Kd.R k100 100 w' w.heap.size (fun _ => True) u209001 x209001_1) ∧ Aside0 (w'.heap[gb200]? = some (.cells #[(.slice A0_0 l0_0.length c0_0), (.slice A0_1 l0_1.length c0_1)] 52 (0, 0))) ∧ Aside0 (w'.heap[gb201]? = some (.cells #[(.slice none 0 0), (.slice none 0 0)] 56 (0, 0))) ∧ Aside0 (w'.heap[gb208]? = some (.cells #[(.slice Ao10 y205.length co10), u209001] 56 (0, 0))) ∧ Aside0 (Below w.heap.size w w'))
  case atStart => exact ⟨(0), (([] : List (S100))), (.slice none 0 0), y7, H', ⟨Nat.le_refl _⟩, ⟨by (with_reducible repeat apply y2); exact Kd.R_mono (Kd.R_far (p := ⟨gb208, 1, none⟩) (Kd.R_far (p := ⟨gb208, 0, none⟩) (Kd.R_types HO207.out BK208.out (by decide)) (fun _ hk => hk.2) (.slice Ao10 y205.length co10)) (fun _ hk => hk.2) (.slice none 0 0)) (fun _ hk => trivial)⟩, ⟨by first | exact Kd.R_nil _ _ _ _ _ | exact Kd.N_nil _ _ _ _ _ | exact Kd.V_nil _ _ _ _ _ | exact Kd.Q_nil _ _ _ _ _ | exact Kd.S_nil _ _ _ _ _⟩, ⟨by (with_reducible repeat refine y4 ?_); refine yx ?_ NB200_208.out _; (with_reducible repeat refine y4 ?_); refine yx ?_ NB200_208.out _; (with_reducible repeat refine y4 ?_); exact BK200.out⟩, ⟨by (with_reducible repeat refine y4 ?_); refine yx ?_ NB201_208.out _; (with_reducible repeat refine y4 ?_); refine yx ?_ NB201_208.out _; (with_reducible repeat refine y4 ?_); exact BK201.out⟩, ⟨by (with_reducible repeat refine y4 ?_); refine yy (cs := #[.slice Ao10 y205.length co10, .slice none 0 0]) ?_ 1 _ rfl; (with_reducible repeat refine y4 ?_); refine yy (cs := #[.slice none 0 0, .slice none 0 0]) ?_ 0 _ rfl; (with_reducible repeat refine y4 ?_); exact BK208.out⟩, ⟨by repeat (first | (with_reducible first | exact HB.out | apply y3 | refine ys ?_ GE200.out | refine ys ?_ GE201.out | refine ys ?_ GE208.out) | exact HB.out)⟩⟩
  case round =>
   clear H'
   try clear c1
   try clear c2
   try clear p2
   try clear c7
   try clear c12
   try clear c13
   try clear hcz14_0
   try clear hcz14_1
   try clear hcz8_0
   try clear hcz8_1
   try clear hfz14_0
   try clear hfz14_1
   try clear hfz8_0
   try clear hfz8_1
   obtain ⟨x4_1, x209001_1, u209001, rfl, HA, HK1, HO_209000, HO_209001, BK200, BK201, BK208, HB⟩ := hrel
   cases gk with
   | zero => exact absurd HA.out (by simp [heraldlaw15_words.l0])
   | succ k1 =>
    have H := HA.out
    clear HA
    simp only [heraldlaw15_words.l0] at H
    by_cases c15 : x4_1 < (l0_1.length : Int)
    ·
     rw [if_pos c15] at H
     have c15b0 : decide (x4_1 < (l0_1.length : Int)) = true := decide_eq_true c15
     clear c15
     by_cases c16 : 0 ≤ x4_1
     ·
      rw [if_pos c16] at H
      have c16b0 : decide (0 ≤ x4_1) = true := decide_eq_true c16
      clear c16
      by_cases c17 : x209001_1.length < 5864062014805
      ·
       rw [if_pos c17] at H
       have LMc17 := ym c17
       clear c17
       obtain ⟨y211, hy211⟩ : ∃ y_ : List (S100), y_ = (x209001_1 ++ [(⟨(rd_T99 l0_1 x4_1).f0, (rd_T99 l0_1 x4_1).f1, (rd_T99 l0_1 x4_1).f2⟩ : S100)]) := ⟨_, rfl⟩
       replace H : (heraldlaw15_words.l0 k1 (wrap64 (x4_1 + 1)) l0_0 l0_1 y205 y211) = some (r1, r2) := by first | (rw [hy211]; with_reducible exact H) | (have H2_ := (Option.bind_some _ _).symm.trans H; rw [hy211]; with_reducible exact H2_) | (have H2_ := (Option.bind_some _ _).symm.trans H; with_reducible exact H2_) | with_reducible exact H | (rw [hy211]; exact H) | exact H
       have Ny211 := ym hy211
       clear hy211
       have H' := ym H
       clear H
       have hnb18 := NB200_201.out
       have hnc18 := NB201_200.out
       have hnb19 := NB200_208.out
       have hnc19 := NB208_200.out
       have hcz20_0 : wr.cell? ⟨gb200, 0, none⟩ = some (.slice A0_0 l0_0.length c0_0) := (yw BK200.out 0).trans rfl
       have hcz20_1 : wr.cell? ⟨gb200, 1, none⟩ = some (.slice A0_1 l0_1.length c0_1) := (yw BK200.out 1).trans rfl
       have hfz20_0 := yv BK200.out 0
       have hfz20_1 := yv BK200.out 1
       have p209 : 0 ≤ (x4_1 : Int) := of_decide_eq_true y5
       have q209 : x4_1 < (l0_1.length : Int) := of_decide_eq_true y5
       obtain ⟨ad209, e209, hx209_0, hx209_1, hx209_2⟩ := at_T99 HR0_1.out x4_1 p209 q209
       cases e209
       replace hx209_0 := (HB.out.cell (World.block_lt_of_cell? w _ hx209_0)).trans hx209_0
       replace hx209_1 := (HB.out.cell (World.block_lt_of_cell? w _ hx209_1)).trans hx209_1
       replace hx209_2 := (HB.out.cell (World.block_lt_of_cell? w _ hx209_2)).trans hx209_2
       replace p209 := eq_true p209
       replace q209 := eq_true q209
       go_wp2_with (first | ((with_reducible refine gate_dst (N := 5) rfl ?_); refine box_event ?hg (N := 5) ?hd (cs := #[.int .i64 0, .int .i64 0, .int .i64 0]) (t := 99) ?hr ?_; (case hd => rfl); (case hg => rfl); (case hr => first | (go_simp; done) | (go_simp; rfl)); intro gb210 hg w21 hbox hb; have n0_ := ym (yp (by (with_reducible repeat apply y2); exact HO_209000.out) hb); have n1_ := ym (yp (by (with_reducible repeat apply y2); exact HO_209001.out) hb); have n2_ := ym (yq (g := gb200) (o := .cells #[.slice A0_0 l0_0.length c0_0, .slice (some ad209) l0_1.length c0_1] 52 (0, 0)) (yc BK200) hb); have n3_ := ym (yq (g := gb201) (o := .cells #[.slice none 0 0, .slice none 0 0] 56 (0, 0)) (yc BK201) hb); have n4_ := ym (yq (g := gb208) (o := .cells #[.slice Ao10 y205.length co10, u209001] 56 (0, 0)) (yc BK208) hb); have n5_ := ym (yn yb hb); have n6_ := ym (hbox); have n7_ := ym ((by rw [hg]; exact (below_size yb) : w.heap.size ≤ gb210)); have n8_ := n7_; have n9_ := ym ((by rw [hg]; exact Nat.ne_of_lt (blk_lt (g := gb200) (o := .cells #[.slice A0_0 l0_0.length c0_0, .slice (some ad209) l0_1.length c0_1] 52 (0, 0)) (yc BK200)) : gb200 ≠ gb210)); have n10_ := ym ((by rw [hg]; exact Nat.ne_of_gt (blk_lt (g := gb200) (o := .cells #[.slice A0_0 l0_0.length c0_0, .slice (some ad209) l0_1.length c0_1] 52 (0, 0)) (yc BK200)) : gb210 ≠ gb200)); have n11_ := ym ((by rw [hg]; exact Nat.ne_of_lt (blk_lt (g := gb201) (o := .cells #[.slice none 0 0, .slice none 0 0] 56 (0, 0)) (yc BK201)) : gb201 ≠ gb210)); have n12_ := ym ((by rw [hg]; exact Nat.ne_of_gt (blk_lt (g := gb201) (o := .cells #[.slice none 0 0, .slice none 0 0] 56 (0, 0)) (yc BK201)) : gb210 ≠ gb201)); have n13_ := ym ((by rw [hg]; exact Nat.ne_of_lt (blk_lt (g := gb208) (o := .cells #[.slice Ao10 y205.length co10, u209001] 56 (0, 0)) (yc BK208)) : gb208 ≠ gb210)); have n14_ := ym ((by rw [hg]; exact Nat.ne_of_gt (blk_lt (g := gb208) (o := .cells #[.slice Ao10 y205.length co10, u209001] 56 (0, 0)) (yc BK208)) : gb210 ≠ gb208)); clear HO_209000; clear HO_209001; clear BK200; clear BK201; clear BK208; clear HB; have HO_209000 := n0_; have HO_209001 := n1_; have BK200 := n2_; have BK201 := n3_; have BK208 := n4_; have HB := n5_; have BK210 := n6_; have GW210 := n7_; have GE210 := n8_; have NB200_210 := n9_; have NB210_200 := n10_; have NB201_210 := n11_; have NB210_201 := n12_; have NB208_210 := n13_; have NB210_208 := n14_; clear n0_ n1_ n2_ n3_ n4_ n5_ n6_ n7_ n8_ n9_ n10_ n11_ n12_ n13_ n14_; clear hb hbox hg; have hnb22 := NB210_200.out; have hnc22 := NB200_210.out; have hnb23 := NB210_201.out; have hnc23 := NB201_210.out; have hnb24 := NB210_208.out; have hnc24 := NB208_210.out; have hcz25_0 : w21.cell? ⟨gb210, 0, none⟩ = some (.int .i64 0) := (yw BK210.out 0).trans rfl; have hcz25_1 : w21.cell? ⟨gb210, 1, none⟩ = some (.int .i64 0) := (yw BK210.out 1).trans rfl; have hcz25_2 : w21.cell? ⟨gb210, 2, none⟩ = some (.int .i64 0) := (yw BK210.out 2).trans rfl; have hfz25_0 := yv BK210.out 0; have hfz25_1 := yv BK210.out 1; have hfz25_2 := yv BK210.out 2; have hnb26 := NB208_201.out; have hnc26 := NB201_208.out; have hcz27_0 : w21.cell? ⟨gb208, 0, none⟩ = some (.slice Ao10 y205.length co10) := (yw BK208.out 0).trans rfl; have hcz27_1 : w21.cell? ⟨gb208, 1, none⟩ = some (u209001) := (yw BK208.out 1).trans rfl; have hfz27_0 := yv BK208.out 0; have hfz27_1 := yv BK208.out 1) | ((with_reducible refine gate_builtin (b := .append) (xs := #[.tmp 24, .tmp 32]) rfl ?_); at_builtin; refine Kd.R_append k100 (w0 := w) w.heap.size rfl (.tmp 24) (.tmp 32) 54 100 (.agg #[(.int .i64 0), (.int .i64 0), (.int .i64 0)]) 24 rfl Try.underlying54 info100 rfl (by decide) (by omega) u209001 x209001_1 (⟨(rd_T99 l0_1 x4_1).f0, (rd_T99 l0_1 x4_1).f1, (rd_T99 l0_1 x4_1).f2⟩ : S100) [.int .i64 ((rd_T99 l0_1 x4_1).f0), .int .i64 ((rd_T99 l0_1 x4_1).f1), .int .i64 ((rd_T99 l0_1 x4_1).f2)] (fun _ => True) (fun _ => False) rfl (by first | (go_simp; done) | (go_simp; rfl)) ?aP (fun _ hk => hk.elim) ?aF ?aO ?aB ?aS ?aL ?_; (case aP => exact k100_mkM _ _ _ (⟨(rd_T99 l0_1 x4_1).f0, (rd_T99 l0_1 x4_1).f1, (rd_T99 l0_1 x4_1).f2⟩ : S100)); (case aB => exact yb); (case aF => exact (fun _ _ => trivial)); (case aO => exact (by (with_reducible repeat apply y2); exact Kd.R_mono (Kd.R_far (p := ⟨gb210, 2, none⟩) (Kd.R_far (p := ⟨gb210, 1, none⟩) (Kd.R_far (p := ⟨gb210, 0, none⟩) (Kd.R_types HO_209001.out BK210.out (by decide)) (fun _ hk => hk.2) (.int .i64 ((rd_T99 l0_1 x4_1).f0))) (fun _ hk => hk.2) (.int .i64 ((rd_T99 l0_1 x4_1).f1))) (fun _ hk => hk.2) (.int .i64 ((rd_T99 l0_1 x4_1).f2))) (fun _ hk => trivial))); (case aS => exact (below_size yb)); (case aL => have := LMc17.out; omega); intro v212 w28 ho hb hg hat; rw [← Ny211.out] at ho; have n0_ := ym (Kd.R_over' (by (with_reducible repeat apply y2); exact (Kd.R_mono (Kd.R_far (p := ⟨gb210, 2, none⟩) (Kd.R_far (p := ⟨gb210, 1, none⟩) (Kd.R_far (p := ⟨gb210, 0, none⟩) (Kd.R_types HO_209000.out BK210.out (by decide)) (fun _ hk => hk.2) (.int .i64 ((rd_T99 l0_1 x4_1).f0))) (fun _ hk => hk.2) (.int .i64 ((rd_T99 l0_1 x4_1).f1))) (fun _ hk => hk.2) (.int .i64 ((rd_T99 l0_1 x4_1).f2))) (fun _ h_ => h_.1))) (Kd.R_typed (by (with_reducible repeat apply y2); exact (Kd.R_mono (Kd.R_far (p := ⟨gb210, 2, none⟩) (Kd.R_far (p := ⟨gb210, 1, none⟩) (Kd.R_far (p := ⟨gb210, 0, none⟩) (Kd.R_types HO_209001.out BK210.out (by decide)) (fun _ hk => hk.2) (.int .i64 ((rd_T99 l0_1 x4_1).f0))) (fun _ hk => hk.2) (.int .i64 ((rd_T99 l0_1 x4_1).f1))) (fun _ hk => hk.2) (.int .i64 ((rd_T99 l0_1 x4_1).f2))) (fun _ h_ => h_.1)))) (by decide) hg); have n1_ := ym (blk_grown (g := gb200) (o := .cells #[.slice A0_0 l0_0.length c0_0, .slice (some ad209) l0_1.length c0_1] 52 (0, 0)) (by (with_reducible repeat refine y4 ?_); refine yx ?_ NB200_210.out _; (with_reducible repeat refine y4 ?_); refine yx ?_ NB200_210.out _; (with_reducible repeat refine y4 ?_); refine yx ?_ NB200_210.out _; (with_reducible repeat refine y4 ?_); exact BK200.out) hg (Kd.R_ne HO_209001.out BK200.out (by decide))); have n2_ := ym (blk_grown (g := gb201) (o := .cells #[.slice none 0 0, .slice none 0 0] 56 (0, 0)) (by (with_reducible repeat refine y4 ?_); refine yx ?_ NB201_210.out _; (with_reducible repeat refine y4 ?_); refine yx ?_ NB201_210.out _; (with_reducible repeat refine y4 ?_); refine yx ?_ NB201_210.out _; (with_reducible repeat refine y4 ?_); exact BK201.out) hg (Kd.R_ne HO_209001.out BK201.out (by decide))); have n3_ := ym (blk_grown (g := gb208) (o := .cells #[.slice Ao10 y205.length co10, u209001] 56 (0, 0)) (by (with_reducible repeat refine y4 ?_); refine yx ?_ NB208_210.out _; (with_reducible repeat refine y4 ?_); refine yx ?_ NB208_210.out _; (with_reducible repeat refine y4 ?_); refine yx ?_ NB208_210.out _; (with_reducible repeat refine y4 ?_); exact BK208.out) hg (Kd.R_ne HO_209001.out BK208.out (by decide))); have n4_ := ym (blk_grown (g := gb210) (o := .cells #[.int .i64 ((rd_T99 l0_1 x4_1).f0), .int .i64 ((rd_T99 l0_1 x4_1).f1), .int .i64 ((rd_T99 l0_1 x4_1).f2)] 99 (0, 0)) (by (with_reducible repeat refine y4 ?_); refine yy (cs := #[.int .i64 ((rd_T99 l0_1 x4_1).f0), .int .i64 ((rd_T99 l0_1 x4_1).f1), .int .i64 0]) ?_ 2 _ rfl; (with_reducible repeat refine y4 ?_); refine yy (cs := #[.int .i64 ((rd_T99 l0_1 x4_1).f0), .int .i64 0, .int .i64 0]) ?_ 1 _ rfl; (with_reducible repeat refine y4 ?_); refine yy (cs := #[.int .i64 0, .int .i64 0, .int .i64 0]) ?_ 0 _ rfl; (with_reducible repeat refine y4 ?_); exact BK210.out) hg (Kd.R_ne HO_209001.out BK210.out (by decide))); have n5_ := ym (hb); have n6_ := ym (ho); clear HO_209000; clear BK200; clear BK201; clear BK208; clear BK210; clear HB; clear HO_209001; have HO_209000 := n0_; have BK200 := n1_; have BK201 := n2_; have BK208 := n3_; have BK210 := n4_; have HB := n5_; have HO213 := n6_; clear n0_ n1_ n2_ n3_ n4_ n5_ n6_; clear ho hb hg hat; obtain ⟨Ao29, co29, eo29⟩ := Kd.R_slice HO213.out; subst eo29; have hcz30_0 : w28.cell? ⟨gb208, 0, none⟩ = some (.slice Ao10 y205.length co10) := (yw BK208.out 0).trans rfl; have hcz30_1 : w28.cell? ⟨gb208, 1, none⟩ = some (u209001) := (yw BK208.out 1).trans rfl; have hfz30_0 := yv BK208.out 0; have hfz30_1 := yv BK208.out 1))
       go_roundg k1
       case measure => have := HK1.out; omega
       case rel => exact ⟨(wrap64 (x4_1 + 1)), (y211), (.slice Ao29 y211.length co29), y7, H', ⟨by have := HK1.out; omega⟩, ⟨by (with_reducible repeat apply y2); exact Kd.R_mono (Kd.R_far (p := ⟨gb208, 1, none⟩) (Kd.R_types HO_209000.out BK208.out (by decide)) (fun _ hk => hk.2) (.slice Ao29 y211.length co29)) (fun _ hk => trivial)⟩, ⟨by (with_reducible repeat apply y2); exact Kd.R_mono (Kd.R_far (p := ⟨gb208, 1, none⟩) (Kd.R_types HO213.out BK208.out (by decide)) (fun _ hk => hk.2) (.slice Ao29 y211.length co29)) (fun _ hk => trivial)⟩, ⟨by (with_reducible repeat refine y4 ?_); refine yx ?_ NB200_208.out _; (with_reducible repeat refine y4 ?_); exact BK200.out⟩, ⟨by (with_reducible repeat refine y4 ?_); refine yx ?_ NB201_208.out _; (with_reducible repeat refine y4 ?_); exact BK201.out⟩, ⟨by (with_reducible repeat refine y4 ?_); refine yy (cs := #[.slice Ao10 y205.length co10, u209001]) ?_ 1 _ rfl; (with_reducible repeat refine y4 ?_); exact BK208.out⟩, ⟨by repeat (first | (with_reducible first | exact HB.out | apply y3 | refine ys ?_ GE200.out | refine ys ?_ GE201.out | refine ys ?_ GE208.out | refine ys ?_ GE210.out) | exact HB.out)⟩⟩
      rw [if_neg c17] at H
      exact absurd H (by simp)
     rw [if_neg c16] at H
     exact absurd H (by simp)
    rw [if_neg c15] at H
    have c15b0 : decide (x4_1 < (l0_1.length : Int)) = false := decide_eq_false c15
    clear c15
    simp only [Option.some.injEq, Prod.mk.injEq] at H
    obtain ⟨rfl, rfl⟩ := H
    have hnb31 := NB200_201.out
    have hnc31 := NB201_200.out
    have hnb32 := NB200_208.out
    have hnc32 := NB208_200.out
    have hcz33_0 : wr.cell? ⟨gb200, 0, none⟩ = some (.slice A0_0 l0_0.length c0_0) := (yw BK200.out 0).trans rfl
    have hcz33_1 : wr.cell? ⟨gb200, 1, none⟩ = some (.slice A0_1 l0_1.length c0_1) := (yw BK200.out 1).trans rfl
    have hfz33_0 := yv BK200.out 0
    have hfz33_1 := yv BK200.out 1
    have hnb34 := NB208_201.out
    have hnc34 := NB201_208.out
    have hcz35_0 : wr.cell? ⟨gb208, 0, none⟩ = some (.slice Ao10 y205.length co10) := (yw BK208.out 0).trans rfl
    have hcz35_1 : wr.cell? ⟨gb208, 1, none⟩ = some (u209001) := (yw BK208.out 1).trans rfl
    have hfz35_0 := yv BK208.out 0
    have hfz35_1 := yv BK208.out 1
    have hcz36_0 : wr.cell? ⟨gb201, 0, none⟩ = some (.slice none 0 0) := (yw BK201.out 0).trans rfl
    have hcz36_1 : wr.cell? ⟨gb201, 1, none⟩ = some (.slice none 0 0) := (yw BK201.out 1).trans rfl
    have hfz36_0 := yv BK201.out 0
    have hfz36_1 := yv BK201.out 1
    obtain ⟨Ao37, co37, eo37⟩ := Kd.R_slice HO_209001.out
    subst eo37
    go_wp2
    refine bodyPost_ret (results_cell_row rfl _ _ gb201 56 #[.slice Ao10 y205.length co10, .slice Ao37 x209001_1.length co37] (0, 0) _ rfl (by (with_reducible repeat refine y4 ?_); refine yy (cs := #[.slice Ao10 y205.length co10, .slice none 0 0]) ?_ 1 _ rfl; (with_reducible repeat refine y4 ?_); refine yy (cs := #[.slice none 0 0, .slice none 0 0]) ?_ 0 _ rfl; (with_reducible repeat refine y4 ?_); exact BK201.out) Try.underlying56 rfl (by kernel_rfl)) rfl ?_
    exact ⟨_, _, by first | rfl | (simp [errW_none, errW_some] <;> rfl) | (simp [*, errW_none, errW_some] <;> rfl), by (with_reducible repeat apply y2); exact Kd.R_mono (Kd.R_far (p := ⟨gb201, 1, none⟩) (Kd.R_far (p := ⟨gb201, 0, none⟩) (Kd.R_types HO_209000.out BK201.out (by decide)) (fun _ hk => hk.2) (.slice Ao10 y205.length co10)) (fun _ hk => hk.2) (.slice Ao37 x209001_1.length co37)) (fun _ hk => trivial), by (with_reducible repeat apply y2); exact Kd.R_mono (Kd.R_far (p := ⟨gb201, 1, none⟩) (Kd.R_far (p := ⟨gb201, 0, none⟩) (Kd.R_types HO_209001.out BK201.out (by decide)) (fun _ hk => hk.2) (.slice Ao10 y205.length co10)) (fun _ hk => hk.2) (.slice Ao37 x209001_1.length co37)) (fun _ hk => trivial), by repeat (first | (with_reducible first | exact HB.out | apply y3 | refine ys ?_ GE200.out | refine ys ?_ GE201.out | refine ys ?_ GE208.out) | exact HB.out)⟩
 rw [if_neg c2] at H
 exact absurd H (by simp)

end Go.Proofs.Ytfjpnmhbbfiaaaa.P
