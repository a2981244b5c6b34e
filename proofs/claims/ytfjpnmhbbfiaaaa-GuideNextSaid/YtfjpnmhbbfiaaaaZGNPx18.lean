-- Printed by xprint.py (wip): functions, contracts, rows. Lean checks it.
import Derived.Test.YtfjpnmhbbfiaaaaZGNPx0
import Derived.Test.YtfjpnmhbbfiaaaaZGNPx16
import Derived.Test.YtfjpnmhbbfiaaaaZGNTiny
namespace Go.Proofs.Ytfjpnmhbbfiaaaa.P
open Go.RowKit Go.Proofs.YtfjpnmhbbfiaaaaW.PrintWords Go.Proofs.YtfjpnmhbbfiaaaaW.PrintLast Go.Proofs.YtfjpnmhbbfiaaaaW.PrintMore
attribute [local go_sem] max2_int min2_int max_two min_two max_three min_three max_four min_four   -- for this text's walks alone
set_option linter.unusedVariables false
set_option linter.unusedSimpArgs false

/-! ### heraldref15_edge: function 52 -/
mutual
def heraldref15_edge.j0 : Nat → Int → Bool → List Bool → List (S93) → Int → Int → Int → Int → Option (Bool)
  | 0, _, _, _, _, _, _, _, _ => none
  | k + 1, x1, x31, x249000, x249001, x251000, x251001, x251002, x251003 => if x31 = true then (some false) else (heraldref15_edge.l0 k x1 0 x249000 x249001 x251000 x251001 x251002 x251003)
def heraldref15_edge.l0 : Nat → Int → Int → List Bool → List (S93) → Int → Int → Int → Int → Option (Bool)
  | 0, _, _, _, _, _, _, _, _ => none
  | k + 1, x1, x6, x249000, x249001, x251000, x251001, x251002, x251003 => if x6 < x1 then (if 0 ≤ x6 then (if x6 < (x249001.length : Int) then (if ((rd_T93 x249001 x6).f0) = x251000 then (if ((rd_T93 x249001 x6).f1) ≤ x251002 then (if x251001 ≤ ((rd_T93 x249001 x6).f2) then (some false) else (heraldref15_edge.l0 k x1 (wrap64 (x6 + 1)) x249000 x249001 x251000 x251001 x251002 x251003)) else (heraldref15_edge.l0 k x1 (wrap64 (x6 + 1)) x249000 x249001 x251000 x251001 x251002 x251003)) else (heraldref15_edge.l0 k x1 (wrap64 (x6 + 1)) x249000 x249001 x251000 x251001 x251002 x251003)) else (none)) else (none)) else (some true)
end
def heraldref15_edge.f (k : Nat) (l0_0 : List Bool) (l0_1 : List (S93)) (a1 : Int) : Option (Bool) := if 0 ≤ a1 then (if a1 < (l0_1.length : Int) then ((heraldref15_state.f l0_0 l0_1 ((rd_T93 l0_1 a1).f0)).bind fun t251 => (if t251 = true then ((heraldref15_state.f l0_0 l0_1 ((rd_T93 l0_1 a1).f3)).bind fun t252 => (if t252 = true then (heraldref15_edge.j0 k a1 (decide (((rd_T93 l0_1 a1).f1) > ((rd_T93 l0_1 a1).f2))) l0_0 l0_1 ((rd_T93 l0_1 a1).f0) ((rd_T93 l0_1 a1).f1) ((rd_T93 l0_1 a1).f2) ((rd_T93 l0_1 a1).f3)) else (heraldref15_edge.j0 k a1 true l0_0 l0_1 ((rd_T93 l0_1 a1).f0) ((rd_T93 l0_1 a1).f1) ((rd_T93 l0_1 a1).f2) ((rd_T93 l0_1 a1).f3)))) else (heraldref15_edge.j0 k a1 true l0_0 l0_1 ((rd_T93 l0_1 a1).f0) ((rd_T93 l0_1 a1).f1) ((rd_T93 l0_1 a1).f2) ((rd_T93 l0_1 a1).f3)))) else (none)) else (none)
theorem heraldref15_edge.mono_l : ∀ k, (∀ y0 y1 y2 y3 y4 y5 y6 y7, LeO (heraldref15_edge.j0 k y0 y1 y2 y3 y4 y5 y6 y7) (heraldref15_edge.j0 (k + 1) y0 y1 y2 y3 y4 y5 y6 y7)) ∧ (∀ y0 y1 y2 y3 y4 y5 y6 y7, LeO (heraldref15_edge.l0 k y0 y1 y2 y3 y4 y5 y6 y7) (heraldref15_edge.l0 (k + 1) y0 y1 y2 y3 y4 y5 y6 y7))
  | 0 => ⟨fun _ _ _ _ _ _ _ _ r h => by simp [heraldref15_edge.j0] at h, fun _ _ _ _ _ _ _ _ r h => by simp [heraldref15_edge.l0] at h⟩
  | k + 1 => by
    obtain ⟨ih0, ih1⟩ := heraldref15_edge.mono_l k
    refine ⟨?_, ?_⟩
    · intro y0 y1 y2 y3 y4 y5 y6 y7
      unfold heraldref15_edge.j0
      repeat' first
      | (with_reducible exact ih0 _ _ _ _ _ _ _ _)
      | (with_reducible exact ih1 _ _ _ _ _ _ _ _)
      | (with_reducible exact LeO.refl _)
      | (with_reducible exact LeO.none _)
      | (with_reducible refine LeO.ite ?_ ?_)
      | (with_reducible refine LeO.bind ?_ (fun _ => ?_))
      | exact ih0 _ _ _ _ _ _ _ _
      | exact ih1 _ _ _ _ _ _ _ _
      | exact LeO.none _
      | refine LeO.ite ?_ ?_
      | refine LeO.bind ?_ (fun _ => ?_)
    · intro y0 y1 y2 y3 y4 y5 y6 y7
      unfold heraldref15_edge.l0
      repeat' first
      | (with_reducible exact ih0 _ _ _ _ _ _ _ _)
      | (with_reducible exact ih1 _ _ _ _ _ _ _ _)
      | (with_reducible exact LeO.refl _)
      | (with_reducible exact LeO.none _)
      | (with_reducible refine LeO.ite ?_ ?_)
      | (with_reducible refine LeO.bind ?_ (fun _ => ?_))
      | exact ih0 _ _ _ _ _ _ _ _
      | exact ih1 _ _ _ _ _ _ _ _
      | exact LeO.none _
      | refine LeO.ite ?_ ?_
      | refine LeO.bind ?_ (fun _ => ?_)
theorem heraldref15_edge.mono : ∀ a0 a1 a2 k, LeO (heraldref15_edge.f k a0 a1 a2) (heraldref15_edge.f (k + 1) a0 a1 a2) := by
  intro a0 a1 a2 k
  obtain ⟨ih0, ih1⟩ := heraldref15_edge.mono_l k
  unfold heraldref15_edge.f
  repeat' first
      | (with_reducible exact ih0 _ _ _ _ _ _ _ _)
      | (with_reducible exact ih1 _ _ _ _ _ _ _ _)
      | (with_reducible exact LeO.refl _)
      | (with_reducible exact LeO.none _)
      | (with_reducible refine LeO.ite ?_ ?_)
      | (with_reducible refine LeO.bind ?_ (fun _ => ?_))
      | exact ih0 _ _ _ _ _ _ _ _
      | exact ih1 _ _ _ _ _ _ _ _
      | exact LeO.none _
      | refine LeO.ite ?_ ?_
      | refine LeO.bind ?_ (fun _ => ?_)
set_option maxHeartbeats 8000000 in
set_option maxRecDepth 100000 in
theorem heraldref15_edge.calls (k : Nat) (A0_0 : Option Addr) (c0_0 : Nat) (l0_0 : List Bool) (A0_1 : Option Addr) (c0_1 : Nat) (l0_1 : List (S93)) (a1 : Int) (r : Bool) (w : World) (hr0_0 : Kd.C Kd.bool w A0_0 l0_0.length l0_0) (hc0_0 : l0_0.length ≤ c0_0) (hr0_1 : Kd.C k93 w A0_1 l0_1.length l0_1) (hc0_1 : l0_1.length ≤ c0_1) (h : heraldref15_edge.f k l0_0 l0_1 a1 = some r) :
    Calls Try.prog 52 #[.agg #[.slice A0_0 l0_0.length c0_0, .slice A0_1 l0_1.length c0_1], .int .i64 a1] w fun e w' => e = .returned (.bool r) ∧ Below w.heap.size w w' := by
 have hu28 := Try.underlying28
 have hu93 := Try.underlying93
 have HR0_0 := ym hr0_0
 have HC0_0 := ym hc0_0
 clear hr0_0 hc0_0
 have HR0_1 := ym hr0_1
 have HC0_1 := ym hc0_1
 clear hr0_1 hc0_1
 have HB := ym (Below.refl w.heap.size w)
 have H : (if 0 ≤ a1 then (if a1 < (l0_1.length : Int) then ((heraldref15_state.f l0_0 l0_1 ((rd_T93 l0_1 a1).f0)).bind fun t251 => (if t251 = true then ((heraldref15_state.f l0_0 l0_1 ((rd_T93 l0_1 a1).f3)).bind fun t252 => (if t252 = true then (heraldref15_edge.j0 k a1 (decide (((rd_T93 l0_1 a1).f1) > ((rd_T93 l0_1 a1).f2))) l0_0 l0_1 ((rd_T93 l0_1 a1).f0) ((rd_T93 l0_1 a1).f1) ((rd_T93 l0_1 a1).f2) ((rd_T93 l0_1 a1).f3)) else (heraldref15_edge.j0 k a1 true l0_0 l0_1 ((rd_T93 l0_1 a1).f0) ((rd_T93 l0_1 a1).f1) ((rd_T93 l0_1 a1).f2) ((rd_T93 l0_1 a1).f3)))) else (heraldref15_edge.j0 k a1 true l0_0 l0_1 ((rd_T93 l0_1 a1).f0) ((rd_T93 l0_1 a1).f1) ((rd_T93 l0_1 a1).f2) ((rd_T93 l0_1 a1).f3)))) else (none)) else (none)) = some r := h
 clear h
 by_cases c3 : 0 ≤ a1
 ·
  rw [if_pos c3] at H
  have c3b0 : decide (0 ≤ a1) = true := decide_eq_true c3
  clear c3
  by_cases c4 : a1 < (l0_1.length : Int)
  ·
   rw [if_pos c4] at H
   have c4b0 : decide (a1 < (l0_1.length : Int)) = true := decide_eq_true c4
   clear c4
   have HC5 := ym H
   clear H
   go_enter Try.func52, Try.ntmps52
   go_upto_region 2 with (first | ((with_reducible refine gate_dst (N := 2) rfl ?_); refine box_event ?hg (N := 2) ?hd (cs := #[.slice A0_0 l0_0.length c0_0, .slice A0_1 l0_1.length c0_1]) (t := 28) ?hr ?_; (case hd => rfl); (case hg => rfl); (case hr => first | (go_simp; done) | (go_simp; rfl)); intro gb248 hg w6 hbox hb; have n0_ := ym (yn yb hb); have n1_ := ym (hbox); have n2_ := ym ((by rw [hg]; exact (below_size yb) : w.heap.size ≤ gb248)); have n3_ := n2_; clear HB; have HB := n0_; have BK248 := n1_; have GW248 := n2_; have GE248 := n3_; clear n0_ n1_ n2_ n3_; clear hb hbox hg; have hcz7_0 : w6.cell? ⟨gb248, 0, none⟩ = some (.slice A0_0 l0_0.length c0_0) := (yw BK248.out 0).trans rfl; have hcz7_1 : w6.cell? ⟨gb248, 1, none⟩ = some (.slice A0_1 l0_1.length c0_1) := (yw BK248.out 1).trans rfl; have hfz7_0 := yv BK248.out 0; have hfz7_1 := yv BK248.out 1; have p249 : 0 ≤ (a1 : Int) := of_decide_eq_true y5; have q249 : a1 < (l0_1.length : Int) := of_decide_eq_true y5; obtain ⟨ad249, e249, hx249_0, hx249_1, hx249_2, hx249_3⟩ := at_T93 HR0_1.out a1 p249 q249; cases e249; replace hx249_0 := (HB.out.cell (World.block_lt_of_cell? w _ hx249_0)).trans hx249_0; replace hx249_1 := (HB.out.cell (World.block_lt_of_cell? w _ hx249_1)).trans hx249_1; replace hx249_2 := (HB.out.cell (World.block_lt_of_cell? w _ hx249_2)).trans hx249_2; replace hx249_3 := (HB.out.cell (World.block_lt_of_cell? w _ hx249_3)).trans hx249_3; replace p249 := eq_true p249; replace q249 := eq_true q249) | ((with_reducible refine gate_dst (N := 5) rfl ?_); refine box_event ?hg (N := 5) ?hd (cs := #[.int .i64 0, .int .u8 0, .int .u8 0, .int .i64 0]) (t := 93) ?hr ?_; (case hd => rfl); (case hg => rfl); (case hr => first | (go_simp; done) | (go_simp; rfl)); intro gb250 hg w8 hbox hb; have n0_ := ym (yq (g := gb248) (o := .cells #[.slice A0_0 l0_0.length c0_0, .slice (some ad249) l0_1.length c0_1] 28 (0, 0)) (yc BK248) hb); have n1_ := ym (yn yb hb); have n2_ := ym (hbox); have n3_ := ym ((by rw [hg]; exact (below_size yb) : w.heap.size ≤ gb250)); have n4_ := n3_; have n5_ := ym ((by rw [hg]; exact Nat.ne_of_lt (blk_lt (g := gb248) (o := .cells #[.slice A0_0 l0_0.length c0_0, .slice (some ad249) l0_1.length c0_1] 28 (0, 0)) (yc BK248)) : gb248 ≠ gb250)); have n6_ := ym ((by rw [hg]; exact Nat.ne_of_gt (blk_lt (g := gb248) (o := .cells #[.slice A0_0 l0_0.length c0_0, .slice (some ad249) l0_1.length c0_1] 28 (0, 0)) (yc BK248)) : gb250 ≠ gb248)); clear BK248; clear HB; have BK248 := n0_; have HB := n1_; have BK250 := n2_; have GW250 := n3_; have GE250 := n4_; have NB248_250 := n5_; have NB250_248 := n6_; clear n0_ n1_ n2_ n3_ n4_ n5_ n6_; clear hb hbox hg; have hnb9 := NB250_248.out; have hnc9 := NB248_250.out; have hcz10_0 : w8.cell? ⟨gb250, 0, none⟩ = some (.int .i64 0) := (yw BK250.out 0).trans rfl; have hcz10_1 : w8.cell? ⟨gb250, 1, none⟩ = some (.int .u8 0) := (yw BK250.out 1).trans rfl; have hcz10_2 : w8.cell? ⟨gb250, 2, none⟩ = some (.int .u8 0) := (yw BK250.out 2).trans rfl; have hcz10_3 : w8.cell? ⟨gb250, 3, none⟩ = some (.int .i64 0) := (yw BK250.out 3).trans rfl; have hfz10_0 := yv BK250.out 0; have hfz10_1 := yv BK250.out 1; have hfz10_2 := yv BK250.out 2; have hfz10_3 := yv BK250.out 3))
   (try simp only [Act.put, y0])
   go_cut [31] (fun v31 wc => ∃ (kq : Nat) (x31_4 : Bool), v31 = .bool x31_4 ∧ Aside0 (heraldref15_edge.j0 kq a1 x31_4 l0_0 l0_1 ((rd_T93 l0_1 a1).f0) ((rd_T93 l0_1 a1).f1) ((rd_T93 l0_1 a1).f2) ((rd_T93 l0_1 a1).f3) = some r) ∧ Aside0 (kq ≤ k) ∧ Aside0 (wc.heap[gb248]? = some (.cells #[(.slice A0_0 l0_0.length c0_0), (.slice (some ad249) l0_1.length c0_1)] 28 (0, 0))) ∧ Aside0 (wc.heap[gb250]? = some (.cells #[.int .i64 ((rd_T93 l0_1 a1).f0), .int .u8 ((rd_T93 l0_1 a1).f1), .int .u8 ((rd_T93 l0_1 a1).f2), .int .i64 ((rd_T93 l0_1 a1).f3)] 93 (0, 0))) ∧ Aside0 (Below w.heap.size w wc))
   case first =>
    have H := HC5.out
    clear HC5
    replace H := Option.bind_eq_some_iff.mp H
    obtain ⟨t251, A110, H⟩ := H
    replace H : (if t251 = true then ((heraldref15_state.f l0_0 l0_1 ((rd_T93 l0_1 a1).f3)).bind fun t252 => (if t252 = true then (heraldref15_edge.j0 k a1 (decide (((rd_T93 l0_1 a1).f1) > ((rd_T93 l0_1 a1).f2))) l0_0 l0_1 ((rd_T93 l0_1 a1).f0) ((rd_T93 l0_1 a1).f1) ((rd_T93 l0_1 a1).f2) ((rd_T93 l0_1 a1).f3)) else (heraldref15_edge.j0 k a1 true l0_0 l0_1 ((rd_T93 l0_1 a1).f0) ((rd_T93 l0_1 a1).f1) ((rd_T93 l0_1 a1).f2) ((rd_T93 l0_1 a1).f3)))) else (heraldref15_edge.j0 k a1 true l0_0 l0_1 ((rd_T93 l0_1 a1).f0) ((rd_T93 l0_1 a1).f1) ((rd_T93 l0_1 a1).f2) ((rd_T93 l0_1 a1).f3))) = some r := H
    have A11 := ym A110
    clear A110
    by_cases c12 : t251 = true
    ·
     subst c12
     have H1 : ((heraldref15_state.f l0_0 l0_1 ((rd_T93 l0_1 a1).f3)).bind fun t252 => (if t252 = true then (heraldref15_edge.j0 k a1 (decide (((rd_T93 l0_1 a1).f1) > ((rd_T93 l0_1 a1).f2))) l0_0 l0_1 ((rd_T93 l0_1 a1).f0) ((rd_T93 l0_1 a1).f1) ((rd_T93 l0_1 a1).f2) ((rd_T93 l0_1 a1).f3)) else (heraldref15_edge.j0 k a1 true l0_0 l0_1 ((rd_T93 l0_1 a1).f0) ((rd_T93 l0_1 a1).f1) ((rd_T93 l0_1 a1).f2) ((rd_T93 l0_1 a1).f3)))) = some r := by rw [if_pos rfl] at H; exact H
     clear H
     have H := H1
     clear H1
     replace H := Option.bind_eq_some_iff.mp H
     obtain ⟨t252, A130, H⟩ := H
     replace H : (if t252 = true then (heraldref15_edge.j0 k a1 (decide (((rd_T93 l0_1 a1).f1) > ((rd_T93 l0_1 a1).f2))) l0_0 l0_1 ((rd_T93 l0_1 a1).f0) ((rd_T93 l0_1 a1).f1) ((rd_T93 l0_1 a1).f2) ((rd_T93 l0_1 a1).f3)) else (heraldref15_edge.j0 k a1 true l0_0 l0_1 ((rd_T93 l0_1 a1).f0) ((rd_T93 l0_1 a1).f1) ((rd_T93 l0_1 a1).f2) ((rd_T93 l0_1 a1).f3))) = some r := H
     have A13 := ym A130
     clear A130
     by_cases c14 : t252 = true
     ·
      subst c14
      have H1 : (heraldref15_edge.j0 k a1 (decide (((rd_T93 l0_1 a1).f1) > ((rd_T93 l0_1 a1).f2))) l0_0 l0_1 ((rd_T93 l0_1 a1).f0) ((rd_T93 l0_1 a1).f1) ((rd_T93 l0_1 a1).f2) ((rd_T93 l0_1 a1).f3)) = some r := by rw [if_pos rfl] at H; exact H
      clear H
      have H := H1
      clear H1
      have H' := ym H
      clear H
      have hnb15 := NB248_250.out
      have hnc15 := NB250_248.out
      have hcz16_0 : w8.cell? ⟨gb248, 0, none⟩ = some (.slice A0_0 l0_0.length c0_0) := (yw BK248.out 0).trans rfl
      have hcz16_1 : w8.cell? ⟨gb248, 1, none⟩ = some (.slice (some ad249) l0_1.length c0_1) := (yw BK248.out 1).trans rfl
      have hfz16_0 := yv BK248.out 0
      have hfz16_1 := yv BK248.out 1
      have hcz17_0 : w8.cell? ⟨gb250, 0, none⟩ = some (.int .i64 0) := (yw BK250.out 0).trans rfl
      have hcz17_1 : w8.cell? ⟨gb250, 1, none⟩ = some (.int .u8 0) := (yw BK250.out 1).trans rfl
      have hcz17_2 : w8.cell? ⟨gb250, 2, none⟩ = some (.int .u8 0) := (yw BK250.out 2).trans rfl
      have hcz17_3 : w8.cell? ⟨gb250, 3, none⟩ = some (.int .i64 0) := (yw BK250.out 3).trans rfl
      have hfz17_0 := yv BK250.out 0
      have hfz17_1 := yv BK250.out 1
      have hfz17_2 := yv BK250.out 2
      have hfz17_3 := yv BK250.out 3
      go_wp2_with (first | ((with_reducible refine gate_callee (f := 49) rfl ?_); refine goesL_ (some 16) rfl rfl Try.func49 (by kernel_rfl) rfl #[.agg #[.slice A0_0 l0_0.length c0_0, .slice (some ad249) l0_1.length c0_1], .int .i64 ((rd_T93 l0_1 a1).f0)] rfl y6 ?_; (with_reducible refine (heraldref15_state.calls _ _ l0_0 _ _ l0_1 ((rd_T93 l0_1 a1).f0) true _ ?side1 ?side2 ?side3 ?side4 A11.out).mono ?_); (case side1 => exact Kd.C_below HR0_0.out yb); (case side2 => exact HC0_0.out); (case side3 => exact Kd.C_below HR0_1.out yb); (case side4 => exact HC0_1.out); rintro e w18 ⟨rfl, hb⟩; refine ⟨_, rfl, ?_⟩; have n0_ := ym (yq (g := gb248) (o := .cells #[.slice A0_0 l0_0.length c0_0, .slice (some ad249) l0_1.length c0_1] 28 (0, 0)) (by (with_reducible repeat refine y4 ?_); refine yx ?_ NB248_250.out _; (with_reducible repeat refine y4 ?_); refine yx ?_ NB248_250.out _; (with_reducible repeat refine y4 ?_); refine yx ?_ NB248_250.out _; (with_reducible repeat refine y4 ?_); refine yx ?_ NB248_250.out _; (with_reducible repeat refine y4 ?_); exact BK248.out) hb); have n1_ := ym (yq (g := gb250) (o := .cells #[.int .i64 ((rd_T93 l0_1 a1).f0), .int .u8 ((rd_T93 l0_1 a1).f1), .int .u8 ((rd_T93 l0_1 a1).f2), .int .i64 ((rd_T93 l0_1 a1).f3)] 93 (0, 0)) (by (with_reducible repeat refine y4 ?_); refine yy (cs := #[.int .i64 ((rd_T93 l0_1 a1).f0), .int .u8 ((rd_T93 l0_1 a1).f1), .int .u8 ((rd_T93 l0_1 a1).f2), .int .i64 0]) ?_ 3 _ rfl; (with_reducible repeat refine y4 ?_); refine yy (cs := #[.int .i64 ((rd_T93 l0_1 a1).f0), .int .u8 ((rd_T93 l0_1 a1).f1), .int .u8 0, .int .i64 0]) ?_ 2 _ rfl; (with_reducible repeat refine y4 ?_); refine yy (cs := #[.int .i64 ((rd_T93 l0_1 a1).f0), .int .u8 0, .int .u8 0, .int .i64 0]) ?_ 1 _ rfl; (with_reducible repeat refine y4 ?_); refine yy (cs := #[.int .i64 0, .int .u8 0, .int .u8 0, .int .i64 0]) ?_ 0 _ rfl; (with_reducible repeat refine y4 ?_); exact BK250.out) hb); have n2_ := ym (yn yb hb); clear BK248; clear BK250; clear HB; have BK248 := n0_; have BK250 := n1_; have HB := n2_; clear n0_ n1_ n2_; (try clear hb); (try clear hb2); (try clear hk); (try clear hi); have hcz19_0 : w18.cell? ⟨gb248, 0, none⟩ = some (.slice A0_0 l0_0.length c0_0) := (yw BK248.out 0).trans rfl; have hcz19_1 : w18.cell? ⟨gb248, 1, none⟩ = some (.slice (some ad249) l0_1.length c0_1) := (yw BK248.out 1).trans rfl; have hfz19_0 := yv BK248.out 0; have hfz19_1 := yv BK248.out 1; have hcz20_0 : w18.cell? ⟨gb250, 0, none⟩ = some (.int .i64 ((rd_T93 l0_1 a1).f0)) := (yw BK250.out 0).trans rfl; have hcz20_1 : w18.cell? ⟨gb250, 1, none⟩ = some (.int .u8 ((rd_T93 l0_1 a1).f1)) := (yw BK250.out 1).trans rfl; have hcz20_2 : w18.cell? ⟨gb250, 2, none⟩ = some (.int .u8 ((rd_T93 l0_1 a1).f2)) := (yw BK250.out 2).trans rfl; have hcz20_3 : w18.cell? ⟨gb250, 3, none⟩ = some (.int .i64 ((rd_T93 l0_1 a1).f3)) := (yw BK250.out 3).trans rfl; have hfz20_0 := yv BK250.out 0; have hfz20_1 := yv BK250.out 1; have hfz20_2 := yv BK250.out 2; have hfz20_3 := yv BK250.out 3) | (go_at_call 49; (with_reducible refine (heraldref15_state.calls _ _ l0_0 _ _ l0_1 ((rd_T93 l0_1 a1).f3) true _ ?side1 ?side2 ?side3 ?side4 A13.out).mono ?_); (case side1 => exact y9 HR0_0); (case side2 => exact HC0_0.out); (case side3 => exact y9 HR0_1); (case side4 => exact HC0_1.out); rintro e w21 ⟨rfl, hb⟩; have n0_ := ym (yq (g := gb248) (o := .cells #[.slice A0_0 l0_0.length c0_0, .slice (some ad249) l0_1.length c0_1] 28 (0, 0)) (yc BK248) hb); have n1_ := ym (yq (g := gb250) (o := .cells #[.int .i64 ((rd_T93 l0_1 a1).f0), .int .u8 ((rd_T93 l0_1 a1).f1), .int .u8 ((rd_T93 l0_1 a1).f2), .int .i64 ((rd_T93 l0_1 a1).f3)] 93 (0, 0)) (yc BK250) hb); have n2_ := ym (yn yb hb); clear BK248; clear BK250; clear HB; have BK248 := n0_; have BK250 := n1_; have HB := n2_; clear n0_ n1_ n2_; (try clear hb); (try clear hb2); (try clear hk); (try clear hi); have hcz22_0 : w21.cell? ⟨gb250, 0, none⟩ = some (.int .i64 ((rd_T93 l0_1 a1).f0)) := (yw BK250.out 0).trans rfl; have hcz22_1 : w21.cell? ⟨gb250, 1, none⟩ = some (.int .u8 ((rd_T93 l0_1 a1).f1)) := (yw BK250.out 1).trans rfl; have hcz22_2 : w21.cell? ⟨gb250, 2, none⟩ = some (.int .u8 ((rd_T93 l0_1 a1).f2)) := (yw BK250.out 2).trans rfl; have hcz22_3 : w21.cell? ⟨gb250, 3, none⟩ = some (.int .i64 ((rd_T93 l0_1 a1).f3)) := (yw BK250.out 3).trans rfl; have hfz22_0 := yv BK250.out 0; have hfz22_1 := yv BK250.out 1; have hfz22_2 := yv BK250.out 2; have hfz22_3 := yv BK250.out 3))
      go_meet
      case rel => exact ⟨_, (decide (((rd_T93 l0_1 a1).f1) > ((rd_T93 l0_1 a1).f2))), y7, H', ⟨by first | omega | exact Nat.le_refl _⟩, ⟨by (with_reducible repeat refine y4 ?_); exact BK248.out⟩, ⟨by (with_reducible repeat refine y4 ?_); exact BK250.out⟩, ⟨by repeat (first | (with_reducible first | exact HB.out | apply y3 | refine ys ?_ GE248.out | refine ys ?_ GE250.out) | exact HB.out)⟩⟩
     replace c14 := Bool.eq_false_iff.mpr c14
     subst c14
     have H1 : (heraldref15_edge.j0 k a1 true l0_0 l0_1 ((rd_T93 l0_1 a1).f0) ((rd_T93 l0_1 a1).f1) ((rd_T93 l0_1 a1).f2) ((rd_T93 l0_1 a1).f3)) = some r := by rw [if_neg (show ¬ (false = true) by decide)] at H; exact H
     clear H
     have H := H1
     clear H1
     have H' := ym H
     clear H
     have hnb23 := NB248_250.out
     have hnc23 := NB250_248.out
     have hcz24_0 : w8.cell? ⟨gb248, 0, none⟩ = some (.slice A0_0 l0_0.length c0_0) := (yw BK248.out 0).trans rfl
     have hcz24_1 : w8.cell? ⟨gb248, 1, none⟩ = some (.slice (some ad249) l0_1.length c0_1) := (yw BK248.out 1).trans rfl
     have hfz24_0 := yv BK248.out 0
     have hfz24_1 := yv BK248.out 1
     have hcz25_0 : w8.cell? ⟨gb250, 0, none⟩ = some (.int .i64 0) := (yw BK250.out 0).trans rfl
     have hcz25_1 : w8.cell? ⟨gb250, 1, none⟩ = some (.int .u8 0) := (yw BK250.out 1).trans rfl
     have hcz25_2 : w8.cell? ⟨gb250, 2, none⟩ = some (.int .u8 0) := (yw BK250.out 2).trans rfl
     have hcz25_3 : w8.cell? ⟨gb250, 3, none⟩ = some (.int .i64 0) := (yw BK250.out 3).trans rfl
     have hfz25_0 := yv BK250.out 0
     have hfz25_1 := yv BK250.out 1
     have hfz25_2 := yv BK250.out 2
     have hfz25_3 := yv BK250.out 3
     go_wp2_with (first | ((with_reducible refine gate_callee (f := 49) rfl ?_); refine goesL_ (some 16) rfl rfl Try.func49 (by kernel_rfl) rfl #[.agg #[.slice A0_0 l0_0.length c0_0, .slice (some ad249) l0_1.length c0_1], .int .i64 ((rd_T93 l0_1 a1).f0)] rfl y6 ?_; (with_reducible refine (heraldref15_state.calls _ _ l0_0 _ _ l0_1 ((rd_T93 l0_1 a1).f0) true _ ?side1 ?side2 ?side3 ?side4 A11.out).mono ?_); (case side1 => exact Kd.C_below HR0_0.out yb); (case side2 => exact HC0_0.out); (case side3 => exact Kd.C_below HR0_1.out yb); (case side4 => exact HC0_1.out); rintro e w26 ⟨rfl, hb⟩; refine ⟨_, rfl, ?_⟩; have n0_ := ym (yq (g := gb248) (o := .cells #[.slice A0_0 l0_0.length c0_0, .slice (some ad249) l0_1.length c0_1] 28 (0, 0)) (by (with_reducible repeat refine y4 ?_); refine yx ?_ NB248_250.out _; (with_reducible repeat refine y4 ?_); refine yx ?_ NB248_250.out _; (with_reducible repeat refine y4 ?_); refine yx ?_ NB248_250.out _; (with_reducible repeat refine y4 ?_); refine yx ?_ NB248_250.out _; (with_reducible repeat refine y4 ?_); exact BK248.out) hb); have n1_ := ym (yq (g := gb250) (o := .cells #[.int .i64 ((rd_T93 l0_1 a1).f0), .int .u8 ((rd_T93 l0_1 a1).f1), .int .u8 ((rd_T93 l0_1 a1).f2), .int .i64 ((rd_T93 l0_1 a1).f3)] 93 (0, 0)) (by (with_reducible repeat refine y4 ?_); refine yy (cs := #[.int .i64 ((rd_T93 l0_1 a1).f0), .int .u8 ((rd_T93 l0_1 a1).f1), .int .u8 ((rd_T93 l0_1 a1).f2), .int .i64 0]) ?_ 3 _ rfl; (with_reducible repeat refine y4 ?_); refine yy (cs := #[.int .i64 ((rd_T93 l0_1 a1).f0), .int .u8 ((rd_T93 l0_1 a1).f1), .int .u8 0, .int .i64 0]) ?_ 2 _ rfl; (with_reducible repeat refine y4 ?_); refine yy (cs := #[.int .i64 ((rd_T93 l0_1 a1).f0), .int .u8 0, .int .u8 0, .int .i64 0]) ?_ 1 _ rfl; (with_reducible repeat refine y4 ?_); refine yy (cs := #[.int .i64 0, .int .u8 0, .int .u8 0, .int .i64 0]) ?_ 0 _ rfl; (with_reducible repeat refine y4 ?_); exact BK250.out) hb); have n2_ := ym (yn yb hb); clear BK248; clear BK250; clear HB; have BK248 := n0_; have BK250 := n1_; have HB := n2_; clear n0_ n1_ n2_; (try clear hb); (try clear hb2); (try clear hk); (try clear hi); have hcz27_0 : w26.cell? ⟨gb248, 0, none⟩ = some (.slice A0_0 l0_0.length c0_0) := (yw BK248.out 0).trans rfl; have hcz27_1 : w26.cell? ⟨gb248, 1, none⟩ = some (.slice (some ad249) l0_1.length c0_1) := (yw BK248.out 1).trans rfl; have hfz27_0 := yv BK248.out 0; have hfz27_1 := yv BK248.out 1; have hcz28_0 : w26.cell? ⟨gb250, 0, none⟩ = some (.int .i64 ((rd_T93 l0_1 a1).f0)) := (yw BK250.out 0).trans rfl; have hcz28_1 : w26.cell? ⟨gb250, 1, none⟩ = some (.int .u8 ((rd_T93 l0_1 a1).f1)) := (yw BK250.out 1).trans rfl; have hcz28_2 : w26.cell? ⟨gb250, 2, none⟩ = some (.int .u8 ((rd_T93 l0_1 a1).f2)) := (yw BK250.out 2).trans rfl; have hcz28_3 : w26.cell? ⟨gb250, 3, none⟩ = some (.int .i64 ((rd_T93 l0_1 a1).f3)) := (yw BK250.out 3).trans rfl; have hfz28_0 := yv BK250.out 0; have hfz28_1 := yv BK250.out 1; have hfz28_2 := yv BK250.out 2; have hfz28_3 := yv BK250.out 3) | (go_at_call 49; (with_reducible refine (heraldref15_state.calls _ _ l0_0 _ _ l0_1 ((rd_T93 l0_1 a1).f3) false _ ?side1 ?side2 ?side3 ?side4 A13.out).mono ?_); (case side1 => exact y9 HR0_0); (case side2 => exact HC0_0.out); (case side3 => exact y9 HR0_1); (case side4 => exact HC0_1.out); rintro e w29 ⟨rfl, hb⟩; have n0_ := ym (yq (g := gb248) (o := .cells #[.slice A0_0 l0_0.length c0_0, .slice (some ad249) l0_1.length c0_1] 28 (0, 0)) (yc BK248) hb); have n1_ := ym (yq (g := gb250) (o := .cells #[.int .i64 ((rd_T93 l0_1 a1).f0), .int .u8 ((rd_T93 l0_1 a1).f1), .int .u8 ((rd_T93 l0_1 a1).f2), .int .i64 ((rd_T93 l0_1 a1).f3)] 93 (0, 0)) (yc BK250) hb); have n2_ := ym (yn yb hb); clear BK248; clear BK250; clear HB; have BK248 := n0_; have BK250 := n1_; have HB := n2_; clear n0_ n1_ n2_; (try clear hb); (try clear hb2); (try clear hk); (try clear hi)))
     go_meet
     case rel => exact ⟨_, (true), y7, H', ⟨by first | omega | exact Nat.le_refl _⟩, ⟨by (with_reducible repeat refine y4 ?_); exact BK248.out⟩, ⟨by (with_reducible repeat refine y4 ?_); exact BK250.out⟩, ⟨by repeat (first | (with_reducible first | exact HB.out | apply y3 | refine ys ?_ GE248.out | refine ys ?_ GE250.out) | exact HB.out)⟩⟩
    replace c12 := Bool.eq_false_iff.mpr c12
    subst c12
    have H1 : (heraldref15_edge.j0 k a1 true l0_0 l0_1 ((rd_T93 l0_1 a1).f0) ((rd_T93 l0_1 a1).f1) ((rd_T93 l0_1 a1).f2) ((rd_T93 l0_1 a1).f3)) = some r := by rw [if_neg (show ¬ (false = true) by decide)] at H; exact H
    clear H
    have H := H1
    clear H1
    have H' := ym H
    clear H
    have hnb30 := NB248_250.out
    have hnc30 := NB250_248.out
    have hcz31_0 : w8.cell? ⟨gb248, 0, none⟩ = some (.slice A0_0 l0_0.length c0_0) := (yw BK248.out 0).trans rfl
    have hcz31_1 : w8.cell? ⟨gb248, 1, none⟩ = some (.slice (some ad249) l0_1.length c0_1) := (yw BK248.out 1).trans rfl
    have hfz31_0 := yv BK248.out 0
    have hfz31_1 := yv BK248.out 1
    have hcz32_0 : w8.cell? ⟨gb250, 0, none⟩ = some (.int .i64 0) := (yw BK250.out 0).trans rfl
    have hcz32_1 : w8.cell? ⟨gb250, 1, none⟩ = some (.int .u8 0) := (yw BK250.out 1).trans rfl
    have hcz32_2 : w8.cell? ⟨gb250, 2, none⟩ = some (.int .u8 0) := (yw BK250.out 2).trans rfl
    have hcz32_3 : w8.cell? ⟨gb250, 3, none⟩ = some (.int .i64 0) := (yw BK250.out 3).trans rfl
    have hfz32_0 := yv BK250.out 0
    have hfz32_1 := yv BK250.out 1
    have hfz32_2 := yv BK250.out 2
    have hfz32_3 := yv BK250.out 3
    go_wp2_with (first | ((with_reducible refine gate_callee (f := 49) rfl ?_); refine goesL_ (some 16) rfl rfl Try.func49 (by kernel_rfl) rfl #[.agg #[.slice A0_0 l0_0.length c0_0, .slice (some ad249) l0_1.length c0_1], .int .i64 ((rd_T93 l0_1 a1).f0)] rfl y6 ?_; (with_reducible refine (heraldref15_state.calls _ _ l0_0 _ _ l0_1 ((rd_T93 l0_1 a1).f0) false _ ?side1 ?side2 ?side3 ?side4 A11.out).mono ?_); (case side1 => exact Kd.C_below HR0_0.out yb); (case side2 => exact HC0_0.out); (case side3 => exact Kd.C_below HR0_1.out yb); (case side4 => exact HC0_1.out); rintro e w33 ⟨rfl, hb⟩; refine ⟨_, rfl, ?_⟩; have n0_ := ym (yq (g := gb248) (o := .cells #[.slice A0_0 l0_0.length c0_0, .slice (some ad249) l0_1.length c0_1] 28 (0, 0)) (by (with_reducible repeat refine y4 ?_); refine yx ?_ NB248_250.out _; (with_reducible repeat refine y4 ?_); refine yx ?_ NB248_250.out _; (with_reducible repeat refine y4 ?_); refine yx ?_ NB248_250.out _; (with_reducible repeat refine y4 ?_); refine yx ?_ NB248_250.out _; (with_reducible repeat refine y4 ?_); exact BK248.out) hb); have n1_ := ym (yq (g := gb250) (o := .cells #[.int .i64 ((rd_T93 l0_1 a1).f0), .int .u8 ((rd_T93 l0_1 a1).f1), .int .u8 ((rd_T93 l0_1 a1).f2), .int .i64 ((rd_T93 l0_1 a1).f3)] 93 (0, 0)) (by (with_reducible repeat refine y4 ?_); refine yy (cs := #[.int .i64 ((rd_T93 l0_1 a1).f0), .int .u8 ((rd_T93 l0_1 a1).f1), .int .u8 ((rd_T93 l0_1 a1).f2), .int .i64 0]) ?_ 3 _ rfl; (with_reducible repeat refine y4 ?_); refine yy (cs := #[.int .i64 ((rd_T93 l0_1 a1).f0), .int .u8 ((rd_T93 l0_1 a1).f1), .int .u8 0, .int .i64 0]) ?_ 2 _ rfl; (with_reducible repeat refine y4 ?_); refine yy (cs := #[.int .i64 ((rd_T93 l0_1 a1).f0), .int .u8 0, .int .u8 0, .int .i64 0]) ?_ 1 _ rfl; (with_reducible repeat refine y4 ?_); refine yy (cs := #[.int .i64 0, .int .u8 0, .int .u8 0, .int .i64 0]) ?_ 0 _ rfl; (with_reducible repeat refine y4 ?_); exact BK250.out) hb); have n2_ := ym (yn yb hb); clear BK248; clear BK250; clear HB; have BK248 := n0_; have BK250 := n1_; have HB := n2_; clear n0_ n1_ n2_; (try clear hb); (try clear hb2); (try clear hk); (try clear hi)))
    go_meet
    case rel => exact ⟨_, (true), y7, H', ⟨by first | omega | exact Nat.le_refl _⟩, ⟨by (with_reducible repeat refine y4 ?_); exact BK248.out⟩, ⟨by (with_reducible repeat refine y4 ?_); exact BK250.out⟩, ⟨by repeat (first | (with_reducible first | exact HB.out | apply y3 | refine ys ?_ GE248.out | refine ys ?_ GE250.out) | exact HB.out)⟩⟩
   case rest =>
    clear HC5
    try clear c1
    try clear c2
    try clear p2
    try clear q2
    try clear hx2
    try clear c3
    try clear c3b0
    try clear c4
    try clear c4b0
    try clear c5
    try clear c9
    try clear c12
    try clear c14
    try clear c15
    try clear c23
    try clear p24
    try clear q24
    try clear hx24
    try clear c30
    try clear hcz10_0
    try clear hcz10_1
    try clear hcz10_2
    try clear hcz10_3
    try clear hcz16_0
    try clear hcz16_1
    try clear hcz17_0
    try clear hcz17_1
    try clear hcz17_2
    try clear hcz17_3
    try clear hcz19_0
    try clear hcz19_1
    try clear hcz20_0
    try clear hcz20_1
    try clear hcz20_2
    try clear hcz20_3
    try clear hcz22_0
    try clear hcz22_1
    try clear hcz22_2
    try clear hcz22_3
    try clear hcz24_0
    try clear hcz24_1
    try clear hcz25_0
    try clear hcz25_1
    try clear hcz25_2
    try clear hcz25_3
    try clear hcz27_0
    try clear hcz27_1
    try clear hcz28_0
    try clear hcz28_1
    try clear hcz28_2
    try clear hcz28_3
    try clear hcz31_0
    try clear hcz31_1
    try clear hcz32_0
    try clear hcz32_1
    try clear hcz32_2
    try clear hcz32_3
    try clear hcz7_0
    try clear hcz7_1
    try clear hfz10_0
    try clear hfz10_1
    try clear hfz10_2
    try clear hfz10_3
    try clear hfz16_0
    try clear hfz16_1
    try clear hfz17_0
    try clear hfz17_1
    try clear hfz17_2
    try clear hfz17_3
    try clear hfz19_0
    try clear hfz19_1
    try clear hfz20_0
    try clear hfz20_1
    try clear hfz20_2
    try clear hfz20_3
    try clear hfz22_0
    try clear hfz22_1
    try clear hfz22_2
    try clear hfz22_3
    try clear hfz24_0
    try clear hfz24_1
    try clear hfz25_0
    try clear hfz25_1
    try clear hfz25_2
    try clear hfz25_3
    try clear hfz27_0
    try clear hfz27_1
    try clear hfz28_0
    try clear hfz28_1
    try clear hfz28_2
    try clear hfz28_3
    try clear hfz31_0
    try clear hfz31_1
    try clear hfz32_0
    try clear hfz32_1
    try clear hfz32_2
    try clear hfz32_3
    try clear hfz7_0
    try clear hfz7_1
    try clear hx249_0
    try clear hx249_1
    try clear hx249_2
    try clear hx249_3
    try clear p249
    try clear q249
    obtain ⟨kq, x31_4, rfl, HA, HJ4, BK248, BK250, HB⟩ := hcut
    cases kq with
    | zero => exact absurd HA.out (by simp [heraldref15_edge.j0])
    | succ kj4 =>
     have H := HA.out
     clear HA
     simp only [heraldref15_edge.j0] at H
     by_cases c34 : x31_4 = true
     ·
      subst c34
      have H1 : (some false) = some r := by rw [if_pos rfl] at H; exact H
      clear H
      have H := H1
      clear H1
      obtain rfl := Option.some.inj H
      go_wp2
      go_ret
      exact ⟨by first | rfl | (simp [errW_none, errW_some] <;> rfl) | (simp [*, errW_none, errW_some] <;> rfl), by repeat (first | (with_reducible first | exact HB.out | apply y3 | refine ys ?_ GE248.out | refine ys ?_ GE250.out) | exact HB.out)⟩
     replace c34 := Bool.eq_false_iff.mpr c34
     subst c34
     have H1 : (heraldref15_edge.l0 kj4 a1 0 l0_0 l0_1 ((rd_T93 l0_1 a1).f0) ((rd_T93 l0_1 a1).f1) ((rd_T93 l0_1 a1).f2) ((rd_T93 l0_1 a1).f3)) = some r := by rw [if_neg (show ¬ (false = true) by decide)] at H; exact H
     clear H
     have H := H1
     clear H1
     have H' := ym H
     clear H
     go_wp2
     go_loopg [6] kj4 (fun kq v6 w' => ∃ (x6_2 : Int), v6 = .int .i64 x6_2 ∧ Aside0 (heraldref15_edge.l0 kq a1 x6_2 l0_0 l0_1 ((rd_T93 l0_1 a1).f0) ((rd_T93 l0_1 a1).f1) ((rd_T93 l0_1 a1).f2) ((rd_T93 l0_1 a1).f3) = some r) ∧ Aside0 (kq ≤ kj4) ∧ Aside0 (w'.heap[gb248]? = some (.cells #[(.slice A0_0 l0_0.length c0_0), (.slice (some ad249) l0_1.length c0_1)] 28 (0, 0))) ∧ Aside0 (w'.heap[gb250]? = some (.cells #[.int .i64 ((rd_T93 l0_1 a1).f0), .int .u8 ((rd_T93 l0_1 a1).f1), .int .u8 ((rd_T93 l0_1 a1).f2), .int .i64 ((rd_T93 l0_1 a1).f3)] 93 (0, 0))) ∧ Aside0 (Below w.heap.size w w'))
     case atStart => exact ⟨(0), y7, H', ⟨Nat.le_refl _⟩, ⟨by (with_reducible repeat refine y4 ?_); exact BK248.out⟩, ⟨by (with_reducible repeat refine y4 ?_); exact BK250.out⟩, ⟨by repeat (first | (with_reducible first | exact HB.out | apply y3 | refine ys ?_ GE248.out | refine ys ?_ GE250.out) | exact HB.out)⟩⟩
     case round =>
      clear H'
      try clear c1
      try clear c2
      try clear p2
      try clear q2
      try clear hx2
      try clear c3
      try clear c3b0
      try clear c4
      try clear c4b0
      try clear c5
      try clear c9
      try clear c12
      try clear c14
      try clear c15
      try clear c23
      try clear p24
      try clear q24
      try clear hx24
      try clear c30
      try clear c34
      try clear hcz10_0
      try clear hcz10_1
      try clear hcz10_2
      try clear hcz10_3
      try clear hcz16_0
      try clear hcz16_1
      try clear hcz17_0
      try clear hcz17_1
      try clear hcz17_2
      try clear hcz17_3
      try clear hcz19_0
      try clear hcz19_1
      try clear hcz20_0
      try clear hcz20_1
      try clear hcz20_2
      try clear hcz20_3
      try clear hcz22_0
      try clear hcz22_1
      try clear hcz22_2
      try clear hcz22_3
      try clear hcz24_0
      try clear hcz24_1
      try clear hcz25_0
      try clear hcz25_1
      try clear hcz25_2
      try clear hcz25_3
      try clear hcz27_0
      try clear hcz27_1
      try clear hcz28_0
      try clear hcz28_1
      try clear hcz28_2
      try clear hcz28_3
      try clear hcz31_0
      try clear hcz31_1
      try clear hcz32_0
      try clear hcz32_1
      try clear hcz32_2
      try clear hcz32_3
      try clear hcz7_0
      try clear hcz7_1
      try clear hfz10_0
      try clear hfz10_1
      try clear hfz10_2
      try clear hfz10_3
      try clear hfz16_0
      try clear hfz16_1
      try clear hfz17_0
      try clear hfz17_1
      try clear hfz17_2
      try clear hfz17_3
      try clear hfz19_0
      try clear hfz19_1
      try clear hfz20_0
      try clear hfz20_1
      try clear hfz20_2
      try clear hfz20_3
      try clear hfz22_0
      try clear hfz22_1
      try clear hfz22_2
      try clear hfz22_3
      try clear hfz24_0
      try clear hfz24_1
      try clear hfz25_0
      try clear hfz25_1
      try clear hfz25_2
      try clear hfz25_3
      try clear hfz27_0
      try clear hfz27_1
      try clear hfz28_0
      try clear hfz28_1
      try clear hfz28_2
      try clear hfz28_3
      try clear hfz31_0
      try clear hfz31_1
      try clear hfz32_0
      try clear hfz32_1
      try clear hfz32_2
      try clear hfz32_3
      try clear hfz7_0
      try clear hfz7_1
      try clear hx249_0
      try clear hx249_1
      try clear hx249_2
      try clear hx249_3
      try clear p2
      try clear p24
      try clear p249
      try clear q2
      try clear q24
      try clear q249
      obtain ⟨x6_2, rfl, HA, HK2, BK248, BK250, HB⟩ := hrel
      cases gk with
      | zero => exact absurd HA.out (by simp [heraldref15_edge.l0])
      | succ k2 =>
       have H := HA.out
       clear HA
       simp only [heraldref15_edge.l0] at H
       by_cases c35 : x6_2 < a1
       ·
        rw [if_pos c35] at H
        have c35b0 : decide (x6_2 < a1) = true := decide_eq_true c35
        clear c35
        by_cases c36 : 0 ≤ x6_2
        ·
         rw [if_pos c36] at H
         have c36b0 : decide (0 ≤ x6_2) = true := decide_eq_true c36
         clear c36
         by_cases c37 : x6_2 < (l0_1.length : Int)
         ·
          rw [if_pos c37] at H
          have c37b0 : decide (x6_2 < (l0_1.length : Int)) = true := decide_eq_true c37
          clear c37
          by_cases c38 : ((rd_T93 l0_1 x6_2).f0) = ((rd_T93 l0_1 a1).f0)
          ·
           rw [if_pos c38] at H
           have c38b0 : (((rd_T93 l0_1 x6_2).f0) == ((rd_T93 l0_1 a1).f0)) = true := beq_iff_eq.mpr c38
           have c38b1 : (((rd_T93 l0_1 x6_2).f0) != ((rd_T93 l0_1 a1).f0)) = false := bne_eq_false_iff_eq.mpr c38
           clear c38
           by_cases c39 : ((rd_T93 l0_1 x6_2).f1) ≤ ((rd_T93 l0_1 a1).f2)
           ·
            rw [if_pos c39] at H
            have c39b0 : decide (((rd_T93 l0_1 x6_2).f1) ≤ ((rd_T93 l0_1 a1).f2)) = true := decide_eq_true c39
            clear c39
            by_cases c40 : ((rd_T93 l0_1 a1).f1) ≤ ((rd_T93 l0_1 x6_2).f2)
            ·
             rw [if_pos c40] at H
             have c40b0 : decide (((rd_T93 l0_1 a1).f1) ≤ ((rd_T93 l0_1 x6_2).f2)) = true := decide_eq_true c40
             clear c40
             obtain rfl := Option.some.inj H
             have hnb41 := NB248_250.out
             have hnc41 := NB250_248.out
             have hcz42_0 : wr.cell? ⟨gb248, 0, none⟩ = some (.slice A0_0 l0_0.length c0_0) := (yw BK248.out 0).trans rfl
             have hcz42_1 : wr.cell? ⟨gb248, 1, none⟩ = some (.slice (some ad249) l0_1.length c0_1) := (yw BK248.out 1).trans rfl
             have hfz42_0 := yv BK248.out 0
             have hfz42_1 := yv BK248.out 1
             have p253 : 0 ≤ (x6_2 : Int) := of_decide_eq_true y5
             have q253 : x6_2 < (l0_1.length : Int) := of_decide_eq_true y5
             obtain ⟨ad253, e253, hx253_0, hx253_1, hx253_2, hx253_3⟩ := at_T93 HR0_1.out x6_2 p253 q253
             obtain rfl : ad249 = ad253 := (by injection e253)
             replace hx253_0 := (HB.out.cell (World.block_lt_of_cell? w _ hx253_0)).trans hx253_0
             replace hx253_1 := (HB.out.cell (World.block_lt_of_cell? w _ hx253_1)).trans hx253_1
             replace hx253_2 := (HB.out.cell (World.block_lt_of_cell? w _ hx253_2)).trans hx253_2
             replace hx253_3 := (HB.out.cell (World.block_lt_of_cell? w _ hx253_3)).trans hx253_3
             replace p253 := eq_true p253
             replace q253 := eq_true q253
             go_wp2_with (first | ((with_reducible refine gate_dst (N := 7) rfl ?_); refine box_event ?hg (N := 7) ?hd (cs := #[.int .i64 0, .int .u8 0, .int .u8 0, .int .i64 0]) (t := 93) ?hr ?_; (case hd => rfl); (case hg => rfl); (case hr => first | (go_simp; done) | (go_simp; rfl)); intro gb254 hg w43 hbox hb; have n0_ := ym (yq (g := gb248) (o := .cells #[.slice A0_0 l0_0.length c0_0, .slice (some ad249) l0_1.length c0_1] 28 (0, 0)) (yc BK248) hb); have n1_ := ym (yq (g := gb250) (o := .cells #[.int .i64 ((rd_T93 l0_1 a1).f0), .int .u8 ((rd_T93 l0_1 a1).f1), .int .u8 ((rd_T93 l0_1 a1).f2), .int .i64 ((rd_T93 l0_1 a1).f3)] 93 (0, 0)) (yc BK250) hb); have n2_ := ym (yn yb hb); have n3_ := ym (hbox); have n4_ := ym ((by rw [hg]; exact (below_size yb) : w.heap.size ≤ gb254)); have n5_ := n4_; have n6_ := ym ((by rw [hg]; exact Nat.ne_of_lt (blk_lt (g := gb248) (o := .cells #[.slice A0_0 l0_0.length c0_0, .slice (some ad249) l0_1.length c0_1] 28 (0, 0)) (yc BK248)) : gb248 ≠ gb254)); have n7_ := ym ((by rw [hg]; exact Nat.ne_of_gt (blk_lt (g := gb248) (o := .cells #[.slice A0_0 l0_0.length c0_0, .slice (some ad249) l0_1.length c0_1] 28 (0, 0)) (yc BK248)) : gb254 ≠ gb248)); have n8_ := ym ((by rw [hg]; exact Nat.ne_of_lt (blk_lt (g := gb250) (o := .cells #[.int .i64 ((rd_T93 l0_1 a1).f0), .int .u8 ((rd_T93 l0_1 a1).f1), .int .u8 ((rd_T93 l0_1 a1).f2), .int .i64 ((rd_T93 l0_1 a1).f3)] 93 (0, 0)) (yc BK250)) : gb250 ≠ gb254)); have n9_ := ym ((by rw [hg]; exact Nat.ne_of_gt (blk_lt (g := gb250) (o := .cells #[.int .i64 ((rd_T93 l0_1 a1).f0), .int .u8 ((rd_T93 l0_1 a1).f1), .int .u8 ((rd_T93 l0_1 a1).f2), .int .i64 ((rd_T93 l0_1 a1).f3)] 93 (0, 0)) (yc BK250)) : gb254 ≠ gb250)); clear BK248; clear BK250; clear HB; have BK248 := n0_; have BK250 := n1_; have HB := n2_; have BK254 := n3_; have GW254 := n4_; have GE254 := n5_; have NB248_254 := n6_; have NB254_248 := n7_; have NB250_254 := n8_; have NB254_250 := n9_; clear n0_ n1_ n2_ n3_ n4_ n5_ n6_ n7_ n8_ n9_; clear hb hbox hg; have hnb44 := NB254_248.out; have hnc44 := NB248_254.out; have hnb45 := NB254_250.out; have hnc45 := NB250_254.out; have hcz46_0 : w43.cell? ⟨gb254, 0, none⟩ = some (.int .i64 0) := (yw BK254.out 0).trans rfl; have hcz46_1 : w43.cell? ⟨gb254, 1, none⟩ = some (.int .u8 0) := (yw BK254.out 1).trans rfl; have hcz46_2 : w43.cell? ⟨gb254, 2, none⟩ = some (.int .u8 0) := (yw BK254.out 2).trans rfl; have hcz46_3 : w43.cell? ⟨gb254, 3, none⟩ = some (.int .i64 0) := (yw BK254.out 3).trans rfl; have hfz46_0 := yv BK254.out 0; have hfz46_1 := yv BK254.out 1; have hfz46_2 := yv BK254.out 2; have hfz46_3 := yv BK254.out 3; have hcz47_0 : w43.cell? ⟨gb250, 0, none⟩ = some (.int .i64 ((rd_T93 l0_1 a1).f0)) := (yw BK250.out 0).trans rfl; have hcz47_1 : w43.cell? ⟨gb250, 1, none⟩ = some (.int .u8 ((rd_T93 l0_1 a1).f1)) := (yw BK250.out 1).trans rfl; have hcz47_2 : w43.cell? ⟨gb250, 2, none⟩ = some (.int .u8 ((rd_T93 l0_1 a1).f2)) := (yw BK250.out 2).trans rfl; have hcz47_3 : w43.cell? ⟨gb250, 3, none⟩ = some (.int .i64 ((rd_T93 l0_1 a1).f3)) := (yw BK250.out 3).trans rfl; have hfz47_0 := yv BK250.out 0; have hfz47_1 := yv BK250.out 1; have hfz47_2 := yv BK250.out 2; have hfz47_3 := yv BK250.out 3))
             go_ret
             exact ⟨by first | rfl | (simp [errW_none, errW_some] <;> rfl) | (simp [*, errW_none, errW_some] <;> rfl), by repeat (first | (with_reducible first | exact HB.out | apply y3 | refine ys ?_ GE248.out | refine ys ?_ GE250.out | refine ys ?_ GE254.out) | exact HB.out)⟩
            rw [if_neg c40] at H
            have c40b0 : decide (((rd_T93 l0_1 a1).f1) ≤ ((rd_T93 l0_1 x6_2).f2)) = false := decide_eq_false c40
            clear c40
            have H' := ym H
            clear H
            have hnb48 := NB248_250.out
            have hnc48 := NB250_248.out
            have hcz49_0 : wr.cell? ⟨gb248, 0, none⟩ = some (.slice A0_0 l0_0.length c0_0) := (yw BK248.out 0).trans rfl
            have hcz49_1 : wr.cell? ⟨gb248, 1, none⟩ = some (.slice (some ad249) l0_1.length c0_1) := (yw BK248.out 1).trans rfl
            have hfz49_0 := yv BK248.out 0
            have hfz49_1 := yv BK248.out 1
            have p253 : 0 ≤ (x6_2 : Int) := of_decide_eq_true y5
            have q253 : x6_2 < (l0_1.length : Int) := of_decide_eq_true y5
            obtain ⟨ad253, e253, hx253_0, hx253_1, hx253_2, hx253_3⟩ := at_T93 HR0_1.out x6_2 p253 q253
            obtain rfl : ad249 = ad253 := (by injection e253)
            replace hx253_0 := (HB.out.cell (World.block_lt_of_cell? w _ hx253_0)).trans hx253_0
            replace hx253_1 := (HB.out.cell (World.block_lt_of_cell? w _ hx253_1)).trans hx253_1
            replace hx253_2 := (HB.out.cell (World.block_lt_of_cell? w _ hx253_2)).trans hx253_2
            replace hx253_3 := (HB.out.cell (World.block_lt_of_cell? w _ hx253_3)).trans hx253_3
            replace p253 := eq_true p253
            replace q253 := eq_true q253
            go_wp2_with (first | ((with_reducible refine gate_dst (N := 7) rfl ?_); refine box_event ?hg (N := 7) ?hd (cs := #[.int .i64 0, .int .u8 0, .int .u8 0, .int .i64 0]) (t := 93) ?hr ?_; (case hd => rfl); (case hg => rfl); (case hr => first | (go_simp; done) | (go_simp; rfl)); intro gb254 hg w50 hbox hb; have n0_ := ym (yq (g := gb248) (o := .cells #[.slice A0_0 l0_0.length c0_0, .slice (some ad249) l0_1.length c0_1] 28 (0, 0)) (yc BK248) hb); have n1_ := ym (yq (g := gb250) (o := .cells #[.int .i64 ((rd_T93 l0_1 a1).f0), .int .u8 ((rd_T93 l0_1 a1).f1), .int .u8 ((rd_T93 l0_1 a1).f2), .int .i64 ((rd_T93 l0_1 a1).f3)] 93 (0, 0)) (yc BK250) hb); have n2_ := ym (yn yb hb); have n3_ := ym (hbox); have n4_ := ym ((by rw [hg]; exact (below_size yb) : w.heap.size ≤ gb254)); have n5_ := n4_; have n6_ := ym ((by rw [hg]; exact Nat.ne_of_lt (blk_lt (g := gb248) (o := .cells #[.slice A0_0 l0_0.length c0_0, .slice (some ad249) l0_1.length c0_1] 28 (0, 0)) (yc BK248)) : gb248 ≠ gb254)); have n7_ := ym ((by rw [hg]; exact Nat.ne_of_gt (blk_lt (g := gb248) (o := .cells #[.slice A0_0 l0_0.length c0_0, .slice (some ad249) l0_1.length c0_1] 28 (0, 0)) (yc BK248)) : gb254 ≠ gb248)); have n8_ := ym ((by rw [hg]; exact Nat.ne_of_lt (blk_lt (g := gb250) (o := .cells #[.int .i64 ((rd_T93 l0_1 a1).f0), .int .u8 ((rd_T93 l0_1 a1).f1), .int .u8 ((rd_T93 l0_1 a1).f2), .int .i64 ((rd_T93 l0_1 a1).f3)] 93 (0, 0)) (yc BK250)) : gb250 ≠ gb254)); have n9_ := ym ((by rw [hg]; exact Nat.ne_of_gt (blk_lt (g := gb250) (o := .cells #[.int .i64 ((rd_T93 l0_1 a1).f0), .int .u8 ((rd_T93 l0_1 a1).f1), .int .u8 ((rd_T93 l0_1 a1).f2), .int .i64 ((rd_T93 l0_1 a1).f3)] 93 (0, 0)) (yc BK250)) : gb254 ≠ gb250)); clear BK248; clear BK250; clear HB; have BK248 := n0_; have BK250 := n1_; have HB := n2_; have BK254 := n3_; have GW254 := n4_; have GE254 := n5_; have NB248_254 := n6_; have NB254_248 := n7_; have NB250_254 := n8_; have NB254_250 := n9_; clear n0_ n1_ n2_ n3_ n4_ n5_ n6_ n7_ n8_ n9_; clear hb hbox hg; have hnb51 := NB254_248.out; have hnc51 := NB248_254.out; have hnb52 := NB254_250.out; have hnc52 := NB250_254.out; have hcz53_0 : w50.cell? ⟨gb254, 0, none⟩ = some (.int .i64 0) := (yw BK254.out 0).trans rfl; have hcz53_1 : w50.cell? ⟨gb254, 1, none⟩ = some (.int .u8 0) := (yw BK254.out 1).trans rfl; have hcz53_2 : w50.cell? ⟨gb254, 2, none⟩ = some (.int .u8 0) := (yw BK254.out 2).trans rfl; have hcz53_3 : w50.cell? ⟨gb254, 3, none⟩ = some (.int .i64 0) := (yw BK254.out 3).trans rfl; have hfz53_0 := yv BK254.out 0; have hfz53_1 := yv BK254.out 1; have hfz53_2 := yv BK254.out 2; have hfz53_3 := yv BK254.out 3; have hcz54_0 : w50.cell? ⟨gb250, 0, none⟩ = some (.int .i64 ((rd_T93 l0_1 a1).f0)) := (yw BK250.out 0).trans rfl; have hcz54_1 : w50.cell? ⟨gb250, 1, none⟩ = some (.int .u8 ((rd_T93 l0_1 a1).f1)) := (yw BK250.out 1).trans rfl; have hcz54_2 : w50.cell? ⟨gb250, 2, none⟩ = some (.int .u8 ((rd_T93 l0_1 a1).f2)) := (yw BK250.out 2).trans rfl; have hcz54_3 : w50.cell? ⟨gb250, 3, none⟩ = some (.int .i64 ((rd_T93 l0_1 a1).f3)) := (yw BK250.out 3).trans rfl; have hfz54_0 := yv BK250.out 0; have hfz54_1 := yv BK250.out 1; have hfz54_2 := yv BK250.out 2; have hfz54_3 := yv BK250.out 3))
            go_roundg k2
            case measure => have := HJ4.out; have := HK2.out; omega
            case rel => exact ⟨(wrap64 (x6_2 + 1)), y7, H', ⟨by have := HJ4.out; have := HK2.out; omega⟩, ⟨by (with_reducible repeat refine y4 ?_); refine yx ?_ NB248_254.out _; (with_reducible repeat refine y4 ?_); refine yx ?_ NB248_254.out _; (with_reducible repeat refine y4 ?_); refine yx ?_ NB248_254.out _; (with_reducible repeat refine y4 ?_); refine yx ?_ NB248_254.out _; (with_reducible repeat refine y4 ?_); exact BK248.out⟩, ⟨by (with_reducible repeat refine y4 ?_); refine yx ?_ NB250_254.out _; (with_reducible repeat refine y4 ?_); refine yx ?_ NB250_254.out _; (with_reducible repeat refine y4 ?_); refine yx ?_ NB250_254.out _; (with_reducible repeat refine y4 ?_); refine yx ?_ NB250_254.out _; (with_reducible repeat refine y4 ?_); exact BK250.out⟩, ⟨by repeat (first | (with_reducible first | exact HB.out | apply y3 | refine ys ?_ GE248.out | refine ys ?_ GE250.out | refine ys ?_ GE254.out) | exact HB.out)⟩⟩
           rw [if_neg c39] at H
           have c39b0 : decide (((rd_T93 l0_1 x6_2).f1) ≤ ((rd_T93 l0_1 a1).f2)) = false := decide_eq_false c39
           clear c39
           have H' := ym H
           clear H
           have hnb55 := NB248_250.out
           have hnc55 := NB250_248.out
           have hcz56_0 : wr.cell? ⟨gb248, 0, none⟩ = some (.slice A0_0 l0_0.length c0_0) := (yw BK248.out 0).trans rfl
           have hcz56_1 : wr.cell? ⟨gb248, 1, none⟩ = some (.slice (some ad249) l0_1.length c0_1) := (yw BK248.out 1).trans rfl
           have hfz56_0 := yv BK248.out 0
           have hfz56_1 := yv BK248.out 1
           have p253 : 0 ≤ (x6_2 : Int) := of_decide_eq_true y5
           have q253 : x6_2 < (l0_1.length : Int) := of_decide_eq_true y5
           obtain ⟨ad253, e253, hx253_0, hx253_1, hx253_2, hx253_3⟩ := at_T93 HR0_1.out x6_2 p253 q253
           obtain rfl : ad249 = ad253 := (by injection e253)
           replace hx253_0 := (HB.out.cell (World.block_lt_of_cell? w _ hx253_0)).trans hx253_0
           replace hx253_1 := (HB.out.cell (World.block_lt_of_cell? w _ hx253_1)).trans hx253_1
           replace hx253_2 := (HB.out.cell (World.block_lt_of_cell? w _ hx253_2)).trans hx253_2
           replace hx253_3 := (HB.out.cell (World.block_lt_of_cell? w _ hx253_3)).trans hx253_3
           replace p253 := eq_true p253
           replace q253 := eq_true q253
           go_wp2_with (first | ((with_reducible refine gate_dst (N := 7) rfl ?_); refine box_event ?hg (N := 7) ?hd (cs := #[.int .i64 0, .int .u8 0, .int .u8 0, .int .i64 0]) (t := 93) ?hr ?_; (case hd => rfl); (case hg => rfl); (case hr => first | (go_simp; done) | (go_simp; rfl)); intro gb254 hg w57 hbox hb; have n0_ := ym (yq (g := gb248) (o := .cells #[.slice A0_0 l0_0.length c0_0, .slice (some ad249) l0_1.length c0_1] 28 (0, 0)) (yc BK248) hb); have n1_ := ym (yq (g := gb250) (o := .cells #[.int .i64 ((rd_T93 l0_1 a1).f0), .int .u8 ((rd_T93 l0_1 a1).f1), .int .u8 ((rd_T93 l0_1 a1).f2), .int .i64 ((rd_T93 l0_1 a1).f3)] 93 (0, 0)) (yc BK250) hb); have n2_ := ym (yn yb hb); have n3_ := ym (hbox); have n4_ := ym ((by rw [hg]; exact (below_size yb) : w.heap.size ≤ gb254)); have n5_ := n4_; have n6_ := ym ((by rw [hg]; exact Nat.ne_of_lt (blk_lt (g := gb248) (o := .cells #[.slice A0_0 l0_0.length c0_0, .slice (some ad249) l0_1.length c0_1] 28 (0, 0)) (yc BK248)) : gb248 ≠ gb254)); have n7_ := ym ((by rw [hg]; exact Nat.ne_of_gt (blk_lt (g := gb248) (o := .cells #[.slice A0_0 l0_0.length c0_0, .slice (some ad249) l0_1.length c0_1] 28 (0, 0)) (yc BK248)) : gb254 ≠ gb248)); have n8_ := ym ((by rw [hg]; exact Nat.ne_of_lt (blk_lt (g := gb250) (o := .cells #[.int .i64 ((rd_T93 l0_1 a1).f0), .int .u8 ((rd_T93 l0_1 a1).f1), .int .u8 ((rd_T93 l0_1 a1).f2), .int .i64 ((rd_T93 l0_1 a1).f3)] 93 (0, 0)) (yc BK250)) : gb250 ≠ gb254)); have n9_ := ym ((by rw [hg]; exact Nat.ne_of_gt (blk_lt (g := gb250) (o := .cells #[.int .i64 ((rd_T93 l0_1 a1).f0), .int .u8 ((rd_T93 l0_1 a1).f1), .int .u8 ((rd_T93 l0_1 a1).f2), .int .i64 ((rd_T93 l0_1 a1).f3)] 93 (0, 0)) (yc BK250)) : gb254 ≠ gb250)); clear BK248; clear BK250; clear HB; have BK248 := n0_; have BK250 := n1_; have HB := n2_; have BK254 := n3_; have GW254 := n4_; have GE254 := n5_; have NB248_254 := n6_; have NB254_248 := n7_; have NB250_254 := n8_; have NB254_250 := n9_; clear n0_ n1_ n2_ n3_ n4_ n5_ n6_ n7_ n8_ n9_; clear hb hbox hg; have hnb58 := NB254_248.out; have hnc58 := NB248_254.out; have hnb59 := NB254_250.out; have hnc59 := NB250_254.out; have hcz60_0 : w57.cell? ⟨gb254, 0, none⟩ = some (.int .i64 0) := (yw BK254.out 0).trans rfl; have hcz60_1 : w57.cell? ⟨gb254, 1, none⟩ = some (.int .u8 0) := (yw BK254.out 1).trans rfl; have hcz60_2 : w57.cell? ⟨gb254, 2, none⟩ = some (.int .u8 0) := (yw BK254.out 2).trans rfl; have hcz60_3 : w57.cell? ⟨gb254, 3, none⟩ = some (.int .i64 0) := (yw BK254.out 3).trans rfl; have hfz60_0 := yv BK254.out 0; have hfz60_1 := yv BK254.out 1; have hfz60_2 := yv BK254.out 2; have hfz60_3 := yv BK254.out 3; have hcz61_0 : w57.cell? ⟨gb250, 0, none⟩ = some (.int .i64 ((rd_T93 l0_1 a1).f0)) := (yw BK250.out 0).trans rfl; have hcz61_1 : w57.cell? ⟨gb250, 1, none⟩ = some (.int .u8 ((rd_T93 l0_1 a1).f1)) := (yw BK250.out 1).trans rfl; have hcz61_2 : w57.cell? ⟨gb250, 2, none⟩ = some (.int .u8 ((rd_T93 l0_1 a1).f2)) := (yw BK250.out 2).trans rfl; have hcz61_3 : w57.cell? ⟨gb250, 3, none⟩ = some (.int .i64 ((rd_T93 l0_1 a1).f3)) := (yw BK250.out 3).trans rfl; have hfz61_0 := yv BK250.out 0; have hfz61_1 := yv BK250.out 1; have hfz61_2 := yv BK250.out 2; have hfz61_3 := yv BK250.out 3))
           go_roundg k2
           case measure => have := HJ4.out; have := HK2.out; omega
           case rel => exact ⟨(wrap64 (x6_2 + 1)), y7, H', ⟨by have := HJ4.out; have := HK2.out; omega⟩, ⟨by (with_reducible repeat refine y4 ?_); refine yx ?_ NB248_254.out _; (with_reducible repeat refine y4 ?_); refine yx ?_ NB248_254.out _; (with_reducible repeat refine y4 ?_); refine yx ?_ NB248_254.out _; (with_reducible repeat refine y4 ?_); refine yx ?_ NB248_254.out _; (with_reducible repeat refine y4 ?_); exact BK248.out⟩, ⟨by (with_reducible repeat refine y4 ?_); refine yx ?_ NB250_254.out _; (with_reducible repeat refine y4 ?_); refine yx ?_ NB250_254.out _; (with_reducible repeat refine y4 ?_); refine yx ?_ NB250_254.out _; (with_reducible repeat refine y4 ?_); refine yx ?_ NB250_254.out _; (with_reducible repeat refine y4 ?_); exact BK250.out⟩, ⟨by repeat (first | (with_reducible first | exact HB.out | apply y3 | refine ys ?_ GE248.out | refine ys ?_ GE250.out | refine ys ?_ GE254.out) | exact HB.out)⟩⟩
          rw [if_neg c38] at H
          have c38b0 : (((rd_T93 l0_1 x6_2).f0) == ((rd_T93 l0_1 a1).f0)) = false := beq_eq_false_iff_ne.mpr c38
          have c38b1 : (((rd_T93 l0_1 x6_2).f0) != ((rd_T93 l0_1 a1).f0)) = true := bne_iff_ne.mpr c38
          have H' := ym H
          clear H
          have hnb62 := NB248_250.out
          have hnc62 := NB250_248.out
          have hcz63_0 : wr.cell? ⟨gb248, 0, none⟩ = some (.slice A0_0 l0_0.length c0_0) := (yw BK248.out 0).trans rfl
          have hcz63_1 : wr.cell? ⟨gb248, 1, none⟩ = some (.slice (some ad249) l0_1.length c0_1) := (yw BK248.out 1).trans rfl
          have hfz63_0 := yv BK248.out 0
          have hfz63_1 := yv BK248.out 1
          have p253 : 0 ≤ (x6_2 : Int) := of_decide_eq_true y5
          have q253 : x6_2 < (l0_1.length : Int) := of_decide_eq_true y5
          obtain ⟨ad253, e253, hx253_0, hx253_1, hx253_2, hx253_3⟩ := at_T93 HR0_1.out x6_2 p253 q253
          obtain rfl : ad249 = ad253 := (by injection e253)
          replace hx253_0 := (HB.out.cell (World.block_lt_of_cell? w _ hx253_0)).trans hx253_0
          replace hx253_1 := (HB.out.cell (World.block_lt_of_cell? w _ hx253_1)).trans hx253_1
          replace hx253_2 := (HB.out.cell (World.block_lt_of_cell? w _ hx253_2)).trans hx253_2
          replace hx253_3 := (HB.out.cell (World.block_lt_of_cell? w _ hx253_3)).trans hx253_3
          replace p253 := eq_true p253
          replace q253 := eq_true q253
          go_wp2_with (first | ((with_reducible refine gate_dst (N := 7) rfl ?_); refine box_event ?hg (N := 7) ?hd (cs := #[.int .i64 0, .int .u8 0, .int .u8 0, .int .i64 0]) (t := 93) ?hr ?_; (case hd => rfl); (case hg => rfl); (case hr => first | (go_simp; done) | (go_simp; rfl)); intro gb254 hg w64 hbox hb; have n0_ := ym (yq (g := gb248) (o := .cells #[.slice A0_0 l0_0.length c0_0, .slice (some ad249) l0_1.length c0_1] 28 (0, 0)) (yc BK248) hb); have n1_ := ym (yq (g := gb250) (o := .cells #[.int .i64 ((rd_T93 l0_1 a1).f0), .int .u8 ((rd_T93 l0_1 a1).f1), .int .u8 ((rd_T93 l0_1 a1).f2), .int .i64 ((rd_T93 l0_1 a1).f3)] 93 (0, 0)) (yc BK250) hb); have n2_ := ym (yn yb hb); have n3_ := ym (hbox); have n4_ := ym ((by rw [hg]; exact (below_size yb) : w.heap.size ≤ gb254)); have n5_ := n4_; have n6_ := ym ((by rw [hg]; exact Nat.ne_of_lt (blk_lt (g := gb248) (o := .cells #[.slice A0_0 l0_0.length c0_0, .slice (some ad249) l0_1.length c0_1] 28 (0, 0)) (yc BK248)) : gb248 ≠ gb254)); have n7_ := ym ((by rw [hg]; exact Nat.ne_of_gt (blk_lt (g := gb248) (o := .cells #[.slice A0_0 l0_0.length c0_0, .slice (some ad249) l0_1.length c0_1] 28 (0, 0)) (yc BK248)) : gb254 ≠ gb248)); have n8_ := ym ((by rw [hg]; exact Nat.ne_of_lt (blk_lt (g := gb250) (o := .cells #[.int .i64 ((rd_T93 l0_1 a1).f0), .int .u8 ((rd_T93 l0_1 a1).f1), .int .u8 ((rd_T93 l0_1 a1).f2), .int .i64 ((rd_T93 l0_1 a1).f3)] 93 (0, 0)) (yc BK250)) : gb250 ≠ gb254)); have n9_ := ym ((by rw [hg]; exact Nat.ne_of_gt (blk_lt (g := gb250) (o := .cells #[.int .i64 ((rd_T93 l0_1 a1).f0), .int .u8 ((rd_T93 l0_1 a1).f1), .int .u8 ((rd_T93 l0_1 a1).f2), .int .i64 ((rd_T93 l0_1 a1).f3)] 93 (0, 0)) (yc BK250)) : gb254 ≠ gb250)); clear BK248; clear BK250; clear HB; have BK248 := n0_; have BK250 := n1_; have HB := n2_; have BK254 := n3_; have GW254 := n4_; have GE254 := n5_; have NB248_254 := n6_; have NB254_248 := n7_; have NB250_254 := n8_; have NB254_250 := n9_; clear n0_ n1_ n2_ n3_ n4_ n5_ n6_ n7_ n8_ n9_; clear hb hbox hg; have hnb65 := NB254_248.out; have hnc65 := NB248_254.out; have hnb66 := NB254_250.out; have hnc66 := NB250_254.out; have hcz67_0 : w64.cell? ⟨gb254, 0, none⟩ = some (.int .i64 0) := (yw BK254.out 0).trans rfl; have hcz67_1 : w64.cell? ⟨gb254, 1, none⟩ = some (.int .u8 0) := (yw BK254.out 1).trans rfl; have hcz67_2 : w64.cell? ⟨gb254, 2, none⟩ = some (.int .u8 0) := (yw BK254.out 2).trans rfl; have hcz67_3 : w64.cell? ⟨gb254, 3, none⟩ = some (.int .i64 0) := (yw BK254.out 3).trans rfl; have hfz67_0 := yv BK254.out 0; have hfz67_1 := yv BK254.out 1; have hfz67_2 := yv BK254.out 2; have hfz67_3 := yv BK254.out 3; have hcz68_0 : w64.cell? ⟨gb250, 0, none⟩ = some (.int .i64 ((rd_T93 l0_1 a1).f0)) := (yw BK250.out 0).trans rfl; have hcz68_1 : w64.cell? ⟨gb250, 1, none⟩ = some (.int .u8 ((rd_T93 l0_1 a1).f1)) := (yw BK250.out 1).trans rfl; have hcz68_2 : w64.cell? ⟨gb250, 2, none⟩ = some (.int .u8 ((rd_T93 l0_1 a1).f2)) := (yw BK250.out 2).trans rfl; have hcz68_3 : w64.cell? ⟨gb250, 3, none⟩ = some (.int .i64 ((rd_T93 l0_1 a1).f3)) := (yw BK250.out 3).trans rfl; have hfz68_0 := yv BK250.out 0; have hfz68_1 := yv BK250.out 1; have hfz68_2 := yv BK250.out 2; have hfz68_3 := yv BK250.out 3))
          go_roundg k2
          case measure => have := HJ4.out; have := HK2.out; omega
          case rel => exact ⟨(wrap64 (x6_2 + 1)), y7, H', ⟨by have := HJ4.out; have := HK2.out; omega⟩, ⟨by (with_reducible repeat refine y4 ?_); refine yx ?_ NB248_254.out _; (with_reducible repeat refine y4 ?_); refine yx ?_ NB248_254.out _; (with_reducible repeat refine y4 ?_); refine yx ?_ NB248_254.out _; (with_reducible repeat refine y4 ?_); refine yx ?_ NB248_254.out _; (with_reducible repeat refine y4 ?_); exact BK248.out⟩, ⟨by (with_reducible repeat refine y4 ?_); refine yx ?_ NB250_254.out _; (with_reducible repeat refine y4 ?_); refine yx ?_ NB250_254.out _; (with_reducible repeat refine y4 ?_); refine yx ?_ NB250_254.out _; (with_reducible repeat refine y4 ?_); refine yx ?_ NB250_254.out _; (with_reducible repeat refine y4 ?_); exact BK250.out⟩, ⟨by repeat (first | (with_reducible first | exact HB.out | apply y3 | refine ys ?_ GE248.out | refine ys ?_ GE250.out | refine ys ?_ GE254.out) | exact HB.out)⟩⟩
         rw [if_neg c37] at H
         exact absurd H (by simp)
        rw [if_neg c36] at H
        exact absurd H (by simp)
       rw [if_neg c35] at H
       have c35b0 : decide (x6_2 < a1) = false := decide_eq_false c35
       clear c35
       obtain rfl := Option.some.inj H
       go_wp2
       go_ret
       exact ⟨by first | rfl | (simp [errW_none, errW_some] <;> rfl) | (simp [*, errW_none, errW_some] <;> rfl), by repeat (first | (with_reducible first | exact HB.out | apply y3 | refine ys ?_ GE248.out | refine ys ?_ GE250.out) | exact HB.out)⟩
  rw [if_neg c4] at H
  exact absurd H (by simp)
 rw [if_neg c3] at H
 exact absurd H (by simp)

end Go.Proofs.Ytfjpnmhbbfiaaaa.P
