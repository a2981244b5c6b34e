-- Printed by xprint.py (wip): functions, contracts, rows. Lean checks it.
import Derived.Test.YtfjpnmhbbfiaaaaZGNPx0
import Derived.Test.YtfjpnmhbbfiaaaaZGNPx16
import Derived.Test.YtfjpnmhbbfiaaaaZGNPx19
import Derived.Test.YtfjpnmhbbfiaaaaZGNTiny
namespace Go.Proofs.Ytfjpnmhbbfiaaaa.P
open Go.RowKit Go.Proofs.YtfjpnmhbbfiaaaaW.PrintWords Go.Proofs.YtfjpnmhbbfiaaaaW.PrintLast Go.Proofs.YtfjpnmhbbfiaaaaW.PrintMore
attribute [local go_sem] max2_int min2_int max_two min_two max_three min_three max_four min_four   -- for this text's walks alone
set_option linter.unusedVariables false
set_option linter.unusedSimpArgs false

/-! ### heraldref15_Walk: function 16 -/
mutual
def heraldref15_Walk.l0 : Nat → Int → ByteArray → Int → List Bool → List (S93) → Option (Int)
  | 0, _, _, _, _, _ => none
  | k + 1, x1, x2, x9, x262000, x262001 => if x9 < (x2.size : Int) then (heraldref15_Walk.l1 k x1 x2 x9 (-1) 0 x262000 x262001) else (some x1)
def heraldref15_Walk.l1 : Nat → Int → ByteArray → Int → Int → Int → List Bool → List (S93) → Option (Int)
  | 0, _, _, _, _, _, _, _ => none
  | k + 1, x1, x2, x9, x10, x11, x262000, x262001 => if x11 < (x262001.length : Int) then (if 0 ≤ x11 then (if ((rd_T93 x262001 x11).f0) = x1 then (if 0 ≤ x9 then (if x9 < (x2.size : Int) then (if ((rd_T93 x262001 x11).f1) ≤ (bt x2 x9) then (if (bt x2 x9) ≤ ((rd_T93 x262001 x11).f2) then (heraldref15_Walk.l1 k x1 x2 x9 ((rd_T93 x262001 x11).f3) (wrap64 (x11 + 1)) x262000 x262001) else (heraldref15_Walk.l1 k x1 x2 x9 x10 (wrap64 (x11 + 1)) x262000 x262001)) else (heraldref15_Walk.l1 k x1 x2 x9 x10 (wrap64 (x11 + 1)) x262000 x262001)) else (none)) else (none)) else (heraldref15_Walk.l1 k x1 x2 x9 x10 (wrap64 (x11 + 1)) x262000 x262001)) else (none)) else (if x10 < 0 then (some (-1)) else (heraldref15_Walk.l0 k x10 x2 (wrap64 (x9 + 1)) x262000 x262001))
end
def heraldref15_Walk.f (k : Nat) (l0_0 : List Bool) (l0_1 : List (S93)) (a1 : Int) (a2 : ByteArray) : Option (Int) := (heraldref15_Check.f k l0_0 l0_1).bind fun bt262 => (if bt262.2 = 0 then (if (l0_0.length : Int) = 0 then (if a1 = 0 then (some 0) else (some (-1))) else ((heraldref15_state.f l0_0 l0_1 a1).bind fun t264 => (if t264 = true then (heraldref15_Walk.l0 k a1 a2 0 l0_0 l0_1) else (some (-1))))) else (some (-1)))
theorem heraldref15_Walk.mono_l : ∀ k, (∀ y0 y1 y2 y3 y4, LeO (heraldref15_Walk.l0 k y0 y1 y2 y3 y4) (heraldref15_Walk.l0 (k + 1) y0 y1 y2 y3 y4)) ∧ (∀ y0 y1 y2 y3 y4 y5 y6, LeO (heraldref15_Walk.l1 k y0 y1 y2 y3 y4 y5 y6) (heraldref15_Walk.l1 (k + 1) y0 y1 y2 y3 y4 y5 y6))
  | 0 => ⟨fun _ _ _ _ _ r h => by simp [heraldref15_Walk.l0] at h, fun _ _ _ _ _ _ _ r h => by simp [heraldref15_Walk.l1] at h⟩
  | k + 1 => by
    obtain ⟨ih0, ih1⟩ := heraldref15_Walk.mono_l k
    refine ⟨?_, ?_⟩
    · intro y0 y1 y2 y3 y4
      unfold heraldref15_Walk.l0
      repeat' first
      | (with_reducible exact ih0 _ _ _ _ _)
      | (with_reducible exact ih1 _ _ _ _ _ _ _)
      | (with_reducible exact heraldref15_Check.mono _ _ _)
      | (with_reducible exact LeO.refl _)
      | (with_reducible exact LeO.none _)
      | (with_reducible refine LeO.ite ?_ ?_)
      | (with_reducible refine LeO.bind ?_ (fun _ => ?_))
      | exact ih0 _ _ _ _ _
      | exact ih1 _ _ _ _ _ _ _
      | exact heraldref15_Check.mono _ _ _
      | exact LeO.none _
      | refine LeO.ite ?_ ?_
      | refine LeO.bind ?_ (fun _ => ?_)
    · intro y0 y1 y2 y3 y4 y5 y6
      unfold heraldref15_Walk.l1
      repeat' first
      | (with_reducible exact ih0 _ _ _ _ _)
      | (with_reducible exact ih1 _ _ _ _ _ _ _)
      | (with_reducible exact heraldref15_Check.mono _ _ _)
      | (with_reducible exact LeO.refl _)
      | (with_reducible exact LeO.none _)
      | (with_reducible refine LeO.ite ?_ ?_)
      | (with_reducible refine LeO.bind ?_ (fun _ => ?_))
      | exact ih0 _ _ _ _ _
      | exact ih1 _ _ _ _ _ _ _
      | exact heraldref15_Check.mono _ _ _
      | exact LeO.none _
      | refine LeO.ite ?_ ?_
      | refine LeO.bind ?_ (fun _ => ?_)
theorem heraldref15_Walk.mono : ∀ a0 a1 a2 a3 k, LeO (heraldref15_Walk.f k a0 a1 a2 a3) (heraldref15_Walk.f (k + 1) a0 a1 a2 a3) := by
  intro a0 a1 a2 a3 k
  obtain ⟨ih0, ih1⟩ := heraldref15_Walk.mono_l k
  unfold heraldref15_Walk.f
  repeat' first
      | (with_reducible exact ih0 _ _ _ _ _)
      | (with_reducible exact ih1 _ _ _ _ _ _ _)
      | (with_reducible exact heraldref15_Check.mono _ _ _)
      | (with_reducible exact LeO.refl _)
      | (with_reducible exact LeO.none _)
      | (with_reducible refine LeO.ite ?_ ?_)
      | (with_reducible refine LeO.bind ?_ (fun _ => ?_))
      | exact ih0 _ _ _ _ _
      | exact ih1 _ _ _ _ _ _ _
      | exact heraldref15_Check.mono _ _ _
      | exact LeO.none _
      | refine LeO.ite ?_ ?_
      | refine LeO.bind ?_ (fun _ => ?_)
set_option maxHeartbeats 8000000 in
set_option maxRecDepth 100000 in
theorem heraldref15_Walk.calls (k : Nat) (A0_0 : Option Addr) (c0_0 : Nat) (l0_0 : List Bool) (A0_1 : Option Addr) (c0_1 : Nat) (l0_1 : List (S93)) (a1 : Int) (a2 : ByteArray) (r : Int) (w : World) (hr0_0 : Kd.C Kd.bool w A0_0 l0_0.length l0_0) (hc0_0 : l0_0.length ≤ c0_0) (hr0_1 : Kd.C k93 w A0_1 l0_1.length l0_1) (hc0_1 : l0_1.length ≤ c0_1) (h : heraldref15_Walk.f k l0_0 l0_1 a1 a2 = some r) :
    Calls Try.prog 16 #[.agg #[.slice A0_0 l0_0.length c0_0, .slice A0_1 l0_1.length c0_1], .int .i64 a1, .string a2] w fun e w' => e = .returned (.int .i64 r) ∧ Below w.heap.size w w' := by
 have hu28 := Try.underlying28
 have hu93 := Try.underlying93
 have HR0_0 := ym hr0_0
 have HC0_0 := ym hc0_0
 clear hr0_0 hc0_0
 have HR0_1 := ym hr0_1
 have HC0_1 := ym hc0_1
 clear hr0_1 hc0_1
 have HB := ym (Below.refl w.heap.size w)
 have H : ((heraldref15_Check.f k l0_0 l0_1).bind fun bt262 => (if bt262.2 = 0 then (if (l0_0.length : Int) = 0 then (if a1 = 0 then (some 0) else (some (-1))) else ((heraldref15_state.f l0_0 l0_1 a1).bind fun t264 => (if t264 = true then (heraldref15_Walk.l0 k a1 a2 0 l0_0 l0_1) else (some (-1))))) else (some (-1)))) = some r := h
 clear h
 replace H := Option.bind_eq_some_iff.mp H
 obtain ⟨⟨t262, t263⟩, A40, H⟩ := H
 replace H : (if t263 = 0 then (if (l0_0.length : Int) = 0 then (if a1 = 0 then (some 0) else (some (-1))) else ((heraldref15_state.f l0_0 l0_1 a1).bind fun t264 => (if t264 = true then (heraldref15_Walk.l0 k a1 a2 0 l0_0 l0_1) else (some (-1))))) else (some (-1))) = some r := H
 have A4 := ym A40
 clear A40
 by_cases c5 : t263 = 0
 ·
  rw [if_pos c5] at H
  have c5b0 : (t263 == 0) = true := beq_iff_eq.mpr c5
  have c5b1 : (t263 != 0) = false := bne_eq_false_iff_eq.mpr c5
  clear c5
  by_cases c6 : (l0_0.length : Int) = 0
  ·
   rw [if_pos c6] at H
   have c6b0 : ((l0_0.length : Int) == 0) = true := beq_iff_eq.mpr c6
   have c6b1 : ((l0_0.length : Int) != 0) = false := bne_eq_false_iff_eq.mpr c6
   clear c6
   by_cases c7 : a1 = 0
   ·
    rw [if_pos c7] at H
    have c7b0 : (a1 == 0) = true := beq_iff_eq.mpr c7
    have c7b1 : (a1 != 0) = false := bne_eq_false_iff_eq.mpr c7
    clear c7
    obtain rfl := Option.some.inj H
    go_enter Try.func16, Try.ntmps16
    go_wp2_with (first | ((with_reducible refine gate_dst (N := 3) rfl ?_); refine box_event ?hg (N := 3) ?hd (cs := #[.slice A0_0 l0_0.length c0_0, .slice A0_1 l0_1.length c0_1]) (t := 28) ?hr ?_; (case hd => rfl); (case hg => rfl); (case hr => first | (go_simp; done) | (go_simp; rfl)); intro gb261 hg w8 hbox hb; have n0_ := ym (yn yb hb); have n1_ := ym (hbox); have n2_ := ym ((by rw [hg]; exact (below_size yb) : w.heap.size ≤ gb261)); have n3_ := n2_; clear HB; have HB := n0_; have BK261 := n1_; have GW261 := n2_; have GE261 := n3_; clear n0_ n1_ n2_ n3_; clear hb hbox hg; have hcz9_0 : w8.cell? ⟨gb261, 0, none⟩ = some (.slice A0_0 l0_0.length c0_0) := (yw BK261.out 0).trans rfl; have hcz9_1 : w8.cell? ⟨gb261, 1, none⟩ = some (.slice A0_1 l0_1.length c0_1) := (yw BK261.out 1).trans rfl; have hfz9_0 := yv BK261.out 0; have hfz9_1 := yv BK261.out 1) | (go_at_call 20; (with_reducible refine (heraldref15_Check.calls k _ _ l0_0 _ _ l0_1 t262 t263 _ ?side1 ?side2 ?side3 ?side4 A4.out).mono ?_); (case side1 => exact y9 HR0_0); (case side2 => exact HC0_0.out); (case side3 => exact y9 HR0_1); (case side4 => exact HC0_1.out); rintro e w10 ⟨rfl, hb⟩; have n0_ := ym (yq (g := gb261) (o := .cells #[.slice A0_0 l0_0.length c0_0, .slice A0_1 l0_1.length c0_1] 28 (0, 0)) (yc BK261) hb); have n1_ := ym (yn yb hb); clear BK261; clear HB; have BK261 := n0_; have HB := n1_; clear n0_ n1_; (try clear hb); (try clear hb2); (try clear hk); (try clear hi); have hcz11_0 : w10.cell? ⟨gb261, 0, none⟩ = some (.slice A0_0 l0_0.length c0_0) := (yw BK261.out 0).trans rfl; have hcz11_1 : w10.cell? ⟨gb261, 1, none⟩ = some (.slice A0_1 l0_1.length c0_1) := (yw BK261.out 1).trans rfl; have hfz11_0 := yv BK261.out 0; have hfz11_1 := yv BK261.out 1))
    repeat (go_quiet (first | ((with_reducible refine gate_dst (N := 3) rfl ?_); refine box_event ?hg (N := 3) ?hd (cs := #[.slice A0_0 l0_0.length c0_0, .slice A0_1 l0_1.length c0_1]) (t := 28) ?hr ?_; (case hd => rfl); (case hg => rfl); (case hr => first | (go_simp; done) | (go_simp; rfl)); intro gb261 hg w8 hbox hb; have n0_ := ym (yn yb hb); have n1_ := ym (hbox); have n2_ := ym ((by rw [hg]; exact (below_size yb) : w.heap.size ≤ gb261)); have n3_ := n2_; clear HB; have HB := n0_; have BK261 := n1_; have GW261 := n2_; have GE261 := n3_; clear n0_ n1_ n2_ n3_; clear hb hbox hg; have hcz9_0 : w8.cell? ⟨gb261, 0, none⟩ = some (.slice A0_0 l0_0.length c0_0) := (yw BK261.out 0).trans rfl; have hcz9_1 : w8.cell? ⟨gb261, 1, none⟩ = some (.slice A0_1 l0_1.length c0_1) := (yw BK261.out 1).trans rfl; have hfz9_0 := yv BK261.out 0; have hfz9_1 := yv BK261.out 1) | (go_at_call 20; (with_reducible refine (heraldref15_Check.calls k _ _ l0_0 _ _ l0_1 t262 t263 _ ?side1 ?side2 ?side3 ?side4 A4.out).mono ?_); (case side1 => exact y9 HR0_0); (case side2 => exact HC0_0.out); (case side3 => exact y9 HR0_1); (case side4 => exact HC0_1.out); rintro e w10 ⟨rfl, hb⟩; have n0_ := ym (yq (g := gb261) (o := .cells #[.slice A0_0 l0_0.length c0_0, .slice A0_1 l0_1.length c0_1] 28 (0, 0)) (yc BK261) hb); have n1_ := ym (yn yb hb); clear BK261; clear HB; have BK261 := n0_; have HB := n1_; clear n0_ n1_; (try clear hb); (try clear hb2); (try clear hk); (try clear hi); have hcz11_0 : w10.cell? ⟨gb261, 0, none⟩ = some (.slice A0_0 l0_0.length c0_0) := (yw BK261.out 0).trans rfl; have hcz11_1 : w10.cell? ⟨gb261, 1, none⟩ = some (.slice A0_1 l0_1.length c0_1) := (yw BK261.out 1).trans rfl; have hfz11_0 := yv BK261.out 0; have hfz11_1 := yv BK261.out 1)); try go_wp2_with (first | ((with_reducible refine gate_dst (N := 3) rfl ?_); refine box_event ?hg (N := 3) ?hd (cs := #[.slice A0_0 l0_0.length c0_0, .slice A0_1 l0_1.length c0_1]) (t := 28) ?hr ?_; (case hd => rfl); (case hg => rfl); (case hr => first | (go_simp; done) | (go_simp; rfl)); intro gb261 hg w8 hbox hb; have n0_ := ym (yn yb hb); have n1_ := ym (hbox); have n2_ := ym ((by rw [hg]; exact (below_size yb) : w.heap.size ≤ gb261)); have n3_ := n2_; clear HB; have HB := n0_; have BK261 := n1_; have GW261 := n2_; have GE261 := n3_; clear n0_ n1_ n2_ n3_; clear hb hbox hg; have hcz9_0 : w8.cell? ⟨gb261, 0, none⟩ = some (.slice A0_0 l0_0.length c0_0) := (yw BK261.out 0).trans rfl; have hcz9_1 : w8.cell? ⟨gb261, 1, none⟩ = some (.slice A0_1 l0_1.length c0_1) := (yw BK261.out 1).trans rfl; have hfz9_0 := yv BK261.out 0; have hfz9_1 := yv BK261.out 1) | (go_at_call 20; (with_reducible refine (heraldref15_Check.calls k _ _ l0_0 _ _ l0_1 t262 t263 _ ?side1 ?side2 ?side3 ?side4 A4.out).mono ?_); (case side1 => exact y9 HR0_0); (case side2 => exact HC0_0.out); (case side3 => exact y9 HR0_1); (case side4 => exact HC0_1.out); rintro e w10 ⟨rfl, hb⟩; have n0_ := ym (yq (g := gb261) (o := .cells #[.slice A0_0 l0_0.length c0_0, .slice A0_1 l0_1.length c0_1] 28 (0, 0)) (yc BK261) hb); have n1_ := ym (yn yb hb); clear BK261; clear HB; have BK261 := n0_; have HB := n1_; clear n0_ n1_; (try clear hb); (try clear hb2); (try clear hk); (try clear hi); have hcz11_0 : w10.cell? ⟨gb261, 0, none⟩ = some (.slice A0_0 l0_0.length c0_0) := (yw BK261.out 0).trans rfl; have hcz11_1 : w10.cell? ⟨gb261, 1, none⟩ = some (.slice A0_1 l0_1.length c0_1) := (yw BK261.out 1).trans rfl; have hfz11_0 := yv BK261.out 0; have hfz11_1 := yv BK261.out 1)))
    go_ret
    exact ⟨by first | rfl | (simp [errW_none, errW_some] <;> rfl) | (simp [*, errW_none, errW_some] <;> rfl), by repeat (first | (with_reducible first | exact HB.out | apply y3 | refine ys ?_ GE261.out) | exact HB.out)⟩
   rw [if_neg c7] at H
   have c7b0 : (a1 == 0) = false := beq_eq_false_iff_ne.mpr c7
   have c7b1 : (a1 != 0) = true := bne_iff_ne.mpr c7
   obtain rfl := Option.some.inj H
   go_enter Try.func16, Try.ntmps16
   go_wp2_with (first | ((with_reducible refine gate_dst (N := 3) rfl ?_); refine box_event ?hg (N := 3) ?hd (cs := #[.slice A0_0 l0_0.length c0_0, .slice A0_1 l0_1.length c0_1]) (t := 28) ?hr ?_; (case hd => rfl); (case hg => rfl); (case hr => first | (go_simp; done) | (go_simp; rfl)); intro gb261 hg w12 hbox hb; have n0_ := ym (yn yb hb); have n1_ := ym (hbox); have n2_ := ym ((by rw [hg]; exact (below_size yb) : w.heap.size ≤ gb261)); have n3_ := n2_; clear HB; have HB := n0_; have BK261 := n1_; have GW261 := n2_; have GE261 := n3_; clear n0_ n1_ n2_ n3_; clear hb hbox hg; have hcz13_0 : w12.cell? ⟨gb261, 0, none⟩ = some (.slice A0_0 l0_0.length c0_0) := (yw BK261.out 0).trans rfl; have hcz13_1 : w12.cell? ⟨gb261, 1, none⟩ = some (.slice A0_1 l0_1.length c0_1) := (yw BK261.out 1).trans rfl; have hfz13_0 := yv BK261.out 0; have hfz13_1 := yv BK261.out 1) | (go_at_call 20; (with_reducible refine (heraldref15_Check.calls k _ _ l0_0 _ _ l0_1 t262 t263 _ ?side1 ?side2 ?side3 ?side4 A4.out).mono ?_); (case side1 => exact y9 HR0_0); (case side2 => exact HC0_0.out); (case side3 => exact y9 HR0_1); (case side4 => exact HC0_1.out); rintro e w14 ⟨rfl, hb⟩; have n0_ := ym (yq (g := gb261) (o := .cells #[.slice A0_0 l0_0.length c0_0, .slice A0_1 l0_1.length c0_1] 28 (0, 0)) (yc BK261) hb); have n1_ := ym (yn yb hb); clear BK261; clear HB; have BK261 := n0_; have HB := n1_; clear n0_ n1_; (try clear hb); (try clear hb2); (try clear hk); (try clear hi); have hcz15_0 : w14.cell? ⟨gb261, 0, none⟩ = some (.slice A0_0 l0_0.length c0_0) := (yw BK261.out 0).trans rfl; have hcz15_1 : w14.cell? ⟨gb261, 1, none⟩ = some (.slice A0_1 l0_1.length c0_1) := (yw BK261.out 1).trans rfl; have hfz15_0 := yv BK261.out 0; have hfz15_1 := yv BK261.out 1))
   repeat (go_quiet (first | ((with_reducible refine gate_dst (N := 3) rfl ?_); refine box_event ?hg (N := 3) ?hd (cs := #[.slice A0_0 l0_0.length c0_0, .slice A0_1 l0_1.length c0_1]) (t := 28) ?hr ?_; (case hd => rfl); (case hg => rfl); (case hr => first | (go_simp; done) | (go_simp; rfl)); intro gb261 hg w12 hbox hb; have n0_ := ym (yn yb hb); have n1_ := ym (hbox); have n2_ := ym ((by rw [hg]; exact (below_size yb) : w.heap.size ≤ gb261)); have n3_ := n2_; clear HB; have HB := n0_; have BK261 := n1_; have GW261 := n2_; have GE261 := n3_; clear n0_ n1_ n2_ n3_; clear hb hbox hg; have hcz13_0 : w12.cell? ⟨gb261, 0, none⟩ = some (.slice A0_0 l0_0.length c0_0) := (yw BK261.out 0).trans rfl; have hcz13_1 : w12.cell? ⟨gb261, 1, none⟩ = some (.slice A0_1 l0_1.length c0_1) := (yw BK261.out 1).trans rfl; have hfz13_0 := yv BK261.out 0; have hfz13_1 := yv BK261.out 1) | (go_at_call 20; (with_reducible refine (heraldref15_Check.calls k _ _ l0_0 _ _ l0_1 t262 t263 _ ?side1 ?side2 ?side3 ?side4 A4.out).mono ?_); (case side1 => exact y9 HR0_0); (case side2 => exact HC0_0.out); (case side3 => exact y9 HR0_1); (case side4 => exact HC0_1.out); rintro e w14 ⟨rfl, hb⟩; have n0_ := ym (yq (g := gb261) (o := .cells #[.slice A0_0 l0_0.length c0_0, .slice A0_1 l0_1.length c0_1] 28 (0, 0)) (yc BK261) hb); have n1_ := ym (yn yb hb); clear BK261; clear HB; have BK261 := n0_; have HB := n1_; clear n0_ n1_; (try clear hb); (try clear hb2); (try clear hk); (try clear hi); have hcz15_0 : w14.cell? ⟨gb261, 0, none⟩ = some (.slice A0_0 l0_0.length c0_0) := (yw BK261.out 0).trans rfl; have hcz15_1 : w14.cell? ⟨gb261, 1, none⟩ = some (.slice A0_1 l0_1.length c0_1) := (yw BK261.out 1).trans rfl; have hfz15_0 := yv BK261.out 0; have hfz15_1 := yv BK261.out 1)); try go_wp2_with (first | ((with_reducible refine gate_dst (N := 3) rfl ?_); refine box_event ?hg (N := 3) ?hd (cs := #[.slice A0_0 l0_0.length c0_0, .slice A0_1 l0_1.length c0_1]) (t := 28) ?hr ?_; (case hd => rfl); (case hg => rfl); (case hr => first | (go_simp; done) | (go_simp; rfl)); intro gb261 hg w12 hbox hb; have n0_ := ym (yn yb hb); have n1_ := ym (hbox); have n2_ := ym ((by rw [hg]; exact (below_size yb) : w.heap.size ≤ gb261)); have n3_ := n2_; clear HB; have HB := n0_; have BK261 := n1_; have GW261 := n2_; have GE261 := n3_; clear n0_ n1_ n2_ n3_; clear hb hbox hg; have hcz13_0 : w12.cell? ⟨gb261, 0, none⟩ = some (.slice A0_0 l0_0.length c0_0) := (yw BK261.out 0).trans rfl; have hcz13_1 : w12.cell? ⟨gb261, 1, none⟩ = some (.slice A0_1 l0_1.length c0_1) := (yw BK261.out 1).trans rfl; have hfz13_0 := yv BK261.out 0; have hfz13_1 := yv BK261.out 1) | (go_at_call 20; (with_reducible refine (heraldref15_Check.calls k _ _ l0_0 _ _ l0_1 t262 t263 _ ?side1 ?side2 ?side3 ?side4 A4.out).mono ?_); (case side1 => exact y9 HR0_0); (case side2 => exact HC0_0.out); (case side3 => exact y9 HR0_1); (case side4 => exact HC0_1.out); rintro e w14 ⟨rfl, hb⟩; have n0_ := ym (yq (g := gb261) (o := .cells #[.slice A0_0 l0_0.length c0_0, .slice A0_1 l0_1.length c0_1] 28 (0, 0)) (yc BK261) hb); have n1_ := ym (yn yb hb); clear BK261; clear HB; have BK261 := n0_; have HB := n1_; clear n0_ n1_; (try clear hb); (try clear hb2); (try clear hk); (try clear hi); have hcz15_0 : w14.cell? ⟨gb261, 0, none⟩ = some (.slice A0_0 l0_0.length c0_0) := (yw BK261.out 0).trans rfl; have hcz15_1 : w14.cell? ⟨gb261, 1, none⟩ = some (.slice A0_1 l0_1.length c0_1) := (yw BK261.out 1).trans rfl; have hfz15_0 := yv BK261.out 0; have hfz15_1 := yv BK261.out 1)))
   go_ret
   exact ⟨by first | rfl | (simp [errW_none, errW_some] <;> rfl) | (simp [*, errW_none, errW_some] <;> rfl), by repeat (first | (with_reducible first | exact HB.out | apply y3 | refine ys ?_ GE261.out) | exact HB.out)⟩
  rw [if_neg c6] at H
  have c6b0 : ((l0_0.length : Int) == 0) = false := beq_eq_false_iff_ne.mpr c6
  have c6b1 : ((l0_0.length : Int) != 0) = true := bne_iff_ne.mpr c6
  have c6b2 : ¬ (l0_0 = []) := fun h_ => c6 (by rw [h_]; rfl)
  replace H := Option.bind_eq_some_iff.mp H
  obtain ⟨t264, A160, H⟩ := H
  replace H : (if t264 = true then (heraldref15_Walk.l0 k a1 a2 0 l0_0 l0_1) else (some (-1))) = some r := H
  have A16 := ym A160
  clear A160
  by_cases c17 : t264 = true
  ·
   subst c17
   have H1 : (heraldref15_Walk.l0 k a1 a2 0 l0_0 l0_1) = some r := by rw [if_pos rfl] at H; exact H
   clear H
   have H := H1
   clear H1
   have H' := ym H
   clear H
   go_enter Try.func16, Try.ntmps16
   go_wp2_with (first | ((with_reducible refine gate_dst (N := 3) rfl ?_); refine box_event ?hg (N := 3) ?hd (cs := #[.slice A0_0 l0_0.length c0_0, .slice A0_1 l0_1.length c0_1]) (t := 28) ?hr ?_; (case hd => rfl); (case hg => rfl); (case hr => first | (go_simp; done) | (go_simp; rfl)); intro gb261 hg w18 hbox hb; have n0_ := ym (yn yb hb); have n1_ := ym (hbox); have n2_ := ym ((by rw [hg]; exact (below_size yb) : w.heap.size ≤ gb261)); have n3_ := n2_; clear HB; have HB := n0_; have BK261 := n1_; have GW261 := n2_; have GE261 := n3_; clear n0_ n1_ n2_ n3_; clear hb hbox hg; have hcz19_0 : w18.cell? ⟨gb261, 0, none⟩ = some (.slice A0_0 l0_0.length c0_0) := (yw BK261.out 0).trans rfl; have hcz19_1 : w18.cell? ⟨gb261, 1, none⟩ = some (.slice A0_1 l0_1.length c0_1) := (yw BK261.out 1).trans rfl; have hfz19_0 := yv BK261.out 0; have hfz19_1 := yv BK261.out 1) | (go_at_call 20; (with_reducible refine (heraldref15_Check.calls k _ _ l0_0 _ _ l0_1 t262 t263 _ ?side1 ?side2 ?side3 ?side4 A4.out).mono ?_); (case side1 => exact y9 HR0_0); (case side2 => exact HC0_0.out); (case side3 => exact y9 HR0_1); (case side4 => exact HC0_1.out); rintro e w20 ⟨rfl, hb⟩; have n0_ := ym (yq (g := gb261) (o := .cells #[.slice A0_0 l0_0.length c0_0, .slice A0_1 l0_1.length c0_1] 28 (0, 0)) (yc BK261) hb); have n1_ := ym (yn yb hb); clear BK261; clear HB; have BK261 := n0_; have HB := n1_; clear n0_ n1_; (try clear hb); (try clear hb2); (try clear hk); (try clear hi); have hcz21_0 : w20.cell? ⟨gb261, 0, none⟩ = some (.slice A0_0 l0_0.length c0_0) := (yw BK261.out 0).trans rfl; have hcz21_1 : w20.cell? ⟨gb261, 1, none⟩ = some (.slice A0_1 l0_1.length c0_1) := (yw BK261.out 1).trans rfl; have hfz21_0 := yv BK261.out 0; have hfz21_1 := yv BK261.out 1) | (go_at_call 49; (with_reducible refine (heraldref15_state.calls _ _ l0_0 _ _ l0_1 a1 true _ ?side1 ?side2 ?side3 ?side4 A16.out).mono ?_); (case side1 => exact y9 HR0_0); (case side2 => exact HC0_0.out); (case side3 => exact y9 HR0_1); (case side4 => exact HC0_1.out); rintro e w22 ⟨rfl, hb⟩; have n0_ := ym (yq (g := gb261) (o := .cells #[.slice A0_0 l0_0.length c0_0, .slice A0_1 l0_1.length c0_1] 28 (0, 0)) (yc BK261) hb); have n1_ := ym (yn yb hb); clear BK261; clear HB; have BK261 := n0_; have HB := n1_; clear n0_ n1_; (try clear hb); (try clear hb2); (try clear hk); (try clear hi)))
   repeat (go_quiet (first | ((with_reducible refine gate_dst (N := 3) rfl ?_); refine box_event ?hg (N := 3) ?hd (cs := #[.slice A0_0 l0_0.length c0_0, .slice A0_1 l0_1.length c0_1]) (t := 28) ?hr ?_; (case hd => rfl); (case hg => rfl); (case hr => first | (go_simp; done) | (go_simp; rfl)); intro gb261 hg w18 hbox hb; have n0_ := ym (yn yb hb); have n1_ := ym (hbox); have n2_ := ym ((by rw [hg]; exact (below_size yb) : w.heap.size ≤ gb261)); have n3_ := n2_; clear HB; have HB := n0_; have BK261 := n1_; have GW261 := n2_; have GE261 := n3_; clear n0_ n1_ n2_ n3_; clear hb hbox hg; have hcz19_0 : w18.cell? ⟨gb261, 0, none⟩ = some (.slice A0_0 l0_0.length c0_0) := (yw BK261.out 0).trans rfl; have hcz19_1 : w18.cell? ⟨gb261, 1, none⟩ = some (.slice A0_1 l0_1.length c0_1) := (yw BK261.out 1).trans rfl; have hfz19_0 := yv BK261.out 0; have hfz19_1 := yv BK261.out 1) | (go_at_call 20; (with_reducible refine (heraldref15_Check.calls k _ _ l0_0 _ _ l0_1 t262 t263 _ ?side1 ?side2 ?side3 ?side4 A4.out).mono ?_); (case side1 => exact y9 HR0_0); (case side2 => exact HC0_0.out); (case side3 => exact y9 HR0_1); (case side4 => exact HC0_1.out); rintro e w20 ⟨rfl, hb⟩; have n0_ := ym (yq (g := gb261) (o := .cells #[.slice A0_0 l0_0.length c0_0, .slice A0_1 l0_1.length c0_1] 28 (0, 0)) (yc BK261) hb); have n1_ := ym (yn yb hb); clear BK261; clear HB; have BK261 := n0_; have HB := n1_; clear n0_ n1_; (try clear hb); (try clear hb2); (try clear hk); (try clear hi); have hcz21_0 : w20.cell? ⟨gb261, 0, none⟩ = some (.slice A0_0 l0_0.length c0_0) := (yw BK261.out 0).trans rfl; have hcz21_1 : w20.cell? ⟨gb261, 1, none⟩ = some (.slice A0_1 l0_1.length c0_1) := (yw BK261.out 1).trans rfl; have hfz21_0 := yv BK261.out 0; have hfz21_1 := yv BK261.out 1) | (go_at_call 49; (with_reducible refine (heraldref15_state.calls _ _ l0_0 _ _ l0_1 a1 true _ ?side1 ?side2 ?side3 ?side4 A16.out).mono ?_); (case side1 => exact y9 HR0_0); (case side2 => exact HC0_0.out); (case side3 => exact y9 HR0_1); (case side4 => exact HC0_1.out); rintro e w22 ⟨rfl, hb⟩; have n0_ := ym (yq (g := gb261) (o := .cells #[.slice A0_0 l0_0.length c0_0, .slice A0_1 l0_1.length c0_1] 28 (0, 0)) (yc BK261) hb); have n1_ := ym (yn yb hb); clear BK261; clear HB; have BK261 := n0_; have HB := n1_; clear n0_ n1_; (try clear hb); (try clear hb2); (try clear hk); (try clear hi))); try go_wp2_with (first | ((with_reducible refine gate_dst (N := 3) rfl ?_); refine box_event ?hg (N := 3) ?hd (cs := #[.slice A0_0 l0_0.length c0_0, .slice A0_1 l0_1.length c0_1]) (t := 28) ?hr ?_; (case hd => rfl); (case hg => rfl); (case hr => first | (go_simp; done) | (go_simp; rfl)); intro gb261 hg w18 hbox hb; have n0_ := ym (yn yb hb); have n1_ := ym (hbox); have n2_ := ym ((by rw [hg]; exact (below_size yb) : w.heap.size ≤ gb261)); have n3_ := n2_; clear HB; have HB := n0_; have BK261 := n1_; have GW261 := n2_; have GE261 := n3_; clear n0_ n1_ n2_ n3_; clear hb hbox hg; have hcz19_0 : w18.cell? ⟨gb261, 0, none⟩ = some (.slice A0_0 l0_0.length c0_0) := (yw BK261.out 0).trans rfl; have hcz19_1 : w18.cell? ⟨gb261, 1, none⟩ = some (.slice A0_1 l0_1.length c0_1) := (yw BK261.out 1).trans rfl; have hfz19_0 := yv BK261.out 0; have hfz19_1 := yv BK261.out 1) | (go_at_call 20; (with_reducible refine (heraldref15_Check.calls k _ _ l0_0 _ _ l0_1 t262 t263 _ ?side1 ?side2 ?side3 ?side4 A4.out).mono ?_); (case side1 => exact y9 HR0_0); (case side2 => exact HC0_0.out); (case side3 => exact y9 HR0_1); (case side4 => exact HC0_1.out); rintro e w20 ⟨rfl, hb⟩; have n0_ := ym (yq (g := gb261) (o := .cells #[.slice A0_0 l0_0.length c0_0, .slice A0_1 l0_1.length c0_1] 28 (0, 0)) (yc BK261) hb); have n1_ := ym (yn yb hb); clear BK261; clear HB; have BK261 := n0_; have HB := n1_; clear n0_ n1_; (try clear hb); (try clear hb2); (try clear hk); (try clear hi); have hcz21_0 : w20.cell? ⟨gb261, 0, none⟩ = some (.slice A0_0 l0_0.length c0_0) := (yw BK261.out 0).trans rfl; have hcz21_1 : w20.cell? ⟨gb261, 1, none⟩ = some (.slice A0_1 l0_1.length c0_1) := (yw BK261.out 1).trans rfl; have hfz21_0 := yv BK261.out 0; have hfz21_1 := yv BK261.out 1) | (go_at_call 49; (with_reducible refine (heraldref15_state.calls _ _ l0_0 _ _ l0_1 a1 true _ ?side1 ?side2 ?side3 ?side4 A16.out).mono ?_); (case side1 => exact y9 HR0_0); (case side2 => exact HC0_0.out); (case side3 => exact y9 HR0_1); (case side4 => exact HC0_1.out); rintro e w22 ⟨rfl, hb⟩; have n0_ := ym (yq (g := gb261) (o := .cells #[.slice A0_0 l0_0.length c0_0, .slice A0_1 l0_1.length c0_1] 28 (0, 0)) (yc BK261) hb); have n1_ := ym (yn yb hb); clear BK261; clear HB; have BK261 := n0_; have HB := n1_; clear n0_ n1_; (try clear hb); (try clear hb2); (try clear hk); (try clear hi))))
   go_loopg [1, 9] k (fun kq v1 v9 w' => ∃ (x1_1 : Int) (x9_1 : Int), v1 = .int .i64 x1_1 ∧ v9 = .int .i64 x9_1 ∧ Aside0 (heraldref15_Walk.l0 kq x1_1 a2 x9_1 l0_0 l0_1 = some r) ∧ Aside0 (kq ≤ k) ∧ Aside0 (w'.heap[gb261]? = some (.cells #[(.slice A0_0 l0_0.length c0_0), (.slice A0_1 l0_1.length c0_1)] 28 (0, 0))) ∧ Aside0 (Below w.heap.size w w'))
   case atStart => exact ⟨(a1), (0), y7, y7, H', ⟨Nat.le_refl _⟩, ⟨by (with_reducible repeat refine y4 ?_); exact BK261.out⟩, ⟨by repeat (first | (with_reducible first | exact HB.out | apply y3 | refine ys ?_ GE261.out) | exact HB.out)⟩⟩
   case round =>
    clear H'
    try clear c1
    try clear p2
    try clear c5
    try clear c5b0
    try clear c5b1
    try clear c6
    try clear c6b0
    try clear c6b1
    try clear c6b2
    try clear c7
    try clear c7b0
    try clear c7b1
    try clear c16
    try clear c17
    try clear hcz11_0
    try clear hcz11_1
    try clear hcz13_0
    try clear hcz13_1
    try clear hcz15_0
    try clear hcz15_1
    try clear hcz19_0
    try clear hcz19_1
    try clear hcz21_0
    try clear hcz21_1
    try clear hcz9_0
    try clear hcz9_1
    try clear hfz11_0
    try clear hfz11_1
    try clear hfz13_0
    try clear hfz13_1
    try clear hfz15_0
    try clear hfz15_1
    try clear hfz19_0
    try clear hfz19_1
    try clear hfz21_0
    try clear hfz21_1
    try clear hfz9_0
    try clear hfz9_1
    obtain ⟨x1_1, x9_1, rfl, rfl, HA, HK1, BK261, HB⟩ := hrel
    cases gk with
    | zero => exact absurd HA.out (by simp [heraldref15_Walk.l0])
    | succ k1 =>
     have H := HA.out
     clear HA
     simp only [heraldref15_Walk.l0] at H
     by_cases c23 : x9_1 < (a2.size : Int)
     ·
      rw [if_pos c23] at H
      have c23b0 : decide (x9_1 < (a2.size : Int)) = true := decide_eq_true c23
      clear c23
      have H' := ym H
      clear H
      go_wp2
      repeat (go_quiet (fail); try go_wp2)
      go_loopg [10, 11] k1 (fun kq v10 v11 w' => ∃ (x10_2 : Int) (x11_2 : Int), v10 = .int .i64 x10_2 ∧ v11 = .int .i64 x11_2 ∧ Aside0 (heraldref15_Walk.l1 kq x1_1 a2 x9_1 x10_2 x11_2 l0_0 l0_1 = some r) ∧ Aside0 (kq ≤ k1) ∧ Aside0 (w'.heap[gb261]? = some (.cells #[(.slice A0_0 l0_0.length c0_0), (.slice A0_1 l0_1.length c0_1)] 28 (0, 0))) ∧ Aside0 (Below w.heap.size w w'))
      case atStart => exact ⟨((-1)), (0), y7, y7, H', ⟨Nat.le_refl _⟩, ⟨by (with_reducible repeat refine y4 ?_); exact BK261.out⟩, ⟨by repeat (first | (with_reducible first | exact HB.out | apply y3 | refine ys ?_ GE261.out) | exact HB.out)⟩⟩
      case round =>
       clear H'
       try clear c1
       try clear c2
       try clear p2
       try clear c5
       try clear c5b0
       try clear c5b1
       try clear c6
       try clear c6b0
       try clear c6b1
       try clear c6b2
       try clear c7
       try clear c7b0
       try clear c7b1
       try clear c16
       try clear c17
       try clear c23
       try clear c23b0
       try clear hcz11_0
       try clear hcz11_1
       try clear hcz13_0
       try clear hcz13_1
       try clear hcz15_0
       try clear hcz15_1
       try clear hcz19_0
       try clear hcz19_1
       try clear hcz21_0
       try clear hcz21_1
       try clear hcz9_0
       try clear hcz9_1
       try clear hfz11_0
       try clear hfz11_1
       try clear hfz13_0
       try clear hfz13_1
       try clear hfz15_0
       try clear hfz15_1
       try clear hfz19_0
       try clear hfz19_1
       try clear hfz21_0
       try clear hfz21_1
       try clear hfz9_0
       try clear hfz9_1
       try clear p2
       obtain ⟨x10_2, x11_2, rfl, rfl, HA, HK2, BK261, HB⟩ := hrel
       cases gk with
       | zero => exact absurd HA.out (by simp [heraldref15_Walk.l1])
       | succ k2 =>
        have H := HA.out
        clear HA
        simp only [heraldref15_Walk.l1] at H
        by_cases c24 : x11_2 < (l0_1.length : Int)
        ·
         rw [if_pos c24] at H
         have c24b0 : decide (x11_2 < (l0_1.length : Int)) = true := decide_eq_true c24
         clear c24
         by_cases c25 : 0 ≤ x11_2
         ·
          rw [if_pos c25] at H
          have c25b0 : decide (0 ≤ x11_2) = true := decide_eq_true c25
          clear c25
          by_cases c26 : ((rd_T93 l0_1 x11_2).f0) = x1_1
          ·
           rw [if_pos c26] at H
           have c26b0 : (((rd_T93 l0_1 x11_2).f0) == x1_1) = true := beq_iff_eq.mpr c26
           have c26b1 : (((rd_T93 l0_1 x11_2).f0) != x1_1) = false := bne_eq_false_iff_eq.mpr c26
           clear c26
           by_cases c27 : 0 ≤ x9_1
           ·
            rw [if_pos c27] at H
            have c27b0 : decide (0 ≤ x9_1) = true := decide_eq_true c27
            clear c27
            by_cases c28 : x9_1 < (a2.size : Int)
            ·
             rw [if_pos c28] at H
             have c28b0 : decide (x9_1 < (a2.size : Int)) = true := decide_eq_true c28
             clear c28
             by_cases c30 : ((rd_T93 l0_1 x11_2).f1) ≤ (bt a2 x9_1)
             ·
              rw [if_pos c30] at H
              have c30b0 : decide (((rd_T93 l0_1 x11_2).f1) ≤ (bt a2 x9_1)) = true := decide_eq_true c30
              clear c30
              by_cases c32 : (bt a2 x9_1) ≤ ((rd_T93 l0_1 x11_2).f2)
              ·
               rw [if_pos c32] at H
               have c32b0 : decide ((bt a2 x9_1) ≤ ((rd_T93 l0_1 x11_2).f2)) = true := decide_eq_true c32
               clear c32
               have H' := ym H
               clear H
               have hcz33_0 : wr.cell? ⟨gb261, 0, none⟩ = some (.slice A0_0 l0_0.length c0_0) := (yw BK261.out 0).trans rfl
               have hcz33_1 : wr.cell? ⟨gb261, 1, none⟩ = some (.slice A0_1 l0_1.length c0_1) := (yw BK261.out 1).trans rfl
               have hfz33_0 := yv BK261.out 0
               have hfz33_1 := yv BK261.out 1
               have p265 : 0 ≤ (x11_2 : Int) := of_decide_eq_true y5
               have q265 : x11_2 < (l0_1.length : Int) := of_decide_eq_true y5
               obtain ⟨ad265, e265, hx265_0, hx265_1, hx265_2, hx265_3⟩ := at_T93 HR0_1.out x11_2 p265 q265
               cases e265
               replace hx265_0 := (HB.out.cell (World.block_lt_of_cell? w _ hx265_0)).trans hx265_0
               replace hx265_1 := (HB.out.cell (World.block_lt_of_cell? w _ hx265_1)).trans hx265_1
               replace hx265_2 := (HB.out.cell (World.block_lt_of_cell? w _ hx265_2)).trans hx265_2
               replace hx265_3 := (HB.out.cell (World.block_lt_of_cell? w _ hx265_3)).trans hx265_3
               replace p265 := eq_true p265
               replace q265 := eq_true q265
               go_wp2_with (first | ((with_reducible refine gate_dst (N := 12) rfl ?_); refine box_event ?hg (N := 12) ?hd (cs := #[.int .i64 0, .int .u8 0, .int .u8 0, .int .i64 0]) (t := 93) ?hr ?_; (case hd => rfl); (case hg => rfl); (case hr => first | (go_simp; done) | (go_simp; rfl)); intro gb266 hg w34 hbox hb; have n0_ := ym (yq (g := gb261) (o := .cells #[.slice A0_0 l0_0.length c0_0, .slice (some ad265) l0_1.length c0_1] 28 (0, 0)) (yc BK261) hb); have n1_ := ym (yn yb hb); have n2_ := ym (hbox); have n3_ := ym ((by rw [hg]; exact (below_size yb) : w.heap.size ≤ gb266)); have n4_ := n3_; have n5_ := ym ((by rw [hg]; exact Nat.ne_of_lt (blk_lt (g := gb261) (o := .cells #[.slice A0_0 l0_0.length c0_0, .slice (some ad265) l0_1.length c0_1] 28 (0, 0)) (yc BK261)) : gb261 ≠ gb266)); have n6_ := ym ((by rw [hg]; exact Nat.ne_of_gt (blk_lt (g := gb261) (o := .cells #[.slice A0_0 l0_0.length c0_0, .slice (some ad265) l0_1.length c0_1] 28 (0, 0)) (yc BK261)) : gb266 ≠ gb261)); clear BK261; clear HB; have BK261 := n0_; have HB := n1_; have BK266 := n2_; have GW266 := n3_; have GE266 := n4_; have NB261_266 := n5_; have NB266_261 := n6_; clear n0_ n1_ n2_ n3_ n4_ n5_ n6_; clear hb hbox hg; have hnb35 := NB266_261.out; have hnc35 := NB261_266.out; have hcz36_0 : w34.cell? ⟨gb266, 0, none⟩ = some (.int .i64 0) := (yw BK266.out 0).trans rfl; have hcz36_1 : w34.cell? ⟨gb266, 1, none⟩ = some (.int .u8 0) := (yw BK266.out 1).trans rfl; have hcz36_2 : w34.cell? ⟨gb266, 2, none⟩ = some (.int .u8 0) := (yw BK266.out 2).trans rfl; have hcz36_3 : w34.cell? ⟨gb266, 3, none⟩ = some (.int .i64 0) := (yw BK266.out 3).trans rfl; have hfz36_0 := yv BK266.out 0; have hfz36_1 := yv BK266.out 1; have hfz36_2 := yv BK266.out 2; have hfz36_3 := yv BK266.out 3; have p29 : 0 ≤ (x9_1 : Int) := of_decide_eq_true y5; have q29 : x9_1 < (a2.size : Int) := of_decide_eq_true y5; have hx29 := bt_at a2 x9_1; replace p29 := eq_true p29; replace q29 := eq_true q29; have p31 : 0 ≤ (x9_1 : Int) := of_decide_eq_true y5; have q31 : x9_1 < (a2.size : Int) := of_decide_eq_true y5; have hx31 := bt_at a2 x9_1; replace p31 := eq_true p31; replace q31 := eq_true q31))
               repeat (go_quiet (first | ((with_reducible refine gate_dst (N := 12) rfl ?_); refine box_event ?hg (N := 12) ?hd (cs := #[.int .i64 0, .int .u8 0, .int .u8 0, .int .i64 0]) (t := 93) ?hr ?_; (case hd => rfl); (case hg => rfl); (case hr => first | (go_simp; done) | (go_simp; rfl)); intro gb266 hg w34 hbox hb; have n0_ := ym (yq (g := gb261) (o := .cells #[.slice A0_0 l0_0.length c0_0, .slice (some ad265) l0_1.length c0_1] 28 (0, 0)) (yc BK261) hb); have n1_ := ym (yn yb hb); have n2_ := ym (hbox); have n3_ := ym ((by rw [hg]; exact (below_size yb) : w.heap.size ≤ gb266)); have n4_ := n3_; have n5_ := ym ((by rw [hg]; exact Nat.ne_of_lt (blk_lt (g := gb261) (o := .cells #[.slice A0_0 l0_0.length c0_0, .slice (some ad265) l0_1.length c0_1] 28 (0, 0)) (yc BK261)) : gb261 ≠ gb266)); have n6_ := ym ((by rw [hg]; exact Nat.ne_of_gt (blk_lt (g := gb261) (o := .cells #[.slice A0_0 l0_0.length c0_0, .slice (some ad265) l0_1.length c0_1] 28 (0, 0)) (yc BK261)) : gb266 ≠ gb261)); clear BK261; clear HB; have BK261 := n0_; have HB := n1_; have BK266 := n2_; have GW266 := n3_; have GE266 := n4_; have NB261_266 := n5_; have NB266_261 := n6_; clear n0_ n1_ n2_ n3_ n4_ n5_ n6_; clear hb hbox hg; have hnb35 := NB266_261.out; have hnc35 := NB261_266.out; have hcz36_0 : w34.cell? ⟨gb266, 0, none⟩ = some (.int .i64 0) := (yw BK266.out 0).trans rfl; have hcz36_1 : w34.cell? ⟨gb266, 1, none⟩ = some (.int .u8 0) := (yw BK266.out 1).trans rfl; have hcz36_2 : w34.cell? ⟨gb266, 2, none⟩ = some (.int .u8 0) := (yw BK266.out 2).trans rfl; have hcz36_3 : w34.cell? ⟨gb266, 3, none⟩ = some (.int .i64 0) := (yw BK266.out 3).trans rfl; have hfz36_0 := yv BK266.out 0; have hfz36_1 := yv BK266.out 1; have hfz36_2 := yv BK266.out 2; have hfz36_3 := yv BK266.out 3; have p29 : 0 ≤ (x9_1 : Int) := of_decide_eq_true y5; have q29 : x9_1 < (a2.size : Int) := of_decide_eq_true y5; have hx29 := bt_at a2 x9_1; replace p29 := eq_true p29; replace q29 := eq_true q29; have p31 : 0 ≤ (x9_1 : Int) := of_decide_eq_true y5; have q31 : x9_1 < (a2.size : Int) := of_decide_eq_true y5; have hx31 := bt_at a2 x9_1; replace p31 := eq_true p31; replace q31 := eq_true q31)); try go_wp2_with (first | ((with_reducible refine gate_dst (N := 12) rfl ?_); refine box_event ?hg (N := 12) ?hd (cs := #[.int .i64 0, .int .u8 0, .int .u8 0, .int .i64 0]) (t := 93) ?hr ?_; (case hd => rfl); (case hg => rfl); (case hr => first | (go_simp; done) | (go_simp; rfl)); intro gb266 hg w34 hbox hb; have n0_ := ym (yq (g := gb261) (o := .cells #[.slice A0_0 l0_0.length c0_0, .slice (some ad265) l0_1.length c0_1] 28 (0, 0)) (yc BK261) hb); have n1_ := ym (yn yb hb); have n2_ := ym (hbox); have n3_ := ym ((by rw [hg]; exact (below_size yb) : w.heap.size ≤ gb266)); have n4_ := n3_; have n5_ := ym ((by rw [hg]; exact Nat.ne_of_lt (blk_lt (g := gb261) (o := .cells #[.slice A0_0 l0_0.length c0_0, .slice (some ad265) l0_1.length c0_1] 28 (0, 0)) (yc BK261)) : gb261 ≠ gb266)); have n6_ := ym ((by rw [hg]; exact Nat.ne_of_gt (blk_lt (g := gb261) (o := .cells #[.slice A0_0 l0_0.length c0_0, .slice (some ad265) l0_1.length c0_1] 28 (0, 0)) (yc BK261)) : gb266 ≠ gb261)); clear BK261; clear HB; have BK261 := n0_; have HB := n1_; have BK266 := n2_; have GW266 := n3_; have GE266 := n4_; have NB261_266 := n5_; have NB266_261 := n6_; clear n0_ n1_ n2_ n3_ n4_ n5_ n6_; clear hb hbox hg; have hnb35 := NB266_261.out; have hnc35 := NB261_266.out; have hcz36_0 : w34.cell? ⟨gb266, 0, none⟩ = some (.int .i64 0) := (yw BK266.out 0).trans rfl; have hcz36_1 : w34.cell? ⟨gb266, 1, none⟩ = some (.int .u8 0) := (yw BK266.out 1).trans rfl; have hcz36_2 : w34.cell? ⟨gb266, 2, none⟩ = some (.int .u8 0) := (yw BK266.out 2).trans rfl; have hcz36_3 : w34.cell? ⟨gb266, 3, none⟩ = some (.int .i64 0) := (yw BK266.out 3).trans rfl; have hfz36_0 := yv BK266.out 0; have hfz36_1 := yv BK266.out 1; have hfz36_2 := yv BK266.out 2; have hfz36_3 := yv BK266.out 3; have p29 : 0 ≤ (x9_1 : Int) := of_decide_eq_true y5; have q29 : x9_1 < (a2.size : Int) := of_decide_eq_true y5; have hx29 := bt_at a2 x9_1; replace p29 := eq_true p29; replace q29 := eq_true q29; have p31 : 0 ≤ (x9_1 : Int) := of_decide_eq_true y5; have q31 : x9_1 < (a2.size : Int) := of_decide_eq_true y5; have hx31 := bt_at a2 x9_1; replace p31 := eq_true p31; replace q31 := eq_true q31)))
               go_roundg k2
               case measure => have := HK1.out; have := HK2.out; omega
               case rel => exact ⟨((rd_T93 l0_1 x11_2).f3), (wrap64 (x11_2 + 1)), y7, y7, H', ⟨by have := HK1.out; have := HK2.out; omega⟩, ⟨by (with_reducible repeat refine y4 ?_); refine yx ?_ NB261_266.out _; (with_reducible repeat refine y4 ?_); refine yx ?_ NB261_266.out _; (with_reducible repeat refine y4 ?_); refine yx ?_ NB261_266.out _; (with_reducible repeat refine y4 ?_); refine yx ?_ NB261_266.out _; (with_reducible repeat refine y4 ?_); exact BK261.out⟩, ⟨by repeat (first | (with_reducible first | exact HB.out | apply y3 | refine ys ?_ GE261.out | refine ys ?_ GE266.out) | exact HB.out)⟩⟩
              rw [if_neg c32] at H
              have c32b0 : decide ((bt a2 x9_1) ≤ ((rd_T93 l0_1 x11_2).f2)) = false := decide_eq_false c32
              clear c32
              have H' := ym H
              clear H
              have hcz37_0 : wr.cell? ⟨gb261, 0, none⟩ = some (.slice A0_0 l0_0.length c0_0) := (yw BK261.out 0).trans rfl
              have hcz37_1 : wr.cell? ⟨gb261, 1, none⟩ = some (.slice A0_1 l0_1.length c0_1) := (yw BK261.out 1).trans rfl
              have hfz37_0 := yv BK261.out 0
              have hfz37_1 := yv BK261.out 1
              have p265 : 0 ≤ (x11_2 : Int) := of_decide_eq_true y5
              have q265 : x11_2 < (l0_1.length : Int) := of_decide_eq_true y5
              obtain ⟨ad265, e265, hx265_0, hx265_1, hx265_2, hx265_3⟩ := at_T93 HR0_1.out x11_2 p265 q265
              cases e265
              replace hx265_0 := (HB.out.cell (World.block_lt_of_cell? w _ hx265_0)).trans hx265_0
              replace hx265_1 := (HB.out.cell (World.block_lt_of_cell? w _ hx265_1)).trans hx265_1
              replace hx265_2 := (HB.out.cell (World.block_lt_of_cell? w _ hx265_2)).trans hx265_2
              replace hx265_3 := (HB.out.cell (World.block_lt_of_cell? w _ hx265_3)).trans hx265_3
              replace p265 := eq_true p265
              replace q265 := eq_true q265
              go_wp2_with (first | ((with_reducible refine gate_dst (N := 12) rfl ?_); refine box_event ?hg (N := 12) ?hd (cs := #[.int .i64 0, .int .u8 0, .int .u8 0, .int .i64 0]) (t := 93) ?hr ?_; (case hd => rfl); (case hg => rfl); (case hr => first | (go_simp; done) | (go_simp; rfl)); intro gb266 hg w38 hbox hb; have n0_ := ym (yq (g := gb261) (o := .cells #[.slice A0_0 l0_0.length c0_0, .slice (some ad265) l0_1.length c0_1] 28 (0, 0)) (yc BK261) hb); have n1_ := ym (yn yb hb); have n2_ := ym (hbox); have n3_ := ym ((by rw [hg]; exact (below_size yb) : w.heap.size ≤ gb266)); have n4_ := n3_; have n5_ := ym ((by rw [hg]; exact Nat.ne_of_lt (blk_lt (g := gb261) (o := .cells #[.slice A0_0 l0_0.length c0_0, .slice (some ad265) l0_1.length c0_1] 28 (0, 0)) (yc BK261)) : gb261 ≠ gb266)); have n6_ := ym ((by rw [hg]; exact Nat.ne_of_gt (blk_lt (g := gb261) (o := .cells #[.slice A0_0 l0_0.length c0_0, .slice (some ad265) l0_1.length c0_1] 28 (0, 0)) (yc BK261)) : gb266 ≠ gb261)); clear BK261; clear HB; have BK261 := n0_; have HB := n1_; have BK266 := n2_; have GW266 := n3_; have GE266 := n4_; have NB261_266 := n5_; have NB266_261 := n6_; clear n0_ n1_ n2_ n3_ n4_ n5_ n6_; clear hb hbox hg; have hnb39 := NB266_261.out; have hnc39 := NB261_266.out; have hcz40_0 : w38.cell? ⟨gb266, 0, none⟩ = some (.int .i64 0) := (yw BK266.out 0).trans rfl; have hcz40_1 : w38.cell? ⟨gb266, 1, none⟩ = some (.int .u8 0) := (yw BK266.out 1).trans rfl; have hcz40_2 : w38.cell? ⟨gb266, 2, none⟩ = some (.int .u8 0) := (yw BK266.out 2).trans rfl; have hcz40_3 : w38.cell? ⟨gb266, 3, none⟩ = some (.int .i64 0) := (yw BK266.out 3).trans rfl; have hfz40_0 := yv BK266.out 0; have hfz40_1 := yv BK266.out 1; have hfz40_2 := yv BK266.out 2; have hfz40_3 := yv BK266.out 3; have p29 : 0 ≤ (x9_1 : Int) := of_decide_eq_true y5; have q29 : x9_1 < (a2.size : Int) := of_decide_eq_true y5; have hx29 := bt_at a2 x9_1; replace p29 := eq_true p29; replace q29 := eq_true q29; have p31 : 0 ≤ (x9_1 : Int) := of_decide_eq_true y5; have q31 : x9_1 < (a2.size : Int) := of_decide_eq_true y5; have hx31 := bt_at a2 x9_1; replace p31 := eq_true p31; replace q31 := eq_true q31))
              repeat (go_quiet (first | ((with_reducible refine gate_dst (N := 12) rfl ?_); refine box_event ?hg (N := 12) ?hd (cs := #[.int .i64 0, .int .u8 0, .int .u8 0, .int .i64 0]) (t := 93) ?hr ?_; (case hd => rfl); (case hg => rfl); (case hr => first | (go_simp; done) | (go_simp; rfl)); intro gb266 hg w38 hbox hb; have n0_ := ym (yq (g := gb261) (o := .cells #[.slice A0_0 l0_0.length c0_0, .slice (some ad265) l0_1.length c0_1] 28 (0, 0)) (yc BK261) hb); have n1_ := ym (yn yb hb); have n2_ := ym (hbox); have n3_ := ym ((by rw [hg]; exact (below_size yb) : w.heap.size ≤ gb266)); have n4_ := n3_; have n5_ := ym ((by rw [hg]; exact Nat.ne_of_lt (blk_lt (g := gb261) (o := .cells #[.slice A0_0 l0_0.length c0_0, .slice (some ad265) l0_1.length c0_1] 28 (0, 0)) (yc BK261)) : gb261 ≠ gb266)); have n6_ := ym ((by rw [hg]; exact Nat.ne_of_gt (blk_lt (g := gb261) (o := .cells #[.slice A0_0 l0_0.length c0_0, .slice (some ad265) l0_1.length c0_1] 28 (0, 0)) (yc BK261)) : gb266 ≠ gb261)); clear BK261; clear HB; have BK261 := n0_; have HB := n1_; have BK266 := n2_; have GW266 := n3_; have GE266 := n4_; have NB261_266 := n5_; have NB266_261 := n6_; clear n0_ n1_ n2_ n3_ n4_ n5_ n6_; clear hb hbox hg; have hnb39 := NB266_261.out; have hnc39 := NB261_266.out; have hcz40_0 : w38.cell? ⟨gb266, 0, none⟩ = some (.int .i64 0) := (yw BK266.out 0).trans rfl; have hcz40_1 : w38.cell? ⟨gb266, 1, none⟩ = some (.int .u8 0) := (yw BK266.out 1).trans rfl; have hcz40_2 : w38.cell? ⟨gb266, 2, none⟩ = some (.int .u8 0) := (yw BK266.out 2).trans rfl; have hcz40_3 : w38.cell? ⟨gb266, 3, none⟩ = some (.int .i64 0) := (yw BK266.out 3).trans rfl; have hfz40_0 := yv BK266.out 0; have hfz40_1 := yv BK266.out 1; have hfz40_2 := yv BK266.out 2; have hfz40_3 := yv BK266.out 3; have p29 : 0 ≤ (x9_1 : Int) := of_decide_eq_true y5; have q29 : x9_1 < (a2.size : Int) := of_decide_eq_true y5; have hx29 := bt_at a2 x9_1; replace p29 := eq_true p29; replace q29 := eq_true q29; have p31 : 0 ≤ (x9_1 : Int) := of_decide_eq_true y5; have q31 : x9_1 < (a2.size : Int) := of_decide_eq_true y5; have hx31 := bt_at a2 x9_1; replace p31 := eq_true p31; replace q31 := eq_true q31)); try go_wp2_with (first | ((with_reducible refine gate_dst (N := 12) rfl ?_); refine box_event ?hg (N := 12) ?hd (cs := #[.int .i64 0, .int .u8 0, .int .u8 0, .int .i64 0]) (t := 93) ?hr ?_; (case hd => rfl); (case hg => rfl); (case hr => first | (go_simp; done) | (go_simp; rfl)); intro gb266 hg w38 hbox hb; have n0_ := ym (yq (g := gb261) (o := .cells #[.slice A0_0 l0_0.length c0_0, .slice (some ad265) l0_1.length c0_1] 28 (0, 0)) (yc BK261) hb); have n1_ := ym (yn yb hb); have n2_ := ym (hbox); have n3_ := ym ((by rw [hg]; exact (below_size yb) : w.heap.size ≤ gb266)); have n4_ := n3_; have n5_ := ym ((by rw [hg]; exact Nat.ne_of_lt (blk_lt (g := gb261) (o := .cells #[.slice A0_0 l0_0.length c0_0, .slice (some ad265) l0_1.length c0_1] 28 (0, 0)) (yc BK261)) : gb261 ≠ gb266)); have n6_ := ym ((by rw [hg]; exact Nat.ne_of_gt (blk_lt (g := gb261) (o := .cells #[.slice A0_0 l0_0.length c0_0, .slice (some ad265) l0_1.length c0_1] 28 (0, 0)) (yc BK261)) : gb266 ≠ gb261)); clear BK261; clear HB; have BK261 := n0_; have HB := n1_; have BK266 := n2_; have GW266 := n3_; have GE266 := n4_; have NB261_266 := n5_; have NB266_261 := n6_; clear n0_ n1_ n2_ n3_ n4_ n5_ n6_; clear hb hbox hg; have hnb39 := NB266_261.out; have hnc39 := NB261_266.out; have hcz40_0 : w38.cell? ⟨gb266, 0, none⟩ = some (.int .i64 0) := (yw BK266.out 0).trans rfl; have hcz40_1 : w38.cell? ⟨gb266, 1, none⟩ = some (.int .u8 0) := (yw BK266.out 1).trans rfl; have hcz40_2 : w38.cell? ⟨gb266, 2, none⟩ = some (.int .u8 0) := (yw BK266.out 2).trans rfl; have hcz40_3 : w38.cell? ⟨gb266, 3, none⟩ = some (.int .i64 0) := (yw BK266.out 3).trans rfl; have hfz40_0 := yv BK266.out 0; have hfz40_1 := yv BK266.out 1; have hfz40_2 := yv BK266.out 2; have hfz40_3 := yv BK266.out 3; have p29 : 0 ≤ (x9_1 : Int) := of_decide_eq_true y5; have q29 : x9_1 < (a2.size : Int) := of_decide_eq_true y5; have hx29 := bt_at a2 x9_1; replace p29 := eq_true p29; replace q29 := eq_true q29; have p31 : 0 ≤ (x9_1 : Int) := of_decide_eq_true y5; have q31 : x9_1 < (a2.size : Int) := of_decide_eq_true y5; have hx31 := bt_at a2 x9_1; replace p31 := eq_true p31; replace q31 := eq_true q31)))
              go_roundg k2
              case measure => have := HK1.out; have := HK2.out; omega
              case rel => exact ⟨(x10_2), (wrap64 (x11_2 + 1)), y7, y7, H', ⟨by have := HK1.out; have := HK2.out; omega⟩, ⟨by (with_reducible repeat refine y4 ?_); refine yx ?_ NB261_266.out _; (with_reducible repeat refine y4 ?_); refine yx ?_ NB261_266.out _; (with_reducible repeat refine y4 ?_); refine yx ?_ NB261_266.out _; (with_reducible repeat refine y4 ?_); refine yx ?_ NB261_266.out _; (with_reducible repeat refine y4 ?_); exact BK261.out⟩, ⟨by repeat (first | (with_reducible first | exact HB.out | apply y3 | refine ys ?_ GE261.out | refine ys ?_ GE266.out) | exact HB.out)⟩⟩
             rw [if_neg c30] at H
             have c30b0 : decide (((rd_T93 l0_1 x11_2).f1) ≤ (bt a2 x9_1)) = false := decide_eq_false c30
             clear c30
             have H' := ym H
             clear H
             have hcz41_0 : wr.cell? ⟨gb261, 0, none⟩ = some (.slice A0_0 l0_0.length c0_0) := (yw BK261.out 0).trans rfl
             have hcz41_1 : wr.cell? ⟨gb261, 1, none⟩ = some (.slice A0_1 l0_1.length c0_1) := (yw BK261.out 1).trans rfl
             have hfz41_0 := yv BK261.out 0
             have hfz41_1 := yv BK261.out 1
             have p265 : 0 ≤ (x11_2 : Int) := of_decide_eq_true y5
             have q265 : x11_2 < (l0_1.length : Int) := of_decide_eq_true y5
             obtain ⟨ad265, e265, hx265_0, hx265_1, hx265_2, hx265_3⟩ := at_T93 HR0_1.out x11_2 p265 q265
             cases e265
             replace hx265_0 := (HB.out.cell (World.block_lt_of_cell? w _ hx265_0)).trans hx265_0
             replace hx265_1 := (HB.out.cell (World.block_lt_of_cell? w _ hx265_1)).trans hx265_1
             replace hx265_2 := (HB.out.cell (World.block_lt_of_cell? w _ hx265_2)).trans hx265_2
             replace hx265_3 := (HB.out.cell (World.block_lt_of_cell? w _ hx265_3)).trans hx265_3
             replace p265 := eq_true p265
             replace q265 := eq_true q265
             go_wp2_with (first | ((with_reducible refine gate_dst (N := 12) rfl ?_); refine box_event ?hg (N := 12) ?hd (cs := #[.int .i64 0, .int .u8 0, .int .u8 0, .int .i64 0]) (t := 93) ?hr ?_; (case hd => rfl); (case hg => rfl); (case hr => first | (go_simp; done) | (go_simp; rfl)); intro gb266 hg w42 hbox hb; have n0_ := ym (yq (g := gb261) (o := .cells #[.slice A0_0 l0_0.length c0_0, .slice (some ad265) l0_1.length c0_1] 28 (0, 0)) (yc BK261) hb); have n1_ := ym (yn yb hb); have n2_ := ym (hbox); have n3_ := ym ((by rw [hg]; exact (below_size yb) : w.heap.size ≤ gb266)); have n4_ := n3_; have n5_ := ym ((by rw [hg]; exact Nat.ne_of_lt (blk_lt (g := gb261) (o := .cells #[.slice A0_0 l0_0.length c0_0, .slice (some ad265) l0_1.length c0_1] 28 (0, 0)) (yc BK261)) : gb261 ≠ gb266)); have n6_ := ym ((by rw [hg]; exact Nat.ne_of_gt (blk_lt (g := gb261) (o := .cells #[.slice A0_0 l0_0.length c0_0, .slice (some ad265) l0_1.length c0_1] 28 (0, 0)) (yc BK261)) : gb266 ≠ gb261)); clear BK261; clear HB; have BK261 := n0_; have HB := n1_; have BK266 := n2_; have GW266 := n3_; have GE266 := n4_; have NB261_266 := n5_; have NB266_261 := n6_; clear n0_ n1_ n2_ n3_ n4_ n5_ n6_; clear hb hbox hg; have hnb43 := NB266_261.out; have hnc43 := NB261_266.out; have hcz44_0 : w42.cell? ⟨gb266, 0, none⟩ = some (.int .i64 0) := (yw BK266.out 0).trans rfl; have hcz44_1 : w42.cell? ⟨gb266, 1, none⟩ = some (.int .u8 0) := (yw BK266.out 1).trans rfl; have hcz44_2 : w42.cell? ⟨gb266, 2, none⟩ = some (.int .u8 0) := (yw BK266.out 2).trans rfl; have hcz44_3 : w42.cell? ⟨gb266, 3, none⟩ = some (.int .i64 0) := (yw BK266.out 3).trans rfl; have hfz44_0 := yv BK266.out 0; have hfz44_1 := yv BK266.out 1; have hfz44_2 := yv BK266.out 2; have hfz44_3 := yv BK266.out 3; have p29 : 0 ≤ (x9_1 : Int) := of_decide_eq_true y5; have q29 : x9_1 < (a2.size : Int) := of_decide_eq_true y5; have hx29 := bt_at a2 x9_1; replace p29 := eq_true p29; replace q29 := eq_true q29))
             repeat (go_quiet (first | ((with_reducible refine gate_dst (N := 12) rfl ?_); refine box_event ?hg (N := 12) ?hd (cs := #[.int .i64 0, .int .u8 0, .int .u8 0, .int .i64 0]) (t := 93) ?hr ?_; (case hd => rfl); (case hg => rfl); (case hr => first | (go_simp; done) | (go_simp; rfl)); intro gb266 hg w42 hbox hb; have n0_ := ym (yq (g := gb261) (o := .cells #[.slice A0_0 l0_0.length c0_0, .slice (some ad265) l0_1.length c0_1] 28 (0, 0)) (yc BK261) hb); have n1_ := ym (yn yb hb); have n2_ := ym (hbox); have n3_ := ym ((by rw [hg]; exact (below_size yb) : w.heap.size ≤ gb266)); have n4_ := n3_; have n5_ := ym ((by rw [hg]; exact Nat.ne_of_lt (blk_lt (g := gb261) (o := .cells #[.slice A0_0 l0_0.length c0_0, .slice (some ad265) l0_1.length c0_1] 28 (0, 0)) (yc BK261)) : gb261 ≠ gb266)); have n6_ := ym ((by rw [hg]; exact Nat.ne_of_gt (blk_lt (g := gb261) (o := .cells #[.slice A0_0 l0_0.length c0_0, .slice (some ad265) l0_1.length c0_1] 28 (0, 0)) (yc BK261)) : gb266 ≠ gb261)); clear BK261; clear HB; have BK261 := n0_; have HB := n1_; have BK266 := n2_; have GW266 := n3_; have GE266 := n4_; have NB261_266 := n5_; have NB266_261 := n6_; clear n0_ n1_ n2_ n3_ n4_ n5_ n6_; clear hb hbox hg; have hnb43 := NB266_261.out; have hnc43 := NB261_266.out; have hcz44_0 : w42.cell? ⟨gb266, 0, none⟩ = some (.int .i64 0) := (yw BK266.out 0).trans rfl; have hcz44_1 : w42.cell? ⟨gb266, 1, none⟩ = some (.int .u8 0) := (yw BK266.out 1).trans rfl; have hcz44_2 : w42.cell? ⟨gb266, 2, none⟩ = some (.int .u8 0) := (yw BK266.out 2).trans rfl; have hcz44_3 : w42.cell? ⟨gb266, 3, none⟩ = some (.int .i64 0) := (yw BK266.out 3).trans rfl; have hfz44_0 := yv BK266.out 0; have hfz44_1 := yv BK266.out 1; have hfz44_2 := yv BK266.out 2; have hfz44_3 := yv BK266.out 3; have p29 : 0 ≤ (x9_1 : Int) := of_decide_eq_true y5; have q29 : x9_1 < (a2.size : Int) := of_decide_eq_true y5; have hx29 := bt_at a2 x9_1; replace p29 := eq_true p29; replace q29 := eq_true q29)); try go_wp2_with (first | ((with_reducible refine gate_dst (N := 12) rfl ?_); refine box_event ?hg (N := 12) ?hd (cs := #[.int .i64 0, .int .u8 0, .int .u8 0, .int .i64 0]) (t := 93) ?hr ?_; (case hd => rfl); (case hg => rfl); (case hr => first | (go_simp; done) | (go_simp; rfl)); intro gb266 hg w42 hbox hb; have n0_ := ym (yq (g := gb261) (o := .cells #[.slice A0_0 l0_0.length c0_0, .slice (some ad265) l0_1.length c0_1] 28 (0, 0)) (yc BK261) hb); have n1_ := ym (yn yb hb); have n2_ := ym (hbox); have n3_ := ym ((by rw [hg]; exact (below_size yb) : w.heap.size ≤ gb266)); have n4_ := n3_; have n5_ := ym ((by rw [hg]; exact Nat.ne_of_lt (blk_lt (g := gb261) (o := .cells #[.slice A0_0 l0_0.length c0_0, .slice (some ad265) l0_1.length c0_1] 28 (0, 0)) (yc BK261)) : gb261 ≠ gb266)); have n6_ := ym ((by rw [hg]; exact Nat.ne_of_gt (blk_lt (g := gb261) (o := .cells #[.slice A0_0 l0_0.length c0_0, .slice (some ad265) l0_1.length c0_1] 28 (0, 0)) (yc BK261)) : gb266 ≠ gb261)); clear BK261; clear HB; have BK261 := n0_; have HB := n1_; have BK266 := n2_; have GW266 := n3_; have GE266 := n4_; have NB261_266 := n5_; have NB266_261 := n6_; clear n0_ n1_ n2_ n3_ n4_ n5_ n6_; clear hb hbox hg; have hnb43 := NB266_261.out; have hnc43 := NB261_266.out; have hcz44_0 : w42.cell? ⟨gb266, 0, none⟩ = some (.int .i64 0) := (yw BK266.out 0).trans rfl; have hcz44_1 : w42.cell? ⟨gb266, 1, none⟩ = some (.int .u8 0) := (yw BK266.out 1).trans rfl; have hcz44_2 : w42.cell? ⟨gb266, 2, none⟩ = some (.int .u8 0) := (yw BK266.out 2).trans rfl; have hcz44_3 : w42.cell? ⟨gb266, 3, none⟩ = some (.int .i64 0) := (yw BK266.out 3).trans rfl; have hfz44_0 := yv BK266.out 0; have hfz44_1 := yv BK266.out 1; have hfz44_2 := yv BK266.out 2; have hfz44_3 := yv BK266.out 3; have p29 : 0 ≤ (x9_1 : Int) := of_decide_eq_true y5; have q29 : x9_1 < (a2.size : Int) := of_decide_eq_true y5; have hx29 := bt_at a2 x9_1; replace p29 := eq_true p29; replace q29 := eq_true q29)))
             go_roundg k2
             case measure => have := HK1.out; have := HK2.out; omega
             case rel => exact ⟨(x10_2), (wrap64 (x11_2 + 1)), y7, y7, H', ⟨by have := HK1.out; have := HK2.out; omega⟩, ⟨by (with_reducible repeat refine y4 ?_); refine yx ?_ NB261_266.out _; (with_reducible repeat refine y4 ?_); refine yx ?_ NB261_266.out _; (with_reducible repeat refine y4 ?_); refine yx ?_ NB261_266.out _; (with_reducible repeat refine y4 ?_); refine yx ?_ NB261_266.out _; (with_reducible repeat refine y4 ?_); exact BK261.out⟩, ⟨by repeat (first | (with_reducible first | exact HB.out | apply y3 | refine ys ?_ GE261.out | refine ys ?_ GE266.out) | exact HB.out)⟩⟩
            rw [if_neg c28] at H
            exact absurd H (by simp)
           rw [if_neg c27] at H
           exact absurd H (by simp)
          rw [if_neg c26] at H
          have c26b0 : (((rd_T93 l0_1 x11_2).f0) == x1_1) = false := beq_eq_false_iff_ne.mpr c26
          have c26b1 : (((rd_T93 l0_1 x11_2).f0) != x1_1) = true := bne_iff_ne.mpr c26
          have H' := ym H
          clear H
          have hcz45_0 : wr.cell? ⟨gb261, 0, none⟩ = some (.slice A0_0 l0_0.length c0_0) := (yw BK261.out 0).trans rfl
          have hcz45_1 : wr.cell? ⟨gb261, 1, none⟩ = some (.slice A0_1 l0_1.length c0_1) := (yw BK261.out 1).trans rfl
          have hfz45_0 := yv BK261.out 0
          have hfz45_1 := yv BK261.out 1
          have p265 : 0 ≤ (x11_2 : Int) := of_decide_eq_true y5
          have q265 : x11_2 < (l0_1.length : Int) := of_decide_eq_true y5
          obtain ⟨ad265, e265, hx265_0, hx265_1, hx265_2, hx265_3⟩ := at_T93 HR0_1.out x11_2 p265 q265
          cases e265
          replace hx265_0 := (HB.out.cell (World.block_lt_of_cell? w _ hx265_0)).trans hx265_0
          replace hx265_1 := (HB.out.cell (World.block_lt_of_cell? w _ hx265_1)).trans hx265_1
          replace hx265_2 := (HB.out.cell (World.block_lt_of_cell? w _ hx265_2)).trans hx265_2
          replace hx265_3 := (HB.out.cell (World.block_lt_of_cell? w _ hx265_3)).trans hx265_3
          replace p265 := eq_true p265
          replace q265 := eq_true q265
          go_wp2_with (first | ((with_reducible refine gate_dst (N := 12) rfl ?_); refine box_event ?hg (N := 12) ?hd (cs := #[.int .i64 0, .int .u8 0, .int .u8 0, .int .i64 0]) (t := 93) ?hr ?_; (case hd => rfl); (case hg => rfl); (case hr => first | (go_simp; done) | (go_simp; rfl)); intro gb266 hg w46 hbox hb; have n0_ := ym (yq (g := gb261) (o := .cells #[.slice A0_0 l0_0.length c0_0, .slice (some ad265) l0_1.length c0_1] 28 (0, 0)) (yc BK261) hb); have n1_ := ym (yn yb hb); have n2_ := ym (hbox); have n3_ := ym ((by rw [hg]; exact (below_size yb) : w.heap.size ≤ gb266)); have n4_ := n3_; have n5_ := ym ((by rw [hg]; exact Nat.ne_of_lt (blk_lt (g := gb261) (o := .cells #[.slice A0_0 l0_0.length c0_0, .slice (some ad265) l0_1.length c0_1] 28 (0, 0)) (yc BK261)) : gb261 ≠ gb266)); have n6_ := ym ((by rw [hg]; exact Nat.ne_of_gt (blk_lt (g := gb261) (o := .cells #[.slice A0_0 l0_0.length c0_0, .slice (some ad265) l0_1.length c0_1] 28 (0, 0)) (yc BK261)) : gb266 ≠ gb261)); clear BK261; clear HB; have BK261 := n0_; have HB := n1_; have BK266 := n2_; have GW266 := n3_; have GE266 := n4_; have NB261_266 := n5_; have NB266_261 := n6_; clear n0_ n1_ n2_ n3_ n4_ n5_ n6_; clear hb hbox hg; have hnb47 := NB266_261.out; have hnc47 := NB261_266.out; have hcz48_0 : w46.cell? ⟨gb266, 0, none⟩ = some (.int .i64 0) := (yw BK266.out 0).trans rfl; have hcz48_1 : w46.cell? ⟨gb266, 1, none⟩ = some (.int .u8 0) := (yw BK266.out 1).trans rfl; have hcz48_2 : w46.cell? ⟨gb266, 2, none⟩ = some (.int .u8 0) := (yw BK266.out 2).trans rfl; have hcz48_3 : w46.cell? ⟨gb266, 3, none⟩ = some (.int .i64 0) := (yw BK266.out 3).trans rfl; have hfz48_0 := yv BK266.out 0; have hfz48_1 := yv BK266.out 1; have hfz48_2 := yv BK266.out 2; have hfz48_3 := yv BK266.out 3))
          repeat (go_quiet (first | ((with_reducible refine gate_dst (N := 12) rfl ?_); refine box_event ?hg (N := 12) ?hd (cs := #[.int .i64 0, .int .u8 0, .int .u8 0, .int .i64 0]) (t := 93) ?hr ?_; (case hd => rfl); (case hg => rfl); (case hr => first | (go_simp; done) | (go_simp; rfl)); intro gb266 hg w46 hbox hb; have n0_ := ym (yq (g := gb261) (o := .cells #[.slice A0_0 l0_0.length c0_0, .slice (some ad265) l0_1.length c0_1] 28 (0, 0)) (yc BK261) hb); have n1_ := ym (yn yb hb); have n2_ := ym (hbox); have n3_ := ym ((by rw [hg]; exact (below_size yb) : w.heap.size ≤ gb266)); have n4_ := n3_; have n5_ := ym ((by rw [hg]; exact Nat.ne_of_lt (blk_lt (g := gb261) (o := .cells #[.slice A0_0 l0_0.length c0_0, .slice (some ad265) l0_1.length c0_1] 28 (0, 0)) (yc BK261)) : gb261 ≠ gb266)); have n6_ := ym ((by rw [hg]; exact Nat.ne_of_gt (blk_lt (g := gb261) (o := .cells #[.slice A0_0 l0_0.length c0_0, .slice (some ad265) l0_1.length c0_1] 28 (0, 0)) (yc BK261)) : gb266 ≠ gb261)); clear BK261; clear HB; have BK261 := n0_; have HB := n1_; have BK266 := n2_; have GW266 := n3_; have GE266 := n4_; have NB261_266 := n5_; have NB266_261 := n6_; clear n0_ n1_ n2_ n3_ n4_ n5_ n6_; clear hb hbox hg; have hnb47 := NB266_261.out; have hnc47 := NB261_266.out; have hcz48_0 : w46.cell? ⟨gb266, 0, none⟩ = some (.int .i64 0) := (yw BK266.out 0).trans rfl; have hcz48_1 : w46.cell? ⟨gb266, 1, none⟩ = some (.int .u8 0) := (yw BK266.out 1).trans rfl; have hcz48_2 : w46.cell? ⟨gb266, 2, none⟩ = some (.int .u8 0) := (yw BK266.out 2).trans rfl; have hcz48_3 : w46.cell? ⟨gb266, 3, none⟩ = some (.int .i64 0) := (yw BK266.out 3).trans rfl; have hfz48_0 := yv BK266.out 0; have hfz48_1 := yv BK266.out 1; have hfz48_2 := yv BK266.out 2; have hfz48_3 := yv BK266.out 3)); try go_wp2_with (first | ((with_reducible refine gate_dst (N := 12) rfl ?_); refine box_event ?hg (N := 12) ?hd (cs := #[.int .i64 0, .int .u8 0, .int .u8 0, .int .i64 0]) (t := 93) ?hr ?_; (case hd => rfl); (case hg => rfl); (case hr => first | (go_simp; done) | (go_simp; rfl)); intro gb266 hg w46 hbox hb; have n0_ := ym (yq (g := gb261) (o := .cells #[.slice A0_0 l0_0.length c0_0, .slice (some ad265) l0_1.length c0_1] 28 (0, 0)) (yc BK261) hb); have n1_ := ym (yn yb hb); have n2_ := ym (hbox); have n3_ := ym ((by rw [hg]; exact (below_size yb) : w.heap.size ≤ gb266)); have n4_ := n3_; have n5_ := ym ((by rw [hg]; exact Nat.ne_of_lt (blk_lt (g := gb261) (o := .cells #[.slice A0_0 l0_0.length c0_0, .slice (some ad265) l0_1.length c0_1] 28 (0, 0)) (yc BK261)) : gb261 ≠ gb266)); have n6_ := ym ((by rw [hg]; exact Nat.ne_of_gt (blk_lt (g := gb261) (o := .cells #[.slice A0_0 l0_0.length c0_0, .slice (some ad265) l0_1.length c0_1] 28 (0, 0)) (yc BK261)) : gb266 ≠ gb261)); clear BK261; clear HB; have BK261 := n0_; have HB := n1_; have BK266 := n2_; have GW266 := n3_; have GE266 := n4_; have NB261_266 := n5_; have NB266_261 := n6_; clear n0_ n1_ n2_ n3_ n4_ n5_ n6_; clear hb hbox hg; have hnb47 := NB266_261.out; have hnc47 := NB261_266.out; have hcz48_0 : w46.cell? ⟨gb266, 0, none⟩ = some (.int .i64 0) := (yw BK266.out 0).trans rfl; have hcz48_1 : w46.cell? ⟨gb266, 1, none⟩ = some (.int .u8 0) := (yw BK266.out 1).trans rfl; have hcz48_2 : w46.cell? ⟨gb266, 2, none⟩ = some (.int .u8 0) := (yw BK266.out 2).trans rfl; have hcz48_3 : w46.cell? ⟨gb266, 3, none⟩ = some (.int .i64 0) := (yw BK266.out 3).trans rfl; have hfz48_0 := yv BK266.out 0; have hfz48_1 := yv BK266.out 1; have hfz48_2 := yv BK266.out 2; have hfz48_3 := yv BK266.out 3)))
          go_roundg k2
          case measure => have := HK1.out; have := HK2.out; omega
          case rel => exact ⟨(x10_2), (wrap64 (x11_2 + 1)), y7, y7, H', ⟨by have := HK1.out; have := HK2.out; omega⟩, ⟨by (with_reducible repeat refine y4 ?_); refine yx ?_ NB261_266.out _; (with_reducible repeat refine y4 ?_); refine yx ?_ NB261_266.out _; (with_reducible repeat refine y4 ?_); refine yx ?_ NB261_266.out _; (with_reducible repeat refine y4 ?_); refine yx ?_ NB261_266.out _; (with_reducible repeat refine y4 ?_); exact BK261.out⟩, ⟨by repeat (first | (with_reducible first | exact HB.out | apply y3 | refine ys ?_ GE261.out | refine ys ?_ GE266.out) | exact HB.out)⟩⟩
         rw [if_neg c25] at H
         exact absurd H (by simp)
        rw [if_neg c24] at H
        have c24b0 : decide (x11_2 < (l0_1.length : Int)) = false := decide_eq_false c24
        clear c24
        by_cases c49 : x10_2 < 0
        ·
         rw [if_pos c49] at H
         have c49b0 : decide (x10_2 < 0) = true := decide_eq_true c49
         clear c49
         obtain rfl := Option.some.inj H
         have hcz50_0 : wr.cell? ⟨gb261, 0, none⟩ = some (.slice A0_0 l0_0.length c0_0) := (yw BK261.out 0).trans rfl
         have hcz50_1 : wr.cell? ⟨gb261, 1, none⟩ = some (.slice A0_1 l0_1.length c0_1) := (yw BK261.out 1).trans rfl
         have hfz50_0 := yv BK261.out 0
         have hfz50_1 := yv BK261.out 1
         go_wp2
         repeat (go_quiet (fail); try go_wp2)
         go_ret
         exact ⟨by first | rfl | (simp [errW_none, errW_some] <;> rfl) | (simp [*, errW_none, errW_some] <;> rfl), by repeat (first | (with_reducible first | exact HB.out | apply y3 | refine ys ?_ GE261.out) | exact HB.out)⟩
        rw [if_neg c49] at H
        have c49b0 : decide (x10_2 < 0) = false := decide_eq_false c49
        clear c49
        have H' := ym H
        clear H
        have hcz51_0 : wr.cell? ⟨gb261, 0, none⟩ = some (.slice A0_0 l0_0.length c0_0) := (yw BK261.out 0).trans rfl
        have hcz51_1 : wr.cell? ⟨gb261, 1, none⟩ = some (.slice A0_1 l0_1.length c0_1) := (yw BK261.out 1).trans rfl
        have hfz51_0 := yv BK261.out 0
        have hfz51_1 := yv BK261.out 1
        go_wp2
        repeat (go_quiet (fail); try go_wp2)
        go_roundg k2
        case measure => have := HK1.out; have := HK2.out; omega
        case rel => exact ⟨(x10_2), (wrap64 (x9_1 + 1)), y7, y7, H', ⟨by have := HK1.out; have := HK2.out; omega⟩, ⟨by (with_reducible repeat refine y4 ?_); exact BK261.out⟩, ⟨by repeat (first | (with_reducible first | exact HB.out | apply y3 | refine ys ?_ GE261.out) | exact HB.out)⟩⟩
     rw [if_neg c23] at H
     have c23b0 : decide (x9_1 < (a2.size : Int)) = false := decide_eq_false c23
     clear c23
     obtain rfl := Option.some.inj H
     go_wp2
     repeat (go_quiet (fail); try go_wp2)
     go_ret
     exact ⟨by first | rfl | (simp [errW_none, errW_some] <;> rfl) | (simp [*, errW_none, errW_some] <;> rfl), by repeat (first | (with_reducible first | exact HB.out | apply y3 | refine ys ?_ GE261.out) | exact HB.out)⟩
  replace c17 := Bool.eq_false_iff.mpr c17
  subst c17
  have H1 : (some (-1)) = some r := by rw [if_neg (show ¬ (false = true) by decide)] at H; exact H
  clear H
  have H := H1
  clear H1
  obtain rfl := Option.some.inj H
  go_enter Try.func16, Try.ntmps16
  go_wp2_with (first | ((with_reducible refine gate_dst (N := 3) rfl ?_); refine box_event ?hg (N := 3) ?hd (cs := #[.slice A0_0 l0_0.length c0_0, .slice A0_1 l0_1.length c0_1]) (t := 28) ?hr ?_; (case hd => rfl); (case hg => rfl); (case hr => first | (go_simp; done) | (go_simp; rfl)); intro gb261 hg w52 hbox hb; have n0_ := ym (yn yb hb); have n1_ := ym (hbox); have n2_ := ym ((by rw [hg]; exact (below_size yb) : w.heap.size ≤ gb261)); have n3_ := n2_; clear HB; have HB := n0_; have BK261 := n1_; have GW261 := n2_; have GE261 := n3_; clear n0_ n1_ n2_ n3_; clear hb hbox hg; have hcz53_0 : w52.cell? ⟨gb261, 0, none⟩ = some (.slice A0_0 l0_0.length c0_0) := (yw BK261.out 0).trans rfl; have hcz53_1 : w52.cell? ⟨gb261, 1, none⟩ = some (.slice A0_1 l0_1.length c0_1) := (yw BK261.out 1).trans rfl; have hfz53_0 := yv BK261.out 0; have hfz53_1 := yv BK261.out 1) | (go_at_call 20; (with_reducible refine (heraldref15_Check.calls k _ _ l0_0 _ _ l0_1 t262 t263 _ ?side1 ?side2 ?side3 ?side4 A4.out).mono ?_); (case side1 => exact y9 HR0_0); (case side2 => exact HC0_0.out); (case side3 => exact y9 HR0_1); (case side4 => exact HC0_1.out); rintro e w54 ⟨rfl, hb⟩; have n0_ := ym (yq (g := gb261) (o := .cells #[.slice A0_0 l0_0.length c0_0, .slice A0_1 l0_1.length c0_1] 28 (0, 0)) (yc BK261) hb); have n1_ := ym (yn yb hb); clear BK261; clear HB; have BK261 := n0_; have HB := n1_; clear n0_ n1_; (try clear hb); (try clear hb2); (try clear hk); (try clear hi); have hcz55_0 : w54.cell? ⟨gb261, 0, none⟩ = some (.slice A0_0 l0_0.length c0_0) := (yw BK261.out 0).trans rfl; have hcz55_1 : w54.cell? ⟨gb261, 1, none⟩ = some (.slice A0_1 l0_1.length c0_1) := (yw BK261.out 1).trans rfl; have hfz55_0 := yv BK261.out 0; have hfz55_1 := yv BK261.out 1) | (go_at_call 49; (with_reducible refine (heraldref15_state.calls _ _ l0_0 _ _ l0_1 a1 false _ ?side1 ?side2 ?side3 ?side4 A16.out).mono ?_); (case side1 => exact y9 HR0_0); (case side2 => exact HC0_0.out); (case side3 => exact y9 HR0_1); (case side4 => exact HC0_1.out); rintro e w56 ⟨rfl, hb⟩; have n0_ := ym (yq (g := gb261) (o := .cells #[.slice A0_0 l0_0.length c0_0, .slice A0_1 l0_1.length c0_1] 28 (0, 0)) (yc BK261) hb); have n1_ := ym (yn yb hb); clear BK261; clear HB; have BK261 := n0_; have HB := n1_; clear n0_ n1_; (try clear hb); (try clear hb2); (try clear hk); (try clear hi)))
  repeat (go_quiet (first | ((with_reducible refine gate_dst (N := 3) rfl ?_); refine box_event ?hg (N := 3) ?hd (cs := #[.slice A0_0 l0_0.length c0_0, .slice A0_1 l0_1.length c0_1]) (t := 28) ?hr ?_; (case hd => rfl); (case hg => rfl); (case hr => first | (go_simp; done) | (go_simp; rfl)); intro gb261 hg w52 hbox hb; have n0_ := ym (yn yb hb); have n1_ := ym (hbox); have n2_ := ym ((by rw [hg]; exact (below_size yb) : w.heap.size ≤ gb261)); have n3_ := n2_; clear HB; have HB := n0_; have BK261 := n1_; have GW261 := n2_; have GE261 := n3_; clear n0_ n1_ n2_ n3_; clear hb hbox hg; have hcz53_0 : w52.cell? ⟨gb261, 0, none⟩ = some (.slice A0_0 l0_0.length c0_0) := (yw BK261.out 0).trans rfl; have hcz53_1 : w52.cell? ⟨gb261, 1, none⟩ = some (.slice A0_1 l0_1.length c0_1) := (yw BK261.out 1).trans rfl; have hfz53_0 := yv BK261.out 0; have hfz53_1 := yv BK261.out 1) | (go_at_call 20; (with_reducible refine (heraldref15_Check.calls k _ _ l0_0 _ _ l0_1 t262 t263 _ ?side1 ?side2 ?side3 ?side4 A4.out).mono ?_); (case side1 => exact y9 HR0_0); (case side2 => exact HC0_0.out); (case side3 => exact y9 HR0_1); (case side4 => exact HC0_1.out); rintro e w54 ⟨rfl, hb⟩; have n0_ := ym (yq (g := gb261) (o := .cells #[.slice A0_0 l0_0.length c0_0, .slice A0_1 l0_1.length c0_1] 28 (0, 0)) (yc BK261) hb); have n1_ := ym (yn yb hb); clear BK261; clear HB; have BK261 := n0_; have HB := n1_; clear n0_ n1_; (try clear hb); (try clear hb2); (try clear hk); (try clear hi); have hcz55_0 : w54.cell? ⟨gb261, 0, none⟩ = some (.slice A0_0 l0_0.length c0_0) := (yw BK261.out 0).trans rfl; have hcz55_1 : w54.cell? ⟨gb261, 1, none⟩ = some (.slice A0_1 l0_1.length c0_1) := (yw BK261.out 1).trans rfl; have hfz55_0 := yv BK261.out 0; have hfz55_1 := yv BK261.out 1) | (go_at_call 49; (with_reducible refine (heraldref15_state.calls _ _ l0_0 _ _ l0_1 a1 false _ ?side1 ?side2 ?side3 ?side4 A16.out).mono ?_); (case side1 => exact y9 HR0_0); (case side2 => exact HC0_0.out); (case side3 => exact y9 HR0_1); (case side4 => exact HC0_1.out); rintro e w56 ⟨rfl, hb⟩; have n0_ := ym (yq (g := gb261) (o := .cells #[.slice A0_0 l0_0.length c0_0, .slice A0_1 l0_1.length c0_1] 28 (0, 0)) (yc BK261) hb); have n1_ := ym (yn yb hb); clear BK261; clear HB; have BK261 := n0_; have HB := n1_; clear n0_ n1_; (try clear hb); (try clear hb2); (try clear hk); (try clear hi))); try go_wp2_with (first | ((with_reducible refine gate_dst (N := 3) rfl ?_); refine box_event ?hg (N := 3) ?hd (cs := #[.slice A0_0 l0_0.length c0_0, .slice A0_1 l0_1.length c0_1]) (t := 28) ?hr ?_; (case hd => rfl); (case hg => rfl); (case hr => first | (go_simp; done) | (go_simp; rfl)); intro gb261 hg w52 hbox hb; have n0_ := ym (yn yb hb); have n1_ := ym (hbox); have n2_ := ym ((by rw [hg]; exact (below_size yb) : w.heap.size ≤ gb261)); have n3_ := n2_; clear HB; have HB := n0_; have BK261 := n1_; have GW261 := n2_; have GE261 := n3_; clear n0_ n1_ n2_ n3_; clear hb hbox hg; have hcz53_0 : w52.cell? ⟨gb261, 0, none⟩ = some (.slice A0_0 l0_0.length c0_0) := (yw BK261.out 0).trans rfl; have hcz53_1 : w52.cell? ⟨gb261, 1, none⟩ = some (.slice A0_1 l0_1.length c0_1) := (yw BK261.out 1).trans rfl; have hfz53_0 := yv BK261.out 0; have hfz53_1 := yv BK261.out 1) | (go_at_call 20; (with_reducible refine (heraldref15_Check.calls k _ _ l0_0 _ _ l0_1 t262 t263 _ ?side1 ?side2 ?side3 ?side4 A4.out).mono ?_); (case side1 => exact y9 HR0_0); (case side2 => exact HC0_0.out); (case side3 => exact y9 HR0_1); (case side4 => exact HC0_1.out); rintro e w54 ⟨rfl, hb⟩; have n0_ := ym (yq (g := gb261) (o := .cells #[.slice A0_0 l0_0.length c0_0, .slice A0_1 l0_1.length c0_1] 28 (0, 0)) (yc BK261) hb); have n1_ := ym (yn yb hb); clear BK261; clear HB; have BK261 := n0_; have HB := n1_; clear n0_ n1_; (try clear hb); (try clear hb2); (try clear hk); (try clear hi); have hcz55_0 : w54.cell? ⟨gb261, 0, none⟩ = some (.slice A0_0 l0_0.length c0_0) := (yw BK261.out 0).trans rfl; have hcz55_1 : w54.cell? ⟨gb261, 1, none⟩ = some (.slice A0_1 l0_1.length c0_1) := (yw BK261.out 1).trans rfl; have hfz55_0 := yv BK261.out 0; have hfz55_1 := yv BK261.out 1) | (go_at_call 49; (with_reducible refine (heraldref15_state.calls _ _ l0_0 _ _ l0_1 a1 false _ ?side1 ?side2 ?side3 ?side4 A16.out).mono ?_); (case side1 => exact y9 HR0_0); (case side2 => exact HC0_0.out); (case side3 => exact y9 HR0_1); (case side4 => exact HC0_1.out); rintro e w56 ⟨rfl, hb⟩; have n0_ := ym (yq (g := gb261) (o := .cells #[.slice A0_0 l0_0.length c0_0, .slice A0_1 l0_1.length c0_1] 28 (0, 0)) (yc BK261) hb); have n1_ := ym (yn yb hb); clear BK261; clear HB; have BK261 := n0_; have HB := n1_; clear n0_ n1_; (try clear hb); (try clear hb2); (try clear hk); (try clear hi))))
  go_ret
  exact ⟨by first | rfl | (simp [errW_none, errW_some] <;> rfl) | (simp [*, errW_none, errW_some] <;> rfl), by repeat (first | (with_reducible first | exact HB.out | apply y3 | refine ys ?_ GE261.out) | exact HB.out)⟩
 rw [if_neg c5] at H
 have c5b0 : (t263 == 0) = false := beq_eq_false_iff_ne.mpr c5
 have c5b1 : (t263 != 0) = true := bne_iff_ne.mpr c5
 obtain rfl := Option.some.inj H
 go_enter Try.func16, Try.ntmps16
 go_wp2_with (first | ((with_reducible refine gate_dst (N := 3) rfl ?_); refine box_event ?hg (N := 3) ?hd (cs := #[.slice A0_0 l0_0.length c0_0, .slice A0_1 l0_1.length c0_1]) (t := 28) ?hr ?_; (case hd => rfl); (case hg => rfl); (case hr => first | (go_simp; done) | (go_simp; rfl)); intro gb261 hg w57 hbox hb; have n0_ := ym (yn yb hb); have n1_ := ym (hbox); have n2_ := ym ((by rw [hg]; exact (below_size yb) : w.heap.size ≤ gb261)); have n3_ := n2_; clear HB; have HB := n0_; have BK261 := n1_; have GW261 := n2_; have GE261 := n3_; clear n0_ n1_ n2_ n3_; clear hb hbox hg; have hcz58_0 : w57.cell? ⟨gb261, 0, none⟩ = some (.slice A0_0 l0_0.length c0_0) := (yw BK261.out 0).trans rfl; have hcz58_1 : w57.cell? ⟨gb261, 1, none⟩ = some (.slice A0_1 l0_1.length c0_1) := (yw BK261.out 1).trans rfl; have hfz58_0 := yv BK261.out 0; have hfz58_1 := yv BK261.out 1) | (go_at_call 20; (with_reducible refine (heraldref15_Check.calls k _ _ l0_0 _ _ l0_1 t262 t263 _ ?side1 ?side2 ?side3 ?side4 A4.out).mono ?_); (case side1 => exact y9 HR0_0); (case side2 => exact HC0_0.out); (case side3 => exact y9 HR0_1); (case side4 => exact HC0_1.out); rintro e w59 ⟨rfl, hb⟩; have n0_ := ym (yq (g := gb261) (o := .cells #[.slice A0_0 l0_0.length c0_0, .slice A0_1 l0_1.length c0_1] 28 (0, 0)) (yc BK261) hb); have n1_ := ym (yn yb hb); clear BK261; clear HB; have BK261 := n0_; have HB := n1_; clear n0_ n1_; (try clear hb); (try clear hb2); (try clear hk); (try clear hi)))
 repeat (go_quiet (first | ((with_reducible refine gate_dst (N := 3) rfl ?_); refine box_event ?hg (N := 3) ?hd (cs := #[.slice A0_0 l0_0.length c0_0, .slice A0_1 l0_1.length c0_1]) (t := 28) ?hr ?_; (case hd => rfl); (case hg => rfl); (case hr => first | (go_simp; done) | (go_simp; rfl)); intro gb261 hg w57 hbox hb; have n0_ := ym (yn yb hb); have n1_ := ym (hbox); have n2_ := ym ((by rw [hg]; exact (below_size yb) : w.heap.size ≤ gb261)); have n3_ := n2_; clear HB; have HB := n0_; have BK261 := n1_; have GW261 := n2_; have GE261 := n3_; clear n0_ n1_ n2_ n3_; clear hb hbox hg; have hcz58_0 : w57.cell? ⟨gb261, 0, none⟩ = some (.slice A0_0 l0_0.length c0_0) := (yw BK261.out 0).trans rfl; have hcz58_1 : w57.cell? ⟨gb261, 1, none⟩ = some (.slice A0_1 l0_1.length c0_1) := (yw BK261.out 1).trans rfl; have hfz58_0 := yv BK261.out 0; have hfz58_1 := yv BK261.out 1) | (go_at_call 20; (with_reducible refine (heraldref15_Check.calls k _ _ l0_0 _ _ l0_1 t262 t263 _ ?side1 ?side2 ?side3 ?side4 A4.out).mono ?_); (case side1 => exact y9 HR0_0); (case side2 => exact HC0_0.out); (case side3 => exact y9 HR0_1); (case side4 => exact HC0_1.out); rintro e w59 ⟨rfl, hb⟩; have n0_ := ym (yq (g := gb261) (o := .cells #[.slice A0_0 l0_0.length c0_0, .slice A0_1 l0_1.length c0_1] 28 (0, 0)) (yc BK261) hb); have n1_ := ym (yn yb hb); clear BK261; clear HB; have BK261 := n0_; have HB := n1_; clear n0_ n1_; (try clear hb); (try clear hb2); (try clear hk); (try clear hi))); try go_wp2_with (first | ((with_reducible refine gate_dst (N := 3) rfl ?_); refine box_event ?hg (N := 3) ?hd (cs := #[.slice A0_0 l0_0.length c0_0, .slice A0_1 l0_1.length c0_1]) (t := 28) ?hr ?_; (case hd => rfl); (case hg => rfl); (case hr => first | (go_simp; done) | (go_simp; rfl)); intro gb261 hg w57 hbox hb; have n0_ := ym (yn yb hb); have n1_ := ym (hbox); have n2_ := ym ((by rw [hg]; exact (below_size yb) : w.heap.size ≤ gb261)); have n3_ := n2_; clear HB; have HB := n0_; have BK261 := n1_; have GW261 := n2_; have GE261 := n3_; clear n0_ n1_ n2_ n3_; clear hb hbox hg; have hcz58_0 : w57.cell? ⟨gb261, 0, none⟩ = some (.slice A0_0 l0_0.length c0_0) := (yw BK261.out 0).trans rfl; have hcz58_1 : w57.cell? ⟨gb261, 1, none⟩ = some (.slice A0_1 l0_1.length c0_1) := (yw BK261.out 1).trans rfl; have hfz58_0 := yv BK261.out 0; have hfz58_1 := yv BK261.out 1) | (go_at_call 20; (with_reducible refine (heraldref15_Check.calls k _ _ l0_0 _ _ l0_1 t262 t263 _ ?side1 ?side2 ?side3 ?side4 A4.out).mono ?_); (case side1 => exact y9 HR0_0); (case side2 => exact HC0_0.out); (case side3 => exact y9 HR0_1); (case side4 => exact HC0_1.out); rintro e w59 ⟨rfl, hb⟩; have n0_ := ym (yq (g := gb261) (o := .cells #[.slice A0_0 l0_0.length c0_0, .slice A0_1 l0_1.length c0_1] 28 (0, 0)) (yc BK261) hb); have n1_ := ym (yn yb hb); clear BK261; clear HB; have BK261 := n0_; have HB := n1_; clear n0_ n1_; (try clear hb); (try clear hb2); (try clear hk); (try clear hi))))
 go_ret
 exact ⟨by first | rfl | (simp [errW_none, errW_some] <;> rfl) | (simp [*, errW_none, errW_some] <;> rfl), by repeat (first | (with_reducible first | exact HB.out | apply y3 | refine ys ?_ GE261.out) | exact HB.out)⟩

end Go.Proofs.Ytfjpnmhbbfiaaaa.P
