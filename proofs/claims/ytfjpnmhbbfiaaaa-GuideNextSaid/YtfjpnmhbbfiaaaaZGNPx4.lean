-- Printed by xprint.py (wip): functions, contracts, rows. Lean checks it.
import Derived.Test.YtfjpnmhbbfiaaaaZGNPx0
import Derived.Test.YtfjpnmhbbfiaaaaZGNPx2
import Derived.Test.YtfjpnmhbbfiaaaaZGNPx3
import Derived.Test.YtfjpnmhbbfiaaaaZGNTiny
namespace Go.Proofs.Ytfjpnmhbbfiaaaa.P
open Go.RowKit Go.Proofs.YtfjpnmhbbfiaaaaW.PrintWords Go.Proofs.YtfjpnmhbbfiaaaaW.PrintLast Go.Proofs.YtfjpnmhbbfiaaaaW.PrintMore
attribute [local go_sem] max2_int min2_int max_two min_two max_three min_three max_four min_four   -- for this text's walks alone
set_option linter.unusedVariables false
set_option linter.unusedSimpArgs false

/-! ### guide_Check: function 19 -/
mutual
def guide_Check.l0 : Nat → List (S92) → Int → Int → List Bool → List (S92) → Option (Int × Int)
  | 0, _, _, _, _, _ => none
  | k + 1, x19, x20, x21, x137000, x137001 => if x21 < x20 then (if 0 ≤ x21 then (if x21 < (x19.length : Int) then ((guide_isState.f x137000 x137001 ((rd_T92 x19 x21).f0)).bind fun t143 => (if t143 = true then ((guide_isState.f x137000 x137001 ((rd_T92 x19 x21).f3)).bind fun t144 => (if t144 = true then (guide_Check.j1 k x21 x19 x20 x21 (decide (((rd_T92 x19 x21).f1) > ((rd_T92 x19 x21).f2))) x137000 x137001 ((rd_T92 x19 x21).f0) ((rd_T92 x19 x21).f1) ((rd_T92 x19 x21).f2) ((rd_T92 x19 x21).f3)) else (guide_Check.j1 k x21 x19 x20 x21 true x137000 x137001 ((rd_T92 x19 x21).f0) ((rd_T92 x19 x21).f1) ((rd_T92 x19 x21).f2) ((rd_T92 x19 x21).f3)))) else (guide_Check.j1 k x21 x19 x20 x21 true x137000 x137001 ((rd_T92 x19 x21).f0) ((rd_T92 x19 x21).f1) ((rd_T92 x19 x21).f2) ((rd_T92 x19 x21).f3)))) else (none)) else (none)) else (if (x137000.length : Int) > 0 then ((guide_alive.f k x137000 x137001).bind fun t137 => (if 0 < (t137.length : Int) then (if rdOf false t137 0 = true then (some (0, 0)) else (some (0, 152))) else (none))) else (some (0, 0)))
def guide_Check.j1 : Nat → Int → List (S92) → Int → Int → Bool → List Bool → List (S92) → Int → Int → Int → Int → Option (Int × Int)
  | 0, _, _, _, _, _, _, _, _, _, _, _ => none
  | k + 1, x4, x19, x20, x21, x44, x137000, x137001, x143000, x143001, x143002, x143003 => if x44 = true then (some (x4, 151)) else (if 0 ≤ x4 then (if x4 ≤ (x137001.length : Int) then ((some (x137001.take (x4 : Int).toNat : List (S92))).bind fun y145 => (guide_Check.l1 k x4 x19 x20 x21 y145 (y145.length : Int) 0 x137000 x137001 x143000 x143001 x143002 x143003)) else (none)) else (none))
def guide_Check.l1 : Nat → Int → List (S92) → Int → Int → List (S92) → Int → Int → List Bool → List (S92) → Int → Int → Int → Int → Option (Int × Int)
  | 0, _, _, _, _, _, _, _, _, _, _, _, _, _ => none
  | k + 1, x4, x19, x20, x21, x49, x50, x51, x137000, x137001, x143000, x143001, x143002, x143003 => if x51 < x50 then (if 0 ≤ x51 then (if x51 < (x49.length : Int) then (if ((rd_T92 x49 x51).f0) = x143000 then (if ((rd_T92 x49 x51).f1) ≤ x143002 then (if x143001 ≤ ((rd_T92 x49 x51).f2) then (some (x4, 151)) else (guide_Check.l1 k x4 x19 x20 x21 x49 x50 (wrap64 (x51 + 1)) x137000 x137001 x143000 x143001 x143002 x143003)) else (guide_Check.l1 k x4 x19 x20 x21 x49 x50 (wrap64 (x51 + 1)) x137000 x137001 x143000 x143001 x143002 x143003)) else (guide_Check.l1 k x4 x19 x20 x21 x49 x50 (wrap64 (x51 + 1)) x137000 x137001 x143000 x143001 x143002 x143003)) else (none)) else (none)) else (guide_Check.l0 k x19 x20 (wrap64 (x21 + 1)) x137000 x137001)
end
def guide_Check.f (k : Nat) (l0_0 : List Bool) (l0_1 : List (S92)) : Option (Int × Int) := if (l0_0.length : Int) > 64 then (some (64, 150)) else (if (l0_1.length : Int) > 1024 then (some (1024, 151)) else (guide_Check.l0 k l0_1 (l0_1.length : Int) 0 l0_0 l0_1))
theorem guide_Check.mono_l : ∀ k, (∀ y0 y1 y2 y3 y4, LeO (guide_Check.l0 k y0 y1 y2 y3 y4) (guide_Check.l0 (k + 1) y0 y1 y2 y3 y4)) ∧ (∀ y0 y1 y2 y3 y4 y5 y6 y7 y8 y9 y10, LeO (guide_Check.j1 k y0 y1 y2 y3 y4 y5 y6 y7 y8 y9 y10) (guide_Check.j1 (k + 1) y0 y1 y2 y3 y4 y5 y6 y7 y8 y9 y10)) ∧ (∀ y0 y1 y2 y3 y4 y5 y6 y7 y8 y9 y10 y11 y12, LeO (guide_Check.l1 k y0 y1 y2 y3 y4 y5 y6 y7 y8 y9 y10 y11 y12) (guide_Check.l1 (k + 1) y0 y1 y2 y3 y4 y5 y6 y7 y8 y9 y10 y11 y12))
  | 0 => ⟨fun _ _ _ _ _ r h => by simp [guide_Check.l0] at h, fun _ _ _ _ _ _ _ _ _ _ _ r h => by simp [guide_Check.j1] at h, fun _ _ _ _ _ _ _ _ _ _ _ _ _ r h => by simp [guide_Check.l1] at h⟩
  | k + 1 => by
    obtain ⟨ih0, ih1, ih2⟩ := guide_Check.mono_l k
    refine ⟨?_, ?_, ?_⟩
    · intro y0 y1 y2 y3 y4
      unfold guide_Check.l0
      repeat' first
      | (with_reducible exact ih0 _ _ _ _ _)
      | (with_reducible exact ih1 _ _ _ _ _ _ _ _ _ _ _)
      | (with_reducible exact ih2 _ _ _ _ _ _ _ _ _ _ _ _ _)
      | (with_reducible exact guide_alive.mono _ _ _)
      | (with_reducible exact LeO.refl _)
      | (with_reducible exact LeO.none _)
      | (with_reducible refine LeO.ite ?_ ?_)
      | (with_reducible refine LeO.bind ?_ (fun _ => ?_))
      | exact ih0 _ _ _ _ _
      | exact ih1 _ _ _ _ _ _ _ _ _ _ _
      | exact ih2 _ _ _ _ _ _ _ _ _ _ _ _ _
      | exact guide_alive.mono _ _ _
      | exact LeO.none _
      | refine LeO.ite ?_ ?_
      | refine LeO.bind ?_ (fun _ => ?_)
    · intro y0 y1 y2 y3 y4 y5 y6 y7 y8 y9 y10
      unfold guide_Check.j1
      repeat' first
      | (with_reducible exact ih0 _ _ _ _ _)
      | (with_reducible exact ih1 _ _ _ _ _ _ _ _ _ _ _)
      | (with_reducible exact ih2 _ _ _ _ _ _ _ _ _ _ _ _ _)
      | (with_reducible exact guide_alive.mono _ _ _)
      | (with_reducible exact LeO.refl _)
      | (with_reducible exact LeO.none _)
      | (with_reducible refine LeO.ite ?_ ?_)
      | (with_reducible refine LeO.bind ?_ (fun _ => ?_))
      | exact ih0 _ _ _ _ _
      | exact ih1 _ _ _ _ _ _ _ _ _ _ _
      | exact ih2 _ _ _ _ _ _ _ _ _ _ _ _ _
      | exact guide_alive.mono _ _ _
      | exact LeO.none _
      | refine LeO.ite ?_ ?_
      | refine LeO.bind ?_ (fun _ => ?_)
    · intro y0 y1 y2 y3 y4 y5 y6 y7 y8 y9 y10 y11 y12
      unfold guide_Check.l1
      repeat' first
      | (with_reducible exact ih0 _ _ _ _ _)
      | (with_reducible exact ih1 _ _ _ _ _ _ _ _ _ _ _)
      | (with_reducible exact ih2 _ _ _ _ _ _ _ _ _ _ _ _ _)
      | (with_reducible exact guide_alive.mono _ _ _)
      | (with_reducible exact LeO.refl _)
      | (with_reducible exact LeO.none _)
      | (with_reducible refine LeO.ite ?_ ?_)
      | (with_reducible refine LeO.bind ?_ (fun _ => ?_))
      | exact ih0 _ _ _ _ _
      | exact ih1 _ _ _ _ _ _ _ _ _ _ _
      | exact ih2 _ _ _ _ _ _ _ _ _ _ _ _ _
      | exact guide_alive.mono _ _ _
      | exact LeO.none _
      | refine LeO.ite ?_ ?_
      | refine LeO.bind ?_ (fun _ => ?_)
theorem guide_Check.mono : ∀ a0 a1 k, LeO (guide_Check.f k a0 a1) (guide_Check.f (k + 1) a0 a1) := by
  intro a0 a1 k
  obtain ⟨ih0, ih1, ih2⟩ := guide_Check.mono_l k
  unfold guide_Check.f
  repeat' first
      | (with_reducible exact ih0 _ _ _ _ _)
      | (with_reducible exact ih1 _ _ _ _ _ _ _ _ _ _ _)
      | (with_reducible exact ih2 _ _ _ _ _ _ _ _ _ _ _ _ _)
      | (with_reducible exact guide_alive.mono _ _ _)
      | (with_reducible exact LeO.refl _)
      | (with_reducible exact LeO.none _)
      | (with_reducible refine LeO.ite ?_ ?_)
      | (with_reducible refine LeO.bind ?_ (fun _ => ?_))
      | exact ih0 _ _ _ _ _
      | exact ih1 _ _ _ _ _ _ _ _ _ _ _
      | exact ih2 _ _ _ _ _ _ _ _ _ _ _ _ _
      | exact guide_alive.mono _ _ _
      | exact LeO.none _
      | refine LeO.ite ?_ ?_
      | refine LeO.bind ?_ (fun _ => ?_)
set_option maxHeartbeats 8000000 in
set_option maxRecDepth 100000 in
theorem guide_Check.calls (k : Nat) (A0_0 : Option Addr) (c0_0 : Nat) (l0_0 : List Bool) (A0_1 : Option Addr) (c0_1 : Nat) (l0_1 : List (S92)) (r1 : Int) (r2 : Int) (w : World) (hr0_0 : Kd.C Kd.bool w A0_0 l0_0.length l0_0) (hc0_0 : l0_0.length ≤ c0_0) (hr0_1 : Kd.C k92 w A0_1 l0_1.length l0_1) (hc0_1 : l0_1.length ≤ c0_1) (h : guide_Check.f k l0_0 l0_1 = some (r1, r2)) :
    Calls Try.prog 19 #[.agg #[.slice A0_0 l0_0.length c0_0, .slice A0_1 l0_1.length c0_1]] w fun e w' => e = .returned (.tuple #[.int .i64 r1, .int .i64 r2]) ∧ Below w.heap.size w w' := by
 have hu25 := Try.underlying25
 have hu92 := Try.underlying92
 have HR0_0 := ym hr0_0
 have HC0_0 := ym hc0_0
 clear hr0_0 hc0_0
 have HR0_1 := ym hr0_1
 have HC0_1 := ym hc0_1
 clear hr0_1 hc0_1
 have HB := ym (Below.refl w.heap.size w)
 have H : (if (l0_0.length : Int) > 64 then (some (64, 150)) else (if (l0_1.length : Int) > 1024 then (some (1024, 151)) else (guide_Check.l0 k l0_1 (l0_1.length : Int) 0 l0_0 l0_1))) = some (r1, r2) := h
 clear h
 by_cases c2 : (l0_0.length : Int) > 64
 ·
  rw [if_pos c2] at H
  have c2b0 : decide (64 < (l0_0.length : Int)) = true := decide_eq_true c2
  have c2b1 : decide (64 < l0_0.length) = true := decide_eq_true (by omega)
  clear c2
  simp only [Option.some.injEq, Prod.mk.injEq] at H
  obtain ⟨rfl, rfl⟩ := H
  go_enter Try.func19, Try.ntmps19
  go_wp2_with (first | ((with_reducible refine gate_dst (N := 1) rfl ?_); refine box_event ?hg (N := 1) ?hd (cs := #[.slice A0_0 l0_0.length c0_0, .slice A0_1 l0_1.length c0_1]) (t := 25) ?hr ?_; (case hd => rfl); (case hg => rfl); (case hr => first | (go_simp; done) | (go_simp; rfl)); intro gb136 hg w3 hbox hb; have n0_ := ym (yn yb hb); have n1_ := ym (hbox); have n2_ := ym ((by rw [hg]; exact (below_size yb) : w.heap.size ≤ gb136)); have n3_ := n2_; clear HB; have HB := n0_; have BK136 := n1_; have GW136 := n2_; have GE136 := n3_; clear n0_ n1_ n2_ n3_; clear hb hbox hg; have hcz4_0 : w3.cell? ⟨gb136, 0, none⟩ = some (.slice A0_0 l0_0.length c0_0) := (yw BK136.out 0).trans rfl; have hcz4_1 : w3.cell? ⟨gb136, 1, none⟩ = some (.slice A0_1 l0_1.length c0_1) := (yw BK136.out 1).trans rfl; have hfz4_0 := yv BK136.out 0; have hfz4_1 := yv BK136.out 1))
  go_ret2
  exact ⟨by first | rfl | (simp [errW_none, errW_some] <;> rfl) | (simp [*, errW_none, errW_some] <;> rfl), by repeat (first | (with_reducible first | exact HB.out | apply y3 | refine ys ?_ GE136.out) | exact HB.out)⟩
 rw [if_neg c2] at H
 have c2b0 : decide (64 < (l0_0.length : Int)) = false := decide_eq_false c2
 have c2b1 : decide (64 < l0_0.length) = false := decide_eq_false (by omega)
 clear c2
 by_cases c5 : (l0_1.length : Int) > 1024
 ·
  rw [if_pos c5] at H
  have c5b0 : decide (1024 < (l0_1.length : Int)) = true := decide_eq_true c5
  have c5b1 : decide (1024 < l0_1.length) = true := decide_eq_true (by omega)
  clear c5
  simp only [Option.some.injEq, Prod.mk.injEq] at H
  obtain ⟨rfl, rfl⟩ := H
  go_enter Try.func19, Try.ntmps19
  go_wp2_with (first | ((with_reducible refine gate_dst (N := 1) rfl ?_); refine box_event ?hg (N := 1) ?hd (cs := #[.slice A0_0 l0_0.length c0_0, .slice A0_1 l0_1.length c0_1]) (t := 25) ?hr ?_; (case hd => rfl); (case hg => rfl); (case hr => first | (go_simp; done) | (go_simp; rfl)); intro gb136 hg w6 hbox hb; have n0_ := ym (yn yb hb); have n1_ := ym (hbox); have n2_ := ym ((by rw [hg]; exact (below_size yb) : w.heap.size ≤ gb136)); have n3_ := n2_; clear HB; have HB := n0_; have BK136 := n1_; have GW136 := n2_; have GE136 := n3_; clear n0_ n1_ n2_ n3_; clear hb hbox hg; have hcz7_0 : w6.cell? ⟨gb136, 0, none⟩ = some (.slice A0_0 l0_0.length c0_0) := (yw BK136.out 0).trans rfl; have hcz7_1 : w6.cell? ⟨gb136, 1, none⟩ = some (.slice A0_1 l0_1.length c0_1) := (yw BK136.out 1).trans rfl; have hfz7_0 := yv BK136.out 0; have hfz7_1 := yv BK136.out 1))
  go_ret2
  exact ⟨by first | rfl | (simp [errW_none, errW_some] <;> rfl) | (simp [*, errW_none, errW_some] <;> rfl), by repeat (first | (with_reducible first | exact HB.out | apply y3 | refine ys ?_ GE136.out) | exact HB.out)⟩
 rw [if_neg c5] at H
 have c5b0 : decide (1024 < (l0_1.length : Int)) = false := decide_eq_false c5
 have c5b1 : decide (1024 < l0_1.length) = false := decide_eq_false (by omega)
 clear c5
 have H' := ym H
 clear H
 go_enter Try.func19, Try.ntmps19
 go_wp2_with (first | ((with_reducible refine gate_dst (N := 1) rfl ?_); refine box_event ?hg (N := 1) ?hd (cs := #[.slice A0_0 l0_0.length c0_0, .slice A0_1 l0_1.length c0_1]) (t := 25) ?hr ?_; (case hd => rfl); (case hg => rfl); (case hr => first | (go_simp; done) | (go_simp; rfl)); intro gb136 hg w8 hbox hb; have n0_ := ym (yn yb hb); have n1_ := ym (hbox); have n2_ := ym ((by rw [hg]; exact (below_size yb) : w.heap.size ≤ gb136)); have n3_ := n2_; clear HB; have HB := n0_; have BK136 := n1_; have GW136 := n2_; have GE136 := n3_; clear n0_ n1_ n2_ n3_; clear hb hbox hg; have hcz9_0 : w8.cell? ⟨gb136, 0, none⟩ = some (.slice A0_0 l0_0.length c0_0) := (yw BK136.out 0).trans rfl; have hcz9_1 : w8.cell? ⟨gb136, 1, none⟩ = some (.slice A0_1 l0_1.length c0_1) := (yw BK136.out 1).trans rfl; have hfz9_0 := yv BK136.out 0; have hfz9_1 := yv BK136.out 1))
 go_loopg [21] k (fun kq v21 w' => ∃ (x21_1 : Int), v21 = .int .i64 x21_1 ∧ Aside0 (guide_Check.l0 kq l0_1 (l0_1.length : Int) x21_1 l0_0 l0_1 = some (r1, r2)) ∧ Aside0 (kq ≤ k) ∧ Aside0 (w'.heap[gb136]? = some (.cells #[(.slice A0_0 l0_0.length c0_0), (.slice A0_1 l0_1.length c0_1)] 25 (0, 0))) ∧ Aside0 (Below w.heap.size w w'))
 case atStart => exact ⟨(0), y7, H', ⟨Nat.le_refl _⟩, ⟨by (with_reducible repeat refine y4 ?_); exact BK136.out⟩, ⟨by repeat (first | (with_reducible first | exact HB.out | apply y3 | refine ys ?_ GE136.out) | exact HB.out)⟩⟩
 case round =>
  clear H'
  try clear c1
  try clear c2
  try clear c2b0
  try clear c2b1
  try clear p2
  try clear c5
  try clear c5b0
  try clear c5b1
  try clear hcz4_0
  try clear hcz4_1
  try clear hcz7_0
  try clear hcz7_1
  try clear hcz9_0
  try clear hcz9_1
  try clear hfz4_0
  try clear hfz4_1
  try clear hfz7_0
  try clear hfz7_1
  try clear hfz9_0
  try clear hfz9_1
  obtain ⟨x21_1, rfl, HA, HK1, BK136, HB⟩ := hrel
  cases gk with
  | zero => exact absurd HA.out (by simp [guide_Check.l0])
  | succ k1 =>
   have H := HA.out
   clear HA
   simp only [guide_Check.l0] at H
   by_cases c10 : x21_1 < (l0_1.length : Int)
   ·
    rw [if_pos c10] at H
    have c10b0 : decide (x21_1 < (l0_1.length : Int)) = true := decide_eq_true c10
    clear c10
    by_cases c11 : 0 ≤ x21_1
    ·
     rw [if_pos c11] at H
     have c11b0 : decide (0 ≤ x21_1) = true := decide_eq_true c11
     clear c11
     by_cases c12 : x21_1 < (l0_1.length : Int)
     ·
      rw [if_pos c12] at H
      have c12b0 : decide (x21_1 < (l0_1.length : Int)) = true := decide_eq_true c12
      clear c12
      have HC13 := ym H
      clear H
      have p141 : 0 ≤ (x21_1 : Int) := of_decide_eq_true y5
      have q141 : x21_1 < (l0_1.length : Int) := of_decide_eq_true y5
      obtain ⟨ad141, e141, hx141_0, hx141_1, hx141_2, hx141_3⟩ := at_T92 HR0_1.out x21_1 p141 q141
      cases e141
      replace hx141_0 := (HB.out.cell (World.block_lt_of_cell? w _ hx141_0)).trans hx141_0
      replace hx141_1 := (HB.out.cell (World.block_lt_of_cell? w _ hx141_1)).trans hx141_1
      replace hx141_2 := (HB.out.cell (World.block_lt_of_cell? w _ hx141_2)).trans hx141_2
      replace hx141_3 := (HB.out.cell (World.block_lt_of_cell? w _ hx141_3)).trans hx141_3
      replace p141 := eq_true p141
      replace q141 := eq_true q141
      go_upto_region 8 with (first | ((with_reducible refine gate_dst (N := 5) rfl ?_); refine box_event ?hg (N := 5) ?hd (cs := #[.int .i64 0, .int .u8 0, .int .u8 0, .int .i64 0]) (t := 92) ?hr ?_; (case hd => rfl); (case hg => rfl); (case hr => first | (go_simp; done) | (go_simp; rfl)); intro gb142 hg w14 hbox hb; have n0_ := ym (yq (g := gb136) (o := .cells #[.slice A0_0 l0_0.length c0_0, .slice (some ad141) l0_1.length c0_1] 25 (0, 0)) (yc BK136) hb); have n1_ := ym (yn yb hb); have n2_ := ym (hbox); have n3_ := ym ((by rw [hg]; exact (below_size yb) : w.heap.size ≤ gb142)); have n4_ := n3_; have n5_ := ym ((by rw [hg]; exact Nat.ne_of_lt (blk_lt (g := gb136) (o := .cells #[.slice A0_0 l0_0.length c0_0, .slice (some ad141) l0_1.length c0_1] 25 (0, 0)) (yc BK136)) : gb136 ≠ gb142)); have n6_ := ym ((by rw [hg]; exact Nat.ne_of_gt (blk_lt (g := gb136) (o := .cells #[.slice A0_0 l0_0.length c0_0, .slice (some ad141) l0_1.length c0_1] 25 (0, 0)) (yc BK136)) : gb142 ≠ gb136)); clear BK136; clear HB; have BK136 := n0_; have HB := n1_; have BK142 := n2_; have GW142 := n3_; have GE142 := n4_; have NB136_142 := n5_; have NB142_136 := n6_; clear n0_ n1_ n2_ n3_ n4_ n5_ n6_; clear hb hbox hg; have hnb15 := NB142_136.out; have hnc15 := NB136_142.out; have hcz16_0 : w14.cell? ⟨gb142, 0, none⟩ = some (.int .i64 0) := (yw BK142.out 0).trans rfl; have hcz16_1 : w14.cell? ⟨gb142, 1, none⟩ = some (.int .u8 0) := (yw BK142.out 1).trans rfl; have hcz16_2 : w14.cell? ⟨gb142, 2, none⟩ = some (.int .u8 0) := (yw BK142.out 2).trans rfl; have hcz16_3 : w14.cell? ⟨gb142, 3, none⟩ = some (.int .i64 0) := (yw BK142.out 3).trans rfl; have hfz16_0 := yv BK142.out 0; have hfz16_1 := yv BK142.out 1; have hfz16_2 := yv BK142.out 2; have hfz16_3 := yv BK142.out 3))
      (try simp only [Act.put, y0])
      go_cut [44] (fun v44 wc => ∃ (kq : Nat) (x44_12 : Bool), v44 = .bool x44_12 ∧ Aside0 (guide_Check.j1 kq x21_1 l0_1 (l0_1.length : Int) x21_1 x44_12 l0_0 l0_1 ((rd_T92 l0_1 x21_1).f0) ((rd_T92 l0_1 x21_1).f1) ((rd_T92 l0_1 x21_1).f2) ((rd_T92 l0_1 x21_1).f3) = some (r1, r2)) ∧ Aside0 (kq ≤ k1) ∧ Aside0 (wc.heap[gb136]? = some (.cells #[(.slice A0_0 l0_0.length c0_0), (.slice (some ad141) l0_1.length c0_1)] 25 (0, 0))) ∧ Aside0 (wc.heap[gb142]? = some (.cells #[.int .i64 ((rd_T92 l0_1 x21_1).f0), .int .u8 ((rd_T92 l0_1 x21_1).f1), .int .u8 ((rd_T92 l0_1 x21_1).f2), .int .i64 ((rd_T92 l0_1 x21_1).f3)] 92 (0, 0))) ∧ Aside0 (Below w.heap.size w wc))
      case first =>
       have H := HC13.out
       clear HC13
       replace H := Option.bind_eq_some_iff.mp H
       obtain ⟨t143, A170, H⟩ := H
       replace H : (if t143 = true then ((guide_isState.f l0_0 l0_1 ((rd_T92 l0_1 x21_1).f3)).bind fun t144 => (if t144 = true then (guide_Check.j1 k1 x21_1 l0_1 (l0_1.length : Int) x21_1 (decide (((rd_T92 l0_1 x21_1).f1) > ((rd_T92 l0_1 x21_1).f2))) l0_0 l0_1 ((rd_T92 l0_1 x21_1).f0) ((rd_T92 l0_1 x21_1).f1) ((rd_T92 l0_1 x21_1).f2) ((rd_T92 l0_1 x21_1).f3)) else (guide_Check.j1 k1 x21_1 l0_1 (l0_1.length : Int) x21_1 true l0_0 l0_1 ((rd_T92 l0_1 x21_1).f0) ((rd_T92 l0_1 x21_1).f1) ((rd_T92 l0_1 x21_1).f2) ((rd_T92 l0_1 x21_1).f3)))) else (guide_Check.j1 k1 x21_1 l0_1 (l0_1.length : Int) x21_1 true l0_0 l0_1 ((rd_T92 l0_1 x21_1).f0) ((rd_T92 l0_1 x21_1).f1) ((rd_T92 l0_1 x21_1).f2) ((rd_T92 l0_1 x21_1).f3))) = some (r1, r2) := H
       have A17 := ym A170
       clear A170
       by_cases c18 : t143 = true
       ·
        subst c18
        have H1 : ((guide_isState.f l0_0 l0_1 ((rd_T92 l0_1 x21_1).f3)).bind fun t144 => (if t144 = true then (guide_Check.j1 k1 x21_1 l0_1 (l0_1.length : Int) x21_1 (decide (((rd_T92 l0_1 x21_1).f1) > ((rd_T92 l0_1 x21_1).f2))) l0_0 l0_1 ((rd_T92 l0_1 x21_1).f0) ((rd_T92 l0_1 x21_1).f1) ((rd_T92 l0_1 x21_1).f2) ((rd_T92 l0_1 x21_1).f3)) else (guide_Check.j1 k1 x21_1 l0_1 (l0_1.length : Int) x21_1 true l0_0 l0_1 ((rd_T92 l0_1 x21_1).f0) ((rd_T92 l0_1 x21_1).f1) ((rd_T92 l0_1 x21_1).f2) ((rd_T92 l0_1 x21_1).f3)))) = some (r1, r2) := by rw [if_pos rfl] at H; exact H
        clear H
        have H := H1
        clear H1
        replace H := Option.bind_eq_some_iff.mp H
        obtain ⟨t144, A190, H⟩ := H
        replace H : (if t144 = true then (guide_Check.j1 k1 x21_1 l0_1 (l0_1.length : Int) x21_1 (decide (((rd_T92 l0_1 x21_1).f1) > ((rd_T92 l0_1 x21_1).f2))) l0_0 l0_1 ((rd_T92 l0_1 x21_1).f0) ((rd_T92 l0_1 x21_1).f1) ((rd_T92 l0_1 x21_1).f2) ((rd_T92 l0_1 x21_1).f3)) else (guide_Check.j1 k1 x21_1 l0_1 (l0_1.length : Int) x21_1 true l0_0 l0_1 ((rd_T92 l0_1 x21_1).f0) ((rd_T92 l0_1 x21_1).f1) ((rd_T92 l0_1 x21_1).f2) ((rd_T92 l0_1 x21_1).f3))) = some (r1, r2) := H
        have A19 := ym A190
        clear A190
        by_cases c20 : t144 = true
        ·
         subst c20
         have H1 : (guide_Check.j1 k1 x21_1 l0_1 (l0_1.length : Int) x21_1 (decide (((rd_T92 l0_1 x21_1).f1) > ((rd_T92 l0_1 x21_1).f2))) l0_0 l0_1 ((rd_T92 l0_1 x21_1).f0) ((rd_T92 l0_1 x21_1).f1) ((rd_T92 l0_1 x21_1).f2) ((rd_T92 l0_1 x21_1).f3)) = some (r1, r2) := by rw [if_pos rfl] at H; exact H
         clear H
         have H := H1
         clear H1
         have H' := ym H
         clear H
         have hnb21 := NB136_142.out
         have hnc21 := NB142_136.out
         have hcz22_0 : w14.cell? ⟨gb136, 0, none⟩ = some (.slice A0_0 l0_0.length c0_0) := (yw BK136.out 0).trans rfl
         have hcz22_1 : w14.cell? ⟨gb136, 1, none⟩ = some (.slice (some ad141) l0_1.length c0_1) := (yw BK136.out 1).trans rfl
         have hfz22_0 := yv BK136.out 0
         have hfz22_1 := yv BK136.out 1
         have hcz23_0 : w14.cell? ⟨gb142, 0, none⟩ = some (.int .i64 0) := (yw BK142.out 0).trans rfl
         have hcz23_1 : w14.cell? ⟨gb142, 1, none⟩ = some (.int .u8 0) := (yw BK142.out 1).trans rfl
         have hcz23_2 : w14.cell? ⟨gb142, 2, none⟩ = some (.int .u8 0) := (yw BK142.out 2).trans rfl
         have hcz23_3 : w14.cell? ⟨gb142, 3, none⟩ = some (.int .i64 0) := (yw BK142.out 3).trans rfl
         have hfz23_0 := yv BK142.out 0
         have hfz23_1 := yv BK142.out 1
         have hfz23_2 := yv BK142.out 2
         have hfz23_3 := yv BK142.out 3
         go_wp2_with (first | ((with_reducible refine gate_callee (f := 50) rfl ?_); refine goesL_ (some 29) rfl rfl Try.func50 (by kernel_rfl) rfl #[.agg #[.slice A0_0 l0_0.length c0_0, .slice (some ad141) l0_1.length c0_1], .int .i64 ((rd_T92 l0_1 x21_1).f0)] rfl y6 ?_; (with_reducible refine (guide_isState.calls _ _ l0_0 _ _ l0_1 ((rd_T92 l0_1 x21_1).f0) true _ ?side1 ?side2 ?side3 ?side4 A17.out).mono ?_); (case side1 => exact Kd.C_below HR0_0.out yb); (case side2 => exact HC0_0.out); (case side3 => exact Kd.C_below HR0_1.out yb); (case side4 => exact HC0_1.out); rintro e w24 ⟨rfl, hb⟩; refine ⟨_, rfl, ?_⟩; have n0_ := ym (yq (g := gb136) (o := .cells #[.slice A0_0 l0_0.length c0_0, .slice (some ad141) l0_1.length c0_1] 25 (0, 0)) (by (with_reducible repeat refine y4 ?_); refine yx ?_ NB136_142.out _; (with_reducible repeat refine y4 ?_); refine yx ?_ NB136_142.out _; (with_reducible repeat refine y4 ?_); refine yx ?_ NB136_142.out _; (with_reducible repeat refine y4 ?_); refine yx ?_ NB136_142.out _; (with_reducible repeat refine y4 ?_); exact BK136.out) hb); have n1_ := ym (yq (g := gb142) (o := .cells #[.int .i64 ((rd_T92 l0_1 x21_1).f0), .int .u8 ((rd_T92 l0_1 x21_1).f1), .int .u8 ((rd_T92 l0_1 x21_1).f2), .int .i64 ((rd_T92 l0_1 x21_1).f3)] 92 (0, 0)) (by (with_reducible repeat refine y4 ?_); refine yy (cs := #[.int .i64 ((rd_T92 l0_1 x21_1).f0), .int .u8 ((rd_T92 l0_1 x21_1).f1), .int .u8 ((rd_T92 l0_1 x21_1).f2), .int .i64 0]) ?_ 3 _ rfl; (with_reducible repeat refine y4 ?_); refine yy (cs := #[.int .i64 ((rd_T92 l0_1 x21_1).f0), .int .u8 ((rd_T92 l0_1 x21_1).f1), .int .u8 0, .int .i64 0]) ?_ 2 _ rfl; (with_reducible repeat refine y4 ?_); refine yy (cs := #[.int .i64 ((rd_T92 l0_1 x21_1).f0), .int .u8 0, .int .u8 0, .int .i64 0]) ?_ 1 _ rfl; (with_reducible repeat refine y4 ?_); refine yy (cs := #[.int .i64 0, .int .u8 0, .int .u8 0, .int .i64 0]) ?_ 0 _ rfl; (with_reducible repeat refine y4 ?_); exact BK142.out) hb); have n2_ := ym (yn yb hb); clear BK136; clear BK142; clear HB; have BK136 := n0_; have BK142 := n1_; have HB := n2_; clear n0_ n1_ n2_; (try clear hb); (try clear hb2); (try clear hk); (try clear hi); have hcz25_0 : w24.cell? ⟨gb136, 0, none⟩ = some (.slice A0_0 l0_0.length c0_0) := (yw BK136.out 0).trans rfl; have hcz25_1 : w24.cell? ⟨gb136, 1, none⟩ = some (.slice (some ad141) l0_1.length c0_1) := (yw BK136.out 1).trans rfl; have hfz25_0 := yv BK136.out 0; have hfz25_1 := yv BK136.out 1; have hcz26_0 : w24.cell? ⟨gb142, 0, none⟩ = some (.int .i64 ((rd_T92 l0_1 x21_1).f0)) := (yw BK142.out 0).trans rfl; have hcz26_1 : w24.cell? ⟨gb142, 1, none⟩ = some (.int .u8 ((rd_T92 l0_1 x21_1).f1)) := (yw BK142.out 1).trans rfl; have hcz26_2 : w24.cell? ⟨gb142, 2, none⟩ = some (.int .u8 ((rd_T92 l0_1 x21_1).f2)) := (yw BK142.out 2).trans rfl; have hcz26_3 : w24.cell? ⟨gb142, 3, none⟩ = some (.int .i64 ((rd_T92 l0_1 x21_1).f3)) := (yw BK142.out 3).trans rfl; have hfz26_0 := yv BK142.out 0; have hfz26_1 := yv BK142.out 1; have hfz26_2 := yv BK142.out 2; have hfz26_3 := yv BK142.out 3) | (go_at_call 50; (with_reducible refine (guide_isState.calls _ _ l0_0 _ _ l0_1 ((rd_T92 l0_1 x21_1).f3) true _ ?side1 ?side2 ?side3 ?side4 A19.out).mono ?_); (case side1 => exact y9 HR0_0); (case side2 => exact HC0_0.out); (case side3 => exact y9 HR0_1); (case side4 => exact HC0_1.out); rintro e w27 ⟨rfl, hb⟩; have n0_ := ym (yq (g := gb136) (o := .cells #[.slice A0_0 l0_0.length c0_0, .slice (some ad141) l0_1.length c0_1] 25 (0, 0)) (yc BK136) hb); have n1_ := ym (yq (g := gb142) (o := .cells #[.int .i64 ((rd_T92 l0_1 x21_1).f0), .int .u8 ((rd_T92 l0_1 x21_1).f1), .int .u8 ((rd_T92 l0_1 x21_1).f2), .int .i64 ((rd_T92 l0_1 x21_1).f3)] 92 (0, 0)) (yc BK142) hb); have n2_ := ym (yn yb hb); clear BK136; clear BK142; clear HB; have BK136 := n0_; have BK142 := n1_; have HB := n2_; clear n0_ n1_ n2_; (try clear hb); (try clear hb2); (try clear hk); (try clear hi); have hcz28_0 : w27.cell? ⟨gb142, 0, none⟩ = some (.int .i64 ((rd_T92 l0_1 x21_1).f0)) := (yw BK142.out 0).trans rfl; have hcz28_1 : w27.cell? ⟨gb142, 1, none⟩ = some (.int .u8 ((rd_T92 l0_1 x21_1).f1)) := (yw BK142.out 1).trans rfl; have hcz28_2 : w27.cell? ⟨gb142, 2, none⟩ = some (.int .u8 ((rd_T92 l0_1 x21_1).f2)) := (yw BK142.out 2).trans rfl; have hcz28_3 : w27.cell? ⟨gb142, 3, none⟩ = some (.int .i64 ((rd_T92 l0_1 x21_1).f3)) := (yw BK142.out 3).trans rfl; have hfz28_0 := yv BK142.out 0; have hfz28_1 := yv BK142.out 1; have hfz28_2 := yv BK142.out 2; have hfz28_3 := yv BK142.out 3))
         go_meet
         case rel => exact ⟨_, (decide (((rd_T92 l0_1 x21_1).f1) > ((rd_T92 l0_1 x21_1).f2))), y7, H', ⟨by have := HK1.out; first | omega | exact Nat.le_refl _⟩, ⟨by (with_reducible repeat refine y4 ?_); exact BK136.out⟩, ⟨by (with_reducible repeat refine y4 ?_); exact BK142.out⟩, ⟨by repeat (first | (with_reducible first | exact HB.out | apply y3 | refine ys ?_ GE136.out | refine ys ?_ GE142.out) | exact HB.out)⟩⟩
        replace c20 := Bool.eq_false_iff.mpr c20
        subst c20
        have H1 : (guide_Check.j1 k1 x21_1 l0_1 (l0_1.length : Int) x21_1 true l0_0 l0_1 ((rd_T92 l0_1 x21_1).f0) ((rd_T92 l0_1 x21_1).f1) ((rd_T92 l0_1 x21_1).f2) ((rd_T92 l0_1 x21_1).f3)) = some (r1, r2) := by rw [if_neg (show ¬ (false = true) by decide)] at H; exact H
        clear H
        have H := H1
        clear H1
        have H' := ym H
        clear H
        have hnb29 := NB136_142.out
        have hnc29 := NB142_136.out
        have hcz30_0 : w14.cell? ⟨gb136, 0, none⟩ = some (.slice A0_0 l0_0.length c0_0) := (yw BK136.out 0).trans rfl
        have hcz30_1 : w14.cell? ⟨gb136, 1, none⟩ = some (.slice (some ad141) l0_1.length c0_1) := (yw BK136.out 1).trans rfl
        have hfz30_0 := yv BK136.out 0
        have hfz30_1 := yv BK136.out 1
        have hcz31_0 : w14.cell? ⟨gb142, 0, none⟩ = some (.int .i64 0) := (yw BK142.out 0).trans rfl
        have hcz31_1 : w14.cell? ⟨gb142, 1, none⟩ = some (.int .u8 0) := (yw BK142.out 1).trans rfl
        have hcz31_2 : w14.cell? ⟨gb142, 2, none⟩ = some (.int .u8 0) := (yw BK142.out 2).trans rfl
        have hcz31_3 : w14.cell? ⟨gb142, 3, none⟩ = some (.int .i64 0) := (yw BK142.out 3).trans rfl
        have hfz31_0 := yv BK142.out 0
        have hfz31_1 := yv BK142.out 1
        have hfz31_2 := yv BK142.out 2
        have hfz31_3 := yv BK142.out 3
        go_wp2_with (first | ((with_reducible refine gate_callee (f := 50) rfl ?_); refine goesL_ (some 29) rfl rfl Try.func50 (by kernel_rfl) rfl #[.agg #[.slice A0_0 l0_0.length c0_0, .slice (some ad141) l0_1.length c0_1], .int .i64 ((rd_T92 l0_1 x21_1).f0)] rfl y6 ?_; (with_reducible refine (guide_isState.calls _ _ l0_0 _ _ l0_1 ((rd_T92 l0_1 x21_1).f0) true _ ?side1 ?side2 ?side3 ?side4 A17.out).mono ?_); (case side1 => exact Kd.C_below HR0_0.out yb); (case side2 => exact HC0_0.out); (case side3 => exact Kd.C_below HR0_1.out yb); (case side4 => exact HC0_1.out); rintro e w32 ⟨rfl, hb⟩; refine ⟨_, rfl, ?_⟩; have n0_ := ym (yq (g := gb136) (o := .cells #[.slice A0_0 l0_0.length c0_0, .slice (some ad141) l0_1.length c0_1] 25 (0, 0)) (by (with_reducible repeat refine y4 ?_); refine yx ?_ NB136_142.out _; (with_reducible repeat refine y4 ?_); refine yx ?_ NB136_142.out _; (with_reducible repeat refine y4 ?_); refine yx ?_ NB136_142.out _; (with_reducible repeat refine y4 ?_); refine yx ?_ NB136_142.out _; (with_reducible repeat refine y4 ?_); exact BK136.out) hb); have n1_ := ym (yq (g := gb142) (o := .cells #[.int .i64 ((rd_T92 l0_1 x21_1).f0), .int .u8 ((rd_T92 l0_1 x21_1).f1), .int .u8 ((rd_T92 l0_1 x21_1).f2), .int .i64 ((rd_T92 l0_1 x21_1).f3)] 92 (0, 0)) (by (with_reducible repeat refine y4 ?_); refine yy (cs := #[.int .i64 ((rd_T92 l0_1 x21_1).f0), .int .u8 ((rd_T92 l0_1 x21_1).f1), .int .u8 ((rd_T92 l0_1 x21_1).f2), .int .i64 0]) ?_ 3 _ rfl; (with_reducible repeat refine y4 ?_); refine yy (cs := #[.int .i64 ((rd_T92 l0_1 x21_1).f0), .int .u8 ((rd_T92 l0_1 x21_1).f1), .int .u8 0, .int .i64 0]) ?_ 2 _ rfl; (with_reducible repeat refine y4 ?_); refine yy (cs := #[.int .i64 ((rd_T92 l0_1 x21_1).f0), .int .u8 0, .int .u8 0, .int .i64 0]) ?_ 1 _ rfl; (with_reducible repeat refine y4 ?_); refine yy (cs := #[.int .i64 0, .int .u8 0, .int .u8 0, .int .i64 0]) ?_ 0 _ rfl; (with_reducible repeat refine y4 ?_); exact BK142.out) hb); have n2_ := ym (yn yb hb); clear BK136; clear BK142; clear HB; have BK136 := n0_; have BK142 := n1_; have HB := n2_; clear n0_ n1_ n2_; (try clear hb); (try clear hb2); (try clear hk); (try clear hi); have hcz33_0 : w32.cell? ⟨gb136, 0, none⟩ = some (.slice A0_0 l0_0.length c0_0) := (yw BK136.out 0).trans rfl; have hcz33_1 : w32.cell? ⟨gb136, 1, none⟩ = some (.slice (some ad141) l0_1.length c0_1) := (yw BK136.out 1).trans rfl; have hfz33_0 := yv BK136.out 0; have hfz33_1 := yv BK136.out 1; have hcz34_0 : w32.cell? ⟨gb142, 0, none⟩ = some (.int .i64 ((rd_T92 l0_1 x21_1).f0)) := (yw BK142.out 0).trans rfl; have hcz34_1 : w32.cell? ⟨gb142, 1, none⟩ = some (.int .u8 ((rd_T92 l0_1 x21_1).f1)) := (yw BK142.out 1).trans rfl; have hcz34_2 : w32.cell? ⟨gb142, 2, none⟩ = some (.int .u8 ((rd_T92 l0_1 x21_1).f2)) := (yw BK142.out 2).trans rfl; have hcz34_3 : w32.cell? ⟨gb142, 3, none⟩ = some (.int .i64 ((rd_T92 l0_1 x21_1).f3)) := (yw BK142.out 3).trans rfl; have hfz34_0 := yv BK142.out 0; have hfz34_1 := yv BK142.out 1; have hfz34_2 := yv BK142.out 2; have hfz34_3 := yv BK142.out 3) | (go_at_call 50; (with_reducible refine (guide_isState.calls _ _ l0_0 _ _ l0_1 ((rd_T92 l0_1 x21_1).f3) false _ ?side1 ?side2 ?side3 ?side4 A19.out).mono ?_); (case side1 => exact y9 HR0_0); (case side2 => exact HC0_0.out); (case side3 => exact y9 HR0_1); (case side4 => exact HC0_1.out); rintro e w35 ⟨rfl, hb⟩; have n0_ := ym (yq (g := gb136) (o := .cells #[.slice A0_0 l0_0.length c0_0, .slice (some ad141) l0_1.length c0_1] 25 (0, 0)) (yc BK136) hb); have n1_ := ym (yq (g := gb142) (o := .cells #[.int .i64 ((rd_T92 l0_1 x21_1).f0), .int .u8 ((rd_T92 l0_1 x21_1).f1), .int .u8 ((rd_T92 l0_1 x21_1).f2), .int .i64 ((rd_T92 l0_1 x21_1).f3)] 92 (0, 0)) (yc BK142) hb); have n2_ := ym (yn yb hb); clear BK136; clear BK142; clear HB; have BK136 := n0_; have BK142 := n1_; have HB := n2_; clear n0_ n1_ n2_; (try clear hb); (try clear hb2); (try clear hk); (try clear hi)))
        go_meet
        case rel => exact ⟨_, (true), y7, H', ⟨by have := HK1.out; first | omega | exact Nat.le_refl _⟩, ⟨by (with_reducible repeat refine y4 ?_); exact BK136.out⟩, ⟨by (with_reducible repeat refine y4 ?_); exact BK142.out⟩, ⟨by repeat (first | (with_reducible first | exact HB.out | apply y3 | refine ys ?_ GE136.out | refine ys ?_ GE142.out) | exact HB.out)⟩⟩
       replace c18 := Bool.eq_false_iff.mpr c18
       subst c18
       have H1 : (guide_Check.j1 k1 x21_1 l0_1 (l0_1.length : Int) x21_1 true l0_0 l0_1 ((rd_T92 l0_1 x21_1).f0) ((rd_T92 l0_1 x21_1).f1) ((rd_T92 l0_1 x21_1).f2) ((rd_T92 l0_1 x21_1).f3)) = some (r1, r2) := by rw [if_neg (show ¬ (false = true) by decide)] at H; exact H
       clear H
       have H := H1
       clear H1
       have H' := ym H
       clear H
       have hnb36 := NB136_142.out
       have hnc36 := NB142_136.out
       have hcz37_0 : w14.cell? ⟨gb136, 0, none⟩ = some (.slice A0_0 l0_0.length c0_0) := (yw BK136.out 0).trans rfl
       have hcz37_1 : w14.cell? ⟨gb136, 1, none⟩ = some (.slice (some ad141) l0_1.length c0_1) := (yw BK136.out 1).trans rfl
       have hfz37_0 := yv BK136.out 0
       have hfz37_1 := yv BK136.out 1
       have hcz38_0 : w14.cell? ⟨gb142, 0, none⟩ = some (.int .i64 0) := (yw BK142.out 0).trans rfl
       have hcz38_1 : w14.cell? ⟨gb142, 1, none⟩ = some (.int .u8 0) := (yw BK142.out 1).trans rfl
       have hcz38_2 : w14.cell? ⟨gb142, 2, none⟩ = some (.int .u8 0) := (yw BK142.out 2).trans rfl
       have hcz38_3 : w14.cell? ⟨gb142, 3, none⟩ = some (.int .i64 0) := (yw BK142.out 3).trans rfl
       have hfz38_0 := yv BK142.out 0
       have hfz38_1 := yv BK142.out 1
       have hfz38_2 := yv BK142.out 2
       have hfz38_3 := yv BK142.out 3
       go_wp2_with (first | ((with_reducible refine gate_callee (f := 50) rfl ?_); refine goesL_ (some 29) rfl rfl Try.func50 (by kernel_rfl) rfl #[.agg #[.slice A0_0 l0_0.length c0_0, .slice (some ad141) l0_1.length c0_1], .int .i64 ((rd_T92 l0_1 x21_1).f0)] rfl y6 ?_; (with_reducible refine (guide_isState.calls _ _ l0_0 _ _ l0_1 ((rd_T92 l0_1 x21_1).f0) false _ ?side1 ?side2 ?side3 ?side4 A17.out).mono ?_); (case side1 => exact Kd.C_below HR0_0.out yb); (case side2 => exact HC0_0.out); (case side3 => exact Kd.C_below HR0_1.out yb); (case side4 => exact HC0_1.out); rintro e w39 ⟨rfl, hb⟩; refine ⟨_, rfl, ?_⟩; have n0_ := ym (yq (g := gb136) (o := .cells #[.slice A0_0 l0_0.length c0_0, .slice (some ad141) l0_1.length c0_1] 25 (0, 0)) (by (with_reducible repeat refine y4 ?_); refine yx ?_ NB136_142.out _; (with_reducible repeat refine y4 ?_); refine yx ?_ NB136_142.out _; (with_reducible repeat refine y4 ?_); refine yx ?_ NB136_142.out _; (with_reducible repeat refine y4 ?_); refine yx ?_ NB136_142.out _; (with_reducible repeat refine y4 ?_); exact BK136.out) hb); have n1_ := ym (yq (g := gb142) (o := .cells #[.int .i64 ((rd_T92 l0_1 x21_1).f0), .int .u8 ((rd_T92 l0_1 x21_1).f1), .int .u8 ((rd_T92 l0_1 x21_1).f2), .int .i64 ((rd_T92 l0_1 x21_1).f3)] 92 (0, 0)) (by (with_reducible repeat refine y4 ?_); refine yy (cs := #[.int .i64 ((rd_T92 l0_1 x21_1).f0), .int .u8 ((rd_T92 l0_1 x21_1).f1), .int .u8 ((rd_T92 l0_1 x21_1).f2), .int .i64 0]) ?_ 3 _ rfl; (with_reducible repeat refine y4 ?_); refine yy (cs := #[.int .i64 ((rd_T92 l0_1 x21_1).f0), .int .u8 ((rd_T92 l0_1 x21_1).f1), .int .u8 0, .int .i64 0]) ?_ 2 _ rfl; (with_reducible repeat refine y4 ?_); refine yy (cs := #[.int .i64 ((rd_T92 l0_1 x21_1).f0), .int .u8 0, .int .u8 0, .int .i64 0]) ?_ 1 _ rfl; (with_reducible repeat refine y4 ?_); refine yy (cs := #[.int .i64 0, .int .u8 0, .int .u8 0, .int .i64 0]) ?_ 0 _ rfl; (with_reducible repeat refine y4 ?_); exact BK142.out) hb); have n2_ := ym (yn yb hb); clear BK136; clear BK142; clear HB; have BK136 := n0_; have BK142 := n1_; have HB := n2_; clear n0_ n1_ n2_; (try clear hb); (try clear hb2); (try clear hk); (try clear hi)))
       go_meet
       case rel => exact ⟨_, (true), y7, H', ⟨by have := HK1.out; first | omega | exact Nat.le_refl _⟩, ⟨by (with_reducible repeat refine y4 ?_); exact BK136.out⟩, ⟨by (with_reducible repeat refine y4 ?_); exact BK142.out⟩, ⟨by repeat (first | (with_reducible first | exact HB.out | apply y3 | refine ys ?_ GE136.out | refine ys ?_ GE142.out) | exact HB.out)⟩⟩
      case rest =>
       clear HC13
       try clear c1
       try clear p1
       try clear q1
       try clear hx1
       try clear c2
       try clear c2b0
       try clear c2b1
       try clear p2
       try clear c3
       try clear c5
       try clear c5b0
       try clear c5b1
       try clear c10
       try clear c10b0
       try clear c11
       try clear c11b0
       try clear c12
       try clear c12b0
       try clear p14
       try clear q14
       try clear hx14
       try clear c15
       try clear c18
       try clear c19
       try clear c20
       try clear c21
       try clear c29
       try clear c36
       try clear hcz16_0
       try clear hcz16_1
       try clear hcz16_2
       try clear hcz16_3
       try clear hcz22_0
       try clear hcz22_1
       try clear hcz23_0
       try clear hcz23_1
       try clear hcz23_2
       try clear hcz23_3
       try clear hcz25_0
       try clear hcz25_1
       try clear hcz26_0
       try clear hcz26_1
       try clear hcz26_2
       try clear hcz26_3
       try clear hcz28_0
       try clear hcz28_1
       try clear hcz28_2
       try clear hcz28_3
       try clear hcz30_0
       try clear hcz30_1
       try clear hcz31_0
       try clear hcz31_1
       try clear hcz31_2
       try clear hcz31_3
       try clear hcz33_0
       try clear hcz33_1
       try clear hcz34_0
       try clear hcz34_1
       try clear hcz34_2
       try clear hcz34_3
       try clear hcz37_0
       try clear hcz37_1
       try clear hcz38_0
       try clear hcz38_1
       try clear hcz38_2
       try clear hcz38_3
       try clear hcz4_0
       try clear hcz4_1
       try clear hcz7_0
       try clear hcz7_1
       try clear hcz9_0
       try clear hcz9_1
       try clear hfz16_0
       try clear hfz16_1
       try clear hfz16_2
       try clear hfz16_3
       try clear hfz22_0
       try clear hfz22_1
       try clear hfz23_0
       try clear hfz23_1
       try clear hfz23_2
       try clear hfz23_3
       try clear hfz25_0
       try clear hfz25_1
       try clear hfz26_0
       try clear hfz26_1
       try clear hfz26_2
       try clear hfz26_3
       try clear hfz28_0
       try clear hfz28_1
       try clear hfz28_2
       try clear hfz28_3
       try clear hfz30_0
       try clear hfz30_1
       try clear hfz31_0
       try clear hfz31_1
       try clear hfz31_2
       try clear hfz31_3
       try clear hfz33_0
       try clear hfz33_1
       try clear hfz34_0
       try clear hfz34_1
       try clear hfz34_2
       try clear hfz34_3
       try clear hfz37_0
       try clear hfz37_1
       try clear hfz38_0
       try clear hfz38_1
       try clear hfz38_2
       try clear hfz38_3
       try clear hfz4_0
       try clear hfz4_1
       try clear hfz7_0
       try clear hfz7_1
       try clear hfz9_0
       try clear hfz9_1
       try clear hx141_0
       try clear hx141_1
       try clear hx141_2
       try clear hx141_3
       try clear p141
       try clear p2
       try clear q141
       obtain ⟨kq, x44_12, rfl, HA, HJ12, BK136, BK142, HB⟩ := hcut
       cases kq with
       | zero => exact absurd HA.out (by simp [guide_Check.j1])
       | succ kj12 =>
        have H := HA.out
        clear HA
        simp only [guide_Check.j1] at H
        by_cases c40 : x44_12 = true
        ·
         subst c40
         have H1 : (some (x21_1, 151)) = some (r1, r2) := by rw [if_pos rfl] at H; exact H
         clear H
         have H := H1
         clear H1
         simp only [Option.some.injEq, Prod.mk.injEq] at H
         obtain ⟨rfl, rfl⟩ := H
         go_wp2
         go_ret2
         exact ⟨by first | rfl | (simp [errW_none, errW_some] <;> rfl) | (simp [*, errW_none, errW_some] <;> rfl), by repeat (first | (with_reducible first | exact HB.out | apply y3 | refine ys ?_ GE136.out | refine ys ?_ GE142.out) | exact HB.out)⟩
        replace c40 := Bool.eq_false_iff.mpr c40
        subst c40
        have H1 : (if 0 ≤ x21_1 then (if x21_1 ≤ (l0_1.length : Int) then ((some (l0_1.take (x21_1 : Int).toNat : List (S92))).bind fun y145 => (guide_Check.l1 kj12 x21_1 l0_1 (l0_1.length : Int) x21_1 y145 (y145.length : Int) 0 l0_0 l0_1 ((rd_T92 l0_1 x21_1).f0) ((rd_T92 l0_1 x21_1).f1) ((rd_T92 l0_1 x21_1).f2) ((rd_T92 l0_1 x21_1).f3))) else (none)) else (none)) = some (r1, r2) := by rw [if_neg (show ¬ (false = true) by decide)] at H; exact H
        clear H
        have H := H1
        clear H1
        by_cases c41 : 0 ≤ x21_1
        ·
         rw [if_pos c41] at H
         have c41b0 := eq_true c41
         have c41b1 : decide (0 ≤ x21_1) = true := decide_eq_true c41
         clear c41
         by_cases c42 : x21_1 ≤ (l0_1.length : Int)
         ·
          rw [if_pos c42] at H
          have c42b0 := eq_true c42
          have c42b1 : decide (x21_1 ≤ (l0_1.length : Int)) = true := decide_eq_true c42
          clear c42
          obtain ⟨y145, hy145⟩ : ∃ y_ : List (S92), y_ = (l0_1.take (x21_1 : Int).toNat) := ⟨_, rfl⟩
          replace H : (guide_Check.l1 kj12 x21_1 l0_1 (l0_1.length : Int) x21_1 y145 (y145.length : Int) 0 l0_0 l0_1 ((rd_T92 l0_1 x21_1).f0) ((rd_T92 l0_1 x21_1).f1) ((rd_T92 l0_1 x21_1).f2) ((rd_T92 l0_1 x21_1).f3)) = some (r1, r2) := by first | (rw [hy145]; with_reducible exact H) | (have H2_ := (Option.bind_some _ _).symm.trans H; rw [hy145]; with_reducible exact H2_) | (have H2_ := (Option.bind_some _ _).symm.trans H; with_reducible exact H2_) | with_reducible exact H | (rw [hy145]; exact H) | exact H
          have Ny145 := ym hy145
          clear hy145
          have H' := ym H
          clear H
          have hnb43 := NB136_142.out
          have hnc43 := NB142_136.out
          have hcz44_0 : wc.cell? ⟨gb136, 0, none⟩ = some (.slice A0_0 l0_0.length c0_0) := (yw BK136.out 0).trans rfl
          have hcz44_1 : wc.cell? ⟨gb136, 1, none⟩ = some (.slice (some ad141) l0_1.length c0_1) := (yw BK136.out 1).trans rfl
          have hfz44_0 := yv BK136.out 0
          have hfz44_1 := yv BK136.out 1
          have q45 : (x21_1 : Int) ≤ ((l0_1.length : Int) : Int) := of_decide_eq_true y5
          obtain ⟨i045, hi045, _, hsz45, _⟩ := info_parts info92
          have hroom45 : l0_1.length ≤ c0_1 := HC0_1.out
          have hC45 : Kd.C k92 _ (some ad141) l0_1.length l0_1 := HR0_1.out
          have hcut45 := cut_to (P := Try.prog) 23 92 .i64 Try.underlying23 hi045 (some ad141) l0_1.length c0_1 x21_1 (of_decide_eq_true y5) q45 hroom45
          have hr45 := Kd.C_take (m := (x21_1 : Int).toNat) hC45 (by omega)
          have hy45 : y145.length = (x21_1 : Int).toNat := (by rw [Ny145.out, List.length_take]; omega)
          rw [← Ny145.out] at hr45
          rw [← hy45] at hcut45
          have HR148 := ym hr45
          have HC148 := ym (show y145.length ≤ c0_1 from by omega)
          clear hr45 hC45 hroom45 hi045 hsz45
          have KY45 := ym hy45
          clear hy45
          replace q45 := eq_true q45
          go_wp2
          go_loopg [51] kj12 (fun kq v51 w' => ∃ (x51_3 : Int), v51 = .int .i64 x51_3 ∧ Aside0 (guide_Check.l1 kq x21_1 l0_1 (l0_1.length : Int) x21_1 y145 (y145.length : Int) x51_3 l0_0 l0_1 ((rd_T92 l0_1 x21_1).f0) ((rd_T92 l0_1 x21_1).f1) ((rd_T92 l0_1 x21_1).f2) ((rd_T92 l0_1 x21_1).f3) = some (r1, r2)) ∧ Aside0 (kq ≤ kj12) ∧ Aside0 (w'.heap[gb136]? = some (.cells #[(.slice A0_0 l0_0.length c0_0), (.slice (some ad141) l0_1.length c0_1)] 25 (0, 0))) ∧ Aside0 (w'.heap[gb142]? = some (.cells #[.int .i64 ((rd_T92 l0_1 x21_1).f0), .int .u8 ((rd_T92 l0_1 x21_1).f1), .int .u8 ((rd_T92 l0_1 x21_1).f2), .int .i64 ((rd_T92 l0_1 x21_1).f3)] 92 (0, 0))) ∧ Aside0 (Below w.heap.size w w'))
          case atStart => exact ⟨(0), y7, H', ⟨Nat.le_refl _⟩, ⟨by (with_reducible repeat refine y4 ?_); exact BK136.out⟩, ⟨by (with_reducible repeat refine y4 ?_); exact BK142.out⟩, ⟨by repeat (first | (with_reducible first | exact HB.out | apply y3 | refine ys ?_ GE136.out | refine ys ?_ GE142.out) | exact HB.out)⟩⟩
          case round =>
           clear H'
           try clear c1
           try clear p1
           try clear q1
           try clear hx1
           try clear c2
           try clear c2b0
           try clear c2b1
           try clear p2
           try clear c3
           try clear c4
           try clear q4
           try clear c5
           try clear c5b0
           try clear c5b1
           try clear c10
           try clear c10b0
           try clear c11
           try clear c11b0
           try clear c12
           try clear c12b0
           try clear p14
           try clear q14
           try clear hx14
           try clear c15
           try clear c18
           try clear c19
           try clear c20
           try clear c21
           try clear c29
           try clear c36
           try clear c40
           try clear c41
           try clear c41b0
           try clear c41b1
           try clear c42
           try clear c42b0
           try clear c42b1
           try clear c43
           try clear q45
           try clear hcz16_0
           try clear hcz16_1
           try clear hcz16_2
           try clear hcz16_3
           try clear hcz22_0
           try clear hcz22_1
           try clear hcz23_0
           try clear hcz23_1
           try clear hcz23_2
           try clear hcz23_3
           try clear hcz25_0
           try clear hcz25_1
           try clear hcz26_0
           try clear hcz26_1
           try clear hcz26_2
           try clear hcz26_3
           try clear hcz28_0
           try clear hcz28_1
           try clear hcz28_2
           try clear hcz28_3
           try clear hcz30_0
           try clear hcz30_1
           try clear hcz31_0
           try clear hcz31_1
           try clear hcz31_2
           try clear hcz31_3
           try clear hcz33_0
           try clear hcz33_1
           try clear hcz34_0
           try clear hcz34_1
           try clear hcz34_2
           try clear hcz34_3
           try clear hcz37_0
           try clear hcz37_1
           try clear hcz38_0
           try clear hcz38_1
           try clear hcz38_2
           try clear hcz38_3
           try clear hcz44_0
           try clear hcz44_1
           try clear hcz4_0
           try clear hcz4_1
           try clear hcz7_0
           try clear hcz7_1
           try clear hcz9_0
           try clear hcz9_1
           try clear hfz16_0
           try clear hfz16_1
           try clear hfz16_2
           try clear hfz16_3
           try clear hfz22_0
           try clear hfz22_1
           try clear hfz23_0
           try clear hfz23_1
           try clear hfz23_2
           try clear hfz23_3
           try clear hfz25_0
           try clear hfz25_1
           try clear hfz26_0
           try clear hfz26_1
           try clear hfz26_2
           try clear hfz26_3
           try clear hfz28_0
           try clear hfz28_1
           try clear hfz28_2
           try clear hfz28_3
           try clear hfz30_0
           try clear hfz30_1
           try clear hfz31_0
           try clear hfz31_1
           try clear hfz31_2
           try clear hfz31_3
           try clear hfz33_0
           try clear hfz33_1
           try clear hfz34_0
           try clear hfz34_1
           try clear hfz34_2
           try clear hfz34_3
           try clear hfz37_0
           try clear hfz37_1
           try clear hfz38_0
           try clear hfz38_1
           try clear hfz38_2
           try clear hfz38_3
           try clear hfz44_0
           try clear hfz44_1
           try clear hfz4_0
           try clear hfz4_1
           try clear hfz7_0
           try clear hfz7_1
           try clear hfz9_0
           try clear hfz9_1
           try clear hx141_0
           try clear hx141_1
           try clear hx141_2
           try clear hx141_3
           try clear p1
           try clear p14
           try clear p141
           try clear p2
           try clear q1
           try clear q14
           try clear q141
           try clear q45
           obtain ⟨x51_3, rfl, HA, HK3, BK136, BK142, HB⟩ := hrel
           cases gk with
           | zero => exact absurd HA.out (by simp [guide_Check.l1])
           | succ k3 =>
            have H := HA.out
            clear HA
            simp only [guide_Check.l1] at H
            by_cases c46 : x51_3 < (y145.length : Int)
            ·
             rw [if_pos c46] at H
             have c46b0 : decide (x51_3 < (y145.length : Int)) = true := decide_eq_true c46
             clear c46
             by_cases c47 : 0 ≤ x51_3
             ·
              rw [if_pos c47] at H
              have c47b0 : decide (0 ≤ x51_3) = true := decide_eq_true c47
              clear c47
              by_cases c48 : x51_3 < (y145.length : Int)
              ·
               rw [if_pos c48] at H
               have c48b0 : decide (x51_3 < (y145.length : Int)) = true := decide_eq_true c48
               clear c48
               by_cases c49 : ((rd_T92 y145 x51_3).f0) = ((rd_T92 l0_1 x21_1).f0)
               ·
                rw [if_pos c49] at H
                have c49b0 : (((rd_T92 y145 x51_3).f0) == ((rd_T92 l0_1 x21_1).f0)) = true := beq_iff_eq.mpr c49
                have c49b1 : (((rd_T92 y145 x51_3).f0) != ((rd_T92 l0_1 x21_1).f0)) = false := bne_eq_false_iff_eq.mpr c49
                clear c49
                by_cases c50 : ((rd_T92 y145 x51_3).f1) ≤ ((rd_T92 l0_1 x21_1).f2)
                ·
                 rw [if_pos c50] at H
                 have c50b0 : decide (((rd_T92 y145 x51_3).f1) ≤ ((rd_T92 l0_1 x21_1).f2)) = true := decide_eq_true c50
                 clear c50
                 by_cases c51 : ((rd_T92 l0_1 x21_1).f1) ≤ ((rd_T92 y145 x51_3).f2)
                 ·
                  rw [if_pos c51] at H
                  have c51b0 : decide (((rd_T92 l0_1 x21_1).f1) ≤ ((rd_T92 y145 x51_3).f2)) = true := decide_eq_true c51
                  clear c51
                  simp only [Option.some.injEq, Prod.mk.injEq] at H
                  obtain ⟨rfl, rfl⟩ := H
                  have p149 : 0 ≤ (x51_3 : Int) := of_decide_eq_true y5
                  have q149 : x51_3 < (y145.length : Int) := of_decide_eq_true y5
                  obtain ⟨ad149, e149, hx149_0, hx149_1, hx149_2, hx149_3⟩ := at_T92 HR148.out x51_3 p149 q149
                  obtain rfl : ad141 = ad149 := (by injection e149)
                  replace hx149_0 := (HB.out.cell (World.block_lt_of_cell? w _ hx149_0)).trans hx149_0
                  replace hx149_1 := (HB.out.cell (World.block_lt_of_cell? w _ hx149_1)).trans hx149_1
                  replace hx149_2 := (HB.out.cell (World.block_lt_of_cell? w _ hx149_2)).trans hx149_2
                  replace hx149_3 := (HB.out.cell (World.block_lt_of_cell? w _ hx149_3)).trans hx149_3
                  replace p149 := eq_true p149
                  replace q149 := eq_true q149
                  go_wp2_with (first | ((with_reducible refine gate_dst (N := 7) rfl ?_); refine box_event ?hg (N := 7) ?hd (cs := #[.int .i64 0, .int .u8 0, .int .u8 0, .int .i64 0]) (t := 92) ?hr ?_; (case hd => rfl); (case hg => rfl); (case hr => first | (go_simp; done) | (go_simp; rfl)); intro gb150 hg w52 hbox hb; have n0_ := ym (yq (g := gb136) (o := .cells #[.slice A0_0 l0_0.length c0_0, .slice (some ad141) l0_1.length c0_1] 25 (0, 0)) (yc BK136) hb); have n1_ := ym (yq (g := gb142) (o := .cells #[.int .i64 ((rd_T92 l0_1 x21_1).f0), .int .u8 ((rd_T92 l0_1 x21_1).f1), .int .u8 ((rd_T92 l0_1 x21_1).f2), .int .i64 ((rd_T92 l0_1 x21_1).f3)] 92 (0, 0)) (yc BK142) hb); have n2_ := ym (yn yb hb); have n3_ := ym (hbox); have n4_ := ym ((by rw [hg]; exact (below_size yb) : w.heap.size ≤ gb150)); have n5_ := n4_; have n6_ := ym ((by rw [hg]; exact Nat.ne_of_lt (blk_lt (g := gb136) (o := .cells #[.slice A0_0 l0_0.length c0_0, .slice (some ad141) l0_1.length c0_1] 25 (0, 0)) (yc BK136)) : gb136 ≠ gb150)); have n7_ := ym ((by rw [hg]; exact Nat.ne_of_gt (blk_lt (g := gb136) (o := .cells #[.slice A0_0 l0_0.length c0_0, .slice (some ad141) l0_1.length c0_1] 25 (0, 0)) (yc BK136)) : gb150 ≠ gb136)); have n8_ := ym ((by rw [hg]; exact Nat.ne_of_lt (blk_lt (g := gb142) (o := .cells #[.int .i64 ((rd_T92 l0_1 x21_1).f0), .int .u8 ((rd_T92 l0_1 x21_1).f1), .int .u8 ((rd_T92 l0_1 x21_1).f2), .int .i64 ((rd_T92 l0_1 x21_1).f3)] 92 (0, 0)) (yc BK142)) : gb142 ≠ gb150)); have n9_ := ym ((by rw [hg]; exact Nat.ne_of_gt (blk_lt (g := gb142) (o := .cells #[.int .i64 ((rd_T92 l0_1 x21_1).f0), .int .u8 ((rd_T92 l0_1 x21_1).f1), .int .u8 ((rd_T92 l0_1 x21_1).f2), .int .i64 ((rd_T92 l0_1 x21_1).f3)] 92 (0, 0)) (yc BK142)) : gb150 ≠ gb142)); clear BK136; clear BK142; clear HB; have BK136 := n0_; have BK142 := n1_; have HB := n2_; have BK150 := n3_; have GW150 := n4_; have GE150 := n5_; have NB136_150 := n6_; have NB150_136 := n7_; have NB142_150 := n8_; have NB150_142 := n9_; clear n0_ n1_ n2_ n3_ n4_ n5_ n6_ n7_ n8_ n9_; clear hb hbox hg; have hnb53 := NB150_136.out; have hnc53 := NB136_150.out; have hnb54 := NB150_142.out; have hnc54 := NB142_150.out; have hcz55_0 : w52.cell? ⟨gb150, 0, none⟩ = some (.int .i64 0) := (yw BK150.out 0).trans rfl; have hcz55_1 : w52.cell? ⟨gb150, 1, none⟩ = some (.int .u8 0) := (yw BK150.out 1).trans rfl; have hcz55_2 : w52.cell? ⟨gb150, 2, none⟩ = some (.int .u8 0) := (yw BK150.out 2).trans rfl; have hcz55_3 : w52.cell? ⟨gb150, 3, none⟩ = some (.int .i64 0) := (yw BK150.out 3).trans rfl; have hfz55_0 := yv BK150.out 0; have hfz55_1 := yv BK150.out 1; have hfz55_2 := yv BK150.out 2; have hfz55_3 := yv BK150.out 3; have hnb56 := NB142_136.out; have hnc56 := NB136_142.out; have hcz57_0 : w52.cell? ⟨gb142, 0, none⟩ = some (.int .i64 ((rd_T92 l0_1 x21_1).f0)) := (yw BK142.out 0).trans rfl; have hcz57_1 : w52.cell? ⟨gb142, 1, none⟩ = some (.int .u8 ((rd_T92 l0_1 x21_1).f1)) := (yw BK142.out 1).trans rfl; have hcz57_2 : w52.cell? ⟨gb142, 2, none⟩ = some (.int .u8 ((rd_T92 l0_1 x21_1).f2)) := (yw BK142.out 2).trans rfl; have hcz57_3 : w52.cell? ⟨gb142, 3, none⟩ = some (.int .i64 ((rd_T92 l0_1 x21_1).f3)) := (yw BK142.out 3).trans rfl; have hfz57_0 := yv BK142.out 0; have hfz57_1 := yv BK142.out 1; have hfz57_2 := yv BK142.out 2; have hfz57_3 := yv BK142.out 3))
                  go_ret2
                  exact ⟨by first | rfl | (simp [errW_none, errW_some] <;> rfl) | (simp [*, errW_none, errW_some] <;> rfl), by repeat (first | (with_reducible first | exact HB.out | apply y3 | refine ys ?_ GE136.out | refine ys ?_ GE142.out | refine ys ?_ GE150.out) | exact HB.out)⟩
                 rw [if_neg c51] at H
                 have c51b0 : decide (((rd_T92 l0_1 x21_1).f1) ≤ ((rd_T92 y145 x51_3).f2)) = false := decide_eq_false c51
                 clear c51
                 have H' := ym H
                 clear H
                 have p149 : 0 ≤ (x51_3 : Int) := of_decide_eq_true y5
                 have q149 : x51_3 < (y145.length : Int) := of_decide_eq_true y5
                 obtain ⟨ad149, e149, hx149_0, hx149_1, hx149_2, hx149_3⟩ := at_T92 HR148.out x51_3 p149 q149
                 obtain rfl : ad141 = ad149 := (by injection e149)
                 replace hx149_0 := (HB.out.cell (World.block_lt_of_cell? w _ hx149_0)).trans hx149_0
                 replace hx149_1 := (HB.out.cell (World.block_lt_of_cell? w _ hx149_1)).trans hx149_1
                 replace hx149_2 := (HB.out.cell (World.block_lt_of_cell? w _ hx149_2)).trans hx149_2
                 replace hx149_3 := (HB.out.cell (World.block_lt_of_cell? w _ hx149_3)).trans hx149_3
                 replace p149 := eq_true p149
                 replace q149 := eq_true q149
                 go_wp2_with (first | ((with_reducible refine gate_dst (N := 7) rfl ?_); refine box_event ?hg (N := 7) ?hd (cs := #[.int .i64 0, .int .u8 0, .int .u8 0, .int .i64 0]) (t := 92) ?hr ?_; (case hd => rfl); (case hg => rfl); (case hr => first | (go_simp; done) | (go_simp; rfl)); intro gb150 hg w58 hbox hb; have n0_ := ym (yq (g := gb136) (o := .cells #[.slice A0_0 l0_0.length c0_0, .slice (some ad141) l0_1.length c0_1] 25 (0, 0)) (yc BK136) hb); have n1_ := ym (yq (g := gb142) (o := .cells #[.int .i64 ((rd_T92 l0_1 x21_1).f0), .int .u8 ((rd_T92 l0_1 x21_1).f1), .int .u8 ((rd_T92 l0_1 x21_1).f2), .int .i64 ((rd_T92 l0_1 x21_1).f3)] 92 (0, 0)) (yc BK142) hb); have n2_ := ym (yn yb hb); have n3_ := ym (hbox); have n4_ := ym ((by rw [hg]; exact (below_size yb) : w.heap.size ≤ gb150)); have n5_ := n4_; have n6_ := ym ((by rw [hg]; exact Nat.ne_of_lt (blk_lt (g := gb136) (o := .cells #[.slice A0_0 l0_0.length c0_0, .slice (some ad141) l0_1.length c0_1] 25 (0, 0)) (yc BK136)) : gb136 ≠ gb150)); have n7_ := ym ((by rw [hg]; exact Nat.ne_of_gt (blk_lt (g := gb136) (o := .cells #[.slice A0_0 l0_0.length c0_0, .slice (some ad141) l0_1.length c0_1] 25 (0, 0)) (yc BK136)) : gb150 ≠ gb136)); have n8_ := ym ((by rw [hg]; exact Nat.ne_of_lt (blk_lt (g := gb142) (o := .cells #[.int .i64 ((rd_T92 l0_1 x21_1).f0), .int .u8 ((rd_T92 l0_1 x21_1).f1), .int .u8 ((rd_T92 l0_1 x21_1).f2), .int .i64 ((rd_T92 l0_1 x21_1).f3)] 92 (0, 0)) (yc BK142)) : gb142 ≠ gb150)); have n9_ := ym ((by rw [hg]; exact Nat.ne_of_gt (blk_lt (g := gb142) (o := .cells #[.int .i64 ((rd_T92 l0_1 x21_1).f0), .int .u8 ((rd_T92 l0_1 x21_1).f1), .int .u8 ((rd_T92 l0_1 x21_1).f2), .int .i64 ((rd_T92 l0_1 x21_1).f3)] 92 (0, 0)) (yc BK142)) : gb150 ≠ gb142)); clear BK136; clear BK142; clear HB; have BK136 := n0_; have BK142 := n1_; have HB := n2_; have BK150 := n3_; have GW150 := n4_; have GE150 := n5_; have NB136_150 := n6_; have NB150_136 := n7_; have NB142_150 := n8_; have NB150_142 := n9_; clear n0_ n1_ n2_ n3_ n4_ n5_ n6_ n7_ n8_ n9_; clear hb hbox hg; have hnb59 := NB150_136.out; have hnc59 := NB136_150.out; have hnb60 := NB150_142.out; have hnc60 := NB142_150.out; have hcz61_0 : w58.cell? ⟨gb150, 0, none⟩ = some (.int .i64 0) := (yw BK150.out 0).trans rfl; have hcz61_1 : w58.cell? ⟨gb150, 1, none⟩ = some (.int .u8 0) := (yw BK150.out 1).trans rfl; have hcz61_2 : w58.cell? ⟨gb150, 2, none⟩ = some (.int .u8 0) := (yw BK150.out 2).trans rfl; have hcz61_3 : w58.cell? ⟨gb150, 3, none⟩ = some (.int .i64 0) := (yw BK150.out 3).trans rfl; have hfz61_0 := yv BK150.out 0; have hfz61_1 := yv BK150.out 1; have hfz61_2 := yv BK150.out 2; have hfz61_3 := yv BK150.out 3; have hnb62 := NB142_136.out; have hnc62 := NB136_142.out; have hcz63_0 : w58.cell? ⟨gb142, 0, none⟩ = some (.int .i64 ((rd_T92 l0_1 x21_1).f0)) := (yw BK142.out 0).trans rfl; have hcz63_1 : w58.cell? ⟨gb142, 1, none⟩ = some (.int .u8 ((rd_T92 l0_1 x21_1).f1)) := (yw BK142.out 1).trans rfl; have hcz63_2 : w58.cell? ⟨gb142, 2, none⟩ = some (.int .u8 ((rd_T92 l0_1 x21_1).f2)) := (yw BK142.out 2).trans rfl; have hcz63_3 : w58.cell? ⟨gb142, 3, none⟩ = some (.int .i64 ((rd_T92 l0_1 x21_1).f3)) := (yw BK142.out 3).trans rfl; have hfz63_0 := yv BK142.out 0; have hfz63_1 := yv BK142.out 1; have hfz63_2 := yv BK142.out 2; have hfz63_3 := yv BK142.out 3))
                 go_roundg k3
                 case measure => have := HK1.out; have := HJ12.out; have := HK3.out; omega
                 case rel => exact ⟨(wrap64 (x51_3 + 1)), y7, H', ⟨by have := HK1.out; have := HJ12.out; have := HK3.out; omega⟩, ⟨by (with_reducible repeat refine y4 ?_); refine yx ?_ NB136_150.out _; (with_reducible repeat refine y4 ?_); refine yx ?_ NB136_150.out _; (with_reducible repeat refine y4 ?_); refine yx ?_ NB136_150.out _; (with_reducible repeat refine y4 ?_); refine yx ?_ NB136_150.out _; (with_reducible repeat refine y4 ?_); exact BK136.out⟩, ⟨by (with_reducible repeat refine y4 ?_); refine yx ?_ NB142_150.out _; (with_reducible repeat refine y4 ?_); refine yx ?_ NB142_150.out _; (with_reducible repeat refine y4 ?_); refine yx ?_ NB142_150.out _; (with_reducible repeat refine y4 ?_); refine yx ?_ NB142_150.out _; (with_reducible repeat refine y4 ?_); exact BK142.out⟩, ⟨by repeat (first | (with_reducible first | exact HB.out | apply y3 | refine ys ?_ GE136.out | refine ys ?_ GE142.out | refine ys ?_ GE150.out) | exact HB.out)⟩⟩
                rw [if_neg c50] at H
                have c50b0 : decide (((rd_T92 y145 x51_3).f1) ≤ ((rd_T92 l0_1 x21_1).f2)) = false := decide_eq_false c50
                clear c50
                have H' := ym H
                clear H
                have p149 : 0 ≤ (x51_3 : Int) := of_decide_eq_true y5
                have q149 : x51_3 < (y145.length : Int) := of_decide_eq_true y5
                obtain ⟨ad149, e149, hx149_0, hx149_1, hx149_2, hx149_3⟩ := at_T92 HR148.out x51_3 p149 q149
                obtain rfl : ad141 = ad149 := (by injection e149)
                replace hx149_0 := (HB.out.cell (World.block_lt_of_cell? w _ hx149_0)).trans hx149_0
                replace hx149_1 := (HB.out.cell (World.block_lt_of_cell? w _ hx149_1)).trans hx149_1
                replace hx149_2 := (HB.out.cell (World.block_lt_of_cell? w _ hx149_2)).trans hx149_2
                replace hx149_3 := (HB.out.cell (World.block_lt_of_cell? w _ hx149_3)).trans hx149_3
                replace p149 := eq_true p149
                replace q149 := eq_true q149
                go_wp2_with (first | ((with_reducible refine gate_dst (N := 7) rfl ?_); refine box_event ?hg (N := 7) ?hd (cs := #[.int .i64 0, .int .u8 0, .int .u8 0, .int .i64 0]) (t := 92) ?hr ?_; (case hd => rfl); (case hg => rfl); (case hr => first | (go_simp; done) | (go_simp; rfl)); intro gb150 hg w64 hbox hb; have n0_ := ym (yq (g := gb136) (o := .cells #[.slice A0_0 l0_0.length c0_0, .slice (some ad141) l0_1.length c0_1] 25 (0, 0)) (yc BK136) hb); have n1_ := ym (yq (g := gb142) (o := .cells #[.int .i64 ((rd_T92 l0_1 x21_1).f0), .int .u8 ((rd_T92 l0_1 x21_1).f1), .int .u8 ((rd_T92 l0_1 x21_1).f2), .int .i64 ((rd_T92 l0_1 x21_1).f3)] 92 (0, 0)) (yc BK142) hb); have n2_ := ym (yn yb hb); have n3_ := ym (hbox); have n4_ := ym ((by rw [hg]; exact (below_size yb) : w.heap.size ≤ gb150)); have n5_ := n4_; have n6_ := ym ((by rw [hg]; exact Nat.ne_of_lt (blk_lt (g := gb136) (o := .cells #[.slice A0_0 l0_0.length c0_0, .slice (some ad141) l0_1.length c0_1] 25 (0, 0)) (yc BK136)) : gb136 ≠ gb150)); have n7_ := ym ((by rw [hg]; exact Nat.ne_of_gt (blk_lt (g := gb136) (o := .cells #[.slice A0_0 l0_0.length c0_0, .slice (some ad141) l0_1.length c0_1] 25 (0, 0)) (yc BK136)) : gb150 ≠ gb136)); have n8_ := ym ((by rw [hg]; exact Nat.ne_of_lt (blk_lt (g := gb142) (o := .cells #[.int .i64 ((rd_T92 l0_1 x21_1).f0), .int .u8 ((rd_T92 l0_1 x21_1).f1), .int .u8 ((rd_T92 l0_1 x21_1).f2), .int .i64 ((rd_T92 l0_1 x21_1).f3)] 92 (0, 0)) (yc BK142)) : gb142 ≠ gb150)); have n9_ := ym ((by rw [hg]; exact Nat.ne_of_gt (blk_lt (g := gb142) (o := .cells #[.int .i64 ((rd_T92 l0_1 x21_1).f0), .int .u8 ((rd_T92 l0_1 x21_1).f1), .int .u8 ((rd_T92 l0_1 x21_1).f2), .int .i64 ((rd_T92 l0_1 x21_1).f3)] 92 (0, 0)) (yc BK142)) : gb150 ≠ gb142)); clear BK136; clear BK142; clear HB; have BK136 := n0_; have BK142 := n1_; have HB := n2_; have BK150 := n3_; have GW150 := n4_; have GE150 := n5_; have NB136_150 := n6_; have NB150_136 := n7_; have NB142_150 := n8_; have NB150_142 := n9_; clear n0_ n1_ n2_ n3_ n4_ n5_ n6_ n7_ n8_ n9_; clear hb hbox hg; have hnb65 := NB150_136.out; have hnc65 := NB136_150.out; have hnb66 := NB150_142.out; have hnc66 := NB142_150.out; have hcz67_0 : w64.cell? ⟨gb150, 0, none⟩ = some (.int .i64 0) := (yw BK150.out 0).trans rfl; have hcz67_1 : w64.cell? ⟨gb150, 1, none⟩ = some (.int .u8 0) := (yw BK150.out 1).trans rfl; have hcz67_2 : w64.cell? ⟨gb150, 2, none⟩ = some (.int .u8 0) := (yw BK150.out 2).trans rfl; have hcz67_3 : w64.cell? ⟨gb150, 3, none⟩ = some (.int .i64 0) := (yw BK150.out 3).trans rfl; have hfz67_0 := yv BK150.out 0; have hfz67_1 := yv BK150.out 1; have hfz67_2 := yv BK150.out 2; have hfz67_3 := yv BK150.out 3; have hnb68 := NB142_136.out; have hnc68 := NB136_142.out; have hcz69_0 : w64.cell? ⟨gb142, 0, none⟩ = some (.int .i64 ((rd_T92 l0_1 x21_1).f0)) := (yw BK142.out 0).trans rfl; have hcz69_1 : w64.cell? ⟨gb142, 1, none⟩ = some (.int .u8 ((rd_T92 l0_1 x21_1).f1)) := (yw BK142.out 1).trans rfl; have hcz69_2 : w64.cell? ⟨gb142, 2, none⟩ = some (.int .u8 ((rd_T92 l0_1 x21_1).f2)) := (yw BK142.out 2).trans rfl; have hcz69_3 : w64.cell? ⟨gb142, 3, none⟩ = some (.int .i64 ((rd_T92 l0_1 x21_1).f3)) := (yw BK142.out 3).trans rfl; have hfz69_0 := yv BK142.out 0; have hfz69_1 := yv BK142.out 1; have hfz69_2 := yv BK142.out 2; have hfz69_3 := yv BK142.out 3))
                go_roundg k3
                case measure => have := HK1.out; have := HJ12.out; have := HK3.out; omega
                case rel => exact ⟨(wrap64 (x51_3 + 1)), y7, H', ⟨by have := HK1.out; have := HJ12.out; have := HK3.out; omega⟩, ⟨by (with_reducible repeat refine y4 ?_); refine yx ?_ NB136_150.out _; (with_reducible repeat refine y4 ?_); refine yx ?_ NB136_150.out _; (with_reducible repeat refine y4 ?_); refine yx ?_ NB136_150.out _; (with_reducible repeat refine y4 ?_); refine yx ?_ NB136_150.out _; (with_reducible repeat refine y4 ?_); exact BK136.out⟩, ⟨by (with_reducible repeat refine y4 ?_); refine yx ?_ NB142_150.out _; (with_reducible repeat refine y4 ?_); refine yx ?_ NB142_150.out _; (with_reducible repeat refine y4 ?_); refine yx ?_ NB142_150.out _; (with_reducible repeat refine y4 ?_); refine yx ?_ NB142_150.out _; (with_reducible repeat refine y4 ?_); exact BK142.out⟩, ⟨by repeat (first | (with_reducible first | exact HB.out | apply y3 | refine ys ?_ GE136.out | refine ys ?_ GE142.out | refine ys ?_ GE150.out) | exact HB.out)⟩⟩
               rw [if_neg c49] at H
               have c49b0 : (((rd_T92 y145 x51_3).f0) == ((rd_T92 l0_1 x21_1).f0)) = false := beq_eq_false_iff_ne.mpr c49
               have c49b1 : (((rd_T92 y145 x51_3).f0) != ((rd_T92 l0_1 x21_1).f0)) = true := bne_iff_ne.mpr c49
               have H' := ym H
               clear H
               have p149 : 0 ≤ (x51_3 : Int) := of_decide_eq_true y5
               have q149 : x51_3 < (y145.length : Int) := of_decide_eq_true y5
               obtain ⟨ad149, e149, hx149_0, hx149_1, hx149_2, hx149_3⟩ := at_T92 HR148.out x51_3 p149 q149
               obtain rfl : ad141 = ad149 := (by injection e149)
               replace hx149_0 := (HB.out.cell (World.block_lt_of_cell? w _ hx149_0)).trans hx149_0
               replace hx149_1 := (HB.out.cell (World.block_lt_of_cell? w _ hx149_1)).trans hx149_1
               replace hx149_2 := (HB.out.cell (World.block_lt_of_cell? w _ hx149_2)).trans hx149_2
               replace hx149_3 := (HB.out.cell (World.block_lt_of_cell? w _ hx149_3)).trans hx149_3
               replace p149 := eq_true p149
               replace q149 := eq_true q149
               go_wp2_with (first | ((with_reducible refine gate_dst (N := 7) rfl ?_); refine box_event ?hg (N := 7) ?hd (cs := #[.int .i64 0, .int .u8 0, .int .u8 0, .int .i64 0]) (t := 92) ?hr ?_; (case hd => rfl); (case hg => rfl); (case hr => first | (go_simp; done) | (go_simp; rfl)); intro gb150 hg w70 hbox hb; have n0_ := ym (yq (g := gb136) (o := .cells #[.slice A0_0 l0_0.length c0_0, .slice (some ad141) l0_1.length c0_1] 25 (0, 0)) (yc BK136) hb); have n1_ := ym (yq (g := gb142) (o := .cells #[.int .i64 ((rd_T92 l0_1 x21_1).f0), .int .u8 ((rd_T92 l0_1 x21_1).f1), .int .u8 ((rd_T92 l0_1 x21_1).f2), .int .i64 ((rd_T92 l0_1 x21_1).f3)] 92 (0, 0)) (yc BK142) hb); have n2_ := ym (yn yb hb); have n3_ := ym (hbox); have n4_ := ym ((by rw [hg]; exact (below_size yb) : w.heap.size ≤ gb150)); have n5_ := n4_; have n6_ := ym ((by rw [hg]; exact Nat.ne_of_lt (blk_lt (g := gb136) (o := .cells #[.slice A0_0 l0_0.length c0_0, .slice (some ad141) l0_1.length c0_1] 25 (0, 0)) (yc BK136)) : gb136 ≠ gb150)); have n7_ := ym ((by rw [hg]; exact Nat.ne_of_gt (blk_lt (g := gb136) (o := .cells #[.slice A0_0 l0_0.length c0_0, .slice (some ad141) l0_1.length c0_1] 25 (0, 0)) (yc BK136)) : gb150 ≠ gb136)); have n8_ := ym ((by rw [hg]; exact Nat.ne_of_lt (blk_lt (g := gb142) (o := .cells #[.int .i64 ((rd_T92 l0_1 x21_1).f0), .int .u8 ((rd_T92 l0_1 x21_1).f1), .int .u8 ((rd_T92 l0_1 x21_1).f2), .int .i64 ((rd_T92 l0_1 x21_1).f3)] 92 (0, 0)) (yc BK142)) : gb142 ≠ gb150)); have n9_ := ym ((by rw [hg]; exact Nat.ne_of_gt (blk_lt (g := gb142) (o := .cells #[.int .i64 ((rd_T92 l0_1 x21_1).f0), .int .u8 ((rd_T92 l0_1 x21_1).f1), .int .u8 ((rd_T92 l0_1 x21_1).f2), .int .i64 ((rd_T92 l0_1 x21_1).f3)] 92 (0, 0)) (yc BK142)) : gb150 ≠ gb142)); clear BK136; clear BK142; clear HB; have BK136 := n0_; have BK142 := n1_; have HB := n2_; have BK150 := n3_; have GW150 := n4_; have GE150 := n5_; have NB136_150 := n6_; have NB150_136 := n7_; have NB142_150 := n8_; have NB150_142 := n9_; clear n0_ n1_ n2_ n3_ n4_ n5_ n6_ n7_ n8_ n9_; clear hb hbox hg; have hnb71 := NB150_136.out; have hnc71 := NB136_150.out; have hnb72 := NB150_142.out; have hnc72 := NB142_150.out; have hcz73_0 : w70.cell? ⟨gb150, 0, none⟩ = some (.int .i64 0) := (yw BK150.out 0).trans rfl; have hcz73_1 : w70.cell? ⟨gb150, 1, none⟩ = some (.int .u8 0) := (yw BK150.out 1).trans rfl; have hcz73_2 : w70.cell? ⟨gb150, 2, none⟩ = some (.int .u8 0) := (yw BK150.out 2).trans rfl; have hcz73_3 : w70.cell? ⟨gb150, 3, none⟩ = some (.int .i64 0) := (yw BK150.out 3).trans rfl; have hfz73_0 := yv BK150.out 0; have hfz73_1 := yv BK150.out 1; have hfz73_2 := yv BK150.out 2; have hfz73_3 := yv BK150.out 3; have hnb74 := NB142_136.out; have hnc74 := NB136_142.out; have hcz75_0 : w70.cell? ⟨gb142, 0, none⟩ = some (.int .i64 ((rd_T92 l0_1 x21_1).f0)) := (yw BK142.out 0).trans rfl; have hcz75_1 : w70.cell? ⟨gb142, 1, none⟩ = some (.int .u8 ((rd_T92 l0_1 x21_1).f1)) := (yw BK142.out 1).trans rfl; have hcz75_2 : w70.cell? ⟨gb142, 2, none⟩ = some (.int .u8 ((rd_T92 l0_1 x21_1).f2)) := (yw BK142.out 2).trans rfl; have hcz75_3 : w70.cell? ⟨gb142, 3, none⟩ = some (.int .i64 ((rd_T92 l0_1 x21_1).f3)) := (yw BK142.out 3).trans rfl; have hfz75_0 := yv BK142.out 0; have hfz75_1 := yv BK142.out 1; have hfz75_2 := yv BK142.out 2; have hfz75_3 := yv BK142.out 3))
               go_roundg k3
               case measure => have := HK1.out; have := HJ12.out; have := HK3.out; omega
               case rel => exact ⟨(wrap64 (x51_3 + 1)), y7, H', ⟨by have := HK1.out; have := HJ12.out; have := HK3.out; omega⟩, ⟨by (with_reducible repeat refine y4 ?_); refine yx ?_ NB136_150.out _; (with_reducible repeat refine y4 ?_); refine yx ?_ NB136_150.out _; (with_reducible repeat refine y4 ?_); refine yx ?_ NB136_150.out _; (with_reducible repeat refine y4 ?_); refine yx ?_ NB136_150.out _; (with_reducible repeat refine y4 ?_); exact BK136.out⟩, ⟨by (with_reducible repeat refine y4 ?_); refine yx ?_ NB142_150.out _; (with_reducible repeat refine y4 ?_); refine yx ?_ NB142_150.out _; (with_reducible repeat refine y4 ?_); refine yx ?_ NB142_150.out _; (with_reducible repeat refine y4 ?_); refine yx ?_ NB142_150.out _; (with_reducible repeat refine y4 ?_); exact BK142.out⟩, ⟨by repeat (first | (with_reducible first | exact HB.out | apply y3 | refine ys ?_ GE136.out | refine ys ?_ GE142.out | refine ys ?_ GE150.out) | exact HB.out)⟩⟩
              rw [if_neg c48] at H
              exact absurd H (by simp)
             rw [if_neg c47] at H
             exact absurd H (by simp)
            rw [if_neg c46] at H
            have c46b0 : decide (x51_3 < (y145.length : Int)) = false := decide_eq_false c46
            clear c46
            have H' := ym H
            clear H
            go_wp2
            go_roundg k3
            case measure => have := HK1.out; have := HJ12.out; have := HK3.out; omega
            case rel => exact ⟨(wrap64 (x21_1 + 1)), y7, H', ⟨by have := HK1.out; have := HJ12.out; have := HK3.out; omega⟩, ⟨by (with_reducible repeat refine y4 ?_); exact BK136.out⟩, ⟨by repeat (first | (with_reducible first | exact HB.out | apply y3 | refine ys ?_ GE136.out | refine ys ?_ GE142.out) | exact HB.out)⟩⟩
         rw [if_neg c42] at H
         exact absurd H (by simp)
        rw [if_neg c41] at H
        exact absurd H (by simp)
     rw [if_neg c12] at H
     exact absurd H (by simp)
    rw [if_neg c11] at H
    exact absurd H (by simp)
   rw [if_neg c10] at H
   have c10b0 : decide (x21_1 < (l0_1.length : Int)) = false := decide_eq_false c10
   clear c10
   by_cases c76 : (l0_0.length : Int) > 0
   ·
    rw [if_pos c76] at H
    have c76b0 : decide (0 < (l0_0.length : Int)) = true := decide_eq_true c76
    have c76b1 : decide (0 < l0_0.length) = true := decide_eq_true (by omega)
    clear c76
    replace H := Option.bind_eq_some_iff.mp H
    obtain ⟨t137, A770, H⟩ := H
    replace H : (if 0 < (t137.length : Int) then (if rdOf false t137 0 = true then (some (0, 0)) else (some (0, 152))) else (none)) = some (r1, r2) := H
    have A77 := ym A770
    clear A770
    by_cases c78 : 0 < (t137.length : Int)
    ·
     rw [if_pos c78] at H
     have c78b0 : decide (0 < (t137.length : Int)) = true := decide_eq_true c78
     have c78b1 : decide (0 < t137.length) = true := decide_eq_true (by omega)
     clear c78
     obtain ⟨bq79, hbq79⟩ : ∃ b_ : Bool, b_ = (rdOf false t137 0) := ⟨_, rfl⟩
     replace H : (if bq79 = true then (some (0, 0)) else (some (0, 152))) = some (r1, r2) := by rw [← hbq79] at H; exact H
     have Nbq79 := ym hbq79
     clear hbq79
     by_cases c80 : bq79 = true
     ·
      subst c80
      have H1 : (some (0, 0)) = some (r1, r2) := by rw [if_pos rfl] at H; exact H
      clear H
      have H := H1
      clear H1
      simp only [Option.some.injEq, Prod.mk.injEq] at H
      obtain ⟨rfl, rfl⟩ := H
      have hcz81_0 : wr.cell? ⟨gb136, 0, none⟩ = some (.slice A0_0 l0_0.length c0_0) := (yw BK136.out 0).trans rfl
      have hcz81_1 : wr.cell? ⟨gb136, 1, none⟩ = some (.slice A0_1 l0_1.length c0_1) := (yw BK136.out 1).trans rfl
      have hfz81_0 := yv BK136.out 0
      have hfz81_1 := yv BK136.out 1
      go_wp2_with (first | (go_at_call 51; (with_reducible refine (guide_alive.calls k1 _ _ l0_0 _ _ l0_1 t137 _ ?side1 ?side2 ?side3 ?side4 A77.out).mono ?_); (case side1 => exact y9 HR0_0); (case side2 => exact HC0_0.out); (case side3 => exact y9 HR0_1); (case side4 => exact HC0_1.out); rintro e w82 ⟨v138, rfl, ho0, hb⟩; have n0_ := ym (yo ho0 (below_size yb)); have n1_ := ym (yq (g := gb136) (o := .cells #[.slice A0_0 l0_0.length c0_0, .slice A0_1 l0_1.length c0_1] 25 (0, 0)) (yc BK136) hb); have n2_ := ym (yn yb hb); clear BK136; clear HB; have HO139 := n0_; have BK136 := n1_; have HB := n2_; clear n0_ n1_ n2_; (try clear hb); (try clear hb2); (try clear hk); (try clear hi); (try clear ho0); obtain ⟨Ao83, co83, eo83⟩ := Kd.R_slice HO139.out; subst eo83; have p140 : 0 ≤ (0 : Int) := (by omega); have q140 : 0 < (t137.length : Int) := of_decide_eq_true y5; obtain ⟨ad140, e140, hx140_0⟩ := Kd.at_bool (Kd.R_reads' HO139.out).2.2 0 p140 q140; (try rw [← Nbq79.out] at hx140_0); cases e140; have qi140 : (0 < t137.length) = True := eq_true (by omega); (try rw [show ((0 : Int)).toNat = 0 from rfl] at hx140_0); (try rw [Addr.add_zero'] at hx140_0); replace p140 := eq_true p140; replace q140 := eq_true q140))
      go_ret2
      exact ⟨by first | rfl | (simp [errW_none, errW_some] <;> rfl) | (simp [*, errW_none, errW_some] <;> rfl), by repeat (first | (with_reducible first | exact HB.out | apply y3 | refine ys ?_ GE136.out) | exact HB.out)⟩
     replace c80 := Bool.eq_false_iff.mpr c80
     subst c80
     have H1 : (some (0, 152)) = some (r1, r2) := by rw [if_neg (show ¬ (false = true) by decide)] at H; exact H
     clear H
     have H := H1
     clear H1
     simp only [Option.some.injEq, Prod.mk.injEq] at H
     obtain ⟨rfl, rfl⟩ := H
     have hcz84_0 : wr.cell? ⟨gb136, 0, none⟩ = some (.slice A0_0 l0_0.length c0_0) := (yw BK136.out 0).trans rfl
     have hcz84_1 : wr.cell? ⟨gb136, 1, none⟩ = some (.slice A0_1 l0_1.length c0_1) := (yw BK136.out 1).trans rfl
     have hfz84_0 := yv BK136.out 0
     have hfz84_1 := yv BK136.out 1
     go_wp2_with (first | (go_at_call 51; (with_reducible refine (guide_alive.calls k1 _ _ l0_0 _ _ l0_1 t137 _ ?side1 ?side2 ?side3 ?side4 A77.out).mono ?_); (case side1 => exact y9 HR0_0); (case side2 => exact HC0_0.out); (case side3 => exact y9 HR0_1); (case side4 => exact HC0_1.out); rintro e w85 ⟨v138, rfl, ho0, hb⟩; have n0_ := ym (yo ho0 (below_size yb)); have n1_ := ym (yq (g := gb136) (o := .cells #[.slice A0_0 l0_0.length c0_0, .slice A0_1 l0_1.length c0_1] 25 (0, 0)) (yc BK136) hb); have n2_ := ym (yn yb hb); clear BK136; clear HB; have HO139 := n0_; have BK136 := n1_; have HB := n2_; clear n0_ n1_ n2_; (try clear hb); (try clear hb2); (try clear hk); (try clear hi); (try clear ho0); obtain ⟨Ao86, co86, eo86⟩ := Kd.R_slice HO139.out; subst eo86; have p140 : 0 ≤ (0 : Int) := (by omega); have q140 : 0 < (t137.length : Int) := of_decide_eq_true y5; obtain ⟨ad140, e140, hx140_0⟩ := Kd.at_bool (Kd.R_reads' HO139.out).2.2 0 p140 q140; (try rw [← Nbq79.out] at hx140_0); cases e140; have qi140 : (0 < t137.length) = True := eq_true (by omega); (try rw [show ((0 : Int)).toNat = 0 from rfl] at hx140_0); (try rw [Addr.add_zero'] at hx140_0); replace p140 := eq_true p140; replace q140 := eq_true q140))
     go_ret2
     exact ⟨by first | rfl | (simp [errW_none, errW_some] <;> rfl) | (simp [*, errW_none, errW_some] <;> rfl), by repeat (first | (with_reducible first | exact HB.out | apply y3 | refine ys ?_ GE136.out) | exact HB.out)⟩
    rw [if_neg c78] at H
    exact absurd H (by simp)
   rw [if_neg c76] at H
   have c76b0 : decide (0 < (l0_0.length : Int)) = false := decide_eq_false c76
   have c76b1 : decide (0 < l0_0.length) = false := decide_eq_false (by omega)
   clear c76
   simp only [Option.some.injEq, Prod.mk.injEq] at H
   obtain ⟨rfl, rfl⟩ := H
   have hcz87_0 : wr.cell? ⟨gb136, 0, none⟩ = some (.slice A0_0 l0_0.length c0_0) := (yw BK136.out 0).trans rfl
   have hcz87_1 : wr.cell? ⟨gb136, 1, none⟩ = some (.slice A0_1 l0_1.length c0_1) := (yw BK136.out 1).trans rfl
   have hfz87_0 := yv BK136.out 0
   have hfz87_1 := yv BK136.out 1
   go_wp2
   go_ret2
   exact ⟨by first | rfl | (simp [errW_none, errW_some] <;> rfl) | (simp [*, errW_none, errW_some] <;> rfl), by repeat (first | (with_reducible first | exact HB.out | apply y3 | refine ys ?_ GE136.out) | exact HB.out)⟩

end Go.Proofs.Ytfjpnmhbbfiaaaa.P
