-- Printed by xprint.py (wip): functions, contracts, rows. Lean checks it.
import Derived.Test.YtmpldbccohdnjaaPx0
import Derived.Test.YtmpldbccohdnjaaPx9
import Derived.Test.YtmpldbccohdnjaaPx10
namespace Go.Proofs.Ytmpldbccohdnjaa.P
open Go.RowKit Go.Proofs.YtmpldbccohdnjaaW.PrintWords Go.Proofs.YtmpldbccohdnjaaW.PrintLast Go.Proofs.YtmpldbccohdnjaaW.PrintMore
attribute [local go_sem] max2_int min2_int max_two min_two max_three min_three max_four min_four   -- for this text's walks alone
set_option linter.unusedVariables false
set_option linter.unusedSimpArgs false

/-! ### soft_Means: function 19 -/
mutual
def soft_Means.j0 : Nat → List Int → List (List Int) → Bool → Option (List Int × Int)
  | 0, _, _, _ => none
  | k + 1, x0, x1, x26 => if x26 = true then (some (([] : List Int), 1)) else (soft_Means.l0 k x0 x1 x1 (x1.length : Int) 0)
def soft_Means.l0 : Nat → List Int → List (List Int) → List (List Int) → Int → Int → Option (List Int × Int)
  | 0, _, _, _, _, _ => none
  | k + 1, x0, x1, x27, x28, x29 => if x29 < x28 then (if 0 ≤ x29 then (if x29 < (x27.length : Int) then (if 0 < (x1.length : Int) then (if ((rd_L2 x27 x29).length : Int) = ((rd_L2 x1 0).length : Int) then (soft_Means.l0 k x0 x1 x27 x28 (wrap64 (x29 + 1))) else (some (([] : List Int), 1))) else (none)) else (none)) else (none)) else ((soft_total.f k x0).bind fun bt158 => (if bt158.2 = 0 then (if 0 < (x1.length : Int) then (soft_Means.l1 k x0 x1 ([] : List Int) ((rd_L2 x1 0).length : Int) 0) else (none)) else (some (([] : List Int), bt158.2))))
def soft_Means.l1 : Nat → List Int → List (List Int) → List Int → Int → Int → Option (List Int × Int)
  | 0, _, _, _, _, _ => none
  | k + 1, x0, x1, x10, x52, x53 => if x53 < x52 then (soft_Means.l2 k x0 x1 x10 x53 ([] : List Int) x52 x53 x1 (x1.length : Int) 0) else (some (x10, 0))
def soft_Means.l2 : Nat → List Int → List (List Int) → List Int → Int → List Int → Int → Int → List (List Int) → Int → Int → Option (List Int × Int)
  | 0, _, _, _, _, _, _, _, _, _, _ => none
  | k + 1, x0, x1, x10, x11, x12, x52, x53, x56, x57, x58 => if x58 < x57 then (if 0 ≤ x58 then (if x58 < (x56.length : Int) then (if 0 ≤ x11 then (if x11 < ((rd_L2 x56 x58).length : Int) then (if x12.length < 140737488355328 then (soft_Means.l2 k x0 x1 x10 x11 (x12 ++ [rd (rd_L2 x56 x58) x11]) x52 x53 x56 x57 (wrap64 (x58 + 1))) else (none)) else (none)) else (none)) else (none)) else (none)) else ((soft_Mean.f k x0 x12).bind fun bt166 => (if x10.length < 140737488355328 then (soft_Means.l1 k x0 x1 (x10 ++ [bt166.1]) x52 (wrap64 (x53 + 1))) else (none)))
end
def soft_Means.f (k : Nat) (l0 : List Int) (l1 : List (List Int)) : Option (List Int × Int) := if (l0.length : Int) = (l1.length : Int) then (soft_Means.j0 k l0 l1 (decide ((l0.length : Int) > 512))) else (soft_Means.j0 k l0 l1 true)
theorem soft_Means.mono_l : ∀ k, (∀ y0 y1 y2, LeO (soft_Means.j0 k y0 y1 y2) (soft_Means.j0 (k + 1) y0 y1 y2)) ∧ (∀ y0 y1 y2 y3 y4, LeO (soft_Means.l0 k y0 y1 y2 y3 y4) (soft_Means.l0 (k + 1) y0 y1 y2 y3 y4)) ∧ (∀ y0 y1 y2 y3 y4, LeO (soft_Means.l1 k y0 y1 y2 y3 y4) (soft_Means.l1 (k + 1) y0 y1 y2 y3 y4)) ∧ (∀ y0 y1 y2 y3 y4 y5 y6 y7 y8 y9, LeO (soft_Means.l2 k y0 y1 y2 y3 y4 y5 y6 y7 y8 y9) (soft_Means.l2 (k + 1) y0 y1 y2 y3 y4 y5 y6 y7 y8 y9))
  | 0 => ⟨fun _ _ _ r h => by simp [soft_Means.j0] at h, fun _ _ _ _ _ r h => by simp [soft_Means.l0] at h, fun _ _ _ _ _ r h => by simp [soft_Means.l1] at h, fun _ _ _ _ _ _ _ _ _ _ r h => by simp [soft_Means.l2] at h⟩
  | k + 1 => by
    obtain ⟨ih0, ih1, ih2, ih3⟩ := soft_Means.mono_l k
    refine ⟨?_, ?_, ?_, ?_⟩
    · intro y0 y1 y2
      unfold soft_Means.j0
      repeat' first
      | (with_reducible exact ih0 _ _ _)
      | (with_reducible exact ih1 _ _ _ _ _)
      | (with_reducible exact ih2 _ _ _ _ _)
      | (with_reducible exact ih3 _ _ _ _ _ _ _ _ _ _)
      | (with_reducible exact soft_Mean.mono _ _ _)
      | (with_reducible exact soft_total.mono _ _)
      | (with_reducible exact LeO.refl _)
      | (with_reducible exact LeO.none _)
      | (with_reducible refine LeO.ite ?_ ?_)
      | (with_reducible refine LeO.bind ?_ (fun _ => ?_))
      | exact ih0 _ _ _
      | exact ih1 _ _ _ _ _
      | exact ih2 _ _ _ _ _
      | exact ih3 _ _ _ _ _ _ _ _ _ _
      | exact soft_Mean.mono _ _ _
      | exact soft_total.mono _ _
      | exact LeO.none _
      | refine LeO.ite ?_ ?_
      | refine LeO.bind ?_ (fun _ => ?_)
    · intro y0 y1 y2 y3 y4
      unfold soft_Means.l0
      repeat' first
      | (with_reducible exact ih0 _ _ _)
      | (with_reducible exact ih1 _ _ _ _ _)
      | (with_reducible exact ih2 _ _ _ _ _)
      | (with_reducible exact ih3 _ _ _ _ _ _ _ _ _ _)
      | (with_reducible exact soft_Mean.mono _ _ _)
      | (with_reducible exact soft_total.mono _ _)
      | (with_reducible exact LeO.refl _)
      | (with_reducible exact LeO.none _)
      | (with_reducible refine LeO.ite ?_ ?_)
      | (with_reducible refine LeO.bind ?_ (fun _ => ?_))
      | exact ih0 _ _ _
      | exact ih1 _ _ _ _ _
      | exact ih2 _ _ _ _ _
      | exact ih3 _ _ _ _ _ _ _ _ _ _
      | exact soft_Mean.mono _ _ _
      | exact soft_total.mono _ _
      | exact LeO.none _
      | refine LeO.ite ?_ ?_
      | refine LeO.bind ?_ (fun _ => ?_)
    · intro y0 y1 y2 y3 y4
      unfold soft_Means.l1
      repeat' first
      | (with_reducible exact ih0 _ _ _)
      | (with_reducible exact ih1 _ _ _ _ _)
      | (with_reducible exact ih2 _ _ _ _ _)
      | (with_reducible exact ih3 _ _ _ _ _ _ _ _ _ _)
      | (with_reducible exact soft_Mean.mono _ _ _)
      | (with_reducible exact soft_total.mono _ _)
      | (with_reducible exact LeO.refl _)
      | (with_reducible exact LeO.none _)
      | (with_reducible refine LeO.ite ?_ ?_)
      | (with_reducible refine LeO.bind ?_ (fun _ => ?_))
      | exact ih0 _ _ _
      | exact ih1 _ _ _ _ _
      | exact ih2 _ _ _ _ _
      | exact ih3 _ _ _ _ _ _ _ _ _ _
      | exact soft_Mean.mono _ _ _
      | exact soft_total.mono _ _
      | exact LeO.none _
      | refine LeO.ite ?_ ?_
      | refine LeO.bind ?_ (fun _ => ?_)
    · intro y0 y1 y2 y3 y4 y5 y6 y7 y8 y9
      unfold soft_Means.l2
      repeat' first
      | (with_reducible exact ih0 _ _ _)
      | (with_reducible exact ih1 _ _ _ _ _)
      | (with_reducible exact ih2 _ _ _ _ _)
      | (with_reducible exact ih3 _ _ _ _ _ _ _ _ _ _)
      | (with_reducible exact soft_Mean.mono _ _ _)
      | (with_reducible exact soft_total.mono _ _)
      | (with_reducible exact LeO.refl _)
      | (with_reducible exact LeO.none _)
      | (with_reducible refine LeO.ite ?_ ?_)
      | (with_reducible refine LeO.bind ?_ (fun _ => ?_))
      | exact ih0 _ _ _
      | exact ih1 _ _ _ _ _
      | exact ih2 _ _ _ _ _
      | exact ih3 _ _ _ _ _ _ _ _ _ _
      | exact soft_Mean.mono _ _ _
      | exact soft_total.mono _ _
      | exact LeO.none _
      | refine LeO.ite ?_ ?_
      | refine LeO.bind ?_ (fun _ => ?_)
theorem soft_Means.mono : ∀ a0 a1 k, LeO (soft_Means.f k a0 a1) (soft_Means.f (k + 1) a0 a1) := by
  intro a0 a1 k
  obtain ⟨ih0, ih1, ih2, ih3⟩ := soft_Means.mono_l k
  unfold soft_Means.f
  repeat' first
      | (with_reducible exact ih0 _ _ _)
      | (with_reducible exact ih1 _ _ _ _ _)
      | (with_reducible exact ih2 _ _ _ _ _)
      | (with_reducible exact ih3 _ _ _ _ _ _ _ _ _ _)
      | (with_reducible exact soft_Mean.mono _ _ _)
      | (with_reducible exact soft_total.mono _ _)
      | (with_reducible exact LeO.refl _)
      | (with_reducible exact LeO.none _)
      | (with_reducible refine LeO.ite ?_ ?_)
      | (with_reducible refine LeO.bind ?_ (fun _ => ?_))
      | exact ih0 _ _ _
      | exact ih1 _ _ _ _ _
      | exact ih2 _ _ _ _ _
      | exact ih3 _ _ _ _ _ _ _ _ _ _
      | exact soft_Mean.mono _ _ _
      | exact soft_total.mono _ _
      | exact LeO.none _
      | refine LeO.ite ?_ ?_
      | refine LeO.bind ?_ (fun _ => ?_)
set_option maxHeartbeats 8000000 in
set_option maxRecDepth 100000 in
theorem soft_Means.calls (k : Nat) (A0 : Option Addr) (c0 : Nat) (l0 : List Int) (A1 : Option Addr) (c1 : Nat) (l1 : List (List Int)) (r1 : List Int) (r2 : Int) (w : World) (hr0 : Kd.C (Kd.int .i64) w A0 l0.length l0) (hc0 : l0.length ≤ c0) (hr1 : Kd.C (Kd.slice 32 (Kd.int .i8)) w A1 l1.length l1) (hc1 : l1.length ≤ c1) (h : soft_Means.f k l0 l1 = some (r1, r2)) :
    Calls Try.prog 19 #[.slice A0 l0.length c0, .slice A1 l1.length c1] w fun e w' => ∃ v0_ : Value, e = .returned (.tuple #[v0_, .int .i64 r2]) ∧ Kd.R (Kd.int .i8) 32 w' w.heap.size (fun _ => True) v0_ r1 ∧ Below w.heap.size w w' := by
 have HR0 := ym hr0
 have HC0 := ym hc0
 clear hr0 hc0
 have HR1 := ym hr1
 have HC1 := ym hc1
 clear hr1 hc1
 have HB := ym (Below.refl w.heap.size w)
 have H : (if (l0.length : Int) = (l1.length : Int) then (soft_Means.j0 k l0 l1 (decide ((l0.length : Int) > 512))) else (soft_Means.j0 k l0 l1 true)) = some (r1, r2) := h
 clear h
 have HC3 := ym H
 clear H
 go_enter Try.func19, Try.ntmps19
 go_upto_region 1 with (fail)
 go_cut [26] (fun v26 wc => ∃ (kq : Nat) (x26_2 : Bool), v26 = .bool x26_2 ∧ Aside0 (soft_Means.j0 kq l0 l1 x26_2 = some (r1, r2)) ∧ Aside0 (kq ≤ k) ∧ Aside0 (Below w.heap.size w wc))
 case first =>
  have H := HC3.out
  clear HC3
  by_cases c4 : (l0.length : Int) = (l1.length : Int)
  ·
   rw [if_pos c4] at H
   have c4b0 : ((l0.length : Int) == (l1.length : Int)) = true := beq_iff_eq.mpr c4
   have c4b1 : ((l0.length : Int) != (l1.length : Int)) = false := bne_eq_false_iff_eq.mpr c4
   have c4b2 : (l0.length == l1.length) = true := by first | simpa using c4 | (simp at c4 ⊢; omega)
   clear c4
   (first | rw [c4b0] | (simp only [i64_w, i32_w]; rw [c4b0]) | skip)
   have H' := ym H
   clear H
   go_wp2
   go_meet
   case rel => exact ⟨_, (decide ((l0.length : Int) > 512)), (by first | rfl | (simp; done) | (simp [*]; done)), H', ⟨by first | omega | exact Nat.le_refl _⟩, ⟨by repeat (first | (with_reducible first | exact HB.out | apply y3) | exact HB.out)⟩⟩
  rw [if_neg c4] at H
  have c4b0 : ((l0.length : Int) == (l1.length : Int)) = false := beq_eq_false_iff_ne.mpr c4
  have c4b1 : ((l0.length : Int) != (l1.length : Int)) = true := bne_iff_ne.mpr c4
  have c4b2 : (l0.length == l1.length) = false := by first | simpa using c4 | (simp at c4 ⊢; omega)
  (first | rw [c4b0] | (simp only [i64_w, i32_w]; rw [c4b0]) | skip)
  have H' := ym H
  clear H
  go_wp2
  go_meet
  case rel => exact ⟨_, (true), (by first | rfl | (simp; done) | (simp [*]; done)), H', ⟨by first | omega | exact Nat.le_refl _⟩, ⟨by repeat (first | (with_reducible first | exact HB.out | apply y3) | exact HB.out)⟩⟩
 case rest =>
  clear HC3
  try clear c1
  try clear p2
  try clear c4
  try clear c4b0
  try clear c4b1
  try clear c4b2
  obtain ⟨kq, x26_2, rfl, HA, HJ2, HB⟩ := hcut
  cases kq with
  | zero => exact absurd HA.out (by simp [soft_Means.j0])
  | succ kj2 =>
   have H := HA.out
   clear HA
   simp only [soft_Means.j0] at H
   by_cases c5 : x26_2 = true
   ·
    subst c5
    have H1 : (some (([] : List Int), 1)) = some (r1, r2) := by rw [if_pos rfl] at H; exact H
    clear H
    have H := H1
    clear H1
    simp only [Option.some.injEq, Prod.mk.injEq] at H
    obtain ⟨rfl, rfl⟩ := H
    go_wp2
    go_ret2
    exact ⟨_, by first | rfl | (simp [errW_none, errW_some] <;> rfl) | (simp [*, errW_none, errW_some] <;> rfl), by first | exact Kd.R_nil _ _ _ _ _ | exact Kd.N_nil _ _ _ _ _ | exact Kd.V_nil _ _ _ _ _ | exact Kd.Q_nil _ _ _ _ _ | exact Kd.S_nil _ _ _ _ _, by repeat (first | (with_reducible first | exact HB.out | apply y3) | exact HB.out)⟩
   replace c5 := Bool.eq_false_iff.mpr c5
   subst c5
   have H1 : (soft_Means.l0 kj2 l0 l1 l1 (l1.length : Int) 0) = some (r1, r2) := by rw [if_neg (show ¬ (false = true) by decide)] at H; exact H
   clear H
   have H := H1
   clear H1
   have H' := ym H
   clear H
   go_wp2
   go_loopg [29] kj2 (fun kq v29 w' => ∃ (x29_2 : Int), v29 = .int .i64 x29_2 ∧ Aside0 (soft_Means.l0 kq l0 l1 l1 (l1.length : Int) x29_2 = some (r1, r2)) ∧ Aside0 (kq ≤ kj2) ∧ Aside0 (Below w.heap.size w w'))
   case atStart => exact ⟨(0), (by first | rfl | (simp; done) | (simp [*]; done)), H', ⟨Nat.le_refl _⟩, ⟨by repeat (first | (with_reducible first | exact HB.out | apply y3) | exact HB.out)⟩⟩
   case round =>
    clear H'
    try clear c1
    try clear p2
    try clear c4
    try clear c4b0
    try clear c4b1
    try clear c4b2
    try clear c5
    try clear p2
    obtain ⟨x29_2, rfl, HA, HK2, HB⟩ := hrel
    cases gk with
    | zero => exact absurd HA.out (by simp [soft_Means.l0])
    | succ k2 =>
     have H := HA.out
     clear HA
     simp only [soft_Means.l0] at H
     by_cases c6 : x29_2 < (l1.length : Int)
     ·
      rw [if_pos c6] at H
      have c6b0 : decide (x29_2 < (l1.length : Int)) = true := decide_eq_true c6
      clear c6
      by_cases c7 : 0 ≤ x29_2
      ·
       rw [if_pos c7] at H
       have c7b0 : decide (0 ≤ x29_2) = true := decide_eq_true c7
       clear c7
       by_cases c8 : x29_2 < (l1.length : Int)
       ·
        rw [if_pos c8] at H
        have c8b0 : decide (x29_2 < (l1.length : Int)) = true := decide_eq_true c8
        clear c8
        by_cases c9 : 0 < (l1.length : Int)
        ·
         rw [if_pos c9] at H
         have c9b0 : decide (0 < (l1.length : Int)) = true := decide_eq_true c9
         have c9b1 : decide (0 < l1.length) = true := decide_eq_true (by omega)
         clear c9
         by_cases c10 : ((rd_L2 l1 x29_2).length : Int) = ((rd_L2 l1 0).length : Int)
         ·
          rw [if_pos c10] at H
          have c10b0 : (((rd_L2 l1 x29_2).length : Int) == ((rd_L2 l1 0).length : Int)) = true := beq_iff_eq.mpr c10
          have c10b1 : (((rd_L2 l1 x29_2).length : Int) != ((rd_L2 l1 0).length : Int)) = false := bne_eq_false_iff_eq.mpr c10
          have c10b2 : ((rd_L2 l1 x29_2).length == (rd_L2 l1 0).length) = true := by first | simpa using c10 | (simp at c10 ⊢; omega)
          clear c10
          have H' := ym H
          clear H
          have p156 : 0 ≤ (x29_2 : Int) := of_decide_eq_true (by first | (with_reducible assumption) | assumption)
          have q156 : x29_2 < (l1.length : Int) := of_decide_eq_true (by first | (with_reducible assumption) | assumption)
          obtain ⟨ad156, A156_0, c156_0, e156, hx156_0, hl156_0, hi156_0⟩ := at_L2 HR1.out x29_2 p156 q156
          cases e156
          replace hx156_0 := (HB.out.cell (World.block_lt_of_cell? w _ hx156_0)).trans hx156_0
          have HR156_0 := ym hi156_0
          have HC156_0 := ym hl156_0
          clear hi156_0 hl156_0
          replace p156 := eq_true p156
          replace q156 := eq_true q156
          have p157 : 0 ≤ (0 : Int) := (by omega)
          have q157 : 0 < (l1.length : Int) := of_decide_eq_true (by first | (with_reducible assumption) | assumption)
          obtain ⟨ad157, A157_0, c157_0, e157, hx157_0, hl157_0, hi157_0⟩ := at_L2 HR1.out 0 p157 q157
          obtain rfl : ad156 = ad157 := (by injection e157)
          have qi157 : (0 < l1.length) = True := eq_true (by omega)
          (try rw [show ((0 : Int)).toNat = 0 from rfl] at hx157_0)
          (try rw [Addr.add_zero'] at hx157_0)
          replace hx157_0 := (HB.out.cell (World.block_lt_of_cell? w _ hx157_0)).trans hx157_0
          have HR157_0 := ym hi157_0
          have HC157_0 := ym hl157_0
          clear hi157_0 hl157_0
          replace p157 := eq_true p157
          replace q157 := eq_true q157
          go_wp2
          go_roundg k2
          case measure => have := HJ2.out; have := HK2.out; omega
          case rel => exact ⟨(wrap64 (x29_2 + 1)), (by first | rfl | (simp; done) | (simp [*]; done)), H', ⟨by have := HJ2.out; have := HK2.out; omega⟩, ⟨by repeat (first | (with_reducible first | exact HB.out | apply y3) | exact HB.out)⟩⟩
         rw [if_neg c10] at H
         have c10b0 : (((rd_L2 l1 x29_2).length : Int) == ((rd_L2 l1 0).length : Int)) = false := beq_eq_false_iff_ne.mpr c10
         have c10b1 : (((rd_L2 l1 x29_2).length : Int) != ((rd_L2 l1 0).length : Int)) = true := bne_iff_ne.mpr c10
         have c10b2 : ((rd_L2 l1 x29_2).length == (rd_L2 l1 0).length) = false := by first | simpa using c10 | (simp at c10 ⊢; omega)
         simp only [Option.some.injEq, Prod.mk.injEq] at H
         obtain ⟨rfl, rfl⟩ := H
         have p156 : 0 ≤ (x29_2 : Int) := of_decide_eq_true (by first | (with_reducible assumption) | assumption)
         have q156 : x29_2 < (l1.length : Int) := of_decide_eq_true (by first | (with_reducible assumption) | assumption)
         obtain ⟨ad156, A156_0, c156_0, e156, hx156_0, hl156_0, hi156_0⟩ := at_L2 HR1.out x29_2 p156 q156
         cases e156
         replace hx156_0 := (HB.out.cell (World.block_lt_of_cell? w _ hx156_0)).trans hx156_0
         have HR156_0 := ym hi156_0
         have HC156_0 := ym hl156_0
         clear hi156_0 hl156_0
         replace p156 := eq_true p156
         replace q156 := eq_true q156
         have p157 : 0 ≤ (0 : Int) := (by omega)
         have q157 : 0 < (l1.length : Int) := of_decide_eq_true (by first | (with_reducible assumption) | assumption)
         obtain ⟨ad157, A157_0, c157_0, e157, hx157_0, hl157_0, hi157_0⟩ := at_L2 HR1.out 0 p157 q157
         obtain rfl : ad156 = ad157 := (by injection e157)
         have qi157 : (0 < l1.length) = True := eq_true (by omega)
         (try rw [show ((0 : Int)).toNat = 0 from rfl] at hx157_0)
         (try rw [Addr.add_zero'] at hx157_0)
         replace hx157_0 := (HB.out.cell (World.block_lt_of_cell? w _ hx157_0)).trans hx157_0
         have HR157_0 := ym hi157_0
         have HC157_0 := ym hl157_0
         clear hi157_0 hl157_0
         replace p157 := eq_true p157
         replace q157 := eq_true q157
         go_wp2
         go_ret2
         exact ⟨_, by first | rfl | (simp [errW_none, errW_some] <;> rfl) | (simp [*, errW_none, errW_some] <;> rfl), by first | exact Kd.R_nil _ _ _ _ _ | exact Kd.N_nil _ _ _ _ _ | exact Kd.V_nil _ _ _ _ _ | exact Kd.Q_nil _ _ _ _ _ | exact Kd.S_nil _ _ _ _ _, by repeat (first | (with_reducible first | exact HB.out | apply y3) | exact HB.out)⟩
        rw [if_neg c9] at H
        exact absurd H (by simp)
       rw [if_neg c8] at H
       exact absurd H (by simp)
      rw [if_neg c7] at H
      exact absurd H (by simp)
     rw [if_neg c6] at H
     have c6b0 : decide (x29_2 < (l1.length : Int)) = false := decide_eq_false c6
     clear c6
     replace H := Option.bind_eq_some_iff.mp H
     obtain ⟨⟨t158, t159⟩, A110, H⟩ := H
     replace H : (if t159 = 0 then (if 0 < (l1.length : Int) then (soft_Means.l1 k2 l0 l1 ([] : List Int) ((rd_L2 l1 0).length : Int) 0) else (none)) else (some (([] : List Int), t159))) = some (r1, r2) := H
     have A11 := ym A110
     clear A110
     by_cases c12 : t159 = 0
     ·
      rw [if_pos c12] at H
      have c12b0 : (t159 == 0) = true := beq_iff_eq.mpr c12
      have c12b1 : (t159 != 0) = false := bne_eq_false_iff_eq.mpr c12
      clear c12
      by_cases c13 : 0 < (l1.length : Int)
      ·
       rw [if_pos c13] at H
       have c13b0 : decide (0 < (l1.length : Int)) = true := decide_eq_true c13
       have c13b1 : decide (0 < l1.length) = true := decide_eq_true (by omega)
       clear c13
       have H' := ym H
       clear H
       go_wp2_with (first | ((with_reducible refine gate_callee (f := 33) rfl ?_); refine goesL_ (some 43) rfl rfl Try.func33 (by kernel_rfl) rfl #[.slice A0 l0.length c0] rfl (by (try simp only [List.map_toArray, List.map_cons, List.map_nil]); first | done | rfl | (simp only [List.length_drop, List.length_take]; rfl)) ?_; (with_reducible refine (soft_total.calls k2 _ _ l0 t158 t159 _ ?side1 ?side2 A11.out).mono ?_); (case side1 => repeat (first | exact (Kd.C_below HR0.out HB.out) | (with_reducible refine yi ?_ _) | (with_reducible refine yj ?_ _) | (with_reducible refine yk ?_))); (case side2 => exact HC0.out); rintro e w' ⟨rfl, ⟨nd, rfl⟩⟩; refine ⟨_, rfl, ?_⟩; have p160 : 0 ≤ (0 : Int) := (by omega); have q160 : 0 < (l1.length : Int) := of_decide_eq_true (by first | (with_reducible assumption) | assumption); obtain ⟨ad160, A160_0, c160_0, e160, hx160_0, hl160_0, hi160_0⟩ := at_L2 HR1.out 0 p160 q160; cases e160; have qi160 : (0 < l1.length) = True := eq_true (by omega); (try rw [show ((0 : Int)).toNat = 0 from rfl] at hx160_0); (try rw [Addr.add_zero'] at hx160_0); replace hx160_0 := (HB.out.cell (World.block_lt_of_cell? w _ hx160_0)).trans hx160_0; have HR160_0 := ym hi160_0; have HC160_0 := ym hl160_0; clear hi160_0 hl160_0; replace p160 := eq_true p160; replace q160 := eq_true q160))
       go_loopg [10, 53] k2 (fun kq v10 v53 w' => ∃ (x10_3 : List Int) (x53_3 : Int), v53 = .int .i64 x53_3 ∧ Aside0 (soft_Means.l1 kq l0 l1 x10_3 ((rd_L2 l1 0).length : Int) x53_3 = some (r1, r2)) ∧ Aside0 (kq ≤ k2) ∧ Aside0 (Kd.R (Kd.int .i8) 32 w' w.heap.size (fun _ => True) v10 x10_3) ∧ Aside0 (Below w.heap.size w w'))
       case atStart => exact ⟨(([] : List Int)), (0), (by first | rfl | (simp; done) | (simp [*]; done)), H', ⟨Nat.le_refl _⟩, ⟨by first | exact Kd.R_nil _ _ _ _ _ | exact Kd.N_nil _ _ _ _ _ | exact Kd.V_nil _ _ _ _ _ | exact Kd.Q_nil _ _ _ _ _ | exact Kd.S_nil _ _ _ _ _⟩, ⟨by repeat (first | (with_reducible first | exact HB.out | apply y3) | exact HB.out)⟩⟩
       case round =>
        clear H'
        try clear c1
        try clear p1
        try clear q1
        try clear hx1
        try clear qi1
        try clear p2
        try clear c3
        try clear c4
        try clear c4b0
        try clear c4b1
        try clear c4b2
        try clear c5
        try clear c6
        try clear c6b0
        try clear p6
        try clear c7
        try clear c7b0
        try clear c8
        try clear c8b0
        try clear c9
        try clear c9b0
        try clear c9b1
        try clear c10
        try clear c10b0
        try clear c10b1
        try clear c10b2
        try clear c12
        try clear c12b0
        try clear c12b1
        try clear c13
        try clear c13b0
        try clear c13b1
        try clear hx156_0
        try clear hx157_0
        try clear hx160_0
        try clear p156
        try clear p157
        try clear p160
        try clear p2
        try clear q156
        try clear q157
        try clear q160
        obtain ⟨x10_3, x53_3, rfl, HA, HK3, HO_10, HB⟩ := hrel
        cases gk with
        | zero => exact absurd HA.out (by simp [soft_Means.l1])
        | succ k3 =>
         have H := HA.out
         clear HA
         simp only [soft_Means.l1] at H
         by_cases c14 : x53_3 < ((rd_L2 l1 0).length : Int)
         ·
          rw [if_pos c14] at H
          have c14b0 : decide (x53_3 < ((rd_L2 l1 0).length : Int)) = true := decide_eq_true c14
          clear c14
          have H' := ym H
          clear H
          go_wp2
          go_loopg [12, 58] k3 (fun kq v12 v58 w' => ∃ (x12_4 : List Int) (x58_4 : Int), v58 = .int .i64 x58_4 ∧ Aside0 (soft_Means.l2 kq l0 l1 x10_3 x53_3 x12_4 ((rd_L2 l1 0).length : Int) x53_3 l1 (l1.length : Int) x58_4 = some (r1, r2)) ∧ Aside0 (kq ≤ k3) ∧ Aside0 (Kd.R (Kd.int .i8) 32 w' w.heap.size (fun k_ => some k_ ≠ (v12 : Value).ownBlock) u10 x10_3) ∧ Aside0 (Kd.R (Kd.int .i8) 32 w' w.heap.size (fun k_ => some k_ ≠ (u10 : Value).ownBlock) v12 x12_4) ∧ Aside0 (Below w.heap.size w w'))
          case atStart => exact ⟨(([] : List Int)), (0), (by first | rfl | (simp; done) | (simp [*]; done)), H', ⟨Nat.le_refl _⟩, ⟨by (with_reducible repeat apply y2); exact Kd.R_mono HO_10.out (fun _ hk => (by simp [Value.ownBlock]))⟩, ⟨by first | exact Kd.R_nil _ _ _ _ _ | exact Kd.N_nil _ _ _ _ _ | exact Kd.V_nil _ _ _ _ _ | exact Kd.Q_nil _ _ _ _ _ | exact Kd.S_nil _ _ _ _ _⟩, ⟨by repeat (first | (with_reducible first | exact HB.out | apply y3) | exact HB.out)⟩⟩
          case round =>
           clear H'
           try clear c1
           try clear p1
           try clear q1
           try clear hx1
           try clear qi1
           try clear p2
           try clear c3
           try clear c4
           try clear c4b0
           try clear c4b1
           try clear c4b2
           try clear c5
           try clear c6
           try clear c6b0
           try clear p6
           try clear c7
           try clear c7b0
           try clear c8
           try clear c8b0
           try clear c9
           try clear c9b0
           try clear c9b1
           try clear c10
           try clear c10b0
           try clear c10b1
           try clear c10b2
           try clear c12
           try clear c12b0
           try clear c12b1
           try clear c13
           try clear c13b0
           try clear c13b1
           try clear c14
           try clear c14b0
           try clear hx156_0
           try clear hx157_0
           try clear hx160_0
           try clear p1
           try clear p156
           try clear p157
           try clear p160
           try clear p2
           try clear p6
           try clear q1
           try clear q156
           try clear q157
           try clear q160
           obtain ⟨x12_4, x58_4, rfl, HA, HK4, HO_10, HO_12, HB⟩ := hrel
           cases gk with
           | zero => exact absurd HA.out (by simp [soft_Means.l2])
           | succ k4 =>
            have H := HA.out
            clear HA
            simp only [soft_Means.l2] at H
            by_cases c15 : x58_4 < (l1.length : Int)
            ·
             rw [if_pos c15] at H
             have c15b0 : decide (x58_4 < (l1.length : Int)) = true := decide_eq_true c15
             clear c15
             by_cases c16 : 0 ≤ x58_4
             ·
              rw [if_pos c16] at H
              have c16b0 : decide (0 ≤ x58_4) = true := decide_eq_true c16
              clear c16
              by_cases c17 : x58_4 < (l1.length : Int)
              ·
               rw [if_pos c17] at H
               have c17b0 : decide (x58_4 < (l1.length : Int)) = true := decide_eq_true c17
               clear c17
               by_cases c18 : 0 ≤ x53_3
               ·
                rw [if_pos c18] at H
                have c18b0 : decide (0 ≤ x53_3) = true := decide_eq_true c18
                clear c18
                by_cases c19 : x53_3 < ((rd_L2 l1 x58_4).length : Int)
                ·
                 rw [if_pos c19] at H
                 have c19b0 : decide (x53_3 < ((rd_L2 l1 x58_4).length : Int)) = true := decide_eq_true c19
                 clear c19
                 by_cases c20 : x12_4.length < 140737488355328
                 ·
                  rw [if_pos c20] at H
                  have LMc20 := ym c20
                  clear c20
                  obtain ⟨y163, hy163⟩ : ∃ y_ : List Int, y_ = (x12_4 ++ [rd (rd_L2 l1 x58_4) x53_3]) := ⟨_, rfl⟩
                  replace H : (soft_Means.l2 k4 l0 l1 x10_3 x53_3 y163 ((rd_L2 l1 0).length : Int) x53_3 l1 (l1.length : Int) (wrap64 (x58_4 + 1))) = some (r1, r2) := by first | (rw [hy163]; with_reducible exact H) | (have H2_ := (Option.bind_some _ _).symm.trans H; rw [hy163]; with_reducible exact H2_) | (have H2_ := (Option.bind_some _ _).symm.trans H; with_reducible exact H2_) | with_reducible exact H | (rw [hy163]; exact H) | exact H
                  have Ny163 := ym hy163
                  clear hy163
                  have H' := ym H
                  clear H
                  have p161 : 0 ≤ (x58_4 : Int) := of_decide_eq_true (by first | (with_reducible assumption) | assumption)
                  have q161 : x58_4 < (l1.length : Int) := of_decide_eq_true (by first | (with_reducible assumption) | assumption)
                  obtain ⟨ad161, A161_0, c161_0, e161, hx161_0, hl161_0, hi161_0⟩ := at_L2 HR1.out x58_4 p161 q161
                  obtain rfl : ad160 = ad161 := (by injection e161)
                  replace hx161_0 := (HB.out.cell (World.block_lt_of_cell? w _ hx161_0)).trans hx161_0
                  have HR161_0 := ym hi161_0
                  have HC161_0 := ym hl161_0
                  clear hi161_0 hl161_0
                  replace p161 := eq_true p161
                  replace q161 := eq_true q161
                  have p162 : 0 ≤ (x53_3 : Int) := of_decide_eq_true (by first | (with_reducible assumption) | assumption)
                  have q162 : x53_3 < ((rd_L2 l1 x58_4).length : Int) := of_decide_eq_true (by first | (with_reducible assumption) | assumption)
                  obtain ⟨ad162, e162, hx162_0⟩ := Kd.at_int HR161_0.out x53_3 p162 q162
                  cases e162
                  replace hx162_0 := (HB.out.cell (World.block_lt_of_cell? w _ hx162_0)).trans hx162_0
                  replace p162 := eq_true p162
                  replace q162 := eq_true q162
                  go_wp2_with (first | ((with_reducible refine gate_builtin (b := .append) (xs := #[.tmp 62, .tmp 67]) rfl ?_); (try (refine gate_guard (by rfl) ?_; dsimp only)); at_builtin; refine Kd.R_append (Kd.int .i8) (w0 := w) w.heap.size rfl (.tmp 62) (.tmp 67) 31 32 (.int .i8 0) 1 rfl Try.underlying31 info32 rfl (by decide) (by omega) u12 x12_4 (rd (rd_L2 l1 x58_4) x53_3) [.int .i8 (rd (rd_L2 l1 x58_4) x53_3)] (fun k_ => some k_ ≠ (u10 : Value).ownBlock) (fun _ => False) rfl rfl ?aP (fun _ hk => hk.elim) ?aF ?aO ?aB ?aS ?aL ?_; (case aP => exact rfl); (case aB => exact (by repeat (first | (with_reducible first | exact HB.out | apply y3) | exact HB.out))); (case aF => exact (fun k_ hk => Kd.fresh' (Kd.R_lt (by (with_reducible repeat apply y2); exact HO_10.out)) k_ hk)); (case aO => exact (by (with_reducible repeat apply y2); exact HO_12.out)); (case aS => exact (below_size (by repeat (first | (with_reducible first | exact HB.out | apply y3) | exact HB.out)))); (case aL => have := LMc20.out; omega); intro v164 w21 ho hb hg hat; rw [← Ny163.out] at ho; have n0_ := ym (Kd.R_after (ok := (fun _ => True)) (by (with_reducible repeat apply y2); exact Kd.R_mono HO_10.out (fun _ hk => ⟨trivial, hk⟩)) hg hat); have n1_ := ym (hb); have n2_ := ym (ho); clear HO_10; clear HB; clear HO_12; have HO_10 := n0_; have HB := n1_; have HO165 := n2_; clear n0_ n1_ n2_; clear ho hb hg hat))
                  go_roundg k4
                  case measure => have := HJ2.out; have := HK2.out; have := HK3.out; have := HK4.out; omega
                  case rel => exact ⟨(y163), (wrap64 (x58_4 + 1)), (by first | rfl | (simp; done) | (simp [*]; done)), H', ⟨by have := HJ2.out; have := HK2.out; have := HK3.out; have := HK4.out; omega⟩, ⟨by (with_reducible repeat apply y2); exact Kd.R_mono HO_10.out (fun _ hk => hk.2)⟩, ⟨by (with_reducible repeat apply y2); exact HO165.out⟩, ⟨by repeat (first | (with_reducible first | exact HB.out | apply y3) | exact HB.out)⟩⟩
                 rw [if_neg c20] at H
                 exact absurd H (by simp)
                rw [if_neg c19] at H
                exact absurd H (by simp)
               rw [if_neg c18] at H
               exact absurd H (by simp)
              rw [if_neg c17] at H
              exact absurd H (by simp)
             rw [if_neg c16] at H
             exact absurd H (by simp)
            rw [if_neg c15] at H
            have c15b0 : decide (x58_4 < (l1.length : Int)) = false := decide_eq_false c15
            clear c15
            replace H := Option.bind_eq_some_iff.mp H
            obtain ⟨⟨t166, t167⟩, A220, H⟩ := H
            replace H : (if x10_3.length < 140737488355328 then (soft_Means.l1 k4 l0 l1 (x10_3 ++ [t166]) ((rd_L2 l1 0).length : Int) (wrap64 (x53_3 + 1))) else (none)) = some (r1, r2) := H
            have A22 := ym A220
            clear A220
            by_cases c23 : x10_3.length < 140737488355328
            ·
             rw [if_pos c23] at H
             have LMc23 := ym c23
             clear c23
             obtain ⟨y168, hy168⟩ : ∃ y_ : List Int, y_ = (x10_3 ++ [t166]) := ⟨_, rfl⟩
             replace H : (soft_Means.l1 k4 l0 l1 y168 ((rd_L2 l1 0).length : Int) (wrap64 (x53_3 + 1))) = some (r1, r2) := by first | (rw [hy168]; with_reducible exact H) | (have H2_ := (Option.bind_some _ _).symm.trans H; rw [hy168]; with_reducible exact H2_) | (have H2_ := (Option.bind_some _ _).symm.trans H; with_reducible exact H2_) | with_reducible exact H | (rw [hy168]; exact H) | exact H
             have Ny168 := ym hy168
             clear hy168
             have H' := ym H
             clear H
             obtain ⟨Ao24, co24, eo24⟩ := Kd.R_slice HO_12.out
             subst eo24
             go_wp2_with (first | ((with_reducible refine gate_callee (f := 16) rfl ?_); refine goesL_ (some 73) rfl rfl Try.func16 (by kernel_rfl) rfl #[.slice A0 l0.length c0, .slice Ao24 x12_4.length co24] rfl (by (try simp only [List.map_toArray, List.map_cons, List.map_nil]); first | done | rfl | (simp only [List.length_drop, List.length_take]; rfl)) ?_; (with_reducible refine (soft_Mean.calls k4 _ _ l0 _ _ x12_4 t166 t167 _ ?side1 ?side2 ?side3 ?side4 A22.out).mono ?_); (case side1 => repeat (first | exact (Kd.C_below HR0.out HB.out) | (with_reducible refine yi ?_ _) | (with_reducible refine yj ?_ _) | (with_reducible refine yk ?_))); (case side2 => exact HC0.out); (case side3 => repeat (first | exact (Kd.R_reads' HO_12.out).2.2 | (with_reducible refine yi ?_ _) | (with_reducible refine yj ?_ _) | (with_reducible refine yk ?_))); (case side4 => exact (Kd.R_reads' HO_12.out).2.1); rintro e w' ⟨rfl, ⟨nd, rfl⟩⟩; refine ⟨_, rfl, ?_⟩) | ((with_reducible refine gate_builtin (b := .append) (xs := #[.tmp 76, .tmp 78]) rfl ?_); (try (refine gate_guard (by rfl) ?_; dsimp only)); at_builtin; refine Kd.R_append (Kd.int .i8) (w0 := w) w.heap.size rfl (.tmp 76) (.tmp 78) 31 32 (.int .i8 0) 1 rfl Try.underlying31 info32 rfl (by decide) (by omega) u10 x10_3 t166 [.int .i8 t166] (fun k_ => some k_ ≠ (.slice Ao24 x12_4.length co24 : Value).ownBlock) (fun _ => False) rfl rfl ?aP (fun _ hk => hk.elim) ?aF ?aO ?aB ?aS ?aL ?_; (case aP => exact rfl); (case aB => exact (by repeat (first | (with_reducible first | exact HB.out | apply y3) | exact HB.out))); (case aF => exact (fun k_ hk => Kd.fresh' (Kd.R_lt (by (with_reducible repeat apply y2); exact HO_12.out)) k_ hk)); (case aO => exact (by (with_reducible repeat apply y2); exact HO_10.out)); (case aS => exact (below_size (by repeat (first | (with_reducible first | exact HB.out | apply y3) | exact HB.out)))); (case aL => have := LMc23.out; omega); intro v169 w25 ho hb hg hat; rw [← Ny168.out] at ho; have n0_ := ym (Kd.R_after (ok := (fun _ => True)) (by (with_reducible repeat apply y2); exact Kd.R_mono HO_12.out (fun _ hk => ⟨trivial, hk⟩)) hg hat); have n1_ := ym (hb); have n2_ := ym (ho); clear HO_12; clear HB; clear HO_10; have HO_12 := n0_; have HB := n1_; have HO170 := n2_; clear n0_ n1_ n2_; clear ho hb hg hat))
             go_roundg k4
             case measure => have := HJ2.out; have := HK2.out; have := HK3.out; have := HK4.out; omega
             case rel => exact ⟨(y168), (wrap64 (x53_3 + 1)), (by first | rfl | (simp; done) | (simp [*]; done)), H', ⟨by have := HJ2.out; have := HK2.out; have := HK3.out; have := HK4.out; omega⟩, ⟨by (with_reducible repeat apply y2); exact Kd.R_mono HO170.out (fun _ hk => trivial)⟩, ⟨by repeat (first | (with_reducible first | exact HB.out | apply y3) | exact HB.out)⟩⟩
            rw [if_neg c23] at H
            exact absurd H (by simp)
         rw [if_neg c14] at H
         have c14b0 : decide (x53_3 < ((rd_L2 l1 0).length : Int)) = false := decide_eq_false c14
         clear c14
         simp only [Option.some.injEq, Prod.mk.injEq] at H
         obtain ⟨rfl, rfl⟩ := H
         go_wp2
         go_ret2
         exact ⟨_, by first | rfl | (simp [errW_none, errW_some] <;> rfl) | (simp [*, errW_none, errW_some] <;> rfl), by (with_reducible repeat apply y2); exact HO_10.out, by repeat (first | (with_reducible first | exact HB.out | apply y3) | exact HB.out)⟩
      rw [if_neg c13] at H
      exact absurd H (by simp)
     rw [if_neg c12] at H
     have c12b0 : (t159 == 0) = false := beq_eq_false_iff_ne.mpr c12
     have c12b1 : (t159 != 0) = true := bne_iff_ne.mpr c12
     simp only [Option.some.injEq, Prod.mk.injEq] at H
     obtain ⟨rfl, rfl⟩ := H
     go_wp2_with (first | ((with_reducible refine gate_callee (f := 33) rfl ?_); refine goesL_ (some 43) rfl rfl Try.func33 (by kernel_rfl) rfl #[.slice A0 l0.length c0] rfl (by (try simp only [List.map_toArray, List.map_cons, List.map_nil]); first | done | rfl | (simp only [List.length_drop, List.length_take]; rfl)) ?_; (with_reducible refine (soft_total.calls k2 _ _ l0 t158 t159 _ ?side1 ?side2 A11.out).mono ?_); (case side1 => repeat (first | exact (Kd.C_below HR0.out HB.out) | (with_reducible refine yi ?_ _) | (with_reducible refine yj ?_ _) | (with_reducible refine yk ?_))); (case side2 => exact HC0.out); rintro e w' ⟨rfl, ⟨nd, rfl⟩⟩; refine ⟨_, rfl, ?_⟩))
     go_ret2
     exact ⟨_, by first | rfl | (simp [errW_none, errW_some] <;> rfl) | (simp [*, errW_none, errW_some] <;> rfl), by first | exact Kd.R_nil _ _ _ _ _ | exact Kd.N_nil _ _ _ _ _ | exact Kd.V_nil _ _ _ _ _ | exact Kd.Q_nil _ _ _ _ _ | exact Kd.S_nil _ _ _ _ _, by repeat (first | (with_reducible first | exact HB.out | apply y3) | exact HB.out)⟩

end Go.Proofs.Ytmpldbccohdnjaa.P
