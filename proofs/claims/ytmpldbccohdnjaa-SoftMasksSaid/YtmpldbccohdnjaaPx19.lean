-- Printed by xprint.py (wip): functions, contracts, rows. Lean checks it.
import Derived.Test.YtmpldbccohdnjaaPx0
import Derived.Test.YtmpldbccohdnjaaPx4
namespace Go.Proofs.Ytmpldbccohdnjaa.P
open Go.RowKit Go.Proofs.YtmpldbccohdnjaaW.PrintWords Go.Proofs.YtmpldbccohdnjaaW.PrintLast Go.Proofs.YtmpldbccohdnjaaW.PrintMore
attribute [local go_sem] max2_int min2_int max_two min_two max_three min_three max_four min_four   -- for this text's walks alone
set_option linter.unusedVariables false
set_option linter.unusedSimpArgs false

/-! ### soft_Masked: function 21 -/
mutual
def soft_Masked.j0 : Nat → List Int → List Bool → Bool → Option (List Int × Int)
  | 0, _, _, _ => none
  | k + 1, x0, x1, x28 => if x28 = true then (some (([] : List Int), 1)) else (soft_Masked.l0 k x0 x1 ([] : List Int) x1 (x1.length : Int) 0)
def soft_Masked.l0 : Nat → List Int → List Bool → List Int → List Bool → Int → Int → Option (List Int × Int)
  | 0, _, _, _, _, _, _ => none
  | k + 1, x0, x1, x6, x29, x30, x31 => if x31 < x30 then (if 0 ≤ x31 then (if x31 < (x29.length : Int) then (if rdOf false x29 x31 = true then (if x31 < (x0.length : Int) then (if x6.length < 17592186044416 then (soft_Masked.l0 k x0 x1 (x6 ++ [rd x0 x31]) x29 x30 (wrap64 (x31 + 1))) else (none)) else (none)) else (soft_Masked.l0 k x0 x1 x6 x29 x30 (wrap64 (x31 + 1)))) else (none)) else (none)) else (if (x6.length : Int) = 0 then (some (([] : List Int), 111)) else ((soft_Weights.f k x6).bind fun bt301 => (if 0 ≤ (x0.length : Int) then (if ((x0.length : Int) : Int).toNat ≤ 35184372088832 then (soft_Masked.l1 k bt301.1 (List.replicate ((x0.length : Int) : Int).toNat 0) x1 (x1.length : Int) 0) else (none)) else (none))))
def soft_Masked.l1 : Nat → List Int → List Int → List Bool → Int → Int → Option (List Int × Int)
  | 0, _, _, _, _, _ => none
  | k + 1, x9, x11, x56, x57, x58 => if x58 < x57 then (if 0 ≤ x58 then (if x58 < (x56.length : Int) then (if rdOf false x56 x58 = true then (if 0 < (x9.length : Int) then (if 1 ≤ (x9.length : Int) then (if x58 < (x11.length : Int) then (soft_Masked.l1 k (x9.drop (1 : Int).toNat) (x11.set (x58 : Int).toNat (rd x9 0)) x56 x57 (wrap64 (x58 + 1))) else (none)) else (none)) else (none)) else (soft_Masked.l1 k x9 x11 x56 x57 (wrap64 (x58 + 1)))) else (none)) else (none)) else (some (x11, 0))
end
def soft_Masked.f (k : Nat) (l0 : List Int) (l1 : List Bool) : Option (List Int × Int) := if (l0.length : Int) = 0 then (soft_Masked.j0 k l0 l1 true) else (if (l0.length : Int) > 512 then (soft_Masked.j0 k l0 l1 true) else (soft_Masked.j0 k l0 l1 ((l1.length : Int) != (l0.length : Int))))
theorem soft_Masked.mono_l : ∀ k, (∀ y0 y1 y2, LeO (soft_Masked.j0 k y0 y1 y2) (soft_Masked.j0 (k + 1) y0 y1 y2)) ∧ (∀ y0 y1 y2 y3 y4 y5, LeO (soft_Masked.l0 k y0 y1 y2 y3 y4 y5) (soft_Masked.l0 (k + 1) y0 y1 y2 y3 y4 y5)) ∧ (∀ y0 y1 y2 y3 y4, LeO (soft_Masked.l1 k y0 y1 y2 y3 y4) (soft_Masked.l1 (k + 1) y0 y1 y2 y3 y4))
  | 0 => ⟨fun _ _ _ r h => by simp [soft_Masked.j0] at h, fun _ _ _ _ _ _ r h => by simp [soft_Masked.l0] at h, fun _ _ _ _ _ r h => by simp [soft_Masked.l1] at h⟩
  | k + 1 => by
    obtain ⟨ih0, ih1, ih2⟩ := soft_Masked.mono_l k
    refine ⟨?_, ?_, ?_⟩
    · intro y0 y1 y2
      unfold soft_Masked.j0
      repeat' first
      | (with_reducible exact ih0 _ _ _)
      | (with_reducible exact ih1 _ _ _ _ _ _)
      | (with_reducible exact ih2 _ _ _ _ _)
      | (with_reducible exact soft_Weights.mono _ _)
      | (with_reducible exact LeO.refl _)
      | (with_reducible exact LeO.none _)
      | (with_reducible refine LeO.ite ?_ ?_)
      | (with_reducible refine LeO.bind ?_ (fun _ => ?_))
      | exact ih0 _ _ _
      | exact ih1 _ _ _ _ _ _
      | exact ih2 _ _ _ _ _
      | exact soft_Weights.mono _ _
      | exact LeO.none _
      | refine LeO.ite ?_ ?_
      | refine LeO.bind ?_ (fun _ => ?_)
    · intro y0 y1 y2 y3 y4 y5
      unfold soft_Masked.l0
      repeat' first
      | (with_reducible exact ih0 _ _ _)
      | (with_reducible exact ih1 _ _ _ _ _ _)
      | (with_reducible exact ih2 _ _ _ _ _)
      | (with_reducible exact soft_Weights.mono _ _)
      | (with_reducible exact LeO.refl _)
      | (with_reducible exact LeO.none _)
      | (with_reducible refine LeO.ite ?_ ?_)
      | (with_reducible refine LeO.bind ?_ (fun _ => ?_))
      | exact ih0 _ _ _
      | exact ih1 _ _ _ _ _ _
      | exact ih2 _ _ _ _ _
      | exact soft_Weights.mono _ _
      | exact LeO.none _
      | refine LeO.ite ?_ ?_
      | refine LeO.bind ?_ (fun _ => ?_)
    · intro y0 y1 y2 y3 y4
      unfold soft_Masked.l1
      repeat' first
      | (with_reducible exact ih0 _ _ _)
      | (with_reducible exact ih1 _ _ _ _ _ _)
      | (with_reducible exact ih2 _ _ _ _ _)
      | (with_reducible exact soft_Weights.mono _ _)
      | (with_reducible exact LeO.refl _)
      | (with_reducible exact LeO.none _)
      | (with_reducible refine LeO.ite ?_ ?_)
      | (with_reducible refine LeO.bind ?_ (fun _ => ?_))
      | exact ih0 _ _ _
      | exact ih1 _ _ _ _ _ _
      | exact ih2 _ _ _ _ _
      | exact soft_Weights.mono _ _
      | exact LeO.none _
      | refine LeO.ite ?_ ?_
      | refine LeO.bind ?_ (fun _ => ?_)
theorem soft_Masked.mono : ∀ a0 a1 k, LeO (soft_Masked.f k a0 a1) (soft_Masked.f (k + 1) a0 a1) := by
  intro a0 a1 k
  obtain ⟨ih0, ih1, ih2⟩ := soft_Masked.mono_l k
  unfold soft_Masked.f
  repeat' first
      | (with_reducible exact ih0 _ _ _)
      | (with_reducible exact ih1 _ _ _ _ _ _)
      | (with_reducible exact ih2 _ _ _ _ _)
      | (with_reducible exact soft_Weights.mono _ _)
      | (with_reducible exact LeO.refl _)
      | (with_reducible exact LeO.none _)
      | (with_reducible refine LeO.ite ?_ ?_)
      | (with_reducible refine LeO.bind ?_ (fun _ => ?_))
      | exact ih0 _ _ _
      | exact ih1 _ _ _ _ _ _
      | exact ih2 _ _ _ _ _
      | exact soft_Weights.mono _ _
      | exact LeO.none _
      | refine LeO.ite ?_ ?_
      | refine LeO.bind ?_ (fun _ => ?_)
def soft_Masked.T18 : Bool × List (List Nat × List Nat) := (true, [([], []), ([], []), ([], []), ([2], [2]), ([3], [3]), ([], []), ([5], [5]), ([0, 1, 0, 1, 2, 3, 4], [0, 1]), ([7, 4, 0, 1, 2, 3, 4], [4, 7]), ([6, 8, 0, 1, 2, 3, 4, 5, 6, 7, 8], [2, 5, 6])])
def soft_Masked.B18 : List Nat := [0, 0, 0, 4, 12, 0, 32, 31, 159, 511]
theorem soft_Masked.tab18 : rtab .any (opsOf Try.f21 18) = soft_Masked.T18 := by kernel_rfl
theorem soft_Masked.bits18 : waitsOk soft_Masked.T18.2 soft_Masked.B18 = true := by kernel_rfl
set_option maxHeartbeats 8000000 in
set_option maxRecDepth 100000 in
theorem soft_Masked.calls (k : Nat) (A0 : Option Addr) (c0 : Nat) (l0 : List Int) (A1 : Option Addr) (c1 : Nat) (l1 : List Bool) (r1 : List Int) (r2 : Int) (w : World) (hr0 : Kd.C (Kd.int .i64) w A0 l0.length l0) (hc0 : l0.length ≤ c0) (hr1 : Kd.C Kd.bool w A1 l1.length l1) (hc1 : l1.length ≤ c1) (h : soft_Masked.f k l0 l1 = some (r1, r2)) :
    Calls Try.prog 21 #[.slice A0 l0.length c0, .slice A1 l1.length c1] w fun e w' => ∃ v0_ : Value, e = .returned (.tuple #[v0_, .int .i64 r2]) ∧ Kd.R (Kd.int .i64) 2 w' w.heap.size (fun _ => True) v0_ r1 ∧ Below w.heap.size w w' := by
 have HR0 := ym hr0
 have HC0 := ym hc0
 clear hr0 hc0
 have HR1 := ym hr1
 have HC1 := ym hc1
 clear hr1 hc1
 have HB := ym (Below.refl w.heap.size w)
 have H : (if (l0.length : Int) = 0 then (soft_Masked.j0 k l0 l1 true) else (if (l0.length : Int) > 512 then (soft_Masked.j0 k l0 l1 true) else (soft_Masked.j0 k l0 l1 ((l1.length : Int) != (l0.length : Int))))) = some (r1, r2) := h
 clear h
 have HC3 := ym H
 clear H
 go_enter Try.func21, Try.ntmps21
 go_upto_region 1 with (fail)
 go_cut [28] (fun v28 wc => ∃ (kq : Nat) (x28_2 : Bool), v28 = .bool x28_2 ∧ Aside0 (soft_Masked.j0 kq l0 l1 x28_2 = some (r1, r2)) ∧ Aside0 (kq ≤ k) ∧ Aside0 (Below w.heap.size w wc))
 case first =>
  have H := HC3.out
  clear HC3
  by_cases c4 : (l0.length : Int) = 0
  ·
   rw [if_pos c4] at H
   have c4b0 : ((l0.length : Int) == 0) = true := beq_iff_eq.mpr c4
   have c4b1 : ((l0.length : Int) != 0) = false := bne_eq_false_iff_eq.mpr c4
   clear c4
   (first | rw [c4b0] | (simp only [i64_w, i32_w]; rw [c4b0]) | skip)
   have H' := ym H
   clear H
   go_wp2
   go_meet
   case rel => exact ⟨_, (true), (by first | rfl | (simp; done) | (simp [*]; done)), H', ⟨by first | omega | exact Nat.le_refl _⟩, ⟨by repeat (first | (with_reducible first | exact HB.out | apply y3) | exact HB.out)⟩⟩
  rw [if_neg c4] at H
  have c4b0 : ((l0.length : Int) == 0) = false := beq_eq_false_iff_ne.mpr c4
  have c4b1 : ((l0.length : Int) != 0) = true := bne_iff_ne.mpr c4
  have c4b2 : ¬ (l0 = []) := fun h_ => c4 (by rw [h_]; rfl)
  (first | rw [c4b0] | (simp only [i64_w, i32_w]; rw [c4b0]) | skip)
  by_cases c5 : (l0.length : Int) > 512
  ·
   rw [if_pos c5] at H
   have c5b0 : decide (512 < (l0.length : Int)) = true := decide_eq_true c5
   have c5b1 : decide (512 < l0.length) = true := decide_eq_true (by omega)
   clear c5
   have H' := ym H
   clear H
   go_wp2
   go_meet
   case rel => exact ⟨_, (true), (by first | rfl | (simp; done) | (simp [*]; done)), H', ⟨by first | omega | exact Nat.le_refl _⟩, ⟨by repeat (first | (with_reducible first | exact HB.out | apply y3) | exact HB.out)⟩⟩
  rw [if_neg c5] at H
  have c5b0 : decide (512 < (l0.length : Int)) = false := decide_eq_false c5
  have c5b1 : decide (512 < l0.length) = false := decide_eq_false (by omega)
  clear c5
  have H' := ym H
  clear H
  go_wp2
  go_meet
  case rel => exact ⟨_, (((l1.length : Int) != (l0.length : Int))), (by first | rfl | (simp; done) | (simp [*]; done)), H', ⟨by first | omega | exact Nat.le_refl _⟩, ⟨by repeat (first | (with_reducible first | exact HB.out | apply y3) | exact HB.out)⟩⟩
 case rest =>
  clear HC3
  try clear c1
  try clear c2
  try clear p2
  try clear c4
  try clear c4b0
  try clear c4b1
  try clear c4b2
  try clear c5
  try clear c5b0
  try clear c5b1
  obtain ⟨kq, x28_2, rfl, HA, HJ2, HB⟩ := hcut
  cases kq with
  | zero => exact absurd HA.out (by simp [soft_Masked.j0])
  | succ kj2 =>
   have H := HA.out
   clear HA
   simp only [soft_Masked.j0] at H
   by_cases c6 : x28_2 = true
   ·
    subst c6
    have H1 : (some (([] : List Int), 1)) = some (r1, r2) := by rw [if_pos rfl] at H; exact H
    clear H
    have H := H1
    clear H1
    simp only [Option.some.injEq, Prod.mk.injEq] at H
    obtain ⟨rfl, rfl⟩ := H
    go_wp2
    go_ret2
    exact ⟨_, by first | rfl | (simp [errW_none, errW_some] <;> rfl) | (simp [*, errW_none, errW_some] <;> rfl), by first | exact Kd.R_nil _ _ _ _ _ | exact Kd.N_nil _ _ _ _ _ | exact Kd.V_nil _ _ _ _ _ | exact Kd.Q_nil _ _ _ _ _ | exact Kd.S_nil _ _ _ _ _, by repeat (first | (with_reducible first | exact HB.out | apply y3) | exact HB.out)⟩
   replace c6 := Bool.eq_false_iff.mpr c6
   subst c6
   have H1 : (soft_Masked.l0 kj2 l0 l1 ([] : List Int) l1 (l1.length : Int) 0) = some (r1, r2) := by rw [if_neg (show ¬ (false = true) by decide)] at H; exact H
   clear H
   have H := H1
   clear H1
   have H' := ym H
   clear H
   go_wp2
   go_loopg [6, 31] kj2 (fun kq v6 v31 w' => ∃ (x6_2 : List Int) (x31_2 : Int), v31 = .int .i64 x31_2 ∧ Aside0 (soft_Masked.l0 kq l0 l1 x6_2 l1 (l1.length : Int) x31_2 = some (r1, r2)) ∧ Aside0 (kq ≤ kj2) ∧ Aside0 (Kd.R (Kd.int .i64) 2 w' w.heap.size (fun _ => True) v6 x6_2) ∧ Aside0 (Below w.heap.size w w'))
   case atStart => exact ⟨(([] : List Int)), (0), (by first | rfl | (simp; done) | (simp [*]; done)), H', ⟨Nat.le_refl _⟩, ⟨by first | exact Kd.R_nil _ _ _ _ _ | exact Kd.N_nil _ _ _ _ _ | exact Kd.V_nil _ _ _ _ _ | exact Kd.Q_nil _ _ _ _ _ | exact Kd.S_nil _ _ _ _ _⟩, ⟨by repeat (first | (with_reducible first | exact HB.out | apply y3) | exact HB.out)⟩⟩
   case round =>
    clear H'
    try clear c1
    try clear c2
    try clear p2
    try clear c4
    try clear c4b0
    try clear c4b1
    try clear c4b2
    try clear c5
    try clear c5b0
    try clear c5b1
    try clear c6
    try clear p2
    obtain ⟨x6_2, x31_2, rfl, HA, HK2, HO_6, HB⟩ := hrel
    cases gk with
    | zero => exact absurd HA.out (by simp [soft_Masked.l0])
    | succ k2 =>
     have H := HA.out
     clear HA
     simp only [soft_Masked.l0] at H
     by_cases c7 : x31_2 < (l1.length : Int)
     ·
      rw [if_pos c7] at H
      have c7b0 : decide (x31_2 < (l1.length : Int)) = true := decide_eq_true c7
      clear c7
      by_cases c8 : 0 ≤ x31_2
      ·
       rw [if_pos c8] at H
       have c8b0 : decide (0 ≤ x31_2) = true := decide_eq_true c8
       clear c8
       by_cases c9 : x31_2 < (l1.length : Int)
       ·
        rw [if_pos c9] at H
        have c9b0 : decide (x31_2 < (l1.length : Int)) = true := decide_eq_true c9
        clear c9
        obtain ⟨bq10, hbq10⟩ : ∃ b_ : Bool, b_ = (rdOf false l1 x31_2) := ⟨_, rfl⟩
        replace H : (if bq10 = true then (if x31_2 < (l0.length : Int) then (if x6_2.length < 17592186044416 then (soft_Masked.l0 k2 l0 l1 (x6_2 ++ [rd l0 x31_2]) l1 (l1.length : Int) (wrap64 (x31_2 + 1))) else (none)) else (none)) else (soft_Masked.l0 k2 l0 l1 x6_2 l1 (l1.length : Int) (wrap64 (x31_2 + 1)))) = some (r1, r2) := by rw [← hbq10] at H; exact H
        have Nbq10 := ym hbq10
        clear hbq10
        by_cases c11 : bq10 = true
        ·
         subst c11
         have H1 : (if x31_2 < (l0.length : Int) then (if x6_2.length < 17592186044416 then (soft_Masked.l0 k2 l0 l1 (x6_2 ++ [rd l0 x31_2]) l1 (l1.length : Int) (wrap64 (x31_2 + 1))) else (none)) else (none)) = some (r1, r2) := by rw [if_pos rfl] at H; exact H
         clear H
         have H := H1
         clear H1
         by_cases c12 : x31_2 < (l0.length : Int)
         ·
          rw [if_pos c12] at H
          have c12b0 : decide (x31_2 < (l0.length : Int)) = true := decide_eq_true c12
          clear c12
          by_cases c13 : x6_2.length < 17592186044416
          ·
           rw [if_pos c13] at H
           have LMc13 := ym c13
           clear c13
           obtain ⟨y298, hy298⟩ : ∃ y_ : List Int, y_ = (x6_2 ++ [rd l0 x31_2]) := ⟨_, rfl⟩
           replace H : (soft_Masked.l0 k2 l0 l1 y298 l1 (l1.length : Int) (wrap64 (x31_2 + 1))) = some (r1, r2) := by first | (rw [hy298]; with_reducible exact H) | (have H2_ := (Option.bind_some _ _).symm.trans H; rw [hy298]; with_reducible exact H2_) | (have H2_ := (Option.bind_some _ _).symm.trans H; with_reducible exact H2_) | with_reducible exact H | (rw [hy298]; exact H) | exact H
           have Ny298 := ym hy298
           clear hy298
           have H' := ym H
           clear H
           have p296 : 0 ≤ (x31_2 : Int) := of_decide_eq_true (by first | (with_reducible assumption) | assumption)
           have q296 : x31_2 < (l1.length : Int) := of_decide_eq_true (by first | (with_reducible assumption) | assumption)
           obtain ⟨ad296, e296, hx296_0⟩ := Kd.at_bool HR1.out x31_2 p296 q296
           (try rw [← Nbq10.out] at hx296_0)
           cases e296
           replace hx296_0 := (HB.out.cell (World.block_lt_of_cell? w _ hx296_0)).trans hx296_0
           replace p296 := eq_true p296
           replace q296 := eq_true q296
           have p297 : 0 ≤ (x31_2 : Int) := of_decide_eq_true (by first | (with_reducible assumption) | assumption)
           have q297 : x31_2 < (l0.length : Int) := of_decide_eq_true (by first | (with_reducible assumption) | assumption)
           obtain ⟨ad297, e297, hx297_0⟩ := Kd.at_int HR0.out x31_2 p297 q297
           cases e297
           replace hx297_0 := (HB.out.cell (World.block_lt_of_cell? w _ hx297_0)).trans hx297_0
           replace p297 := eq_true p297
           replace q297 := eq_true q297
           go_wp2_with (first | ((with_reducible refine gate_builtin (b := .append) (xs := #[.tmp 37, .tmp 42]) rfl ?_); (try (refine gate_guard (by rfl) ?_; dsimp only)); at_builtin; refine Kd.R_append (Kd.int .i64) (w0 := w) w.heap.size rfl (.tmp 37) (.tmp 42) 22 2 (.int .i64 0) 8 rfl Try.underlying22 info2 rfl (by decide) (by omega) u6 x6_2 (rd l0 x31_2) [.int .i64 (rd l0 x31_2)] (fun _ => True) (fun _ => False) rfl rfl ?aP (fun _ hk => hk.elim) ?aF ?aO ?aB ?aS ?aL ?_; (case aP => exact rfl); (case aB => exact (by repeat (first | (with_reducible first | exact HB.out | apply y3) | exact HB.out))); (case aF => exact (fun _ _ => trivial)); (case aO => exact (by (with_reducible repeat apply y2); exact HO_6.out)); (case aS => exact (below_size (by repeat (first | (with_reducible first | exact HB.out | apply y3) | exact HB.out)))); (case aL => have := LMc13.out; omega); intro v299 w14 ho hb hg hat; rw [← Ny298.out] at ho; have n0_ := ym (hb); have n1_ := ym (ho); clear HB; clear HO_6; have HB := n0_; have HO300 := n1_; clear n0_ n1_; clear ho hb hg hat))
           go_roundg k2
           case measure => have := HJ2.out; have := HK2.out; omega
           case rel => exact ⟨(y298), (wrap64 (x31_2 + 1)), (by first | rfl | (simp; done) | (simp [*]; done)), H', ⟨by have := HJ2.out; have := HK2.out; omega⟩, ⟨by (with_reducible repeat apply y2); exact HO300.out⟩, ⟨by repeat (first | (with_reducible first | exact HB.out | apply y3) | exact HB.out)⟩⟩
          rw [if_neg c13] at H
          exact absurd H (by simp)
         rw [if_neg c12] at H
         exact absurd H (by simp)
        replace c11 := Bool.eq_false_iff.mpr c11
        subst c11
        have H1 : (soft_Masked.l0 k2 l0 l1 x6_2 l1 (l1.length : Int) (wrap64 (x31_2 + 1))) = some (r1, r2) := by rw [if_neg (show ¬ (false = true) by decide)] at H; exact H
        clear H
        have H := H1
        clear H1
        have H' := ym H
        clear H
        have p296 : 0 ≤ (x31_2 : Int) := of_decide_eq_true (by first | (with_reducible assumption) | assumption)
        have q296 : x31_2 < (l1.length : Int) := of_decide_eq_true (by first | (with_reducible assumption) | assumption)
        obtain ⟨ad296, e296, hx296_0⟩ := Kd.at_bool HR1.out x31_2 p296 q296
        (try rw [← Nbq10.out] at hx296_0)
        cases e296
        replace hx296_0 := (HB.out.cell (World.block_lt_of_cell? w _ hx296_0)).trans hx296_0
        replace p296 := eq_true p296
        replace q296 := eq_true q296
        go_wp2
        go_roundg k2
        case measure => have := HJ2.out; have := HK2.out; omega
        case rel => exact ⟨(x6_2), (wrap64 (x31_2 + 1)), (by first | rfl | (simp; done) | (simp [*]; done)), H', ⟨by have := HJ2.out; have := HK2.out; omega⟩, ⟨by (with_reducible repeat apply y2); exact HO_6.out⟩, ⟨by repeat (first | (with_reducible first | exact HB.out | apply y3) | exact HB.out)⟩⟩
       rw [if_neg c9] at H
       exact absurd H (by simp)
      rw [if_neg c8] at H
      exact absurd H (by simp)
     rw [if_neg c7] at H
     have c7b0 : decide (x31_2 < (l1.length : Int)) = false := decide_eq_false c7
     clear c7
     by_cases c15 : (x6_2.length : Int) = 0
     ·
      rw [if_pos c15] at H
      have c15b0 : ((x6_2.length : Int) == 0) = true := beq_iff_eq.mpr c15
      have c15b1 : ((x6_2.length : Int) != 0) = false := bne_eq_false_iff_eq.mpr c15
      clear c15
      simp only [Option.some.injEq, Prod.mk.injEq] at H
      obtain ⟨rfl, rfl⟩ := H
      obtain ⟨Ao16, co16, eo16⟩ := Kd.R_slice HO_6.out
      subst eo16
      go_wp2
      go_ret2
      exact ⟨_, by first | rfl | (simp [errW_none, errW_some] <;> rfl) | (simp [*, errW_none, errW_some] <;> rfl), by first | exact Kd.R_nil _ _ _ _ _ | exact Kd.N_nil _ _ _ _ _ | exact Kd.V_nil _ _ _ _ _ | exact Kd.Q_nil _ _ _ _ _ | exact Kd.S_nil _ _ _ _ _, by repeat (first | (with_reducible first | exact HB.out | apply y3) | exact HB.out)⟩
     rw [if_neg c15] at H
     have c15b0 : ((x6_2.length : Int) == 0) = false := beq_eq_false_iff_ne.mpr c15
     have c15b1 : ((x6_2.length : Int) != 0) = true := bne_iff_ne.mpr c15
     have c15b2 : ¬ (x6_2 = []) := fun h_ => c15 (by rw [h_]; rfl)
     replace H := Option.bind_eq_some_iff.mp H
     obtain ⟨⟨t301, t302⟩, A170, H⟩ := H
     replace H : (if 0 ≤ (l0.length : Int) then (if ((l0.length : Int) : Int).toNat ≤ 35184372088832 then (soft_Masked.l1 k2 t301 (List.replicate ((l0.length : Int) : Int).toNat 0) l1 (l1.length : Int) 0) else (none)) else (none)) = some (r1, r2) := H
     have A17 := ym A170
     clear A170
     by_cases c18 : 0 ≤ (l0.length : Int)
     ·
      rw [if_pos c18] at H
      have c18b0 := eq_true c18
      have c18b1 : decide (0 ≤ (l0.length : Int)) = true := decide_eq_true c18
      clear c18
      by_cases c19 : ((l0.length : Int) : Int).toNat ≤ 35184372088832
      ·
       rw [if_pos c19] at H
       have c19b0 := eq_true c19
       have c19b1 : decide (((l0.length : Int) : Int).toNat ≤ 35184372088832) = true := decide_eq_true c19
       clear c19
       obtain ⟨y305, hy305⟩ : ∃ y_ : List Int, y_ = (List.replicate ((l0.length : Int) : Int).toNat 0) := ⟨_, rfl⟩
       replace H : (soft_Masked.l1 k2 t301 y305 l1 (l1.length : Int) 0) = some (r1, r2) := by first | (rw [hy305]; with_reducible exact H) | (have H2_ := (Option.bind_some _ _).symm.trans H; rw [hy305]; with_reducible exact H2_) | (have H2_ := (Option.bind_some _ _).symm.trans H; with_reducible exact H2_) | with_reducible exact H | (rw [hy305]; exact H) | exact H
       have Ny305 := ym hy305
       clear hy305
       have H' := ym H
       clear H
       obtain ⟨Ao20, co20, eo20⟩ := Kd.R_slice HO_6.out
       subst eo20
       go_wp2_with (first | ((with_reducible refine gate_callee (f := 12) rfl ?_); refine goesL_ (some 50) rfl rfl Try.func12 (by kernel_rfl) rfl #[.slice Ao20 x6_2.length co20] rfl (by (try simp only [List.map_toArray, List.map_cons, List.map_nil]); first | done | rfl | (simp only [List.length_drop, List.length_take]; rfl)) ?_; (with_reducible refine (soft_Weights.calls k2 _ _ x6_2 t301 t302 _ ?side1 ?side2 A17.out).mono ?_); (case side1 => repeat (first | exact (Kd.R_reads' HO_6.out).2.2 | (with_reducible refine yi ?_ _) | (with_reducible refine yj ?_ _) | (with_reducible refine yk ?_))); (case side2 => exact (Kd.R_reads' HO_6.out).2.1); rintro e w21 ⟨v303, rfl, ho0, hb⟩; refine ⟨_, rfl, ?_⟩; have n0_ := ym (Kd.R_elder' (by (with_reducible repeat apply y2); exact HO_6.out) (Kd.R_base ho0) hb); have n1_ := ym (yo (Kd.R_new' ho0 (Kd.R_lt (by (with_reducible repeat apply y2); exact HO_6.out))) (below_size (by repeat (first | (with_reducible first | exact HB.out | apply y3) | exact HB.out)))); have n2_ := ym (yn (by repeat (first | (with_reducible first | exact HB.out | apply y3) | exact HB.out)) hb); clear HO_6; clear HB; have HO_6 := n0_; have HO304 := n1_; have HB := n2_; clear n0_ n1_ n2_; (try clear hb); (try clear hb2); (try clear hk); (try clear hi); (try clear ho0)) | ((with_reducible refine gate_dst (N := 55) rfl ?_); (try (refine gate_guard (by rfl) ?_; dsimp only)); refine Kd.R_make (Kd.int .i64) _ 2 rfl (N := 55) rfl 22 _ _ rfl (l0.length : Int) rfl rfl Try.underlying22 (.int .i64 0) 8 info2 rfl (by decide) (by omega) 0 (ok := fun _ => True) (okp := fun _ => True) rfl (fun _ hk => hk) trivial (of_decide_eq_true (by first | (with_reducible assumption) | assumption)) (Nat.le_trans (Nat.mul_le_mul_right _ (of_decide_eq_true (by first | (with_reducible assumption) | assumption) : (l0.length : Int).toNat ≤ 35184372088832)) (by omega)) (Below.refl _ _) (Nat.le_refl _) ?_; intro v306 w22 ho23 hb hg_ hnew_; clear hg_ hnew_; (first | rw [← Ny305.out] at ho23 | (simp only [Int.reduceToNat] at ho23; rw [← Ny305.out] at ho23)); have n0_ := ym (Kd.R_elder' (by (with_reducible repeat apply y2); exact HO_6.out) (Kd.R_base ho23) hb); have n1_ := ym (Kd.R_elder' (by (with_reducible repeat apply y2); exact HO304.out) (Kd.R_base ho23) hb); have n2_ := ym (yo (Kd.R_new' (Kd.R_new' ho23 (Kd.R_lt (by (with_reducible repeat apply y2); exact HO_6.out))) (Kd.R_lt (by (with_reducible repeat apply y2); exact HO304.out))) (below_size (by repeat (first | (with_reducible first | exact HB.out | apply y3) | exact HB.out)))); have n3_ := ym (yn (by repeat (first | (with_reducible first | exact HB.out | apply y3) | exact HB.out)) hb); clear HO_6; clear HO304; clear HB; have HO_6 := n0_; have HO304 := n1_; have HO307 := n2_; have HB := n3_; clear n0_ n1_ n2_ n3_; clear hb ho23))
       go_loopg [9, 58] k2 (fun kq v9 v58 w' => ∃ (x9_3 : List Int) (x11_3 : List Int) (x58_3 : Int), v58 = .int .i64 x58_3 ∧ Aside0 (soft_Masked.l1 kq x9_3 x11_3 l1 (l1.length : Int) x58_3 = some (r1, r2)) ∧ Aside0 (kq ≤ k2) ∧ Aside0 (Kd.Q (Kd.int .i64) 2 w' w.heap.size (fun k_ => some k_ ≠ (v306 : Value).ownBlock) v9 x9_3) ∧ Aside0 (Kd.R (Kd.int .i64) 2 w' w.heap.size (fun k_ => some k_ ≠ (v9 : Value).ownBlock) v306 x11_3) ∧ Aside0 (Below w.heap.size w w'))
       case atStart => exact ⟨(t301), (y305), (0), (by first | rfl | (simp; done) | (simp [*]; done)), H', ⟨Nat.le_refl _⟩, ⟨Kd.Q_of_R (by (with_reducible repeat apply y2); exact Kd.R_mono HO304.out (fun _ hk => hk.2))⟩, ⟨by (with_reducible repeat apply y2); exact Kd.R_mono HO307.out (fun _ hk => hk.2)⟩, ⟨by repeat (first | (with_reducible first | exact HB.out | apply y3) | exact HB.out)⟩⟩
       case round =>
        clear H'
        try clear c1
        try clear q1
        try clear c2
        try clear p2
        try clear q2
        try clear hx2
        try clear c4
        try clear c4b0
        try clear c4b1
        try clear c4b2
        try clear c5
        try clear c5b0
        try clear c5b1
        try clear c6
        try clear p6
        try clear c7
        try clear c7b0
        try clear c8
        try clear c8b0
        try clear c9
        try clear c9b0
        try clear q10
        try clear c11
        try clear c12
        try clear c12b0
        try clear c13
        try clear c15
        try clear c15b0
        try clear c15b1
        try clear c15b2
        try clear c18
        try clear c18b0
        try clear c18b1
        try clear c19
        try clear c19b0
        try clear c19b1
        try clear c21
        try clear hx296_0
        try clear hx297_0
        try clear p2
        try clear p296
        try clear p297
        try clear q296
        try clear q297
        obtain ⟨x9_3, x11_3, x58_3, rfl, HA, HK3, HO_9, HO_11, HB⟩ := hrel
        cases gk with
        | zero => exact absurd HA.out (by simp [soft_Masked.l1])
        | succ k3 =>
         have H := HA.out
         clear HA
         simp only [soft_Masked.l1] at H
         by_cases c24 : x58_3 < (l1.length : Int)
         ·
          rw [if_pos c24] at H
          have c24b0 : decide (x58_3 < (l1.length : Int)) = true := decide_eq_true c24
          clear c24
          by_cases c25 : 0 ≤ x58_3
          ·
           rw [if_pos c25] at H
           have c25b0 : decide (0 ≤ x58_3) = true := decide_eq_true c25
           clear c25
           by_cases c26 : x58_3 < (l1.length : Int)
           ·
            rw [if_pos c26] at H
            have c26b0 : decide (x58_3 < (l1.length : Int)) = true := decide_eq_true c26
            clear c26
            obtain ⟨bq27, hbq27⟩ : ∃ b_ : Bool, b_ = (rdOf false l1 x58_3) := ⟨_, rfl⟩
            replace H : (if bq27 = true then (if 0 < (x9_3.length : Int) then (if 1 ≤ (x9_3.length : Int) then (if x58_3 < (x11_3.length : Int) then (soft_Masked.l1 k3 (x9_3.drop (1 : Int).toNat) (x11_3.set (x58_3 : Int).toNat (rd x9_3 0)) l1 (l1.length : Int) (wrap64 (x58_3 + 1))) else (none)) else (none)) else (none)) else (soft_Masked.l1 k3 x9_3 x11_3 l1 (l1.length : Int) (wrap64 (x58_3 + 1)))) = some (r1, r2) := by rw [← hbq27] at H; exact H
            have Nbq27 := ym hbq27
            clear hbq27
            by_cases c28 : bq27 = true
            ·
             subst c28
             have H1 : (if 0 < (x9_3.length : Int) then (if 1 ≤ (x9_3.length : Int) then (if x58_3 < (x11_3.length : Int) then (soft_Masked.l1 k3 (x9_3.drop (1 : Int).toNat) (x11_3.set (x58_3 : Int).toNat (rd x9_3 0)) l1 (l1.length : Int) (wrap64 (x58_3 + 1))) else (none)) else (none)) else (none)) = some (r1, r2) := by rw [if_pos rfl] at H; exact H
             clear H
             have H := H1
             clear H1
             by_cases c29 : 0 < (x9_3.length : Int)
             ·
              rw [if_pos c29] at H
              have c29b0 : decide (0 < (x9_3.length : Int)) = true := decide_eq_true c29
              have c29b1 : decide (0 < x9_3.length) = true := decide_eq_true (by omega)
              clear c29
              by_cases c30 : 1 ≤ (x9_3.length : Int)
              ·
               rw [if_pos c30] at H
               have c30b0 := eq_true c30
               have c30b1 : decide (1 ≤ (x9_3.length : Int)) = true := decide_eq_true c30
               clear c30
               obtain ⟨y310, hy310⟩ : ∃ y_ : List Int, y_ = (x9_3.drop (1 : Int).toNat) := ⟨_, rfl⟩
               replace H : (if x58_3 < (x11_3.length : Int) then (soft_Masked.l1 k3 y310 (x11_3.set (x58_3 : Int).toNat (rd x9_3 0)) l1 (l1.length : Int) (wrap64 (x58_3 + 1))) else (none)) = some (r1, r2) := by first | (rw [hy310]; with_reducible exact H) | (have H2_ := (Option.bind_some _ _).symm.trans H; rw [hy310]; with_reducible exact H2_) | (have H2_ := (Option.bind_some _ _).symm.trans H; with_reducible exact H2_) | with_reducible exact H | (rw [hy310]; exact H) | exact H
               have Ny310 := ym hy310
               clear hy310
               by_cases c31 : x58_3 < (x11_3.length : Int)
               ·
                rw [if_pos c31] at H
                have c31b0 : decide (x58_3 < (x11_3.length : Int)) = true := decide_eq_true c31
                clear c31
                obtain ⟨y313, hy313⟩ : ∃ y_ : List Int, y_ = (x11_3.set (x58_3 : Int).toNat (rd x9_3 0)) := ⟨_, rfl⟩
                replace H : (soft_Masked.l1 k3 y310 y313 l1 (l1.length : Int) (wrap64 (x58_3 + 1))) = some (r1, r2) := by first | (rw [hy313]; with_reducible exact H) | (have H2_ := (Option.bind_some _ _).symm.trans H; rw [hy313]; with_reducible exact H2_) | (have H2_ := (Option.bind_some _ _).symm.trans H; with_reducible exact H2_) | with_reducible exact H | (rw [hy313]; exact H) | exact H
                have Ny313 := ym hy313
                clear hy313
                have H' := ym H
                clear H
                have p308 : 0 ≤ (x58_3 : Int) := of_decide_eq_true (by first | (with_reducible assumption) | assumption)
                have q308 : x58_3 < (l1.length : Int) := of_decide_eq_true (by first | (with_reducible assumption) | assumption)
                obtain ⟨ad308, e308, hx308_0⟩ := Kd.at_bool HR1.out x58_3 p308 q308
                (try rw [← Nbq27.out] at hx308_0)
                cases e308
                replace hx308_0 := (HB.out.cell (World.block_lt_of_cell? w _ hx308_0)).trans hx308_0
                replace p308 := eq_true p308
                replace q308 := eq_true q308
                try go_wp2
                have n0_ := ym (Kd.Q_drew HO_9.out)
                have n1_ := ym (yh HO_11.out)
                have n2_ := ym (ye HB.out)
                clear HO_9
                clear HO_11
                clear HB
                have HO_9 := n0_
                have HO_11 := n1_
                have HB := n2_
                clear n0_ n1_ n2_
                obtain ⟨Ao34, co34, eo34, _⟩ := Kd.Q_slice HO_9.out
                (first | subst eo34 | (injection eo34 with f1_ f2_ f3_; have f4_ := f1_.symm; have f5_ := f3_.symm; clear f1_ f2_ f3_; subst f4_; subst f5_))
                have p309 : 0 ≤ (0 : Int) := (by omega)
                have q309 : 0 < (x9_3.length : Int) := of_decide_eq_true (by first | (with_reducible assumption) | assumption)
                obtain ⟨ad309, e309, hx309_0⟩ := Kd.at_int (Kd.Q_reads' HO_9.out).2.2 0 p309 q309
                cases e309
                have qi309 : (0 < x9_3.length) = True := eq_true (by omega)
                (try rw [show ((0 : Int)).toNat = 0 from rfl] at hx309_0)
                (try rw [Addr.add_zero'] at hx309_0)
                replace p309 := eq_true p309
                replace q309 := eq_true q309
                have q35 : (1 : Int) ≤ ((x9_3.length : Int) : Int) := of_decide_eq_true (by first | (with_reducible assumption) | assumption)
                obtain ⟨i035, hi035, _, hsz35, _⟩ := info_parts info2
                have hcut35 := cut_from (P := Try.prog) 22 2 .i64 Try.underlying22 hi035 1 hsz35 (some ad309) x9_3.length co34 1 (by omega) q35
                have hr35 := Kd.Q_drop (k := (1 : Int).toNat) HO_9.out (by omega)
                obtain ⟨A35, hA35⟩ : ∃ A1, A1 = (if co34 = (1 : Int).toNat then (some ad309) else ((some ad309) : Option Addr).map (·.add ((1 : Int).toNat * 1))) := ⟨_, rfl⟩
                obtain ⟨c35, hc35⟩ : ∃ c1, c1 = co34 - (1 : Int).toNat := ⟨_, rfl⟩
                have hy35 : y310.length = x9_3.length - (1 : Int).toNat := (by rw [Ny310.out, List.length_drop])
                rw [← Ny310.out] at hr35
                rw [← hy35, ← hA35, ← hc35] at hcut35
                replace hr35 : Kd.Q (Kd.int .i64) 2 wr.drew w.heap.size (fun k_ => some k_ ≠ (v306 : Value).ownBlock) (.slice A35 y310.length c35) y310 := (by rw [hA35, hc35, hy35]; exact hr35)
                have HE35 : Aside0 ((Value.slice A35 y310.length c35).ownBlock = (.slice (some ad309) x9_3.length co34 : Value).ownBlock) := ⟨by rw [hA35]; split <;> (cases ((some ad309) : Option Addr) <;> rfl)⟩
                clear hy35 hi035 hsz35 HO_9 hA35 hc35
                have HO312 := ym hr35
                clear hr35
                replace q35 := eq_true q35
                have n_ := ym (Kd.R_mono (ok' := fun k_ => some k_ ≠ (.slice A35 y310.length c35 : Value).ownBlock) HO_11.out (fun k_ hk => (by rw [HE35.out]; exact hk)))
                clear HO_11
                have HO_11 := n_
                clear n_
                have p32 : 0 ≤ (x58_3 : Int) := of_decide_eq_true (by first | (with_reducible assumption) | assumption)
                have q32 : (x58_3 : Int) < ((x11_3.length : Int) : Int) := of_decide_eq_true (by first | (with_reducible assumption) | assumption)
                obtain ⟨go32, co32, eo32, gb32, gl32, cl32, HG32⟩ := Kd.R_form HO_11.out (by omega)
                (first | cases eo32 | (injection eo32 with ea_ en_ ec_; (first | subst ea_ | (injection ea_ with ea_; subst ea_)); subst ec_; clear en_))
                have GB32 := ym gb32
                have GG32 := ym HG32
                clear gb32 gl32 HG32
                obtain ⟨hx32_0, hf32_0⟩ := Kd.R_celln 0 HO_11.out (x58_3 : Int) p32 q32
                replace p32 := eq_true p32
                replace q32 := eq_true q32
                have HP36 := Kd.R_putn HO_11.out (x58_3 : Int) (rd x9_3 0)
                rw [← Ny313.out] at HP36
                have HQ36 := ym HP36
                clear HP36
                refine start_ (n := 10) (S := fun w' => w'.cell? ad309 = some (.int .i64 (rd x9_3 0))) (ds := [8]) #[false, false, false, false, false, false, false, false, false, false] (by kernel_rfl) rfl rfl (hx309_0) (fun hHeld => ?_); refine with_tabW soft_Masked.tab18 soft_Masked.bits18 (fun HT_ HW_ => ?_)
                generalize wr.drew = w33 at HO_11 HB GG32 HO312 HQ36 hf32_0 hx309_0 hx32_0 hHeld ⊢
                refine pure_ (i := 0) (N := some 64) (v := ?_) (a' := ?_) #[true, false, false, false, false, false, false, false, false, false] rfl rfl (any_of HT_.out (by kernel_rfl)) (fun _ _ _ h => h) (Or.inl ⟨by rfl, ?_⟩) ?_ ?_
                rotate_left
                ·
                 intro w'
                 go_simp
                 with_reducible rfl
                rotate_left
                ·
                 simp only [Act.put, y0, y1]
                 rfl
                refine pure_ (i := 1) (N := some 65) (v := ?_) (a' := ?_) #[true, true, false, false, false, false, false, false, false, false] rfl rfl (any_of HT_.out (by kernel_rfl)) (fun _ _ _ h => h) (Or.inl ⟨by rfl, ?_⟩) ?_ ?_
                rotate_left
                ·
                 intro w'
                 go_simp
                 with_reducible rfl
                rotate_left
                ·
                 simp only [Act.put, y0, y1]
                 rfl
                refine pure_ (i := 2) (N := some 66) (v := ?_) (a' := ?_) #[true, true, true, false, false, false, false, false, false, false] rfl rfl (any_of HT_.out (by kernel_rfl)) (fun _ _ _ h => h) (Or.inl ⟨by rfl, ?_⟩) ?_ ?_
                rotate_left
                ·
                 intro w'
                 go_simp
                 with_reducible rfl
                rotate_left
                ·
                 simp only [Act.put, y0, y1]
                 rfl
                refine pure_ (i := 3) (N := some 67) (v := ?_) (a' := ?_) #[true, true, true, true, false, false, false, false, false, false] rfl rfl (any_of HT_.out (by kernel_rfl)) (fun _ _ _ h => h) (Or.inl ⟨by rfl, ?_⟩) ?_ ?_
                rotate_left
                ·
                 intro w'
                 go_simp
                 with_reducible rfl
                rotate_left
                ·
                 simp only [Act.put, y0, y1]
                 rfl
                refine pure_ (i := 5) (N := some 69) (v := ?_) (a' := ?_) #[true, true, true, true, false, true, false, false, false, false] rfl rfl (any_of HT_.out (by kernel_rfl)) (fun _ _ _ h => h) (Or.inl ⟨by rfl, ?_⟩) ?_ ?_
                rotate_left
                ·
                 intro w'
                 go_simp
                 with_reducible rfl
                rotate_left
                ·
                 simp only [Act.put, y0, y1]
                 rfl
                refine pure_ (i := 6) (N := some 70) (v := ?_) (a' := ?_) #[true, true, true, true, false, true, true, false, false, false] rfl rfl (any_of HT_.out (by kernel_rfl)) (fun _ _ _ h => h) (Or.inl ⟨by rfl, ?_⟩) ?_ ?_
                rotate_left
                ·
                 intro w'
                 go_simp
                 with_reducible rfl
                rotate_left
                ·
                 simp only [Act.put, y0, y1]
                 rfl
                refine take_ (i := 4) (N := some 68) (v := ?_) (a' := ?_) #[true, true, true, true, true, true, true, false, false, false] rfl rfl (take_ofW HT_.out HW_.out (by kernel_rfl)) (fun _ _ _ h => h) (Or.inl ⟨by rfl, ?_⟩) hHeld ?_ ?_
                rotate_left
                ·
                 intro w' s0
                 go_simp
                 with_reducible rfl
                rotate_left
                ·
                 simp only [Act.put, y0, y1]
                 rfl
                refine pure_ (i := 7) (N := some 71) (v := ?_) (a' := ?_) #[true, true, true, true, true, true, true, true, false, false] rfl rfl (any_of HT_.out (by kernel_rfl)) (fun _ _ _ h => h) (Or.inl ⟨by rfl, ?_⟩) ?_ ?_
                rotate_left
                ·
                 intro w'
                 go_simp
                 with_reducible rfl
                rotate_left
                ·
                 simp only [Act.put, y0, y1]
                 rfl
                refine last_ (i := 8) (N := none) #[true, true, true, true, true, true, true, true, true, false] rfl rfl (one_of HT_.out (by kernel_rfl)) (by decide) (fun K hK => ?_)
                refine skip_ (w1 := ?_) (by rfl) rfl ?_ ?_
                rotate_left
                ·
                 go_simp
                 rfl
                refine hK.out _ _ ?_
                clear hK K
                refine pure_ (i := 9) (N := some 9) (v := ?_) (a' := ?_) #[true, true, true, true, true, true, true, true, true, true] rfl rfl (any_of HT_.out (by kernel_rfl)) (fun _ _ _ h => h) (Or.inl ⟨by rfl, ?_⟩) ?_ ?_
                rotate_left
                ·
                 intro w'
                 go_simp
                 with_reducible rfl
                rotate_left
                ·
                 simp only [Act.put, y0, y1]
                 rfl
                refine done_ (done_of HT_.out (by kernel_rfl)) ?_
                try go_wp2
                go_roundg k3
                case measure => have := HJ2.out; have := HK2.out; have := HK3.out; omega
                case rel => exact ⟨(y310), (y313), (wrap64 (x58_3 + 1)), (by first | rfl | (simp; done) | (simp [*]; done)), H', ⟨by have := HJ2.out; have := HK2.out; have := HK3.out; omega⟩, ⟨by (with_reducible repeat (first | apply Kd.Q_alloc | apply Kd.Q_drewN | apply Kd.Q_drew)); exact Kd.Q_mono (Kd.Q_far (p := ⟨go32, (x58_3 : Int).toNat, none⟩) (Kd.Q_mono HO312.out (fun k_ hk => (⟨hk, fun e_ => hk (by rw [e_]; rfl)⟩ : _ ∧ k_ ≠ go32))) (fun _ hk => hk.2) (.int .i64 (rd x9_3 0))) (fun _ hk => hk.1)⟩, ⟨by (with_reducible repeat apply y2); exact HQ36.out⟩, ⟨by repeat (first | (with_reducible first | exact HB.out | apply y3 | refine ys ?_ GB32.out) | exact HB.out)⟩⟩
               rw [if_neg c31] at H
               exact absurd H (by simp)
              rw [if_neg c30] at H
              exact absurd H (by simp)
             rw [if_neg c29] at H
             exact absurd H (by simp)
            replace c28 := Bool.eq_false_iff.mpr c28
            subst c28
            have H1 : (soft_Masked.l1 k3 x9_3 x11_3 l1 (l1.length : Int) (wrap64 (x58_3 + 1))) = some (r1, r2) := by rw [if_neg (show ¬ (false = true) by decide)] at H; exact H
            clear H
            have H := H1
            clear H1
            have H' := ym H
            clear H
            have p308 : 0 ≤ (x58_3 : Int) := of_decide_eq_true (by first | (with_reducible assumption) | assumption)
            have q308 : x58_3 < (l1.length : Int) := of_decide_eq_true (by first | (with_reducible assumption) | assumption)
            obtain ⟨ad308, e308, hx308_0⟩ := Kd.at_bool HR1.out x58_3 p308 q308
            (try rw [← Nbq27.out] at hx308_0)
            cases e308
            replace hx308_0 := (HB.out.cell (World.block_lt_of_cell? w _ hx308_0)).trans hx308_0
            replace p308 := eq_true p308
            replace q308 := eq_true q308
            go_wp2
            go_roundg k3
            case measure => have := HJ2.out; have := HK2.out; have := HK3.out; omega
            case rel => exact ⟨(x9_3), (x11_3), (wrap64 (x58_3 + 1)), (by first | rfl | (simp; done) | (simp [*]; done)), H', ⟨by have := HJ2.out; have := HK2.out; have := HK3.out; omega⟩, ⟨by (with_reducible repeat (first | apply Kd.Q_alloc | apply Kd.Q_drewN | apply Kd.Q_drew)); exact HO_9.out⟩, ⟨by (with_reducible repeat apply y2); exact HO_11.out⟩, ⟨by repeat (first | (with_reducible first | exact HB.out | apply y3) | exact HB.out)⟩⟩
           rw [if_neg c26] at H
           exact absurd H (by simp)
          rw [if_neg c25] at H
          exact absurd H (by simp)
         rw [if_neg c24] at H
         have c24b0 : decide (x58_3 < (l1.length : Int)) = false := decide_eq_false c24
         clear c24
         simp only [Option.some.injEq, Prod.mk.injEq] at H
         obtain ⟨rfl, rfl⟩ := H
         go_wp2
         go_ret2
         exact ⟨_, by first | rfl | (simp [errW_none, errW_some] <;> rfl) | (simp [*, errW_none, errW_some] <;> rfl), by (with_reducible repeat apply y2); exact Kd.R_mono HO_11.out (fun _ hk => trivial), by repeat (first | (with_reducible first | exact HB.out | apply y3) | exact HB.out)⟩
      rw [if_neg c19] at H
      exact absurd H (by simp)
     rw [if_neg c18] at H
     exact absurd H (by simp)

end Go.Proofs.Ytmpldbccohdnjaa.P
