-- Printed by xprint.py (wip): functions, contracts, rows. Lean checks it.
import Derived.Test.YtengkjkmdodifaaDoorPx0
import Derived.Test.YtengkjkmdodifaaDoorPx2
namespace Go.Proofs.YtengkjkmdodifaaDoor.P
open Go.RowKit Go.Proofs.YtengkjkmdodifaaDoorW.PrintWords Go.Proofs.YtengkjkmdodifaaDoorW.PrintLast Go.Proofs.YtengkjkmdodifaaDoorW.PrintMore
attribute [local go_sem] max2_int min2_int max_two min_two max_three min_three max_four min_four   -- for this text's walks alone
set_option linter.unusedVariables false
set_option linter.unusedSimpArgs false

/-! ### rope_pairs_Turn_1: function 26 -/
mutual
def rope_pairs_Turn_1.j0 : Nat → List Int → Int → List Int → List Int → Bool → Option (List Int × Int)
  | 0, _, _, _, _, _ => none
  | k + 1, x0, x1, x2, x3, x30 => if x30 = true then (some (([] : List Int), 100)) else (if (x2.length : Int) = (wrap64 (Int.tdiv x1 2)) then (rope_pairs_Turn_1.j1 k x0 x1 x2 x3 ((x3.length : Int) != (wrap64 (Int.tdiv x1 2)))) else (rope_pairs_Turn_1.j1 k x0 x1 x2 x3 true))
def rope_pairs_Turn_1.j1 : Nat → List Int → Int → List Int → List Int → Bool → Option (List Int × Int)
  | 0, _, _, _, _, _ => none
  | k + 1, x0, x1, x2, x3, x42 => if x42 = true then (some (([] : List Int), 101)) else (if 0 ≤ (x0.length : Int) then (if ((x0.length : Int) : Int).toNat ≤ 281474976710656 then (rope_pairs_Turn_1.l0 k x0 x1 x2 x3 (List.replicate ((x0.length : Int) : Int).toNat 0) 0) else (none)) else (none))
def rope_pairs_Turn_1.l0 : Nat → List Int → Int → List Int → List Int → List Int → Int → Option (List Int × Int)
  | 0, _, _, _, _, _, _ => none
  | k + 1, x0, x1, x2, x3, x12, x13 => if x13 < (x0.length : Int) then (if x1 = 0 then (none) else (if 0 ≤ x13 then (if 0 ≤ (wrap64 (x13 + 1)) then (if (wrap64 (x13 + 1)) < (x0.length : Int) then (if 0 ≤ (wrap64 (Int.tdiv (Int.tmod x13 x1) 2)) then (if (wrap64 (Int.tdiv (Int.tmod x13 x1) 2)) < (x2.length : Int) then (if (wrap64 (Int.tdiv (Int.tmod x13 x1) 2)) < (x3.length : Int) then ((rope_Turn_1.f (wrap64 (rd x0 x13)) (wrap64 (rd x0 (wrap64 (x13 + 1)))) (wrap64 (rd x2 (wrap64 (Int.tdiv (Int.tmod x13 x1) 2)))) (wrap64 (rd x3 (wrap64 (Int.tdiv (Int.tmod x13 x1) 2))))).bind fun bt117 => ((rope_narrow.f bt117.1).bind fun t119 => ((rope_narrow.f bt117.2).bind fun t120 => (if x13 < (x12.length : Int) then (if (wrap64 (x13 + 1)) < (x12.length : Int) then (rope_pairs_Turn_1.l0 k x0 x1 x2 x3 ((x12.set (x13 : Int).toNat t119).set ((wrap64 (x13 + 1)) : Int).toNat t120) (wrap64 (x13 + 2))) else (none)) else (none))))) else (none)) else (none)) else (none)) else (none)) else (none)) else (none))) else (some (x12, 0))
end
def rope_pairs_Turn_1.f (k : Nat) (l0 : List Int) (a1 : Int) (l2 : List Int) (l3 : List Int) (a4 : Int) : Option (List Int × Int) := if a1 < 2 then (rope_pairs_Turn_1.j0 k l0 a1 l2 l3 true) else (if (Int.tmod a1 2) = 0 then (if a1 = 0 then (none) else (rope_pairs_Turn_1.j0 k l0 a1 l2 l3 (((l0.length : Int) % a1) != 0))) else (rope_pairs_Turn_1.j0 k l0 a1 l2 l3 true))
theorem rope_pairs_Turn_1.mono_l : ∀ k, (∀ y0 y1 y2 y3 y4, LeO (rope_pairs_Turn_1.j0 k y0 y1 y2 y3 y4) (rope_pairs_Turn_1.j0 (k + 1) y0 y1 y2 y3 y4)) ∧ (∀ y0 y1 y2 y3 y4, LeO (rope_pairs_Turn_1.j1 k y0 y1 y2 y3 y4) (rope_pairs_Turn_1.j1 (k + 1) y0 y1 y2 y3 y4)) ∧ (∀ y0 y1 y2 y3 y4 y5, LeO (rope_pairs_Turn_1.l0 k y0 y1 y2 y3 y4 y5) (rope_pairs_Turn_1.l0 (k + 1) y0 y1 y2 y3 y4 y5))
  | 0 => ⟨fun _ _ _ _ _ r h => by simp [rope_pairs_Turn_1.j0] at h, fun _ _ _ _ _ r h => by simp [rope_pairs_Turn_1.j1] at h, fun _ _ _ _ _ _ r h => by simp [rope_pairs_Turn_1.l0] at h⟩
  | k + 1 => by
    obtain ⟨ih0, ih1, ih2⟩ := rope_pairs_Turn_1.mono_l k
    refine ⟨?_, ?_, ?_⟩
    · intro y0 y1 y2 y3 y4
      unfold rope_pairs_Turn_1.j0
      repeat' first
      | (with_reducible exact ih0 _ _ _ _ _)
      | (with_reducible exact ih1 _ _ _ _ _)
      | (with_reducible exact ih2 _ _ _ _ _ _)
      | (with_reducible exact LeO.refl _)
      | (with_reducible exact LeO.none _)
      | (with_reducible refine LeO.ite ?_ ?_)
      | (with_reducible refine LeO.bind ?_ (fun _ => ?_))
      | exact ih0 _ _ _ _ _
      | exact ih1 _ _ _ _ _
      | exact ih2 _ _ _ _ _ _
      | exact LeO.none _
      | refine LeO.ite ?_ ?_
      | refine LeO.bind ?_ (fun _ => ?_)
    · intro y0 y1 y2 y3 y4
      unfold rope_pairs_Turn_1.j1
      repeat' first
      | (with_reducible exact ih0 _ _ _ _ _)
      | (with_reducible exact ih1 _ _ _ _ _)
      | (with_reducible exact ih2 _ _ _ _ _ _)
      | (with_reducible exact LeO.refl _)
      | (with_reducible exact LeO.none _)
      | (with_reducible refine LeO.ite ?_ ?_)
      | (with_reducible refine LeO.bind ?_ (fun _ => ?_))
      | exact ih0 _ _ _ _ _
      | exact ih1 _ _ _ _ _
      | exact ih2 _ _ _ _ _ _
      | exact LeO.none _
      | refine LeO.ite ?_ ?_
      | refine LeO.bind ?_ (fun _ => ?_)
    · intro y0 y1 y2 y3 y4 y5
      unfold rope_pairs_Turn_1.l0
      repeat' first
      | (with_reducible exact ih0 _ _ _ _ _)
      | (with_reducible exact ih1 _ _ _ _ _)
      | (with_reducible exact ih2 _ _ _ _ _ _)
      | (with_reducible exact LeO.refl _)
      | (with_reducible exact LeO.none _)
      | (with_reducible refine LeO.ite ?_ ?_)
      | (with_reducible refine LeO.bind ?_ (fun _ => ?_))
      | exact ih0 _ _ _ _ _
      | exact ih1 _ _ _ _ _
      | exact ih2 _ _ _ _ _ _
      | exact LeO.none _
      | refine LeO.ite ?_ ?_
      | refine LeO.bind ?_ (fun _ => ?_)
theorem rope_pairs_Turn_1.mono : ∀ a0 a1 a2 a3 a4 k, LeO (rope_pairs_Turn_1.f k a0 a1 a2 a3 a4) (rope_pairs_Turn_1.f (k + 1) a0 a1 a2 a3 a4) := by
  intro a0 a1 a2 a3 a4 k
  obtain ⟨ih0, ih1, ih2⟩ := rope_pairs_Turn_1.mono_l k
  unfold rope_pairs_Turn_1.f
  repeat' first
      | (with_reducible exact ih0 _ _ _ _ _)
      | (with_reducible exact ih1 _ _ _ _ _)
      | (with_reducible exact ih2 _ _ _ _ _ _)
      | (with_reducible exact LeO.refl _)
      | (with_reducible exact LeO.none _)
      | (with_reducible refine LeO.ite ?_ ?_)
      | (with_reducible refine LeO.bind ?_ (fun _ => ?_))
      | exact ih0 _ _ _ _ _
      | exact ih1 _ _ _ _ _
      | exact ih2 _ _ _ _ _ _
      | exact LeO.none _
      | refine LeO.ite ?_ ?_
      | refine LeO.bind ?_ (fun _ => ?_)
set_option maxHeartbeats 8000000 in
set_option maxRecDepth 100000 in
theorem rope_pairs_Turn_1.calls (k : Nat) (A0 : Option Addr) (c0 : Nat) (l0 : List Int) (a1 : Int) (A2 : Option Addr) (c2 : Nat) (l2 : List Int) (A3 : Option Addr) (c3 : Nat) (l3 : List Int) (a4 : Int) (r1 : List Int) (r2 : Int) (w : World) (hr0 : Kd.C (Kd.int .i8) w A0 l0.length l0) (hc0 : l0.length ≤ c0) (hr2 : Kd.C (Kd.int .i8) w A2 l2.length l2) (hc2 : l2.length ≤ c2) (hr3 : Kd.C (Kd.int .i8) w A3 l3.length l3) (hc3 : l3.length ≤ c3) (h : rope_pairs_Turn_1.f k l0 a1 l2 l3 a4 = some (r1, r2)) :
    Calls Tryd.prog 26 #[.slice A0 l0.length c0, .int .i64 a1, .slice A2 l2.length c2, .slice A3 l3.length c3, .func (.func 27) #[] #[]] w fun e w' => ∃ v0_ : Value, e = .returned (.tuple #[v0_, .int .i64 r2]) ∧ Kd.R (Kd.int .i8) 33 w' w.heap.size (fun _ => True) v0_ r1 ∧ Below w.heap.size w w' := by
 have HR0 := ym hr0
 have HC0 := ym hc0
 clear hr0 hc0
 have HR2 := ym hr2
 have HC2 := ym hc2
 clear hr2 hc2
 have HR3 := ym hr3
 have HC3 := ym hc3
 clear hr3 hc3
 have HB := ym (Below.refl w.heap.size w)
 have H : (if a1 < 2 then (rope_pairs_Turn_1.j0 k l0 a1 l2 l3 true) else (if (Int.tmod a1 2) = 0 then (if a1 = 0 then (none) else (rope_pairs_Turn_1.j0 k l0 a1 l2 l3 (((l0.length : Int) % a1) != 0))) else (rope_pairs_Turn_1.j0 k l0 a1 l2 l3 true))) = some (r1, r2) := h
 clear h
 have HC6 := ym H
 clear H
 go_enter Tryd.func26, Tryd.ntmps26
 go_upto_region 1 with (fail)
 repeat (go_quiet (fail); go_upto_region 1 with (fail))
 go_cut [30] (fun v30 wc => ∃ (kq : Nat) (x30_5 : Bool), v30 = .bool x30_5 ∧ Aside0 (rope_pairs_Turn_1.j0 kq l0 a1 l2 l3 x30_5 = some (r1, r2)) ∧ Aside0 (kq ≤ k) ∧ Aside0 (Below w.heap.size w wc))
 case first =>
  have H := HC6.out
  clear HC6
  by_cases c7 : a1 < 2
  ·
   rw [if_pos c7] at H
   have c7b0 : decide (a1 < 2) = true := decide_eq_true c7
   clear c7
   (first | rw [c7b0] | (simp only [i64_w, i32_w]; rw [c7b0]) | skip)
   have H' := ym H
   clear H
   go_wp2
   repeat (go_quiet (fail); try go_wp2)
   go_meet
   case rel => exact ⟨_, (true), (by first | rfl | (simp; done) | (simp [*]; done)), H', ⟨by first | omega | exact Nat.le_refl _⟩, ⟨by repeat (first | (with_reducible first | exact HB.out | apply y3) | exact HB.out)⟩⟩
  rw [if_neg c7] at H
  have c7b0 : decide (a1 < 2) = false := decide_eq_false c7
  clear c7
  (first | rw [c7b0] | (simp only [i64_w, i32_w]; rw [c7b0]) | skip)
  by_cases c8 : (Int.tmod a1 2) = 0
  ·
   rw [if_pos c8] at H
   have c8b0 : ((Int.tmod a1 2) == 0) = true := beq_iff_eq.mpr c8
   have c8b1 : ((Int.tmod a1 2) != 0) = false := bne_eq_false_iff_eq.mpr c8
   clear c8
   by_cases c9 : a1 = 0
   ·
    rw [if_pos c9] at H
    exact absurd H (by simp)
   rw [if_neg c9] at H
   have c9b0 : (a1 == 0) = false := beq_eq_false_iff_ne.mpr c9
   have c9b1 : (a1 != 0) = true := bne_iff_ne.mpr c9
   have H' := ym H
   clear H
   go_wp2
   repeat (go_quiet (fail); try go_wp2)
   go_meet
   case rel => exact ⟨_, ((((l0.length : Int) % a1) != 0)), (by first | rfl | (simp; done) | (simp [*]; done)), H', ⟨by first | omega | exact Nat.le_refl _⟩, ⟨by repeat (first | (with_reducible first | exact HB.out | apply y3) | exact HB.out)⟩⟩
  rw [if_neg c8] at H
  have c8b0 : ((Int.tmod a1 2) == 0) = false := beq_eq_false_iff_ne.mpr c8
  have c8b1 : ((Int.tmod a1 2) != 0) = true := bne_iff_ne.mpr c8
  have H' := ym H
  clear H
  go_wp2
  repeat (go_quiet (fail); try go_wp2)
  go_meet
  case rel => exact ⟨_, (true), (by first | rfl | (simp; done) | (simp [*]; done)), H', ⟨by first | omega | exact Nat.le_refl _⟩, ⟨by repeat (first | (with_reducible first | exact HB.out | apply y3) | exact HB.out)⟩⟩
 case rest =>
  clear HC6
  try clear c2
  try clear p2
  try clear c3
  try clear c7
  try clear c7b0
  try clear c8
  try clear c8b0
  try clear c8b1
  try clear c9
  try clear c9b0
  try clear c9b1
  obtain ⟨kq, x30_5, rfl, HA, HJ5, HB⟩ := hcut
  cases kq with
  | zero => exact absurd HA.out (by simp [rope_pairs_Turn_1.j0])
  | succ kj5 =>
   have H := HA.out
   clear HA
   simp only [rope_pairs_Turn_1.j0] at H
   by_cases c10 : x30_5 = true
   ·
    subst c10
    have H1 : (some (([] : List Int), 100)) = some (r1, r2) := by rw [if_pos rfl] at H; exact H
    clear H
    have H := H1
    clear H1
    simp only [Option.some.injEq, Prod.mk.injEq] at H
    obtain ⟨rfl, rfl⟩ := H
    go_wp2
    repeat (go_quiet (fail); try go_wp2)
    go_ret2
    exact ⟨_, by first | rfl | (simp [errW_none, errW_some] <;> rfl) | (simp [*, errW_none, errW_some] <;> rfl), by first | exact Kd.R_nil _ _ _ _ _ | exact Kd.N_nil _ _ _ _ _ | exact Kd.V_nil _ _ _ _ _ | exact Kd.Q_nil _ _ _ _ _ | exact Kd.S_nil _ _ _ _ _, by repeat (first | (with_reducible first | exact HB.out | apply y3) | exact HB.out)⟩
   replace c10 := Bool.eq_false_iff.mpr c10
   subst c10
   have H1 : (if (l2.length : Int) = (wrap64 (Int.tdiv a1 2)) then (rope_pairs_Turn_1.j1 kj5 l0 a1 l2 l3 ((l3.length : Int) != (wrap64 (Int.tdiv a1 2)))) else (rope_pairs_Turn_1.j1 kj5 l0 a1 l2 l3 true)) = some (r1, r2) := by rw [if_neg (show ¬ (false = true) by decide)] at H; exact H
   clear H
   have H := H1
   clear H1
   have HC11 := ym H
   clear H
   go_upto_region 3 with (fail)
   repeat (go_quiet (fail); go_upto_region 3 with (fail))
   go_cut [42] (fun v42 wc => ∃ (kq : Nat) (x42_10 : Bool), v42 = .bool x42_10 ∧ Aside0 (rope_pairs_Turn_1.j1 kq l0 a1 l2 l3 x42_10 = some (r1, r2)) ∧ Aside0 (kq ≤ kj5) ∧ Aside0 (Below w.heap.size w wc))
   case first =>
    have H := HC11.out
    clear HC11
    by_cases c12 : (l2.length : Int) = (wrap64 (Int.tdiv a1 2))
    ·
     rw [if_pos c12] at H
     have c12b0 : ((l2.length : Int) == (wrap64 (Int.tdiv a1 2))) = true := beq_iff_eq.mpr c12
     have c12b1 : ((l2.length : Int) != (wrap64 (Int.tdiv a1 2))) = false := bne_eq_false_iff_eq.mpr c12
     clear c12
     (first | rw [c12b0] | (simp only [i64_w, i32_w]; rw [c12b0]) | skip)
     have H' := ym H
     clear H
     go_wp2
     repeat (go_quiet (fail); try go_wp2)
     go_meet
     case rel => exact ⟨_, (((l3.length : Int) != (wrap64 (Int.tdiv a1 2)))), (by first | rfl | (simp; done) | (simp [*]; done)), H', ⟨by have := HJ5.out; first | omega | exact Nat.le_refl _⟩, ⟨by repeat (first | (with_reducible first | exact HB.out | apply y3) | exact HB.out)⟩⟩
    rw [if_neg c12] at H
    have c12b0 : ((l2.length : Int) == (wrap64 (Int.tdiv a1 2))) = false := beq_eq_false_iff_ne.mpr c12
    have c12b1 : ((l2.length : Int) != (wrap64 (Int.tdiv a1 2))) = true := bne_iff_ne.mpr c12
    (first | rw [c12b0] | (simp only [i64_w, i32_w]; rw [c12b0]) | skip)
    have H' := ym H
    clear H
    go_wp2
    repeat (go_quiet (fail); try go_wp2)
    go_meet
    case rel => exact ⟨_, (true), (by first | rfl | (simp; done) | (simp [*]; done)), H', ⟨by have := HJ5.out; first | omega | exact Nat.le_refl _⟩, ⟨by repeat (first | (with_reducible first | exact HB.out | apply y3) | exact HB.out)⟩⟩
   case rest =>
    clear HC11
    try clear c1
    try clear c2
    try clear p2
    try clear c3
    try clear p6
    try clear c7
    try clear c7b0
    try clear c8
    try clear c8b0
    try clear c8b1
    try clear c9
    try clear c9b0
    try clear c9b1
    try clear c10
    try clear c12
    try clear c12b0
    try clear c12b1
    try clear p2
    obtain ⟨kq, x42_10, rfl, HA, HJ10, HB⟩ := hcut
    cases kq with
    | zero => exact absurd HA.out (by simp [rope_pairs_Turn_1.j1])
    | succ kj10 =>
     have H := HA.out
     clear HA
     simp only [rope_pairs_Turn_1.j1] at H
     by_cases c13 : x42_10 = true
     ·
      subst c13
      have H1 : (some (([] : List Int), 101)) = some (r1, r2) := by rw [if_pos rfl] at H; exact H
      clear H
      have H := H1
      clear H1
      simp only [Option.some.injEq, Prod.mk.injEq] at H
      obtain ⟨rfl, rfl⟩ := H
      go_wp2
      repeat (go_quiet (fail); try go_wp2)
      go_ret2
      exact ⟨_, by first | rfl | (simp [errW_none, errW_some] <;> rfl) | (simp [*, errW_none, errW_some] <;> rfl), by first | exact Kd.R_nil _ _ _ _ _ | exact Kd.N_nil _ _ _ _ _ | exact Kd.V_nil _ _ _ _ _ | exact Kd.Q_nil _ _ _ _ _ | exact Kd.S_nil _ _ _ _ _, by repeat (first | (with_reducible first | exact HB.out | apply y3) | exact HB.out)⟩
     replace c13 := Bool.eq_false_iff.mpr c13
     subst c13
     have H1 : (if 0 ≤ (l0.length : Int) then (if ((l0.length : Int) : Int).toNat ≤ 281474976710656 then (rope_pairs_Turn_1.l0 kj10 l0 a1 l2 l3 (List.replicate ((l0.length : Int) : Int).toNat 0) 0) else (none)) else (none)) = some (r1, r2) := by rw [if_neg (show ¬ (false = true) by decide)] at H; exact H
     clear H
     have H := H1
     clear H1
     by_cases c14 : 0 ≤ (l0.length : Int)
     ·
      rw [if_pos c14] at H
      have c14b0 := eq_true c14
      have c14b1 : decide (0 ≤ (l0.length : Int)) = true := decide_eq_true c14
      clear c14
      by_cases c15 : ((l0.length : Int) : Int).toNat ≤ 281474976710656
      ·
       rw [if_pos c15] at H
       have c15b0 := eq_true c15
       have c15b1 : decide (((l0.length : Int) : Int).toNat ≤ 281474976710656) = true := decide_eq_true c15
       clear c15
       obtain ⟨y110, hy110⟩ : ∃ y_ : List Int, y_ = (List.replicate ((l0.length : Int) : Int).toNat 0) := ⟨_, rfl⟩
       replace H : (rope_pairs_Turn_1.l0 kj10 l0 a1 l2 l3 y110 0) = some (r1, r2) := by first | (rw [hy110]; with_reducible exact H) | (have H2_ := (Option.bind_some _ _).symm.trans H; rw [hy110]; with_reducible exact H2_) | (have H2_ := (Option.bind_some _ _).symm.trans H; with_reducible exact H2_) | with_reducible exact H | (rw [hy110]; exact H) | exact H
       have Ny110 := ym hy110
       clear hy110
       have H' := ym H
       clear H
       go_wp2_with (first | ((with_reducible refine gate_dst (N := 45) rfl ?_); (try (refine gate_guard (by rfl) ?_; dsimp only)); refine Kd.R_make (Kd.int .i8) _ 33 rfl (N := 45) rfl 22 _ _ rfl (l0.length : Int) rfl rfl Tryd.underlying22 (.int .i8 0) 1 info33 rfl (by decide) (by omega) 0 (ok := fun _ => True) (okp := fun _ => True) rfl (fun _ hk => hk) trivial (of_decide_eq_true (by first | (with_reducible assumption) | assumption)) (Nat.le_trans (Nat.mul_le_mul_right _ (of_decide_eq_true (by first | (with_reducible assumption) | assumption) : (l0.length : Int).toNat ≤ 281474976710656)) (by omega)) (Below.refl _ _) (Nat.le_refl _) ?_; intro v111 w16 ho17 hb hg_ hnew_; clear hg_ hnew_; (first | rw [← Ny110.out] at ho17 | (simp only [Int.reduceToNat] at ho17; rw [← Ny110.out] at ho17)); have n0_ := ym (yo ho17 (below_size (by repeat (first | (with_reducible first | exact HB.out | apply y3) | exact HB.out)))); have n1_ := ym (yn (by repeat (first | (with_reducible first | exact HB.out | apply y3) | exact HB.out)) hb); clear HB; have HO112 := n0_; have HB := n1_; clear n0_ n1_; clear hb ho17))
       repeat (go_quiet (first | ((with_reducible refine gate_dst (N := 45) rfl ?_); (try (refine gate_guard (by rfl) ?_; dsimp only)); refine Kd.R_make (Kd.int .i8) _ 33 rfl (N := 45) rfl 22 _ _ rfl (l0.length : Int) rfl rfl Tryd.underlying22 (.int .i8 0) 1 info33 rfl (by decide) (by omega) 0 (ok := fun _ => True) (okp := fun _ => True) rfl (fun _ hk => hk) trivial (of_decide_eq_true (by first | (with_reducible assumption) | assumption)) (Nat.le_trans (Nat.mul_le_mul_right _ (of_decide_eq_true (by first | (with_reducible assumption) | assumption) : (l0.length : Int).toNat ≤ 281474976710656)) (by omega)) (Below.refl _ _) (Nat.le_refl _) ?_; intro v111 w16 ho17 hb hg_ hnew_; clear hg_ hnew_; (first | rw [← Ny110.out] at ho17 | (simp only [Int.reduceToNat] at ho17; rw [← Ny110.out] at ho17)); have n0_ := ym (yo ho17 (below_size (by repeat (first | (with_reducible first | exact HB.out | apply y3) | exact HB.out)))); have n1_ := ym (yn (by repeat (first | (with_reducible first | exact HB.out | apply y3) | exact HB.out)) hb); clear HB; have HO112 := n0_; have HB := n1_; clear n0_ n1_; clear hb ho17)); try go_wp2_with (first | ((with_reducible refine gate_dst (N := 45) rfl ?_); (try (refine gate_guard (by rfl) ?_; dsimp only)); refine Kd.R_make (Kd.int .i8) _ 33 rfl (N := 45) rfl 22 _ _ rfl (l0.length : Int) rfl rfl Tryd.underlying22 (.int .i8 0) 1 info33 rfl (by decide) (by omega) 0 (ok := fun _ => True) (okp := fun _ => True) rfl (fun _ hk => hk) trivial (of_decide_eq_true (by first | (with_reducible assumption) | assumption)) (Nat.le_trans (Nat.mul_le_mul_right _ (of_decide_eq_true (by first | (with_reducible assumption) | assumption) : (l0.length : Int).toNat ≤ 281474976710656)) (by omega)) (Below.refl _ _) (Nat.le_refl _) ?_; intro v111 w16 ho17 hb hg_ hnew_; clear hg_ hnew_; (first | rw [← Ny110.out] at ho17 | (simp only [Int.reduceToNat] at ho17; rw [← Ny110.out] at ho17)); have n0_ := ym (yo ho17 (below_size (by repeat (first | (with_reducible first | exact HB.out | apply y3) | exact HB.out)))); have n1_ := ym (yn (by repeat (first | (with_reducible first | exact HB.out | apply y3) | exact HB.out)) hb); clear HB; have HO112 := n0_; have HB := n1_; clear n0_ n1_; clear hb ho17)))
       go_loopg [13] kj10 (fun kq v13 w' => ∃ (x12_3 : List Int) (x13_3 : Int), v13 = .int .i64 x13_3 ∧ Aside0 (rope_pairs_Turn_1.l0 kq l0 a1 l2 l3 x12_3 x13_3 = some (r1, r2)) ∧ Aside0 (kq ≤ kj10) ∧ Aside0 (Kd.R (Kd.int .i8) 33 w' w.heap.size (fun _ => True) v111 x12_3) ∧ Aside0 (Below w.heap.size w w'))
       case atStart => exact ⟨(y110), (0), (by first | rfl | (simp; done) | (simp [*]; done)), H', ⟨Nat.le_refl _⟩, ⟨by (with_reducible repeat apply y2); exact HO112.out⟩, ⟨by repeat (first | (with_reducible first | exact HB.out | apply y3) | exact HB.out)⟩⟩
       case round =>
        clear H'
        try clear c1
        try clear c2
        try clear p2
        try clear c3
        try clear p6
        try clear c7
        try clear c7b0
        try clear c8
        try clear c8b0
        try clear c8b1
        try clear c9
        try clear c9b0
        try clear c9b1
        try clear c10
        try clear c12
        try clear c12b0
        try clear c12b1
        try clear c13
        try clear c14
        try clear c14b0
        try clear c14b1
        try clear c15
        try clear c15b0
        try clear c15b1
        try clear p2
        try clear p6
        obtain ⟨x12_3, x13_3, rfl, HA, HK3, HO_12, HB⟩ := hrel
        cases gk with
        | zero => exact absurd HA.out (by simp [rope_pairs_Turn_1.l0])
        | succ k3 =>
         have H := HA.out
         clear HA
         simp only [rope_pairs_Turn_1.l0] at H
         by_cases c18 : x13_3 < (l0.length : Int)
         ·
          rw [if_pos c18] at H
          have c18b0 : decide (x13_3 < (l0.length : Int)) = true := decide_eq_true c18
          clear c18
          by_cases c19 : a1 = 0
          ·
           rw [if_pos c19] at H
           exact absurd H (by simp)
          rw [if_neg c19] at H
          have c19b0 : (a1 == 0) = false := beq_eq_false_iff_ne.mpr c19
          have c19b1 : (a1 != 0) = true := bne_iff_ne.mpr c19
          by_cases c20 : 0 ≤ x13_3
          ·
           rw [if_pos c20] at H
           have c20b0 : decide (0 ≤ x13_3) = true := decide_eq_true c20
           clear c20
           obtain ⟨ji21, hji21⟩ : ∃ j_ : Int, (wrap64 (x13_3 + 1)) = j_ := ⟨_, rfl⟩
           replace H : (if 0 ≤ (ji21) then (if (ji21) < (l0.length : Int) then (if 0 ≤ (wrap64 (Int.tdiv (Int.tmod x13_3 a1) 2)) then (if (wrap64 (Int.tdiv (Int.tmod x13_3 a1) 2)) < (l2.length : Int) then (if (wrap64 (Int.tdiv (Int.tmod x13_3 a1) 2)) < (l3.length : Int) then ((rope_Turn_1.f (wrap64 (rd l0 x13_3)) (wrap64 (rd l0 (ji21))) (wrap64 (rd l2 (wrap64 (Int.tdiv (Int.tmod x13_3 a1) 2)))) (wrap64 (rd l3 (wrap64 (Int.tdiv (Int.tmod x13_3 a1) 2))))).bind fun bt117 => ((rope_narrow.f bt117.1).bind fun t119 => ((rope_narrow.f bt117.2).bind fun t120 => (if x13_3 < (x12_3.length : Int) then (if (ji21) < (x12_3.length : Int) then (rope_pairs_Turn_1.l0 k3 l0 a1 l2 l3 ((x12_3.set (x13_3 : Int).toNat t119).set ((ji21) : Int).toNat t120) (wrap64 (x13_3 + 2))) else (none)) else (none))))) else (none)) else (none)) else (none)) else (none)) else (none)) = some (r1, r2) := by first | (rw [hji21] at H; exact H) | (simp only [hji21] at H ⊢; exact H)
           have hji21w : (IntKind.i64.wrap (x13_3 + 1)) = ji21 := (i64_w _).trans hji21
           by_cases c22 : 0 ≤ (ji21)
           ·
            rw [if_pos c22] at H
            have c22b0 : decide (0 ≤ (ji21)) = true := decide_eq_true c22
            clear c22
            by_cases c23 : (ji21) < (l0.length : Int)
            ·
             rw [if_pos c23] at H
             have c23b0 : decide ((ji21) < (l0.length : Int)) = true := decide_eq_true c23
             clear c23
             obtain ⟨ji24, hji24⟩ : ∃ j_ : Int, (wrap64 (Int.tdiv (Int.tmod x13_3 a1) 2)) = j_ := ⟨_, rfl⟩
             replace H : (if 0 ≤ (ji24) then (if (ji24) < (l2.length : Int) then (if (ji24) < (l3.length : Int) then ((rope_Turn_1.f (wrap64 (rd l0 x13_3)) (wrap64 (rd l0 (ji21))) (wrap64 (rd l2 (ji24))) (wrap64 (rd l3 (ji24)))).bind fun bt117 => ((rope_narrow.f bt117.1).bind fun t119 => ((rope_narrow.f bt117.2).bind fun t120 => (if x13_3 < (x12_3.length : Int) then (if (ji21) < (x12_3.length : Int) then (rope_pairs_Turn_1.l0 k3 l0 a1 l2 l3 ((x12_3.set (x13_3 : Int).toNat t119).set ((ji21) : Int).toNat t120) (wrap64 (x13_3 + 2))) else (none)) else (none))))) else (none)) else (none)) else (none)) = some (r1, r2) := by first | (rw [hji24] at H; exact H) | (simp only [hji24] at H ⊢; exact H)
             have hji24w : (IntKind.i64.wrap (Int.tdiv (Int.tmod x13_3 a1) 2)) = ji24 := (i64_w _).trans hji24
             by_cases c25 : 0 ≤ (ji24)
             ·
              rw [if_pos c25] at H
              have c25b0 : decide (0 ≤ (ji24)) = true := decide_eq_true c25
              clear c25
              by_cases c26 : (ji24) < (l2.length : Int)
              ·
               rw [if_pos c26] at H
               have c26b0 : decide ((ji24) < (l2.length : Int)) = true := decide_eq_true c26
               clear c26
               by_cases c27 : (ji24) < (l3.length : Int)
               ·
                rw [if_pos c27] at H
                have c27b0 : decide ((ji24) < (l3.length : Int)) = true := decide_eq_true c27
                clear c27
                replace H := Option.bind_eq_some_iff.mp H
                obtain ⟨⟨t117, t118⟩, A280, H⟩ := H
                replace H : ((rope_narrow.f t117).bind fun t119 => ((rope_narrow.f t118).bind fun t120 => (if x13_3 < (x12_3.length : Int) then (if (ji21) < (x12_3.length : Int) then (rope_pairs_Turn_1.l0 k3 l0 a1 l2 l3 ((x12_3.set (x13_3 : Int).toNat t119).set ((ji21) : Int).toNat t120) (wrap64 (x13_3 + 2))) else (none)) else (none)))) = some (r1, r2) := H
                have A28 := ym A280
                clear A280
                replace H := Option.bind_eq_some_iff.mp H
                obtain ⟨t119, A290, H⟩ := H
                replace H : ((rope_narrow.f t118).bind fun t120 => (if x13_3 < (x12_3.length : Int) then (if (ji21) < (x12_3.length : Int) then (rope_pairs_Turn_1.l0 k3 l0 a1 l2 l3 ((x12_3.set (x13_3 : Int).toNat t119).set ((ji21) : Int).toNat t120) (wrap64 (x13_3 + 2))) else (none)) else (none))) = some (r1, r2) := H
                have A29 := ym A290
                clear A290
                replace H := Option.bind_eq_some_iff.mp H
                obtain ⟨t120, A300, H⟩ := H
                replace H : (if x13_3 < (x12_3.length : Int) then (if (ji21) < (x12_3.length : Int) then (rope_pairs_Turn_1.l0 k3 l0 a1 l2 l3 ((x12_3.set (x13_3 : Int).toNat t119).set ((ji21) : Int).toNat t120) (wrap64 (x13_3 + 2))) else (none)) else (none)) = some (r1, r2) := H
                have A30 := ym A300
                clear A300
                by_cases c31 : x13_3 < (x12_3.length : Int)
                ·
                 rw [if_pos c31] at H
                 have c31b0 : decide (x13_3 < (x12_3.length : Int)) = true := decide_eq_true c31
                 clear c31
                 obtain ⟨y121, hy121⟩ : ∃ y_ : List Int, y_ = (x12_3.set (x13_3 : Int).toNat t119) := ⟨_, rfl⟩
                 replace H : (if (ji21) < (x12_3.length : Int) then (rope_pairs_Turn_1.l0 k3 l0 a1 l2 l3 (y121.set ((ji21) : Int).toNat t120) (wrap64 (x13_3 + 2))) else (none)) = some (r1, r2) := by first | (rw [hy121]; with_reducible exact H) | (have H2_ := (Option.bind_some _ _).symm.trans H; rw [hy121]; with_reducible exact H2_) | (have H2_ := (Option.bind_some _ _).symm.trans H; with_reducible exact H2_) | with_reducible exact H | (rw [hy121]; exact H) | exact H
                 have Ny121 := ym hy121
                 clear hy121
                 by_cases c33 : (ji21) < (x12_3.length : Int)
                 ·
                  rw [if_pos c33] at H
                  have c33b0 : decide ((ji21) < (x12_3.length : Int)) = true := decide_eq_true c33
                  clear c33
                  obtain ⟨y122, hy122⟩ : ∃ y_ : List Int, y_ = (y121.set ((ji21) : Int).toNat t120) := ⟨_, rfl⟩
                  replace H : (rope_pairs_Turn_1.l0 k3 l0 a1 l2 l3 y122 (wrap64 (x13_3 + 2))) = some (r1, r2) := by first | (rw [hy122]; with_reducible exact H) | (have H2_ := (Option.bind_some _ _).symm.trans H; rw [hy122]; with_reducible exact H2_) | (have H2_ := (Option.bind_some _ _).symm.trans H; with_reducible exact H2_) | with_reducible exact H | (rw [hy122]; exact H) | exact H
                  have Ny122 := ym hy122
                  clear hy122
                  have H' := ym H
                  clear H
                  have p113 : 0 ≤ (x13_3 : Int) := of_decide_eq_true (by first | (with_reducible assumption) | assumption)
                  have q113 : x13_3 < (l0.length : Int) := of_decide_eq_true (by first | (with_reducible assumption) | assumption)
                  obtain ⟨ad113, e113, hx113_0⟩ := Kd.at_int HR0.out x13_3 p113 q113
                  cases e113
                  replace hx113_0 := (HB.out.cell (World.block_lt_of_cell? w _ hx113_0)).trans hx113_0
                  replace p113 := eq_true p113
                  replace q113 := eq_true q113
                  have p114 : 0 ≤ ((ji21) : Int) := of_decide_eq_true (by first | (with_reducible assumption) | assumption)
                  have q114 : (ji21) < (l0.length : Int) := of_decide_eq_true (by first | (with_reducible assumption) | assumption)
                  obtain ⟨ad114, e114, hx114_0⟩ := Kd.at_int HR0.out (ji21) p114 q114
                  obtain rfl : ad113 = ad114 := (by injection e114)
                  replace hx114_0 := (HB.out.cell (World.block_lt_of_cell? w _ hx114_0)).trans hx114_0
                  replace p114 := eq_true p114
                  replace q114 := eq_true q114
                  have p115 : 0 ≤ ((ji24) : Int) := of_decide_eq_true (by first | (with_reducible assumption) | assumption)
                  have q115 : (ji24) < (l2.length : Int) := of_decide_eq_true (by first | (with_reducible assumption) | assumption)
                  obtain ⟨ad115, e115, hx115_0⟩ := Kd.at_int HR2.out (ji24) p115 q115
                  cases e115
                  replace hx115_0 := (HB.out.cell (World.block_lt_of_cell? w _ hx115_0)).trans hx115_0
                  replace p115 := eq_true p115
                  replace q115 := eq_true q115
                  have p116 : 0 ≤ ((ji24) : Int) := of_decide_eq_true (by first | (with_reducible assumption) | assumption)
                  have q116 : (ji24) < (l3.length : Int) := of_decide_eq_true (by first | (with_reducible assumption) | assumption)
                  obtain ⟨ad116, e116, hx116_0⟩ := Kd.at_int HR3.out (ji24) p116 q116
                  cases e116
                  replace hx116_0 := (HB.out.cell (World.block_lt_of_cell? w _ hx116_0)).trans hx116_0
                  replace p116 := eq_true p116
                  replace q116 := eq_true q116
                  have p32 : 0 ≤ (x13_3 : Int) := of_decide_eq_true (by first | (with_reducible assumption) | assumption)
                  have q32 : (x13_3 : Int) < ((x12_3.length : Int) : Int) := of_decide_eq_true (by first | (with_reducible assumption) | assumption)
                  obtain ⟨go32, co32, eo32, gb32, gl32, cl32, HG32⟩ := Kd.R_form HO_12.out (by omega)
                  (first | cases eo32 | (injection eo32 with ea_ en_ ec_; (first | subst ea_ | (injection ea_ with ea_; subst ea_)); subst ec_; clear en_))
                  have GB32 := ym gb32
                  have GG32 := ym HG32
                  clear gb32 gl32 HG32
                  obtain ⟨hx32_0, hf32_0⟩ := Kd.R_celln 0 HO_12.out (x13_3 : Int) p32 q32
                  replace p32 := eq_true p32
                  replace q32 := eq_true q32
                  obtain ⟨hy35_, hz35_⟩ := Kd.R_celln 0 HO_12.out (x13_3 : Int) (of_decide_eq_true (by first | (with_reducible assumption) | assumption)) (of_decide_eq_true (by first | (with_reducible assumption) | assumption))
                  have HP35 := Kd.R_putg HO_12.out (x13_3 : Int) t119
                  go_wp2_with (first | (go_at_call 27; (with_reducible refine (rope_Turn_1.calls (wrap64 (rd l0 x13_3)) (wrap64 (rd l0 (ji21))) (wrap64 (rd l2 (ji24))) (wrap64 (rd l3 (ji24))) t117 t118 _ A28.out).mono ?_); rintro e w' ⟨rfl, ⟨nd, rfl⟩⟩; (try first | exact ⟨rfl, _, World.drewN_drewN _ _ _⟩ | exact ⟨rfl, _, Eq.trans (World.drewN_drewN _ _ _) (congrArg (World.drewN _) (Nat.add_assoc _ _ _))⟩)) | (go_at_call 31; (with_reducible refine (rope_narrow.calls t117 t119 _ A29.out).mono ?_); rintro e w' ⟨rfl, ⟨nd, rfl⟩⟩; (try first | exact ⟨rfl, _, World.drewN_drewN _ _ _⟩ | exact ⟨rfl, _, Eq.trans (World.drewN_drewN _ _ _) (congrArg (World.drewN _) (Nat.add_assoc _ _ _))⟩)) | (go_at_call 31; (with_reducible refine (rope_narrow.calls t118 t120 _ A30.out).mono ?_); rintro e w' ⟨rfl, ⟨nd, rfl⟩⟩; (try first | exact ⟨rfl, _, World.drewN_drewN _ _ _⟩ | exact ⟨rfl, _, Eq.trans (World.drewN_drewN _ _ _) (congrArg (World.drewN _) (Nat.add_assoc _ _ _))⟩)) | ((with_reducible refine gate_store (t := 33) (p := 91) rfl ?_); (try (rw [drewN_self wr]; generalize hq_ : World.drewN wr _ = wr; have n0_ := ym (Kd.R_at hq_ HO_12.out); have n1_ := ym (below_at hq_ HB.out); clear hq_ HO_12 HB; have HO_12 := n0_; have HB := n1_; clear n0_ n1_; (try (obtain ⟨hy35_, hz35_⟩ := Kd.R_celln 0 HO_12.out (x13_3 : Int) (of_decide_eq_true (by first | (with_reducible assumption) | assumption)) (of_decide_eq_true (by first | (with_reducible assumption) | assumption)))); (try (have HP35 := Kd.R_putg HO_12.out (x13_3 : Int) t119)))); refine store_event (t := 33) (p := 91) (v := ?vo_w36) (w1 := (wr.setCell ⟨go32, (x13_3 : Int).toNat, none⟩ (.int .i8 t119))) ?hg ?ho ?hn ?hr ?_; (case ho => rfl); (case hg => rfl); (case hn => rfl); (case hr => first | (go_simp; done) | (go_simp; rfl)); intro w36 hw; have hg : wr.grownBy w36 (some go32) := (by rw [hw]; exact HP35.2); have hp_ : Kd.R (Kd.int .i8) 33 w36 w.heap.size (fun _ => True) (.slice (some ⟨go32, 0, none⟩) x12_3.length co32) y121 := (by rw [hw, Ny121.out]; exact HP35.1); clear HP35; have n0_ := ym (hp_); have n1_ := ym ((by rw [hw]; exact ys (HB.out) GB32.out : Below w.heap.size w w36)); clear HO_12; clear HB; have HO_12 := n0_; have HB := n1_; clear n0_ n1_; clear hg hw hp_; have p34 : 0 ≤ ((ji21) : Int) := of_decide_eq_true (by first | (with_reducible assumption) | assumption); have q34 : ((ji21) : Int) < ((x12_3.length : Int) : Int) := of_decide_eq_true (by first | (with_reducible assumption) | assumption); obtain ⟨hx34_0, hf34_0⟩ := Kd.R_celln 0 HO_12.out ((ji21) : Int) p34 q34; replace p34 := eq_true p34; replace q34 := eq_true q34; obtain ⟨hy37_, hz37_⟩ := Kd.R_celln 0 HO_12.out ((ji21) : Int) (of_decide_eq_true (by first | (with_reducible assumption) | assumption)) (of_decide_eq_true (by first | (with_reducible assumption) | assumption)); have HP37 := Kd.R_putg HO_12.out ((ji21) : Int) t120) | ((with_reducible refine gate_store (t := 33) (p := 92) rfl ?_); (try (rw [drewN_self w36]; generalize hq_ : World.drewN w36 _ = w36; have n0_ := ym (Kd.R_at hq_ HO_12.out); have n1_ := ym (below_at hq_ HB.out); clear hq_ HO_12 HB; have HO_12 := n0_; have HB := n1_; clear n0_ n1_; (try (obtain ⟨hy37_, hz37_⟩ := Kd.R_celln 0 HO_12.out ((ji21) : Int) (of_decide_eq_true (by first | (with_reducible assumption) | assumption)) (of_decide_eq_true (by first | (with_reducible assumption) | assumption)))); (try (have HP37 := Kd.R_putg HO_12.out ((ji21) : Int) t120)))); refine store_event (t := 33) (p := 92) (v := ?vo_w38) (w1 := (w36.setCell ⟨go32, ((ji21) : Int).toNat, none⟩ (.int .i8 t120))) ?hg ?ho ?hn ?hr ?_; (case ho => rfl); (case hg => rfl); (case hn => rfl); (case hr => first | (go_simp; done) | (go_simp; rfl)); intro w38 hw; have hg : w36.grownBy w38 (some go32) := (by rw [hw]; exact HP37.2); have hp_ : Kd.R (Kd.int .i8) 33 w38 w.heap.size (fun _ => True) (.slice (some ⟨go32, 0, none⟩) x12_3.length co32) y122 := (by rw [hw, Ny122.out]; exact HP37.1); clear HP37; have n0_ := ym (hp_); have n1_ := ym ((by rw [hw]; exact ys (HB.out) GB32.out : Below w.heap.size w w38)); clear HO_12; clear HB; have HO_12 := n0_; have HB := n1_; clear n0_ n1_; clear hg hw hp_))
                  repeat (go_quiet (first | (go_at_call 27; (with_reducible refine (rope_Turn_1.calls (wrap64 (rd l0 x13_3)) (wrap64 (rd l0 (ji21))) (wrap64 (rd l2 (ji24))) (wrap64 (rd l3 (ji24))) t117 t118 _ A28.out).mono ?_); rintro e w' ⟨rfl, ⟨nd, rfl⟩⟩; (try first | exact ⟨rfl, _, World.drewN_drewN _ _ _⟩ | exact ⟨rfl, _, Eq.trans (World.drewN_drewN _ _ _) (congrArg (World.drewN _) (Nat.add_assoc _ _ _))⟩)) | (go_at_call 31; (with_reducible refine (rope_narrow.calls t117 t119 _ A29.out).mono ?_); rintro e w' ⟨rfl, ⟨nd, rfl⟩⟩; (try first | exact ⟨rfl, _, World.drewN_drewN _ _ _⟩ | exact ⟨rfl, _, Eq.trans (World.drewN_drewN _ _ _) (congrArg (World.drewN _) (Nat.add_assoc _ _ _))⟩)) | (go_at_call 31; (with_reducible refine (rope_narrow.calls t118 t120 _ A30.out).mono ?_); rintro e w' ⟨rfl, ⟨nd, rfl⟩⟩; (try first | exact ⟨rfl, _, World.drewN_drewN _ _ _⟩ | exact ⟨rfl, _, Eq.trans (World.drewN_drewN _ _ _) (congrArg (World.drewN _) (Nat.add_assoc _ _ _))⟩)) | ((with_reducible refine gate_store (t := 33) (p := 91) rfl ?_); (try (rw [drewN_self wr]; generalize hq_ : World.drewN wr _ = wr; have n0_ := ym (Kd.R_at hq_ HO_12.out); have n1_ := ym (below_at hq_ HB.out); clear hq_ HO_12 HB; have HO_12 := n0_; have HB := n1_; clear n0_ n1_; (try (obtain ⟨hy35_, hz35_⟩ := Kd.R_celln 0 HO_12.out (x13_3 : Int) (of_decide_eq_true (by first | (with_reducible assumption) | assumption)) (of_decide_eq_true (by first | (with_reducible assumption) | assumption)))); (try (have HP35 := Kd.R_putg HO_12.out (x13_3 : Int) t119)))); refine store_event (t := 33) (p := 91) (v := ?vo_w36) (w1 := (wr.setCell ⟨go32, (x13_3 : Int).toNat, none⟩ (.int .i8 t119))) ?hg ?ho ?hn ?hr ?_; (case ho => rfl); (case hg => rfl); (case hn => rfl); (case hr => first | (go_simp; done) | (go_simp; rfl)); intro w36 hw; have hg : wr.grownBy w36 (some go32) := (by rw [hw]; exact HP35.2); have hp_ : Kd.R (Kd.int .i8) 33 w36 w.heap.size (fun _ => True) (.slice (some ⟨go32, 0, none⟩) x12_3.length co32) y121 := (by rw [hw, Ny121.out]; exact HP35.1); clear HP35; have n0_ := ym (hp_); have n1_ := ym ((by rw [hw]; exact ys (HB.out) GB32.out : Below w.heap.size w w36)); clear HO_12; clear HB; have HO_12 := n0_; have HB := n1_; clear n0_ n1_; clear hg hw hp_; have p34 : 0 ≤ ((ji21) : Int) := of_decide_eq_true (by first | (with_reducible assumption) | assumption); have q34 : ((ji21) : Int) < ((x12_3.length : Int) : Int) := of_decide_eq_true (by first | (with_reducible assumption) | assumption); obtain ⟨hx34_0, hf34_0⟩ := Kd.R_celln 0 HO_12.out ((ji21) : Int) p34 q34; replace p34 := eq_true p34; replace q34 := eq_true q34; obtain ⟨hy37_, hz37_⟩ := Kd.R_celln 0 HO_12.out ((ji21) : Int) (of_decide_eq_true (by first | (with_reducible assumption) | assumption)) (of_decide_eq_true (by first | (with_reducible assumption) | assumption)); have HP37 := Kd.R_putg HO_12.out ((ji21) : Int) t120) | ((with_reducible refine gate_store (t := 33) (p := 92) rfl ?_); (try (rw [drewN_self w36]; generalize hq_ : World.drewN w36 _ = w36; have n0_ := ym (Kd.R_at hq_ HO_12.out); have n1_ := ym (below_at hq_ HB.out); clear hq_ HO_12 HB; have HO_12 := n0_; have HB := n1_; clear n0_ n1_; (try (obtain ⟨hy37_, hz37_⟩ := Kd.R_celln 0 HO_12.out ((ji21) : Int) (of_decide_eq_true (by first | (with_reducible assumption) | assumption)) (of_decide_eq_true (by first | (with_reducible assumption) | assumption)))); (try (have HP37 := Kd.R_putg HO_12.out ((ji21) : Int) t120)))); refine store_event (t := 33) (p := 92) (v := ?vo_w38) (w1 := (w36.setCell ⟨go32, ((ji21) : Int).toNat, none⟩ (.int .i8 t120))) ?hg ?ho ?hn ?hr ?_; (case ho => rfl); (case hg => rfl); (case hn => rfl); (case hr => first | (go_simp; done) | (go_simp; rfl)); intro w38 hw; have hg : w36.grownBy w38 (some go32) := (by rw [hw]; exact HP37.2); have hp_ : Kd.R (Kd.int .i8) 33 w38 w.heap.size (fun _ => True) (.slice (some ⟨go32, 0, none⟩) x12_3.length co32) y122 := (by rw [hw, Ny122.out]; exact HP37.1); clear HP37; have n0_ := ym (hp_); have n1_ := ym ((by rw [hw]; exact ys (HB.out) GB32.out : Below w.heap.size w w38)); clear HO_12; clear HB; have HO_12 := n0_; have HB := n1_; clear n0_ n1_; clear hg hw hp_)); try go_wp2_with (first | (go_at_call 27; (with_reducible refine (rope_Turn_1.calls (wrap64 (rd l0 x13_3)) (wrap64 (rd l0 (ji21))) (wrap64 (rd l2 (ji24))) (wrap64 (rd l3 (ji24))) t117 t118 _ A28.out).mono ?_); rintro e w' ⟨rfl, ⟨nd, rfl⟩⟩; (try first | exact ⟨rfl, _, World.drewN_drewN _ _ _⟩ | exact ⟨rfl, _, Eq.trans (World.drewN_drewN _ _ _) (congrArg (World.drewN _) (Nat.add_assoc _ _ _))⟩)) | (go_at_call 31; (with_reducible refine (rope_narrow.calls t117 t119 _ A29.out).mono ?_); rintro e w' ⟨rfl, ⟨nd, rfl⟩⟩; (try first | exact ⟨rfl, _, World.drewN_drewN _ _ _⟩ | exact ⟨rfl, _, Eq.trans (World.drewN_drewN _ _ _) (congrArg (World.drewN _) (Nat.add_assoc _ _ _))⟩)) | (go_at_call 31; (with_reducible refine (rope_narrow.calls t118 t120 _ A30.out).mono ?_); rintro e w' ⟨rfl, ⟨nd, rfl⟩⟩; (try first | exact ⟨rfl, _, World.drewN_drewN _ _ _⟩ | exact ⟨rfl, _, Eq.trans (World.drewN_drewN _ _ _) (congrArg (World.drewN _) (Nat.add_assoc _ _ _))⟩)) | ((with_reducible refine gate_store (t := 33) (p := 91) rfl ?_); (try (rw [drewN_self wr]; generalize hq_ : World.drewN wr _ = wr; have n0_ := ym (Kd.R_at hq_ HO_12.out); have n1_ := ym (below_at hq_ HB.out); clear hq_ HO_12 HB; have HO_12 := n0_; have HB := n1_; clear n0_ n1_; (try (obtain ⟨hy35_, hz35_⟩ := Kd.R_celln 0 HO_12.out (x13_3 : Int) (of_decide_eq_true (by first | (with_reducible assumption) | assumption)) (of_decide_eq_true (by first | (with_reducible assumption) | assumption)))); (try (have HP35 := Kd.R_putg HO_12.out (x13_3 : Int) t119)))); refine store_event (t := 33) (p := 91) (v := ?vo_w36) (w1 := (wr.setCell ⟨go32, (x13_3 : Int).toNat, none⟩ (.int .i8 t119))) ?hg ?ho ?hn ?hr ?_; (case ho => rfl); (case hg => rfl); (case hn => rfl); (case hr => first | (go_simp; done) | (go_simp; rfl)); intro w36 hw; have hg : wr.grownBy w36 (some go32) := (by rw [hw]; exact HP35.2); have hp_ : Kd.R (Kd.int .i8) 33 w36 w.heap.size (fun _ => True) (.slice (some ⟨go32, 0, none⟩) x12_3.length co32) y121 := (by rw [hw, Ny121.out]; exact HP35.1); clear HP35; have n0_ := ym (hp_); have n1_ := ym ((by rw [hw]; exact ys (HB.out) GB32.out : Below w.heap.size w w36)); clear HO_12; clear HB; have HO_12 := n0_; have HB := n1_; clear n0_ n1_; clear hg hw hp_; have p34 : 0 ≤ ((ji21) : Int) := of_decide_eq_true (by first | (with_reducible assumption) | assumption); have q34 : ((ji21) : Int) < ((x12_3.length : Int) : Int) := of_decide_eq_true (by first | (with_reducible assumption) | assumption); obtain ⟨hx34_0, hf34_0⟩ := Kd.R_celln 0 HO_12.out ((ji21) : Int) p34 q34; replace p34 := eq_true p34; replace q34 := eq_true q34; obtain ⟨hy37_, hz37_⟩ := Kd.R_celln 0 HO_12.out ((ji21) : Int) (of_decide_eq_true (by first | (with_reducible assumption) | assumption)) (of_decide_eq_true (by first | (with_reducible assumption) | assumption)); have HP37 := Kd.R_putg HO_12.out ((ji21) : Int) t120) | ((with_reducible refine gate_store (t := 33) (p := 92) rfl ?_); (try (rw [drewN_self w36]; generalize hq_ : World.drewN w36 _ = w36; have n0_ := ym (Kd.R_at hq_ HO_12.out); have n1_ := ym (below_at hq_ HB.out); clear hq_ HO_12 HB; have HO_12 := n0_; have HB := n1_; clear n0_ n1_; (try (obtain ⟨hy37_, hz37_⟩ := Kd.R_celln 0 HO_12.out ((ji21) : Int) (of_decide_eq_true (by first | (with_reducible assumption) | assumption)) (of_decide_eq_true (by first | (with_reducible assumption) | assumption)))); (try (have HP37 := Kd.R_putg HO_12.out ((ji21) : Int) t120)))); refine store_event (t := 33) (p := 92) (v := ?vo_w38) (w1 := (w36.setCell ⟨go32, ((ji21) : Int).toNat, none⟩ (.int .i8 t120))) ?hg ?ho ?hn ?hr ?_; (case ho => rfl); (case hg => rfl); (case hn => rfl); (case hr => first | (go_simp; done) | (go_simp; rfl)); intro w38 hw; have hg : w36.grownBy w38 (some go32) := (by rw [hw]; exact HP37.2); have hp_ : Kd.R (Kd.int .i8) 33 w38 w.heap.size (fun _ => True) (.slice (some ⟨go32, 0, none⟩) x12_3.length co32) y122 := (by rw [hw, Ny122.out]; exact HP37.1); clear HP37; have n0_ := ym (hp_); have n1_ := ym ((by rw [hw]; exact ys (HB.out) GB32.out : Below w.heap.size w w38)); clear HO_12; clear HB; have HO_12 := n0_; have HB := n1_; clear n0_ n1_; clear hg hw hp_)))
                  go_roundg k3
                  case measure => have := HJ5.out; have := HJ10.out; have := HK3.out; omega
                  case rel => exact ⟨(y122), (wrap64 (x13_3 + 2)), (by first | rfl | (simp; done) | (simp [*]; done)), H', ⟨by have := HJ5.out; have := HJ10.out; have := HK3.out; omega⟩, ⟨by (with_reducible repeat apply y2); exact HO_12.out⟩, ⟨by repeat (first | (with_reducible first | exact HB.out | apply y3) | exact HB.out)⟩⟩
                 rw [if_neg c33] at H
                 exact absurd H (by simp)
                rw [if_neg c31] at H
                exact absurd H (by simp)
               rw [if_neg c27] at H
               exact absurd H (by simp)
              rw [if_neg c26] at H
              exact absurd H (by simp)
             rw [if_neg c25] at H
             exact absurd H (by simp)
            rw [if_neg c23] at H
            exact absurd H (by simp)
           rw [if_neg c22] at H
           exact absurd H (by simp)
          rw [if_neg c20] at H
          exact absurd H (by simp)
         rw [if_neg c18] at H
         have c18b0 : decide (x13_3 < (l0.length : Int)) = false := decide_eq_false c18
         clear c18
         simp only [Option.some.injEq, Prod.mk.injEq] at H
         obtain ⟨rfl, rfl⟩ := H
         go_wp2
         repeat (go_quiet (fail); try go_wp2)
         go_ret2
         exact ⟨_, by first | rfl | (simp [errW_none, errW_some] <;> rfl) | (simp [*, errW_none, errW_some] <;> rfl), by (with_reducible repeat apply y2); exact HO_12.out, by repeat (first | (with_reducible first | exact HB.out | apply y3) | exact HB.out)⟩
      rw [if_neg c15] at H
      exact absurd H (by simp)
     rw [if_neg c14] at H
     exact absurd H (by simp)

end Go.Proofs.YtengkjkmdodifaaDoor.P
