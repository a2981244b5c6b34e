-- Printed by xprint.py (wip): functions, contracts, rows. Lean checks it.
import Derived.Test.YtengkjkmdodifaaDoorPx0
import Derived.Test.YtengkjkmdodifaaDoorPx12
namespace Go.Proofs.YtengkjkmdodifaaDoor.P
open Go.RowKit Go.Proofs.YtengkjkmdodifaaDoorW.PrintWords Go.Proofs.YtengkjkmdodifaaDoorW.PrintLast Go.Proofs.YtengkjkmdodifaaDoorW.PrintMore
attribute [local go_sem] max2_int min2_int max_two min_two max_three min_three max_four min_four   -- for this text's walks alone
set_option linter.unusedVariables false
set_option linter.unusedSimpArgs false

/-! ### heraldref10_turned: function 28 -/
mutual
def heraldref10_turned.j0 : Nat → List Int → Int → List Int → List Int → Int → Bool → Option (List Int × Int)
  | 0, _, _, _, _, _, _ => none
  | k + 1, x0, x1, x2, x3, x4, x30 => if x30 = true then (some (([] : List Int), 100)) else (if (x2.length : Int) = (wrap64 (Int.tdiv x1 2)) then (heraldref10_turned.j1 k x0 x1 x2 x3 x4 ((x3.length : Int) != (wrap64 (Int.tdiv x1 2)))) else (heraldref10_turned.j1 k x0 x1 x2 x3 x4 true))
def heraldref10_turned.j1 : Nat → List Int → Int → List Int → List Int → Int → Bool → Option (List Int × Int)
  | 0, _, _, _, _, _, _ => none
  | k + 1, x0, x1, x2, x3, x4, x42 => if x42 = true then (some (([] : List Int), 101)) else (heraldref10_turned.l0 k x0 x1 x2 x3 x4 (([] : List Int)) 0)
def heraldref10_turned.l0 : Nat → List Int → Int → List Int → List Int → Int → List Int → Int → Option (List Int × Int)
  | 0, _, _, _, _, _, _, _ => none
  | k + 1, x0, x1, x2, x3, x4, x12, x13 => if x13 < (x0.length : Int) then (if x1 = 0 then (none) else (if 0 ≤ x13 then (if 0 ≤ (wrap64 (x13 + 1)) then (if (wrap64 (x13 + 1)) < (x0.length : Int) then (if 0 ≤ (wrap64 (Int.tdiv (Int.tmod x13 x1) 2)) then (if (wrap64 (Int.tdiv (Int.tmod x13 x1) 2)) < (x2.length : Int) then (if (wrap64 (Int.tdiv (Int.tmod x13 x1) 2)) < (x3.length : Int) then ((heraldref10_both.f k (wrap64 (rd x0 x13)) (wrap64 (rd x0 (wrap64 (x13 + 1)))) (wrap64 (rd x2 (wrap64 (Int.tdiv (Int.tmod x13 x1) 2)))) (wrap64 (x4 * (wrap64 (rd x3 (wrap64 (Int.tdiv (Int.tmod x13 x1) 2))))))).bind fun bt199 => ((some (([bt199.1, bt199.2] : List Int) : List Int)).bind fun y201 => (if x12.length + y201.length < 140737488355328 then (heraldref10_turned.l0 k x0 x1 x2 x3 x4 (x12 ++ y201) (wrap64 (x13 + 2))) else (none)))) else (none)) else (none)) else (none)) else (none)) else (none)) else (none))) else (some (x12, 0))
end
def heraldref10_turned.f (k : Nat) (l0 : List Int) (a1 : Int) (l2 : List Int) (l3 : List Int) (a4 : Int) : Option (List Int × Int) := if a1 < 2 then (heraldref10_turned.j0 k l0 a1 l2 l3 a4 true) else (if (Int.tmod a1 2) = 0 then (if a1 = 0 then (none) else (heraldref10_turned.j0 k l0 a1 l2 l3 a4 (((l0.length : Int) % a1) != 0))) else (heraldref10_turned.j0 k l0 a1 l2 l3 a4 true))
theorem heraldref10_turned.mono_l : ∀ k, (∀ y0 y1 y2 y3 y4 y5, LeO (heraldref10_turned.j0 k y0 y1 y2 y3 y4 y5) (heraldref10_turned.j0 (k + 1) y0 y1 y2 y3 y4 y5)) ∧ (∀ y0 y1 y2 y3 y4 y5, LeO (heraldref10_turned.j1 k y0 y1 y2 y3 y4 y5) (heraldref10_turned.j1 (k + 1) y0 y1 y2 y3 y4 y5)) ∧ (∀ y0 y1 y2 y3 y4 y5 y6, LeO (heraldref10_turned.l0 k y0 y1 y2 y3 y4 y5 y6) (heraldref10_turned.l0 (k + 1) y0 y1 y2 y3 y4 y5 y6))
  | 0 => ⟨fun _ _ _ _ _ _ r h => by simp [heraldref10_turned.j0] at h, fun _ _ _ _ _ _ r h => by simp [heraldref10_turned.j1] at h, fun _ _ _ _ _ _ _ r h => by simp [heraldref10_turned.l0] at h⟩
  | k + 1 => by
    obtain ⟨ih0, ih1, ih2⟩ := heraldref10_turned.mono_l k
    refine ⟨?_, ?_, ?_⟩
    · intro y0 y1 y2 y3 y4 y5
      unfold heraldref10_turned.j0
      repeat' first
      | (with_reducible exact ih0 _ _ _ _ _ _)
      | (with_reducible exact ih1 _ _ _ _ _ _)
      | (with_reducible exact ih2 _ _ _ _ _ _ _)
      | (with_reducible exact heraldref10_both.mono _ _ _ _ _)
      | (with_reducible exact LeO.refl _)
      | (with_reducible exact LeO.none _)
      | (with_reducible refine LeO.ite ?_ ?_)
      | (with_reducible refine LeO.bind ?_ (fun _ => ?_))
      | exact ih0 _ _ _ _ _ _
      | exact ih1 _ _ _ _ _ _
      | exact ih2 _ _ _ _ _ _ _
      | exact heraldref10_both.mono _ _ _ _ _
      | exact LeO.none _
      | refine LeO.ite ?_ ?_
      | refine LeO.bind ?_ (fun _ => ?_)
    · intro y0 y1 y2 y3 y4 y5
      unfold heraldref10_turned.j1
      repeat' first
      | (with_reducible exact ih0 _ _ _ _ _ _)
      | (with_reducible exact ih1 _ _ _ _ _ _)
      | (with_reducible exact ih2 _ _ _ _ _ _ _)
      | (with_reducible exact heraldref10_both.mono _ _ _ _ _)
      | (with_reducible exact LeO.refl _)
      | (with_reducible exact LeO.none _)
      | (with_reducible refine LeO.ite ?_ ?_)
      | (with_reducible refine LeO.bind ?_ (fun _ => ?_))
      | exact ih0 _ _ _ _ _ _
      | exact ih1 _ _ _ _ _ _
      | exact ih2 _ _ _ _ _ _ _
      | exact heraldref10_both.mono _ _ _ _ _
      | exact LeO.none _
      | refine LeO.ite ?_ ?_
      | refine LeO.bind ?_ (fun _ => ?_)
    · intro y0 y1 y2 y3 y4 y5 y6
      unfold heraldref10_turned.l0
      repeat' first
      | (with_reducible exact ih0 _ _ _ _ _ _)
      | (with_reducible exact ih1 _ _ _ _ _ _)
      | (with_reducible exact ih2 _ _ _ _ _ _ _)
      | (with_reducible exact heraldref10_both.mono _ _ _ _ _)
      | (with_reducible exact LeO.refl _)
      | (with_reducible exact LeO.none _)
      | (with_reducible refine LeO.ite ?_ ?_)
      | (with_reducible refine LeO.bind ?_ (fun _ => ?_))
      | exact ih0 _ _ _ _ _ _
      | exact ih1 _ _ _ _ _ _
      | exact ih2 _ _ _ _ _ _ _
      | exact heraldref10_both.mono _ _ _ _ _
      | exact LeO.none _
      | refine LeO.ite ?_ ?_
      | refine LeO.bind ?_ (fun _ => ?_)
theorem heraldref10_turned.mono : ∀ a0 a1 a2 a3 a4 k, LeO (heraldref10_turned.f k a0 a1 a2 a3 a4) (heraldref10_turned.f (k + 1) a0 a1 a2 a3 a4) := by
  intro a0 a1 a2 a3 a4 k
  obtain ⟨ih0, ih1, ih2⟩ := heraldref10_turned.mono_l k
  unfold heraldref10_turned.f
  repeat' first
      | (with_reducible exact ih0 _ _ _ _ _ _)
      | (with_reducible exact ih1 _ _ _ _ _ _)
      | (with_reducible exact ih2 _ _ _ _ _ _ _)
      | (with_reducible exact heraldref10_both.mono _ _ _ _ _)
      | (with_reducible exact LeO.refl _)
      | (with_reducible exact LeO.none _)
      | (with_reducible refine LeO.ite ?_ ?_)
      | (with_reducible refine LeO.bind ?_ (fun _ => ?_))
      | exact ih0 _ _ _ _ _ _
      | exact ih1 _ _ _ _ _ _
      | exact ih2 _ _ _ _ _ _ _
      | exact heraldref10_both.mono _ _ _ _ _
      | exact LeO.none _
      | refine LeO.ite ?_ ?_
      | refine LeO.bind ?_ (fun _ => ?_)
set_option maxHeartbeats 8000000 in
set_option maxRecDepth 100000 in
theorem heraldref10_turned.calls (k : Nat) (A0 : Option Addr) (c0 : Nat) (l0 : List Int) (a1 : Int) (A2 : Option Addr) (c2 : Nat) (l2 : List Int) (A3 : Option Addr) (c3 : Nat) (l3 : List Int) (a4 : Int) (r1 : List Int) (r2 : Int) (w : World) (hr0 : Kd.C (Kd.int .i8) w A0 l0.length l0) (hc0 : l0.length ≤ c0) (hr2 : Kd.C (Kd.int .i8) w A2 l2.length l2) (hc2 : l2.length ≤ c2) (hr3 : Kd.C (Kd.int .i8) w A3 l3.length l3) (hc3 : l3.length ≤ c3) (h : heraldref10_turned.f k l0 a1 l2 l3 a4 = some (r1, r2)) :
    Calls Tryd.prog 28 #[.slice A0 l0.length c0, .int .i64 a1, .slice A2 l2.length c2, .slice A3 l3.length c3, .int .i64 a4] w fun e w' => ∃ v0_ : Value, e = .returned (.tuple #[v0_, .int .i64 r2]) ∧ Kd.R (Kd.int .i8) 33 w' w.heap.size (fun _ => True) v0_ r1 ∧ Below w.heap.size w w' := by
 have HR0 := ym hr0
 have HC0 := ym hc0
 clear hr0 hc0
 have HR2 := ym hr2
 have HC2 := ym hc2
 clear hr2 hc2
 have HR3 := ym hr3
 have HC3 := ym hc3
 clear hr3 hc3
 have HB := ym (Below.refl w.heap.size w)
 have H : (if a1 < 2 then (heraldref10_turned.j0 k l0 a1 l2 l3 a4 true) else (if (Int.tmod a1 2) = 0 then (if a1 = 0 then (none) else (heraldref10_turned.j0 k l0 a1 l2 l3 a4 (((l0.length : Int) % a1) != 0))) else (heraldref10_turned.j0 k l0 a1 l2 l3 a4 true))) = some (r1, r2) := h
 clear h
 have HC6 := ym H
 clear H
 go_enter Tryd.func28, Tryd.ntmps28
 go_upto_region 1 with (fail)
 repeat (go_quiet (fail); go_upto_region 1 with (fail))
 go_cut [30] (fun v30 wc => ∃ (kq : Nat) (x30_5 : Bool), v30 = .bool x30_5 ∧ Aside0 (heraldref10_turned.j0 kq l0 a1 l2 l3 a4 x30_5 = some (r1, r2)) ∧ Aside0 (kq ≤ k) ∧ Aside0 (Below w.heap.size w wc))
 case first =>
  have H := HC6.out
  clear HC6
  by_cases c7 : a1 < 2
  ·
   rw [if_pos c7] at H
   have c7b0 : decide (a1 < 2) = true := decide_eq_true c7
   clear c7
   (first | rw [c7b0] | (simp only [i64_w, i32_w]; rw [c7b0]) | skip)
   have H' := ym H
   clear H
   go_wp2
   repeat (go_quiet (fail); try go_wp2)
   go_meet
   case rel => exact ⟨_, (true), (by first | rfl | (simp; done) | (simp [*]; done)), H', ⟨by first | omega | exact Nat.le_refl _⟩, ⟨by repeat (first | (with_reducible first | exact HB.out | apply y3) | exact HB.out)⟩⟩
  rw [if_neg c7] at H
  have c7b0 : decide (a1 < 2) = false := decide_eq_false c7
  clear c7
  (first | rw [c7b0] | (simp only [i64_w, i32_w]; rw [c7b0]) | skip)
  by_cases c8 : (Int.tmod a1 2) = 0
  ·
   rw [if_pos c8] at H
   have c8b0 : ((Int.tmod a1 2) == 0) = true := beq_iff_eq.mpr c8
   have c8b1 : ((Int.tmod a1 2) != 0) = false := bne_eq_false_iff_eq.mpr c8
   clear c8
   by_cases c9 : a1 = 0
   ·
    rw [if_pos c9] at H
    exact absurd H (by simp)
   rw [if_neg c9] at H
   have c9b0 : (a1 == 0) = false := beq_eq_false_iff_ne.mpr c9
   have c9b1 : (a1 != 0) = true := bne_iff_ne.mpr c9
   have H' := ym H
   clear H
   go_wp2
   repeat (go_quiet (fail); try go_wp2)
   go_meet
   case rel => exact ⟨_, ((((l0.length : Int) % a1) != 0)), (by first | rfl | (simp; done) | (simp [*]; done)), H', ⟨by first | omega | exact Nat.le_refl _⟩, ⟨by repeat (first | (with_reducible first | exact HB.out | apply y3) | exact HB.out)⟩⟩
  rw [if_neg c8] at H
  have c8b0 : ((Int.tmod a1 2) == 0) = false := beq_eq_false_iff_ne.mpr c8
  have c8b1 : ((Int.tmod a1 2) != 0) = true := bne_iff_ne.mpr c8
  have H' := ym H
  clear H
  go_wp2
  repeat (go_quiet (fail); try go_wp2)
  go_meet
  case rel => exact ⟨_, (true), (by first | rfl | (simp; done) | (simp [*]; done)), H', ⟨by first | omega | exact Nat.le_refl _⟩, ⟨by repeat (first | (with_reducible first | exact HB.out | apply y3) | exact HB.out)⟩⟩
 case rest =>
  clear HC6
  try clear c2
  try clear p2
  try clear c3
  try clear c7
  try clear c7b0
  try clear c8
  try clear c8b0
  try clear c8b1
  try clear c9
  try clear c9b0
  try clear c9b1
  obtain ⟨kq, x30_5, rfl, HA, HJ5, HB⟩ := hcut
  cases kq with
  | zero => exact absurd HA.out (by simp [heraldref10_turned.j0])
  | succ kj5 =>
   have H := HA.out
   clear HA
   simp only [heraldref10_turned.j0] at H
   by_cases c10 : x30_5 = true
   ·
    subst c10
    have H1 : (some (([] : List Int), 100)) = some (r1, r2) := by rw [if_pos rfl] at H; exact H
    clear H
    have H := H1
    clear H1
    simp only [Option.some.injEq, Prod.mk.injEq] at H
    obtain ⟨rfl, rfl⟩ := H
    go_wp2
    repeat (go_quiet (fail); try go_wp2)
    go_ret2
    exact ⟨_, by first | rfl | (simp [errW_none, errW_some] <;> rfl) | (simp [*, errW_none, errW_some] <;> rfl), by first | exact Kd.R_nil _ _ _ _ _ | exact Kd.N_nil _ _ _ _ _ | exact Kd.V_nil _ _ _ _ _ | exact Kd.Q_nil _ _ _ _ _ | exact Kd.S_nil _ _ _ _ _, by repeat (first | (with_reducible first | exact HB.out | apply y3) | exact HB.out)⟩
   replace c10 := Bool.eq_false_iff.mpr c10
   subst c10
   have H1 : (if (l2.length : Int) = (wrap64 (Int.tdiv a1 2)) then (heraldref10_turned.j1 kj5 l0 a1 l2 l3 a4 ((l3.length : Int) != (wrap64 (Int.tdiv a1 2)))) else (heraldref10_turned.j1 kj5 l0 a1 l2 l3 a4 true)) = some (r1, r2) := by rw [if_neg (show ¬ (false = true) by decide)] at H; exact H
   clear H
   have H := H1
   clear H1
   have HC11 := ym H
   clear H
   go_upto_region 3 with (fail)
   repeat (go_quiet (fail); go_upto_region 3 with (fail))
   go_cut [42] (fun v42 wc => ∃ (kq : Nat) (x42_10 : Bool), v42 = .bool x42_10 ∧ Aside0 (heraldref10_turned.j1 kq l0 a1 l2 l3 a4 x42_10 = some (r1, r2)) ∧ Aside0 (kq ≤ kj5) ∧ Aside0 (Below w.heap.size w wc))
   case first =>
    have H := HC11.out
    clear HC11
    by_cases c12 : (l2.length : Int) = (wrap64 (Int.tdiv a1 2))
    ·
     rw [if_pos c12] at H
     have c12b0 : ((l2.length : Int) == (wrap64 (Int.tdiv a1 2))) = true := beq_iff_eq.mpr c12
     have c12b1 : ((l2.length : Int) != (wrap64 (Int.tdiv a1 2))) = false := bne_eq_false_iff_eq.mpr c12
     clear c12
     (first | rw [c12b0] | (simp only [i64_w, i32_w]; rw [c12b0]) | skip)
     have H' := ym H
     clear H
     go_wp2
     repeat (go_quiet (fail); try go_wp2)
     go_meet
     case rel => exact ⟨_, (((l3.length : Int) != (wrap64 (Int.tdiv a1 2)))), (by first | rfl | (simp; done) | (simp [*]; done)), H', ⟨by have := HJ5.out; first | omega | exact Nat.le_refl _⟩, ⟨by repeat (first | (with_reducible first | exact HB.out | apply y3) | exact HB.out)⟩⟩
    rw [if_neg c12] at H
    have c12b0 : ((l2.length : Int) == (wrap64 (Int.tdiv a1 2))) = false := beq_eq_false_iff_ne.mpr c12
    have c12b1 : ((l2.length : Int) != (wrap64 (Int.tdiv a1 2))) = true := bne_iff_ne.mpr c12
    (first | rw [c12b0] | (simp only [i64_w, i32_w]; rw [c12b0]) | skip)
    have H' := ym H
    clear H
    go_wp2
    repeat (go_quiet (fail); try go_wp2)
    go_meet
    case rel => exact ⟨_, (true), (by first | rfl | (simp; done) | (simp [*]; done)), H', ⟨by have := HJ5.out; first | omega | exact Nat.le_refl _⟩, ⟨by repeat (first | (with_reducible first | exact HB.out | apply y3) | exact HB.out)⟩⟩
   case rest =>
    clear HC11
    try clear c1
    try clear c2
    try clear p2
    try clear c3
    try clear p6
    try clear c7
    try clear c7b0
    try clear c8
    try clear c8b0
    try clear c8b1
    try clear c9
    try clear c9b0
    try clear c9b1
    try clear c10
    try clear c12
    try clear c12b0
    try clear c12b1
    try clear p2
    obtain ⟨kq, x42_10, rfl, HA, HJ10, HB⟩ := hcut
    cases kq with
    | zero => exact absurd HA.out (by simp [heraldref10_turned.j1])
    | succ kj10 =>
     have H := HA.out
     clear HA
     simp only [heraldref10_turned.j1] at H
     by_cases c13 : x42_10 = true
     ·
      subst c13
      have H1 : (some (([] : List Int), 101)) = some (r1, r2) := by rw [if_pos rfl] at H; exact H
      clear H
      have H := H1
      clear H1
      simp only [Option.some.injEq, Prod.mk.injEq] at H
      obtain ⟨rfl, rfl⟩ := H
      go_wp2
      repeat (go_quiet (fail); try go_wp2)
      go_ret2
      exact ⟨_, by first | rfl | (simp [errW_none, errW_some] <;> rfl) | (simp [*, errW_none, errW_some] <;> rfl), by first | exact Kd.R_nil _ _ _ _ _ | exact Kd.N_nil _ _ _ _ _ | exact Kd.V_nil _ _ _ _ _ | exact Kd.Q_nil _ _ _ _ _ | exact Kd.S_nil _ _ _ _ _, by repeat (first | (with_reducible first | exact HB.out | apply y3) | exact HB.out)⟩
     replace c13 := Bool.eq_false_iff.mpr c13
     subst c13
     have H1 : (heraldref10_turned.l0 kj10 l0 a1 l2 l3 a4 (([] : List Int)) 0) = some (r1, r2) := by rw [if_neg (show ¬ (false = true) by decide)] at H; exact H
     clear H
     have H := H1
     clear H1
     obtain ⟨y192, hy192⟩ : ∃ y_ : List Int, y_ = (([] : List Int)) := ⟨_, rfl⟩
     replace H : (heraldref10_turned.l0 kj10 l0 a1 l2 l3 a4 y192 0) = some (r1, r2) := by first | (rw [hy192]; with_reducible exact H) | (have H2_ := (Option.bind_some _ _).symm.trans H; rw [hy192]; with_reducible exact H2_) | (have H2_ := (Option.bind_some _ _).symm.trans H; with_reducible exact H2_) | with_reducible exact H | (rw [hy192]; exact H) | exact H
     have Ny192 := ym hy192
     clear hy192
     have H' := ym H
     clear H
     go_wp2_with (first | ((with_reducible refine gate_dst (N := 43) rfl ?_); (try (refine gate_guard (by rfl) ?_; dsimp only)); refine Kd.R_lit (Kd.int .i8) _ 33 ?hg (N := 43) ?hd (xs := ([] : List Int)) (inner := []) (ok := fun _ => True) (okp := fun _ => True) ?hr ?hp (fun _ hk => hk) trivial (Below.refl _ _) (Nat.le_refl _) (by simp) ?_; (case hd => rfl); (case hg => rfl); (case hr => first | (go_simp; done) | (go_simp; rfl)); (case hp => exact (Reps.none _ _)); intro v193 w14 ho15 hb hg_ hnew_; clear hg_ hnew_; (first | rw [← Ny192.out] at ho15 | (simp only [Int.reduceToNat] at ho15; rw [← Ny192.out] at ho15)); have n0_ := ym (yo ho15 (below_size (by repeat (first | (with_reducible first | exact HB.out | apply y3) | exact HB.out)))); have n1_ := ym (yn (by repeat (first | (with_reducible first | exact HB.out | apply y3) | exact HB.out)) hb); clear HB; have HO194 := n0_; have HB := n1_; clear n0_ n1_; clear hb ho15))
     repeat (go_quiet (first | ((with_reducible refine gate_dst (N := 43) rfl ?_); (try (refine gate_guard (by rfl) ?_; dsimp only)); refine Kd.R_lit (Kd.int .i8) _ 33 ?hg (N := 43) ?hd (xs := ([] : List Int)) (inner := []) (ok := fun _ => True) (okp := fun _ => True) ?hr ?hp (fun _ hk => hk) trivial (Below.refl _ _) (Nat.le_refl _) (by simp) ?_; (case hd => rfl); (case hg => rfl); (case hr => first | (go_simp; done) | (go_simp; rfl)); (case hp => exact (Reps.none _ _)); intro v193 w14 ho15 hb hg_ hnew_; clear hg_ hnew_; (first | rw [← Ny192.out] at ho15 | (simp only [Int.reduceToNat] at ho15; rw [← Ny192.out] at ho15)); have n0_ := ym (yo ho15 (below_size (by repeat (first | (with_reducible first | exact HB.out | apply y3) | exact HB.out)))); have n1_ := ym (yn (by repeat (first | (with_reducible first | exact HB.out | apply y3) | exact HB.out)) hb); clear HB; have HO194 := n0_; have HB := n1_; clear n0_ n1_; clear hb ho15)); try go_wp2_with (first | ((with_reducible refine gate_dst (N := 43) rfl ?_); (try (refine gate_guard (by rfl) ?_; dsimp only)); refine Kd.R_lit (Kd.int .i8) _ 33 ?hg (N := 43) ?hd (xs := ([] : List Int)) (inner := []) (ok := fun _ => True) (okp := fun _ => True) ?hr ?hp (fun _ hk => hk) trivial (Below.refl _ _) (Nat.le_refl _) (by simp) ?_; (case hd => rfl); (case hg => rfl); (case hr => first | (go_simp; done) | (go_simp; rfl)); (case hp => exact (Reps.none _ _)); intro v193 w14 ho15 hb hg_ hnew_; clear hg_ hnew_; (first | rw [← Ny192.out] at ho15 | (simp only [Int.reduceToNat] at ho15; rw [← Ny192.out] at ho15)); have n0_ := ym (yo ho15 (below_size (by repeat (first | (with_reducible first | exact HB.out | apply y3) | exact HB.out)))); have n1_ := ym (yn (by repeat (first | (with_reducible first | exact HB.out | apply y3) | exact HB.out)) hb); clear HB; have HO194 := n0_; have HB := n1_; clear n0_ n1_; clear hb ho15)))
     go_loopg [12, 13] kj10 (fun kq v12 v13 w' => ∃ (x12_3 : List Int) (x13_3 : Int), v13 = .int .i64 x13_3 ∧ Aside0 (heraldref10_turned.l0 kq l0 a1 l2 l3 a4 x12_3 x13_3 = some (r1, r2)) ∧ Aside0 (kq ≤ kj10) ∧ Aside0 (Kd.R (Kd.int .i8) 33 w' w.heap.size (fun _ => True) v12 x12_3) ∧ Aside0 (Below w.heap.size w w'))
     case atStart => exact ⟨(y192), (0), (by first | rfl | (simp; done) | (simp [*]; done)), H', ⟨Nat.le_refl _⟩, ⟨by (with_reducible repeat apply y2); exact HO194.out⟩, ⟨by repeat (first | (with_reducible first | exact HB.out | apply y3) | exact HB.out)⟩⟩
     case round =>
      clear H'
      try clear c1
      try clear c2
      try clear p2
      try clear c3
      try clear p6
      try clear c7
      try clear c7b0
      try clear c8
      try clear c8b0
      try clear c8b1
      try clear c9
      try clear c9b0
      try clear c9b1
      try clear c10
      try clear c12
      try clear c12b0
      try clear c12b1
      try clear c13
      try clear p2
      try clear p6
      obtain ⟨x12_3, x13_3, rfl, HA, HK3, HO_12, HB⟩ := hrel
      cases gk with
      | zero => exact absurd HA.out (by simp [heraldref10_turned.l0])
      | succ k3 =>
       have H := HA.out
       clear HA
       simp only [heraldref10_turned.l0] at H
       by_cases c16 : x13_3 < (l0.length : Int)
       ·
        rw [if_pos c16] at H
        have c16b0 : decide (x13_3 < (l0.length : Int)) = true := decide_eq_true c16
        clear c16
        by_cases c17 : a1 = 0
        ·
         rw [if_pos c17] at H
         exact absurd H (by simp)
        rw [if_neg c17] at H
        have c17b0 : (a1 == 0) = false := beq_eq_false_iff_ne.mpr c17
        have c17b1 : (a1 != 0) = true := bne_iff_ne.mpr c17
        by_cases c18 : 0 ≤ x13_3
        ·
         rw [if_pos c18] at H
         have c18b0 : decide (0 ≤ x13_3) = true := decide_eq_true c18
         clear c18
         obtain ⟨ji19, hji19⟩ : ∃ j_ : Int, (wrap64 (x13_3 + 1)) = j_ := ⟨_, rfl⟩
         replace H : (if 0 ≤ (ji19) then (if (ji19) < (l0.length : Int) then (if 0 ≤ (wrap64 (Int.tdiv (Int.tmod x13_3 a1) 2)) then (if (wrap64 (Int.tdiv (Int.tmod x13_3 a1) 2)) < (l2.length : Int) then (if (wrap64 (Int.tdiv (Int.tmod x13_3 a1) 2)) < (l3.length : Int) then ((heraldref10_both.f k3 (wrap64 (rd l0 x13_3)) (wrap64 (rd l0 (ji19))) (wrap64 (rd l2 (wrap64 (Int.tdiv (Int.tmod x13_3 a1) 2)))) (wrap64 (a4 * (wrap64 (rd l3 (wrap64 (Int.tdiv (Int.tmod x13_3 a1) 2))))))).bind fun bt199 => ((some (([bt199.1, bt199.2] : List Int) : List Int)).bind fun y201 => (if x12_3.length + y201.length < 140737488355328 then (heraldref10_turned.l0 k3 l0 a1 l2 l3 a4 (x12_3 ++ y201) (wrap64 (x13_3 + 2))) else (none)))) else (none)) else (none)) else (none)) else (none)) else (none)) = some (r1, r2) := by first | (rw [hji19] at H; exact H) | (simp only [hji19] at H ⊢; exact H)
         have hji19w : (IntKind.i64.wrap (x13_3 + 1)) = ji19 := (i64_w _).trans hji19
         by_cases c20 : 0 ≤ (ji19)
         ·
          rw [if_pos c20] at H
          have c20b0 : decide (0 ≤ (ji19)) = true := decide_eq_true c20
          clear c20
          by_cases c21 : (ji19) < (l0.length : Int)
          ·
           rw [if_pos c21] at H
           have c21b0 : decide ((ji19) < (l0.length : Int)) = true := decide_eq_true c21
           clear c21
           obtain ⟨ji22, hji22⟩ : ∃ j_ : Int, (wrap64 (Int.tdiv (Int.tmod x13_3 a1) 2)) = j_ := ⟨_, rfl⟩
           replace H : (if 0 ≤ (ji22) then (if (ji22) < (l2.length : Int) then (if (ji22) < (l3.length : Int) then ((heraldref10_both.f k3 (wrap64 (rd l0 x13_3)) (wrap64 (rd l0 (ji19))) (wrap64 (rd l2 (ji22))) (wrap64 (a4 * (wrap64 (rd l3 (ji22)))))).bind fun bt199 => ((some (([bt199.1, bt199.2] : List Int) : List Int)).bind fun y201 => (if x12_3.length + y201.length < 140737488355328 then (heraldref10_turned.l0 k3 l0 a1 l2 l3 a4 (x12_3 ++ y201) (wrap64 (x13_3 + 2))) else (none)))) else (none)) else (none)) else (none)) = some (r1, r2) := by first | (rw [hji22] at H; exact H) | (simp only [hji22] at H ⊢; exact H)
           have hji22w : (IntKind.i64.wrap (Int.tdiv (Int.tmod x13_3 a1) 2)) = ji22 := (i64_w _).trans hji22
           by_cases c23 : 0 ≤ (ji22)
           ·
            rw [if_pos c23] at H
            have c23b0 : decide (0 ≤ (ji22)) = true := decide_eq_true c23
            clear c23
            by_cases c24 : (ji22) < (l2.length : Int)
            ·
             rw [if_pos c24] at H
             have c24b0 : decide ((ji22) < (l2.length : Int)) = true := decide_eq_true c24
             clear c24
             by_cases c25 : (ji22) < (l3.length : Int)
             ·
              rw [if_pos c25] at H
              have c25b0 : decide ((ji22) < (l3.length : Int)) = true := decide_eq_true c25
              clear c25
              replace H := Option.bind_eq_some_iff.mp H
              obtain ⟨⟨t199, t200⟩, A260, H⟩ := H
              replace H : ((some (([t199, t200] : List Int) : List Int)).bind fun y201 => (if x12_3.length + y201.length < 140737488355328 then (heraldref10_turned.l0 k3 l0 a1 l2 l3 a4 (x12_3 ++ y201) (wrap64 (x13_3 + 2))) else (none))) = some (r1, r2) := H
              have A26 := ym A260
              clear A260
              obtain ⟨y201, hy201⟩ : ∃ y_ : List Int, y_ = (([t199, t200] : List Int)) := ⟨_, rfl⟩
              replace H : (if x12_3.length + y201.length < 140737488355328 then (heraldref10_turned.l0 k3 l0 a1 l2 l3 a4 (x12_3 ++ y201) (wrap64 (x13_3 + 2))) else (none)) = some (r1, r2) := by first | (rw [hy201]; with_reducible exact H) | (have H2_ := (Option.bind_some _ _).symm.trans H; rw [hy201]; with_reducible exact H2_) | (have H2_ := (Option.bind_some _ _).symm.trans H; with_reducible exact H2_) | with_reducible exact H | (rw [hy201]; exact H) | exact H
              have Ny201 := ym hy201
              clear hy201
              by_cases c27 : x12_3.length + y201.length < 140737488355328
              ·
               rw [if_pos c27] at H
               have LMc27 := ym c27
               clear c27
               obtain ⟨y204, hy204⟩ : ∃ y_ : List Int, y_ = (x12_3 ++ y201) := ⟨_, rfl⟩
               replace H : (heraldref10_turned.l0 k3 l0 a1 l2 l3 a4 y204 (wrap64 (x13_3 + 2))) = some (r1, r2) := by first | (rw [hy204]; with_reducible exact H) | (have H2_ := (Option.bind_some _ _).symm.trans H; rw [hy204]; with_reducible exact H2_) | (have H2_ := (Option.bind_some _ _).symm.trans H; with_reducible exact H2_) | with_reducible exact H | (rw [hy204]; exact H) | exact H
               have Ny204 := ym hy204
               clear hy204
               have H' := ym H
               clear H
               have p195 : 0 ≤ (x13_3 : Int) := of_decide_eq_true (by first | (with_reducible assumption) | assumption)
               have q195 : x13_3 < (l0.length : Int) := of_decide_eq_true (by first | (with_reducible assumption) | assumption)
               obtain ⟨ad195, e195, hx195_0⟩ := Kd.at_int HR0.out x13_3 p195 q195
               cases e195
               replace hx195_0 := (HB.out.cell (World.block_lt_of_cell? w _ hx195_0)).trans hx195_0
               replace p195 := eq_true p195
               replace q195 := eq_true q195
               have p196 : 0 ≤ ((ji19) : Int) := of_decide_eq_true (by first | (with_reducible assumption) | assumption)
               have q196 : (ji19) < (l0.length : Int) := of_decide_eq_true (by first | (with_reducible assumption) | assumption)
               obtain ⟨ad196, e196, hx196_0⟩ := Kd.at_int HR0.out (ji19) p196 q196
               obtain rfl : ad195 = ad196 := (by injection e196)
               replace hx196_0 := (HB.out.cell (World.block_lt_of_cell? w _ hx196_0)).trans hx196_0
               replace p196 := eq_true p196
               replace q196 := eq_true q196
               have p197 : 0 ≤ ((ji22) : Int) := of_decide_eq_true (by first | (with_reducible assumption) | assumption)
               have q197 : (ji22) < (l2.length : Int) := of_decide_eq_true (by first | (with_reducible assumption) | assumption)
               obtain ⟨ad197, e197, hx197_0⟩ := Kd.at_int HR2.out (ji22) p197 q197
               cases e197
               replace hx197_0 := (HB.out.cell (World.block_lt_of_cell? w _ hx197_0)).trans hx197_0
               replace p197 := eq_true p197
               replace q197 := eq_true q197
               have p198 : 0 ≤ ((ji22) : Int) := of_decide_eq_true (by first | (with_reducible assumption) | assumption)
               have q198 : (ji22) < (l3.length : Int) := of_decide_eq_true (by first | (with_reducible assumption) | assumption)
               obtain ⟨ad198, e198, hx198_0⟩ := Kd.at_int HR3.out (ji22) p198 q198
               cases e198
               replace hx198_0 := (HB.out.cell (World.block_lt_of_cell? w _ hx198_0)).trans hx198_0
               replace p198 := eq_true p198
               replace q198 := eq_true q198
               go_wp2_with (first | (go_at_call 32; (with_reducible refine (heraldref10_both.calls k3 (wrap64 (rd l0 x13_3)) (wrap64 (rd l0 (ji19))) (wrap64 (rd l2 (ji22))) (wrap64 (a4 * (wrap64 (rd l3 (ji22))))) t199 t200 _ A26.out).mono ?_); rintro e w' ⟨rfl, ⟨nd, rfl⟩⟩; (try first | exact ⟨rfl, _, World.drewN_drewN _ _ _⟩ | exact ⟨rfl, _, Eq.trans (World.drewN_drewN _ _ _) (congrArg (World.drewN _) (Nat.add_assoc _ _ _))⟩)) | ((with_reducible refine gate_dst (N := 84) rfl ?_); (try (refine gate_guard (by rfl) ?_; dsimp only)); refine Kd.R_lit (Kd.int .i8) _ 33 ?hg (N := 84) ?hd (xs := ([t199, t200] : List Int)) (inner := [.int .i8 t199, .int .i8 t200]) (ok := fun _ => True) (okp := fun _ => True) ?hr ?hp (fun _ hk => hk) trivial (Below.refl _ _) (Nat.le_refl _) (by simp) ?_; (case hd => rfl); (case hg => rfl); (case hr => first | (go_simp; done) | (go_simp; rfl)); (case hp => exact (Reps.one (show Kd.M (Kd.int .i8) _ _ _ t199 [.int .i8 t199] from rfl) (Reps.one (show Kd.M (Kd.int .i8) _ _ _ t200 [.int .i8 t200] from rfl) (Reps.none _ _)))); intro v202 w28 ho29 hb hg_ hnew_; clear hg_ hnew_; (first | rw [← Ny201.out] at ho29 | (simp only [Int.reduceToNat] at ho29; rw [← Ny201.out] at ho29)); have n0_ := ym (Kd.R_elder' (by (with_reducible repeat apply y2); exact HO_12.out) (Kd.R_base ho29) hb); have n1_ := ym (yo (Kd.R_new' ho29 (Kd.R_lt (by (with_reducible repeat apply y2); exact HO_12.out))) (below_size (by repeat (first | (with_reducible first | exact HB.out | apply y3) | exact HB.out)))); have n2_ := ym (yn (by repeat (first | (with_reducible first | exact HB.out | apply y3) | exact HB.out)) hb); clear HO_12; clear HB; have HO_12 := n0_; have HO203 := n1_; have HB := n2_; clear n0_ n1_ n2_; clear hb ho29; obtain ⟨Ao31, co31, eo31⟩ := Kd.R_slice HO203.out; subst eo31) | ((with_reducible refine gate_builtin (b := .append) (xs := #[.tmp 81, .tmp 84]) rfl ?_); (try (refine gate_guard (by rfl) ?_; dsimp only)); at_builtin; refine Kd.R_append_rows (Kd.int .i8) (w0 := w) w.heap.size rfl (.tmp 81) (.tmp 84) 22 33 (.int .i8 0) 1 rfl Tryd.underlying22 info33 rfl (by decide) (by omega) u12 x12_3 y201 _ _ _ (fun k_ => some k_ ≠ (.slice Ao31 y201.length co31 : Value).ownBlock) (fun _ => False) rfl rfl ?aO ?aR (fun _ _ h => h) (fun _ h => h.elim) ?aF ?aB ?aS ?aL ?_; (case aR => repeat (first | exact (Kd.R_reads' HO203.out).2.2 | (with_reducible refine yi ?_ _) | (with_reducible refine yj ?_ _) | (with_reducible refine yk ?_))); (case aB => exact (by repeat (first | (with_reducible first | exact HB.out | apply y3) | exact HB.out))); (case aF => exact (fun k_ hk => Kd.fresh' (Kd.R_lt (by (with_reducible repeat apply y2); exact HO203.out)) k_ hk)); (case aO => exact (by (with_reducible repeat apply y2); exact Kd.R_mono HO_12.out (fun _ hk => hk.2))); (case aS => exact (below_size (by repeat (first | (with_reducible first | exact HB.out | apply y3) | exact HB.out)))); (case aL => have := LMc27.out; omega); intro v205 w30 ho hb hg hat; rw [← Ny204.out] at ho; have n0_ := ym (Kd.R_after (ok := (fun _ => True)) (by (with_reducible repeat apply y2); exact HO203.out) hg hat); have n1_ := ym (hb); have n2_ := ym (ho); clear HO203; clear HB; clear HO_12; have HO203 := n0_; have HB := n1_; have HO206 := n2_; clear n0_ n1_ n2_; clear ho hb hg hat))
               repeat (go_quiet (first | (go_at_call 32; (with_reducible refine (heraldref10_both.calls k3 (wrap64 (rd l0 x13_3)) (wrap64 (rd l0 (ji19))) (wrap64 (rd l2 (ji22))) (wrap64 (a4 * (wrap64 (rd l3 (ji22))))) t199 t200 _ A26.out).mono ?_); rintro e w' ⟨rfl, ⟨nd, rfl⟩⟩; (try first | exact ⟨rfl, _, World.drewN_drewN _ _ _⟩ | exact ⟨rfl, _, Eq.trans (World.drewN_drewN _ _ _) (congrArg (World.drewN _) (Nat.add_assoc _ _ _))⟩)) | ((with_reducible refine gate_dst (N := 84) rfl ?_); (try (refine gate_guard (by rfl) ?_; dsimp only)); refine Kd.R_lit (Kd.int .i8) _ 33 ?hg (N := 84) ?hd (xs := ([t199, t200] : List Int)) (inner := [.int .i8 t199, .int .i8 t200]) (ok := fun _ => True) (okp := fun _ => True) ?hr ?hp (fun _ hk => hk) trivial (Below.refl _ _) (Nat.le_refl _) (by simp) ?_; (case hd => rfl); (case hg => rfl); (case hr => first | (go_simp; done) | (go_simp; rfl)); (case hp => exact (Reps.one (show Kd.M (Kd.int .i8) _ _ _ t199 [.int .i8 t199] from rfl) (Reps.one (show Kd.M (Kd.int .i8) _ _ _ t200 [.int .i8 t200] from rfl) (Reps.none _ _)))); intro v202 w28 ho29 hb hg_ hnew_; clear hg_ hnew_; (first | rw [← Ny201.out] at ho29 | (simp only [Int.reduceToNat] at ho29; rw [← Ny201.out] at ho29)); have n0_ := ym (Kd.R_elder' (by (with_reducible repeat apply y2); exact HO_12.out) (Kd.R_base ho29) hb); have n1_ := ym (yo (Kd.R_new' ho29 (Kd.R_lt (by (with_reducible repeat apply y2); exact HO_12.out))) (below_size (by repeat (first | (with_reducible first | exact HB.out | apply y3) | exact HB.out)))); have n2_ := ym (yn (by repeat (first | (with_reducible first | exact HB.out | apply y3) | exact HB.out)) hb); clear HO_12; clear HB; have HO_12 := n0_; have HO203 := n1_; have HB := n2_; clear n0_ n1_ n2_; clear hb ho29; obtain ⟨Ao31, co31, eo31⟩ := Kd.R_slice HO203.out; subst eo31) | ((with_reducible refine gate_builtin (b := .append) (xs := #[.tmp 81, .tmp 84]) rfl ?_); (try (refine gate_guard (by rfl) ?_; dsimp only)); at_builtin; refine Kd.R_append_rows (Kd.int .i8) (w0 := w) w.heap.size rfl (.tmp 81) (.tmp 84) 22 33 (.int .i8 0) 1 rfl Tryd.underlying22 info33 rfl (by decide) (by omega) u12 x12_3 y201 _ _ _ (fun k_ => some k_ ≠ (.slice Ao31 y201.length co31 : Value).ownBlock) (fun _ => False) rfl rfl ?aO ?aR (fun _ _ h => h) (fun _ h => h.elim) ?aF ?aB ?aS ?aL ?_; (case aR => repeat (first | exact (Kd.R_reads' HO203.out).2.2 | (with_reducible refine yi ?_ _) | (with_reducible refine yj ?_ _) | (with_reducible refine yk ?_))); (case aB => exact (by repeat (first | (with_reducible first | exact HB.out | apply y3) | exact HB.out))); (case aF => exact (fun k_ hk => Kd.fresh' (Kd.R_lt (by (with_reducible repeat apply y2); exact HO203.out)) k_ hk)); (case aO => exact (by (with_reducible repeat apply y2); exact Kd.R_mono HO_12.out (fun _ hk => hk.2))); (case aS => exact (below_size (by repeat (first | (with_reducible first | exact HB.out | apply y3) | exact HB.out)))); (case aL => have := LMc27.out; omega); intro v205 w30 ho hb hg hat; rw [← Ny204.out] at ho; have n0_ := ym (Kd.R_after (ok := (fun _ => True)) (by (with_reducible repeat apply y2); exact HO203.out) hg hat); have n1_ := ym (hb); have n2_ := ym (ho); clear HO203; clear HB; clear HO_12; have HO203 := n0_; have HB := n1_; have HO206 := n2_; clear n0_ n1_ n2_; clear ho hb hg hat)); try go_wp2_with (first | (go_at_call 32; (with_reducible refine (heraldref10_both.calls k3 (wrap64 (rd l0 x13_3)) (wrap64 (rd l0 (ji19))) (wrap64 (rd l2 (ji22))) (wrap64 (a4 * (wrap64 (rd l3 (ji22))))) t199 t200 _ A26.out).mono ?_); rintro e w' ⟨rfl, ⟨nd, rfl⟩⟩; (try first | exact ⟨rfl, _, World.drewN_drewN _ _ _⟩ | exact ⟨rfl, _, Eq.trans (World.drewN_drewN _ _ _) (congrArg (World.drewN _) (Nat.add_assoc _ _ _))⟩)) | ((with_reducible refine gate_dst (N := 84) rfl ?_); (try (refine gate_guard (by rfl) ?_; dsimp only)); refine Kd.R_lit (Kd.int .i8) _ 33 ?hg (N := 84) ?hd (xs := ([t199, t200] : List Int)) (inner := [.int .i8 t199, .int .i8 t200]) (ok := fun _ => True) (okp := fun _ => True) ?hr ?hp (fun _ hk => hk) trivial (Below.refl _ _) (Nat.le_refl _) (by simp) ?_; (case hd => rfl); (case hg => rfl); (case hr => first | (go_simp; done) | (go_simp; rfl)); (case hp => exact (Reps.one (show Kd.M (Kd.int .i8) _ _ _ t199 [.int .i8 t199] from rfl) (Reps.one (show Kd.M (Kd.int .i8) _ _ _ t200 [.int .i8 t200] from rfl) (Reps.none _ _)))); intro v202 w28 ho29 hb hg_ hnew_; clear hg_ hnew_; (first | rw [← Ny201.out] at ho29 | (simp only [Int.reduceToNat] at ho29; rw [← Ny201.out] at ho29)); have n0_ := ym (Kd.R_elder' (by (with_reducible repeat apply y2); exact HO_12.out) (Kd.R_base ho29) hb); have n1_ := ym (yo (Kd.R_new' ho29 (Kd.R_lt (by (with_reducible repeat apply y2); exact HO_12.out))) (below_size (by repeat (first | (with_reducible first | exact HB.out | apply y3) | exact HB.out)))); have n2_ := ym (yn (by repeat (first | (with_reducible first | exact HB.out | apply y3) | exact HB.out)) hb); clear HO_12; clear HB; have HO_12 := n0_; have HO203 := n1_; have HB := n2_; clear n0_ n1_ n2_; clear hb ho29; obtain ⟨Ao31, co31, eo31⟩ := Kd.R_slice HO203.out; subst eo31) | ((with_reducible refine gate_builtin (b := .append) (xs := #[.tmp 81, .tmp 84]) rfl ?_); (try (refine gate_guard (by rfl) ?_; dsimp only)); at_builtin; refine Kd.R_append_rows (Kd.int .i8) (w0 := w) w.heap.size rfl (.tmp 81) (.tmp 84) 22 33 (.int .i8 0) 1 rfl Tryd.underlying22 info33 rfl (by decide) (by omega) u12 x12_3 y201 _ _ _ (fun k_ => some k_ ≠ (.slice Ao31 y201.length co31 : Value).ownBlock) (fun _ => False) rfl rfl ?aO ?aR (fun _ _ h => h) (fun _ h => h.elim) ?aF ?aB ?aS ?aL ?_; (case aR => repeat (first | exact (Kd.R_reads' HO203.out).2.2 | (with_reducible refine yi ?_ _) | (with_reducible refine yj ?_ _) | (with_reducible refine yk ?_))); (case aB => exact (by repeat (first | (with_reducible first | exact HB.out | apply y3) | exact HB.out))); (case aF => exact (fun k_ hk => Kd.fresh' (Kd.R_lt (by (with_reducible repeat apply y2); exact HO203.out)) k_ hk)); (case aO => exact (by (with_reducible repeat apply y2); exact Kd.R_mono HO_12.out (fun _ hk => hk.2))); (case aS => exact (below_size (by repeat (first | (with_reducible first | exact HB.out | apply y3) | exact HB.out)))); (case aL => have := LMc27.out; omega); intro v205 w30 ho hb hg hat; rw [← Ny204.out] at ho; have n0_ := ym (Kd.R_after (ok := (fun _ => True)) (by (with_reducible repeat apply y2); exact HO203.out) hg hat); have n1_ := ym (hb); have n2_ := ym (ho); clear HO203; clear HB; clear HO_12; have HO203 := n0_; have HB := n1_; have HO206 := n2_; clear n0_ n1_ n2_; clear ho hb hg hat)))
               go_roundg k3
               case measure => have := HJ5.out; have := HJ10.out; have := HK3.out; omega
               case rel => exact ⟨(y204), (wrap64 (x13_3 + 2)), (by first | rfl | (simp; done) | (simp [*]; done)), H', ⟨by have := HJ5.out; have := HJ10.out; have := HK3.out; omega⟩, ⟨by (with_reducible repeat apply y2); exact Kd.R_mono HO206.out (fun _ hk => trivial)⟩, ⟨by repeat (first | (with_reducible first | exact HB.out | apply y3) | exact HB.out)⟩⟩
              rw [if_neg c27] at H
              exact absurd H (by simp)
             rw [if_neg c25] at H
             exact absurd H (by simp)
            rw [if_neg c24] at H
            exact absurd H (by simp)
           rw [if_neg c23] at H
           exact absurd H (by simp)
          rw [if_neg c21] at H
          exact absurd H (by simp)
         rw [if_neg c20] at H
         exact absurd H (by simp)
        rw [if_neg c18] at H
        exact absurd H (by simp)
       rw [if_neg c16] at H
       have c16b0 : decide (x13_3 < (l0.length : Int)) = false := decide_eq_false c16
       clear c16
       simp only [Option.some.injEq, Prod.mk.injEq] at H
       obtain ⟨rfl, rfl⟩ := H
       go_wp2
       repeat (go_quiet (fail); try go_wp2)
       go_ret2
       exact ⟨_, by first | rfl | (simp [errW_none, errW_some] <;> rfl) | (simp [*, errW_none, errW_some] <;> rfl), by (with_reducible repeat apply y2); exact HO_12.out, by repeat (first | (with_reducible first | exact HB.out | apply y3) | exact HB.out)⟩

end Go.Proofs.YtengkjkmdodifaaDoor.P
