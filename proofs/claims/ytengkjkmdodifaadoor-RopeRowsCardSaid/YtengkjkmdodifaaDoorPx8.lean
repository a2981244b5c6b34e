-- Printed by xprint.py (wip): functions, contracts, rows. Lean checks it.
import Derived.Test.YtengkjkmdodifaaDoorPx0
namespace Go.Proofs.YtengkjkmdodifaaDoor.P
open Go.RowKit Go.Proofs.YtengkjkmdodifaaDoorW.PrintWords Go.Proofs.YtengkjkmdodifaaDoorW.PrintLast Go.Proofs.YtengkjkmdodifaaDoorW.PrintMore
attribute [local go_sem] max2_int min2_int max_two min_two max_three min_three max_four min_four   -- for this text's walks alone
set_option linter.unusedVariables false
set_option linter.unusedSimpArgs false

/-! ### heraldref10_At: function 21 -/
mutual
def heraldref10_At.j0 : Nat → List Int → List Int → Int → Int → Bool → Option (List Int × List Int × Int)
  | 0, _, _, _, _, _ => none
  | k + 1, x0, x1, x2, x3, x16 => if x16 = true then (some (([] : List Int), ([] : List Int), 102)) else (if (x0.length : Int) = (x1.length : Int) then (if x2 = 0 then (none) else (heraldref10_At.j1 k x0 x1 x2 x3 (((x0.length : Int) % x2) != 0))) else (heraldref10_At.j1 k x0 x1 x2 x3 true))
def heraldref10_At.j1 : Nat → List Int → List Int → Int → Int → Bool → Option (List Int × List Int × Int)
  | 0, _, _, _, _, _ => none
  | k + 1, x0, x1, x2, x3, x28 => if x28 = true then (some (([] : List Int), ([] : List Int), 101)) else (if x3 < 0 then (some (([] : List Int), ([] : List Int), 1)) else (if x2 = 0 then (none) else (if x3 ≥ (wrap64 ((x0.length : Int) / x2)) then (some (([] : List Int), ([] : List Int), 1)) else (if 0 ≤ (wrap64 (x3 * x2)) then (if (wrap64 (x3 * x2)) ≤ (wrap64 ((wrap64 (x3 * x2)) + x2)) then (if (wrap64 ((wrap64 (x3 * x2)) + x2)) ≤ (x0.length : Int) then (if (wrap64 ((wrap64 (x3 * x2)) + x2)) ≤ (x1.length : Int) then (some (((x0.take ((wrap64 ((wrap64 (x3 * x2)) + x2)) : Int).toNat).drop ((wrap64 (x3 * x2)) : Int).toNat), ((x1.take ((wrap64 ((wrap64 (x3 * x2)) + x2)) : Int).toNat).drop ((wrap64 (x3 * x2)) : Int).toNat), 0)) else (none)) else (none)) else (none)) else (none)))))
end
def heraldref10_At.f (k : Nat) (l0 : List Int) (l1 : List Int) (a2 : Int) (a3 : Int) : Option (List Int × List Int × Int) := if a2 < 1 then (heraldref10_At.j0 k l0 l1 a2 a3 true) else (heraldref10_At.j0 k l0 l1 a2 a3 (decide (a2 > 32)))
theorem heraldref10_At.mono_l : ∀ k, (∀ y0 y1 y2 y3 y4, LeO (heraldref10_At.j0 k y0 y1 y2 y3 y4) (heraldref10_At.j0 (k + 1) y0 y1 y2 y3 y4)) ∧ (∀ y0 y1 y2 y3 y4, LeO (heraldref10_At.j1 k y0 y1 y2 y3 y4) (heraldref10_At.j1 (k + 1) y0 y1 y2 y3 y4))
  | 0 => ⟨fun _ _ _ _ _ r h => by simp [heraldref10_At.j0] at h, fun _ _ _ _ _ r h => by simp [heraldref10_At.j1] at h⟩
  | k + 1 => by
    obtain ⟨ih0, ih1⟩ := heraldref10_At.mono_l k
    refine ⟨?_, ?_⟩
    · intro y0 y1 y2 y3 y4
      unfold heraldref10_At.j0
      repeat' first
      | (with_reducible exact ih0 _ _ _ _ _)
      | (with_reducible exact ih1 _ _ _ _ _)
      | (with_reducible exact LeO.refl _)
      | (with_reducible exact LeO.none _)
      | (with_reducible refine LeO.ite ?_ ?_)
      | (with_reducible refine LeO.bind ?_ (fun _ => ?_))
      | exact ih0 _ _ _ _ _
      | exact ih1 _ _ _ _ _
      | exact LeO.none _
      | refine LeO.ite ?_ ?_
      | refine LeO.bind ?_ (fun _ => ?_)
    · intro y0 y1 y2 y3 y4
      unfold heraldref10_At.j1
      repeat' first
      | (with_reducible exact ih0 _ _ _ _ _)
      | (with_reducible exact ih1 _ _ _ _ _)
      | (with_reducible exact LeO.refl _)
      | (with_reducible exact LeO.none _)
      | (with_reducible refine LeO.ite ?_ ?_)
      | (with_reducible refine LeO.bind ?_ (fun _ => ?_))
      | exact ih0 _ _ _ _ _
      | exact ih1 _ _ _ _ _
      | exact LeO.none _
      | refine LeO.ite ?_ ?_
      | refine LeO.bind ?_ (fun _ => ?_)
theorem heraldref10_At.mono : ∀ a0 a1 a2 a3 k, LeO (heraldref10_At.f k a0 a1 a2 a3) (heraldref10_At.f (k + 1) a0 a1 a2 a3) := by
  intro a0 a1 a2 a3 k
  obtain ⟨ih0, ih1⟩ := heraldref10_At.mono_l k
  unfold heraldref10_At.f
  repeat' first
      | (with_reducible exact ih0 _ _ _ _ _)
      | (with_reducible exact ih1 _ _ _ _ _)
      | (with_reducible exact LeO.refl _)
      | (with_reducible exact LeO.none _)
      | (with_reducible refine LeO.ite ?_ ?_)
      | (with_reducible refine LeO.bind ?_ (fun _ => ?_))
      | exact ih0 _ _ _ _ _
      | exact ih1 _ _ _ _ _
      | exact LeO.none _
      | refine LeO.ite ?_ ?_
      | refine LeO.bind ?_ (fun _ => ?_)
set_option maxHeartbeats 8000000 in
set_option maxRecDepth 100000 in
theorem heraldref10_At.calls (k : Nat) (P0_ : Nat → Prop) (A0 : Option Addr) (c0 : Nat) (l0 : List Int) (P1_ : Nat → Prop) (A1 : Option Addr) (c1 : Nat) (l1 : List Int) (a2 : Int) (a3 : Int) (r1 : List Int) (r2 : List Int) (r3 : Int) (w : World) (hs0 : Kd.V (Kd.int .i8) 33 w w.heap.size (fun k_ => P0_ k_) (.slice A0 l0.length c0) l0) (hs1 : Kd.V (Kd.int .i8) 33 w w.heap.size (fun k_ => P1_ k_) (.slice A1 l1.length c1) l1) (h : heraldref10_At.f k l0 l1 a2 a3 = some (r1, r2, r3)) :
    Calls Tryd.prog 21 #[.slice A0 l0.length c0, .slice A1 l1.length c1, .int .i64 a2, .int .i64 a3] w fun e w' => ∃ v0_ v1_ : Value, e = .returned (.tuple #[v0_, v1_, .int .i64 r3]) ∧ Kd.V (Kd.int .i8) 33 w' w.heap.size (fun k_ => ((P0_ k_ ∨ P1_ k_) ∨ w.heap.size ≤ k_)) v0_ r1 ∧ Kd.V (Kd.int .i8) 33 w' w.heap.size (fun k_ => ((P0_ k_ ∨ P1_ k_) ∨ w.heap.size ≤ k_)) v1_ r2 ∧ Below w.heap.size w w' := by
 have HO0 := ym (show Kd.V (Kd.int .i8) 33 w w.heap.size (fun k_ => ((P0_ k_ ∨ P1_ k_) ∨ w.heap.size ≤ k_)) (.slice A0 l0.length c0) l0 from Kd.V_mono hs0 (fun k_ hk => .inl (.inl hk)))
 have HO1 := ym (show Kd.V (Kd.int .i8) 33 w w.heap.size (fun k_ => ((P0_ k_ ∨ P1_ k_) ∨ w.heap.size ≤ k_)) (.slice A1 l1.length c1) l1 from Kd.V_mono hs1 (fun k_ hk => .inl (.inr hk)))
 have HB := ym (Below.refl w.heap.size w)
 have H : (if a2 < 1 then (heraldref10_At.j0 k l0 l1 a2 a3 true) else (heraldref10_At.j0 k l0 l1 a2 a3 (decide (a2 > 32)))) = some (r1, r2, r3) := h
 clear h
 have HC5 := ym H
 clear H
 go_enter Tryd.func21, Tryd.ntmps21
 go_upto_region 1 with (fail)
 repeat (go_quiet (fail); go_upto_region 1 with (fail))
 go_cut [16] (fun v16 wc => ∃ (kq : Nat) (x16_4 : Bool), v16 = .bool x16_4 ∧ Aside0 (heraldref10_At.j0 kq l0 l1 a2 a3 x16_4 = some (r1, r2, r3)) ∧ Aside0 (kq ≤ k) ∧ Aside0 (Kd.V (Kd.int .i8) 33 wc w.heap.size (fun k_ => ((P0_ k_ ∨ P1_ k_) ∨ w.heap.size ≤ k_)) (.slice A0 l0.length c0) l0) ∧ Aside0 (Kd.V (Kd.int .i8) 33 wc w.heap.size (fun k_ => ((P0_ k_ ∨ P1_ k_) ∨ w.heap.size ≤ k_)) (.slice A1 l1.length c1) l1) ∧ Aside0 (Below w.heap.size w wc))
 case first =>
  have H := HC5.out
  clear HC5
  by_cases c6 : a2 < 1
  ·
   rw [if_pos c6] at H
   have c6b0 : decide (a2 < 1) = true := decide_eq_true c6
   clear c6
   (first | rw [c6b0] | (simp only [i64_w, i32_w]; rw [c6b0]) | skip)
   have H' := ym H
   clear H
   go_wp2
   repeat (go_quiet (fail); try go_wp2)
   go_meet
   case rel => exact ⟨_, (true), (by first | rfl | (simp; done) | (simp [*]; done)), H', ⟨by first | omega | exact Nat.le_refl _⟩, ⟨by (with_reducible repeat (first | apply Kd.V_alloc | apply Kd.V_drewN | apply Kd.V_drew)); exact HO0.out⟩, ⟨by (with_reducible repeat (first | apply Kd.V_alloc | apply Kd.V_drewN | apply Kd.V_drew)); exact HO1.out⟩, ⟨by repeat (first | (with_reducible first | exact HB.out | apply y3) | exact HB.out)⟩⟩
  rw [if_neg c6] at H
  have c6b0 : decide (a2 < 1) = false := decide_eq_false c6
  clear c6
  (first | rw [c6b0] | (simp only [i64_w, i32_w]; rw [c6b0]) | skip)
  have H' := ym H
  clear H
  go_wp2
  repeat (go_quiet (fail); try go_wp2)
  go_meet
  case rel => exact ⟨_, (decide (a2 > 32)), (by first | rfl | (simp; done) | (simp [*]; done)), H', ⟨by first | omega | exact Nat.le_refl _⟩, ⟨by (with_reducible repeat (first | apply Kd.V_alloc | apply Kd.V_drewN | apply Kd.V_drew)); exact HO0.out⟩, ⟨by (with_reducible repeat (first | apply Kd.V_alloc | apply Kd.V_drewN | apply Kd.V_drew)); exact HO1.out⟩, ⟨by repeat (first | (with_reducible first | exact HB.out | apply y3) | exact HB.out)⟩⟩
 case rest =>
  clear HC5
  try clear c1
  try clear c2
  try clear p2
  try clear c6
  try clear c6b0
  obtain ⟨kq, x16_4, rfl, HA, HJ4, HO_0, HO_1, HB⟩ := hcut
  cases kq with
  | zero => exact absurd HA.out (by simp [heraldref10_At.j0])
  | succ kj4 =>
   have H := HA.out
   clear HA
   simp only [heraldref10_At.j0] at H
   by_cases c7 : x16_4 = true
   ·
    subst c7
    have H1 : (some (([] : List Int), ([] : List Int), 102)) = some (r1, r2, r3) := by rw [if_pos rfl] at H; exact H
    clear H
    have H := H1
    clear H1
    simp only [Option.some.injEq, Prod.mk.injEq] at H
    obtain ⟨rfl, rfl, rfl⟩ := H
    go_wp2
    repeat (go_quiet (fail); try go_wp2)
    go_ret3
    exact ⟨_, _, by first | rfl | (simp [errW_none, errW_some] <;> rfl) | (simp [*, errW_none, errW_some] <;> rfl), Kd.V_nil _ _ _ _ _, Kd.V_nil _ _ _ _ _, by repeat (first | (with_reducible first | exact HB.out | apply y3) | exact HB.out)⟩
   replace c7 := Bool.eq_false_iff.mpr c7
   subst c7
   have H1 : (if (l0.length : Int) = (l1.length : Int) then (if a2 = 0 then (none) else (heraldref10_At.j1 kj4 l0 l1 a2 a3 (((l0.length : Int) % a2) != 0))) else (heraldref10_At.j1 kj4 l0 l1 a2 a3 true)) = some (r1, r2, r3) := by rw [if_neg (show ¬ (false = true) by decide)] at H; exact H
   clear H
   have H := H1
   clear H1
   have HC8 := ym H
   clear H
   go_upto_region 3 with (fail)
   repeat (go_quiet (fail); go_upto_region 3 with (fail))
   go_cut [28] (fun v28 wc => ∃ (kq : Nat) (x28_7 : Bool), v28 = .bool x28_7 ∧ Aside0 (heraldref10_At.j1 kq l0 l1 a2 a3 x28_7 = some (r1, r2, r3)) ∧ Aside0 (kq ≤ kj4) ∧ Aside0 (Kd.V (Kd.int .i8) 33 wc w.heap.size (fun k_ => ((P0_ k_ ∨ P1_ k_) ∨ w.heap.size ≤ k_)) (.slice A0 l0.length c0) l0) ∧ Aside0 (Kd.V (Kd.int .i8) 33 wc w.heap.size (fun k_ => ((P0_ k_ ∨ P1_ k_) ∨ w.heap.size ≤ k_)) (.slice A1 l1.length c1) l1) ∧ Aside0 (Below w.heap.size w wc))
   case first =>
    have H := HC8.out
    clear HC8
    by_cases c9 : (l0.length : Int) = (l1.length : Int)
    ·
     rw [if_pos c9] at H
     have c9b0 : ((l0.length : Int) == (l1.length : Int)) = true := beq_iff_eq.mpr c9
     have c9b1 : ((l0.length : Int) != (l1.length : Int)) = false := bne_eq_false_iff_eq.mpr c9
     have c9b2 : (l0.length == l1.length) = true := by first | simpa using c9 | (simp at c9 ⊢; omega)
     clear c9
     (first | rw [c9b0] | (simp only [i64_w, i32_w]; rw [c9b0]) | skip)
     by_cases c10 : a2 = 0
     ·
      rw [if_pos c10] at H
      exact absurd H (by simp)
     rw [if_neg c10] at H
     have c10b0 : (a2 == 0) = false := beq_eq_false_iff_ne.mpr c10
     have c10b1 : (a2 != 0) = true := bne_iff_ne.mpr c10
     have H' := ym H
     clear H
     go_wp2
     repeat (go_quiet (fail); try go_wp2)
     go_meet
     case rel => exact ⟨_, ((((l0.length : Int) % a2) != 0)), (by first | rfl | (simp; done) | (simp [*]; done)), H', ⟨by have := HJ4.out; first | omega | exact Nat.le_refl _⟩, ⟨by (with_reducible repeat (first | apply Kd.V_alloc | apply Kd.V_drewN | apply Kd.V_drew)); exact HO_0.out⟩, ⟨by (with_reducible repeat (first | apply Kd.V_alloc | apply Kd.V_drewN | apply Kd.V_drew)); exact HO_1.out⟩, ⟨by repeat (first | (with_reducible first | exact HB.out | apply y3) | exact HB.out)⟩⟩
    rw [if_neg c9] at H
    have c9b0 : ((l0.length : Int) == (l1.length : Int)) = false := beq_eq_false_iff_ne.mpr c9
    have c9b1 : ((l0.length : Int) != (l1.length : Int)) = true := bne_iff_ne.mpr c9
    have c9b2 : (l0.length == l1.length) = false := by first | simpa using c9 | (simp at c9 ⊢; omega)
    (first | rw [c9b0] | (simp only [i64_w, i32_w]; rw [c9b0]) | skip)
    have H' := ym H
    clear H
    go_wp2
    repeat (go_quiet (fail); try go_wp2)
    go_meet
    case rel => exact ⟨_, (true), (by first | rfl | (simp; done) | (simp [*]; done)), H', ⟨by have := HJ4.out; first | omega | exact Nat.le_refl _⟩, ⟨by (with_reducible repeat (first | apply Kd.V_alloc | apply Kd.V_drewN | apply Kd.V_drew)); exact HO_0.out⟩, ⟨by (with_reducible repeat (first | apply Kd.V_alloc | apply Kd.V_drewN | apply Kd.V_drew)); exact HO_1.out⟩, ⟨by repeat (first | (with_reducible first | exact HB.out | apply y3) | exact HB.out)⟩⟩
   case rest =>
    clear HC8
    try clear c1
    try clear c2
    try clear p2
    try clear c6
    try clear c6b0
    try clear c7
    try clear c9
    try clear c9b0
    try clear c9b1
    try clear c9b2
    try clear c10
    try clear c10b0
    try clear c10b1
    try clear p2
    obtain ⟨kq, x28_7, rfl, HA, HJ7, HO_0, HO_1, HB⟩ := hcut
    cases kq with
    | zero => exact absurd HA.out (by simp [heraldref10_At.j1])
    | succ kj7 =>
     have H := HA.out
     clear HA
     simp only [heraldref10_At.j1] at H
     by_cases c11 : x28_7 = true
     ·
      subst c11
      have H1 : (some (([] : List Int), ([] : List Int), 101)) = some (r1, r2, r3) := by rw [if_pos rfl] at H; exact H
      clear H
      have H := H1
      clear H1
      simp only [Option.some.injEq, Prod.mk.injEq] at H
      obtain ⟨rfl, rfl, rfl⟩ := H
      go_wp2
      repeat (go_quiet (fail); try go_wp2)
      go_ret3
      exact ⟨_, _, by first | rfl | (simp [errW_none, errW_some] <;> rfl) | (simp [*, errW_none, errW_some] <;> rfl), Kd.V_nil _ _ _ _ _, Kd.V_nil _ _ _ _ _, by repeat (first | (with_reducible first | exact HB.out | apply y3) | exact HB.out)⟩
     replace c11 := Bool.eq_false_iff.mpr c11
     subst c11
     have H1 : (if a3 < 0 then (some (([] : List Int), ([] : List Int), 1)) else (if a2 = 0 then (none) else (if a3 ≥ (wrap64 ((l0.length : Int) / a2)) then (some (([] : List Int), ([] : List Int), 1)) else (if 0 ≤ (wrap64 (a3 * a2)) then (if (wrap64 (a3 * a2)) ≤ (wrap64 ((wrap64 (a3 * a2)) + a2)) then (if (wrap64 ((wrap64 (a3 * a2)) + a2)) ≤ (l0.length : Int) then (if (wrap64 ((wrap64 (a3 * a2)) + a2)) ≤ (l1.length : Int) then (some (((l0.take ((wrap64 ((wrap64 (a3 * a2)) + a2)) : Int).toNat).drop ((wrap64 (a3 * a2)) : Int).toNat), ((l1.take ((wrap64 ((wrap64 (a3 * a2)) + a2)) : Int).toNat).drop ((wrap64 (a3 * a2)) : Int).toNat), 0)) else (none)) else (none)) else (none)) else (none))))) = some (r1, r2, r3) := by rw [if_neg (show ¬ (false = true) by decide)] at H; exact H
     clear H
     have H := H1
     clear H1
     by_cases c12 : a3 < 0
     ·
      rw [if_pos c12] at H
      have c12b0 : decide (a3 < 0) = true := decide_eq_true c12
      clear c12
      simp only [Option.some.injEq, Prod.mk.injEq] at H
      obtain ⟨rfl, rfl, rfl⟩ := H
      go_wp2
      repeat (go_quiet (fail); try go_wp2)
      go_ret3
      exact ⟨_, _, by first | rfl | (simp [errW_none, errW_some] <;> rfl) | (simp [*, errW_none, errW_some] <;> rfl), Kd.V_nil _ _ _ _ _, Kd.V_nil _ _ _ _ _, by repeat (first | (with_reducible first | exact HB.out | apply y3) | exact HB.out)⟩
     rw [if_neg c12] at H
     have c12b0 : decide (a3 < 0) = false := decide_eq_false c12
     clear c12
     by_cases c13 : a2 = 0
     ·
      rw [if_pos c13] at H
      exact absurd H (by simp)
     rw [if_neg c13] at H
     have c13b0 : (a2 == 0) = false := beq_eq_false_iff_ne.mpr c13
     have c13b1 : (a2 != 0) = true := bne_iff_ne.mpr c13
     by_cases c14 : a3 ≥ (wrap64 ((l0.length : Int) / a2))
     ·
      rw [if_pos c14] at H
      have c14b0 : decide ((wrap64 ((l0.length : Int) / a2)) ≤ a3) = true := decide_eq_true c14
      clear c14
      simp only [Option.some.injEq, Prod.mk.injEq] at H
      obtain ⟨rfl, rfl, rfl⟩ := H
      go_wp2
      repeat (go_quiet (fail); try go_wp2)
      go_ret3
      exact ⟨_, _, by first | rfl | (simp [errW_none, errW_some] <;> rfl) | (simp [*, errW_none, errW_some] <;> rfl), Kd.V_nil _ _ _ _ _, Kd.V_nil _ _ _ _ _, by repeat (first | (with_reducible first | exact HB.out | apply y3) | exact HB.out)⟩
     rw [if_neg c14] at H
     have c14b0 : decide ((wrap64 ((l0.length : Int) / a2)) ≤ a3) = false := decide_eq_false c14
     clear c14
     obtain ⟨ji15, hji15⟩ : ∃ j_ : Int, (wrap64 (a3 * a2)) = j_ := ⟨_, rfl⟩
     replace H : (if 0 ≤ (ji15) then (if (ji15) ≤ (wrap64 ((ji15) + a2)) then (if (wrap64 ((ji15) + a2)) ≤ (l0.length : Int) then (if (wrap64 ((ji15) + a2)) ≤ (l1.length : Int) then (some (((l0.take ((wrap64 ((ji15) + a2)) : Int).toNat).drop ((ji15) : Int).toNat), ((l1.take ((wrap64 ((ji15) + a2)) : Int).toNat).drop ((ji15) : Int).toNat), 0)) else (none)) else (none)) else (none)) else (none)) = some (r1, r2, r3) := by first | (rw [hji15] at H; exact H) | (simp only [hji15] at H ⊢; exact H)
     have hji15w : (IntKind.i64.wrap (a3 * a2)) = ji15 := (i64_w _).trans hji15
     by_cases c16 : 0 ≤ (ji15)
     ·
      rw [if_pos c16] at H
      have c16b0 := eq_true c16
      have c16b1 : decide (0 ≤ (ji15)) = true := decide_eq_true c16
      clear c16
      by_cases c17 : (ji15) ≤ (wrap64 ((ji15) + a2))
      ·
       rw [if_pos c17] at H
       have c17b0 := eq_true c17
       have c17b1 : decide ((ji15) ≤ (wrap64 ((ji15) + a2))) = true := decide_eq_true c17
       by_cases c18 : (wrap64 ((ji15) + a2)) ≤ (l0.length : Int)
       ·
        rw [if_pos c18] at H
        have c18b0 := eq_true c18
        have c18b1 : decide ((wrap64 ((ji15) + a2)) ≤ (l0.length : Int)) = true := decide_eq_true c18
        obtain ⟨y155, hy155⟩ : ∃ y_ : List Int, y_ = ((l0.take ((wrap64 ((ji15) + a2)) : Int).toNat).drop ((ji15) : Int).toNat) := ⟨_, rfl⟩
        replace H : (if (wrap64 ((ji15) + a2)) ≤ (l1.length : Int) then (some (y155, ((l1.take ((wrap64 ((ji15) + a2)) : Int).toNat).drop ((ji15) : Int).toNat), 0)) else (none)) = some (r1, r2, r3) := by first | (rw [hy155]; with_reducible exact H) | (have H2_ := (Option.bind_some _ _).symm.trans H; rw [hy155]; with_reducible exact H2_) | (have H2_ := (Option.bind_some _ _).symm.trans H; with_reducible exact H2_) | with_reducible exact H | (rw [hy155]; exact H) | exact H
        have Ny155 := ym hy155
        clear hy155
        have c19b0 := eq_true (of_decide_eq_true (by first | (with_reducible assumption) | assumption) : 0 ≤ (ji15))
        have c20b0 := eq_true (of_decide_eq_true (by first | (with_reducible assumption) | assumption) : (ji15) ≤ (wrap64 ((ji15) + a2)))
        by_cases c21 : (wrap64 ((ji15) + a2)) ≤ (l1.length : Int)
        ·
         rw [if_pos c21] at H
         have c21b0 := eq_true c21
         have c21b1 : decide ((wrap64 ((ji15) + a2)) ≤ (l1.length : Int)) = true := decide_eq_true c21
         obtain ⟨y160, hy160⟩ : ∃ y_ : List Int, y_ = ((l1.take ((wrap64 ((ji15) + a2)) : Int).toNat).drop ((ji15) : Int).toNat) := ⟨_, rfl⟩
         replace H : (some (y155, y160, 0)) = some (r1, r2, r3) := by first | (rw [hy160]; with_reducible exact H) | (have H2_ := (Option.bind_some _ _).symm.trans H; rw [hy160]; with_reducible exact H2_) | (have H2_ := (Option.bind_some _ _).symm.trans H; with_reducible exact H2_) | with_reducible exact H | (rw [hy160]; exact H) | exact H
         have Ny160 := ym hy160
         clear hy160
         simp only [Option.some.injEq, Prod.mk.injEq] at H
         obtain ⟨rfl, rfl, rfl⟩ := H
         have q22 : ((wrap64 ((ji15) + a2)) : Int) ≤ ((l0.length : Int) : Int) := of_decide_eq_true (by first | (with_reducible assumption) | assumption)
         obtain ⟨i022, hi022, _, hsz22, _⟩ := info_parts info33
         have hroom22 : l0.length ≤ c0 := (Kd.V_reads' HO_0.out).2.1
         have hC22 : Kd.F (Kd.int .i8) _ _ A0 l0.length l0 := (Kd.V_at (base := w.heap.size) HO_0.out).2.2
         have ql22 : ((ji15) : Int) ≤ ((wrap64 ((ji15) + a2)) : Int) := of_decide_eq_true (by first | (with_reducible assumption) | assumption)
         have q022 : (0 : Int) ≤ ((ji15) : Int) := of_decide_eq_true (by first | (with_reducible assumption) | assumption)
         have hcut22 := cut_mid (P := Tryd.prog) 22 33 .i64 .i64 Tryd.underlying22 hi022 1 hsz22 A0 l0.length c0 (ji15) (wrap64 ((ji15) + a2)) q022 ql22 q22 hroom22
         have hr22 := Kd.F_mid (lo := ((ji15) : Int).toNat) (hi := ((wrap64 ((ji15) + a2)) : Int).toNat) (c := c0) hC22 (by omega) (by omega) hroom22
         obtain ⟨A22, hA22⟩ : ∃ A1_, A1_ = (if c0 = ((ji15) : Int).toNat then A0 else (A0 : Option Addr).map (·.add (((ji15) : Int).toNat * 1))) := ⟨_, rfl⟩
         obtain ⟨c22, hc22⟩ : ∃ c1_, c1_ = c0 - ((ji15) : Int).toNat := ⟨_, rfl⟩
         have hy22 : y155.length = ((wrap64 ((ji15) + a2)) : Int).toNat - ((ji15) : Int).toNat := (by rw [Ny155.out, List.length_drop, List.length_take] <;> omega)
         rw [show ((l0).take ((wrap64 ((ji15) + a2)) : Int).toNat).drop ((ji15) : Int).toNat = y155 from Ny155.out.symm] at hr22
         replace hr22 : Kd.F (Kd.int .i8) _ _ A22 y155.length y155 := (by rw [hA22]; exact hr22)
         rw [← hy22, ← hA22, ← hc22] at hcut22
         have HO159 := ym (show Kd.V (Kd.int .i8) 33 _ w.heap.size _ (.slice A22 y155.length c22) y155 from Kd.V_mk (by rw [hy22, hc22]; exact Nat.sub_le_sub_right (Nat.le_trans (by omega) hroom22) _) hr22)
         have HC159 := ym (show y155.length ≤ c22 from by rw [hy22, hc22]; exact Nat.sub_le_sub_right (Nat.le_trans (by omega) hroom22) _)
         clear hr22 hC22 hroom22 hi022 hsz22 hc22
         have KY22 := ym hy22
         have KA22 := ym hA22
         clear hy22 hA22
         replace q22 := eq_true q22
         have q23 : ((wrap64 ((ji15) + a2)) : Int) ≤ ((l1.length : Int) : Int) := of_decide_eq_true (by first | (with_reducible assumption) | assumption)
         obtain ⟨i023, hi023, _, hsz23, _⟩ := info_parts info33
         have hroom23 : l1.length ≤ c1 := (Kd.V_reads' HO_1.out).2.1
         have hC23 : Kd.F (Kd.int .i8) _ _ A1 l1.length l1 := (Kd.V_at (base := w.heap.size) HO_1.out).2.2
         have ql23 : ((ji15) : Int) ≤ ((wrap64 ((ji15) + a2)) : Int) := of_decide_eq_true (by first | (with_reducible assumption) | assumption)
         have q023 : (0 : Int) ≤ ((ji15) : Int) := of_decide_eq_true (by first | (with_reducible assumption) | assumption)
         have hcut23 := cut_mid (P := Tryd.prog) 22 33 .i64 .i64 Tryd.underlying22 hi023 1 hsz23 A1 l1.length c1 (ji15) (wrap64 ((ji15) + a2)) q023 ql23 q23 hroom23
         have hr23 := Kd.F_mid (lo := ((ji15) : Int).toNat) (hi := ((wrap64 ((ji15) + a2)) : Int).toNat) (c := c1) hC23 (by omega) (by omega) hroom23
         obtain ⟨A23, hA23⟩ : ∃ A1_, A1_ = (if c1 = ((ji15) : Int).toNat then A1 else (A1 : Option Addr).map (·.add (((ji15) : Int).toNat * 1))) := ⟨_, rfl⟩
         obtain ⟨c23, hc23⟩ : ∃ c1_, c1_ = c1 - ((ji15) : Int).toNat := ⟨_, rfl⟩
         have hy23 : y160.length = ((wrap64 ((ji15) + a2)) : Int).toNat - ((ji15) : Int).toNat := (by rw [Ny160.out, List.length_drop, List.length_take] <;> omega)
         rw [show ((l1).take ((wrap64 ((ji15) + a2)) : Int).toNat).drop ((ji15) : Int).toNat = y160 from Ny160.out.symm] at hr23
         replace hr23 : Kd.F (Kd.int .i8) _ _ A23 y160.length y160 := (by rw [hA23]; exact hr23)
         rw [← hy23, ← hA23, ← hc23] at hcut23
         have HO164 := ym (show Kd.V (Kd.int .i8) 33 _ w.heap.size _ (.slice A23 y160.length c23) y160 from Kd.V_mk (by rw [hy23, hc23]; exact Nat.sub_le_sub_right (Nat.le_trans (by omega) hroom23) _) hr23)
         have HC164 := ym (show y160.length ≤ c23 from by rw [hy23, hc23]; exact Nat.sub_le_sub_right (Nat.le_trans (by omega) hroom23) _)
         clear hr23 hC23 hroom23 hi023 hsz23 hc23
         have KY23 := ym hy23
         have KA23 := ym hA23
         clear hy23 hA23
         replace q23 := eq_true q23
         go_wp2
         repeat (go_quiet (fail); try go_wp2)
         go_ret3
         exact ⟨_, _, by first | rfl | (simp [errW_none, errW_some] <;> rfl) | (simp only [← hji15]; first | rfl | (simp [errW_none, errW_some] <;> rfl)) | (simp [*, errW_none, errW_some] <;> rfl), by (with_reducible repeat (first | apply Kd.V_alloc | apply Kd.V_drewN | apply Kd.V_drew)); exact HO159.out, by (with_reducible repeat (first | apply Kd.V_alloc | apply Kd.V_drewN | apply Kd.V_drew)); exact HO164.out, by repeat (first | (with_reducible first | exact HB.out | apply y3) | exact HB.out)⟩
        rw [if_neg c21] at H
        exact absurd H (by simp)
       rw [if_neg c18] at H
       exact absurd H (by simp)
      rw [if_neg c17] at H
      exact absurd H (by simp)
     rw [if_neg c16] at H
     exact absurd H (by simp)

end Go.Proofs.YtengkjkmdodifaaDoor.P
