-- Printed by xprint.py (wip): functions, contracts, rows. Lean checks it.
import Derived.Test.YtbldlfmblalchaaPx0
import Derived.Test.YtbldlfmblalchaaPx2
namespace Go.Proofs.Ytbldlfmblalchaa.P
open Go.RowKit Go.Proofs.YtbldlfmblalchaaW.PrintWords Go.Proofs.YtbldlfmblalchaaW.PrintLast Go.Proofs.YtbldlfmblalchaaW.PrintMore
attribute [local go_sem] max2_int min2_int max_two min_two max_three min_three max_four min_four   -- for this text's walks alone
set_option linter.unusedVariables false
set_option linter.unusedSimpArgs false

/-! ### fixed_Log2: function 32 -/
mutual
def fixed_Log2.j0 : Nat → Int → Int → Option (Int × Int)
  | 0, _, _ => none
  | k + 1, x4, x5 => fixed_Log2.l0 k x5 x4 0
def fixed_Log2.l0 : Nat → Int → Int → Int → Option (Int × Int)
  | 0, _, _, _ => none
  | k + 1, x5, x6, x26 => if x26 < 16 then (if ((IntKind.u64.wrap (x5 * x5)) / 1073741824) ≥ 2147483648 then (fixed_Log2.l0 k (((IntKind.u64.wrap (x5 * x5)) / 1073741824) / 2) (wrap64 ((wrap64 (x6 * 2)) + 1)) (wrap64 (x26 + 1))) else (fixed_Log2.l0 k ((IntKind.u64.wrap (x5 * x5)) / 1073741824) (wrap64 (x6 * 2)) (wrap64 (x26 + 1)))) else (some (x6, 0))
end
def fixed_Log2.f (k : Nat) (a0 : Int) : Option (Int × Int) := if a0 < 1 then (some (0, 22)) else ((bits_Len64.f (IntKind.u64.wrap (a0))).bind fun t196 => (if (wrap64 (t196 - 1)) > 30 then (if 0 ≤ (wrap64 ((wrap64 (t196 - 1)) - 30)) then (fixed_Log2.j0 k (wrap64 (t196 - 1)) (shr .u64 (IntKind.u64.wrap (a0)) (wrap64 ((wrap64 (t196 - 1)) - 30)))) else (none)) else (if 0 ≤ (wrap64 (30 - (wrap64 (t196 - 1)))) then (fixed_Log2.j0 k (wrap64 (t196 - 1)) (shl .u64 (IntKind.u64.wrap (a0)) (wrap64 (30 - (wrap64 (t196 - 1)))))) else (none))))
theorem fixed_Log2.mono_l : ∀ k, (∀ y0 y1, LeO (fixed_Log2.j0 k y0 y1) (fixed_Log2.j0 (k + 1) y0 y1)) ∧ (∀ y0 y1 y2, LeO (fixed_Log2.l0 k y0 y1 y2) (fixed_Log2.l0 (k + 1) y0 y1 y2))
  | 0 => ⟨fun _ _ r h => by simp [fixed_Log2.j0] at h, fun _ _ _ r h => by simp [fixed_Log2.l0] at h⟩
  | k + 1 => by
    obtain ⟨ih0, ih1⟩ := fixed_Log2.mono_l k
    refine ⟨?_, ?_⟩
    · intro y0 y1
      unfold fixed_Log2.j0
      repeat' first
      | (with_reducible exact ih0 _ _)
      | (with_reducible exact ih1 _ _ _)
      | (with_reducible exact LeO.refl _)
      | (with_reducible exact LeO.none _)
      | (with_reducible refine LeO.ite ?_ ?_)
      | (with_reducible refine LeO.bind ?_ (fun _ => ?_))
      | exact ih0 _ _
      | exact ih1 _ _ _
      | exact LeO.none _
      | refine LeO.ite ?_ ?_
      | refine LeO.bind ?_ (fun _ => ?_)
    · intro y0 y1 y2
      unfold fixed_Log2.l0
      repeat' first
      | (with_reducible exact ih0 _ _)
      | (with_reducible exact ih1 _ _ _)
      | (with_reducible exact LeO.refl _)
      | (with_reducible exact LeO.none _)
      | (with_reducible refine LeO.ite ?_ ?_)
      | (with_reducible refine LeO.bind ?_ (fun _ => ?_))
      | exact ih0 _ _
      | exact ih1 _ _ _
      | exact LeO.none _
      | refine LeO.ite ?_ ?_
      | refine LeO.bind ?_ (fun _ => ?_)
theorem fixed_Log2.mono : ∀ a0 k, LeO (fixed_Log2.f k a0) (fixed_Log2.f (k + 1) a0) := by
  intro a0 k
  obtain ⟨ih0, ih1⟩ := fixed_Log2.mono_l k
  unfold fixed_Log2.f
  repeat' first
      | (with_reducible exact ih0 _ _)
      | (with_reducible exact ih1 _ _ _)
      | (with_reducible exact LeO.refl _)
      | (with_reducible exact LeO.none _)
      | (with_reducible refine LeO.ite ?_ ?_)
      | (with_reducible refine LeO.bind ?_ (fun _ => ?_))
      | exact ih0 _ _
      | exact ih1 _ _ _
      | exact LeO.none _
      | refine LeO.ite ?_ ?_
      | refine LeO.bind ?_ (fun _ => ?_)
set_option maxHeartbeats 8000000 in
set_option maxRecDepth 100000 in
theorem fixed_Log2.calls (k : Nat) (a0 : Int) (r1 : Int) (r2 : Int) (w : World) (h : fixed_Log2.f k a0 = some (r1, r2)) :
    Calls Try.prog 32 #[.int .i64 a0] w fun e w' => e = .returned (.tuple #[.int .i64 r1, .int .i64 r2]) ∧ Drawn0 w w' := by
  have H : (if a0 < 1 then (some (0, 22)) else ((bits_Len64.f (IntKind.u64.wrap (a0))).bind fun t196 => (if (wrap64 (t196 - 1)) > 30 then (if 0 ≤ (wrap64 ((wrap64 (t196 - 1)) - 30)) then (fixed_Log2.j0 k (wrap64 (t196 - 1)) (shr .u64 (IntKind.u64.wrap (a0)) (wrap64 ((wrap64 (t196 - 1)) - 30)))) else (none)) else (if 0 ≤ (wrap64 (30 - (wrap64 (t196 - 1)))) then (fixed_Log2.j0 k (wrap64 (t196 - 1)) (shl .u64 (IntKind.u64.wrap (a0)) (wrap64 (30 - (wrap64 (t196 - 1)))))) else (none))))) = some (r1, r2) := h
  clear h
  by_cases c2 : a0 < 1
  · rw [if_pos c2] at H
    have c2b0 : decide (a0 < 1) = true := decide_eq_true c2
    clear c2
    simp only [Option.some.injEq, Prod.mk.injEq] at H
    obtain ⟨rfl, rfl⟩ := H
    go_enter Try.func32, Try.ntmps32
    go_wp2
    go_ret2
    exact ⟨by first | rfl | (simp; done) | (simp [*]; done), by repeat (first | exact Drawn0.refl _ | apply Drawn0.step)⟩
  · rw [if_neg c2] at H
    have c2b0 : decide (a0 < 1) = false := decide_eq_false c2
    clear c2
    replace H := Option.bind_eq_some_iff.mp H
    obtain ⟨t196, A30, H⟩ := H
    replace H : (if (wrap64 (t196 - 1)) > 30 then (if 0 ≤ (wrap64 ((wrap64 (t196 - 1)) - 30)) then (fixed_Log2.j0 k (wrap64 (t196 - 1)) (shr .u64 (IntKind.u64.wrap (a0)) (wrap64 ((wrap64 (t196 - 1)) - 30)))) else (none)) else (if 0 ≤ (wrap64 (30 - (wrap64 (t196 - 1)))) then (fixed_Log2.j0 k (wrap64 (t196 - 1)) (shl .u64 (IntKind.u64.wrap (a0)) (wrap64 (30 - (wrap64 (t196 - 1)))))) else (none))) = some (r1, r2) := H
    have A3 := Aside0.mk A30
    clear A30
    have HC4 := Aside0.mk H
    clear H
    go_enter Try.func32, Try.ntmps32
    go_upto_if 16 with (first | ((with_reducible refine gate_callee (f := 46) rfl ?_); refine goesL_ (some 11) rfl rfl Try.func46 (by kernel_rfl) rfl #[.int .u64 (IntKind.u64.wrap (a0))] rfl (by (try simp only [List.map_toArray, List.map_cons, List.map_nil]); first | done | rfl | (simp only [List.length_drop, List.length_take]; rfl)) ?_; (with_reducible refine (bits_Len64.calls (IntKind.u64.wrap (a0)) t196 _ A3.out).mono ?_); rintro e w' ⟨rfl, ⟨nd, rfl⟩⟩; refine ⟨_, rfl, ?_⟩))
    (try simp only [Act.put, List.setIfInBounds_toArray, List.set_cons_zero, List.set_cons_succ])
    go_cut [5] (fun v5 wc => ∃ (kq : Nat) (x5_3 : Int), v5 = .int .u64 x5_3 ∧ Aside0 (fixed_Log2.j0 kq (wrap64 (t196 - 1)) x5_3 = some (r1, r2)) ∧ Aside0 (kq ≤ k) ∧ Drawn0 w wc)
    case first =>
      have H := HC4.out
      clear HC4
      by_cases c5 : (wrap64 (t196 - 1)) > 30
      · rw [if_pos c5] at H
        have c5b0 : decide (30 < (wrap64 (t196 - 1))) = true := decide_eq_true c5
        clear c5
        (first | rw [c5b0] | (simp only [i64_w, i32_w]; rw [c5b0]) | skip)
        obtain ⟨ji6, hji6⟩ : ∃ j_ : Int, (wrap64 ((wrap64 (t196 - 1)) - 30)) = j_ := ⟨_, rfl⟩
        replace H : (if 0 ≤ (ji6) then (fixed_Log2.j0 k (wrap64 (t196 - 1)) (shr .u64 (IntKind.u64.wrap (a0)) (ji6))) else (none)) = some (r1, r2) := by first | (rw [hji6] at H; exact H) | (simp only [hji6] at H ⊢; exact H)
        have hji6w : (IntKind.i64.wrap ((wrap64 (t196 - 1)) - 30)) = ji6 := (i64_w _).trans hji6
        by_cases c7 : 0 ≤ (ji6)
        · rw [if_pos c7] at H
          have c7b0 := eq_true c7
          have c7b1 : decide (0 ≤ (ji6)) = true := decide_eq_true c7
          clear c7
          obtain ⟨ji8, hji8⟩ : ∃ j_ : Int, (shr .u64 (IntKind.u64.wrap (a0)) (ji6)) = j_ := ⟨_, rfl⟩
          replace H : (fixed_Log2.j0 k (wrap64 (t196 - 1)) ji8) = some (r1, r2) := by first | (rw [hji8] at H; exact H) | (simp only [hji8] at H ⊢; exact H)
          have hji8_ : ((IntKind.u64.wrap (a0)) / 2 ^ min (ji6).toNat 64) = ji8 := hji8
          have hji8z : (ji6) ≤ 64 → ((IntKind.u64.wrap (a0)) / 2 ^ (ji6).toNat) = ji8 := shr_small hji8
          have H' := Aside0.mk H
          clear H
          go_wp2
          go_meet
          case rel => exact ⟨_, (ji8), (by first | rfl | (simp; done) | (simp only [← hji8] <;> (first | rfl | simp)) | (simp [*]; done)), H', ⟨by first | omega | exact Nat.le_refl _⟩, by repeat (first | exact Drawn0.refl _ | apply Drawn0.step)⟩
        · rw [if_neg c7] at H
          exact absurd H (by simp)
      · rw [if_neg c5] at H
        have c5b0 : decide (30 < (wrap64 (t196 - 1))) = false := decide_eq_false c5
        clear c5
        (first | rw [c5b0] | (simp only [i64_w, i32_w]; rw [c5b0]) | skip)
        obtain ⟨ji9, hji9⟩ : ∃ j_ : Int, (wrap64 (30 - (wrap64 (t196 - 1)))) = j_ := ⟨_, rfl⟩
        replace H : (if 0 ≤ (ji9) then (fixed_Log2.j0 k (wrap64 (t196 - 1)) (shl .u64 (IntKind.u64.wrap (a0)) (ji9))) else (none)) = some (r1, r2) := by first | (rw [hji9] at H; exact H) | (simp only [hji9] at H ⊢; exact H)
        have hji9w : (IntKind.i64.wrap (30 - (wrap64 (t196 - 1)))) = ji9 := (i64_w _).trans hji9
        by_cases c10 : 0 ≤ (ji9)
        · rw [if_pos c10] at H
          have c10b0 := eq_true c10
          have c10b1 : decide (0 ≤ (ji9)) = true := decide_eq_true c10
          clear c10
          obtain ⟨ji11, hji11⟩ : ∃ j_ : Int, (shl .u64 (IntKind.u64.wrap (a0)) (ji9)) = j_ := ⟨_, rfl⟩
          replace H : (fixed_Log2.j0 k (wrap64 (t196 - 1)) ji11) = some (r1, r2) := by first | (rw [hji11] at H; exact H) | (simp only [hji11] at H ⊢; exact H)
          have hji11_ : (IntKind.u64.wrap ((IntKind.u64.wrap (a0)) * 2 ^ min (ji9).toNat 64)) = ji11 := hji11
          have hji11z : (ji9) ≤ 64 → (IntKind.u64.wrap ((IntKind.u64.wrap (a0)) * 2 ^ (ji9).toNat)) = ji11 := shl_small hji11
          have H' := Aside0.mk H
          clear H
          go_wp2
          go_meet
          case rel => exact ⟨_, (ji11), (by first | rfl | (simp; done) | (simp only [← hji11] <;> (first | rfl | simp)) | (simp [*]; done)), H', ⟨by first | omega | exact Nat.le_refl _⟩, by repeat (first | exact Drawn0.refl _ | apply Drawn0.step)⟩
        · rw [if_neg c10] at H
          exact absurd H (by simp)
    case rest =>
      clear HC4
      try clear c1
      try clear c2
      try clear c2b0
      try clear p2
      try clear c3
      try clear c4
      try clear c5
      try clear c5b0
      try clear p6
      try clear c7
      try clear c7b0
      try clear c7b1
      try clear c10
      try clear c10b0
      try clear c10b1
      obtain ⟨kq, x5_3, rfl, HA, HJ3, ⟨mc3, rfl⟩⟩ := hcut
      cases kq with
      | zero => exact absurd HA.out (by simp [fixed_Log2.j0])
      | succ kj3 =>
        have H := HA.out
        clear HA
        simp only [fixed_Log2.j0] at H
        have H' := Aside0.mk H
        clear H
        go_wp2
        go_loopg [5, 6, 26] kj3 (fun kq v5 v6 v26 w' => ∃ (x5_2 : Int) (x6_2 : Int) (x26_2 : Int), v5 = .int .u64 x5_2 ∧ v6 = .int .i64 x6_2 ∧ v26 = .int .i64 x26_2 ∧ Aside0 (fixed_Log2.l0 kq x5_2 x6_2 x26_2 = some (r1, r2)) ∧ Aside0 (kq ≤ kj3) ∧ Drawn0 w w')
        case atStart => exact ⟨(x5_3), ((wrap64 (t196 - 1))), (0), (by first | rfl | (simp; done) | (simp [*]; done)), (by first | rfl | (simp; done) | (simp [*]; done)), (by first | rfl | (simp; done) | (simp [*]; done)), H', ⟨Nat.le_refl _⟩, by repeat (first | exact Drawn0.refl _ | apply Drawn0.step)⟩
        case round =>
          clear H'
          try clear c1
          try clear c2
          try clear c2b0
          try clear p2
          try clear c3
          try clear c4
          try clear c5
          try clear c5b0
          try clear p6
          try clear c7
          try clear c7b0
          try clear c7b1
          try clear c10
          try clear c10b0
          try clear c10b1
          try clear p2
          try clear p6
          obtain ⟨x5_2, x6_2, x26_2, rfl, rfl, rfl, HA, HK2, ⟨m2, rfl⟩⟩ := hrel
          cases gk with
          | zero => exact absurd HA.out (by simp [fixed_Log2.l0])
          | succ k2 =>
            have H := HA.out
            clear HA
            simp only [fixed_Log2.l0] at H
            by_cases c12 : x26_2 < 16
            · rw [if_pos c12] at H
              have c12b0 : decide (x26_2 < 16) = true := decide_eq_true c12
              clear c12
              by_cases c13 : ((IntKind.u64.wrap (x5_2 * x5_2)) / 1073741824) ≥ 2147483648
              · rw [if_pos c13] at H
                have c13b0 : decide (2147483648 ≤ ((IntKind.u64.wrap (x5_2 * x5_2)) / 1073741824)) = true := decide_eq_true c13
                clear c13
                have H' := Aside0.mk H
                clear H
                go_wp2
                go_roundg k2
                case measure => have := HJ3.out; have := HK2.out; omega
                case rel => exact ⟨(((IntKind.u64.wrap (x5_2 * x5_2)) / 1073741824) / 2), (wrap64 ((wrap64 (x6_2 * 2)) + 1)), (wrap64 (x26_2 + 1)), (by first | rfl | (simp; done) | (simp [*]; done)), (by first | rfl | (simp; done) | (simp [*]; done)), (by first | rfl | (simp; done) | (simp [*]; done)), H', ⟨by have := HJ3.out; have := HK2.out; omega⟩, by repeat (first | exact Drawn0.refl _ | apply Drawn0.step)⟩
              · rw [if_neg c13] at H
                have c13b0 : decide (2147483648 ≤ ((IntKind.u64.wrap (x5_2 * x5_2)) / 1073741824)) = false := decide_eq_false c13
                clear c13
                have H' := Aside0.mk H
                clear H
                go_wp2
                go_roundg k2
                case measure => have := HJ3.out; have := HK2.out; omega
                case rel => exact ⟨((IntKind.u64.wrap (x5_2 * x5_2)) / 1073741824), (wrap64 (x6_2 * 2)), (wrap64 (x26_2 + 1)), (by first | rfl | (simp; done) | (simp [*]; done)), (by first | rfl | (simp; done) | (simp [*]; done)), (by first | rfl | (simp; done) | (simp [*]; done)), H', ⟨by have := HJ3.out; have := HK2.out; omega⟩, by repeat (first | exact Drawn0.refl _ | apply Drawn0.step)⟩
            · rw [if_neg c12] at H
              have c12b0 : decide (x26_2 < 16) = false := decide_eq_false c12
              clear c12
              simp only [Option.some.injEq, Prod.mk.injEq] at H
              obtain ⟨rfl, rfl⟩ := H
              go_wp2
              go_ret2
              exact ⟨by first | rfl | (simp; done) | (simp [*]; done), by repeat (first | exact Drawn0.refl _ | apply Drawn0.step)⟩

/-! ### heraldref02_Log2: function 33 -/
mutual
def heraldref02_Log2.l0 : Nat → Int → Int → Int → Option (Int × Int)
  | 0, _, _, _ => none
  | k + 1, x0, x4, x5 => if x5 > 1 then (heraldref02_Log2.l0 k x0 (wrap64 (x4 + 1)) (wrap64 (Int.tdiv x5 2))) else (heraldref02_Log2.l1 k x4 x0 x4)
def heraldref02_Log2.l1 : Nat → Int → Int → Int → Option (Int × Int)
  | 0, _, _, _ => none
  | k + 1, x4, x6, x7 => if x7 < 30 then (heraldref02_Log2.l1 k x4 (wrap64 (x6 * 2)) (wrap64 (x7 + 1))) else (heraldref02_Log2.l2 k x4 x6 x4)
def heraldref02_Log2.l2 : Nat → Int → Int → Int → Option (Int × Int)
  | 0, _, _, _ => none
  | k + 1, x4, x6, x8 => if x8 > 30 then (heraldref02_Log2.l2 k x4 (wrap64 (Int.tdiv x6 2)) (wrap64 (x8 - 1))) else (heraldref02_Log2.l3 k x4 x6 0 0)
def heraldref02_Log2.l3 : Nat → Int → Int → Int → Int → Option (Int × Int)
  | 0, _, _, _, _ => none
  | k + 1, x4, x6, x9, x10 => if x10 < 16 then (if (wrap64 (Int.tdiv (wrap64 (x6 * x6)) 1073741824)) ≥ 2147483648 then (heraldref02_Log2.l3 k x4 (wrap64 (Int.tdiv (wrap64 (Int.tdiv (wrap64 (x6 * x6)) 1073741824)) 2)) (wrap64 ((wrap64 (x9 * 2)) + 1)) (wrap64 (x10 + 1))) else (heraldref02_Log2.l3 k x4 (wrap64 (Int.tdiv (wrap64 (x6 * x6)) 1073741824)) (wrap64 (x9 * 2)) (wrap64 (x10 + 1)))) else (some (wrap64 ((wrap64 (65536 * x4)) + x9), 0))
end
def heraldref02_Log2.f (k : Nat) (a0 : Int) : Option (Int × Int) := if a0 < 1 then (some (0, 22)) else (heraldref02_Log2.l0 k a0 0 a0)
theorem heraldref02_Log2.mono_l : ∀ k, (∀ y0 y1 y2, LeO (heraldref02_Log2.l0 k y0 y1 y2) (heraldref02_Log2.l0 (k + 1) y0 y1 y2)) ∧ (∀ y0 y1 y2, LeO (heraldref02_Log2.l1 k y0 y1 y2) (heraldref02_Log2.l1 (k + 1) y0 y1 y2)) ∧ (∀ y0 y1 y2, LeO (heraldref02_Log2.l2 k y0 y1 y2) (heraldref02_Log2.l2 (k + 1) y0 y1 y2)) ∧ (∀ y0 y1 y2 y3, LeO (heraldref02_Log2.l3 k y0 y1 y2 y3) (heraldref02_Log2.l3 (k + 1) y0 y1 y2 y3))
  | 0 => ⟨fun _ _ _ r h => by simp [heraldref02_Log2.l0] at h, fun _ _ _ r h => by simp [heraldref02_Log2.l1] at h, fun _ _ _ r h => by simp [heraldref02_Log2.l2] at h, fun _ _ _ _ r h => by simp [heraldref02_Log2.l3] at h⟩
  | k + 1 => by
    obtain ⟨ih0, ih1, ih2, ih3⟩ := heraldref02_Log2.mono_l k
    refine ⟨?_, ?_, ?_, ?_⟩
    · intro y0 y1 y2
      unfold heraldref02_Log2.l0
      repeat' first
      | (with_reducible exact ih0 _ _ _)
      | (with_reducible exact ih1 _ _ _)
      | (with_reducible exact ih2 _ _ _)
      | (with_reducible exact ih3 _ _ _ _)
      | (with_reducible exact LeO.refl _)
      | (with_reducible exact LeO.none _)
      | (with_reducible refine LeO.ite ?_ ?_)
      | (with_reducible refine LeO.bind ?_ (fun _ => ?_))
      | exact ih0 _ _ _
      | exact ih1 _ _ _
      | exact ih2 _ _ _
      | exact ih3 _ _ _ _
      | exact LeO.none _
      | refine LeO.ite ?_ ?_
      | refine LeO.bind ?_ (fun _ => ?_)
    · intro y0 y1 y2
      unfold heraldref02_Log2.l1
      repeat' first
      | (with_reducible exact ih0 _ _ _)
      | (with_reducible exact ih1 _ _ _)
      | (with_reducible exact ih2 _ _ _)
      | (with_reducible exact ih3 _ _ _ _)
      | (with_reducible exact LeO.refl _)
      | (with_reducible exact LeO.none _)
      | (with_reducible refine LeO.ite ?_ ?_)
      | (with_reducible refine LeO.bind ?_ (fun _ => ?_))
      | exact ih0 _ _ _
      | exact ih1 _ _ _
      | exact ih2 _ _ _
      | exact ih3 _ _ _ _
      | exact LeO.none _
      | refine LeO.ite ?_ ?_
      | refine LeO.bind ?_ (fun _ => ?_)
    · intro y0 y1 y2
      unfold heraldref02_Log2.l2
      repeat' first
      | (with_reducible exact ih0 _ _ _)
      | (with_reducible exact ih1 _ _ _)
      | (with_reducible exact ih2 _ _ _)
      | (with_reducible exact ih3 _ _ _ _)
      | (with_reducible exact LeO.refl _)
      | (with_reducible exact LeO.none _)
      | (with_reducible refine LeO.ite ?_ ?_)
      | (with_reducible refine LeO.bind ?_ (fun _ => ?_))
      | exact ih0 _ _ _
      | exact ih1 _ _ _
      | exact ih2 _ _ _
      | exact ih3 _ _ _ _
      | exact LeO.none _
      | refine LeO.ite ?_ ?_
      | refine LeO.bind ?_ (fun _ => ?_)
    · intro y0 y1 y2 y3
      unfold heraldref02_Log2.l3
      repeat' first
      | (with_reducible exact ih0 _ _ _)
      | (with_reducible exact ih1 _ _ _)
      | (with_reducible exact ih2 _ _ _)
      | (with_reducible exact ih3 _ _ _ _)
      | (with_reducible exact LeO.refl _)
      | (with_reducible exact LeO.none _)
      | (with_reducible refine LeO.ite ?_ ?_)
      | (with_reducible refine LeO.bind ?_ (fun _ => ?_))
      | exact ih0 _ _ _
      | exact ih1 _ _ _
      | exact ih2 _ _ _
      | exact ih3 _ _ _ _
      | exact LeO.none _
      | refine LeO.ite ?_ ?_
      | refine LeO.bind ?_ (fun _ => ?_)
theorem heraldref02_Log2.mono : ∀ a0 k, LeO (heraldref02_Log2.f k a0) (heraldref02_Log2.f (k + 1) a0) := by
  intro a0 k
  obtain ⟨ih0, ih1, ih2, ih3⟩ := heraldref02_Log2.mono_l k
  unfold heraldref02_Log2.f
  repeat' first
      | (with_reducible exact ih0 _ _ _)
      | (with_reducible exact ih1 _ _ _)
      | (with_reducible exact ih2 _ _ _)
      | (with_reducible exact ih3 _ _ _ _)
      | (with_reducible exact LeO.refl _)
      | (with_reducible exact LeO.none _)
      | (with_reducible refine LeO.ite ?_ ?_)
      | (with_reducible refine LeO.bind ?_ (fun _ => ?_))
      | exact ih0 _ _ _
      | exact ih1 _ _ _
      | exact ih2 _ _ _
      | exact ih3 _ _ _ _
      | exact LeO.none _
      | refine LeO.ite ?_ ?_
      | refine LeO.bind ?_ (fun _ => ?_)
set_option maxHeartbeats 8000000 in
set_option maxRecDepth 100000 in
theorem heraldref02_Log2.calls (k : Nat) (a0 : Int) (r1 : Int) (r2 : Int) (w : World) (h : heraldref02_Log2.f k a0 = some (r1, r2)) :
    Calls Try.prog 33 #[.int .i64 a0] w fun e w' => e = .returned (.tuple #[.int .i64 r1, .int .i64 r2]) ∧ Drawn0 w w' := by
  have H : (if a0 < 1 then (some (0, 22)) else (heraldref02_Log2.l0 k a0 0 a0)) = some (r1, r2) := h
  clear h
  by_cases c2 : a0 < 1
  · rw [if_pos c2] at H
    have c2b0 : decide (a0 < 1) = true := decide_eq_true c2
    clear c2
    simp only [Option.some.injEq, Prod.mk.injEq] at H
    obtain ⟨rfl, rfl⟩ := H
    go_enter Try.func33, Try.ntmps33
    go_wp2
    go_ret2
    exact ⟨by first | rfl | (simp; done) | (simp [*]; done), by repeat (first | exact Drawn0.refl _ | apply Drawn0.step)⟩
  · rw [if_neg c2] at H
    have c2b0 : decide (a0 < 1) = false := decide_eq_false c2
    clear c2
    have H' := Aside0.mk H
    clear H
    go_enter Try.func33, Try.ntmps33
    go_wp2
    go_loopg [4, 5] k (fun kq v4 v5 w' => ∃ (x4_1 : Int) (x5_1 : Int), v4 = .int .i64 x4_1 ∧ v5 = .int .i64 x5_1 ∧ Aside0 (heraldref02_Log2.l0 kq a0 x4_1 x5_1 = some (r1, r2)) ∧ Aside0 (kq ≤ k) ∧ Drawn0 w w')
    case atStart => exact ⟨(0), (a0), (by first | rfl | (simp; done) | (simp [*]; done)), (by first | rfl | (simp; done) | (simp [*]; done)), H', ⟨Nat.le_refl _⟩, by repeat (first | exact Drawn0.refl _ | apply Drawn0.step)⟩
    case round =>
      clear H'
      try clear c2
      try clear c2b0
      try clear p2
      obtain ⟨x4_1, x5_1, rfl, rfl, HA, HK1, ⟨m1, rfl⟩⟩ := hrel
      cases gk with
      | zero => exact absurd HA.out (by simp [heraldref02_Log2.l0])
      | succ k1 =>
        have H := HA.out
        clear HA
        simp only [heraldref02_Log2.l0] at H
        by_cases c3 : x5_1 > 1
        · rw [if_pos c3] at H
          have c3b0 : decide (1 < x5_1) = true := decide_eq_true c3
          clear c3
          have H' := Aside0.mk H
          clear H
          go_wp2
          go_roundg k1
          case measure => have := HK1.out; omega
          case rel => exact ⟨(wrap64 (x4_1 + 1)), (wrap64 (Int.tdiv x5_1 2)), (by first | rfl | (simp; done) | (simp [*]; done)), (by first | rfl | (simp; done) | (simp [*]; done)), H', ⟨by have := HK1.out; omega⟩, by repeat (first | exact Drawn0.refl _ | apply Drawn0.step)⟩
        · rw [if_neg c3] at H
          have c3b0 : decide (1 < x5_1) = false := decide_eq_false c3
          clear c3
          have H' := Aside0.mk H
          clear H
          go_wp2
          go_loopg [6, 7] k1 (fun kq v6 v7 w' => ∃ (x6_2 : Int) (x7_2 : Int), v6 = .int .i64 x6_2 ∧ v7 = .int .i64 x7_2 ∧ Aside0 (heraldref02_Log2.l1 kq x4_1 x6_2 x7_2 = some (r1, r2)) ∧ Aside0 (kq ≤ k1) ∧ Drawn0 w w')
          case atStart => exact ⟨(a0), (x4_1), (by first | rfl | (simp; done) | (simp [*]; done)), (by first | rfl | (simp; done) | (simp [*]; done)), H', ⟨Nat.le_refl _⟩, by repeat (first | exact Drawn0.refl _ | apply Drawn0.step)⟩
          case round =>
            clear H'
            try clear c2
            try clear c2b0
            try clear p2
            try clear c3
            try clear c3b0
            try clear p2
            obtain ⟨x6_2, x7_2, rfl, rfl, HA, HK2, ⟨m2, rfl⟩⟩ := hrel
            cases gk with
            | zero => exact absurd HA.out (by simp [heraldref02_Log2.l1])
            | succ k2 =>
              have H := HA.out
              clear HA
              simp only [heraldref02_Log2.l1] at H
              by_cases c4 : x7_2 < 30
              · rw [if_pos c4] at H
                have c4b0 : decide (x7_2 < 30) = true := decide_eq_true c4
                clear c4
                have H' := Aside0.mk H
                clear H
                go_wp2
                go_roundg k2
                case measure => have := HK1.out; have := HK2.out; omega
                case rel => exact ⟨(wrap64 (x6_2 * 2)), (wrap64 (x7_2 + 1)), (by first | rfl | (simp; done) | (simp [*]; done)), (by first | rfl | (simp; done) | (simp [*]; done)), H', ⟨by have := HK1.out; have := HK2.out; omega⟩, by repeat (first | exact Drawn0.refl _ | apply Drawn0.step)⟩
              · rw [if_neg c4] at H
                have c4b0 : decide (x7_2 < 30) = false := decide_eq_false c4
                clear c4
                have H' := Aside0.mk H
                clear H
                go_wp2
                go_loopg [6, 8] k2 (fun kq v6 v8 w' => ∃ (x6_3 : Int) (x8_3 : Int), v6 = .int .i64 x6_3 ∧ v8 = .int .i64 x8_3 ∧ Aside0 (heraldref02_Log2.l2 kq x4_1 x6_3 x8_3 = some (r1, r2)) ∧ Aside0 (kq ≤ k2) ∧ Drawn0 w w')
                case atStart => exact ⟨(x6_2), (x4_1), (by first | rfl | (simp; done) | (simp [*]; done)), (by first | rfl | (simp; done) | (simp [*]; done)), H', ⟨Nat.le_refl _⟩, by repeat (first | exact Drawn0.refl _ | apply Drawn0.step)⟩
                case round =>
                  clear H'
                  try clear c2
                  try clear c2b0
                  try clear p2
                  try clear c3
                  try clear c3b0
                  try clear c4
                  try clear c4b0
                  try clear p2
                  obtain ⟨x6_3, x8_3, rfl, rfl, HA, HK3, ⟨m3, rfl⟩⟩ := hrel
                  cases gk with
                  | zero => exact absurd HA.out (by simp [heraldref02_Log2.l2])
                  | succ k3 =>
                    have H := HA.out
                    clear HA
                    simp only [heraldref02_Log2.l2] at H
                    by_cases c5 : x8_3 > 30
                    · rw [if_pos c5] at H
                      have c5b0 : decide (30 < x8_3) = true := decide_eq_true c5
                      clear c5
                      have H' := Aside0.mk H
                      clear H
                      go_wp2
                      go_roundg k3
                      case measure => have := HK1.out; have := HK2.out; have := HK3.out; omega
                      case rel => exact ⟨(wrap64 (Int.tdiv x6_3 2)), (wrap64 (x8_3 - 1)), (by first | rfl | (simp; done) | (simp [*]; done)), (by first | rfl | (simp; done) | (simp [*]; done)), H', ⟨by have := HK1.out; have := HK2.out; have := HK3.out; omega⟩, by repeat (first | exact Drawn0.refl _ | apply Drawn0.step)⟩
                    · rw [if_neg c5] at H
                      have c5b0 : decide (30 < x8_3) = false := decide_eq_false c5
                      clear c5
                      have H' := Aside0.mk H
                      clear H
                      go_wp2
                      go_loopg [6, 9, 10] k3 (fun kq v6 v9 v10 w' => ∃ (x6_4 : Int) (x9_4 : Int) (x10_4 : Int), v6 = .int .i64 x6_4 ∧ v9 = .int .i64 x9_4 ∧ v10 = .int .i64 x10_4 ∧ Aside0 (heraldref02_Log2.l3 kq x4_1 x6_4 x9_4 x10_4 = some (r1, r2)) ∧ Aside0 (kq ≤ k3) ∧ Drawn0 w w')
                      case atStart => exact ⟨(x6_3), (0), (0), (by first | rfl | (simp; done) | (simp [*]; done)), (by first | rfl | (simp; done) | (simp [*]; done)), (by first | rfl | (simp; done) | (simp [*]; done)), H', ⟨Nat.le_refl _⟩, by repeat (first | exact Drawn0.refl _ | apply Drawn0.step)⟩
                      case round =>
                        clear H'
                        try clear c2
                        try clear c2b0
                        try clear p2
                        try clear c3
                        try clear c3b0
                        try clear c4
                        try clear c4b0
                        try clear c5
                        try clear c5b0
                        try clear p2
                        obtain ⟨x6_4, x9_4, x10_4, rfl, rfl, rfl, HA, HK4, ⟨m4, rfl⟩⟩ := hrel
                        cases gk with
                        | zero => exact absurd HA.out (by simp [heraldref02_Log2.l3])
                        | succ k4 =>
                          have H := HA.out
                          clear HA
                          simp only [heraldref02_Log2.l3] at H
                          by_cases c6 : x10_4 < 16
                          · rw [if_pos c6] at H
                            have c6b0 : decide (x10_4 < 16) = true := decide_eq_true c6
                            clear c6
                            by_cases c7 : (wrap64 (Int.tdiv (wrap64 (x6_4 * x6_4)) 1073741824)) ≥ 2147483648
                            · rw [if_pos c7] at H
                              have c7b0 : decide (2147483648 ≤ (wrap64 (Int.tdiv (wrap64 (x6_4 * x6_4)) 1073741824))) = true := decide_eq_true c7
                              clear c7
                              have H' := Aside0.mk H
                              clear H
                              go_wp2
                              go_roundg k4
                              case measure => have := HK1.out; have := HK2.out; have := HK3.out; have := HK4.out; omega
                              case rel => exact ⟨(wrap64 (Int.tdiv (wrap64 (Int.tdiv (wrap64 (x6_4 * x6_4)) 1073741824)) 2)), (wrap64 ((wrap64 (x9_4 * 2)) + 1)), (wrap64 (x10_4 + 1)), (by first | rfl | (simp; done) | (simp [*]; done)), (by first | rfl | (simp; done) | (simp [*]; done)), (by first | rfl | (simp; done) | (simp [*]; done)), H', ⟨by have := HK1.out; have := HK2.out; have := HK3.out; have := HK4.out; omega⟩, by repeat (first | exact Drawn0.refl _ | apply Drawn0.step)⟩
                            · rw [if_neg c7] at H
                              have c7b0 : decide (2147483648 ≤ (wrap64 (Int.tdiv (wrap64 (x6_4 * x6_4)) 1073741824))) = false := decide_eq_false c7
                              clear c7
                              have H' := Aside0.mk H
                              clear H
                              go_wp2
                              go_roundg k4
                              case measure => have := HK1.out; have := HK2.out; have := HK3.out; have := HK4.out; omega
                              case rel => exact ⟨(wrap64 (Int.tdiv (wrap64 (x6_4 * x6_4)) 1073741824)), (wrap64 (x9_4 * 2)), (wrap64 (x10_4 + 1)), (by first | rfl | (simp; done) | (simp [*]; done)), (by first | rfl | (simp; done) | (simp [*]; done)), (by first | rfl | (simp; done) | (simp [*]; done)), H', ⟨by have := HK1.out; have := HK2.out; have := HK3.out; have := HK4.out; omega⟩, by repeat (first | exact Drawn0.refl _ | apply Drawn0.step)⟩
                          · rw [if_neg c6] at H
                            have c6b0 : decide (x10_4 < 16) = false := decide_eq_false c6
                            clear c6
                            simp only [Option.some.injEq, Prod.mk.injEq] at H
                            obtain ⟨rfl, rfl⟩ := H
                            go_wp2
                            go_ret2
                            exact ⟨by first | rfl | (simp; done) | (simp [*]; done), by repeat (first | exact Drawn0.refl _ | apply Drawn0.step)⟩

/-! ### fixed_Add: function 34 -/
def fixed_Add.f (a0 : Int) (a1 : Int) : Option (Int × Bool) := if ((decide (a0 < 0)) == (decide (a1 < 0))) = true then (if ((decide ((wrap64 (a0 + a1)) < 0)) != (decide (a0 < 0))) = true then (some (0, false)) else (some (wrap64 (a0 + a1), true))) else (some (wrap64 (a0 + a1), true))
set_option maxHeartbeats 8000000 in
set_option maxRecDepth 100000 in
theorem fixed_Add.calls (a0 : Int) (a1 : Int) (r1 : Int) (r2 : Bool) (w : World) (h : fixed_Add.f a0 a1 = some (r1, r2)) :
    Calls Try.prog 34 #[.int .i64 a0, .int .i64 a1] w fun e w' => e = .returned (.tuple #[.int .i64 r1, .bool r2]) ∧ Drawn0 w w' := by
  have H : (if ((decide (a0 < 0)) == (decide (a1 < 0))) = true then (if ((decide ((wrap64 (a0 + a1)) < 0)) != (decide (a0 < 0))) = true then (some (0, false)) else (some (wrap64 (a0 + a1), true))) else (some (wrap64 (a0 + a1), true))) = some (r1, r2) := h
  clear h
  by_cases c3 : ((decide (a0 < 0)) == (decide (a1 < 0))) = true
  · rw [if_pos c3] at H
    have c3b0 : ((decide (a0 < 0)) == (decide (a1 < 0))) = true := c3
    (try (have c3b1 : decide ((decide (a0 < 0)) = (decide (a1 < 0))) = true := by simpa using c3))
    (try (have c3b2 : ((decide (a0 < 0)) == (decide (a1 < 0))) = true := by simpa using c3))
    clear c3
    by_cases c4 : ((decide ((wrap64 (a0 + a1)) < 0)) != (decide (a0 < 0))) = true
    · rw [if_pos c4] at H
      have c4b0 : ((decide ((wrap64 (a0 + a1)) < 0)) != (decide (a0 < 0))) = true := c4
      (try (have c4b1 : decide ((decide ((wrap64 (a0 + a1)) < 0)) = (decide (a0 < 0))) = false := by simpa using c4))
      (try (have c4b2 : ((decide ((wrap64 (a0 + a1)) < 0)) == (decide (a0 < 0))) = false := by simpa using c4))
      (try (have c4b3 : ¬ ((decide ((wrap64 (a0 + a1)) < 0)) = (decide (a0 < 0))) := by simpa using c4))
      clear c4
      simp only [Option.some.injEq, Prod.mk.injEq] at H
      obtain ⟨rfl, rfl⟩ := H
      go_enter Try.func34, Try.ntmps34
      go_wp2
      go_ret2
      exact ⟨by first | rfl | (simp; done) | (simp [*]; done), by repeat (first | exact Drawn0.refl _ | apply Drawn0.step)⟩
    · rw [if_neg c4] at H
      have c4b0 : ((decide ((wrap64 (a0 + a1)) < 0)) != (decide (a0 < 0))) = false := by simpa using c4
      (try (have c4b1 : decide ((decide ((wrap64 (a0 + a1)) < 0)) = (decide (a0 < 0))) = true := by simpa using c4))
      (try (have c4b2 : ((decide ((wrap64 (a0 + a1)) < 0)) == (decide (a0 < 0))) = true := by simpa using c4))
      clear c4
      simp only [Option.some.injEq, Prod.mk.injEq] at H
      obtain ⟨rfl, rfl⟩ := H
      go_enter Try.func34, Try.ntmps34
      go_wp2
      go_ret2
      exact ⟨by first | rfl | (simp; done) | (simp [*]; done), by repeat (first | exact Drawn0.refl _ | apply Drawn0.step)⟩
  · rw [if_neg c3] at H
    have c3b0 : ((decide (a0 < 0)) == (decide (a1 < 0))) = false := by simpa using c3
    (try (have c3b1 : decide ((decide (a0 < 0)) = (decide (a1 < 0))) = false := by simpa using c3))
    (try (have c3b2 : ((decide (a0 < 0)) == (decide (a1 < 0))) = false := by simpa using c3))
    (try (have c3b3 : ¬ ((decide (a0 < 0)) = (decide (a1 < 0))) := by simpa using c3))
    clear c3
    simp only [Option.some.injEq, Prod.mk.injEq] at H
    obtain ⟨rfl, rfl⟩ := H
    go_enter Try.func34, Try.ntmps34
    go_wp2
    go_ret2
    exact ⟨by first | rfl | (simp; done) | (simp [*]; done), by repeat (first | exact Drawn0.refl _ | apply Drawn0.step)⟩

/-! ### heraldref02_Add: function 35 -/
def heraldref02_Add.f (a0 : Int) (a1 : Int) : Option (Int × Bool) := if a1 > 0 then (if a0 > (wrap64 (9223372036854775807 - a1)) then (some (0, false)) else (if a1 < 0 then (if a0 < (wrap64 ((-9223372036854775808) - a1)) then (some (0, false)) else (some (wrap64 (a0 + a1), true))) else (some (wrap64 (a0 + a1), true)))) else (if a1 < 0 then (if a0 < (wrap64 ((-9223372036854775808) - a1)) then (some (0, false)) else (some (wrap64 (a0 + a1), true))) else (some (wrap64 (a0 + a1), true)))
set_option maxHeartbeats 8000000 in
set_option maxRecDepth 100000 in
theorem heraldref02_Add.calls (a0 : Int) (a1 : Int) (r1 : Int) (r2 : Bool) (w : World) (h : heraldref02_Add.f a0 a1 = some (r1, r2)) :
    Calls Try.prog 35 #[.int .i64 a0, .int .i64 a1] w fun e w' => e = .returned (.tuple #[.int .i64 r1, .bool r2]) ∧ Drawn0 w w' := by
  have H : (if a1 > 0 then (if a0 > (wrap64 (9223372036854775807 - a1)) then (some (0, false)) else (if a1 < 0 then (if a0 < (wrap64 ((-9223372036854775808) - a1)) then (some (0, false)) else (some (wrap64 (a0 + a1), true))) else (some (wrap64 (a0 + a1), true)))) else (if a1 < 0 then (if a0 < (wrap64 ((-9223372036854775808) - a1)) then (some (0, false)) else (some (wrap64 (a0 + a1), true))) else (some (wrap64 (a0 + a1), true)))) = some (r1, r2) := h
  clear h
  by_cases c3 : a1 > 0
  · rw [if_pos c3] at H
    have c3b0 : decide (0 < a1) = true := decide_eq_true c3
    clear c3
    by_cases c4 : a0 > (wrap64 (9223372036854775807 - a1))
    · rw [if_pos c4] at H
      have c4b0 : decide ((wrap64 (9223372036854775807 - a1)) < a0) = true := decide_eq_true c4
      clear c4
      simp only [Option.some.injEq, Prod.mk.injEq] at H
      obtain ⟨rfl, rfl⟩ := H
      go_enter Try.func35, Try.ntmps35
      go_wp2
      go_ret2
      exact ⟨by first | rfl | (simp; done) | (simp [*]; done), by repeat (first | exact Drawn0.refl _ | apply Drawn0.step)⟩
    · rw [if_neg c4] at H
      have c4b0 : decide ((wrap64 (9223372036854775807 - a1)) < a0) = false := decide_eq_false c4
      clear c4
      by_cases c5 : a1 < 0
      · rw [if_pos c5] at H
        have c5b0 : decide (a1 < 0) = true := decide_eq_true c5
        clear c5
        by_cases c6 : a0 < (wrap64 ((-9223372036854775808) - a1))
        · rw [if_pos c6] at H
          have c6b0 : decide (a0 < (wrap64 ((-9223372036854775808) - a1))) = true := decide_eq_true c6
          clear c6
          simp only [Option.some.injEq, Prod.mk.injEq] at H
          obtain ⟨rfl, rfl⟩ := H
          go_enter Try.func35, Try.ntmps35
          go_wp2
          go_ret2
          exact ⟨by first | rfl | (simp; done) | (simp [*]; done), by repeat (first | exact Drawn0.refl _ | apply Drawn0.step)⟩
        · rw [if_neg c6] at H
          have c6b0 : decide (a0 < (wrap64 ((-9223372036854775808) - a1))) = false := decide_eq_false c6
          clear c6
          simp only [Option.some.injEq, Prod.mk.injEq] at H
          obtain ⟨rfl, rfl⟩ := H
          go_enter Try.func35, Try.ntmps35
          go_wp2
          go_ret2
          exact ⟨by first | rfl | (simp; done) | (simp [*]; done), by repeat (first | exact Drawn0.refl _ | apply Drawn0.step)⟩
      · rw [if_neg c5] at H
        have c5b0 : decide (a1 < 0) = false := decide_eq_false c5
        clear c5
        simp only [Option.some.injEq, Prod.mk.injEq] at H
        obtain ⟨rfl, rfl⟩ := H
        go_enter Try.func35, Try.ntmps35
        go_wp2
        go_ret2
        exact ⟨by first | rfl | (simp; done) | (simp [*]; done), by repeat (first | exact Drawn0.refl _ | apply Drawn0.step)⟩
  · rw [if_neg c3] at H
    have c3b0 : decide (0 < a1) = false := decide_eq_false c3
    clear c3
    by_cases c7 : a1 < 0
    · rw [if_pos c7] at H
      have c7b0 : decide (a1 < 0) = true := decide_eq_true c7
      clear c7
      by_cases c8 : a0 < (wrap64 ((-9223372036854775808) - a1))
      · rw [if_pos c8] at H
        have c8b0 : decide (a0 < (wrap64 ((-9223372036854775808) - a1))) = true := decide_eq_true c8
        clear c8
        simp only [Option.some.injEq, Prod.mk.injEq] at H
        obtain ⟨rfl, rfl⟩ := H
        go_enter Try.func35, Try.ntmps35
        go_wp2
        go_ret2
        exact ⟨by first | rfl | (simp; done) | (simp [*]; done), by repeat (first | exact Drawn0.refl _ | apply Drawn0.step)⟩
      · rw [if_neg c8] at H
        have c8b0 : decide (a0 < (wrap64 ((-9223372036854775808) - a1))) = false := decide_eq_false c8
        clear c8
        simp only [Option.some.injEq, Prod.mk.injEq] at H
        obtain ⟨rfl, rfl⟩ := H
        go_enter Try.func35, Try.ntmps35
        go_wp2
        go_ret2
        exact ⟨by first | rfl | (simp; done) | (simp [*]; done), by repeat (first | exact Drawn0.refl _ | apply Drawn0.step)⟩
    · rw [if_neg c7] at H
      have c7b0 : decide (a1 < 0) = false := decide_eq_false c7
      clear c7
      simp only [Option.some.injEq, Prod.mk.injEq] at H
      obtain ⟨rfl, rfl⟩ := H
      go_enter Try.func35, Try.ntmps35
      go_wp2
      go_ret2
      exact ⟨by first | rfl | (simp; done) | (simp [*]; done), by repeat (first | exact Drawn0.refl _ | apply Drawn0.step)⟩

/-! ### bits_Mul64: function 47 -/
def bits_Mul64.f (a0 : Int) (a1 : Int) : Option (Int × Int) := if 0 ≤ a0 ∧ a0 ≤ 18446744073709551615 ∧ 0 ≤ a1 ∧ a1 ≤ 18446744073709551615 then some (a0 * a1 / 18446744073709551616, a0 * a1 % 18446744073709551616) else none
theorem bits_Mul64.calls (a0 : Int) (a1 : Int) (r1 : Int) (r2 : Int) (w : World) (h : bits_Mul64.f a0 a1 = some (r1, r2)) :
    Calls Try.prog 47 #[.int .u64 a0, .int .u64 a1] w fun e w' => e = .returned (.tuple #[.int .u64 r1, .int .u64 r2]) ∧ Drawn0 w w' := by
  unfold bits_Mul64.f at h
  split at h
  · rename_i hb
    obtain ⟨h0, h1, h2, h3⟩ := hb
    obtain ⟨x, rfl⟩ := Int.eq_ofNat_of_zero_le h0
    obtain ⟨y, rfl⟩ := Int.eq_ofNat_of_zero_le h2
    simp only [Option.some.injEq, Prod.mk.injEq] at h
    obtain ⟨rfl, rfl⟩ := h
    refine (Try.bits_Mul64 x y (by omega) (by omega) w).mono ?_
    rintro e w' ⟨rfl, rfl⟩
    exact ⟨rfl, Drawn0.refl _⟩
  · cases h

/-! ### fixed_size: function 48 -/
def fixed_size.f (a0 : Int) : Option (Int) := if a0 < 0 then (some (IntKind.u64.wrap (-(IntKind.u64.wrap (a0))))) else (some (IntKind.u64.wrap (a0)))
set_option maxHeartbeats 8000000 in
set_option maxRecDepth 100000 in
theorem fixed_size.calls (a0 : Int) (r : Int) (w : World) (h : fixed_size.f a0 = some r) :
    Calls Try.prog 48 #[.int .i64 a0] w fun e w' => e = .returned (.int .u64 r) ∧ Drawn0 w w' := by
  have H : (if a0 < 0 then (some (IntKind.u64.wrap (-(IntKind.u64.wrap (a0))))) else (some (IntKind.u64.wrap (a0)))) = some r := h
  clear h
  by_cases c2 : a0 < 0
  · rw [if_pos c2] at H
    have c2b0 : decide (a0 < 0) = true := decide_eq_true c2
    clear c2
    obtain rfl := Option.some.inj H
    go_enter Try.func48, Try.ntmps48
    go_wp2
    go_ret
    exact ⟨by first | rfl | (simp; done) | (simp [*]; done), by repeat (first | exact Drawn0.refl _ | apply Drawn0.step)⟩
  · rw [if_neg c2] at H
    have c2b0 : decide (a0 < 0) = false := decide_eq_false c2
    clear c2
    obtain rfl := Option.some.inj H
    go_enter Try.func48, Try.ntmps48
    go_wp2
    go_ret
    exact ⟨by first | rfl | (simp; done) | (simp [*]; done), by repeat (first | exact Drawn0.refl _ | apply Drawn0.step)⟩

/-! ### fixed_Mul: function 36 -/
def mulRes (below : Bool) (H L : Int) : Int × Bool := if H = 0 then (if L > 9223372036854775808 then (0, false) else (if L = 9223372036854775808 then (if below = true then (wrap64 (-(wrap64 L)), true) else (0, false)) else (if below = true then (wrap64 (-(wrap64 L)), true) else (wrap64 L, true)))) else (0, false)
def fixed_Mul.f (a0 : Int) (a1 : Int) : Option (Int × Bool) := (fixed_size.f a0).bind fun t => ((fixed_size.f a1).bind fun u => ((bits_Mul64.f t u).bind fun b => some (mulRes (decide (a0 < 0) != decide (a1 < 0)) b.1 b.2)))
set_option maxRecDepth 100000 in
theorem mul_core (a b t1 t2 H L : Int) (w : World) (A1 : Aside0 (fixed_size.f a = some t1)) (A2 : Aside0 (fixed_size.f b = some t2)) (A3 : Aside0 (bits_Mul64.f t1 t2 = some (H, L))) (s1 s2 : Bool) (hs1 : decide (a < 0) = s1) (hs2 : decide (b < 0) = s2) (r1 : Int) (r2 : Bool) (hr : mulRes (s1 != s2) H L = (r1, r2)) :
    Calls Try.prog 36 #[.int .i64 a, .int .i64 b] w fun e w' => e = .returned (.tuple #[.int .i64 r1, .bool r2]) ∧ Drawn0 w w' := by
  unfold mulRes at hr
  by_cases c1 : H = 0
  · rw [if_pos c1] at hr
    have e1 : (H == 0) = true := beq_iff_eq.mpr c1
    have e2 : (H != 0) = false := bne_eq_false_iff_eq.mpr c1
    clear c1
    by_cases c2 : L > 9223372036854775808
    · rw [if_pos c2] at hr
      have e3 : decide (9223372036854775808 < L) = true := decide_eq_true c2
      clear c2
      cases s1 <;> cases s2
      · obtain ⟨rfl, rfl⟩ := Prod.mk.inj hr
        go_enter Try.func36, Try.ntmps36
        go_wp2_with (first | (go_at_call 48; (first | (with_reducible refine (fixed_size.calls a t1 _ A1.out).mono ?_) | (with_reducible refine (fixed_size.calls b t2 _ A2.out).mono ?_)); rintro e w' ⟨rfl, ⟨nd, rfl⟩⟩) | (go_at_call 47; (with_reducible refine (bits_Mul64.calls t1 t2 H L _ A3.out).mono ?_); rintro e w' ⟨rfl, ⟨nd, rfl⟩⟩))
        go_ret2
        exact ⟨rfl, by repeat (first | exact Drawn0.refl _ | apply Drawn0.step)⟩
      · obtain ⟨rfl, rfl⟩ := Prod.mk.inj hr
        go_enter Try.func36, Try.ntmps36
        go_wp2_with (first | (go_at_call 48; (first | (with_reducible refine (fixed_size.calls a t1 _ A1.out).mono ?_) | (with_reducible refine (fixed_size.calls b t2 _ A2.out).mono ?_)); rintro e w' ⟨rfl, ⟨nd, rfl⟩⟩) | (go_at_call 47; (with_reducible refine (bits_Mul64.calls t1 t2 H L _ A3.out).mono ?_); rintro e w' ⟨rfl, ⟨nd, rfl⟩⟩))
        go_ret2
        exact ⟨rfl, by repeat (first | exact Drawn0.refl _ | apply Drawn0.step)⟩
      · obtain ⟨rfl, rfl⟩ := Prod.mk.inj hr
        go_enter Try.func36, Try.ntmps36
        go_wp2_with (first | (go_at_call 48; (first | (with_reducible refine (fixed_size.calls a t1 _ A1.out).mono ?_) | (with_reducible refine (fixed_size.calls b t2 _ A2.out).mono ?_)); rintro e w' ⟨rfl, ⟨nd, rfl⟩⟩) | (go_at_call 47; (with_reducible refine (bits_Mul64.calls t1 t2 H L _ A3.out).mono ?_); rintro e w' ⟨rfl, ⟨nd, rfl⟩⟩))
        go_ret2
        exact ⟨rfl, by repeat (first | exact Drawn0.refl _ | apply Drawn0.step)⟩
      · obtain ⟨rfl, rfl⟩ := Prod.mk.inj hr
        go_enter Try.func36, Try.ntmps36
        go_wp2_with (first | (go_at_call 48; (first | (with_reducible refine (fixed_size.calls a t1 _ A1.out).mono ?_) | (with_reducible refine (fixed_size.calls b t2 _ A2.out).mono ?_)); rintro e w' ⟨rfl, ⟨nd, rfl⟩⟩) | (go_at_call 47; (with_reducible refine (bits_Mul64.calls t1 t2 H L _ A3.out).mono ?_); rintro e w' ⟨rfl, ⟨nd, rfl⟩⟩))
        go_ret2
        exact ⟨rfl, by repeat (first | exact Drawn0.refl _ | apply Drawn0.step)⟩
    · rw [if_neg c2] at hr
      have e3 : decide (9223372036854775808 < L) = false := decide_eq_false c2
      clear c2
      by_cases c3 : L = 9223372036854775808
      · rw [if_pos c3] at hr
        have e4 : (L == 9223372036854775808) = true := beq_iff_eq.mpr c3
        clear c3
        cases s1 <;> cases s2
        · simp only [bne_self_eq_false, Bool.false_eq_true, Bool.true_bne, Bool.false_bne, Bool.not_true, Bool.not_false, if_true, if_false] at hr
          obtain ⟨rfl, rfl⟩ := Prod.mk.inj hr
          go_enter Try.func36, Try.ntmps36
          go_wp2_with (first | (go_at_call 48; (first | (with_reducible refine (fixed_size.calls a t1 _ A1.out).mono ?_) | (with_reducible refine (fixed_size.calls b t2 _ A2.out).mono ?_)); rintro e w' ⟨rfl, ⟨nd, rfl⟩⟩) | (go_at_call 47; (with_reducible refine (bits_Mul64.calls t1 t2 H L _ A3.out).mono ?_); rintro e w' ⟨rfl, ⟨nd, rfl⟩⟩))
          go_ret2
          exact ⟨rfl, by repeat (first | exact Drawn0.refl _ | apply Drawn0.step)⟩
        · simp only [bne_self_eq_false, Bool.false_eq_true, Bool.true_bne, Bool.false_bne, Bool.not_true, Bool.not_false, if_true, if_false] at hr
          obtain ⟨rfl, rfl⟩ := Prod.mk.inj hr
          go_enter Try.func36, Try.ntmps36
          go_wp2_with (first | (go_at_call 48; (first | (with_reducible refine (fixed_size.calls a t1 _ A1.out).mono ?_) | (with_reducible refine (fixed_size.calls b t2 _ A2.out).mono ?_)); rintro e w' ⟨rfl, ⟨nd, rfl⟩⟩) | (go_at_call 47; (with_reducible refine (bits_Mul64.calls t1 t2 H L _ A3.out).mono ?_); rintro e w' ⟨rfl, ⟨nd, rfl⟩⟩))
          go_ret2
          exact ⟨rfl, by repeat (first | exact Drawn0.refl _ | apply Drawn0.step)⟩
        · simp only [bne_self_eq_false, Bool.false_eq_true, Bool.true_bne, Bool.false_bne, Bool.not_true, Bool.not_false, if_true, if_false] at hr
          obtain ⟨rfl, rfl⟩ := Prod.mk.inj hr
          go_enter Try.func36, Try.ntmps36
          go_wp2_with (first | (go_at_call 48; (first | (with_reducible refine (fixed_size.calls a t1 _ A1.out).mono ?_) | (with_reducible refine (fixed_size.calls b t2 _ A2.out).mono ?_)); rintro e w' ⟨rfl, ⟨nd, rfl⟩⟩) | (go_at_call 47; (with_reducible refine (bits_Mul64.calls t1 t2 H L _ A3.out).mono ?_); rintro e w' ⟨rfl, ⟨nd, rfl⟩⟩))
          go_ret2
          exact ⟨rfl, by repeat (first | exact Drawn0.refl _ | apply Drawn0.step)⟩
        · simp only [bne_self_eq_false, Bool.false_eq_true, Bool.true_bne, Bool.false_bne, Bool.not_true, Bool.not_false, if_true, if_false] at hr
          obtain ⟨rfl, rfl⟩ := Prod.mk.inj hr
          go_enter Try.func36, Try.ntmps36
          go_wp2_with (first | (go_at_call 48; (first | (with_reducible refine (fixed_size.calls a t1 _ A1.out).mono ?_) | (with_reducible refine (fixed_size.calls b t2 _ A2.out).mono ?_)); rintro e w' ⟨rfl, ⟨nd, rfl⟩⟩) | (go_at_call 47; (with_reducible refine (bits_Mul64.calls t1 t2 H L _ A3.out).mono ?_); rintro e w' ⟨rfl, ⟨nd, rfl⟩⟩))
          go_ret2
          exact ⟨rfl, by repeat (first | exact Drawn0.refl _ | apply Drawn0.step)⟩
      · rw [if_neg c3] at hr
        have e4 : (L == 9223372036854775808) = false := beq_eq_false_iff_ne.mpr c3
        clear c3
        cases s1 <;> cases s2
        · simp only [bne_self_eq_false, Bool.false_eq_true, Bool.true_bne, Bool.false_bne, Bool.not_true, Bool.not_false, if_true, if_false] at hr
          obtain ⟨rfl, rfl⟩ := Prod.mk.inj hr
          go_enter Try.func36, Try.ntmps36
          go_wp2_with (first | (go_at_call 48; (first | (with_reducible refine (fixed_size.calls a t1 _ A1.out).mono ?_) | (with_reducible refine (fixed_size.calls b t2 _ A2.out).mono ?_)); rintro e w' ⟨rfl, ⟨nd, rfl⟩⟩) | (go_at_call 47; (with_reducible refine (bits_Mul64.calls t1 t2 H L _ A3.out).mono ?_); rintro e w' ⟨rfl, ⟨nd, rfl⟩⟩))
          go_ret2
          exact ⟨rfl, by repeat (first | exact Drawn0.refl _ | apply Drawn0.step)⟩
        · simp only [bne_self_eq_false, Bool.false_eq_true, Bool.true_bne, Bool.false_bne, Bool.not_true, Bool.not_false, if_true, if_false] at hr
          obtain ⟨rfl, rfl⟩ := Prod.mk.inj hr
          go_enter Try.func36, Try.ntmps36
          go_wp2_with (first | (go_at_call 48; (first | (with_reducible refine (fixed_size.calls a t1 _ A1.out).mono ?_) | (with_reducible refine (fixed_size.calls b t2 _ A2.out).mono ?_)); rintro e w' ⟨rfl, ⟨nd, rfl⟩⟩) | (go_at_call 47; (with_reducible refine (bits_Mul64.calls t1 t2 H L _ A3.out).mono ?_); rintro e w' ⟨rfl, ⟨nd, rfl⟩⟩))
          go_ret2
          exact ⟨rfl, by repeat (first | exact Drawn0.refl _ | apply Drawn0.step)⟩
        · simp only [bne_self_eq_false, Bool.false_eq_true, Bool.true_bne, Bool.false_bne, Bool.not_true, Bool.not_false, if_true, if_false] at hr
          obtain ⟨rfl, rfl⟩ := Prod.mk.inj hr
          go_enter Try.func36, Try.ntmps36
          go_wp2_with (first | (go_at_call 48; (first | (with_reducible refine (fixed_size.calls a t1 _ A1.out).mono ?_) | (with_reducible refine (fixed_size.calls b t2 _ A2.out).mono ?_)); rintro e w' ⟨rfl, ⟨nd, rfl⟩⟩) | (go_at_call 47; (with_reducible refine (bits_Mul64.calls t1 t2 H L _ A3.out).mono ?_); rintro e w' ⟨rfl, ⟨nd, rfl⟩⟩))
          go_ret2
          exact ⟨rfl, by repeat (first | exact Drawn0.refl _ | apply Drawn0.step)⟩
        · simp only [bne_self_eq_false, Bool.false_eq_true, Bool.true_bne, Bool.false_bne, Bool.not_true, Bool.not_false, if_true, if_false] at hr
          obtain ⟨rfl, rfl⟩ := Prod.mk.inj hr
          go_enter Try.func36, Try.ntmps36
          go_wp2_with (first | (go_at_call 48; (first | (with_reducible refine (fixed_size.calls a t1 _ A1.out).mono ?_) | (with_reducible refine (fixed_size.calls b t2 _ A2.out).mono ?_)); rintro e w' ⟨rfl, ⟨nd, rfl⟩⟩) | (go_at_call 47; (with_reducible refine (bits_Mul64.calls t1 t2 H L _ A3.out).mono ?_); rintro e w' ⟨rfl, ⟨nd, rfl⟩⟩))
          go_ret2
          exact ⟨rfl, by repeat (first | exact Drawn0.refl _ | apply Drawn0.step)⟩
  · rw [if_neg c1] at hr
    have e1 : (H == 0) = false := beq_eq_false_iff_ne.mpr c1
    have e2 : (H != 0) = true := bne_iff_ne.mpr c1
    clear c1
    cases s1 <;> cases s2
    · obtain ⟨rfl, rfl⟩ := Prod.mk.inj hr
      go_enter Try.func36, Try.ntmps36
      go_wp2_with (first | (go_at_call 48; (first | (with_reducible refine (fixed_size.calls a t1 _ A1.out).mono ?_) | (with_reducible refine (fixed_size.calls b t2 _ A2.out).mono ?_)); rintro e w' ⟨rfl, ⟨nd, rfl⟩⟩) | (go_at_call 47; (with_reducible refine (bits_Mul64.calls t1 t2 H L _ A3.out).mono ?_); rintro e w' ⟨rfl, ⟨nd, rfl⟩⟩))
      go_ret2
      exact ⟨rfl, by repeat (first | exact Drawn0.refl _ | apply Drawn0.step)⟩
    · obtain ⟨rfl, rfl⟩ := Prod.mk.inj hr
      go_enter Try.func36, Try.ntmps36
      go_wp2_with (first | (go_at_call 48; (first | (with_reducible refine (fixed_size.calls a t1 _ A1.out).mono ?_) | (with_reducible refine (fixed_size.calls b t2 _ A2.out).mono ?_)); rintro e w' ⟨rfl, ⟨nd, rfl⟩⟩) | (go_at_call 47; (with_reducible refine (bits_Mul64.calls t1 t2 H L _ A3.out).mono ?_); rintro e w' ⟨rfl, ⟨nd, rfl⟩⟩))
      go_ret2
      exact ⟨rfl, by repeat (first | exact Drawn0.refl _ | apply Drawn0.step)⟩
    · obtain ⟨rfl, rfl⟩ := Prod.mk.inj hr
      go_enter Try.func36, Try.ntmps36
      go_wp2_with (first | (go_at_call 48; (first | (with_reducible refine (fixed_size.calls a t1 _ A1.out).mono ?_) | (with_reducible refine (fixed_size.calls b t2 _ A2.out).mono ?_)); rintro e w' ⟨rfl, ⟨nd, rfl⟩⟩) | (go_at_call 47; (with_reducible refine (bits_Mul64.calls t1 t2 H L _ A3.out).mono ?_); rintro e w' ⟨rfl, ⟨nd, rfl⟩⟩))
      go_ret2
      exact ⟨rfl, by repeat (first | exact Drawn0.refl _ | apply Drawn0.step)⟩
    · obtain ⟨rfl, rfl⟩ := Prod.mk.inj hr
      go_enter Try.func36, Try.ntmps36
      go_wp2_with (first | (go_at_call 48; (first | (with_reducible refine (fixed_size.calls a t1 _ A1.out).mono ?_) | (with_reducible refine (fixed_size.calls b t2 _ A2.out).mono ?_)); rintro e w' ⟨rfl, ⟨nd, rfl⟩⟩) | (go_at_call 47; (with_reducible refine (bits_Mul64.calls t1 t2 H L _ A3.out).mono ?_); rintro e w' ⟨rfl, ⟨nd, rfl⟩⟩))
      go_ret2
      exact ⟨rfl, by repeat (first | exact Drawn0.refl _ | apply Drawn0.step)⟩
theorem fixed_Mul.calls (a0 : Int) (a1 : Int) (r1 : Int) (r2 : Bool) (w : World) (h : fixed_Mul.f a0 a1 = some (r1, r2)) :
    Calls Try.prog 36 #[.int .i64 a0, .int .i64 a1] w fun e w' => e = .returned (.tuple #[.int .i64 r1, .bool r2]) ∧ Drawn0 w w' := by
  unfold fixed_Mul.f at h
  obtain ⟨t1, A1, h⟩ := Option.bind_eq_some_iff.mp h
  obtain ⟨t2, A2, h⟩ := Option.bind_eq_some_iff.mp h
  obtain ⟨⟨H, L⟩, A3, h⟩ := Option.bind_eq_some_iff.mp h
  exact mul_core a0 a1 t1 t2 H L w (Aside0.mk A1) (Aside0.mk A2) (Aside0.mk A3) _ _ rfl rfl r1 r2 (Option.some.inj h)

end Go.Proofs.Ytbldlfmblalchaa.P
