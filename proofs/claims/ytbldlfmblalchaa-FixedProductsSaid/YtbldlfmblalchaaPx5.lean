-- Printed by xprint.py (wip): functions, contracts, rows. Lean checks it.
import Derived.Test.YtbldlfmblalchaaPx0
import Derived.Test.YtbldlfmblalchaaPx1
namespace Go.Proofs.Ytbldlfmblalchaa.P
open Go.RowKit Go.Proofs.YtbldlfmblalchaaW.PrintWords Go.Proofs.YtbldlfmblalchaaW.PrintLast Go.Proofs.YtbldlfmblalchaaW.PrintMore
attribute [local go_sem] max2_int min2_int max_two min_two max_three min_three max_four min_four   -- for this text's walks alone
set_option linter.unusedVariables false
set_option linter.unusedSimpArgs false

/-! ### fixed_Exp2: function 24 -/
/-- What 2 to the power of x / 65536 is reckoned to. -/
def exp2S (x : Int) : Int := if x / 65536 ≤ -31 then 0 else (1073741824 + (747400624 + (241400000 + 84941200 * (x % 65536) / 65536) * (x % 65536) / 65536) * (x % 65536) / 65536) / 2 ^ (-(x / 65536)).toNat
def fixed_Exp2.f (a0 : Int) : Option Int := if -9223372036854775808 ≤ a0 ∧ a0 ≤ 9223372036854775807 then some (exp2S (if a0 < 0 then a0 else 0)) else none
set_option maxRecDepth 100000 in
theorem exp2_no (a q t e : Int) (w : World) (A : Aside0 (fixed_Floor.f a 65536 = some (q, t, e))) (ha : a ≤ 0) (hq : decide (q ≤ -31) = true) :
    Calls Try.prog 24 #[.int .i64 a] w fun e w' => e = .returned (.int .i64 0) ∧ Below w.heap.size w w' := by
  go_enter Try.func24, Try.ntmps24
  go_wp2_with (first | (go_at_call 16; (with_reducible refine (fixed_Floor.calls a 65536 q t e _ A.out).mono ?_); rintro e w' ⟨rfl, ⟨nd, rfl⟩⟩))
  go_ret
  exact ⟨rfl, by repeat (first | exact Below.refl _ _ | apply pw_below_drewN | apply below_drew1)⟩
theorem arr4 (w : World) (nd T : Nat) (a b c d : Value) (j : Nat) (hj : j < 4) : ((w.drewN nd).alloc (.cells #[a, b, c, d] T)).cell? ⟨w.heap.size, j, none⟩ = some ([a, b, c, d].getD j a) ∧ ((w.drewN nd).alloc (.cells #[a, b, c, d] T)).frozen? ⟨w.heap.size, j, none⟩ = false := by
  have h : ((w.drewN nd).alloc (.cells #[a, b, c, d] T)).heap[w.heap.size]? = some (.cells #[a, b, c, d] T (0, 0)) := by simpa using heap_alloc_new (w.drewN nd) (.cells #[a, b, c, d] T)
  obtain rfl | rfl | rfl | rfl : j = 0 ∨ j = 1 ∨ j = 2 ∨ j = 3 := by omega
  all_goals exact ⟨(blk_cell h _).trans rfl, by unfold World.frozen?; rw [h]; rfl⟩
set_option maxRecDepth 100000 in
theorem exp2_yes (a x q t e : Int) (w : World) (A : Aside0 (fixed_Floor.f x 65536 = some (q, t, e))) (ha : (0 < a ∧ x = 0) ∨ (a ≤ 0 ∧ x = a)) (hq : decide (q ≤ -31) = false) (ht0 : 0 ≤ t) (ht1 : t ≤ 65535) (hn0 : -30 ≤ q) (hn1 : q ≤ 0) :
    Calls Try.prog 24 #[.int .i64 a] w fun e w' => e = .returned (.int .i64 ((1073741824 + (747400624 + (241400000 + 84941200 * t / 65536) * t / 65536) * t / 65536) / 2 ^ (-q).toNat)) ∧ Below w.heap.size w w' := by
  have c0 := fun nd a b c d => (arr4 w nd 56 a b c d 0 (by omega)).1
  have c1 := fun nd a b c d => (arr4 w nd 56 a b c d 1 (by omega)).1
  have c2 := fun nd a b c d => (arr4 w nd 56 a b c d 2 (by omega)).1
  have c3 := fun nd a b c d => (arr4 w nd 56 a b c d 3 (by omega)).1
  have f0 := fun nd a b c d => (arr4 w nd 56 a b c d 0 (by omega)).2
  have f1 := fun nd a b c d => (arr4 w nd 56 a b c d 1 (by omega)).2
  have f2 := fun nd a b c d => (arr4 w nd 56 a b c d 2 (by omega)).2
  have f3 := fun nd a b c d => (arr4 w nd 56 a b c d 3 (by omega)).2
  simp only [List.getD_cons_zero, List.getD_cons_succ] at c0 c1 c2 c3
  have b0 : 0 ≤ 84941200 * t / 65536 ∧ 84941200 * t / 65536 ≤ 84941200 := by omega
  obtain ⟨y1, hy1⟩ : ∃ y1, y1 = 241400000 + 84941200 * t / 65536 := ⟨_, rfl⟩
  have b1 : 0 ≤ y1 ∧ y1 ≤ 326341200 := by omega
  have m1 : 0 ≤ y1 * t ∧ y1 * t ≤ 326341200 * 65535 := ⟨Int.mul_nonneg b1.1 ht0, Int.mul_le_mul b1.2 ht1 ht0 (by omega)⟩
  obtain ⟨y2, hy2⟩ : ∃ y2, y2 = 747400624 + y1 * t / 65536 := ⟨_, rfl⟩
  have b2 : 0 ≤ y2 ∧ y2 ≤ 1073741824 := by omega
  have m2 : 0 ≤ y2 * t ∧ y2 * t ≤ 1073741824 * 65535 := ⟨Int.mul_nonneg b2.1 ht0, Int.mul_le_mul b2.2 ht1 ht0 (by omega)⟩
  obtain ⟨y3, hy3⟩ : ∃ y3, y3 = 1073741824 + y2 * t / 65536 := ⟨_, rfl⟩
  have b3 : 0 ≤ y3 ∧ y3 ≤ 2147483648 := by omega
  rw [← hy1, ← hy2, ← hy3]
  have H1 := Aside0.mk hy1
  have H2 := Aside0.mk hy2
  have H3 := Aside0.mk hy3
  clear hy1 hy2 hy3
  obtain ⟨b11, b12⟩ := b1
  obtain ⟨b21, b22⟩ := b2
  obtain ⟨b31, b32⟩ := b3
  obtain ⟨m11, m12⟩ := m1
  obtain ⟨m21, m22⟩ := m2
  rcases ha with ⟨ha, rfl⟩ | ⟨ha, rfl⟩
  · go_enter Try.func24, Try.ntmps24
    go_wp2_with (first | (go_at_call 16; (with_reducible refine (fixed_Floor.calls 0 65536 q t e _ A.out).mono ?_); rintro e w' ⟨rfl, ⟨nd, rfl⟩⟩))
    go_loop [7, 22] (fun y i => (i = .int .i64 0 ∧ y = .int .i64 84941200) ∨ (i = .int .i64 1 ∧ y = .int .i64 y1) ∨ (i = .int .i64 2 ∧ y = .int .i64 y2) ∨ (i = .int .i64 3 ∧ y = .int .i64 y3)) (fun _ i => 3 - (intOf i).toNat)
    case atStart => exact .inl ⟨rfl, rfl⟩
    case round =>
      rcases hrel with ⟨rfl, rfl⟩ | ⟨rfl, rfl⟩ | ⟨rfl, rfl⟩ | ⟨rfl, rfl⟩
      · go_wp2
        go_round
        case rel => exact .inr (.inl ⟨rfl, by rw [H1.out]⟩)
        case measure => simp [intOf]
      · go_wp2
        go_round
        case rel => exact .inr (.inr (.inl ⟨rfl, by rw [H2.out]⟩))
        case measure => simp [intOf]
      · go_wp2
        go_round
        case rel => exact .inr (.inr (.inr ⟨rfl, by rw [H3.out]⟩))
        case measure => simp [intOf]
      · go_wp2
        go_ret
        exact ⟨rfl, by repeat (first | exact Below.refl _ _ | refine below_set ?_ (Nat.le_refl _) | apply below_alloc | apply pw_below_drewN | apply below_drew1)⟩
  · go_enter Try.func24, Try.ntmps24
    go_wp2_with (first | (go_at_call 16; (with_reducible refine (fixed_Floor.calls x 65536 q t e _ A.out).mono ?_); rintro e w' ⟨rfl, ⟨nd, rfl⟩⟩))
    go_loop [7, 22] (fun y i => (i = .int .i64 0 ∧ y = .int .i64 84941200) ∨ (i = .int .i64 1 ∧ y = .int .i64 y1) ∨ (i = .int .i64 2 ∧ y = .int .i64 y2) ∨ (i = .int .i64 3 ∧ y = .int .i64 y3)) (fun _ i => 3 - (intOf i).toNat)
    case atStart => exact .inl ⟨rfl, rfl⟩
    case round =>
      rcases hrel with ⟨rfl, rfl⟩ | ⟨rfl, rfl⟩ | ⟨rfl, rfl⟩ | ⟨rfl, rfl⟩
      · go_wp2
        go_round
        case rel => exact .inr (.inl ⟨rfl, by rw [H1.out]⟩)
        case measure => simp [intOf]
      · go_wp2
        go_round
        case rel => exact .inr (.inr (.inl ⟨rfl, by rw [H2.out]⟩))
        case measure => simp [intOf]
      · go_wp2
        go_round
        case rel => exact .inr (.inr (.inr ⟨rfl, by rw [H3.out]⟩))
        case measure => simp [intOf]
      · go_wp2
        go_ret
        exact ⟨rfl, by repeat (first | exact Below.refl _ _ | refine below_set ?_ (Nat.le_refl _) | apply below_alloc | apply pw_below_drewN | apply below_drew1)⟩
theorem exp2_floor (x : Int) (h0 : -9223372036854775808 ≤ x) (h1 : x ≤ 0) : fixed_Floor.f x 65536 = some (x / 65536, x % 65536, 0) := by
  unfold fixed_Floor.f
  rw [if_neg (by omega), if_neg (by omega)]
  have ht := Int.tdiv_eq_ediv (a := x) (b := 65536)
  have hm := Int.tmod_eq_emod (a := x) (b := 65536)
  have hs : Int.sign 65536 = 1 := rfl
  have hn : ((65536 : Int).natAbs : Int) = 65536 := rfl
  rw [hs] at ht
  have hd : (65536 ∣ x) ↔ x % 65536 = 0 := ⟨Int.emod_eq_zero_of_dvd, Int.dvd_of_emod_eq_zero⟩
  by_cases hc : 0 ≤ x ∨ 65536 ∣ x
  · rw [if_pos hc] at ht hm
    rw [if_neg (by omega), ht, hm]
    have : wrap64 (x / 65536 + 0) = x / 65536 := by unfold wrap64; omega
    rw [this]; simp
  · rw [if_neg hc] at ht hm
    have hz : x % 65536 ≠ 0 := fun h => hc (.inr (hd.mpr h))
    rw [if_pos (by omega), ht, hm]
    have e1 : wrap64 (x / 65536 + 1) = x / 65536 + 1 := by unfold wrap64; omega
    have e2 : wrap64 (x / 65536 + 1 - 1) = x / 65536 := by unfold wrap64; omega
    have e3 : wrap64 (x % 65536 - ((65536 : Int).natAbs : Int) + 65536) = x % 65536 := by rw [hn]; unfold wrap64; omega
    rw [e1, e2]
    simp only [hn] at e3 ⊢
    exact congrArg some (congrArg _ (congrArg (fun z => (z, (0 : Int))) e3))
theorem fixed_Exp2.calls (a0 : Int) (r : Int) (w : World) (h : fixed_Exp2.f a0 = some r) :
    Calls Try.prog 24 #[.int .i64 a0] w fun e w' => e = .returned (.int .i64 r) ∧ Below w.heap.size w w' := by
  unfold fixed_Exp2.f at h
  split at h
  · rename_i hb
    obtain ⟨h0, h1⟩ := hb
    obtain rfl := Option.some.inj h
    by_cases ha : a0 < 0
    · rw [if_pos ha]
      have A := Aside0.mk (exp2_floor a0 h0 (by omega))
      unfold exp2S
      by_cases hq : a0 / 65536 ≤ -31
      · rw [if_pos hq]; exact exp2_no a0 _ _ _ w A (by omega) (decide_eq_true hq)
      · rw [if_neg hq]; exact exp2_yes a0 a0 _ _ _ w A (.inr ⟨by omega, rfl⟩) (decide_eq_false hq) (by omega) (by omega) (by omega) (by omega)
    · rw [if_neg ha]
      have A := Aside0.mk (exp2_floor 0 (by omega) (by omega))
      unfold exp2S
      rw [if_neg (by omega)]
      by_cases hz : 0 < a0
      · exact exp2_yes a0 0 _ _ _ w A (.inl ⟨hz, rfl⟩) (decide_eq_false (by omega)) (by omega) (by omega) (by omega) (by omega)
      · exact exp2_yes a0 0 _ _ _ w A (.inr ⟨by omega, by omega⟩) (decide_eq_false (by omega)) (by omega) (by omega) (by omega) (by omega)
  · cases h

end Go.Proofs.Ytbldlfmblalchaa.P
