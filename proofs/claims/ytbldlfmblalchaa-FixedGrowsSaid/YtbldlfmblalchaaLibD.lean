/- Lemmas on the printed functions: what each answers, in plain words of Lean; on condition that the numbers are of their kinds. -/
import Derived.Test.YtbldlfmblalchaaPx2
import Derived.Test.YtbldlfmblalchaaPx3
import Derived.Test.YtbldlfmblalchaaMath
import Derived.Test.YtbldlfmblalchaaLibC
namespace Go.Proofs.Ytbldlfmblalchaa.L
open Go Go.RowKit Go.Proofs.Ytbldlfmblalchaa.M Go.Proofs.Ytbldlfmblalchaa.P Go.Proofs.YtbldlfmblalchaaW.PrintWords Go.Proofs.YtbldlfmblalchaaW.PrintLast Go.Proofs.YtbldlfmblalchaaW.PrintMore
set_option linter.unusedVariables false
set_option linter.unusedSimpArgs false

/-- What so many squarings tell of a number from 2^30 to below 2^31, behind what is told. -/
def lgo : Nat → Int → Int → Int
  | 0, _, a => a
  | r + 1, m, a => if m * m / 1073741824 ≥ 2147483648 then lgo r (m * m / 1073741824 / 2) (2 * a + 1) else lgo r (m * m / 1073741824) (2 * a)
theorem lg_step {m : Int} (h0 : 1073741824 ≤ m) (h1 : m ≤ 2147483647) : 0 ≤ m * m ∧ m * m < 4611686018427387904 ∧ 1073741824 ≤ m * m / 1073741824 ∧ m * m / 1073741824 ≤ 4294967295 := by
  have a : 1073741824 * 1073741824 ≤ m * m := Int.mul_le_mul h0 h0 (by omega) (by omega)
  have b : m * m ≤ 2147483647 * 2147483647 := Int.mul_le_mul h1 h1 (by omega) (by omega)
  omega
theorem lgo_acc : ∀ (r : Nat) (m a : Int), lgo r m a = a * 2 ^ r + lgo r m 0
  | 0, m, a => by simp [lgo]
  | r + 1, m, a => by
    have e : (2 : Int) ^ (r + 1) = 2 ^ r * 2 := Int.pow_succ _ _
    simp only [lgo]
    split
    · rw [lgo_acc r _ (2 * a + 1), lgo_acc r _ (2 * 0 + 1), e]; grind
    · rw [lgo_acc r _ (2 * a), lgo_acc r _ (2 * 0), e]; grind
theorem lgo_in : ∀ (r : Nat) (m : Int), 1073741824 ≤ m → m ≤ 2147483647 → 0 ≤ lgo r m 0 ∧ lgo r m 0 < 2 ^ r
  | 0, m, h0, h1 => by simp [lgo]
  | r + 1, m, h0, h1 => by
    have hs := lg_step h0 h1
    have e : (2 : Int) ^ (r + 1) = 2 ^ r * 2 := Int.pow_succ _ _
    simp only [lgo]
    split
    · have := lgo_in r (m * m / 1073741824 / 2) (by omega) (by omega)
      rw [lgo_acc]; omega
    · have := lgo_in r (m * m / 1073741824) (by omega) (by omega)
      rw [lgo_acc]; omega
theorem lgo_mono : ∀ (r : Nat) (m m' : Int), 1073741824 ≤ m → m ≤ m' → m' ≤ 2147483647 → lgo r m 0 ≤ lgo r m' 0
  | 0, m, m', h0, h, h1 => by simp [lgo]
  | r + 1, m, m', h0, h, h1 => by
    have hs := lg_step h0 (by omega : m ≤ 2147483647)
    have hs' := lg_step (by omega : 1073741824 ≤ m') h1
    have hmm : m * m ≤ m' * m' := Int.mul_le_mul h h (by omega) (by omega)
    have hp : (0 : Int) < 2 ^ r := Int.pow_pos (by omega)
    simp only [lgo]
    by_cases c : m * m / 1073741824 ≥ 2147483648
    · have c' : m' * m' / 1073741824 ≥ 2147483648 := by omega
      rw [if_pos c, if_pos c', lgo_acc r _ (2 * 0 + 1), lgo_acc r (m' * m' / 1073741824 / 2) (2 * 0 + 1)]
      have := lgo_mono r (m * m / 1073741824 / 2) (m' * m' / 1073741824 / 2) (by omega) (by omega) (by omega)
      omega
    · rw [if_neg c]
      by_cases c' : m' * m' / 1073741824 ≥ 2147483648
      · rw [if_pos c', lgo_acc r _ (2 * 0), lgo_acc r (m' * m' / 1073741824 / 2) (2 * 0 + 1)]
        have a := lgo_in r (m * m / 1073741824) (by omega) (by omega)
        have b := lgo_in r (m' * m' / 1073741824 / 2) (by omega) (by omega)
        omega
      · rw [if_neg c', lgo_acc r _ (2 * 0), lgo_acc r (m' * m' / 1073741824) (2 * 0)]
        have := lgo_mono r (m * m / 1073741824) (m' * m' / 1073741824) (by omega) (by omega) (by omega)
        omega
theorem lgo_one : ∀ r : Nat, lgo r 1073741824 0 = 0
  | 0 => rfl
  | r + 1 => by
    have e : (1073741824 : Int) * 1073741824 / 1073741824 = 1073741824 := by decide
    simp only [lgo, e]
    rw [if_neg (by omega)]; exact lgo_one r
/-- A number brought to 2^30 up to below 2^31; n: its place. -/
def nrm (x : Int) (n : Nat) : Int := if n > 30 then x / 2 ^ (n - 30) else x * 2 ^ (30 - n)
theorem nrm_in {x : Int} {n : Nat} (h0 : 2 ^ n ≤ x) (h1 : x < 2 ^ (n + 1)) : 1073741824 ≤ nrm x n ∧ nrm x n ≤ 2147483647 := by
  unfold nrm
  split
  · obtain ⟨k, rfl⟩ : ∃ k, n = 30 + k := ⟨n - 30, by omega⟩
    have hp : (0 : Int) < 2 ^ k := Int.pow_pos (by omega)
    rw [show 30 + k - 30 = k by omega]
    have e1 : (2 : Int) ^ (30 + k) = 1073741824 * 2 ^ k := by rw [Int.pow_add]; rfl
    have e2 : (2 : Int) ^ (30 + k + 1) = 2147483648 * 2 ^ k := by rw [Int.pow_succ, e1]; omega
    rw [e1] at h0; rw [e2] at h1
    have a : 1073741824 ≤ x / 2 ^ k := by rw [Int.le_ediv_iff_mul_le hp]; exact h0
    have b : x / 2 ^ k < 2147483648 := by rw [Int.ediv_lt_iff_lt_mul hp]; exact h1
    omega
  · have e : (2 : Int) ^ n * 2 ^ (30 - n) = 1073741824 := by
      rw [← Int.pow_add, show n + (30 - n) = 30 by omega]; rfl
    have hp : (0 : Int) < 2 ^ (30 - n) := Int.pow_pos (by omega)
    have e2 : (2 : Int) ^ (n + 1) = 2 ^ n * 2 := Int.pow_succ _ _
    have a : 2 ^ n * 2 ^ (30 - n) ≤ x * 2 ^ (30 - n) := Int.mul_le_mul_of_nonneg_right h0 (by omega)
    have b : (x + 1) * 2 ^ (30 - n) ≤ (2 ^ n * 2) * 2 ^ (30 - n) := Int.mul_le_mul_of_nonneg_right (by omega) (by omega)
    have c : ((2 : Int) ^ n * 2) * 2 ^ (30 - n) = 2147483648 := by
      rw [Int.mul_right_comm, e]; rfl
    have d : (x + 1) * 2 ^ (30 - n) = x * 2 ^ (30 - n) + 2 ^ (30 - n) := by rw [Int.add_mul, Int.one_mul]
    omega
/-- Each number from 1 on has its place. -/
theorem place (x : Int) (h : 1 ≤ x) (hx : x ≤ 9223372036854775807) : ∃ n : Nat, n ≤ 62 ∧ (2 : Int) ^ n ≤ x ∧ x < 2 ^ (n + 1) := by
  have key : ∀ d : Nat, x < 2 ^ d → ∃ n : Nat, n < d ∧ (2 : Int) ^ n ≤ x ∧ x < 2 ^ (n + 1) := by
    intro d
    induction d with
    | zero => intro hd; simp at hd; omega
    | succ d ih =>
      intro hd
      by_cases c : x < 2 ^ d
      · obtain ⟨n, h1, h2, h3⟩ := ih c; exact ⟨n, by omega, h2, h3⟩
      · exact ⟨d, by omega, by omega, hd⟩
  obtain ⟨n, h1, h2, h3⟩ := key 63 (by simp; omega)
  exact ⟨n, by omega, h2, h3⟩
theorem pow_le {a c : Nat} (h : a ≤ c) : (2 : Int) ^ a ≤ 2 ^ c := by
  have := Nat.pow_le_pow_right (show 0 < 2 by decide) h
  exact_mod_cast this
theorem place_unique {x : Int} {n m : Nat} (h0 : (2 : Int) ^ n ≤ x) (h1 : x < 2 ^ (n + 1)) (g0 : (2 : Int) ^ m ≤ x) (g1 : x < 2 ^ (m + 1)) : n = m := by
  by_cases c : n < m
  · have := pow_le (show n + 1 ≤ m by omega); omega
  · by_cases c' : m < n
    · have := pow_le (show m + 1 ≤ n by omega); omega
    · omega
theorem acc_step {a M : Int} {d : Nat} (h0 : 0 ≤ a) (h : (a + 1) * 2 ^ (d + 1) ≤ M) : (2 * a + 1 + 1) * 2 ^ d ≤ M ∧ (2 * a + 1) * 2 ^ d ≤ M ∧ 2 * a + 2 ≤ M := by
  have hp : (0 : Int) < 2 ^ d := Int.pow_pos (by omega)
  have e : (2 : Int) ^ (d + 1) = 2 * 2 ^ d := by rw [Int.pow_succ, Int.mul_comm]
  rw [e, ← Int.mul_assoc] at h
  have e2 : 2 * a + 1 + 1 = (a + 1) * 2 := by omega
  rw [e2]
  refine ⟨h, ?_, ?_⟩
  · have := Int.mul_le_mul_of_nonneg_right (show 2 * a + 1 ≤ (a + 1) * 2 by omega) (show (0 : Int) ≤ 2 ^ d by omega)
    omega
  · have := Int.mul_le_mul_of_nonneg_left (show (1 : Int) ≤ 2 ^ d by omega) (show 0 ≤ (a + 1) * 2 by omega)
    omega
def lg2 (x : Int) (n : Nat) : Int := 65536 * n + lgo 16 (nrm x n) 0
theorem lg2_in {x : Int} {n : Nat} (h0 : 2 ^ n ≤ x) (h1 : x < 2 ^ (n + 1)) : 65536 * n ≤ lg2 x n ∧ lg2 x n < 65536 * (n + 1) := by
  have hn := nrm_in h0 h1
  have := lgo_in 16 (nrm x n) hn.1 hn.2
  unfold lg2
  have e : (2 : Int) ^ 16 = 65536 := rfl
  omega
theorem nrm_mono {x y : Int} {n : Nat} (h : x ≤ y) : nrm x n ≤ nrm y n := by
  unfold nrm
  split
  · exact Int.ediv_le_ediv (Int.pow_pos (by omega)) h
  · have hp : (0 : Int) < 2 ^ (30 - n) := Int.pow_pos (by omega)
    exact Int.mul_le_mul_of_nonneg_right h (by omega)
theorem lg2_mono {x y : Int} {n m : Nat} (h : x ≤ y) (h0 : 2 ^ n ≤ x) (h1 : x < 2 ^ (n + 1)) (g0 : 2 ^ m ≤ y) (g1 : y < 2 ^ (m + 1)) : lg2 x n ≤ lg2 y m := by
  by_cases c : n < m
  · have a := lg2_in h0 h1
    have b := lg2_in g0 g1
    omega
  · by_cases c' : m < n
    · exfalso
      have := pow_le (show m + 1 ≤ n by omega); omega
    · obtain rfl : n = m := by omega
      have a := nrm_in h0 h1
      have b := nrm_in g0 g1
      have := lgo_mono 16 (nrm x n) (nrm y n) a.1 (nrm_mono h) b.2
      unfold lg2; omega
theorem lg2_pow (n : Nat) : lg2 (2 ^ n) n = 65536 * n := by
  have e : nrm (2 ^ n) n = 1073741824 := by
    unfold nrm
    split
    · obtain ⟨k, rfl⟩ : ∃ k, n = 30 + k := ⟨n - 30, by omega⟩
      rw [show 30 + k - 30 = k by omega, Int.pow_add]
      exact Int.mul_ediv_cancel _ (by have : (0 : Int) < 2 ^ k := Int.pow_pos (by omega)
                                      omega)
    · rw [← Int.pow_add, show n + (30 - n) = 30 by omega]; rfl
  unfold lg2; rw [e, lgo_one]; omega
theorem lg2_twice {x : Int} {n : Nat} : lg2 (2 * x) (n + 1) = lg2 x n + 65536 := by
  have e : nrm (2 * x) (n + 1) = nrm x n := by
    unfold nrm
    by_cases c : n > 30
    · rw [if_pos (by omega), if_pos c, show n + 1 - 30 = (n - 30) + 1 by omega, Int.pow_succ, Int.mul_comm 2 x]
      exact Int.mul_ediv_mul_of_pos_left _ _ (by omega)
    · rw [if_neg c]
      by_cases c2 : n = 30
      · subst c2
        rw [if_pos (by omega)]
        show 2 * x / 2 ^ 1 = x * 2 ^ 0
        omega
      · rw [if_neg (by omega), show 30 - n = (30 - (n + 1)) + 1 by omega, Int.pow_succ]; grind
  unfold lg2; rw [e]; omega
/-- How many binary digits a number has. -/
theorem bitLen_place : ∀ (n f : Nat) (x : Nat), x < 2 ^ f → 2 ^ n ≤ x → x < 2 ^ (n + 1) → Lib.bitLenAux f x = n + 1 := by
  have z : ∀ f, Lib.bitLenAux f 0 = 0 := by intro f; cases f <;> simp [Lib.bitLenAux]
  intro n
  induction n with
  | zero =>
    intro f x hf h0 h1
    obtain rfl : x = 1 := by simp at h0 h1; omega
    cases f with
    | zero => simp at hf
    | succ f => simp [Lib.bitLenAux, z]
  | succ n ih =>
    intro f x hf h0 h1
    have hp : 0 < 2 ^ n := Nat.two_pow_pos n
    have e1 : 2 ^ (n + 1) = 2 ^ n * 2 := Nat.pow_succ _ _
    have e2 : 2 ^ (n + 1 + 1) = 2 ^ (n + 1) * 2 := Nat.pow_succ _ _
    cases f with
    | zero => simp at hf; omega
    | succ f =>
      have e3 : 2 ^ (f + 1) = 2 ^ f * 2 := Nat.pow_succ _ _
      simp only [Lib.bitLenAux]
      rw [if_neg (by omega), ih f (x / 2) (by omega) (by omega) (by omega)]; omega

theorem Log2_l : ∀ (d i : Nat) (m a : Int), i + d = 16 → 1073741824 ≤ m → m ≤ 2147483647 → 0 ≤ a → (a + 1) * 2 ^ d ≤ 4194304 → Ev (fun k => fixed_Log2.l0 k m a i) (lgo d m a, 0) := by
  intro d
  induction d with
  | zero =>
    intro i m a hi h0 h1 ha0 ha1
    exact Ev.step (fun k => by simp only [fixed_Log2.l0]; rw [if_neg (by omega)]; rfl) (Ev.now _)
  | succ d ih =>
    intro i m a hi h0 h1 ha0 ha1
    have hs := lg_step h0 h1
    obtain ⟨f1, f2, f3⟩ := acc_step ha0 ha1
    clear ha1
    have hw : wrap64 ((i : Int) + 1) = ((i + 1 : Nat) : Int) := by rw [wrap64_id' (by omega) (by omega)]; rfl
    have hu : IntKind.u64.wrap (m * m) = m * m := by rw [uwrap]; omega
    simp only [lgo]
    by_cases c : m * m / 1073741824 ≥ 2147483648
    · rw [if_pos c]
      refine Ev.step (fun k => ?_) (ih (i + 1) (m * m / 1073741824 / 2) (2 * a + 1) (by omega) (by omega) (by omega) (by omega) f1)
      simp only [fixed_Log2.l0, hu, hw]
      rw [if_pos (by omega), if_pos c, wrap64_id' (x := a * 2) (by omega) (by omega), wrap64_id' (x := a * 2 + 1) (by omega) (by omega), Int.mul_comm a 2]
    · rw [if_neg c]
      refine Ev.step (fun k => ?_) (ih (i + 1) (m * m / 1073741824) (2 * a) (by omega) (by omega) (by omega) (by omega) f2)
      simp only [fixed_Log2.l0, hu, hw]
      rw [if_pos (by omega), if_neg c, wrap64_id' (x := a * 2) (by omega) (by omega), Int.mul_comm a 2]
theorem Log2_no (x : Int) (h : x < 1) : Ev (fun k => fixed_Log2.f k x) (0, 22) := by
  unfold fixed_Log2.f; simp only [h, if_true]; exact Ev.now _
theorem Log2_yes (x : Int) (n : Nat) (hx : x ≤ 9223372036854775807) (hn : n ≤ 62) (h0 : (2 : Int) ^ n ≤ x) (h1 : x < 2 ^ (n + 1)) : Ev (fun k => fixed_Log2.f k x) (lg2 x n, 0) := by
  have hp : (0 : Int) < 2 ^ n := Int.pow_pos (by omega)
  have hm := nrm_in h0 h1
  have hu : IntKind.u64.wrap x = x := by rw [uwrap]; omega
  have hb : bits_Len64.f x = some ((n + 1 : Nat) : Int) := by
    unfold bits_Len64.f
    rw [if_pos ⟨by omega, by omega⟩]
    have : Lib.bitLen x.toNat = n + 1 := by
      have e : x = (x.toNat : Int) := by omega
      rw [e] at h0 h1
      exact bitLen_place n 64 x.toNat (by simp; omega) (by exact_mod_cast h0) (by exact_mod_cast h1)
    rw [this]
  have hl : Ev (fun k => fixed_Log2.l0 k (nrm x n) n 0) (lg2 x n, 0) := by
    have := Log2_l 16 0 (nrm x n) n rfl hm.1 hm.2 (by omega) (by simp; omega)
    rw [lgo_acc] at this
    have e : (n : Int) * 2 ^ 16 + lgo 16 (nrm x n) 0 = lg2 x n := by unfold lg2; simp; omega
    rw [e] at this
    exact this
  have hj : Ev (fun k => fixed_Log2.j0 k n (nrm x n)) (lg2 x n, 0) := Ev.step (fun k => by simp only [fixed_Log2.j0]) hl
  have e2 : IntKind.bits .u64 = 64 := rfl
  unfold fixed_Log2.f
  simp only [show ¬ x < 1 by omega, if_false, hu, hb, Option.bind_some]
  have hw : wrap64 (((n + 1 : Nat) : Int) - 1) = n := by rw [wrap64_id' (by omega) (by omega)]; omega
  simp only [hw]
  by_cases c : n > 30
  · have e : nrm x n = shr .u64 x ((n : Int) - 30) := by
      unfold nrm shr
      rw [if_pos c, Nat.min_eq_left (by rw [e2]; omega), show ((n : Int) - 30).toNat = n - 30 by omega]
    simp only [show (n : Int) > 30 by omega, if_true, wrap64_id' (x := (n : Int) - 30) (by omega) (by omega), show (0 : Int) ≤ (n : Int) - 30 by omega]
    rw [← e]; exact hj
  · have e : nrm x n = shl .u64 x (30 - (n : Int)) := by
      have hmm := hm
      unfold nrm at hmm ⊢
      unfold shl
      rw [if_neg c] at hmm ⊢
      rw [Nat.min_eq_left (by rw [e2]; omega), show (30 - (n : Int)).toNat = 30 - n by omega, uwrap]; omega
    simp only [show ¬ (n : Int) > 30 by omega, if_false, wrap64_id' (x := 30 - (n : Int)) (by omega) (by omega), show (0 : Int) ≤ 30 - (n : Int) by omega, if_true]
    rw [← e]; exact hj

theorem rLog2_l3 (n : Nat) (hn : n ≤ 62) : ∀ (d i : Nat) (m a : Int), i + d = 16 → 1073741824 ≤ m → m ≤ 2147483647 → 0 ≤ a → (a + 1) * 2 ^ d ≤ 65536 → Ev (fun k => heraldref02_Log2.l3 k n m a i) (65536 * n + lgo d m a, 0) := by
  intro d
  induction d with
  | zero =>
    intro i m a hi h0 h1 ha0 ha1
    simp only [Int.pow_zero, Int.mul_one] at ha1
    refine Ev.step (fun k => ?_) (Ev.now _)
    simp only [heraldref02_Log2.l3]
    rw [if_neg (by omega), wrap64_id' (x := 65536 * (n : Int)) (by omega) (by omega), wrap64_id' (by omega) (by omega)]; rfl
  | succ d ih =>
    intro i m a hi h0 h1 ha0 ha1
    have hs := lg_step h0 h1
    obtain ⟨f1, f2, f3⟩ := acc_step ha0 ha1
    clear ha1
    have hw : wrap64 ((i : Int) + 1) = ((i + 1 : Nat) : Int) := by rw [wrap64_id' (by omega) (by omega)]; rfl
    have hq : wrap64 (Int.tdiv (wrap64 (m * m)) 1073741824) = m * m / 1073741824 := by
      rw [wrap64_id' (x := m * m) (by omega) (by omega), Int.tdiv_eq_ediv_of_nonneg (by omega), wrap64_id' (by omega) (by omega)]
    have hq2 : wrap64 (Int.tdiv (m * m / 1073741824) 2) = m * m / 1073741824 / 2 := by
      rw [Int.tdiv_eq_ediv_of_nonneg (by omega), wrap64_id' (by omega) (by omega)]
    simp only [lgo]
    by_cases c : m * m / 1073741824 ≥ 2147483648
    · rw [if_pos c]
      refine Ev.step (fun k => ?_) (ih (i + 1) (m * m / 1073741824 / 2) (2 * a + 1) (by omega) (by omega) (by omega) (by omega) f1)
      simp only [heraldref02_Log2.l3, hq, hq2, hw]
      rw [if_pos (by omega), if_pos c, wrap64_id' (x := a * 2) (by omega) (by omega), wrap64_id' (x := a * 2 + 1) (by omega) (by omega), Int.mul_comm a 2]
    · rw [if_neg c]
      refine Ev.step (fun k => ?_) (ih (i + 1) (m * m / 1073741824) (2 * a) (by omega) (by omega) (by omega) (by omega) f2)
      simp only [heraldref02_Log2.l3, hq, hw]
      rw [if_pos (by omega), if_neg c, wrap64_id' (x := a * 2) (by omega) (by omega), Int.mul_comm a 2]
theorem rLog2_l2 (n : Nat) (hn : n ≤ 62) (R : Int × Int) : ∀ (d : Nat) (m : Int), 0 ≤ m → m ≤ 9223372036854775807 → Ev (fun k => heraldref02_Log2.l2 k n (m / 2 ^ d) 30) R → d ≤ 32 → Ev (fun k => heraldref02_Log2.l2 k n m ((30 + d : Nat) : Int)) R := by
  intro d
  induction d with
  | zero => intro m h0 h1 hR hd; simpa using hR
  | succ d ih =>
    intro m h0 h1 hR hd
    have hp : (0 : Int) < 2 ^ d := Int.pow_pos (by omega)
    have e : m / 2 ^ (d + 1) = m / 2 / 2 ^ d := by rw [Int.pow_succ, Int.mul_comm, Int.ediv_ediv_of_nonneg (by omega)]
    rw [e] at hR
    refine Ev.step (fun k => ?_) (ih (m / 2) (by omega) (by omega) hR (by omega))
    simp only [heraldref02_Log2.l2]
    rw [if_pos (by omega), Int.tdiv_eq_ediv_of_nonneg h0, wrap64_id' (x := m / 2) (by omega) (by omega), wrap64_id' (by omega) (by omega)]
    congr 1; omega
theorem rLog2_l1 (n : Nat) (hn : n ≤ 62) (R : Int × Int) : ∀ (d i : Nat) (m : Int), i + d = 30 → 0 ≤ m → m * 2 ^ d ≤ 2147483647 → Ev (fun k => heraldref02_Log2.l2 k n (m * 2 ^ d) n) R → Ev (fun k => heraldref02_Log2.l1 k n m i) R := by
  intro d
  induction d with
  | zero =>
    intro i m hi h0 h1 hR
    simp only [Int.pow_zero, Int.mul_one] at hR
    refine Ev.step (fun k => ?_) hR
    simp only [heraldref02_Log2.l1]; rw [if_neg (by omega)]
  | succ d ih =>
    intro i m hi h0 h1 hR
    have hp : (1 : Int) ≤ 2 ^ d := by have : (0 : Int) < 2 ^ d := Int.pow_pos (by omega)
                                      omega
    have e : m * 2 ^ (d + 1) = m * 2 * 2 ^ d := by rw [Int.pow_succ]; grind
    rw [e] at hR h1
    have k : m * 2 * 1 ≤ m * 2 * 2 ^ d := Int.mul_le_mul_of_nonneg_left hp (by omega)
    refine Ev.step (fun k => ?_) (ih (i + 1) (m * 2) (by omega) (by omega) h1 hR)
    simp only [heraldref02_Log2.l1]
    rw [if_pos (by omega), wrap64_id' (x := m * 2) (by omega) (by omega), wrap64_id' (by omega) (by omega)]; rfl
theorem rLog2_l0 (x : Int) (n : Nat) (hn : n ≤ 62) (R : Int × Int) (hR : Ev (fun k => heraldref02_Log2.l1 k n x n) R) : ∀ (d i : Nat) (y : Int), i + d = n → (2 : Int) ^ d ≤ y → y < 2 ^ (d + 1) → y ≤ 9223372036854775807 → Ev (fun k => heraldref02_Log2.l0 k x i y) R := by
  intro d
  induction d with
  | zero =>
    intro i y hi h0 h1 hy
    simp at h0 h1
    obtain rfl : i = n := by omega
    refine Ev.step (fun k => ?_) hR
    simp only [heraldref02_Log2.l0]; rw [if_neg (by omega)]
  | succ d ih =>
    intro i y hi h0 h1 hy
    have hp : (0 : Int) < 2 ^ d := Int.pow_pos (by omega)
    have e1 : (2 : Int) ^ (d + 1) = 2 ^ d * 2 := Int.pow_succ _ _
    have e2 : (2 : Int) ^ (d + 1 + 1) = 2 ^ (d + 1) * 2 := Int.pow_succ _ _
    refine Ev.step (fun k => ?_) (ih (i + 1) (y / 2) (by omega) (by omega) (by omega) (by omega))
    simp only [heraldref02_Log2.l0]
    rw [if_pos (by omega), Int.tdiv_eq_ediv_of_nonneg (by omega), wrap64_id' (x := y / 2) (by omega) (by omega), wrap64_id' (by omega) (by omega)]; rfl
theorem rLog2_no (x : Int) (h : x < 1) : Ev (fun k => heraldref02_Log2.f k x) (0, 22) := by
  unfold heraldref02_Log2.f; simp only [h, if_true]; exact Ev.now _
theorem rLog2_yes (x : Int) (n : Nat) (hx : x ≤ 9223372036854775807) (hn : n ≤ 62) (h0 : (2 : Int) ^ n ≤ x) (h1 : x < 2 ^ (n + 1)) : Ev (fun k => heraldref02_Log2.f k x) (lg2 x n, 0) := by
  have hp : (0 : Int) < 2 ^ n := Int.pow_pos (by omega)
  have hm := nrm_in h0 h1
  unfold heraldref02_Log2.f
  simp only [show ¬ x < 1 by omega, if_false]
  refine rLog2_l0 x n hn _ ?_ n 0 x (by omega) h0 h1 hx
  have l3 : Ev (fun k => heraldref02_Log2.l3 k n (nrm x n) 0 0) (lg2 x n, 0) := rLog2_l3 n hn 16 0 (nrm x n) 0 rfl hm.1 hm.2 (by omega) (by simp)
  by_cases c : n > 30
  · refine Ev.step (f := fun k => heraldref02_Log2.l2 k n x n) (fun k => ?_) ?_
    · simp only [heraldref02_Log2.l1]; rw [if_neg (by omega)]
    · have hl2 := rLog2_l2 n hn (lg2 x n, 0) (n - 30) x (by omega) hx ?_ (by omega)
      · rw [show 30 + (n - 30) = n by omega] at hl2; exact hl2
      · refine Ev.step (fun k => ?_) l3
        simp only [heraldref02_Log2.l2]; rw [if_neg (by omega)]
        unfold nrm; rw [if_pos c]
  · have e : nrm x n = x * 2 ^ (30 - n) := by unfold nrm; rw [if_neg c]
    rw [e] at l3 hm
    refine rLog2_l1 n hn _ (30 - n) n x (by omega) (by omega) (by omega) ?_
    refine Ev.step (fun k => ?_) l3
    simp only [heraldref02_Log2.l2]; rw [if_neg (by omega)]
end Go.Proofs.Ytbldlfmblalchaa.L
