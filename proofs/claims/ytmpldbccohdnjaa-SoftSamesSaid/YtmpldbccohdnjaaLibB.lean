/- Lemmas on the printed functions: what each answers, in plain words of Lean; on condition that the numbers are of their kinds. -/
import Derived.Test.YtmpldbccohdnjaaPx1
import Derived.Test.YtmpldbccohdnjaaPx10
import Derived.Test.YtmpldbccohdnjaaMath
import Derived.Test.YtmpldbccohdnjaaLibA
namespace Go.Proofs.Ytmpldbccohdnjaa.L
open Go Go.RowKit Go.Proofs.Ytmpldbccohdnjaa.M Go.Proofs.Ytmpldbccohdnjaa.P Go.Proofs.YtmpldbccohdnjaaW.PrintWords Go.Proofs.YtmpldbccohdnjaaW.PrintLast Go.Proofs.YtmpldbccohdnjaaW.PrintMore
set_option linter.unusedVariables false
set_option linter.unusedSimpArgs false

def exc (t : Int) : Int := 1073741824 + (747400624 + (241400000 + 84941200 * t / 65536) * t / 65536) * t / 65536
def ex (x : Int) : Int := exp2S (if x < 0 then x else 0)
theorem Exp2_f (x : Int) (h : I64 x) : fixed_Exp2.f x = some (ex x) := by
  unfold fixed_Exp2.f ex; exact if_pos h
theorem exc_bounds (t : Int) (h0 : 0 ≤ t) (h1 : t ≤ 65535) : (0 ≤ 84941200 * t / 65536 ∧ 84941200 * t / 65536 ≤ 84941200) ∧ (0 ≤ (241400000 + 84941200 * t / 65536) * t ∧ (241400000 + 84941200 * t / 65536) * t ≤ 326341200 * 65535) ∧ (0 ≤ (747400624 + (241400000 + 84941200 * t / 65536) * t / 65536) * t ∧ (747400624 + (241400000 + 84941200 * t / 65536) * t / 65536) * t ≤ 1073741824 * 65535) := by
  have a : 0 ≤ 84941200 * t / 65536 ∧ 84941200 * t / 65536 ≤ 84941200 := by omega
  have b : 0 ≤ (241400000 + 84941200 * t / 65536) * t ∧ (241400000 + 84941200 * t / 65536) * t ≤ 326341200 * 65535 := ⟨Int.mul_nonneg (by omega) h0, Int.mul_le_mul (by omega) h1 h0 (by omega)⟩
  exact ⟨a, b, Int.mul_nonneg (by omega) h0, Int.mul_le_mul (by omega) h1 h0 (by omega)⟩
theorem exc_in (t : Int) (h0 : 0 ≤ t) (h1 : t ≤ 65535) : 1073741824 ≤ exc t ∧ exc t ≤ 2147483647 := by
  have := exc_bounds t h0 h1
  unfold exc; omega
theorem exc_zero : exc 0 = 1073741824 := rfl
theorem exc_mono {s t : Int} (h0 : 0 ≤ s) (h : s ≤ t) (h1 : t ≤ 65535) : exc s ≤ exc t := by
  have bs := exc_bounds s h0 (by omega)
  have bt := exc_bounds t (by omega) h1
  have a : 84941200 * s / 65536 ≤ 84941200 * t / 65536 := by omega
  have b : (241400000 + 84941200 * s / 65536) * s ≤ (241400000 + 84941200 * t / 65536) * t := Int.mul_le_mul (by omega) h h0 (by omega)
  have c : (747400624 + (241400000 + 84941200 * s / 65536) * s / 65536) * s ≤ (747400624 + (241400000 + 84941200 * t / 65536) * t / 65536) * t := Int.mul_le_mul (by omega) h h0 (by omega)
  unfold exc; omega
theorem ex_div (x : Int) (h : x ≤ 0) : ex x = exc (x % 65536) / 2 ^ (-(x / 65536)).toNat := by
  have e : (if x < 0 then x else 0) = x := by split <;> omega
  have hc := exc_in (x % 65536) (by omega) (by omega)
  unfold ex; rw [e]; unfold exp2S
  split
  · rename_i hq
    obtain ⟨n, hn⟩ : ∃ n, (-(x / 65536)).toNat = 31 + n := ⟨(-(x / 65536)).toNat - 31, by omega⟩
    have hp : (2 : Int) ^ (31 + n) = 2147483648 * 2 ^ n := by rw [Int.pow_add]; rfl
    have h1 : (0 : Int) < 2 ^ n := Int.pow_pos (by omega)
    rw [hn]
    exact (Int.ediv_eq_zero_of_lt (by omega) (by omega)).symm
  · rfl
theorem ex_pos (x : Int) (h : 0 ≤ x) : ex x = 1073741824 := by
  have e : (if x < 0 then x else 0) = 0 := by split <;> omega
  unfold ex; rw [e]; rfl
theorem ex_in (x : Int) : 0 ≤ ex x ∧ ex x ≤ 1073741824 := by
  by_cases h : 0 ≤ x
  · rw [ex_pos x h]; omega
  · rw [ex_div x (by omega)]
    have hc := exc_in (x % 65536) (by omega) (by omega)
    obtain ⟨n, hn⟩ : ∃ n, (-(x / 65536)).toNat = n + 1 := ⟨(-(x / 65536)).toNat - 1, by omega⟩
    have hp : (2 : Int) ^ (n + 1) = 2 ^ n * 2 := Int.pow_succ _ _
    have h1 : (0 : Int) < 2 ^ n := Int.pow_pos (by omega)
    rw [hn]
    refine ⟨Int.ediv_nonneg (by omega) (by omega), ?_⟩
    have : exc (x % 65536) / 2 ^ (n + 1) < 1073741825 := by
      rw [Int.ediv_lt_iff_lt_mul (by omega)]; omega
    omega
theorem ex_mono {x y : Int} (h : x ≤ y) : ex x ≤ ex y := by
  by_cases hy : 0 ≤ y
  · rw [ex_pos y hy]; exact (ex_in x).2
  · rw [ex_div x (by omega), ex_div y (by omega)]
    have cx := exc_in (x % 65536) (by omega) (by omega)
    have cy := exc_in (y % 65536) (by omega) (by omega)
    by_cases hq : x / 65536 = y / 65536
    · rw [hq]
      have hp : (0 : Int) < 2 ^ (-(y / 65536)).toNat := Int.pow_pos (by omega)
      exact Int.ediv_le_ediv hp (exc_mono (by omega) (by omega) (by omega))
    · obtain ⟨n, hn⟩ : ∃ n, (-(x / 65536)).toNat = (-(y / 65536)).toNat + 1 + n := ⟨(-(x / 65536)).toNat - (-(y / 65536)).toNat - 1, by omega⟩
      rw [hn]
      have hp : (0 : Int) < 2 ^ (-(y / 65536)).toNat := Int.pow_pos (by omega)
      have hp2 : (0 : Int) < 2 ^ n := Int.pow_pos (by omega)
      have e : (2 : Int) ^ ((-(y / 65536)).toNat + 1 + n) = 2 * 2 ^ (-(y / 65536)).toNat * 2 ^ n := by
        rw [Int.pow_add, Int.pow_succ]; grind
      rw [e, ← Int.ediv_ediv_of_nonneg (by omega), ← Int.ediv_ediv_of_nonneg (by omega)]
      have a : exc (x % 65536) / 2 / 2 ^ (-(y / 65536)).toNat ≤ exc (y % 65536) / 2 ^ (-(y / 65536)).toNat := Int.ediv_le_ediv hp (by omega)
      have c : exc (x % 65536) / 2 / 2 ^ (-(y / 65536)).toNat / 2 ^ n ≤ exc (x % 65536) / 2 / 2 ^ (-(y / 65536)).toNat := Int.ediv_le_self _ (Int.ediv_nonneg (by omega) (by omega))
      omega
theorem ex_half (x : Int) (h : x ≤ 0) : ex (x - 65536) = ex x / 2 := by
  rw [ex_div x h, ex_div (x - 65536) (by omega)]
  have e1 : (x - 65536) % 65536 = x % 65536 := by omega
  have e2 : (-((x - 65536) / 65536)).toNat = (-(x / 65536)).toNat + 1 := by omega
  have hp : (0 : Int) < 2 ^ (-(x / 65536)).toNat := Int.pow_pos (by omega)
  rw [e1, e2, Int.pow_succ, ← Int.ediv_ediv_of_nonneg (by omega)]
theorem ex_whole (n : Int) (h : 0 ≤ n) : ex (-65536 * n) = 1073741824 / 2 ^ n.toNat := by
  rw [ex_div _ (by omega)]
  have e1 : (-65536 * n) % 65536 = 0 := by omega
  have e2 : (-((-65536 * n) / 65536)) = n := by omega
  rw [e1, e2, exc_zero]

theorem rExp2_l (n : Nat) (hn : n ≤ 62) : ∀ (d i : Nat) (c : Int), i + d = n → 0 ≤ c → c ≤ 2147483647 → Ev (fun k => heraldref02_Exp2.l0 k n c i) (c / 2 ^ d) := by
  intro d
  induction d with
  | zero =>
    intro i c hi h0 h1
    refine Ev.step (f := fun _ => some c) (fun k => ?_) (by simpa using Ev.now c)
    simp only [heraldref02_Exp2.l0]; rw [if_neg (by omega)]
  | succ d ih =>
    intro i c hi h0 h1
    have hp : (0 : Int) < 2 ^ d := Int.pow_pos (by omega)
    have e : c / 2 ^ (d + 1) = c / 2 / 2 ^ d := by rw [Int.pow_succ, Int.mul_comm, Int.ediv_ediv_of_nonneg (by omega)]
    rw [e]
    refine Ev.step (fun k => ?_) (ih (i + 1) (c / 2) (by omega) (by omega) (by omega))
    simp only [heraldref02_Exp2.l0]
    rw [if_pos (by omega), Int.tdiv_eq_ediv_of_nonneg h0, wrap64_id' (x := c / 2) (by omega) (by omega), wrap64_id' (by omega) (by omega)]; rfl
theorem rExp2_j (x : Int) (h0 : -9223372036854775808 ≤ x) (h1 : x ≤ 0) : Ev (fun k => heraldref02_Exp2.j0 k x) (exp2S x) := by
  have hf := rFloor_f x 65536 ⟨h0, by omega⟩ ⟨by omega, by omega⟩
  have e : floorS x 65536 = (x / 65536, x % 65536, 0) := by unfold floorS; rw [if_neg (by omega)]
  rw [e] at hf
  have hb := exc_bounds (x % 65536) (by omega) (by omega)
  have w0 : wrap64 (-(x / 65536)) = -(x / 65536) := wrap64_id' (by omega) (by omega)
  unfold exp2S
  by_cases hq : x / 65536 ≤ -31
  · rw [if_pos hq]
    refine Ev.step (f := fun _ => some 0) (fun k => ?_) (Ev.now _)
    simp only [heraldref02_Exp2.j0, hf, Option.bind_some, w0]
    rw [if_pos (by omega)]
  · rw [if_neg hq]
    refine Ev.step (fun k => ?_) (rExp2_l (-(x / 65536)).toNat (by omega) (-(x / 65536)).toNat 0 _ (by omega) (by omega) (by omega))
    simp only [heraldref02_Exp2.j0, hf, Option.bind_some, w0]
    rw [if_neg (by omega)]
    have e0 : ((-(x / 65536)).toNat : Int) = -(x / 65536) := by omega
    rw [e0, wrap64_id' (x := 84941200 * (x % 65536)) (by omega) (by omega), Int.tdiv_eq_ediv_of_nonneg (a := 84941200 * (x % 65536)) (by omega), wrap64_id' (x := 84941200 * (x % 65536) / 65536) (by omega) (by omega), wrap64_id' (x := 241400000 + 84941200 * (x % 65536) / 65536) (by omega) (by omega)]
    rw [wrap64_id' (x := (241400000 + 84941200 * (x % 65536) / 65536) * (x % 65536)) (by omega) (by omega), Int.tdiv_eq_ediv_of_nonneg (a := (241400000 + 84941200 * (x % 65536) / 65536) * (x % 65536)) (by omega), wrap64_id' (x := (241400000 + 84941200 * (x % 65536) / 65536) * (x % 65536) / 65536) (by omega) (by omega), wrap64_id' (x := 747400624 + (241400000 + 84941200 * (x % 65536) / 65536) * (x % 65536) / 65536) (by omega) (by omega)]
    rw [wrap64_id' (x := (747400624 + (241400000 + 84941200 * (x % 65536) / 65536) * (x % 65536) / 65536) * (x % 65536)) (by omega) (by omega), Int.tdiv_eq_ediv_of_nonneg (a := (747400624 + (241400000 + 84941200 * (x % 65536) / 65536) * (x % 65536) / 65536) * (x % 65536)) (by omega), wrap64_id' (x := (747400624 + (241400000 + 84941200 * (x % 65536) / 65536) * (x % 65536) / 65536) * (x % 65536) / 65536) (by omega) (by omega), wrap64_id' (by omega) (by omega)]
    rfl
theorem rExp2_f (x : Int) (h : I64 x) : Ev (fun k => heraldref02_Exp2.f k x) (ex x) := by
  unfold heraldref02_Exp2.f ex
  unfold I64 at h
  by_cases hx : x > 0
  · simp only [hx, if_true]
    rw [if_neg (by omega)]
    exact rExp2_j 0 (by omega) (by omega)
  · simp only [hx, if_false]
    have e : (if x < 0 then x else 0) = x := by split <;> omega
    rw [e]
    exact rExp2_j x (by omega) (by omega)

/-- The place of the first greatest, from a place on. -/
def am (l : List Int) : List Int → Int → Int → Int
  | [], a, i => a
  | x :: t, a, i => if a < 0 then am l t i (i + 1) else if x > rd l a then am l t i (i + 1) else am l t a (i + 1)
def argmaxS (l : List Int) : Int := am l l (-1) 0

theorem Argmax_l (l : List Int) (hl : l.length ≤ 4611686018427387904) : ∀ (t : List Int) (i : Nat) (a : Int), l.drop i = t → i ≤ l.length → (a < 0 ∨ 0 ≤ a ∧ a < l.length) → Ev (fun k => fixed_Argmax.l0 k l a l l.length i) (am l t a i) := by
  intro t
  induction t with
  | nil =>
    intro i a h hi1 ha
    have hi := drop_nil h
    exact Ev.step (fun k => by simp only [fixed_Argmax.l0]; rw [if_neg (by omega)]; rfl) (Ev.now _)
  | cons x t ih =>
    intro i a h hi1 ha
    obtain ⟨hi, hg, hd⟩ := drop_cons h
    have hr := rd_of_get hg
    have hw : wrap64 ((i : Int) + 1) = ((i + 1 : Nat) : Int) := by rw [wrap64_id' (by omega) (by omega)]; rfl
    simp only [am]
    by_cases h0 : a < 0
    · rw [if_pos h0]
      refine Ev.step (fun k => ?_) (ih (i + 1) i hd (by omega) (by omega))
      simp only [fixed_Argmax.l0, hr, hw]
      rw [if_pos (by omega), if_pos (by omega), if_pos (by omega), if_pos h0]
    · rw [if_neg h0]
      by_cases hc : x > rd l a
      · rw [if_pos hc]
        refine Ev.step (fun k => ?_) (ih (i + 1) i hd (by omega) (by omega))
        simp only [fixed_Argmax.l0, hr, hw]
        rw [if_pos (by omega), if_pos (by omega), if_pos (by omega), if_neg h0, if_pos (by omega), if_pos (by omega), if_pos hc]
      · rw [if_neg hc]
        refine Ev.step (fun k => ?_) (ih (i + 1) a hd (by omega) (by omega))
        simp only [fixed_Argmax.l0, hr, hw]
        rw [if_pos (by omega), if_pos (by omega), if_pos (by omega), if_neg h0, if_pos (by omega), if_pos (by omega), if_neg hc]
theorem Argmax_f (l : List Int) (hl : l.length ≤ 4611686018427387904) : Ev (fun k => fixed_Argmax.f k l) (argmaxS l) := by
  unfold fixed_Argmax.f argmaxS
  exact Argmax_l l hl l 0 (-1) rfl (by omega) (by omega)

theorem near_odd (x d : Int) (hd : 0 < d) : near (-x) d = -near x d := by
  have h0 := Int.emod_nonneg x (b := d) (by omega)
  have h1 := Int.emod_lt_of_pos x hd
  have hq := Int.mul_ediv_add_emod x d
  by_cases hz : x % d = 0
  · have u := (Int.ediv_emod_unique (a := -x) (b := d) (r := 0) (q := -(x / d)) hd).mpr ⟨by rw [Int.mul_neg]; omega, by omega, by omega⟩
    unfold near
    rw [u.1, u.2, hz, if_neg (by omega), if_neg (by omega)]
  · have u := (Int.ediv_emod_unique (a := -x) (b := d) (r := d - x % d) (q := -(x / d) - 1) hd).mpr ⟨by rw [Int.mul_sub, Int.mul_neg, Int.mul_one]; omega, by omega, by omega⟩
    unfold near
    rw [u.1, u.2]
    split <;> split <;> omega
theorem near_half (x d : Int) (hd : 0 < d) : (near x d = x / d ∧ x % d ≤ d - x % d ∧ (x % d = d - x % d → (x / d) % 2 = 0)) ∨ (near x d = x / d + 1 ∧ d - x % d ≤ x % d ∧ (x % d = d - x % d → (x / d) % 2 = 1)) := by
  unfold near
  split
  · right; omega
  · left; omega
end Go.Proofs.Ytmpldbccohdnjaa.L
