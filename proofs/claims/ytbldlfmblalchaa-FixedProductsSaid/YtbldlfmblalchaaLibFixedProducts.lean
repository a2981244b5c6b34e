/- Lemmas on the printed functions: what each answers, in plain words of Lean; on condition that the numbers are of their kinds. -/
import Derived.Test.YtbldlfmblalchaaPx1
import Derived.Test.YtbldlfmblalchaaPx12
import Derived.Test.YtbldlfmblalchaaPx13
import Derived.Test.YtbldlfmblalchaaPx14
import Derived.Test.YtbldlfmblalchaaPx15
import Derived.Test.YtbldlfmblalchaaPx16
import Derived.Test.YtbldlfmblalchaaPx17
import Derived.Test.YtbldlfmblalchaaPx2
import Derived.Test.YtbldlfmblalchaaPx3
import Derived.Test.YtbldlfmblalchaaPx4
import Derived.Test.YtbldlfmblalchaaPx5
import Derived.Test.YtbldlfmblalchaaPx6
import Derived.Test.YtbldlfmblalchaaPx7
import Derived.Test.YtbldlfmblalchaaPx8
import Derived.Test.YtbldlfmblalchaaPx9
import Derived.Test.YtbldlfmblalchaaMath
namespace Go.Proofs.Ytbldlfmblalchaa.L
open Go Go.RowKit Go.Proofs.Ytbldlfmblalchaa.M Go.Proofs.Ytbldlfmblalchaa.P Go.Proofs.YtbldlfmblalchaaW.PrintWords Go.Proofs.YtbldlfmblalchaaW.PrintLast Go.Proofs.YtbldlfmblalchaaW.PrintMore
set_option linter.unusedVariables false
set_option linter.unusedSimpArgs false

/-- A loop by its places: what is known at each place, and what comes of the rest. -/
theorem ev_loop {β : Type} (F : Nat → Nat → Option β) (r : β) (n : Nat) (P : Nat → Prop) (h0 : P 0) (hend : P n → Ev (fun k => F k n) r) (hstep : ∀ i, i < n → P i → (P (i + 1) → Ev (fun k => F k (i + 1)) r) → Ev (fun k => F k i) r) : Ev (fun k => F k 0) r := by
  have key : ∀ d i, i + d = n → P i → Ev (fun k => F k i) r := by
    intro d
    induction d with
    | zero => intro i hi hp; obtain rfl : i = n := by omega
              exact hend hp
    | succ d ih => intro i hi hp; exact hstep i (by omega) hp (fun hp' => ih (i + 1) (by omega) hp')
  exact key n 0 (by omega) h0
theorem ev_succ {β : Type} {g : Nat → Option β} {r : β} (h : Ev (fun k => g (k + 1)) r) : Ev g r := Ev.step (fun _ => rfl) h
theorem rd_at {l : List Int} {i : Nat} (h : i < l.length) : rd l (i : Int) = l[i] := by
  unfold rd; simp [List.getD_eq_getElem?_getD, h]
theorem rd_all {p : Int → Prop} {l : List Int} (h : ∀ x ∈ l, p x) (h0 : p 0) (i : Int) : p (rd l i) := by
  unfold rd
  rw [List.getD_eq_getElem?_getD]
  by_cases c : i.toNat < l.length
  · rw [List.getElem?_eq_getElem c]; exact h _ (List.getElem_mem c)
  · rw [List.getElem?_eq_none (by omega)]; exact h0
theorem rd_i8 {l : List Int} (h : ∀ x ∈ l, I8 x) (i : Int) : I8 (rd l i) := rd_all h ⟨by omega, by omega⟩ i
theorem take_one {α : Type} {l : List α} {i : Nat} (h : i < l.length) : l.take (i + 1) = l.take i ++ [l[i]] := by
  rw [List.take_add_one]; simp [h]
theorem rng_snoc {α : Type} (g : Nat → α) (i : Nat) : (List.range (i + 1)).map g = (List.range i).map g ++ [g i] := by
  rw [List.range_succ]; simp
theorem set_mid0 {α : Type} (a : List α) (x v : α) (b : List α) (i : Nat) (hi : i = a.length) : (a ++ x :: b).set i v = (a ++ [v]) ++ b := by
  subst hi; simp
/-- One place of a list that is filled from the left. -/
theorem rng_set {g : Nat → Int} {n i : Nat} (h : i < n) : ((List.range i).map g ++ List.replicate (n - i) 0).set i (g i) = (List.range (i + 1)).map g ++ List.replicate (n - (i + 1)) 0 := by
  rw [show n - i = (n - (i + 1)) + 1 by omega, List.replicate_succ, set_mid0 _ _ _ _ _ (by simp), rng_snoc]
theorem rng_take {l : List Int} : ∀ {i : Nat}, i ≤ l.length → (List.range i).map (fun j : Nat => rd l j) = l.take i
  | 0, _ => by simp
  | i + 1, h => by rw [rng_snoc, rng_take (by omega), take_one (by omega), rd_at (by omega)]
theorem wone {a : Nat} (h : a ≤ 140737488351232) : wrap64 ((a : Int) + 1) = ((a + 1 : Nat) : Int) := by
  rw [wrap64_id' (by omega) (by omega)]; omega
theorem i8_mul {x y : Int} (hx : I8 x) (hy : I8 y) : -16384 ≤ x * y ∧ x * y ≤ 16384 := by
  unfold I8 at *
  have e : (x * y).natAbs = x.natAbs * y.natAbs := Int.natAbs_mul x y
  have : x.natAbs * y.natAbs ≤ 128 * 128 := Nat.mul_le_mul (by omega) (by omega)
  omega

theorem Floor_f (a d : Int) (ha : I64 a) (hd : I64 d) : fixed_Floor.f a d = some (floorS a d) := by
  unfold fixed_Floor.f; exact floor_code a d ha hd

theorem Near_f (a d : Int) (ha : I64 a) (hd : I64 d) : fixed_Near.f a d = some (nearS a d) := by
  unfold fixed_Near.f nearS; rw [Floor_f a d ha hd]; simp only [Option.bind_some, floorS]
  by_cases h : d < 1
  · rw [if_pos h, if_pos h]; rfl
  · rw [if_neg h, if_neg h]; simp only [if_true]; exact near_code a d ha hd (by omega)

theorem Round_f (a s : Int) (ha : I64 a) : fixed_Round.f a s = some (roundS a s) := by
  unfold fixed_Round.f roundS
  by_cases h : s < 0
  · rw [if_pos h, if_pos (Or.inl h)]
  · by_cases h' : s > 62
    · rw [if_neg h, if_pos h', if_pos (Or.inr h')]
    · rw [if_neg h, if_neg h', if_pos (by omega), if_neg (by omega), shl_one (by omega) (by omega)]
      have hp := pow_in (s := s) (by omega) (by omega)
      rw [Near_f a _ ha ⟨by omega, by omega⟩]
      unfold nearS; rw [if_neg (by omega)]; rfl

def clamp (x lo hi : Int) : Int := if x < lo then lo else if x > hi then hi else x
def narrow (x : Int) : Int := clamp x (-127) 127
theorem narrow_in (x : Int) : -127 ≤ narrow x ∧ narrow x ≤ 127 := by
  unfold narrow clamp; repeat' split
  all_goals omega
theorem narrow_i8 (x : Int) : IntKind.i8.wrap (clamp x (-127) 127) = narrow x := by
  have h := narrow_in x
  exact i8wrap_id ⟨by unfold narrow at h; omega, by unfold narrow at h; omega⟩

theorem Sqrt_l (a : Int) (h0 : 0 ≤ a) (h1 : a ≤ 9223372036854775807) : ∀ (j : Nat) (r : Int), j ≤ 31 → 0 ≤ r → r % 2 ^ (j + 1) = 0 → r + 2 ^ (j + 1) ≤ 4294967296 → r * r ≤ a → a < (r + 2 ^ (j + 1)) * (r + 2 ^ (j + 1)) → Ev (fun k => fixed_Sqrt.l0 k a r (2 ^ j)) (sq a, 0) := by
  have last : ∀ r : Int, 0 ≤ r → r * r ≤ a → a < (r + 1) * (r + 1) → Ev (fun k => fixed_Sqrt.l0 k a r 0) (sq a, 0) := by
    intro r hr ha hb
    rw [sq_unique hr ha hb]
    exact Ev.step (fun k => by simp only [fixed_Sqrt.l0]; rw [if_neg (by omega)]) (Ev.now _)
  intro j
  induction j with
  | zero =>
    intro r hj hr hm hs ha hb
    have ho := or_bit (j := 0) (by omega) hr hm (by omega)
    simp only [Nat.zero_add, Int.pow_zero, Int.pow_one] at *
    have e : (r + 1 + 1) * (r + 1 + 1) = (r + 2) * (r + 2) := by grind
    by_cases hc : (r + 1) * (r + 1) ≤ a
    · have hl := last (r + 1) (by omega) hc (by omega)
      refine Ev.step (fun k => ?_) hl
      have ht : (r + 1) ≤ wrap64 (Int.tdiv 9223372036854775807 (r + 1)) := by
        rw [Int.tdiv_eq_ediv_of_nonneg (by omega), wrap64_id (floor_in (by omega) ⟨by omega, by omega⟩), try_iff (by omega)]; omega
      have hn := Int.mul_nonneg (show 0 ≤ r + 1 by omega) (show 0 ≤ r + 1 by omega)
      simp only [fixed_Sqrt.l0, ho]
      rw [if_pos (by omega), if_neg (by omega), if_pos ht, wrap64_id' (by omega) (by omega), if_pos hc]; rfl
    · have hl := last r hr ha (by omega)
      refine Ev.step (fun k => ?_) hl
      simp only [fixed_Sqrt.l0, ho]
      rw [if_pos (by omega), if_neg (by omega)]
      split
      · rename_i ht
        rw [Int.tdiv_eq_ediv_of_nonneg (by omega), wrap64_id (floor_in (by omega) ⟨by omega, by omega⟩), try_iff (by omega)] at ht
        have hn := Int.mul_nonneg (show 0 ≤ r + 1 by omega) (show 0 ≤ r + 1 by omega)
        rw [wrap64_id' (by omega) (by omega), if_neg hc]; rfl
      · rfl
  | succ j ih =>
    intro r hj hr hm hs ha hb
    have hp : (0 : Int) < 2 ^ (j + 1) := Int.pow_pos (by omega)
    have ho := or_bit (j := j + 1) (by omega) hr hm (by omega)
    have e1 : (2 : Int) ^ (j + 1 + 1) = 2 ^ (j + 1) * 2 := Int.pow_succ _ _
    have e2 : (2 : Int) ^ (j + 1) = 2 ^ j * 2 := Int.pow_succ _ _
    have hh : (2 : Int) ^ (j + 1) / 2 = 2 ^ j := by rw [e2]; omega
    have hd : (2 : Int) ^ (j + 1) ∣ r := by
      have : (2 : Int) ^ (j + 1 + 1) ∣ r := Int.dvd_of_emod_eq_zero hm
      exact Int.dvd_trans ⟨2, e1⟩ this
    have hm1 : r % 2 ^ (j + 1) = 0 := Int.emod_eq_zero_of_dvd hd
    have hm2 : (r + 2 ^ (j + 1)) % 2 ^ (j + 1) = 0 := Int.emod_eq_zero_of_dvd (Int.dvd_add hd (Int.dvd_refl _))
    by_cases hc : (r + 2 ^ (j + 1)) * (r + 2 ^ (j + 1)) ≤ a
    · have e : r + 2 ^ (j + 1) + 2 ^ (j + 1) = r + 2 ^ (j + 1 + 1) := by omega
      have hl := ih (r + 2 ^ (j + 1)) (by omega) (by omega) hm2 (by omega) hc (by rw [e]; exact hb)
      refine Ev.step (fun k => ?_) hl
      have ht : (r + 2 ^ (j + 1)) ≤ wrap64 (Int.tdiv 9223372036854775807 (r + 2 ^ (j + 1))) := by
        rw [Int.tdiv_eq_ediv_of_nonneg (by omega), wrap64_id (floor_in (by omega) ⟨by omega, by omega⟩), try_iff (by omega)]; omega
      have hn := Int.mul_nonneg (show 0 ≤ r + 2 ^ (j + 1) by omega) (show 0 ≤ r + 2 ^ (j + 1) by omega)
      simp only [fixed_Sqrt.l0, ho]
      rw [if_pos (by omega), if_neg (by omega), if_pos ht, wrap64_id' (by omega) (by omega), if_pos hc, hh]
    · have hl := ih r (by omega) hr hm1 (by omega) ha (by omega)
      refine Ev.step (fun k => ?_) hl
      simp only [fixed_Sqrt.l0, ho]
      rw [if_pos (by omega), if_neg (by omega), hh]
      split
      · rename_i ht
        rw [Int.tdiv_eq_ediv_of_nonneg (by omega), wrap64_id (floor_in (by omega) ⟨by omega, by omega⟩), try_iff (by omega)] at ht
        have hn := Int.mul_nonneg (show 0 ≤ r + 2 ^ (j + 1) by omega) (show 0 ≤ r + 2 ^ (j + 1) by omega)
        rw [wrap64_id' (by omega) (by omega), if_neg hc]
      · rfl
theorem Sqrt_f (a : Int) (ha : I64 a) : Ev (fun k => fixed_Sqrt.f k a) (sqrtS a) := by
  unfold fixed_Sqrt.f sqrtS
  by_cases h : a < 0
  · simp only [h, if_true]; exact Ev.now _
  · simp only [h, if_false]
    have := Sqrt_l a (by omega) ha.2 31 0 (by omega) (by omega) (by decide) (by decide) (by omega) (by unfold I64 at ha; simp; omega)
    simpa using this

def exc (t : Int) : Int := 1073741824 + (747400624 + (241400000 + 84941200 * t / 65536) * t / 65536) * t / 65536
def ex (x : Int) : Int := exp2S (if x < 0 then x else 0)
theorem Exp2_f (x : Int) (h : I64 x) : fixed_Exp2.f x = some (ex x) := by
  unfold fixed_Exp2.f ex; exact if_pos h
theorem exc_bounds (t : Int) (h0 : 0 ≤ t) (h1 : t ≤ 65535) : (0 ≤ 84941200 * t / 65536 ∧ 84941200 * t / 65536 ≤ 84941200) ∧ (0 ≤ (241400000 + 84941200 * t / 65536) * t ∧ (241400000 + 84941200 * t / 65536) * t ≤ 326341200 * 65535) ∧ (0 ≤ (747400624 + (241400000 + 84941200 * t / 65536) * t / 65536) * t ∧ (747400624 + (241400000 + 84941200 * t / 65536) * t / 65536) * t ≤ 1073741824 * 65535) := by
  have a : 0 ≤ 84941200 * t / 65536 ∧ 84941200 * t / 65536 ≤ 84941200 := by omega
  have b : 0 ≤ (241400000 + 84941200 * t / 65536) * t ∧ (241400000 + 84941200 * t / 65536) * t ≤ 326341200 * 65535 := ⟨Int.mul_nonneg (by omega) h0, Int.mul_le_mul (by omega) h1 h0 (by omega)⟩
  exact ⟨a, b, Int.mul_nonneg (by omega) h0, Int.mul_le_mul (by omega) h1 h0 (by omega)⟩
theorem exc_in (t : Int) (h0 : 0 ≤ t) (h1 : t ≤ 65535) : 1073741824 ≤ exc t ∧ exc t ≤ 2147483647 := by
  have := exc_bounds t h0 h1
  unfold exc; omega
theorem exc_zero : exc 0 = 1073741824 := rfl
theorem exc_mono {s t : Int} (h0 : 0 ≤ s) (h : s ≤ t) (h1 : t ≤ 65535) : exc s ≤ exc t := by
  have bs := exc_bounds s h0 (by omega)
  have bt := exc_bounds t (by omega) h1
  have a : 84941200 * s / 65536 ≤ 84941200 * t / 65536 := by omega
  have b : (241400000 + 84941200 * s / 65536) * s ≤ (241400000 + 84941200 * t / 65536) * t := Int.mul_le_mul (by omega) h h0 (by omega)
  have c : (747400624 + (241400000 + 84941200 * s / 65536) * s / 65536) * s ≤ (747400624 + (241400000 + 84941200 * t / 65536) * t / 65536) * t := Int.mul_le_mul (by omega) h h0 (by omega)
  unfold exc; omega
theorem ex_div (x : Int) (h : x ≤ 0) : ex x = exc (x % 65536) / 2 ^ (-(x / 65536)).toNat := by
  have e : (if x < 0 then x else 0) = x := by split <;> omega
  have hc := exc_in (x % 65536) (by omega) (by omega)
  unfold ex; rw [e]; unfold exp2S
  split
  · rename_i hq
    obtain ⟨n, hn⟩ : ∃ n, (-(x / 65536)).toNat = 31 + n := ⟨(-(x / 65536)).toNat - 31, by omega⟩
    have hp : (2 : Int) ^ (31 + n) = 2147483648 * 2 ^ n := by rw [Int.pow_add]; rfl
    have h1 : (0 : Int) < 2 ^ n := Int.pow_pos (by omega)
    rw [hn]
    exact (Int.ediv_eq_zero_of_lt (by omega) (by omega)).symm
  · rfl
theorem ex_pos (x : Int) (h : 0 ≤ x) : ex x = 1073741824 := by
  have e : (if x < 0 then x else 0) = 0 := by split <;> omega
  unfold ex; rw [e]; rfl
theorem ex_in (x : Int) : 0 ≤ ex x ∧ ex x ≤ 1073741824 := by
  by_cases h : 0 ≤ x
  · rw [ex_pos x h]; omega
  · rw [ex_div x (by omega)]
    have hc := exc_in (x % 65536) (by omega) (by omega)
    obtain ⟨n, hn⟩ : ∃ n, (-(x / 65536)).toNat = n + 1 := ⟨(-(x / 65536)).toNat - 1, by omega⟩
    have hp : (2 : Int) ^ (n + 1) = 2 ^ n * 2 := Int.pow_succ _ _
    have h1 : (0 : Int) < 2 ^ n := Int.pow_pos (by omega)
    rw [hn]
    refine ⟨Int.ediv_nonneg (by omega) (by omega), ?_⟩
    have : exc (x % 65536) / 2 ^ (n + 1) < 1073741825 := by
      rw [Int.ediv_lt_iff_lt_mul (by omega)]; omega
    omega
theorem ex_mono {x y : Int} (h : x ≤ y) : ex x ≤ ex y := by
  by_cases hy : 0 ≤ y
  · rw [ex_pos y hy]; exact (ex_in x).2
  · rw [ex_div x (by omega), ex_div y (by omega)]
    have cx := exc_in (x % 65536) (by omega) (by omega)
    have cy := exc_in (y % 65536) (by omega) (by omega)
    by_cases hq : x / 65536 = y / 65536
    · rw [hq]
      have hp : (0 : Int) < 2 ^ (-(y / 65536)).toNat := Int.pow_pos (by omega)
      exact Int.ediv_le_ediv hp (exc_mono (by omega) (by omega) (by omega))
    · obtain ⟨n, hn⟩ : ∃ n, (-(x / 65536)).toNat = (-(y / 65536)).toNat + 1 + n := ⟨(-(x / 65536)).toNat - (-(y / 65536)).toNat - 1, by omega⟩
      rw [hn]
      have hp : (0 : Int) < 2 ^ (-(y / 65536)).toNat := Int.pow_pos (by omega)
      have hp2 : (0 : Int) < 2 ^ n := Int.pow_pos (by omega)
      have e : (2 : Int) ^ ((-(y / 65536)).toNat + 1 + n) = 2 * 2 ^ (-(y / 65536)).toNat * 2 ^ n := by
        rw [Int.pow_add, Int.pow_succ]; grind
      rw [e, ← Int.ediv_ediv_of_nonneg (by omega), ← Int.ediv_ediv_of_nonneg (by omega)]
      have a : exc (x % 65536) / 2 / 2 ^ (-(y / 65536)).toNat ≤ exc (y % 65536) / 2 ^ (-(y / 65536)).toNat := Int.ediv_le_ediv hp (by omega)
      have c : exc (x % 65536) / 2 / 2 ^ (-(y / 65536)).toNat / 2 ^ n ≤ exc (x % 65536) / 2 / 2 ^ (-(y / 65536)).toNat := Int.ediv_le_self _ (Int.ediv_nonneg (by omega) (by omega))
      omega
theorem ex_half (x : Int) (h : x ≤ 0) : ex (x - 65536) = ex x / 2 := by
  rw [ex_div x h, ex_div (x - 65536) (by omega)]
  have e1 : (x - 65536) % 65536 = x % 65536 := by omega
  have e2 : (-((x - 65536) / 65536)).toNat = (-(x / 65536)).toNat + 1 := by omega
  have hp : (0 : Int) < 2 ^ (-(x / 65536)).toNat := Int.pow_pos (by omega)
  rw [e1, e2, Int.pow_succ, ← Int.ediv_ediv_of_nonneg (by omega)]
theorem ex_whole (n : Int) (h : 0 ≤ n) : ex (-65536 * n) = 1073741824 / 2 ^ n.toNat := by
  rw [ex_div _ (by omega)]
  have e1 : (-65536 * n) % 65536 = 0 := by omega
  have e2 : (-((-65536 * n) / 65536)) = n := by omega
  rw [e1, e2, exc_zero]

/-- The place of the first greatest, from a place on. -/
def am (l : List Int) : List Int → Int → Int → Int
  | [], a, i => a
  | x :: t, a, i => if a < 0 then am l t i (i + 1) else if x > rd l a then am l t i (i + 1) else am l t a (i + 1)
def argmaxS (l : List Int) : Int := am l l (-1) 0

theorem Argmax_l (l : List Int) (hl : l.length ≤ 4611686018427387904) : ∀ (t : List Int) (i : Nat) (a : Int), l.drop i = t → i ≤ l.length → (a < 0 ∨ 0 ≤ a ∧ a < l.length) → Ev (fun k => fixed_Argmax.l0 k l a l l.length i) (am l t a i) := by
  intro t
  induction t with
  | nil =>
    intro i a h hi1 ha
    have hi := drop_nil h
    exact Ev.step (fun k => by simp only [fixed_Argmax.l0]; rw [if_neg (by omega)]; rfl) (Ev.now _)
  | cons x t ih =>
    intro i a h hi1 ha
    obtain ⟨hi, hg, hd⟩ := drop_cons h
    have hr := rd_of_get hg
    have hw : wrap64 ((i : Int) + 1) = ((i + 1 : Nat) : Int) := by rw [wrap64_id' (by omega) (by omega)]; rfl
    simp only [am]
    by_cases h0 : a < 0
    · rw [if_pos h0]
      refine Ev.step (fun k => ?_) (ih (i + 1) i hd (by omega) (by omega))
      simp only [fixed_Argmax.l0, hr, hw]
      rw [if_pos (by omega), if_pos (by omega), if_pos (by omega), if_pos h0]
    · rw [if_neg h0]
      by_cases hc : x > rd l a
      · rw [if_pos hc]
        refine Ev.step (fun k => ?_) (ih (i + 1) i hd (by omega) (by omega))
        simp only [fixed_Argmax.l0, hr, hw]
        rw [if_pos (by omega), if_pos (by omega), if_pos (by omega), if_neg h0, if_pos (by omega), if_pos (by omega), if_pos hc]
      · rw [if_neg hc]
        refine Ev.step (fun k => ?_) (ih (i + 1) a hd (by omega) (by omega))
        simp only [fixed_Argmax.l0, hr, hw]
        rw [if_pos (by omega), if_pos (by omega), if_pos (by omega), if_neg h0, if_pos (by omega), if_pos (by omega), if_neg hc]
theorem Argmax_f (l : List Int) (hl : l.length ≤ 4611686018427387904) : Ev (fun k => fixed_Argmax.f k l) (argmaxS l) := by
  unfold fixed_Argmax.f argmaxS
  exact Argmax_l l hl l 0 (-1) rfl (by omega) (by omega)

theorem awake_ev : Ev (fun k => heraldlaw02_awake.f k) true := Ev.of (k := 100) heraldlaw02_awake.mono (by decide +kernel)

theorem near_odd (x d : Int) (hd : 0 < d) : near (-x) d = -near x d := by
  have h0 := Int.emod_nonneg x (b := d) (by omega)
  have h1 := Int.emod_lt_of_pos x hd
  have hq := Int.mul_ediv_add_emod x d
  by_cases hz : x % d = 0
  · have u := (Int.ediv_emod_unique (a := -x) (b := d) (r := 0) (q := -(x / d)) hd).mpr ⟨by rw [Int.mul_neg]; omega, by omega, by omega⟩
    unfold near
    rw [u.1, u.2, hz, if_neg (by omega), if_neg (by omega)]
  · have u := (Int.ediv_emod_unique (a := -x) (b := d) (r := d - x % d) (q := -(x / d) - 1) hd).mpr ⟨by rw [Int.mul_sub, Int.mul_neg, Int.mul_one]; omega, by omega, by omega⟩
    unfold near
    rw [u.1, u.2]
    split <;> split <;> omega
theorem near_half (x d : Int) (hd : 0 < d) : (near x d = x / d ∧ x % d ≤ d - x % d ∧ (x % d = d - x % d → (x / d) % 2 = 0)) ∨ (near x d = x / d + 1 ∧ d - x % d ≤ x % d ∧ (x % d = d - x % d → (x / d) % 2 = 1)) := by
  unfold near
  split
  · right; omega
  · left; omega

theorem uwrap (n : Int) : IntKind.u64.wrap n = n % 18446744073709551616 := by
  have e2 : IntKind.bits .u64 = 64 := rfl
  have e3 : IntKind.signed .u64 = false := rfl
  simp only [IntKind.wrap, e2, e3, Bool.false_and, Bool.false_eq_true, if_false]
  rfl
theorem wrap64_def (n : Int) : wrap64 n = (n + 9223372036854775808) % 18446744073709551616 - 9223372036854775808 := by unfold wrap64; rfl
def addS (a b : Int) : Int × Bool := if -9223372036854775808 ≤ a + b ∧ a + b ≤ 9223372036854775807 then (a + b, true) else (0, false)
def mulS (a b : Int) : Int × Bool := if -9223372036854775808 ≤ a * b ∧ a * b ≤ 9223372036854775807 then (a * b, true) else (0, false)
theorem mulS_in {a b : Int} : I64 (mulS a b).1 := by
  unfold mulS; split
  · assumption
  · exact ⟨by decide, by decide⟩

theorem size_f (a : Int) (h : I64 a) : fixed_size.f a = some (a.natAbs : Int) := by
  unfold fixed_size.f; unfold I64 at h
  simp only [uwrap]
  split <;> congr 1 <;> omega

theorem rsize_f (a : Int) (h : I64 a) : heraldref02_size.f a = some (a.natAbs : Int) := by
  unfold heraldref02_size.f; unfold I64 at h
  split
  · rw [wrap64_id' (x := a + 1) (by omega) (by omega), wrap64_id' (by omega) (by omega)]
    simp only [uwrap]; congr 1; omega
  · simp only [uwrap]; congr 1; omega

def tot : List Int → Int → Int
  | [], s => s
  | x :: t, s => tot t (s + x)
def sumS (l : List Int) : Int × Bool := if -9223372036854775808 ≤ tot l 0 ∧ tot l 0 ≤ 9223372036854775807 then (tot l 0, true) else (0, false)
theorem and_mask (x : Int) : bits .and .i64 x 4294967295 = x % 4294967296 := by
  simp only [bits]
  have h : (BitVec.ofInt 64 x &&& BitVec.ofInt 64 4294967295).toNat = (x % 4294967296).toNat := by
    rw [BitVec.toNat_and]
    have e : (BitVec.ofInt 64 4294967295).toNat = 2 ^ 32 - 1 := rfl
    rw [e, Nat.and_two_pow_sub_one_eq_mod, BitVec.toNat_ofInt]
    omega
  show IntKind.i64.wrap ↑((BitVec.ofInt 64 x &&& BitVec.ofInt 64 4294967295).toNat) = x % 4294967296
  rw [h, IntKind.wrap_i64]; omega

/-- A number times x, so often. -/
def powGo (x : Int) : Nat → Int → Int × Bool
  | 0, out => (out, true)
  | m + 1, out => if -9223372036854775808 ≤ out * x ∧ out * x ≤ 9223372036854775807 then powGo x m (out * x) else (0, false)
def powS (x n : Int) : Int × Bool := if n < 0 then (0, false) else (if -1 ≤ x ∧ x ≤ 1 then (if n = 0 ∨ x = -1 ∧ n % 2 = 0 then (1, true) else (x, true)) else powGo x n.toNat 1)
theorem even_tmod (n : Int) : Int.tmod n 2 = 0 ↔ n % 2 = 0 := by
  have h := tmod_pos (a := n) (d := 2) (by omega)
  split at h <;> omega

def gcdS (a c : Int) : Int × Bool := if (Nat.gcd a.natAbs c.natAbs : Int) > 9223372036854775807 then (0, false) else ((Nat.gcd a.natAbs c.natAbs : Int), true)

/-- What so many squarings tell of a number from 2^30 to below 2^31, behind what is told. -/
def lgo : Nat → Int → Int → Int
  | 0, _, a => a
  | r + 1, m, a => if m * m / 1073741824 ≥ 2147483648 then lgo r (m * m / 1073741824 / 2) (2 * a + 1) else lgo r (m * m / 1073741824) (2 * a)
theorem lg_step {m : Int} (h0 : 1073741824 ≤ m) (h1 : m ≤ 2147483647) : 0 ≤ m * m ∧ m * m < 4611686018427387904 ∧ 1073741824 ≤ m * m / 1073741824 ∧ m * m / 1073741824 ≤ 4294967295 := by
  have a : 1073741824 * 1073741824 ≤ m * m := Int.mul_le_mul h0 h0 (by omega) (by omega)
  have b : m * m ≤ 2147483647 * 2147483647 := Int.mul_le_mul h1 h1 (by omega) (by omega)
  omega
theorem lgo_acc : ∀ (r : Nat) (m a : Int), lgo r m a = a * 2 ^ r + lgo r m 0
  | 0, m, a => by simp [lgo]
  | r + 1, m, a => by
    have e : (2 : Int) ^ (r + 1) = 2 ^ r * 2 := Int.pow_succ _ _
    simp only [lgo]
    split
    · rw [lgo_acc r _ (2 * a + 1), lgo_acc r _ (2 * 0 + 1), e]; grind
    · rw [lgo_acc r _ (2 * a), lgo_acc r _ (2 * 0), e]; grind
theorem lgo_in : ∀ (r : Nat) (m : Int), 1073741824 ≤ m → m ≤ 2147483647 → 0 ≤ lgo r m 0 ∧ lgo r m 0 < 2 ^ r
  | 0, m, h0, h1 => by simp [lgo]
  | r + 1, m, h0, h1 => by
    have hs := lg_step h0 h1
    have e : (2 : Int) ^ (r + 1) = 2 ^ r * 2 := Int.pow_succ _ _
    simp only [lgo]
    split
    · have := lgo_in r (m * m / 1073741824 / 2) (by omega) (by omega)
      rw [lgo_acc]; omega
    · have := lgo_in r (m * m / 1073741824) (by omega) (by omega)
      rw [lgo_acc]; omega
theorem lgo_mono : ∀ (r : Nat) (m m' : Int), 1073741824 ≤ m → m ≤ m' → m' ≤ 2147483647 → lgo r m 0 ≤ lgo r m' 0
  | 0, m, m', h0, h, h1 => by simp [lgo]
  | r + 1, m, m', h0, h, h1 => by
    have hs := lg_step h0 (by omega : m ≤ 2147483647)
    have hs' := lg_step (by omega : 1073741824 ≤ m') h1
    have hmm : m * m ≤ m' * m' := Int.mul_le_mul h h (by omega) (by omega)
    have hp : (0 : Int) < 2 ^ r := Int.pow_pos (by omega)
    simp only [lgo]
    by_cases c : m * m / 1073741824 ≥ 2147483648
    · have c' : m' * m' / 1073741824 ≥ 2147483648 := by omega
      rw [if_pos c, if_pos c', lgo_acc r _ (2 * 0 + 1), lgo_acc r (m' * m' / 1073741824 / 2) (2 * 0 + 1)]
      have := lgo_mono r (m * m / 1073741824 / 2) (m' * m' / 1073741824 / 2) (by omega) (by omega) (by omega)
      omega
    · rw [if_neg c]
      by_cases c' : m' * m' / 1073741824 ≥ 2147483648
      · rw [if_pos c', lgo_acc r _ (2 * 0), lgo_acc r (m' * m' / 1073741824 / 2) (2 * 0 + 1)]
        have a := lgo_in r (m * m / 1073741824) (by omega) (by omega)
        have b := lgo_in r (m' * m' / 1073741824 / 2) (by omega) (by omega)
        omega
      · rw [if_neg c', lgo_acc r _ (2 * 0), lgo_acc r (m' * m' / 1073741824) (2 * 0)]
        have := lgo_mono r (m * m / 1073741824) (m' * m' / 1073741824) (by omega) (by omega) (by omega)
        omega
theorem lgo_one : ∀ r : Nat, lgo r 1073741824 0 = 0
  | 0 => rfl
  | r + 1 => by
    have e : (1073741824 : Int) * 1073741824 / 1073741824 = 1073741824 := by decide
    simp only [lgo, e]
    rw [if_neg (by omega)]; exact lgo_one r
/-- A number brought to 2^30 up to below 2^31; n: its place. -/
def nrm (x : Int) (n : Nat) : Int := if n > 30 then x / 2 ^ (n - 30) else x * 2 ^ (30 - n)
theorem nrm_in {x : Int} {n : Nat} (h0 : 2 ^ n ≤ x) (h1 : x < 2 ^ (n + 1)) : 1073741824 ≤ nrm x n ∧ nrm x n ≤ 2147483647 := by
  unfold nrm
  split
  · obtain ⟨k, rfl⟩ : ∃ k, n = 30 + k := ⟨n - 30, by omega⟩
    have hp : (0 : Int) < 2 ^ k := Int.pow_pos (by omega)
    rw [show 30 + k - 30 = k by omega]
    have e1 : (2 : Int) ^ (30 + k) = 1073741824 * 2 ^ k := by rw [Int.pow_add]; rfl
    have e2 : (2 : Int) ^ (30 + k + 1) = 2147483648 * 2 ^ k := by rw [Int.pow_succ, e1]; omega
    rw [e1] at h0; rw [e2] at h1
    have a : 1073741824 ≤ x / 2 ^ k := by rw [Int.le_ediv_iff_mul_le hp]; exact h0
    have b : x / 2 ^ k < 2147483648 := by rw [Int.ediv_lt_iff_lt_mul hp]; exact h1
    omega
  · have e : (2 : Int) ^ n * 2 ^ (30 - n) = 1073741824 := by
      rw [← Int.pow_add, show n + (30 - n) = 30 by omega]; rfl
    have hp : (0 : Int) < 2 ^ (30 - n) := Int.pow_pos (by omega)
    have e2 : (2 : Int) ^ (n + 1) = 2 ^ n * 2 := Int.pow_succ _ _
    have a : 2 ^ n * 2 ^ (30 - n) ≤ x * 2 ^ (30 - n) := Int.mul_le_mul_of_nonneg_right h0 (by omega)
    have b : (x + 1) * 2 ^ (30 - n) ≤ (2 ^ n * 2) * 2 ^ (30 - n) := Int.mul_le_mul_of_nonneg_right (by omega) (by omega)
    have c : ((2 : Int) ^ n * 2) * 2 ^ (30 - n) = 2147483648 := by
      rw [Int.mul_right_comm, e]; rfl
    have d : (x + 1) * 2 ^ (30 - n) = x * 2 ^ (30 - n) + 2 ^ (30 - n) := by rw [Int.add_mul, Int.one_mul]
    omega
/-- Each number from 1 on has its place. -/
theorem place (x : Int) (h : 1 ≤ x) (hx : x ≤ 9223372036854775807) : ∃ n : Nat, n ≤ 62 ∧ (2 : Int) ^ n ≤ x ∧ x < 2 ^ (n + 1) := by
  have key : ∀ d : Nat, x < 2 ^ d → ∃ n : Nat, n < d ∧ (2 : Int) ^ n ≤ x ∧ x < 2 ^ (n + 1) := by
    intro d
    induction d with
    | zero => intro hd; simp at hd; omega
    | succ d ih =>
      intro hd
      by_cases c : x < 2 ^ d
      · obtain ⟨n, h1, h2, h3⟩ := ih c; exact ⟨n, by omega, h2, h3⟩
      · exact ⟨d, by omega, by omega, hd⟩
  obtain ⟨n, h1, h2, h3⟩ := key 63 (by simp; omega)
  exact ⟨n, by omega, h2, h3⟩
theorem pow_le {a c : Nat} (h : a ≤ c) : (2 : Int) ^ a ≤ 2 ^ c := by
  have := Nat.pow_le_pow_right (show 0 < 2 by decide) h
  exact_mod_cast this
theorem place_unique {x : Int} {n m : Nat} (h0 : (2 : Int) ^ n ≤ x) (h1 : x < 2 ^ (n + 1)) (g0 : (2 : Int) ^ m ≤ x) (g1 : x < 2 ^ (m + 1)) : n = m := by
  by_cases c : n < m
  · have := pow_le (show n + 1 ≤ m by omega); omega
  · by_cases c' : m < n
    · have := pow_le (show m + 1 ≤ n by omega); omega
    · omega
theorem acc_step {a M : Int} {d : Nat} (h0 : 0 ≤ a) (h : (a + 1) * 2 ^ (d + 1) ≤ M) : (2 * a + 1 + 1) * 2 ^ d ≤ M ∧ (2 * a + 1) * 2 ^ d ≤ M ∧ 2 * a + 2 ≤ M := by
  have hp : (0 : Int) < 2 ^ d := Int.pow_pos (by omega)
  have e : (2 : Int) ^ (d + 1) = 2 * 2 ^ d := by rw [Int.pow_succ, Int.mul_comm]
  rw [e, ← Int.mul_assoc] at h
  have e2 : 2 * a + 1 + 1 = (a + 1) * 2 := by omega
  rw [e2]
  refine ⟨h, ?_, ?_⟩
  · have := Int.mul_le_mul_of_nonneg_right (show 2 * a + 1 ≤ (a + 1) * 2 by omega) (show (0 : Int) ≤ 2 ^ d by omega)
    omega
  · have := Int.mul_le_mul_of_nonneg_left (show (1 : Int) ≤ 2 ^ d by omega) (show 0 ≤ (a + 1) * 2 by omega)
    omega
def lg2 (x : Int) (n : Nat) : Int := 65536 * n + lgo 16 (nrm x n) 0
theorem lg2_in {x : Int} {n : Nat} (h0 : 2 ^ n ≤ x) (h1 : x < 2 ^ (n + 1)) : 65536 * n ≤ lg2 x n ∧ lg2 x n < 65536 * (n + 1) := by
  have hn := nrm_in h0 h1
  have := lgo_in 16 (nrm x n) hn.1 hn.2
  unfold lg2
  have e : (2 : Int) ^ 16 = 65536 := rfl
  omega
theorem nrm_mono {x y : Int} {n : Nat} (h : x ≤ y) : nrm x n ≤ nrm y n := by
  unfold nrm
  split
  · exact Int.ediv_le_ediv (Int.pow_pos (by omega)) h
  · have hp : (0 : Int) < 2 ^ (30 - n) := Int.pow_pos (by omega)
    exact Int.mul_le_mul_of_nonneg_right h (by omega)
theorem lg2_mono {x y : Int} {n m : Nat} (h : x ≤ y) (h0 : 2 ^ n ≤ x) (h1 : x < 2 ^ (n + 1)) (g0 : 2 ^ m ≤ y) (g1 : y < 2 ^ (m + 1)) : lg2 x n ≤ lg2 y m := by
  by_cases c : n < m
  · have a := lg2_in h0 h1
    have b := lg2_in g0 g1
    omega
  · by_cases c' : m < n
    · exfalso
      have := pow_le (show m + 1 ≤ n by omega); omega
    · obtain rfl : n = m := by omega
      have a := nrm_in h0 h1
      have b := nrm_in g0 g1
      have := lgo_mono 16 (nrm x n) (nrm y n) a.1 (nrm_mono h) b.2
      unfold lg2; omega
theorem lg2_pow (n : Nat) : lg2 (2 ^ n) n = 65536 * n := by
  have e : nrm (2 ^ n) n = 1073741824 := by
    unfold nrm
    split
    · obtain ⟨k, rfl⟩ : ∃ k, n = 30 + k := ⟨n - 30, by omega⟩
      rw [show 30 + k - 30 = k by omega, Int.pow_add]
      exact Int.mul_ediv_cancel _ (by have : (0 : Int) < 2 ^ k := Int.pow_pos (by omega)
                                      omega)
    · rw [← Int.pow_add, show n + (30 - n) = 30 by omega]; rfl
  unfold lg2; rw [e, lgo_one]; omega
theorem lg2_twice {x : Int} {n : Nat} : lg2 (2 * x) (n + 1) = lg2 x n + 65536 := by
  have e : nrm (2 * x) (n + 1) = nrm x n := by
    unfold nrm
    by_cases c : n > 30
    · rw [if_pos (by omega), if_pos c, show n + 1 - 30 = (n - 30) + 1 by omega, Int.pow_succ, Int.mul_comm 2 x]
      exact Int.mul_ediv_mul_of_pos_left _ _ (by omega)
    · rw [if_neg c]
      by_cases c2 : n = 30
      · subst c2
        rw [if_pos (by omega)]
        show 2 * x / 2 ^ 1 = x * 2 ^ 0
        omega
      · rw [if_neg (by omega), show 30 - n = (30 - (n + 1)) + 1 by omega, Int.pow_succ]; grind
  unfold lg2; rw [e]; omega
/-- How many binary digits a number has. -/
theorem bitLen_place : ∀ (n f : Nat) (x : Nat), x < 2 ^ f → 2 ^ n ≤ x → x < 2 ^ (n + 1) → Lib.bitLenAux f x = n + 1 := by
  have z : ∀ f, Lib.bitLenAux f 0 = 0 := by intro f; cases f <;> simp [Lib.bitLenAux]
  intro n
  induction n with
  | zero =>
    intro f x hf h0 h1
    obtain rfl : x = 1 := by simp at h0 h1; omega
    cases f with
    | zero => simp at hf
    | succ f => simp [Lib.bitLenAux, z]
  | succ n ih =>
    intro f x hf h0 h1
    have hp : 0 < 2 ^ n := Nat.two_pow_pos n
    have e1 : 2 ^ (n + 1) = 2 ^ n * 2 := Nat.pow_succ _ _
    have e2 : 2 ^ (n + 1 + 1) = 2 ^ (n + 1) * 2 := Nat.pow_succ _ _
    cases f with
    | zero => simp at hf; omega
    | succ f =>
      have e3 : 2 ^ (f + 1) = 2 ^ f * 2 := Nat.pow_succ _ _
      simp only [Lib.bitLenAux]
      rw [if_neg (by omega), ih f (x / 2) (by omega) (by omega) (by omega)]; omega

/-! ### a long division by two digits (Knuth's) -/
theorem kn_lt {U u1 Y : Int} (h0 : 0 ≤ U) (hU : U < Y) (h1 : 0 ≤ u1) (h2 : u1 < 4294967296) : 0 ≤ (U * 4294967296 + u1) / Y ∧ (U * 4294967296 + u1) / Y < 4294967296 := by
  have hY : 0 < Y := by omega
  refine ⟨Int.ediv_nonneg (by omega) (by omega), Int.ediv_lt_of_lt_mul hY ?_⟩
  omega
theorem kn_mul (q y1 y0 : Int) : q * (y1 * 4294967296 + y0) = (q * y1) * 4294967296 + q * y0 := by rw [Int.mul_add, ← Int.mul_assoc]
theorem kn_test {U u1 y1 y0 q r : Int} (hy : 0 < y1 * 4294967296 + y0) (hq : q * y1 + r = U) : (U * 4294967296 + u1) / (y1 * 4294967296 + y0) < q ↔ 4294967296 * r + u1 < q * y0 := by
  rw [Int.ediv_lt_iff_lt_mul hy, kn_mul]
  omega
theorem kn_break {U u1 y1 y0 q r : Int} (hy : 0 < y1 * 4294967296 + y0) (hq : q * y1 + r = U) (hr : 4294967296 ≤ r) (hqB : q ≤ 4294967296) (h0 : 0 ≤ y0) (h1 : y0 < 4294967296) (hu : 0 ≤ u1) : q ≤ (U * 4294967296 + u1) / (y1 * 4294967296 + y0) := by
  rw [Int.le_ediv_iff_mul_le hy, kn_mul]
  have : q * y0 ≤ 4294967296 * y0 := Int.mul_le_mul_of_nonneg_right hqB h0
  omega
theorem umod {x : Int} (h0 : 0 ≤ x) (h1 : x < 18446744073709551616) : IntKind.u64.wrap x = x := by rw [uwrap]; exact Int.emod_eq_of_lt h0 h1
/-- One digit of the quotient, its first guess at most two too great. -/
structure Kn (U u1 y1 y0 : Int) : Prop where
  y1l : 2147483648 ≤ y1
  y1h : y1 < 4294967296
  y0l : 0 ≤ y0
  y0h : y0 < 4294967296
  Ul : 0 ≤ U
  Uh : U < y1 * 4294967296 + y0
  ul : 0 ≤ u1
  uh : u1 < 4294967296
theorem Kn.prod {U u1 y1 y0 q : Int} (h : Kn U u1 y1 y0) (h0 : 0 ≤ q) (h1 : q < 4294967296) : 0 ≤ q * y0 ∧ q * y0 < 18446744073709551616 := by
  have a := Int.mul_nonneg h0 h.y0l
  have c : q * y0 ≤ 4294967296 * y0 := Int.mul_le_mul_of_nonneg_right (by omega) h.y0l
  have := h.y0h
  exact ⟨a, by omega⟩
theorem div_l0 {Y s y1 y0 U u1 u0 : Int} (h : Kn U u1 y1 y0) (hY : Y = y1 * 4294967296 + y0) (R : Int × Int) (hj : Ev (fun k => bits_Div64.j2 k Y s y1 y0 U u1 u0 ((U * 4294967296 + u1) / Y)) R) : ∀ (d : Nat) (q r : Int), q - (U * 4294967296 + u1) / Y ≤ (d : Int) → (U * 4294967296 + u1) / Y ≤ q → q ≤ 4294967297 → 0 ≤ r → r < 4294967296 → q * y1 + r = U → Ev (fun k => bits_Div64.l0 k Y s y1 y0 U u1 u0 q r) R := by
  have b1 := h.y1l
  have b2 := h.y1h
  have b3 := h.y0l
  have b4 := h.y0h
  have b5 := h.ul
  have b6 := h.uh
  have hy : 0 < y1 * 4294967296 + y0 := by omega
  have hQ := kn_lt h.Ul (hY ▸ h.Uh) h.ul h.uh
  intro d
  induction d with
  | zero =>
    intro q r h1 h2 h3 h4 h5 h6
    have e : q = (U * 4294967296 + u1) / Y := by omega
    have ht : ¬ 4294967296 * r + u1 < q * y0 := fun hh => by
      have := (kn_test (u1 := u1) hy h6).2 hh
      rw [← hY] at this; omega
    have hp := h.prod (q := q) (by omega) (by omega)
    refine ev_succ ?_
    simp only [bits_Div64.l0]
    simp only [show ¬ q ≥ 4294967296 by omega, if_false, umod hp.1 hp.2, umod (x := 4294967296 * r) (by omega) (by omega), umod (x := 4294967296 * r + u1) (by omega) (by omega), decide_eq_false (show ¬ q * y0 > 4294967296 * r + u1 by omega)]
    refine ev_succ ?_
    simp only [bits_Div64.j1, Bool.false_eq_true, if_false]
    rw [e]; exact hj
  | succ d ih =>
    intro q r h1 h2 h3 h4 h5 h6
    by_cases hlt : (U * 4294967296 + u1) / Y < q
    · have ht : 4294967296 * r + u1 < q * y0 := (kn_test (u1 := u1) hy h6).1 (hY ▸ hlt)
      have go : Ev (fun k => bits_Div64.j1 k Y s y1 y0 U u1 u0 q r true) R := by
        refine ev_succ ?_
        simp only [bits_Div64.j1, if_true]
        rw [umod (x := r + y1) (by omega) (by omega), umod (x := q - 1) (by omega) (by omega)]
        have h6' : (q - 1) * y1 + (r + y1) = U := by rw [Int.sub_mul, Int.one_mul]; omega
        by_cases hr2 : r + y1 ≥ 4294967296
        · simp only [hr2, if_true]
          have := kn_break (u1 := u1) hy h6' hr2 (by omega) b3 b4 b5
          rw [← hY] at this
          rw [show q - 1 = (U * 4294967296 + u1) / Y by omega]; exact hj
        · simp only [hr2, if_false]
          exact ih (q - 1) (r + y1) (by omega) (by omega) (by omega) (by omega) (by omega) h6'
      refine ev_succ ?_
      simp only [bits_Div64.l0]
      by_cases hB : q ≥ 4294967296
      · simp only [hB, if_true]; exact go
      · have hp := h.prod (q := q) (by omega) (by omega)
        simp only [hB, if_false, umod hp.1 hp.2, umod (x := 4294967296 * r) (by omega) (by omega), umod (x := 4294967296 * r + u1) (by omega) (by omega), decide_eq_true (show q * y0 > 4294967296 * r + u1 by omega)]
        exact go
    · exact ih q r (by omega) h2 h3 h4 h5 h6
theorem div_l1 {Y s y1 y0 U u1 Q1 : Int} (h : Kn U u1 y1 y0) (hY : Y = y1 * 4294967296 + y0) (hs : 0 ≤ s) (R : Int × Int) (hj : (IntKind.u64.wrap (IntKind.u64.wrap (Q1 * 4294967296) + (U * 4294967296 + u1) / Y), shr .u64 (IntKind.u64.wrap (IntKind.u64.wrap (IntKind.u64.wrap (U * 4294967296) + u1) - IntKind.u64.wrap ((U * 4294967296 + u1) / Y * Y))) s) = R) : ∀ (d : Nat) (q r : Int), q - (U * 4294967296 + u1) / Y ≤ (d : Int) → (U * 4294967296 + u1) / Y ≤ q → q ≤ 4294967297 → 0 ≤ r → r < 4294967296 → q * y1 + r = U → Ev (fun k => bits_Div64.l1 k Y s y1 y0 u1 Q1 r U q) R := by
  have b1 := h.y1l
  have b2 := h.y1h
  have b3 := h.y0l
  have b4 := h.y0h
  have b5 := h.ul
  have b6 := h.uh
  have hy : 0 < y1 * 4294967296 + y0 := by omega
  have hQ := kn_lt h.Ul (hY ▸ h.Uh) h.ul h.uh
  intro d
  induction d with
  | zero =>
    intro q r h1 h2 h3 h4 h5 h6
    have e : q = (U * 4294967296 + u1) / Y := by omega
    have ht : ¬ 4294967296 * r + u1 < q * y0 := fun hh => by
      have := (kn_test (u1 := u1) hy h6).2 hh
      rw [← hY] at this; omega
    have hp := h.prod (q := q) (by omega) (by omega)
    refine ev_succ ?_
    simp only [bits_Div64.l1]
    simp only [show ¬ q ≥ 4294967296 by omega, if_false, umod hp.1 hp.2, umod (x := 4294967296 * r) (by omega) (by omega), umod (x := 4294967296 * r + u1) (by omega) (by omega), decide_eq_false (show ¬ q * y0 > 4294967296 * r + u1 by omega)]
    refine ev_succ ?_
    simp only [bits_Div64.j4, Bool.false_eq_true, if_false, hs, if_true]
    rw [e, hj]; exact Ev.now _
  | succ d ih =>
    intro q r h1 h2 h3 h4 h5 h6
    by_cases hlt : (U * 4294967296 + u1) / Y < q
    · have ht : 4294967296 * r + u1 < q * y0 := (kn_test (u1 := u1) hy h6).1 (hY ▸ hlt)
      have go : Ev (fun k => bits_Div64.j4 k Y s y1 y0 u1 Q1 r U q true) R := by
        refine ev_succ ?_
        simp only [bits_Div64.j4, if_true]
        rw [umod (x := r + y1) (by omega) (by omega), umod (x := q - 1) (by omega) (by omega)]
        have h6' : (q - 1) * y1 + (r + y1) = U := by rw [Int.sub_mul, Int.one_mul]; omega
        by_cases hr2 : r + y1 ≥ 4294967296
        · simp only [hr2, if_true, hs]
          have := kn_break (u1 := u1) hy h6' hr2 (by omega) b3 b4 b5
          rw [← hY] at this
          rw [show q - 1 = (U * 4294967296 + u1) / Y by omega, hj]; exact Ev.now _
        · simp only [hr2, if_false]
          exact ih (q - 1) (r + y1) (by omega) (by omega) (by omega) (by omega) (by omega) h6'
      refine ev_succ ?_
      simp only [bits_Div64.l1]
      by_cases hB : q ≥ 4294967296
      · simp only [hB, if_true]; exact go
      · have hp := h.prod (q := q) (by omega) (by omega)
        simp only [hB, if_false, umod hp.1 hp.2, umod (x := 4294967296 * r) (by omega) (by omega), umod (x := 4294967296 * r + u1) (by omega) (by omega), decide_eq_true (show q * y0 > 4294967296 * r + u1 by omega)]
        exact go
    · exact ih q r (by omega) h2 h3 h4 h5 h6
/-- The first guess. -/
theorem Kn.guess {U u1 y1 y0 : Int} (h : Kn U u1 y1 y0) : (U * 4294967296 + u1) / (y1 * 4294967296 + y0) ≤ U / y1 ∧ 0 ≤ U / y1 ∧ U / y1 ≤ 4294967297 ∧ 0 ≤ U - U / y1 * y1 ∧ U - U / y1 * y1 < 4294967296 ∧ U / y1 * y1 + (U - U / y1 * y1) = U := by
  have b1 := h.y1l
  have b2 := h.y1h
  have b3 := h.y0l
  have b4 := h.y0h
  have b5 := h.ul
  have b6 := h.uh
  have b7 := h.Ul
  have b8 := h.Uh
  have hm := Int.emod_add_mul_ediv U y1
  have m1 := Int.emod_nonneg U (show y1 ≠ 0 by omega)
  have m2 := Int.emod_lt_of_pos U (show 0 < y1 by omega)
  have hc : y1 * (U / y1) = U / y1 * y1 := Int.mul_comm _ _
  have hr : U - U / y1 * y1 = U % y1 := by omega
  refine ⟨?_, Int.ediv_nonneg b7 (by omega), ?_, by omega, by omega, by omega⟩
  · have hy : 0 < y1 * 4294967296 + y0 := by omega
    refine Int.le_of_lt_add_one ?_
    refine (kn_test (q := U / y1 + 1) (r := U % y1 - y1) hy ?_).2 ?_
    · rw [Int.add_mul, Int.one_mul]; omega
    · have : 0 ≤ (U / y1 + 1) * y0 := Int.mul_nonneg (by have := Int.ediv_nonneg b7 (show (0 : Int) ≤ y1 by omega); omega) b3
      omega
  · refine Int.le_of_lt_add_one (Int.ediv_lt_of_lt_mul (by omega) ?_)
    omega
theorem Div64_f (hi lo y : Int) (h0 : 0 ≤ hi) (h1 : hi < y) (l0 : 0 ≤ lo) (l1 : lo < 18446744073709551616) (hy : y < 18446744073709551616) : Ev (fun k => bits_Div64.f k hi lo y) ((hi * 18446744073709551616 + lo) / y, (hi * 18446744073709551616 + lo) % y) := by
  have hy0 : 0 < y := by omega
  unfold bits_Div64.f
  simp only [show ¬ y = 0 by omega, show ¬ y ≤ hi by omega, if_false]
  by_cases hz : hi = 0
  · subst hz
    simp only [if_true, Int.zero_mul, Int.zero_add]
    rw [Int.tdiv_eq_ediv_of_nonneg l0, Int.tmod_eq_emod_of_nonneg l0, umod (Int.ediv_nonneg l0 (by omega)) (Int.lt_of_le_of_lt (Int.ediv_le_self _ l0) l1)]
    exact Ev.now _
  simp only [hz, if_false]
  -- how far to the left
  obtain ⟨n, n0, n1, n2⟩ : ∃ n : Nat, n < 64 ∧ 2 ^ n ≤ y.toNat ∧ y.toNat < 2 ^ (n + 1) := by
    have hne : y.toNat ≠ 0 := by omega
    refine ⟨Nat.log2 y.toNat, ?_, Nat.log2_self_le hne, Nat.lt_log2_self⟩
    exact (Nat.log2_lt hne).2 (by omega)
  have hb : Lib.bitLen y.toNat = n + 1 := bitLen_place n 64 y.toNat (by omega) n1 n2
  have hz1 : bits_LeadingZeros64.f y = some (64 - ((n + 1 : Nat) : Int)) := by
    unfold bits_LeadingZeros64.f; rw [if_pos ⟨by omega, by omega⟩, hb]
  rw [hz1]
  simp only [Option.bind_some]
  obtain ⟨s, hs⟩ : ∃ s : Nat, s = 63 - n := ⟨_, rfl⟩
  have e1 : (64 - ((n + 1 : Nat) : Int)) = (s : Int) := by omega
  have e2 : IntKind.u64.wrap (s : Int) = (s : Int) := umod (by omega) (by omega)
  have e3 : IntKind.u64.wrap (64 - (s : Int)) = ((n + 1 : Nat) : Int) := by rw [umod (by omega) (by omega)]; omega
  rw [e1, e2, e3]
  simp only [show (0 : Int) ≤ (s : Int) by omega, show (0 : Int) ≤ ((n + 1 : Nat) : Int) by omega, if_true]
  obtain ⟨p, hp⟩ : ∃ p : Int, p = 2 ^ s := ⟨_, rfl⟩
  obtain ⟨q, hq⟩ : ∃ q : Int, q = 2 ^ (n + 1) := ⟨_, rfl⟩
  have hpq : q * p = 18446744073709551616 := by rw [hp, hq, ← Int.pow_add, show n + 1 + s = 64 by omega]; rfl
  have hp0 : 0 < p := by rw [hp]; exact Int.pow_pos (by omega)
  have hq0 : 0 < q := by rw [hq]; exact Int.pow_pos (by omega)
  have hyq : y < q := by
    have : (y.toNat : Int) < (2 : Int) ^ (n + 1) := by exact_mod_cast n2
    rw [hq]; omega
  have hyq2 : q ≤ 2 * y := by
    have : (2 : Int) ^ n ≤ (y.toNat : Int) := by exact_mod_cast n1
    rw [hq, Int.pow_succ]; omega
  have k1 : y * p < 18446744073709551616 := by rw [← hpq]; exact Int.mul_lt_mul_of_pos_right hyq hp0
  have k2 : 18446744073709551616 ≤ 2 * (y * p) := by rw [← hpq, ← Int.mul_assoc]; exact Int.mul_le_mul_of_nonneg_right hyq2 (by omega)
  have k3 : hi * p + p ≤ y * p := by
    have : (hi + 1) * p ≤ y * p := Int.mul_le_mul_of_nonneg_right (by omega) (by omega)
    rw [Int.add_mul, Int.one_mul] at this; exact this
  have k4 : 0 ≤ hi * p := Int.mul_nonneg h0 (by omega)
  have s1 : ∀ x : Int, shl .u64 x (s : Int) = x * p % 18446744073709551616 := fun x => by
    unfold shl
    rw [Int.toNat_natCast, show min s (IntKind.bits .u64) = s from Nat.min_eq_left (by show s ≤ 64; omega), uwrap, ← hp]
  have s2 : shr .u64 lo ((n + 1 : Nat) : Int) = lo / q := by
    unfold shr
    rw [Int.toNat_natCast, show min (n + 1) (IntKind.bits .u64) = n + 1 from Nat.min_eq_left (by show n + 1 ≤ 64; omega), ← hq]
  have s3 : ∀ x : Int, shr .u64 x (s : Int) = x / p := fun x => by
    unfold shr
    rw [Int.toNat_natCast, show min s (IntKind.bits .u64) = s from Nat.min_eq_left (by show s ≤ 64; omega), ← hp]
  rw [s1 y, s1 hi, s1 lo, s2, Int.emod_eq_of_lt (by omega) k1, Int.emod_eq_of_lt k4 (by omega)]
  -- the digits
  have dm := Int.emod_add_mul_ediv lo q
  have d0 := Int.ediv_nonneg l0 (show (0 : Int) ≤ q by omega)
  have d1 : lo / q < p := Int.ediv_lt_of_lt_mul hq0 (by rw [Int.mul_comm, hpq]; exact l1)
  have m0 := Int.emod_nonneg lo (show q ≠ 0 by omega)
  have m1 := Int.emod_lt_of_pos lo hq0
  have m2 : 0 ≤ lo % q * p := Int.mul_nonneg m0 (by omega)
  have m3 : lo % q * p < 18446744073709551616 := by rw [← hpq]; exact Int.mul_lt_mul_of_pos_right m1 hp0
  have m4 : lo * p = lo % q * p + 18446744073709551616 * (lo / q) := by
    rw [← hpq, show q * p * (lo / q) = (q * (lo / q)) * p by rw [Int.mul_assoc, Int.mul_comm p, ← Int.mul_assoc], ← Int.add_mul, dm]
  have m5 : lo * p % 18446744073709551616 = lo % q * p := by rw [m4, Int.add_mul_emod_self_left]; exact Int.emod_eq_of_lt m2 m3
  rw [m5]
  have q1 : hi * p < 2 ^ 64 := Int.lt_of_lt_of_le (show hi * p < 18446744073709551616 by omega) (by decide)
  have q2 : lo / q < 2 ^ 64 := Int.lt_of_lt_of_le (show lo / q < 18446744073709551616 by omega) (by decide)
  have wr : ∀ m : Int, 0 ≤ m → m < 2 ^ 64 → IntKind.u64.wrap m = m := fun m a c => umod a (Int.lt_of_lt_of_le c (by decide))
  have or1 : Go.bits .or .u64 (hi * p) (lo / q) = hi * p + lo / q := bits_join .u64 64 (by decide) wr s (hi * p) (lo / q) k4 (by rw [← hp]; exact Int.mul_emod_left _ _) q1 d0 (by rw [← hp]; exact d1) q2
  have an : ∀ x : Int, 0 ≤ x → x < 18446744073709551616 → Go.bits .and .u64 x 4294967295 = x % 4294967296 := fun x a c => by
    exact bits_mask .u64 64 (by decide) wr 32 (by decide) x a (Int.lt_of_lt_of_le c (by decide))
  rw [or1, an (y * p) (by omega) k1, an (lo % q * p) m2 m3]
  obtain ⟨Y, hY⟩ : ∃ Y, Y = y * p := ⟨_, rfl⟩
  obtain ⟨U, hU⟩ : ∃ U, U = hi * p + lo / q := ⟨_, rfl⟩
  obtain ⟨v, hv⟩ : ∃ v, v = lo % q * p := ⟨_, rfl⟩
  have hN : (hi * 18446744073709551616 + lo) * p = U * 18446744073709551616 + v := by
    rw [hU, hv, Int.add_mul, m4, Int.add_mul, show hi * 18446744073709551616 * p = hi * p * 18446744073709551616 by rw [Int.mul_assoc, Int.mul_comm 18446744073709551616 p, ← Int.mul_assoc]]
    omega
  rw [← hY, ← hU, ← hv]
  have gY : Y < 18446744073709551616 := by omega
  have gY2 : 18446744073709551616 ≤ 2 * Y := by omega
  have gU0 : 0 ≤ U := by omega
  have gU : U < Y := by omega
  have gv0 : 0 ≤ v := by omega
  have gv : v < 18446744073709551616 := by omega
  have fin : ((hi * 18446744073709551616 + lo) / y, (hi * 18446744073709551616 + lo) % y) = ((U * 18446744073709551616 + v) / Y, (U * 18446744073709551616 + v) % Y / p) := by
    rw [← hN, hY, Int.mul_ediv_mul_of_pos_left _ _ hp0]
    have e : (hi * 18446744073709551616 + lo) * p % (y * p) = p * ((hi * 18446744073709551616 + lo) % y) := by
      rw [Int.mul_comm _ p, Int.mul_comm y p, Int.mul_emod_mul_of_pos _ _ hp0]
    rw [e, Int.mul_ediv_cancel_left _ (show p ≠ 0 by omega)]
  rw [fin]
  clear fin hN hU hv hY or1 an q1 q2 wr m5 m4 m3 m2 m1 m0 d1 d0 dm s2 s1 k4 k3 k2 k1 hyq2 hyq hpq hq0 hb hz1 n1 n2 e1 e3 hz
  clear hq q
  obtain ⟨y1, hy1⟩ : ∃ y1, y1 = Y / 4294967296 := ⟨_, rfl⟩
  obtain ⟨y0, hy0'⟩ : ∃ y0, y0 = Y % 4294967296 := ⟨_, rfl⟩
  obtain ⟨u1, hu1⟩ : ∃ u1, u1 = v / 4294967296 := ⟨_, rfl⟩
  obtain ⟨u0, hu0⟩ : ∃ u0, u0 = v % 4294967296 := ⟨_, rfl⟩
  rw [← hy1, ← hy0', ← hu1, ← hu0]
  have eY : Y = y1 * 4294967296 + y0 := by omega
  have ev : v = u1 * 4294967296 + u0 := by omega
  have K1 : Kn U u1 y1 y0 := ⟨by omega, by omega, by omega, by omega, gU0, by omega, by omega, by omega⟩
  obtain ⟨c1, c2, c3, c4, c5, c6⟩ := K1.guess
  have hQ := kn_lt gU0 gU K1.ul K1.uh
  rw [← eY] at c1
  have y1p : 2147483648 ≤ y1 := K1.y1l
  simp only [show ¬ y1 = 0 by omega, if_false]
  rw [Int.tdiv_eq_ediv_of_nonneg gU0, umod (x := U / y1) c2 (by omega), umod (x := U / y1 * y1) (Int.mul_nonneg c2 (by omega)) (by omega), umod (x := U - U / y1 * y1) c4 (by omega)]
  refine div_l0 K1 eY _ ?_ (U / y1 - (U * 4294967296 + u1) / Y).toNat _ _ (by omega) c1 c3 c4 c5 c6
  -- the second digit
  obtain ⟨Q1, hQ1⟩ : ∃ Q1, Q1 = (U * 4294967296 + u1) / Y := ⟨_, rfl⟩
  obtain ⟨V, hV⟩ : ∃ V, V = (U * 4294967296 + u1) % Y := ⟨_, rfl⟩
  have hYp : 0 < Y := by omega
  have v0 : 0 ≤ V := by rw [hV]; exact Int.emod_nonneg _ (by omega)
  have v1 : V < Y := by rw [hV]; exact Int.emod_lt_of_pos _ hYp
  have hA := Int.emod_add_mul_ediv (U * 4294967296 + u1) Y
  rw [← hV, ← hQ1, Int.mul_comm Y Q1] at hA
  rw [← hQ1] at hQ ⊢
  have und : ∀ (A a z T : Int), A * 4294967296 + a = T + z → 0 ≤ T → T < 18446744073709551616 → IntKind.u64.wrap (IntKind.u64.wrap (IntKind.u64.wrap (A * 4294967296) + a) - IntKind.u64.wrap z) = T := by
    intro A a z T h1 h2 h3
    simp only [uwrap]
    rw [Int.emod_add_emod, ← Int.sub_emod, h1, Int.add_sub_cancel]
    exact Int.emod_eq_of_lt h2 h3
  have w1 := und U u1 (Q1 * Y) V (by omega) v0 (by omega)
  refine ev_succ ?_
  simp only [bits_Div64.j2, show ¬ y1 = 0 by omega, if_false, w1]
  have K2 : Kn V u0 y1 y0 := ⟨K1.y1l, K1.y1h, K1.y0l, K1.y0h, v0, by omega, by omega, by omega⟩
  obtain ⟨f1, f2, f3, f4, f5, f6⟩ := K2.guess
  have hQ2 := kn_lt v0 v1 K2.ul K2.uh
  rw [← eY] at f1
  rw [Int.tdiv_eq_ediv_of_nonneg v0, umod (x := V / y1) f2 (by omega), umod (x := V / y1 * y1) (Int.mul_nonneg f2 (by omega)) (by omega), umod (x := V - V / y1 * y1) f4 (by omega)]
  refine div_l1 K2 eY (by omega) _ ?_ (V / y1 - (V * 4294967296 + u0) / Y).toNat _ _ (by omega) f1 f3 f4 f5 f6
  obtain ⟨Q2, hQ2'⟩ : ∃ Q2, Q2 = (V * 4294967296 + u0) / Y := ⟨_, rfl⟩
  obtain ⟨R, hR⟩ : ∃ R, R = (V * 4294967296 + u0) % Y := ⟨_, rfl⟩
  have r0 : 0 ≤ R := by rw [hR]; exact Int.emod_nonneg _ (by omega)
  have r1 : R < Y := by rw [hR]; exact Int.emod_lt_of_pos _ hYp
  have hA2 := Int.emod_add_mul_ediv (V * 4294967296 + u0) Y
  rw [← hR, ← hQ2', Int.mul_comm Y Q2] at hA2
  rw [← hQ2'] at hQ2 ⊢
  have w2 := und V u0 (Q2 * Y) R (by omega) r0 (by omega)
  rw [w2, s3, umod (x := Q1 * 4294967296) (by omega) (by omega), umod (x := Q1 * 4294967296 + Q2) (by omega) (by omega)]
  have hall : U * 18446744073709551616 + v = R + Y * (Q1 * 4294967296 + Q2) := by
    have e : Y * (Q1 * 4294967296 + Q2) = Q1 * Y * 4294967296 + Q2 * Y := by rw [Int.mul_comm, Int.add_mul, Int.mul_assoc, Int.mul_comm 4294967296 Y, ← Int.mul_assoc]
    rw [e]; omega
  rw [hall, Int.add_mul_ediv_left _ _ (by omega), Int.add_mul_emod_self_left, Int.ediv_eq_zero_of_lt r0 r1, Int.emod_eq_of_lt r0 r1, Int.zero_add]

/-! ### a product by digits to the base 65536 -/
def valW : List Int → Int
  | [] => 0
  | d :: l => d + 65536 * valW l
def dig (l : List Int) : Prop := ∀ k : Nat, 0 ≤ l.getD k 0 ∧ l.getD k 0 < 65536
theorem val_set : ∀ (l : List Int) (k : Nat) (v : Int), k < l.length → valW (l.set k v) = valW l + (v - l.getD k 0) * 65536 ^ k
  | [], _, _, h => by simp at h
  | d :: l, 0, v, _ => by simp only [List.set_cons_zero, valW, List.getD_cons_zero, Int.pow_zero]; omega
  | d :: l, k + 1, v, h => by
    have ih := val_set l k v (by simpa using h)
    simp only [List.set_cons_succ, valW, List.getD_cons_succ, ih, Int.pow_succ]
    rw [Int.mul_add, ← Int.mul_assoc 65536, Int.mul_comm 65536 (v - _), Int.mul_assoc (v - _), Int.mul_comm 65536 (65536 ^ k)]
    omega
theorem val_take : ∀ (l : List Int) (k : Nat), k < l.length → valW (l.take (k + 1)) = valW (l.take k) + l.getD k 0 * 65536 ^ k
  | [], _, h => by simp at h
  | d :: l, 0, _ => by simp [valW]
  | d :: l, k + 1, h => by
    have ih := val_take l k (by simpa using h)
    rw [List.take_succ_cons, List.take_succ_cons]
    simp only [valW, List.getD_cons_succ, ih, Int.pow_succ]
    rw [Int.mul_add, ← Int.mul_assoc 65536, Int.mul_comm 65536 (l.getD k 0), Int.mul_assoc (l.getD k 0), Int.mul_comm 65536 (65536 ^ k)]
    omega
theorem val_nonneg : ∀ (l : List Int), dig l → 0 ≤ valW l
  | [], _ => by simp [valW]
  | d :: l, h => by
    have h0 := h 0
    have := val_nonneg l (fun k => by have := h (k + 1); simpa using this)
    simp only [List.getD_cons_zero] at h0
    simp only [valW]; omega
theorem val_digit : ∀ (l : List Int) (k : Nat), dig l → valW l / 65536 ^ k % 65536 = l.getD k 0
  | [], k, _ => by simp [valW]
  | d :: l, 0, h => by
    have h0 := h 0
    simp only [List.getD_cons_zero] at h0
    simp only [valW, Int.pow_zero, List.getD_cons_zero, Int.ediv_one]; omega
  | d :: l, k + 1, h => by
    have h0 := h 0
    have hl : dig l := fun k => by have := h (k + 1); simpa using this
    have ih := val_digit l k hl
    simp only [List.getD_cons_zero] at h0
    simp only [valW, List.getD_cons_succ]
    have e : (65536 : Int) ^ (k + 1) = 65536 * 65536 ^ k := by rw [Int.pow_succ, Int.mul_comm]
    rw [e, ← Int.ediv_ediv_of_nonneg (by decide), show (d + 65536 * valW l) / 65536 = valW l by omega]
    exact ih
theorem getD_set (l : List Int) (a k : Nat) (v : Int) (h : a < l.length) : (l.set a v).getD k 0 = if a = k then v else l.getD k 0 := by
  rw [List.getD_eq_getElem?_getD, List.getElem?_set]
  by_cases e : a = k
  · rw [if_pos e, if_pos e, if_pos h]; rfl
  · rw [if_neg e, if_neg e, ← List.getD_eq_getElem?_getD]
theorem dig_step {z : Int} {l : List Int} {i : Nat} (hi : i < 4) (hl : l.length ≤ 4) (h0 : 0 ≤ z) (h1 : z < 18446744073709551616) {R : List Int} (h : Ev (fun k => heraldref02_digits.l0 k (z / 65536) (l ++ [z % 65536]) ((i + 1 : Nat) : Int)) R) : Ev (fun k => heraldref02_digits.l0 k z l (i : Int)) R := by
  refine Ev.step (fun k => ?_) h
  simp only [heraldref02_digits.l0]
  rw [if_pos (by omega), if_pos (by omega), Int.tdiv_eq_ediv_of_nonneg h0, Int.tmod_eq_emod_of_nonneg h0, umod (by omega) (by omega), wone (by omega)]
def digL (z : Int) : List Int := [z % 65536, z / 65536 % 65536, z / 65536 / 65536 % 65536, z / 65536 / 65536 / 65536 % 65536]
theorem digits_f (z : Int) (h0 : 0 ≤ z) (h1 : z < 18446744073709551616) : Ev (fun k => heraldref02_digits.f k z) (digL z) := by
  unfold heraldref02_digits.f
  have h2 := dig_step (z := z) (l := []) (i := 0) (R := digL z) (by omega) (by simp) h0 h1
  refine h2 (dig_step (i := 1) (by omega) (by simp) (by omega) (by omega) (dig_step (i := 2) (by omega) (by simp) (by omega) (by omega) (dig_step (i := 3) (by omega) (by simp) (by omega) (by omega) ?_)))
  refine Ev.step (f := fun _ => some (digL z)) (fun k => ?_) (Ev.now _)
  simp only [heraldref02_digits.l0]
  rw [if_neg (by omega)]
  rfl
theorem digL_val {z : Int} (h0 : 0 ≤ z) (h1 : z < 18446744073709551616) : valW (digL z) = z := by
  simp only [digL, valW]; omega
theorem digL_dig (z : Int) : dig (digL z) := fun k => by
  unfold digL
  match k with
  | 0 => simp only [List.getD_cons_zero]; omega
  | 1 => simp only [List.getD_cons_zero, List.getD_cons_succ]; omega
  | 2 => simp only [List.getD_cons_zero, List.getD_cons_succ]; omega
  | 3 => simp only [List.getD_cons_zero, List.getD_cons_succ]; omega
  | k + 4 => simp
theorem prod_l1 {x y : List Int} (hx : x.length = 4) (hy : y.length = 4) (dx : dig x) (dy : dig y) {i : Nat} (hi : i < 4) {P : List Int → Prop}
    (hn : ∀ out : List Int, out.length = 8 → dig out → (∀ k, i + 1 + 4 ≤ k → out.getD k 0 = 0) → valW out = valW (x.take (i + 1)) * valW y → ∃ R, P R ∧ Ev (fun k => heraldref02_product.l0 k out x y 4 ((i + 1 : Nat) : Int)) R) :
    ∀ (d j : Nat) (out : List Int) (c : Int), j + d = 4 → out.length = 8 → dig out → (∀ k, i + 4 ≤ k → out.getD k 0 = 0) → 0 ≤ c → c < 65536 → valW out + c * 65536 ^ (i + j) = valW (x.take i) * valW y + x.getD i 0 * 65536 ^ i * valW (y.take j) → ∃ R, P R ∧ Ev (fun k => heraldref02_product.l1 k out x y (i : Int) c 4 (i : Int) 4 (j : Int)) R := by
  intro d
  induction d with
  | zero =>
    intro j out c hj hl hd hz c0 c1 hv
    obtain rfl : j = 4 := by omega
    have hz4 := hz (i + 4) (by omega)
    have hr : rd out ((i + 4 : Nat) : Int) = 0 := by unfold rd; rw [Int.toNat_natCast]; exact hz4
    obtain ⟨R, hP, hR⟩ := hn (out.set (i + 4) c) (by simpa using hl) (fun k => by
        rw [getD_set _ _ _ _ (by omega)]
        split
        · exact ⟨c0, c1⟩
        · exact hd k) (fun k hk => by
        rw [getD_set _ _ _ _ (by omega), if_neg (by omega)]
        exact hz k (by omega)) (by
        rw [val_set _ _ _ (by omega), hz4, Int.sub_zero, hv, show y.take 4 = y by rw [← hy, List.take_length], val_take x i (by omega), Int.add_mul])
    refine ⟨R, hP, Ev.step (fun k => ?_) hR⟩
    clear hv hR hP R hz hd hn dx dy
    have w : wrap64 ((i : Int) + 4) = ((i + 4 : Nat) : Int) := by rw [wrap64_id' (by omega) (by omega)]; omega
    simp only [heraldref02_product.l1, w, hr, wone (show i ≤ 140737488351232 by omega), Int.toNat_natCast]
    rw [if_neg (by omega), if_pos (by omega), if_pos (by omega), Int.zero_add, umod c0 (by omega)]
  | succ d ih =>
    intro j out c hj hl hd hz c0 c1 hv
    have HV := Aside0.mk hv
    clear hv
    have hj4 : j < 4 := by omega
    have w : wrap64 ((i : Int) + (j : Int)) = ((i + j : Nat) : Int) := by rw [wrap64_id' (by omega) (by omega)]; omega
    have ho := hd (i + j)
    have hxi := dx i
    have hyj := dy j
    have r1 : rd out ((i + j : Nat) : Int) = out.getD (i + j) 0 := by unfold rd; rw [Int.toNat_natCast]
    have r2 : rd x (i : Int) = x.getD i 0 := by unfold rd; rw [Int.toNat_natCast]
    have r3 : rd y (j : Int) = y.getD j 0 := by unfold rd; rw [Int.toNat_natCast]
    obtain ⟨o, hO⟩ : ∃ o, o = out.getD (i + j) 0 := ⟨_, rfl⟩
    obtain ⟨a, hA⟩ : ∃ a, a = x.getD i 0 := ⟨_, rfl⟩
    obtain ⟨e, hE⟩ : ∃ e, e = y.getD j 0 := ⟨_, rfl⟩
    rw [← hO] at ho r1
    rw [← hA] at hxi r2
    rw [← hE] at hyj r3
    have p0 := Int.mul_nonneg hxi.1 hyj.1
    have p1 : a * e ≤ 65535 * 65535 := Int.mul_le_mul (by omega) (by omega) hyj.1 (by omega)
    obtain ⟨n, hn'⟩ : ∃ n, n = o + a * e + c := ⟨_, rfl⟩
    have n0 : 0 ≤ n := by omega
    have n1 : n < 4294967296 := by omega
    obtain ⟨R, hP, hR⟩ := ih (j + 1) (out.set (i + j) (n % 65536)) (n / 65536) (by omega) (by simpa using hl) (fun k => by
        rw [getD_set _ _ _ _ (by omega)]
        split
        · omega
        · exact hd k) (fun k hk => by
        rw [getD_set _ _ _ _ (by omega), if_neg (by omega)]
        exact hz k hk) (by omega) (by omega) (by
        have hv := HV.out
        rw [← hA] at hv
        rw [val_set _ _ _ (by omega), ← hO, val_take y j (by omega), ← hE, ← hA, Int.mul_add, show i + (j + 1) = (i + j) + 1 by omega, Int.pow_succ]
        have e1 : a * 65536 ^ i * (e * 65536 ^ j) = a * e * 65536 ^ (i + j) := by
          rw [Int.pow_add, Int.mul_assoc a, Int.mul_left_comm (65536 ^ i), ← Int.mul_assoc a e]
        rw [e1]
        have e2 : (n % 65536 - o) * 65536 ^ (i + j) + n / 65536 * (65536 ^ (i + j) * 65536) = (a * e + c) * 65536 ^ (i + j) := by
          rw [Int.mul_comm (65536 ^ (i + j)) 65536, ← Int.mul_assoc, ← Int.add_mul]
          congr 1
          omega
        have e3 : (a * e + c) * 65536 ^ (i + j) = a * e * 65536 ^ (i + j) + c * 65536 ^ (i + j) := Int.add_mul _ _ _
        omega)
    refine ⟨R, hP, Ev.step (fun k => ?_) hR⟩
    simp only [heraldref02_product.l1, w, r1, r2, r3, wone (show j ≤ 140737488351232 by omega), Int.toNat_natCast]
    rw [if_pos (by omega), if_pos (by omega), if_pos (by omega), if_pos (by omega), if_pos (by omega), if_pos (by omega), if_pos (by omega), umod (x := a * e) p0 (by omega), umod (x := o + a * e) (by omega) (by omega), umod (x := o + a * e + c) (by omega) (by omega), ← hn', Int.tdiv_eq_ediv_of_nonneg n0, Int.tmod_eq_emod_of_nonneg n0, umod (x := n / 65536) (by omega) (by omega)]
theorem product_f (a b : Int) (a0 : 0 ≤ a) (a1 : a < 18446744073709551616) (b0 : 0 ≤ b) (b1 : b < 18446744073709551616) : ∃ R : List Int, (R.length = 8 ∧ dig R ∧ valW R = a * b) ∧ Ev (fun k => heraldref02_product.f k a b) R := by
  have hx : (digL a).length = 4 := rfl
  have hy : (digL b).length = 4 := rfl
  have key : ∀ (d i : Nat) (out : List Int), i + d = 4 → out.length = 8 → dig out → (∀ k, i + 4 ≤ k → out.getD k 0 = 0) → valW out = valW ((digL a).take i) * valW (digL b) → ∃ R, (R.length = 8 ∧ dig R ∧ valW R = a * b) ∧ Ev (fun k => heraldref02_product.l0 k out (digL a) (digL b) 4 (i : Int)) R := by
    intro d
    induction d with
    | zero =>
      intro i out hi hl hd hz hv
      obtain rfl : i = 4 := by omega
      refine ⟨out, ⟨hl, hd, ?_⟩, Ev.step (f := fun _ => some out) (fun k => ?_) (Ev.now _)⟩
      · rw [hv, show (digL a).take 4 = digL a from rfl, digL_val a0 a1, digL_val b0 b1]
      · simp only [heraldref02_product.l0]; rw [if_neg (by omega)]
    | succ d ih =>
      intro i out hi hl hd hz hv
      obtain ⟨R, hP, hR⟩ := prod_l1 hx hy (digL_dig a) (digL_dig b) (i := i) (by omega) (P := fun R => R.length = 8 ∧ dig R ∧ valW R = a * b) (fun o h1 h2 h3 h4 => ih (i + 1) o (by omega) h1 h2 h3 h4) 4 0 out 0 (by omega) hl hd hz (by omega) (by omega) (by simp [valW, hv])
      refine ⟨R, hP, Ev.step (fun k => ?_) hR⟩
      simp only [heraldref02_product.l0, hy]
      rw [if_pos (by omega)]
      rfl
  obtain ⟨R, hP, hR⟩ := key 4 0 (List.replicate 8 0) (by omega) rfl (fun k => by
    rw [List.getD_eq_getElem?_getD, List.getElem?_replicate]
    split <;> simp) (fun k _ => by
    rw [List.getD_eq_getElem?_getD, List.getElem?_replicate]
    split <;> simp) (by simp [valW, List.replicate])
  refine ⟨R, hP, ?_⟩
  unfold heraldref02_product.f
  simp only [show (8 : Nat) ≤ 35184372088832 by decide, if_true]
  refine Ev.bind (digits_f a a0 a1) ?_
  exact Ev.bind (digits_f b b0 b1) hR

/-! ### a product's floor over a divisor -/
def mulDivS (a b d : Int) : Int × Int := if d < 1 then (0, 21) else if (a < 0) ↔ (b < 0) then (if ((a.natAbs : Int) * b.natAbs) / d > 9223372036854775807 then (0, 23) else (((a.natAbs : Int) * b.natAbs) / d, 0)) else (if ((a.natAbs : Int) * b.natAbs) / d + (if ((a.natAbs : Int) * b.natAbs) % d > 0 then 1 else 0) > 9223372036854775808 then (0, 23) else (-(((a.natAbs : Int) * b.natAbs) / d + (if ((a.natAbs : Int) * b.natAbs) % d > 0 then 1 else 0)), 0))
theorem prod_bound {a b : Int} (ha : I64 a) (hb : I64 b) : 0 ≤ (a.natAbs : Int) * b.natAbs ∧ (a.natAbs : Int) * b.natAbs ≤ 9223372036854775808 * 9223372036854775808 := by
  unfold I64 at ha hb
  exact ⟨Int.mul_nonneg (by omega) (by omega), Int.mul_le_mul (by omega) (by omega) (by omega) (by omega)⟩
theorem MulDiv_f (a b d : Int) (ha : I64 a) (hb : I64 b) (hd : I64 d) : Ev (fun k => fixed_MulDiv.f k a b d) (mulDivS a b d) := by
  have hP := prod_bound ha hb
  unfold fixed_MulDiv.f mulDivS
  by_cases h1 : d < 1
  · rw [if_pos h1]; simp only [h1, if_true]; exact Ev.now _
  rw [if_neg h1]
  simp only [h1, if_false, size_f a ha, size_f b hb, Option.bind_some]
  have hd2 := hd.2
  unfold I64 at ha hb
  have hm : bits_Mul64.f (a.natAbs : Int) (b.natAbs : Int) = some ((a.natAbs : Int) * b.natAbs / 18446744073709551616, (a.natAbs : Int) * b.natAbs % 18446744073709551616) := by
    unfold bits_Mul64.f; rw [if_pos (by omega)]
  simp only [hm, Option.bind_some]
  obtain ⟨P, hPd⟩ : ∃ P, P = (a.natAbs : Int) * b.natAbs := ⟨_, rfl⟩
  rw [← hPd] at hP ⊢
  clear hPd hm
  have dm := Int.emod_add_mul_ediv P 18446744073709551616
  have m0 := Int.emod_nonneg P (show (18446744073709551616 : Int) ≠ 0 by decide)
  have m1 := Int.emod_lt_of_pos P (show (0 : Int) < 18446744073709551616 by decide)
  have wd : IntKind.u64.wrap d = d := umod (by omega) (by omega)
  rw [wd]
  have hdp : 0 < d := by omega
  have q0 : 0 ≤ P / d := Int.ediv_nonneg hP.1 (by omega)
  have r0 := Int.emod_nonneg P (show d ≠ 0 by omega)
  by_cases hg : P / 18446744073709551616 ≥ d
  · simp only [hg, if_true]
    have hbig : 18446744073709551616 ≤ P / d := by
      rw [Int.le_ediv_iff_mul_le hdp]
      have : 18446744073709551616 * d ≤ 18446744073709551616 * (P / 18446744073709551616) := Int.mul_le_mul_of_nonneg_left hg (by decide)
      omega
    have e : (if a < 0 ↔ b < 0 then (if P / d > 9223372036854775807 then ((0 : Int), (23 : Int)) else (P / d, 0)) else (if P / d + (if P % d > 0 then 1 else 0) > 9223372036854775808 then (0, 23) else (-(P / d + (if P % d > 0 then 1 else 0)), 0))) = (0, 23) := by
      split
      · rw [if_pos (by omega)]
      · rw [if_pos (by split <;> omega)]
    rw [e]; exact Ev.now _
  · simp only [hg, if_false]
    have hn : P / 18446744073709551616 * 18446744073709551616 + P % 18446744073709551616 = P := by omega
    have h64 := Div64_f (P / 18446744073709551616) (P % 18446744073709551616) d (Int.ediv_nonneg hP.1 (by decide)) (by omega) m0 m1 (by omega)
    rw [hn] at h64
    refine Ev.bind h64 ?_
    have hqb : P / d < 18446744073709551616 := by
      refine Int.ediv_lt_of_lt_mul hdp ?_
      have : 18446744073709551616 * (P / 18446744073709551616 + 1) ≤ 18446744073709551616 * d := Int.mul_le_mul_of_nonneg_left (by omega) (by decide)
      omega
    obtain ⟨Q, hQ⟩ : ∃ Q, Q = P / d := ⟨_, rfl⟩
    obtain ⟨R, hR⟩ : ∃ R, R = P % d := ⟨_, rfl⟩
    rw [← hQ] at q0 hqb ⊢
    rw [← hR] at r0 ⊢
    clear h64 hn hg m0 m1 dm hP hQ hR P wd
    by_cases hs : a < 0 ↔ b < 0
    · have hb2 : (decide (a < 0) == decide (b < 0)) = true := by simp [hs]
      rw [if_pos hs]
      simp only [hb2, if_true]
      by_cases hq : Q > 9223372036854775807
      · simp only [hq, if_true]; exact Ev.now _
      · simp only [hq, if_false]
        rw [wrap64_id' (by omega) (by omega)]; exact Ev.now _
    · have hb2 : ¬ (decide (a < 0) == decide (b < 0)) = true := by simpa using hs
      rw [if_neg hs]
      simp only [hb2, if_false]
      by_cases hr : R > 0
      · simp only [hr, if_true]
        by_cases hq : Q + 1 > 9223372036854775808
        · simp only [hq, if_true]
          by_cases hq2 : Q + 1 = 18446744073709551616
          · have w : IntKind.u64.wrap (Q + 1) = 0 := by rw [uwrap, hq2]; rfl
            simp only [w, show ¬ ((0 : Int) > 9223372036854775808) by decide, if_false, if_true]; exact Ev.now _
          · have w : IntKind.u64.wrap (Q + 1) = Q + 1 := umod (by omega) (by omega)
            simp only [w, hq, if_true]; exact Ev.now _
        · simp only [hq, if_false]
          have w : IntKind.u64.wrap (Q + 1) = Q + 1 := umod (by omega) (by omega)
          simp only [w, hq, if_false, show ¬ (Q + 1 = 0) by omega]
          have w2 : wrap64 (-(wrap64 (Q + 1))) = -(Q + 1) := by
            rw [wrap64_def, wrap64_def]; omega
          rw [w2]; exact Ev.now _
      · simp only [hr, if_false, Int.add_zero]
        by_cases hq : Q > 9223372036854775808
        · simp only [hq, if_true]; exact Ev.now _
        · simp only [hq, if_false]
          have w2 : wrap64 (-(wrap64 Q)) = -Q := by
            rw [wrap64_def, wrap64_def]; omega
          simp only [w2, ite_self]; exact Ev.now _

theorem bit_of (z : Int) (h0 : 0 ≤ z) : ∀ e : Nat, e < 16 → (z % 65536) / 2 ^ e % 2 = z / 2 ^ e % 2 := by
  intro e he
  have : e = 0 ∨ e = 1 ∨ e = 2 ∨ e = 3 ∨ e = 4 ∨ e = 5 ∨ e = 6 ∨ e = 7 ∨ e = 8 ∨ e = 9 ∨ e = 10 ∨ e = 11 ∨ e = 12 ∨ e = 13 ∨ e = 14 ∨ e = 15 := by omega
  rcases this with rfl | rfl | rfl | rfl | rfl | rfl | rfl | rfl | rfl | rfl | rfl | rfl | rfl | rfl | rfl | rfl <;> omega
theorem bit_at {all : List Int} (hd : dig all) (hl : all.length = 8) (i : Nat) (hi : i < 128) : Go.bits .and .u64 (shr .u64 (rd all ((i / 16 : Nat) : Int)) ((i % 16 : Nat) : Int)) 1 = valW all / 2 ^ i % 2 := by
  have hv := val_nonneg all hd
  have hdi := val_digit all (i / 16) hd
  have hb := hd (i / 16)
  have r : rd all ((i / 16 : Nat) : Int) = all.getD (i / 16) 0 := by unfold rd; rw [Int.toNat_natCast]
  have s : ∀ x : Int, shr .u64 x ((i % 16 : Nat) : Int) = x / 2 ^ (i % 16) := fun x => by
    unfold shr
    rw [Int.toNat_natCast, show min (i % 16) (IntKind.bits .u64) = i % 16 from Nat.min_eq_left (by show i % 16 ≤ 64; omega)]
  have p0 : (0 : Int) < 2 ^ (i % 16) := Int.pow_pos (by decide)
  have x0 : 0 ≤ all.getD (i / 16) 0 / 2 ^ (i % 16) := Int.ediv_nonneg hb.1 (by omega)
  have x1 : all.getD (i / 16) 0 / 2 ^ (i % 16) ≤ all.getD (i / 16) 0 := Int.ediv_le_self _ hb.1
  have wr : ∀ m : Int, 0 ≤ m → m < 2 ^ 64 → IntKind.u64.wrap m = m := fun m a c => umod a (Int.lt_of_lt_of_le c (by decide))
  have an : Go.bits .and .u64 (all.getD (i / 16) 0 / 2 ^ (i % 16)) 1 = all.getD (i / 16) 0 / 2 ^ (i % 16) % 2 :=
    bits_mask .u64 64 (by decide) wr 1 (by decide) _ x0 (Int.lt_of_lt_of_le (show all.getD (i / 16) 0 / 2 ^ (i % 16) < 18446744073709551616 by omega) (by decide))
  rw [r, s, an, ← hdi, bit_of _ (Int.ediv_nonneg hv (by exact Int.le_of_lt (Int.pow_pos (by decide)))) _ (Nat.mod_lt _ (by decide)), show (65536 : Int) = 2 ^ 16 by rfl, ← Int.pow_mul, Int.ediv_ediv_of_nonneg (Int.le_of_lt (Int.pow_pos (by decide))), ← Int.pow_add, show 16 * (i / 16) + i % 16 = i by omega]
theorem rMulDiv_f (a b d : Int) (ha : I64 a) (hb : I64 b) (hd : I64 d) : Ev (fun k => heraldref02_MulDiv.f k a b d) (mulDivS a b d) := by
  have hP := prod_bound ha hb
  unfold heraldref02_MulDiv.f
  by_cases h1 : d < 1
  · have e : mulDivS a b d = (0, 21) := by unfold mulDivS; rw [if_pos h1]
    rw [e]; simp only [h1, if_true]; exact Ev.now _
  simp only [h1, if_false, rsize_f a ha, rsize_f b hb, Option.bind_some]
  have hd2 := hd.2
  have hdp : 0 < d := by omega
  obtain ⟨all, ⟨al, ad, av⟩, hall⟩ := product_f (a.natAbs : Int) (b.natAbs : Int) (by omega) (by unfold I64 at ha; omega) (by omega) (by unfold I64 at hb; omega)
  refine Ev.bind hall ?_
  obtain ⟨P, hPd⟩ : ∃ P, P = (a.natAbs : Int) * b.natAbs := ⟨_, rfl⟩
  rw [← hPd] at hP av
  have hP2 : P < 2 ^ 127 := Int.lt_of_le_of_lt hP.2 (by decide)
  have wd : IntKind.u64.wrap d = d := umod (by omega) (by omega)
  -- the end
  have fin : ∀ (q : Int) (g : Bool), (g = true ↔ P / d ≥ 18446744073709551616) → (g = false → q = P / d) → Ev (fun k => heraldref02_MulDiv.l0 k a b d all q (P % d) g (-1)) (mulDivS a b d) := by
    intro q g hg hq
    have q0 : 0 ≤ P / d := Int.ediv_nonneg hP.1 (by omega)
    have r0 := Int.emod_nonneg P (show d ≠ 0 by omega)
    have hS : mulDivS a b d = if (a < 0) ↔ (b < 0) then (if P / d > 9223372036854775807 then (0, 23) else (P / d, 0)) else (if P / d + (if P % d > 0 then 1 else 0) > 9223372036854775808 then (0, 23) else (-(P / d + (if P % d > 0 then 1 else 0)), 0)) := by
      unfold mulDivS; rw [if_neg h1, ← hPd]
    rw [hS]
    obtain ⟨Q, hQ⟩ : ∃ Q, Q = P / d := ⟨_, rfl⟩
    obtain ⟨R, hR⟩ : ∃ R, R = P % d := ⟨_, rfl⟩
    rw [← hQ] at q0 hg hq ⊢
    rw [← hR] at r0 ⊢
    clear hS hQ hR
    obtain ⟨RES, hRES⟩ : ∃ z, z = (if (a < 0) ↔ (b < 0) then (if Q > 9223372036854775807 then ((0 : Int), (23 : Int)) else (Q, 0)) else (if Q + (if R > 0 then 1 else 0) > 9223372036854775808 then (0, 23) else (-(Q + (if R > 0 then 1 else 0)), 0))) := ⟨_, rfl⟩
    rw [← hRES]
    have same : (a < 0 ↔ b < 0) → ∀ (J : Nat → Int → Bool → Bool → Option (Int × Int)), (∀ k q x y, J (k + 1) q x y = if y = true then (some (0, 23)) else (if x = true then (some (wrap64 (IntKind.u64.wrap (-q)), 0)) else (some (wrap64 q, 0)))) → Ev (fun k => if g = true then J k q false true else (if q > 9223372036854775808 then J k q false true else J k q false (q == 9223372036854775808))) RES := by
      intro hs J hJ
      rw [hRES, if_pos hs]
      cases g with
      | true =>
        have := hg.1 rfl
        rw [if_pos (by omega)]
        simp only [if_true]
        exact Ev.step (f := fun _ => some (0, 23)) (fun k => by rw [hJ]; rfl) (Ev.now _)
      | false =>
        have e := hq rfl
        subst e
        have hlt : ¬ q ≥ 18446744073709551616 := fun h => by have := hg.2 h; cases this
        simp only [Bool.false_eq_true, if_false]
        by_cases h2 : q > 9223372036854775808
        · rw [if_pos (by omega)]
          simp only [h2, if_true]
          exact Ev.step (f := fun _ => some (0, 23)) (fun k => by rw [hJ]; rfl) (Ev.now _)
        · simp only [h2, if_false]
          by_cases h3 : q = 9223372036854775808
          · rw [if_pos (by omega)]
            exact Ev.step (f := fun _ => some (0, 23)) (fun k => by rw [hJ, h3]; rfl) (Ev.now _)
          · rw [if_neg (by omega)]
            have e3 : (q == 9223372036854775808) = false := beq_eq_false_iff_ne.mpr h3
            exact Ev.step (f := fun _ => some (q, 0)) (fun k => by rw [hJ, e3, wrap64_id' (x := q) (by omega) (by omega)]; rfl) (Ev.now _)
    have other : ¬ (a < 0 ↔ b < 0) → ∀ (J2 J3 : Nat → Int → Bool → Bool → Option (Int × Int)), (∀ k q x y, J3 (k + 1) q x y = if y = true then (some (0, 23)) else (if x = true then (some (wrap64 (IntKind.u64.wrap (-q)), 0)) else (some (wrap64 q, 0)))) → (∀ k q x y, J2 (k + 1) q x y = if x = true then (J3 k q y true) else (if q > 9223372036854775808 then (J3 k q y true) else (if y = true then (J3 k q y false) else (J3 k q y (q == 9223372036854775808))))) → Ev (fun k => if R > 0 then (if g = true then J2 k (IntKind.u64.wrap (q + 1)) true true else J2 k (IntKind.u64.wrap (q + 1)) (decide (q ≥ 9223372036854775808)) true) else J2 k q g true) RES := by
      intro hs J2 J3 hJ3 hJ2
      rw [hRES, if_neg hs]
      have great : ∀ z, Ev (fun k => J2 k z true true) ((0 : Int), (23 : Int)) := fun z =>
        Ev.step (f := fun k => J3 k z true true) (fun k => by rw [hJ2]; rfl) (Ev.step (f := fun _ => some (0, 23)) (fun k => by rw [hJ3]; rfl) (Ev.now _))
      have fine : ∀ z, 0 ≤ z → z ≤ 9223372036854775808 → Ev (fun k => J2 k z false true) (-z, (0 : Int)) := fun z z0 z1 => by
        refine Ev.step (f := fun k => J3 k z true false) (fun k => by rw [hJ2, if_neg (by decide), if_neg (by omega)]; rfl) ?_
        refine Ev.step (f := fun _ => some (-z, 0)) (fun k => ?_) (Ev.now _)
        rw [hJ3, if_neg (by decide), if_pos rfl]
        have : wrap64 (IntKind.u64.wrap (-z)) = -z := by rw [uwrap, wrap64_def]; omega
        rw [this]
      have over : ∀ z, z > 9223372036854775808 → Ev (fun k => J2 k z false true) ((0 : Int), (23 : Int)) := fun z z1 => by
        refine Ev.step (f := fun k => J3 k z true true) (fun k => by rw [hJ2, if_neg (by decide), if_pos z1]) ?_
        exact Ev.step (f := fun _ => some (0, 23)) (fun k => by rw [hJ3]; rfl) (Ev.now _)
      cases g with
      | true =>
        have := hg.1 rfl
        simp only [if_true]
        by_cases hr : R > 0
        · simp only [hr, if_true]
          rw [if_pos (by omega)]; exact great _
        · simp only [hr, if_false]
          rw [if_pos (by omega)]; exact great _
      | false =>
        have e := hq rfl
        subst e
        have hlt : ¬ q ≥ 18446744073709551616 := fun h => by have := hg.2 h; cases this
        simp only [Bool.false_eq_true, if_false]
        by_cases hr : R > 0
        · simp only [hr, if_true]
          by_cases h2 : q ≥ 9223372036854775808
          · simp only [h2, decide_true]
            rw [if_pos (by omega)]; exact great _
          · simp only [h2, decide_false]
            rw [if_neg (by omega), umod (x := q + 1) (by omega) (by omega)]
            exact fine _ (by omega) (by omega)
        · simp only [hr, if_false, Int.add_zero]
          by_cases h2 : q > 9223372036854775808
          · rw [if_pos h2]; exact over _ h2
          · rw [if_neg h2]; exact fine _ (by omega) (by omega)
    refine ev_succ ?_
    simp only [heraldref02_MulDiv.l0, show ¬ ((-1 : Int) ≥ 0) by decide, if_false]
    by_cases ca : a < 0
    · simp only [ca, if_true]
      by_cases cb : b < 0
      · simp only [cb, if_true]
        exact same (by simp [ca, cb]) heraldref02_MulDiv.j1 (fun k q x y => by simp only [heraldref02_MulDiv.j1])
      · simp only [cb, if_false]
        exact other (by simp [ca, cb]) heraldref02_MulDiv.j2 heraldref02_MulDiv.j3 (fun k q x y => by simp only [heraldref02_MulDiv.j3]) (fun k q x y => by simp only [heraldref02_MulDiv.j2])
    · simp only [ca, if_false]
      by_cases cb : b < 0
      · simp only [cb, if_true]
        exact other (by simp [ca, cb]) heraldref02_MulDiv.j4 heraldref02_MulDiv.j5 (fun k q x y => by simp only [heraldref02_MulDiv.j5]) (fun k q x y => by simp only [heraldref02_MulDiv.j4])
      · simp only [cb, if_false]
        exact same (by simp [ca, cb]) heraldref02_MulDiv.j6 (fun k q x y => by simp only [heraldref02_MulDiv.j6])
  -- bit by bit
  have key : ∀ (i : Nat), i ≤ 128 → ∀ (q : Int) (g : Bool), (g = true ↔ P / 2 ^ i / d ≥ 18446744073709551616) → (g = false → q = P / 2 ^ i / d) → Ev (fun k => heraldref02_MulDiv.l0 k a b d all q (P / 2 ^ i % d) g ((i : Int) - 1)) (mulDivS a b d) := by
    intro i
    induction i with
    | zero =>
      intro _ q g hg hq
      rw [Int.pow_zero, Int.ediv_one] at hg hq ⊢
      exact fin q g hg hq
    | succ m ih =>
      intro hm q g hg hq
      have e1 : ((m + 1 : Nat) : Int) - 1 = (m : Int) := by omega
      rw [e1]
      have hbit := bit_at ad al m (by omega)
      rw [av] at hbit
      have hN0 : 0 ≤ P / 2 ^ (m + 1) := Int.ediv_nonneg hP.1 (Int.le_of_lt (Int.pow_pos (by decide)))
      have hNm : P / 2 ^ (m + 1) = P / 2 ^ m / 2 := by rw [Int.pow_succ, Int.ediv_ediv_of_nonneg (Int.le_of_lt (Int.pow_pos (by decide)))]
      obtain ⟨N, hN⟩ : ∃ N, N = P / 2 ^ (m + 1) := ⟨_, rfl⟩
      obtain ⟨M, hM⟩ : ∃ M, M = P / 2 ^ m := ⟨_, rfl⟩
      rw [← hM] at hbit hNm ih
      rw [← hN] at hNm hN0 hg hq ⊢
      obtain ⟨t, ht⟩ : ∃ t, t = M % 2 := ⟨_, rfl⟩
      rw [← ht] at hbit
      have hMN : M = 2 * N + t := by omega
      have t0 : 0 ≤ t ∧ t ≤ 1 := by omega
      have Rdm := Int.emod_add_mul_ediv N d
      have R0 := Int.emod_nonneg N (show d ≠ 0 by omega)
      have R1 := Int.emod_lt_of_pos N hdp
      have Q0 : 0 ≤ N / d := Int.ediv_nonneg hN0 (by omega)
      have hM2 : M = 2 * (N % d) + t + d * (2 * (N / d)) := by
        rw [Int.mul_left_comm]; omega
      have w1 : wrap64 (Int.tdiv (m : Int) 16) = ((m / 16 : Nat) : Int) := by
        rw [Int.tdiv_eq_ediv_of_nonneg (by omega), wrap64_id' (by omega) (by omega)]; omega
      have w2 : IntKind.u64.wrap (Int.tmod (m : Int) 16) = ((m % 16 : Nat) : Int) := by
        rw [Int.tmod_eq_emod_of_nonneg (by omega), umod (by omega) (by omega)]; omega
      have w3 : wrap64 ((m : Int) - 1) = (m : Int) - 1 := wrap64_id' (by omega) (by omega)
      have w4 : IntKind.u64.wrap (2 * (N % d)) = 2 * (N % d) := umod (by omega) (by omega)
      have w5 : IntKind.u64.wrap (2 * (N % d) + t) = 2 * (N % d) + t := umod (by omega) (by omega)
      refine ev_succ ?_
      simp only [heraldref02_MulDiv.l0, w1, w2, w3, hbit, w4, w5, wd, show (m : Int) ≥ 0 by omega, show (0 : Int) ≤ ((m / 16 : Nat) : Int) by omega, show ((m / 16 : Nat) : Int) < (all.length : Int) by omega, show (0 : Int) ≤ ((m % 16 : Nat) : Int) by omega, if_true]
      have m0 : (0 : Int) ≤ 9223372036854775808 := by decide
      by_cases hge : 2 * (N % d) + t ≥ d
      · have eQ : M / d = 2 * (N / d) + 1 := by
          rw [hM2, Int.add_mul_ediv_left _ _ (by omega)]
          have : (2 * (N % d) + t) / d = 1 := by
            have := Int.add_mul_ediv_left (2 * (N % d) + t - d) (1 : Int) (show d ≠ 0 by omega)
            have z : (2 * (N % d) + t - d) / d = 0 := Int.ediv_eq_zero_of_lt (by omega) (by omega)
            rw [Int.mul_one, show 2 * (N % d) + t - d + d = 2 * (N % d) + t by omega, z] at this
            omega
          omega
        have eR : M % d = 2 * (N % d) + t - d := by
          rw [hM2, Int.add_mul_emod_self_left]
          have := Int.add_mul_emod_self_left (2 * (N % d) + t - d) d 1
          rw [Int.mul_one, show 2 * (N % d) + t - d + d = 2 * (N % d) + t by omega] at this
          rw [this]; exact Int.emod_eq_of_lt (by omega) (by omega)
        have w6 : IntKind.u64.wrap (2 * (N % d) + t - d) = 2 * (N % d) + t - d := umod (by omega) (by omega)
        simp only [hge, if_true, w6]
        rw [← eR]
        cases g with
        | true =>
          simp only [if_true]
          exact ih (by omega) _ true ⟨fun _ => by have := hg.1 rfl; omega, fun _ => rfl⟩ (fun h => by cases h)
        | false =>
          have e := hq rfl
          have hlt : ¬ N / d ≥ 18446744073709551616 := fun h => by have := hg.2 h; cases this
          simp only [Bool.false_eq_true, if_false]
          refine ih (by omega) _ _ ⟨fun h => by have := of_decide_eq_true h; omega, fun h => decide_eq_true (by omega)⟩ (fun h => ?_)
          have := of_decide_eq_false h
          rw [umod (x := q * 2) (by omega) (by omega), umod (x := q * 2 + 1) (by omega) (by omega)]; omega
      · have eQ : M / d = 2 * (N / d) := by
          rw [hM2, Int.add_mul_ediv_left _ _ (by omega), Int.ediv_eq_zero_of_lt (by omega) (by omega)]; omega
        have eR : M % d = 2 * (N % d) + t := by
          rw [hM2, Int.add_mul_emod_self_left]; exact Int.emod_eq_of_lt (by omega) (by omega)
        simp only [hge, if_false]
        rw [← eR]
        cases g with
        | true =>
          simp only [if_true]
          exact ih (by omega) _ true ⟨fun _ => by have := hg.1 rfl; omega, fun _ => rfl⟩ (fun h => by cases h)
        | false =>
          have e := hq rfl
          have hlt : ¬ N / d ≥ 18446744073709551616 := fun h => by have := hg.2 h; cases this
          simp only [Bool.false_eq_true, if_false]
          refine ih (by omega) _ _ ⟨fun h => by have := of_decide_eq_true h; omega, fun h => decide_eq_true (by omega)⟩ (fun h => ?_)
          have := of_decide_eq_false h
          rw [umod (x := q * 2) (by omega) (by omega)]; omega
  have h128 : P / 2 ^ 128 = 0 := Int.ediv_eq_zero_of_lt hP.1 (Int.lt_of_lt_of_le hP2 (by decide))
  have := key 128 (by omega) 0 false (by rw [h128]; simp) (fun _ => by rw [h128]; simp)
  rw [h128, Int.zero_emod] at this
  exact this
end Go.Proofs.Ytbldlfmblalchaa.L
