/- Lemmas on the printed functions: what each answers, in plain words of Lean; on condition that the numbers are of their kinds. -/
import Derived.Test.YtmpldbccohdnjaaPx1
import Derived.Test.YtmpldbccohdnjaaPx10
import Derived.Test.YtmpldbccohdnjaaPx11
import Derived.Test.YtmpldbccohdnjaaPx12
import Derived.Test.YtmpldbccohdnjaaPx13
import Derived.Test.YtmpldbccohdnjaaPx15
import Derived.Test.YtmpldbccohdnjaaPx16
import Derived.Test.YtmpldbccohdnjaaPx2
import Derived.Test.YtmpldbccohdnjaaPx3
import Derived.Test.YtmpldbccohdnjaaPx4
import Derived.Test.YtmpldbccohdnjaaPx5
import Derived.Test.YtmpldbccohdnjaaPx6
import Derived.Test.YtmpldbccohdnjaaPx7
import Derived.Test.YtmpldbccohdnjaaPx8
import Derived.Test.YtmpldbccohdnjaaPx9
import Derived.Test.YtmpldbccohdnjaaMath
namespace Go.Proofs.Ytmpldbccohdnjaa.L
open Go Go.RowKit Go.Proofs.Ytmpldbccohdnjaa.M Go.Proofs.Ytmpldbccohdnjaa.P Go.Proofs.YtmpldbccohdnjaaW.PrintWords Go.Proofs.YtmpldbccohdnjaaW.PrintLast Go.Proofs.YtmpldbccohdnjaaW.PrintMore
set_option linter.unusedVariables false
set_option linter.unusedSimpArgs false

/-- A loop by its places: what is known at each place, and what comes of the rest. -/
theorem ev_loop {β : Type} (F : Nat → Nat → Option β) (r : β) (n : Nat) (P : Nat → Prop) (h0 : P 0) (hend : P n → Ev (fun k => F k n) r) (hstep : ∀ i, i < n → P i → (P (i + 1) → Ev (fun k => F k (i + 1)) r) → Ev (fun k => F k i) r) : Ev (fun k => F k 0) r := by
  have key : ∀ d i, i + d = n → P i → Ev (fun k => F k i) r := by
    intro d
    induction d with
    | zero => intro i hi hp; obtain rfl : i = n := by omega
              exact hend hp
    | succ d ih => intro i hi hp; exact hstep i (by omega) hp (fun hp' => ih (i + 1) (by omega) hp')
  exact key n 0 (by omega) h0
theorem ev_succ {β : Type} {g : Nat → Option β} {r : β} (h : Ev (fun k => g (k + 1)) r) : Ev g r := Ev.step (fun _ => rfl) h
theorem rd_at {l : List Int} {i : Nat} (h : i < l.length) : rd l (i : Int) = l[i] := by
  unfold rd; simp [List.getD_eq_getElem?_getD, h]
theorem rd_all {p : Int → Prop} {l : List Int} (h : ∀ x ∈ l, p x) (h0 : p 0) (i : Int) : p (rd l i) := by
  unfold rd
  rw [List.getD_eq_getElem?_getD]
  by_cases c : i.toNat < l.length
  · rw [List.getElem?_eq_getElem c]; exact h _ (List.getElem_mem c)
  · rw [List.getElem?_eq_none (by omega)]; exact h0
theorem rd_i8 {l : List Int} (h : ∀ x ∈ l, I8 x) (i : Int) : I8 (rd l i) := rd_all h ⟨by omega, by omega⟩ i
theorem take_one {α : Type} {l : List α} {i : Nat} (h : i < l.length) : l.take (i + 1) = l.take i ++ [l[i]] := by
  rw [List.take_add_one]; simp [h]
theorem rng_snoc {α : Type} (g : Nat → α) (i : Nat) : (List.range (i + 1)).map g = (List.range i).map g ++ [g i] := by
  rw [List.range_succ]; simp
theorem set_mid0 {α : Type} (a : List α) (x v : α) (b : List α) (i : Nat) (hi : i = a.length) : (a ++ x :: b).set i v = (a ++ [v]) ++ b := by
  subst hi; simp
/-- One place of a list that is filled from the left. -/
theorem rng_set {g : Nat → Int} {n i : Nat} (h : i < n) : ((List.range i).map g ++ List.replicate (n - i) 0).set i (g i) = (List.range (i + 1)).map g ++ List.replicate (n - (i + 1)) 0 := by
  rw [show n - i = (n - (i + 1)) + 1 by omega, List.replicate_succ, set_mid0 _ _ _ _ _ (by simp), rng_snoc]
theorem rng_take {l : List Int} : ∀ {i : Nat}, i ≤ l.length → (List.range i).map (fun j : Nat => rd l j) = l.take i
  | 0, _ => by simp
  | i + 1, h => by rw [rng_snoc, rng_take (by omega), take_one (by omega), rd_at (by omega)]
theorem wone {a : Nat} (h : a ≤ 140737488351232) : wrap64 ((a : Int) + 1) = ((a + 1 : Nat) : Int) := by
  rw [wrap64_id' (by omega) (by omega)]; omega
theorem i8_mul {x y : Int} (hx : I8 x) (hy : I8 y) : -16384 ≤ x * y ∧ x * y ≤ 16384 := by
  unfold I8 at *
  have e : (x * y).natAbs = x.natAbs * y.natAbs := Int.natAbs_mul x y
  have : x.natAbs * y.natAbs ≤ 128 * 128 := Nat.mul_le_mul (by omega) (by omega)
  omega

theorem Floor_f (a d : Int) (ha : I64 a) (hd : I64 d) : fixed_Floor.f a d = some (floorS a d) := by
  unfold fixed_Floor.f; exact floor_code a d ha hd

theorem rFloor_f (a d : Int) (ha : I64 a) (hd : I64 d) : heraldref02_Floor.f a d = some (floorS a d) := by
  unfold heraldref02_Floor.f; exact floor_code a d ha hd

def clamp (x lo hi : Int) : Int := if x < lo then lo else if x > hi then hi else x
def narrow (x : Int) : Int := clamp x (-127) 127
theorem narrow_in (x : Int) : -127 ≤ narrow x ∧ narrow x ≤ 127 := by
  unfold narrow clamp; repeat' split
  all_goals omega
theorem narrow_i8 (x : Int) : IntKind.i8.wrap (clamp x (-127) 127) = narrow x := by
  have h := narrow_in x
  exact i8wrap_id ⟨by unfold narrow at h; omega, by unfold narrow at h; omega⟩

def exc (t : Int) : Int := 1073741824 + (747400624 + (241400000 + 84941200 * t / 65536) * t / 65536) * t / 65536
def ex (x : Int) : Int := exp2S (if x < 0 then x else 0)
theorem Exp2_f (x : Int) (h : I64 x) : fixed_Exp2.f x = some (ex x) := by
  unfold fixed_Exp2.f ex; exact if_pos h
theorem exc_bounds (t : Int) (h0 : 0 ≤ t) (h1 : t ≤ 65535) : (0 ≤ 84941200 * t / 65536 ∧ 84941200 * t / 65536 ≤ 84941200) ∧ (0 ≤ (241400000 + 84941200 * t / 65536) * t ∧ (241400000 + 84941200 * t / 65536) * t ≤ 326341200 * 65535) ∧ (0 ≤ (747400624 + (241400000 + 84941200 * t / 65536) * t / 65536) * t ∧ (747400624 + (241400000 + 84941200 * t / 65536) * t / 65536) * t ≤ 1073741824 * 65535) := by
  have a : 0 ≤ 84941200 * t / 65536 ∧ 84941200 * t / 65536 ≤ 84941200 := by omega
  have b : 0 ≤ (241400000 + 84941200 * t / 65536) * t ∧ (241400000 + 84941200 * t / 65536) * t ≤ 326341200 * 65535 := ⟨Int.mul_nonneg (by omega) h0, Int.mul_le_mul (by omega) h1 h0 (by omega)⟩
  exact ⟨a, b, Int.mul_nonneg (by omega) h0, Int.mul_le_mul (by omega) h1 h0 (by omega)⟩
theorem exc_in (t : Int) (h0 : 0 ≤ t) (h1 : t ≤ 65535) : 1073741824 ≤ exc t ∧ exc t ≤ 2147483647 := by
  have := exc_bounds t h0 h1
  unfold exc; omega
theorem exc_zero : exc 0 = 1073741824 := rfl
theorem exc_mono {s t : Int} (h0 : 0 ≤ s) (h : s ≤ t) (h1 : t ≤ 65535) : exc s ≤ exc t := by
  have bs := exc_bounds s h0 (by omega)
  have bt := exc_bounds t (by omega) h1
  have a : 84941200 * s / 65536 ≤ 84941200 * t / 65536 := by omega
  have b : (241400000 + 84941200 * s / 65536) * s ≤ (241400000 + 84941200 * t / 65536) * t := Int.mul_le_mul (by omega) h h0 (by omega)
  have c : (747400624 + (241400000 + 84941200 * s / 65536) * s / 65536) * s ≤ (747400624 + (241400000 + 84941200 * t / 65536) * t / 65536) * t := Int.mul_le_mul (by omega) h h0 (by omega)
  unfold exc; omega
theorem ex_div (x : Int) (h : x ≤ 0) : ex x = exc (x % 65536) / 2 ^ (-(x / 65536)).toNat := by
  have e : (if x < 0 then x else 0) = x := by split <;> omega
  have hc := exc_in (x % 65536) (by omega) (by omega)
  unfold ex; rw [e]; unfold exp2S
  split
  · rename_i hq
    obtain ⟨n, hn⟩ : ∃ n, (-(x / 65536)).toNat = 31 + n := ⟨(-(x / 65536)).toNat - 31, by omega⟩
    have hp : (2 : Int) ^ (31 + n) = 2147483648 * 2 ^ n := by rw [Int.pow_add]; rfl
    have h1 : (0 : Int) < 2 ^ n := Int.pow_pos (by omega)
    rw [hn]
    exact (Int.ediv_eq_zero_of_lt (by omega) (by omega)).symm
  · rfl
theorem ex_pos (x : Int) (h : 0 ≤ x) : ex x = 1073741824 := by
  have e : (if x < 0 then x else 0) = 0 := by split <;> omega
  unfold ex; rw [e]; rfl
theorem ex_in (x : Int) : 0 ≤ ex x ∧ ex x ≤ 1073741824 := by
  by_cases h : 0 ≤ x
  · rw [ex_pos x h]; omega
  · rw [ex_div x (by omega)]
    have hc := exc_in (x % 65536) (by omega) (by omega)
    obtain ⟨n, hn⟩ : ∃ n, (-(x / 65536)).toNat = n + 1 := ⟨(-(x / 65536)).toNat - 1, by omega⟩
    have hp : (2 : Int) ^ (n + 1) = 2 ^ n * 2 := Int.pow_succ _ _
    have h1 : (0 : Int) < 2 ^ n := Int.pow_pos (by omega)
    rw [hn]
    refine ⟨Int.ediv_nonneg (by omega) (by omega), ?_⟩
    have : exc (x % 65536) / 2 ^ (n + 1) < 1073741825 := by
      rw [Int.ediv_lt_iff_lt_mul (by omega)]; omega
    omega
theorem ex_mono {x y : Int} (h : x ≤ y) : ex x ≤ ex y := by
  by_cases hy : 0 ≤ y
  · rw [ex_pos y hy]; exact (ex_in x).2
  · rw [ex_div x (by omega), ex_div y (by omega)]
    have cx := exc_in (x % 65536) (by omega) (by omega)
    have cy := exc_in (y % 65536) (by omega) (by omega)
    by_cases hq : x / 65536 = y / 65536
    · rw [hq]
      have hp : (0 : Int) < 2 ^ (-(y / 65536)).toNat := Int.pow_pos (by omega)
      exact Int.ediv_le_ediv hp (exc_mono (by omega) (by omega) (by omega))
    · obtain ⟨n, hn⟩ : ∃ n, (-(x / 65536)).toNat = (-(y / 65536)).toNat + 1 + n := ⟨(-(x / 65536)).toNat - (-(y / 65536)).toNat - 1, by omega⟩
      rw [hn]
      have hp : (0 : Int) < 2 ^ (-(y / 65536)).toNat := Int.pow_pos (by omega)
      have hp2 : (0 : Int) < 2 ^ n := Int.pow_pos (by omega)
      have e : (2 : Int) ^ ((-(y / 65536)).toNat + 1 + n) = 2 * 2 ^ (-(y / 65536)).toNat * 2 ^ n := by
        rw [Int.pow_add, Int.pow_succ]; grind
      rw [e, ← Int.ediv_ediv_of_nonneg (by omega), ← Int.ediv_ediv_of_nonneg (by omega)]
      have a : exc (x % 65536) / 2 / 2 ^ (-(y / 65536)).toNat ≤ exc (y % 65536) / 2 ^ (-(y / 65536)).toNat := Int.ediv_le_ediv hp (by omega)
      have c : exc (x % 65536) / 2 / 2 ^ (-(y / 65536)).toNat / 2 ^ n ≤ exc (x % 65536) / 2 / 2 ^ (-(y / 65536)).toNat := Int.ediv_le_self _ (Int.ediv_nonneg (by omega) (by omega))
      omega
theorem ex_half (x : Int) (h : x ≤ 0) : ex (x - 65536) = ex x / 2 := by
  rw [ex_div x h, ex_div (x - 65536) (by omega)]
  have e1 : (x - 65536) % 65536 = x % 65536 := by omega
  have e2 : (-((x - 65536) / 65536)).toNat = (-(x / 65536)).toNat + 1 := by omega
  have hp : (0 : Int) < 2 ^ (-(x / 65536)).toNat := Int.pow_pos (by omega)
  rw [e1, e2, Int.pow_succ, ← Int.ediv_ediv_of_nonneg (by omega)]
theorem ex_whole (n : Int) (h : 0 ≤ n) : ex (-65536 * n) = 1073741824 / 2 ^ n.toNat := by
  rw [ex_div _ (by omega)]
  have e1 : (-65536 * n) % 65536 = 0 := by omega
  have e2 : (-((-65536 * n) / 65536)) = n := by omega
  rw [e1, e2, exc_zero]

theorem rExp2_l (n : Nat) (hn : n ≤ 62) : ∀ (d i : Nat) (c : Int), i + d = n → 0 ≤ c → c ≤ 2147483647 → Ev (fun k => heraldref02_Exp2.l0 k n c i) (c / 2 ^ d) := by
  intro d
  induction d with
  | zero =>
    intro i c hi h0 h1
    refine Ev.step (f := fun _ => some c) (fun k => ?_) (by simpa using Ev.now c)
    simp only [heraldref02_Exp2.l0]; rw [if_neg (by omega)]
  | succ d ih =>
    intro i c hi h0 h1
    have hp : (0 : Int) < 2 ^ d := Int.pow_pos (by omega)
    have e : c / 2 ^ (d + 1) = c / 2 / 2 ^ d := by rw [Int.pow_succ, Int.mul_comm, Int.ediv_ediv_of_nonneg (by omega)]
    rw [e]
    refine Ev.step (fun k => ?_) (ih (i + 1) (c / 2) (by omega) (by omega) (by omega))
    simp only [heraldref02_Exp2.l0]
    rw [if_pos (by omega), Int.tdiv_eq_ediv_of_nonneg h0, wrap64_id' (x := c / 2) (by omega) (by omega), wrap64_id' (by omega) (by omega)]; rfl
theorem rExp2_j (x : Int) (h0 : -9223372036854775808 ≤ x) (h1 : x ≤ 0) : Ev (fun k => heraldref02_Exp2.j0 k x) (exp2S x) := by
  have hf := rFloor_f x 65536 ⟨h0, by omega⟩ ⟨by omega, by omega⟩
  have e : floorS x 65536 = (x / 65536, x % 65536, 0) := by unfold floorS; rw [if_neg (by omega)]
  rw [e] at hf
  have hb := exc_bounds (x % 65536) (by omega) (by omega)
  have w0 : wrap64 (-(x / 65536)) = -(x / 65536) := wrap64_id' (by omega) (by omega)
  unfold exp2S
  by_cases hq : x / 65536 ≤ -31
  · rw [if_pos hq]
    refine Ev.step (f := fun _ => some 0) (fun k => ?_) (Ev.now _)
    simp only [heraldref02_Exp2.j0, hf, Option.bind_some, w0]
    rw [if_pos (by omega)]
  · rw [if_neg hq]
    refine Ev.step (fun k => ?_) (rExp2_l (-(x / 65536)).toNat (by omega) (-(x / 65536)).toNat 0 _ (by omega) (by omega) (by omega))
    simp only [heraldref02_Exp2.j0, hf, Option.bind_some, w0]
    rw [if_neg (by omega)]
    have e0 : ((-(x / 65536)).toNat : Int) = -(x / 65536) := by omega
    rw [e0, wrap64_id' (x := 84941200 * (x % 65536)) (by omega) (by omega), Int.tdiv_eq_ediv_of_nonneg (a := 84941200 * (x % 65536)) (by omega), wrap64_id' (x := 84941200 * (x % 65536) / 65536) (by omega) (by omega), wrap64_id' (x := 241400000 + 84941200 * (x % 65536) / 65536) (by omega) (by omega)]
    rw [wrap64_id' (x := (241400000 + 84941200 * (x % 65536) / 65536) * (x % 65536)) (by omega) (by omega), Int.tdiv_eq_ediv_of_nonneg (a := (241400000 + 84941200 * (x % 65536) / 65536) * (x % 65536)) (by omega), wrap64_id' (x := (241400000 + 84941200 * (x % 65536) / 65536) * (x % 65536) / 65536) (by omega) (by omega), wrap64_id' (x := 747400624 + (241400000 + 84941200 * (x % 65536) / 65536) * (x % 65536) / 65536) (by omega) (by omega)]
    rw [wrap64_id' (x := (747400624 + (241400000 + 84941200 * (x % 65536) / 65536) * (x % 65536) / 65536) * (x % 65536)) (by omega) (by omega), Int.tdiv_eq_ediv_of_nonneg (a := (747400624 + (241400000 + 84941200 * (x % 65536) / 65536) * (x % 65536) / 65536) * (x % 65536)) (by omega), wrap64_id' (x := (747400624 + (241400000 + 84941200 * (x % 65536) / 65536) * (x % 65536) / 65536) * (x % 65536) / 65536) (by omega) (by omega), wrap64_id' (by omega) (by omega)]
    rfl
theorem rExp2_f (x : Int) (h : I64 x) : Ev (fun k => heraldref02_Exp2.f k x) (ex x) := by
  unfold heraldref02_Exp2.f ex
  unfold I64 at h
  by_cases hx : x > 0
  · simp only [hx, if_true]
    rw [if_neg (by omega)]
    exact rExp2_j 0 (by omega) (by omega)
  · simp only [hx, if_false]
    have e : (if x < 0 then x else 0) = x := by split <;> omega
    rw [e]
    exact rExp2_j x (by omega) (by omega)

/-- The place of the first greatest, from a place on. -/
def am (l : List Int) : List Int → Int → Int → Int
  | [], a, i => a
  | x :: t, a, i => if a < 0 then am l t i (i + 1) else if x > rd l a then am l t i (i + 1) else am l t a (i + 1)
def argmaxS (l : List Int) : Int := am l l (-1) 0

theorem near_odd (x d : Int) (hd : 0 < d) : near (-x) d = -near x d := by
  have h0 := Int.emod_nonneg x (b := d) (by omega)
  have h1 := Int.emod_lt_of_pos x hd
  have hq := Int.mul_ediv_add_emod x d
  by_cases hz : x % d = 0
  · have u := (Int.ediv_emod_unique (a := -x) (b := d) (r := 0) (q := -(x / d)) hd).mpr ⟨by rw [Int.mul_neg]; omega, by omega, by omega⟩
    unfold near
    rw [u.1, u.2, hz, if_neg (by omega), if_neg (by omega)]
  · have u := (Int.ediv_emod_unique (a := -x) (b := d) (r := d - x % d) (q := -(x / d) - 1) hd).mpr ⟨by rw [Int.mul_sub, Int.mul_neg, Int.mul_one]; omega, by omega, by omega⟩
    unfold near
    rw [u.1, u.2]
    split <;> split <;> omega
theorem near_half (x d : Int) (hd : 0 < d) : (near x d = x / d ∧ x % d ≤ d - x % d ∧ (x % d = d - x % d → (x / d) % 2 = 0)) ∨ (near x d = x / d + 1 ∧ d - x % d ≤ x % d ∧ (x % d = d - x % d → (x / d) % 2 = 1)) := by
  unfold near
  split
  · right; omega
  · left; omega

theorem uwrap (n : Int) : IntKind.u64.wrap n = n % 18446744073709551616 := by
  have e2 : IntKind.bits .u64 = 64 := rfl
  have e3 : IntKind.signed .u64 = false := rfl
  simp only [IntKind.wrap, e2, e3, Bool.false_and, Bool.false_eq_true, if_false]
  rfl
def lmaxGo : List Int → Int → Int
  | [], c => c
  | x :: t, c => lmaxGo t (if c < x then x else c)
def lmax (l : List Int) : Int := lmaxGo l (rd l 0)
theorem lmaxGo_ge : ∀ (t : List Int) (c : Int), c ≤ lmaxGo t c ∧ ∀ x ∈ t, x ≤ lmaxGo t c
  | [], c => by simp [lmaxGo]
  | x :: t, c => by
    have h := lmaxGo_ge t (if c < x then x else c)
    simp only [lmaxGo]
    refine ⟨?_, ?_⟩
    · have := h.1; split at this <;> omega
    · intro y hy
      rcases List.mem_cons.mp hy with rfl | hy
      · have := h.1; split at this <;> omega
      · exact h.2 y hy
theorem lmaxGo_in : ∀ (t : List Int) (c : Int), I64 c → (∀ x ∈ t, I64 x) → I64 (lmaxGo t c)
  | [], c, hc, h => hc
  | x :: t, c, hc, h => by
    simp only [lmaxGo]
    refine lmaxGo_in t _ ?_ (fun y hy => h y (by simp [hy]))
    split
    · exact h x (by simp)
    · exact hc
theorem lmax_ge (l : List Int) : ∀ x ∈ l, x ≤ lmax l := (lmaxGo_ge l _).2
theorem rd_zero (x : Int) (t : List Int) : rd (x :: t) 0 = x := rfl
theorem lmax_cons (x : Int) (t : List Int) : lmax (x :: t) = lmaxGo t x := by
  unfold lmax; rw [rd_zero]; simp only [lmaxGo]; rw [if_neg (by omega)]
theorem lmax_in (l : List Int) (h : ∀ x ∈ l, I64 x) (h0 : l ≠ []) : I64 (lmax l) := by
  cases l with
  | nil => exact absurd rfl h0
  | cons x t => rw [lmax_cons]; exact lmaxGo_in t x (h x (by simp)) (fun y hy => h y (by simp [hy]))
/-- The weight of a score beside the greatest one. -/
def wd (m s : Int) : Int := ex (-256 * (if m - s < 1099511627776 then m - s else 1099511627776))
def weightsS (l : List Int) : List Int × Int := if l.length = 0 ∨ l.length > 512 then ([], 1) else (l.map (wd (lmax l)), 0)
theorem wd_in (m s : Int) : 0 ≤ wd m s ∧ wd m s ≤ 1073741824 := ex_in _

theorem Max_l (l : List Int) (hl : l.length ≤ 4611686018427387904) : ∀ (t : List Int) (i : Nat) (c : Int), l.drop i = t → i ≤ l.length → Ev (fun k => slices_Max_int64_int64.l0 k l c i) (lmaxGo t c) := by
  intro t
  induction t with
  | nil =>
    intro i c h hi1
    have hi := drop_nil h
    exact Ev.step (fun k => by simp only [slices_Max_int64_int64.l0]; rw [if_neg (by omega)]; rfl) (Ev.now _)
  | cons x t ih =>
    intro i c h hi1
    obtain ⟨hi, hg, hd⟩ := drop_cons h
    have hr := rd_of_get hg
    refine Ev.step (fun k => ?_) (ih (i + 1) (if c < x then x else c) hd (by omega))
    simp only [slices_Max_int64_int64.l0, hr, mx]
    rw [if_pos (by omega), if_pos (by omega), wrap64_id' (by omega) (by omega)]; rfl
theorem Max_f (l : List Int) (h0 : l.length ≠ 0) (hl : l.length ≤ 4611686018427387904) : Ev (fun k => slices_Max_int64_int64.f k l) (lmax l) := by
  unfold slices_Max_int64_int64.f
  simp only [show ¬ (l.length : Int) < 1 by omega, if_false, show 0 < (l.length : Int) by omega, if_true]
  cases l with
  | nil => exact absurd rfl h0
  | cons x t => rw [lmax_cons]; exact Max_l (x :: t) hl t 1 x rfl (by simp)

theorem Weights_l (l : List Int) (h1 : l.length ≤ 512) (m : Int) (hm : I64 m) (hx : ∀ x ∈ l, I64 x ∧ x ≤ m) : ∀ (t : List Int) (i : Nat) (a : List Int), l.drop i = t → a.length = i → i ≤ l.length → Ev (fun k => soft_Weights.l0 k m a l l.length i) (a ++ t.map (wd m), 0) := by
  intro t
  induction t with
  | nil =>
    intro i a h ha hi1
    have hi := drop_nil h
    refine Ev.step (f := fun _ => some (a, 0)) (fun k => ?_) (by simpa using Ev.now _)
    simp only [soft_Weights.l0]; rw [if_neg (by omega)]
  | cons x t ih =>
    intro i a h ha hi1
    obtain ⟨hi, hg, hd⟩ := drop_cons h
    have hr := rd_of_get hg
    obtain ⟨hxx, hxm⟩ := hx x (List.mem_of_getElem? hg)
    unfold I64 at hm hxx
    have e : mn 1099511627776 (IntKind.u64.wrap ((IntKind.u64.wrap m) - (IntKind.u64.wrap x))) = if m - x < 1099511627776 then m - x else 1099511627776 := by
      unfold mn; simp only [uwrap]
      have : (m % 18446744073709551616 - x % 18446744073709551616) % 18446744073709551616 = m - x := by omega
      rw [this]
    have hb : 0 ≤ (if m - x < 1099511627776 then m - x else 1099511627776) ∧ (if m - x < 1099511627776 then m - x else 1099511627776) ≤ 1099511627776 := by split <;> omega
    refine Ev.step (fun k => ?_) (by simpa using ih (i + 1) (a ++ [wd m x]) hd (by simp [ha]) (by omega))
    simp only [soft_Weights.l0, hr, e]
    rw [if_pos (by omega), if_pos (by omega), if_pos (by omega), wrap64_id' (x := if m - x < 1099511627776 then m - x else 1099511627776) (by omega) (by omega), wrap64_id' (by omega) (by omega), Exp2_f _ ⟨by omega, by omega⟩]
    simp only [Option.bind_some]
    rw [if_pos (by omega), wrap64_id' (by omega) (by omega)]
    rfl
theorem Weights_f (l : List Int) (hx : ∀ x ∈ l, I64 x) : Ev (fun k => soft_Weights.f k l) (weightsS l) := by
  unfold soft_Weights.f weightsS
  have stop : Ev (fun k => soft_Weights.j0 k l true) ([], 1) := Ev.step (fun k => by simp only [soft_Weights.j0, if_true]) (Ev.now _)
  by_cases h : l.length = 0
  · rw [if_pos (.inl h)]
    simp only [show (l.length : Int) = 0 by omega, if_true]; exact stop
  · by_cases h2 : l.length > 512
    · rw [if_pos (.inr h2)]
      simp only [show ¬ (l.length : Int) = 0 by omega, if_false, show decide ((l.length : Int) > 512) = true from decide_eq_true (by omega)]; exact stop
    · rw [if_neg (by omega)]
      simp only [show ¬ (l.length : Int) = 0 by omega, if_false, show decide ((l.length : Int) > 512) = false from decide_eq_false (by omega)]
      refine Ev.step (fun k => by simp only [soft_Weights.j0, Bool.false_eq_true, if_false]; rfl) ?_
      refine Ev.bind (Max_f l h (by omega)) ?_
      exact Weights_l l (by omega) (lmax l) (lmax_in l hx (by intro c; rw [c] at h; exact h rfl)) (fun x h => ⟨hx x h, lmax_ge l x h⟩) l 0 [] rfl rfl (by omega)

theorem distance_f (s m : Int) (hs : I64 s) (hm : I64 m) (h : s ≤ m) : Ev (fun k => heraldref11_distance.f k s m) (-(if m - s < 1099511627776 then m - s else 1099511627776)) := by
  unfold I64 at hs hm
  have yes : m - s ≥ 1099511627776 → Ev (fun k => heraldref11_distance.j0 k s m true) (-(if m - s < 1099511627776 then m - s else 1099511627776)) := by
    intro c
    rw [if_neg (by omega)]
    exact Ev.step (fun k => by simp only [heraldref11_distance.j0, if_true]) (Ev.now _)
  have no : m - s ≤ 9223372036854775808 → Ev (fun k => heraldref11_distance.j0 k s m false) (-(if m - s < 1099511627776 then m - s else 1099511627776)) := by
    intro c
    refine Ev.step (f := fun _ => some (-(if m - s < 1099511627776 then m - s else 1099511627776))) (fun k => ?_) (Ev.now _)
    simp only [heraldref11_distance.j0, Bool.false_eq_true, if_false]
    rw [wrap64_id' (x := s - m) (by omega) (by omega)]
    by_cases d : s - m < -1099511627776
    · rw [if_pos d, if_neg (by omega)]
    · rw [if_neg d]
      split <;> first | rfl | (exfalso; omega) | (congr 1; omega)
  unfold heraldref11_distance.f
  by_cases c1 : s < 0
  · by_cases c2 : m ≥ 0
    · by_cases c3 : m > 1099511627776
      · simp only [c1, c2, c3, if_true]; exact yes (by omega)
      · simp only [c1, c2, c3, if_true, if_false]
        by_cases c4 : s < -1099511627776
        · simp only [c4, decide_true]; exact yes (by omega)
        · simp only [c4, decide_false]; exact no (by omega)
    · simp only [c1, c2, if_true, if_false]; exact no (by omega)
  · simp only [c1, if_false]; exact no (by omega)
theorem rWeights_m (l : List Int) (h1 : l.length ≤ 512) (res : List Int × Int) (hR : Ev (fun k => heraldref11_Weights.l1 k l (lmax l) [] 0) res) : ∀ (t : List Int) (i : Nat) (c : Int), l.drop i = t → i ≤ l.length → lmaxGo t c = lmax l → Ev (fun k => heraldref11_Weights.l0 k l c i) res := by
  intro t
  induction t with
  | nil =>
    intro i c h hi1 hc
    have hi := drop_nil h
    simp only [lmaxGo] at hc
    subst hc
    refine Ev.step (fun k => ?_) hR
    simp only [heraldref11_Weights.l0]; rw [if_neg (by omega)]
  | cons x t ih =>
    intro i c h hi1 hc
    obtain ⟨hi, hg, hd⟩ := drop_cons h
    have hr := rd_of_get hg
    simp only [lmaxGo] at hc
    have hw : wrap64 ((i : Int) + 1) = ((i + 1 : Nat) : Int) := by rw [wrap64_id' (by omega) (by omega)]; rfl
    by_cases d : c < x
    · rw [if_pos d] at hc
      refine Ev.step (fun k => ?_) (ih (i + 1) x hd (by omega) hc)
      simp only [heraldref11_Weights.l0, hr, hw]
      rw [if_pos (by omega), if_pos (by omega), if_pos (by omega)]
    · rw [if_neg d] at hc
      refine Ev.step (fun k => ?_) (ih (i + 1) c hd (by omega) hc)
      simp only [heraldref11_Weights.l0, hr, hw]
      rw [if_pos (by omega), if_pos (by omega), if_neg (by omega)]
theorem rWeights_l (l : List Int) (h1 : l.length ≤ 512) (m : Int) (hm : I64 m) (hx : ∀ x ∈ l, I64 x ∧ x ≤ m) : ∀ (t : List Int) (i : Nat) (a : List Int), l.drop i = t → a.length = i → i ≤ l.length → Ev (fun k => heraldref11_Weights.l1 k l m a i) (a ++ t.map (wd m), 0) := by
  intro t
  induction t with
  | nil =>
    intro i a h ha hi1
    have hi := drop_nil h
    refine Ev.step (f := fun _ => some (a, 0)) (fun k => ?_) (by simpa using Ev.now _)
    simp only [heraldref11_Weights.l1]; rw [if_neg (by omega)]
  | cons x t ih =>
    intro i a h ha hi1
    obtain ⟨hi, hg, hd⟩ := drop_cons h
    have hr := rd_of_get hg
    obtain ⟨hxx, hxm⟩ := hx x (List.mem_of_getElem? hg)
    have hb : 0 ≤ (if m - x < 1099511627776 then m - x else 1099511627776) ∧ (if m - x < 1099511627776 then m - x else 1099511627776) ≤ 1099511627776 := by split <;> omega
    have hw : wrap64 ((i : Int) + 1) = ((i + 1 : Nat) : Int) := by rw [wrap64_id' (by omega) (by omega)]; rfl
    refine Ev.step (f := fun k => (heraldref11_distance.f k x m).bind fun t122 => ((heraldref02_Exp2.f k (wrap64 (256 * t122))).bind fun t123 => (heraldref11_Weights.l1 k l m (a ++ [t123]) ((i + 1 : Nat) : Int)))) (fun k => ?_) ?_
    · simp only [heraldref11_Weights.l1, hr, hw]
      rw [if_pos (by omega), if_pos (by omega)]
      simp only [show a.length < 17592186044416 by omega, if_true]
    · refine Ev.bind (distance_f x m hxx hm hxm) ?_
      rw [wrap64_id' (by omega) (by omega)]
      have e : 256 * -(if m - x < 1099511627776 then m - x else 1099511627776) = -256 * (if m - x < 1099511627776 then m - x else 1099511627776) := by omega
      rw [e]
      refine Ev.bind (rExp2_f _ ⟨by omega, by omega⟩) ?_
      simpa [wd] using ih (i + 1) (a ++ [wd m x]) hd (by simp [ha]) (by omega)
theorem rWeights_f (l : List Int) (hx : ∀ x ∈ l, I64 x) : Ev (fun k => heraldref11_Weights.f k l) (weightsS l) := by
  unfold heraldref11_Weights.f weightsS
  have stop : Ev (fun k => heraldref11_Weights.j0 k l true) ([], 1) := Ev.step (fun k => by simp only [heraldref11_Weights.j0, if_true]) (Ev.now _)
  by_cases h : l.length = 0
  · rw [if_pos (.inl h)]
    simp only [show (l.length : Int) < 1 by omega, if_true]; exact stop
  · by_cases h2 : l.length > 512
    · rw [if_pos (.inr h2)]
      simp only [show ¬ (l.length : Int) < 1 by omega, if_false, show decide ((l.length : Int) > 512) = true from decide_eq_true (by omega)]; exact stop
    · rw [if_neg (by omega)]
      simp only [show ¬ (l.length : Int) < 1 by omega, if_false, show decide ((l.length : Int) > 512) = false from decide_eq_false (by omega)]
      have hl := rWeights_l l (by omega) (lmax l) (lmax_in l hx (by intro c; rw [c] at h; exact h rfl)) (fun x h => ⟨hx x h, lmax_ge l x h⟩) l 0 [] rfl rfl (by omega)
      refine Ev.step (f := fun k => heraldref11_Weights.l0 k l (rd l 0) 0) (fun k => ?_) (rWeights_m l (by omega) _ hl l 0 (rd l 0) rfl (by omega) rfl)
      simp only [heraldref11_Weights.j0, Bool.false_eq_true, if_false]
      rw [if_pos (by omega)]

/-- The sum of weights; none: one that may not be. -/
def tt : List Int → Int → Option Int
  | [], s => some s
  | x :: t, s => if x < 0 ∨ x > 1073741824 then none else tt t (s + x)
theorem tt_bound : ∀ (t : List Int) (s r : Int), tt t s = some r → s ≤ r ∧ r ≤ s + 1073741824 * t.length
  | [], s, r, h => by simp [tt] at h; simp; omega
  | x :: t, s, r, h => by
    simp only [tt] at h
    split at h
    · cases h
    · have := tt_bound t _ _ h
      simp; omega
theorem tt_in : ∀ (t : List Int) (s r : Int), tt t s = some r → ∀ x ∈ t, 0 ≤ x ∧ x ≤ 1073741824
  | [], s, r, h => by simp
  | x :: t, s, r, h => by
    simp only [tt] at h
    split at h
    · cases h
    · intro y hy
      rcases List.mem_cons.mp hy with rfl | hy
      · omega
      · exact tt_in t _ _ h y hy
def totalS (w : List Int) : Int × Int := match tt w 0 with
  | none => (0, 110)
  | some s => if s = 0 then (0, 110) else (s, 0)
def goodS (w : List Int) : Int × Bool := match tt w 0 with
  | none => (0, false)
  | some s => (s, decide (s > 0))
theorem totalS_ok {w : List Int} {s : Int} (h : totalS w = (s, 0)) : tt w 0 = some s ∧ 0 < s ∧ s ≤ 1073741824 * w.length ∧ ∀ x ∈ w, 0 ≤ x ∧ x ≤ 1073741824 := by
  unfold totalS at h
  split at h
  · simp at h
  · rename_i r hr
    have hb := tt_bound _ _ _ hr
    split at h
    · simp at h
    · simp at h; subst h
      exact ⟨hr, by omega, by omega, tt_in _ _ _ hr⟩
theorem goodS_eq (w : List Int) : (goodS w).2 = decide ((totalS w).2 = 0) ∧ ((totalS w).2 = 0 → (goodS w).1 = (totalS w).1) := by
  unfold goodS totalS
  split
  · simp
  · rename_i r hr
    have hb := tt_bound _ _ _ hr
    by_cases c : r = 0
    · simp [c]
    · simp only [c, if_false]
      exact ⟨by simp only [decide_true]; exact decide_eq_true (by omega), fun _ => trivial⟩
theorem totalS_no {w : List Int} (h : (totalS w).2 ≠ 0) : totalS w = (0, 110) := by
  unfold totalS at *
  split
  · rfl
  · rename_i s hs
    rw [hs] at h
    dsimp only at h
    by_cases c : s = 0
    · rw [if_pos c]
    · rw [if_neg c] at h; exact absurd rfl h
/-- The sum of products. -/
def dotS : List Int → List Int → Int → Int
  | x :: t, y :: u, s => dotS t u (s + x * y)
  | _, _, s => s
def meanOf (w v : List Int) : Int × Int := if (totalS w).2 = 0 then (IntKind.i8.wrap ((2 * dotS w v 0 + (totalS w).1) / (2 * (totalS w).1)), 0) else (0, (totalS w).2)
def meanS (w v : List Int) : Int × Int := if w.length = v.length ∧ w.length ≤ 512 then meanOf w v else (0, 1)
theorem prod_in {x y : Int} (h0 : 0 ≤ x) (h1 : x ≤ 1073741824) (hy : I8 y) : -(x * 128) ≤ x * y ∧ x * y ≤ x * 127 := by
  unfold I8 at hy
  have a := Int.mul_nonneg h0 (show 0 ≤ 127 - y by omega)
  have c := Int.mul_nonneg h0 (show 0 ≤ y + 128 by omega)
  have e1 : x * (127 - y) = x * 127 - x * y := by grind
  have e2 : x * (y + 128) = x * y + x * 128 := by grind
  omega

theorem total_l (w : List Int) (h1 : w.length ≤ 4294967296) : ∀ (t : List Int) (i : Nat) (s : Int), w.drop i = t → i ≤ w.length → 0 ≤ s → s ≤ 1073741824 * i → Ev (fun k => soft_total.l0 k s w w.length i) (match tt t s with
  | none => (0, 110)
  | some s => if s = 0 then (0, 110) else (s, 0)) := by
  intro t
  induction t with
  | nil =>
    intro i s h hi1 h0 h2
    have hi := drop_nil h
    simp only [tt]
    by_cases c : s = 0
    · rw [if_pos c]
      refine Ev.step (f := fun _ => some (0, 110)) (fun k => ?_) (Ev.now _)
      simp only [soft_total.l0]; rw [if_neg (by omega), if_pos c]
    · rw [if_neg c]
      refine Ev.step (f := fun _ => some (s, 0)) (fun k => ?_) (Ev.now _)
      simp only [soft_total.l0]; rw [if_neg (by omega), if_neg c]
  | cons x t ih =>
    intro i s h hi1 h0 h2
    obtain ⟨hi, hg, hd⟩ := drop_cons h
    have hr := rd_of_get hg
    simp only [tt]
    by_cases c1 : x < 0
    · rw [if_pos (.inl c1)]
      refine Ev.step (f := fun _ => some (0, 110)) (fun k => ?_) (Ev.now _)
      simp only [soft_total.l0, hr]
      rw [if_pos (by omega), if_pos (by omega), if_pos (by omega), if_pos c1]
    · by_cases c2 : x > 1073741824
      · rw [if_pos (.inr c2)]
        refine Ev.step (f := fun _ => some (0, 110)) (fun k => ?_) (Ev.now _)
        simp only [soft_total.l0, hr]
        rw [if_pos (by omega), if_pos (by omega), if_pos (by omega), if_neg c1, if_pos c2]
      · rw [if_neg (by omega)]
        refine Ev.step (fun k => ?_) (ih (i + 1) (s + x) hd (by omega) (by omega) (by omega))
        simp only [soft_total.l0, hr]
        rw [if_pos (by omega), if_pos (by omega), if_pos (by omega), if_neg c1, if_neg c2, wrap64_id' (x := s + x) (by omega) (by omega), wrap64_id' (by omega) (by omega)]; rfl
theorem total_f (w : List Int) (h1 : w.length ≤ 4294967296) : Ev (fun k => soft_total.f k w) (totalS w) := by
  unfold soft_total.f totalS
  exact total_l w h1 w 0 0 rfl (by omega) (by omega) (by omega)

theorem good_l (w : List Int) (h1 : w.length ≤ 4294967296) : ∀ (t : List Int) (i : Nat) (s : Int), w.drop i = t → i ≤ w.length → 0 ≤ s → s ≤ 1073741824 * i → Ev (fun k => heraldref11_good.l0 k w s i) (match tt t s with
  | none => (0, false)
  | some s => (s, decide (s > 0))) := by
  intro t
  induction t with
  | nil =>
    intro i s h hi1 h0 h2
    have hi := drop_nil h
    simp only [tt]
    refine Ev.step (f := fun _ => some (s, decide (s > 0))) (fun k => ?_) (Ev.now _)
    simp only [heraldref11_good.l0]; rw [if_neg (by omega)]
  | cons x t ih =>
    intro i s h hi1 h0 h2
    obtain ⟨hi, hg, hd⟩ := drop_cons h
    have hr := rd_of_get hg
    simp only [tt]
    by_cases c1 : x < 0
    · rw [if_pos (.inl c1)]
      refine Ev.step (f := fun _ => some (0, false)) (fun k => ?_) (Ev.now _)
      simp only [heraldref11_good.l0, hr]
      rw [if_pos (by omega), if_pos (by omega), if_pos c1]
    · by_cases c2 : x > 1073741824
      · rw [if_pos (.inr c2)]
        refine Ev.step (f := fun _ => some (0, false)) (fun k => ?_) (Ev.now _)
        simp only [heraldref11_good.l0, hr]
        rw [if_pos (by omega), if_pos (by omega), if_neg c1, if_pos c2]
      · rw [if_neg (by omega)]
        refine Ev.step (fun k => ?_) (ih (i + 1) (s + x) hd (by omega) (by omega) (by omega))
        simp only [heraldref11_good.l0, hr]
        rw [if_pos (by omega), if_pos (by omega), if_neg c1, if_neg c2, wrap64_id' (x := s + x) (by omega) (by omega), wrap64_id' (by omega) (by omega)]; rfl
theorem good_f (w : List Int) (h1 : w.length ≤ 4294967296) : Ev (fun k => heraldref11_good.f k w) (goodS w) := by
  unfold heraldref11_good.f goodS
  exact good_l w h1 w 0 0 rfl (by omega) (by omega) (by omega)

theorem Mean_l (w v : List Int) (hl : w.length = v.length) (h1 : w.length ≤ 512) (hw : ∀ x ∈ w, 0 ≤ x ∧ x ≤ 1073741824) (hv : ∀ x ∈ v, I8 x) (s : Int) (hs0 : 0 < s) (hs1 : s ≤ 549755813888) : ∀ (t u : List Int) (i : Nat) (n : Int), w.drop i = t → v.drop i = u → i ≤ w.length → -(137438953472 * i) ≤ n → n ≤ 137438953472 * i → Ev (fun k => soft_Mean.l0 k v s n w w.length i) (IntKind.i8.wrap ((2 * dotS t u n + s) / (2 * s)), 0) := by
  intro t
  induction t with
  | nil =>
    intro u i n h hu hi1 h0 h2
    have hi := drop_nil h
    refine Ev.step (f := fun _ => some (IntKind.i8.wrap ((2 * n + s) / (2 * s)), 0)) (fun k => ?_) (by cases u <;> exact Ev.now _)
    simp only [soft_Mean.l0]
    rw [if_neg (by omega), wrap64_id' (x := 2 * n) (by omega) (by omega), wrap64_id' (x := 2 * n + s) (by omega) (by omega), wrap64_id' (x := 2 * s) (by omega) (by omega), Floor_f _ _ ⟨by omega, by omega⟩ ⟨by omega, by omega⟩]
    unfold floorS
    rw [if_neg (by omega)]; rfl
  | cons x t ih =>
    intro u i n h hu hi1 h0 h2
    obtain ⟨hi, hg, hd⟩ := drop_cons h
    have hr := rd_of_get hg
    have hxx := hw x (List.mem_of_getElem? hg)
    cases u with
    | nil => have := drop_nil hu; omega
    | cons y u =>
      obtain ⟨hj, hgy, hd'⟩ := drop_cons hu
      have hry := rd_of_get hgy
      have hyy := hv y (List.mem_of_getElem? hgy)
      have hp := prod_in hxx.1 hxx.2 hyy
      unfold I8 at hyy
      simp only [dotS]
      refine Ev.step (fun k => ?_) (ih u (i + 1) (n + x * y) hd hd' (by omega) (by omega) (by omega))
      simp only [soft_Mean.l0, hr, hry]
      rw [if_pos (by omega), if_pos (by omega), if_pos (by omega), if_pos (by omega), wrap64_id' (x := y) (by omega) (by omega), wrap64_id' (x := x * y) (by omega) (by omega), wrap64_id' (x := n + x * y) (by omega) (by omega), wrap64_id' (by omega) (by omega)]; rfl

theorem Mean_f (w v : List Int) (hv : ∀ x ∈ v, I8 x) : Ev (fun k => soft_Mean.f k w v) (meanS w v) := by
  unfold soft_Mean.f meanS
  have stop : Ev (fun k => soft_Mean.j0 k w v true) (0, 1) := Ev.step (fun k => by simp only [soft_Mean.j0, if_true]) (Ev.now _)
  by_cases h : w.length = v.length ∧ w.length ≤ 512
  · rw [if_pos h]
    obtain ⟨h1, h2⟩ := h
    simp only [show (w.length : Int) = (v.length : Int) by omega, if_true, show decide ((v.length : Int) > 512) = false from decide_eq_false (by omega)]
    refine Ev.step (fun k => by simp only [soft_Mean.j0, Bool.false_eq_true, if_false]; rfl) ?_
    refine Ev.bind (total_f w (by omega)) ?_
    unfold meanOf
    by_cases c : (totalS w).2 = 0
    · obtain ⟨q1, q2, q3, q4⟩ := totalS_ok (w := w) (s := (totalS w).1) (by rw [← c])
      simp only [c, if_true]
      exact Mean_l w v h1 h2 q4 hv _ q2 (by omega) w v 0 0 rfl rfl (by omega) (by omega) (by omega)
    · simp only [c, if_false]; exact Ev.now _
  · rw [if_neg h]
    by_cases h1 : (w.length : Int) = (v.length : Int)
    · simp only [h1, if_true, show decide ((v.length : Int) > 512) = true from decide_eq_true (by omega)]; exact stop
    · simp only [h1, if_false]; exact stop

theorem rMean_l (w v : List Int) (hl : w.length = v.length) (h1 : w.length ≤ 512) (hw : ∀ x ∈ w, 0 ≤ x ∧ x ≤ 1073741824) (hv : ∀ x ∈ v, I8 x) (s : Int) (hs0 : 0 < s) (hs1 : s ≤ 549755813888) : ∀ (t u : List Int) (i : Nat) (n : Int), w.drop i = t → v.drop i = u → i ≤ w.length → -(137438953472 * i) ≤ n → n ≤ 137438953472 * i → Ev (fun k => heraldref11_Mean.l0 k w v s n i) (IntKind.i8.wrap ((2 * dotS t u n + s) / (2 * s)), 0) := by
  intro t
  induction t with
  | nil =>
    intro u i n h hu hi1 h0 h2
    have hi := drop_nil h
    refine Ev.step (f := fun _ => some (IntKind.i8.wrap ((2 * n + s) / (2 * s)), 0)) (fun k => ?_) (by cases u <;> exact Ev.now _)
    simp only [heraldref11_Mean.l0]
    rw [if_neg (by omega), wrap64_id' (x := 2 * n) (by omega) (by omega), wrap64_id' (x := 2 * n + s) (by omega) (by omega), wrap64_id' (x := 2 * s) (by omega) (by omega), rFloor_f _ _ ⟨by omega, by omega⟩ ⟨by omega, by omega⟩]
    unfold floorS
    rw [if_neg (by omega)]; rfl
  | cons x t ih =>
    intro u i n h hu hi1 h0 h2
    obtain ⟨hi, hg, hd⟩ := drop_cons h
    have hr := rd_of_get hg
    have hxx := hw x (List.mem_of_getElem? hg)
    cases u with
    | nil => have := drop_nil hu; omega
    | cons y u =>
      obtain ⟨hj, hgy, hd'⟩ := drop_cons hu
      have hry := rd_of_get hgy
      have hyy := hv y (List.mem_of_getElem? hgy)
      have hp := prod_in hxx.1 hxx.2 hyy
      unfold I8 at hyy
      simp only [dotS]
      refine Ev.step (fun k => ?_) (ih u (i + 1) (n + x * y) hd hd' (by omega) (by omega) (by omega))
      simp only [heraldref11_Mean.l0, hr, hry]
      rw [if_pos (by omega), if_pos (by omega), if_pos (by omega), wrap64_id' (x := y) (by omega) (by omega), wrap64_id' (x := x * y) (by omega) (by omega), wrap64_id' (x := n + x * y) (by omega) (by omega), wrap64_id' (by omega) (by omega)]; rfl

theorem rMean_f (w v : List Int) (hv : ∀ x ∈ v, I8 x) : Ev (fun k => heraldref11_Mean.f k w v) (meanS w v) := by
  unfold heraldref11_Mean.f meanS
  have stop : Ev (fun k => heraldref11_Mean.j0 k w v true) (0, 1) := Ev.step (fun k => by simp only [heraldref11_Mean.j0, if_true]) (Ev.now _)
  by_cases h : w.length = v.length ∧ w.length ≤ 512
  · rw [if_pos h]
    obtain ⟨h1, h2⟩ := h
    simp only [show (w.length : Int) = (v.length : Int) by omega, if_true, show decide ((v.length : Int) > 512) = false from decide_eq_false (by omega)]
    refine Ev.step (fun k => by simp only [heraldref11_Mean.j0, Bool.false_eq_true, if_false]; rfl) ?_
    refine Ev.bind (good_f w (by omega)) ?_
    obtain ⟨g1, g2⟩ := goodS_eq w
    unfold meanOf
    by_cases c : (totalS w).2 = 0
    · obtain ⟨q1, q2, q3, q4⟩ := totalS_ok (w := w) (s := (totalS w).1) (by rw [← c])
      rw [g1, g2 c]
      simp only [c, decide_true, if_true]
      exact rMean_l w v h1 h2 q4 hv _ q2 (by omega) w v 0 0 rfl rfl (by omega) (by omega) (by omega)
    · have e := totalS_no c
      rw [g1]
      simp only [c, decide_false, Bool.false_eq_true, if_false]
      rw [e]; exact Ev.now _
  · rw [if_neg h]
    by_cases h1 : (w.length : Int) = (v.length : Int)
    · simp only [h1, if_true, show decide ((v.length : Int) > 512) = true from decide_eq_true (by omega)]; exact stop
    · simp only [h1, if_false]; exact stop

theorem rows_l (a : List Int) (ha : a.length ≤ 4611686018427387904) : ∀ (d i : Nat), i + d = a.length → Ev (fun k => heraldlaw11_rows.l0 k a a i) true := by
  intro d
  induction d with
  | zero =>
    intro i hi
    exact Ev.step (fun k => by simp only [heraldlaw11_rows.l0]; rw [if_neg (by omega)]) (Ev.now _)
  | succ d ih =>
    intro i hi
    refine Ev.step (fun k => ?_) (ih (i + 1) (by omega))
    simp only [heraldlaw11_rows.l0]
    rw [if_pos (by omega), if_pos (by omega), if_pos (by omega), if_pos trivial, wrap64_id' (by omega) (by omega)]; rfl
theorem rows_same (a : List Int) (ha : a.length ≤ 4611686018427387904) : Ev (fun k => heraldlaw11_rows.f k a a) true := by
  unfold heraldlaw11_rows.f; simp only [if_true]
  exact rows_l a ha a.length 0 (by omega)

theorem longs_l (a : List Int) (ha : a.length ≤ 4611686018427387904) : ∀ (d i : Nat), i + d = a.length → Ev (fun k => heraldlaw11_longs.l0 k a a i) true := by
  intro d
  induction d with
  | zero =>
    intro i hi
    exact Ev.step (fun k => by simp only [heraldlaw11_longs.l0]; rw [if_neg (by omega)]) (Ev.now _)
  | succ d ih =>
    intro i hi
    refine Ev.step (fun k => ?_) (ih (i + 1) (by omega))
    simp only [heraldlaw11_longs.l0]
    rw [if_pos (by omega), if_pos (by omega), if_pos (by omega), if_pos trivial, wrap64_id' (by omega) (by omega)]; rfl
theorem longs_same (a : List Int) (ha : a.length ≤ 4611686018427387904) : Ev (fun k => heraldlaw11_longs.f k a a) true := by
  unfold heraldlaw11_longs.f; simp only [if_true]
  exact longs_l a ha a.length 0 (by omega)

theorem awake_ev : Ev (fun k => heraldlaw11_awake.f k) true := Ev.of (k := 200) heraldlaw11_awake.mono (by decide +kernel)
end Go.Proofs.Ytmpldbccohdnjaa.L
