/- Plain facts on whole numbers: roots, quotients, nearest quotients, bits; no program in sight. No conditions beyond those that each lemma names. -/
import Derived.Laws.BitsLemmas
import Derived.RowKit
import Derived.Test.YtengkjkmdodifaaDoorWMore
import Derived.Test.YtengkjkmdodifaaDoorWWords
namespace Go.Proofs.YtengkjkmdodifaaDoor.M
open Go Go.RowKit Go.Proofs.YtengkjkmdodifaaDoorW.PrintWords Go.Proofs.YtengkjkmdodifaaDoorW.PrintLast Go.Proofs.YtengkjkmdodifaaDoorW.PrintMore
set_option linter.unusedVariables false
set_option linter.unusedSimpArgs false

/-! ### numbers of 64 and 8 bits -/
def I64 (x : Int) : Prop := -9223372036854775808 ≤ x ∧ x ≤ 9223372036854775807
def I8 (x : Int) : Prop := -128 ≤ x ∧ x ≤ 127
theorem wrap64_id {x : Int} (h : I64 x) : wrap64 x = x := by unfold I64 at h; unfold wrap64; omega
theorem wrap64_id' {x : Int} (h0 : -9223372036854775808 ≤ x) (h1 : x ≤ 9223372036854775807) : wrap64 x = x := wrap64_id ⟨h0, h1⟩
theorem i8wrap_id {x : Int} (h : I8 x) : IntKind.i8.wrap x = x := by
  unfold I8 at h
  simp only [IntKind.wrap, IntKind.bits, IntKind.signed]
  by_cases hx : 0 ≤ x
  · have : x % 256 = x := by omega
    simp [this]; omega
  · have : x % 256 = x + 256 := by omega
    simp [this]; omega
theorem i64wrap_eq (x : Int) : IntKind.i64.wrap x = wrap64 x := by rw [IntKind.wrap_i64]; unfold wrap64; rfl
theorem i64_of_wf {x : Int} (h : (Lit.int .i64 x).wf = true) : I64 x := by
  simp [Lit.wf, IntKind.signed, IntKind.bits] at h; exact h
theorem i8_of_wf {x : Int} (h : (Lit.int .i8 x).wf = true) : I8 x := by
  simp [Lit.wf, IntKind.signed, IntKind.bits] at h; exact h
theorem I8.i64 {x : Int} (h : I8 x) : I64 x := by unfold I8 at h; unfold I64; omega

theorem bind_id {α : Type} (a : Option α) : (a.bind fun t => some t) = a := by cases a <;> rfl
/-! ### lists by their places -/
theorem rd_append_left {l m : List Int} {i : Int} (h0 : 0 ≤ i) (h1 : i < l.length) : rd (l ++ m) i = rd l i := by
  unfold rd
  have h : i.toNat < l.length := by omega
  simp [List.getD_eq_getElem?_getD, List.getElem?_append_left h]
theorem drop_cons {α : Type} {l : List α} {i : Nat} {x : α} {t : List α} (h : l.drop i = x :: t) : i < l.length ∧ l[i]? = some x ∧ l.drop (i + 1) = t := by
  have hi : i < l.length := by
    by_cases hc : i < l.length
    · exact hc
    · rw [List.drop_eq_nil_of_le (by omega)] at h; cases h
  rw [List.drop_eq_getElem_cons hi] at h
  injection h with h1 h2
  exact ⟨hi, by rw [List.getElem?_eq_getElem hi, h1], h2⟩
theorem drop_nil {α : Type} {l : List α} {i : Nat} (h : l.drop i = []) : l.length ≤ i := by
  have := congrArg List.length h
  simp at this; omega
theorem rd_of_get {l : List Int} {i : Nat} {x : Int} (h : l[i]? = some x) : rd l (i : Int) = x := by
  unfold rd; simp [List.getD_eq_getElem?_getD, h]
theorem rd_mem {l : List Int} {i : Int} (h0 : 0 ≤ i) (h1 : i < l.length) : rd l i ∈ l := by
  unfold rd
  have h : i.toNat < l.length := by omega
  rw [List.getD_eq_getElem?_getD, List.getElem?_eq_getElem h]; exact List.getElem_mem h

/-! ### quotients -/
theorem tdiv_pos {a d : Int} (hd : 0 < d) : Int.tdiv a d = if 0 ≤ a ∨ d ∣ a then a / d else a / d + 1 := by
  rw [Int.tdiv_eq_ediv, Int.sign_eq_one_of_pos hd]; split <;> omega
theorem tmod_pos {a d : Int} (hd : 0 < d) : Int.tmod a d = if 0 ≤ a ∨ d ∣ a then a % d else a % d - d := by
  rw [Int.tmod_eq_emod]; split <;> omega
/-- The size of a quotient is that of the number at most. -/
theorem tdiv_le {a d : Int} {M : Int} (hd : 0 < d) (h0 : -M ≤ a) (h1 : a ≤ M) : -M ≤ Int.tdiv a d ∧ Int.tdiv a d ≤ M := by
  have h := Int.natAbs_tdiv_le_natAbs a d
  omega
theorem floor_in {a d : Int} (hd : 0 < d) (ha : I64 a) : I64 (a / d) := by
  unfold I64 at *
  constructor
  · rw [Int.le_ediv_iff_mul_le hd]
    have : (-9223372036854775808 : Int) * d ≤ -9223372036854775808 := by omega
    omega
  · have : a / d < 9223372036854775808 := by
      rw [Int.ediv_lt_iff_lt_mul hd]
      have : (9223372036854775808 : Int) * d ≥ 9223372036854775808 := by omega
      omega
    omega
theorem tdiv_in {a d : Int} (hd : 0 < d) (ha : I64 a) : I64 (Int.tdiv a d) := by
  have h := Int.natAbs_tdiv_le_natAbs a d
  unfold I64 at *
  by_cases h0 : 0 ≤ a
  · have := Int.tdiv_nonneg h0 (Int.le_of_lt hd); omega
  · have h2 : a / d < 0 := by rw [Int.ediv_lt_iff_lt_mul hd]; omega
    have h3 := tdiv_pos (a := a) hd
    split at h3 <;> omega
/-- Floor, as the document has it: the quotient, rounded down, and what is left. -/
def floorS (a d : Int) : Int × Int × Int := if d < 1 then (0, 0, 21) else (a / d, a % d, 0)
theorem floor_code (a d : Int) (ha : I64 a) (hd : I64 d) : (if d < 1 then some ((0 : Int), (0 : Int), (21 : Int)) else (if d = 0 then none else (if (Int.tmod a d) < 0 then (some (wrap64 ((wrap64 (Int.tdiv a d)) - 1), wrap64 ((Int.tmod a d) + d), 0)) else (some (wrap64 (Int.tdiv a d), Int.tmod a d, 0))))) = some (floorS a d) := by
  unfold floorS
  by_cases h : d < 1
  · rw [if_pos h, if_pos h]
  · rw [if_neg h, if_neg (by omega), if_neg h]
    have hd' : 0 < d := by omega
    have hm0 := Int.emod_nonneg a (b := d) (by omega)
    have hm1 := Int.emod_lt_of_pos a hd'
    have hf := floor_in hd' ha
    have ht := tdiv_in hd' ha
    rw [wrap64_id ht]
    by_cases hc : 0 ≤ a ∨ d ∣ a
    · rw [tmod_pos hd', tdiv_pos hd', if_pos hc, if_pos hc, if_neg (by omega)]
    · rw [tmod_pos hd', tdiv_pos hd', if_neg hc, if_neg hc, if_pos (by omega)]
      unfold I64 at *
      rw [wrap64_id' (by omega) (by omega), wrap64_id' (by omega) (by omega)]
      congr 2
      · omega
      · congr 1; omega
/-- The nearest whole number; of two the even one. -/
def near (a d : Int) : Int := if a % d > d - a % d ∨ (a % d = d - a % d ∧ (a / d) % 2 = 1) then a / d + 1 else a / d
def nearS (a d : Int) : Int × Int := if d < 1 then (0, 21) else (near a d, 0)
def roundS (a s : Int) : Int × Int := if s < 0 ∨ s > 62 then (0, 20) else (near a (2 ^ s.toNat), 0)
theorem and_one (q : Int) : bits .and .i64 q 1 = q % 2 := by
  simp only [bits]
  have h : (BitVec.ofInt 64 q &&& BitVec.ofInt 64 1).toNat = (q % 2).toNat := by
    rw [BitVec.toNat_and]
    have e : (BitVec.ofInt 64 1).toNat = 1 := rfl
    rw [e, Nat.and_one_is_mod, BitVec.toNat_ofInt]
    omega
  show IntKind.i64.wrap ↑((BitVec.ofInt 64 q &&& BitVec.ofInt 64 1).toNat) = q % 2
  rw [h, IntKind.wrap_i64]; omega
theorem near_in {a d : Int} (hd : 0 < d) (ha : I64 a) : I64 (near a d) := by
  have hm0 := Int.emod_nonneg a (b := d) (by omega)
  have hm1 := Int.emod_lt_of_pos a hd
  have hf := floor_in hd ha
  have hq := Int.mul_ediv_add_emod a d
  unfold near
  split
  · rename_i h
    unfold I64 at *
    refine ⟨by omega, ?_⟩
    -- were the quotient the greatest, d would be 1, and nothing left
    by_cases hm : a / d = 9223372036854775807
    · exfalso
      rw [hm] at hq
      have : d * 9223372036854775807 ≥ 9223372036854775807 := by omega
      have : d < 2 := by omega
      omega
    · omega
  · exact hf
theorem near_code (a d : Int) (ha : I64 a) (hd : I64 d) (h : 0 < d) :
    (if a % d > (wrap64 (d - a % d)) then (some (wrap64 (a / d + 1), (0 : Int))) else (if a % d = (wrap64 (d - a % d)) then (if (bits .and .i64 (a / d) 1) = 1 then (some (wrap64 (a / d + 1), 0)) else (some (a / d, 0))) else (some (a / d, 0)))) = some (near a d, 0) := by
  have hm0 := Int.emod_nonneg a (b := d) (by omega)
  have hm1 := Int.emod_lt_of_pos a h
  have hn := near_in h ha
  have hw : wrap64 (d - a % d) = d - a % d := by unfold I64 at *; exact wrap64_id' (by omega) (by omega)
  rw [hw, and_one]
  unfold near at hn ⊢
  by_cases h1 : a % d > d - a % d
  · rw [if_pos h1, if_pos (Or.inl h1)]; rw [if_pos (Or.inl h1)] at hn; rw [wrap64_id hn]
  · rw [if_neg h1]
    by_cases h2 : a % d = d - a % d
    · rw [if_pos h2]
      by_cases h3 : (a / d) % 2 = 1
      · rw [if_pos h3, if_pos (Or.inr ⟨h2, h3⟩)]; rw [if_pos (Or.inr ⟨h2, h3⟩)] at hn; rw [wrap64_id hn]
      · rw [if_neg h3, if_neg (by omega)]
    · rw [if_neg h2, if_neg (by omega)]
/-- The same by 'q % 2 != 0' (what is left has the number's sign). -/
theorem odd_tmod (q : Int) : Int.tmod q 2 = 0 ↔ ¬ q % 2 = 1 := by
  have h := tmod_pos (a := q) (d := 2) (by omega)
  split at h <;> omega
theorem near_code' (a d : Int) (ha : I64 a) (hd : I64 d) (h : 0 < d) :
    (if a % d > (wrap64 (d - a % d)) then (some (wrap64 (a / d + 1), (0 : Int))) else (if a % d = (wrap64 (d - a % d)) then (if (Int.tmod (a / d) 2) = 0 then (some (a / d, 0)) else (some (wrap64 (a / d + 1), 0))) else (some (a / d, 0)))) = some (near a d, 0) := by
  rw [← near_code a d ha hd h, and_one]
  by_cases h3 : (a / d) % 2 = 1
  · have h4 : ¬ Int.tmod (a / d) 2 = 0 := by rw [odd_tmod]; omega
    simp only [h3, h4, if_true, if_false]
  · have h4 : Int.tmod (a / d) 2 = 0 := by rw [odd_tmod]; omega
    simp only [h3, h4, if_true, if_false]
theorem pow_in {s : Int} (h0 : 0 ≤ s) (h1 : s ≤ 62) : 0 < (2 : Int) ^ s.toNat ∧ (2 : Int) ^ s.toNat ≤ 4611686018427387904 := by
  have a : (0 : Int) < 2 ^ s.toNat := Int.pow_pos (by omega)
  have b : (2 : Nat) ^ s.toNat ≤ 2 ^ 62 := Nat.pow_le_pow_right (by decide) (by omega)
  have c : ((2 ^ s.toNat : Nat) : Int) ≤ ((2 ^ 62 : Nat) : Int) := by exact_mod_cast b
  simp at c
  exact ⟨a, by omega⟩
theorem shl_one {s : Int} (h0 : 0 ≤ s) (h1 : s ≤ 62) : shl .i64 1 s = 2 ^ s.toNat := by
  have h := pow_in h0 h1
  have e0 : IntKind.bits .i64 = 64 := rfl
  have e : min s.toNat (IntKind.bits .i64) = s.toNat := Nat.min_eq_left (by rw [e0]; omega)
  unfold shl
  rw [e, i64wrap_eq, Int.one_mul]
  exact wrap64_id' (by omega) (by omega)

/-! ### roots -/
def isq : Nat → Nat
  | 0 => 0
  | n + 1 => if (isq n + 1) * (isq n + 1) ≤ n + 1 then isq n + 1 else isq n
theorem isq_spec (n : Nat) : isq n * isq n ≤ n ∧ n < (isq n + 1) * (isq n + 1) := by
  induction n with
  | zero => simp [isq]
  | succ n ih =>
    obtain ⟨h1, h2⟩ := ih
    simp only [isq]
    split
    · rename_i h
      refine ⟨h, ?_⟩
      have : (isq n + 1 + 1) * (isq n + 1 + 1) = (isq n + 1) * (isq n + 1) + 2 * isq n + 3 := by grind
      omega
    · rename_i h
      exact ⟨by omega, by omega⟩
theorem isq_unique {n r : Nat} (h1 : r * r ≤ n) (h2 : n < (r + 1) * (r + 1)) : isq n = r := by
  obtain ⟨a, b⟩ := isq_spec n
  by_cases h : isq n < r
  · have : (isq n + 1) * (isq n + 1) ≤ r * r := Nat.mul_le_mul h h
    omega
  · by_cases h' : r < isq n
    · have : (r + 1) * (r + 1) ≤ isq n * isq n := Nat.mul_le_mul h' h'
      omega
    · omega
/-- The root, rounded down, of a number from 0 on. -/
def sq (x : Int) : Int := (isq x.toNat : Int)
theorem sq_spec {x : Int} (h : 0 ≤ x) : 0 ≤ sq x ∧ sq x * sq x ≤ x ∧ x < (sq x + 1) * (sq x + 1) := by
  obtain ⟨a, b⟩ := isq_spec x.toNat
  have a' : ((isq x.toNat * isq x.toNat : Nat) : Int) ≤ x := by omega
  have b' : x < (((isq x.toNat + 1) * (isq x.toNat + 1) : Nat) : Int) := by omega
  rw [Int.natCast_mul] at a' b'
  unfold sq
  refine ⟨by omega, a', ?_⟩
  have e : ((isq x.toNat + 1 : Nat) : Int) = (isq x.toNat : Int) + 1 := by omega
  rw [e] at b'; exact b'
theorem sq_unique {x r : Int} (h0 : 0 ≤ r) (h1 : r * r ≤ x) (h2 : x < (r + 1) * (r + 1)) : sq x = r := by
  have hx : 0 ≤ x := by have := Int.mul_nonneg h0 h0; omega
  obtain ⟨a, b, c⟩ := sq_spec hx
  by_cases h : sq x < r
  · have : (sq x + 1) * (sq x + 1) ≤ r * r := Int.mul_le_mul (by omega) (by omega) (by omega) (by omega)
    omega
  · by_cases h' : r < sq x
    · have : (r + 1) * (r + 1) ≤ sq x * sq x := Int.mul_le_mul (by omega) (by omega) (by omega) (by omega)
      omega
    · omega
def sqrtS (x : Int) : Int × Int := if x < 0 then (0, 22) else (sq x, 0)
theorem sq_square {n : Int} (h : 0 ≤ n) : sq (n * n) = n := by
  refine sq_unique h (Int.le_refl _) ?_
  have : (n + 1) * (n + 1) = n * n + 2 * n + 1 := by grind
  omega
theorem or_bit {r : Int} {j : Nat} (hj : j ≤ 31) (h0 : 0 ≤ r) (h1 : r % 2 ^ (j + 1) = 0) (h2 : r < 4294967296) : bits .or .i64 r (2 ^ j) = r + 2 ^ j := by
  have hp : (0 : Int) < 2 ^ j := Int.pow_pos (by omega)
  have hq : (2 : Nat) ^ (j + 1) ≤ 2 ^ 32 := Nat.pow_le_pow_right (by decide) (by omega)
  have hq' : ((2 ^ (j + 1) : Nat) : Int) ≤ ((2 ^ 32 : Nat) : Int) := by exact_mod_cast hq
  have e : (2 : Int) ^ (j + 1) = 2 ^ j * 2 := Int.pow_succ _ _
  have hb : (2 : Int) ^ j < 2 ^ (j + 1) := by omega
  simp at hq'
  refine bits_join .i64 62 (by decide) ?_ (j + 1) r (2 ^ j) h0 h1 (by simp; omega) (by omega) hb (by simp; omega)
  intro n hn0 hn1
  rw [i64wrap_eq]
  exact wrap64_id' (by omega) (by simp at hn1; omega)
/-- s may be tried just if its square is no more than the greatest number. -/
theorem try_iff {s : Int} (h : 0 < s) : s ≤ 9223372036854775807 / s ↔ s * s ≤ 9223372036854775807 := Int.le_ediv_iff_mul_le h
end Go.Proofs.YtengkjkmdodifaaDoor.M
