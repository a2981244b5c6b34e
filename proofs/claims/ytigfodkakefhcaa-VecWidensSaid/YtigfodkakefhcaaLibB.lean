/- Lemmas on the printed functions: what each answers, in plain words of Lean; on condition that the numbers are of their kinds. -/
import Derived.Test.YtigfodkakefhcaaPx14
import Derived.Test.YtigfodkakefhcaaMath
import Derived.Test.YtigfodkakefhcaaLibA
namespace Go.Proofs.Ytigfodkakefhcaa.L
open Go Go.RowKit Go.Proofs.Ytigfodkakefhcaa.M Go.Proofs.Ytigfodkakefhcaa.P Go.Proofs.YtigfodkakefhcaaW.PrintWords Go.Proofs.YtigfodkakefhcaaW.PrintLast Go.Proofs.YtigfodkakefhcaaW.PrintMore
set_option linter.unusedVariables false
set_option linter.unusedSimpArgs false

theorem uwrap (n : Int) : IntKind.u64.wrap n = n % 18446744073709551616 := by
  have e2 : IntKind.bits .u64 = 64 := rfl
  have e3 : IntKind.signed .u64 = false := rfl
  simp only [IntKind.wrap, e2, e3, Bool.false_and, Bool.false_eq_true, if_false]
  rfl
theorem wrap64_def (n : Int) : wrap64 n = (n + 9223372036854775808) % 18446744073709551616 - 9223372036854775808 := by unfold wrap64; rfl
def addS (a b : Int) : Int × Bool := if -9223372036854775808 ≤ a + b ∧ a + b ≤ 9223372036854775807 then (a + b, true) else (0, false)
def mulS (a b : Int) : Int × Bool := if -9223372036854775808 ≤ a * b ∧ a * b ≤ 9223372036854775807 then (a * b, true) else (0, false)
theorem mulS_in {a b : Int} : I64 (mulS a b).1 := by
  unfold mulS; split
  · assumption
  · exact ⟨by decide, by decide⟩

theorem Add_f (a b : Int) (ha : I64 a) (hb : I64 b) : fixed_Add.f a b = some (addS a b) := by
  unfold fixed_Add.f addS; unfold I64 at ha hb
  have hw := wrap64_def (a + b)
  by_cases c1 : a < 0
  · by_cases c2 : b < 0
    · simp only [c1, c2, decide_true, beq_self_eq_true, if_true]
      by_cases c3 : wrap64 (a + b) < 0
      · simp only [c3, decide_true, bne_self_eq_false, Bool.false_eq_true, if_false]
        rw [if_pos (by omega)]; congr 2; omega
      · simp only [c3, decide_false, Bool.false_bne, if_true]
        rw [if_neg (by omega)]
    · simp only [c1, c2, decide_true, decide_false, Bool.true_beq, Bool.false_eq_true, if_false]
      rw [if_pos (by omega)]; congr 2; omega
  · by_cases c2 : b < 0
    · simp only [c1, c2, decide_true, decide_false, Bool.false_beq, Bool.not_true, Bool.false_eq_true, if_false]
      rw [if_pos (by omega)]; congr 2; omega
    · simp only [c1, c2, decide_false, beq_self_eq_true, if_true]
      by_cases c3 : wrap64 (a + b) < 0
      · simp only [c3, decide_true, Bool.true_bne, Bool.not_false, if_true]
        rw [if_neg (by omega)]
      · simp only [c3, decide_false, bne_self_eq_false, Bool.false_eq_true, if_false]
        rw [if_pos (by omega)]; congr 2; omega

theorem rAdd_f (a b : Int) (ha : I64 a) (hb : I64 b) : heraldref02_Add.f a b = some (addS a b) := by
  unfold heraldref02_Add.f addS; unfold I64 at ha hb
  by_cases c1 : b > 0
  · rw [if_pos c1, wrap64_id' (x := 9223372036854775807 - b) (by omega) (by omega)]
    by_cases c2 : a > 9223372036854775807 - b
    · rw [if_pos c2, if_neg (by omega)]
    · rw [if_neg c2, if_neg (by omega), if_pos (by omega), wrap64_id' (by omega) (by omega)]
  · rw [if_neg c1]
    by_cases c2 : b < 0
    · rw [if_pos c2, wrap64_id' (x := -9223372036854775808 - b) (by omega) (by omega)]
      by_cases c3 : a < -9223372036854775808 - b
      · rw [if_pos c3, if_neg (by omega)]
      · rw [if_neg c3, if_pos (by omega), wrap64_id' (by omega) (by omega)]
    · rw [if_neg c2, if_pos (by omega), wrap64_id' (by omega) (by omega)]

def tot : List Int → Int → Int
  | [], s => s
  | x :: t, s => tot t (s + x)
def sumS (l : List Int) : Int × Bool := if -9223372036854775808 ≤ tot l 0 ∧ tot l 0 ≤ 9223372036854775807 then (tot l 0, true) else (0, false)
theorem and_mask (x : Int) : bits .and .i64 x 4294967295 = x % 4294967296 := by
  simp only [bits]
  have h : (BitVec.ofInt 64 x &&& BitVec.ofInt 64 4294967295).toNat = (x % 4294967296).toNat := by
    rw [BitVec.toNat_and]
    have e : (BitVec.ofInt 64 4294967295).toNat = 2 ^ 32 - 1 := rfl
    rw [e, Nat.and_two_pow_sub_one_eq_mod, BitVec.toNat_ofInt]
    omega
  show IntKind.i64.wrap ↑((BitVec.ofInt 64 x &&& BitVec.ofInt 64 4294967295).toNat) = x % 4294967296
  rw [h, IntKind.wrap_i64]; omega

/-- A number times x, so often. -/
def powGo (x : Int) : Nat → Int → Int × Bool
  | 0, out => (out, true)
  | m + 1, out => if -9223372036854775808 ≤ out * x ∧ out * x ≤ 9223372036854775807 then powGo x m (out * x) else (0, false)
def powS (x n : Int) : Int × Bool := if n < 0 then (0, false) else (if -1 ≤ x ∧ x ≤ 1 then (if n = 0 ∨ x = -1 ∧ n % 2 = 0 then (1, true) else (x, true)) else powGo x n.toNat 1)
theorem even_tmod (n : Int) : Int.tmod n 2 = 0 ↔ n % 2 = 0 := by
  have h := tmod_pos (a := n) (d := 2) (by omega)
  split at h <;> omega

def gcdS (a c : Int) : Int × Bool := if (Nat.gcd a.natAbs c.natAbs : Int) > 9223372036854775807 then (0, false) else ((Nat.gcd a.natAbs c.natAbs : Int), true)
end Go.Proofs.Ytigfodkakefhcaa.L
