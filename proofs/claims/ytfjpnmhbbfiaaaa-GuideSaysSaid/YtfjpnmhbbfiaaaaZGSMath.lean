/- Plain facts on whole numbers: roots, quotients, nearest quotients, bits; no program in sight. No conditions beyond those that each lemma names. -/
import Derived.Laws.BitsLemmas
import Derived.RowKit
import Derived.Test.YtfjpnmhbbfiaaaaZGSShort
import Derived.Test.YtfjpnmhbbfiaaaaZGSWWords
namespace Go.Proofs.Ytfjpnmhbbfiaaaa.M
open Go Go.RowKit Go.Proofs.YtfjpnmhbbfiaaaaW.PrintWords Go.Proofs.YtfjpnmhbbfiaaaaW.PrintLast Go.Proofs.YtfjpnmhbbfiaaaaW.PrintMore
set_option linter.unusedVariables false
set_option linter.unusedSimpArgs false

/-! ### numbers of 64 and 8 bits -/
def I64 (x : Int) : Prop := -9223372036854775808 ≤ x ∧ x ≤ 9223372036854775807
def I8 (x : Int) : Prop := -128 ≤ x ∧ x ≤ 127
theorem wrap64_id {x : Int} (h : I64 x) : wrap64 x = x := by unfold I64 at h; unfold wrap64; omega
theorem wrap64_id' {x : Int} (h0 : -9223372036854775808 ≤ x) (h1 : x ≤ 9223372036854775807) : wrap64 x = x := wrap64_id ⟨h0, h1⟩
theorem I8.i64 {x : Int} (h : I8 x) : I64 x := by unfold I8 at h; unfold I64; omega

/-- Floor, as the document has it: the quotient, rounded down, and what is left. -/
def floorS (a d : Int) : Int × Int × Int := if d < 1 then (0, 0, 21) else (a / d, a % d, 0)
/-- The nearest whole number; of two the even one. -/
def near (a d : Int) : Int := if a % d > d - a % d ∨ (a % d = d - a % d ∧ (a / d) % 2 = 1) then a / d + 1 else a / d
def nearS (a d : Int) : Int × Int := if d < 1 then (0, 21) else (near a d, 0)
def roundS (a s : Int) : Int × Int := if s < 0 ∨ s > 62 then (0, 20) else (near a (2 ^ s.toNat), 0)
/-! ### roots -/
def isq : Nat → Nat
  | 0 => 0
  | n + 1 => if (isq n + 1) * (isq n + 1) ≤ n + 1 then isq n + 1 else isq n
/-- The root, rounded down, of a number from 0 on. -/
def sq (x : Int) : Int := (isq x.toNat : Int)
def sqrtS (x : Int) : Int × Int := if x < 0 then (0, 22) else (sq x, 0)
end Go.Proofs.Ytfjpnmhbbfiaaaa.M
