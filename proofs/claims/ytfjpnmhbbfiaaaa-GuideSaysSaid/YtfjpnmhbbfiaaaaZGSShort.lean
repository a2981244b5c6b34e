-- Out of the print's words: those that this claim's texts name.
-- PRINTED WORDS (module Derived/Print/More.lean): go-gate-2's additions: an AI agent of Go's test side, Tue Nov 17 2026; no person has read it. Lean checks it.
import Derived.Test.YtfjpnmhbbfiaaaaZGSWWords
import Derived.Test.YtfjpnmhbbfiaaaaZGSWLast
import Derived.Test.YtfjpnmhbbfiaaaaZGSWQPut
import Derived.Test.YtfjpnmhbbfiaaaaZGSWFoot
import Derived.Test.YtfjpnmhbbfiaaaaZGSWNEv
namespace Go.Proofs.YtfjpnmhbbfiaaaaW.PrintMore
open Go.RowKit Go.Proofs.YtfjpnmhbbfiaaaaW.PrintWords
namespace Kd
open Go.Proofs.YtfjpnmhbbfiaaaaW.PrintWords.Kd
end Kd

namespace Kd
open Go.Proofs.YtfjpnmhbbfiaaaaW.PrintWords.Kd
section
variable {α : Type} {d : Kd α} {e base g N : Nat} {ok : Nat → Prop} {W w1 : World} {u v : Value} {xs : List α}
end
end Kd
/-- 'max' and 'min' of two whole numbers. -/
theorem max2_int (k k' : IntKind) (x y : Int) : Builtin.max2 (.int k x) (.int k' y) = pure (.int k (if x < y then y else x)) := by simp only [Builtin.max2, gt_iff_lt]
theorem min2_int (k k' : IntKind) (x y : Int) : Builtin.min2 (.int k x) (.int k' y) = pure (.int k (if y < x then y else x)) := by simp only [Builtin.min2]
theorem max_two (ats : Array TypeId) (ty : TypeId) (a b : Value) : Builtin.max_ ats ty #[a, b] = (Builtin.max2 a b >>= fun s => pure s) := by simp only [Builtin.max_, List.foldlM_cons, List.foldlM_nil]
theorem min_two (ats : Array TypeId) (ty : TypeId) (a b : Value) : Builtin.min_ ats ty #[a, b] = (Builtin.min2 a b >>= fun s => pure s) := by simp only [Builtin.min_, List.foldlM_cons, List.foldlM_nil]
theorem max_three (ats : Array TypeId) (ty : TypeId) (a b c : Value) : Builtin.max_ ats ty #[a, b, c] = (Builtin.max2 a b >>= fun s => Builtin.max2 s c >>= fun s => pure s) := by simp only [Builtin.max_, List.foldlM_cons, List.foldlM_nil]
theorem min_three (ats : Array TypeId) (ty : TypeId) (a b c : Value) : Builtin.min_ ats ty #[a, b, c] = (Builtin.min2 a b >>= fun s => Builtin.min2 s c >>= fun s => pure s) := by simp only [Builtin.min_, List.foldlM_cons, List.foldlM_nil]
theorem max_four (ats : Array TypeId) (ty : TypeId) (a b c d : Value) : Builtin.max_ ats ty #[a, b, c, d] = (Builtin.max2 a b >>= fun s => Builtin.max2 s c >>= fun s => Builtin.max2 s d >>= fun s => pure s) := by simp only [Builtin.max_, List.foldlM_cons, List.foldlM_nil]
theorem min_four (ats : Array TypeId) (ty : TypeId) (a b c d : Value) : Builtin.min_ ats ty #[a, b, c, d] = (Builtin.min2 a b >>= fun s => Builtin.min2 s c >>= fun s => Builtin.min2 s d >>= fun s => pure s) := by simp only [Builtin.min_, List.foldlM_cons, List.foldlM_nil]
end Go.Proofs.YtfjpnmhbbfiaaaaW.PrintMore
namespace Go.Proofs.YtfjpnmhbbfiaaaaW.PrintWords
open Go.RowKit
section
variable {P : Program} {ops : Array Oper} {rest : List Oper} {o : Oper} {a : Act} {Q : Exit → Act → World → Prop} {W : World}
/-- The operation is a call of this function (a cheap look ahead of a dear step). -/
theorem gate_callee {f : FuncId} {as : Array Operand} {ts : Array TypeId} (_ho : o.op = .call { callee := .value (.func f), args := as, argTypes := ts }) (h : wpList P ops Q (o :: rest) a W) : wpList P ops Q (o :: rest) a W := h
/-- The operation is a builtin over these places. -/
theorem gate_builtin {b : Builtin} {xs : Array Operand} {ts : Array TypeId} (_ho : o.op = .call { callee := .builtin b, args := xs, argTypes := ts }) (h : wpList P ops Q (o :: rest) a W) : wpList P ops Q (o :: rest) a W := h
end
/-- The greater of two whole numbers, as Go's max tells it. -/
def mx (a b : Int) : Int := if a < b then b else a
/-- The smaller of two whole numbers, as Go's min tells it. -/
def mn (a b : Int) : Int := if b < a then b else a
/-- A shift to the left, as Go tells it: a count beyond the width leaves nothing. -/
def shl (k : IntKind) (x y : Int) : Int := k.wrap (x * 2 ^ min y.toNat k.bits)
/-- A shift to the right: a count beyond the width leaves the sign. -/
def shr (k : IntKind) (x y : Int) : Int := x / 2 ^ min y.toNat k.bits
namespace Kd
section
variable {α : Type} {d : Kd α} {e base : Nat} {ok : Nat → Prop} {W w1 : World} {v : Value} {xs : List α}
end
section
variable {α : Type} {d : Kd α} {e base g n cap : Nat} {ok oki okp : Nat → Prop} {W : World} {xs : List α} {i : Int} {c : List Value}
end
section
variable {α : Type} {d : Kd α} {e base b b' g N : Nat} {ok ok1 : Nat → Prop} {W W2 w1 : World} {u v : Value} {xs ys : List α} {S : Nat → Prop}
end
end Kd
end Go.Proofs.YtfjpnmhbbfiaaaaW.PrintWords
namespace Go.Proofs.YtfjpnmhbbfiaaaaW.PrintWords
open Go.RowKit
namespace Kd
/-- A row that is only read, told by its value: its form, its length, what it leads to (in ok). e and base say nothing; they make it as the others are. -/
def V {α : Type} (d : Kd α) (_e : Nat) (W : World) (_base : Nat) (ok : Nat → Prop) (v : Value) (xs : List α) : Prop := ∃ A c, v = .slice A xs.length c ∧ xs.length ≤ c ∧ F d W ok A xs.length xs
section
variable {α β : Type} {d : Kd α} {e base base' n m c g N' lo hi : Nat} {ok ok' S : Nat → Prop} {w W w1 : World} {A : Option Addr} {ad : Addr} {u v v1 : Value} {xs : List α}
theorem V_nil (d : Kd α) (e : Nat) (W : World) (base : Nat) (ok : Nat → Prop) : V d e W base ok (.slice none 0 0) [] := ⟨none, 0, rfl, Nat.le_refl _, F_nil d W ok⟩
end
end Kd
end Go.Proofs.YtfjpnmhbbfiaaaaW.PrintWords
/- Short names for words of the walks: a file of a claim holds 300,000 bytes at most. No conditions. -/
namespace Go.Proofs.Ytfjpnmhbbfiaaaa.P
open Go.RowKit Go.Proofs.YtfjpnmhbbfiaaaaW.PrintWords Go.Proofs.YtfjpnmhbbfiaaaaW.PrintLast Go.Proofs.YtfjpnmhbbfiaaaaW.PrintMore
set_option linter.unusedVariables false
theorem ye : type_of% @below_drew1 := @below_drew1
theorem ys : type_of% @below_set := @below_set
theorem yh : type_of% @Kd.R_drew := @Kd.R_drew
theorem yi : type_of% @Kd.C_alloc := @Kd.C_alloc
theorem yj : type_of% @Kd.C_drewN := @Kd.C_drewN
theorem yk : type_of% @Kd.C_drew := @Kd.C_drew
theorem yn : type_of% @below_step := @below_step
theorem yo : type_of% @Kd.R_lower := @Kd.R_lower
theorem yp : type_of% @Kd.R_below := @Kd.R_below
theorem yq : type_of% @blk_below := @blk_below
theorem yt : type_of% @blk_drew := @blk_drew
theorem yv : type_of% @blk_frozen := @blk_frozen
theorem yw : type_of% @blk_cell := @blk_cell
theorem yx : type_of% @blk_far := @blk_far
theorem yy : type_of% @blk_put := @blk_put
theorem y0.{u} : (type_of% @List.setIfInBounds_toArray.{u}) ∧ (type_of% @List.set_cons_zero.{u}) ∧ (type_of% @List.set_cons_succ.{u}) := ⟨@List.setIfInBounds_toArray.{u}, @List.set_cons_zero.{u}, @List.set_cons_succ.{u}⟩
abbrev o_ : Bool := false
abbrev i_ : Bool := true
theorem y1 : (type_of% @i64_w) ∧ (type_of% @i32_w) := ⟨@i64_w, @i32_w⟩
/-- One step of a world that keeps all that was. -/
class Nx (w : outParam Go.World) (w' : Go.World) : Prop where
  b : Below w.heap.size w w'
instance (w : Go.World) (o : Go.Obj) : Nx w (w.alloc o) := ⟨below_alloc (Below.refl _ _) o⟩
instance (w : Go.World) : Nx w w.drew := ⟨below_drew (Below.refl _ _)⟩
instance (w : Go.World) (m : Nat) : Nx w (w.drewN m) := ⟨pw_below_drewN (Below.refl _ _) m⟩
theorem y2 {α : Type} [Inhabited α] {d : Kd α} {e base : Nat} {ok : Nat → Prop} {v : Go.Value} {xs : List α} {w w' : Go.World} [h : Nx w w'] (H : Kd.R d e w base ok v xs) : Kd.R d e w' base ok v xs := Kd.R_below H h.b
theorem y3 {w W W' : Go.World} [h : Nx W W'] (H : Below w.heap.size w W) : Below w.heap.size w W' := below_step H h.b
theorem y4 {g : Nat} {o : Go.Obj} {w w' : Go.World} [h : Nx w w'] (H : w.heap[g]? = some o) : w'.heap[g]? = some o := blk_below H h.b
theorem ym {p : Prop} (h : p) : Aside0 p := ⟨h⟩
end Go.Proofs.Ytfjpnmhbbfiaaaa.P
