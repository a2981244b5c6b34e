/- What arrays of whole numbers, and a number beside such an array, read as, as a map's keys. Each law names its conditions. -/
import Derived.Maps.OwnSet
import Derived.WideKeyArr2
import Derived.DeepKeys4
import Derived.Carry
namespace Go.Proofs.Ytfjpnmhbbfiaaaa.Keys
open Go Go.RowKit Go.Maps Go.WideMaps
set_option linter.unusedVariables false
variable {P : Program}
theorem lits_ints {D : Nat} {e : TypeId} {q : IntKind} (he : P.underlying e = some (.int q)) {x : Int} (hx : (Lit.int q x).wf = true) : P.keyLits (D + 1) e [.int q x] = some [.int q x] := by
  unfold Program.keyLits
  simp [he, hx]
theorem flat_one {α β : Type} (g : α → β) : ∀ l : List α, (l.map fun i => [g i]).flatten = l.map g
  | [] => rfl
  | i :: l => by rw [List.map_cons, List.flatten_cons, flat_one g l]; rfl
theorem lits_arr {D n : Nat} {t e : TypeId} {q : IntKind} (ht : P.underlying t = some (.array n e)) (he : P.underlying e = some (.int q)) (hc : P.cellsOf t = n) (h1 : P.cellsOf e = 1) {xs : List Int} (hl : xs.length = n) (hw : ∀ x ∈ xs, (Lit.int q x).wf = true) :
    P.keyLits (D + 2) t (xs.map (Value.int q)) = some (xs.map (Lit.int q)) := by
  have key : ∀ i ∈ List.range n, P.keyLits (D + 1) e (((xs.map (Value.int q)).drop (i * P.cellsOf e)).take (P.cellsOf e)) = some [Lit.int q (xs.getD i 0)] := fun i hi => by
    have hin := List.mem_range.1 hi
    have hil : i < xs.length := by omega
    have e1 : ((xs.map (Value.int q)).drop (i * P.cellsOf e)).take (P.cellsOf e) = [.int q (xs.getD i 0)] := by
      rw [h1, Nat.mul_one, List.drop_eq_getElem_cons (by simp; exact hil), List.take_one]
      simp [List.getD_eq_getElem?_getD, List.getElem?_eq_getElem hil]
    rw [e1]
    exact lits_ints he (by
      rw [List.getD_eq_getElem?_getD, List.getElem?_eq_getElem hil]
      exact hw _ (List.getElem_mem hil))
  have hm : ∀ l : List Nat, (∀ i ∈ l, i ∈ List.range n) → (l.mapM fun i => P.keyLits (D + 1) e (((xs.map (Value.int q)).drop (i * P.cellsOf e)).take (P.cellsOf e))) = some (l.map fun i => [Lit.int q (xs.getD i 0)]) := fun l => by
    induction l with
    | nil => intro _; rfl
    | cons i l ih =>
      intro h
      rw [List.mapM_cons, key i (h i List.mem_cons_self), ih fun j hj => h j (List.mem_cons_of_mem _ hj)]
      rfl
  have hfl : ((List.range n).map fun i => [Lit.int q (xs.getD i 0)]).flatten = xs.map (Lit.int q) := by
    have e2 := flat_one (fun i => Lit.int q (xs.getD i 0)) (List.range n)
    rw [e2]
    apply List.ext_getElem
    · simp [hl]
    · intro i h2 h3
      simp at h2 h3
      simp [List.getD_eq_getElem?_getD, List.getElem?_eq_getElem h3]
  unfold Program.keyLits
  simp only [ht]
  cases hq : xs.map (Value.int q) with
  | nil =>
    have hx0 : xs = [] := by simpa using hq
    subst hx0
    have hn : n = 0 := by simpa using hl.symm
    subst hn
    simp [hc]
  | cons v l =>
    rw [← hq]
    simp only [List.length_map, hl, hc, if_true]
    rw [hm _ fun i hi => hi, Option.map_some, hfl]
theorem lits_look {D n : Nat} {k t e : TypeId} {q : IntKind} {f0 f1 : Field} (hk : P.underlying k = some (.struct #[f0, f1])) (t0 : f0.type = e) (o0 : f0.offset = 0) (n0 : ¬ f0.name = "_") (t1 : f1.type = t) (o1 : f1.offset = 1) (n1 : ¬ f1.name = "_")
    (ht : P.underlying t = some (.array n e)) (he : P.underlying e = some (.int q)) (hck : P.cellsOf k = n + 1) (hc : P.cellsOf t = n) (h1 : P.cellsOf e = 1) {c : Int} (hcw : (Lit.int q c).wf = true) {xs : List Int} (hl : xs.length = n) (hw : ∀ x ∈ xs, (Lit.int q x).wf = true) :
    P.keyLits (D + 3) k (.int q c :: xs.map (Value.int q)) = some (.int q c :: xs.map (Lit.int q)) := by
  have e0 : P.keyLits (D + 2) e [.int q c] = some [.int q c] := lits_ints he hcw
  have e1 := lits_arr (D := D) ht he hc h1 hl hw
  have e2 : (xs.map (Value.int q)).take n = xs.map (Value.int q) := by rw [List.take_of_length_le (by simp [hl])]
  unfold Program.keyLits
  simp only [hk]
  rw [if_pos ⟨by simp [hl, hck], by simp [n0, n1]⟩]
  simp [t0, o0, t1, o1, h1, hc, e0, e1, e2]
theorem key_look {n m : Nat} {k t e : TypeId} {q : IntKind} {f0 f1 : Field} (hk : P.underlying k = some (.struct #[f0, f1])) (t0 : f0.type = e) (o0 : f0.offset = 0) (n0 : ¬ f0.name = "_") (t1 : f1.type = t) (o1 : f1.offset = 1) (n1 : ¬ f1.name = "_")
    (ht : P.underlying t = some (.array n e)) (he : P.underlying e = some (.int q)) (hck : P.cellsOf k = n + 1) (hc : P.cellsOf t = n) (h1 : P.cellsOf e = 1) (hkt : P.keyType k = true) (hsz : P.types.size = m + 2) {c : Int} (hcw : (Lit.int q c).wf = true) {xs : List Int} (hl : xs.length = n) (hw : ∀ x ∈ xs, (Lit.int q x).wf = true) :
    keyOf P k (.agg (.int q c :: xs.map (Value.int q)).toArray) = some (.string (keyBytes (.int q c :: xs.map (Lit.int q)))) := by
  unfold keyOf
  simp only [hk]
  rw [if_pos (by simp [hkt, Value.formed, hk, hck, hl])]
  rw [hsz]
  simp only [Value.cells]
  rw [lits_look hk t0 o0 n0 t1 o1 n1 ht he hck hc h1 hcw hl hw]
  rfl
theorem key_arr {n m : Nat} {k e : TypeId} {q : IntKind} (hk : P.underlying k = some (.array n e)) (he : P.underlying e = some (.int q)) (hc : P.cellsOf k = n) (h1 : P.cellsOf e = 1) (hkt : P.keyType k = true) (hsz : P.types.size = m + 1) {xs : List Int} (hl : xs.length = n) (hw : ∀ x ∈ xs, (Lit.int q x).wf = true) :
    keyOf P k (.agg (xs.map (Value.int q)).toArray) = some (.string (keyBytes (xs.map (Lit.int q)))) := by
  unfold keyOf
  simp only [hk]
  rw [if_pos (by simp [hkt, Value.formed, hk, hc, hl])]
  rw [hsz]
  simp only [Value.cells]
  rw [lits_arr hk he hc h1 hl hw]
  rfl
end Go.Proofs.Ytfjpnmhbbfiaaaa.Keys
