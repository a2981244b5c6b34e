/- Which keys a map of the call's own holds: laws for the walk over maps to whole numbers whose keys are strings or pairs of whole numbers. Each law names its conditions. -/
import Derived.Maps.OwnSet
import Derived.WideKeyArr2
import Derived.Carry
import Derived.Test.YtfjpnmhbbfiaaaaZGYWWords
import Derived.Test.YtfjpnmhbbfiaaaaZGYWLast
namespace Go.Proofs.Ytfjpnmhbbfiaaaa.Seen
open Go Go.RowKit Go.Maps Go.WideMaps Go.Proofs.YtfjpnmhbbfiaaaaW.PrintWords Go.Proofs.YtfjpnmhbbfiaaaaW.PrintLast
set_option linter.unusedVariables false
set_option linter.unusedSimpArgs false
/-- Block b is a map of the call's own, and its keys are those of the list. -/
def Seen (P : Program) (k e : TypeId) (w : World) (b : Nat) (keys : List Value) : Prop :=
  ∃ (n : Nat) (D : DataW Unit), n ≤ keys.length ∧ w.ownsMap P k (plainElem P e) b n D ∧ ∀ v kl, keyOf P k v = some kl → (has D kl = true ↔ v ∈ keys)
section
variable {P : Program} {k e : TypeId} {w w1 : World} {b : Nat} {keys : List Value}
theorem Seen.made (P : Program) (k e : TypeId) (w : World) : Seen P k e (w.alloc (.map #[] 0)) w.heap.size [] :=
  ⟨0, .map [], Nat.le_refl _, World.ownsMap_made _ _ _ _, fun v kl _ => by simp [has]⟩
theorem Seen.lt (h : Seen P k e w b keys) : b < w.heap.size := by
  obtain ⟨n, D, _, ho, _⟩ := h
  exact ho.lt
theorem Seen.below (h : Seen P k e w b keys) (hb : Below w.heap.size w w1) : Seen P k e w1 b keys := by
  obtain ⟨n, D, hn, ho, hh⟩ := h
  exact ⟨n, D, hn, ho.kept (grown_of_below hb none) (by simp), hh⟩
theorem has_put (K : Keyed P k) {n : Nat} {D d : DataW Unit} (ho : w.ownsMap P k (plainElem P e) b n D) {key v : Value} {kl kv : Lit} (hkey : keyOf P k key = some kl) (hv : keyOf P k v = some kv) : has (D.put kl d) kv = true ↔ (v = key ∨ has D kv = true) := by
  by_cases c : kv = kl
  · subst c
    have : v = key := K.inj hv hkey
    subst this
    rw [has_put_same ho.isMap (K.key hkey)]
    simp
  · rw [has_put_other c]
    constructor
    · exact .inr
    · rintro (rfl | h)
      · rw [hkey] at hv
        exact absurd (Option.some.inj hv).symm c
      · exact h
end
section
variable {P : Program} {ops : Array Oper} {rest : List Oper} {o : Oper} {a : Act} {Q : Exit → Act → World → Prop} {w : World}
/-- 'v, ok := m[k]': ok tells whether the key has been put. -/
theorem look {k e : TypeId} {b : Nat} {keys : List Value} (hS : Seen P k e w b keys) (K : Keyed P k) (m x : Operand) (t : TypeId) (hop : o.op = Op.lookup t m x true) (hg : o.guard = none) (ht : P.underlying t = some (.map k e)) (he : P.underlying e = some (.int .i64)) (hz : ∀ w, (zeroValue e).run P w = .ok (.int .i64 0) w)
    (hm : a.eval m = .map (some b)) (key : Value) (hx : a.eval x = key) (kl : Lit) (hkey : keyOf P k key = some kl) (r : Bool) (hr : r = true ↔ key ∈ keys)
    (hK : ∀ c : Int, wpList P ops Q rest (a.put o.dst (.tuple #[.int .i64 c, .bool r])) w) : wpList P ops Q (o :: rest) a w := by
  obtain ⟨n, D, hn, ho, hh⟩ := hS
  refine wpList_lookup_own_ok_int w hg m x t hop k e .i64 K ht he (hz w) b n D hm ho key kl hx hkey (fun c _ _ => ?_)
  have e1 : has D kl = r := by
    have := hh key kl hkey
    cases r <;> cases h : has D kl <;> simp_all
  rw [e1]
  exact hK c
/-- 'm[k] = i'. -/
theorem put {k e : TypeId} {b : Nat} {keys : List Value} (hS : Seen P k e w b keys) (K : Keyed P k) (m x v : Operand) (t : TypeId) (hop : o.op = Op.mapUpdate t m x v) (hg : o.guard = none) (ht : P.underlying t = some (.map k e)) (he : P.underlying e = some (.int .i64)) (hlen : keys.length < maxLen)
    (hm : a.eval m = .map (some b)) (key : Value) (hx : a.eval x = key) (kl : Lit) (hkey : keyOf P k key = some kl) (i : Int) (hv : a.eval v = .int .i64 i) (hi : (Lit.int .i64 i).wf = true)
    (hK : ∀ w1, Seen P k e w1 b (keys ++ [key]) → w.grownBy w1 (some b) → wpList P ops Q rest (a.put o.dst undef) w1) : wpList P ops Q (o :: rest) a w := by
  obtain ⟨n, D, hn, ho, hh⟩ := hS
  refine wpList_mapUpdate_own w hg m x v t hop k e K ht (plainElem P e) b n D hm ho (by omega) key (.int .i64 i) kl hx hv hkey (.lit (.int .i64 i)) [] (plainElem_int he hi) (fun w1 h1 h2 => hK w1 ⟨n + 1, _, by simp; omega, h1, fun v' kv hv' => ?_⟩ h2)
  rw [has_put K ho hkey hv', hh v' kv hv']
  simp [or_comm]
end
section
variable {P : Program} {ops : Array Oper} {rest : List Oper} {o : Oper} {a : Act} {Q : Exit → Act → World → Prop} {W : World}
/-- 'make(map[K]V)': a new block, a map without keys. -/
theorem map_event (t k e : TypeId) (hgd : o.guard = none) (hop : o.op = Op.makeMap t none)
    (h : ∀ g, g = W.heap.size → ∀ w1, Seen P k e w1 g [] → Below W.heap.size W w1 → wpList P ops Q rest (a.put o.dst (.map (some g))) w1) : wpList P ops Q (o :: rest) a W := by
  refine wpList_plain hgd fun K' hK' => ?_
  unfold Oper.wp
  simp [execOp, hop, run_makeMap, Result.andThen]
  exact hK' _ _ (h _ rfl _ (Seen.made P k e W) (below_alloc (Below.refl _ _) _))
end
/-- What a pair of whole numbers reads as, as a key. -/
theorem pair_key {P : Program} {k e : TypeId} (A : ArrKey P k e 2) (he : P.underlying e = some (.int .i64)) (hsz : ∃ m, P.types.size = m + 1) {x y : Int} (hx : (Lit.int .i64 x).wf = true) (hy : (Lit.int .i64 y).wf = true) : ∃ kl, keyOf P k (.agg #[.int .i64 x, .int .i64 y]) = some kl := by
  have hkt := A.keyType hsz
  obtain ⟨m0, hm0⟩ := hsz
  refine ⟨.string (keyBytes [.int .i64 x, .int .i64 y]), ?_⟩
  unfold keyOf
  simp only [A.hu]
  rw [if_pos (by simp [hkt, Value.formed, A.hu, A.size]), hm0]
  unfold Program.keyLits
  simp only [A.hu, Value.cells]
  rw [if_pos (by rw [A.size]; simp)]
  have h1 : ∀ D (u : Int), (Lit.int .i64 u).wf = true → P.keyLits (D + 1) e [.int .i64 u] = some [.int .i64 u] := fun D u hu => by
    unfold Program.keyLits
    simp [he, hu]
  have hc := A.one
  simp [List.range_succ, hc, List.mapM_cons, h1, hx, hy]
/-- A test of emptiness beside another test, as the walk spells it. -/
theorem test_ne {s : ByteArray} {b : Bool} (h : ((s.toList == ([] : List UInt8)) != b) = true) : s.toList.isEmpty = (!b) := by
  revert h
  cases s.toList <;> cases b <;> simp
theorem test_ne0 {s : ByteArray} {b : Bool} (h : ((s.toList == ([] : List UInt8)) != b) = false) : s.toList.isEmpty = b := by
  revert h
  cases s.toList <;> cases b <;> simp
theorem test_eq {s : ByteArray} {b : Bool} (h : ((s.toList == ([] : List UInt8)) == b) = true) : s.toList.isEmpty = b := by
  revert h
  cases s.toList <;> cases b <;> simp
theorem test_eq0 {s : ByteArray} {b : Bool} (h : ((s.toList == ([] : List UInt8)) == b) = false) : s.toList.isEmpty = (!b) := by
  revert h
  cases s.toList <;> cases b <;> simp
end Go.Proofs.Ytfjpnmhbbfiaaaa.Seen
