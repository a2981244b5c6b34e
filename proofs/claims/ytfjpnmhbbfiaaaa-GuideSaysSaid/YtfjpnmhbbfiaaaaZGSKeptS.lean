/- Maps of the call's own to strings: which keys they hold, and which strings behind them. Each law names its conditions. -/
import Derived.Maps.OwnSet
import Derived.Maps.StringElems
import Derived.WideKeyArr2
import Derived.Carry
import Derived.OwnWalk
import Derived.Test.YtfjpnmhbbfiaaaaZGSWWords
namespace Go.Proofs.Ytfjpnmhbbfiaaaa.KeptS
open Go Go.RowKit Go.Maps Go.WideMaps Go.Proofs.YtfjpnmhbbfiaaaaW.PrintWords
set_option linter.unusedVariables false
set_option linter.unusedSimpArgs false
/-- Block b is a map of the call's own to strings, with just these keys and strings. -/
def KeptS (P : Program) (k e : TypeId) (w : World) (b : Nat) (f : List (Value × ByteArray)) : Prop :=
  ∃ (D : DataW Unit), w.ownsMap P k (plainElem P e) b f.length D ∧ size D = f.length ∧ ∀ v kl, keyOf P k v = some kl → (has D kl = true ↔ ∃ i, (v, i) ∈ f) ∧ ∀ i, (v, i) ∈ f → ∀ z, D.atKey kl z = .lit (.string i.data.toList)
variable {P : Program} {k e : TypeId} {w w1 : World} {b : Nat} {f : List (Value × ByteArray)}
theorem KeptS.made (P : Program) (k e : TypeId) (w : World) : KeptS P k e (w.alloc (.map #[] 0)) w.heap.size [] :=
  ⟨.map [], World.ownsMap_made _ _ _ _, by simp [size], fun v kl _ => ⟨by simp [has], fun i h => by simp at h⟩⟩
theorem KeptS.lt (h : KeptS P k e w b f) : b < w.heap.size := by
  obtain ⟨D, ho, _⟩ := h
  exact ho.lt
theorem KeptS.kept {row : Option Nat} (h : KeptS P k e w b f) (hg : w.grownBy w1 row) (hr : row ≠ some b) : KeptS P k e w1 b f := by
  obtain ⟨D, ho, hs, hh⟩ := h
  exact ⟨D, ho.kept hg (fun e => hr e.symm), hs, hh⟩
theorem str_inv {P : Program} {e : TypeId} (he : P.underlying e = some .string) {v : Value} {d : DataW Unit} {ps : List MemPlace} (h : plainElem P e v = some (d, ps)) : ∃ c : ByteArray, v = .string c ∧ d = .lit (.string c.data.toList) := by
  unfold plainElem at h
  rw [he] at h
  cases v <;> simp at h
  exact ⟨_, rfl, h.2.1.symm⟩
theorem str_eq {a b : ByteArray} (h : a.data.toList = b.data.toList) : a = b := by
  cases a; cases b
  simp only at h
  congr 1
  exact Array.toList_inj.1 h
section
variable {ops : Array Oper} {rest : List Oper} {o : Oper} {a : Act} {Q : Exit → Act → World → Prop}
/-- 'v, ok := m[k]': the string, if there is one. -/
theorem look (hS : KeptS P k e w b f) (K : Keyed P k) (m x : Operand) (t : TypeId) (hop : o.op = Op.lookup t m x true) (hg : o.guard = none) (ht : P.underlying t = some (.map k e)) (he : P.underlying e = some .string) (hz : ∀ w, (zeroValue e).run P w = .ok (.string ⟨#[]⟩) w)
    (hm : a.eval m = .map (some b)) (key : Value) (hx : a.eval x = key) (kl : Lit) (hkey : keyOf P k key = some kl)
    (hK : ∀ (c : ByteArray) (r : Bool), (r = true ↔ ∃ i, (key, i) ∈ f) → (∀ i, (key, i) ∈ f → c = i) → wpList P ops Q rest (a.put o.dst (.tuple #[.string c, .bool r])) w) : wpList P ops Q (o :: rest) a w := by
  obtain ⟨D, ho, hs, hh⟩ := hS
  obtain ⟨h1, h2⟩ := hh key kl hkey
  refine wpList_lookup_own_ok w hg m x t hop k e K ht (plainElem P e) (hz w) (.lit (.string [])) [] (plainElem_string he (s := ⟨#[]⟩) (by decide)) b f.length D hm ho key kl hx hkey (fun v ps hv => ?_)
  obtain ⟨c, rfl, hc⟩ := str_inv he hv
  refine hK c _ h1 (fun i hi => ?_)
  have h3 := h2 i hi (.lit (.string []))
  rw [hc] at h3
  injection h3 with h3
  injection h3 with h3
  exact str_eq h3
/-- 'm[k]': the string, of a key that is there. -/
theorem get (hS : KeptS P k e w b f) (K : Keyed P k) (m x : Operand) (t : TypeId) (hop : o.op = Op.lookup t m x false) (hg : o.guard = none) (ht : P.underlying t = some (.map k e)) (he : P.underlying e = some .string) (hz : ∀ w, (zeroValue e).run P w = .ok (.string ⟨#[]⟩) w)
    (hm : a.eval m = .map (some b)) (key : Value) (hx : a.eval x = key) (kl : Lit) (hkey : keyOf P k key = some kl) (i : ByteArray) (hi : (key, i) ∈ f)
    (hK : wpList P ops Q rest (a.put o.dst (.string i)) w) : wpList P ops Q (o :: rest) a w := by
  obtain ⟨D, ho, hs, hh⟩ := hS
  obtain ⟨h1, h2⟩ := hh key kl hkey
  obtain ⟨v, ps, hrun, hv⟩ := ho.lookup K ht (hz w) (plainElem_string (H := Unit) he (s := ⟨#[]⟩) (by decide)) hkey
  obtain ⟨c, rfl, hc⟩ := str_inv he hv
  have h3 := h2 i hi (.lit (.string []))
  rw [show (.lit (.string []) : DataW Unit) = .lit (.string (⟨#[]⟩ : ByteArray).data.toList) from rfl] at h3
  rw [hc] at h3
  injection h3 with h3
  injection h3 with h3
  obtain rfl := str_eq h3
  refine wpList_plain hg fun K' hK' => ?_
  unfold Oper.wp
  simp [execOp, hop, hm, hx, hrun, Result.andThen]
  exact hK' _ _ hK
theorem put_core {D : DataW Unit} (ho : w.ownsMap P k (plainElem P e) b f.length D) (hs : size D = f.length) (hh : ∀ v kl, keyOf P k v = some kl → (has D kl = true ↔ ∃ i, (v, i) ∈ f) ∧ ∀ i, (v, i) ∈ f → ∀ z, D.atKey kl z = .lit (.string i.data.toList)) (K : Keyed P k) (key : Value) (kl : Lit) (hkey : keyOf P k key = some kl) (hno : ∀ i, (key, i) ∉ f) (i : ByteArray)
    (w1 : World) (h1 : w1.ownsMap P k (plainElem P e) b (f.length + 1) (D.put kl (.lit (.string i.data.toList)))) : KeptS P k e w1 b (f ++ [(key, i)]) := by
  have hM := ho.isMap
  have hkk := K.key hkey
  have hnh : has D kl = false := by
    cases hq : has D kl
    · rfl
    · obtain ⟨j, hj⟩ := (hh key kl hkey).1.1 hq
      exact absurd hj (hno j)
  refine ⟨_, by simpa using h1, ?_, fun v' kv hv' => ⟨?_, fun j hj z => ?_⟩⟩
  · rw [size_put (ho.tidy K), hnh, hs]; simp
  · by_cases c : kv = kl
    · subst c
      have e1 : v' = key := K.inj hv' hkey
      subst e1
      rw [has_put_same hM hkk]
      simp
    · rw [has_put_other c, (hh v' kv hv').1]
      have hne : v' ≠ key := fun e => by subst e; rw [hkey] at hv'; exact c (Option.some.inj hv').symm
      constructor
      · rintro ⟨j, hj⟩; exact ⟨j, by simp [hj]⟩
      · rintro ⟨j, hj⟩
        rcases List.mem_append.1 hj with hj | hj
        · exact ⟨j, hj⟩
        · simp at hj; exact absurd hj.1 hne
  · by_cases c : kv = kl
    · subst c
      have e1 : v' = key := K.inj hv' hkey
      subst e1
      rw [atKey_put_same hM hkk]
      rcases List.mem_append.1 hj with hj | hj
      · exact absurd hj (hno j)
      · simp at hj; rw [hj]
    · rw [atKey_put_other c]
      have hne : v' ≠ key := fun e => by subst e; rw [hkey] at hv'; exact c (Option.some.inj hv').symm
      rcases List.mem_append.1 hj with hj | hj
      · exact (hh v' kv hv').2 j hj z
      · simp at hj; exact absurd hj.1 hne
/-- 'm[k] = i', of a key that is not there. -/
theorem put (hS : KeptS P k e w b f) (K : Keyed P k) (m x v : Operand) (t : TypeId) (hop : o.op = Op.mapUpdate t m x v) (hg : o.guard = none) (ht : P.underlying t = some (.map k e)) (he : P.underlying e = some .string) (hlen : f.length < maxLen)
    (hm : a.eval m = .map (some b)) (key : Value) (hx : a.eval x = key) (kl : Lit) (hkey : keyOf P k key = some kl) (hno : ∀ i, (key, i) ∉ f) (i : ByteArray) (hv : a.eval v = .string i) (hi : i.size ≤ maxLen)
    (hK : ∀ w1, KeptS P k e w1 b (f ++ [(key, i)]) → w.grownBy w1 (some b) → wpList P ops Q rest (a.put o.dst undef) w1) : wpList P ops Q (o :: rest) a w := by
  obtain ⟨D, ho, hs, hh⟩ := hS
  exact wpList_mapUpdate_own w hg m x v t hop k e K ht (plainElem P e) b f.length D hm ho hlen key (.string i) kl hx hv hkey (.lit (.string i.data.toList)) [] (plainElem_string he hi) (fun w1 h1 h2 => hK w1 (put_core ho hs hh K key kl hkey hno i w1 h1) h2)
/-- The same, a pair of a literal. -/
theorem ins (hS : KeptS P k e w b f) (K : Keyed P k) (m x v : Operand) (t : TypeId) (hop : o.op = Op.insert t m x v) (hg : o.guard = none) (ht : P.underlying t = some (.map k e)) (he : P.underlying e = some .string) (hlen : f.length < maxLen)
    (hm : a.eval m = .map (some b)) (key : Value) (hx : a.eval x = key) (kl : Lit) (hkey : keyOf P k key = some kl) (hno : ∀ i, (key, i) ∉ f) (i : ByteArray) (hv : a.eval v = .string i) (hi : i.size ≤ maxLen)
    (hK : ∀ w1, KeptS P k e w1 b (f ++ [(key, i)]) → w.grownBy w1 (some b) → wpList P ops Q rest (a.put o.dst undef) w1) : wpList P ops Q (o :: rest) a w := by
  obtain ⟨D, ho, hs, hh⟩ := hS
  refine wpList_plain hg fun K' hK' => ?_
  obtain ⟨w', hrun, r1, r2⟩ := ho.update K ht hlen hkey (plainElem_string (H := Unit) he hi)
  unfold Oper.wp
  simp [execOp, hop, hm, hx, hv, hrun, Result.andThen]
  exact hK' _ _ (hK w' (put_core ho hs hh K key kl hkey hno i w' r1) r2)
/-- 'len(m)'. -/
theorem len (hS : KeptS P k e w b f) (m : Operand) (t : TypeId) (hop : o.op = Op.call { callee := Callee.builtin Builtin.len, args := #[m], argTypes := #[t] }) (hg : o.guard = none) (ht : P.underlying t = some (.map k e)) (hm : a.eval m = .map (some b))
    (h : wpList P ops Q rest (a.put o.dst (.int .i64 f.length)) w) : wpList P ops Q (o :: rest) a w := by
  obtain ⟨D, ho, hs, hh⟩ := hS
  refine wpList_len_own w hg m t hop k e ht (plainElem P e) b f.length D hm ho ?_
  rw [hs]; exact h
end
theorem KeptS.below {P : Program} {k e : TypeId} {w w1 : World} {b : Nat} {f : List (Value × ByteArray)} (h : KeptS P k e w b f) (hb : Below w.heap.size w w1) : KeptS P k e w1 b f := h.kept (grown_of_below hb none) (by simp)
section
variable {P : Program} {ops : Array Oper} {rest : List Oper} {o : Oper} {a : Act} {Q : Exit → Act → World → Prop} {W : World}
/-- 'make(map[K]int)': a new block, a map without keys. -/
theorem map_event (t k e : TypeId) (hgd : o.guard = none) (hop : o.op = Op.makeMap t none)
    (h : ∀ g, g = W.heap.size → ∀ w1, KeptS P k e w1 g [] → Below W.heap.size W w1 → wpList P ops Q rest (a.put o.dst (.map (some g))) w1) : wpList P ops Q (o :: rest) a W := by
  refine wpList_plain hgd fun K' hK' => ?_
  unfold Oper.wp
  simp [execOp, hop, run_makeMap, Result.andThen]
  exact hK' _ _ (h _ rfl _ (KeptS.made P k e W) (below_alloc (Below.refl _ _) _))
end
end Go.Proofs.Ytfjpnmhbbfiaaaa.KeptS
