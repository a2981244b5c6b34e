/- Rows of one's own that are kept in a row of their own: what is stored into one says nothing of the others; what is appended to one behind its end says nothing of any. Plain laws on memory; each names its conditions. -/
import Derived.ArgAppend
import Derived.OwnWalk
import Derived.Maps.AppendAt
import Derived.Laws.OwnMore
import Derived.Test.YtfjpnmhbbfiaaaaZGBWWords
import Derived.Test.YtfjpnmhbbfiaaaaZGBWLast
import Derived.Test.YtfjpnmhbbfiaaaaZGBWApart
namespace Go.Proofs.Ytfjpnmhbbfiaaaa.Pool
open Go Go.RowKit Go.Proofs.YtfjpnmhbbfiaaaaW.PrintWords Go.Proofs.YtfjpnmhbbfiaaaaW.PrintLast
set_option linter.unusedVariables false
set_option linter.unusedSimpArgs false
/-- Rows of one's own (element type ei), no two of which lie in one block. -/
structure Inner {α : Type} (ei : Nat) (enc : α → Value) (w : World) (base : Nat) (vs : List Value) (xss : List (List α)) : Prop where
  len : vs.length = xss.length
  own : ∀ (i : Nat) (u : Value) (xs : List α), vs[i]? = some u → xss[i]? = some xs → w.ownsRow base ei 1 u xs.length (xs.map enc)
  apart : ∀ (i j : Nat) (u u' : Value), i ≠ j → vs[i]? = some u → vs[j]? = some u' → ∀ k, u.ownBlock = some k → u'.ownBlock ≠ some k
/-- What may grow behind a row's end: the row itself with some length more, or a row that is none of them. -/
def Ghost (ei : Nat) (w : World) (base : Nat) (vs : List Value) (i : Nat) (gv : Value) (m : Nat) : Prop :=
  (∃ g n cap, vs[i]? = some (.slice (some ⟨g, 0, none⟩) n cap) ∧ gv = .slice (some ⟨g, 0, none⟩) m cap ∧ n ≤ m ∧ m ≤ cap) ∨
  (∃ ys, w.ownsRow base ei 1 gv m ys ∧ ∀ (j : Nat) (u : Value) (k : Nat), vs[j]? = some u → u.ownBlock = some k → gv.ownBlock ≠ some k)
section
variable {α : Type} {ei eo : Nat} {enc : α → Value} {w w0 w1 : World} {o : Obj} {base base' : Nat} {vs us : List Value} {xss yss : List (List α)}
theorem Inner.at_ (h : Inner ei enc w base vs xss) {i : Nat} {u : Value} (hu : vs[i]? = some u) : ∃ xs, xss[i]? = some xs ∧ w.ownsRow base ei 1 u xs.length (xs.map enc) := by
  have hi : i < xss.length := by rw [← h.len]; exact (List.getElem?_eq_some_iff.1 hu).1
  exact ⟨xss[i], List.getElem?_eq_getElem hi, h.own i u _ hu (List.getElem?_eq_getElem hi)⟩
theorem Inner.lt (h : Inner ei enc w base vs xss) {i : Nat} {u : Value} (hu : vs[i]? = some u) {k : Nat} (hk : u.ownBlock = some k) : base ≤ k ∧ k < w.heap.size := by
  obtain ⟨xs, _, ho⟩ := h.at_ hu
  exact ⟨own_base ho k hk, own_lt ho k hk⟩
theorem Inner.keep (h : Inner ei enc w base vs xss) (hm : ∀ (i : Nat) (u : Value) (k : Nat), vs[i]? = some u → u.ownBlock = some k → k < w.heap.size → w1.heap[k]? = w.heap[k]?) : Inner ei enc w1 base vs xss :=
  ⟨h.len, fun i u xs hu hx => own_move (h.own i u xs hu hx) (fun k hk => hm i u k hu hk (h.lt hu hk).2), h.apart⟩
theorem Inner.below (h : Inner ei enc w base vs xss) (hb : Below w.heap.size w w1) : Inner ei enc w1 base vs xss := h.keep fun _ _ k _ _ hlt => hb.block k hlt
theorem Inner.grown (h : Inner ei enc w base vs xss) {row : Option Nat} (hg : w.grownBy w1 row) (hr : ∀ (i : Nat) (u : Value) (k : Nat), vs[i]? = some u → u.ownBlock = some k → some k ≠ row) : Inner ei enc w1 base vs xss :=
  h.keep fun i u k hu hk hlt => hg.block k hlt (hr i u k hu hk)
theorem Inner.nil (ei : Nat) (enc : α → Value) (w : World) (base : Nat) : Inner ei enc w base [] [] := ⟨rfl, fun i u xs hu => by simp at hu, fun i j u u' _ hu => by simp at hu⟩
theorem Inner.one {u : Value} {xs : List α} (h : w.ownsRow base ei 1 u xs.length (xs.map enc)) : Inner ei enc w base [u] [xs] := by
  refine ⟨rfl, fun i u' xs' hu hx => ?_, fun i j u1 u2 hne h1 h2 => ?_⟩
  · match i, hu, hx with
    | 0, hu, hx => cases Option.some.inj hu; cases Option.some.inj hx; exact h
  · exfalso
    have a1 := (List.getElem?_eq_some_iff.1 h1).1
    have a2 := (List.getElem?_eq_some_iff.1 h2).1
    simp at a1 a2
    omega
theorem Inner.snoc {u : Value} {xs : List α} (h : Inner ei enc w base vs xss) (hu : w.ownsRow base ei 1 u xs.length (xs.map enc)) (ha : ∀ v ∈ vs, ∀ k, v.ownBlock = some k → u.ownBlock ≠ some k) : Inner ei enc w base (vs ++ [u]) (xss ++ [xs]) := by
  refine ⟨by simp [h.len], fun i q qs hq hqs => ?_, fun i j q q' hne hq hq' k hk hk' => ?_⟩
  · by_cases c : i < vs.length
    · rw [List.getElem?_append_left c] at hq
      rw [List.getElem?_append_left (by rw [← h.len]; exact c)] at hqs
      exact h.own i q qs hq hqs
    · have hi : i - vs.length < 1 := by
        have := (List.getElem?_eq_some_iff.1 hq).1
        simp at this
        omega
      have hi0 : i = vs.length := by omega
      subst hi0
      rw [List.getElem?_append_right (Nat.le_refl _), Nat.sub_self] at hq
      rw [h.len, List.getElem?_append_right (Nat.le_refl _), Nat.sub_self] at hqs
      cases Option.some.inj hq
      cases Option.some.inj hqs
      exact hu
  · by_cases c : i < vs.length
    · rw [List.getElem?_append_left c] at hq
      by_cases c' : j < vs.length
      · rw [List.getElem?_append_left c'] at hq'
        exact h.apart i j q q' hne hq hq' k hk hk'
      · have hj0 : j = vs.length := by
          have := (List.getElem?_eq_some_iff.1 hq').1
          simp at this
          omega
        subst hj0
        rw [List.getElem?_append_right (Nat.le_refl _), Nat.sub_self] at hq'
        cases Option.some.inj hq'
        exact ha q (List.mem_of_getElem? hq) k hk hk'
    · have hi0 : i = vs.length := by
        have := (List.getElem?_eq_some_iff.1 hq).1
        simp at this
        omega
      subst hi0
      rw [List.getElem?_append_right (Nat.le_refl _), Nat.sub_self] at hq
      cases Option.some.inj hq
      have c' : j < vs.length := by
        have := (List.getElem?_eq_some_iff.1 hq').1
        simp at this
        omega
      rw [List.getElem?_append_left c'] at hq'
      exact ha q' (List.mem_of_getElem? hq') k hk' hk
/-- A row's head and room, where something stands in it. -/
theorem Inner.form (h : Inner ei enc w base vs xss) {i : Nat} {u : Value} {xs : List α} (hu : vs[i]? = some u) (hx : xss[i]? = some xs) : ∃ A c, u = .slice A xs.length c := by
  obtain ⟨A, c, he⟩ := own_slice (h.own i u xs hu hx)
  exact ⟨A, c, he⟩
theorem Inner.formed (h : Inner ei enc w base vs xss) {i : Nat} {u : Value} {xs : List α} (hu : vs[i]? = some u) (hx : xss[i]? = some xs) (hp : 0 < xs.length) : ∃ g c, u = .slice (some ⟨g, 0, none⟩) xs.length c := by
  obtain ⟨g, c, he, _⟩ := (h.own i u xs hu hx).form hp
  exact ⟨g, c, he⟩
theorem Inner.cell (h : Inner ei enc w base vs xss) {i g c : Nat} {xs : List α} (hx : xss[i]? = some xs) (hu : vs[i]? = some (.slice (some ⟨g, 0, none⟩) xs.length c)) {j : Nat} {x : α} (hj : xs[j]? = some x) : w.cell? ⟨g, j, none⟩ = some (enc x) ∧ w.frozen? ⟨g, j, none⟩ = false := by
  have ho := h.own i _ xs hu hx
  have hl : j < xs.length := (List.getElem?_eq_some_iff.1 hj).1
  exact ⟨(ho.cellAt j (by omega)).trans (by rw [List.getElem?_map, hj]; rfl), ho.frozenAt j⟩
theorem Inner.store (h : Inner ei enc w base vs xss) {i g n c : Nat} {xs : List α} (hx : xss[i]? = some xs) (hu : vs[i]? = some (.slice (some ⟨g, 0, none⟩) n c)) (j : Nat) (x : α) : Inner ei enc (w.setCell ⟨g, j, none⟩ (enc x)) base vs (xss.set i (xs.set j x)) := by
  have hix : i < xss.length := (List.getElem?_eq_some_iff.1 hx).1
  refine ⟨by rw [List.length_set]; exact h.len, fun q u ys hq hy => ?_, h.apart⟩
  by_cases e : i = q
  · subst e
    rw [List.getElem?_set_self hix] at hy
    cases Option.some.inj hy
    rw [hu] at hq
    cases Option.some.inj hq
    have ho := h.own i _ xs hu hx
    obtain ⟨A, c', he⟩ := own_slice ho
    have hn : n = xs.length := by cases he; rfl
    subst hn
    have := (ho.stored j (enc x)).1
    rw [List.length_set, List.map_set]
    exact this
  · rw [List.getElem?_set_ne e] at hy
    refine own_move (h.own q u ys hq hy) (fun k hk => Below.heap_setCell w _ _ k ?_)
    intro hkg
    have hkg : k = g := hkg
    subst hkg
    exact h.apart i q _ u e hu hq k rfl hk
theorem Ghost.below {i m : Nat} {gv : Value} (h : Ghost ei w base vs i gv m) (hb : Below w.heap.size w w1) : Ghost ei w1 base vs i gv m := by
  rcases h with h | ⟨ys, ho, ha⟩
  · exact .inl h
  · exact .inr ⟨ys, pw_own_below ho hb, ha⟩
theorem Ghost.form {i m : Nat} {gv : Value} (h : Ghost ei w base vs i gv m) : ∃ A c, gv = .slice A m c := by
  rcases h with ⟨g, n, cap, _, rfl, _, _⟩ | ⟨ys, ho, _⟩
  · exact ⟨_, _, rfl⟩
  · exact own_slice ho
/-- What has changed of the blocks that were there holds type e. -/
def Ty (e : TypeId) (w w1 : World) : Prop := w.heap.size ≤ w1.heap.size ∧ ∀ k, k < w.heap.size → w1.heap[k]? = w.heap[k]? ∨ ∃ cur, w.heap[k]? = some (.cells cur e (0, 0))
theorem ty_own {e n : Nat} {v : Value} {cs : List Value} (h : w.ownsRow base e 1 v n cs) : ∀ k, v.ownBlock = some k → ∃ cur, w.heap[k]? = some (.cells cur e (0, 0)) := fun k hk => by
  rcases h.2 with ⟨rfl, _⟩ | ⟨g, cap, cur, rfl, _, hcur, _⟩
  · cases hk
  · cases Option.some.inj hk
    exact ⟨cur, hcur⟩
theorem own_ty {e e2 n : Nat} {v : Value} {cs : List Value} (h : w.ownsRow base e2 1 v n cs) (ht : Ty e w w1) (hne : e2 ≠ e) : w1.ownsRow base e2 1 v n cs :=
  own_move h fun k hk => by
    obtain ⟨cur, hc⟩ := ty_own h k hk
    rcases ht.2 k (own_lt h k hk) with h2 | ⟨cur2, h2⟩
    · exact h2
    · rw [hc] at h2
      injection Option.some.inj h2 with _ h3
      exact absurd h3 hne
theorem Inner.ty {e : Nat} (h : Inner ei enc w base vs xss) (ht : Ty e w w1) (hne : ei ≠ e) : Inner ei enc w1 base vs xss :=
  ⟨h.len, fun i u xs hu hx => own_ty (h.own i u xs hu hx) ht hne, h.apart⟩
theorem Ghost.ty {e i m : Nat} {gv : Value} (h : Ghost ei w base vs i gv m) (ht : Ty e w w1) (hne : ei ≠ e) : Ghost ei w1 base vs i gv m := by
  rcases h with h | ⟨ys, ho, ha⟩
  · exact .inl h
  · exact .inr ⟨ys, own_ty ho ht hne, ha⟩
/-- Of the rows ahead of place i each element is that row's mark. -/
def Marked (mk : Nat → α) (xss : List (List α)) (i : Nat) : Prop := ∀ q, q < i → ∀ x ∈ xss.getD q [], x = mk q
/-- Of row i what stands ahead of place j is its mark. -/
def Part (mk : Nat → α) (xss : List (List α)) (i j : Nat) : Prop := ∀ q x, q < j → (xss.getD i [])[q]? = some x → x = mk i
theorem Marked.zero (mk : Nat → α) (xss : List (List α)) : Marked mk xss 0 := fun q h => by omega
theorem Part.zero (mk : Nat → α) (xss : List (List α)) (i : Nat) : Part mk xss i 0 := fun q x h => by omega
theorem Marked.store {mk : Nat → α} {xss : List (List α)} {i : Nat} (h : Marked mk xss i) (ys : List α) : Marked mk (xss.set i ys) i := fun q hq x hx => by
  rw [List.getD_eq_getElem?_getD, List.getElem?_set_ne (by omega), ← List.getD_eq_getElem?_getD] at hx
  exact h q hq x hx
theorem Part.store {mk : Nat → α} {xss : List (List α)} {i j : Nat} {xs : List α} (h : Part mk xss i j) (hx : xss[i]? = some xs) : Part mk (xss.set i (xs.set j (mk i))) i (j + 1) := fun q x hq hx2 => by
  have hi : i < xss.length := (List.getElem?_eq_some_iff.1 hx).1
  rw [List.getD_eq_getElem?_getD, List.getElem?_set_self hi, Option.getD_some] at hx2
  by_cases e : q = j
  · subst e
    have hq' : q < (xs.set q (mk i)).length := (List.getElem?_eq_some_iff.1 hx2).1
    rw [List.length_set] at hq'
    rw [List.getElem?_set_self hq'] at hx2
    exact (Option.some.inj hx2).symm
  · rw [List.getElem?_set_ne (by omega)] at hx2
    exact h q x (by omega) (by rw [List.getD_eq_getElem?_getD, hx]; exact hx2)
theorem Marked.next {mk : Nat → α} {xss : List (List α)} {i : Nat} {xs : List α} (h : Marked mk xss i) (hx : xss[i]? = some xs) (hp : Part mk xss i xs.length) : Marked mk xss (i + 1) := fun q hq x hxm => by
  by_cases e : q = i
  · subst e
    rw [List.getD_eq_getElem?_getD, hx, Option.getD_some] at hxm
    obtain ⟨j, hj, rfl⟩ := List.mem_iff_getElem.1 hxm
    exact hp j _ hj (by rw [List.getD_eq_getElem?_getD, hx]; exact List.getElem?_eq_getElem hj)
  · exact h q (by omega) x hxm
theorem Marked.at_ {mk : Nat → α} {xss : List (List α)} {i q j : Nat} {xs : List α} {x : α} (h : Marked mk xss i) (hq : q < i) (hx : xss[q]? = some xs) (hj : xs[j]? = some x) : x = mk q :=
  h q hq x (by rw [List.getD_eq_getElem?_getD, hx]; exact List.mem_of_getElem? hj)
end
section
variable {α : Type} {ei eo : Nat} {enc : α → Value} {base base' : Nat} {vs us : List Value} {xss : List (List α)} {P : Program} {ops : Array Oper} {rest : List Oper} {o : Oper} {a : Act} {Q : Exit → Act → World → Prop}
end
end Go.Proofs.Ytfjpnmhbbfiaaaa.Pool
