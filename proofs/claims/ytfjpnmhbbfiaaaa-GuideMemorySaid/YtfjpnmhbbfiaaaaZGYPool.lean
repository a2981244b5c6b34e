/- Rows of one's own that are kept in a row of their own: what is stored into one says nothing of the others; what is appended to one behind its end says nothing of any. Plain laws on memory; each names its conditions. -/
import Derived.ArgAppend
import Derived.OwnWalk
import Derived.Maps.AppendAt
import Derived.Laws.OwnMore
import Derived.Test.YtfjpnmhbbfiaaaaZGYWWords
import Derived.Test.YtfjpnmhbbfiaaaaZGYWLast
import Derived.Test.YtfjpnmhbbfiaaaaZGYWApart
namespace Go.Proofs.Ytfjpnmhbbfiaaaa.Pool
open Go Go.RowKit Go.Proofs.YtfjpnmhbbfiaaaaW.PrintWords Go.Proofs.YtfjpnmhbbfiaaaaW.PrintLast
set_option linter.unusedVariables false
set_option linter.unusedSimpArgs false
/-- Rows of one's own (element type ei), no two of which lie in one block. -/
structure Inner {α : Type} (ei : Nat) (enc : α → Value) (w : World) (base : Nat) (vs : List Value) (xss : List (List α)) : Prop where
  len : vs.length = xss.length
  own : ∀ (i : Nat) (u : Value) (xs : List α), vs[i]? = some u → xss[i]? = some xs → w.ownsRow base ei 1 u xs.length (xs.map enc)
  apart : ∀ (i j : Nat) (u u' : Value), i ≠ j → vs[i]? = some u → vs[j]? = some u' → ∀ k, u.ownBlock = some k → u'.ownBlock ≠ some k
/-- What may grow behind a row's end: the row itself with some length more, or a row that is none of them. -/
def Ghost (ei : Nat) (w : World) (base : Nat) (vs : List Value) (i : Nat) (gv : Value) (m : Nat) : Prop :=
  (∃ g n cap, vs[i]? = some (.slice (some ⟨g, 0, none⟩) n cap) ∧ gv = .slice (some ⟨g, 0, none⟩) m cap ∧ n ≤ m ∧ m ≤ cap) ∨
  (∃ ys, w.ownsRow base ei 1 gv m ys ∧ ∀ (j : Nat) (u : Value) (k : Nat), vs[j]? = some u → u.ownBlock = some k → gv.ownBlock ≠ some k)
section
variable {α : Type} {ei eo : Nat} {enc : α → Value} {w w0 w1 : World} {o : Obj} {base base' : Nat} {vs us : List Value} {xss yss : List (List α)}
theorem Inner.at_ (h : Inner ei enc w base vs xss) {i : Nat} {u : Value} (hu : vs[i]? = some u) : ∃ xs, xss[i]? = some xs ∧ w.ownsRow base ei 1 u xs.length (xs.map enc) := by
  have hi : i < xss.length := by rw [← h.len]; exact (List.getElem?_eq_some_iff.1 hu).1
  exact ⟨xss[i], List.getElem?_eq_getElem hi, h.own i u _ hu (List.getElem?_eq_getElem hi)⟩
theorem Inner.lt (h : Inner ei enc w base vs xss) {i : Nat} {u : Value} (hu : vs[i]? = some u) {k : Nat} (hk : u.ownBlock = some k) : base ≤ k ∧ k < w.heap.size := by
  obtain ⟨xs, _, ho⟩ := h.at_ hu
  exact ⟨own_base ho k hk, own_lt ho k hk⟩
theorem Inner.keep (h : Inner ei enc w base vs xss) (hm : ∀ (i : Nat) (u : Value) (k : Nat), vs[i]? = some u → u.ownBlock = some k → k < w.heap.size → w1.heap[k]? = w.heap[k]?) : Inner ei enc w1 base vs xss :=
  ⟨h.len, fun i u xs hu hx => own_move (h.own i u xs hu hx) (fun k hk => hm i u k hu hk (h.lt hu hk).2), h.apart⟩
theorem Inner.below (h : Inner ei enc w base vs xss) (hb : Below w.heap.size w w1) : Inner ei enc w1 base vs xss := h.keep fun _ _ k _ _ hlt => hb.block k hlt
theorem Inner.grown (h : Inner ei enc w base vs xss) {row : Option Nat} (hg : w.grownBy w1 row) (hr : ∀ (i : Nat) (u : Value) (k : Nat), vs[i]? = some u → u.ownBlock = some k → some k ≠ row) : Inner ei enc w1 base vs xss :=
  h.keep fun i u k hu hk hlt => hg.block k hlt (hr i u k hu hk)
theorem Inner.nil (ei : Nat) (enc : α → Value) (w : World) (base : Nat) : Inner ei enc w base [] [] := ⟨rfl, fun i u xs hu => by simp at hu, fun i j u u' _ hu => by simp at hu⟩
theorem Inner.one {u : Value} {xs : List α} (h : w.ownsRow base ei 1 u xs.length (xs.map enc)) : Inner ei enc w base [u] [xs] := by
  refine ⟨rfl, fun i u' xs' hu hx => ?_, fun i j u1 u2 hne h1 h2 => ?_⟩
  · match i, hu, hx with
    | 0, hu, hx => cases Option.some.inj hu; cases Option.some.inj hx; exact h
  · exfalso
    have a1 := (List.getElem?_eq_some_iff.1 h1).1
    have a2 := (List.getElem?_eq_some_iff.1 h2).1
    simp at a1 a2
    omega
theorem Inner.snoc {u : Value} {xs : List α} (h : Inner ei enc w base vs xss) (hu : w.ownsRow base ei 1 u xs.length (xs.map enc)) (ha : ∀ v ∈ vs, ∀ k, v.ownBlock = some k → u.ownBlock ≠ some k) : Inner ei enc w base (vs ++ [u]) (xss ++ [xs]) := by
  refine ⟨by simp [h.len], fun i q qs hq hqs => ?_, fun i j q q' hne hq hq' k hk hk' => ?_⟩
  · by_cases c : i < vs.length
    · rw [List.getElem?_append_left c] at hq
      rw [List.getElem?_append_left (by rw [← h.len]; exact c)] at hqs
      exact h.own i q qs hq hqs
    · have hi : i - vs.length < 1 := by
        have := (List.getElem?_eq_some_iff.1 hq).1
        simp at this
        omega
      have hi0 : i = vs.length := by omega
      subst hi0
      rw [List.getElem?_append_right (Nat.le_refl _), Nat.sub_self] at hq
      rw [h.len, List.getElem?_append_right (Nat.le_refl _), Nat.sub_self] at hqs
      cases Option.some.inj hq
      cases Option.some.inj hqs
      exact hu
  · by_cases c : i < vs.length
    · rw [List.getElem?_append_left c] at hq
      by_cases c' : j < vs.length
      · rw [List.getElem?_append_left c'] at hq'
        exact h.apart i j q q' hne hq hq' k hk hk'
      · have hj0 : j = vs.length := by
          have := (List.getElem?_eq_some_iff.1 hq').1
          simp at this
          omega
        subst hj0
        rw [List.getElem?_append_right (Nat.le_refl _), Nat.sub_self] at hq'
        cases Option.some.inj hq'
        exact ha q (List.mem_of_getElem? hq) k hk hk'
    · have hi0 : i = vs.length := by
        have := (List.getElem?_eq_some_iff.1 hq).1
        simp at this
        omega
      subst hi0
      rw [List.getElem?_append_right (Nat.le_refl _), Nat.sub_self] at hq
      cases Option.some.inj hq
      have c' : j < vs.length := by
        have := (List.getElem?_eq_some_iff.1 hq').1
        simp at this
        omega
      rw [List.getElem?_append_left c'] at hq'
      exact ha q' (List.mem_of_getElem? hq') k hk' hk
theorem Inner.join (h : Inner ei enc w0 base vs xss) (hb : Below w0.heap.size w0 w1) (hbase : base ≤ w0.heap.size) (h' : Inner ei enc w1 w0.heap.size us yss) : Inner ei enc w1 base (vs ++ us) (xss ++ yss) := by
  have h1 := h.below hb
  refine ⟨by simp [h.len, h'.len], fun i u xs hu hx => ?_, fun i j u u' hne hu hu' k hk hk' => ?_⟩
  · by_cases c : i < vs.length
    · rw [List.getElem?_append_left c] at hu
      rw [List.getElem?_append_left (by rw [← h.len]; exact c)] at hx
      exact h1.own i u xs hu hx
    · rw [List.getElem?_append_right (by omega)] at hu
      rw [List.getElem?_append_right (by rw [← h.len]; omega), ← h.len] at hx
      exact own_weaken (h'.own _ u xs hu hx) hbase
  · by_cases c : i < vs.length
    · rw [List.getElem?_append_left c] at hu
      by_cases c' : j < vs.length
      · rw [List.getElem?_append_left c'] at hu'
        exact h.apart i j u u' hne hu hu' k hk hk'
      · rw [List.getElem?_append_right (by omega)] at hu'
        have a1 := (h.lt hu hk).2
        have a2 := (h'.lt hu' hk').1
        omega
    · rw [List.getElem?_append_right (by omega)] at hu
      by_cases c' : j < vs.length
      · rw [List.getElem?_append_left c'] at hu'
        have a1 := (h.lt hu' hk').2
        have a2 := (h'.lt hu hk).1
        omega
      · rw [List.getElem?_append_right (by omega)] at hu'
        exact h'.apart _ _ u u' (by omega) hu hu' k hk hk'
/-- A row's head and room, where something stands in it. -/
theorem Inner.form (h : Inner ei enc w base vs xss) {i : Nat} {u : Value} {xs : List α} (hu : vs[i]? = some u) (hx : xss[i]? = some xs) : ∃ A c, u = .slice A xs.length c := by
  obtain ⟨A, c, he⟩ := own_slice (h.own i u xs hu hx)
  exact ⟨A, c, he⟩
theorem Inner.formed (h : Inner ei enc w base vs xss) {i : Nat} {u : Value} {xs : List α} (hu : vs[i]? = some u) (hx : xss[i]? = some xs) (hp : 0 < xs.length) : ∃ g c, u = .slice (some ⟨g, 0, none⟩) xs.length c := by
  obtain ⟨g, c, he, _⟩ := (h.own i u xs hu hx).form hp
  exact ⟨g, c, he⟩
theorem Inner.cell (h : Inner ei enc w base vs xss) {i g c : Nat} {xs : List α} (hx : xss[i]? = some xs) (hu : vs[i]? = some (.slice (some ⟨g, 0, none⟩) xs.length c)) {j : Nat} {x : α} (hj : xs[j]? = some x) : w.cell? ⟨g, j, none⟩ = some (enc x) ∧ w.frozen? ⟨g, j, none⟩ = false := by
  have ho := h.own i _ xs hu hx
  have hl : j < xs.length := (List.getElem?_eq_some_iff.1 hj).1
  exact ⟨(ho.cellAt j (by omega)).trans (by rw [List.getElem?_map, hj]; rfl), ho.frozenAt j⟩
theorem Inner.store (h : Inner ei enc w base vs xss) {i g n c : Nat} {xs : List α} (hx : xss[i]? = some xs) (hu : vs[i]? = some (.slice (some ⟨g, 0, none⟩) n c)) (j : Nat) (x : α) : Inner ei enc (w.setCell ⟨g, j, none⟩ (enc x)) base vs (xss.set i (xs.set j x)) := by
  have hix : i < xss.length := (List.getElem?_eq_some_iff.1 hx).1
  refine ⟨by rw [List.length_set]; exact h.len, fun q u ys hq hy => ?_, h.apart⟩
  by_cases e : i = q
  · subst e
    rw [List.getElem?_set_self hix] at hy
    cases Option.some.inj hy
    rw [hu] at hq
    cases Option.some.inj hq
    have ho := h.own i _ xs hu hx
    obtain ⟨A, c', he⟩ := own_slice ho
    have hn : n = xs.length := by cases he; rfl
    subst hn
    have := (ho.stored j (enc x)).1
    rw [List.length_set, List.map_set]
    exact this
  · rw [List.getElem?_set_ne e] at hy
    refine own_move (h.own q u ys hq hy) (fun k hk => Below.heap_setCell w _ _ k ?_)
    intro hkg
    have hkg : k = g := hkg
    subst hkg
    exact h.apart i q _ u e hu hq k rfl hk
theorem outer_kept {v : Value} {n : Nat} {cs : List Value} (hO : w.ownsRow base' eo 1 v n cs) (h : Inner ei enc w base vs xss) (hne : eo ≠ ei) {i : Nat} {u : Value} (hu : vs[i]? = some u) {k : Nat} (hk : u.ownBlock = some k) : v.ownBlock ≠ some k := by
  obtain ⟨xs, _, ho⟩ := h.at_ hu
  intro hv
  rcases own_type_ne hO ho hne with e | e
  · rw [e] at hv; cases hv
  · exact e (hv.trans hk.symm)
theorem outer_store {v : Value} {n : Nat} {cs : List Value} (hO : w.ownsRow base' eo 1 v n cs) (h : Inner ei enc w base vs xss) (hne : eo ≠ ei) {i g m c : Nat} (hu : vs[i]? = some (.slice (some ⟨g, 0, none⟩) m c)) (j : Nat) (x : Value) : (w.setCell ⟨g, j, none⟩ x).ownsRow base' eo 1 v n cs :=
  own_setCell (p := ⟨g, j, none⟩) hO (fun e => outer_kept hO h hne hu rfl e.symm) x
theorem outer_cell {v : Value} {n : Nat} {cs : List Value} (hO : w.ownsRow base' eo 1 v n cs) {i : Nat} {u : Value} (hu : cs[i]? = some u) : ∃ g c, v = .slice (some ⟨g, 0, none⟩) n c ∧ w.cell? ⟨g, i, none⟩ = some u := by
  have hl : i < cs.length := (List.getElem?_eq_some_iff.1 hu).1
  have hn : cs.length = n * 1 := hO.1
  obtain ⟨g, c, rfl, _⟩ := hO.form (by omega)
  exact ⟨g, c, rfl, (hO.cellAt i (by omega)).trans hu⟩
theorem Ghost.start (h : Inner ei enc w base vs xss) {i : Nat} {u : Value} {xs : List α} (hu : vs[i]? = some u) (hx : xss[i]? = some xs) : Ghost ei w base vs i u xs.length := by
  have ho := h.own i u xs hu hx
  rcases ho.2 with ⟨rfl, h0⟩ | ⟨g, cap, cur, rfl, _, _, hnc, _⟩
  · exact .inr ⟨_, ho, fun j u' k _ _ => by simp [Value.ownBlock]⟩
  · exact .inl ⟨g, xs.length, cap, hu, rfl, Nat.le_refl _, hnc⟩
theorem Ghost.below {i m : Nat} {gv : Value} (h : Ghost ei w base vs i gv m) (hb : Below w.heap.size w w1) : Ghost ei w1 base vs i gv m := by
  rcases h with h | ⟨ys, ho, ha⟩
  · exact .inl h
  · exact .inr ⟨ys, pw_own_below ho hb, ha⟩
theorem Ghost.form {i m : Nat} {gv : Value} (h : Ghost ei w base vs i gv m) : ∃ A c, gv = .slice A m c := by
  rcases h with ⟨g, n, cap, _, rfl, _, _⟩ | ⟨ys, ho, _⟩
  · exact ⟨_, _, rfl⟩
  · exact own_slice ho
/-- What has changed of the blocks that were there holds type e. -/
def Ty (e : TypeId) (w w1 : World) : Prop := w.heap.size ≤ w1.heap.size ∧ ∀ k, k < w.heap.size → w1.heap[k]? = w.heap[k]? ∨ ∃ cur, w.heap[k]? = some (.cells cur e (0, 0))
theorem ty_own {e n : Nat} {v : Value} {cs : List Value} (h : w.ownsRow base e 1 v n cs) : ∀ k, v.ownBlock = some k → ∃ cur, w.heap[k]? = some (.cells cur e (0, 0)) := fun k hk => by
  rcases h.2 with ⟨rfl, _⟩ | ⟨g, cap, cur, rfl, _, hcur, _⟩
  · cases hk
  · cases Option.some.inj hk
    exact ⟨cur, hcur⟩
theorem ty_grown {e : Nat} {row : Option Nat} (hg : w.grownBy w1 row) (hr : ∀ k, row = some k → ∃ cur, w.heap[k]? = some (.cells cur e (0, 0))) : Ty e w w1 :=
  ⟨hg.size, fun k hk => by
    by_cases c : some k = row
    · exact .inr (hr k c.symm)
    · exact .inl (hg.block k hk c)⟩
theorem ty_alloc {e : Nat} (h : Ty e (w.alloc o) w1) : Ty e w w1 := by
  have hb : Below w.heap.size w (w.alloc o) := below_alloc (Below.refl _ _) _
  refine ⟨Nat.le_trans hb.size h.1, fun k hk => ?_⟩
  have e1 := hb.block k hk
  rw [← e1]
  exact h.2 k (Nat.lt_of_lt_of_le hk hb.size)
theorem ty_refl (e : Nat) (w : World) : Ty e w w := ⟨Nat.le_refl _, fun k _ => .inl rfl⟩
theorem ty_store {e n : Nat} {g m c : Nat} {cs : List Value} (h : w.ownsRow base e 1 (.slice (some ⟨g, 0, none⟩) m c) n cs) (j : Nat) (x : Value) : Ty e w (w.setCell ⟨g, j, none⟩ x) := by
  refine ⟨by simp, fun k _ => ?_⟩
  by_cases c : k = g
  · subst c
    exact .inr (ty_own h k rfl)
  · exact .inl (Below.heap_setCell w _ _ k c)
theorem own_ty {e e2 n : Nat} {v : Value} {cs : List Value} (h : w.ownsRow base e2 1 v n cs) (ht : Ty e w w1) (hne : e2 ≠ e) : w1.ownsRow base e2 1 v n cs :=
  own_move h fun k hk => by
    obtain ⟨cur, hc⟩ := ty_own h k hk
    rcases ht.2 k (own_lt h k hk) with h2 | ⟨cur2, h2⟩
    · exact h2
    · rw [hc] at h2
      injection Option.some.inj h2 with _ h3
      exact absurd h3 hne
theorem Inner.ty {e : Nat} (h : Inner ei enc w base vs xss) (ht : Ty e w w1) (hne : ei ≠ e) : Inner ei enc w1 base vs xss :=
  ⟨h.len, fun i u xs hu hx => own_ty (h.own i u xs hu hx) ht hne, h.apart⟩
theorem Ghost.ty {e i m : Nat} {gv : Value} (h : Ghost ei w base vs i gv m) (ht : Ty e w w1) (hne : ei ≠ e) : Ghost ei w1 base vs i gv m := by
  rcases h with h | ⟨ys, ho, ha⟩
  · exact .inl h
  · exact .inr ⟨ys, own_ty ho ht hne, ha⟩
theorem blk_ty {e t : Nat} {g : Nat} {cs : Array Value} (h : w.heap[g]? = some (.cells cs t (0, 0))) (ht : Ty e w w1) (hne : t ≠ e) : w1.heap[g]? = some (.cells cs t (0, 0)) := by
  rcases ht.2 g (blk_lt h) with h2 | ⟨cur2, h2⟩
  · exact h2.trans h
  · rw [h] at h2
    injection Option.some.inj h2 with _ h3
    exact absurd h3 hne
/-- Of the rows ahead of place i each element is that row's mark. -/
def Marked (mk : Nat → α) (xss : List (List α)) (i : Nat) : Prop := ∀ q, q < i → ∀ x ∈ xss.getD q [], x = mk q
/-- Of row i what stands ahead of place j is its mark. -/
def Part (mk : Nat → α) (xss : List (List α)) (i j : Nat) : Prop := ∀ q x, q < j → (xss.getD i [])[q]? = some x → x = mk i
theorem Marked.zero (mk : Nat → α) (xss : List (List α)) : Marked mk xss 0 := fun q h => by omega
theorem Part.zero (mk : Nat → α) (xss : List (List α)) (i : Nat) : Part mk xss i 0 := fun q x h => by omega
theorem Marked.store {mk : Nat → α} {xss : List (List α)} {i : Nat} (h : Marked mk xss i) (ys : List α) : Marked mk (xss.set i ys) i := fun q hq x hx => by
  rw [List.getD_eq_getElem?_getD, List.getElem?_set_ne (by omega), ← List.getD_eq_getElem?_getD] at hx
  exact h q hq x hx
theorem Part.store {mk : Nat → α} {xss : List (List α)} {i j : Nat} {xs : List α} (h : Part mk xss i j) (hx : xss[i]? = some xs) : Part mk (xss.set i (xs.set j (mk i))) i (j + 1) := fun q x hq hx2 => by
  have hi : i < xss.length := (List.getElem?_eq_some_iff.1 hx).1
  rw [List.getD_eq_getElem?_getD, List.getElem?_set_self hi, Option.getD_some] at hx2
  by_cases e : q = j
  · subst e
    have hq' : q < (xs.set q (mk i)).length := (List.getElem?_eq_some_iff.1 hx2).1
    rw [List.length_set] at hq'
    rw [List.getElem?_set_self hq'] at hx2
    exact (Option.some.inj hx2).symm
  · rw [List.getElem?_set_ne (by omega)] at hx2
    exact h q x (by omega) (by rw [List.getD_eq_getElem?_getD, hx]; exact hx2)
theorem Marked.next {mk : Nat → α} {xss : List (List α)} {i : Nat} {xs : List α} (h : Marked mk xss i) (hx : xss[i]? = some xs) (hp : Part mk xss i xs.length) : Marked mk xss (i + 1) := fun q hq x hxm => by
  by_cases e : q = i
  · subst e
    rw [List.getD_eq_getElem?_getD, hx, Option.getD_some] at hxm
    obtain ⟨j, hj, rfl⟩ := List.mem_iff_getElem.1 hxm
    exact hp j _ hj (by rw [List.getD_eq_getElem?_getD, hx]; exact List.getElem?_eq_getElem hj)
  · exact h q (by omega) x hxm
theorem Marked.at_ {mk : Nat → α} {xss : List (List α)} {i q j : Nat} {xs : List α} {x : α} (h : Marked mk xss i) (hq : q < i) (hx : xss[q]? = some xs) (hj : xs[j]? = some x) : x = mk q :=
  h q hq x (by rw [List.getD_eq_getElem?_getD, hx]; exact List.mem_of_getElem? hj)
end
section
variable {α : Type} {ei eo : Nat} {enc : α → Value} {base base' : Nat} {vs us : List Value} {xss : List (List α)} {P : Program} {ops : Array Oper} {rest : List Oper} {o : Oper} {a : Act} {Q : Exit → Act → World → Prop}
/-- An append whose answer is kept aside: all rows stay. -/
theorem wpList_append_ghostT {W0 W : World} (hgd : o.guard = none) (s x : Operand) (t : TypeId) (ho : o.op = .call { callee := .builtin .append, args := #[s, x], argTypes := #[t, t] }) (z : Value) (bytes : Nat)
    (ht : P.underlying t = some (.slice ei)) (hinfo : (P.info? ei).map (fun i => (i.zero, i.size, i.bytes)) = some (some z, 1, bytes)) (hz : z.cells.size = 1) (hb0 : 0 < bytes) (henc : ∀ x, (enc x).oneCell' = true)
    (hI : Inner ei enc W base vs xss) (v : Value) (n : Nat) (cs : List Value) (hO : W.ownsRow base' eo 1 v n cs) (hne : eo ≠ ei) (i m : Nat) (gv : Value) (hG : Ghost ei W base vs i gv m) (u : α)
    (hs : a.eval s = gv) (hx : a.eval x = .slice (some ⟨W.heap.size, 0, none⟩) 1 1) (HB : Below base W0 W) (hbase : base ≤ W.heap.size) (hl : (m + 1) * bytes ≤ 140737488355328)
    (h : ∀ v1 w1, Inner ei enc w1 base vs xss → w1.ownsRow base' eo 1 v n cs → Ghost ei w1 base vs i v1 (m + 1) → Below base W0 w1 → W.heap.size ≤ w1.heap.size → Ty ei W w1 → wpList P ops Q rest (a.put o.dst v1) w1) :
    wpList P ops Q (o :: rest) a (W.alloc (.cells #[enc u] ei)) := by
  obtain ⟨i0, hi, hzz⟩ := Option.map_eq_some_iff.1 hinfo
  simp only [Prod.mk.injEq] at hzz
  obtain ⟨hz0, hz1, hz2⟩ := hzz
  have hm1 : m + 1 ≤ 140737488355328 := Nat.le_trans (Nat.le_mul_of_pos_right _ hb0) hl
  have hbA : Below W.heap.size W (W.alloc (.cells #[enc u] ei)) := below_alloc (Below.refl _ _) _
  have hIA := hI.below hbA
  have hOA := pw_own_below hO hbA
  have HBA : Below base W0 (W.alloc (.cells #[enc u] ei)) := below_then HB hbase hbA
  have hsz : (W.alloc (.cells #[enc u] ei)).heap.size = W.heap.size + 1 := by simp
  have h1c : ∀ q ∈ [enc u], q.oneCell' = true := fun q hq => by rw [List.mem_singleton.1 hq]; exact henc u
  rcases hG with ⟨g, k, cap, hvi, rfl, hkm, hmc⟩ | ⟨ys, hown, hap⟩
  · obtain ⟨xs, hxs, hoi⟩ := hIA.at_ hvi
    have hoi' := hoi
    rcases hoi'.2 with ⟨he, _⟩ | ⟨g', cap', cur, he, hbg, hcur, hkc, hcm, hcs, htk⟩
    · cases he
    · have hk : k = xs.length := by
        obtain ⟨A, c', hf⟩ := own_slice hoi
        cases hf; rfl
      subst hk
      have hg' : g = g' ∧ cap = cap' := by
        injection he with e1 e2 e3
        injection e1 with e1
        injection e1 with e1
        exact ⟨e1, e3⟩
      obtain ⟨rfl, rfl⟩ := hg'
      have hrow : (W.alloc (.cells #[enc u] ei)).ownsRow base ei 1 (.slice (some ⟨g, 0, none⟩) m cap) m (cur.toList.take m) :=
        ⟨by simp; omega, .inr ⟨g, cap, cur, rfl, hbg, hcur, hmc, hcm, hcs, by simp⟩⟩
      by_cases hr : m + 1 ≤ cap
      · refine wpList_append_fits _ hgd s x t ho base ei i0 1 ht hi hz1 g m cap (cur.toList.take m) hs hrow ⟨W.heap.size, 0, none⟩ 1 1 [enc u] hx rfl (cell_one_new _ _ _) h1c hr ?_
        intro w1 hown1 hgrow
        have hothers : ∀ (j : Nat) (q : Value) (b : Nat), j ≠ i → vs[j]? = some q → q.ownBlock = some b → some b ≠ some g := fun j q b hji hq hb e => by
          cases Option.some.inj e
          exact hI.apart i j _ q (Ne.symm hji) hvi hq g rfl hb
        have hin : Inner ei enc w1 base vs xss := by
          refine ⟨hI.len, fun j q qs hq hqs => ?_, hI.apart⟩
          by_cases e : j = i
          · subst e
            rw [hvi] at hq
            cases Option.some.inj hq
            rw [hxs] at hqs
            cases Option.some.inj hqs
            rcases hown1.2 with ⟨he, _⟩ | ⟨g2, cap2, cur2, he, hbg2, hcur2, _, hcm2, hcs2, htk2⟩
            · cases he
            · have hg2 : g = g2 ∧ cap = cap2 := by
                injection he with e1 e2 e3
                injection e1 with e1
                injection e1 with e1
                exact ⟨e1, e3⟩
              obtain ⟨rfl, rfl⟩ := hg2
              refine ⟨hoi.1, .inr ⟨g, cap, cur2, rfl, hbg2, hcur2, hkc, hcm2, hcs2, ?_⟩⟩
              have e1 : cur2.toList.take (xs.length * 1) = (cur2.toList.take ((m + 1) * 1)).take (xs.length * 1) := by rw [List.take_take, Nat.min_eq_left (by omega)]
              rw [e1, htk2, List.take_append_of_le_length (by simp; omega), List.take_take, Nat.min_eq_left (by omega)]
              exact htk
          · exact own_move (hIA.own j q qs hq hqs) (fun b hb => hgrow.block b (hIA.lt hq hb).2 (hothers j q b e hq hb))
        refine h _ _ hin (own_other hOA hgrow ?_) (.inl ⟨g, xs.length, cap, hvi, rfl, by omega, hr⟩) (pw_below_grown HBA (some g) (by omega) hgrow (fun b hb => by cases Option.some.inj hb; exact hbg)) (by have := hgrow.size; omega) (ty_alloc (ty_grown hgrow (fun k hk => ty_own hoi k hk)))
        rcases own_type_ne hOA hoi hne with e | e
        · exact .inl e
        · exact .inr e
      · refine wpList_append_grows _ hgd s x t ho ei i0 z 1 bytes ht hi hz0 hz1 hz2 hz (by decide) (some ⟨g, 0, none⟩) m cap (cur.toList.take m) hs (fun e => by cases e) hrow.1 ?_ ⟨W.heap.size, 0, none⟩ 1 1 [enc u] hx rfl (cell_one_new _ _ _) h1c (by omega) (by unfold maxLen; omega) hl ?_
        · intro b hb j q hq
          cases Option.some.inj hb
          exact hrow.cells (g := g) rfl j q hq
        · intro v1 w1 hown1 hgrow
          have hbl : Below (W.alloc (.cells #[enc u] ei)).heap.size (W.alloc (.cells #[enc u] ei)) w1 := ⟨hgrow.os, hgrow.tape, hgrow.output, hgrow.size, fun b hb => hgrow.block b hb (by simp)⟩
          have hb1 : base ≤ (W.alloc (.cells #[enc u] ei)).heap.size := by omega
          refine h _ _ (hIA.below hbl) (pw_own_below hOA hbl) (.inr ⟨_, own_weaken hown1 hb1, fun j q b hq hb e => ?_⟩) (below_then HBA hb1 hbl) (by have := hbl.size; omega) (ty_alloc (ty_grown hgrow (fun k hk => by cases hk)))
          have a1 := (hIA.lt hq hb).2
          have a2 := own_base hown1 b e
          omega
  · refine wpList_append_own_at _ hgd s x t ho base ei i0 z 1 bytes ht hi hz0 hz1 hz2 hz (by decide) gv m ys hs (pw_own_below hown hbA) ⟨W.heap.size, 0, none⟩ 1 1 [enc u] hx rfl (cell_one_new _ _ _) h1c (by unfold maxLen; omega) hl (by omega) ?_
    intro v1 w1 hown1 hgrow _ hat
    have hin : Inner ei enc w1 base vs xss := hIA.grown hgrow (fun j q b hq hb e => hap j q b hq hb e.symm)
    have hgb : ∀ b, gv.ownBlock = some b → base ≤ b := fun b hb => own_base hown b hb
    refine h _ _ hin (own_other hOA hgrow ?_) (.inr ⟨_, hown1, fun j q b hq hb e => ?_⟩) (pw_below_grown HBA gv.ownBlock (by omega) hgrow hgb) (by have := hgrow.size; omega) (ty_alloc (ty_grown hgrow (ty_own (pw_own_below hown hbA))))
    · rcases own_type_ne hOA (pw_own_below hown hbA) hne with e | e
      · exact .inl e
      · exact .inr e
    · rcases hat with e2 | e2
      · exact hap j q b hq hb (e2.symm.trans e)
      · have a1 := (hI.lt hq hb).2
        rw [e2] at e
        have e3 := Option.some.inj e
        omega
/-- Rows in a row, all kept in the row of rows. -/
theorem wpList_append_keptAllT {W0 W : World} (hgd : o.guard = none) (s x : Operand) (t : TypeId) (ho : o.op = .call { callee := .builtin .append, args := #[s, x], argTypes := #[t, t] }) (z : Value) (bytes : Nat)
    (ht : P.underlying t = some (.slice eo)) (hinfo : (P.info? eo).map (fun i => (i.zero, i.size, i.bytes)) = some (some z, 1, bytes)) (hz : z.cells.size = 1) (hb0 : 0 < bytes)
    (hI : Inner ei enc W base vs xss) (v : Value) (n : Nat) (cs : List Value) (hO : W.ownsRow base eo 1 v n cs) (hne : eo ≠ ei) (vb : Value) (m : Nat) (ds : List Value) (hD : W.ownsRow base' eo 1 vb m ds) (hd : ∀ u ∈ ds, u.oneCell' = true)
    (hs : a.eval s = v) (hx : a.eval x = vb) (HB : Below base W0 W) (hbase : base ≤ W.heap.size) (hl : (n + m) * bytes ≤ 140737488355328)
    (h : ∀ v1 w1, Inner ei enc w1 base vs xss → w1.ownsRow base eo 1 v1 (n + m) (cs ++ ds) → Below base W0 w1 → W.heap.size ≤ w1.heap.size → Ty eo W w1 → (v.ownBlock ≠ none → v1.ownBlock ≠ none) → wpList P ops Q rest (a.put o.dst v1) w1) :
    wpList P ops Q (o :: rest) a W := by
  obtain ⟨i0, hi, hzz⟩ := Option.map_eq_some_iff.1 hinfo
  simp only [Prod.mk.injEq] at hzz
  obtain ⟨hz0, hz1, hz2⟩ := hzz
  have hm1 : n + m ≤ 140737488355328 := Nat.le_trans (Nat.le_mul_of_pos_right _ hb0) hl
  rcases hD.2 with ⟨rfl, h0⟩ | ⟨g, cap, cur, rfl, _, _, _⟩
  · have hds : ds = [] := List.eq_nil_of_length_eq_zero (by have e : ds.length = m * 1 := hD.1; omega)
    subst hds
    subst h0
    refine wpList_plain hgd fun K hK => ?_
    have hr : (Builtin.append_ #[t, t] o.type #[v, .slice none 0 0]).run P W = .ok v W := by
      rcases hO.2 with ⟨rfl, _⟩ | ⟨g, cap, cur, rfl, _, _, hnc, _⟩
      · simp [Builtin.append_, run_underlying ht, sizeOf, typeInfo, hi, Builtin.lenOf, Builtin.firstCells]
      · simp [Builtin.append_, run_underlying ht, sizeOf, typeInfo, hi, Builtin.lenOf, Builtin.firstCells, hnc, storeCells]
    unfold Oper.wp execOp
    simp only [ho, resolve, invoke, builtin, Sem.run_bind, Sem.run_pure, Result.andThen_ok, List.map_toArray, List.map_cons, List.map_nil, hs, hx, hr]
    exact hK _ _ (h _ _ hI (by simpa using hO) HB (Nat.le_refl _) (ty_refl _ _) id)
  · refine wpList_append_own_at _ hgd s x t ho base eo i0 z 1 bytes ht hi hz0 hz1 hz2 hz (by decide) v n cs hs hO ⟨g, 0, none⟩ m cap ds hx (by have e : ds.length = m * 1 := hD.1; omega) (fun j q hq => hD.cells (g := g) rfl j q hq) hd (by unfold maxLen; omega) hl hbase ?_
    intro v1 w1 hown1 hgrow _ hat
    exact h _ _ (hI.grown hgrow (fun j q b hq hb e => outer_kept hO hI hne hq hb e.symm)) hown1 (pw_below_grown HB v.ownBlock hbase hgrow (fun b hb => own_base hO b hb)) hgrow.size (ty_grown hgrow (ty_own hO)) (fun hv => by rcases hat with e | e <;> rw [e]; exact hv; simp)
end
end Go.Proofs.Ytfjpnmhbbfiaaaa.Pool
