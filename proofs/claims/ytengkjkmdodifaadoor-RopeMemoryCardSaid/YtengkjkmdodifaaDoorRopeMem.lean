/- Words for the walk of RopeMemory's two loops: which rows of the pool they mark and grow. -/
import Derived.Test.YtengkjkmdodifaaDoorPool
namespace Go.Proofs.YtengkjkmdodifaaDoor.Pool
open Go Go.RowKit Go.Proofs.YtengkjkmdodifaaDoorW.PrintWords Go.Proofs.YtengkjkmdodifaaDoorW.PrintLast
set_option linter.unusedVariables false
theorem rp_apart {q p : Prop} (H : Aside0 q) (h : q → p := by intro hH_ v hv k hk e; have q := hH_.1 k e; simp only [List.mem_append, List.mem_cons, List.mem_singleton, List.not_mem_nil, or_false, or_assoc] at hv; (repeat' first | subst hv | (rcases hv with hv | hv)); all_goals (first | exact q.1 hk.symm | exact q.2.1 hk.symm | exact q.2.2.1 hk.symm | exact q.2.2.2.1 hk.symm | exact q.2.2.2.2.1 hk.symm | exact q.2.2.2.2.2 hk.symm)) : p := h H.out
theorem row_small {L q : Nat} (h : L < 1000000000000) (hq : q ≤ 9) : (L + q + 1) * 1 ≤ 140737488355328 := by omega
theorem vform {α : Type} {ei base i n c : Nat} {enc : α → Value} {w : World} {vs : List Value} {xss : List (List α)} {A : Option Addr} {xs : List α} (h : Inner ei enc w base vs xss) (hu : vs[i]? = some (.slice A n c)) (hx : xss[i]? = some xs) : xs.length = n ∧ (0 < n → ∃ g, A = some ⟨g, 0, none⟩) := by
  have ho := h.own i _ xs hu hx
  rcases ho.2 with ⟨he, h0⟩ | ⟨g, cap, cur, he, _⟩
  · injection he with e1 e2 e3
    exact ⟨by omega, fun hp => by omega⟩
  · injection he with e1 e2 e3
    exact ⟨e2.symm, fun _ => ⟨g, e1⟩⟩
theorem vcell {α : Type} {ei base i g n c : Nat} {enc : α → Value} {w : World} {vs : List Value} {xss : List (List α)} {xs : List α} (h : Inner ei enc w base vs xss) (hu : vs[i]? = some (.slice (some ⟨g, 0, none⟩) n c)) (hx : xss[i]? = some xs) {j : Nat} {x : α} (hj : xs[j]? = some x) : w.cell? ⟨g, j, none⟩ = some (enc x) ∧ w.frozen? ⟨g, j, none⟩ = false := by
  obtain ⟨hn, _⟩ := vform h hu hx
  subst hn
  exact h.cell hx hu hj
/-- The place in the pool of the list's row q. -/
def pi (q : Nat) : Nat := if q = 0 then 0 else if q = 1 then 1 else 6
/-- From place j on the pool still holds the list's rows. -/
def RUp (a b c : Value) (vs : List Value) (j : Nat) : Prop := ∀ q u, j ≤ q → #[a, b, c][q]? = some u → vs[pi q]? = some u
theorem RUp.start (a b c x y z t : Value) : RUp a b c [a, b, x, y, z, t, c] 0 := fun q u _ h => by
  match q, h with
  | 0, h => exact h
  | 1, h => exact h
  | 2, h => exact h
  | q + 3, h => simp at h
def RKeep (a b c d : List Int) (xss : List (List Int)) : Prop := xss[2]? = some a ∧ xss[3]? = some b ∧ xss[4]? = some c ∧ xss[5]? = some d
def RKeepV (a b c d : Value) (vs : List Value) : Prop := vs[2]? = some a ∧ vs[3]? = some b ∧ vs[4]? = some c ∧ vs[5]? = some d
def RPos (xss : List (List Int)) : Prop := ∀ q xs, q < 3 → xss[pi q]? = some xs → 0 < xs.length
theorem RPos.mk3 {a b c d e f g : List Int} (h0 : 0 < a.length) (h1 : 0 < b.length) (h2 : 0 < g.length) : RPos [a, b, c, d, e, f, g] := fun q xs hq h => by
  match q, hq, h with
  | 0, _, h => cases Option.some.inj h; exact h0
  | 1, _, h => cases Option.some.inj h; exact h1
  | 2, _, h => cases Option.some.inj h; exact h2
def RMax (xss : List (List Int)) : Prop := ∀ q xs, q < 3 → xss[pi q]? = some xs → xs.length < 1000000000000
theorem RMax.mk3 {a b c d e f g : List Int} (h0 : a.length < 1000000000000) (h1 : b.length < 1000000000000) (h2 : g.length < 1000000000000) : RMax [a, b, c, d, e, f, g] := fun q xs hq h => by
  match q, hq, h with
  | 0, _, h => cases Option.some.inj h; exact h0
  | 1, _, h => cases Option.some.inj h; exact h1
  | 2, _, h => cases Option.some.inj h; exact h2
def RDone (xss : List (List Int)) (j : Nat) : Prop := ∀ q, q < j → ∀ xs, xss[pi q]? = some xs → ∀ x ∈ xs, x = 99
theorem pi_ne (q i : Nat) (h2 : 2 ≤ i) (h5 : i ≤ 5) : pi q ≠ i := by unfold pi; split; omega; split <;> omega
theorem pi_inj {q j : Nat} (hq : q < 3) (hj : j < 3) (h : pi q = pi j) : q = j := by
  unfold pi at h
  repeat' split at h
  all_goals omega
theorem RKeep.set {a b c d : List Int} {xss : List (List Int)} (h : RKeep a b c d xss) (q : Nat) (ys : List Int) : RKeep a b c d (xss.set (pi q) ys) := by
  refine ⟨?_, ?_, ?_, ?_⟩ <;> rw [List.getElem?_set_ne (pi_ne q _ (by omega) (by omega))]
  all_goals first | exact h.1 | exact h.2.1 | exact h.2.2.1 | exact h.2.2.2
theorem RKeepV.set {a b c d : Value} {vs : List Value} (h : RKeepV a b c d vs) (q : Nat) (v : Value) : RKeepV a b c d (vs.set (pi q) v) := by
  refine ⟨?_, ?_, ?_, ?_⟩ <;> rw [List.getElem?_set_ne (pi_ne q _ (by omega) (by omega))]
  all_goals first | exact h.1 | exact h.2.1 | exact h.2.2.1 | exact h.2.2.2
theorem RPos.set {xss : List (List Int)} {j : Nat} {ys zs : List Int} (h : RPos xss) (hy : xss[pi j]? = some ys) (hl : zs.length = ys.length) : RPos (xss.set (pi j) zs) := fun q xs hq hx => by
  have hi : pi j < xss.length := (List.getElem?_eq_some_iff.1 hy).1
  by_cases e : pi j = pi q
  · rw [← e, List.getElem?_set_self hi] at hx
    cases Option.some.inj hx
    rw [hl]; exact h q ys hq (by rw [← e]; exact hy)
  · rw [List.getElem?_set_ne e] at hx
    exact h q xs hq hx
theorem RMax.set {xss : List (List Int)} {j : Nat} {ys zs : List Int} (h : RMax xss) (hy : xss[pi j]? = some ys) (hl : zs.length = ys.length) : RMax (xss.set (pi j) zs) := fun q xs hq hx => by
  have hi : pi j < xss.length := (List.getElem?_eq_some_iff.1 hy).1
  by_cases e : pi j = pi q
  · rw [← e, List.getElem?_set_self hi] at hx
    cases Option.some.inj hx
    rw [hl]; exact h q ys hq (by rw [← e]; exact hy)
  · rw [List.getElem?_set_ne e] at hx
    exact h q xs hq hx
theorem RDone.set {xss : List (List Int)} {j : Nat} {zs : List Int} (h : RDone xss j) (hj : j < 3) : RDone (xss.set (pi j) zs) j := fun q hq xs hx => by
  rw [List.getElem?_set_ne (fun e => by have := pi_inj hj (show q < 3 by omega) e; omega)] at hx
  exact h q hq xs hx
theorem RDone.next {xss : List (List Int)} {j : Nat} {ys : List Int} (h : RDone xss j) (hy : xss[pi j]? = some ys) (hp : Part (fun _ => (99 : Int)) xss (pi j) ys.length) : RDone xss (j + 1) := fun q hq xs hx x hm => by
  by_cases e : q = j
  · subst e
    rw [hy] at hx
    cases Option.some.inj hx
    obtain ⟨i, hi, rfl⟩ := List.mem_iff_getElem.1 hm
    exact hp i _ hi (by rw [List.getD_eq_getElem?_getD, hy]; exact List.getElem?_eq_getElem hi)
  · exact h q (by omega) xs hx x hm
theorem RUp.next {a b c : Value} {vs : List Value} {j : Nat} (h : RUp a b c vs j) : RUp a b c vs (j + 1) := fun q u hq hu => h q u (by omega) hu
theorem RUp.setNext {a b c : Value} {vs : List Value} {j : Nat} (h : RUp a b c vs (j + 1)) (hj : j < 3) (v : Value) : RUp a b c (vs.set (pi j) v) (j + 1) := fun q u hq hu => by
  have hq3 : q < 3 := by
    have := (Array.getElem?_eq_some_iff.1 hu).1
    simpa using this
  rw [List.getElem?_set_ne (fun e => by have := pi_inj hj hq3 e; omega)]
  exact h q u hq hu
/-- From place j on the list's rows hold something, are not very long, and are marked. -/
def RFrom (xss : List (List Int)) (j : Nat) : Prop := ∀ q xs, j ≤ q → q < 3 → xss[pi q]? = some xs → 0 < xs.length ∧ xs.length < 1000000000000 ∧ ∀ x ∈ xs, x = 99
theorem RFrom.start {xss : List (List Int)} (h1 : RPos xss) (h2 : RMax xss) (h3 : RDone xss 3) : RFrom xss 0 := fun q xs _ hq hx => ⟨h1 q xs hq hx, h2 q xs hq hx, h3 q hq xs hx⟩
theorem RFrom.next {xss : List (List Int)} {j : Nat} (h : RFrom xss j) : RFrom xss (j + 1) := fun q xs hq => h q xs (by omega)
theorem RFrom.setNext {xss : List (List Int)} {j : Nat} (h : RFrom xss (j + 1)) (hj : j < 3) (ys : List Int) : RFrom (xss.set (pi j) ys) (j + 1) := fun q xs hq hq3 hx => by
  rw [List.getElem?_set_ne (fun e => by have := pi_inj hj hq3 e; omega)] at hx
  exact h q xs hq hq3 hx
/-- The row that grows: its head stays. -/
def RGrow (vs : List Value) (xss : List (List Int)) (j m : Nat) (gv : Value) : Prop := vs[pi j]? = some gv ∧ ∃ ys, xss[pi j]? = some (99 :: ys) ∧ ys.length + 1 = m
theorem RGrow.start {vs : List Value} {xss : List (List Int)} {j m : Nat} {gv : Value} {xs : List Int} (hv : vs[pi j]? = some gv) (hx : xss[pi j]? = some xs) (hm : m = xs.length) (h : 0 < xs.length ∧ xs.length < 1000000000000 ∧ ∀ x ∈ xs, x = 99) : RGrow vs xss j m gv := by
  cases xs with
  | nil => exact absurd h.1 (by simp)
  | cons x ys =>
    have e := h.2.2 x (by simp)
    subst e
    exact ⟨hv, ys, hx, by rw [hm]; rfl⟩
theorem RGrow.grow {vs : List Value} {xss : List (List Int)} {j m : Nat} {gv v : Value} {ys : List Int} (hv : vs[pi j]? = some gv) (hx : xss[pi j]? = some (99 :: ys)) (hm : ys.length + 1 = m) : RGrow (vs.set (pi j) v) (xss.set (pi j) (99 :: ys ++ [77])) j (m + 1) v := by
  have h1 := (List.getElem?_eq_some_iff.1 hv).1
  have h2 := (List.getElem?_eq_some_iff.1 hx).1
  exact ⟨List.getElem?_set_self h1, ys ++ [77], by rw [List.getElem?_set_self h2]; rfl, by simp; omega⟩
end Go.Proofs.YtengkjkmdodifaaDoor.Pool
