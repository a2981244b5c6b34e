/- Lemmas on the printed functions: what each answers, in plain words of Lean; on condition that the numbers are of their kinds. -/
import Derived.Test.YtfjpnmhbbfiaaaaZGYPx1
import Derived.Test.YtfjpnmhbbfiaaaaZGYPx10
import Derived.Test.YtfjpnmhbbfiaaaaZGYPx11
import Derived.Test.YtfjpnmhbbfiaaaaZGYPx14
import Derived.Test.YtfjpnmhbbfiaaaaZGYPx16
import Derived.Test.YtfjpnmhbbfiaaaaZGYPx17
import Derived.Test.YtfjpnmhbbfiaaaaZGYPx18
import Derived.Test.YtfjpnmhbbfiaaaaZGYPx19
import Derived.Test.YtfjpnmhbbfiaaaaZGYPx2
import Derived.Test.YtfjpnmhbbfiaaaaZGYPx20
import Derived.Test.YtfjpnmhbbfiaaaaZGYPx21
import Derived.Test.YtfjpnmhbbfiaaaaZGYPx22
import Derived.Test.YtfjpnmhbbfiaaaaZGYPx23
import Derived.Test.YtfjpnmhbbfiaaaaZGYPx24
import Derived.Test.YtfjpnmhbbfiaaaaZGYPx28
import Derived.Test.YtfjpnmhbbfiaaaaZGYPx29
import Derived.Test.YtfjpnmhbbfiaaaaZGYPx3
import Derived.Test.YtfjpnmhbbfiaaaaZGYPx30
import Derived.Test.YtfjpnmhbbfiaaaaZGYPx31
import Derived.Test.YtfjpnmhbbfiaaaaZGYPx4
import Derived.Test.YtfjpnmhbbfiaaaaZGYPx5
import Derived.Test.YtfjpnmhbbfiaaaaZGYPx6
import Derived.Test.YtfjpnmhbbfiaaaaZGYPx7
import Derived.Test.YtfjpnmhbbfiaaaaZGYPx9
import Derived.Test.YtfjpnmhbbfiaaaaZGYMath
namespace Go.Proofs.Ytfjpnmhbbfiaaaa.L
open Go Go.RowKit Go.Proofs.Ytfjpnmhbbfiaaaa.M Go.Proofs.Ytfjpnmhbbfiaaaa.P Go.Proofs.YtfjpnmhbbfiaaaaW.PrintWords Go.Proofs.YtfjpnmhbbfiaaaaW.PrintLast Go.Proofs.YtfjpnmhbbfiaaaaW.PrintMore
set_option linter.unusedVariables false
set_option linter.unusedSimpArgs false

/-- A loop by its places: what is known at each place, and what comes of the rest. -/
theorem ev_loop {β : Type} (F : Nat → Nat → Option β) (r : β) (n : Nat) (P : Nat → Prop) (h0 : P 0) (hend : P n → Ev (fun k => F k n) r) (hstep : ∀ i, i < n → P i → (P (i + 1) → Ev (fun k => F k (i + 1)) r) → Ev (fun k => F k i) r) : Ev (fun k => F k 0) r := by
  have key : ∀ d i, i + d = n → P i → Ev (fun k => F k i) r := by
    intro d
    induction d with
    | zero => intro i hi hp; obtain rfl : i = n := by omega
              exact hend hp
    | succ d ih => intro i hi hp; exact hstep i (by omega) hp (fun hp' => ih (i + 1) (by omega) hp')
  exact key n 0 (by omega) h0
theorem ev_succ {β : Type} {g : Nat → Option β} {r : β} (h : Ev (fun k => g (k + 1)) r) : Ev g r := Ev.step (fun _ => rfl) h
theorem take_one {α : Type} {l : List α} {i : Nat} (h : i < l.length) : l.take (i + 1) = l.take i ++ [l[i]] := by
  rw [List.take_add_one]; simp [h]
theorem rng_snoc {α : Type} (g : Nat → α) (i : Nat) : (List.range (i + 1)).map g = (List.range i).map g ++ [g i] := by
  rw [List.range_succ]; simp
theorem set_mid0 {α : Type} (a : List α) (x v : α) (b : List α) (i : Nat) (hi : i = a.length) : (a ++ x :: b).set i v = (a ++ [v]) ++ b := by
  subst hi; simp
theorem wone {a : Nat} (h : a ≤ 140737488351232) : wrap64 ((a : Int) + 1) = ((a + 1 : Nat) : Int) := by
  rw [wrap64_id' (by omega) (by omega)]; omega
/-! ### guides: states, edges, what is alive -/
def isS (A : List Bool) (x : Int) : Prop := 0 ≤ x ∧ x < (A.length : Int)
instance (A : List Bool) (x : Int) : Decidable (isS A x) := by unfold isS; exact inferInstance
def ed (E : List S92) (i : Nat) : S92 := rd_T92 E (i : Int)
def T (o : List Bool) (s : Int) : Prop := rdOf false o s = true
instance (o : List Bool) (s : Int) : Decidable (T o s) := by unfold T; exact inferInstance
theorem T_nat {o : List Bool} {i : Nat} : T o (i : Int) ↔ o.getD i false = true := by unfold T rdOf; simp
theorem T_set {o : List Bool} {a : Int} {s : Int} (ha : 0 ≤ a) (hl : a < o.length) (hs : 0 ≤ s) : T (o.set a.toNat true) s ↔ s = a ∨ T o s := by
  unfold T rdOf
  rw [List.getD_eq_getElem?_getD, List.getD_eq_getElem?_getD, List.getElem?_set]
  by_cases c : a.toNat = s.toNat
  · rw [if_pos c, if_pos (by omega)]
    have : s = a := by omega
    simp [this]
  · rw [if_neg c]
    have : ¬ s = a := by omega
    simp [this]
/-- A state from which one that accepts can be reached, along edges that may be. -/
def Live (A : List Bool) (E : List S92) (s : Int) : Prop := ∀ S : Int → Prop, (∀ s, isS A s → T A s → S s) → (∀ i : Nat, i < E.length → isS A (ed E i).f0 → isS A (ed E i).f3 → S (ed E i).f3 → S (ed E i).f0) → S s
theorem Live.acc {A : List Bool} {E : List S92} {s : Int} (h : isS A s) (t : T A s) : Live A E s := fun _ h1 _ => h1 s h t
theorem Live.back {A : List Bool} {E : List S92} {i : Nat} (hi : i < E.length) (h0 : isS A (ed E i).f0) (h3 : isS A (ed E i).f3) (h : Live A E (ed E i).f3) : Live A E (ed E i).f0 := fun S h1 h2 => h2 i hi h0 h3 (h S h1 h2)
open Classical in
noncomputable def liveL (A : List Bool) (E : List S92) : List Bool := (List.range A.length).map fun i : Nat => decide (Live A E (i : Int))
theorem liveL_len (A : List Bool) (E : List S92) : (liveL A E).length = A.length := by simp [liveL]
theorem liveL_T {A : List Bool} {E : List S92} {s : Int} (h : isS A s) : T (liveL A E) s ↔ Live A E s := by
  obtain ⟨n, rfl⟩ : ∃ n : Nat, s = n := ⟨s.toNat, by have := h.1; omega⟩
  have hn : n < A.length := by have := h.2; omega
  rw [T_nat, List.getD_eq_getElem?_getD]
  simp [liveL, hn]
theorem bools_eq {o p : List Bool} (hl : o.length = p.length) (h : ∀ i : Nat, i < o.length → (T o (i : Int) ↔ T p (i : Int))) : o = p := by
  apply List.ext_getElem hl
  intro i h1 h2
  have := h i h1
  rw [T_nat, T_nat, List.getD_eq_getElem?_getD, List.getD_eq_getElem?_getD, List.getElem?_eq_getElem h1, List.getElem?_eq_getElem h2] at this
  simp only [Option.getD_some] at this
  cases h3 : o[i] <;> cases h4 : p[i] <;> simp_all
/-- What holds exactly the live ones. -/
theorem is_live {A : List Bool} {E : List S92} {o : List Bool} (hl : o.length = A.length) (h1 : ∀ s, isS A s → T o s → Live A E s) (h2 : ∀ s, isS A s → T A s → T o s) (h3 : ∀ i : Nat, i < E.length → isS A (ed E i).f0 → isS A (ed E i).f3 → T o (ed E i).f3 → T o (ed E i).f0) : o = liveL A E := by
  refine bools_eq (by rw [liveL_len, hl]) (fun i hi => ?_)
  have hs : isS A (i : Int) := ⟨by omega, by omega⟩
  rw [liveL_T hs]
  exact ⟨h1 _ hs, fun h => h (fun s => T o s) h2 h3⟩
def cnt (o : List Bool) : Nat := o.count false
theorem cnt_set : ∀ (o : List Bool) (i : Nat), i < o.length → o.getD i false = false → cnt (o.set i true) + 1 = cnt o
  | [], i, h, _ => by simp at h
  | x :: t, 0, _, h => by
    have hx : x = false := h
    subst hx
    simp [cnt, List.count_cons]
  | x :: t, i + 1, hi, h => by
    have ih := cnt_set t i (by simpa using hi) (by simpa using h)
    unfold cnt at ih ⊢
    simp only [List.set_cons_succ, List.count_cons]
    omega
theorem isState_f (A : List Bool) (E : List S92) (x : Int) : guide_isState.f A E x = some (decide (isS A x)) := by
  unfold guide_isState.f isS
  by_cases h : x ≥ 0
  · rw [if_pos h]
    by_cases c : x < (A.length : Int)
    · have h' : 0 ≤ x := h
      simp [c, h']
    · simp [c]
  · rw [if_neg h]
    have h' : ¬ 0 ≤ x := h
    simp [h']
/-! ### the states that are alive, from those that accept backwards -/
def Good (A : List Bool) (E : List S92) : Prop := ∀ i : Nat, i < E.length → isS A (ed E i).f0 ∧ isS A (ed E i).f3
def InvB (A : List Bool) (E : List S92) (s : Int) (j : Nat) (o : List Bool) (w : List Int) : Prop := o.length = A.length ∧ (∀ x, isS A x → T o x → Live A E x) ∧ (∀ x ∈ w, isS A x ∧ T o x) ∧ (∀ x, isS A x → T A x → T o x) ∧ (∀ i : Nat, i < E.length → T o (ed E i).f3 → (ed E i).f3 ∈ w ∨ T o (ed E i).f0 ∨ ((ed E i).f3 = s ∧ j ≤ i)) ∧ w.length + cnt o ≤ A.length

theorem alive_l2 (A : List Bool) (E : List S92) (hG : Good A E) (hA : A.length ≤ 64) (hE : E.length ≤ 1024) (s : Int) (hs : isS A s) (M : Nat) (ih : ∀ o w, InvB A E (-1) E.length o w → 2 * cnt o + w.length ≤ M → Ev (fun k => guide_alive.l1 k o w A E) (liveL A E)) : ∀ (d j : Nat) (o : List Bool) (w : List Int), j + d = E.length → InvB A E s j o w → T o s → 2 * cnt o + w.length ≤ M → Ev (fun k => guide_alive.l2 k o w s E E.length j A E) (liveL A E) := by
  intro d
  induction d with
  | zero =>
    intro j o w hj hI hT hM
    obtain rfl : j = E.length := by omega
    obtain ⟨i1, i2, i3, i4, i5, i6⟩ := hI
    refine Ev.step (fun k => ?_) (ih o w ⟨i1, i2, i3, i4, fun i hi ht => ?_, i6⟩ hM)
    · simp only [guide_alive.l2]; rw [if_neg (by omega)]
    · rcases i5 i hi ht with h | h | h
      · exact Or.inl h
      · exact Or.inr (Or.inl h)
      · exact absurd h.2 (by omega)
  | succ d ihd =>
    intro j o w hj hI hT hM
    obtain ⟨i1, i2, i3, i4, i5, i6⟩ := hI
    have hjl : j < E.length := by omega
    obtain ⟨g0, g3⟩ := hG j hjl
    have w1 : j ≤ 140737488351232 := by omega
    have skip : InvB A E s (j + 1) o w → Ev (fun k => guide_alive.l2 k o w s E E.length ((j + 1 : Nat) : Int) A E) (liveL A E) := fun h => ihd (j + 1) o w (by omega) h hT hM
    by_cases c1 : (ed E j).f3 = s
    · have b0 : 0 ≤ (ed E j).f0 := g0.1
      have b1 : (ed E j).f0 < (o.length : Int) := by rw [i1]; exact g0.2
      by_cases c2 : T o (ed E j).f0
      · refine Ev.step (fun k => ?_) (skip ⟨i1, i2, i3, i4, fun i hi ht => ?_, i6⟩)
        · simp only [guide_alive.l2, wone w1]
          unfold ed at c1 c2 b0 b1
          unfold T at c2
          rw [if_pos (by omega), if_pos (by omega), if_pos (by omega), if_pos c1, if_pos b0, if_pos b1, if_pos c2]
        · rcases i5 i hi ht with h | h | h
          · exact Or.inl h
          · exact Or.inr (Or.inl h)
          · by_cases e : i = j
            · subst e; exact Or.inr (Or.inl c2)
            · exact Or.inr (Or.inr ⟨h.1, by omega⟩)
      · have hlt : (ed E j).f0.toNat < o.length := by omega
        have hz : o.getD (ed E j).f0.toNat false = false := by
          unfold T rdOf at c2; simpa using c2
        have hc := cnt_set o _ hlt hz
        have hset := fun x (hx : 0 ≤ x) => T_set (o := o) (a := (ed E j).f0) (s := x) b0 b1 hx
        refine Ev.step (fun k => ?_) (ihd (j + 1) (o.set (ed E j).f0.toNat true) (w ++ [(ed E j).f0]) (by omega) ⟨by simpa using i1, ?_, ?_, ?_, ?_, ?_⟩ ?_ ?_)
        · simp only [guide_alive.l2, wone w1]
          unfold ed at c1 c2 b0 b1 ⊢
          unfold T at c2
          have hw : w.length < 17592186044416 := by omega
          rw [if_pos (by omega), if_pos (by omega), if_pos (by omega), if_pos c1, if_pos b0, if_pos b1, if_neg c2, if_pos hw]
        · intro x hx ht
          rcases (hset x hx.1).mp ht with e | h
          · rw [e]; exact Live.back hjl g0 g3 (by rw [c1]; exact i2 s hs hT)
          · exact i2 x hx h
        · intro x hx
          rcases List.mem_append.mp hx with h | h
          · have := i3 x h
            exact ⟨this.1, (hset x this.1.1).mpr (Or.inr this.2)⟩
          · simp at h; subst h
            exact ⟨g0, (hset _ b0).mpr (Or.inl rfl)⟩
        · intro x hx ht; exact (hset x hx.1).mpr (Or.inr (i4 x hx ht))
        · intro i hi ht
          have gi := hG i hi
          rcases (hset _ gi.2.1).mp ht with e | h
          · exact Or.inl (by rw [e]; simp)
          · rcases i5 i hi h with h | h | h
            · exact Or.inl (List.mem_append_left _ h)
            · exact Or.inr (Or.inl ((hset _ gi.1.1).mpr (Or.inr h)))
            · by_cases e : i = j
              · subst e; exact Or.inr (Or.inl ((hset _ gi.1.1).mpr (Or.inl rfl)))
              · exact Or.inr (Or.inr ⟨h.1, by omega⟩)
        · simp; omega
        · exact (hset s hs.1).mpr (Or.inr hT)
        · simp; omega
    · refine Ev.step (fun k => ?_) (skip ⟨i1, i2, i3, i4, fun i hi ht => ?_, i6⟩)
      · simp only [guide_alive.l2, wone w1]
        unfold ed at c1
        rw [if_pos (by omega), if_pos (by omega), if_pos (by omega), if_neg c1]
      · rcases i5 i hi ht with h | h | h
        · exact Or.inl h
        · exact Or.inr (Or.inl h)
        · by_cases e : i = j
          · subst e; exact absurd h.1 c1
          · exact Or.inr (Or.inr ⟨h.1, by omega⟩)
theorem alive_done {A : List Bool} {E : List S92} {o : List Bool} (hI : InvB A E (-1) E.length o []) : Ev (fun k => guide_alive.l1 k o [] A E) (liveL A E) := by
  obtain ⟨i1, i2, i3, i4, i5, i6⟩ := hI
  have e : o = liveL A E := is_live i1 i2 i4 (fun i hi h0 h3 ht => by
    rcases i5 i hi ht with h | h | h
    · simp at h
    · exact h
    · exact absurd h.2 (by omega))
  rw [← e]
  exact Ev.step (f := fun _ => some o) (fun k => by simp [guide_alive.l1]) (Ev.now _)
theorem alive_l1 (A : List Bool) (E : List S92) (hG : Good A E) (hA : A.length ≤ 64) (hE : E.length ≤ 1024) : ∀ (M : Nat) (o : List Bool) (w : List Int), InvB A E (-1) E.length o w → 2 * cnt o + w.length ≤ M → Ev (fun k => guide_alive.l1 k o w A E) (liveL A E) := by
  intro M
  induction M with
  | zero =>
    intro o w hI hM
    obtain rfl : w = [] := by cases w with
      | nil => rfl
      | cons x t => simp at hM
    exact alive_done hI
  | succ M ih =>
    intro o w hI hM
    cases w with
    | nil => exact alive_done hI
    | cons s t =>
      obtain ⟨i1, i2, i3, i4, i5, i6⟩ := hI
      obtain ⟨hs, hT⟩ := i3 s (by simp)
      refine Ev.step (f := fun k => guide_alive.l2 k o t s E E.length 0 A E) (fun k => ?_) ?_
      · simp only [guide_alive.l1]
        have l0 : (0 : Int) < ((s :: t).length : Int) := by rw [List.length_cons]; omega
        have l1 : (1 : Int) ≤ ((s :: t).length : Int) := by omega
        rw [if_pos l0, if_pos l0, if_pos l1]
        simp [rd]
      · refine alive_l2 A E hG hA hE s hs M ih E.length 0 o t (by omega) ⟨i1, i2, fun x hx => i3 x (by simp [hx]), i4, fun i hi ht => ?_, by simp at i6; omega⟩ hT (by simp at hM; omega)
        rcases i5 i hi ht with h | h | h
        · rcases List.mem_cons.mp h with e | e
          · exact Or.inr (Or.inr ⟨e, by omega⟩)
          · exact Or.inl e
        · exact Or.inr (Or.inl h)
        · exact absurd h.2 (by omega)
def accs (A : List Bool) (i : Nat) : List Int := ((List.range i).filter fun j => A.getD j false).map fun j : Nat => (j : Int)
theorem accs_snoc (A : List Bool) (i : Nat) : accs A (i + 1) = if A.getD i false = true then accs A i ++ [(i : Int)] else accs A i := by
  unfold accs
  have h : List.filter (fun j => A.getD j false) [i] = if A.getD i false = true then [i] else [] := by
    rw [List.filter_cons, List.filter_nil]
  rw [List.range_succ, List.filter_append, List.map_append, h]
  by_cases c : A.getD i false = true
  · rw [if_pos c, if_pos c]; rfl
  · rw [if_neg c, if_neg c]; simp
theorem accs_cnt (A : List Bool) : ∀ i, i ≤ A.length → (accs A i).length + cnt (A.take i) = i
  | 0, _ => by simp [accs, cnt]
  | i + 1, h => by
    have ih := accs_cnt A i (by omega)
    have hg : A.getD i false = A[i] := by rw [List.getD_eq_getElem?_getD, List.getElem?_eq_getElem (by omega)]; rfl
    rw [accs_snoc, take_one (show i < A.length by omega), hg]
    unfold cnt at ih ⊢
    rw [List.count_append]
    cases h3 : A[i]
    · simp [h3]; omega
    · simp [h3]; omega
theorem accs_len (A : List Bool) (i : Nat) : (accs A i).length ≤ i := by
  unfold accs
  rw [List.length_map]
  have := List.length_filter_le (fun j => A.getD j false) (List.range i)
  simpa using this
theorem alive_f (A : List Bool) (E : List S92) (hG : Good A E) (hA : A.length ≤ 64) (hE : E.length ≤ 1024) : Ev (fun k => guide_alive.f k A E) (liveL A E) := by
  unfold guide_alive.f
  simp only [show (0 : Int) ≤ (A.length : Int) by omega, Int.toNat_natCast, show A.length ≤ 281474976710656 by omega, if_true]
  have := ev_loop (fun k i => guide_alive.l0 k (A.take i ++ List.replicate (A.length - i) false) (accs A i) A A.length (i : Int) A E) (liveL A E) A.length (fun _ => True) trivial (fun _ => ?_) (fun i hi _ ih => ?_)
  · simpa [accs] using this
  · refine Ev.step (f := fun k => guide_alive.l1 k A (accs A A.length) A E) (fun k => ?_) ?_
    · simp only [guide_alive.l0]; rw [if_neg (by omega), List.take_length]; simp
    · refine alive_l1 A E hG hA hE _ A (accs A A.length) ⟨rfl, fun x hx ht => Live.acc hx ht, fun x hx => ?_, fun x _ h => h, fun i hi ht => ?_, ?_⟩ (Nat.le_refl _)
      · obtain ⟨j, hj, rfl⟩ := List.mem_map.mp hx
        obtain ⟨h1, h2⟩ := List.mem_filter.mp hj
        have h3 : j < A.length := by simpa using h1
        exact ⟨⟨by omega, by omega⟩, T_nat.mpr h2⟩
      · have g := (hG i hi).2
        obtain ⟨n, hn⟩ : ∃ n : Nat, (ed E i).f3 = n := ⟨(ed E i).f3.toNat, by have := g.1; omega⟩
        rw [hn] at ht g ⊢
        refine Or.inl (List.mem_map.mpr ⟨n, List.mem_filter.mpr ⟨by have := g.2; simp; omega, T_nat.mp ht⟩, rfl⟩)
      · have := accs_cnt A A.length (Nat.le_refl _)
        rw [List.take_length] at this; omega
  · have w1 : i ≤ 140737488351232 := by omega
    have hlen : (A.take i ++ List.replicate (A.length - i) false).length = A.length := by simp; omega
    have hal := accs_len A i
    have hg : A.getD i false = A[i] := by rw [List.getD_eq_getElem?_getD, List.getElem?_eq_getElem (by omega)]; rfl
    have hih := ih trivial
    rw [accs_snoc, take_one hi, hg] at hih
    have hrep : List.replicate (A.length - i) false = false :: List.replicate (A.length - (i + 1)) false := by
      rw [show A.length - i = (A.length - (i + 1)) + 1 by omega, List.replicate_succ]
    cases h3 : A[i]
    · rw [h3] at hih hg
      simp only [Bool.false_eq_true, if_false, List.append_assoc, List.singleton_append] at hih
      rw [← hrep] at hih
      refine Ev.step (fun k => ?_) hih
      have hr : ¬ rdOf false A (i : Int) = true := by unfold rdOf; simpa using hg
      simp only [guide_alive.l0, wone w1]
      rw [if_pos (by omega), if_pos (by omega), if_pos (by omega), if_neg hr]
    · rw [h3] at hih hg
      simp only [if_true] at hih
      refine Ev.step (fun k => ?_) hih
      have hr : rdOf false A (i : Int) = true := by unfold rdOf; simpa using hg
      simp only [guide_alive.l0, wone w1]
      rw [if_pos (by omega), if_pos (by omega), if_pos (by omega), if_pos hr, if_pos (by omega), if_pos (by omega), Int.toNat_natCast, hrep, set_mid0 _ _ _ _ _ (by simp; omega)]

/-! ### what may be wrong with a guide -/
def okE (A : List Bool) (E : List S92) (i : Nat) : Prop := isS A (ed E i).f0 ∧ isS A (ed E i).f3 ∧ (ed E i).f1 ≤ (ed E i).f2 ∧ ∀ j : Nat, j < i → ¬ ((ed E j).f0 = (ed E i).f0 ∧ (ed E j).f1 ≤ (ed E i).f2 ∧ (ed E i).f1 ≤ (ed E j).f2)
noncomputable instance (A : List Bool) (E : List S92) (i : Nat) : Decidable (okE A E i) := Classical.propDecidable _
open Classical in
noncomputable def edgesS (A : List Bool) (E : List S92) : Nat → Int × Int
  | 0 => if A.length > 0 ∧ ¬ Live A E 0 then (0, 152) else (0, 0)
  | d + 1 => if okE A E (E.length - (d + 1)) then edgesS A E d else (((E.length - (d + 1) : Nat) : Int), 151)
noncomputable def checkS (A : List Bool) (E : List S92) : Int × Int := if A.length > 64 then (64, 150) else if E.length > 1024 then (1024, 151) else edgesS A E E.length
theorem edgesS_ok {A : List Bool} {E : List S92} : ∀ (d : Nat), d ≤ E.length → (edgesS A E d).2 = 0 → ∀ i, E.length - d ≤ i → i < E.length → okE A E i
  | 0, _, _, i, h1, h2 => by omega
  | d + 1, hd, h, i, h1, h2 => by
    simp only [edgesS] at h
    split at h
    · rename_i hk
      by_cases e : i = E.length - (d + 1)
      · subst e; exact hk
      · exact edgesS_ok d (by omega) h i (by omega) h2
    · simp at h
theorem checkS_ok {A : List Bool} {E : List S92} (h : (checkS A E).2 = 0) : A.length ≤ 64 ∧ E.length ≤ 1024 ∧ ∀ i, i < E.length → okE A E i := by
  unfold checkS at h
  split at h
  · simp at h
  · split at h
    · simp at h
    · exact ⟨by omega, by omega, fun i hi => edgesS_ok E.length (Nat.le_refl _) h i (by omega) hi⟩
theorem good_of {A : List Bool} {E : List S92} (h : ∀ i, i < E.length → okE A E i) : Good A E := fun i hi => ⟨(h i hi).1, (h i hi).2.1⟩

theorem Check_f (A : List Bool) (E : List S92) : Ev (fun k => guide_Check.f k A E) (checkS A E) := by
  unfold guide_Check.f checkS
  by_cases h1 : A.length > 64
  · rw [if_pos h1]; simp only [show (A.length : Int) > 64 by omega, if_true]; exact Ev.now _
  · rw [if_neg h1]; simp only [show ¬ (A.length : Int) > 64 by omega, if_false]
    by_cases h2 : E.length > 1024
    · rw [if_pos h2]; simp only [show (E.length : Int) > 1024 by omega, if_true]; exact Ev.now _
    · rw [if_neg h2]; simp only [show ¬ (E.length : Int) > 1024 by omega, if_false]
      have key : ∀ (d i : Nat), i + d = E.length → (∀ j, j < i → okE A E j) → Ev (fun k => guide_Check.l0 k E E.length (i : Int) A E) (edgesS A E d) := by
        intro d
        induction d with
        | zero =>
          intro i hi hP
          obtain rfl : i = E.length := by omega
          simp only [edgesS]
          by_cases hn : A.length > 0
          · refine Ev.step (f := fun k => (guide_alive.f k A E).bind fun t => (if 0 < (t.length : Int) then (if rdOf false t 0 = true then (some ((0 : Int), (0 : Int))) else (some (0, 152))) else (none))) (fun k => ?_) ?_
            · simp only [guide_Check.l0]; rw [if_neg (by omega), if_pos (by omega)]
            · refine Ev.bind (alive_f A E (good_of hP) (by omega) (by omega)) ?_
              rw [liveL_len, if_pos (by omega)]
              have hT := liveL_T (A := A) (E := E) (s := 0) ⟨by omega, by omega⟩
              by_cases hL : Live A E 0
              · have ht : rdOf false (liveL A E) 0 = true := hT.mpr hL
                rw [if_pos ht, if_neg (by simp [hL])]; exact Ev.now _
              · have ht : ¬ rdOf false (liveL A E) 0 = true := fun h => hL (hT.mp h)
                rw [if_neg ht, if_pos ⟨hn, hL⟩]; exact Ev.now _
          · refine Ev.step (f := fun _ => some (0, 0)) (fun k => ?_) (by rw [if_neg (by omega)]; exact Ev.now _)
            simp only [guide_Check.l0]; rw [if_neg (by omega), if_neg (by omega)]
        | succ d ih =>
          intro i hi hP
          have ei : E.length - (d + 1) = i := by omega
          simp only [edgesS, ei]
          have w1 : i ≤ 140737488351232 := by omega
          have no : ∀ a b c e, Ev (fun k => guide_Check.j1 k (i : Int) E E.length (i : Int) true A E a b c e) ((i : Int), 151) := fun a b c e => Ev.step (fun k => by simp only [guide_Check.j1, if_true]) (Ev.now _)
          have first : Ev (fun k => (guide_isState.f A E (ed E i).f0).bind fun t143 => (if t143 = true then ((guide_isState.f A E (ed E i).f3).bind fun t144 => (if t144 = true then (guide_Check.j1 k (i : Int) E E.length (i : Int) (decide ((ed E i).f1 > (ed E i).f2)) A E (ed E i).f0 (ed E i).f1 (ed E i).f2 (ed E i).f3) else (guide_Check.j1 k (i : Int) E E.length (i : Int) true A E (ed E i).f0 (ed E i).f1 (ed E i).f2 (ed E i).f3))) else (guide_Check.j1 k (i : Int) E E.length (i : Int) true A E (ed E i).f0 (ed E i).f1 (ed E i).f2 (ed E i).f3))) (if okE A E i then edgesS A E d else ((i : Int), 151)) := by
            simp only [isState_f, Option.bind_some]
            by_cases c0 : isS A (ed E i).f0
            · simp only [c0, decide_true, if_true]
              by_cases c3 : isS A (ed E i).f3
              · simp only [c3, decide_true, if_true]
                by_cases c1 : (ed E i).f1 > (ed E i).f2
                · have hno : ¬ okE A E i := fun h => by have := h.2.2.1; omega
                  rw [if_neg hno]; simp only [c1, decide_true]; exact no _ _ _ _
                · simp only [c1, decide_false]
                  have htl : (E.take i).length = i := by rw [List.length_take]; omega
                  have inner : Ev (fun k => guide_Check.l1 k (i : Int) E E.length (i : Int) (E.take i) (i : Int) 0 A E (ed E i).f0 (ed E i).f1 (ed E i).f2 (ed E i).f3) (if okE A E i then edgesS A E d else ((i : Int), 151)) := by
                    refine ev_loop (fun k j => guide_Check.l1 k (i : Int) E E.length (i : Int) (E.take i) (i : Int) (j : Int) A E (ed E i).f0 (ed E i).f1 (ed E i).f2 (ed E i).f3) _ i (fun j => ∀ q : Nat, q < j → ¬ ((ed E q).f0 = (ed E i).f0 ∧ (ed E q).f1 ≤ (ed E i).f2 ∧ (ed E i).f1 ≤ (ed E q).f2)) (fun q hq => by omega) (fun hp => ?_) (fun j hj hp ih2 => ?_)
                    · have hok : okE A E i := ⟨c0, c3, by omega, hp⟩
                      rw [if_pos hok]
                      refine Ev.step (fun k => ?_) (ih (i + 1) (by omega) (fun q hq => by
                        by_cases e : q = i
                        · subst e; exact hok
                        · exact hP q (by omega)))
                      simp only [guide_Check.l1, wone w1]; rw [if_neg (by omega)]
                    · have w2 : j ≤ 140737488351232 := by omega
                      have er : rd_T92 (E.take i) (j : Int) = ed E j := by
                        unfold ed rd_T92
                        simp only [Int.toNat_natCast, List.getD_eq_getElem?_getD, List.getElem?_take_of_lt hj]
                      by_cases cb : (ed E j).f0 = (ed E i).f0 ∧ (ed E j).f1 ≤ (ed E i).f2 ∧ (ed E i).f1 ≤ (ed E j).f2
                      · have hno : ¬ okE A E i := fun h => h.2.2.2 j hj cb
                        rw [if_neg hno]
                        refine Ev.step (f := fun _ => some ((i : Int), 151)) (fun k => ?_) (Ev.now _)
                        simp only [guide_Check.l1, er, htl]
                        rw [if_pos (by omega), if_pos (by omega), if_pos (by omega), if_pos cb.1, if_pos cb.2.1, if_pos cb.2.2]
                      · refine Ev.step (fun k => ?_) (ih2 (fun q hq => by
                          by_cases e : q = j
                          · subst e; exact cb
                          · exact hp q (by omega)))
                        simp only [guide_Check.l1, er, htl, wone w2]
                        rw [if_pos (by omega), if_pos (by omega), if_pos (by omega)]
                        by_cases d1 : (ed E j).f0 = (ed E i).f0
                        · rw [if_pos d1]
                          by_cases d2 : (ed E j).f1 ≤ (ed E i).f2
                          · rw [if_pos d2, if_neg (fun d3 => cb ⟨d1, d2, d3⟩)]
                          · rw [if_neg d2]
                        · rw [if_neg d1]
                  refine Ev.step (fun k => ?_) inner
                  simp only [guide_Check.j1, Bool.false_eq_true, if_false, Int.toNat_natCast, Option.bind_some, htl]
                  rw [if_pos (by omega), if_pos (by omega)]
              · have hno : ¬ okE A E i := fun h => c3 h.2.1
                rw [if_neg hno]; simp only [c3, decide_false, Bool.false_eq_true, if_false]; exact no _ _ _ _
            · have hno : ¬ okE A E i := fun h => c0 h.1
              rw [if_neg hno]; simp only [c0, decide_false, Bool.false_eq_true, if_false]; exact no _ _ _ _
          refine Ev.step (fun k => ?_) first
          simp only [guide_Check.l0]
          rw [if_pos (by omega), if_pos (by omega), if_pos (by omega)]
          rfl
      exact key E.length 0 (by omega) (fun j hj => by omega)

theorem Alive_f (A : List Bool) (E : List S92) : Ev (fun k => guide_Alive.f k A E) (if (checkS A E).2 = 0 then (liveL A E, 0) else ([], (checkS A E).2)) := by
  unfold guide_Alive.f
  refine Ev.bind (Check_f A E) ?_
  by_cases h : (checkS A E).2 = 0
  · simp only [h, if_true]
    obtain ⟨h1, h2, h3⟩ := checkS_ok h
    exact Ev.bind (alive_f A E (good_of h3) h1 h2) (Ev.now _)
  · simp only [h, if_false]; exact Ev.now _

/-! ### the same guide, as the document has it -/
def cv (e : S92) : S93 := ⟨e.f0, e.f1, e.f2, e.f3⟩
theorem rdc (E : List S92) (i : Nat) : rd_T93 (E.map cv) (i : Int) = cv (ed E i) := by
  unfold ed rd_T93 rd_T92
  simp only [Int.toNat_natCast, List.getD_eq_getElem?_getD, List.getElem?_map]
  cases E[i]? <;> rfl
theorem given_f (A : List Bool) (E : List S92) (hA : A.length ≤ 140737488351232) (hE : E.length ≤ 5864062014634) : Ev (fun k => heraldlaw15_given.f k A E) (A, E.map cv) := by
  unfold heraldlaw15_given.f
  simp only [Option.bind_some, List.length_nil, Nat.zero_add, List.nil_append, show A.length < 140737488355328 by omega, if_true]
  have := ev_loop (fun k i => heraldlaw15_given.l0 k (i : Int) A E A ((E.take i).map cv)) (A, E.map cv) E.length (fun _ => True) trivial (fun _ => ?_) (fun i hi _ ih => ?_)
  · simpa using this
  · refine Ev.step (f := fun _ => some (A, E.map cv)) (fun k => ?_) (Ev.now _)
    simp only [heraldlaw15_given.l0]; rw [if_neg (by omega), List.take_length]
  · have w1 : i ≤ 140737488351232 := by omega
    have hih := ih trivial
    rw [take_one hi, List.map_append] at hih
    have e : (⟨(rd_T92 E (i : Int)).f0, (rd_T92 E (i : Int)).f1, (rd_T92 E (i : Int)).f2, (rd_T92 E (i : Int)).f3⟩ : S93) = cv E[i] := by
      unfold rd_T92 cv
      simp only [Int.toNat_natCast, List.getD_eq_getElem?_getD, List.getElem?_eq_getElem hi, Option.getD_some]
    have hl : ((E.take i).map cv).length < 5864062014805 := by rw [List.length_map, List.length_take]; omega
    refine Ev.step (fun k => ?_) hih
    simp only [heraldlaw15_given.l0, wone w1, e]
    rw [if_pos (by omega), if_pos (by omega), if_pos hl]
    rfl

theorem truths_ev (a : List Bool) (ha : a.length ≤ 140737488351232) : Ev (fun k => heraldlaw15_truths.f k a a) true := by
  unfold heraldlaw15_truths.f; simp only [if_true]
  refine ev_loop (fun k i => heraldlaw15_truths.l0 k a a (i : Int)) _ a.length (fun _ => True) trivial (fun _ => ?_) (fun i hi _ ih => ?_)
  · exact Ev.step (fun k => by simp only [heraldlaw15_truths.l0]; rw [if_neg (by omega)]) (Ev.now _)
  · have w1 : i ≤ 140737488351232 := by omega
    refine Ev.step (fun k => ?_) (ih trivial)
    simp only [heraldlaw15_truths.l0, wone w1]
    rw [if_pos (by omega), if_pos (by omega), if_pos (by omega), if_neg (by simp)]

theorem awake_ev : Ev (fun k => heraldlaw15_awake.f k) true := Ev.of (k := 100) heraldlaw15_awake.mono (by decide +kernel)

theorem state_f (A : List Bool) (E : List S93) (x : Int) : heraldref15_state.f A E x = some (decide (isS A x)) := by
  unfold heraldref15_state.f isS
  by_cases h : x ≥ 0
  · rw [if_pos h]
    by_cases c : x < (A.length : Int)
    · have h' : 0 ≤ x := h
      simp [c, h']
    · simp [c]
  · rw [if_neg h]
    have h' : ¬ 0 ≤ x := h
    simp [h']
/-- One edge gone along backwards; all of them; that so many times. -/
def stepB (A : List Bool) (e : S92) (o : List Bool) : List Bool := if isS A e.f0 ∧ isS A e.f3 ∧ T o e.f3 then o.set e.f0.toNat true else o
def roundB (A : List Bool) (E : List S92) : Nat → List Bool → List Bool
  | 0, o => o
  | d + 1, o => roundB A E d (stepB A (ed E (E.length - (d + 1))) o)
def timesB (A : List Bool) (E : List S92) : Nat → List Bool → List Bool
  | 0, o => o
  | d + 1, o => timesB A E d (roundB A E E.length o)
theorem stepB_len (A : List Bool) (e : S92) (o : List Bool) : (stepB A e o).length = o.length := by
  unfold stepB; split <;> simp
theorem roundB_len (A : List Bool) (E : List S92) : ∀ d o, (roundB A E d o).length = o.length
  | 0, _ => rfl
  | d + 1, o => by rw [roundB, roundB_len A E d, stepB_len]
theorem timesB_len (A : List Bool) (E : List S92) : ∀ d o, (timesB A E d o).length = o.length
  | 0, _ => rfl
  | d + 1, o => by rw [timesB, timesB_len A E d, roundB_len]
theorem stepB_T {A : List Bool} {e : S92} {o : List Bool} (hl : o.length = A.length) {s : Int} (hs : 0 ≤ s) : T (stepB A e o) s ↔ T o s ∨ (s = e.f0 ∧ isS A e.f0 ∧ isS A e.f3 ∧ T o e.f3) := by
  unfold stepB
  split
  · rename_i h
    rw [T_set h.1.1 (by rw [hl]; exact h.1.2) hs]
    constructor
    · rintro (e | e)
      · exact Or.inr ⟨e, h⟩
      · exact Or.inl e
    · rintro (e | e)
      · exact Or.inr e
      · exact Or.inl e.1
  · rename_i h
    constructor
    · exact Or.inl
    · rintro (e | e)
      · exact e
      · exact absurd e.2 h
theorem stepB_cnt {A : List Bool} {e : S92} {o : List Bool} (hl : o.length = A.length) : cnt (stepB A e o) ≤ cnt o ∧ (cnt (stepB A e o) = cnt o → stepB A e o = o) := by
  unfold stepB
  split
  · rename_i h
    have h0 := h.1.1
    have h1 := h.1.2
    by_cases c : o.getD e.f0.toNat false = false
    · have := cnt_set o e.f0.toNat (by omega) c
      exact ⟨by omega, fun h => by omega⟩
    · have c' : o.getD e.f0.toNat false = true := by simpa using c
      have hlt : e.f0.toNat < o.length := by omega
      have e2 : o.set e.f0.toNat true = o := by
        apply List.ext_getElem (by simp)
        intro i h1 h2
        rw [List.getElem_set]
        split
        · rename_i h3; subst h3
          rw [List.getD_eq_getElem?_getD, List.getElem?_eq_getElem hlt] at c'
          simpa using c'.symm
        · rfl
      rw [e2]; exact ⟨Nat.le_refl _, fun _ => rfl⟩
  · exact ⟨Nat.le_refl _, fun _ => rfl⟩
theorem roundB_cnt {A : List Bool} {E : List S92} : ∀ (d : Nat) (o : List Bool), o.length = A.length → cnt (roundB A E d o) ≤ cnt o ∧ (cnt (roundB A E d o) = cnt o → roundB A E d o = o ∧ ∀ i, E.length - d ≤ i → i < E.length → stepB A (ed E i) o = o)
  | 0, o, _ => ⟨Nat.le_refl _, fun _ => ⟨rfl, fun i h1 h2 => by omega⟩⟩
  | d + 1, o, hl => by
    obtain ⟨s1, s2⟩ := stepB_cnt (e := ed E (E.length - (d + 1))) hl
    obtain ⟨r1, r2⟩ := roundB_cnt (A := A) (E := E) d (stepB A (ed E (E.length - (d + 1))) o) (by rw [stepB_len]; exact hl)
    simp only [roundB]
    refine ⟨by omega, fun h => ?_⟩
    have e1 := s2 (by omega)
    obtain ⟨e2, e3⟩ := r2 (by omega)
    rw [e1] at e2 e3
    rw [e1]
    refine ⟨e2, fun i h1 h2 => ?_⟩
    by_cases e : i = E.length - (d + 1)
    · subst e; exact e1
    · exact e3 i (by omega) h2
theorem roundB_mono {A : List Bool} {E : List S92} : ∀ (d : Nat) (o : List Bool), o.length = A.length → (∀ s, 0 ≤ s → T o s → T (roundB A E d o) s) ∧ (d ≤ E.length → (∀ s, isS A s → T o s → Live A E s) → ∀ s, isS A s → T (roundB A E d o) s → Live A E s)
  | 0, o, _ => ⟨fun s _ h => h, fun _ h => h⟩
  | d + 1, o, hl => by
    obtain ⟨r1, r2⟩ := roundB_mono (A := A) (E := E) d (stepB A (ed E (E.length - (d + 1))) o) (by rw [stepB_len]; exact hl)
    simp only [roundB]
    refine ⟨fun s hs h => r1 s hs ((stepB_T hl hs).mpr (Or.inl h)), fun hd hL => r2 (by omega) (fun s hs ht => ?_)⟩
    rcases (stepB_T hl hs.1).mp ht with h | ⟨rfl, h0, h3, h⟩
    · exact hL s hs h
    · exact Live.back (by omega) h0 h3 (hL _ h3 h)
theorem timesB_mono {A : List Bool} {E : List S92} : ∀ (d : Nat) (o : List Bool), o.length = A.length → (∀ s, 0 ≤ s → T o s → T (timesB A E d o) s) ∧ ((∀ s, isS A s → T o s → Live A E s) → ∀ s, isS A s → T (timesB A E d o) s → Live A E s)
  | 0, o, _ => ⟨fun s _ h => h, fun h => h⟩
  | d + 1, o, hl => by
    obtain ⟨r1, r2⟩ := roundB_mono (A := A) (E := E) E.length o hl
    obtain ⟨t1, t2⟩ := timesB_mono (A := A) (E := E) d (roundB A E E.length o) (by rw [roundB_len]; exact hl)
    simp only [timesB]
    exact ⟨fun s hs h => t1 s hs (r1 s hs h), fun hL => t2 (r2 (Nat.le_refl _) hL)⟩
theorem timesB_fix {A : List Bool} {E : List S92} {o : List Bool} (h : roundB A E E.length o = o) : ∀ d, timesB A E d o = o
  | 0 => rfl
  | d + 1 => by rw [timesB, h, timesB_fix h d]
theorem timesB_end {A : List Bool} {E : List S92} : ∀ (d : Nat) (o : List Bool), o.length = A.length → (roundB A E E.length (timesB A E d o) = timesB A E d o ∧ ∀ i, i < E.length → stepB A (ed E i) (timesB A E d o) = timesB A E d o) ∨ cnt (timesB A E d o) + d ≤ cnt o
  | 0, o, hl => Or.inr (by simp [timesB])
  | d + 1, o, hl => by
    have hl' : (roundB A E E.length o).length = A.length := by rw [roundB_len]; exact hl
    obtain ⟨r1, r2⟩ := roundB_cnt (A := A) (E := E) E.length o hl
    simp only [timesB]
    by_cases c : cnt (roundB A E E.length o) = cnt o
    · obtain ⟨e1, e2⟩ := r2 c
      rw [e1, timesB_fix e1]
      exact Or.inl ⟨e1, fun i hi => e2 i (by omega) hi⟩
    · rcases timesB_end d (roundB A E E.length o) hl' with h | h
      · exact Or.inl h
      · exact Or.inr (by omega)
theorem cnt_le (o : List Bool) : cnt o ≤ o.length := List.count_le_length
theorem cnt_all {o : List Bool} (h : cnt o = 0) (i : Nat) (hi : i < o.length) : T o (i : Int) := by
  unfold cnt at h
  rw [List.count_eq_zero] at h
  rw [T_nat, List.getD_eq_getElem?_getD, List.getElem?_eq_getElem hi, Option.getD_some]
  cases hc : o[i]
  · exact absurd (hc ▸ List.getElem_mem hi) h
  · rfl
/-- So many rounds as there are states find all that are alive. -/
theorem timesB_live (A : List Bool) (E : List S92) : timesB A E A.length A = liveL A E := by
  obtain ⟨m1, m2⟩ := timesB_mono (A := A) (E := E) A.length A rfl
  have hlen := timesB_len A E A.length A
  refine is_live hlen (m2 (fun s hs ht => Live.acc hs ht)) (fun s hs ht => m1 s hs.1 ht) (fun i hi h0 h3 ht => ?_)
  rcases timesB_end (A := A) (E := E) A.length A rfl with h | h
  · have := (stepB_T (A := A) (e := ed E i) (o := timesB A E A.length A) hlen h0.1).mpr (Or.inr ⟨rfl, h0, h3, ht⟩)
    rwa [h.2 i hi] at this
  · have hc := cnt_le A
    have hz : cnt (timesB A E A.length A) = 0 := by omega
    obtain ⟨n, hn⟩ : ∃ n : Nat, (ed E i).f0 = n := ⟨(ed E i).f0.toNat, by have := h0.1; omega⟩
    rw [hn]
    have h02 := h0.2
    exact cnt_all hz n (by rw [hlen]; omega)

theorem rAlive_l1 (A : List Bool) (E : List S92) (hE : E.length ≤ 5864062014634) (R : List Bool) (x4 : Int) : ∀ (d i : Nat) (o : List Bool), i + d = E.length → o.length = A.length → Ev (fun k => heraldref15_Alive.l0 k (roundB A E d o) (wrap64 (x4 + 1)) A (E.map cv)) R → Ev (fun k => heraldref15_Alive.l1 k o x4 (i : Int) A (E.map cv)) R := by
  intro d
  induction d with
  | zero =>
    intro i o hi hl h
    obtain rfl : i = E.length := by omega
    refine Ev.step (fun k => ?_) h
    simp only [heraldref15_Alive.l1, List.length_map, roundB]; rw [if_neg (by omega)]
  | succ d ih =>
    intro i o hi hl h
    have ei : E.length - (d + 1) = i := by omega
    simp only [roundB, ei] at h
    have hih := ih (i + 1) (stepB A (ed E i) o) (by omega) (by rw [stepB_len]; exact hl) h
    have w1 : i ≤ 140737488351232 := by omega
    refine Ev.step (fun k => ?_) hih
    have g0 : (rd_T93 (E.map cv) (i : Int)).f0 = (ed E i).f0 := by rw [rdc]; rfl
    have g3 : (rd_T93 (E.map cv) (i : Int)).f3 = (ed E i).f3 := by rw [rdc]; rfl
    simp only [heraldref15_Alive.l1, List.length_map, state_f, Option.bind_some, g0, g3, wone w1]
    rw [if_pos (by omega), if_pos (by omega)]
    by_cases c0 : isS A (ed E i).f0
    · by_cases c3 : isS A (ed E i).f3
      · have d0 := c0.1
        have d1 : (ed E i).f0 < (o.length : Int) := by rw [hl]; exact c0.2
        have d3 := c3.1
        have d4 : (ed E i).f3 < (o.length : Int) := by rw [hl]; exact c3.2
        by_cases c4 : T o (ed E i).f3
        · have es : stepB A (ed E i) o = o.set (ed E i).f0.toNat true := by unfold stepB; rw [if_pos ⟨c0, c3, c4⟩]
          have c4' := c4
          unfold T at c4'
          rw [es]
          simp only [c0, c3, decide_true, if_true, d0, d1, d3, d4, c4']
        · have es : stepB A (ed E i) o = o := by unfold stepB; rw [if_neg (fun h => c4 h.2.2)]
          have c4' := c4
          unfold T at c4'
          rw [es]
          simp only [c0, c3, decide_true, if_true, d3, d4]
          rw [if_neg c4']
      · have es : stepB A (ed E i) o = o := by unfold stepB; rw [if_neg (fun h => c3 h.2.1)]
        rw [es]
        simp only [c0, c3, decide_true, if_true, decide_false, Bool.false_eq_true, if_false]
    · have es : stepB A (ed E i) o = o := by unfold stepB; rw [if_neg (fun h => c0 h.1)]
      rw [es]
      simp only [c0, decide_false, Bool.false_eq_true, if_false]
theorem rAlive_f (A : List Bool) (E : List S92) (hA : A.length ≤ 140737488351232) (hE : E.length ≤ 5864062014634) : Ev (fun k => heraldref15_Alive.f k A (E.map cv)) (liveL A E) := by
  unfold heraldref15_Alive.f
  simp only [Option.bind_some, List.length_nil, Nat.zero_add, List.nil_append, show A.length < 140737488355328 by omega, if_true]
  rw [← timesB_live]
  have key : ∀ (d i : Nat) (o : List Bool), i + d = A.length → o.length = A.length → Ev (fun k => heraldref15_Alive.l0 k o (i : Int) A (E.map cv)) (timesB A E d o) := by
    intro d
    induction d with
    | zero =>
      intro i o hi hl
      refine Ev.step (f := fun _ => some o) (fun k => ?_) (Ev.now _)
      simp only [heraldref15_Alive.l0]; rw [if_neg (by omega)]
    | succ d ih =>
      intro i o hi hl
      have w1 : i ≤ 140737488351232 := by omega
      refine Ev.step (f := fun k => heraldref15_Alive.l1 k o (i : Int) 0 A (E.map cv)) (fun k => ?_) ?_
      · simp only [heraldref15_Alive.l0]; rw [if_pos (by omega)]
      · refine rAlive_l1 A E hE _ (i : Int) E.length 0 o (by omega) hl ?_
        rw [wone w1]
        exact ih (i + 1) (roundB A E E.length o) (by omega) (by rw [roundB_len]; exact hl)
  exact key A.length 0 A (by omega) rfl

theorem edge_f (A : List Bool) (E : List S92) (hE : E.length ≤ 1024) (i : Nat) (hi : i < E.length) : Ev (fun k => heraldref15_edge.f k A (E.map cv) (i : Int)) (decide (okE A E i)) := by
  have g0 : (rd_T93 (E.map cv) (i : Int)).f0 = (ed E i).f0 := by rw [rdc]; rfl
  have g1 : (rd_T93 (E.map cv) (i : Int)).f1 = (ed E i).f1 := by rw [rdc]; rfl
  have g2 : (rd_T93 (E.map cv) (i : Int)).f2 = (ed E i).f2 := by rw [rdc]; rfl
  have g3 : (rd_T93 (E.map cv) (i : Int)).f3 = (ed E i).f3 := by rw [rdc]; rfl
  unfold heraldref15_edge.f
  simp only [show (0 : Int) ≤ (i : Int) by omega, List.length_map, show (i : Int) < (E.length : Int) by omega, if_true, state_f, Option.bind_some, g0, g1, g2, g3]
  have no : ∀ a b c e, Ev (fun k => heraldref15_edge.j0 k (i : Int) true A (E.map cv) a b c e) false := fun a b c e => Ev.step (fun k => by simp only [heraldref15_edge.j0, if_true]) (Ev.now _)
  by_cases c0 : isS A (ed E i).f0
  · simp only [c0, decide_true, if_true]
    by_cases c3 : isS A (ed E i).f3
    · simp only [c3, decide_true, if_true]
      by_cases c1 : (ed E i).f1 > (ed E i).f2
      · have hno : ¬ okE A E i := fun h => by have := h.2.2.1; omega
        rw [decide_eq_false hno]; simp only [c1, decide_true]; exact no _ _ _ _
      · simp only [c1, decide_false]
        refine ev_succ ?_
        simp only [heraldref15_edge.j0, Bool.false_eq_true, if_false]
        refine ev_loop (fun k j => heraldref15_edge.l0 k (i : Int) (j : Int) A (E.map cv) (ed E i).f0 (ed E i).f1 (ed E i).f2 (ed E i).f3) _ i (fun j => ∀ q : Nat, q < j → ¬ ((ed E q).f0 = (ed E i).f0 ∧ (ed E q).f1 ≤ (ed E i).f2 ∧ (ed E i).f1 ≤ (ed E q).f2)) (fun q hq => by omega) (fun hp => ?_) (fun j hj hp ih2 => ?_)
        · have hok : okE A E i := ⟨c0, c3, by omega, hp⟩
          rw [decide_eq_true hok]
          refine Ev.step (f := fun _ => some true) (fun k => ?_) (Ev.now _)
          simp only [heraldref15_edge.l0]; rw [if_neg (by omega)]
        · have w2 : j ≤ 140737488351232 := by omega
          have h0 : (rd_T93 (E.map cv) (j : Int)).f0 = (ed E j).f0 := by rw [rdc]; rfl
          have h1 : (rd_T93 (E.map cv) (j : Int)).f1 = (ed E j).f1 := by rw [rdc]; rfl
          have h2 : (rd_T93 (E.map cv) (j : Int)).f2 = (ed E j).f2 := by rw [rdc]; rfl
          by_cases cb : (ed E j).f0 = (ed E i).f0 ∧ (ed E j).f1 ≤ (ed E i).f2 ∧ (ed E i).f1 ≤ (ed E j).f2
          · have hno : ¬ okE A E i := fun h => h.2.2.2 j hj cb
            rw [decide_eq_false hno]
            refine Ev.step (f := fun _ => some false) (fun k => ?_) (Ev.now _)
            simp only [heraldref15_edge.l0, h0, h1, h2, List.length_map]
            rw [if_pos (by omega), if_pos (by omega), if_pos (by omega), if_pos cb.1, if_pos cb.2.1, if_pos cb.2.2]
          · refine Ev.step (fun k => ?_) (ih2 (fun q hq => by
              by_cases e : q = j
              · subst e; exact cb
              · exact hp q (by omega)))
            simp only [heraldref15_edge.l0, h0, h1, h2, List.length_map, wone w2]
            rw [if_pos (by omega), if_pos (by omega), if_pos (by omega)]
            by_cases d1 : (ed E j).f0 = (ed E i).f0
            · rw [if_pos d1]
              by_cases d2 : (ed E j).f1 ≤ (ed E i).f2
              · rw [if_pos d2, if_neg (fun d3 => cb ⟨d1, d2, d3⟩)]
              · rw [if_neg d2]
            · rw [if_neg d1]
    · have hno : ¬ okE A E i := fun h => c3 h.2.1
      rw [decide_eq_false hno]; simp only [c3, decide_false, Bool.false_eq_true, if_false]; exact no _ _ _ _
  · have hno : ¬ okE A E i := fun h => c0 h.1
    rw [decide_eq_false hno]; simp only [c0, decide_false, Bool.false_eq_true, if_false]; exact no _ _ _ _
theorem rCheck_f (A : List Bool) (E : List S92) : Ev (fun k => heraldref15_Check.f k A (E.map cv)) (checkS A E) := by
  unfold heraldref15_Check.f checkS
  simp only [List.length_map]
  by_cases h1 : A.length > 64
  · rw [if_pos h1]; simp only [show (A.length : Int) > 64 by omega, if_true]; exact Ev.now _
  · rw [if_neg h1]; simp only [show ¬ (A.length : Int) > 64 by omega, if_false]
    by_cases h2 : E.length > 1024
    · rw [if_pos h2]; simp only [show (E.length : Int) > 1024 by omega, if_true]; exact Ev.now _
    · rw [if_neg h2]; simp only [show ¬ (E.length : Int) > 1024 by omega, if_false]
      have key : ∀ (d i : Nat), i + d = E.length → Ev (fun k => heraldref15_Check.l0 k (i : Int) A (E.map cv)) (edgesS A E d) := by
        intro d
        induction d with
        | zero =>
          intro i hi
          simp only [edgesS]
          by_cases hn : A.length > 0
          · refine Ev.step (f := fun k => (heraldref15_Alive.f k A (E.map cv)).bind fun t => (if 0 < (t.length : Int) then (if rdOf false t 0 = true then (some ((0 : Int), (0 : Int))) else (some (0, 152))) else (none))) (fun k => ?_) ?_
            · simp only [heraldref15_Check.l0, List.length_map]; rw [if_neg (by omega), if_pos (by omega)]
            · refine Ev.bind (rAlive_f A E (by omega) (by omega)) ?_
              rw [liveL_len, if_pos (by omega)]
              have hT := liveL_T (A := A) (E := E) (s := 0) ⟨by omega, by omega⟩
              by_cases hL : Live A E 0
              · have ht : rdOf false (liveL A E) 0 = true := hT.mpr hL
                rw [if_pos ht, if_neg (by simp [hL])]; exact Ev.now _
              · have ht : ¬ rdOf false (liveL A E) 0 = true := fun h => hL (hT.mp h)
                rw [if_neg ht, if_pos ⟨hn, hL⟩]; exact Ev.now _
          · refine Ev.step (f := fun _ => some (0, 0)) (fun k => ?_) (by rw [if_neg (by omega)]; exact Ev.now _)
            simp only [heraldref15_Check.l0, List.length_map]; rw [if_neg (by omega), if_neg (by omega)]
        | succ d ih =>
          intro i hi
          have ei : E.length - (d + 1) = i := by omega
          simp only [edgesS, ei]
          have w1 : i ≤ 140737488351232 := by omega
          refine Ev.step (f := fun k => (heraldref15_edge.f k A (E.map cv) (i : Int)).bind fun t => if t = true then heraldref15_Check.l0 k ((i + 1 : Nat) : Int) A (E.map cv) else some ((i : Int), 151)) (fun k => ?_) ?_
          · simp only [heraldref15_Check.l0, List.length_map, wone w1]
            rw [if_pos (by omega)]
          · refine Ev.bind (edge_f A E (by omega) i (by omega)) ?_
            by_cases hk : okE A E i
            · rw [decide_eq_true hk, if_pos hk]; simp only [if_true]; exact ih (i + 1) (by omega)
            · rw [decide_eq_false hk, if_neg hk]; simp only [Bool.false_eq_true, if_false]; exact Ev.now _
      exact key E.length 0 (by omega)

/-! ### where a text leads -/
def fits (e : S92) (s x : Int) : Prop := e.f0 = s ∧ e.f1 ≤ x ∧ x ≤ e.f2
instance (e : S92) (s x : Int) : Decidable (fits e s x) := by unfold fits; exact inferInstance
/-- The state behind a byte: along the first edge that fits, of those from place E.length - d on; -1: none does. -/
def nextS (E : List S92) (s x : Int) : Nat → Int
  | 0 => -1
  | d + 1 => if fits (ed E (E.length - (d + 1))) s x then (ed E (E.length - (d + 1))).f3 else nextS E s x d
def walkGo (E : List S92) (t : ByteArray) (s : Int) : Nat → Int
  | 0 => s
  | d + 1 => if nextS E s (bt t ((t.size - (d + 1) : Nat) : Int)) E.length < 0 then -1 else walkGo E t (nextS E s (bt t ((t.size - (d + 1) : Nat) : Int)) E.length) d
noncomputable def walkS (A : List Bool) (E : List S92) (s : Int) (t : ByteArray) : Int := if A.length = 0 then (if s = 0 then 0 else -1) else if isS A s then walkGo E t s t.size else -1
noncomputable def WalkS (A : List Bool) (E : List S92) (s : Int) (t : ByteArray) : Int := if (checkS A E).2 = 0 then walkS A E s t else -1
theorem nextS_in {A : List Bool} {E : List S92} (h : ∀ i, i < E.length → okE A E i) (s x : Int) : ∀ d, d ≤ E.length → nextS E s x d = -1 ∨ isS A (nextS E s x d)
  | 0, _ => Or.inl rfl
  | d + 1, hd => by
    simp only [nextS]
    split
    · exact Or.inr (h _ (by omega)).2.1
    · exact nextS_in h s x d (by omega)
theorem walkGo_in {A : List Bool} {E : List S92} (h : ∀ i, i < E.length → okE A E i) (t : ByteArray) : ∀ (d : Nat) (s : Int), isS A s → walkGo E t s d = -1 ∨ isS A (walkGo E t s d)
  | 0, s, hs => Or.inr hs
  | d + 1, s, hs => by
    simp only [walkGo]
    split
    · exact Or.inl rfl
    · rename_i hn
      rcases nextS_in h s (bt t ((t.size - (d + 1) : Nat) : Int)) E.length (Nat.le_refl _) with e | e
      · rw [e] at hn; omega
      · exact walkGo_in h t d _ e

theorem walk_l1 (A : List Bool) (E : List S92) (hE : E.length ≤ 1024) (hG : ∀ i, i < E.length → okE A E i) (t : ByteArray) (ht : t.size ≤ 4611686018427387904) (x22 : Nat) (hx : x22 < t.size) (s R : Int) (h : nextS E s (bt t (x22 : Int)) E.length < 0 → R = -1) (h2 : ¬ nextS E s (bt t (x22 : Int)) E.length < 0 → Ev (fun k => guide_walk.l0 k (nextS E s (bt t (x22 : Int)) E.length) t t.size ((x22 + 1 : Nat) : Int) A E) R) : Ev (fun k => guide_walk.l1 k s t (x22 : Int) t.size (x22 : Int) E E.length 0 A E) R := by
  have w0 : wrap64 ((x22 : Int) + 1) = ((x22 + 1 : Nat) : Int) := by rw [wrap64_id' (by omega) (by omega)]; omega
  have x0 : (0 : Int) ≤ (x22 : Int) := by omega
  have x1 : (x22 : Int) < (t.size : Int) := by omega
  have key : ∀ (d i : Nat), i + d = E.length → nextS E s (bt t (x22 : Int)) E.length = nextS E s (bt t (x22 : Int)) d → Ev (fun k => guide_walk.l1 k s t (x22 : Int) t.size (x22 : Int) E E.length (i : Int) A E) R := by
    clear w0
    intro d
    induction d with
    | zero =>
      intro i hi hn
      have hR := h (by rw [hn]; simp [nextS])
      subst hR
      refine Ev.step (f := fun _ => some (-1)) (fun k => ?_) (Ev.now _)
      simp only [guide_walk.l1]; rw [if_neg (by omega)]
    | succ d ih =>
      intro i hi hn
      have ei : E.length - (d + 1) = i := by omega
      have w1 : i ≤ 140737488351232 := by omega
      have w3 : x22 + 1 ≤ 4611686018427387904 := by omega
      have w2 : wrap64 ((x22 : Int) + 1) = ((x22 + 1 : Nat) : Int) := by clear ih; rw [wrap64_id' (by omega) (by omega)]; omega
      have p1 : (i : Int) < (E.length : Int) := by clear w2; omega
      have p2 : (0 : Int) ≤ (i : Int) := by clear w2; omega
      simp only [nextS, ei] at hn
      by_cases cf : fits (ed E i) s (bt t (x22 : Int))
      · rw [if_pos cf] at hn
        obtain ⟨f1, f2, f3⟩ := cf
        have hs := (hG i (by clear w2; omega)).2.1
        have hlt : ¬ nextS E s (bt t (x22 : Int)) E.length < 0 := by rw [hn]; have := hs.1; clear w2; omega
        have hgo := h2 hlt
        rw [hn] at hgo
        refine Ev.step (fun k => ?_) hgo
        simp only [guide_walk.l1, w2]
        unfold ed at f1 f2 f3 ⊢
        rw [if_pos p1, if_pos p2, if_pos p1, if_pos f1, if_pos x0, if_pos x1, if_pos f2, if_pos f3]
      · rw [if_neg cf] at hn
        refine Ev.step (fun k => ?_) (ih (i + 1) (by clear w2; omega) hn)
        simp only [guide_walk.l1, wone w1]
        unfold fits ed at cf
        rw [if_pos p1, if_pos p2, if_pos p1]
        by_cases d1 : (rd_T92 E (i : Int)).f0 = s
        · rw [if_pos d1, if_pos x0, if_pos x1]
          by_cases d2 : (rd_T92 E (i : Int)).f1 ≤ bt t (x22 : Int)
          · rw [if_pos d2, if_neg (fun d3 => cf ⟨d1, d2, d3⟩)]
          · rw [if_neg d2]
        · rw [if_neg d1]
  exact key E.length 0 (by omega) rfl
theorem walk_f (A : List Bool) (E : List S92) (hE : E.length ≤ 1024) (hG : ∀ i, i < E.length → okE A E i) (s : Int) (t : ByteArray) (ht : t.size ≤ 4611686018427387904) : Ev (fun k => guide_walk.f k A E s t) (walkS A E s t) := by
  unfold guide_walk.f walkS
  by_cases hn : A.length = 0
  · rw [if_pos hn]; simp only [show (A.length : Int) = 0 by omega, if_true]
    split
    · exact Ev.now _
    · exact Ev.now _
  · rw [if_neg hn]; simp only [show ¬ (A.length : Int) = 0 by omega, if_false, isState_f, Option.bind_some]
    by_cases hs : isS A s
    · rw [if_pos hs]; simp only [hs, decide_true, if_true]
      have key : ∀ (d i : Nat) (s : Int), i + d = t.size → Ev (fun k => guide_walk.l0 k s t t.size (i : Int) A E) (walkGo E t s d) := by
        intro d
        induction d with
        | zero =>
          intro i s hi
          refine Ev.step (f := fun _ => some s) (fun k => ?_) (Ev.now _)
          simp only [guide_walk.l0]; rw [if_neg (by omega)]
        | succ d ih =>
          intro i s hi
          have ei : t.size - (d + 1) = i := by omega
          simp only [walkGo, ei]
          refine Ev.step (f := fun k => guide_walk.l1 k s t (i : Int) t.size (i : Int) E E.length 0 A E) (fun k => ?_) ?_
          · simp only [guide_walk.l0]; rw [if_pos (by omega)]
          · refine walk_l1 A E hE hG t ht i (by omega) s _ (fun h => by rw [if_pos h]) (fun h => ?_)
            rw [if_neg h]; exact ih (i + 1) _ (by omega)
      exact key t.size 0 s (by omega)
    · rw [if_neg hs]; simp only [hs, decide_false, Bool.false_eq_true, if_false]; exact Ev.now _

/-- Of edges that may be, no two fit one byte. -/
theorem fits_one {A : List Bool} {E : List S92} (h : ∀ i, i < E.length → okE A E i) {i j : Nat} (hj : j < E.length) (hij : i < j) {s x : Int} (h1 : fits (ed E i) s x) (h2 : fits (ed E j) s x) : False := by
  unfold fits at h1 h2
  exact (h j hj).2.2.2 i hij ⟨by omega, by omega, by omega⟩
theorem rWalk_l1 (A : List Bool) (E : List S92) (hE : E.length ≤ 1024) (hG : ∀ i, i < E.length → okE A E i) (t : ByteArray) (ht : t.size ≤ 4611686018427387904) (x22 : Nat) (hx : x22 < t.size) (s R : Int) (h : nextS E s (bt t (x22 : Int)) E.length < 0 → R = -1) (h2 : ¬ nextS E s (bt t (x22 : Int)) E.length < 0 → Ev (fun k => heraldref15_Walk.l0 k (nextS E s (bt t (x22 : Int)) E.length) t ((x22 + 1 : Nat) : Int) A (E.map cv)) R) : Ev (fun k => heraldref15_Walk.l1 k s t (x22 : Int) (-1) 0 A (E.map cv)) R := by
  have x0 : (0 : Int) ≤ (x22 : Int) := by omega
  have x1 : (x22 : Int) < (t.size : Int) := by omega
  have w2 : wrap64 ((x22 : Int) + 1) = ((x22 + 1 : Nat) : Int) := by rw [wrap64_id' (by omega) (by omega)]; omega
  generalize hX : bt t (x22 : Int) = X at *
  have key : ∀ (d i : Nat) (to_ : Int), i + d = E.length → (to_ = -1 ∧ (∀ j, j < i → ¬ fits (ed E j) s X) ∧ nextS E s X E.length = nextS E s X d ∨ (∃ j, j < i ∧ fits (ed E j) s X) ∧ to_ = nextS E s X E.length ∧ isS A to_) → Ev (fun k => heraldref15_Walk.l1 k s t (x22 : Int) to_ (i : Int) A (E.map cv)) R := by
    intro d
    induction d with
    | zero =>
      intro i to_ hi hn
      have p1 : ¬ (i : Int) < (E.length : Int) := by clear w2; omega
      rcases hn with ⟨e1, e2, e3⟩ | ⟨e1, e2, e3⟩
      · have hR := h (by rw [e3]; simp [nextS])
        subst hR; subst e1
        refine Ev.step (f := fun _ => some (-1)) (fun k => ?_) (Ev.now _)
        simp only [heraldref15_Walk.l1, List.length_map, p1, if_false]
        rw [if_pos (by decide)]
      · have hlt : ¬ nextS E s X E.length < 0 := by rw [← e2]; have := e3.1; clear w2; omega
        have hgo := h2 hlt
        rw [← e2] at hgo hlt
        refine Ev.step (fun k => ?_) hgo
        simp only [heraldref15_Walk.l1, List.length_map, p1, if_false, w2, hlt]
    | succ d ih =>
      intro i to_ hi hn
      have hil : i < E.length := by clear w2; omega
      have ei : E.length - (d + 1) = i := by clear w2; omega
      have w1 : i ≤ 140737488351232 := by clear w2; omega
      have p1 : (i : Int) < (E.length : Int) := by clear w2; omega
      have p2 : (0 : Int) ≤ (i : Int) := by clear w2; omega
      have g0 : (rd_T93 (E.map cv) (i : Int)).f0 = (ed E i).f0 := by rw [rdc]; rfl
      have g1 : (rd_T93 (E.map cv) (i : Int)).f1 = (ed E i).f1 := by rw [rdc]; rfl
      have g2 : (rd_T93 (E.map cv) (i : Int)).f2 = (ed E i).f2 := by rw [rdc]; rfl
      have g3 : (rd_T93 (E.map cv) (i : Int)).f3 = (ed E i).f3 := by rw [rdc]; rfl
      by_cases cf : fits (ed E i) s X
      · have hnew : (∃ j, j < i + 1 ∧ fits (ed E j) s X) ∧ (ed E i).f3 = nextS E s X E.length ∧ isS A (ed E i).f3 := by
          refine ⟨⟨i, by clear w2; omega, cf⟩, ?_, (hG i hil).2.1⟩
          rcases hn with ⟨_, e2, e3⟩ | ⟨⟨j, e1, e2⟩, _⟩
          · rw [e3]; simp only [nextS, ei]; rw [if_pos cf]
          · exact (fits_one hG hil e1 e2 cf).elim
        refine Ev.step (fun k => ?_) (ih (i + 1) _ (by clear w2; omega) (Or.inr hnew))
        obtain ⟨f1, f2, f3⟩ := cf
        simp only [heraldref15_Walk.l1, List.length_map, g0, g1, g2, g3, hX, wone w1]
        rw [if_pos p1, if_pos p2, if_pos f1, if_pos x0, if_pos x1, if_pos f2, if_pos f3]
      · have hold : to_ = -1 ∧ (∀ j, j < i + 1 → ¬ fits (ed E j) s X) ∧ nextS E s X E.length = nextS E s X d ∨ (∃ j, j < i + 1 ∧ fits (ed E j) s X) ∧ to_ = nextS E s X E.length ∧ isS A to_ := by
          rcases hn with ⟨e1, e2, e3⟩ | ⟨⟨j, e0, e1⟩, e2, e3⟩
          · refine Or.inl ⟨e1, fun j hj => ?_, ?_⟩
            · by_cases e : j = i
              · subst e; exact cf
              · exact e2 j (by clear w2; omega)
            · rw [e3]; simp only [nextS, ei]; rw [if_neg cf]
          · exact Or.inr ⟨⟨j, by clear w2; omega, e1⟩, e2, e3⟩
        refine Ev.step (fun k => ?_) (ih (i + 1) to_ (by clear w2; omega) hold)
        unfold fits at cf
        simp only [heraldref15_Walk.l1, List.length_map, g0, g1, g2, hX, wone w1]
        rw [if_pos p1, if_pos p2]
        by_cases d1 : (ed E i).f0 = s
        · rw [if_pos d1, if_pos x0, if_pos x1]
          by_cases d2 : (ed E i).f1 ≤ X
          · rw [if_pos d2, if_neg (fun d3 => cf ⟨d1, d2, d3⟩)]
          · rw [if_neg d2]
        · rw [if_neg d1]
  exact key E.length 0 (-1) (by clear w2; omega) (Or.inl ⟨rfl, fun j hj => by clear w2; omega, rfl⟩)
theorem rWalk_f (A : List Bool) (E : List S92) (s : Int) (t : ByteArray) (ht : t.size ≤ 4611686018427387904) : Ev (fun k => heraldref15_Walk.f k A (E.map cv) s t) (WalkS A E s t) := by
  unfold heraldref15_Walk.f WalkS
  refine Ev.bind (rCheck_f A E) ?_
  by_cases h : (checkS A E).2 = 0
  · obtain ⟨h1, h2, h3⟩ := checkS_ok h
    simp only [h, if_true]
    unfold walkS
    by_cases hn : A.length = 0
    · rw [if_pos hn]; simp only [show (A.length : Int) = 0 by omega, if_true]
      split
      · exact Ev.now _
      · exact Ev.now _
    · rw [if_neg hn]; simp only [show ¬ (A.length : Int) = 0 by omega, if_false, state_f, Option.bind_some]
      by_cases hs : isS A s
      · rw [if_pos hs]; simp only [hs, decide_true, if_true]
        have key : ∀ (d i : Nat) (s : Int), i + d = t.size → Ev (fun k => heraldref15_Walk.l0 k s t (i : Int) A (E.map cv)) (walkGo E t s d) := by
          intro d
          induction d with
          | zero =>
            intro i s hi
            refine Ev.step (f := fun _ => some s) (fun k => ?_) (Ev.now _)
            simp only [heraldref15_Walk.l0]; rw [if_neg (by omega)]
          | succ d ih =>
            intro i s hi
            have ei : t.size - (d + 1) = i := by omega
            simp only [walkGo, ei]
            refine Ev.step (f := fun k => heraldref15_Walk.l1 k s t (i : Int) (-1) 0 A (E.map cv)) (fun k => ?_) ?_
            · simp only [heraldref15_Walk.l0]; rw [if_pos (by omega)]
            · refine rWalk_l1 A E h2 h3 t ht i (by omega) s _ (fun h => by rw [if_pos h]) (fun h => ?_)
              rw [if_neg h]; exact ih (i + 1) _ (by omega)
        exact key t.size 0 s (by omega)
      · rw [if_neg hs]; simp only [hs, decide_false, Bool.false_eq_true, if_false]; exact Ev.now _
  · simp only [h, if_false]; exact Ev.now _

noncomputable def acceptsS (A : List Bool) (E : List S92) (t : ByteArray) : Bool := if (checkS A E).2 = 0 then (if A.length = 0 then true else if walkS A E 0 t ≥ 0 then rdOf false A (walkS A E 0 t) else false) else false
theorem walkS_lt {A : List Bool} {E : List S92} (h : ∀ i, i < E.length → okE A E i) (hn : A.length ≠ 0) (s : Int) (t : ByteArray) : walkS A E s t = -1 ∨ isS A (walkS A E s t) := by
  unfold walkS
  rw [if_neg hn]
  split
  · rename_i hs; exact walkGo_in h t _ s hs
  · exact Or.inl rfl
/-! ### what may be wrong with a vocabulary -/
theorem ba_toList {a c : ByteArray} : a.toList = c.toList ↔ a.data = c.data := by
  rw [ByteArray.toList_eq, ByteArray.toList_eq]
  exact ⟨fun h => Array.toList_inj.1 h, fun h => by rw [h]⟩
def tx (T : List ByteArray) (i : Nat) : ByteArray := rdOf ByteArray.empty T (i : Int)
def mg (M : List S99) (i : Nat) : S99 := rd_T99 M (i : Int)
def Sz (T : List ByteArray) : Prop := ∀ s ∈ T, s.size ≤ 140737488351232
def Wf (M : List S99) : Prop := ∀ m ∈ M, (Lit.int .i64 m.f0).wf = true ∧ (Lit.int .i64 m.f1).wf = true
theorem rdOf_size {T : List ByteArray} {n : Nat} (h : ∀ s ∈ T, s.size ≤ n) (i : Int) : (rdOf ByteArray.empty T i).size ≤ n := by
  unfold rdOf
  rw [List.getD_eq_getElem?_getD]
  by_cases c : i.toNat < T.length
  · rw [List.getElem?_eq_getElem c]; exact h _ (List.getElem_mem c)
  · rw [List.getElem?_eq_none (by omega)]; exact Nat.zero_le _
theorem mg_mem {M : List S99} {i : Nat} (h : i < M.length) : mg M i ∈ M := by
  unfold mg rd_T99
  rw [Int.toNat_natCast, List.getD_eq_getElem?_getD, List.getElem?_eq_getElem h]
  exact List.getElem_mem h
def tok (T : List ByteArray) (x : Int) : Prop := x > 0 ∧ x < (T.length : Int)
instance (T : List ByteArray) (x : Int) : Decidable (tok T x) := by unfold tok; infer_instance
def okT (T : List ByteArray) (i : Nat) : Prop := (∀ j : Nat, j < i → (tx T j).data ≠ (tx T i).data) ∧ (((tx T i).toList == ([] : List UInt8)) == ((i : Int) == 0)) = true ∧ ((tx T i).size : Int) ≤ 64
def okM (T : List ByteArray) (M : List S99) (i : Nat) : Prop := tok T (mg M i).f0 ∧ tok T (mg M i).f1 ∧ tok T (mg M i).f2 ∧ (rdOf ByteArray.empty T (mg M i).f2).toList = (rdOf ByteArray.empty T (mg M i).f0 ++ rdOf ByteArray.empty T (mg M i).f1).toList ∧ ∀ j : Nat, j < i → ¬ ((mg M j).f0 = (mg M i).f0 ∧ (mg M j).f1 = (mg M i).f1)
noncomputable instance (T : List ByteArray) (i : Nat) : Decidable (okT T i) := Classical.propDecidable _
noncomputable instance (T : List ByteArray) (M : List S99) (i : Nat) : Decidable (okM T M i) := Classical.propDecidable _
noncomputable def mergesS (T : List ByteArray) (M : List S99) : Nat → Int × Int
  | 0 => (0, 0)
  | d + 1 => if okM T M (M.length - (d + 1)) then mergesS T M d else (((M.length - (d + 1) : Nat) : Int), 131)
noncomputable def textsS (T : List ByteArray) (M : List S99) : Nat → Int × Int
  | 0 => if (T.length : Int) < 2 then ((T.length : Int), 130) else if (M.length : Int) > 1024 then (1024, 131) else mergesS T M M.length
  | d + 1 => if okT T (T.length - (d + 1)) then textsS T M d else (((T.length - (d + 1) : Nat) : Int), 130)
noncomputable def vcheckS (T : List ByteArray) (M : List S99) : Int × Int := if (T.length : Int) > 512 then (512, 130) else textsS T M T.length
theorem textsS_ok {T : List ByteArray} {M : List S99} : ∀ (d : Nat), d ≤ T.length → (textsS T M d).2 = 0 → (∀ i, T.length - d ≤ i → i < T.length → okT T i) ∧ 2 ≤ T.length
  | 0, _, h => by
    simp only [textsS] at h
    split at h
    · simp at h
    · exact ⟨fun i h1 h2 => by omega, by omega⟩
  | d + 1, hd, h => by
    simp only [textsS] at h
    split at h
    · rename_i hk
      obtain ⟨h1, h2⟩ := textsS_ok d (by omega) h
      refine ⟨fun i hi1 hi2 => ?_, h2⟩
      by_cases e : i = T.length - (d + 1)
      · subst e; exact hk
      · exact h1 i (by omega) hi2
    · simp at h
theorem vcheckS_ok {T : List ByteArray} {M : List S99} (h : (vcheckS T M).2 = 0) : T.length ≤ 512 ∧ 2 ≤ T.length ∧ ∀ i, i < T.length → okT T i := by
  unfold vcheckS at h
  split at h
  · simp at h
  · obtain ⟨h1, h2⟩ := textsS_ok T.length (Nat.le_refl _) h
    exact ⟨by omega, h2, fun i hi => h1 i (by omega) hi⟩
theorem okT_size {T : List ByteArray} (h : ∀ i, i < T.length → okT T i) : ∀ s ∈ T, s.size ≤ 64 := by
  intro s hs
  obtain ⟨i, hi, rfl⟩ := List.mem_iff_getElem.1 hs
  have h2 := (h i hi).2.2
  unfold tx rdOf at h2
  rw [Int.toNat_natCast, List.getD_eq_getElem?_getD, List.getElem?_eq_getElem hi, Option.getD_some] at h2
  omega
theorem seenText_f {T : List ByteArray} (hT : Sz T) {i : Nat} (hi : i < T.length) : vocab_SeenText.f T (i : Int) = some (decide (∃ j : Nat, j < i ∧ (tx T j).data = (tx T i).data)) := by
  unfold vocab_SeenText.f
  rw [if_pos (by have := rdOf_size hT (i : Int); omega)]
  congr 1
  rw [decide_eq_decide, List.mem_map, Int.toNat_natCast]
  constructor
  · rintro ⟨s, hs, e⟩
    obtain ⟨j, hj, rfl⟩ := List.mem_iff_getElem.1 hs
    rw [List.length_take] at hj
    refine ⟨j, by omega, ?_⟩
    unfold tx
    rw [← e, List.getElem_take]
    unfold rdOf
    rw [Int.toNat_natCast, List.getD_eq_getElem?_getD, List.getElem?_eq_getElem (by omega), Option.getD_some]
  · rintro ⟨j, hj, e⟩
    refine ⟨T[j]'(by omega), ?_, ?_⟩
    · rw [List.mem_iff_getElem]
      exact ⟨j, by rw [List.length_take]; omega, by rw [List.getElem_take]⟩
    · unfold tx at e
      rw [← e]
      unfold rdOf
      rw [Int.toNat_natCast, List.getD_eq_getElem?_getD, List.getElem?_eq_getElem (by omega), Option.getD_some]
theorem seenMerge_f {M : List S99} (hM : Wf M) {i : Nat} (hi : i < M.length) : vocab_SeenMerge.f M (i : Int) = some (decide (∃ j : Nat, j < i ∧ (mg M j).f0 = (mg M i).f0 ∧ (mg M j).f1 = (mg M i).f1)) := by
  unfold vocab_SeenMerge.f
  have hw := hM _ (mg_mem hi)
  unfold mg at hw
  rw [if_pos hw]
  congr 1
  rw [decide_eq_decide, List.mem_map, Int.toNat_natCast]
  constructor
  · rintro ⟨s, hs, e⟩
    obtain ⟨j, hj, rfl⟩ := List.mem_iff_getElem.1 hs
    rw [List.length_take] at hj
    have e2 : mg M j = (M.take i)[j]'(by rw [List.length_take]; omega) := by
      unfold mg rd_T99
      rw [Int.toNat_natCast, List.getD_eq_getElem?_getD, List.getElem?_eq_getElem (by omega), Option.getD_some, List.getElem_take]
    exact ⟨j, by omega, by rw [e2]; exact congrArg Prod.fst e, by rw [e2]; exact congrArg Prod.snd e⟩
  · rintro ⟨j, hj, e1, e2⟩
    refine ⟨mg M j, ?_, ?_⟩
    · rw [List.mem_iff_getElem]
      refine ⟨j, by rw [List.length_take]; omega, ?_⟩
      unfold mg rd_T99
      rw [Int.toNat_natCast, List.getD_eq_getElem?_getD, List.getElem?_eq_getElem (by omega), Option.getD_some, List.getElem_take]
    · exact Prod.ext e1 e2

theorem says_f (T : List ByteArray) (M : List S99) (x : Int) : vocab_says.f T M x = some (decide (tok T x)) := by
  unfold vocab_says.f tok
  by_cases h : x > 0
  · rw [if_pos h]; simp [h]
  · rw [if_neg h]; simp [h]
theorem vocab_f (T : List ByteArray) (M : List S99) (hT : Sz T) (hM : Wf M) : Ev (fun k => vocab_Check.f k T M) (vcheckS T M) := by
  unfold vocab_Check.f vcheckS
  by_cases h1 : (T.length : Int) > 512
  · rw [if_pos h1]; simp only [h1, if_true]; exact Ev.now _
  rw [if_neg h1]; simp only [h1, if_false]
  have key2 : (M.length : Int) ≤ 1024 → (∀ i, i < T.length → okT T i) → ∀ (d i : Nat), i + d = M.length → Ev (fun k => vocab_Check.l1 k M (M.length : Int) (i : Int) T M) (mergesS T M d) := by
    intro hm hok d
    have hsz := okT_size hok
    induction d with
    | zero =>
      intro i hi
      refine Ev.step (f := fun _ => some (0, 0)) (fun k => ?_) (Ev.now _)
      simp only [vocab_Check.l1]; rw [if_neg (by omega)]
    | succ d ih =>
      intro i hi
      have ei : M.length - (d + 1) = i := by omega
      simp only [mergesS, ei]
      have w1 : i ≤ 140737488351232 := by omega
      have hiM : i < M.length := by omega
      by_cases hk : okM T M i
      · rw [if_pos hk]
        refine Ev.step (fun k => ?_) (ih (i + 1) (by omega))
        obtain ⟨k0, k1, k2, k3, k4⟩ := hk
        have hns : ¬ (∃ j : Nat, j < i ∧ (mg M j).f0 = (mg M i).f0 ∧ (mg M j).f1 = (mg M i).f1) := fun ⟨j, hj, h⟩ => k4 j hj h
        have s0 := rdOf_size hsz (mg M i).f0
        have s1 := rdOf_size hsz (mg M i).f1
        unfold mg at k0 k1 k2 k3 s0 s1
        simp only [vocab_Check.l1, wone w1, seenMerge_f hM hiM, Option.bind_some, says_f, decide_eq_false hns, decide_eq_true k0, decide_eq_true k1, decide_eq_true k2, if_true, Bool.false_eq_true, if_false]
        unfold tok at k0 k1 k2
        rw [if_pos (by omega), if_pos (by omega), if_pos (by omega), if_pos (by omega), if_pos (by omega), if_pos (by omega), if_pos (by omega), if_pos (by omega), if_pos (by omega), if_pos (by omega), if_pos k3]
      · rw [if_neg hk]
        refine Ev.step (f := fun _ => some ((i : Int), 131)) (fun k => ?_) (Ev.now _)
        simp only [vocab_Check.l1, seenMerge_f hM hiM, Option.bind_some, says_f]
        rw [if_pos (by omega), if_pos (by omega), if_pos (by omega)]
        by_cases hs : ∃ j : Nat, j < i ∧ (mg M j).f0 = (mg M i).f0 ∧ (mg M j).f1 = (mg M i).f1
        · rw [decide_eq_true hs, if_pos rfl]
        rw [decide_eq_false hs, if_neg (by decide)]
        by_cases k0 : tok T (mg M i).f0
        · by_cases k1 : tok T (mg M i).f1
          · by_cases k2 : tok T (mg M i).f2
            · have k3 : ¬ (rdOf ByteArray.empty T (mg M i).f2).toList = (rdOf ByteArray.empty T (mg M i).f0 ++ rdOf ByteArray.empty T (mg M i).f1).toList := fun h => hk ⟨k0, k1, k2, h, fun j hj h => hs ⟨j, hj, h⟩⟩
              have s0 := rdOf_size hsz (mg M i).f0
              have s1 := rdOf_size hsz (mg M i).f1
              unfold mg at k0 k1 k2 k3 s0 s1
              rw [decide_eq_true k0, decide_eq_true k1, decide_eq_true k2]
              unfold tok at k0 k1 k2
              simp only [if_true]
              rw [if_pos (by omega), if_pos (by omega), if_pos (by omega), if_pos (by omega), if_pos (by omega), if_pos (by omega), if_pos (by omega), if_neg k3]
            · unfold mg at k0 k1 k2
              rw [decide_eq_true k0, decide_eq_true k1, decide_eq_false k2]; rfl
          · unfold mg at k0 k1
            rw [decide_eq_true k0, decide_eq_false k1]; rfl
        · unfold mg at k0
          rw [decide_eq_false k0]; rfl
  have key : ∀ (d i : Nat), i + d = T.length → (∀ j, j < i → okT T j) → Ev (fun k => vocab_Check.l0 k T (T.length : Int) (i : Int) T M) (textsS T M d) := by
    intro d
    induction d with
    | zero =>
      intro i hi hok
      simp only [textsS]
      by_cases h2 : (T.length : Int) < 2
      · rw [if_pos h2]
        refine Ev.step (f := fun _ => some ((T.length : Int), 130)) (fun k => ?_) (Ev.now _)
        simp only [vocab_Check.l0]; rw [if_neg (by omega), if_pos h2]
      rw [if_neg h2]
      by_cases h3 : (M.length : Int) > 1024
      · rw [if_pos h3]
        refine Ev.step (f := fun _ => some (1024, 131)) (fun k => ?_) (Ev.now _)
        simp only [vocab_Check.l0]; rw [if_neg (by omega), if_neg h2, if_pos h3]
      rw [if_neg h3]
      refine Ev.step (fun k => ?_) (key2 (by omega) (fun j hj => hok j (by omega)) M.length 0 (by omega))
      simp only [vocab_Check.l0]; rw [if_neg (by omega), if_neg h2, if_neg h3]; rfl
    | succ d ih =>
      intro i hi hok
      have ei : T.length - (d + 1) = i := by omega
      simp only [textsS, ei]
      have w1 : i ≤ 140737488351232 := by omega
      have hiT : i < T.length := by omega
      by_cases hk : okT T i
      · rw [if_pos hk]
        refine Ev.step (fun k => ?_) (ih (i + 1) (by omega) (fun j hj => by
          by_cases e : j = i
          · subst e; exact hk
          · exact hok j (by omega)))
        obtain ⟨k0, k1, k2⟩ := hk
        have hns : ¬ (∃ j : Nat, j < i ∧ (tx T j).data = (tx T i).data) := fun ⟨j, hj, h⟩ => k0 j hj h
        unfold tx at k1 k2
        simp only [vocab_Check.l0, wone w1, seenText_f hT hiT, Option.bind_some, decide_eq_false hns, Bool.false_eq_true, if_false]
        rw [if_pos (by omega), if_pos (by omega), if_pos (by omega), if_neg (by rw [bne, k1]; decide), if_neg (by omega)]
      · rw [if_neg hk]
        refine Ev.step (f := fun _ => some ((i : Int), 130)) (fun k => ?_) (Ev.now _)
        simp only [vocab_Check.l0, seenText_f hT hiT, Option.bind_some]
        rw [if_pos (by omega), if_pos (by omega), if_pos (by omega)]
        by_cases hs : ∃ j : Nat, j < i ∧ (tx T j).data = (tx T i).data
        · rw [decide_eq_true hs, if_pos rfl]
        rw [decide_eq_false hs, if_neg (by decide)]
        by_cases k1 : (((tx T i).toList == ([] : List UInt8)) == ((i : Int) == 0)) = true
        · have k2 : ¬ ((tx T i).size : Int) ≤ 64 := fun h => hk ⟨fun j hj h2 => hs ⟨j, hj, h2⟩, k1, h⟩
          unfold tx at k1 k2
          rw [if_neg (by rw [bne, k1]; decide), if_pos (by omega)]
        · unfold tx at k1
          rw [if_pos (by rw [bne]; cases h : ((rdOf ByteArray.empty T (i : Int)).toList == ([] : List UInt8)) == ((i : Int) == 0) <;> simp_all)]
  exact key T.length 0 (by omega) (fun j hj => by omega)

/-! ### the same vocabulary, as the document has it -/
def cm (m : S99) : S100 := ⟨m.f0, m.f1, m.f2⟩
theorem rdm (M : List S99) (i : Nat) : rd_T100 (M.map cm) (i : Int) = cm (mg M i) := by
  unfold mg rd_T100 rd_T99
  simp only [Int.toNat_natCast, List.getD_eq_getElem?_getD, List.getElem?_map]
  cases M[i]? <;> rfl
theorem words_f (T : List ByteArray) (M : List S99) (hT : T.length * 16 ≤ 140737488351232) (hM : M.length * 24 ≤ 140737488351232) : Ev (fun k => heraldlaw15_words.f k T M) (T, M.map cm) := by
  unfold heraldlaw15_words.f
  simp only [Option.bind_some, List.length_nil, Nat.zero_add, List.nil_append, show T.length < 8796093022208 by omega, if_true]
  have := ev_loop (fun k i => heraldlaw15_words.l0 k (i : Int) T M T ((M.take i).map cm)) (T, M.map cm) M.length (fun _ => True) trivial (fun _ => ?_) (fun i hi _ ih => ?_)
  · simpa using this
  · refine Ev.step (f := fun _ => some (T, M.map cm)) (fun k => ?_) (Ev.now _)
    simp only [heraldlaw15_words.l0]; rw [if_neg (by omega), List.take_length]
  · have w1 : i ≤ 140737488351232 := by omega
    have hih := ih trivial
    rw [take_one hi, List.map_append] at hih
    have e : (⟨(rd_T99 M (i : Int)).f0, (rd_T99 M (i : Int)).f1, (rd_T99 M (i : Int)).f2⟩ : S100) = cm M[i] := by
      unfold rd_T99 cm
      simp only [Int.toNat_natCast, List.getD_eq_getElem?_getD, List.getElem?_eq_getElem hi, Option.getD_some]
    have hl : ((M.take i).map cm).length < 5864062014805 := by rw [List.length_map, List.length_take]; omega
    refine Ev.step (fun k => ?_) hih
    simp only [heraldlaw15_words.l0, wone w1, e]
    rw [if_pos (by omega), if_pos (by omega), if_pos hl]
    rfl

theorem token_f (T : List ByteArray) (M : List S100) (x : Int) : heraldref13_token.f T M x = some (decide (tok T x)) := by
  unfold heraldref13_token.f tok
  by_cases h : x > 0
  · rw [if_pos h]; simp [h]
  · rw [if_neg h]; simp [h]
theorem text_f (T : List ByteArray) (M : List S100) (hl : T.length ≤ 512) (i : Nat) (hi : i < T.length) : Ev (fun k => heraldref13_text.f k T M (i : Int)) (decide (okT T i)) := by
  unfold heraldref13_text.f
  simp only [show (0 : Int) ≤ (i : Int) by omega, show (i : Int) < (T.length : Int) by omega, if_true]
  refine ev_loop (fun k j => heraldref13_text.l0 k (i : Int) (rdOf ByteArray.empty T (i : Int)) (j : Int) T M) _ i (fun j => ∀ q : Nat, q < j → (tx T q).data ≠ (tx T i).data) (fun q hq => by omega) (fun hp => ?_) (fun j hj hp ih => ?_)
  · by_cases k1 : (((tx T i).toList == ([] : List UInt8)) == ((i : Int) == 0)) = true
    · by_cases k2 : ((tx T i).size : Int) ≤ 64
      · rw [decide_eq_true (show okT T i from ⟨hp, k1, k2⟩)]
        refine Ev.step (f := fun _ => some true) (fun k => ?_) (Ev.now _)
        unfold tx at k1 k2
        simp only [heraldref13_text.l0]; rw [if_neg (by omega), if_pos k1, decide_eq_true k2]
      · rw [decide_eq_false (show ¬ okT T i from fun h => k2 h.2.2)]
        refine Ev.step (f := fun _ => some false) (fun k => ?_) (Ev.now _)
        unfold tx at k1 k2
        simp only [heraldref13_text.l0]; rw [if_neg (by omega), if_pos k1, decide_eq_false k2]
    · rw [decide_eq_false (show ¬ okT T i from fun h => k1 h.2.1)]
      refine Ev.step (f := fun _ => some false) (fun k => ?_) (Ev.now _)
      unfold tx at k1
      simp only [heraldref13_text.l0]; rw [if_neg (by omega), if_neg k1]
  · have w1 : j ≤ 140737488351232 := by omega
    by_cases e : (tx T j).data = (tx T i).data
    · rw [decide_eq_false (show ¬ okT T i from fun h => h.1 j hj e)]
      refine Ev.step (f := fun _ => some false) (fun k => ?_) (Ev.now _)
      simp only [heraldref13_text.l0]
      rw [if_pos (by omega), if_pos (by omega), if_pos (by omega), if_pos (show (rdOf ByteArray.empty T (j : Int)).toList = (rdOf ByteArray.empty T (i : Int)).toList from ba_toList.2 e)]
    · refine Ev.step (fun k => ?_) (ih (fun q hq => by
        by_cases eq : q = j
        · subst eq; exact e
        · exact hp q (by omega)))
      simp only [heraldref13_text.l0, wone w1]
      rw [if_pos (by omega), if_pos (by omega), if_pos (by omega), if_neg (show ¬ (rdOf ByteArray.empty T (j : Int)).toList = (rdOf ByteArray.empty T (i : Int)).toList from fun h => e (ba_toList.1 h))]
theorem merge_f (T : List ByteArray) (M : List S99) (hsz : ∀ s ∈ T, s.size ≤ 64) (hl : M.length ≤ 1024) (i : Nat) (hi : i < M.length) : Ev (fun k => heraldref13_merge.f k T (M.map cm) (i : Int)) (decide (okM T M i)) := by
  have g0 : (rd_T100 (M.map cm) (i : Int)).f0 = (mg M i).f0 := by rw [rdm]; rfl
  have g1 : (rd_T100 (M.map cm) (i : Int)).f1 = (mg M i).f1 := by rw [rdm]; rfl
  have g2 : (rd_T100 (M.map cm) (i : Int)).f2 = (mg M i).f2 := by rw [rdm]; rfl
  unfold heraldref13_merge.f
  simp only [show (0 : Int) ≤ (i : Int) by omega, List.length_map, show (i : Int) < (M.length : Int) by omega, if_true, token_f, Option.bind_some, g0, g1, g2]
  have no : ∀ a c e, Ev (fun k => heraldref13_merge.j0 k (i : Int) true T (M.map cm) a c e) false := fun a c e => Ev.step (fun k => by simp only [heraldref13_merge.j0, if_true]) (Ev.now _)
  by_cases k0 : tok T (mg M i).f0
  · by_cases k1 : tok T (mg M i).f1
    · by_cases k2 : tok T (mg M i).f2
      · simp only [decide_eq_true k0, decide_eq_true k1, decide_eq_true k2, if_true]
        have s0 := rdOf_size hsz (mg M i).f0
        have s1 := rdOf_size hsz (mg M i).f1
        have t0 := k0
        have t1 := k1
        have t2 := k2
        unfold tok at t0 t1 t2
        simp only [show (0 : Int) ≤ (mg M i).f0 by omega, show (0 : Int) ≤ (mg M i).f1 by omega, show (0 : Int) ≤ (mg M i).f2 by omega, show (mg M i).f0 < (T.length : Int) by omega, show (mg M i).f1 < (T.length : Int) by omega, show (mg M i).f2 < (T.length : Int) by omega, if_true, show (rdOf ByteArray.empty T (mg M i).f0).size + (rdOf ByteArray.empty T (mg M i).f1).size ≤ 9223372036854775807 by omega]
        by_cases k3 : (rdOf ByteArray.empty T (mg M i).f2).toList = (rdOf ByteArray.empty T (mg M i).f0 ++ rdOf ByteArray.empty T (mg M i).f1).toList
        · rw [show ((rdOf ByteArray.empty T (mg M i).f2).toList != (rdOf ByteArray.empty T (mg M i).f0 ++ rdOf ByteArray.empty T (mg M i).f1).toList) = false by simp [k3]]
          refine ev_succ ?_
          simp only [heraldref13_merge.j0, Bool.false_eq_true, if_false]
          refine ev_loop (fun k j => heraldref13_merge.l0 k (i : Int) (j : Int) T (M.map cm) (mg M i).f0 (mg M i).f1 (mg M i).f2) _ i (fun j => ∀ q : Nat, q < j → ¬ ((mg M q).f0 = (mg M i).f0 ∧ (mg M q).f1 = (mg M i).f1)) (fun q hq => by omega) (fun hp => ?_) (fun j hj hp ih => ?_)
          · rw [decide_eq_true (show okM T M i from ⟨k0, k1, k2, k3, hp⟩)]
            refine Ev.step (f := fun _ => some true) (fun k => ?_) (Ev.now _)
            simp only [heraldref13_merge.l0]; rw [if_neg (by omega)]
          · have w1 : j ≤ 140737488351232 := by omega
            have h0 : (rd_T100 (M.map cm) (j : Int)).f0 = (mg M j).f0 := by rw [rdm]; rfl
            have h1 : (rd_T100 (M.map cm) (j : Int)).f1 = (mg M j).f1 := by rw [rdm]; rfl
            by_cases e : (mg M j).f0 = (mg M i).f0 ∧ (mg M j).f1 = (mg M i).f1
            · rw [decide_eq_false (show ¬ okM T M i from fun h => h.2.2.2.2 j hj e)]
              refine Ev.step (f := fun _ => some false) (fun k => ?_) (Ev.now _)
              simp only [heraldref13_merge.l0, h0, h1, List.length_map]
              rw [if_pos (by omega), if_pos (by omega), if_pos (by omega), if_pos e.1, if_pos e.2]
            · refine Ev.step (fun k => ?_) (ih (fun q hq => by
                by_cases eq : q = j
                · subst eq; exact e
                · exact hp q (by omega)))
              simp only [heraldref13_merge.l0, h0, h1, List.length_map, wone w1]
              rw [if_pos (by omega), if_pos (by omega), if_pos (by omega)]
              by_cases d1 : (mg M j).f0 = (mg M i).f0
              · rw [if_pos d1, if_neg (fun d2 => e ⟨d1, d2⟩)]
              · rw [if_neg d1]
        · rw [show ((rdOf ByteArray.empty T (mg M i).f2).toList != (rdOf ByteArray.empty T (mg M i).f0 ++ rdOf ByteArray.empty T (mg M i).f1).toList) = true by simp [k3], decide_eq_false (show ¬ okM T M i from fun h => k3 h.2.2.2.1)]
          exact no _ _ _
      · rw [decide_eq_false (show ¬ okM T M i from fun h => k2 h.2.2.1)]
        simp only [decide_eq_true k0, decide_eq_true k1, decide_eq_false k2, if_true, Bool.false_eq_true, if_false]
        exact no _ _ _
    · rw [decide_eq_false (show ¬ okM T M i from fun h => k1 h.2.1)]
      simp only [decide_eq_true k0, decide_eq_false k1, if_true, Bool.false_eq_true, if_false]
      exact no _ _ _
  · rw [decide_eq_false (show ¬ okM T M i from fun h => k0 h.1)]
    simp only [decide_eq_false k0, Bool.false_eq_true, if_false]
    exact no _ _ _
theorem rvocab_f (T : List ByteArray) (M : List S99) : Ev (fun k => heraldref13_Check.f k T (M.map cm)) (vcheckS T M) := by
  unfold heraldref13_Check.f vcheckS
  by_cases h1 : (T.length : Int) > 512
  · rw [if_pos h1]; simp only [h1, if_true]; exact Ev.now _
  rw [if_neg h1]; simp only [h1, if_false]
  have key2 : (M.length : Int) ≤ 1024 → (∀ i, i < T.length → okT T i) → ∀ (d i : Nat), i + d = M.length → Ev (fun k => heraldref13_Check.l1 k (i : Int) T (M.map cm)) (mergesS T M d) := by
    intro hm hok d
    have hsz := okT_size hok
    induction d with
    | zero =>
      intro i hi
      refine Ev.step (f := fun _ => some (0, 0)) (fun k => ?_) (Ev.now _)
      simp only [heraldref13_Check.l1, List.length_map]; rw [if_neg (by omega)]
    | succ d ih =>
      intro i hi
      have ei : M.length - (d + 1) = i := by omega
      simp only [mergesS, ei]
      have w1 : i ≤ 140737488351232 := by omega
      refine Ev.step (f := fun k => (heraldref13_merge.f k T (M.map cm) (i : Int)).bind fun t => if t = true then heraldref13_Check.l1 k ((i + 1 : Nat) : Int) T (M.map cm) else some ((i : Int), 131)) (fun k => ?_) ?_
      · simp only [heraldref13_Check.l1, List.length_map, wone w1]; rw [if_pos (by omega)]
      · refine Ev.bind (merge_f T M hsz (by omega) i (by omega)) ?_
        by_cases hk : okM T M i
        · rw [decide_eq_true hk, if_pos hk]; simp only [if_true]; exact ih (i + 1) (by omega)
        · rw [decide_eq_false hk, if_neg hk]; simp only [Bool.false_eq_true, if_false]; exact Ev.now _
  have key : ∀ (d i : Nat), i + d = T.length → (∀ j, j < i → okT T j) → Ev (fun k => heraldref13_Check.l0 k (i : Int) T (M.map cm)) (textsS T M d) := by
    intro d
    induction d with
    | zero =>
      intro i hi hok
      simp only [textsS]
      by_cases h2 : (T.length : Int) < 2
      · rw [if_pos h2]
        refine Ev.step (f := fun _ => some ((T.length : Int), 130)) (fun k => ?_) (Ev.now _)
        simp only [heraldref13_Check.l0]; rw [if_neg (by omega), if_pos h2]
      rw [if_neg h2]
      by_cases h3 : (M.length : Int) > 1024
      · rw [if_pos h3]
        refine Ev.step (f := fun _ => some (1024, 131)) (fun k => ?_) (Ev.now _)
        simp only [heraldref13_Check.l0, List.length_map]; rw [if_neg (by omega), if_neg h2, if_pos h3]
      rw [if_neg h3]
      refine Ev.step (fun k => ?_) (key2 (by omega) (fun j hj => hok j (by omega)) M.length 0 (by omega))
      simp only [heraldref13_Check.l0, List.length_map]; rw [if_neg (by omega), if_neg h2, if_neg h3]; rfl
    | succ d ih =>
      intro i hi hok
      have ei : T.length - (d + 1) = i := by omega
      simp only [textsS, ei]
      have w1 : i ≤ 140737488351232 := by omega
      refine Ev.step (f := fun k => (heraldref13_text.f k T (M.map cm) (i : Int)).bind fun t => if t = true then heraldref13_Check.l0 k ((i + 1 : Nat) : Int) T (M.map cm) else some ((i : Int), 130)) (fun k => ?_) ?_
      · simp only [heraldref13_Check.l0, wone w1]; rw [if_pos (by omega)]
      · refine Ev.bind (text_f T (M.map cm) (by omega) i (by omega)) ?_
        by_cases hk : okT T i
        · rw [decide_eq_true hk, if_pos hk]; simp only [if_true]
          exact ih (i + 1) (by omega) (fun j hj => by
            by_cases e : j = i
            · subst e; exact hk
            · exact hok j (by omega))
        · rw [decide_eq_false hk, if_neg hk]; simp only [Bool.false_eq_true, if_false]; exact Ev.now _
  exact key T.length 0 (by omega) (fun j hj => by omega)

/-! ### where tokens lead -/
noncomputable def nextV (A : List Bool) (E : List S92) (T : List ByteArray) (M : List S99) (s t : Int) : Int := if (vcheckS T M).2 = 0 then (if t < 1 then -1 else if t ≥ (T.length : Int) then -1 else WalkS A E s (rdOf ByteArray.empty T t)) else -1
noncomputable def stateV (A : List Bool) (E : List S92) (T : List ByteArray) (M : List S99) (l : List Int) : Int := l.foldl (fun s t => nextV A E T M s t) 0
/-! ### what may follow -/
theorem any_snoc (f : Nat → Bool) (i : Nat) : (List.range (i + 1)).any f = ((List.range i).any f || f i) := by
  rw [List.range_succ, List.any_append]; simp
theorem fill_set {α : Type} {g : Nat → α} {d : α} {n i : Nat} (h : i < n) : ((List.range i).map g ++ List.replicate (n - i) d).set i (g i) = (List.range (i + 1)).map g ++ List.replicate (n - (i + 1)) d := by
  rw [show n - i = (n - (i + 1)) + 1 by omega, List.replicate_succ, set_mid0 _ _ _ _ _ (by simp), rng_snoc]
noncomputable def mayS (A : List Bool) (E : List S92) (T : List ByteArray) (s : Int) (i : Nat) : Bool := if A.length = 0 then decide (s = 0) else if s = -1 then false else if i = 0 then rdOf false A s else if walkS A E s (tx T i) ≥ 0 then rdOf false (liveL A E) (walkS A E s (tx T i)) else false
noncomputable def maskL (A : List Bool) (E : List S92) (T : List ByteArray) (s : Int) : List Bool := if (List.range T.length).any (mayS A E T s) = true then (List.range T.length).map (mayS A E T s) else ((List.range T.length).map (mayS A E T s)).set 0 true
def badS (A : List Bool) (s : Int) : Prop := s ≠ -1 ∧ (if A.length = 0 then s ≠ 0 else ¬ isS A s)
noncomputable instance (A : List Bool) (s : Int) : Decidable (badS A s) := Classical.propDecidable _
noncomputable def maskS (A : List Bool) (E : List S92) (T : List ByteArray) (M : List S99) (s : Int) : List Bool × Int := if (vcheckS T M).2 = 0 then (if (checkS A E).2 = 0 then (if badS A s then ([], 1) else (maskL A E T s, 0)) else ([], (checkS A E).2)) else ([], (vcheckS T M).2)
theorem maskL_len (A : List Bool) (E : List S92) (T : List ByteArray) (s : Int) : (maskL A E T s).length = T.length := by
  unfold maskL
  split <;> simp
theorem maskS_len (A : List Bool) (E : List S92) (T : List ByteArray) (M : List S99) (s : Int) : (maskS A E T M s).1.length ≤ 512 := by
  unfold maskS
  split
  · rename_i h
    split
    · split
      · simp
      · rw [maskL_len]; exact (vcheckS_ok h).1
    · simp
  · simp
theorem may_none {A : List Bool} {E : List S92} {T : List ByteArray} (i : Nat) : mayS A E T (-1) i = false := by
  unfold mayS
  split <;> simp
theorem rng_const {α : Type} {g : Nat → α} {c : α} (h : ∀ i, g i = c) : ∀ n, (List.range n).map g = List.replicate n c
  | 0 => rfl
  | n + 1 => by rw [rng_snoc, rng_const h n, h n, List.replicate_succ']
theorem any_false {g : Nat → Bool} (h : ∀ i, g i = false) (n : Nat) : (List.range n).any g = false := by
  rw [List.any_eq_false]; intro x _; rw [h x]; decide
theorem mask_none (A : List Bool) (E : List S92) (T : List ByteArray) : maskL A E T (-1) = (List.replicate T.length false).set 0 true := by
  unfold maskL
  rw [any_false may_none, if_neg (by decide), rng_const may_none]
theorem mask_free {A : List Bool} (hA : A.length = 0) (E : List S92) {T : List ByteArray} (hT : 0 < T.length) : maskL A E T 0 = List.replicate T.length true := by
  have h : ∀ i, mayS A E T 0 i = true := fun i => by unfold mayS; rw [if_pos hA]; rfl
  unfold maskL
  rw [if_pos (by rw [List.any_eq_true]; exact ⟨0, by simp; omega, h 0⟩), rng_const h]
/-- At the end the first place is turned. -/
theorem mask_end {A : List Bool} (hA : A.length ≠ 0) (E : List S92) {T : List ByteArray} (hT : 0 < T.length) {s : Int} (hs : s ≠ -1) (o : List Bool) (ho : o = (List.range T.length).map (mayS A E T s)) : (if rdOf false o 0 = true then (o.set 0 true) else (o.set 0 (!(List.range T.length).any (mayS A E T s)))) = maskL A E T s := by
  have h0 : rdOf false o 0 = mayS A E T s 0 := by
    subst ho
    unfold rdOf
    rw [List.getD_eq_getElem?_getD, show ((0 : Int).toNat) = 0 by rfl, List.getElem?_map, List.getElem?_range hT]
    rfl
  have hset : ∀ b, mayS A E T s 0 = b → o.set 0 b = o := fun b hb => by
    subst ho
    apply List.ext_getElem (by simp)
    intro j h1 h2
    rw [List.getElem_set]
    split
    · rename_i e
      subst e
      simp [← hb]
    · rfl
  unfold maskL
  rw [h0]
  by_cases hm : mayS A E T s 0 = true
  · rw [if_pos hm, if_pos (by rw [List.any_eq_true]; exact ⟨0, by simp; omega, hm⟩), hset true hm, ho]
  · rw [if_neg hm]
    have hm2 : mayS A E T s 0 = false := by simpa using hm
    by_cases ha : (List.range T.length).any (mayS A E T s) = true
    · rw [if_pos ha, ha, Bool.not_true, hset false hm2, ho]
    · rw [if_neg ha, show (List.range T.length).any (mayS A E T s) = false by simpa using ha, Bool.not_false, ho]

theorem mask_l0 (n : Nat) (hn : n ≤ 512) : Ev (fun k => guide_Mask.l0 k (List.replicate n false) (n : Int) 0) (List.replicate n true, 0) := by
  have := ev_loop (fun k i => guide_Mask.l0 k (List.replicate i true ++ List.replicate (n - i) false) (n : Int) (i : Int)) (List.replicate n true, 0) n (fun i => i ≤ n) (Nat.zero_le _) (fun _ => ?_) (fun i hi _ ih => ?_)
  · simpa using this
  · refine Ev.step (f := fun _ => some (List.replicate n true, 0)) (fun k => ?_) (Ev.now _)
    simp only [guide_Mask.l0]; rw [if_neg (by omega)]; simp
  · have w1 : i ≤ 140737488351232 := by omega
    have hih := ih (by omega)
    have e := fill_set (g := fun _ => true) (d := false) hi
    rw [rng_const (c := true) (fun _ => rfl), rng_const (c := true) (fun _ => rfl)] at e
    rw [← e] at hih
    refine Ev.step (fun k => ?_) hih
    simp only [guide_Mask.l0, wone w1, Int.toNat_natCast]
    rw [if_pos (by omega), if_pos (by omega), if_pos (by simp; omega)]
theorem mask_l1 (A : List Bool) (E : List S92) (T : List ByteArray) (M : List S99) (hA : A.length ≠ 0) (hE : E.length ≤ 1024) (hG : ∀ i, i < E.length → okE A E i) (hT : ∀ t ∈ T, t.size ≤ 64) (hn : 2 ≤ T.length) (hn2 : T.length ≤ 512) (s : Int) (hs : isS A s) : Ev (fun k => guide_Mask.l1 k s ((List.replicate T.length false).set 0 (rdOf false A s)) (liveL A E) (rdOf false A s) 1 A E T M) (maskL A E T s, 0) := by
  have hs1 : s ≠ -1 := by have := hs.1; omega
  have m0 : mayS A E T s 0 = rdOf false A s := by unfold mayS; rw [if_neg hA, if_neg hs1, if_pos rfl]
  have := ev_loop (fun k j => guide_Mask.l1 k s ((List.range (j + 1)).map (mayS A E T s) ++ List.replicate (T.length - (j + 1)) false) (liveL A E) ((List.range (j + 1)).any (mayS A E T s)) ((j + 1 : Nat) : Int) A E T M) (maskL A E T s, 0) (T.length - 1) (fun _ => True) trivial (fun _ => ?_) (fun j hj _ ih => ?_)
  · have e1 := fill_set (g := mayS A E T s) (d := false) (n := T.length) (i := 0) (by omega)
    simp only [List.range_zero, List.map_nil, List.nil_append, Nat.sub_zero] at e1
    rw [m0] at e1
    rw [e1]
    have e2 : (List.range (0 + 1)).any (mayS A E T s) = rdOf false A s := by rw [← m0]; simp [List.range_succ]
    rw [e2] at this
    exact this
  · have e1 : T.length - 1 + 1 = T.length := by omega
    have me := mask_end hA E (T := T) (by omega) hs1 _ rfl
    refine Ev.step (f := fun _ => some (maskL A E T s, 0)) (fun k => ?_) (Ev.now _)
    simp only [guide_Mask.l1, e1, Nat.sub_self, List.replicate_zero, List.append_nil, List.length_map, List.length_range]
    rw [if_neg (by omega), if_pos (by omega), ← me]
    show (if _ then some _ else some _) = _
    split <;> rfl
  · have w1 : j + 1 ≤ 140737488351232 := by omega
    have hih := ih trivial
    have hjT : j + 1 < T.length := by omega
    have e := fill_set (g := mayS A E T s) (d := false) hjT
    rw [any_snoc, ← e] at hih
    have hz := rdOf_size hT ((j + 1 : Nat) : Int)
    have hlen : ((List.range (j + 1)).map (mayS A E T s) ++ List.replicate (T.length - (j + 1)) false).length = T.length := by simp; omega
    refine Ev.step (f := fun k => (guide_walk.f k A E s (rdOf ByteArray.empty T ((j + 1 : Nat) : Int))).bind fun t346 => (if t346 ≥ 0 then (if 0 ≤ t346 then (if t346 < ((liveL A E).length : Int) then ((some ((((List.range (j + 1)).map (mayS A E T s) ++ List.replicate (T.length - (j + 1)) false)).set (j + 1) (rdOf false (liveL A E) t346) : List Bool)).bind fun y348 => (if (List.range (j + 1)).any (mayS A E T s) = true then (guide_Mask.l1 k s y348 (liveL A E) true ((j + 1 + 1 : Nat) : Int) A E T M) else (guide_Mask.l1 k s y348 (liveL A E) (rdOf false y348 ((j + 1 : Nat) : Int)) ((j + 1 + 1 : Nat) : Int) A E T M))) else (none)) else (none)) else ((some ((((List.range (j + 1)).map (mayS A E T s) ++ List.replicate (T.length - (j + 1)) false)).set (j + 1) false : List Bool)).bind fun y350 => (if (List.range (j + 1)).any (mayS A E T s) = true then (guide_Mask.l1 k s y350 (liveL A E) true ((j + 1 + 1 : Nat) : Int) A E T M) else (guide_Mask.l1 k s y350 (liveL A E) (rdOf false y350 ((j + 1 : Nat) : Int)) ((j + 1 + 1 : Nat) : Int) A E T M))))) (fun k => ?_) (Ev.bind (walk_f A E hE hG s _ (by omega)) ?_)
    · simp only [guide_Mask.l1, wone w1, hlen, Int.toNat_natCast]
      rw [if_pos (by omega), if_pos (by omega), if_pos (by omega)]
    · have hm : mayS A E T s (j + 1) = if walkS A E s (tx T (j + 1)) ≥ 0 then rdOf false (liveL A E) (walkS A E s (tx T (j + 1))) else false := by
        unfold mayS; rw [if_neg hA, if_neg hs1, if_neg (by omega)]
      have hrd : ∀ b : Bool, rdOf false ((((List.range (j + 1)).map (mayS A E T s) ++ List.replicate (T.length - (j + 1)) false)).set (j + 1) b) ((j + 1 : Nat) : Int) = b := fun b => by
        unfold rdOf
        rw [List.getD_eq_getElem?_getD, Int.toNat_natCast, List.getElem?_set_self (by rw [hlen]; exact hjT)]
        rfl
      have hin := walkS_lt hG hA s (tx T (j + 1))
      unfold tx at hm hin
      have goal : ∀ b : Bool, mayS A E T s (j + 1) = b → Ev (fun k => if (List.range (j + 1)).any (mayS A E T s) = true then (guide_Mask.l1 k s ((((List.range (j + 1)).map (mayS A E T s) ++ List.replicate (T.length - (j + 1)) false)).set (j + 1) b) (liveL A E) true ((j + 1 + 1 : Nat) : Int) A E T M) else (guide_Mask.l1 k s ((((List.range (j + 1)).map (mayS A E T s) ++ List.replicate (T.length - (j + 1)) false)).set (j + 1) b) (liveL A E) (rdOf false ((((List.range (j + 1)).map (mayS A E T s) ++ List.replicate (T.length - (j + 1)) false)).set (j + 1) b) ((j + 1 : Nat) : Int)) ((j + 1 + 1 : Nat) : Int) A E T M)) (maskL A E T s, 0) := fun b hb => by
        rw [hb] at hih
        by_cases ha : (List.range (j + 1)).any (mayS A E T s) = true
        · rw [ha, Bool.true_or] at hih
          simp only [ha, if_true]; exact hih
        · rw [show (List.range (j + 1)).any (mayS A E T s) = false by simpa using ha, Bool.false_or] at hih
          simp only [ha, if_false, hrd]; exact hih
      by_cases hw : walkS A E s (rdOf ByteArray.empty T ((j + 1 : Nat) : Int)) ≥ 0
      · rw [if_pos hw] at hm
        have hlt : walkS A E s (rdOf ByteArray.empty T ((j + 1 : Nat) : Int)) < ((liveL A E).length : Int) := by
          rw [liveL_len]
          rcases hin with h | h
          · omega
          · exact h.2
        simp only [hw, hlt, if_true, Option.bind_some]
        exact goal _ hm
      · rw [if_neg hw] at hm
        simp only [hw, if_false, Option.bind_some]
        exact goal _ hm
theorem Mask_f (A : List Bool) (E : List S92) (T : List ByteArray) (M : List S99) (hT : Sz T) (hM : Wf M) (s : Int) : Ev (fun k => guide_Mask.f k A E T M s) (maskS A E T M s) := by
  unfold guide_Mask.f maskS
  refine Ev.bind (vocab_f T M hT hM) ?_
  by_cases hv : (vcheckS T M).2 = 0
  · simp only [hv, if_true]
    refine Ev.bind (Check_f A E) ?_
    by_cases hc : (checkS A E).2 = 0
    · simp only [hc, if_true]
      obtain ⟨v1, v2, v3⟩ := vcheckS_ok hv
      obtain ⟨c1, c2, c3⟩ := checkS_ok hc
      have hsz := okT_size v3
      by_cases hA : A.length = 0
      · simp only [show (A.length : Int) = 0 by omega, if_true]
        have bad : ¬ (s = -1 ∨ s = 0) → Ev (fun k => guide_Mask.j0 k s true true A E T M) (if badS A s then (([] : List Bool), (1 : Int)) else (maskL A E T s, 0)) := fun h => by
          rw [if_pos (show badS A s from ⟨fun e => h (.inl e), by rw [if_pos hA]; exact fun e => h (.inr e)⟩)]
          exact Ev.step (fun k => by simp only [guide_Mask.j0, if_true]) (Ev.now _)
        have ok : (s = -1 ∨ s = 0) → Ev (fun k => guide_Mask.j0 k s true false A E T M) (if badS A s then (([] : List Bool), (1 : Int)) else (maskL A E T s, 0)) := fun h => by
          rw [if_neg (show ¬ badS A s from fun hb => by
            have h2 := hb.2
            rw [if_pos hA] at h2
            rcases h with h | h
            · exact hb.1 h
            · exact h2 h)]
          refine ev_succ ?_
          simp only [guide_Mask.j0, Bool.false_eq_true, if_false, show (0 : Int) ≤ (T.length : Int) by omega, if_true, Int.toNat_natCast, show T.length ≤ 281474976710656 by omega, Option.bind_some, List.length_replicate, show (0 : Int) < (T.length : Int) by omega, show ((0 : Int).toNat) = 0 from rfl]
          by_cases h1 : s = -1
          · simp only [h1, if_true]
            rw [mask_none]; exact Ev.now _
          · obtain rfl : s = 0 := by omega
            simp only [show ¬ ((0 : Int) = -1) by decide, if_false]
            rw [mask_free hA E (by omega)]
            exact mask_l0 T.length (by omega)
        by_cases h1 : s = -1
        · simp only [h1, if_true]; subst h1; exact ok (.inl rfl)
        · simp only [h1, if_false, isState_f, Option.bind_some, decide_eq_true_eq, show ¬ isS A s from fun h => by have := h.1; have := h.2; omega]
          by_cases h0 : s = 0
          · simp only [h0, if_true, Bool.not_true]; subst h0; exact ok (.inr rfl)
          · simp only [h0, if_false, Bool.not_false]; exact bad (by omega)
      · simp only [show ¬ (A.length : Int) = 0 by omega, if_false]
        have bad : ¬ (s = -1 ∨ isS A s) → Ev (fun k => guide_Mask.j3 k s false true A E T M) (if badS A s then (([] : List Bool), (1 : Int)) else (maskL A E T s, 0)) := fun h => by
          rw [if_pos (show badS A s from ⟨fun e => h (.inl e), by rw [if_neg hA]; exact fun e => h (.inr e)⟩)]
          exact Ev.step (fun k => by simp only [guide_Mask.j3, if_true]) (Ev.now _)
        have ok : (s = -1 ∨ isS A s) → Ev (fun k => guide_Mask.j3 k s false false A E T M) (if badS A s then (([] : List Bool), (1 : Int)) else (maskL A E T s, 0)) := fun h => by
          rw [if_neg (show ¬ badS A s from fun hb => by
            have h2 := hb.2
            rw [if_neg hA] at h2
            rcases h with h | h
            · exact hb.1 h
            · exact h2 h)]
          refine ev_succ ?_
          simp only [guide_Mask.j3, Bool.false_eq_true, if_false, show (0 : Int) ≤ (T.length : Int) by omega, if_true, Int.toNat_natCast, show T.length ≤ 281474976710656 by omega, Option.bind_some, List.length_replicate, show (0 : Int) < (T.length : Int) by omega, show ((0 : Int).toNat) = 0 from rfl]
          by_cases h1 : s = -1
          · simp only [h1, if_true]
            rw [mask_none]; exact Ev.now _
          · have hs : isS A s := by rcases h with h | h; exact absurd h h1; exact h
            simp only [h1, if_false, show (0 : Int) ≤ s from hs.1, show s < (A.length : Int) from hs.2, if_true]
            exact Ev.bind (alive_f A E (good_of c3) c1 c2) (mask_l1 A E T M hA c2 c3 hsz v2 v1 s hs)
        by_cases h1 : s = -1
        · simp only [h1, if_true]; subst h1; exact ok (.inl rfl)
        · simp only [h1, if_false, isState_f, Option.bind_some, decide_eq_true_eq]
          by_cases h0 : isS A s
          · simp only [h0, if_true]; exact ok (.inr h0)
          · simp only [h0, if_false, Bool.not_false]; exact bad (fun h => by rcases h with h | h; exact h1 h; exact h0 h)
    · simp only [hc, if_false]; exact Ev.now _
  · simp only [hv, if_false]; exact Ev.now _

theorem rmask_l0 (A : List Bool) (E : List S92) (T : List ByteArray) (M : List S100) (hc : (checkS A E).2 = 0) (hT : ∀ t ∈ T, t.size ≤ 64) (hn : 2 ≤ T.length) (hn2 : T.length ≤ 512) (s : Int) (hb : ¬ badS A s) : Ev (fun k => heraldref15_Mask.l0 k s (decide ((A.length : Int) > 0)) (liveL A E) ([] : List Bool) false 0 A (E.map cv) T M) (maskL A E T s, 0) := by
  obtain ⟨c1, c2, c3⟩ := checkS_ok hc
  have hWalk : ∀ t, WalkS A E s t = walkS A E s t := fun t => by unfold WalkS; rw [if_pos hc]
  have := ev_loop (fun k i => heraldref15_Mask.l0 k s (decide ((A.length : Int) > 0)) (liveL A E) ((List.range i).map (mayS A E T s)) ((List.range i).any (mayS A E T s)) (i : Int) A (E.map cv) T M) (maskL A E T s, 0) T.length (fun _ => True) trivial (fun _ => ?_) (fun i hi _ ih => ?_)
  · exact this
  · refine Ev.step (f := fun _ => some (maskL A E T s, 0)) (fun k => ?_) (Ev.now _)
    simp only [heraldref15_Mask.l0, List.length_map, List.length_range, show ((0 : Int).toNat) = 0 from rfl]
    rw [if_neg (by omega)]
    unfold maskL
    split
    · rfl
    · rw [if_pos (by omega)]
  · have w1 : i ≤ 140737488351232 := by omega
    have hih := ih trivial
    rw [any_snoc, rng_snoc] at hih
    have hlen : ((List.range i).map (mayS A E T s)).length = i := by simp
    have hz := rdOf_size hT (i : Int)
    -- what comes behind the row has grown
    have goal : ∀ b : Bool, mayS A E T s i = b → Ev (fun k => if (List.range i).any (mayS A E T s) = true then heraldref15_Mask.l0 k s (decide ((A.length : Int) > 0)) (liveL A E) ((List.range i).map (mayS A E T s) ++ [b]) true ((i + 1 : Nat) : Int) A (E.map cv) T M else heraldref15_Mask.l0 k s (decide ((A.length : Int) > 0)) (liveL A E) ((List.range i).map (mayS A E T s) ++ [b]) b ((i + 1 : Nat) : Int) A (E.map cv) T M) (maskL A E T s, 0) := fun b hb => by
      rw [hb] at hih
      by_cases ha : (List.range i).any (mayS A E T s) = true
      · rw [ha, Bool.true_or] at hih
        simp only [ha, if_true]; exact hih
      · rw [show (List.range i).any (mayS A E T s) = false by simpa using ha, Bool.false_or] at hih
        simp only [ha, if_false]; exact hih
    refine ev_succ ?_
    simp only [heraldref15_Mask.l0, show (i : Int) < (T.length : Int) by omega, if_true]
    by_cases hA : A.length = 0
    · have e12 : decide ((A.length : Int) > 0) = false := decide_eq_false (by omega)
      simp only [e12, Bool.false_eq_true, if_false] at goal ⊢
      refine ev_succ ?_
      simp only [heraldref15_Mask.j2, Bool.false_eq_true, if_false]
      refine ev_succ ?_
      have hl : ((List.range i).map (mayS A E T s)).length < 140737488355328 := by omega
      simp only [heraldref15_Mask.j3, Bool.false_eq_true, if_false, hl, if_true, Option.bind_some, wone w1]
      refine goal _ ?_
      unfold mayS
      rw [if_pos hA]
      by_cases h0 : s = 0 <;> simp [h0]
    · have e12 : decide ((A.length : Int) > 0) = true := decide_eq_true (by omega)
      simp only [e12, if_true] at goal ⊢
      refine ev_succ ?_
      simp only [heraldref15_Mask.j2, if_true]
      have hl : ((List.range i).map (mayS A E T s)).length < 140737488355328 := by omega
      by_cases h1 : s = -1
      · subst h1
        simp only [show ¬ ((-1 : Int) ≥ 0) by decide, if_false]
        refine ev_succ ?_
        simp only [heraldref15_Mask.j3, Bool.false_eq_true, if_false, if_true, show ¬ ((-1 : Int) ≥ 0) by decide, hl, Option.bind_some, wone w1]
        exact goal _ (may_none i)
      · have hs : isS A s := by
          have : ¬ ¬ isS A s := fun h => hb ⟨h1, by rw [if_neg hA]; exact h⟩
          exact Classical.not_not.1 this
        have s0 := hs.1
        have s1 := hs.2
        simp only [show s ≥ 0 from s0, if_true]
        refine ev_succ ?_
        by_cases h0 : i = 0
        · subst h0
          simp only [heraldref15_Mask.j3, show (((0 : Nat) : Int) == 0) = true from rfl, if_true, show (0 : Int) ≤ s from s0, s1, show s ≥ 0 from s0, show ¬ (((0 : Nat) : Int) > 0) by decide, if_false, hl, Option.bind_some, wone w1]
          refine goal _ ?_
          unfold mayS; rw [if_neg hA, if_neg h1, if_pos rfl]
        · have hb0 : ((i : Int) == 0) = false := by rw [beq_eq_false_iff_ne]; omega
          simp only [heraldref15_Mask.j3, hb0, Bool.false_eq_true, if_false, if_true, show s ≥ 0 from s0, show (i : Int) > 0 by omega, show (0 : Int) ≤ (i : Int) by omega, show (i : Int) < (T.length : Int) by omega, hl, Option.bind_some, wone w1]
          refine Ev.bind (rWalk_f A E s _ (by omega)) ?_
          rw [hWalk]
          have hm : mayS A E T s i = if walkS A E s (rdOf ByteArray.empty T (i : Int)) ≥ 0 then rdOf false (liveL A E) (walkS A E s (rdOf ByteArray.empty T (i : Int))) else false := by
            unfold mayS tx; rw [if_neg hA, if_neg h1, if_neg h0]
          have hin := walkS_lt c3 hA s (rdOf ByteArray.empty T (i : Int))
          by_cases hw : walkS A E s (rdOf ByteArray.empty T (i : Int)) ≥ 0
          · rw [if_pos hw] at hm
            have hlt : walkS A E s (rdOf ByteArray.empty T (i : Int)) < ((liveL A E).length : Int) := by
              rw [liveL_len]
              rcases hin with h | h
              · omega
              · exact h.2
            simp only [hw, hlt, if_true]
            exact goal _ hm
          · rw [if_neg hw] at hm
            simp only [hw, if_false]
            exact goal _ hm
theorem rMask_f (A : List Bool) (E : List S92) (T : List ByteArray) (M : List S99) (hA : A.length ≤ 140737488351232) (hE : E.length ≤ 5864062014634) (s : Int) : Ev (fun k => heraldref15_Mask.f k A (E.map cv) T (M.map cm) s) (maskS A E T M s) := by
  unfold heraldref15_Mask.f maskS
  refine Ev.bind (rvocab_f T M) ?_
  by_cases hv : (vcheckS T M).2 = 0
  · simp only [hv, if_true]
    refine Ev.bind (rCheck_f A E) ?_
    by_cases hc : (checkS A E).2 = 0
    · simp only [hc, if_true]
      obtain ⟨v1, v2, v3⟩ := vcheckS_ok hv
      have hsz := okT_size v3
      by_cases hA0 : A.length = 0
      · have e12 : decide ((A.length : Int) > 0) = false := decide_eq_false (by omega)
        simp only [show ¬ (A.length : Int) > 0 by omega, if_false]
        have bad : badS A s → Ev (fun k => heraldref15_Mask.j4 k s false true A (E.map cv) T (M.map cm)) (if badS A s then (([] : List Bool), (1 : Int)) else (maskL A E T s, 0)) := fun h => by
          rw [if_pos h]
          exact Ev.step (fun k => by simp only [heraldref15_Mask.j4, if_true]) (Ev.now _)
        have ok : ¬ badS A s → Ev (fun k => heraldref15_Mask.j4 k s false false A (E.map cv) T (M.map cm)) (if badS A s then (([] : List Bool), (1 : Int)) else (maskL A E T s, 0)) := fun h => by
          rw [if_neg h]
          refine ev_succ ?_
          simp only [heraldref15_Mask.j4, Bool.false_eq_true, if_false]
          have hl := rmask_l0 A E T (M.map cm) hc hsz v2 v1 s h
          rw [e12] at hl
          exact Ev.bind (rAlive_f A E hA hE) hl
        by_cases h1 : s = -1
        · simp only [h1, if_true] at ok ⊢
          exact ok (fun h => h.1 rfl)
        · simp only [h1, if_false]
          by_cases h0 : s = 0
          · rw [show (s != 0) = false by simp [h0]]
            exact ok (fun h => by have := h.2; rw [if_pos hA0] at this; exact this h0)
          · rw [show (s != 0) = true by simp [h0]]
            exact bad ⟨h1, by rw [if_pos hA0]; exact h0⟩
      · have e12 : decide ((A.length : Int) > 0) = true := decide_eq_true (by omega)
        simp only [show (A.length : Int) > 0 by omega, if_true]
        have bad : badS A s → Ev (fun k => heraldref15_Mask.j0 k s true true A (E.map cv) T (M.map cm)) (if badS A s then (([] : List Bool), (1 : Int)) else (maskL A E T s, 0)) := fun h => by
          rw [if_pos h]
          exact Ev.step (fun k => by simp only [heraldref15_Mask.j0, if_true]) (Ev.now _)
        have ok : ¬ badS A s → Ev (fun k => heraldref15_Mask.j0 k s true false A (E.map cv) T (M.map cm)) (if badS A s then (([] : List Bool), (1 : Int)) else (maskL A E T s, 0)) := fun h => by
          rw [if_neg h]
          refine ev_succ ?_
          simp only [heraldref15_Mask.j0, Bool.false_eq_true, if_false]
          have hl := rmask_l0 A E T (M.map cm) hc hsz v2 v1 s h
          rw [e12] at hl
          exact Ev.bind (rAlive_f A E hA hE) hl
        by_cases h1 : s = -1
        · simp only [h1, if_true] at ok ⊢
          exact ok (fun h => h.1 rfl)
        · simp only [h1, if_false, state_f, Option.bind_some, decide_eq_true_eq]
          by_cases h0 : isS A s
          · simp only [h0, if_true]
            exact ok (fun h => by have := h.2; rw [if_neg hA0] at this; exact this h0)
          · simp only [h0, if_false]
            exact bad ⟨h1, by rw [if_neg hA0]; exact h0⟩
    · simp only [hc, if_false]; exact Ev.now _
  · simp only [hv, if_false]; exact Ev.now _
end Go.Proofs.Ytfjpnmhbbfiaaaa.L
