/- Lemmas on the printed functions: what each answers, in plain words of Lean; on condition that the numbers are of their kinds. -/
import Derived.Test.YtfjpnmhbbfiaaaaZGSPx1
import Derived.Test.YtfjpnmhbbfiaaaaZGSPx10
import Derived.Test.YtfjpnmhbbfiaaaaZGSPx11
import Derived.Test.YtfjpnmhbbfiaaaaZGSPx12
import Derived.Test.YtfjpnmhbbfiaaaaZGSPx13
import Derived.Test.YtfjpnmhbbfiaaaaZGSPx2
import Derived.Test.YtfjpnmhbbfiaaaaZGSPx3
import Derived.Test.YtfjpnmhbbfiaaaaZGSPx4
import Derived.Test.YtfjpnmhbbfiaaaaZGSPx5
import Derived.Test.YtfjpnmhbbfiaaaaZGSPx6
import Derived.Test.YtfjpnmhbbfiaaaaZGSPx7
import Derived.Test.YtfjpnmhbbfiaaaaZGSPx9
import Derived.Test.YtfjpnmhbbfiaaaaZGSMath
namespace Go.Proofs.Ytfjpnmhbbfiaaaa.L
open Go Go.RowKit Go.Proofs.Ytfjpnmhbbfiaaaa.M Go.Proofs.Ytfjpnmhbbfiaaaa.P Go.Proofs.YtfjpnmhbbfiaaaaW.PrintWords Go.Proofs.YtfjpnmhbbfiaaaaW.PrintLast Go.Proofs.YtfjpnmhbbfiaaaaW.PrintMore
set_option linter.unusedVariables false
set_option linter.unusedSimpArgs false

/-- A loop by its places: what is known at each place, and what comes of the rest. -/
theorem ev_loop {β : Type} (F : Nat → Nat → Option β) (r : β) (n : Nat) (P : Nat → Prop) (h0 : P 0) (hend : P n → Ev (fun k => F k n) r) (hstep : ∀ i, i < n → P i → (P (i + 1) → Ev (fun k => F k (i + 1)) r) → Ev (fun k => F k i) r) : Ev (fun k => F k 0) r := by
  have key : ∀ d i, i + d = n → P i → Ev (fun k => F k i) r := by
    intro d
    induction d with
    | zero => intro i hi hp; obtain rfl : i = n := by omega
              exact hend hp
    | succ d ih => intro i hi hp; exact hstep i (by omega) hp (fun hp' => ih (i + 1) (by omega) hp')
  exact key n 0 (by omega) h0
theorem ev_succ {β : Type} {g : Nat → Option β} {r : β} (h : Ev (fun k => g (k + 1)) r) : Ev g r := Ev.step (fun _ => rfl) h
theorem take_one {α : Type} {l : List α} {i : Nat} (h : i < l.length) : l.take (i + 1) = l.take i ++ [l[i]] := by
  rw [List.take_add_one]; simp [h]
theorem set_mid0 {α : Type} (a : List α) (x v : α) (b : List α) (i : Nat) (hi : i = a.length) : (a ++ x :: b).set i v = (a ++ [v]) ++ b := by
  subst hi; simp
theorem wone {a : Nat} (h : a ≤ 140737488351232) : wrap64 ((a : Int) + 1) = ((a + 1 : Nat) : Int) := by
  rw [wrap64_id' (by omega) (by omega)]; omega
/-! ### guides: states, edges, what is alive -/
def isS (A : List Bool) (x : Int) : Prop := 0 ≤ x ∧ x < (A.length : Int)
instance (A : List Bool) (x : Int) : Decidable (isS A x) := by unfold isS; exact inferInstance
def ed (E : List S92) (i : Nat) : S92 := rd_T92 E (i : Int)
def T (o : List Bool) (s : Int) : Prop := rdOf false o s = true
instance (o : List Bool) (s : Int) : Decidable (T o s) := by unfold T; exact inferInstance
theorem T_nat {o : List Bool} {i : Nat} : T o (i : Int) ↔ o.getD i false = true := by unfold T rdOf; simp
theorem T_set {o : List Bool} {a : Int} {s : Int} (ha : 0 ≤ a) (hl : a < o.length) (hs : 0 ≤ s) : T (o.set a.toNat true) s ↔ s = a ∨ T o s := by
  unfold T rdOf
  rw [List.getD_eq_getElem?_getD, List.getD_eq_getElem?_getD, List.getElem?_set]
  by_cases c : a.toNat = s.toNat
  · rw [if_pos c, if_pos (by omega)]
    have : s = a := by omega
    simp [this]
  · rw [if_neg c]
    have : ¬ s = a := by omega
    simp [this]
/-- A state from which one that accepts can be reached, along edges that may be. -/
def Live (A : List Bool) (E : List S92) (s : Int) : Prop := ∀ S : Int → Prop, (∀ s, isS A s → T A s → S s) → (∀ i : Nat, i < E.length → isS A (ed E i).f0 → isS A (ed E i).f3 → S (ed E i).f3 → S (ed E i).f0) → S s
theorem Live.acc {A : List Bool} {E : List S92} {s : Int} (h : isS A s) (t : T A s) : Live A E s := fun _ h1 _ => h1 s h t
theorem Live.back {A : List Bool} {E : List S92} {i : Nat} (hi : i < E.length) (h0 : isS A (ed E i).f0) (h3 : isS A (ed E i).f3) (h : Live A E (ed E i).f3) : Live A E (ed E i).f0 := fun S h1 h2 => h2 i hi h0 h3 (h S h1 h2)
open Classical in
noncomputable def liveL (A : List Bool) (E : List S92) : List Bool := (List.range A.length).map fun i : Nat => decide (Live A E (i : Int))
theorem liveL_len (A : List Bool) (E : List S92) : (liveL A E).length = A.length := by simp [liveL]
theorem liveL_T {A : List Bool} {E : List S92} {s : Int} (h : isS A s) : T (liveL A E) s ↔ Live A E s := by
  obtain ⟨n, rfl⟩ : ∃ n : Nat, s = n := ⟨s.toNat, by have := h.1; omega⟩
  have hn : n < A.length := by have := h.2; omega
  rw [T_nat, List.getD_eq_getElem?_getD]
  simp [liveL, hn]
theorem bools_eq {o p : List Bool} (hl : o.length = p.length) (h : ∀ i : Nat, i < o.length → (T o (i : Int) ↔ T p (i : Int))) : o = p := by
  apply List.ext_getElem hl
  intro i h1 h2
  have := h i h1
  rw [T_nat, T_nat, List.getD_eq_getElem?_getD, List.getD_eq_getElem?_getD, List.getElem?_eq_getElem h1, List.getElem?_eq_getElem h2] at this
  simp only [Option.getD_some] at this
  cases h3 : o[i] <;> cases h4 : p[i] <;> simp_all
/-- What holds exactly the live ones. -/
theorem is_live {A : List Bool} {E : List S92} {o : List Bool} (hl : o.length = A.length) (h1 : ∀ s, isS A s → T o s → Live A E s) (h2 : ∀ s, isS A s → T A s → T o s) (h3 : ∀ i : Nat, i < E.length → isS A (ed E i).f0 → isS A (ed E i).f3 → T o (ed E i).f3 → T o (ed E i).f0) : o = liveL A E := by
  refine bools_eq (by rw [liveL_len, hl]) (fun i hi => ?_)
  have hs : isS A (i : Int) := ⟨by omega, by omega⟩
  rw [liveL_T hs]
  exact ⟨h1 _ hs, fun h => h (fun s => T o s) h2 h3⟩
def cnt (o : List Bool) : Nat := o.count false
theorem cnt_set : ∀ (o : List Bool) (i : Nat), i < o.length → o.getD i false = false → cnt (o.set i true) + 1 = cnt o
  | [], i, h, _ => by simp at h
  | x :: t, 0, _, h => by
    have hx : x = false := h
    subst hx
    simp [cnt, List.count_cons]
  | x :: t, i + 1, hi, h => by
    have ih := cnt_set t i (by simpa using hi) (by simpa using h)
    unfold cnt at ih ⊢
    simp only [List.set_cons_succ, List.count_cons]
    omega
theorem isState_f (A : List Bool) (E : List S92) (x : Int) : guide_isState.f A E x = some (decide (isS A x)) := by
  unfold guide_isState.f isS
  by_cases h : x ≥ 0
  · rw [if_pos h]
    by_cases c : x < (A.length : Int)
    · have h' : 0 ≤ x := h
      simp [c, h']
    · simp [c]
  · rw [if_neg h]
    have h' : ¬ 0 ≤ x := h
    simp [h']
/-! ### the states that are alive, from those that accept backwards -/
def Good (A : List Bool) (E : List S92) : Prop := ∀ i : Nat, i < E.length → isS A (ed E i).f0 ∧ isS A (ed E i).f3
def InvB (A : List Bool) (E : List S92) (s : Int) (j : Nat) (o : List Bool) (w : List Int) : Prop := o.length = A.length ∧ (∀ x, isS A x → T o x → Live A E x) ∧ (∀ x ∈ w, isS A x ∧ T o x) ∧ (∀ x, isS A x → T A x → T o x) ∧ (∀ i : Nat, i < E.length → T o (ed E i).f3 → (ed E i).f3 ∈ w ∨ T o (ed E i).f0 ∨ ((ed E i).f3 = s ∧ j ≤ i)) ∧ w.length + cnt o ≤ A.length

theorem alive_l2 (A : List Bool) (E : List S92) (hG : Good A E) (hA : A.length ≤ 64) (hE : E.length ≤ 1024) (s : Int) (hs : isS A s) (M : Nat) (ih : ∀ o w, InvB A E (-1) E.length o w → 2 * cnt o + w.length ≤ M → Ev (fun k => guide_alive.l1 k o w A E) (liveL A E)) : ∀ (d j : Nat) (o : List Bool) (w : List Int), j + d = E.length → InvB A E s j o w → T o s → 2 * cnt o + w.length ≤ M → Ev (fun k => guide_alive.l2 k o w s E E.length j A E) (liveL A E) := by
  intro d
  induction d with
  | zero =>
    intro j o w hj hI hT hM
    obtain rfl : j = E.length := by omega
    obtain ⟨i1, i2, i3, i4, i5, i6⟩ := hI
    refine Ev.step (fun k => ?_) (ih o w ⟨i1, i2, i3, i4, fun i hi ht => ?_, i6⟩ hM)
    · simp only [guide_alive.l2]; rw [if_neg (by omega)]
    · rcases i5 i hi ht with h | h | h
      · exact Or.inl h
      · exact Or.inr (Or.inl h)
      · exact absurd h.2 (by omega)
  | succ d ihd =>
    intro j o w hj hI hT hM
    obtain ⟨i1, i2, i3, i4, i5, i6⟩ := hI
    have hjl : j < E.length := by omega
    obtain ⟨g0, g3⟩ := hG j hjl
    have w1 : j ≤ 140737488351232 := by omega
    have skip : InvB A E s (j + 1) o w → Ev (fun k => guide_alive.l2 k o w s E E.length ((j + 1 : Nat) : Int) A E) (liveL A E) := fun h => ihd (j + 1) o w (by omega) h hT hM
    by_cases c1 : (ed E j).f3 = s
    · have b0 : 0 ≤ (ed E j).f0 := g0.1
      have b1 : (ed E j).f0 < (o.length : Int) := by rw [i1]; exact g0.2
      by_cases c2 : T o (ed E j).f0
      · refine Ev.step (fun k => ?_) (skip ⟨i1, i2, i3, i4, fun i hi ht => ?_, i6⟩)
        · simp only [guide_alive.l2, wone w1]
          unfold ed at c1 c2 b0 b1
          unfold T at c2
          rw [if_pos (by omega), if_pos (by omega), if_pos (by omega), if_pos c1, if_pos b0, if_pos b1, if_pos c2]
        · rcases i5 i hi ht with h | h | h
          · exact Or.inl h
          · exact Or.inr (Or.inl h)
          · by_cases e : i = j
            · subst e; exact Or.inr (Or.inl c2)
            · exact Or.inr (Or.inr ⟨h.1, by omega⟩)
      · have hlt : (ed E j).f0.toNat < o.length := by omega
        have hz : o.getD (ed E j).f0.toNat false = false := by
          unfold T rdOf at c2; simpa using c2
        have hc := cnt_set o _ hlt hz
        have hset := fun x (hx : 0 ≤ x) => T_set (o := o) (a := (ed E j).f0) (s := x) b0 b1 hx
        refine Ev.step (fun k => ?_) (ihd (j + 1) (o.set (ed E j).f0.toNat true) (w ++ [(ed E j).f0]) (by omega) ⟨by simpa using i1, ?_, ?_, ?_, ?_, ?_⟩ ?_ ?_)
        · simp only [guide_alive.l2, wone w1]
          unfold ed at c1 c2 b0 b1 ⊢
          unfold T at c2
          have hw : w.length < 17592186044416 := by omega
          rw [if_pos (by omega), if_pos (by omega), if_pos (by omega), if_pos c1, if_pos b0, if_pos b1, if_neg c2, if_pos hw]
        · intro x hx ht
          rcases (hset x hx.1).mp ht with e | h
          · rw [e]; exact Live.back hjl g0 g3 (by rw [c1]; exact i2 s hs hT)
          · exact i2 x hx h
        · intro x hx
          rcases List.mem_append.mp hx with h | h
          · have := i3 x h
            exact ⟨this.1, (hset x this.1.1).mpr (Or.inr this.2)⟩
          · simp at h; subst h
            exact ⟨g0, (hset _ b0).mpr (Or.inl rfl)⟩
        · intro x hx ht; exact (hset x hx.1).mpr (Or.inr (i4 x hx ht))
        · intro i hi ht
          have gi := hG i hi
          rcases (hset _ gi.2.1).mp ht with e | h
          · exact Or.inl (by rw [e]; simp)
          · rcases i5 i hi h with h | h | h
            · exact Or.inl (List.mem_append_left _ h)
            · exact Or.inr (Or.inl ((hset _ gi.1.1).mpr (Or.inr h)))
            · by_cases e : i = j
              · subst e; exact Or.inr (Or.inl ((hset _ gi.1.1).mpr (Or.inl rfl)))
              · exact Or.inr (Or.inr ⟨h.1, by omega⟩)
        · simp; omega
        · exact (hset s hs.1).mpr (Or.inr hT)
        · simp; omega
    · refine Ev.step (fun k => ?_) (skip ⟨i1, i2, i3, i4, fun i hi ht => ?_, i6⟩)
      · simp only [guide_alive.l2, wone w1]
        unfold ed at c1
        rw [if_pos (by omega), if_pos (by omega), if_pos (by omega), if_neg c1]
      · rcases i5 i hi ht with h | h | h
        · exact Or.inl h
        · exact Or.inr (Or.inl h)
        · by_cases e : i = j
          · subst e; exact absurd h.1 c1
          · exact Or.inr (Or.inr ⟨h.1, by omega⟩)
theorem alive_done {A : List Bool} {E : List S92} {o : List Bool} (hI : InvB A E (-1) E.length o []) : Ev (fun k => guide_alive.l1 k o [] A E) (liveL A E) := by
  obtain ⟨i1, i2, i3, i4, i5, i6⟩ := hI
  have e : o = liveL A E := is_live i1 i2 i4 (fun i hi h0 h3 ht => by
    rcases i5 i hi ht with h | h | h
    · simp at h
    · exact h
    · exact absurd h.2 (by omega))
  rw [← e]
  exact Ev.step (f := fun _ => some o) (fun k => by simp [guide_alive.l1]) (Ev.now _)
theorem alive_l1 (A : List Bool) (E : List S92) (hG : Good A E) (hA : A.length ≤ 64) (hE : E.length ≤ 1024) : ∀ (M : Nat) (o : List Bool) (w : List Int), InvB A E (-1) E.length o w → 2 * cnt o + w.length ≤ M → Ev (fun k => guide_alive.l1 k o w A E) (liveL A E) := by
  intro M
  induction M with
  | zero =>
    intro o w hI hM
    obtain rfl : w = [] := by cases w with
      | nil => rfl
      | cons x t => simp at hM
    exact alive_done hI
  | succ M ih =>
    intro o w hI hM
    cases w with
    | nil => exact alive_done hI
    | cons s t =>
      obtain ⟨i1, i2, i3, i4, i5, i6⟩ := hI
      obtain ⟨hs, hT⟩ := i3 s (by simp)
      refine Ev.step (f := fun k => guide_alive.l2 k o t s E E.length 0 A E) (fun k => ?_) ?_
      · simp only [guide_alive.l1]
        have l0 : (0 : Int) < ((s :: t).length : Int) := by rw [List.length_cons]; omega
        have l1 : (1 : Int) ≤ ((s :: t).length : Int) := by omega
        rw [if_pos l0, if_pos l0, if_pos l1]
        simp [rd]
      · refine alive_l2 A E hG hA hE s hs M ih E.length 0 o t (by omega) ⟨i1, i2, fun x hx => i3 x (by simp [hx]), i4, fun i hi ht => ?_, by simp at i6; omega⟩ hT (by simp at hM; omega)
        rcases i5 i hi ht with h | h | h
        · rcases List.mem_cons.mp h with e | e
          · exact Or.inr (Or.inr ⟨e, by omega⟩)
          · exact Or.inl e
        · exact Or.inr (Or.inl h)
        · exact absurd h.2 (by omega)
def accs (A : List Bool) (i : Nat) : List Int := ((List.range i).filter fun j => A.getD j false).map fun j : Nat => (j : Int)
theorem accs_snoc (A : List Bool) (i : Nat) : accs A (i + 1) = if A.getD i false = true then accs A i ++ [(i : Int)] else accs A i := by
  unfold accs
  have h : List.filter (fun j => A.getD j false) [i] = if A.getD i false = true then [i] else [] := by
    rw [List.filter_cons, List.filter_nil]
  rw [List.range_succ, List.filter_append, List.map_append, h]
  by_cases c : A.getD i false = true
  · rw [if_pos c, if_pos c]; rfl
  · rw [if_neg c, if_neg c]; simp
theorem accs_cnt (A : List Bool) : ∀ i, i ≤ A.length → (accs A i).length + cnt (A.take i) = i
  | 0, _ => by simp [accs, cnt]
  | i + 1, h => by
    have ih := accs_cnt A i (by omega)
    have hg : A.getD i false = A[i] := by rw [List.getD_eq_getElem?_getD, List.getElem?_eq_getElem (by omega)]; rfl
    rw [accs_snoc, take_one (show i < A.length by omega), hg]
    unfold cnt at ih ⊢
    rw [List.count_append]
    cases h3 : A[i]
    · simp [h3]; omega
    · simp [h3]; omega
theorem accs_len (A : List Bool) (i : Nat) : (accs A i).length ≤ i := by
  unfold accs
  rw [List.length_map]
  have := List.length_filter_le (fun j => A.getD j false) (List.range i)
  simpa using this
theorem alive_f (A : List Bool) (E : List S92) (hG : Good A E) (hA : A.length ≤ 64) (hE : E.length ≤ 1024) : Ev (fun k => guide_alive.f k A E) (liveL A E) := by
  unfold guide_alive.f
  simp only [show (0 : Int) ≤ (A.length : Int) by omega, Int.toNat_natCast, show A.length ≤ 281474976710656 by omega, if_true]
  have := ev_loop (fun k i => guide_alive.l0 k (A.take i ++ List.replicate (A.length - i) false) (accs A i) A A.length (i : Int) A E) (liveL A E) A.length (fun _ => True) trivial (fun _ => ?_) (fun i hi _ ih => ?_)
  · simpa [accs] using this
  · refine Ev.step (f := fun k => guide_alive.l1 k A (accs A A.length) A E) (fun k => ?_) ?_
    · simp only [guide_alive.l0]; rw [if_neg (by omega), List.take_length]; simp
    · refine alive_l1 A E hG hA hE _ A (accs A A.length) ⟨rfl, fun x hx ht => Live.acc hx ht, fun x hx => ?_, fun x _ h => h, fun i hi ht => ?_, ?_⟩ (Nat.le_refl _)
      · obtain ⟨j, hj, rfl⟩ := List.mem_map.mp hx
        obtain ⟨h1, h2⟩ := List.mem_filter.mp hj
        have h3 : j < A.length := by simpa using h1
        exact ⟨⟨by omega, by omega⟩, T_nat.mpr h2⟩
      · have g := (hG i hi).2
        obtain ⟨n, hn⟩ : ∃ n : Nat, (ed E i).f3 = n := ⟨(ed E i).f3.toNat, by have := g.1; omega⟩
        rw [hn] at ht g ⊢
        refine Or.inl (List.mem_map.mpr ⟨n, List.mem_filter.mpr ⟨by have := g.2; simp; omega, T_nat.mp ht⟩, rfl⟩)
      · have := accs_cnt A A.length (Nat.le_refl _)
        rw [List.take_length] at this; omega
  · have w1 : i ≤ 140737488351232 := by omega
    have hlen : (A.take i ++ List.replicate (A.length - i) false).length = A.length := by simp; omega
    have hal := accs_len A i
    have hg : A.getD i false = A[i] := by rw [List.getD_eq_getElem?_getD, List.getElem?_eq_getElem (by omega)]; rfl
    have hih := ih trivial
    rw [accs_snoc, take_one hi, hg] at hih
    have hrep : List.replicate (A.length - i) false = false :: List.replicate (A.length - (i + 1)) false := by
      rw [show A.length - i = (A.length - (i + 1)) + 1 by omega, List.replicate_succ]
    cases h3 : A[i]
    · rw [h3] at hih hg
      simp only [Bool.false_eq_true, if_false, List.append_assoc, List.singleton_append] at hih
      rw [← hrep] at hih
      refine Ev.step (fun k => ?_) hih
      have hr : ¬ rdOf false A (i : Int) = true := by unfold rdOf; simpa using hg
      simp only [guide_alive.l0, wone w1]
      rw [if_pos (by omega), if_pos (by omega), if_pos (by omega), if_neg hr]
    · rw [h3] at hih hg
      simp only [if_true] at hih
      refine Ev.step (fun k => ?_) hih
      have hr : rdOf false A (i : Int) = true := by unfold rdOf; simpa using hg
      simp only [guide_alive.l0, wone w1]
      rw [if_pos (by omega), if_pos (by omega), if_pos (by omega), if_pos hr, if_pos (by omega), if_pos (by omega), Int.toNat_natCast, hrep, set_mid0 _ _ _ _ _ (by simp; omega)]

/-! ### what may be wrong with a guide -/
def okE (A : List Bool) (E : List S92) (i : Nat) : Prop := isS A (ed E i).f0 ∧ isS A (ed E i).f3 ∧ (ed E i).f1 ≤ (ed E i).f2 ∧ ∀ j : Nat, j < i → ¬ ((ed E j).f0 = (ed E i).f0 ∧ (ed E j).f1 ≤ (ed E i).f2 ∧ (ed E i).f1 ≤ (ed E j).f2)
noncomputable instance (A : List Bool) (E : List S92) (i : Nat) : Decidable (okE A E i) := Classical.propDecidable _
open Classical in
noncomputable def edgesS (A : List Bool) (E : List S92) : Nat → Int × Int
  | 0 => if A.length > 0 ∧ ¬ Live A E 0 then (0, 152) else (0, 0)
  | d + 1 => if okE A E (E.length - (d + 1)) then edgesS A E d else (((E.length - (d + 1) : Nat) : Int), 151)
noncomputable def checkS (A : List Bool) (E : List S92) : Int × Int := if A.length > 64 then (64, 150) else if E.length > 1024 then (1024, 151) else edgesS A E E.length
theorem edgesS_ok {A : List Bool} {E : List S92} : ∀ (d : Nat), d ≤ E.length → (edgesS A E d).2 = 0 → ∀ i, E.length - d ≤ i → i < E.length → okE A E i
  | 0, _, _, i, h1, h2 => by omega
  | d + 1, hd, h, i, h1, h2 => by
    simp only [edgesS] at h
    split at h
    · rename_i hk
      by_cases e : i = E.length - (d + 1)
      · subst e; exact hk
      · exact edgesS_ok d (by omega) h i (by omega) h2
    · simp at h
theorem checkS_ok {A : List Bool} {E : List S92} (h : (checkS A E).2 = 0) : A.length ≤ 64 ∧ E.length ≤ 1024 ∧ ∀ i, i < E.length → okE A E i := by
  unfold checkS at h
  split at h
  · simp at h
  · split at h
    · simp at h
    · exact ⟨by omega, by omega, fun i hi => edgesS_ok E.length (Nat.le_refl _) h i (by omega) hi⟩
theorem good_of {A : List Bool} {E : List S92} (h : ∀ i, i < E.length → okE A E i) : Good A E := fun i hi => ⟨(h i hi).1, (h i hi).2.1⟩

theorem Check_f (A : List Bool) (E : List S92) : Ev (fun k => guide_Check.f k A E) (checkS A E) := by
  unfold guide_Check.f checkS
  by_cases h1 : A.length > 64
  · rw [if_pos h1]; simp only [show (A.length : Int) > 64 by omega, if_true]; exact Ev.now _
  · rw [if_neg h1]; simp only [show ¬ (A.length : Int) > 64 by omega, if_false]
    by_cases h2 : E.length > 1024
    · rw [if_pos h2]; simp only [show (E.length : Int) > 1024 by omega, if_true]; exact Ev.now _
    · rw [if_neg h2]; simp only [show ¬ (E.length : Int) > 1024 by omega, if_false]
      have key : ∀ (d i : Nat), i + d = E.length → (∀ j, j < i → okE A E j) → Ev (fun k => guide_Check.l0 k E E.length (i : Int) A E) (edgesS A E d) := by
        intro d
        induction d with
        | zero =>
          intro i hi hP
          obtain rfl : i = E.length := by omega
          simp only [edgesS]
          by_cases hn : A.length > 0
          · refine Ev.step (f := fun k => (guide_alive.f k A E).bind fun t => (if 0 < (t.length : Int) then (if rdOf false t 0 = true then (some ((0 : Int), (0 : Int))) else (some (0, 152))) else (none))) (fun k => ?_) ?_
            · simp only [guide_Check.l0]; rw [if_neg (by omega), if_pos (by omega)]
            · refine Ev.bind (alive_f A E (good_of hP) (by omega) (by omega)) ?_
              rw [liveL_len, if_pos (by omega)]
              have hT := liveL_T (A := A) (E := E) (s := 0) ⟨by omega, by omega⟩
              by_cases hL : Live A E 0
              · have ht : rdOf false (liveL A E) 0 = true := hT.mpr hL
                rw [if_pos ht, if_neg (by simp [hL])]; exact Ev.now _
              · have ht : ¬ rdOf false (liveL A E) 0 = true := fun h => hL (hT.mp h)
                rw [if_neg ht, if_pos ⟨hn, hL⟩]; exact Ev.now _
          · refine Ev.step (f := fun _ => some (0, 0)) (fun k => ?_) (by rw [if_neg (by omega)]; exact Ev.now _)
            simp only [guide_Check.l0]; rw [if_neg (by omega), if_neg (by omega)]
        | succ d ih =>
          intro i hi hP
          have ei : E.length - (d + 1) = i := by omega
          simp only [edgesS, ei]
          have w1 : i ≤ 140737488351232 := by omega
          have no : ∀ a b c e, Ev (fun k => guide_Check.j1 k (i : Int) E E.length (i : Int) true A E a b c e) ((i : Int), 151) := fun a b c e => Ev.step (fun k => by simp only [guide_Check.j1, if_true]) (Ev.now _)
          have first : Ev (fun k => (guide_isState.f A E (ed E i).f0).bind fun t143 => (if t143 = true then ((guide_isState.f A E (ed E i).f3).bind fun t144 => (if t144 = true then (guide_Check.j1 k (i : Int) E E.length (i : Int) (decide ((ed E i).f1 > (ed E i).f2)) A E (ed E i).f0 (ed E i).f1 (ed E i).f2 (ed E i).f3) else (guide_Check.j1 k (i : Int) E E.length (i : Int) true A E (ed E i).f0 (ed E i).f1 (ed E i).f2 (ed E i).f3))) else (guide_Check.j1 k (i : Int) E E.length (i : Int) true A E (ed E i).f0 (ed E i).f1 (ed E i).f2 (ed E i).f3))) (if okE A E i then edgesS A E d else ((i : Int), 151)) := by
            simp only [isState_f, Option.bind_some]
            by_cases c0 : isS A (ed E i).f0
            · simp only [c0, decide_true, if_true]
              by_cases c3 : isS A (ed E i).f3
              · simp only [c3, decide_true, if_true]
                by_cases c1 : (ed E i).f1 > (ed E i).f2
                · have hno : ¬ okE A E i := fun h => by have := h.2.2.1; omega
                  rw [if_neg hno]; simp only [c1, decide_true]; exact no _ _ _ _
                · simp only [c1, decide_false]
                  have htl : (E.take i).length = i := by rw [List.length_take]; omega
                  have inner : Ev (fun k => guide_Check.l1 k (i : Int) E E.length (i : Int) (E.take i) (i : Int) 0 A E (ed E i).f0 (ed E i).f1 (ed E i).f2 (ed E i).f3) (if okE A E i then edgesS A E d else ((i : Int), 151)) := by
                    refine ev_loop (fun k j => guide_Check.l1 k (i : Int) E E.length (i : Int) (E.take i) (i : Int) (j : Int) A E (ed E i).f0 (ed E i).f1 (ed E i).f2 (ed E i).f3) _ i (fun j => ∀ q : Nat, q < j → ¬ ((ed E q).f0 = (ed E i).f0 ∧ (ed E q).f1 ≤ (ed E i).f2 ∧ (ed E i).f1 ≤ (ed E q).f2)) (fun q hq => by omega) (fun hp => ?_) (fun j hj hp ih2 => ?_)
                    · have hok : okE A E i := ⟨c0, c3, by omega, hp⟩
                      rw [if_pos hok]
                      refine Ev.step (fun k => ?_) (ih (i + 1) (by omega) (fun q hq => by
                        by_cases e : q = i
                        · subst e; exact hok
                        · exact hP q (by omega)))
                      simp only [guide_Check.l1, wone w1]; rw [if_neg (by omega)]
                    · have w2 : j ≤ 140737488351232 := by omega
                      have er : rd_T92 (E.take i) (j : Int) = ed E j := by
                        unfold ed rd_T92
                        simp only [Int.toNat_natCast, List.getD_eq_getElem?_getD, List.getElem?_take_of_lt hj]
                      by_cases cb : (ed E j).f0 = (ed E i).f0 ∧ (ed E j).f1 ≤ (ed E i).f2 ∧ (ed E i).f1 ≤ (ed E j).f2
                      · have hno : ¬ okE A E i := fun h => h.2.2.2 j hj cb
                        rw [if_neg hno]
                        refine Ev.step (f := fun _ => some ((i : Int), 151)) (fun k => ?_) (Ev.now _)
                        simp only [guide_Check.l1, er, htl]
                        rw [if_pos (by omega), if_pos (by omega), if_pos (by omega), if_pos cb.1, if_pos cb.2.1, if_pos cb.2.2]
                      · refine Ev.step (fun k => ?_) (ih2 (fun q hq => by
                          by_cases e : q = j
                          · subst e; exact cb
                          · exact hp q (by omega)))
                        simp only [guide_Check.l1, er, htl, wone w2]
                        rw [if_pos (by omega), if_pos (by omega), if_pos (by omega)]
                        by_cases d1 : (ed E j).f0 = (ed E i).f0
                        · rw [if_pos d1]
                          by_cases d2 : (ed E j).f1 ≤ (ed E i).f2
                          · rw [if_pos d2, if_neg (fun d3 => cb ⟨d1, d2, d3⟩)]
                          · rw [if_neg d2]
                        · rw [if_neg d1]
                  refine Ev.step (fun k => ?_) inner
                  simp only [guide_Check.j1, Bool.false_eq_true, if_false, Int.toNat_natCast, Option.bind_some, htl]
                  rw [if_pos (by omega), if_pos (by omega)]
              · have hno : ¬ okE A E i := fun h => c3 h.2.1
                rw [if_neg hno]; simp only [c3, decide_false, Bool.false_eq_true, if_false]; exact no _ _ _ _
            · have hno : ¬ okE A E i := fun h => c0 h.1
              rw [if_neg hno]; simp only [c0, decide_false, Bool.false_eq_true, if_false]; exact no _ _ _ _
          refine Ev.step (fun k => ?_) first
          simp only [guide_Check.l0]
          rw [if_pos (by omega), if_pos (by omega), if_pos (by omega)]
          rfl
      exact key E.length 0 (by omega) (fun j hj => by omega)

/-! ### the same guide, as the document has it -/
def cv (e : S92) : S93 := ⟨e.f0, e.f1, e.f2, e.f3⟩
theorem rdc (E : List S92) (i : Nat) : rd_T93 (E.map cv) (i : Int) = cv (ed E i) := by
  unfold ed rd_T93 rd_T92
  simp only [Int.toNat_natCast, List.getD_eq_getElem?_getD, List.getElem?_map]
  cases E[i]? <;> rfl
theorem given_f (A : List Bool) (E : List S92) (hA : A.length ≤ 140737488351232) (hE : E.length ≤ 5864062014634) : Ev (fun k => heraldlaw15_given.f k A E) (A, E.map cv) := by
  unfold heraldlaw15_given.f
  simp only [Option.bind_some, List.length_nil, Nat.zero_add, List.nil_append, show A.length < 140737488355328 by omega, if_true]
  have := ev_loop (fun k i => heraldlaw15_given.l0 k (i : Int) A E A ((E.take i).map cv)) (A, E.map cv) E.length (fun _ => True) trivial (fun _ => ?_) (fun i hi _ ih => ?_)
  · simpa using this
  · refine Ev.step (f := fun _ => some (A, E.map cv)) (fun k => ?_) (Ev.now _)
    simp only [heraldlaw15_given.l0]; rw [if_neg (by omega), List.take_length]
  · have w1 : i ≤ 140737488351232 := by omega
    have hih := ih trivial
    rw [take_one hi, List.map_append] at hih
    have e : (⟨(rd_T92 E (i : Int)).f0, (rd_T92 E (i : Int)).f1, (rd_T92 E (i : Int)).f2, (rd_T92 E (i : Int)).f3⟩ : S93) = cv E[i] := by
      unfold rd_T92 cv
      simp only [Int.toNat_natCast, List.getD_eq_getElem?_getD, List.getElem?_eq_getElem hi, Option.getD_some]
    have hl : ((E.take i).map cv).length < 5864062014805 := by rw [List.length_map, List.length_take]; omega
    refine Ev.step (fun k => ?_) hih
    simp only [heraldlaw15_given.l0, wone w1, e]
    rw [if_pos (by omega), if_pos (by omega), if_pos hl]
    rfl

theorem awake_ev : Ev (fun k => heraldlaw15_awake.f k) true := Ev.of (k := 100) heraldlaw15_awake.mono (by decide +kernel)

theorem state_f (A : List Bool) (E : List S93) (x : Int) : heraldref15_state.f A E x = some (decide (isS A x)) := by
  unfold heraldref15_state.f isS
  by_cases h : x ≥ 0
  · rw [if_pos h]
    by_cases c : x < (A.length : Int)
    · have h' : 0 ≤ x := h
      simp [c, h']
    · simp [c]
  · rw [if_neg h]
    have h' : ¬ 0 ≤ x := h
    simp [h']
/-- One edge gone along backwards; all of them; that so many times. -/
def stepB (A : List Bool) (e : S92) (o : List Bool) : List Bool := if isS A e.f0 ∧ isS A e.f3 ∧ T o e.f3 then o.set e.f0.toNat true else o
def roundB (A : List Bool) (E : List S92) : Nat → List Bool → List Bool
  | 0, o => o
  | d + 1, o => roundB A E d (stepB A (ed E (E.length - (d + 1))) o)
def timesB (A : List Bool) (E : List S92) : Nat → List Bool → List Bool
  | 0, o => o
  | d + 1, o => timesB A E d (roundB A E E.length o)
theorem stepB_len (A : List Bool) (e : S92) (o : List Bool) : (stepB A e o).length = o.length := by
  unfold stepB; split <;> simp
theorem roundB_len (A : List Bool) (E : List S92) : ∀ d o, (roundB A E d o).length = o.length
  | 0, _ => rfl
  | d + 1, o => by rw [roundB, roundB_len A E d, stepB_len]
theorem timesB_len (A : List Bool) (E : List S92) : ∀ d o, (timesB A E d o).length = o.length
  | 0, _ => rfl
  | d + 1, o => by rw [timesB, timesB_len A E d, roundB_len]
theorem stepB_T {A : List Bool} {e : S92} {o : List Bool} (hl : o.length = A.length) {s : Int} (hs : 0 ≤ s) : T (stepB A e o) s ↔ T o s ∨ (s = e.f0 ∧ isS A e.f0 ∧ isS A e.f3 ∧ T o e.f3) := by
  unfold stepB
  split
  · rename_i h
    rw [T_set h.1.1 (by rw [hl]; exact h.1.2) hs]
    constructor
    · rintro (e | e)
      · exact Or.inr ⟨e, h⟩
      · exact Or.inl e
    · rintro (e | e)
      · exact Or.inr e
      · exact Or.inl e.1
  · rename_i h
    constructor
    · exact Or.inl
    · rintro (e | e)
      · exact e
      · exact absurd e.2 h
theorem stepB_cnt {A : List Bool} {e : S92} {o : List Bool} (hl : o.length = A.length) : cnt (stepB A e o) ≤ cnt o ∧ (cnt (stepB A e o) = cnt o → stepB A e o = o) := by
  unfold stepB
  split
  · rename_i h
    have h0 := h.1.1
    have h1 := h.1.2
    by_cases c : o.getD e.f0.toNat false = false
    · have := cnt_set o e.f0.toNat (by omega) c
      exact ⟨by omega, fun h => by omega⟩
    · have c' : o.getD e.f0.toNat false = true := by simpa using c
      have hlt : e.f0.toNat < o.length := by omega
      have e2 : o.set e.f0.toNat true = o := by
        apply List.ext_getElem (by simp)
        intro i h1 h2
        rw [List.getElem_set]
        split
        · rename_i h3; subst h3
          rw [List.getD_eq_getElem?_getD, List.getElem?_eq_getElem hlt] at c'
          simpa using c'.symm
        · rfl
      rw [e2]; exact ⟨Nat.le_refl _, fun _ => rfl⟩
  · exact ⟨Nat.le_refl _, fun _ => rfl⟩
theorem roundB_cnt {A : List Bool} {E : List S92} : ∀ (d : Nat) (o : List Bool), o.length = A.length → cnt (roundB A E d o) ≤ cnt o ∧ (cnt (roundB A E d o) = cnt o → roundB A E d o = o ∧ ∀ i, E.length - d ≤ i → i < E.length → stepB A (ed E i) o = o)
  | 0, o, _ => ⟨Nat.le_refl _, fun _ => ⟨rfl, fun i h1 h2 => by omega⟩⟩
  | d + 1, o, hl => by
    obtain ⟨s1, s2⟩ := stepB_cnt (e := ed E (E.length - (d + 1))) hl
    obtain ⟨r1, r2⟩ := roundB_cnt (A := A) (E := E) d (stepB A (ed E (E.length - (d + 1))) o) (by rw [stepB_len]; exact hl)
    simp only [roundB]
    refine ⟨by omega, fun h => ?_⟩
    have e1 := s2 (by omega)
    obtain ⟨e2, e3⟩ := r2 (by omega)
    rw [e1] at e2 e3
    rw [e1]
    refine ⟨e2, fun i h1 h2 => ?_⟩
    by_cases e : i = E.length - (d + 1)
    · subst e; exact e1
    · exact e3 i (by omega) h2
theorem roundB_mono {A : List Bool} {E : List S92} : ∀ (d : Nat) (o : List Bool), o.length = A.length → (∀ s, 0 ≤ s → T o s → T (roundB A E d o) s) ∧ (d ≤ E.length → (∀ s, isS A s → T o s → Live A E s) → ∀ s, isS A s → T (roundB A E d o) s → Live A E s)
  | 0, o, _ => ⟨fun s _ h => h, fun _ h => h⟩
  | d + 1, o, hl => by
    obtain ⟨r1, r2⟩ := roundB_mono (A := A) (E := E) d (stepB A (ed E (E.length - (d + 1))) o) (by rw [stepB_len]; exact hl)
    simp only [roundB]
    refine ⟨fun s hs h => r1 s hs ((stepB_T hl hs).mpr (Or.inl h)), fun hd hL => r2 (by omega) (fun s hs ht => ?_)⟩
    rcases (stepB_T hl hs.1).mp ht with h | ⟨rfl, h0, h3, h⟩
    · exact hL s hs h
    · exact Live.back (by omega) h0 h3 (hL _ h3 h)
theorem timesB_mono {A : List Bool} {E : List S92} : ∀ (d : Nat) (o : List Bool), o.length = A.length → (∀ s, 0 ≤ s → T o s → T (timesB A E d o) s) ∧ ((∀ s, isS A s → T o s → Live A E s) → ∀ s, isS A s → T (timesB A E d o) s → Live A E s)
  | 0, o, _ => ⟨fun s _ h => h, fun h => h⟩
  | d + 1, o, hl => by
    obtain ⟨r1, r2⟩ := roundB_mono (A := A) (E := E) E.length o hl
    obtain ⟨t1, t2⟩ := timesB_mono (A := A) (E := E) d (roundB A E E.length o) (by rw [roundB_len]; exact hl)
    simp only [timesB]
    exact ⟨fun s hs h => t1 s hs (r1 s hs h), fun hL => t2 (r2 (Nat.le_refl _) hL)⟩
theorem timesB_fix {A : List Bool} {E : List S92} {o : List Bool} (h : roundB A E E.length o = o) : ∀ d, timesB A E d o = o
  | 0 => rfl
  | d + 1 => by rw [timesB, h, timesB_fix h d]
theorem timesB_end {A : List Bool} {E : List S92} : ∀ (d : Nat) (o : List Bool), o.length = A.length → (roundB A E E.length (timesB A E d o) = timesB A E d o ∧ ∀ i, i < E.length → stepB A (ed E i) (timesB A E d o) = timesB A E d o) ∨ cnt (timesB A E d o) + d ≤ cnt o
  | 0, o, hl => Or.inr (by simp [timesB])
  | d + 1, o, hl => by
    have hl' : (roundB A E E.length o).length = A.length := by rw [roundB_len]; exact hl
    obtain ⟨r1, r2⟩ := roundB_cnt (A := A) (E := E) E.length o hl
    simp only [timesB]
    by_cases c : cnt (roundB A E E.length o) = cnt o
    · obtain ⟨e1, e2⟩ := r2 c
      rw [e1, timesB_fix e1]
      exact Or.inl ⟨e1, fun i hi => e2 i (by omega) hi⟩
    · rcases timesB_end d (roundB A E E.length o) hl' with h | h
      · exact Or.inl h
      · exact Or.inr (by omega)
theorem cnt_le (o : List Bool) : cnt o ≤ o.length := List.count_le_length
theorem cnt_all {o : List Bool} (h : cnt o = 0) (i : Nat) (hi : i < o.length) : T o (i : Int) := by
  unfold cnt at h
  rw [List.count_eq_zero] at h
  rw [T_nat, List.getD_eq_getElem?_getD, List.getElem?_eq_getElem hi, Option.getD_some]
  cases hc : o[i]
  · exact absurd (hc ▸ List.getElem_mem hi) h
  · rfl
/-- So many rounds as there are states find all that are alive. -/
theorem timesB_live (A : List Bool) (E : List S92) : timesB A E A.length A = liveL A E := by
  obtain ⟨m1, m2⟩ := timesB_mono (A := A) (E := E) A.length A rfl
  have hlen := timesB_len A E A.length A
  refine is_live hlen (m2 (fun s hs ht => Live.acc hs ht)) (fun s hs ht => m1 s hs.1 ht) (fun i hi h0 h3 ht => ?_)
  rcases timesB_end (A := A) (E := E) A.length A rfl with h | h
  · have := (stepB_T (A := A) (e := ed E i) (o := timesB A E A.length A) hlen h0.1).mpr (Or.inr ⟨rfl, h0, h3, ht⟩)
    rwa [h.2 i hi] at this
  · have hc := cnt_le A
    have hz : cnt (timesB A E A.length A) = 0 := by omega
    obtain ⟨n, hn⟩ : ∃ n : Nat, (ed E i).f0 = n := ⟨(ed E i).f0.toNat, by have := h0.1; omega⟩
    rw [hn]
    have h02 := h0.2
    exact cnt_all hz n (by rw [hlen]; omega)

theorem rAlive_l1 (A : List Bool) (E : List S92) (hE : E.length ≤ 5864062014634) (R : List Bool) (x4 : Int) : ∀ (d i : Nat) (o : List Bool), i + d = E.length → o.length = A.length → Ev (fun k => heraldref15_Alive.l0 k (roundB A E d o) (wrap64 (x4 + 1)) A (E.map cv)) R → Ev (fun k => heraldref15_Alive.l1 k o x4 (i : Int) A (E.map cv)) R := by
  intro d
  induction d with
  | zero =>
    intro i o hi hl h
    obtain rfl : i = E.length := by omega
    refine Ev.step (fun k => ?_) h
    simp only [heraldref15_Alive.l1, List.length_map, roundB]; rw [if_neg (by omega)]
  | succ d ih =>
    intro i o hi hl h
    have ei : E.length - (d + 1) = i := by omega
    simp only [roundB, ei] at h
    have hih := ih (i + 1) (stepB A (ed E i) o) (by omega) (by rw [stepB_len]; exact hl) h
    have w1 : i ≤ 140737488351232 := by omega
    refine Ev.step (fun k => ?_) hih
    have g0 : (rd_T93 (E.map cv) (i : Int)).f0 = (ed E i).f0 := by rw [rdc]; rfl
    have g3 : (rd_T93 (E.map cv) (i : Int)).f3 = (ed E i).f3 := by rw [rdc]; rfl
    simp only [heraldref15_Alive.l1, List.length_map, state_f, Option.bind_some, g0, g3, wone w1]
    rw [if_pos (by omega), if_pos (by omega)]
    by_cases c0 : isS A (ed E i).f0
    · by_cases c3 : isS A (ed E i).f3
      · have d0 := c0.1
        have d1 : (ed E i).f0 < (o.length : Int) := by rw [hl]; exact c0.2
        have d3 := c3.1
        have d4 : (ed E i).f3 < (o.length : Int) := by rw [hl]; exact c3.2
        by_cases c4 : T o (ed E i).f3
        · have es : stepB A (ed E i) o = o.set (ed E i).f0.toNat true := by unfold stepB; rw [if_pos ⟨c0, c3, c4⟩]
          have c4' := c4
          unfold T at c4'
          rw [es]
          simp only [c0, c3, decide_true, if_true, d0, d1, d3, d4, c4']
        · have es : stepB A (ed E i) o = o := by unfold stepB; rw [if_neg (fun h => c4 h.2.2)]
          have c4' := c4
          unfold T at c4'
          rw [es]
          simp only [c0, c3, decide_true, if_true, d3, d4]
          rw [if_neg c4']
      · have es : stepB A (ed E i) o = o := by unfold stepB; rw [if_neg (fun h => c3 h.2.1)]
        rw [es]
        simp only [c0, c3, decide_true, if_true, decide_false, Bool.false_eq_true, if_false]
    · have es : stepB A (ed E i) o = o := by unfold stepB; rw [if_neg (fun h => c0 h.1)]
      rw [es]
      simp only [c0, decide_false, Bool.false_eq_true, if_false]
theorem rAlive_f (A : List Bool) (E : List S92) (hA : A.length ≤ 140737488351232) (hE : E.length ≤ 5864062014634) : Ev (fun k => heraldref15_Alive.f k A (E.map cv)) (liveL A E) := by
  unfold heraldref15_Alive.f
  simp only [Option.bind_some, List.length_nil, Nat.zero_add, List.nil_append, show A.length < 140737488355328 by omega, if_true]
  rw [← timesB_live]
  have key : ∀ (d i : Nat) (o : List Bool), i + d = A.length → o.length = A.length → Ev (fun k => heraldref15_Alive.l0 k o (i : Int) A (E.map cv)) (timesB A E d o) := by
    intro d
    induction d with
    | zero =>
      intro i o hi hl
      refine Ev.step (f := fun _ => some o) (fun k => ?_) (Ev.now _)
      simp only [heraldref15_Alive.l0]; rw [if_neg (by omega)]
    | succ d ih =>
      intro i o hi hl
      have w1 : i ≤ 140737488351232 := by omega
      refine Ev.step (f := fun k => heraldref15_Alive.l1 k o (i : Int) 0 A (E.map cv)) (fun k => ?_) ?_
      · simp only [heraldref15_Alive.l0]; rw [if_pos (by omega)]
      · refine rAlive_l1 A E hE _ (i : Int) E.length 0 o (by omega) hl ?_
        rw [wone w1]
        exact ih (i + 1) (roundB A E E.length o) (by omega) (by rw [roundB_len]; exact hl)
  exact key A.length 0 A (by omega) rfl

theorem edge_f (A : List Bool) (E : List S92) (hE : E.length ≤ 1024) (i : Nat) (hi : i < E.length) : Ev (fun k => heraldref15_edge.f k A (E.map cv) (i : Int)) (decide (okE A E i)) := by
  have g0 : (rd_T93 (E.map cv) (i : Int)).f0 = (ed E i).f0 := by rw [rdc]; rfl
  have g1 : (rd_T93 (E.map cv) (i : Int)).f1 = (ed E i).f1 := by rw [rdc]; rfl
  have g2 : (rd_T93 (E.map cv) (i : Int)).f2 = (ed E i).f2 := by rw [rdc]; rfl
  have g3 : (rd_T93 (E.map cv) (i : Int)).f3 = (ed E i).f3 := by rw [rdc]; rfl
  unfold heraldref15_edge.f
  simp only [show (0 : Int) ≤ (i : Int) by omega, List.length_map, show (i : Int) < (E.length : Int) by omega, if_true, state_f, Option.bind_some, g0, g1, g2, g3]
  have no : ∀ a b c e, Ev (fun k => heraldref15_edge.j0 k (i : Int) true A (E.map cv) a b c e) false := fun a b c e => Ev.step (fun k => by simp only [heraldref15_edge.j0, if_true]) (Ev.now _)
  by_cases c0 : isS A (ed E i).f0
  · simp only [c0, decide_true, if_true]
    by_cases c3 : isS A (ed E i).f3
    · simp only [c3, decide_true, if_true]
      by_cases c1 : (ed E i).f1 > (ed E i).f2
      · have hno : ¬ okE A E i := fun h => by have := h.2.2.1; omega
        rw [decide_eq_false hno]; simp only [c1, decide_true]; exact no _ _ _ _
      · simp only [c1, decide_false]
        refine ev_succ ?_
        simp only [heraldref15_edge.j0, Bool.false_eq_true, if_false]
        refine ev_loop (fun k j => heraldref15_edge.l0 k (i : Int) (j : Int) A (E.map cv) (ed E i).f0 (ed E i).f1 (ed E i).f2 (ed E i).f3) _ i (fun j => ∀ q : Nat, q < j → ¬ ((ed E q).f0 = (ed E i).f0 ∧ (ed E q).f1 ≤ (ed E i).f2 ∧ (ed E i).f1 ≤ (ed E q).f2)) (fun q hq => by omega) (fun hp => ?_) (fun j hj hp ih2 => ?_)
        · have hok : okE A E i := ⟨c0, c3, by omega, hp⟩
          rw [decide_eq_true hok]
          refine Ev.step (f := fun _ => some true) (fun k => ?_) (Ev.now _)
          simp only [heraldref15_edge.l0]; rw [if_neg (by omega)]
        · have w2 : j ≤ 140737488351232 := by omega
          have h0 : (rd_T93 (E.map cv) (j : Int)).f0 = (ed E j).f0 := by rw [rdc]; rfl
          have h1 : (rd_T93 (E.map cv) (j : Int)).f1 = (ed E j).f1 := by rw [rdc]; rfl
          have h2 : (rd_T93 (E.map cv) (j : Int)).f2 = (ed E j).f2 := by rw [rdc]; rfl
          by_cases cb : (ed E j).f0 = (ed E i).f0 ∧ (ed E j).f1 ≤ (ed E i).f2 ∧ (ed E i).f1 ≤ (ed E j).f2
          · have hno : ¬ okE A E i := fun h => h.2.2.2 j hj cb
            rw [decide_eq_false hno]
            refine Ev.step (f := fun _ => some false) (fun k => ?_) (Ev.now _)
            simp only [heraldref15_edge.l0, h0, h1, h2, List.length_map]
            rw [if_pos (by omega), if_pos (by omega), if_pos (by omega), if_pos cb.1, if_pos cb.2.1, if_pos cb.2.2]
          · refine Ev.step (fun k => ?_) (ih2 (fun q hq => by
              by_cases e : q = j
              · subst e; exact cb
              · exact hp q (by omega)))
            simp only [heraldref15_edge.l0, h0, h1, h2, List.length_map, wone w2]
            rw [if_pos (by omega), if_pos (by omega), if_pos (by omega)]
            by_cases d1 : (ed E j).f0 = (ed E i).f0
            · rw [if_pos d1]
              by_cases d2 : (ed E j).f1 ≤ (ed E i).f2
              · rw [if_pos d2, if_neg (fun d3 => cb ⟨d1, d2, d3⟩)]
              · rw [if_neg d2]
            · rw [if_neg d1]
    · have hno : ¬ okE A E i := fun h => c3 h.2.1
      rw [decide_eq_false hno]; simp only [c3, decide_false, Bool.false_eq_true, if_false]; exact no _ _ _ _
  · have hno : ¬ okE A E i := fun h => c0 h.1
    rw [decide_eq_false hno]; simp only [c0, decide_false, Bool.false_eq_true, if_false]; exact no _ _ _ _
theorem rCheck_f (A : List Bool) (E : List S92) : Ev (fun k => heraldref15_Check.f k A (E.map cv)) (checkS A E) := by
  unfold heraldref15_Check.f checkS
  simp only [List.length_map]
  by_cases h1 : A.length > 64
  · rw [if_pos h1]; simp only [show (A.length : Int) > 64 by omega, if_true]; exact Ev.now _
  · rw [if_neg h1]; simp only [show ¬ (A.length : Int) > 64 by omega, if_false]
    by_cases h2 : E.length > 1024
    · rw [if_pos h2]; simp only [show (E.length : Int) > 1024 by omega, if_true]; exact Ev.now _
    · rw [if_neg h2]; simp only [show ¬ (E.length : Int) > 1024 by omega, if_false]
      have key : ∀ (d i : Nat), i + d = E.length → Ev (fun k => heraldref15_Check.l0 k (i : Int) A (E.map cv)) (edgesS A E d) := by
        intro d
        induction d with
        | zero =>
          intro i hi
          simp only [edgesS]
          by_cases hn : A.length > 0
          · refine Ev.step (f := fun k => (heraldref15_Alive.f k A (E.map cv)).bind fun t => (if 0 < (t.length : Int) then (if rdOf false t 0 = true then (some ((0 : Int), (0 : Int))) else (some (0, 152))) else (none))) (fun k => ?_) ?_
            · simp only [heraldref15_Check.l0, List.length_map]; rw [if_neg (by omega), if_pos (by omega)]
            · refine Ev.bind (rAlive_f A E (by omega) (by omega)) ?_
              rw [liveL_len, if_pos (by omega)]
              have hT := liveL_T (A := A) (E := E) (s := 0) ⟨by omega, by omega⟩
              by_cases hL : Live A E 0
              · have ht : rdOf false (liveL A E) 0 = true := hT.mpr hL
                rw [if_pos ht, if_neg (by simp [hL])]; exact Ev.now _
              · have ht : ¬ rdOf false (liveL A E) 0 = true := fun h => hL (hT.mp h)
                rw [if_neg ht, if_pos ⟨hn, hL⟩]; exact Ev.now _
          · refine Ev.step (f := fun _ => some (0, 0)) (fun k => ?_) (by rw [if_neg (by omega)]; exact Ev.now _)
            simp only [heraldref15_Check.l0, List.length_map]; rw [if_neg (by omega), if_neg (by omega)]
        | succ d ih =>
          intro i hi
          have ei : E.length - (d + 1) = i := by omega
          simp only [edgesS, ei]
          have w1 : i ≤ 140737488351232 := by omega
          refine Ev.step (f := fun k => (heraldref15_edge.f k A (E.map cv) (i : Int)).bind fun t => if t = true then heraldref15_Check.l0 k ((i + 1 : Nat) : Int) A (E.map cv) else some ((i : Int), 151)) (fun k => ?_) ?_
          · simp only [heraldref15_Check.l0, List.length_map, wone w1]
            rw [if_pos (by omega)]
          · refine Ev.bind (edge_f A E (by omega) i (by omega)) ?_
            by_cases hk : okE A E i
            · rw [decide_eq_true hk, if_pos hk]; simp only [if_true]; exact ih (i + 1) (by omega)
            · rw [decide_eq_false hk, if_neg hk]; simp only [Bool.false_eq_true, if_false]; exact Ev.now _
      exact key E.length 0 (by omega)

/-! ### where a text leads -/
def fits (e : S92) (s x : Int) : Prop := e.f0 = s ∧ e.f1 ≤ x ∧ x ≤ e.f2
instance (e : S92) (s x : Int) : Decidable (fits e s x) := by unfold fits; exact inferInstance
/-- The state behind a byte: along the first edge that fits, of those from place E.length - d on; -1: none does. -/
def nextS (E : List S92) (s x : Int) : Nat → Int
  | 0 => -1
  | d + 1 => if fits (ed E (E.length - (d + 1))) s x then (ed E (E.length - (d + 1))).f3 else nextS E s x d
def walkGo (E : List S92) (t : ByteArray) (s : Int) : Nat → Int
  | 0 => s
  | d + 1 => if nextS E s (bt t ((t.size - (d + 1) : Nat) : Int)) E.length < 0 then -1 else walkGo E t (nextS E s (bt t ((t.size - (d + 1) : Nat) : Int)) E.length) d
noncomputable def walkS (A : List Bool) (E : List S92) (s : Int) (t : ByteArray) : Int := if A.length = 0 then (if s = 0 then 0 else -1) else if isS A s then walkGo E t s t.size else -1
noncomputable def WalkS (A : List Bool) (E : List S92) (s : Int) (t : ByteArray) : Int := if (checkS A E).2 = 0 then walkS A E s t else -1
theorem nextS_in {A : List Bool} {E : List S92} (h : ∀ i, i < E.length → okE A E i) (s x : Int) : ∀ d, d ≤ E.length → nextS E s x d = -1 ∨ isS A (nextS E s x d)
  | 0, _ => Or.inl rfl
  | d + 1, hd => by
    simp only [nextS]
    split
    · exact Or.inr (h _ (by omega)).2.1
    · exact nextS_in h s x d (by omega)
theorem walkGo_in {A : List Bool} {E : List S92} (h : ∀ i, i < E.length → okE A E i) (t : ByteArray) : ∀ (d : Nat) (s : Int), isS A s → walkGo E t s d = -1 ∨ isS A (walkGo E t s d)
  | 0, s, hs => Or.inr hs
  | d + 1, s, hs => by
    simp only [walkGo]
    split
    · exact Or.inl rfl
    · rename_i hn
      rcases nextS_in h s (bt t ((t.size - (d + 1) : Nat) : Int)) E.length (Nat.le_refl _) with e | e
      · rw [e] at hn; omega
      · exact walkGo_in h t d _ e

theorem walk_l1 (A : List Bool) (E : List S92) (hE : E.length ≤ 1024) (hG : ∀ i, i < E.length → okE A E i) (t : ByteArray) (ht : t.size ≤ 4611686018427387904) (x22 : Nat) (hx : x22 < t.size) (s R : Int) (h : nextS E s (bt t (x22 : Int)) E.length < 0 → R = -1) (h2 : ¬ nextS E s (bt t (x22 : Int)) E.length < 0 → Ev (fun k => guide_walk.l0 k (nextS E s (bt t (x22 : Int)) E.length) t t.size ((x22 + 1 : Nat) : Int) A E) R) : Ev (fun k => guide_walk.l1 k s t (x22 : Int) t.size (x22 : Int) E E.length 0 A E) R := by
  have w0 : wrap64 ((x22 : Int) + 1) = ((x22 + 1 : Nat) : Int) := by rw [wrap64_id' (by omega) (by omega)]; omega
  have x0 : (0 : Int) ≤ (x22 : Int) := by omega
  have x1 : (x22 : Int) < (t.size : Int) := by omega
  have key : ∀ (d i : Nat), i + d = E.length → nextS E s (bt t (x22 : Int)) E.length = nextS E s (bt t (x22 : Int)) d → Ev (fun k => guide_walk.l1 k s t (x22 : Int) t.size (x22 : Int) E E.length (i : Int) A E) R := by
    clear w0
    intro d
    induction d with
    | zero =>
      intro i hi hn
      have hR := h (by rw [hn]; simp [nextS])
      subst hR
      refine Ev.step (f := fun _ => some (-1)) (fun k => ?_) (Ev.now _)
      simp only [guide_walk.l1]; rw [if_neg (by omega)]
    | succ d ih =>
      intro i hi hn
      have ei : E.length - (d + 1) = i := by omega
      have w1 : i ≤ 140737488351232 := by omega
      have w3 : x22 + 1 ≤ 4611686018427387904 := by omega
      have w2 : wrap64 ((x22 : Int) + 1) = ((x22 + 1 : Nat) : Int) := by clear ih; rw [wrap64_id' (by omega) (by omega)]; omega
      have p1 : (i : Int) < (E.length : Int) := by clear w2; omega
      have p2 : (0 : Int) ≤ (i : Int) := by clear w2; omega
      simp only [nextS, ei] at hn
      by_cases cf : fits (ed E i) s (bt t (x22 : Int))
      · rw [if_pos cf] at hn
        obtain ⟨f1, f2, f3⟩ := cf
        have hs := (hG i (by clear w2; omega)).2.1
        have hlt : ¬ nextS E s (bt t (x22 : Int)) E.length < 0 := by rw [hn]; have := hs.1; clear w2; omega
        have hgo := h2 hlt
        rw [hn] at hgo
        refine Ev.step (fun k => ?_) hgo
        simp only [guide_walk.l1, w2]
        unfold ed at f1 f2 f3 ⊢
        rw [if_pos p1, if_pos p2, if_pos p1, if_pos f1, if_pos x0, if_pos x1, if_pos f2, if_pos f3]
      · rw [if_neg cf] at hn
        refine Ev.step (fun k => ?_) (ih (i + 1) (by clear w2; omega) hn)
        simp only [guide_walk.l1, wone w1]
        unfold fits ed at cf
        rw [if_pos p1, if_pos p2, if_pos p1]
        by_cases d1 : (rd_T92 E (i : Int)).f0 = s
        · rw [if_pos d1, if_pos x0, if_pos x1]
          by_cases d2 : (rd_T92 E (i : Int)).f1 ≤ bt t (x22 : Int)
          · rw [if_pos d2, if_neg (fun d3 => cf ⟨d1, d2, d3⟩)]
          · rw [if_neg d2]
        · rw [if_neg d1]
  exact key E.length 0 (by omega) rfl
theorem walk_f (A : List Bool) (E : List S92) (hE : E.length ≤ 1024) (hG : ∀ i, i < E.length → okE A E i) (s : Int) (t : ByteArray) (ht : t.size ≤ 4611686018427387904) : Ev (fun k => guide_walk.f k A E s t) (walkS A E s t) := by
  unfold guide_walk.f walkS
  by_cases hn : A.length = 0
  · rw [if_pos hn]; simp only [show (A.length : Int) = 0 by omega, if_true]
    split
    · exact Ev.now _
    · exact Ev.now _
  · rw [if_neg hn]; simp only [show ¬ (A.length : Int) = 0 by omega, if_false, isState_f, Option.bind_some]
    by_cases hs : isS A s
    · rw [if_pos hs]; simp only [hs, decide_true, if_true]
      have key : ∀ (d i : Nat) (s : Int), i + d = t.size → Ev (fun k => guide_walk.l0 k s t t.size (i : Int) A E) (walkGo E t s d) := by
        intro d
        induction d with
        | zero =>
          intro i s hi
          refine Ev.step (f := fun _ => some s) (fun k => ?_) (Ev.now _)
          simp only [guide_walk.l0]; rw [if_neg (by omega)]
        | succ d ih =>
          intro i s hi
          have ei : t.size - (d + 1) = i := by omega
          simp only [walkGo, ei]
          refine Ev.step (f := fun k => guide_walk.l1 k s t (i : Int) t.size (i : Int) E E.length 0 A E) (fun k => ?_) ?_
          · simp only [guide_walk.l0]; rw [if_pos (by omega)]
          · refine walk_l1 A E hE hG t ht i (by omega) s _ (fun h => by rw [if_pos h]) (fun h => ?_)
            rw [if_neg h]; exact ih (i + 1) _ (by omega)
      exact key t.size 0 s (by omega)
    · rw [if_neg hs]; simp only [hs, decide_false, Bool.false_eq_true, if_false]; exact Ev.now _

noncomputable def acceptsS (A : List Bool) (E : List S92) (t : ByteArray) : Bool := if (checkS A E).2 = 0 then (if A.length = 0 then true else if walkS A E 0 t ≥ 0 then rdOf false A (walkS A E 0 t) else false) else false
theorem walkS_lt {A : List Bool} {E : List S92} (h : ∀ i, i < E.length → okE A E i) (hn : A.length ≠ 0) (s : Int) (t : ByteArray) : walkS A E s t = -1 ∨ isS A (walkS A E s t) := by
  unfold walkS
  rw [if_neg hn]
  split
  · rename_i hs; exact walkGo_in h t _ s hs
  · exact Or.inl rfl
theorem Accepts_f (A : List Bool) (E : List S92) (t : ByteArray) (ht : t.size ≤ 4611686018427387904) : Ev (fun k => guide_Accepts.f k A E t) (acceptsS A E t) := by
  unfold guide_Accepts.f acceptsS
  refine Ev.bind (Check_f A E) ?_
  by_cases h : (checkS A E).2 = 0
  · obtain ⟨h1, h2, h3⟩ := checkS_ok h
    simp only [h, if_true]
    by_cases hn : A.length = 0
    · rw [if_pos hn]; simp only [show (A.length : Int) = 0 by omega, if_true]; exact Ev.now _
    · rw [if_neg hn]; simp only [show ¬ (A.length : Int) = 0 by omega, if_false]
      refine Ev.bind (walk_f A E h2 h3 0 t ht) ?_
      by_cases hw : walkS A E 0 t ≥ 0
      · rcases walkS_lt h3 hn 0 t with e | e
        · rw [e] at hw; exact absurd hw (by decide)
        · simp only [hw, if_true, e.1, e.2]; exact Ev.now _
      · simp only [hw, if_false]; exact Ev.now _
  · simp only [h, if_false]; exact Ev.now _
end Go.Proofs.Ytfjpnmhbbfiaaaa.L
