/- Machines: what leads where, by which byte: of a guide, of two guides; which states are alive, which are alike; the least guide; a shortest text. Without the program. No conditions beyond those that each theorem names. -/
import Derived.Test.YtfjpnmhbbfiaaaaZGSPx0
namespace Go.Proofs.Ytfjpnmhbbfiaaaa.Mach
open Go.Proofs.Ytfjpnmhbbfiaaaa.P
set_option linter.unusedVariables false
set_option linter.unusedSimpArgs false
def run (δ : Int → Int → Int) (s : Int) : List Int → Int
  | [] => s
  | x :: l => run δ (δ s x) l
def Byte (x : Int) : Prop := 0 ≤ x ∧ x ≤ 255
def Bytes (l : List Int) : Prop := ∀ x ∈ l, Byte x
theorem Bytes.tail {x : Int} {l : List Int} (h : Bytes (x :: l)) : Bytes l := fun y hy => h y (List.mem_cons_of_mem _ hy)
theorem Bytes.head {x : Int} {l : List Int} (h : Bytes (x :: l)) : Byte x := h x List.mem_cons_self
def In (n : Nat) (s : Int) : Prop := 0 ≤ s ∧ s < (n : Int)
def St (n : Nat) (s : Int) : Prop := s = -1 ∨ In n s
/-- A machine: what leads nowhere stays nowhere; what leads somewhere leads to a state. -/
structure Ok (n : Nat) (δ : Int → Int → Int) (acc : Int → Bool) : Prop where
  dead : ∀ x, δ (-1) x = -1
  to_ : ∀ s x, In n s → Byte x → St n (δ s x)
  no : acc (-1) = false
theorem Ok.st {n : Nat} {δ : Int → Int → Int} {acc : Int → Bool} (h : Ok n δ acc) {s x : Int} (hs : St n s) (hx : Byte x) : St n (δ s x) := by
  rcases hs with rfl | hs
  · exact .inl (h.dead x)
  · exact h.to_ s x hs hx
theorem run_dead {δ : Int → Int → Int} (h : ∀ x, δ (-1) x = -1) : ∀ l, run δ (-1) l = -1
  | [] => rfl
  | x :: l => by show run δ (δ (-1) x) l = -1; rw [h x]; exact run_dead h l
def CN (cl : Int → Int) (s : Int) : Int := if s = -1 then -1 else cl s
/-- Classes: the dead ones are dead; what is of one class says the same, and leads to one class. -/
structure Cls (n : Nat) (δ : Int → Int → Int) (acc : Int → Bool) (cl : Int → Int) : Prop where
  gone : ∀ s, In n s → cl s = -1 → ∀ l, Bytes l → acc (run δ s l) = false
  live : ∀ s, In n s → cl s ≠ -1 → ∃ l, Bytes l ∧ acc (run δ s l) = true
  same : ∀ s s', In n s → In n s' → cl s ≠ -1 → cl s = cl s' → acc s = acc s' ∧ ∀ x, Byte x → CN cl (δ s x) = CN cl (δ s' x)
section
variable {n : Nat} {δ : Int → Int → Int} {acc : Int → Bool} {cl : Int → Int}
theorem Cls.cn_gone (M : Ok n δ acc) (C : Cls n δ acc cl) {s : Int} (hs : St n s) (h : CN cl s = -1) {l : List Int} (hl : Bytes l) : acc (run δ s l) = false := by
  rcases hs with rfl | hs
  · rw [run_dead M.dead, M.no]
  · have h0 : ¬ s = -1 := by have := hs.1; omega
    unfold CN at h
    rw [if_neg h0] at h
    exact C.gone s hs h l hl
theorem cn_in {s : Int} (hs : St n s) (h : CN cl s ≠ -1) : In n s ∧ CN cl s = cl s := by
  rcases hs with rfl | hs
  · exact absurd (if_pos rfl) h
  · exact ⟨hs, if_neg (by have := hs.1; omega)⟩
/-- The guide that is read off the classes says what the machine says. -/
theorem guide_says (M : Ok n δ acc) (C : Cls n δ acc cl) {k : Nat} {ord : Int → Int} {A : Int → Bool} {ν : Int → Int → Int}
    (ho : ∀ i, In k i → In n (ord i) ∧ cl (ord i) ≠ -1) (hA : ∀ i, In k i → A i = acc (ord i))
    (hd : ∀ x, ν (-1) x = -1) (hA0 : A (-1) = false)
    (hν : ∀ i x, In k i → Byte x → (CN cl (δ (ord i) x) = -1 → ν i x = -1) ∧ (CN cl (δ (ord i) x) ≠ -1 → In k (ν i x) ∧ cl (ord (ν i x)) = CN cl (δ (ord i) x))) :
    ∀ l, Bytes l → ∀ i s, In k i → St n s → CN cl s = cl (ord i) → A (run ν i l) = acc (run δ s l)
  | [], _, i, s, hi, hs, h => by
    show A i = acc s
    have h1 := ho i hi
    have h2 := cn_in hs (by rw [h]; exact h1.2)
    rw [hA i hi]
    exact (C.same (ord i) s h1.1 h2.1 h1.2 (by rw [← h, h2.2])).1
  | x :: l, hl, i, s, hi, hs, h => by
    show A (run ν (ν i x) l) = acc (run δ (δ s x) l)
    have h1 := ho i hi
    have h2 := cn_in hs (by rw [h]; exact h1.2)
    have h3 := (C.same (ord i) s h1.1 h2.1 h1.2 (by rw [← h, h2.2])).2 x hl.head
    have h4 := hν i x hi hl.head
    have hst := M.to_ s x h2.1 hl.head
    by_cases hc : CN cl (δ (ord i) x) = -1
    · rw [h4.1 hc, run_dead hd, hA0, C.cn_gone M hst (by rw [← h3]; exact hc) hl.tail]
    · obtain ⟨h5, h6⟩ := h4.2 hc
      exact guide_says M C ho hA hd hA0 hν l hl.tail _ _ h5 hst (by rw [← h3]; exact h6.symm)
end
theorem nodup_le : ∀ (n : Nat) (l : List Int), l.Nodup → (∀ x ∈ l, In n x) → l.length ≤ n
  | 0, l, _, h => by
    cases l with
    | nil => simp
    | cons x l => have := h x List.mem_cons_self; unfold In at this; omega
  | n + 1, l, hn, h => by
    have h2 : (l.erase (n : Int)).length ≤ n := nodup_le n _ (hn.erase _) (fun x hx => by
      have hm : x ∈ l := List.mem_of_mem_erase hx
      have hne : x ≠ (n : Int) := fun e => by
        subst e
        exact (List.Nodup.mem_erase_iff hn).1 hx |>.1 rfl
      have := h x hm
      unfold In at this ⊢
      omega)
    have h3 : l.length ≤ (l.erase (n : Int)).length + 1 := by
      rw [List.length_erase]; split <;> omega
    omega
/-- An edge. -/
abbrev Ed := S92
def fits (e : Ed) (s x : Int) : Prop := e.f0 = s ∧ e.f1 ≤ x ∧ x ≤ e.f2
def meets (e e' : Ed) : Prop := e.f0 = e'.f0 ∧ e.f1 ≤ e'.f2 ∧ e'.f1 ≤ e.f2
def at_ (l : List Int) (i : Int) : Int := l.getD i.toNat (-1)
/-- Where a class stands in a row of states; its length: nowhere. -/
def posOf (cl : Int → Int) (t : Int) : List Int → Nat
  | [] => 0
  | s :: l => if cl s = t then 0 else posOf cl t l + 1
theorem posOf_le (cl : Int → Int) (t : Int) : ∀ l, posOf cl t l ≤ l.length
  | [] => Nat.le_refl _
  | s :: l => by
    have := posOf_le cl t l
    simp only [posOf, List.length_cons]; split <;> omega
theorem posOf_at {cl : Int → Int} {t : Int} : ∀ {l : List Int}, posOf cl t l < l.length → cl (l.getD (posOf cl t l) (-1)) = t
  | [], h => by simp at h
  | s :: l, h => by
    simp only [posOf, List.length_cons] at h ⊢
    split
    · rename_i e; exact e
    · rename_i e
      rw [if_neg e] at h
      rw [List.getD_cons_succ]
      exact posOf_at (by omega)
theorem posOf_no {cl : Int → Int} {t : Int} : ∀ {l : List Int}, posOf cl t l = l.length → ∀ s ∈ l, cl s ≠ t
  | [], _, s, hs => by simp at hs
  | a :: l, h, s, hs => by
    simp only [posOf, List.length_cons] at h
    split at h
    · omega
    · rename_i e
      rcases List.mem_cons.1 hs with rfl | hs
      · exact e
      · exact posOf_no (by omega) s hs
/-- One byte of a state's row: what comes up is put behind the row of states; edges grow or are put behind. -/
def stepB (δ : Int → Int → Int) (cl : Int → Int) (i : Int) (a : Nat) (x : Int) (st : List Int × List Ed × Int) : List Int × List Ed × Int :=
  if δ i x = -1 ∨ cl (δ i x) = -1 then (st.1, st.2.1, -1) else
    let p := posOf cl (cl (δ i x)) st.1
    let o := if p = st.1.length then st.1 ++ [δ i x] else st.1
    if 0 ≤ st.2.2 ∧ (st.2.1.getD st.2.2.toNat ⟨0, 0, 0, 0⟩).f3 = (p : Int) then (o, st.2.1.set st.2.2.toNat { st.2.1.getD st.2.2.toNat ⟨0, 0, 0, 0⟩ with f2 := x }, st.2.2)
    else (o, st.2.1 ++ [⟨(a : Int), x, x, (p : Int)⟩], (st.2.1.length : Int))
/-- What holds of the row of states. -/
structure Ord (n : Nat) (cl : Int → Int) (o : List Int) : Prop where
  live : ∀ s ∈ o, In n s ∧ cl s ≠ -1
  apart : o.Pairwise fun s t => cl s ≠ cl t
theorem Ord.len {n : Nat} {cl : Int → Int} {o : List Int} (h : Ord n cl o) : o.length ≤ n :=
  nodup_le n o (h.apart.imp fun hne e => hne (by rw [e])) fun x hx => (h.live x hx).1
/-- What holds of the edges ahead of byte x of state a. -/
structure Row (n : Nat) (δ : Int → Int → Int) (cl : Int → Int) (a : Nat) (x : Int) (o : List Int) (E : List Ed) (last : Int) : Prop where
  ord : Ord n cl o
  from_ : ∀ e ∈ E, 0 ≤ e.f0 ∧ e.f0 ≤ (a : Int) ∧ 0 ≤ e.f1 ∧ e.f1 ≤ e.f2 ∧ e.f2 ≤ 255 ∧ 0 ≤ e.f3 ∧ e.f3 < (o.length : Int)
  leads : ∀ e ∈ E, ∀ y, e.f1 ≤ y → y ≤ e.f2 → CN cl (δ (at_ o e.f0) y) = cl (at_ o e.f3)
  all : ∀ (g : Nat) y, Byte y → (g < a ∨ (g = a ∧ y < x)) → CN cl (δ (at_ o g) y) ≠ -1 → ∃ e ∈ E, fits e g y
  mine : ∀ e ∈ E, e.f0 = (a : Int) → e.f2 < x
  apart : E.Pairwise fun e e' => ¬ meets e e'
  end_ : last = -1 ∨ ∃ E0 e, E = E0 ++ [e] ∧ last = (E0.length : Int) ∧ e.f0 = (a : Int) ∧ e.f2 = x - 1
theorem at_left {l m : List Int} {i : Int} (h0 : 0 ≤ i) (h1 : i < (l.length : Int)) : at_ (l ++ m) i = at_ l i := by
  unfold at_
  rw [List.getD_eq_getElem?_getD, List.getD_eq_getElem?_getD, List.getElem?_append_left (by omega)]
theorem at_mem {l : List Int} {i : Int} (h0 : 0 ≤ i) (h1 : i < (l.length : Int)) : at_ l i ∈ l := by
  unfold at_
  rw [List.getD_eq_getElem?_getD, List.getElem?_eq_getElem (by omega)]
  exact List.getElem_mem _
theorem stepB_row {n : Nat} {δ : Int → Int → Int} {acc : Int → Bool} {cl : Int → Int} (M : Ok n δ acc) {a : Nat} {x : Int} {o : List Int} {E : List Ed} {last : Int} (h : Row n δ cl a x o E last) (ha : a < o.length) (hx : Byte x) :
    ∀ r, r = stepB δ cl (at_ o a) a x (o, E, last) → Row n δ cl a (x + 1) r.1 r.2.1 r.2.2 ∧ ∃ m, r.1 = o ++ m := by
  intro r hr
  obtain ⟨hx0, hx1⟩ := hx
  have hia := at_mem (l := o) (i := (a : Int)) (by omega) (by omega)
  have hst := M.to_ _ x (h.ord.live _ hia).1 ⟨hx0, hx1⟩
  unfold stepB at hr
  by_cases hc : δ (at_ o a) x = -1 ∨ cl (δ (at_ o a) x) = -1
  · rw [if_pos hc] at hr
    subst hr
    refine ⟨⟨h.ord, h.from_, h.leads, fun g y hy hg hne => ?_, fun e he hf => by have := h.mine e he hf; omega, h.apart, .inl rfl⟩, [], by simp⟩
    rcases hg with hg | ⟨rfl, hg⟩
    · exact h.all g y hy (.inl hg) hne
    · by_cases e : y = x
      · subst e
        exfalso
        apply hne
        unfold CN
        rcases hc with hc | hc
        · rw [if_pos hc]
        · split
          · rfl
          · exact hc
      · exact h.all g y hy (.inr ⟨rfl, by omega⟩) hne
  · rw [if_neg hc] at hr
    have hc1 : δ (at_ o a) x ≠ -1 := fun e => hc (.inl e)
    have hc2 : cl (δ (at_ o a) x) ≠ -1 := fun e => hc (.inr e)
    have hin : In n (δ (at_ o a) x) := by rcases hst with e | e; exact absurd e hc1; exact e
    have hcn : CN cl (δ (at_ o a) x) = cl (δ (at_ o a) x) := if_neg hc1
    have hpl := posOf_le cl (cl (δ (at_ o a) x)) o
    obtain ⟨p, hp⟩ : ∃ p, p = posOf cl (cl (δ (at_ o a) x)) o := ⟨_, rfl⟩
    rw [← hp] at hpl
    simp only [← hp] at hr
    -- the row of states
    obtain ⟨o', ho'⟩ : ∃ o', o' = if p = o.length then o ++ [δ (at_ o a) x] else o := ⟨_, rfl⟩
    rw [← ho'] at hr
    have hO : Ord n cl o' ∧ (∃ m, o' = o ++ m) ∧ p < o'.length ∧ cl (at_ o' p) = cl (δ (at_ o a) x) := by
      by_cases he : p = o.length
      · rw [if_pos he] at ho'
        subst ho'
        have hno := posOf_no (cl := cl) (t := cl (δ (at_ o a) x)) (l := o) (by omega)
        refine ⟨⟨fun s hs => ?_, ?_⟩, ⟨_, rfl⟩, by simp; omega, ?_⟩
        · rcases List.mem_append.1 hs with hs | hs
          · exact h.ord.live s hs
          · rw [List.mem_singleton.1 hs]; exact ⟨hin, hc2⟩
        · rw [List.pairwise_append]
          refine ⟨h.ord.apart, List.pairwise_singleton _ _, fun s hs t ht => ?_⟩
          rw [List.mem_singleton.1 ht]
          exact hno s hs
        · rw [he]; unfold at_; simp
      · rw [if_neg he] at ho'
        rw [ho']
        refine ⟨h.ord, ⟨[], by simp⟩, by omega, ?_⟩
        have := posOf_at (cl := cl) (t := cl (δ (at_ o a) x)) (l := o) (by omega)
        rw [← hp] at this
        unfold at_ at this ⊢
        simpa using this
    obtain ⟨hO1, ⟨m, hm⟩, hO3, hO4⟩ := hO
    have hlen : o.length ≤ o'.length := by rw [hm]; simp
    have hat : ∀ i : Int, 0 ≤ i → i < (o.length : Int) → at_ o' i = at_ o i := fun i h0 h1 => by rw [hm]; exact at_left h0 h1
    have hata := hat a (by omega) (by omega)
    have hfrom : ∀ e ∈ E, 0 ≤ e.f0 ∧ e.f0 ≤ (a : Int) ∧ 0 ≤ e.f1 ∧ e.f1 ≤ e.f2 ∧ e.f2 ≤ 255 ∧ 0 ≤ e.f3 ∧ e.f3 < (o'.length : Int) := fun e he => by
      have := h.from_ e he; omega
    have hleads : ∀ e ∈ E, ∀ y, e.f1 ≤ y → y ≤ e.f2 → CN cl (δ (at_ o' e.f0) y) = cl (at_ o' e.f3) := fun e he y h1 h2 => by
      have hf := h.from_ e he
      rw [hat _ (by omega) (by omega), hat _ (by omega) (by omega)]
      exact h.leads e he y h1 h2
    have hall : ∀ (g : Nat) y, Byte y → (g < a ∨ (g = a ∧ y < x)) → CN cl (δ (at_ o' g) y) ≠ -1 → ∃ e ∈ E, fits e g y := fun g y hy hg hne => by
      rw [hat _ (by omega) (by rcases hg with hg | ⟨hg, _⟩ <;> omega)] at hne
      exact h.all g y hy hg hne
    by_cases hl : 0 ≤ last ∧ (E.getD last.toNat ⟨0, 0, 0, 0⟩).f3 = (p : Int)
    · rw [if_pos hl] at hr
      obtain ⟨hl0, hl3⟩ := hl
      rcases h.end_ with e | ⟨E0, e, rfl, rfl, he0, he2⟩
      · omega
      · rw [Int.toNat_natCast] at hl3 hr
        have hg : (E0 ++ [e]).getD E0.length ⟨0, 0, 0, 0⟩ = e := by simp
        rw [hg] at hl3 hr
        have hs : (E0 ++ [e]).set E0.length { e with f2 := x } = E0 ++ [{ e with f2 := x }] := by simp
        rw [hs] at hr
        subst hr
        have hfe := h.from_ e (by simp)
        refine ⟨⟨hO1, fun e' he' => ?_, fun e' he' y h1 h2 => ?_, fun g y hy hg' hne => ?_, fun e' he' hf => ?_, ?_, .inr ⟨E0, _, rfl, rfl, he0, by show x = x + 1 - 1; omega⟩⟩, m, hm⟩
        · rcases List.mem_append.1 he' with he' | he'
          · exact hfrom e' (by simp [he'])
          · rw [List.mem_singleton.1 he']
            have := hfrom e (by simp)
            refine ⟨this.1, this.2.1, this.2.2.1, ?_, hx1, this.2.2.2.2.2.1, this.2.2.2.2.2.2⟩
            show e.f1 ≤ x
            omega
        · rcases List.mem_append.1 he' with he' | he'
          · exact hleads e' (by simp [he']) y h1 h2
          · rw [List.mem_singleton.1 he'] at h1 h2 ⊢
            have h1' : e.f1 ≤ y := h1
            have h2' : y ≤ x := h2
            show CN cl (δ (at_ o' e.f0) y) = cl (at_ o' e.f3)
            by_cases hyx : y = x
            · subst hyx
              rw [he0, hata, hl3, hO4, hcn]
            · exact hleads e (by simp) y h1' (by omega)
        · rcases hg' with hg' | ⟨rfl, hg'⟩
          · obtain ⟨e', he', hf⟩ := hall g y hy (.inl hg') hne
            rcases List.mem_append.1 he' with he'' | he''
            · exact ⟨e', by simp [he''], hf⟩
            · rw [List.mem_singleton.1 he''] at hf
              have := hf.1
              omega
          · by_cases hyx : y = x
            · subst hyx
              refine ⟨{ e with f2 := y }, by simp, he0, ?_, Int.le_refl _⟩
              show e.f1 ≤ y
              omega
            · obtain ⟨e', he', hf⟩ := hall g y hy (.inr ⟨rfl, by omega⟩) hne
              rcases List.mem_append.1 he' with he'' | he''
              · exact ⟨e', by simp [he''], hf⟩
              · rw [List.mem_singleton.1 he''] at hf
                refine ⟨{ e with f2 := x }, by simp, hf.1, hf.2.1, ?_⟩
                show y ≤ x
                omega
        · rcases List.mem_append.1 he' with he' | he'
          · have := h.mine e' (by simp [he']) hf; omega
          · rw [List.mem_singleton.1 he']; show x < x + 1; omega
        · have hap := h.apart
          rw [List.pairwise_append] at hap ⊢
          refine ⟨hap.1, List.pairwise_singleton _ _, fun e1 h1 e2 h2 => ?_⟩
          rw [List.mem_singleton.1 h2]
          have h3 := hap.2.2 e1 h1 e (by simp)
          have h4 := h.from_ e1 (by simp [h1])
          rintro ⟨m1, m2, m3⟩
          have m1' : e1.f0 = e.f0 := m1
          have m3' : e.f1 ≤ e1.f2 := m3
          have h5 := h.mine e1 (by simp [h1]) (by rw [m1', he0])
          exact h3 ⟨m1', by omega, m3'⟩
    · rw [if_neg hl] at hr
      subst hr
      refine ⟨⟨hO1, fun e' he' => ?_, fun e' he' y h1 h2 => ?_, fun g y hy hg' hne => ?_, fun e' he' hf => ?_, ?_, .inr ⟨E, _, rfl, rfl, rfl, by show x = x + 1 - 1; omega⟩⟩, m, hm⟩
      · rcases List.mem_append.1 he' with he' | he'
        · exact hfrom e' he'
        · rw [List.mem_singleton.1 he']
          exact ⟨by show (0 : Int) ≤ (a : Int); omega, by show (a : Int) ≤ a; omega, hx0, Int.le_refl _, hx1, by show (0 : Int) ≤ (p : Int); omega, by show (p : Int) < (o'.length : Int); omega⟩
      · rcases List.mem_append.1 he' with he' | he'
        · exact hleads e' he' y h1 h2
        · rw [List.mem_singleton.1 he'] at h1 h2 ⊢
          have h1' : x ≤ y := h1
          have h2' : y ≤ x := h2
          obtain rfl : y = x := by omega
          show CN cl (δ (at_ o' (a : Int)) y) = cl (at_ o' (p : Int))
          rw [hata, hO4, hcn]
      · rcases hg' with hg' | ⟨rfl, hg'⟩
        · obtain ⟨e', he', hf⟩ := hall g y hy (.inl hg') hne
          exact ⟨e', by simp [he'], hf⟩
        · by_cases hyx : y = x
          · subst hyx
            exact ⟨⟨(g : Int), y, y, (p : Int)⟩, by simp, rfl, Int.le_refl _, Int.le_refl _⟩
          · obtain ⟨e', he', hf⟩ := hall g y hy (.inr ⟨rfl, by omega⟩) hne
            exact ⟨e', by simp [he'], hf⟩
      · rcases List.mem_append.1 he' with he' | he'
        · have := h.mine e' he' hf; omega
        · rw [List.mem_singleton.1 he']; show x < x + 1; omega
      · rw [List.pairwise_append]
        refine ⟨h.apart, List.pairwise_singleton _ _, fun e1 h1 e2 h2 => ?_⟩
        rw [List.mem_singleton.1 h2]
        rintro ⟨m1, m2, m3⟩
        have m1' : e1.f0 = (a : Int) := m1
        have m3' : x ≤ e1.f2 := m3
        have h5 := h.mine e1 h1 m1'
        omega
instance (e : Ed) (s x : Int) : Decidable (fits e s x) := by unfold fits; exact inferInstance
def rowF (δ : Int → Int → Int) (cl : Int → Int) (i : Int) (a : Nat) : Nat → List Int × List Ed × Int → List Int × List Ed × Int
  | 0, st => st
  | d + 1, st => rowF δ cl i a d (stepB δ cl i a ((256 - (d + 1) : Nat) : Int) st)
theorem rowF_row {n : Nat} {δ : Int → Int → Int} {acc : Int → Bool} {cl : Int → Int} (M : Ok n δ acc) {a : Nat} {i : Int} : ∀ (d : Nat), d ≤ 256 → ∀ {o : List Int} {E : List Ed} {last : Int}, Row n δ cl a ((256 - d : Nat) : Int) o E last → a < o.length → i = at_ o a →
    ∀ r, r = rowF δ cl i a d (o, E, last) → Row n δ cl a 256 r.1 r.2.1 r.2.2 ∧ ∃ m, r.1 = o ++ m
  | 0, _, o, E, last, h, ha, hi, r, hr => by
    subst hr
    exact ⟨h, [], by simp [rowF]⟩
  | d + 1, hd, o, E, last, h, ha, hi, r, hr => by
    simp only [rowF] at hr
    obtain ⟨s, hs⟩ : ∃ s, s = stepB δ cl i a ((256 - (d + 1) : Nat) : Int) (o, E, last) := ⟨_, rfl⟩
    rw [← hs] at hr
    rw [hi] at hs
    obtain ⟨h1, m, hm⟩ := stepB_row M h ha ⟨by omega, by omega⟩ s hs
    have e : ((256 - (d + 1) : Nat) : Int) + 1 = ((256 - d : Nat) : Int) := by omega
    rw [e] at h1
    obtain ⟨so, sE, sl⟩ := s
    have hm' : so = o ++ m := hm
    subst hm'
    obtain ⟨h2, m2, hm2⟩ := rowF_row M d (by omega) (o := o ++ m) h1 (by simp; omega) (by rw [at_left (by omega) (by omega)]; exact hi) r hr
    exact ⟨h2, m ++ m2, by rw [hm2, List.append_assoc]⟩
def leastF (δ : Int → Int → Int) (acc : Int → Bool) (cl : Int → Int) : Nat → Nat → List Int → List Bool → List Ed → Option (List Int × List Bool × List Ed)
  | 0, _, _, _, _ => none
  | k + 1, a, o, A, E => if o.length ≤ 8192 ∧ A.length ≤ 8192 ∧ E.length ≤ 4194304 then (if a < o.length then leastF δ acc cl k (a + 1) (rowF δ cl (at_ o a) a 256 (o, E, -1)).1 (A ++ [acc (at_ o a)]) (rowF δ cl (at_ o a) a 256 (o, E, -1)).2.1 else some (o, A, E)) else none
theorem stepB_len (δ : Int → Int → Int) (cl : Int → Int) (i : Int) (a : Nat) (x : Int) (st : List Int × List Ed × Int) : (stepB δ cl i a x st).2.1.length ≤ st.2.1.length + 1 := by
  unfold stepB
  split
  · exact Nat.le_succ _
  · dsimp only
    split <;> simp
theorem rowF_len (δ : Int → Int → Int) (cl : Int → Int) (i : Int) (a : Nat) : ∀ (d : Nat) (st : List Int × List Ed × Int), (rowF δ cl i a d st).2.1.length ≤ st.2.1.length + d
  | 0, st => Nat.le_refl _
  | d + 1, st => by
    have h1 := rowF_len δ cl i a d (stepB δ cl i a ((256 - (d + 1) : Nat) : Int) st)
    have h2 := stepB_len δ cl i a ((256 - (d + 1) : Nat) : Int) st
    simp only [rowF]; omega
theorem Row.next {n : Nat} {δ : Int → Int → Int} {cl : Int → Int} {a : Nat} {o : List Int} {E : List Ed} {last : Int} (h : Row n δ cl a 256 o E last) : Row n δ cl (a + 1) 0 o E (-1) :=
  ⟨h.ord, fun e he => by have := h.from_ e he; omega, h.leads, fun g y hy hg => h.all g y hy (by unfold Byte at hy; omega), fun e he hf => by have := h.from_ e he; omega, h.apart, .inl rfl⟩
theorem leastF_row {n : Nat} {δ : Int → Int → Int} {acc : Int → Bool} {cl : Int → Int} (M : Ok n δ acc) : ∀ (k a : Nat) {o : List Int} {A : List Bool} {E : List Ed}, Row n δ cl a 0 o E (-1) → a ≤ o.length → A = (o.take a).map acc → at_ o 0 = 0 → 0 < o.length → n < a + k → n ≤ 8192 → E.length ≤ 256 * a →
    ∃ r, leastF δ acc cl k a o A E = some r ∧ Row n δ cl r.1.length 0 r.1 r.2.2 (-1) ∧ r.2.1 = r.1.map acc ∧ at_ r.1 0 = 0 ∧ 0 < r.1.length
  | 0, a, o, A, E, h, ha, hA, h0, hp, hk, hn, hE => by have := h.ord.len; omega
  | k + 1, a, o, A, E, h, ha, hA, h0, hp, hk, hn, hE => by
    have hol := h.ord.len
    have hAl : A.length = a := by rw [hA]; simp; omega
    simp only [leastF]
    rw [if_pos ⟨by omega, by omega, by omega⟩]
    by_cases c : a < o.length
    · rw [if_pos c]
      obtain ⟨r, hr⟩ : ∃ r, r = rowF δ cl (at_ o a) a 256 (o, E, -1) := ⟨_, rfl⟩
      rw [← hr]
      obtain ⟨h1, m, hm⟩ := rowF_row M 256 (Nat.le_refl _) (i := at_ o a) (o := o) (E := E) (last := -1) h c rfl r hr
      refine leastF_row M k (a + 1) h1.next (by rw [hm]; simp; omega) ?_ (by rw [hm, at_left (by omega) (by omega)]; exact h0) (by rw [hm]; simp; omega) (by omega) hn (by have := rowF_len δ cl (at_ o a) a 256 (o, E, -1); rw [← hr] at this; have h3 : r.2.1.length ≤ E.length + 256 := this; omega)
      rw [hm, List.take_append_of_le_length (by omega), hA]
      have e : at_ o a = o[a] := by unfold at_; simp [List.getD_eq_getElem?_getD, List.getElem?_eq_getElem c]
      have e2 : o.take (a + 1) = o.take a ++ [o[a]] := by rw [List.take_add_one, List.getElem?_eq_getElem c]; rfl
      rw [e2, e, List.map_append]; rfl
    · rw [if_neg c]
      obtain rfl : a = o.length := by omega
      exact ⟨_, rfl, h, by rw [hA]; simp, h0, hp⟩
def nx : List Ed → Int → Int → Int
  | [], _, _ => -1
  | e :: E, s, x => if fits e s x then e.f3 else nx E s x
theorem nx_of {s x : Int} : ∀ {E : List Ed}, (E.Pairwise fun e e' => ¬ meets e e') → ∀ {e : Ed}, e ∈ E → fits e s x → nx E s x = e.f3
  | [], _, e, he, _ => by simp at he
  | a :: E, hp, e, he, hf => by
    simp only [nx]
    rw [List.pairwise_cons] at hp
    rcases List.mem_cons.1 he with rfl | he
    · rw [if_pos hf]
    · have h2 := hp.1 e he
      rw [if_neg (fun h3 => h2 ⟨by rw [h3.1, hf.1], by have := h3.2.1; have := hf.2.2; omega, by have := hf.2.1; have := h3.2.2; omega⟩)]
      exact nx_of hp.2 he hf
theorem nx_no {s x : Int} : ∀ {E : List Ed}, (∀ e ∈ E, ¬ fits e s x) → nx E s x = -1
  | [], _ => rfl
  | a :: E, h => by
    simp only [nx]
    rw [if_neg (h a List.mem_cons_self)]
    exact nx_no fun e he => h e (List.mem_cons_of_mem _ he)
/-- A guide's step, and what it accepts. -/
def gd (E : List Ed) (i x : Int) : Int := if i = -1 then -1 else nx E i x
def ga (A : List Bool) (i : Int) : Bool := if i = -1 then false else A.getD i.toNat false
theorem row_says {n : Nat} {δ : Int → Int → Int} {acc : Int → Bool} {cl : Int → Int} (M : Ok n δ acc) (C : Cls n δ acc cl) {o : List Int} {E : List Ed} (h : Row n δ cl o.length 0 o E (-1)) (h0 : at_ o 0 = 0) (hp : 0 < o.length) :
    ∀ l, Bytes l → ga (o.map acc) (run (gd E) 0 l) = acc (run δ 0 l) := by
  have hz : In n 0 ∧ cl 0 ≠ -1 := by
    have := h.ord.live _ (at_mem (l := o) (i := 0) (by omega) (by omega))
    rw [h0] at this; exact this
  intro l hl
  refine guide_says M C (k := o.length) (ord := at_ o) (A := ga (o.map acc)) (ν := gd E) (fun i hi => h.ord.live _ (at_mem hi.1 hi.2)) (fun i hi => ?_) (fun x => by simp [gd]) (by simp [ga]) (fun i x hi hx => ?_) l hl 0 0 ⟨by omega, by omega⟩ (.inr hz.1) ?_
  · unfold ga at_
    have := hi.1
    have := hi.2
    rw [if_neg (by omega), List.getD_eq_getElem?_getD, List.getD_eq_getElem?_getD, List.getElem?_map, List.getElem?_eq_getElem (by omega)]
    rfl
  · obtain ⟨g, rfl⟩ : ∃ g : Nat, i = (g : Int) := ⟨i.toNat, by have := hi.1; omega⟩
    have hgl : g < o.length := by have := hi.2; omega
    unfold gd
    rw [if_neg (by omega)]
    constructor
    · intro hc
      refine nx_no fun e he hf => ?_
      have h1 := h.leads e he x hf.2.1 hf.2.2
      rw [hf.1, hc] at h1
      have h2 := h.from_ e he
      exact (h.ord.live _ (at_mem (l := o) h2.2.2.2.2.2.1 h2.2.2.2.2.2.2)).2 h1.symm
    · intro hc
      obtain ⟨e, he, hf⟩ := h.all g x hx (.inl hgl) hc
      have h2 := h.from_ e he
      rw [nx_of h.apart he hf]
      have h1 := h.leads e he x hf.2.1 hf.2.2
      rw [hf.1] at h1
      exact ⟨⟨h2.2.2.2.2.2.1, h2.2.2.2.2.2.2⟩, h1.symm⟩
  · rw [h0]; exact if_neg (by omega)
theorem row_start {n : Nat} {δ : Int → Int → Int} {cl : Int → Int} (hn : 0 < n) (hc : cl 0 ≠ -1) : Row n δ cl 0 0 [0] [] (-1) :=
  ⟨⟨fun s hs => by rw [List.mem_singleton.1 hs]; exact ⟨⟨by omega, by omega⟩, hc⟩, List.pairwise_singleton _ _⟩, fun e he => by simp at he, fun e he => by simp at he, fun g y _ hg => by unfold Byte at *; omega, fun e he => by simp at he, List.Pairwise.nil, .inl rfl⟩
def Live (δ : Int → Int → Int) (acc : Int → Bool) (s : Int) : Prop := ∃ l, Bytes l ∧ acc (run δ s l) = true
/-! the classes: rounds of looks -/
def key (δ : Int → Int → Int) (c : List Int) (i : Int) : Int × List Int := (at_ c i, (List.range 256).map fun x : Nat => CN (at_ c) (δ i (x : Int)))
theorem key_eq {δ : Int → Int → Int} {c : List Int} {i j : Int} (h : key δ c i = key δ c j) : at_ c i = at_ c j ∧ ∀ x, Byte x → CN (at_ c) (δ i x) = CN (at_ c) (δ j x) := by
  unfold key at h
  injection h with h1 h2
  refine ⟨h1, fun x hx => ?_⟩
  obtain ⟨y, rfl⟩ : ∃ y : Nat, x = (y : Int) := ⟨x.toNat, by have := hx.1; omega⟩
  exact List.map_inj_left.1 h2 y (List.mem_range.2 (by have := hx.2; omega))
def idx (k : Int × List Int) : List (Int × List Int) → Nat
  | [] => 0
  | a :: l => if a = k then 0 else idx k l + 1
theorem idx_le (k : Int × List Int) : ∀ l, idx k l ≤ l.length
  | [] => Nat.le_refl _
  | a :: l => by
    have := idx_le k l
    simp only [idx, List.length_cons]; split <;> omega
theorem idx_at {k : Int × List Int} : ∀ {l : List (Int × List Int)}, idx k l < l.length → l[idx k l]? = some k
  | [], h => by simp at h
  | a :: l, h => by
    simp only [idx, List.length_cons] at h ⊢
    split
    · rename_i e; rw [e]; rfl
    · rename_i e
      rw [if_neg e] at h
      rw [List.getElem?_cons_succ]
      exact idx_at (by omega)
def clsB (δ : Int → Int → Int) (c : List Int) (i : Nat) (st : List Int × List (Int × List Int)) : List Int × List (Int × List Int) :=
  if at_ c i = -1 then (st.1 ++ [-1], st.2) else
    (st.1 ++ [(idx (key δ c i) st.2 : Int)], if idx (key δ c i) st.2 = st.2.length then st.2 ++ [key δ c i] else st.2)
def clsR (δ : Int → Int → Int) (c : List Int) : Nat → Nat → List Int × List (Int × List Int) → List Int × List (Int × List Int)
  | 0, _, st => st
  | d + 1, i, st => clsR δ c d (i + 1) (clsB δ c i st)
def clsF (δ : Int → Int → Int) : Nat → Nat → List Int → Option (List Int)
  | 0, _, _ => none
  | k + 1, m, c => if (clsR δ c c.length 0 ([], [])).2.length = m then some (clsR δ c c.length 0 ([], [])).1 else clsF δ k (clsR δ c c.length 0 ([], [])).2.length (clsR δ c c.length 0 ([], [])).1
/-- How many numbers have come up, of a row that numbers what comes up in its order. -/
def top (c : List Int) : Nat → Nat
  | 0 => 0
  | i + 1 => if at_ c i = (top c i : Int) then top c i + 1 else top c i
theorem top_mono (c : List Int) {i j : Nat} (h : i ≤ j) : top c i ≤ top c j := by
  induction j with
  | zero => obtain rfl : i = 0 := by omega
            exact Nat.le_refl _
  | succ j ih =>
    by_cases e : i = j + 1
    · subst e; exact Nat.le_refl _
    · have := ih (by omega)
      simp only [top]; split <;> omega
theorem top_left {c d : List Int} : ∀ {i : Nat}, i ≤ c.length → top (c ++ d) i = top c i
  | 0, _ => rfl
  | i + 1, h => by
    simp only [top]
    rw [top_left (by omega), at_left (by omega) (by omega)]
/-- Numbered in the order in which it comes up. -/
def RG (c : List Int) : Prop := ∀ i : Nat, i < c.length → at_ c i ≤ (top c i : Int)
theorem at_snoc {l : List Int} {x : Int} : at_ (l ++ [x]) (l.length : Int) = x := by
  unfold at_; simp
/-- What holds behind i states of a round. -/
structure Rd (δ : Int → Int → Int) (c : List Int) (i : Nat) (now : List Int) (seen : List (Int × List Int)) : Prop where
  len : now.length = i
  num : seen.length = top now i
  dead : ∀ j : Nat, j < i → at_ c j = -1 → at_ now j = -1
  live : ∀ j : Nat, j < i → at_ c j ≠ -1 → 0 ≤ at_ now j ∧ seen[(at_ now j).toNat]? = some (key δ c j)
  first : ∀ (p : Nat) (k : Int × List Int), seen[p]? = some k → ∃ j : Nat, j < i ∧ at_ c j ≠ -1 ∧ at_ now j = (p : Int) ∧ key δ c j = k
  rg : RG now
theorem clsB_rd {δ : Int → Int → Int} {c : List Int} {i : Nat} {now : List Int} {seen : List (Int × List Int)} (h : Rd δ c i now seen) : ∀ r, r = clsB δ c i (now, seen) → Rd δ c (i + 1) r.1 r.2 := by
  intro r hr
  have hl := h.len
  have hleft : ∀ (j : Nat) x, j < i → at_ (now ++ [x]) j = at_ now j := fun j x hj => at_left (by omega) (by omega)
  have hat : ∀ x, at_ (now ++ [x]) (i : Int) = x := fun x => by rw [← hl]; exact at_snoc
  have htop : ∀ x, top (now ++ [x]) i = top now i := fun x => top_left (by omega)
  have hrg : ∀ x : Int, x ≤ (top now i : Int) → RG (now ++ [x]) := fun x hx j hj => by
    by_cases e : j = i
    · subst e; rw [hat, htop]; exact hx
    · have hj' : j < i := by simp at hj; omega
      rw [hleft j x hj', top_left (by omega)]
      exact h.rg j (by omega)
  unfold clsB at hr
  by_cases hc : at_ c i = -1
  · rw [if_pos hc] at hr
    subst hr
    refine ⟨by simp; omega, ?_, fun j hj h0 => ?_, fun j hj h0 => ?_, fun p k hp => ?_, hrg _ (by omega)⟩
    · show seen.length = top (now ++ [-1]) (i + 1)
      simp only [top]
      rw [hat, htop, if_neg (by omega)]
      exact h.num
    · by_cases e : j = i
      · subst e; exact hat _
      · rw [hleft j _ (by omega)]; exact h.dead j (by omega) h0
    · by_cases e : j = i
      · subst e; exact absurd hc h0
      · show 0 ≤ at_ (now ++ [-1]) j ∧ seen[(at_ (now ++ [-1]) j).toNat]? = _
        rw [hleft j _ (by omega)]; exact h.live j (by omega) h0
    · obtain ⟨j, h1, h2, h3, h4⟩ := h.first p k hp
      exact ⟨j, by omega, h2, by rw [hleft j _ h1]; exact h3, h4⟩
  · rw [if_neg hc] at hr
    obtain ⟨p, hp⟩ : ∃ p, p = idx (key δ c i) seen := ⟨_, rfl⟩
    have hpl := idx_le (key δ c i) seen
    simp only [← hp] at hr hpl
    have hnum := h.num
    by_cases he : p = seen.length
    · rw [if_pos he] at hr
      subst hr
      refine ⟨by simp; omega, ?_, fun j hj h0 => ?_, fun j hj h0 => ?_, fun q k hq => ?_, hrg _ (by omega)⟩
      · show (seen ++ [key δ c i]).length = top (now ++ [(p : Int)]) (i + 1)
        simp only [top]
        rw [hat, htop, if_pos (by omega)]
        simp; omega
      · by_cases e : j = i
        · subst e; exact absurd h0 hc
        · show at_ (now ++ [(p : Int)]) j = -1
          rw [hleft j _ (by omega)]; exact h.dead j (by omega) h0
      · show 0 ≤ at_ (now ++ [(p : Int)]) j ∧ (seen ++ [key δ c i])[(at_ (now ++ [(p : Int)]) j).toNat]? = _
        by_cases e : j = i
        · subst e
          rw [hat]
          refine ⟨by omega, ?_⟩
          rw [Int.toNat_natCast, he]; simp
        · rw [hleft j _ (by omega)]
          obtain ⟨h1, h2⟩ := h.live j (by omega) h0
          refine ⟨h1, ?_⟩
          have := (List.getElem?_eq_some_iff.1 h2).1
          rw [List.getElem?_append_left this]; exact h2
      · show ∃ j : Nat, j < i + 1 ∧ at_ c j ≠ -1 ∧ at_ (now ++ [(p : Int)]) j = (q : Int) ∧ key δ c j = k
        have hq' : (seen ++ [key δ c i])[q]? = some k := hq
        by_cases e : q < seen.length
        · rw [List.getElem?_append_left e] at hq'
          obtain ⟨j, h1, h2, h3, h4⟩ := h.first q k hq'
          exact ⟨j, by omega, h2, by rw [hleft j _ h1]; exact h3, h4⟩
        · have hql := (List.getElem?_eq_some_iff.1 hq').1
          have e2 : q = seen.length := by simp at hql; omega
          rw [e2] at hq'
          have hk : key δ c i = k := by simpa using hq'
          exact ⟨i, by omega, hc, by rw [hat]; omega, hk⟩
    · rw [if_neg he] at hr
      subst hr
      have hk := idx_at (k := key δ c i) (l := seen) (by rw [← hp]; omega)
      rw [← hp] at hk
      refine ⟨by simp; omega, ?_, fun j hj h0 => ?_, fun j hj h0 => ?_, fun q k hq => ?_, hrg _ (by omega)⟩
      · show seen.length = top (now ++ [(p : Int)]) (i + 1)
        simp only [top]
        rw [hat, htop, if_neg (by omega)]
        exact hnum
      · by_cases e : j = i
        · subst e; exact absurd h0 hc
        · show at_ (now ++ [(p : Int)]) j = -1
          rw [hleft j _ (by omega)]; exact h.dead j (by omega) h0
      · show 0 ≤ at_ (now ++ [(p : Int)]) j ∧ seen[(at_ (now ++ [(p : Int)]) j).toNat]? = _
        by_cases e : j = i
        · subst e
          rw [hat]
          exact ⟨by omega, by rw [Int.toNat_natCast]; exact hk⟩
        · rw [hleft j _ (by omega)]; exact h.live j (by omega) h0
      · obtain ⟨j, h1, h2, h3, h4⟩ := h.first q k hq
        exact ⟨j, by omega, h2, by show at_ (now ++ [(p : Int)]) j = _; rw [hleft j _ h1]; exact h3, h4⟩
theorem clsR_rd {δ : Int → Int → Int} {c : List Int} : ∀ (d i : Nat) {now : List Int} {seen : List (Int × List Int)}, Rd δ c i now seen → ∀ r, r = clsR δ c d i (now, seen) → Rd δ c (i + d) r.1 r.2
  | 0, i, _, _, h, r, hr => by subst hr; exact h
  | d + 1, i, now, seen, h, r, hr => by
    simp only [clsR] at hr
    have h1 := clsB_rd h _ rfl
    have h2 := clsR_rd d (i + 1) h1 r hr
    rw [show i + (d + 1) = i + 1 + d by omega]
    exact h2
theorem rd_start (δ : Int → Int → Int) (c : List Int) : Rd δ c 0 [] [] :=
  ⟨rfl, rfl, fun j h => by omega, fun j h => by omega, fun p k h => by simp at h, fun i h => by simp at h⟩
/-- A round's classes are no coarser than those before; no fewer; and the same where they are as many. -/
theorem rd_top {δ : Int → Int → Int} {c now : List Int} {seen : List (Int × List Int)} (h : Rd δ c c.length now seen) (hr : RG c) (hm : ∀ i : Nat, i < c.length → -1 ≤ at_ c i) : ∀ i, i ≤ c.length → top c i ≤ top now i ∧ (top c i = top now i → ∀ j : Nat, j < i → at_ now j = at_ c j)
  | 0, _ => ⟨Nat.le_refl _, fun _ j hj => by omega⟩
  | i + 1, hi => by
    obtain ⟨h1, h2⟩ := rd_top h hr hm i (by omega)
    have hrn := h.rg i (by have := h.len; omega)
    have hrc := hr i (by omega)
    -- what is new among the classes before is new
    have hnew : at_ c i = (top c i : Int) → at_ now i = (top now i : Int) := fun e => by
      have hl := h.live i (by omega) (by omega)
      have hlt : ¬ at_ now i < (top now i : Int) := fun hlt => by
        -- an elder state of the same look
        obtain ⟨p, hp⟩ : ∃ p : Nat, at_ now i = (p : Int) := ⟨(at_ now i).toNat, by omega⟩
        have : ∃ j : Nat, j < i ∧ at_ now j = (p : Int) := by
          have hp2 : p < top now i := by omega
          clear hl hrn hlt hrc h2 h1 e hp hi hm hr
          induction i with
          | zero => simp [top] at hp2
          | succ i ih =>
            simp only [top] at hp2
            split at hp2
            · rename_i e2
              by_cases e3 : p = top now i
              · exact ⟨i, by omega, by rw [e2, e3]⟩
              · obtain ⟨j, h3, h4⟩ := ih (by omega)
                exact ⟨j, by omega, h4⟩
            · obtain ⟨j, h3, h4⟩ := ih hp2
              exact ⟨j, by omega, h4⟩
        obtain ⟨j, hj, hjp⟩ := this
        have hcj : at_ c j ≠ -1 := fun e0 => by have := h.dead j (by omega) e0; omega
        have hlj := (h.live j (by omega) hcj).2
        have hli := hl.2
        rw [hp] at hli
        rw [hjp, hli] at hlj
        have hk := (key_eq (Option.some.inj hlj)).1
        have hcb := hr j (by omega)
        have hmj := top_mono c (show j + 1 ≤ i by omega)
        simp only [top] at hmj
        split at hmj <;> omega
      omega
    by_cases e : at_ c i = (top c i : Int)
    · have e2 := hnew e
      simp only [top, if_pos e, if_pos e2]
      refine ⟨by omega, fun he j hj => ?_⟩
      by_cases ej : j = i
      · subst ej; omega
      · exact h2 (by omega) j (by omega)
    · simp only [top, if_neg e]
      by_cases e2 : at_ now i = (top now i : Int)
      · simp only [if_pos e2]
        exact ⟨by omega, fun he => by omega⟩
      · simp only [if_neg e2]
        refine ⟨h1, fun he j hj => ?_⟩
        by_cases ej : j = i
        · subst ej
          by_cases hd : at_ c j = -1
          · rw [hd]; exact h.dead j (by omega) hd
          · obtain ⟨l1, l2⟩ := h.live j (by omega) hd
            obtain ⟨p, hp⟩ : ∃ p : Nat, at_ now j = (p : Int) := ⟨(at_ now j).toNat, by omega⟩
            rw [hp, Int.toNat_natCast] at l2
            -- its first elder
            have hp2 : p < top now j := by omega
            have hex : ∃ q : Nat, q < j ∧ at_ now q = (p : Int) := by
              clear l2 l1 hd hj he e2 e hnew hrc hrn h2 h1 hi hm hr hp
              induction j with
              | zero => simp [top] at hp2
              | succ i ih =>
                simp only [top] at hp2
                split at hp2
                · rename_i e2
                  by_cases e3 : p = top now i
                  · exact ⟨i, by omega, by rw [e2, e3]⟩
                  · obtain ⟨j, h3, h4⟩ := ih (by omega)
                    exact ⟨j, by omega, h4⟩
                · obtain ⟨j, h3, h4⟩ := ih hp2
                  exact ⟨j, by omega, h4⟩
            obtain ⟨q, hq, hqp⟩ := hex
            have hcq : at_ c q ≠ -1 := fun e0 => by have := h.dead q (by omega) e0; omega
            have hlq := (h.live q (by omega) hcq).2
            rw [hqp, Int.toNat_natCast, l2] at hlq
            have hk := (key_eq (Option.some.inj hlq)).1
            have hsame := h2 he q hq
            rw [hp, hk, ← hsame, hqp]
        · exact h2 he j (by omega)
theorem top_le (c : List Int) : ∀ i, top c i ≤ i
  | 0 => Nat.le_refl _
  | i + 1 => by have := top_le c i; simp only [top]; split <;> omega
structure Cl (n : Nat) (δ : Int → Int → Int) (acc : Int → Bool) (c : List Int) : Prop where
  len : c.length = n
  gone : ∀ s, In n s → (at_ c s = -1 ↔ ¬ Live δ acc s)
  says : ∀ s t, In n s → In n t → at_ c s ≠ -1 → at_ c s = at_ c t → acc s = acc t
  low : ∀ s, In n s → -1 ≤ at_ c s
theorem nat_in {n : Nat} {s : Int} (h : In n s) : ∃ j : Nat, s = (j : Int) ∧ j < n := ⟨s.toNat, by have := h.1; omega, by have := h.1; have := h.2; omega⟩
theorem Cl.next {n : Nat} {δ : Int → Int → Int} {acc : Int → Bool} {c now : List Int} {seen : List (Int × List Int)} (h : Cl n δ acc c) (r : Rd δ c c.length now seen) : Cl n δ acc now := by
  have hl := h.len
  refine ⟨by rw [r.len]; exact hl, fun s hs => ?_, fun s t hs ht hne he => ?_, fun s hs => ?_⟩
  · obtain ⟨j, rfl, hj⟩ := nat_in hs
    rw [← h.gone _ hs]
    constructor
    · intro e
      by_cases e2 : at_ c j = -1
      · exact e2
      · have := (r.live j (by omega) e2).1; omega
    · exact r.dead j (by omega)
  · obtain ⟨i, rfl, hi⟩ := nat_in hs
    obtain ⟨j, rfl, hj⟩ := nat_in ht
    have hci : at_ c i ≠ -1 := fun e => hne (r.dead i (by omega) e)
    have hcj : at_ c j ≠ -1 := fun e => hne (by rw [he]; exact r.dead j (by omega) e)
    have h1 := (r.live i (by omega) hci).2
    have h2 := (r.live j (by omega) hcj).2
    rw [he, h2] at h1
    exact h.says _ _ hs ht hci (key_eq (Option.some.inj h1)).1.symm
  · obtain ⟨j, rfl, hj⟩ := nat_in hs
    by_cases e : at_ c j = -1
    · rw [r.dead j (by omega) e]; omega
    · have := (r.live j (by omega) e).1; omega
theorem Cl.cls {n : Nat} {δ : Int → Int → Int} {acc : Int → Bool} {c now : List Int} {seen : List (Int × List Int)} (M : Ok n δ acc) (h : Cl n δ acc c) (r : Rd δ c c.length now seen) (e : ∀ j : Nat, j < n → at_ now j = at_ c j) : Cls n δ acc (at_ now) := by
  have hl := h.len
  have h' := h.next r
  refine ⟨fun s hs hc l hb => ?_, fun s hs hc => ?_, fun s t hs ht hne he => ?_⟩
  · have := (h'.gone s hs).1 hc
    cases hq : acc (run δ s l)
    · rfl
    · exact absurd ⟨l, hb, hq⟩ this
  · have h2 : ¬ ¬ Live δ acc s := fun h3 => hc ((h'.gone s hs).2 h3)
    exact Classical.not_not.1 h2
  · refine ⟨h'.says s t hs ht hne he, fun x hx => ?_⟩
    obtain ⟨i, rfl, hi⟩ := nat_in hs
    obtain ⟨j, rfl, hj⟩ := nat_in ht
    have hci : at_ c i ≠ -1 := fun e => hne (r.dead i (by omega) e)
    have hcj : at_ c j ≠ -1 := fun e => hne (by rw [he]; exact r.dead j (by omega) e)
    have h1 := (r.live i (by omega) hci).2
    have h2 := (r.live j (by omega) hcj).2
    rw [he, h2] at h1
    have hk := (key_eq (Option.some.inj h1)).2 x hx
    have hcn : ∀ t, St n t → CN (at_ now) t = CN (at_ c) t := fun t ht => by
      unfold CN
      rcases ht with rfl | ht
      · rfl
      · obtain ⟨q, rfl, hq⟩ := nat_in ht
        rw [e q hq]
    rw [hcn _ (M.to_ _ x hs hx), hcn _ (M.to_ _ x ht hx)]
    exact hk.symm
theorem clsF_ok {n : Nat} {δ : Int → Int → Int} {acc : Int → Bool} (M : Ok n δ acc) : ∀ (k m : Nat) {c : List Int}, Cl n δ acc c → (m = 0 ∨ (RG c ∧ m = top c c.length)) → m ≤ n → n + 2 ≤ k + m → ∃ now, clsF δ k m c = some now ∧ now.length = n ∧ Cls n δ acc (at_ now)
  | 0, m, c, h, hm, hmn, hk => by omega
  | k + 1, m, c, h, hm, hmn, hk => by
    have hl := h.len
    obtain ⟨r, hr⟩ : ∃ r, r = clsR δ c c.length 0 ([], []) := ⟨_, rfl⟩
    have hrd := clsR_rd c.length 0 (rd_start δ c) r hr
    rw [Nat.zero_add] at hrd
    simp only [clsF, ← hr]
    have h' := h.next hrd
    have hnum := hrd.num
    have htl := top_le r.1 c.length
    have hlow : ∀ i : Nat, i < c.length → -1 ≤ at_ c i := fun i hi => h.low _ ⟨by omega, by omega⟩
    by_cases e : r.2.length = m
    · rw [if_pos e]
      refine ⟨r.1, rfl, h'.len, h.cls M hrd fun j hj => ?_⟩
      rcases hm with rfl | ⟨hg, ht⟩
      · by_cases e0 : at_ c j = -1
        · rw [e0]; exact hrd.dead j (by omega) e0
        · have h1 := (hrd.live j (by omega) e0).2
          have := (List.getElem?_eq_some_iff.1 h1).1
          omega
      · have := rd_top hrd hg hlow c.length (Nat.le_refl _)
        exact this.2 (by omega) j (by omega)
    · rw [if_neg e]
      have hge : m ≤ r.2.length := by
        rcases hm with rfl | ⟨hg, ht⟩
        · omega
        · have := (rd_top hrd hg hlow c.length (Nat.le_refl _)).1
          omega
      exact clsF_ok M k r.2.length h' (.inr ⟨hrd.rg, by rw [hrd.len]; exact hnum⟩) (by omega) (by omega)
/-! which states are alive -/
def la (L : List Bool) (i : Int) : Bool := L.getD i.toNat false
def livB (δ : Int → Int → Int) (i : Int) (x : Int) (st : List Bool × Bool) : List Bool × Bool := if la st.1 i = false ∧ δ i x ≠ -1 ∧ la st.1 (δ i x) = true then (st.1.set i.toNat true, true) else st
def livR (δ : Int → Int → Int) (i : Int) : Nat → List Bool × Bool → List Bool × Bool
  | 0, st => st
  | d + 1, st => livR δ i d (livB δ i ((256 - (d + 1) : Nat) : Int) st)
def livP (δ : Int → Int → Int) : Nat → Nat → List Bool × Bool → List Bool × Bool
  | 0, _, st => st
  | d + 1, i, st => livP δ d (i + 1) (livR δ i 256 st)
def livF (δ : Int → Int → Int) (n : Nat) : Nat → List Bool → Option (List Bool)
  | 0, _ => none
  | k + 1, L => if (livP δ n 0 (L, false)).2 = true then livF δ n k (livP δ n 0 (L, false)).1 else some (livP δ n 0 (L, false)).1
theorem la_set {L : List Bool} {i s : Int} (h0 : 0 ≤ i) (h1 : i < (L.length : Int)) (hs : 0 ≤ s) : la (L.set i.toNat true) s = true ↔ s = i ∨ la L s = true := by
  unfold la
  rw [List.getD_eq_getElem?_getD, List.getD_eq_getElem?_getD]
  by_cases e : s = i
  · subst e
    rw [List.getElem?_set_self (by omega)]
    simp
  · rw [List.getElem?_set_ne (by omega)]
    simp [e]
/-- What holds of the living so far. -/
structure Lv (n : Nat) (δ : Int → Int → Int) (acc : Int → Bool) (L : List Bool) : Prop where
  len : L.length = n
  acc_ : ∀ s, In n s → acc s = true → la L s = true
  live : ∀ s, In n s → la L s = true → Live δ acc s
def falses : List Bool → Nat
  | [] => 0
  | b :: l => (if b = true then 0 else 1) + falses l
theorem falses_set : ∀ (L : List Bool) (i : Nat), L.getD i true = false → falses (L.set i true) + 1 = falses L
  | [], i, h => by simp at h
  | b :: l, 0, h => by
    have hb : b = false := by simpa using h
    subst hb
    simp [falses]; omega
  | b :: l, i + 1, h => by
    have := falses_set l i (by simpa using h)
    simp only [List.set_cons_succ, falses]
    omega
theorem livB_lv {n : Nat} {δ : Int → Int → Int} {acc : Int → Bool} (M : Ok n δ acc) {L : List Bool} {b : Bool} {i x : Int} (h : Lv n δ acc L) (hi : In n i) (hx : Byte x) : ∀ r, r = livB δ i x (L, b) → Lv n δ acc r.1 ∧ falses r.1 ≤ falses L ∧ (r.2 = false → b = false ∧ r.1 = L ∧ (δ i x ≠ -1 → la L (δ i x) = true → la L i = true)) ∧ (r.2 = true → b = true ∨ falses r.1 < falses L) := by
  intro r hr
  have hl := h.len
  obtain ⟨h0, h1⟩ := hi
  unfold livB at hr
  by_cases c : la L i = false ∧ δ i x ≠ -1 ∧ la L (δ i x) = true
  · rw [if_pos c] at hr
    subst hr
    obtain ⟨c1, c2, c3⟩ := c
    have hst : In n (δ i x) := by rcases M.to_ i x ⟨h0, h1⟩ hx with e | e; exact absurd e c2; exact e
    have hf : falses (L.set i.toNat true) + 1 = falses L := falses_set L i.toNat (by
      unfold la at c1
      rw [List.getD_eq_getElem?_getD, List.getElem?_eq_getElem (by omega)] at c1 ⊢
      exact c1)
    have hiL : i < (L.length : Int) := by omega
    refine ⟨⟨by simp; exact hl, fun s hs ha => (la_set h0 hiL hs.1).2 (.inr (h.acc_ s hs ha)), fun s hs ha => ?_⟩, (by show falses (L.set i.toNat true) ≤ _; omega), (fun e => by cases e), (fun _ => .inr (by show falses (L.set i.toNat true) < _; omega))⟩
    rcases (la_set h0 hiL hs.1).1 ha with rfl | ha
    · obtain ⟨l, hb, hq⟩ := h.live _ hst c3
      refine ⟨x :: l, fun y hy => ?_, hq⟩
      rcases List.mem_cons.1 hy with rfl | hy
      · exact hx
      · exact hb y hy
    · exact h.live s hs ha
  · rw [if_neg c] at hr
    subst hr
    refine ⟨h, Nat.le_refl _, fun e => ⟨e, rfl, fun h2 h3 => ?_⟩, fun e => .inl e⟩
    cases hq : la L i
    · exact absurd ⟨hq, h2, h3⟩ c
    · rfl
theorem livR_lv {n : Nat} {δ : Int → Int → Int} {acc : Int → Bool} (M : Ok n δ acc) {i : Int} (hi : In n i) : ∀ (d : Nat), d ≤ 256 → ∀ {L : List Bool} {b : Bool}, Lv n δ acc L → ∀ r, r = livR δ i d (L, b) → Lv n δ acc r.1 ∧ falses r.1 ≤ falses L ∧ (r.2 = false → b = false ∧ r.1 = L ∧ ∀ x, ((256 - d : Nat) : Int) ≤ x → x ≤ 255 → δ i x ≠ -1 → la L (δ i x) = true → la L i = true) ∧ (r.2 = true → b = true ∨ falses r.1 < falses L)
  | 0, _, L, b, h, r, hr => by
    subst hr
    exact ⟨h, Nat.le_refl _, fun e => ⟨e, rfl, fun x h1 h2 => by omega⟩, fun e => .inl e⟩
  | d + 1, hd, L, b, h, r, hr => by
    simp only [livR] at hr
    obtain ⟨s, hs⟩ : ∃ s, s = livB δ i ((256 - (d + 1) : Nat) : Int) (L, b) := ⟨_, rfl⟩
    rw [← hs] at hr
    obtain ⟨h1, h2, h3, h4⟩ := livB_lv M h hi ⟨by omega, by omega⟩ s hs
    obtain ⟨g1, g2, g3, g4⟩ := livR_lv M hi d (by omega) h1 r hr
    refine ⟨g1, by omega, fun e => ?_, fun e => ?_⟩
    · obtain ⟨e1, e2, e3⟩ := g3 e
      obtain ⟨f1, f2, f3⟩ := h3 e1
      rw [f2] at e2 e3
      refine ⟨f1, e2, fun x hx0 hx1 => ?_⟩
      by_cases hx : x = ((256 - (d + 1) : Nat) : Int)
      · subst hx; exact f3
      · exact e3 x (by omega) hx1
    · rcases g4 e with g | g
      · rcases h4 g with f | f
        · exact .inl f
        · exact .inr (by omega)
      · exact .inr (by omega)
theorem livP_lv {n : Nat} {δ : Int → Int → Int} {acc : Int → Bool} (M : Ok n δ acc) : ∀ (d i : Nat), i + d = n → ∀ {L : List Bool} {b : Bool}, Lv n δ acc L → ∀ r, r = livP δ d i (L, b) → Lv n δ acc r.1 ∧ falses r.1 ≤ falses L ∧ (r.2 = false → b = false ∧ r.1 = L ∧ ∀ s x, (i : Int) ≤ s → s < (n : Int) → Byte x → δ s x ≠ -1 → la L (δ s x) = true → la L s = true) ∧ (r.2 = true → b = true ∨ falses r.1 < falses L)
  | 0, i, hi, L, b, h, r, hr => by
    subst hr
    exact ⟨h, Nat.le_refl _, fun e => ⟨e, rfl, fun s x h1 h2 => by omega⟩, fun e => .inl e⟩
  | d + 1, i, hi, L, b, h, r, hr => by
    simp only [livP] at hr
    obtain ⟨s, hs⟩ : ∃ s, s = livR δ i 256 (L, b) := ⟨_, rfl⟩
    rw [← hs] at hr
    obtain ⟨h1, h2, h3, h4⟩ := livR_lv M (i := (i : Int)) ⟨by omega, by omega⟩ 256 (Nat.le_refl _) h s hs
    obtain ⟨g1, g2, g3, g4⟩ := livP_lv M d (i + 1) (by omega) h1 r hr
    refine ⟨g1, by omega, fun e => ?_, fun e => ?_⟩
    · obtain ⟨e1, e2, e3⟩ := g3 e
      obtain ⟨f1, f2, f3⟩ := h3 e1
      rw [f2] at e2 e3
      refine ⟨f1, e2, fun t x ht0 ht1 hx => ?_⟩
      by_cases ht : t = (i : Int)
      · subst ht; exact f3 x (by have := hx.1; omega) hx.2
      · exact e3 t x (by omega) ht1 hx
    · rcases g4 e with g | g
      · rcases h4 g with f | f
        · exact .inl f
        · exact .inr (by omega)
      · exact .inr (by omega)
theorem livF_ok {n : Nat} {δ : Int → Int → Int} {acc : Int → Bool} (M : Ok n δ acc) : ∀ (k : Nat) {L : List Bool}, Lv n δ acc L → falses L < k → ∃ R, livF δ n k L = some R ∧ R.length = n ∧ ∀ s, In n s → (la R s = true ↔ Live δ acc s)
  | 0, L, h, hk => by omega
  | k + 1, L, h, hk => by
    obtain ⟨r, hr⟩ : ∃ r, r = livP δ n 0 (L, false) := ⟨_, rfl⟩
    obtain ⟨h1, h2, h3, h4⟩ := livP_lv M n 0 (by omega) h r hr
    simp only [livF, ← hr]
    by_cases e : r.2 = true
    · rw [if_pos e]
      rcases h4 e with f | f
      · cases f
      · exact livF_ok M k h1 (by omega)
    · rw [if_neg e]
      obtain ⟨e1, e2, e3⟩ := h3 (by simpa using e)
      refine ⟨r.1, rfl, h1.len, fun s hs => ⟨h1.live s hs, ?_⟩⟩
      rw [e2]
      rintro ⟨l, hb, hq⟩
      clear hr e e1 h1 h2 h3 h4 e2
      induction l generalizing s with
      | nil => exact h.acc_ s hs hq
      | cons x l ih =>
        have hst := M.to_ s x hs hb.head
        have hq' : acc (run δ (δ s x) l) = true := hq
        rcases hst with e | e
        · rw [e, run_dead M.dead, M.no] at hq'; cases hq'
        · exact e3 s x hs.1 hs.2 hb.head (by have := e.1; omega) (ih _ e hb.tail hq')
/-! machines out of rows -/
def dR (rows : List (List Int)) (s x : Int) : Int := if s = -1 then -1 else at_ (rows.getD s.toNat []) x
def aR (A : List Bool) (s : Int) : Bool := if s = -1 then false else la A s
structure Rows (rows : List (List Int)) : Prop where
  wide : ∀ r ∈ rows, r.length = 256
  to_ : ∀ r ∈ rows, ∀ y ∈ r, St rows.length y
theorem Rows.ok {rows : List (List Int)} (h : Rows rows) (A : List Bool) : Ok rows.length (dR rows) (aR A) := by
  refine ⟨fun x => if_pos rfl, fun s x hs hx => ?_, if_pos rfl⟩
  obtain ⟨j, rfl, hj⟩ := nat_in hs
  unfold dR
  rw [if_neg (by omega), Int.toNat_natCast, List.getD_eq_getElem?_getD, List.getElem?_eq_getElem hj]
  have hm := List.getElem_mem hj
  have hw := h.wide _ hm
  exact h.to_ _ hm _ (at_mem (l := rows[j]) hx.1 (by have := hx.2; omega))
section
variable {α : Type} [DecidableEq α]
def ix (k : α) : List α → Nat
  | [] => 0
  | a :: l => if a = k then 0 else ix k l + 1
theorem ix_le (k : α) : ∀ l, ix k l ≤ l.length
  | [] => Nat.le_refl _
  | a :: l => by
    have := ix_le k l
    simp only [ix, List.length_cons]; split <;> omega
theorem ix_at {k : α} : ∀ {l : List α}, ix k l < l.length → l[ix k l]? = some k
  | [], h => by simp at h
  | a :: l, h => by
    simp only [ix, List.length_cons] at h ⊢
    split
    · rename_i e; rw [e]; rfl
    · rename_i e
      rw [if_neg e] at h
      rw [List.getElem?_cons_succ]
      exact ix_at (by omega)
theorem ix_no {k : α} : ∀ {l : List α}, ix k l = l.length → k ∉ l
  | [], _ => by simp
  | a :: l, h => by
    simp only [ix, List.length_cons] at h
    split at h
    · omega
    · rename_i e
      intro hm
      rcases List.mem_cons.1 hm with rfl | hm
      · exact e rfl
      · exact ix_no (by omega) hm
end
def bothB (da db : Int → Int → Int) (p : Int × Int) (x : Int) (st : List (Int × Int) × List Int) : List (Int × Int) × List Int :=
  (if ix (da p.1 x, db p.2 x) st.1 = st.1.length then st.1 ++ [(da p.1 x, db p.2 x)] else st.1, st.2.set x.toNat (ix (da p.1 x, db p.2 x) st.1 : Int))
def bothR (da db : Int → Int → Int) (p : Int × Int) : Nat → List (Int × Int) × List Int → List (Int × Int) × List Int
  | 0, st => st
  | d + 1, st => bothR da db p d (bothB da db p ((256 - (d + 1) : Nat) : Int) st)
def zeros : List Int := List.replicate 256 0
def bothF (da db : Int → Int → Int) (is : Int → Int → Bool) : Nat → Nat → List (Int × Int) → List (List Int) → List Bool → Option (List (Int × Int) × List (List Int) × List Bool)
  | 0, _, _, _, _ => none
  | k + 1, a, o, R, A => if o.length ≤ 8192 ∧ R.length ≤ 8192 ∧ A.length ≤ 8192 then (if a < o.length then
      bothF da db is k (a + 1) (bothR da db (o.getD a (0, 0)) 256 (o, zeros)).1 (R ++ [(bothR da db (o.getD a (0, 0)) 256 (o, zeros)).2]) (A ++ [is (o.getD a (0, 0)).1 (o.getD a (0, 0)).2])
    else some (o, R, A)) else none
def Pairs (na nb : Nat) (o : List (Int × Int)) : Prop := o.Nodup ∧ ∀ p ∈ o, St na p.1 ∧ St nb p.2
theorem pairs_len {na nb : Nat} {o : List (Int × Int)} (h : Pairs na nb o) : o.length ≤ (na + 1) * (nb + 1) := by
  have h2 := nodup_le ((na + 1) * (nb + 1)) (o.map fun p => (p.1 + 1) * (nb + 1 : Int) + (p.2 + 1)) ?_ ?_
  · simpa using h2
  · unfold List.Nodup
    rw [List.pairwise_map]
    refine List.Pairwise.imp_of_mem ?_ h.1
    intro p q hp hq hne he
    apply hne
    obtain ⟨a1, a2⟩ := h.2 p hp
    obtain ⟨b1, b2⟩ := h.2 q hq
    have c1 : 0 ≤ p.2 + 1 ∧ p.2 + 1 < (nb : Int) + 1 := by rcases a2 with e | e; omega; have := e.1; have := e.2; omega
    have c2 : 0 ≤ q.2 + 1 ∧ q.2 + 1 < (nb : Int) + 1 := by rcases b2 with e | e; omega; have := e.1; have := e.2; omega
    have d1 : ((p.1 + 1) * ((nb : Int) + 1) + (p.2 + 1)) / ((nb : Int) + 1) = p.1 + 1 := by
      rw [Int.add_comm, Int.add_mul_ediv_right _ _ (by omega), Int.ediv_eq_zero_of_lt c1.1 c1.2]; omega
    have d2 : ((q.1 + 1) * ((nb : Int) + 1) + (q.2 + 1)) / ((nb : Int) + 1) = q.1 + 1 := by
      rw [Int.add_comm, Int.add_mul_ediv_right _ _ (by omega), Int.ediv_eq_zero_of_lt c2.1 c2.2]; omega
    rw [he, d2] at d1
    have e1 : p.1 = q.1 := by omega
    rw [e1] at he
    exact Prod.ext e1 (by omega)
  · intro x hx
    obtain ⟨p, hp, rfl⟩ := List.mem_map.1 hx
    obtain ⟨a1, a2⟩ := h.2 p hp
    have c0 : 0 ≤ p.1 + 1 ∧ p.1 + 1 ≤ (na : Int) := by rcases a1 with e | e; omega; have := e.1; have := e.2; omega
    have c1 : 0 ≤ p.2 + 1 ∧ p.2 + 1 ≤ (nb : Int) := by rcases a2 with e | e; omega; have := e.1; have := e.2; omega
    have m1 : 0 ≤ (p.1 + 1) * ((nb : Int) + 1) := Int.mul_nonneg c0.1 (by omega)
    have m2 : (p.1 + 1) * ((nb : Int) + 1) ≤ (na : Int) * ((nb : Int) + 1) := Int.mul_le_mul_of_nonneg_right c0.2 (by omega)
    have m3 : (((na + 1) * (nb + 1) : Nat) : Int) = (na : Int) * ((nb : Int) + 1) + ((nb : Int) + 1) := by
      push_cast
      rw [Int.add_mul]; omega
    exact ⟨by show 0 ≤ _; omega, by rw [m3]; omega⟩
/-- What holds of a row ahead of byte x. -/
structure Bo (da db : Int → Int → Int) (p : Int × Int) (na nb : Nat) (x : Int) (o : List (Int × Int)) (r : List Int) : Prop where
  pairs : Pairs na nb o
  len : r.length = 256
  leads : ∀ y, 0 ≤ y → y < x → 0 ≤ at_ r y ∧ o[(at_ r y).toNat]? = some (da p.1 y, db p.2 y)
  rest : ∀ y ∈ r, 0 ≤ y ∧ y ≤ (o.length : Int)
theorem at_set {l : List Int} {i j : Int} {v : Int} (h0 : 0 ≤ i) (h1 : i < (l.length : Int)) (hj : 0 ≤ j) : at_ (l.set i.toNat v) j = if j = i then v else at_ l j := by
  unfold at_
  rw [List.getD_eq_getElem?_getD, List.getD_eq_getElem?_getD]
  by_cases e : j = i
  · subst e
    rw [if_pos rfl, List.getElem?_set_self (by omega)]; rfl
  · rw [if_neg e, List.getElem?_set_ne (by omega)]
theorem bothB_bo {da db : Int → Int → Int} {aa ab : Int → Bool} {na nb : Nat} (Ma : Ok na da aa) (Mb : Ok nb db ab) {p : Int × Int} (hp : St na p.1 ∧ St nb p.2) {x : Int} (hx : Byte x) {o : List (Int × Int)} {r : List Int} (h : Bo da db p na nb x o r) :
    ∀ s, s = bothB da db p x (o, r) → Bo da db p na nb (x + 1) s.1 s.2 ∧ ∃ m, s.1 = o ++ m := by
  intro s hs
  have hl := h.len
  obtain ⟨hx0, hx1⟩ := hx
  have hka := Ma.st hp.1 ⟨hx0, hx1⟩
  have hkb := Mb.st hp.2 ⟨hx0, hx1⟩
  obtain ⟨k, hk⟩ : ∃ k, k = (da p.1 x, db p.2 x) := ⟨_, rfl⟩
  unfold bothB at hs
  simp only [← hk] at hs
  have hle := ix_le k o
  obtain ⟨j, hj⟩ : ∃ j, j = ix k o := ⟨_, rfl⟩
  rw [← hj] at hs hle
  subst hs
  have hO : ∃ m, (if j = o.length then o ++ [k] else o) = o ++ m := by
    split
    · exact ⟨_, rfl⟩
    · exact ⟨[], by simp⟩
  have hkj : (if j = o.length then o ++ [k] else o)[j]? = some k := by
    by_cases e : j = o.length
    · rw [if_pos e, e]; simp
    · rw [if_neg e, hj]
      exact ix_at (by omega)
  refine ⟨⟨?_, by simp; exact hl, fun y h0 h1 => ?_, fun y hy => ?_⟩, hO⟩
  · by_cases e : j = o.length
    · show Pairs na nb (if j = o.length then o ++ [k] else o)
      rw [if_pos e]
      have hno := ix_no (k := k) (l := o) (by omega)
      refine ⟨?_, fun q hq => ?_⟩
      · unfold List.Nodup
        rw [List.pairwise_append]
        refine ⟨h.pairs.1, List.pairwise_singleton _ _, fun a ha b hb => ?_⟩
        rw [List.mem_singleton.1 hb]
        exact fun e => hno (e ▸ ha)
      · rcases List.mem_append.1 hq with hq | hq
        · exact h.pairs.2 q hq
        · rw [List.mem_singleton.1 hq, hk]; exact ⟨hka, hkb⟩
    · show Pairs na nb (if j = o.length then o ++ [k] else o)
      rw [if_neg e]; exact h.pairs
  · show 0 ≤ at_ (r.set x.toNat (j : Int)) y ∧ (if j = o.length then o ++ [k] else o)[(at_ (r.set x.toNat (j : Int)) y).toNat]? = _
    rw [at_set hx0 (by omega) h0]
    by_cases e : y = x
    · subst e
      rw [if_pos rfl, Int.toNat_natCast, hkj, hk]
      exact ⟨by omega, rfl⟩
    · rw [if_neg e]
      obtain ⟨g1, g2⟩ := h.leads y h0 (by omega)
      refine ⟨g1, ?_⟩
      obtain ⟨m, hm⟩ := hO
      rw [hm, List.getElem?_append_left (List.getElem?_eq_some_iff.1 g2).1]
      exact g2
  · obtain ⟨m, hm⟩ := hO
    show 0 ≤ y ∧ y ≤ (((if j = o.length then o ++ [k] else o).length : Nat) : Int)
    have hlen : o.length ≤ (if j = o.length then o ++ [k] else o).length := by rw [hm]; simp
    rcases List.mem_or_eq_of_mem_set hy with hy | hy
    · have := h.rest y hy; omega
    · omega
theorem bothR_bo {da db : Int → Int → Int} {aa ab : Int → Bool} {na nb : Nat} (Ma : Ok na da aa) (Mb : Ok nb db ab) {p : Int × Int} (hp : St na p.1 ∧ St nb p.2) : ∀ (d : Nat), d ≤ 256 → ∀ {o : List (Int × Int)} {r : List Int}, Bo da db p na nb ((256 - d : Nat) : Int) o r →
    ∀ s, s = bothR da db p d (o, r) → Bo da db p na nb 256 s.1 s.2 ∧ ∃ m, s.1 = o ++ m
  | 0, _, o, r, h, s, hs => by
    subst hs
    exact ⟨h, [], by simp [bothR]⟩
  | d + 1, hd, o, r, h, s, hs => by
    simp only [bothR] at hs
    obtain ⟨q, hq⟩ : ∃ q, q = bothB da db p ((256 - (d + 1) : Nat) : Int) (o, r) := ⟨_, rfl⟩
    rw [← hq] at hs
    obtain ⟨h1, m, hm⟩ := bothB_bo Ma Mb hp ⟨by omega, by omega⟩ h q hq
    rw [show ((256 - (d + 1) : Nat) : Int) + 1 = ((256 - d : Nat) : Int) by omega] at h1
    obtain ⟨h2, m2, hm2⟩ := bothR_bo Ma Mb hp d (by omega) h1 s hs
    exact ⟨h2, m ++ m2, by rw [hm2, hm, List.append_assoc]⟩
/-- What holds ahead of state a. -/
structure Bs (da db : Int → Int → Int) (is : Int → Int → Bool) (na nb a : Nat) (o : List (Int × Int)) (R : List (List Int)) (A : List Bool) : Prop where
  pairs : Pairs na nb o
  rl : R.length = a
  wide : ∀ r ∈ R, r.length = 256
  rest : ∀ r ∈ R, ∀ y ∈ r, 0 ≤ y ∧ y < (o.length : Int)
  leads : ∀ s : Nat, s < a → ∀ y, Byte y → o[(at_ (R.getD s []) y).toNat]? = some (da (o.getD s (0, 0)).1 y, db (o.getD s (0, 0)).2 y)
  acc : A = (o.take a).map fun p => is p.1 p.2
theorem bothF_bs {da db : Int → Int → Int} {aa ab : Int → Bool} {na nb : Nat} (is : Int → Int → Bool) (Ma : Ok na da aa) (Mb : Ok nb db ab) {p0 : Int × Int} : ∀ (k a : Nat) {o : List (Int × Int)} {R : List (List Int)} {A : List Bool}, Bs da db is na nb a o R A → o[0]? = some p0 → a ≤ o.length → (na + 1) * (nb + 1) < a + k → (na + 1) * (nb + 1) ≤ 8192 →
    ∃ r, bothF da db is k a o R A = some r ∧ Bs da db is na nb r.1.length r.1 r.2.1 r.2.2 ∧ r.1[0]? = some p0
  | 0, a, o, R, A, h, h0, ha, hk, hn => by have := pairs_len h.pairs; omega
  | k + 1, a, o, R, A, h, h0, ha, hk, hn => by
    have hpl := pairs_len h.pairs
    have hrl := h.rl
    have hAl : A.length = a := by rw [h.acc]; simp; omega
    simp only [bothF]
    rw [if_pos ⟨by omega, by omega, by omega⟩]
    by_cases c : a < o.length
    · rw [if_pos c]
      have hg : o.getD a (0, 0) = o[a] := by rw [List.getD_eq_getElem?_getD, List.getElem?_eq_getElem c]; rfl
      have hp := h.pairs.2 _ (List.getElem_mem c)
      rw [← hg] at hp
      obtain ⟨s, hs⟩ : ∃ s, s = bothR da db (o.getD a (0, 0)) 256 (o, zeros) := ⟨_, rfl⟩
      rw [← hs]
      obtain ⟨h1, m, hm⟩ := bothR_bo Ma Mb hp 256 (Nat.le_refl _) (o := o) (r := zeros) ⟨h.pairs, List.length_replicate, fun y g0 g1 => by omega, fun y hy => by
        have : y = 0 := List.eq_of_mem_replicate hy
        omega⟩ s hs
      have hol : o.length ≤ s.1.length := by rw [hm]; simp
      have hgd : ∀ t : Nat, t < o.length → s.1.getD t (0, 0) = o.getD t (0, 0) := fun t ht => by
        rw [hm, List.getD_eq_getElem?_getD, List.getD_eq_getElem?_getD, List.getElem?_append_left ht]
      refine bothF_bs is Ma Mb k (a + 1) ⟨h1.pairs, by simp; exact h.rl, fun r hr => ?_, fun r hr y hy => ?_, fun t ht y hy => ?_, ?_⟩ ?_ (by omega) (by omega) hn
      · rcases List.mem_append.1 hr with hr | hr
        · exact h.wide r hr
        · rw [List.mem_singleton.1 hr]; exact h1.len
      · rcases List.mem_append.1 hr with hr | hr
        · have := h.rest r hr y hy; omega
        · rw [List.mem_singleton.1 hr] at hy
          -- every place of the row has been written
          obtain ⟨i, hi, hiy⟩ := List.mem_iff_getElem.1 hy
          have hl := h1.len
          obtain ⟨g1, g2⟩ := h1.leads (i : Int) (by omega) (by omega)
          have e : at_ s.2 (i : Int) = y := by
            unfold at_
            rw [Int.toNat_natCast, List.getD_eq_getElem?_getD, List.getElem?_eq_getElem hi, hiy]; rfl
          rw [e] at g1 g2
          have := (List.getElem?_eq_some_iff.1 g2).1
          omega
      · by_cases e : t = a
        · subst e
          have e2 : (R ++ [s.2]).getD t [] = s.2 := by
            rw [List.getD_eq_getElem?_getD, ← h.rl]; simp
          rw [e2, hgd t c]
          exact (h1.leads y hy.1 (by have := hy.2; omega)).2
        · have ht' : t < a := by omega
          have e2 : (R ++ [s.2]).getD t [] = R.getD t [] := by
            rw [List.getD_eq_getElem?_getD, List.getD_eq_getElem?_getD, List.getElem?_append_left (by rw [h.rl]; exact ht')]
          rw [e2, hgd t (by omega)]
          have g := h.leads t ht' y hy
          rw [hm, List.getElem?_append_left (List.getElem?_eq_some_iff.1 g).1]
          exact g
      · rw [hm, List.take_append_of_le_length (by omega), h.acc, hg]
        rw [List.take_add_one, List.getElem?_eq_getElem c, List.map_append]; rfl
      · rw [hm, List.getElem?_append_left (by omega)]; exact h0
    · rw [if_neg c]
      obtain rfl : a = o.length := by omega
      exact ⟨_, rfl, h, h0⟩
/-- The machine of both is a machine, and says what both say. -/
theorem bs_says {da db : Int → Int → Int} {na nb : Nat} (is : Int → Int → Bool) {o : List (Int × Int)} {R : List (List Int)} {A : List Bool} (h : Bs da db is na nb o.length o R A) : Rows R ∧ ∀ l, Bytes l → ∀ (s : Int) (p : Int × Int), 0 ≤ s → o[s.toNat]? = some p → aR A (run (dR R) s l) = is (run da p.1 l) (run db p.2 l) := by
  have hrl := h.rl
  refine ⟨⟨h.wide, fun r hr y hy => .inr (by have := h.rest r hr y hy; exact ⟨this.1, by omega⟩)⟩, ?_⟩
  intro l
  induction l with
  | nil =>
    intro _ s p hs hp
    show aR A s = is p.1 p.2
    have hlt := (List.getElem?_eq_some_iff.1 hp).1
    unfold aR la
    rw [if_neg (by omega), h.acc, List.take_length, List.getD_eq_getElem?_getD, List.getElem?_map, hp]; rfl
  | cons x l ih =>
    intro hb s p hs hp
    have hlt := (List.getElem?_eq_some_iff.1 hp).1
    have hg := h.leads s.toNat hlt x hb.head
    have e : o.getD s.toNat (0, 0) = p := by rw [List.getD_eq_getElem?_getD, hp]; rfl
    rw [e] at hg
    have e2 : dR R s x = at_ (R.getD s.toNat []) x := if_neg (by omega)
    show aR A (run (dR R) (dR R s x) l) = is (run da (da p.1 x) l) (run db (db p.2 x) l)
    have hm : R.getD s.toNat [] ∈ R := by
      rw [List.getD_eq_getElem?_getD, List.getElem?_eq_getElem (by omega)]
      exact List.getElem_mem _
    have hw := h.wide _ hm
    have hr := h.rest _ hm _ (at_mem (l := R.getD s.toNat []) (i := x) hb.head.1 (by have := hb.head.2; omega))
    rw [e2]
    exact ih hb.tail _ _ hr.1 hg
/-! a shortest text: states as they are found, with how -/
def fnd (F : List (Int × List Int)) (s : Int) : Bool := F.any fun p => p.1 == s
def shB (δ : Int → Int → Int) (p : Int × List Int) (x : Int) (F : List (Int × List Int)) : List (Int × List Int) := if δ p.1 x ≠ -1 ∧ fnd F (δ p.1 x) = false then F ++ [(δ p.1 x, p.2 ++ [x])] else F
def shR (δ : Int → Int → Int) (p : Int × List Int) : Nat → List (Int × List Int) → List (Int × List Int)
  | 0, F => F
  | d + 1, F => shR δ p d (shB δ p ((256 - (d + 1) : Nat) : Int) F)
def shF (δ : Int → Int → Int) (acc : Int → Bool) : Nat → Nat → List (Int × List Int) → Option (Option (List Int))
  | 0, _, _ => none
  | k + 1, a, F => if F.length ≤ 8192 ∧ (F.getD a (0, [])).2.length ≤ 8192 then (if a < F.length then (if acc (F.getD a (0, [])).1 = true then some (some (F.getD a (0, [])).2) else shF δ acc k (a + 1) (shR δ (F.getD a (0, [])) 256 F)) else some none) else none
theorem run_append (δ : Int → Int → Int) : ∀ (l m : List Int) (s : Int), run δ s (l ++ m) = run δ (run δ s l) m
  | [], _, _ => rfl
  | x :: l, m, s => run_append δ l m (δ s x)
theorem fnd_iff {F : List (Int × List Int)} {s : Int} : fnd F s = true ↔ ∃ p ∈ F, p.1 = s := by
  unfold fnd
  rw [List.any_eq_true]
  exact ⟨fun ⟨p, hp, h⟩ => ⟨p, hp, by simpa using h⟩, fun ⟨p, hp, h⟩ => ⟨p, hp, by simpa using h⟩⟩
structure Sh (n : Nat) (δ : Int → Int → Int) (F : List (Int × List Int)) : Prop where
  apart : (F.map Prod.fst).Nodup
  ok : ∀ p ∈ F, In n p.1 ∧ Bytes p.2 ∧ run δ 0 p.2 = p.1
  size : ∀ p ∈ F, p.2.length < F.length
theorem Sh.len {n : Nat} {δ : Int → Int → Int} {F : List (Int × List Int)} (h : Sh n δ F) : F.length ≤ n := by
  have := nodup_le n _ h.apart (fun x hx => by
    obtain ⟨p, hp, rfl⟩ := List.mem_map.1 hx
    exact (h.ok p hp).1)
  simpa using this
theorem shB_sh {n : Nat} {δ : Int → Int → Int} {acc : Int → Bool} (M : Ok n δ acc) {F : List (Int × List Int)} (h : Sh n δ F) {p : Int × List Int} (hp : p ∈ F) {x : Int} (hx : Byte x) : Sh n δ (shB δ p x F) ∧ (∃ m, shB δ p x F = F ++ m) ∧ (δ p.1 x ≠ -1 → fnd (shB δ p x F) (δ p.1 x) = true) := by
  obtain ⟨p1, p2, p3⟩ := h.ok p hp
  unfold shB
  by_cases c : δ p.1 x ≠ -1 ∧ fnd F (δ p.1 x) = false
  · rw [if_pos c]
    obtain ⟨c1, c2⟩ := c
    refine ⟨⟨?_, fun q hq => ?_, fun q hq => ?_⟩, ⟨_, rfl⟩, fun _ => fnd_iff.2 ⟨(δ p.1 x, p.2 ++ [x]), by simp, rfl⟩⟩
    · rw [List.map_append]
      unfold List.Nodup
      rw [List.pairwise_append]
      refine ⟨h.apart, List.pairwise_singleton _ _, fun a ha b hb => ?_⟩
      rw [List.mem_singleton.1 hb]
      obtain ⟨q, hq, rfl⟩ := List.mem_map.1 ha
      intro e
      have : fnd F (δ p.1 x) = true := fnd_iff.2 ⟨q, hq, e⟩
      rw [c2] at this; cases this
    · rcases List.mem_append.1 hq with hq | hq
      · exact h.ok q hq
      · rw [List.mem_singleton.1 hq]
        refine ⟨?_, fun y hy => ?_, ?_⟩
        · rcases M.to_ _ x p1 hx with e | e
          · exact absurd e c1
          · exact e
        · rcases List.mem_append.1 hy with hy | hy
          · exact p2 y hy
          · rw [List.mem_singleton.1 hy]; exact hx
        · show run δ 0 (p.2 ++ [x]) = δ p.1 x
          rw [run_append, p3]; rfl
    · have hps := h.size p hp
      rcases List.mem_append.1 hq with hq | hq
      · have := h.size q hq
        simp; omega
      · rw [List.mem_singleton.1 hq]
        simp; exact hps
  · rw [if_neg c]
    refine ⟨h, ⟨[], by simp⟩, fun h1 => ?_⟩
    cases hq : fnd F (δ p.1 x)
    · exact absurd ⟨h1, hq⟩ c
    · rfl
theorem shR_sh {n : Nat} {δ : Int → Int → Int} {acc : Int → Bool} (M : Ok n δ acc) {p : Int × List Int} : ∀ (d : Nat), d ≤ 256 → ∀ {F : List (Int × List Int)}, Sh n δ F → p ∈ F → Sh n δ (shR δ p d F) ∧ (∃ m, shR δ p d F = F ++ m) ∧ ∀ x, ((256 - d : Nat) : Int) ≤ x → x ≤ 255 → δ p.1 x ≠ -1 → fnd (shR δ p d F) (δ p.1 x) = true
  | 0, _, F, h, hp => ⟨h, ⟨[], by simp [shR]⟩, fun x h0 h1 => by omega⟩
  | d + 1, hd, F, h, hp => by
    obtain ⟨h1, ⟨m, hm⟩, h2⟩ := shB_sh M h hp (x := ((256 - (d + 1) : Nat) : Int)) ⟨by omega, by omega⟩
    obtain ⟨g1, ⟨m2, hm2⟩, g2⟩ := shR_sh M (p := p) d (by omega) h1 (by rw [hm]; simp [hp])
    simp only [shR]
    refine ⟨g1, ⟨m ++ m2, by rw [hm2, hm, List.append_assoc]⟩, fun x hx0 hx1 hne => ?_⟩
    by_cases e : x = ((256 - (d + 1) : Nat) : Int)
    · subst e
      obtain ⟨q, hq, hq2⟩ := fnd_iff.1 (h2 hne)
      exact fnd_iff.2 ⟨q, by rw [hm2]; exact List.mem_append_left _ hq, hq2⟩
    · exact g2 x (by omega) hx1 hne
theorem shF_ok {n : Nat} {δ : Int → Int → Int} {acc : Int → Bool} (M : Ok n δ acc) (hl : Live δ acc 0) : ∀ (k a : Nat) {F : List (Int × List Int)}, Sh n δ F → fnd F 0 = true → a ≤ F.length → n < a + k → n ≤ 8192 →
    (∀ i : Nat, i < a → acc (F.getD i (0, [])).1 = false ∧ ∀ x, Byte x → δ (F.getD i (0, [])).1 x ≠ -1 → fnd F (δ (F.getD i (0, [])).1 x) = true) →
    ∃ t, shF δ acc k a F = some (some t) ∧ Bytes t ∧ acc (run δ 0 t) = true
  | 0, a, F, h, h0, ha, hk, hn, hI => by have := h.len; omega
  | k + 1, a, F, h, h0, ha, hk, hn, hI => by
    have hFl := h.len
    have hsz : (F.getD a (0, [])).2.length ≤ 8192 := by
      by_cases c : a < F.length
      · have hm : F.getD a (0, []) ∈ F := by
          rw [List.getD_eq_getElem?_getD, List.getElem?_eq_getElem c]; exact List.getElem_mem c
        have := h.size _ hm; omega
      · rw [List.getD_eq_getElem?_getD, List.getElem?_eq_none (by omega)]; simp
    simp only [shF]
    rw [if_pos ⟨by omega, hsz⟩]
    by_cases c : a < F.length
    · rw [if_pos c]
      have hg : F.getD a (0, []) = F[a] := by rw [List.getD_eq_getElem?_getD, List.getElem?_eq_getElem c]; rfl
      have hm : F.getD a (0, []) ∈ F := by rw [hg]; exact List.getElem_mem c
      obtain ⟨p1, p2, p3⟩ := h.ok _ hm
      by_cases ca : acc (F.getD a (0, [])).1 = true
      · rw [if_pos ca]
        exact ⟨_, rfl, p2, by rw [p3]; exact ca⟩
      · rw [if_neg ca]
        obtain ⟨h1, ⟨m, hm1⟩, h2⟩ := shR_sh M 256 (Nat.le_refl _) h hm
        have hup : ∀ s, fnd F s = true → fnd (shR δ (F.getD a (0, [])) 256 F) s = true := fun s hs => by
          obtain ⟨q, hq, hq2⟩ := fnd_iff.1 hs
          exact fnd_iff.2 ⟨q, by rw [hm1]; simp [hq], hq2⟩
        have hgd : ∀ i : Nat, i < F.length → (shR δ (F.getD a (0, [])) 256 F).getD i (0, []) = F.getD i (0, []) := fun i hi => by
          rw [hm1, List.getD_eq_getElem?_getD, List.getD_eq_getElem?_getD, List.getElem?_append_left hi]
        refine shF_ok M hl k (a + 1) h1 (hup 0 h0) (by rw [hm1]; simp; omega) (by omega) hn fun i hi => ?_
        rw [hgd i (by omega)]
        by_cases e : i = a
        · subst e
          exact ⟨by simpa using ca, fun x hx hne => h2 x (by have := hx.1; omega) hx.2 hne⟩
        · obtain ⟨g1, g2⟩ := hI i (by omega)
          exact ⟨g1, fun x hx hne => hup _ (g2 x hx hne)⟩
    · exfalso
      obtain ⟨l, hb, hq⟩ := hl
      have key : ∀ (l : List Int) (s : Int), Bytes l → fnd F s = true → acc (run δ s l) = false := fun l => by
        induction l with
        | nil =>
          intro s _ hs
          obtain ⟨q, hq, rfl⟩ := fnd_iff.1 hs
          obtain ⟨i, hi, rfl⟩ := List.mem_iff_getElem.1 hq
          have := (hI i (by omega)).1
          rw [List.getD_eq_getElem?_getD, List.getElem?_eq_getElem hi] at this
          exact this
        | cons x l ih =>
          intro s hb hs
          obtain ⟨q, hq, rfl⟩ := fnd_iff.1 hs
          obtain ⟨i, hi, rfl⟩ := List.mem_iff_getElem.1 hq
          have := (hI i (by omega)).2 x hb.head
          rw [List.getD_eq_getElem?_getD, List.getElem?_eq_getElem hi] at this
          show acc (run δ (δ F[i].1 x) l) = false
          by_cases e : δ F[i].1 x = -1
          · rw [e, run_dead M.dead, M.no]
          · exact ih _ hb.tail (this e)
      rw [key l 0 hb h0] at hq
      cases hq
/-! a guide's machine -/
def fillB (e : Ed) : Nat → List Int → List Int
  | 0, r => r
  | d + 1, r => fillB e d (r.set (e.f2 - (d : Int)).toNat e.f3)
def fillE (R : List (List Int)) (e : Ed) : List (List Int) := R.set e.f0.toNat (fillB e (e.f2 - e.f1 + 1).toNat (R.getD e.f0.toNat []))
theorem fillB_len (e : Ed) : ∀ (d : Nat) (r : List Int), (fillB e d r).length = r.length
  | 0, r => rfl
  | d + 1, r => by simp only [fillB]; rw [fillB_len e d]; simp
theorem fillB_at {e : Ed} {r : List Int} (hr : r.length = 256) : ∀ (d : Nat) {r : List Int}, r.length = 256 → 0 ≤ e.f2 - (d : Int) + 1 → e.f2 ≤ 255 → ∀ x, 0 ≤ x → at_ (fillB e d r) x = if e.f2 - (d : Int) + 1 ≤ x ∧ x ≤ e.f2 then e.f3 else at_ r x
  | 0, r, hl, h0, h1, x, hx => by simp only [fillB]; rw [if_neg (by omega)]
  | d + 1, r, hl, h0, h1, x, hx => by
    simp only [fillB]
    rw [fillB_at hr d (by simp; exact hl) (by omega) h1 x hx, at_set (by omega) (by omega) hx]
    by_cases c : e.f2 - ((d + 1 : Nat) : Int) + 1 ≤ x ∧ x ≤ e.f2
    · rw [if_pos c]
      by_cases c2 : e.f2 - (d : Int) + 1 ≤ x ∧ x ≤ e.f2
      · rw [if_pos c2]
      · rw [if_neg c2, if_pos (by omega)]
    · rw [if_neg c, if_neg (by omega), if_neg (by omega)]
def fill (R : List (List Int)) (E : List Ed) : List (List Int) := E.foldl fillE R
def deads : List Int := List.replicate 256 (-1)
/-- An edge that is right. -/
structure EdOk (n : Nat) (e : Ed) : Prop where
  f0 : In n e.f0
  f1 : 0 ≤ e.f1
  f2 : e.f2 ≤ 255
  le : e.f1 ≤ e.f2
  f3 : In n e.f3
theorem nx_snoc {s x : Int} {e : Ed} : ∀ {E : List Ed}, (∀ a ∈ E, ¬ meets a e) → nx (E ++ [e]) s x = if fits e s x then e.f3 else nx E s x
  | [], _ => by simp [nx]
  | a :: E, h => by
    have ih := nx_snoc (s := s) (x := x) (E := E) fun b hb => h b (List.mem_cons_of_mem _ hb)
    simp only [List.cons_append, nx]
    rw [ih]
    by_cases ca : fits a s x
    · have h2 := h a List.mem_cons_self
      rw [if_pos ca, if_pos ca, if_neg fun hf => h2 ⟨by rw [ca.1, hf.1], by have := ca.2.1; have := hf.2.2; omega, by have := hf.2.1; have := ca.2.2; omega⟩]
    · rw [if_neg ca, if_neg ca]
structure Fl (n : Nat) (E : List Ed) (R : List (List Int)) : Prop where
  len : R.length = n
  wide : ∀ r ∈ R, r.length = 256
  leads : ∀ s x, In n s → Byte x → at_ (R.getD s.toNat []) x = nx E s x
theorem getD_mem {R : List (List Int)} {n : Nat} {s : Int} (hl : R.length = n) (hs : In n s) : R.getD s.toNat [] ∈ R := by
  have h0 := hs.1
  have h1 := hs.2
  rw [List.getD_eq_getElem?_getD, List.getElem?_eq_getElem (by omega)]
  exact List.getElem_mem _
theorem fillE_fl {n : Nat} {E : List Ed} {R : List (List Int)} {e : Ed} (h : Fl n E R) (he : EdOk n e) (hm : ∀ a ∈ E, ¬ meets a e) : Fl n (E ++ [e]) (fillE R e) := by
  have hl := h.len
  have h0 := he.f0.1
  have h1 := he.f0.2
  have hw := h.wide _ (getD_mem hl he.f0)
  refine ⟨by unfold fillE; simp; exact hl, fun r hr => ?_, fun s x hs hx => ?_⟩
  · unfold fillE at hr
    rcases List.mem_or_eq_of_mem_set hr with hr | rfl
    · exact h.wide r hr
    · rw [fillB_len]; exact hw
  · rw [nx_snoc hm]
    have hs0 := hs.1
    unfold fillE
    by_cases c : s = e.f0
    · subst c
      have e1 : (R.set e.f0.toNat (fillB e (e.f2 - e.f1 + 1).toNat (R.getD e.f0.toNat []))).getD e.f0.toNat [] = fillB e (e.f2 - e.f1 + 1).toNat (R.getD e.f0.toNat []) := by
        rw [List.getD_eq_getElem?_getD, List.getElem?_set_self (by omega)]; rfl
      have g1 := he.f1
      have g2 := he.f2
      have g3 := he.le
      rw [e1, fillB_at hw _ hw (by omega) he.f2 x hx.1, h.leads _ x hs hx]
      by_cases cf : fits e e.f0 x
      · rw [if_pos cf, if_pos (by have := cf.2.1; have := cf.2.2; omega)]
      · rw [if_neg cf, if_neg fun hc => cf ⟨rfl, by omega, hc.2⟩]
    · have e1 : (R.set e.f0.toNat (fillB e (e.f2 - e.f1 + 1).toNat (R.getD e.f0.toNat []))).getD s.toNat [] = R.getD s.toNat [] := by
        rw [List.getD_eq_getElem?_getD, List.getElem?_set_ne (by omega), ← List.getD_eq_getElem?_getD]
      rw [e1, h.leads s x hs hx, if_neg fun hf => c hf.1.symm]
theorem fill_fl {n : Nat} : ∀ {E P : List Ed} {R : List (List Int)}, Fl n P R → (∀ e ∈ E, EdOk n e) → (E.Pairwise fun e e' => ¬ meets e e') → (∀ a ∈ P, ∀ e ∈ E, ¬ meets a e) → Fl n (P ++ E) (fill R E)
  | [], P, R, h, _, _, _ => by simpa [fill] using h
  | e :: E, P, R, h, h1, h2, h3 => by
    rw [List.pairwise_cons] at h2
    have g := fillE_fl h (h1 e List.mem_cons_self) fun a ha => h3 a ha e List.mem_cons_self
    have := fill_fl (E := E) g (fun e' he' => h1 e' (List.mem_cons_of_mem _ he')) h2.2 fun a ha e' he' => by
      rcases List.mem_append.1 ha with ha | ha
      · exact h3 a ha e' (List.mem_cons_of_mem _ he')
      · rw [List.mem_singleton.1 ha]; exact h2.1 e' he'
    simpa [fill, List.append_assoc] using this
theorem fl_start (n : Nat) : Fl n [] (List.replicate n deads) := by
  refine ⟨by simp, fun r hr => ?_, fun s x hs hx => ?_⟩
  · rw [List.eq_of_mem_replicate hr]; exact List.length_replicate
  · have h0 := hs.1
    have h1 := hs.2
    have hx1 := hx.2
    have hx0 := hx.1
    rw [List.getD_eq_getElem?_getD, List.getElem?_replicate, if_pos (by omega)]
    unfold at_ deads
    rw [Option.getD_some, List.getD_eq_getElem?_getD, List.getElem?_replicate, if_pos (by omega)]; rfl
end Go.Proofs.Ytfjpnmhbbfiaaaa.Mach
