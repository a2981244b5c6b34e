/- A guide as a machine, and what its made guides say: between the printed functions and the machines' theory. On condition that the numbers are of their kinds. -/
import Derived.Test.YtfjpnmhbbfiaaaaZGSLibGuideSays
import Derived.Test.YtfjpnmhbbfiaaaaZGSMachFns
import Derived.Test.YtfjpnmhbbfiaaaaZGSPx18
import Derived.Test.YtfjpnmhbbfiaaaaZGSPx23
import Derived.Test.YtfjpnmhbbfiaaaaZGSPx26
namespace Go.Proofs.Ytfjpnmhbbfiaaaa.L
open Go Go.RowKit Go.Proofs.Ytfjpnmhbbfiaaaa.M Go.Proofs.Ytfjpnmhbbfiaaaa.P Go.Proofs.YtfjpnmhbbfiaaaaW.PrintWords Go.Proofs.YtfjpnmhbbfiaaaaW.PrintLast Go.Proofs.YtfjpnmhbbfiaaaaW.PrintMore Go.Proofs.Ytfjpnmhbbfiaaaa
set_option linter.unusedVariables false
set_option linter.unusedSimpArgs false
/-! ### a guide as a machine -/
theorem nextS_nx (E : List S92) (s x : Int) : ∀ d, d ≤ E.length → nextS E s x d = Mach.nx (E.drop (E.length - d)) s x
  | 0, _ => by simp [nextS, Mach.nx]
  | d + 1, h => by
    have e : E.drop (E.length - (d + 1)) = ed E (E.length - (d + 1)) :: E.drop (E.length - d) := by
      rw [List.drop_eq_getElem_cons (by omega), show E.length - (d + 1) + 1 = E.length - d by omega]
      congr 1
      unfold ed rd_T92
      rw [Int.toNat_natCast, List.getD_eq_getElem?_getD, List.getElem?_eq_getElem (by omega)]; rfl
    rw [e]
    simp only [nextS, Mach.nx]
    rw [nextS_nx E s x d (by omega)]
    rfl
theorem nextS_all (E : List S92) (s x : Int) : nextS E s x E.length = Mach.nx E s x := by
  rw [nextS_nx E s x _ (Nat.le_refl _), Nat.sub_self, List.drop_zero]
theorem gd_dead (E : List S92) : ∀ x, Mach.gd E (-1) x = -1 := fun x => if_pos rfl
def bl (t : ByteArray) : List Int := (List.range t.size).map fun i : Nat => bt t (i : Int)
theorem bl_bytes (t : ByteArray) : Mach.Bytes (bl t) := fun x hx => by
  obtain ⟨i, _, rfl⟩ := List.mem_map.1 hx
  exact bt_range t i
theorem bl_len (t : ByteArray) : (bl t).length = t.size := by simp [bl]
theorem bl_drop (t : ByteArray) (d : Nat) (h : d < t.size) : (bl t).drop (t.size - (d + 1)) = bt t ((t.size - (d + 1) : Nat) : Int) :: (bl t).drop (t.size - d) := by
  rw [List.drop_eq_getElem_cons (by rw [bl_len]; omega), show t.size - (d + 1) + 1 = t.size - d by omega]
  congr 1
  unfold bl
  rw [List.getElem_map, List.getElem_range]
theorem walk_run {A : List Bool} {E : List S92} (h : ∀ i, i < E.length → okE A E i) (t : ByteArray) : ∀ (d : Nat) (s : Int), d ≤ t.size → isS A s → walkGo E t s d = Mach.run (Mach.gd E) s ((bl t).drop (t.size - d))
  | 0, s, _, hs => by
    rw [Nat.sub_zero, List.drop_eq_nil_of_le (by rw [bl_len]; omega)]; rfl
  | d + 1, s, hd, hs => by
    rw [bl_drop t d (by omega)]
    have h0 := hs.1
    have e : Mach.gd E s (bt t ((t.size - (d + 1) : Nat) : Int)) = nextS E s (bt t ((t.size - (d + 1) : Nat) : Int)) E.length := by
      rw [nextS_all]; exact if_neg (by omega)
    show walkGo E t s (d + 1) = Mach.run (Mach.gd E) (Mach.gd E s (bt t ((t.size - (d + 1) : Nat) : Int))) ((bl t).drop (t.size - d))
    rw [e]
    simp only [walkGo]
    rcases nextS_in h s (bt t ((t.size - (d + 1) : Nat) : Int)) E.length (Nat.le_refl _) with e2 | e2
    · rw [e2, if_pos (by omega), Mach.run_dead (gd_dead E)]
    · have := e2.1
      rw [if_neg (by omega)]
      exact walk_run h t d _ (by omega) e2
def says (A : List Bool) (E : List S92) (l : List Int) : Bool := if A.length = 0 then true else Mach.ga A (Mach.run (Mach.gd E) 0 l)
theorem accepts_says {A : List Bool} {E : List S92} (h : (checkS A E).2 = 0) (t : ByteArray) : acceptsS A E t = says A E (bl t) := by
  obtain ⟨h1, h2, h3⟩ := checkS_ok h
  unfold acceptsS says
  rw [if_pos h]
  by_cases hA : A.length = 0
  · rw [if_pos hA, if_pos hA]
  · rw [if_neg hA, if_neg hA]
    have hz : isS A 0 := ⟨by omega, by omega⟩
    have hw := walk_run h3 t t.size 0 (Nat.le_refl _) hz
    rw [Nat.sub_self, List.drop_zero] at hw
    have hW : walkS A E 0 t = walkGo E t 0 t.size := by unfold walkS; rw [if_neg hA, if_pos hz]
    rw [hW, hw]
    unfold Mach.ga rdOf
    rcases walkS_lt h3 hA 0 t with e | e
    · rw [hW, hw] at e
      rw [e]; rfl
    · rw [hW, hw] at e
      have := e.1
      rw [if_pos (by omega), if_neg (by omega)]
theorem ed_get {E : List S92} {i : Nat} (h : i < E.length) : ed E i = E[i] := by
  unfold ed rd_T92
  rw [Int.toNat_natCast, List.getD_eq_getElem?_getD, List.getElem?_eq_getElem h]; rfl
/-- What a right guide's edges are. -/
structure Right (A : List Bool) (E : List S92) : Prop where
  ed : ∀ e ∈ E, Mach.EdOk A.length e
  apart : E.Pairwise fun e e' => ¬ Mach.meets e e'
theorem right_of {A : List Bool} {E : List S92} (h : (checkS A E).2 = 0) (hu : ∀ e ∈ E, 0 ≤ e.f1 ∧ e.f2 ≤ 255) : Right A E := by
  obtain ⟨h1, h2, h3⟩ := checkS_ok h
  refine ⟨fun e he => ?_, ?_⟩
  · obtain ⟨i, hi, rfl⟩ := List.mem_iff_getElem.1 he
    obtain ⟨g1, g2, g3, _⟩ := h3 i hi
    rw [ed_get hi] at g1 g2 g3
    have hu' := hu _ he
    exact ⟨g1, hu'.1, hu'.2, g3, g2⟩
  · rw [List.pairwise_iff_getElem]
    intro i j hi hj hij
    have g := (h3 j hj).2.2.2 i hij
    rw [ed_get hi, ed_get hj] at g
    exact g
theorem nx_in {n : Nat} {s x : Int} : ∀ {E : List S92}, (∀ e ∈ E, Mach.EdOk n e) → Mach.St n (Mach.nx E s x)
  | [], _ => .inl rfl
  | e :: E, h => by
    simp only [Mach.nx]
    split
    · exact .inr (h e List.mem_cons_self).f3
    · exact nx_in fun a ha => h a (List.mem_cons_of_mem _ ha)
theorem mrows_ok {A : List Bool} {E : List S92} (h : Right A E) : Mach.Rows (Mach.mrows A E).1 ∧ (Mach.mrows A E).2.length = (Mach.mrows A E).1.length ∧ 0 < (Mach.mrows A E).1.length ∧ (Mach.mrows A E).1.length ≤ A.length + 1 ∧ ∀ l, Mach.Bytes l → Mach.aR (Mach.mrows A E).2 (Mach.run (Mach.dR (Mach.mrows A E).1) 0 l) = says A E l := by
  unfold Mach.mrows says
  by_cases hA : A.length = 0
  · rw [if_pos hA]
    refine ⟨⟨fun r hr => ?_, fun r hr y hy => ?_⟩, rfl, Nat.one_pos, by show 1 ≤ _; omega, fun l => ?_⟩
    · rw [List.mem_singleton.1 hr]; exact List.length_replicate
    · rw [List.mem_singleton.1 hr] at hy
      rw [List.eq_of_mem_replicate hy]
      exact .inr ⟨by omega, by show (0 : Int) < 1; omega⟩
    · rw [if_pos hA]
      induction l with
      | nil => intro _; rfl
      | cons x l ih =>
        intro hb
        have e : Mach.dR [Mach.zeros] 0 x = 0 := by
          show Mach.at_ Mach.zeros x = 0
          unfold Mach.at_ Mach.zeros
          rw [List.getD_eq_getElem?_getD, List.getElem?_replicate, if_pos (by have := hb.head.2; have := hb.head.1; omega)]; rfl
        show Mach.aR [true] (Mach.run (Mach.dR [Mach.zeros]) (Mach.dR [Mach.zeros] 0 x) l) = true
        rw [e]
        exact ih hb.tail
  · rw [if_neg hA]
    have hf := Mach.fill_fl (Mach.fl_start A.length) h.ed h.apart (fun a ha => by simp at ha)
    rw [List.nil_append] at hf
    have hl := hf.len
    have hd : ∀ s x, Mach.In A.length s → Mach.Byte x → Mach.dR (Mach.fill (List.replicate A.length Mach.deads) E) s x = Mach.gd E s x := fun s x hs hx => by
      have := hs.1
      unfold Mach.dR Mach.gd
      rw [if_neg (by omega), if_neg (by omega)]
      exact hf.leads s x hs hx
    refine ⟨⟨hf.wide, fun r hr y hy => ?_⟩, hl.symm, by show 0 < (Mach.fill _ E).length; omega, by show (Mach.fill _ E).length ≤ _; omega, fun l hb => ?_⟩
    · show Mach.St (Mach.fill _ E).length y
      rw [hl]
      have hr' : r ∈ Mach.fill (List.replicate A.length Mach.deads) E := hr
      clear hr
      obtain ⟨i, hi, rfl⟩ := List.mem_iff_getElem.1 hr'
      have hw := hf.wide _ hr'
      obtain ⟨j, hj, rfl⟩ := List.mem_iff_getElem.1 hy
      have g := hf.leads (i : Int) (j : Int) ⟨by omega, by omega⟩ ⟨by omega, by omega⟩
      unfold Mach.at_ at g
      rw [Int.toNat_natCast, Int.toNat_natCast, List.getD_eq_getElem?_getD, List.getD_eq_getElem?_getD, List.getElem?_eq_getElem hi, Option.getD_some, List.getElem?_eq_getElem hj, Option.getD_some] at g
      rw [g]
      exact nx_in h.ed
    · rw [if_neg hA]
      have key : ∀ (l : List Int) (s : Int), Mach.Bytes l → Mach.St A.length s → Mach.run (Mach.dR (Mach.fill (List.replicate A.length Mach.deads) E)) s l = Mach.run (Mach.gd E) s l := fun l => by
        induction l with
        | nil => intro s _ _; rfl
        | cons x l ih =>
          intro s hb hs
          show Mach.run _ (Mach.dR _ s x) l = Mach.run _ (Mach.gd E s x) l
          rcases hs with rfl | hs
          · have e1 : Mach.dR (Mach.fill (List.replicate A.length Mach.deads) E) (-1) x = -1 := if_pos rfl
            have e2 : Mach.gd E (-1) x = -1 := if_pos rfl
            rw [e1, e2]
            exact ih _ hb.tail (.inl rfl)
          · rw [hd s x hs hb.head]
            have h0 := hs.1
            refine ih _ hb.tail ?_
            unfold Mach.gd
            rw [if_neg (by omega)]
            exact nx_in h.ed
      rw [key l 0 hb (.inr ⟨by omega, by omega⟩)]
      rfl
/-- A text that is accepted tells that a state is alive. -/
theorem live_of {A : List Bool} {E : List S92} (h : ∀ e ∈ E, Mach.EdOk A.length e) : ∀ (l : List Int) (s : Int), Mach.Bytes l → isS A s → Mach.ga A (Mach.run (Mach.gd E) s l) = true → Live A E s
  | [], s, _, hs, ha => by
    have h0 := hs.1
    refine Live.acc hs ?_
    have ha' : Mach.ga A s = true := ha
    unfold Mach.ga at ha'
    rw [if_neg (by omega)] at ha'
    exact ha'
  | x :: l, s, hb, hs, ha => by
    have h0 := hs.1
    have ha' : Mach.ga A (Mach.run (Mach.gd E) (Mach.gd E s x) l) = true := ha
    have hg : Mach.gd E s x = Mach.nx E s x := if_neg (by omega)
    rw [hg] at ha'
    have hex : Mach.nx E s x = -1 ∨ ∃ e ∈ E, Mach.fits e s x ∧ Mach.nx E s x = e.f3 := by
      clear ha ha' hg
      induction E with
      | nil => exact .inl rfl
      | cons e E ih =>
        simp only [Mach.nx]
        split
        · rename_i hf; exact .inr ⟨e, List.mem_cons_self, hf, rfl⟩
        · rcases ih (fun a hm => h a (List.mem_cons_of_mem _ hm)) with g | ⟨a, hm, g⟩
          · exact .inl g
          · exact .inr ⟨a, List.mem_cons_of_mem _ hm, g⟩
    rcases hex with e | ⟨e, he, hf, hn⟩
    · rw [e, Mach.run_dead (gd_dead E)] at ha'
      cases ha'
    · rw [hn] at ha'
      have ho := h e he
      obtain ⟨i, hi, rfl⟩ := List.mem_iff_getElem.1 he
      have e1 := ed_get hi
      have hl := live_of h l _ hb.tail ho.f3 ha'
      rw [← hf.1, ← e1]
      rw [← e1] at hl ho
      exact Live.back hi ho.f0 ho.f3 hl
/-- A state that is alive accepts a text. -/
theorem text_of {A : List Bool} {E : List S92} (h : Right A E) {s : Int} (hl : Live A E s) : Mach.Live (Mach.gd E) (Mach.ga A) s := by
  refine hl (fun s => Mach.Live (Mach.gd E) (Mach.ga A) s) (fun s hs ht => ⟨[], fun x hx => by simp at hx, ?_⟩) (fun i hi h0 h3 ⟨l, hb, hq⟩ => ⟨(ed E i).f1 :: l, ?_, ?_⟩)
  · have := hs.1
    show Mach.ga A s = true
    unfold Mach.ga
    rw [if_neg (by omega)]
    exact ht
  · rw [ed_get hi]
    have g := h.ed _ (List.getElem_mem hi)
    intro y hy
    rcases List.mem_cons.1 hy with rfl | hy
    · exact ⟨g.f1, by have := g.le; have := g.f2; omega⟩
    · exact hb y hy
  · have := h.ed _ (List.getElem_mem hi)
    have e : Mach.gd E (ed E i).f0 (ed E i).f1 = (ed E i).f3 := by
      have h00 := h0.1
      unfold Mach.gd
      rw [if_neg (by omega)]
      refine Mach.nx_of h.apart (by rw [ed_get hi]; exact List.getElem_mem hi) ⟨rfl, Int.le_refl _, ?_⟩
      rw [ed_get hi]; exact this.le
    show Mach.ga A (Mach.run (Mach.gd E) (Mach.gd E (ed E i).f0 (ed E i).f1) l) = true
    rw [e]; exact hq
theorem check_live {A : List Bool} {E : List S92} (h : (checkS A E).2 = 0) (hA : A.length ≠ 0) : Live A E 0 := by
  have key : ∀ d, d ≤ E.length → (edgesS A E d).2 = 0 → Live A E 0 := fun d => by
    induction d with
    | zero =>
      intro _ h0
      simp only [edgesS] at h0
      split at h0
      · simp at h0
      · rename_i hn
        have h2 : ¬ ¬ Live A E 0 := fun h3 => hn ⟨by omega, h3⟩
        exact Classical.not_not.1 h2
    | succ d ih =>
      intro hd h0
      simp only [edgesS] at h0
      split at h0
      · exact ih (by omega) h0
      · simp at h0
  unfold checkS at h
  split at h
  · simp at h
  · split at h
    · simp at h
    · exact key _ (Nat.le_refl _) h
theorem check_of {A : List Bool} {E : List S92} (h1 : A.length ≤ 64) (h2 : E.length ≤ 1024) (h : Right A E) (hl : A.length ≠ 0 → Live A E 0) : (checkS A E).2 = 0 := by
  unfold checkS
  rw [if_neg (by omega), if_neg (by omega)]
  have hok : ∀ i, i < E.length → okE A E i := fun i hi => by
    have he := h.ed _ (List.getElem_mem hi)
    rw [← ed_get hi] at he
    refine ⟨he.f0, he.f3, he.le, fun j hj => ?_⟩
    have := (List.pairwise_iff_getElem.1 h.apart) j i (by omega) hi hj
    rw [ed_get hi, ed_get (by omega)]
    exact this
  have key : ∀ d, d ≤ E.length → (edgesS A E d).2 = 0 := fun d => by
    induction d with
    | zero =>
      intro _
      simp only [edgesS]
      rw [if_neg fun hc => hc.2 (hl (by have := hc.1; omega))]
    | succ d ih =>
      intro hd
      simp only [edgesS]
      rw [if_pos (hok _ (by omega))]
      exact ih (by omega)
  exact key _ (Nat.le_refl _)
/-- The least guide is right, and says what the machine says. -/
theorem least_right {n : Nat} {δ : Int → Int → Int} {acc : Int → Bool} {cl : Int → Int} (M : Mach.Ok n δ acc) (C : Mach.Cls n δ acc cl) {o : List Int} {E : List S92} (h : Mach.Row n δ cl o.length 0 o E (-1)) (h0 : Mach.at_ o 0 = 0) (hp : 0 < o.length) (h1 : o.length ≤ 64) (h2 : E.length ≤ 1024) :
    (checkS (o.map acc) E).2 = 0 ∧ ∀ l, Mach.Bytes l → says (o.map acc) E l = acc (Mach.run δ 0 l) := by
  have hs := Mach.row_says M C h h0 hp
  have hz : Mach.In n 0 ∧ cl 0 ≠ -1 := by
    have := h.ord.live _ (Mach.at_mem (l := o) (i := 0) (by omega) (by omega))
    rw [h0] at this; exact this
  have hr : Right (o.map acc) E := by
    refine ⟨fun e he => ?_, h.apart⟩
    have g := h.from_ e he
    have g2 := h.mine e he
    have hlen : (o.map acc).length = o.length := List.length_map _
    have hne : e.f0 ≠ (o.length : Int) := fun e0 => by have := g2 e0; omega
    refine ⟨⟨g.1, by rw [hlen]; omega⟩, g.2.2.1, g.2.2.2.2.1, g.2.2.2.1, ⟨g.2.2.2.2.2.1, by rw [hlen]; exact g.2.2.2.2.2.2⟩⟩
  refine ⟨check_of (by simp; exact h1) h2 hr fun hne => ?_, fun l hb => ?_⟩
  · obtain ⟨l, hb, hq⟩ := C.live 0 hz.1 hz.2
    rw [← hs l hb] at hq
    exact live_of hr.ed l 0 hb ⟨by omega, by simp; omega⟩ hq
  · unfold says
    rw [if_neg (by simp; intro e; rw [e] at hp; simp at hp)]
    exact hs l hb
theorem leastG_ok {R : List (List Int)} {A : List Bool} (h : Mach.Mach R A) : ∃ K r, Mach.leastG K R A = some r ∧ (r.2.2 = 0 → (checkS r.1 r.2.1).2 = 0 ∧ ∀ l, Mach.Bytes l → says r.1 r.2.1 l = Mach.aR A (Mach.run (Mach.dR R) 0 l)) ∧ (r.2.2 = 152 → ∀ l, Mach.Bytes l → Mach.aR A (Mach.run (Mach.dR R) 0 l) = false) := by
  have M := h.rows.ok A
  have hp := h.pos
  obtain ⟨K1, c, h1, h2, C⟩ := Mach.classes_ok h
  have up : ∀ d, Mach.classesF (K1 + d) R A = some c := fun d => by
    induction d with
    | zero => exact h1
    | succ d ih => exact Mach.classesF_mono ih
  by_cases e : Mach.at_ c 0 = -1
  · refine ⟨K1, ([], [], 152), ?_, fun h0 => ?_, fun _ l hl => C.gone 0 ⟨by omega, by omega⟩ e l hl⟩
    · unfold Mach.leastG
      rw [if_pos h, h1, Option.bind_some, if_pos e]
    · have h0' : (152 : Int) = 0 := h0
      omega
  · obtain ⟨r, g1, g2, g3, g4, g5⟩ := Mach.leastF_row M (R.length + 1) 0 (o := [0]) (A := []) (E := []) (Mach.row_start hp e) (by simp) rfl rfl (by simp) (by omega) h.most (by simp)
    have up2 : ∀ d, Mach.leastF (Mach.dR R) (Mach.aR A) (Mach.at_ c) (R.length + 1 + d) 0 [0] [] [] = some r := fun d => by
      induction d with
      | zero => exact g1
      | succ d ih => exact Mach.leastF_mono _ _ _ _ _ _ ih
    obtain ⟨q, hq⟩ : ∃ q : List Bool × List S92 × Int, q = if 64 < r.2.1.length then ([], [], 150) else if 1024 < r.2.2.length then ([], [], 151) else (r.2.1, r.2.2, 0) := ⟨_, rfl⟩
    have hl : r.2.1.length = r.1.length := by rw [g3]; simp
    refine ⟨K1 + (R.length + 1), q, ?_, fun h0 => ?_, fun h0 => ?_⟩
    · unfold Mach.leastG
      rw [if_pos h, up, Option.bind_some, if_neg e, Nat.add_comm K1, up2, Option.bind_some, hq]
      split
      · rfl
      · split <;> rfl
    · by_cases c1 : 64 < r.2.1.length
      · rw [if_pos c1] at hq; subst hq; exact absurd h0 (by decide)
      · rw [if_neg c1] at hq
        by_cases c2 : 1024 < r.2.2.length
        · rw [if_pos c2] at hq; subst hq; exact absurd h0 (by decide)
        · rw [if_neg c2] at hq
          subst hq
          have := least_right M C g2 g4 g5 (by omega) (by omega)
          show (checkS r.2.1 r.2.2).2 = 0 ∧ ∀ l, Mach.Bytes l → says r.2.1 r.2.2 l = _
          rw [g3]
          exact this
    · by_cases c1 : 64 < r.2.1.length
      · rw [if_pos c1] at hq; subst hq; exact absurd h0 (by decide)
      · rw [if_neg c1] at hq
        by_cases c2 : 1024 < r.2.2.length
        · rw [if_pos c2] at hq; subst hq; exact absurd h0 (by decide)
        · rw [if_neg c2] at hq
          subst hq
          have h0' : (0 : Int) = 152 := h0
          omega
theorem mrows_mach {A : List Bool} {E : List S92} (h : Right A E) (hA : A.length ≤ 64) : Mach.Mach (Mach.mrows A E).1 (Mach.mrows A E).2 := by
  obtain ⟨h1, h2, h3, h4, _⟩ := mrows_ok h
  exact ⟨h1, h2, h3, by omega⟩
theorem mrows_says {A : List Bool} {E : List S92} (h : Right A E) {l : List Int} (hl : Mach.Bytes l) : Mach.aR (Mach.mrows A E).2 (Mach.run (Mach.dR (Mach.mrows A E).1) 0 l) = says A E l := (mrows_ok h).2.2.2.2 l hl
/-- A right guide accepts something. -/
theorem right_live {A : List Bool} {E : List S92} (hc : (checkS A E).2 = 0) (h : Right A E) : Mach.Live (Mach.dR (Mach.mrows A E).1) (Mach.aR (Mach.mrows A E).2) 0 := by
  by_cases hA : A.length = 0
  · refine ⟨[], fun x hx => by simp at hx, ?_⟩
    rw [mrows_says h fun x hx => by simp at hx]
    unfold says
    rw [if_pos hA]
  · obtain ⟨l, hb, hq⟩ := text_of h (check_live hc hA)
    refine ⟨l, hb, ?_⟩
    rw [mrows_says h hb]
    unfold says
    rw [if_neg hA]
    exact hq
/-! ### what the made guides come to -/
def U8 (E : List S92) : Prop := ∀ e ∈ E, 0 ≤ e.f1 ∧ e.f2 ≤ 255
theorem mof_some {A : List Bool} {E : List S92} (h : (checkS A E).2 = 0) (hu : U8 E) : mofG A E = some (Mach.mrows A E) := by
  obtain ⟨h1, h2, _⟩ := checkS_ok h
  unfold mofG
  exact if_pos ⟨h1, h2, (right_of h hu).ed⟩
theorem check_ev0 {A : List Bool} {E : List S92} (h : (checkS A E).2 = 0) : Ev (fun k => guide_Check.f k A E) ((checkS A E).1, 0) := by
  have := Check_f A E
  rw [show checkS A E = ((checkS A E).1, 0) from Prod.ext rfl h] at this
  exact this
theorem Least_ev {A : List Bool} {E : List S92} (h : (checkS A E).2 = 0) (hu : U8 E) : ∃ r : List Bool × List S92 × Int, Ev (fun k => guide_Least.f k A E) r ∧ (r.2.2 = 0 → (checkS r.1 r.2.1).2 = 0 ∧ ∀ l, Mach.Bytes l → says r.1 r.2.1 l = says A E l) ∧ (r.2.2 = 152 → ∀ l, Mach.Bytes l → says A E l = false) := by
  obtain ⟨h1, h2, _⟩ := checkS_ok h
  have hR := right_of h hu
  obtain ⟨K, r, e1, e2, e3⟩ := leastG_ok (mrows_mach hR h1)
  refine ⟨r, ?_, fun h0 => ⟨(e2 h0).1, fun l hl => by rw [(e2 h0).2 l hl, mrows_says hR hl]⟩, fun h0 l hl => by rw [← mrows_says hR hl]; exact e3 h0 l hl⟩
  unfold guide_Least.f
  refine Ev.bind (check_ev0 h) ?_
  simp only [if_true]
  rw [mof_some h hu]
  simp only [Option.bind_some]
  exact Ev.of (fun k r h => Mach.leastG_mono h) e1
theorem of_ev (is : Bool → Bool → Bool) {A B : List Bool} {E F : List S92} (h : (checkS A E).2 = 0) (hu : U8 E) (h' : (checkS B F).2 = 0) (hu' : U8 F) : ∃ r : List Bool × List S92 × Int, Ev (fun k => ofG k is A E B F) r ∧ (r.2.2 = 0 → (checkS r.1 r.2.1).2 = 0 ∧ ∀ l, Mach.Bytes l → says r.1 r.2.1 l = is (says A E l) (says B F l)) ∧ (r.2.2 = 152 → ∀ l, Mach.Bytes l → is (says A E l) (says B F l) = false) := by
  obtain ⟨h1, h2, _⟩ := checkS_ok h
  obtain ⟨h3, h4, _⟩ := checkS_ok h'
  have hR := right_of h hu
  have hR' := right_of h' hu'
  have m1 := mrows_mach hR h1
  have m2 := mrows_mach hR' h3
  have l1 := (mrows_ok hR).2.2.2.1
  have l2 := (mrows_ok hR').2.2.2.1
  have hm : ((Mach.mrows A E).1.length + 1) * ((Mach.mrows B F).1.length + 1) ≤ 8192 := by
    have : ((Mach.mrows A E).1.length + 1) * ((Mach.mrows B F).1.length + 1) ≤ 66 * 66 := Nat.mul_le_mul (by omega) (by omega)
    omega
  obtain ⟨K0, b, b1, b2, b3⟩ := Mach.both_ok is m1 m2 hm
  obtain ⟨K, r, e1, e2, e3⟩ := leastG_ok b2
  have hs : ∀ l, Mach.Bytes l → Mach.aR b.2 (Mach.run (Mach.dR b.1) 0 l) = is (says A E l) (says B F l) := fun l hl => by rw [b3 l hl, mrows_says hR hl, mrows_says hR' hl]
  refine ⟨r, ?_, fun h0 => ⟨(e2 h0).1, fun l hl => by rw [(e2 h0).2 l hl, hs l hl]⟩, fun h0 l hl => by rw [← hs l hl]; exact e3 h0 l hl⟩
  unfold ofG
  refine Ev.bind (check_ev0 h) ?_
  simp only [if_true]
  refine Ev.bind (check_ev0 h') ?_
  simp only [if_true]
  rw [mof_some h hu, mof_some h' hu']
  simp only [Option.bind_some]
  refine Ev.bind (Ev.of (fun k r h => Mach.bothG_mono h) b1) ?_
  exact Ev.of (fun k r h => Mach.leastG_mono h) e1
theorem of_bad (is : Bool → Bool → Bool) {A B : List Bool} {E F : List S92} (h : ¬ ((checkS A E).2 = 0 ∧ (checkS B F).2 = 0)) : ∃ r : List Bool × List S92 × Int, Ev (fun k => ofG k is A E B F) r ∧ r.2.2 ≠ 0 := by
  by_cases h1 : (checkS A E).2 = 0
  · have h2 : (checkS B F).2 ≠ 0 := fun e => h ⟨h1, e⟩
    refine ⟨([], [], (checkS B F).2), ?_, h2⟩
    unfold ofG
    refine Ev.bind (check_ev0 h1) ?_
    simp only [if_true]
    refine Ev.bind (Check_f B F) ?_
    simp only [if_neg h2]
    exact Ev.now _
  · refine ⟨([], [], (checkS A E).2), ?_, h1⟩
    unfold ofG
    refine Ev.bind (Check_f A E) ?_
    simp only [if_neg h1]
    exact Ev.now _
theorem bl_str {l : List Int} (h : Mach.Bytes l) : bl (strOfNums l) = l := by
  have hsz : (strOfNums l).size = l.length := by unfold strOfNums; simp [ByteArray.size]
  apply List.ext_getElem
  · rw [bl_len, hsz]
  · intro i h1 h2
    have hb := h l[i] (List.getElem_mem h2)
    have h3 := hb.1
    have h4 := hb.2
    have e : (bl (strOfNums l))[i] = bt (strOfNums l) (i : Int) := by simp [bl]
    rw [e]
    unfold bt
    rw [dif_pos (by rw [Int.toNat_natCast, hsz]; exact h2)]
    unfold strOfNums
    simp [ByteArray.getElem_eq_getElem_data]
    omega
theorem shF_small {δ : Int → Int → Int} {acc : Int → Bool} : ∀ (k a : Nat) (F : List (Int × List Int)) (t : List Int), Mach.shF δ acc k a F = some (some t) → t.length ≤ 8192
  | 0, a, F, t, h => by simp [Mach.shF] at h
  | k + 1, a, F, t, h => by
    rw [Mach.shF] at h
    split at h
    · rename_i c
      split at h
      · split at h
        · have e := Option.some.inj (Option.some.inj h)
          rw [← e]; exact c.2
        · exact shF_small k _ _ t h
      · cases h
    · cases h
theorem Short_ev {A : List Bool} {E : List S92} (h : (checkS A E).2 = 0) (hu : U8 E) : ∃ s : ByteArray, Ev (fun k => guide_Shortest.f k A E) (s, 0) ∧ s.size ≤ 140737488355328 ∧ acceptsS A E s = true := by
  obtain ⟨h1, h2, _⟩ := checkS_ok h
  have hR := right_of h hu
  obtain ⟨K, t, e1, e2, e3⟩ := Mach.short_ok (mrows_mach hR h1) (right_live h hR)
  refine ⟨strOfNums t, ?_, ?_, ?_⟩
  · unfold guide_Shortest.f
    refine Ev.bind (check_ev0 h) ?_
    simp only [if_true]
    rw [mof_some h hu]
    simp only [Option.bind_some]
    exact Ev.bind (Ev.of (fun k r h => Mach.shortG_mono h) e1) (Ev.now _)
  · unfold Mach.shortG at e1
    split at e1
    · have h5 := shF_small _ _ _ _ e1
      have h6 : (strOfNums t).size = t.length := by unfold strOfNums; simp [ByteArray.size]
      omega
    · cases e1
  · rw [accepts_says h, bl_str e2, ← mrows_says hR e2]
    exact e3
end Go.Proofs.Ytfjpnmhbbfiaaaa.L
