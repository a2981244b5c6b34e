/- The program's functions on machines, as numbers and lists: what each answers, and that it does. On condition that the rows lead to states. -/
import Derived.Test.YtfjpnmhbbfiaaaaZGSMachines
namespace Go.Proofs.Ytfjpnmhbbfiaaaa.Mach
open Go.Proofs.Ytfjpnmhbbfiaaaa.P
set_option linter.unusedVariables false
set_option linter.unusedSimpArgs false
/-! the program's functions, as they are handed a machine's rows -/
def mrows (A : List Bool) (E : List Ed) : List (List Int) × List Bool := if A.length = 0 then ([zeros], [true]) else (fill (List.replicate A.length deads) E, A)
def c0 (L A : List Bool) : List Int := (List.range L.length).map fun i : Nat => if la L i = true then (if la A i = true then 1 else 0) else -1
def classesF (k : Nat) (R : List (List Int)) (A : List Bool) : Option (List Int) := (livF (dR R) R.length k A).bind fun L => clsF (dR R) k 0 (c0 L A)
structure Mach (R : List (List Int)) (A : List Bool) : Prop where
  rows : Rows R
  len : A.length = R.length
  pos : 0 < R.length
  most : R.length ≤ 8192
open Classical in
noncomputable def leastG (k : Nat) (R : List (List Int)) (A : List Bool) : Option (List Bool × List Ed × Int) := if Mach R A then (classesF k R A).bind fun c => if at_ c 0 = -1 then some ([], [], 152) else (leastF (dR R) (aR A) (at_ c) k 0 [0] [] []).bind fun r => if 64 < r.2.1.length then some ([], [], 150) else if 1024 < r.2.2.length then some ([], [], 151) else some (r.2.1, r.2.2, 0) else none
open Classical in
noncomputable def bothG (k : Nat) (Ra : List (List Int)) (Aa : List Bool) (Rb : List (List Int)) (Ab : List Bool) (is : Bool → Bool → Bool) : Option (List (List Int) × List Bool) := if Mach Ra Aa ∧ Mach Rb Ab then (bothF (dR Ra) (dR Rb) (fun p q => is (aR Aa p) (aR Ab q)) k 0 [(0, 0)] [] []).bind fun r => some (r.2.1, r.2.2) else none
open Classical in
noncomputable def shortG (k : Nat) (R : List (List Int)) (A : List Bool) : Option (Option (List Int)) := if Mach R A then shF (dR R) (aR A) k 0 [(0, [])] else none
theorem livB_len (δ : Int → Int → Int) (i x : Int) (st : List Bool × Bool) : (livB δ i x st).1.length = st.1.length := by
  unfold livB; split <;> simp
theorem livR_len (δ : Int → Int → Int) (i : Int) : ∀ (d : Nat) (st : List Bool × Bool), (livR δ i d st).1.length = st.1.length
  | 0, st => rfl
  | d + 1, st => by simp only [livR]; rw [livR_len δ i d, livB_len]
theorem livP_len (δ : Int → Int → Int) : ∀ (d i : Nat) (st : List Bool × Bool), (livP δ d i st).1.length = st.1.length
  | 0, i, st => rfl
  | d + 1, i, st => by simp only [livP]; rw [livP_len δ d, livR_len]
theorem livF_len {δ : Int → Int → Int} {n : Nat} : ∀ (k : Nat) (L r : List Bool), livF δ n k L = some r → r.length = L.length
  | 0, L, r, h => by simp [livF] at h
  | k + 1, L, r, h => by
    rw [livF] at h
    have hl := livP_len δ n 0 (L, false)
    split at h
    · have := livF_len k _ r h; rw [this, hl]
    · rw [← Option.some.inj h, hl]
theorem livF_mono {δ : Int → Int → Int} {n : Nat} : ∀ (k : Nat) (L r : List Bool), livF δ n k L = some r → livF δ n (k + 1) L = some r
  | 0, L, r, h => by simp [livF] at h
  | k + 1, L, r, h => by
    rw [livF] at h ⊢
    split
    · rename_i c; rw [if_pos c] at h; exact livF_mono k _ r h
    · rename_i c; rw [if_neg c] at h; exact h
theorem clsF_mono {δ : Int → Int → Int} : ∀ (k m : Nat) (c r : List Int), clsF δ k m c = some r → clsF δ (k + 1) m c = some r
  | 0, m, c, r, h => by simp [clsF] at h
  | k + 1, m, c, r, h => by
    rw [clsF] at h ⊢
    split
    · rename_i e; rw [if_pos e] at h; exact h
    · rename_i e; rw [if_neg e] at h; exact clsF_mono k _ _ r h
theorem leastF_mono {δ : Int → Int → Int} {acc : Int → Bool} {cl : Int → Int} : ∀ (k a : Nat) (o : List Int) (A : List Bool) (E : List Ed) (r : List Int × List Bool × List Ed), leastF δ acc cl k a o A E = some r → leastF δ acc cl (k + 1) a o A E = some r
  | 0, a, o, A, E, r, h => by simp [leastF] at h
  | k + 1, a, o, A, E, r, h => by
    rw [leastF] at h ⊢
    split
    · rename_i c
      rw [if_pos c] at h
      split
      · rename_i c2; rw [if_pos c2] at h; exact leastF_mono k _ _ _ _ r h
      · rename_i c2; rw [if_neg c2] at h; exact h
    · rename_i c; rw [if_neg c] at h; cases h
theorem bothF_mono {da db : Int → Int → Int} {is : Int → Int → Bool} : ∀ (k a : Nat) (o : List (Int × Int)) (R : List (List Int)) (A : List Bool) (r : List (Int × Int) × List (List Int) × List Bool), bothF da db is k a o R A = some r → bothF da db is (k + 1) a o R A = some r
  | 0, a, o, R, A, r, h => by simp [bothF] at h
  | k + 1, a, o, R, A, r, h => by
    rw [bothF] at h ⊢
    split
    · rename_i c
      rw [if_pos c] at h
      split
      · rename_i c2; rw [if_pos c2] at h; exact bothF_mono k _ _ _ _ r h
      · rename_i c2; rw [if_neg c2] at h; exact h
    · rename_i c; rw [if_neg c] at h; cases h
theorem shF_mono {δ : Int → Int → Int} {acc : Int → Bool} : ∀ (k a : Nat) (F : List (Int × List Int)) (r : Option (List Int)), shF δ acc k a F = some r → shF δ acc (k + 1) a F = some r
  | 0, a, F, r, h => by simp [shF] at h
  | k + 1, a, F, r, h => by
    rw [shF] at h ⊢
    split
    · rename_i c
      rw [if_pos c] at h
      split
      · rename_i c2
        rw [if_pos c2] at h
        split
        · rename_i c3; rw [if_pos c3] at h; exact h
        · rename_i c3; rw [if_neg c3] at h; exact shF_mono k _ _ r h
      · rename_i c2; rw [if_neg c2] at h; exact h
    · rename_i c; rw [if_neg c] at h; cases h
theorem classesF_mono {k : Nat} {R : List (List Int)} {A : List Bool} {r : List Int} (h : classesF k R A = some r) : classesF (k + 1) R A = some r := by
  unfold classesF at h ⊢
  obtain ⟨L, h1, h2⟩ := Option.bind_eq_some_iff.1 h
  rw [livF_mono _ _ _ h1]
  exact clsF_mono _ _ _ _ h2
theorem leastG_mono {k : Nat} {R : List (List Int)} {A : List Bool} {r : List Bool × List Ed × Int} (h : leastG k R A = some r) : leastG (k + 1) R A = some r := by
  unfold leastG at h ⊢
  split
  · rename_i c
    rw [if_pos c] at h
    obtain ⟨c, h1, h2⟩ := Option.bind_eq_some_iff.1 h
    rw [classesF_mono h1, Option.bind_some]
    split
    · rename_i e; rw [if_pos e] at h2; exact h2
    · rename_i e
      rw [if_neg e] at h2
      obtain ⟨q, h3, h4⟩ := Option.bind_eq_some_iff.1 h2
      rw [leastF_mono _ _ _ _ _ _ h3]
      exact h4
  · rename_i c; rw [if_neg c] at h; cases h
theorem bothG_mono {k : Nat} {Ra : List (List Int)} {Aa : List Bool} {Rb : List (List Int)} {Ab : List Bool} {is : Bool → Bool → Bool} {r : List (List Int) × List Bool} (h : bothG k Ra Aa Rb Ab is = some r) : bothG (k + 1) Ra Aa Rb Ab is = some r := by
  unfold bothG at h ⊢
  split
  · rename_i c
    rw [if_pos c] at h
    obtain ⟨q, h1, h2⟩ := Option.bind_eq_some_iff.1 h
    rw [bothF_mono _ _ _ _ _ _ h1]
    exact h2
  · rename_i c; rw [if_neg c] at h; cases h
theorem shortG_mono {k : Nat} {R : List (List Int)} {A : List Bool} {r : Option (List Int)} (h : shortG k R A = some r) : shortG (k + 1) R A = some r := by
  unfold shortG at h ⊢
  split
  · rename_i c; rw [if_pos c] at h; exact shF_mono _ _ _ _ h
  · rename_i c; rw [if_neg c] at h; cases h
theorem falses_le : ∀ L : List Bool, falses L ≤ L.length
  | [] => Nat.le_refl _
  | b :: l => by have := falses_le l; simp only [falses, List.length_cons]; split <;> omega
theorem aR_in {A : List Bool} {s : Int} (h : 0 ≤ s) : aR A s = la A s := if_neg (by omega)
theorem classes_ok {R : List (List Int)} {A : List Bool} (h : Mach R A) : ∃ K c, classesF K R A = some c ∧ c.length = R.length ∧ Cls R.length (dR R) (aR A) (at_ c) := by
  have M := h.rows.ok A
  have hlen := h.len
  obtain ⟨L, h1, h2, h3⟩ := livF_ok M (A.length + 1) (L := A) ⟨h.len, fun s hs ha => by rw [aR_in hs.1] at ha; exact ha, fun s hs ha => ⟨[], fun x hx => by simp at hx, by show aR A s = true; rw [aR_in hs.1]; exact ha⟩⟩ (by have := falses_le A; omega)
  have hat : ∀ s, In R.length s → at_ (c0 L A) s = if la L s = true then (if la A s = true then 1 else 0) else -1 := fun s hs => by
    obtain ⟨j, rfl, hj⟩ := nat_in hs
    unfold at_ c0
    rw [Int.toNat_natCast, List.getD_eq_getElem?_getD, List.getElem?_map, List.getElem?_range (by omega)]; rfl
  have hC : Cl R.length (dR R) (aR A) (c0 L A) := by
    refine ⟨by simp [c0]; exact h2, fun s hs => ?_, fun s t hs ht hne he => ?_, fun s hs => ?_⟩
    · rw [hat s hs, ← h3 s hs]
      by_cases c : la L s = true
      · rw [if_pos c]
        constructor
        · intro e; split at e <;> omega
        · intro e; exact absurd c e
      · rw [if_neg c]; exact ⟨fun _ => c, fun _ => rfl⟩
    · rw [hat s hs] at hne he
      rw [hat t ht] at he
      rw [aR_in hs.1, aR_in ht.1]
      by_cases c : la L s = true
      · rw [if_pos c] at he
        by_cases c2 : la L t = true
        · rw [if_pos c2] at he
          cases e1 : la A s <;> cases e2 : la A t <;> simp [e1, e2] at he <;> rfl
        · rw [if_neg c2] at he
          split at he <;> omega
      · rw [if_neg c] at hne; exact absurd rfl hne
    · rw [hat s hs]
      split
      · split <;> omega
      · omega
  obtain ⟨c, g1, g2, g3⟩ := clsF_ok M (R.length + 2) 0 hC (.inl rfl) (by omega) (by omega)
  obtain ⟨K, hK⟩ : ∃ K, K = A.length + 1 + (R.length + 2) := ⟨_, rfl⟩
  have up1 : ∀ d, livF (dR R) R.length (A.length + 1 + d) A = some L := fun d => by
    induction d with
    | zero => exact h1
    | succ d ih => exact livF_mono _ _ _ ih
  have up2 : ∀ d, clsF (dR R) (R.length + 2 + d) 0 (c0 L A) = some c := fun d => by
    induction d with
    | zero => exact g1
    | succ d ih => exact clsF_mono _ _ _ _ ih
  refine ⟨A.length + 1 + (R.length + 2), c, ?_, g2, g3⟩
  unfold classesF
  rw [up1, Option.bind_some, Nat.add_comm (A.length + 1)]
  exact up2 _
theorem both_ok {Ra : List (List Int)} {Aa : List Bool} {Rb : List (List Int)} {Ab : List Bool} (is : Bool → Bool → Bool) (ha : Mach Ra Aa) (hb : Mach Rb Ab) (hm : (Ra.length + 1) * (Rb.length + 1) ≤ 8192) : ∃ K r, bothG K Ra Aa Rb Ab is = some r ∧ Mach r.1 r.2 ∧ ∀ l, Bytes l → aR r.2 (run (dR r.1) 0 l) = is (aR Aa (run (dR Ra) 0 l)) (aR Ab (run (dR Rb) 0 l)) := by
  have Ma := ha.rows.ok Aa
  have Mb := hb.rows.ok Ab
  have pa := ha.pos
  have pb := hb.pos
  obtain ⟨r, h1, h2, h3⟩ := bothF_bs (fun p q => is (aR Aa p) (aR Ab q)) Ma Mb (p0 := (0, 0)) ((Ra.length + 1) * (Rb.length + 1) + 1) 0 (o := [(0, 0)]) (R := []) (A := []) ⟨⟨by simp, fun p hp => by rw [List.mem_singleton.1 hp]; exact ⟨.inr ⟨by omega, by show (0 : Int) < _; omega⟩, .inr ⟨by omega, by show (0 : Int) < _; omega⟩⟩⟩, rfl, fun r hr => by simp at hr, fun r hr => by simp at hr, fun s hs => by omega, rfl⟩ rfl (by simp) (by omega) hm
  obtain ⟨hR, hs⟩ := bs_says _ h2
  have hol : 0 < r.1.length := (List.getElem?_eq_some_iff.1 h3).1
  have hrl := h2.rl
  have hal : r.2.2.length = r.1.length := by rw [h2.acc]; simp
  have hpl := pairs_len h2.pairs
  refine ⟨(Ra.length + 1) * (Rb.length + 1) + 1, (r.2.1, r.2.2), ?_, ⟨hR, by show r.2.2.length = r.2.1.length; omega, by show 0 < r.2.1.length; omega, by show r.2.1.length ≤ 8192; omega⟩, fun l hl => hs l hl 0 (0, 0) (by omega) h3⟩
  unfold bothG
  rw [if_pos ⟨ha, hb⟩, h1]; rfl
theorem short_ok {R : List (List Int)} {A : List Bool} (h : Mach R A) (hl : Live (dR R) (aR A) 0) : ∃ K t, shortG K R A = some (some t) ∧ Bytes t ∧ aR A (run (dR R) 0 t) = true := by
  have hp := h.pos
  obtain ⟨t, h1, h2, h3⟩ := shF_ok (h.rows.ok A) hl (R.length + 1) 0 (F := [(0, [])]) ⟨by simp, fun p hp' => by rw [List.mem_singleton.1 hp']; exact ⟨⟨by omega, by show (0 : Int) < _; omega⟩, fun x hx => by simp at hx, rfl⟩, fun p hp' => by rw [List.mem_singleton.1 hp']; simp⟩ rfl (by simp) (by omega) h.most (fun i hi => by omega)
  refine ⟨R.length + 1, t, ?_, h2, h3⟩
  unfold shortG
  rw [if_pos h]; exact h1
end Go.Proofs.Ytfjpnmhbbfiaaaa.Mach
