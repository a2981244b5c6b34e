/- Of tokens each of which may follow, and the end where the state accepts, what they say is accepted; for every guide, every vocabulary and all picks, right or not. No condition but that they can be handed in. -/
import Derived.Test.YtfjpnmhbbfiaaaaZGBPx35
import Derived.Test.YtfjpnmhbbfiaaaaZGBLibGuideBinds
namespace Go.Proofs.Ytfjpnmhbbfiaaaa.Pure
open Go Go.RowKit Go.Proofs.Ytfjpnmhbbfiaaaa.M Go.Proofs.Ytfjpnmhbbfiaaaa.L Go.Proofs.Ytfjpnmhbbfiaaaa.P Go.Proofs.YtfjpnmhbbfiaaaaW.PrintWords Go.Proofs.YtfjpnmhbbfiaaaaW.PrintLast Go.Proofs.YtfjpnmhbbfiaaaaW.PrintMore
set_option linter.unusedVariables false
set_option linter.unusedSimpArgs false

-- NEEDS heraldlaw15_GuideBinds.f
theorem bt_left {a b : ByteArray} {i : Nat} (h : i < a.size) : bt (a ++ b) (i : Int) = bt a (i : Int) := by
  have h1 : i < (a ++ b).size := by rw [ByteArray.size_append]; omega
  unfold bt
  simp only [Int.toNat_natCast, h, h1, dif_pos]
  rw [ByteArray.getElem_append_left h]
theorem bt_right {a b : ByteArray} {i : Nat} (h : i < b.size) : bt (a ++ b) ((a.size + i : Nat) : Int) = bt b (i : Int) := by
  have h1 : a.size + i < (a ++ b).size := by rw [ByteArray.size_append]; omega
  unfold bt
  simp only [Int.toNat_natCast, h, h1, dif_pos]
  rw [ByteArray.getElem_append_right (by omega)]
  simp only [Nat.add_sub_cancel_left]
theorem walk_right (E : List S92) (a b : ByteArray) : ∀ (d : Nat) (s : Int), d ≤ b.size → walkGo E (a ++ b) s d = walkGo E b s d
  | 0, s, _ => rfl
  | d + 1, s, h => by
    have e : (a ++ b).size - (d + 1) = a.size + (b.size - (d + 1)) := by rw [ByteArray.size_append]; omega
    simp only [walkGo, e, bt_right (a := a) (b := b) (i := b.size - (d + 1)) (by omega)]
    split
    · rfl
    · exact walk_right E a b d _ (by omega)
theorem walk_left (E : List S92) (a b : ByteArray) : ∀ (d : Nat) (s : Int), d ≤ a.size → 0 ≤ s → walkGo E (a ++ b) s (d + b.size) = if walkGo E a s d < 0 then -1 else walkGo E b (walkGo E a s d) b.size
  | 0, s, _, hs => by
    have e : walkGo E a s 0 = s := rfl
    rw [Nat.zero_add, e, if_neg (by omega)]
    exact walk_right E a b _ s (Nat.le_refl _)
  | d + 1, s, h, hs => by
    have e : (a ++ b).size - (d + b.size + 1) = a.size - (d + 1) := by rw [ByteArray.size_append]; omega
    rw [show d + 1 + b.size = d + b.size + 1 by omega]
    simp only [walkGo, e, bt_left (a := a) (b := b) (i := a.size - (d + 1)) (by omega)]
    split
    · rfl
    · rename_i hn
      exact walk_left E a b d _ (by omega) (by omega)
/-- Where two texts lead, one behind the other, from the beginning. -/
theorem Walk_two {A : List Bool} {E : List S92} {s : Int} {a b : ByteArray} (h : 0 ≤ WalkS A E s a) : WalkS A E s (a ++ b) = WalkS A E (WalkS A E s a) b := by
  have hab : (a ++ b).size = a.size + b.size := ByteArray.size_append
  unfold WalkS at h ⊢
  by_cases hc : (checkS A E).2 = 0
  · obtain ⟨h1, h2, h3⟩ := checkS_ok hc
    simp only [hc, if_true] at h ⊢
    unfold walkS at h ⊢
    by_cases hn : A.length = 0
    · simp only [hn, if_true] at h ⊢
      by_cases hs : s = 0
      · subst hs; simp
      · simp only [hs, if_false] at h; omega
    · simp only [hn, if_false] at h ⊢
      by_cases hs : isS A s
      · simp only [hs, if_true] at h ⊢
        have hw := walk_left E a b a.size s (Nat.le_refl _) hs.1
        rw [← hab] at hw
        rw [hw, if_neg (by omega)]
        rcases walkGo_in h3 a a.size s hs with e | e
        · omega
        · rw [if_pos e]
      · simp only [hs, if_false] at h; omega
  · simp only [hc, if_false] at h; omega
theorem maskL_get {A : List Bool} {E : List S92} {T : List ByteArray} {s : Int} {j : Nat} (hj : j < T.length) : (maskL A E T s).getD j false = if (List.range T.length).any (mayS A E T s) = true then mayS A E T s j else decide (j = 0) := by
  have hm : ((List.range T.length).map (mayS A E T s))[j]? = some (mayS A E T s j) := by
    rw [List.getElem?_map, List.getElem?_range hj]; rfl
  unfold maskL
  by_cases ha : (List.range T.length).any (mayS A E T s) = true
  · rw [if_pos ha, if_pos ha, List.getD_eq_getElem?_getD, hm]; rfl
  · rw [if_neg ha, if_neg ha, List.getD_eq_getElem?_getD]
    by_cases h0 : j = 0
    · subst h0
      rw [List.getElem?_set_self (by simp; omega)]
      simp
    · rw [List.getElem?_set_ne (by omega), hm]
      have : mayS A E T s j = false := by
        have h2 : (List.range T.length).any (mayS A E T s) = false := by simpa using ha
        rw [List.any_eq_false] at h2
        have := h2 j (List.mem_range.2 hj)
        simpa using this
      simp [this, h0]
theorem accs_mem {A : List Bool} {n : Nat} {x : Int} (h : x ∈ accs A n) : ∃ j : Nat, x = (j : Int) ∧ j < n ∧ A.getD j false = true := by
  unfold accs at h
  rw [List.mem_map] at h
  obtain ⟨j, hj, rfl⟩ := h
  rw [List.mem_filter, List.mem_range] at hj
  exact ⟨j, rfl, hj.1, hj.2⟩
theorem accs_in {A : List Bool} {n j : Nat} (hj : j < n) (h : A.getD j false = true) : (j : Int) ∈ accs A n := by
  unfold accs
  exact List.mem_map.2 ⟨j, List.mem_filter.2 ⟨List.mem_range.2 hj, h⟩, rfl⟩
theorem accs_first {A : List Bool} : ∀ n, (∀ j, j < n → A.getD j false = decide (j = 0)) → (accs A n).length = if n = 0 then 0 else 1
  | 0, _ => rfl
  | n + 1, h => by
    have ih := accs_first n (fun j hj => h j (by omega))
    rw [accs_snoc, h n (by omega)]
    by_cases hn : n = 0
    · subst hn; simp [accs]
    · rw [if_neg (by simpa using hn), ih, if_neg hn, if_neg (by omega)]
/-- Something may always follow. -/
theorem may_some (A : List Bool) (E : List S92) {T : List ByteArray} (s : Int) (hT : 0 < T.length) : (accs (maskL A E T s) T.length).length ≠ 0 := by
  have : ∃ j, j < T.length ∧ (maskL A E T s).getD j false = true := by
    by_cases ha : (List.range T.length).any (mayS A E T s) = true
    · have h2 := ha
      rw [List.any_eq_true] at h2
      obtain ⟨j, hj, h3⟩ := h2
      rw [List.mem_range] at hj
      exact ⟨j, hj, by rw [maskL_get hj, if_pos ha]; exact h3⟩
    · exact ⟨0, hT, by rw [maskL_get hT, if_neg ha]; rfl⟩
  obtain ⟨j, hj, h⟩ := this
  have := accs_in hj h
  intro h0
  rw [List.length_eq_zero_iff.1 h0] at this
  simp at this
/-- A token other than the end may follow where it leads to a state that is alive. -/
theorem may_next {A : List Bool} {E : List S92} {T : List ByteArray} {s : Int} {j : Nat} (hj : j < T.length) (h0 : j ≠ 0) (h : (maskL A E T s).getD j false = true) : mayS A E T s j = true := by
  rw [maskL_get hj] at h
  split at h
  · exact h
  · simp [h0] at h
/-- Where the end may follow, the state accepts, or nothing else could follow. -/
theorem may_end {A : List Bool} (hA : A.length ≠ 0) {E : List S92} {T : List ByteArray} (hT : 0 < T.length) {s : Int} (hs : s ≠ -1) (h : (maskL A E T s).getD 0 false = true) (ha : ¬ rdOf false A s = true) : (accs (maskL A E T s) T.length).length = 1 := by
  have h1 : mayS A E T s 0 = false := by
    unfold mayS; rw [if_neg hA, if_neg hs, if_pos rfl]; simpa using ha
  have hn : ¬ (List.range T.length).any (mayS A E T s) = true := by
    intro hp
    rw [maskL_get hT, if_pos hp, h1] at h
    cases h
  rw [accs_first T.length (fun j hj => by rw [maskL_get hj, if_neg hn]), if_neg (by omega)]
def Bd (A : List Bool) (E : List S92) (T : List ByteArray) (M : List S99) (i : Nat) (s : Int) (said : ByteArray) (tk : List Int) : Prop := s = WalkS A E 0 said ∧ s = stateV A E T M tk ∧ 0 ≤ s ∧ (A.length = 0 → s = 0) ∧ (A.length ≠ 0 → isS A s) ∧ said.size ≤ 64 * i ∧ tk.length = i
theorem binds_l1 (A : List Bool) (E : List S92) (T : List ByteArray) (M : List S99) (p : List Int) (s : Int) (said : ByteArray) (tk : List Int) (i : Int) (mask : List Bool) (hm : mask.length ≤ 512) (h : Ev (fun k => heraldlaw15_GuideBinds.l1 k p s said tk i mask (accs mask mask.length) (mask.length : Int) A E T M) true) : Ev (fun k => heraldlaw15_GuideBinds.l1 k p s said tk i mask ([] : List Int) 0 A E T M) true := by
  have := ev_loop (fun k j => heraldlaw15_GuideBinds.l1 k p s said tk i mask (accs mask j) (j : Int) A E T M) true mask.length (fun _ => True) trivial (fun _ => h) (fun j hj _ ih => ?_)
  · exact this
  · have w1 : j ≤ 140737488351232 := by omega
    have hih := ih trivial
    have hl := accs_len mask j
    rw [accs_snoc] at hih
    by_cases hb : mask.getD j false = true
    · rw [if_pos hb] at hih
      refine Ev.step (fun k => ?_) hih
      have hr : rdOf false mask (j : Int) = true := T_nat.2 hb
      simp only [heraldlaw15_GuideBinds.l1, wone w1]
      rw [if_pos (by omega), if_pos (by omega), if_pos hr, if_pos (by omega)]
    · rw [if_neg hb] at hih
      refine Ev.step (fun k => ?_) hih
      have hr : ¬ rdOf false mask (j : Int) = true := fun h => hb (T_nat.1 h)
      simp only [heraldlaw15_GuideBinds.l1, wone w1]
      rw [if_pos (by omega), if_pos (by omega), if_neg hr]
/-- A pick lies among what may follow. -/
theorem pick_in (x : Int) {n : Nat} (h0 : n ≠ 0) (hn : n ≤ 512) : 0 ≤ Int.tmod (wrap64 (Int.tmod x (n : Int) + (n : Int))) (n : Int) ∧ Int.tmod (wrap64 (Int.tmod x (n : Int) + (n : Int))) (n : Int) < (n : Int) := by
  have hp : (0 : Int) < (n : Int) := by omega
  have b1 := Int.emod_nonneg x (show (n : Int) ≠ 0 by omega)
  have b2 := Int.emod_lt_of_pos x hp
  have hy : 0 ≤ Int.tmod x (n : Int) + (n : Int) ∧ Int.tmod x (n : Int) + (n : Int) ≤ 1024 := by
    rw [tmod_pos hp]
    split <;> omega
  rw [wrap64_id' (by omega) (by omega)]
  have c1 := Int.emod_nonneg (Int.tmod x (n : Int) + (n : Int)) (show (n : Int) ≠ 0 by omega)
  have c2 := Int.emod_lt_of_pos (Int.tmod x (n : Int) + (n : Int)) hp
  rw [tmod_pos hp (a := Int.tmod x (n : Int) + (n : Int)), if_pos (.inl hy.1)]
  exact ⟨c1, c2⟩
theorem binds_l0 (A : List Bool) (E : List S92) (T : List ByteArray) (M : List S99) (hT : Sz T) (hM : Wf M) (hv : (vcheckS T M).2 = 0) (hc : (checkS A E).2 = 0) (p : List Int) (hp : p.length * 8 ≤ 140737488351232) : ∀ (d i : Nat) (s : Int) (said : ByteArray) (tk : List Int), i + d = p.length → Bd A E T M i s said tk → Ev (fun k => heraldlaw15_GuideBinds.l0 k p s said tk (i : Int) A E T M) true
  | 0, i, s, said, tk, hi, hB => by
    refine Ev.step (f := fun _ => some true) (fun k => ?_) (Ev.now _)
    simp only [heraldlaw15_GuideBinds.l0]; rw [if_neg (by omega)]
  | d + 1, i, s, said, tk, hi, hB => by
    obtain ⟨b1, b2, b3, b4, b5, b6, b7⟩ := hB
    obtain ⟨v1, v2, v3⟩ := vcheckS_ok hv
    obtain ⟨c1, c2, c3⟩ := checkS_ok hc
    have hsz := okT_size v3
    have hbad : ¬ badS A s := fun h => by
      have h2 := h.2
      by_cases hA : A.length = 0
      · rw [if_pos hA] at h2; exact h2 (b4 hA)
      · rw [if_neg hA] at h2; exact h2 (b5 hA)
    have hmask := Mask_f A E T M hT hM s
    unfold maskS at hmask
    rw [if_pos hv, if_pos hc, if_neg hbad] at hmask
    have hml := maskL_len A E T s
    refine ev_succ ?_
    simp only [heraldlaw15_GuideBinds.l0, show (i : Int) < (p.length : Int) by omega, if_true]
    refine Ev.bind hmask ?_
    simp only [if_true, hml, bne_self_eq_false]
    refine ev_succ ?_
    simp only [heraldlaw15_GuideBinds.j2, Bool.false_eq_true, if_false]
    refine binds_l1 A E T M p s said tk (i : Int) (maskL A E T s) (by omega) ?_
    rw [hml]
    refine ev_succ ?_
    have hn0 := may_some A E (T := T) s (by omega)
    have hnl := accs_len (maskL A E T s) T.length
    obtain ⟨L, hL⟩ : ∃ L, L = accs (maskL A E T s) T.length := ⟨_, rfl⟩
    rw [← hL] at hn0 hnl
    obtain ⟨q0, q1⟩ := pick_in (rd p (i : Int)) hn0 (by omega)
    obtain ⟨q, hq⟩ : ∃ q, q = Int.tmod (wrap64 (Int.tmod (rd p (i : Int)) (L.length : Int) + (L.length : Int))) (L.length : Int) := ⟨_, rfl⟩
    rw [← hq] at q0 q1
    have hmem := rd_mem (l := L) q0 q1
    obtain ⟨x, hx⟩ : ∃ x, x = rd L q := ⟨_, rfl⟩
    rw [← hx, hL] at hmem
    obtain ⟨j, rfl, hj, hg⟩ := accs_mem hmem
    have hlt : ¬ ((T.length : Nat) : Int) < (T.length : Int) := by omega
    have hn0' : ¬ ((L.length : Nat) : Int) = 0 := by omega
    have hi0 : (0 : Int) ≤ (i : Int) := by omega
    have hi1 : (i : Int) < (p.length : Int) := by omega
    simp only [heraldlaw15_GuideBinds.l1, hml, hlt, ← hL, hn0', if_false, hi0, hi1, ← hq, q0, q1, ← hx, if_true]
    by_cases h0 : j = 0
    · subst h0
      simp only [show (((0 : Nat) : Int) = 0) from rfl, if_true]
      refine Ev.bind (Accepts_f A E said (by omega)) ?_
      by_cases hacc : acceptsS A E said = true
      · simp only [hacc, if_true]; exact Ev.now _
      · simp only [hacc, if_false]
        have h1 : L.length = 1 := by
          rw [hL]
          unfold acceptsS at hacc
          rw [if_pos hc] at hacc
          by_cases hA : A.length = 0
          · rw [if_pos hA] at hacc; exact absurd rfl hacc
          · rw [if_neg hA] at hacc
            unfold WalkS at b1
            rw [if_pos hc] at b1
            rw [← b1, if_pos (show s ≥ 0 from b3)] at hacc
            exact may_end hA (by omega) (by omega) hg hacc
        simp only [h1]
        exact Ev.now _
    · have hj0 : ¬ ((j : Int) = 0) := by omega
      have hz := rdOf_size hsz (j : Int)
      have hsum : said.size + (rdOf ByteArray.empty T (j : Int)).size ≤ 9223372036854775807 := by omega
      have htk : tk.length < 17592186044416 := by omega
      have hmay := may_next hj h0 hg
      have hnext : nextV A E T M s (j : Int) = WalkS A E s (rdOf ByteArray.empty T (j : Int)) := by
        unfold nextV; rw [if_pos hv, if_neg (by omega), if_neg (by omega)]
      have htwo : WalkS A E 0 (said ++ rdOf ByteArray.empty T (j : Int)) = WalkS A E s (rdOf ByteArray.empty T (j : Int)) := by
        rw [Walk_two (by omega), ← b1]
      have hst : stateV A E T M (tk ++ [(j : Int)]) = WalkS A E s (rdOf ByteArray.empty T (j : Int)) := by
        unfold stateV at b2 ⊢
        rw [List.foldl_append, ← b2]
        simp only [List.foldl_cons, List.foldl_nil]
        exact hnext
      have hsize : (said ++ rdOf ByteArray.empty T (j : Int)).size = said.size + (rdOf ByteArray.empty T (j : Int)).size := ByteArray.size_append
      obtain ⟨s2, hs2⟩ : ∃ s2, s2 = WalkS A E s (rdOf ByteArray.empty T (j : Int)) := ⟨_, rfl⟩
      have hs3 : s2 = walkS A E s (rdOf ByteArray.empty T (j : Int)) := by rw [hs2]; unfold WalkS; rw [if_pos hc]
      rw [← hs2] at hnext htwo hst
      have hgood : 0 ≤ s2 ∧ (A.length = 0 → s2 = 0) ∧ (A.length ≠ 0 → isS A s2 ∧ rdOf false (liveL A E) s2 = true) := by
        by_cases hA : A.length = 0
        · have : s2 = 0 := by rw [hs3]; unfold walkS; rw [if_pos hA, if_pos (b4 hA)]
          exact ⟨by omega, fun _ => this, fun h => absurd hA h⟩
        · unfold mayS tx at hmay
          rw [if_neg hA, if_neg (by omega), if_neg h0, ← hs3] at hmay
          by_cases hw : s2 ≥ 0
          · rw [if_pos hw] at hmay
            have hin := walkS_lt c3 hA s (rdOf ByteArray.empty T (j : Int))
            rw [← hs3] at hin
            rcases hin with e | e
            · omega
            · exact ⟨hw, fun h => absurd h hA, fun _ => ⟨e, hmay⟩⟩
          · rw [if_neg hw] at hmay; cases hmay
      obtain ⟨g1, g2, g3⟩ := hgood
      simp only [hj0, if_false, show (0 : Int) ≤ (j : Int) by omega, show (j : Int) < (T.length : Int) by omega, hsum, htk, if_true, Option.bind_some]
      have hN := Next_f A E T M hT hM s (j : Int)
      rw [hnext] at hN
      have hW := Walk_f A E 0 (said ++ rdOf ByteArray.empty T (j : Int)) (by omega)
      rw [htwo] at hW
      have hS := State_f A E T M hT hM (tk ++ [(j : Int)]) (by simp; omega)
      rw [hst] at hS
      refine Ev.bind hN ?_
      refine Ev.bind hW ?_
      simp only [if_true]
      refine Ev.bind hS ?_
      simp only [if_true, show decide (s2 < 0) = false from decide_eq_false (by omega)]
      refine ev_succ ?_
      simp only [heraldlaw15_GuideBinds.j4, Bool.false_eq_true, if_false]
      have hAl := Alive_f A E
      rw [if_pos hc] at hAl
      refine Ev.bind hAl ?_
      have w1 : i ≤ 140737488351232 := by omega
      have hrest := binds_l0 A E T M hT hM hv hc p hp d (i + 1) s2 (said ++ rdOf ByteArray.empty T (j : Int)) (tk ++ [(j : Int)]) (by omega) ⟨htwo.symm, hst.symm, g1, g2, fun h => (g3 h).1, by omega, by simp; omega⟩
      by_cases hA : A.length = 0
      · simp only [show ¬ ((A.length : Int) > 0) by omega, if_false, wone w1]
        exact hrest
      · obtain ⟨e1, e2⟩ := g3 hA
        have hll := liveL_len A E
        have hlt2 := e1.2
        simp only [show (A.length : Int) > 0 by omega, if_true, hll, show ¬ (s2 ≥ (A.length : Int)) by omega, if_false, g1, hlt2, e2, wone w1]
        exact hrest
theorem GuideBinds (A : List Bool) (E : List S92) (T : List ByteArray) (M : List S99) (l : List Int) (q0 : (A.length ≤ maxLen ∧ A.length * 1 ≤ 140737488351232) ∧ ∀ x ∈ A, True) (q1 : (E.length ≤ maxLen ∧ E.length * 24 ≤ 140737488351232) ∧ ∀ x ∈ E, ((Lit.int .i64 x.f0).wf = true ∧ (Lit.int .u8 x.f1).wf = true ∧ (Lit.int .u8 x.f2).wf = true ∧ (Lit.int .i64 x.f3).wf = true)) (q2 : (T.length ≤ maxLen ∧ T.length * 16 ≤ 140737488351232) ∧ ∀ x ∈ T, (x.size ≤ 140737488351232)) (q3 : (M.length ≤ maxLen ∧ M.length * 24 ≤ 140737488351232) ∧ ∀ x ∈ M, ((Lit.int .i64 x.f0).wf = true ∧ (Lit.int .i64 x.f1).wf = true ∧ (Lit.int .i64 x.f2).wf = true)) (q4 : (l.length ≤ maxLen ∧ l.length * 8 ≤ 140737488351232) ∧ ∀ x ∈ l, ((Lit.int .i64 x).wf = true)) : ∃ k, heraldlaw15_GuideBinds.f k A E T M l = some true := by
  have hA := q0.1.2
  have hE := q1.1.2
  have hT : Sz T := q2.2
  have hM : Wf M := fun m hm => ⟨(q3.2 m hm).1, (q3.2 m hm).2.1⟩
  have hl := q4.1.2
  refine Ev.rounds (g := fun k => heraldlaw15_GuideBinds.f k A E T M l) ?_
  unfold heraldlaw15_GuideBinds.f
  refine Ev.bind (given_f A E (by omega) (by omega)) ?_
  refine Ev.bind (rCheck_f A E) ?_
  refine Ev.bind (words_f T M q2.1.2 q3.1.2) ?_
  refine Ev.bind (rvocab_f T M) ?_
  refine Ev.bind awake_ev ?_
  simp only [if_true]
  have hmask := Mask_f A E T M hT hM 0
  have bad : (checkS A E).2 ≠ 0 ∨ (vcheckS T M).2 ≠ 0 → Ev (fun k => heraldlaw15_GuideBinds.j0 k l (checkS A E).2 (vcheckS T M).2 true A E T M) true := fun h => by
    refine ev_succ ?_
    simp only [heraldlaw15_GuideBinds.j0, if_true]
    refine Ev.bind hmask ?_
    refine Ev.bind awake_ev ?_
    have hm : (maskS A E T M 0).2 ≠ 0 := by
      unfold maskS
      by_cases hv : (vcheckS T M).2 = 0
      · rw [if_pos hv]
        have hc : (checkS A E).2 ≠ 0 := by
          rcases h with h | h
          · exact h
          · exact absurd hv h
        rw [if_neg hc]; exact hc
      · rw [if_neg hv]; exact hv
    have hm2 : ((maskS A E T M 0).2 != 0) = true := by simpa using hm
    simp only [if_true, hm2]
    by_cases hc : (checkS A E).2 = 0
    · have hv : ((vcheckS T M).2 != 0) = true := by
        rcases h with h | h
        · exact absurd hc h
        · simpa using h
      simp only [hc, hv, if_true]
      exact Ev.now _
    · simp only [hc, if_false]
      exact Ev.now _
  by_cases hc : (checkS A E).2 = 0
  · by_cases hv : (vcheckS T M).2 = 0
    · simp only [hc, hv, if_true, bne_self_eq_false]
      refine ev_succ ?_
      simp only [heraldlaw15_GuideBinds.j0, Bool.false_eq_true, if_false]
      have hw : WalkS A E 0 (⟨#[]⟩ : ByteArray) = 0 := by
        unfold WalkS walkS
        rw [if_pos hc]
        by_cases hn : A.length = 0
        · rw [if_pos hn]; rfl
        · rw [if_neg hn, if_pos (show isS A 0 from ⟨by omega, by omega⟩)]; rfl
      refine binds_l0 A E T M hT hM hv hc l hl l.length 0 0 ⟨#[]⟩ [] (by omega) ⟨hw.symm, rfl, by omega, fun _ => rfl, fun h => ⟨by omega, by omega⟩, ?_, rfl⟩
      show (0 : Nat) ≤ _
      omega
    · have hv2 : ((vcheckS T M).2 != 0) = true := by simpa using hv
      have hb := bad (.inr hv)
      simp only [hc] at hb
      simp only [hc, if_true, hv2]
      exact hb
  · simp only [hc, if_false]
    exact bad (.inl hc)

end Go.Proofs.Ytfjpnmhbbfiaaaa.Pure
