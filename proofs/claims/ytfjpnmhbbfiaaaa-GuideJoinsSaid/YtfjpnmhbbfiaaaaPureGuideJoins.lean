/- Where two texts lead, one behind the other: where the second leads from where the first does. For every guide, state and texts. No condition but that they can be handed in. -/
import Derived.Test.YtfjpnmhbbfiaaaaPx36
import Derived.Test.YtfjpnmhbbfiaaaaLibGuideJoins
namespace Go.Proofs.Ytfjpnmhbbfiaaaa.Pure
open Go Go.RowKit Go.Proofs.Ytfjpnmhbbfiaaaa.M Go.Proofs.Ytfjpnmhbbfiaaaa.L Go.Proofs.Ytfjpnmhbbfiaaaa.P Go.Proofs.YtfjpnmhbbfiaaaaW.PrintWords Go.Proofs.YtfjpnmhbbfiaaaaW.PrintLast Go.Proofs.YtfjpnmhbbfiaaaaW.PrintMore
set_option linter.unusedVariables false
set_option linter.unusedSimpArgs false

-- NEEDS heraldlaw15_GuideJoins.f
theorem bt_left {a b : ByteArray} {i : Nat} (h : i < a.size) : bt (a ++ b) (i : Int) = bt a (i : Int) := by
  have h1 : i < (a ++ b).size := by rw [ByteArray.size_append]; omega
  unfold bt
  simp only [Int.toNat_natCast, h, h1, dif_pos]
  rw [ByteArray.getElem_append_left h]
theorem bt_right {a b : ByteArray} {i : Nat} (h : i < b.size) : bt (a ++ b) ((a.size + i : Nat) : Int) = bt b (i : Int) := by
  have h1 : a.size + i < (a ++ b).size := by rw [ByteArray.size_append]; omega
  unfold bt
  simp only [Int.toNat_natCast, h, h1, dif_pos]
  rw [ByteArray.getElem_append_right (by omega)]
  simp only [Nat.add_sub_cancel_left]
theorem walk_right (E : List S92) (a b : ByteArray) : ∀ (d : Nat) (s : Int), d ≤ b.size → walkGo E (a ++ b) s d = walkGo E b s d
  | 0, s, _ => rfl
  | d + 1, s, h => by
    have e : (a ++ b).size - (d + 1) = a.size + (b.size - (d + 1)) := by rw [ByteArray.size_append]; omega
    simp only [walkGo, e, bt_right (a := a) (b := b) (i := b.size - (d + 1)) (by omega)]
    split
    · rfl
    · exact walk_right E a b d _ (by omega)
theorem walk_left (E : List S92) (a b : ByteArray) : ∀ (d : Nat) (s : Int), d ≤ a.size → 0 ≤ s → walkGo E (a ++ b) s (d + b.size) = if walkGo E a s d < 0 then -1 else walkGo E b (walkGo E a s d) b.size
  | 0, s, _, hs => by
    have e : walkGo E a s 0 = s := rfl
    rw [Nat.zero_add, e, if_neg (by omega)]
    exact walk_right E a b _ s (Nat.le_refl _)
  | d + 1, s, h, hs => by
    have e : (a ++ b).size - (d + b.size + 1) = a.size - (d + 1) := by rw [ByteArray.size_append]; omega
    rw [show d + 1 + b.size = d + b.size + 1 by omega]
    simp only [walkGo, e, bt_left (a := a) (b := b) (i := a.size - (d + 1)) (by omega)]
    split
    · rfl
    · rename_i hn
      exact walk_left E a b d _ (by omega) (by omega)
theorem GuideJoins (A : List Bool) (E : List S92) (s : Int) (a b : ByteArray) (q0 : (A.length ≤ maxLen ∧ A.length * 1 ≤ 140737488351232) ∧ ∀ x ∈ A, True) (q1 : (E.length ≤ maxLen ∧ E.length * 24 ≤ 140737488351232) ∧ ∀ x ∈ E, ((Lit.int .i64 x.f0).wf = true ∧ (Lit.int .u8 x.f1).wf = true ∧ (Lit.int .u8 x.f2).wf = true ∧ (Lit.int .i64 x.f3).wf = true)) (q2 : (Lit.int .i64 s).wf = true) (q3 : a.size ≤ 140737488351232) (q4 : b.size ≤ 140737488351232) : ∃ k, heraldlaw15_GuideJoins.f k A E s a b = some true := by
  refine Ev.rounds (g := fun k => heraldlaw15_GuideJoins.f k A E s a b) ?_
  have hab : (a ++ b).size = a.size + b.size := ByteArray.size_append
  have key : (WalkS A E s a < 0 → WalkS A E s (a ++ b) < 0) ∧ (¬ WalkS A E s a < 0 → WalkS A E s (a ++ b) = WalkS A E (WalkS A E s a) b) := by
    unfold WalkS
    by_cases h : (checkS A E).2 = 0
    · obtain ⟨h1, h2, h3⟩ := checkS_ok h
      simp only [h, if_true]
      unfold walkS
      by_cases hn : A.length = 0
      · simp only [hn, if_true]
        by_cases hs : s = 0
        · subst hs; simp
        · simp only [hs, if_false]; simp
      · simp only [hn, if_false]
        by_cases hs : isS A s
        · simp only [hs, if_true]
          have hw := walk_left E a b a.size s (Nat.le_refl _) hs.1
          rw [← hab] at hw
          rw [hw]
          rcases walkGo_in h3 a a.size s hs with e | e
          · rw [e]; simp
          · have h0 := e.1
            have hlt : ¬ walkGo E a s a.size < 0 := by omega
            exact ⟨fun h => absurd h hlt, fun _ => by rw [if_neg hlt, if_pos e]⟩
        · simp only [hs, if_false]; simp
    · simp only [h, if_false]; simp
  unfold heraldlaw15_GuideJoins.f
  refine Ev.bind (Walk_f A E s a (by omega)) ?_
  simp only [show a.size + b.size ≤ 9223372036854775807 by omega, if_true]
  refine Ev.bind (Walk_f A E s (a ++ b) (by omega)) ?_
  by_cases hn : WalkS A E s a < 0
  · simp only [hn, if_true]
    refine Ev.bind awake_ev ?_
    simp only [if_true, key.1 hn, decide_true]
    exact Ev.now _
  · simp only [hn, if_false]
    refine Ev.bind awake_ev ?_
    simp only [if_true]
    refine Ev.bind (Walk_f A E _ b (by omega)) ?_
    rw [key.2 hn]
    simp only [beq_self_eq_true]
    exact Ev.now _

end Go.Proofs.Ytfjpnmhbbfiaaaa.Pure
