/- Where tokens lead is what the document's reference says, for every guide, every vocabulary and all tokens, right or not, and what is handed in stays. No condition but that they can be handed in. -/
import Derived.Test.YtfjpnmhbbfiaaaaZGNPx32
import Derived.Test.YtfjpnmhbbfiaaaaZGNLibGuideNext
namespace Go.Proofs.Ytfjpnmhbbfiaaaa.Pure
open Go Go.RowKit Go.Proofs.Ytfjpnmhbbfiaaaa.M Go.Proofs.Ytfjpnmhbbfiaaaa.L Go.Proofs.Ytfjpnmhbbfiaaaa.P Go.Proofs.YtfjpnmhbbfiaaaaW.PrintWords Go.Proofs.YtfjpnmhbbfiaaaaW.PrintLast Go.Proofs.YtfjpnmhbbfiaaaaW.PrintMore
set_option linter.unusedVariables false
set_option linter.unusedSimpArgs false

-- NEEDS heraldlaw15_GuideNext.f
theorem GuideNext (A : List Bool) (E : List S92) (T : List ByteArray) (M : List S99) (l : List Int) (q0 : (A.length ≤ maxLen ∧ A.length * 1 ≤ 140737488351232) ∧ ∀ x ∈ A, True) (q1 : (E.length ≤ maxLen ∧ E.length * 24 ≤ 140737488351232) ∧ ∀ x ∈ E, ((Lit.int .i64 x.f0).wf = true ∧ (Lit.int .u8 x.f1).wf = true ∧ (Lit.int .u8 x.f2).wf = true ∧ (Lit.int .i64 x.f3).wf = true)) (q2 : (T.length ≤ maxLen ∧ T.length * 16 ≤ 140737488351232) ∧ ∀ x ∈ T, (x.size ≤ 140737488351232)) (q3 : (M.length ≤ maxLen ∧ M.length * 24 ≤ 140737488351232) ∧ ∀ x ∈ M, ((Lit.int .i64 x.f0).wf = true ∧ (Lit.int .i64 x.f1).wf = true ∧ (Lit.int .i64 x.f2).wf = true)) (q4 : (l.length ≤ maxLen ∧ l.length * 8 ≤ 140737488351232) ∧ ∀ x ∈ l, ((Lit.int .i64 x).wf = true)) : ∃ k, heraldlaw15_GuideNext.f k A E T M l = some true := by
  have hA := q0.1.2
  have hE := q1.1.2
  have hT : Sz T := q2.2
  have hM : Wf M := fun m hm => ⟨(q3.2 m hm).1, (q3.2 m hm).2.1⟩
  have hl := q4.1.2
  refine Ev.rounds (g := fun k => heraldlaw15_GuideNext.f k A E T M l) ?_
  unfold heraldlaw15_GuideNext.f
  refine Ev.bind (given_f A E (by omega) (by omega)) ?_
  refine Ev.bind (words_f T M q2.1.2 q3.1.2) ?_
  refine ev_loop (fun k i => heraldlaw15_GuideNext.l0 k l ((l.take i).foldl (fun s t => nextV A E T M s t) 0) (i : Int) A E T M A (E.map cv) T (M.map cm)) true l.length (fun _ => True) trivial (fun _ => ?_) (fun i hi _ ih => ?_)
  · refine Ev.step (f := fun k => (heraldlaw15_awake.f k).bind fun t315 => (if t315 = true then ((guide_State.f k A E T M l).bind fun t316 => ((heraldref15_State.f k A (E.map cv) T (M.map cm) l).bind fun t317 => (some (t316 == t317)))) else (none))) (fun k => ?_) ?_
    · simp only [heraldlaw15_GuideNext.l0]; rw [if_neg (by omega)]
    · refine Ev.bind awake_ev ?_
      simp only [if_true]
      refine Ev.bind (State_f A E T M hT hM l (by omega)) ?_
      refine Ev.bind (rState_f A E T M hT l (by omega)) ?_
      simp only [beq_self_eq_true]
      exact Ev.now _
  · have w1 : i ≤ 140737488351232 := by omega
    have hih := ih trivial
    rw [fold_take _ _ hi] at hih
    refine ev_succ ?_
    simp only [heraldlaw15_GuideNext.l0, wone w1, show (i : Int) < (l.length : Int) by omega, show (0 : Int) ≤ (i : Int) by omega, if_true]
    refine Ev.bind (Next_f A E T M hT hM _ _) ?_
    refine Ev.bind (rNext_f A E T M hT _ _) ?_
    simp only [if_true]
    refine Ev.bind (Next_f A E T M hT hM _ _) ?_
    refine Ev.bind (rNext_f A E T M hT _ _) ?_
    simp only [if_true]
    exact hih

end Go.Proofs.Ytfjpnmhbbfiaaaa.Pure
