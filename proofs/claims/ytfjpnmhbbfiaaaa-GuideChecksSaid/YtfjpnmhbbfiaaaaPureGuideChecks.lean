/- Which guides are right, and which of their states are alive, is what the document's reference says, for every guide, right or not, and what is handed in stays. No condition but that the guide can be handed in. -/
import Derived.Test.YtfjpnmhbbfiaaaaPx37
import Derived.Test.YtfjpnmhbbfiaaaaLibGuideChecks
namespace Go.Proofs.Ytfjpnmhbbfiaaaa.Pure
open Go Go.RowKit Go.Proofs.Ytfjpnmhbbfiaaaa.M Go.Proofs.Ytfjpnmhbbfiaaaa.L Go.Proofs.Ytfjpnmhbbfiaaaa.P Go.Proofs.YtfjpnmhbbfiaaaaW.PrintWords Go.Proofs.YtfjpnmhbbfiaaaaW.PrintLast Go.Proofs.YtfjpnmhbbfiaaaaW.PrintMore
set_option linter.unusedVariables false
set_option linter.unusedSimpArgs false

-- NEEDS heraldlaw15_GuideChecks.f
theorem GuideChecks (A : List Bool) (E : List S92) (q0 : (A.length ≤ maxLen ∧ A.length * 1 ≤ 140737488351232) ∧ ∀ x ∈ A, True) (q1 : (E.length ≤ maxLen ∧ E.length * 24 ≤ 140737488351232) ∧ ∀ x ∈ E, ((Lit.int .i64 x.f0).wf = true ∧ (Lit.int .u8 x.f1).wf = true ∧ (Lit.int .u8 x.f2).wf = true ∧ (Lit.int .i64 x.f3).wf = true)) : ∃ k, heraldlaw15_GuideChecks.f k A E = some true := by
  have hA := q0.1.2
  have hE := q1.1.2
  refine Ev.rounds (g := fun k => heraldlaw15_GuideChecks.f k A E) ?_
  unfold heraldlaw15_GuideChecks.f
  refine Ev.bind (given_f A E (by omega) (by omega)) ?_
  refine Ev.bind (Check_f A E) ?_
  refine Ev.bind (rCheck_f A E) ?_
  refine Ev.bind (Alive_f A E) ?_
  refine Ev.bind (rAlive_f A E (by omega) (by omega)) ?_
  by_cases h : (checkS A E).2 = 0
  · simp only [h, if_true]
    refine Ev.bind awake_ev ?_
    simp only [if_true]
    refine Ev.bind (truths_ev _ (by rw [liveL_len]; omega)) ?_
    simp only [if_true]
    exact Ev.bind (truths_ev _ (by omega)) (Ev.now _)
  · simp only [h, if_false]
    refine Ev.bind awake_ev ?_
    simp only [if_true]
    refine Ev.bind (truths_ev [] (by simp)) ?_
    simp only [if_true]
    exact Ev.bind (truths_ev _ (by omega)) (Ev.now _)

end Go.Proofs.Ytfjpnmhbbfiaaaa.Pure
