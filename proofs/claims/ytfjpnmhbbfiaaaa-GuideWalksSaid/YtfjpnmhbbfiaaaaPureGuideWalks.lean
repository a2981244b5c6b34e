/- Where a text leads, and whether it is accepted, is what the document's reference says, for every guide, state and text. No condition but that they can be handed in. -/
import Derived.Test.YtfjpnmhbbfiaaaaPx35
import Derived.Test.YtfjpnmhbbfiaaaaLibGuideWalks
namespace Go.Proofs.Ytfjpnmhbbfiaaaa.Pure
open Go Go.RowKit Go.Proofs.Ytfjpnmhbbfiaaaa.M Go.Proofs.Ytfjpnmhbbfiaaaa.L Go.Proofs.Ytfjpnmhbbfiaaaa.P Go.Proofs.YtfjpnmhbbfiaaaaW.PrintWords Go.Proofs.YtfjpnmhbbfiaaaaW.PrintLast Go.Proofs.YtfjpnmhbbfiaaaaW.PrintMore
set_option linter.unusedVariables false
set_option linter.unusedSimpArgs false

-- NEEDS heraldlaw15_GuideWalks.f
theorem GuideWalks (A : List Bool) (E : List S92) (s : Int) (t : ByteArray) (q0 : (A.length ≤ maxLen ∧ A.length * 1 ≤ 140737488351232) ∧ ∀ x ∈ A, True) (q1 : (E.length ≤ maxLen ∧ E.length * 24 ≤ 140737488351232) ∧ ∀ x ∈ E, ((Lit.int .i64 x.f0).wf = true ∧ (Lit.int .u8 x.f1).wf = true ∧ (Lit.int .u8 x.f2).wf = true ∧ (Lit.int .i64 x.f3).wf = true)) (q2 : (Lit.int .i64 s).wf = true) (q3 : t.size ≤ 140737488351232) : ∃ k, heraldlaw15_GuideWalks.f k A E s t = some true := by
  have hA := q0.1.2
  have hE := q1.1.2
  refine Ev.rounds (g := fun k => heraldlaw15_GuideWalks.f k A E s t) ?_
  unfold heraldlaw15_GuideWalks.f
  refine Ev.bind (given_f A E (by omega) (by omega)) ?_
  refine Ev.bind awake_ev ?_
  simp only [if_true]
  refine Ev.bind (Walk_f A E s t (by omega)) ?_
  refine Ev.bind (rWalk_f A E s t (by omega)) ?_
  simp only [if_true]
  refine Ev.bind (Accepts_f A E t (by omega)) ?_
  refine Ev.bind (rAccepts_f A E t (by omega)) ?_
  simp only [beq_self_eq_true]
  exact Ev.now _

end Go.Proofs.Ytfjpnmhbbfiaaaa.Pure
