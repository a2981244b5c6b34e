/- What may follow is what the document's reference says, for every guide, every vocabulary and every state, right or not. No condition but that they can be handed in. -/
import Derived.Test.YtfjpnmhbbfiaaaaZGMPx33
import Derived.Test.YtfjpnmhbbfiaaaaZGMLibGuideMasks
namespace Go.Proofs.Ytfjpnmhbbfiaaaa.Pure
open Go Go.RowKit Go.Proofs.Ytfjpnmhbbfiaaaa.M Go.Proofs.Ytfjpnmhbbfiaaaa.L Go.Proofs.Ytfjpnmhbbfiaaaa.P Go.Proofs.YtfjpnmhbbfiaaaaW.PrintWords Go.Proofs.YtfjpnmhbbfiaaaaW.PrintLast Go.Proofs.YtfjpnmhbbfiaaaaW.PrintMore
set_option linter.unusedVariables false
set_option linter.unusedSimpArgs false

-- NEEDS heraldlaw15_GuideMasks.f
theorem GuideMasks (A : List Bool) (E : List S92) (T : List ByteArray) (M : List S99) (s : Int) (q0 : (A.length ≤ maxLen ∧ A.length * 1 ≤ 140737488351232) ∧ ∀ x ∈ A, True) (q1 : (E.length ≤ maxLen ∧ E.length * 24 ≤ 140737488351232) ∧ ∀ x ∈ E, ((Lit.int .i64 x.f0).wf = true ∧ (Lit.int .u8 x.f1).wf = true ∧ (Lit.int .u8 x.f2).wf = true ∧ (Lit.int .i64 x.f3).wf = true)) (q2 : (T.length ≤ maxLen ∧ T.length * 16 ≤ 140737488351232) ∧ ∀ x ∈ T, (x.size ≤ 140737488351232)) (q3 : (M.length ≤ maxLen ∧ M.length * 24 ≤ 140737488351232) ∧ ∀ x ∈ M, ((Lit.int .i64 x.f0).wf = true ∧ (Lit.int .i64 x.f1).wf = true ∧ (Lit.int .i64 x.f2).wf = true)) (q4 : (Lit.int .i64 s).wf = true) : ∃ k, heraldlaw15_GuideMasks.f k A E T M s = some true := by
  have hA := q0.1.2
  have hE := q1.1.2
  have hT : Sz T := q2.2
  have hM : Wf M := fun m hm => ⟨(q3.2 m hm).1, (q3.2 m hm).2.1⟩
  refine Ev.rounds (g := fun k => heraldlaw15_GuideMasks.f k A E T M s) ?_
  unfold heraldlaw15_GuideMasks.f
  refine Ev.bind (Mask_f A E T M hT hM s) ?_
  refine Ev.bind (given_f A E (by omega) (by omega)) ?_
  refine Ev.bind (words_f T M q2.1.2 q3.1.2) ?_
  refine Ev.bind (rMask_f A E T M (by omega) (by omega) s) ?_
  refine Ev.bind awake_ev ?_
  simp only [if_true]
  refine Ev.bind (truths_ev _ (by have := maskS_len A E T M s; omega)) ?_
  simp only [if_true, beq_self_eq_true]
  exact Ev.now _

end Go.Proofs.Ytfjpnmhbbfiaaaa.Pure
