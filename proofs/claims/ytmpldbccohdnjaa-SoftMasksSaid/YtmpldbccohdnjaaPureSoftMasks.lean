/- Masked and sloped weights, mixtures and the heaviest are what the document's reference says, for every list of scores, numbers, mask, slope and part, errors too. No condition but that the lists can be handed in. -/
import Derived.Test.YtmpldbccohdnjaaPx30
import Derived.Test.YtmpldbccohdnjaaLibSoftMasks
namespace Go.Proofs.Ytmpldbccohdnjaa.Pure
open Go Go.RowKit Go.Proofs.Ytmpldbccohdnjaa.M Go.Proofs.Ytmpldbccohdnjaa.L Go.Proofs.Ytmpldbccohdnjaa.P Go.Proofs.YtmpldbccohdnjaaW.PrintWords Go.Proofs.YtmpldbccohdnjaaW.PrintLast Go.Proofs.YtmpldbccohdnjaaW.PrintMore
set_option linter.unusedVariables false
set_option linter.unusedSimpArgs false

-- NEEDS heraldlaw11_SoftMasks.f
theorem SoftMasks (l v : List Int) (m : List Bool) (s p : Int) (q0 : (l.length ≤ maxLen ∧ l.length * 8 ≤ 140737488351232) ∧ ∀ y ∈ l, ((Lit.int .i64 y).wf = true)) (q1 : (v.length ≤ maxLen ∧ v.length * 1 ≤ 140737488351232) ∧ ∀ y ∈ v, ((Lit.int .i8 y).wf = true)) (q2 : (m.length ≤ maxLen ∧ m.length * 1 ≤ 140737488351232) ∧ ∀ y ∈ m, (True)) (q3 : (Lit.int .i64 s).wf = true) (q4 : (Lit.int .i64 p).wf = true) : ∃ k, heraldlaw11_SoftMasks.f k l v m s p = some true := by
  obtain ⟨⟨_, hl1⟩, hl⟩ := q0
  obtain ⟨⟨_, hv1⟩, hv⟩ := q1
  have hx : ∀ x ∈ l, I64 x := fun x h => i64_of_wf (hl x h)
  have iv : ∀ x ∈ v, I8 x := fun x h => i8_of_wf (hv x h)
  refine Ev.rounds (g := fun k => heraldlaw11_SoftMasks.f k l v m s p) ?_
  unfold heraldlaw11_SoftMasks.f
  have h1 := maskS_len l m
  have h2 := slopedS_len l s
  have h3 := wlen l
  have h4 := mixS_len (weightsS l).1 (maskS l m).1 p
  have h5 := mixS_len l l p
  refine Ev.bind (mMasked_f l m hx) ?_
  refine Ev.bind (rMasked_f l m hx) ?_
  refine Ev.bind (Sloped_f l s) ?_
  refine Ev.bind (rSloped_f l s) ?_
  refine Ev.bind (rWeights_f l hx) ?_
  refine Ev.bind (Mix_f _ _ p (by omega)) ?_
  refine Ev.bind (rMix_f _ _ p (by omega)) ?_
  refine Ev.bind (Best_f _ v iv) ?_
  refine Ev.bind (rBest_f _ v iv) ?_
  refine Ev.bind (Mix_f l l p (by omega)) ?_
  refine Ev.bind (rMix_f l l p (by omega)) ?_
  refine Ev.bind awake_ev ?_
  simp only [if_true]
  refine Ev.bind (longs_same _ (by omega)) ?_
  simp only [if_true]
  refine Ev.bind (longs_same _ (by omega)) ?_
  simp only [if_true]
  refine Ev.bind (longs_same _ (by omega)) ?_
  simp only [if_true]
  refine Ev.bind (longs_same _ (by omega)) ?_
  simp only [if_true, beq_self_eq_true]
  exact Ev.now _

end Go.Proofs.Ytmpldbccohdnjaa.Pure
