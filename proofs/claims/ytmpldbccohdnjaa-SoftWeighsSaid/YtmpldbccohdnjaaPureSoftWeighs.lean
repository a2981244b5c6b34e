/- The program's weights of scores are what the document's reference makes of them, for every list, and the list stays. No condition but that the list can be handed in. -/
import Derived.Test.YtmpldbccohdnjaaPx10
import Derived.Test.YtmpldbccohdnjaaLibC
namespace Go.Proofs.Ytmpldbccohdnjaa.Pure
open Go Go.RowKit Go.Proofs.Ytmpldbccohdnjaa.M Go.Proofs.Ytmpldbccohdnjaa.L Go.Proofs.Ytmpldbccohdnjaa.P Go.Proofs.YtmpldbccohdnjaaW.PrintWords Go.Proofs.YtmpldbccohdnjaaW.PrintLast Go.Proofs.YtmpldbccohdnjaaW.PrintMore
set_option linter.unusedVariables false
set_option linter.unusedSimpArgs false

theorem weightsS_len (l : List Int) : (weightsS l).1.length ≤ l.length := by
  unfold weightsS; split <;> simp
theorem SoftWeighs : heraldlaw11_SoftWeighs.Pure := by
  intro l h1 h2 h3
  have hx : ∀ x ∈ l, I64 x := fun x hx => i64_of_wf (h3 x hx)
  refine Ev.rounds (g := fun k => heraldlaw11_SoftWeighs.f k l) ?_
  unfold heraldlaw11_SoftWeighs.f
  simp only [Option.bind_some, List.nil_append, List.length_nil, Nat.zero_add, show l.length < 17592186044416 by omega, if_true]
  refine Ev.bind (Weights_f l hx) ?_
  refine Ev.bind (rWeights_f l hx) ?_
  refine Ev.bind awake_ev ?_
  simp only [if_true]
  have := weightsS_len l
  refine Ev.bind (longs_same _ (by omega)) ?_
  simp only [if_true]
  exact Ev.bind (longs_same l (by omega)) (Ev.now _)

end Go.Proofs.Ytmpldbccohdnjaa.Pure
