/- What the program's root of a row answers is what the document's reference answers, for every row of numbers, and the row stays. No condition but that the row is one that can be handed in. -/
import Derived.Test.YtgdbcknofcnfbaaPx9
import Derived.Test.YtgdbcknofcnfbaaLibB
namespace Go.Proofs.Ytgdbcknofcnfbaa.Pure
open Go Go.RowKit Go.Proofs.Ytgdbcknofcnfbaa.M Go.Proofs.Ytgdbcknofcnfbaa.L Go.Proofs.Ytgdbcknofcnfbaa.P Go.Proofs.YtgdbcknofcnfbaaW.PrintWords Go.Proofs.YtgdbcknofcnfbaaW.PrintLast Go.Proofs.YtgdbcknofcnfbaaW.PrintMore
set_option linter.unusedVariables false
set_option linter.unusedSimpArgs false

theorem NormRoots : heraldlaw09_NormRoots.Pure := by
  intro l h1 h2 h3
  refine Ev.rounds (g := fun k => heraldlaw09_NormRoots.f k l) ?_
  unfold heraldlaw09_NormRoots.f
  simp only [Option.bind_some, List.nil_append, List.length_nil, Nat.zero_add, show l.length < 17592186044416 by omega, if_true]
  refine Ev.bind (Root_f l) ?_
  refine Ev.bind (rRoot_f l) ?_
  refine Ev.bind awake_ev ?_
  simp only [if_true]
  exact Ev.bind (longs_same l (by omega)) (Ev.now _)

end Go.Proofs.Ytgdbcknofcnfbaa.Pure
