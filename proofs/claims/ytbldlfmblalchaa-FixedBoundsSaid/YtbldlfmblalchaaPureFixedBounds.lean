/- Every Clamp and Narrow of the program answers what the document's reference answers. No condition. -/
import Derived.Test.YtbldlfmblalchaaPx12
import Derived.Test.YtbldlfmblalchaaLibB
namespace Go.Proofs.Ytbldlfmblalchaa.Pure
open Go Go.RowKit Go.Proofs.Ytbldlfmblalchaa.M Go.Proofs.Ytbldlfmblalchaa.L Go.Proofs.Ytbldlfmblalchaa.P Go.Proofs.YtbldlfmblalchaaW.PrintWords Go.Proofs.YtbldlfmblalchaaW.PrintLast Go.Proofs.YtbldlfmblalchaaW.PrintMore
set_option linter.unusedVariables false
set_option linter.unusedSimpArgs false

theorem FixedBounds : heraldlaw02_FixedBounds.Pure := by
  intro x lo hi h1 h2 h3
  refine Ev.rounds (g := fun k => heraldlaw02_FixedBounds.f k x lo hi) ?_
  unfold heraldlaw02_FixedBounds.f
  refine Ev.bind awake_ev ?_
  simp only [if_true, Clamp_f, rClamp_f, Narrow_f, rNarrow_f, Option.bind_some, beq_self_eq_true]
  exact Ev.now _

end Go.Proofs.Ytbldlfmblalchaa.Pure
