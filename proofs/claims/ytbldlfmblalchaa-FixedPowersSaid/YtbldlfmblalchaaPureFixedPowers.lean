/- Every Exp2 of the program answers what the document's reference answers. No condition. -/
import Derived.Test.YtbldlfmblalchaaPx8
import Derived.Test.YtbldlfmblalchaaLibB
namespace Go.Proofs.Ytbldlfmblalchaa.Pure
open Go Go.RowKit Go.Proofs.Ytbldlfmblalchaa.M Go.Proofs.Ytbldlfmblalchaa.L Go.Proofs.Ytbldlfmblalchaa.P Go.Proofs.YtbldlfmblalchaaW.PrintWords Go.Proofs.YtbldlfmblalchaaW.PrintLast Go.Proofs.YtbldlfmblalchaaW.PrintMore
set_option linter.unusedVariables false
set_option linter.unusedSimpArgs false

theorem FixedPowers : heraldlaw02_FixedPowers.Pure := by
  intro x h1
  have hx := i64_of_wf h1
  refine Ev.rounds (g := fun k => heraldlaw02_FixedPowers.f k x) ?_
  unfold heraldlaw02_FixedPowers.f
  refine Ev.bind awake_ev ?_
  simp only [if_true, Exp2_f x hx, Option.bind_some]
  refine Ev.bind (rExp2_f x hx) ?_
  simp only [beq_self_eq_true]
  exact Ev.now _

end Go.Proofs.Ytbldlfmblalchaa.Pure
