/- Every Floor, Near and Round of the program answers what the document's reference answers, whatever the numbers. No condition. -/
import Derived.Test.YtbldlfmblalchaaPx6
import Derived.Test.YtbldlfmblalchaaLibB
namespace Go.Proofs.Ytbldlfmblalchaa.Pure
open Go Go.RowKit Go.Proofs.Ytbldlfmblalchaa.M Go.Proofs.Ytbldlfmblalchaa.L Go.Proofs.Ytbldlfmblalchaa.P Go.Proofs.YtbldlfmblalchaaW.PrintWords Go.Proofs.YtbldlfmblalchaaW.PrintLast Go.Proofs.YtbldlfmblalchaaW.PrintMore
set_option linter.unusedVariables false
set_option linter.unusedSimpArgs false

theorem FixedRounds : heraldlaw02_FixedRounds.Pure := by
  intro x d s h1 h2 h3
  have hx := i64_of_wf h1
  have hd := i64_of_wf h2
  refine Ev.rounds (g := fun k => heraldlaw02_FixedRounds.f k x d s) ?_
  unfold heraldlaw02_FixedRounds.f
  refine Ev.bind awake_ev ?_
  simp only [if_true, Floor_f x d hx hd, rFloor_f x d hx hd, Option.bind_some, bne_self_eq_false]
  refine Ev.step (fun k => by simp only [heraldlaw02_FixedRounds.j0, Bool.false_eq_true, if_false, Near_f x d hx hd, rNear_f x d hx hd, Option.bind_some, if_true, bne_self_eq_false]; rfl) ?_
  refine Ev.step (fun k => by simp only [heraldlaw02_FixedRounds.j1, Bool.false_eq_true, if_false, Round_f x s hx, Option.bind_some]; rfl) ?_
  refine Ev.bind (rRound_f x s hx) ?_
  simp only [if_true, beq_self_eq_true]
  exact Ev.now _

end Go.Proofs.Ytbldlfmblalchaa.Pure
