/- Every sine, and every table of the usual angles, is what the document's reference says, errors too. No condition. -/
import Derived.Test.YtengkjkmdodifaaDoorPx9
import Derived.Test.YtengkjkmdodifaaDoorLibRopeTables
namespace Go.Proofs.YtengkjkmdodifaaDoor.Pure
open Go Go.RowKit Go.Proofs.YtengkjkmdodifaaDoor.M Go.Proofs.YtengkjkmdodifaaDoor.L Go.Proofs.YtengkjkmdodifaaDoor.P Go.Proofs.YtengkjkmdodifaaDoorW.PrintWords Go.Proofs.YtengkjkmdodifaaDoorW.PrintLast Go.Proofs.YtengkjkmdodifaaDoorW.PrintMore
set_option linter.unusedVariables false
set_option linter.unusedSimpArgs false

theorem RopeTables : heraldlaw10_RopeTables.Pure := by
  intro x p h h1 h2 h3
  have ix := i64_of_wf h1
  refine Ev.rounds (g := fun k => heraldlaw10_RopeTables.f k x p h) ?_
  unfold heraldlaw10_RopeTables.f
  refine Ev.bind awake_ev ?_
  simp only [if_true, Sine_f, Option.bind_some]
  refine Ev.bind (rSine_f x ix) ?_
  simp only [bne_self_eq_false]
  refine ev_succ ?_
  simp only [heraldlaw10_RopeTables.j0, Bool.false_eq_true, if_false]
  have hl := tableS_len p h
  refine Ev.bind (Table_f p h) ?_
  refine Ev.bind (rTable_f p h) ?_
  refine Ev.bind (same_ev _ (by omega)) ?_
  simp only [if_true]
  refine Ev.bind (same_ev _ (by omega)) ?_
  simp only [if_true, beq_self_eq_true]
  exact Ev.now _

end Go.Proofs.YtengkjkmdodifaaDoor.Pure
