/- Every Log2 of the program answers what the document's reference answers. No condition. -/
import Derived.Test.YtbldlfmblalchaaPx13
import Derived.Test.YtbldlfmblalchaaLibD
namespace Go.Proofs.Ytbldlfmblalchaa.Pure
open Go Go.RowKit Go.Proofs.Ytbldlfmblalchaa.M Go.Proofs.Ytbldlfmblalchaa.L Go.Proofs.Ytbldlfmblalchaa.P Go.Proofs.YtbldlfmblalchaaW.PrintWords Go.Proofs.YtbldlfmblalchaaW.PrintLast Go.Proofs.YtbldlfmblalchaaW.PrintMore
set_option linter.unusedVariables false
set_option linter.unusedSimpArgs false

theorem FixedLogs : heraldlaw02_FixedLogs.Pure := by
  intro x h1
  have hx := i64_of_wf h1
  unfold I64 at hx
  refine Ev.rounds (g := fun k => heraldlaw02_FixedLogs.f k x) ?_
  unfold heraldlaw02_FixedLogs.f
  refine Ev.bind awake_ev ?_
  simp only [if_true]
  by_cases c : x < 1
  · refine Ev.bind (Log2_no x c) ?_
    refine Ev.bind (rLog2_no x c) ?_
    simp only [if_true, beq_self_eq_true]; exact Ev.now _
  · obtain ⟨n, hn, h0, h2⟩ := place x (by omega) hx.2
    refine Ev.bind (Log2_yes x n hx.2 hn h0 h2) ?_
    refine Ev.bind (rLog2_yes x n hx.2 hn h0 h2) ?_
    simp only [if_true, beq_self_eq_true]; exact Ev.now _

end Go.Proofs.Ytbldlfmblalchaa.Pure
