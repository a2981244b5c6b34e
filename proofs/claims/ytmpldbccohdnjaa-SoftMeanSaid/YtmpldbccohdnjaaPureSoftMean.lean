/- The program's mean by weights is what the document's reference makes of it, for all lists, and they stay. No condition but that the lists can be handed in. -/
import Derived.Test.YtmpldbccohdnjaaPx11
import Derived.Test.YtmpldbccohdnjaaLibC
namespace Go.Proofs.Ytmpldbccohdnjaa.Pure
open Go Go.RowKit Go.Proofs.Ytmpldbccohdnjaa.M Go.Proofs.Ytmpldbccohdnjaa.L Go.Proofs.Ytmpldbccohdnjaa.P Go.Proofs.YtmpldbccohdnjaaW.PrintWords Go.Proofs.YtmpldbccohdnjaaW.PrintLast Go.Proofs.YtmpldbccohdnjaaW.PrintMore
set_option linter.unusedVariables false
set_option linter.unusedSimpArgs false

theorem SoftMean : heraldlaw11_SoftMean.Pure := by
  intro w v h1 h2 h3 h4 h5 h6
  have hv : ∀ x ∈ v, I8 x := fun x hx => i8_of_wf (h6 x hx)
  refine Ev.rounds (g := fun k => heraldlaw11_SoftMean.f k w v) ?_
  unfold heraldlaw11_SoftMean.f
  simp only [Option.bind_some, List.nil_append, List.length_nil, Nat.zero_add, show w.length < 17592186044416 by omega, show v.length < 140737488355328 by omega, if_true]
  refine Ev.bind (Mean_f w v hv) ?_
  refine Ev.bind (rMean_f w v hv) ?_
  refine Ev.bind awake_ev ?_
  simp only [if_true]
  refine Ev.bind (longs_same w (by omega)) ?_
  simp only [if_true]
  exact Ev.bind (rows_same v (by omega)) (Ev.now _)

end Go.Proofs.Ytmpldbccohdnjaa.Pure
