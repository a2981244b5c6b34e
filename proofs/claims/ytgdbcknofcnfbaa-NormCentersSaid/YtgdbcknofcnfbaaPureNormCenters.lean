/- Rows about their mean, rows about their mean brought to one size, and the greatest size are what the document's reference makes of them, for every row, all gains and biases; the row stays. No condition but that the lists can be handed in. -/
import Derived.Test.YtgdbcknofcnfbaaPx13
import Derived.Test.YtgdbcknofcnfbaaLibC
namespace Go.Proofs.Ytgdbcknofcnfbaa.Pure
open Go Go.RowKit Go.Proofs.Ytgdbcknofcnfbaa.M Go.Proofs.Ytgdbcknofcnfbaa.L Go.Proofs.Ytgdbcknofcnfbaa.P Go.Proofs.YtgdbcknofcnfbaaW.PrintWords Go.Proofs.YtgdbcknofcnfbaaW.PrintLast Go.Proofs.YtgdbcknofcnfbaaW.PrintMore
set_option linter.unusedVariables false
set_option linter.unusedSimpArgs false

theorem NormCenters : heraldlaw09_NormCenters.Pure := by
  intro l g d h1 h2 h3 h4 h5 h6 h7 h8 h9
  have hg : ∀ x ∈ g, I8 x := fun x hx => i8_of_wf (h6 x hx)
  have hd : ∀ x ∈ d, I8 x := fun x hx => i8_of_wf (h9 x hx)
  refine Ev.rounds (g := fun k => heraldlaw09_NormCenters.f k l g d) ?_
  unfold heraldlaw09_NormCenters.f
  simp only [Option.bind_some, List.nil_append, List.length_nil, Nat.zero_add, show l.length < 17592186044416 by omega, if_true]
  refine Ev.bind (Center_f l) ?_
  refine Ev.bind (rCenter_f l) ?_
  refine Ev.bind (Layer_f l g d hg hd) ?_
  refine Ev.bind (rLayer_f l g d hg hd) ?_
  refine Ev.bind (Largest_f l) ?_
  refine Ev.bind (rLargest_f l) ?_
  refine Ev.bind awake_ev ?_
  simp only [if_true]
  have hc : (center l).1.length ≤ l.length := by
    unfold center; split <;> simp
  have hl : (layerS l g d).1.length ≤ l.length := by
    unfold layerS; split
    · unfold layerOf; split
      · split
        · exact Nat.le_trans (cells2_le _ _ _ _) hc
        · simp
      · simp
    · simp
  refine Ev.bind (longs_same _ (by omega)) ?_
  simp only [if_true]
  refine Ev.bind (rows_same _ (by omega)) ?_
  simp only [if_true]
  exact Ev.bind (longs_same l (by omega)) (Ev.now _)

end Go.Proofs.Ytgdbcknofcnfbaa.Pure
