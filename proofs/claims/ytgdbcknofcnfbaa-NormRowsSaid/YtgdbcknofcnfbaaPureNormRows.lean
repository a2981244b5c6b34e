/- A row that the program brings to one size is what the document's reference makes of it, for every row and all gains, and what is handed in stays. No condition but that the lists can be handed in. -/
import Derived.Test.YtgdbcknofcnfbaaPx7
import Derived.Test.YtgdbcknofcnfbaaLibB
namespace Go.Proofs.Ytgdbcknofcnfbaa.Pure
open Go Go.RowKit Go.Proofs.Ytgdbcknofcnfbaa.M Go.Proofs.Ytgdbcknofcnfbaa.L Go.Proofs.Ytgdbcknofcnfbaa.P Go.Proofs.YtgdbcknofcnfbaaW.PrintWords Go.Proofs.YtgdbcknofcnfbaaW.PrintLast Go.Proofs.YtgdbcknofcnfbaaW.PrintMore
set_option linter.unusedVariables false
set_option linter.unusedSimpArgs false

theorem NormRows : heraldlaw09_NormRows.Pure := by
  intro l g h1 h2 h3 h4 h5 h6
  have hg : ∀ x ∈ g, I8 x := fun x hx => i8_of_wf (h6 x hx)
  refine Ev.rounds (g := fun k => heraldlaw09_NormRows.f k l g) ?_
  unfold heraldlaw09_NormRows.f
  simp only [Option.bind_some, List.nil_append, List.length_nil, Nat.zero_add, show l.length < 17592186044416 by omega, show g.length < 140737488355328 by omega, if_true]
  refine Ev.bind (Row_f l g hg) ?_
  refine Ev.bind (rRow_f l g hg) ?_
  refine Ev.bind awake_ev ?_
  simp only [if_true]
  have hlen : (rowS l g).1.length ≤ l.length := by
    unfold rowS; split
    · rename_i h
      split
      · rw [cells_length _ _ _ h]; exact Nat.le_refl _
      · simp
    · simp
  refine Ev.bind (rows_same _ (by omega)) ?_
  simp only [if_true]
  refine Ev.bind (longs_same l (by omega)) ?_
  simp only [if_true]
  exact Ev.bind (rows_same g (by omega)) (Ev.now _)

end Go.Proofs.Ytgdbcknofcnfbaa.Pure
