/- A row of a matrix and the sums of its rows' sizes are what the document's reference says, for every matrix, width and place, errors too. No condition but that the lists can be handed in. -/
import Derived.Test.YtigfodkakefhcaaPx34
import Derived.Test.YtigfodkakefhcaaLibVecRows
namespace Go.Proofs.Ytigfodkakefhcaa.Pure
open Go Go.RowKit Go.Proofs.Ytigfodkakefhcaa.M Go.Proofs.Ytigfodkakefhcaa.L Go.Proofs.Ytigfodkakefhcaa.P Go.Proofs.YtigfodkakefhcaaW.PrintWords Go.Proofs.YtigfodkakefhcaaW.PrintLast Go.Proofs.YtigfodkakefhcaaW.PrintMore
set_option linter.unusedVariables false
set_option linter.unusedSimpArgs false

-- NEEDS heraldlaw08_VecRows.f
theorem VecRows (w : List Int) (c : Int) (xs : List (List Int)) (i : Int) (q0 : (w.length ≤ maxLen ∧ w.length * 1 ≤ 140737488351232) ∧ ∀ y ∈ w, ((Lit.int .i8 y).wf = true)) (q1 : (Lit.int .i64 c).wf = true) (q2 : (xs.length ≤ maxLen ∧ xs.length * 24 ≤ 140737488351232) ∧ ∀ y ∈ xs, ((y.length ≤ maxLen ∧ y.length * 1 ≤ 140737488351232) ∧ ∀ z ∈ y, ((Lit.int .i8 z).wf = true))) (q3 : (Lit.int .i64 i).wf = true) : ∃ k, heraldlaw08_VecRows.f k w c xs i = some true := by
  obtain ⟨⟨_, hw1⟩, hw⟩ := q0
  have iw : ∀ y ∈ w, I8 y := fun y hy => i8_of_wf (hw y hy)
  refine Ev.rounds (g := fun k => heraldlaw08_VecRows.f k w c xs i) ?_
  unfold heraldlaw08_VecRows.f
  have h1 := rowS_len w c i
  have h2 := sizesS_len w c
  refine Ev.bind awake_ev ?_
  rw [Row_f, rRow_f]
  simp only [Option.bind_some]
  refine Ev.bind (same8_ev _ (by omega)) ?_
  rw [Sizes_f]
  simp only [Option.bind_some]
  refine Ev.bind (rSizes_f w c iw) ?_
  refine Ev.bind (same64_ev _ (by omega)) ?_
  simp only [and_self, if_true]
  exact Ev.now _

end Go.Proofs.Ytigfodkakefhcaa.Pure
