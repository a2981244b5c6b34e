/- A matrix times a row, and times rows, is what the document's reference says, for every matrix, width and rows, errors too, and what is handed in stays. No condition but that the lists can be handed in. -/
import Derived.Test.YtigfodkakefhcaaPx16
import Derived.Test.YtigfodkakefhcaaLibV
namespace Go.Proofs.Ytigfodkakefhcaa.Pure
open Go Go.RowKit Go.Proofs.Ytigfodkakefhcaa.M Go.Proofs.Ytigfodkakefhcaa.L Go.Proofs.Ytigfodkakefhcaa.P Go.Proofs.YtigfodkakefhcaaW.PrintWords Go.Proofs.YtigfodkakefhcaaW.PrintLast Go.Proofs.YtigfodkakefhcaaW.PrintMore
set_option linter.unusedVariables false
set_option linter.unusedSimpArgs false

-- NEEDS heraldlaw08_VecTimes.f
theorem VecTimes (w : List Int) (c : Int) (xs : List (List Int)) (x : List Int) (q0 : (w.length ≤ maxLen ∧ w.length * 1 ≤ 140737488351232) ∧ ∀ y ∈ w, ((Lit.int .i8 y).wf = true)) (q1 : (Lit.int .i64 c).wf = true) (q2 : (xs.length ≤ maxLen ∧ xs.length * 24 ≤ 140737488351232) ∧ ∀ y ∈ xs, ((y.length ≤ maxLen ∧ y.length * 1 ≤ 140737488351232) ∧ ∀ z ∈ y, ((Lit.int .i8 z).wf = true))) (q3 : (x.length ≤ maxLen ∧ x.length * 1 ≤ 140737488351232) ∧ ∀ y ∈ x, ((Lit.int .i8 y).wf = true)) : ∃ k, heraldlaw08_VecTimes.f k w c xs x = some true := by
  obtain ⟨⟨_, hw1⟩, hw⟩ := q0
  obtain ⟨⟨_, hl1⟩, hl⟩ := q2
  obtain ⟨⟨_, hx1⟩, hx⟩ := q3
  have iw : ∀ y ∈ w, I8 y := fun y hy => i8_of_wf (hw y hy)
  have ix : ∀ y ∈ x, I8 y := fun y hy => i8_of_wf (hx y hy)
  have il : ∀ y ∈ xs, ∀ z ∈ y, I8 z := fun y hy z hz => i8_of_wf ((hl y hy).2 z hz)
  refine Ev.rounds (g := fun k => heraldlaw08_VecTimes.f k w c xs x) ?_
  unfold heraldlaw08_VecTimes.f
  refine Ev.bind awake_ev ?_
  simp only [if_true, Option.bind_some, List.length_nil, Nat.zero_add, List.nil_append, show w.length < 140737488355328 by omega]
  refine Ev.bind (copied_ev xs (by omega) (fun y hy => by have := (hl y hy).1.2; omega)) ?_
  refine Ev.bind (Times_f w c x iw ix) ?_
  refine Ev.bind (rTimes_f w c x iw ix) ?_
  have ht := timesS_len w c x
  refine Ev.bind (same64_ev _ (by omega)) ?_
  simp only [if_true, bne_self_eq_false]
  refine ev_succ ?_
  simp only [heraldlaw08_VecTimes.j0, Bool.false_eq_true, if_false]
  refine Ev.bind (Batch_f w c xs iw il (by omega)) ?_
  refine Ev.bind (rBatch_f w c xs iw il (by omega)) ?_
  have hb := batchS_len w c xs
  refine Ev.bind (rows64_ev _ (by omega) (fun y hy => by have := hb.2 y hy; omega)) ?_
  simp only [if_true]
  refine Ev.bind (same8_ev _ (by omega)) ?_
  simp only [if_true]
  exact Ev.bind (rows8_ev _ (by omega) (fun y hy => by have := (hl y hy).1.2; omega)) (Ev.now _)

end Go.Proofs.Ytigfodkakefhcaa.Pure
