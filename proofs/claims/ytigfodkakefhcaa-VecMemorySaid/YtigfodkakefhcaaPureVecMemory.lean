/- The law of rows that came out of the program as the caller's own, for every matrix, place and shift: they are what the document's reference makes of them, and the rows that were marked and grown stay apart from the others and from what was handed in. No condition but that the lists can be handed in. -/
import Derived.Test.YtigfodkakefhcaaPx22
import Derived.Test.YtigfodkakefhcaaLibVecMemory
namespace Go.Proofs.Ytigfodkakefhcaa.Pure
open Go Go.RowKit Go.Proofs.Ytigfodkakefhcaa.M Go.Proofs.Ytigfodkakefhcaa.L Go.Proofs.Ytigfodkakefhcaa.P Go.Proofs.YtigfodkakefhcaaW.PrintWords Go.Proofs.YtigfodkakefhcaaW.PrintLast Go.Proofs.YtigfodkakefhcaaW.PrintMore
set_option linter.unusedVariables false
set_option linter.unusedSimpArgs false

-- NEEDS heraldlaw08_VecMemory.f
theorem batchS_small (w : List Int) (c : Int) (xs : List (List Int)) : ∀ x ∈ (batchS w c xs).1, x.length ≤ 1048576 := fun x hx => by
  have h := (batchS_len w c xs).2 x hx
  unfold batchS at hx
  split at hx
  · rename_i m
    have := (matrix_ok m).1
    omega
  · cases hx
theorem shrink_one (s : Int) (h : (shrinkS [300] s).2 = 0) : (shrinkS [300] s).1 = [narrow (roundS 300 s).1] := by
  unfold shrinkS scaleS at h ⊢
  simp only [List.length_cons, List.length_nil] at h ⊢
  split at h
  · rename_i h1; omega
  · split at h
    · simp at h
    · rename_i h1 h2
      rw [if_neg h1, if_neg h2]
      rfl
theorem VecMemory (w : List Int) (c : Int) (xs : List (List Int)) (i s : Int) (q0 : (w.length ≤ maxLen ∧ w.length * 1 ≤ 140737488351232) ∧ ∀ y ∈ w, ((Lit.int .i8 y).wf = true)) (q1 : (Lit.int .i64 c).wf = true) (q2 : (xs.length ≤ maxLen ∧ xs.length * 24 ≤ 140737488351232) ∧ ∀ y ∈ xs, ((y.length ≤ maxLen ∧ y.length * 1 ≤ 140737488351232) ∧ ∀ z ∈ y, ((Lit.int .i8 z).wf = true))) (q3 : (Lit.int .i64 i).wf = true) (q4 : (Lit.int .i64 s).wf = true) : ∃ k, heraldlaw08_VecMemory.f k w c xs i s = some true := by
  obtain ⟨⟨_, hw1⟩, hw⟩ := q0
  obtain ⟨⟨_, hl1⟩, hl⟩ := q2
  have iw : ∀ y ∈ w, I8 y := fun y hy => i8_of_wf (hw y hy)
  have il : ∀ y ∈ xs, ∀ z ∈ y, I8 z := fun y hy z hz => i8_of_wf ((hl y hy).2 z hz)
  refine Ev.rounds (g := fun k => heraldlaw08_VecMemory.f k w c xs i s) ?_
  have h1 := rowS_len w c i
  have hb := batchS_len w c xs
  have hs := batchS_small w c xs
  unfold heraldlaw08_VecMemory.f
  refine Ev.bind awake_ev ?_
  rw [Row_f, rRow_f]
  simp only [Option.bind_some]
  refine Ev.bind (Batch_f w c xs iw il (by omega)) ?_
  refine Ev.bind (rBatch_f w c xs iw il (by omega)) ?_
  refine Ev.bind (same8_ev _ (by omega)) ?_
  refine Ev.bind (rows64_ev _ (by omega) (fun y hy => by have := hs y hy; omega)) ?_
  refine Ev.bind (rRound_f 300 s (by unfold I64; omega)) ?_
  refine Ev.bind (Shrink_f [300] s (fun x hx => by rw [List.mem_singleton.1 hx]; unfold I64; omega)) ?_
  rw [rNarrow_f]
  simp only [Option.bind_some]
  refine Ev.bind (same8_ev _ (by omega)) ?_
  refine Ev.step (f := fun _ => some true) (fun k => ?_) (Ev.now _)
  rw [if_pos]
  refine ⟨?_, ?_, ?_, ?_, ?_, ?_, shrink_one s, by omega, by omega, by omega, hs⟩ <;> first | trivial | rfl

end Go.Proofs.Ytigfodkakefhcaa.Pure
