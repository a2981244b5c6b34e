/- A row times a row is what the document's reference says, the same the other way round, and goes on over what stands behind; for all lists, errors too. On condition that the lists are together no longer than 1,048,576 (the narrowed form). -/
import Derived.Test.YtigfodkakefhcaaPx13
import Derived.Test.YtigfodkakefhcaaLibVecDots
namespace Go.Proofs.Ytigfodkakefhcaa.Pure
open Go Go.RowKit Go.Proofs.Ytigfodkakefhcaa.M Go.Proofs.Ytigfodkakefhcaa.L Go.Proofs.Ytigfodkakefhcaa.P Go.Proofs.YtigfodkakefhcaaW.PrintWords Go.Proofs.YtigfodkakefhcaaW.PrintLast Go.Proofs.YtigfodkakefhcaaW.PrintMore
set_option linter.unusedVariables false
set_option linter.unusedSimpArgs false

-- NEEDS heraldlaw08_VecDots.f
theorem VecDots (a b c d : List Int) (q0 : (a.length ≤ maxLen ∧ a.length * 1 ≤ 140737488351232) ∧ ∀ y ∈ a, ((Lit.int .i8 y).wf = true)) (q1 : (b.length ≤ maxLen ∧ b.length * 1 ≤ 140737488351232) ∧ ∀ y ∈ b, ((Lit.int .i8 y).wf = true)) (q2 : (c.length ≤ maxLen ∧ c.length * 1 ≤ 140737488351232) ∧ ∀ y ∈ c, ((Lit.int .i8 y).wf = true)) (q3 : (d.length ≤ maxLen ∧ d.length * 1 ≤ 140737488351232) ∧ ∀ y ∈ d, ((Lit.int .i8 y).wf = true))
    (hk : a.length + b.length + c.length + d.length ≤ 1048576) : ∃ k, heraldlaw08_VecDots.f k a b c d = some true := by
  have ia : ∀ y ∈ a, I8 y := fun y hy => i8_of_wf (q0.2 y hy)
  have ib : ∀ y ∈ b, I8 y := fun y hy => i8_of_wf (q1.2 y hy)
  have ic : ∀ y ∈ c, I8 y := fun y hy => i8_of_wf (q2.2 y hy)
  have id' : ∀ y ∈ d, I8 y := fun y hy => i8_of_wf (q3.2 y hy)
  have iac : ∀ y ∈ a ++ c, I8 y := fun y hy => (List.mem_append.mp hy).elim (ia y) (ic y)
  have ibd : ∀ y ∈ b ++ d, I8 y := fun y hy => (List.mem_append.mp hy).elim (ib y) (id' y)
  refine Ev.rounds (g := fun k => heraldlaw08_VecDots.f k a b c d) ?_
  unfold heraldlaw08_VecDots.f
  refine Ev.bind awake_ev ?_
  simp only [if_true]
  refine Ev.bind (Dot_f a b ia ib) ?_
  refine Ev.bind (rDot_f a b ia ib) ?_
  refine Ev.bind (Dot_f b a ib ia) ?_
  rw [dotR_comm a b]
  have e : (if a.length > 1048576 ∨ b.length > 1048576 then ((0 : Int), (81 : Int)) else if a.length = b.length then (dotS a b, 0) else (0, 80)) = dotR a b := rfl
  simp only [e, if_true, bne_self_eq_false]
  refine ev_succ ?_
  simp only [heraldlaw08_VecDots.j0, Bool.false_eq_true, if_false]
  refine Ev.bind (Dot_f c d ic id') ?_
  simp only [Option.bind_some, List.length_nil, Nat.zero_add, List.nil_append, show a.length < 140737488355328 by omega, show b.length < 140737488355328 by omega, show a.length + c.length < 140737488355328 by omega, show b.length + d.length < 140737488355328 by omega, if_true]
  refine Ev.bind (Dot_f (a ++ c) (b ++ d) iac ibd) ?_
  by_cases c1 : (dotR a b).2 = 0
  · simp only [if_pos c1]
    by_cases c2 : (dotR c d).2 = 0
    · simp only [if_pos c2]
      have h1 : a.length = b.length ∧ dotR a b = (dotS a b, 0) := by
        unfold dotR at c1 ⊢
        split at c1
        · simp at c1
        · split at c1
          · rename_i h1 h2; exact ⟨h2, by rw [if_neg h1, if_pos h2]⟩
          · simp at c1
      have h2 : c.length = d.length ∧ dotR c d = (dotS c d, 0) := by
        unfold dotR at c2 ⊢
        split at c2
        · simp at c2
        · split at c2
          · rename_i h1 h2; exact ⟨h2, by rw [if_neg h1, if_pos h2]⟩
          · simp at c2
      have e2 : wrap64 ((a.length : Int) + (c.length : Int)) = (a.length : Int) + c.length := wrap64_id' (by omega) (by omega)
      simp only [e2, if_neg (show ¬ (a.length : Int) + (c.length : Int) > 1048576 by omega)]
      have h3 : dotR (a ++ c) (b ++ d) = (dotS a b + dotS c d, 0) := by
        unfold dotR
        rw [if_neg (by simp only [List.length_append]; omega), if_pos (by simp only [List.length_append]; omega), dotS_app a b c d h1.1]
      rw [h1.2, h2.2, h3]
      simp only [if_true]
      have b1 := dotGo_in ia ib a.length
      have b2 := dotGo_in ic id' c.length
      have e1 : wrap64 (dotS a b + dotS c d) = dotS a b + dotS c d := by unfold dotS; exact wrap64_id' (by omega) (by omega)
      rw [e1]
      simp only [beq_self_eq_true]
      exact Ev.now _
    · simp only [if_neg c2]; exact Ev.now _
  · simp only [if_neg c1]; exact Ev.now _

end Go.Proofs.Ytigfodkakefhcaa.Pure
