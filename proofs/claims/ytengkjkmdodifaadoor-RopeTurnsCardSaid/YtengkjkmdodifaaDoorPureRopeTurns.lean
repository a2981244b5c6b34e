/- A row turned, and turned back, is what the document's reference says, for every row, size and angles, errors too, and what is handed in stays. No condition but that the lists can be handed in. -/
import Derived.Test.YtengkjkmdodifaaDoorPx8
import Derived.Test.YtengkjkmdodifaaDoorLibRopeTurns
namespace Go.Proofs.YtengkjkmdodifaaDoor.Pure
open Go Go.RowKit Go.Proofs.YtengkjkmdodifaaDoor.M Go.Proofs.YtengkjkmdodifaaDoor.L Go.Proofs.YtengkjkmdodifaaDoor.P Go.Proofs.YtengkjkmdodifaaDoorW.PrintWords Go.Proofs.YtengkjkmdodifaaDoorW.PrintLast Go.Proofs.YtengkjkmdodifaaDoorW.PrintMore
set_option linter.unusedVariables false
set_option linter.unusedSimpArgs false

-- NEEDS heraldlaw10_RopeTurns.f
theorem RopeTurns (x : List Int) (n : Int) (c s : List Int) (q0 : (x.length ≤ maxLen ∧ x.length * 1 ≤ 140737488351232) ∧ ∀ y ∈ x, ((Lit.int .i8 y).wf = true)) (q1 : (Lit.int .i64 n).wf = true) (q2 : (c.length ≤ maxLen ∧ c.length * 1 ≤ 140737488351232) ∧ ∀ y ∈ c, ((Lit.int .i8 y).wf = true)) (q3 : (s.length ≤ maxLen ∧ s.length * 1 ≤ 140737488351232) ∧ ∀ y ∈ s, ((Lit.int .i8 y).wf = true)) : ∃ k, heraldlaw10_RopeTurns.f k x n c s = some true := by
  obtain ⟨⟨_, hx1⟩, hx0⟩ := q0
  obtain ⟨⟨_, hc1⟩, hc0⟩ := q2
  obtain ⟨⟨_, hs1⟩, hs0⟩ := q3
  have hx : ∀ y ∈ x, I8 y := fun y hy => i8_of_wf (hx0 y hy)
  have hc : ∀ y ∈ c, I8 y := fun y hy => i8_of_wf (hc0 y hy)
  have hs : ∀ y ∈ s, I8 y := fun y hy => i8_of_wf (hs0 y hy)
  have hn := i64_of_wf q1
  refine Ev.rounds (g := fun k => heraldlaw10_RopeTurns.f k x n c s) ?_
  unfold heraldlaw10_RopeTurns.f
  refine Ev.bind awake_ev ?_
  simp only [if_true, Option.bind_some, List.length_nil, Nat.zero_add, List.nil_append, show x.length < 140737488355328 by omega, show c.length < 140737488355328 by omega, show s.length < 140737488355328 by omega]
  refine Ev.bind (Turn_f x n c s hx hc hs hn (by omega)) ?_
  refine Ev.bind (rTurn_f x n c s hx hc hs hn (by omega)) ?_
  have l1 := turnS_len (-1) x n c s
  have l2 := turnS_len 1 x n c s
  refine Ev.bind (same_ev _ (by omega)) ?_
  simp only [if_true, bne_self_eq_false]
  refine ev_succ ?_
  simp only [heraldlaw10_RopeTurns.j0, Bool.false_eq_true, if_false]
  refine Ev.bind (Back_f x n c s hx hc hs hn (by omega)) ?_
  refine Ev.bind (rBack_f x n c s hx hc hs hn (by omega)) ?_
  refine Ev.bind (same_ev _ (by omega)) ?_
  simp only [if_true]
  refine Ev.bind (same_ev _ (by omega)) ?_
  simp only [if_true]
  refine Ev.bind (same_ev _ (by omega)) ?_
  simp only [if_true]
  exact Ev.bind (same_ev _ (by omega)) (Ev.now _)

end Go.Proofs.YtengkjkmdodifaaDoor.Pure
