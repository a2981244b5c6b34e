/- What packed numbers say, and packed numbers times a row, is what the document's reference says, of any packed numbers, right or not, and what is handed in stays. No condition but that the lists can be handed in. -/
import Derived.Test.YtigfodkakefhcaaPx17
import Derived.Test.YtigfodkakefhcaaLibVecUnpacks
namespace Go.Proofs.Ytigfodkakefhcaa.Pure
open Go Go.RowKit Go.Proofs.Ytigfodkakefhcaa.M Go.Proofs.Ytigfodkakefhcaa.L Go.Proofs.Ytigfodkakefhcaa.P Go.Proofs.YtigfodkakefhcaaW.PrintWords Go.Proofs.YtigfodkakefhcaaW.PrintLast Go.Proofs.YtigfodkakefhcaaW.PrintMore
set_option linter.unusedVariables false
set_option linter.unusedSimpArgs false

-- NEEDS heraldlaw08_VecUnpacks.f
theorem packed_same (a b : Int) (s h : List Int) : heraldlaw08_packed.f a b s h a b s h = some true := by
  unfold heraldlaw08_packed.f; simp
theorem VecUnpacks (c g : Int) (s h : List Int) (m : Int) (x : List Int) (q0 : (Lit.int .i64 c).wf = true) (q1 : (Lit.int .i64 g).wf = true) (q2 : (s.length ≤ maxLen ∧ s.length * 1 ≤ 140737488351232) ∧ ∀ y ∈ s, ((Lit.int .u8 y).wf = true)) (q3 : (h.length ≤ maxLen ∧ h.length * 1 ≤ 140737488351232) ∧ ∀ y ∈ h, ((Lit.int .u8 y).wf = true)) (q4 : (Lit.int .i64 m).wf = true) (q5 : (x.length ≤ maxLen ∧ x.length * 1 ≤ 140737488351232) ∧ ∀ y ∈ x, ((Lit.int .i8 y).wf = true)) : ∃ k, heraldlaw08_VecUnpacks.f k c g s h m x = some true := by
  obtain ⟨⟨_, hs1⟩, hs0⟩ := q2
  obtain ⟨⟨_, hh1⟩, hh0⟩ := q3
  obtain ⟨⟨_, hx1⟩, hx0⟩ := q5
  have hs : ∀ y ∈ s, U8 y := fun y hy => u8_of_wf (hs0 y hy)
  have hh : ∀ y ∈ h, U8 y := fun y hy => u8_of_wf (hh0 y hy)
  have hx : ∀ y ∈ x, I8 y := fun y hy => i8_of_wf (hx0 y hy)
  refine Ev.rounds (g := fun k => heraldlaw08_VecUnpacks.f k c g s h m x) ?_
  have hp : heraldlaw08_plain.f c g s h = some (c, g, s, h) := by
    unfold heraldlaw08_plain.f
    simp only [Option.bind_some, List.length_nil, Nat.zero_add, List.nil_append, show s.length < 140737488355328 by omega, show h.length < 140737488355328 by omega, if_true]
  unfold heraldlaw08_VecUnpacks.f
  refine Ev.bind awake_ev ?_
  simp only [if_true, hp, Option.bind_some]
  refine Ev.bind (Unpack_f c g s h hs hh (by omega) (by omega)) ?_
  refine Ev.bind (rUnpack_f c g s h hs hh (by omega) (by omega)) ?_
  have hu := unpackS_len c g s h
  refine Ev.bind (same8_ev _ (by omega)) ?_
  simp only [if_true, bne_self_eq_false]
  refine ev_succ ?_
  simp only [heraldlaw08_VecUnpacks.j0, Bool.false_eq_true, if_false]
  refine Ev.bind (TimesPacked_f c g s h m x hs hh (by omega) (by omega) hx) ?_
  by_cases H : (unpackS c g s h).2 = 0
  · simp only [H, if_true]
    refine Ev.bind (rTimes_f _ m x hu.2 hx) ?_
    have ht := timesS_len (unpackS c g s h).1 m x
    refine Ev.bind (same64_ev _ (by omega)) ?_
    simp only [if_true, packed_same, Option.bind_some]; exact Ev.now _
  · simp only [H, if_false]
    refine Ev.bind (same64_ev _ (by simp)) ?_
    simp only [if_true, packed_same, Option.bind_some]; exact Ev.now _

end Go.Proofs.Ytigfodkakefhcaa.Pure
