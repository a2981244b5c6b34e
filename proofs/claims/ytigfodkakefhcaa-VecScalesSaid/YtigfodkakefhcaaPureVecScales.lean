/- Sums, rounded numbers and narrowed ones are what the document's reference says, for all lists and every shift, errors too, and what is handed in stays. No condition but that the lists can be handed in. -/
import Derived.Test.YtigfodkakefhcaaPx20
import Derived.Test.YtigfodkakefhcaaLibW
namespace Go.Proofs.Ytigfodkakefhcaa.Pure
open Go Go.RowKit Go.Proofs.Ytigfodkakefhcaa.M Go.Proofs.Ytigfodkakefhcaa.L Go.Proofs.Ytigfodkakefhcaa.P Go.Proofs.YtigfodkakefhcaaW.PrintWords Go.Proofs.YtigfodkakefhcaaW.PrintLast Go.Proofs.YtigfodkakefhcaaW.PrintMore
set_option linter.unusedVariables false
set_option linter.unusedSimpArgs false

theorem VecScales : heraldlaw08_VecScales.Pure := by
  intro a b s h1 h2 h3 h4 h5 h6 h7
  have ia : ∀ x ∈ a, I64 x := fun x hx => i64_of_wf (h3 x hx)
  have ib : ∀ x ∈ b, I64 x := fun x hx => i64_of_wf (h6 x hx)
  refine Ev.rounds (g := fun k => heraldlaw08_VecScales.f k a b s) ?_
  unfold heraldlaw08_VecScales.f
  refine Ev.bind awake_ev ?_
  simp only [if_true, Option.bind_some, List.length_nil, Nat.zero_add, List.nil_append, show a.length < 17592186044416 by omega, show b.length < 17592186044416 by omega]
  refine Ev.bind (vAdd_f a b ia ib) ?_
  refine Ev.bind (rvAdd_f a b ia ib) ?_
  have l1 := addsS_len a b
  have l2 := scaleS_len a s
  have l3 := shrinkS_len a s
  refine Ev.bind (same64_ev _ (by omega)) ?_
  simp only [if_true, bne_self_eq_false]
  refine ev_succ ?_
  simp only [heraldlaw08_VecScales.j0, Bool.false_eq_true, if_false]
  refine Ev.bind (Scale_f a s ia) ?_
  refine Ev.bind (rScale_f a s ia) ?_
  refine Ev.bind (same64_ev _ (by omega)) ?_
  simp only [if_true, bne_self_eq_false]
  refine ev_succ ?_
  simp only [heraldlaw08_VecScales.j1, Bool.false_eq_true, if_false]
  refine Ev.bind (Shrink_f a s ia) ?_
  refine Ev.bind (rShrink_f a s ia) ?_
  refine Ev.bind (same8_ev _ (by omega)) ?_
  simp only [if_true]
  refine Ev.bind (same64_ev _ (by omega)) ?_
  simp only [if_true]
  exact Ev.bind (same64_ev _ (by omega)) (Ev.now _)

end Go.Proofs.Ytigfodkakefhcaa.Pure
