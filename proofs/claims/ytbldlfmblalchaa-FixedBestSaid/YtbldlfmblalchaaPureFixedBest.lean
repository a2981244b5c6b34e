/- Argmax of the program answers what the document's reference answers, for every list, and the list stays. No condition but that the list can be handed in. -/
import Derived.Test.YtbldlfmblalchaaPx11
import Derived.Test.YtbldlfmblalchaaLibB
namespace Go.Proofs.Ytbldlfmblalchaa.Pure
open Go Go.RowKit Go.Proofs.Ytbldlfmblalchaa.M Go.Proofs.Ytbldlfmblalchaa.L Go.Proofs.Ytbldlfmblalchaa.P Go.Proofs.YtbldlfmblalchaaW.PrintWords Go.Proofs.YtbldlfmblalchaaW.PrintLast Go.Proofs.YtbldlfmblalchaaW.PrintMore
set_option linter.unusedVariables false
set_option linter.unusedSimpArgs false

theorem best_l (a : List Int) (ha : a.length ≤ 4611686018427387904) : ∀ (d i : Nat), i + d = a.length → Ev (fun k => heraldlaw02_FixedBest.l0 k a a a.length i) true := by
  intro d
  induction d with
  | zero =>
    intro i hi
    exact Ev.step (fun k => by simp only [heraldlaw02_FixedBest.l0]; rw [if_neg (by omega)]) (Ev.now _)
  | succ d ih =>
    intro i hi
    refine Ev.step (fun k => ?_) (ih (i + 1) (by omega))
    simp only [heraldlaw02_FixedBest.l0]
    rw [if_pos (by omega), if_pos (by omega), if_pos (by omega), if_pos (by omega), if_pos trivial, wrap64_id' (by omega) (by omega)]; rfl
theorem FixedBest : heraldlaw02_FixedBest.Pure := by
  intro l h1 h2 h3
  refine Ev.rounds (g := fun k => heraldlaw02_FixedBest.f k l) ?_
  unfold heraldlaw02_FixedBest.f
  refine Ev.bind awake_ev ?_
  simp only [if_true, Option.bind_some, List.nil_append, List.length_nil, Nat.zero_add, show l.length < 17592186044416 by omega]
  refine Ev.bind (Argmax_f l (by omega)) ?_
  refine Ev.bind (rArgmax_f l (by omega)) ?_
  simp only [if_true]
  exact best_l l (by omega) l.length 0 (by omega)

end Go.Proofs.Ytbldlfmblalchaa.Pure
