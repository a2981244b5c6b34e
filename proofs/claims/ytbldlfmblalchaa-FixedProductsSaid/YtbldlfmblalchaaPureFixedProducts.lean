/- The floor of a product over a divisor is what the document's reference says, and a number times d, over d, is it, for all whole numbers of 64 bits. No condition. -/
import Derived.Test.YtbldlfmblalchaaPx18
import Derived.Test.YtbldlfmblalchaaLibFixedProducts
namespace Go.Proofs.Ytbldlfmblalchaa.Pure
open Go Go.RowKit Go.Proofs.Ytbldlfmblalchaa.M Go.Proofs.Ytbldlfmblalchaa.L Go.Proofs.Ytbldlfmblalchaa.P Go.Proofs.YtbldlfmblalchaaW.PrintWords Go.Proofs.YtbldlfmblalchaaW.PrintLast Go.Proofs.YtbldlfmblalchaaW.PrintMore
set_option linter.unusedVariables false
set_option linter.unusedSimpArgs false

-- NEEDS heraldlaw02_FixedProducts.f
theorem FixedProducts : heraldlaw02_FixedProducts.Pure := by
  intro a b d wa wb wd
  have ha := i64_of_wf wa
  have hb := i64_of_wf wb
  have hd := i64_of_wf wd
  refine Ev.rounds (g := fun k => heraldlaw02_FixedProducts.f k a b d) ?_
  unfold heraldlaw02_FixedProducts.f
  refine Ev.bind awake_ev ?_
  simp only [if_true]
  refine Ev.bind (MulDiv_f a b d ha hb hd) ?_
  refine Ev.bind (rMulDiv_f a b d ha hb hd) ?_
  simp only [if_true]
  refine Ev.bind (MulDiv_f a d d ha hd hd) ?_
  by_cases h1 : d < 1
  · simp only [h1, if_true]; exact Ev.now _
  · simp only [h1, if_false]
    have e : mulDivS a d d = (a, 0) := by
      unfold mulDivS
      unfold I64 at ha hd
      have hn : (d.natAbs : Int) = d := by omega
      rw [if_neg h1, hn, Int.mul_ediv_cancel _ (show d ≠ 0 by omega), Int.mul_emod_left]
      by_cases ca : a < 0
      · rw [if_neg (by omega), if_neg (by omega), if_neg (by omega)]
        congr 1; omega
      · rw [if_pos (by omega), if_neg (by omega)]
        congr 1; omega
    simp only [e, if_true, beq_self_eq_true]
    exact Ev.now _

end Go.Proofs.Ytbldlfmblalchaa.Pure
