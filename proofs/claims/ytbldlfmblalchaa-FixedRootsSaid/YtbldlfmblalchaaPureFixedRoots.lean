/- Every Sqrt of the program answers what the document's reference answers, and the root of a square is the number that was squared. No condition. -/
import Derived.Test.YtbldlfmblalchaaPx7
import Derived.Test.YtbldlfmblalchaaLibB
namespace Go.Proofs.Ytbldlfmblalchaa.Pure
open Go Go.RowKit Go.Proofs.Ytbldlfmblalchaa.M Go.Proofs.Ytbldlfmblalchaa.L Go.Proofs.Ytbldlfmblalchaa.P Go.Proofs.YtbldlfmblalchaaW.PrintWords Go.Proofs.YtbldlfmblalchaaW.PrintLast Go.Proofs.YtbldlfmblalchaaW.PrintMore
set_option linter.unusedVariables false
set_option linter.unusedSimpArgs false

theorem FixedRoots : heraldlaw02_FixedRoots.Pure := by
  intro x h1
  have hx := i64_of_wf h1
  refine Ev.rounds (g := fun k => heraldlaw02_FixedRoots.f k x) ?_
  unfold heraldlaw02_FixedRoots.f
  refine Ev.bind awake_ev ?_
  simp only [if_true]
  refine Ev.bind (Sqrt_f x hx) ?_
  refine Ev.bind (rSqrt_f x hx) ?_
  simp only [if_true, bne_self_eq_false]
  have hm := tmod_pos (a := x) (d := 3037000500) (by omega)
  have h0 := Int.emod_nonneg x (b := 3037000500) (by omega)
  have h2 := Int.emod_lt_of_pos x (b := 3037000500) (by omega)
  have hb : -3037000500 < Int.tmod x 3037000500 ∧ Int.tmod x 3037000500 < 3037000500 := by
    split at hm <;> omega
  have sq0 : ∀ n : Int, 0 ≤ n → n < 3037000500 → Ev (fun k => (fixed_Sqrt.f k (wrap64 (n * n))).bind fun bt => (if bt.1 = n then (some (bt.2 == 0)) else (some false))) true := by
    intro n n0 n1
    have hh : n * n ≤ 3037000499 * 3037000499 := Int.mul_le_mul (by omega) (by omega) (by omega) (by omega)
    have hz := Int.mul_nonneg n0 n0
    rw [wrap64_id' (by omega) (by omega)]
    have e : sqrtS (n * n) = (n, 0) := by unfold sqrtS; rw [if_neg (by omega), sq_square n0]
    refine Ev.bind (Sqrt_f (n * n) ⟨by omega, by omega⟩) ?_
    rw [e]
    simp only [if_true, beq_self_eq_true]
    exact Ev.now _
  by_cases hn : Int.tmod x 3037000500 < 0
  · refine Ev.step (fun k => ?_) (sq0 (-(Int.tmod x 3037000500)) (by omega) (by omega))
    simp only [heraldlaw02_FixedRoots.j0, Bool.false_eq_true, if_false, hn, if_true, wrap64_id' (x := -(Int.tmod x 3037000500)) (by omega) (by omega)]
  · refine Ev.step (fun k => ?_) (sq0 (Int.tmod x 3037000500) (by omega) (by omega))
    simp only [heraldlaw02_FixedRoots.j0, Bool.false_eq_true, if_false, hn]

end Go.Proofs.Ytbldlfmblalchaa.Pure
