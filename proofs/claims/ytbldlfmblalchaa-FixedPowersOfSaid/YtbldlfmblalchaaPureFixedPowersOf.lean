/- Every Power and Gcd of the program answers what the document's reference answers; what Gcd tells divides both numbers, and is the same the other way round. No condition. -/
import Derived.Test.YtbldlfmblalchaaPx16
import Derived.Test.YtbldlfmblalchaaLibC
namespace Go.Proofs.Ytbldlfmblalchaa.Pure
open Go Go.RowKit Go.Proofs.Ytbldlfmblalchaa.M Go.Proofs.Ytbldlfmblalchaa.L Go.Proofs.Ytbldlfmblalchaa.P Go.Proofs.YtbldlfmblalchaaW.PrintWords Go.Proofs.YtbldlfmblalchaaW.PrintLast Go.Proofs.YtbldlfmblalchaaW.PrintMore
set_option linter.unusedVariables false
set_option linter.unusedSimpArgs false

theorem gcdS_comm (a c : Int) : gcdS a c = gcdS c a := by unfold gcdS; rw [Nat.gcd_comm]
theorem FixedPowersOf : heraldlaw02_FixedPowersOf.Pure := by
  intro a n c h1 h2 h3
  have ha := i64_of_wf h1
  have hn := i64_of_wf h2
  have hc := i64_of_wf h3
  refine Ev.rounds (g := fun k => heraldlaw02_FixedPowersOf.f k a n c) ?_
  unfold heraldlaw02_FixedPowersOf.f
  refine Ev.bind awake_ev ?_
  simp only [if_true]
  refine Ev.bind (Power_f a n ha hn) ?_
  refine Ev.bind (rPower_f a n ha hn) ?_
  simp only [if_true, bne_self_eq_false]
  refine Ev.step (fun k => by simp only [heraldlaw02_FixedPowersOf.j0, Bool.false_eq_true, if_false]; rfl) ?_
  refine Ev.bind (Gcd_f a c ha hc) ?_
  refine Ev.bind (rGcd_f a c ha hc) ?_
  refine Ev.bind (Gcd_f c a hc ha) ?_
  rw [gcdS_comm c a]
  simp only [if_true, bne_self_eq_false, Bool.false_eq_true, if_false]
  unfold gcdS
  have d1 : (Nat.gcd a.natAbs c.natAbs : Int) ∣ a := Int.dvd_natAbs.mp (Int.natCast_dvd_natCast.mpr (Nat.gcd_dvd_left _ _))
  have d2 : (Nat.gcd a.natAbs c.natAbs : Int) ∣ c := Int.dvd_natAbs.mp (Int.natCast_dvd_natCast.mpr (Nat.gcd_dvd_right _ _))
  have dz : Nat.gcd a.natAbs c.natAbs = 0 → a = 0 ∧ c = 0 := by
    intro h
    have := Nat.gcd_eq_zero_iff.mp h
    omega
  generalize Nat.gcd a.natAbs c.natAbs = g at *
  by_cases big : (g : Int) > 9223372036854775807
  · simp only [big, if_true, Bool.false_eq_true, if_false]; exact Ev.now _
  · simp only [big, if_false, if_true]
    by_cases z : (g : Int) = 0
    · obtain ⟨q1, q2⟩ := dz (by omega)
      simp only [z, q1, q2, if_true]; exact Ev.now _
    · simp only [z, if_false, show (g : Int) > 0 by omega, if_true, Int.tmod_eq_zero_of_dvd d1, Int.tmod_eq_zero_of_dvd d2, beq_self_eq_true]; exact Ev.now _

end Go.Proofs.Ytbldlfmblalchaa.Pure
