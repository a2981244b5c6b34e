/- Exp2 of the program rises, lies from 0 to 2^30, is exact at whole numbers, and one less is half, rounded down. No condition. -/
import Derived.Test.YtbldlfmblalchaaPx9
import Derived.Test.YtbldlfmblalchaaLibB
namespace Go.Proofs.Ytbldlfmblalchaa.Pure
open Go Go.RowKit Go.Proofs.Ytbldlfmblalchaa.M Go.Proofs.Ytbldlfmblalchaa.L Go.Proofs.Ytbldlfmblalchaa.P Go.Proofs.YtbldlfmblalchaaW.PrintWords Go.Proofs.YtbldlfmblalchaaW.PrintLast Go.Proofs.YtbldlfmblalchaaW.PrintMore
set_option linter.unusedVariables false
set_option linter.unusedSimpArgs false

theorem shr_two (n : Int) (h0 : 0 ≤ n) (h1 : n ≤ 63) : shr .i64 1073741824 n = 1073741824 / 2 ^ n.toNat := by
  have e0 : IntKind.bits .i64 = 64 := rfl
  unfold shr
  rw [Nat.min_eq_left (by rw [e0]; omega)]
theorem FixedRises : heraldlaw02_FixedRises.Pure := by
  intro x y h1 h2
  have hx := i64_of_wf h1
  have hy := i64_of_wf h2
  refine Ev.rounds (g := fun k => heraldlaw02_FixedRises.f k x y) ?_
  unfold heraldlaw02_FixedRises.f
  refine Ev.bind awake_ev ?_
  have z : ex 0 = 1073741824 := ex_pos 0 (by omega)
  simp only [if_true, Exp2_f 0 ⟨by omega, by omega⟩, z, Option.bind_some, bne_self_eq_false]
  -- the two, in order
  have main : ∀ x y : Int, I64 x → I64 y → x ≤ y → Ev (fun k => heraldlaw02_FixedRises.j1 k x y) true := by
    intro x y hx hy hxy
    have m := ex_mono hxy
    have bx := ex_in x
    have by_ := ex_in y
    refine Ev.step (f := fun k => heraldlaw02_FixedRises.j2 k x (ex x) false) (fun k => ?_) ?_
    · simp only [heraldlaw02_FixedRises.j1, Exp2_f x hx, Exp2_f y hy, Option.bind_some]
      rw [if_neg (by omega), if_neg (by omega), decide_eq_false (by omega)]
    · have stop : Ev (fun k => heraldlaw02_FixedRises.j3 k x (ex x) true) true := Ev.step (fun k => by simp only [heraldlaw02_FixedRises.j3, if_true]) (Ev.now _)
      by_cases c1 : x > 0
      · refine Ev.step (fun k => ?_) stop
        simp only [heraldlaw02_FixedRises.j2, Bool.false_eq_true, if_false, c1, if_true]
      · by_cases c2 : x < -9223372036854710272
        · refine Ev.step (fun k => ?_) stop
          simp only [heraldlaw02_FixedRises.j2, Bool.false_eq_true, if_false, c1]
          rw [decide_eq_true c2]
        · refine Ev.step (f := fun k => heraldlaw02_FixedRises.j3 k x (ex x) false) (fun k => ?_) ?_
          · simp only [heraldlaw02_FixedRises.j2, Bool.false_eq_true, if_false, c1]
            rw [decide_eq_false c2]
          · have e1 : IntKind.u64.wrap (Int.tmod (wrap64 (Int.tdiv (wrap64 (-x)) 65536)) 64) = (-x / 65536) % 64 := by
              rw [wrap64_id' (x := -x) (by omega) (by omega), Int.tdiv_eq_ediv_of_nonneg (by omega), wrap64_id' (x := -x / 65536) (by omega) (by omega), Int.tmod_eq_emod_of_nonneg (by omega)]
              have e2 : IntKind.bits .u64 = 64 := rfl
              have e3 : IntKind.signed .u64 = false := rfl
              simp only [IntKind.wrap, e2, e3, Bool.false_and, Bool.false_eq_true, if_false]
              omega
            have hn0 : 0 ≤ (-x / 65536) % 64 := by omega
            have hn1 : (-x / 65536) % 64 ≤ 63 := by omega
            refine Ev.step (f := fun _ => some true) (fun k => ?_) (Ev.now _)
            simp only [heraldlaw02_FixedRises.j3, Bool.false_eq_true, if_false, e1]
            rw [wrap64_id' (x := (-x / 65536) % 64) (by omega) (by omega), wrap64_id' (x := -65536 * ((-x / 65536) % 64)) (by omega) (by omega), Exp2_f _ ⟨by omega, by omega⟩, ex_whole _ hn0]
            simp only [Option.bind_some, hn0, if_true, shr_two _ hn0 hn1]
            rw [wrap64_id' (x := x - 65536) (by omega) (by omega), Exp2_f _ ⟨by omega, by omega⟩, ex_half x (by omega), Int.tdiv_eq_ediv_of_nonneg (by omega), wrap64_id' (x := ex x / 2) (by omega) (by omega)]
            simp only [Option.bind_some, beq_self_eq_true]
  by_cases hc : x > y
  · refine Ev.step (fun k => ?_) (main y x hy hx (by omega))
    simp only [heraldlaw02_FixedRises.j0, Bool.false_eq_true, if_false, hc, if_true]
  · refine Ev.step (fun k => ?_) (main x y hx hy (by omega))
    simp only [heraldlaw02_FixedRises.j0, Bool.false_eq_true, if_false, hc]

end Go.Proofs.Ytbldlfmblalchaa.Pure
