/- Log2 of the program rises, is exact at powers of two, and of twice as much it is 65536 more. No condition. -/
import Derived.Test.YtbldlfmblalchaaPx14
import Derived.Test.YtbldlfmblalchaaLibD
namespace Go.Proofs.Ytbldlfmblalchaa.Pure
open Go Go.RowKit Go.Proofs.Ytbldlfmblalchaa.M Go.Proofs.Ytbldlfmblalchaa.L Go.Proofs.Ytbldlfmblalchaa.P Go.Proofs.YtbldlfmblalchaaW.PrintWords Go.Proofs.YtbldlfmblalchaaW.PrintLast Go.Proofs.YtbldlfmblalchaaW.PrintMore
set_option linter.unusedVariables false
set_option linter.unusedSimpArgs false

theorem FixedGrows : heraldlaw02_FixedGrows.Pure := by
  intro x y p h1 h2 h3
  have hx := i64_of_wf h1
  have hy := i64_of_wf h2
  have hp := i64_of_wf h3
  unfold I64 at hx hy hp
  refine Ev.rounds (g := fun k => heraldlaw02_FixedGrows.f k x y p) ?_
  unfold heraldlaw02_FixedGrows.f
  refine Ev.bind awake_ev ?_
  have ht : -62 ≤ Int.tmod p 63 ∧ Int.tmod p 63 ≤ 62 := by
    have := tmod_pos (a := p) (d := 63) (by omega)
    split at this <;> omega
  obtain ⟨n, hn, hn1⟩ : ∃ n : Nat, Int.tmod (wrap64 ((Int.tmod p 63) + 63)) 63 = n ∧ n ≤ 62 := by
    refine ⟨((Int.tmod p 63 + 63) % 63).toNat, ?_, by omega⟩
    rw [wrap64_id' (by omega) (by omega), Int.tmod_eq_emod_of_nonneg (by omega)]; omega
  rw [hn]
  have hu : IntKind.u64.wrap (n : Int) = n := by rw [uwrap]; omega
  have hpw := pow_in (s := (n : Int)) (by omega) (by omega)
  have hsh : shl .i64 1 (n : Int) = 2 ^ n := by rw [shl_one (by omega) (by omega)]; rfl
  simp only [if_true, hu, show (0 : Int) ≤ (n : Int) by omega, hsh]
  simp only [Int.toNat_natCast] at hpw
  refine Ev.bind (Log2_yes (2 ^ n) n (by omega) hn1 (Int.le_refl _) (by rw [Int.pow_succ]; omega)) ?_
  rw [lg2_pow]
  simp only [wrap64_id' (x := 65536 * (n : Int)) (by omega) (by omega), if_true, bne_self_eq_false]
  -- the two, in order
  have main : ∀ x y : Int, 1 ≤ x → x ≤ y → y ≤ 9223372036854775807 → Ev (fun k => heraldlaw02_FixedGrows.j2 k x y) true := by
    intro x y hx1 hxy hy1
    obtain ⟨a, ha, a0, a1⟩ := place x hx1 (by omega)
    obtain ⟨b, hb, b0, b1⟩ := place y (by omega) hy1
    have m := lg2_mono hxy a0 a1 b0 b1
    have ix := lg2_in a0 a1
    have iy := lg2_in b0 b1
    refine Ev.step (f := fun k => (fixed_Log2.f k x).bind fun bt205 => ((fixed_Log2.f k y).bind fun bt207 => (if bt205.2 = 0 then (if bt207.2 = 0 then (if bt205.1 > bt207.1 then (heraldlaw02_FixedGrows.j3 k x bt205.1 true) else (if bt205.1 < 0 then (heraldlaw02_FixedGrows.j3 k x bt205.1 true) else (heraldlaw02_FixedGrows.j3 k x bt205.1 (decide (bt207.1 ≥ 4128768))))) else (heraldlaw02_FixedGrows.j3 k x bt205.1 true)) else (heraldlaw02_FixedGrows.j3 k x bt205.1 true)))) (fun k => by simp only [heraldlaw02_FixedGrows.j2]) ?_
    refine Ev.bind (Log2_yes x a (by omega) ha a0 a1) ?_
    refine Ev.bind (Log2_yes y b hy1 hb b0 b1) ?_
    simp only [if_true, show ¬ lg2 x a > lg2 y b by omega, show ¬ lg2 x a < 0 by omega, if_false, show decide (lg2 y b ≥ 4128768) = false from decide_eq_false (by omega)]
    by_cases c : x > 4611686018427387903
    · exact Ev.step (f := fun _ => some true) (fun k => by simp only [heraldlaw02_FixedGrows.j3, Bool.false_eq_true, if_false, c, if_true]) (Ev.now _)
    · refine Ev.step (f := fun k => (fixed_Log2.f k (2 * x)).bind fun bt209 => (if bt209.1 = (wrap64 (lg2 x a + 65536)) then (some (bt209.2 == 0)) else (some false))) (fun k => ?_) ?_
      · simp only [heraldlaw02_FixedGrows.j3, Bool.false_eq_true, if_false, c, wrap64_id' (x := 2 * x) (by omega) (by omega)]
      · have e0 : (2 : Int) ^ (a + 1) = 2 ^ a * 2 := Int.pow_succ _ _
        have e1 : (2 : Int) ^ (a + 1 + 1) = 2 ^ (a + 1) * 2 := Int.pow_succ _ _
        have ha2 : a + 1 ≤ 62 := by
          by_cases q : a = 62
          · subst q; simp at a0; omega
          · omega
        refine Ev.bind (Log2_yes (2 * x) (a + 1) (by omega) ha2 (by omega) (by omega)) ?_
        rw [lg2_twice]
        simp only [wrap64_id' (x := lg2 x a + 65536) (by omega) (by omega), if_true, beq_self_eq_true]
        exact Ev.now _
  have stop : Ev (fun k => heraldlaw02_FixedGrows.j1 k x y true) true := Ev.step (fun k => by simp only [heraldlaw02_FixedGrows.j1, if_true]) (Ev.now _)
  by_cases c1 : x < 1
  · refine Ev.step (fun k => ?_) stop
    simp only [heraldlaw02_FixedGrows.j0, Bool.false_eq_true, if_false, c1, if_true]
  · by_cases c2 : y < 1
    · refine Ev.step (fun k => ?_) stop
      simp only [heraldlaw02_FixedGrows.j0, Bool.false_eq_true, if_false, c1, c2, decide_true]
    · refine Ev.step (f := fun k => heraldlaw02_FixedGrows.j1 k x y false) (fun k => ?_) ?_
      · simp only [heraldlaw02_FixedGrows.j0, Bool.false_eq_true, if_false, c1, c2, decide_false]
      · by_cases c3 : x > y
        · refine Ev.step (fun k => ?_) (main y x (by omega) (by omega) hx.2)
          simp only [heraldlaw02_FixedGrows.j1, Bool.false_eq_true, if_false, c3, if_true]
        · refine Ev.step (fun k => ?_) (main x y (by omega) (by omega) hy.2)
          simp only [heraldlaw02_FixedGrows.j1, Bool.false_eq_true, if_false, c3]

end Go.Proofs.Ytbldlfmblalchaa.Pure
