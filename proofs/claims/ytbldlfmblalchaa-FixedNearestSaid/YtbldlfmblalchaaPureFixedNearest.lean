/- Near of the program lies within half of the divisor, of two it is the even one, it is odd about 0, and Round is Near of a power of two. No condition. -/
import Derived.Test.YtbldlfmblalchaaPx10
import Derived.Test.YtbldlfmblalchaaLibB
namespace Go.Proofs.Ytbldlfmblalchaa.Pure
open Go Go.RowKit Go.Proofs.Ytbldlfmblalchaa.M Go.Proofs.Ytbldlfmblalchaa.L Go.Proofs.Ytbldlfmblalchaa.P Go.Proofs.YtbldlfmblalchaaW.PrintWords Go.Proofs.YtbldlfmblalchaaW.PrintLast Go.Proofs.YtbldlfmblalchaaW.PrintMore
set_option linter.unusedVariables false
set_option linter.unusedSimpArgs false

theorem uwrap_id {x : Int} (h0 : 0 ≤ x) (h1 : x ≤ 9223372036854775807) : IntKind.u64.wrap x = x := by
  have e2 : IntKind.bits .u64 = 64 := rfl
  have e3 : IntKind.signed .u64 = false := rfl
  simp only [IntKind.wrap, e2, e3, Bool.false_and, Bool.false_eq_true, if_false]
  omega
theorem FixedNearest : heraldlaw02_FixedNearest.Pure := by
  intro x d s h1 h2 h3
  have hx := i64_of_wf h1
  have hd := i64_of_wf h2
  refine Ev.rounds (g := fun k => heraldlaw02_FixedNearest.f k x d s) ?_
  unfold heraldlaw02_FixedNearest.f
  refine Ev.bind awake_ev ?_
  simp only [if_true, Near_f x d hx hd, Option.bind_some]
  by_cases hd1 : d < 1
  · unfold nearS
    simp only [hd1, if_true, beq_self_eq_true]
    exact Ev.now _
  · have hd0 : 0 < d := by omega
    have eN : ∀ y, nearS y d = (near y d, 0) := fun y => by unfold nearS; rw [if_neg hd1]
    have eF : floorS x d = (x / d, x % d, 0) := by unfold floorS; rw [if_neg hd1]
    have r0 := Int.emod_nonneg x (b := d) (by omega)
    have r1 := Int.emod_lt_of_pos x hd0
    have hf := floor_in hd0 hx
    have hq := near_in hd0 hx
    have hh := near_half x d hd0
    have hodd := near_odd x d hd0
    simp only [hd1, if_false, Floor_f x d hx hd, Option.bind_some, eN, eF, if_true]
    unfold I64 at hx hd hf hq
    -- Round is Near of a power
    have rnd : ∀ J : Nat → Int → Int → Option Bool, (∀ k, J (k + 1) x s = (fixed_Round.f x s).bind fun bt => (if s < 0 then (if bt.1 = 0 then (some (bt.2 == 20)) else (some false)) else (if s > 62 then (if bt.1 = 0 then (some (bt.2 == 20)) else (some false)) else (if 0 ≤ (IntKind.u64.wrap (s)) then ((fixed_Near.f x (shl .i64 1 (IntKind.u64.wrap (s)))).bind fun bt2 => (if bt.1 = bt2.1 then (if bt.2 = 0 then (some (bt2.2 == 0)) else (some false)) else (some false))) else (none))))) → Ev (fun k => J k x s) true := by
      intro J hJ
      refine Ev.step (f := fun _ => some true) (fun k => ?_) (Ev.now _)
      rw [hJ, Round_f x s ⟨hx.1, hx.2⟩]
      unfold roundS
      by_cases c1 : s < 0
      · simp only [c1, true_or, if_true, Option.bind_some, beq_self_eq_true]
      · by_cases c2 : s > 62
        · simp only [c1, c2, or_true, if_true, if_false, Option.bind_some, beq_self_eq_true]
        · have hp := pow_in (s := s) (by omega) (by omega)
          simp only [c1, c2, or_self, if_false, Option.bind_some]
          rw [uwrap_id (by omega) (by omega), if_pos (by omega), shl_one (by omega) (by omega), Near_f x _ ⟨hx.1, hx.2⟩ ⟨by omega, by omega⟩]
          unfold nearS
          rw [if_neg (by omega)]
          simp only [Option.bind_some, if_true, beq_self_eq_true]
    have wr : wrap64 (d - x % d) = d - x % d := wrap64_id' (by omega) (by omega)
    -- what is asked of the number's opposite
    have opp : ∀ (J J2 : Nat → Option Bool), Ev J2 true → (∀ k, J (k + 1) = if x > -9223372036854775808 then ((fixed_Near.f (wrap64 (-x)) d).bind fun bt => (if bt.1 = (wrap64 (-(near x d))) then (if bt.2 = 0 then (J2 k) else (some false)) else (some false))) else (J2 k)) → Ev J true := by
      intro J J2 hJ2 hJ
      refine Ev.step (fun k => ?_) hJ2
      rw [hJ]
      by_cases c : x > -9223372036854775808
      · have hn2 : I64 (-x) := ⟨by omega, by omega⟩
        have hq2 := near_in hd0 hn2
        unfold I64 at hq2
        rw [if_pos c, wrap64_id hn2, Near_f (-x) d hn2 hd, eN, hodd, wrap64_id' (x := -near x d) (by omega) (by omega)]
        simp only [Option.bind_some, if_true]
      · rw [if_neg c]
    rcases hh with ⟨e, hle, hev⟩ | ⟨e, hle, hev⟩
    · -- rounded down
      have go1 : Ev (fun k => heraldlaw02_FixedNearest.j1 k x d s (near x d) false) true := by
        refine opp _ (fun k => heraldlaw02_FixedNearest.j2 k x s) (rnd heraldlaw02_FixedNearest.j2 (fun k => by simp only [heraldlaw02_FixedNearest.j2])) (fun k => ?_)
        simp only [heraldlaw02_FixedNearest.j1, Bool.false_eq_true, if_false]
      have go0 : Ev (fun k => heraldlaw02_FixedNearest.j0 k x d s (near x d) (x / d) (x % d) false) true := by
        refine Ev.step (fun k => ?_) go1
        simp only [heraldlaw02_FixedNearest.j0, Bool.false_eq_true, if_false, wr]
        rw [if_pos e, if_neg (by omega)]
        by_cases c : x % d = d - x % d
        · have h2 := hev c
          rw [if_pos c, if_pos (by rw [e, odd_tmod]; omega)]
        · rw [if_neg c]
      refine Ev.congr (fun k => ?_) go0
      rw [if_neg (by omega), if_neg (by omega), if_neg (by omega), if_pos e, ite_self]
    · -- rounded up
      have go3 : Ev (fun k => heraldlaw02_FixedNearest.j3 k x d s (near x d) false) true := by
        refine opp _ (fun k => heraldlaw02_FixedNearest.j4 k x s) (rnd heraldlaw02_FixedNearest.j4 (fun k => by simp only [heraldlaw02_FixedNearest.j4])) (fun k => ?_)
        simp only [heraldlaw02_FixedNearest.j3, Bool.false_eq_true, if_false]
      have go0 : Ev (fun k => heraldlaw02_FixedNearest.j0 k x d s (near x d) (x / d) (x % d) false) true := by
        refine Ev.step (fun k => ?_) go3
        simp only [heraldlaw02_FixedNearest.j0, Bool.false_eq_true, if_false, wr]
        rw [if_neg (by omega), if_neg (by omega)]
        by_cases c : x % d = d - x % d
        · have h2 := hev c
          rw [if_pos c, if_pos (by rw [e, odd_tmod]; omega)]
        · rw [if_neg c]
      refine Ev.congr (fun k => ?_) go0
      rw [if_neg (by omega), if_neg (by omega), if_neg (by omega), wrap64_id' (x := x / d + 1) (by omega) (by omega), if_neg (by omega)]

end Go.Proofs.Ytbldlfmblalchaa.Pure
