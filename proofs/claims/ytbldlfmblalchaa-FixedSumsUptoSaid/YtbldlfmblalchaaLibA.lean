/- Lemmas on the printed functions: what each answers, in plain words of Lean; on condition that the numbers are of their kinds. -/
import Derived.Test.YtbldlfmblalchaaPx1
import Derived.Test.YtbldlfmblalchaaPx2
import Derived.Test.YtbldlfmblalchaaMath
namespace Go.Proofs.Ytbldlfmblalchaa.L
open Go Go.RowKit Go.Proofs.Ytbldlfmblalchaa.M Go.Proofs.Ytbldlfmblalchaa.P Go.Proofs.YtbldlfmblalchaaW.PrintWords Go.Proofs.YtbldlfmblalchaaW.PrintLast Go.Proofs.YtbldlfmblalchaaW.PrintMore
set_option linter.unusedVariables false
set_option linter.unusedSimpArgs false

theorem Floor_f (a d : Int) (ha : I64 a) (hd : I64 d) : fixed_Floor.f a d = some (floorS a d) := by
  unfold fixed_Floor.f; exact floor_code a d ha hd

theorem rFloor_f (a d : Int) (ha : I64 a) (hd : I64 d) : heraldref02_Floor.f a d = some (floorS a d) := by
  unfold heraldref02_Floor.f; exact floor_code a d ha hd

theorem Near_f (a d : Int) (ha : I64 a) (hd : I64 d) : fixed_Near.f a d = some (nearS a d) := by
  unfold fixed_Near.f nearS; rw [Floor_f a d ha hd]; simp only [Option.bind_some, floorS]
  by_cases h : d < 1
  · rw [if_pos h, if_pos h]; rfl
  · rw [if_neg h, if_neg h]; simp only [if_true]; exact near_code a d ha hd (by omega)

theorem rNear_f (a d : Int) (ha : I64 a) (hd : I64 d) : heraldref02_Near.f a d = some (nearS a d) := by
  unfold heraldref02_Near.f nearS; rw [rFloor_f a d ha hd]; simp only [Option.bind_some, floorS]
  by_cases h : d < 1
  · rw [if_pos h, if_pos h]; rfl
  · rw [if_neg h, if_neg h]; simp only [if_true]; exact near_code' a d ha hd (by omega)

theorem Round_f (a s : Int) (ha : I64 a) : fixed_Round.f a s = some (roundS a s) := by
  unfold fixed_Round.f roundS
  by_cases h : s < 0
  · rw [if_pos h, if_pos (Or.inl h)]
  · by_cases h' : s > 62
    · rw [if_neg h, if_pos h', if_pos (Or.inr h')]
    · rw [if_neg h, if_neg h', if_pos (by omega), if_neg (by omega), shl_one (by omega) (by omega)]
      have hp := pow_in (s := s) (by omega) (by omega)
      rw [Near_f a _ ha ⟨by omega, by omega⟩]
      unfold nearS; rw [if_neg (by omega)]; rfl

theorem rRound_l (a : Int) (ha : I64 a) (s : Nat) (hs : s ≤ 62) : ∀ (d i : Nat), i + d = s → Ev (fun k => heraldref02_Round.l0 k a s (2 ^ i) i) (near a (2 ^ s), 0) := by
  intro d
  induction d with
  | zero =>
    intro i hi
    obtain rfl : i = s := by omega
    have hp := pow_in (s := (i : Int)) (by omega) (by omega)
    simp only [Int.toNat_natCast] at hp
    refine Ev.step (f := fun _ => some (near a (2 ^ i), 0)) (fun k => ?_) (Ev.now _)
    simp only [heraldref02_Round.l0]
    rw [if_neg (by omega), rNear_f a _ ha ⟨by omega, by omega⟩]
    unfold nearS; rw [if_neg (by omega)]; rfl
  | succ d ih =>
    intro i hi
    refine Ev.step (fun k => ?_) (ih (i + 1) (by omega))
    have hp := pow_in (s := ((i + 1 : Nat) : Int)) (by omega) (by omega)
    simp only [Int.toNat_natCast] at hp
    simp only [heraldref02_Round.l0]
    rw [if_pos (by omega), ← Int.pow_succ, wrap64_id' (by omega) (by omega), wrap64_id' (by omega) (by omega)]
    rfl
theorem rRound_f (a s : Int) (ha : I64 a) : Ev (fun k => heraldref02_Round.f k a s) (roundS a s) := by
  unfold heraldref02_Round.f roundS
  by_cases h : s < 0
  · simp only [h, true_or, if_true]
    exact Ev.step (fun k => by simp only [heraldref02_Round.j0, if_true]) (Ev.now _)
  · by_cases h' : s > 62
    · simp only [h, h', decide_true, or_true, if_true, if_false]
      exact Ev.step (fun k => by simp only [heraldref02_Round.j0, if_true]) (Ev.now _)
    · obtain ⟨n, rfl⟩ := Int.eq_ofNat_of_zero_le (show 0 ≤ s by omega)
      simp only [h, h', decide_false, or_self, if_false]
      refine Ev.step (fun k => ?_) (rRound_l a ha n (by omega) n 0 (by omega))
      simp only [heraldref02_Round.j0]; rfl

def clamp (x lo hi : Int) : Int := if x < lo then lo else if x > hi then hi else x
theorem Clamp_f (x lo hi : Int) : fixed_Clamp.f x lo hi = some (clamp x lo hi) := by
  unfold fixed_Clamp.f clamp; repeat' split
  all_goals rfl
def narrow (x : Int) : Int := clamp x (-127) 127
theorem narrow_in (x : Int) : -127 ≤ narrow x ∧ narrow x ≤ 127 := by
  unfold narrow clamp; repeat' split
  all_goals omega
theorem narrow_i8 (x : Int) : IntKind.i8.wrap (clamp x (-127) 127) = narrow x := by
  have h := narrow_in x
  exact i8wrap_id ⟨by unfold narrow at h; omega, by unfold narrow at h; omega⟩

theorem Narrow_f (x : Int) : fixed_Narrow.f x = some (narrow x) := by
  unfold fixed_Narrow.f; rw [Clamp_f]; simp only [Option.bind_some, narrow_i8]

theorem rClamp_f (x lo hi : Int) : heraldref02_Clamp.f x lo hi = some (clamp x lo hi) := by
  unfold heraldref02_Clamp.f clamp; repeat' split
  all_goals rfl

theorem rNarrow_f (x : Int) : heraldref02_Narrow.f x = some (narrow x) := by
  unfold heraldref02_Narrow.f; rw [rClamp_f]; simp only [Option.bind_some, narrow_i8]

theorem Sqrt_l (a : Int) (h0 : 0 ≤ a) (h1 : a ≤ 9223372036854775807) : ∀ (j : Nat) (r : Int), j ≤ 31 → 0 ≤ r → r % 2 ^ (j + 1) = 0 → r + 2 ^ (j + 1) ≤ 4294967296 → r * r ≤ a → a < (r + 2 ^ (j + 1)) * (r + 2 ^ (j + 1)) → Ev (fun k => fixed_Sqrt.l0 k a r (2 ^ j)) (sq a, 0) := by
  have last : ∀ r : Int, 0 ≤ r → r * r ≤ a → a < (r + 1) * (r + 1) → Ev (fun k => fixed_Sqrt.l0 k a r 0) (sq a, 0) := by
    intro r hr ha hb
    rw [sq_unique hr ha hb]
    exact Ev.step (fun k => by simp only [fixed_Sqrt.l0]; rw [if_neg (by omega)]) (Ev.now _)
  intro j
  induction j with
  | zero =>
    intro r hj hr hm hs ha hb
    have ho := or_bit (j := 0) (by omega) hr hm (by omega)
    simp only [Nat.zero_add, Int.pow_zero, Int.pow_one] at *
    have e : (r + 1 + 1) * (r + 1 + 1) = (r + 2) * (r + 2) := by grind
    by_cases hc : (r + 1) * (r + 1) ≤ a
    · have hl := last (r + 1) (by omega) hc (by omega)
      refine Ev.step (fun k => ?_) hl
      have ht : (r + 1) ≤ wrap64 (Int.tdiv 9223372036854775807 (r + 1)) := by
        rw [Int.tdiv_eq_ediv_of_nonneg (by omega), wrap64_id (floor_in (by omega) ⟨by omega, by omega⟩), try_iff (by omega)]; omega
      have hn := Int.mul_nonneg (show 0 ≤ r + 1 by omega) (show 0 ≤ r + 1 by omega)
      simp only [fixed_Sqrt.l0, ho]
      rw [if_pos (by omega), if_neg (by omega), if_pos ht, wrap64_id' (by omega) (by omega), if_pos hc]; rfl
    · have hl := last r hr ha (by omega)
      refine Ev.step (fun k => ?_) hl
      simp only [fixed_Sqrt.l0, ho]
      rw [if_pos (by omega), if_neg (by omega)]
      split
      · rename_i ht
        rw [Int.tdiv_eq_ediv_of_nonneg (by omega), wrap64_id (floor_in (by omega) ⟨by omega, by omega⟩), try_iff (by omega)] at ht
        have hn := Int.mul_nonneg (show 0 ≤ r + 1 by omega) (show 0 ≤ r + 1 by omega)
        rw [wrap64_id' (by omega) (by omega), if_neg hc]; rfl
      · rfl
  | succ j ih =>
    intro r hj hr hm hs ha hb
    have hp : (0 : Int) < 2 ^ (j + 1) := Int.pow_pos (by omega)
    have ho := or_bit (j := j + 1) (by omega) hr hm (by omega)
    have e1 : (2 : Int) ^ (j + 1 + 1) = 2 ^ (j + 1) * 2 := Int.pow_succ _ _
    have e2 : (2 : Int) ^ (j + 1) = 2 ^ j * 2 := Int.pow_succ _ _
    have hh : (2 : Int) ^ (j + 1) / 2 = 2 ^ j := by rw [e2]; omega
    have hd : (2 : Int) ^ (j + 1) ∣ r := by
      have : (2 : Int) ^ (j + 1 + 1) ∣ r := Int.dvd_of_emod_eq_zero hm
      exact Int.dvd_trans ⟨2, e1⟩ this
    have hm1 : r % 2 ^ (j + 1) = 0 := Int.emod_eq_zero_of_dvd hd
    have hm2 : (r + 2 ^ (j + 1)) % 2 ^ (j + 1) = 0 := Int.emod_eq_zero_of_dvd (Int.dvd_add hd (Int.dvd_refl _))
    by_cases hc : (r + 2 ^ (j + 1)) * (r + 2 ^ (j + 1)) ≤ a
    · have e : r + 2 ^ (j + 1) + 2 ^ (j + 1) = r + 2 ^ (j + 1 + 1) := by omega
      have hl := ih (r + 2 ^ (j + 1)) (by omega) (by omega) hm2 (by omega) hc (by rw [e]; exact hb)
      refine Ev.step (fun k => ?_) hl
      have ht : (r + 2 ^ (j + 1)) ≤ wrap64 (Int.tdiv 9223372036854775807 (r + 2 ^ (j + 1))) := by
        rw [Int.tdiv_eq_ediv_of_nonneg (by omega), wrap64_id (floor_in (by omega) ⟨by omega, by omega⟩), try_iff (by omega)]; omega
      have hn := Int.mul_nonneg (show 0 ≤ r + 2 ^ (j + 1) by omega) (show 0 ≤ r + 2 ^ (j + 1) by omega)
      simp only [fixed_Sqrt.l0, ho]
      rw [if_pos (by omega), if_neg (by omega), if_pos ht, wrap64_id' (by omega) (by omega), if_pos hc, hh]
    · have hl := ih r (by omega) hr hm1 (by omega) ha (by omega)
      refine Ev.step (fun k => ?_) hl
      simp only [fixed_Sqrt.l0, ho]
      rw [if_pos (by omega), if_neg (by omega), hh]
      split
      · rename_i ht
        rw [Int.tdiv_eq_ediv_of_nonneg (by omega), wrap64_id (floor_in (by omega) ⟨by omega, by omega⟩), try_iff (by omega)] at ht
        have hn := Int.mul_nonneg (show 0 ≤ r + 2 ^ (j + 1) by omega) (show 0 ≤ r + 2 ^ (j + 1) by omega)
        rw [wrap64_id' (by omega) (by omega), if_neg hc]
      · rfl
theorem Sqrt_f (a : Int) (ha : I64 a) : Ev (fun k => fixed_Sqrt.f k a) (sqrtS a) := by
  unfold fixed_Sqrt.f sqrtS
  by_cases h : a < 0
  · simp only [h, if_true]; exact Ev.now _
  · simp only [h, if_false]
    have := Sqrt_l a (by omega) ha.2 31 0 (by omega) (by omega) (by decide) (by decide) (by omega) (by unfold I64 at ha; simp; omega)
    simpa using this

theorem half_pow (j : Nat) (hj : j ≤ 31) : wrap64 (Int.tdiv (2 ^ (j + 1)) 2) = 2 ^ j := by
  have hp : (0 : Int) < 2 ^ j := Int.pow_pos (by omega)
  have hq := pow_in (s := (j : Int)) (by omega) (by omega)
  simp only [Int.toNat_natCast] at hq
  have e2 : (2 : Int) ^ (j + 1) = 2 ^ j * 2 := Int.pow_succ _ _
  rw [Int.tdiv_eq_ediv_of_nonneg (by omega), e2, Int.mul_ediv_cancel _ (by omega), wrap64_id' (by omega) (by omega)]
theorem rSqrt_l (a : Int) (h0 : 0 ≤ a) (h1 : a ≤ 9223372036854775807) : ∀ (j : Nat) (r : Int), j ≤ 31 → 0 ≤ r → r + 2 ^ (j + 1) ≤ 4294967296 → r * r ≤ a → a < (r + 2 ^ (j + 1)) * (r + 2 ^ (j + 1)) → Ev (fun k => heraldref02_Sqrt.l0 k a r (2 ^ j)) (sq a, 0) := by
  have last : ∀ r : Int, 0 ≤ r → r * r ≤ a → a < (r + 1) * (r + 1) → Ev (fun k => heraldref02_Sqrt.l0 k a r 0) (sq a, 0) := by
    intro r hr ha hb
    rw [sq_unique hr ha hb]
    exact Ev.step (fun k => by simp only [heraldref02_Sqrt.l0]; rw [if_neg (by omega)]) (Ev.now _)
  -- what is tried, and what comes of it
  have one : ∀ (k : Nat) (r d : Int), 0 ≤ r → 0 < d → d ≤ 4294967296 → r + d ≤ 4294967296 → heraldref02_Sqrt.l0 (k + 1) a r d = if (r + d) * (r + d) ≤ a then heraldref02_Sqrt.l0 k a (r + d) (wrap64 (Int.tdiv d 2)) else heraldref02_Sqrt.l0 k a r (wrap64 (Int.tdiv d 2)) := by
    intro k r d hr hd hd2 hs
    have hn := Int.mul_nonneg (show 0 ≤ r + d by omega) (show 0 ≤ r + d by omega)
    simp only [heraldref02_Sqrt.l0]
    rw [if_pos (by omega), wrap64_id' (x := r + d) (by omega) (by omega)]
    by_cases hq : r + d ≤ 3037000499
    · have : (r + d) * (r + d) ≤ 3037000499 * 3037000499 := Int.mul_le_mul hq hq (by omega) (by omega)
      rw [if_pos hq, wrap64_id' (x := (r + d) * (r + d)) (by omega) (by omega)]
    · have : 3037000500 * 3037000500 ≤ (r + d) * (r + d) := Int.mul_le_mul (by omega) (by omega) (by omega) (by omega)
      rw [if_neg hq, if_neg (by omega)]
  intro j
  induction j with
  | zero =>
    intro r hj hr hs ha hb
    simp only [Nat.zero_add, Int.pow_zero, Int.pow_one] at *
    have e : (r + 1 + 1) * (r + 1 + 1) = (r + 2) * (r + 2) := by grind
    have z : wrap64 (Int.tdiv 1 2) = 0 := by unfold wrap64; rfl
    by_cases hc : (r + 1) * (r + 1) ≤ a
    · refine Ev.step (fun k => ?_) (last (r + 1) (by omega) hc (by omega))
      rw [one k r 1 hr (by omega) (by omega) (by omega), if_pos hc, z]
    · refine Ev.step (fun k => ?_) (last r hr ha (by omega))
      rw [one k r 1 hr (by omega) (by omega) (by omega), if_neg hc, z]
  | succ j ih =>
    intro r hj hr hs ha hb
    have hp : (0 : Int) < 2 ^ (j + 1) := Int.pow_pos (by omega)
    have e1 : (2 : Int) ^ (j + 1 + 1) = 2 ^ (j + 1) * 2 := Int.pow_succ _ _
    have z := half_pow j (by omega)
    by_cases hc : (r + 2 ^ (j + 1)) * (r + 2 ^ (j + 1)) ≤ a
    · have e : r + 2 ^ (j + 1) + 2 ^ (j + 1) = r + 2 ^ (j + 1 + 1) := by omega
      refine Ev.step (fun k => ?_) (ih (r + 2 ^ (j + 1)) (by omega) (by omega) (by omega) hc (by rw [e]; exact hb))
      rw [one k r _ hr hp (by omega) (by omega), if_pos hc, z]
    · refine Ev.step (fun k => ?_) (ih r (by omega) hr (by omega) ha (by omega))
      rw [one k r _ hr hp (by omega) (by omega), if_neg hc, z]
theorem rSqrt_f (a : Int) (ha : I64 a) : Ev (fun k => heraldref02_Sqrt.f k a) (sqrtS a) := by
  unfold heraldref02_Sqrt.f sqrtS
  by_cases h : a < 0
  · simp only [h, if_true]; exact Ev.now _
  · simp only [h, if_false]
    have := rSqrt_l a (by omega) ha.2 31 0 (by omega) (by omega) (by decide) (by omega) (by unfold I64 at ha; simp; omega)
    simpa using this
end Go.Proofs.Ytbldlfmblalchaa.L
