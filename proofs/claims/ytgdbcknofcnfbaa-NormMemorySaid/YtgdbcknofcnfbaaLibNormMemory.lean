/- Lemmas on the printed functions: what each answers, in plain words of Lean; on condition that the numbers are of their kinds. -/
import Derived.Test.YtgdbcknofcnfbaaPx1
import Derived.Test.YtgdbcknofcnfbaaPx10
import Derived.Test.YtgdbcknofcnfbaaPx11
import Derived.Test.YtgdbcknofcnfbaaPx12
import Derived.Test.YtgdbcknofcnfbaaPx13
import Derived.Test.YtgdbcknofcnfbaaPx14
import Derived.Test.YtgdbcknofcnfbaaPx15
import Derived.Test.YtgdbcknofcnfbaaPx16
import Derived.Test.YtgdbcknofcnfbaaPx17
import Derived.Test.YtgdbcknofcnfbaaPx18
import Derived.Test.YtgdbcknofcnfbaaPx2
import Derived.Test.YtgdbcknofcnfbaaPx3
import Derived.Test.YtgdbcknofcnfbaaPx4
import Derived.Test.YtgdbcknofcnfbaaPx5
import Derived.Test.YtgdbcknofcnfbaaPx6
import Derived.Test.YtgdbcknofcnfbaaPx7
import Derived.Test.YtgdbcknofcnfbaaPx8
import Derived.Test.YtgdbcknofcnfbaaPx9
import Derived.Test.YtgdbcknofcnfbaaMath
namespace Go.Proofs.Ytgdbcknofcnfbaa.L
open Go Go.RowKit Go.Proofs.Ytgdbcknofcnfbaa.M Go.Proofs.Ytgdbcknofcnfbaa.P Go.Proofs.YtgdbcknofcnfbaaW.PrintWords Go.Proofs.YtgdbcknofcnfbaaW.PrintLast Go.Proofs.YtgdbcknofcnfbaaW.PrintMore
set_option linter.unusedVariables false
set_option linter.unusedSimpArgs false

theorem Floor_f (a d : Int) (ha : I64 a) (hd : I64 d) : fixed_Floor.f a d = some (floorS a d) := by
  unfold fixed_Floor.f; exact floor_code a d ha hd

theorem rFloor_f (a d : Int) (ha : I64 a) (hd : I64 d) : heraldref02_Floor.f a d = some (floorS a d) := by
  unfold heraldref02_Floor.f; exact floor_code a d ha hd

theorem Near_f (a d : Int) (ha : I64 a) (hd : I64 d) : fixed_Near.f a d = some (nearS a d) := by
  unfold fixed_Near.f nearS; rw [Floor_f a d ha hd]; simp only [Option.bind_some, floorS]
  by_cases h : d < 1
  · rw [if_pos h, if_pos h]; rfl
  · rw [if_neg h, if_neg h]; simp only [if_true]; exact near_code a d ha hd (by omega)

theorem rNear_f (a d : Int) (ha : I64 a) (hd : I64 d) : heraldref02_Near.f a d = some (nearS a d) := by
  unfold heraldref02_Near.f nearS; rw [rFloor_f a d ha hd]; simp only [Option.bind_some, floorS]
  by_cases h : d < 1
  · rw [if_pos h, if_pos h]; rfl
  · rw [if_neg h, if_neg h]; simp only [if_true]; exact near_code' a d ha hd (by omega)

theorem Round_f (a s : Int) (ha : I64 a) : fixed_Round.f a s = some (roundS a s) := by
  unfold fixed_Round.f roundS
  by_cases h : s < 0
  · rw [if_pos h, if_pos (Or.inl h)]
  · by_cases h' : s > 62
    · rw [if_neg h, if_pos h', if_pos (Or.inr h')]
    · rw [if_neg h, if_neg h', if_pos (by omega), if_neg (by omega), shl_one (by omega) (by omega)]
      have hp := pow_in (s := s) (by omega) (by omega)
      rw [Near_f a _ ha ⟨by omega, by omega⟩]
      unfold nearS; rw [if_neg (by omega)]; rfl

theorem rRound_l (a : Int) (ha : I64 a) (s : Nat) (hs : s ≤ 62) : ∀ (d i : Nat), i + d = s → Ev (fun k => heraldref02_Round.l0 k a s (2 ^ i) i) (near a (2 ^ s), 0) := by
  intro d
  induction d with
  | zero =>
    intro i hi
    obtain rfl : i = s := by omega
    have hp := pow_in (s := (i : Int)) (by omega) (by omega)
    simp only [Int.toNat_natCast] at hp
    refine Ev.step (f := fun _ => some (near a (2 ^ i), 0)) (fun k => ?_) (Ev.now _)
    simp only [heraldref02_Round.l0]
    rw [if_neg (by omega), rNear_f a _ ha ⟨by omega, by omega⟩]
    unfold nearS; rw [if_neg (by omega)]; rfl
  | succ d ih =>
    intro i hi
    refine Ev.step (fun k => ?_) (ih (i + 1) (by omega))
    have hp := pow_in (s := ((i + 1 : Nat) : Int)) (by omega) (by omega)
    simp only [Int.toNat_natCast] at hp
    simp only [heraldref02_Round.l0]
    rw [if_pos (by omega), ← Int.pow_succ, wrap64_id' (by omega) (by omega), wrap64_id' (by omega) (by omega)]
    rfl
theorem rRound_f (a s : Int) (ha : I64 a) : Ev (fun k => heraldref02_Round.f k a s) (roundS a s) := by
  unfold heraldref02_Round.f roundS
  by_cases h : s < 0
  · simp only [h, true_or, if_true]
    exact Ev.step (fun k => by simp only [heraldref02_Round.j0, if_true]) (Ev.now _)
  · by_cases h' : s > 62
    · simp only [h, h', decide_true, or_true, if_true, if_false]
      exact Ev.step (fun k => by simp only [heraldref02_Round.j0, if_true]) (Ev.now _)
    · obtain ⟨n, rfl⟩ := Int.eq_ofNat_of_zero_le (show 0 ≤ s by omega)
      simp only [h, h', decide_false, or_self, if_false]
      refine Ev.step (fun k => ?_) (rRound_l a ha n (by omega) n 0 (by omega))
      simp only [heraldref02_Round.j0]; rfl

def clamp (x lo hi : Int) : Int := if x < lo then lo else if x > hi then hi else x
def narrow (x : Int) : Int := clamp x (-127) 127
theorem narrow_in (x : Int) : -127 ≤ narrow x ∧ narrow x ≤ 127 := by
  unfold narrow clamp; repeat' split
  all_goals omega
theorem narrow_i8 (x : Int) : IntKind.i8.wrap (clamp x (-127) 127) = narrow x := by
  have h := narrow_in x
  exact i8wrap_id ⟨by unfold narrow at h; omega, by unfold narrow at h; omega⟩

theorem Clamp_f (x lo hi : Int) : fixed_Clamp.f x lo hi = some (clamp x lo hi) := by
  unfold fixed_Clamp.f clamp; repeat' split
  all_goals rfl

theorem Narrow_f (x : Int) : fixed_Narrow.f x = some (narrow x) := by
  unfold fixed_Narrow.f; rw [Clamp_f]; simp only [Option.bind_some, narrow_i8]

theorem rClamp_f (x lo hi : Int) : heraldref02_Clamp.f x lo hi = some (clamp x lo hi) := by
  unfold heraldref02_Clamp.f clamp; repeat' split
  all_goals rfl

theorem rNarrow_f (x : Int) : heraldref02_Narrow.f x = some (narrow x) := by
  unfold heraldref02_Narrow.f; rw [rClamp_f]; simp only [Option.bind_some, narrow_i8]

theorem Sqrt_l (a : Int) (h0 : 0 ≤ a) (h1 : a ≤ 9223372036854775807) : ∀ (j : Nat) (r : Int), j ≤ 31 → 0 ≤ r → r % 2 ^ (j + 1) = 0 → r + 2 ^ (j + 1) ≤ 4294967296 → r * r ≤ a → a < (r + 2 ^ (j + 1)) * (r + 2 ^ (j + 1)) → Ev (fun k => fixed_Sqrt.l0 k a r (2 ^ j)) (sq a, 0) := by
  have last : ∀ r : Int, 0 ≤ r → r * r ≤ a → a < (r + 1) * (r + 1) → Ev (fun k => fixed_Sqrt.l0 k a r 0) (sq a, 0) := by
    intro r hr ha hb
    rw [sq_unique hr ha hb]
    exact Ev.step (fun k => by simp only [fixed_Sqrt.l0]; rw [if_neg (by omega)]) (Ev.now _)
  intro j
  induction j with
  | zero =>
    intro r hj hr hm hs ha hb
    have ho := or_bit (j := 0) (by omega) hr hm (by omega)
    simp only [Nat.zero_add, Int.pow_zero, Int.pow_one] at *
    have e : (r + 1 + 1) * (r + 1 + 1) = (r + 2) * (r + 2) := by grind
    by_cases hc : (r + 1) * (r + 1) ≤ a
    · have hl := last (r + 1) (by omega) hc (by omega)
      refine Ev.step (fun k => ?_) hl
      have ht : (r + 1) ≤ wrap64 (Int.tdiv 9223372036854775807 (r + 1)) := by
        rw [Int.tdiv_eq_ediv_of_nonneg (by omega), wrap64_id (floor_in (by omega) ⟨by omega, by omega⟩), try_iff (by omega)]; omega
      have hn := Int.mul_nonneg (show 0 ≤ r + 1 by omega) (show 0 ≤ r + 1 by omega)
      simp only [fixed_Sqrt.l0, ho]
      rw [if_pos (by omega), if_neg (by omega), if_pos ht, wrap64_id' (by omega) (by omega), if_pos hc]; rfl
    · have hl := last r hr ha (by omega)
      refine Ev.step (fun k => ?_) hl
      simp only [fixed_Sqrt.l0, ho]
      rw [if_pos (by omega), if_neg (by omega)]
      split
      · rename_i ht
        rw [Int.tdiv_eq_ediv_of_nonneg (by omega), wrap64_id (floor_in (by omega) ⟨by omega, by omega⟩), try_iff (by omega)] at ht
        have hn := Int.mul_nonneg (show 0 ≤ r + 1 by omega) (show 0 ≤ r + 1 by omega)
        rw [wrap64_id' (by omega) (by omega), if_neg hc]; rfl
      · rfl
  | succ j ih =>
    intro r hj hr hm hs ha hb
    have hp : (0 : Int) < 2 ^ (j + 1) := Int.pow_pos (by omega)
    have ho := or_bit (j := j + 1) (by omega) hr hm (by omega)
    have e1 : (2 : Int) ^ (j + 1 + 1) = 2 ^ (j + 1) * 2 := Int.pow_succ _ _
    have e2 : (2 : Int) ^ (j + 1) = 2 ^ j * 2 := Int.pow_succ _ _
    have hh : (2 : Int) ^ (j + 1) / 2 = 2 ^ j := by rw [e2]; omega
    have hd : (2 : Int) ^ (j + 1) ∣ r := by
      have : (2 : Int) ^ (j + 1 + 1) ∣ r := Int.dvd_of_emod_eq_zero hm
      exact Int.dvd_trans ⟨2, e1⟩ this
    have hm1 : r % 2 ^ (j + 1) = 0 := Int.emod_eq_zero_of_dvd hd
    have hm2 : (r + 2 ^ (j + 1)) % 2 ^ (j + 1) = 0 := Int.emod_eq_zero_of_dvd (Int.dvd_add hd (Int.dvd_refl _))
    by_cases hc : (r + 2 ^ (j + 1)) * (r + 2 ^ (j + 1)) ≤ a
    · have e : r + 2 ^ (j + 1) + 2 ^ (j + 1) = r + 2 ^ (j + 1 + 1) := by omega
      have hl := ih (r + 2 ^ (j + 1)) (by omega) (by omega) hm2 (by omega) hc (by rw [e]; exact hb)
      refine Ev.step (fun k => ?_) hl
      have ht : (r + 2 ^ (j + 1)) ≤ wrap64 (Int.tdiv 9223372036854775807 (r + 2 ^ (j + 1))) := by
        rw [Int.tdiv_eq_ediv_of_nonneg (by omega), wrap64_id (floor_in (by omega) ⟨by omega, by omega⟩), try_iff (by omega)]; omega
      have hn := Int.mul_nonneg (show 0 ≤ r + 2 ^ (j + 1) by omega) (show 0 ≤ r + 2 ^ (j + 1) by omega)
      simp only [fixed_Sqrt.l0, ho]
      rw [if_pos (by omega), if_neg (by omega), if_pos ht, wrap64_id' (by omega) (by omega), if_pos hc, hh]
    · have hl := ih r (by omega) hr hm1 (by omega) ha (by omega)
      refine Ev.step (fun k => ?_) hl
      simp only [fixed_Sqrt.l0, ho]
      rw [if_pos (by omega), if_neg (by omega), hh]
      split
      · rename_i ht
        rw [Int.tdiv_eq_ediv_of_nonneg (by omega), wrap64_id (floor_in (by omega) ⟨by omega, by omega⟩), try_iff (by omega)] at ht
        have hn := Int.mul_nonneg (show 0 ≤ r + 2 ^ (j + 1) by omega) (show 0 ≤ r + 2 ^ (j + 1) by omega)
        rw [wrap64_id' (by omega) (by omega), if_neg hc]
      · rfl
theorem Sqrt_f (a : Int) (ha : I64 a) : Ev (fun k => fixed_Sqrt.f k a) (sqrtS a) := by
  unfold fixed_Sqrt.f sqrtS
  by_cases h : a < 0
  · simp only [h, if_true]; exact Ev.now _
  · simp only [h, if_false]
    have := Sqrt_l a (by omega) ha.2 31 0 (by omega) (by omega) (by decide) (by decide) (by omega) (by unfold I64 at ha; simp; omega)
    simpa using this

theorem half_pow (j : Nat) (hj : j ≤ 31) : wrap64 (Int.tdiv (2 ^ (j + 1)) 2) = 2 ^ j := by
  have hp : (0 : Int) < 2 ^ j := Int.pow_pos (by omega)
  have hq := pow_in (s := (j : Int)) (by omega) (by omega)
  simp only [Int.toNat_natCast] at hq
  have e2 : (2 : Int) ^ (j + 1) = 2 ^ j * 2 := Int.pow_succ _ _
  rw [Int.tdiv_eq_ediv_of_nonneg (by omega), e2, Int.mul_ediv_cancel _ (by omega), wrap64_id' (by omega) (by omega)]
theorem rSqrt_l (a : Int) (h0 : 0 ≤ a) (h1 : a ≤ 9223372036854775807) : ∀ (j : Nat) (r : Int), j ≤ 31 → 0 ≤ r → r + 2 ^ (j + 1) ≤ 4294967296 → r * r ≤ a → a < (r + 2 ^ (j + 1)) * (r + 2 ^ (j + 1)) → Ev (fun k => heraldref02_Sqrt.l0 k a r (2 ^ j)) (sq a, 0) := by
  have last : ∀ r : Int, 0 ≤ r → r * r ≤ a → a < (r + 1) * (r + 1) → Ev (fun k => heraldref02_Sqrt.l0 k a r 0) (sq a, 0) := by
    intro r hr ha hb
    rw [sq_unique hr ha hb]
    exact Ev.step (fun k => by simp only [heraldref02_Sqrt.l0]; rw [if_neg (by omega)]) (Ev.now _)
  -- what is tried, and what comes of it
  have one : ∀ (k : Nat) (r d : Int), 0 ≤ r → 0 < d → d ≤ 4294967296 → r + d ≤ 4294967296 → heraldref02_Sqrt.l0 (k + 1) a r d = if (r + d) * (r + d) ≤ a then heraldref02_Sqrt.l0 k a (r + d) (wrap64 (Int.tdiv d 2)) else heraldref02_Sqrt.l0 k a r (wrap64 (Int.tdiv d 2)) := by
    intro k r d hr hd hd2 hs
    have hn := Int.mul_nonneg (show 0 ≤ r + d by omega) (show 0 ≤ r + d by omega)
    simp only [heraldref02_Sqrt.l0]
    rw [if_pos (by omega), wrap64_id' (x := r + d) (by omega) (by omega)]
    by_cases hq : r + d ≤ 3037000499
    · have : (r + d) * (r + d) ≤ 3037000499 * 3037000499 := Int.mul_le_mul hq hq (by omega) (by omega)
      rw [if_pos hq, wrap64_id' (x := (r + d) * (r + d)) (by omega) (by omega)]
    · have : 3037000500 * 3037000500 ≤ (r + d) * (r + d) := Int.mul_le_mul (by omega) (by omega) (by omega) (by omega)
      rw [if_neg hq, if_neg (by omega)]
  intro j
  induction j with
  | zero =>
    intro r hj hr hs ha hb
    simp only [Nat.zero_add, Int.pow_zero, Int.pow_one] at *
    have e : (r + 1 + 1) * (r + 1 + 1) = (r + 2) * (r + 2) := by grind
    have z : wrap64 (Int.tdiv 1 2) = 0 := by unfold wrap64; rfl
    by_cases hc : (r + 1) * (r + 1) ≤ a
    · refine Ev.step (fun k => ?_) (last (r + 1) (by omega) hc (by omega))
      rw [one k r 1 hr (by omega) (by omega) (by omega), if_pos hc, z]
    · refine Ev.step (fun k => ?_) (last r hr ha (by omega))
      rw [one k r 1 hr (by omega) (by omega) (by omega), if_neg hc, z]
  | succ j ih =>
    intro r hj hr hs ha hb
    have hp : (0 : Int) < 2 ^ (j + 1) := Int.pow_pos (by omega)
    have e1 : (2 : Int) ^ (j + 1 + 1) = 2 ^ (j + 1) * 2 := Int.pow_succ _ _
    have z := half_pow j (by omega)
    by_cases hc : (r + 2 ^ (j + 1)) * (r + 2 ^ (j + 1)) ≤ a
    · have e : r + 2 ^ (j + 1) + 2 ^ (j + 1) = r + 2 ^ (j + 1 + 1) := by omega
      refine Ev.step (fun k => ?_) (ih (r + 2 ^ (j + 1)) (by omega) (by omega) (by omega) hc (by rw [e]; exact hb))
      rw [one k r _ hr hp (by omega) (by omega), if_pos hc, z]
    · refine Ev.step (fun k => ?_) (ih r (by omega) hr (by omega) ha (by omega))
      rw [one k r _ hr hp (by omega) (by omega), if_neg hc, z]
theorem rSqrt_f (a : Int) (ha : I64 a) : Ev (fun k => heraldref02_Sqrt.f k a) (sqrtS a) := by
  unfold heraldref02_Sqrt.f sqrtS
  by_cases h : a < 0
  · simp only [h, if_true]; exact Ev.now _
  · simp only [h, if_false]
    have := rSqrt_l a (by omega) ha.2 31 0 (by omega) (by omega) (by decide) (by omega) (by unfold I64 at ha; simp; omega)
    simpa using this

theorem sq_bound {x M : Int} (h0 : -M ≤ x) (h1 : x ≤ M) : 0 ≤ x * x ∧ x * x ≤ M * M := by
  have a := Int.mul_nonneg (show 0 ≤ M - x by omega) (show 0 ≤ M + x by omega)
  have e : (M - x) * (M + x) = M * M - x * x := by grind
  have z : 0 ≤ x * x := by
    by_cases h : 0 ≤ x
    · exact Int.mul_nonneg h h
    · have := Int.mul_nonneg (show 0 ≤ -x by omega) (show 0 ≤ -x by omega)
      rw [Int.neg_mul_neg] at this; exact this
  omega
/-- The sum of squares of numbers of the reach. -/
def sqs : List Int → Int → Option Int
  | [], s => some s
  | x :: t, s => if x < -268435456 ∨ x > 268435456 then none else sqs t (s + x * x)
theorem sqs_bound : ∀ (t : List Int) (s r : Int), sqs t s = some r → s ≤ r ∧ r ≤ s + 72057594037927936 * t.length
  | [], s, r, h => by simp [sqs] at h; simp; omega
  | x :: t, s, r, h => by
    simp only [sqs] at h
    split at h
    · cases h
    · rename_i hx
      have hb := sq_bound (x := x) (M := 268435456) (by omega) (by omega)
      have := sqs_bound t _ _ h
      simp; omega
theorem sqs_reach : ∀ (t : List Int) (s r : Int), sqs t s = some r → ∀ x ∈ t, -268435456 ≤ x ∧ x ≤ 268435456
  | [], s, r, h => by simp
  | x :: t, s, r, h => by
    simp only [sqs] at h
    split at h
    · cases h
    · rename_i hx
      intro y hy
      rcases List.mem_cons.mp hy with rfl | hy
      · omega
      · exact sqs_reach t _ _ h y hy
/-- The root of a row whose squares' sum is s. -/
def rt (s n : Int) : Int := if sq (s / n) = 0 then 1 else sq (s / n)
def rootS (l : List Int) : Int × Int := if l.length = 0 ∨ l.length > 64 then (0, 1) else match sqs l 0 with
  | none => (0, 90)
  | some s => (rt s l.length, 0)
theorem rt_in {s n : Int} (hs : 0 ≤ s) (hs1 : s ≤ 4611686018427387904) (hn : 0 < n) : 1 ≤ rt s n ∧ rt s n ≤ 4294967296 := by
  have h := sq_spec (x := s / n) (Int.ediv_nonneg hs (by omega))
  have hd : s / n ≤ s := Int.ediv_le_self n hs
  have hb : sq (s / n) ≤ 4294967296 := by
    by_cases hc : sq (s / n) ≤ 4294967296
    · exact hc
    · have : 4294967296 * 4294967296 ≤ sq (s / n) * sq (s / n) := Int.mul_le_mul (by omega) (by omega) (by omega) (by omega)
      omega
  unfold rt
  split <;> omega
theorem rootS_pos {l : List Int} {r : Int} (h : rootS l = (r, 0)) : 1 ≤ r ∧ r ≤ 4294967296 ∧ l.length ≠ 0 ∧ l.length ≤ 64 ∧ ∀ x ∈ l, -268435456 ≤ x ∧ x ≤ 268435456 := by
  unfold rootS at h
  split at h
  · simp at h
  · rename_i hl
    split at h
    · simp at h
    · rename_i s hs
      have hb := sqs_bound _ _ _ hs
      simp at h
      have := rt_in (s := s) (n := (l.length : Int)) (by omega) (by omega) (by omega)
      exact ⟨by omega, by omega, by omega, by omega, sqs_reach _ _ _ hs⟩
/-- A number of a row, brought to size r, with a gain. -/
def cell (r x g : Int) : Int := narrow (near (Int.tdiv (64 * x) r * g) 64)
theorem tdiv_abs {a r M : Int} (h0 : -M ≤ a) (h1 : a ≤ M) : -M ≤ Int.tdiv a r ∧ Int.tdiv a r ≤ M := by
  have h := Int.natAbs_tdiv_le_natAbs a r
  omega
theorem mul_abs {a g M : Int} (h0 : -M ≤ a) (h1 : a ≤ M) (g0 : -128 ≤ g) (g1 : g ≤ 127) : -(M * 128) ≤ a * g ∧ a * g ≤ M * 128 := by
  have hM : 0 ≤ M := by omega
  have e : (a * g).natAbs = a.natAbs * g.natAbs := Int.natAbs_mul a g
  have : a.natAbs * g.natAbs ≤ M.natAbs * 128 := Nat.mul_le_mul (by omega) (by omega)
  have e2 : ((M.natAbs * 128 : Nat) : Int) = M * 128 := by omega
  omega
theorem rowS_64 (a : Int) : roundS a 6 = (near a 64, 0) := by
  unfold roundS; rw [if_neg (by omega)]; rfl

theorem sqrtS_pos {a : Int} (h : 0 ≤ a) : sqrtS a = (sq a, 0) := by unfold sqrtS; rw [if_neg (by omega)]
theorem avg_in {s : Int} {n : Nat} (h0 : 0 ≤ s) (h1 : s ≤ 4611686018427387904) : 0 ≤ s / (n : Int) ∧ s / (n : Int) ≤ 4611686018427387904 := by
  have a := Int.ediv_nonneg h0 (show 0 ≤ (n : Int) by omega)
  have b : s / (n : Int) ≤ s := Int.ediv_le_self _ h0
  omega
/-- What is left of a row, from a sum on. -/
def rootGo (n : Int) (t : List Int) (s : Int) : Int × Int := match sqs t s with
  | none => (0, 90)
  | some s => (rt s n, 0)
theorem rootS_eq (l : List Int) : rootS l = if l.length = 0 ∨ l.length > 64 then (0, 1) else rootGo l.length l 0 := rfl

theorem root_l (l : List Int) (hl0 : l.length ≠ 0) (hl1 : l.length ≤ 64) : ∀ (t : List Int) (i : Nat) (s : Int), l.drop i = t → i ≤ l.length → 0 ≤ s → s ≤ 72057594037927936 * i → Ev (fun k => norm_root.l0 k l s l l.length i) (rootGo l.length t s) := by
  intro t
  induction t with
  | nil =>
    intro i s h hi1 hs0 hs1
    have hi := drop_nil h
    simp only [rootGo, sqs]
    have hd := avg_in (n := l.length) hs0 (by omega)
    have hq := Sqrt_f (s / (l.length : Int)) ⟨by omega, by omega⟩
    refine Ev.step (f := fun k => (fixed_Sqrt.f k (s / (l.length : Int))).bind fun bt => (some (mx 1 bt.1, 0))) (fun k => ?_) ?_
    · simp only [norm_root.l0]
      rw [if_neg (by omega), if_neg (by omega), Int.tdiv_eq_ediv_of_nonneg hs0, wrap64_id' (by omega) (by omega)]
    · refine Ev.bind hq ?_
      have := sq_spec hd.1
      have e : mx 1 (sqrtS (s / (l.length : Int))).1 = rt s l.length := by
        rw [sqrtS_pos hd.1]; dsimp only
        unfold rt mx; repeat' split
        all_goals omega
      rw [e]; exact Ev.now _
  | cons x t ih =>
    intro i s h hi1 hs0 hs1
    obtain ⟨hi, hg, hd⟩ := drop_cons h
    have hr := rd_of_get hg
    simp only [rootGo, sqs]
    by_cases h1 : x < -268435456
    · rw [if_pos (Or.inl h1)]
      refine Ev.step (f := fun _ => some (0, 90)) (fun k => ?_) (Ev.now _)
      simp only [norm_root.l0, hr]
      rw [if_pos (by omega), if_pos (by omega), if_pos (by omega), if_pos h1]
    · by_cases h2 : x > 268435456
      · rw [if_pos (Or.inr h2)]
        refine Ev.step (f := fun _ => some (0, 90)) (fun k => ?_) (Ev.now _)
        simp only [norm_root.l0, hr]
        rw [if_pos (by omega), if_pos (by omega), if_pos (by omega), if_neg h1, if_pos h2]
      · rw [if_neg (by omega)]
        have hb := sq_bound (x := x) (M := 268435456) (by omega) (by omega)
        refine Ev.step (fun k => ?_) (ih (i + 1) (s + x * x) hd (by omega) (by omega) (by omega))
        simp only [norm_root.l0, hr]
        rw [if_pos (by omega), if_pos (by omega), if_pos (by omega), if_neg h1, if_neg h2, wrap64_id' (x := x * x) (by omega) (by omega), wrap64_id' (by omega) (by omega), wrap64_id' (by omega) (by omega)]
        rfl
theorem root_f (l : List Int) : Ev (fun k => norm_root.f k l) (rootS l) := by
  rw [rootS_eq]
  unfold norm_root.f
  by_cases h : l.length = 0
  · rw [if_pos (Or.inl h)]
    simp only [show (l.length : Int) = 0 by omega, if_true]
    exact Ev.step (fun k => by simp only [norm_root.j0, if_true]) (Ev.now _)
  · by_cases h2 : l.length > 64
    · rw [if_pos (Or.inr h2)]
      simp only [show ¬ (l.length : Int) = 0 by omega, show (l.length : Int) > 64 by omega, if_false, decide_true]
      exact Ev.step (fun k => by simp only [norm_root.j0, if_true]) (Ev.now _)
    · rw [if_neg (by omega)]
      simp only [show ¬ (l.length : Int) = 0 by omega, show ¬ (l.length : Int) > 64 by omega, if_false, decide_false]
      refine Ev.step (fun k => ?_) (root_l l h (by omega) l 0 0 rfl (by omega) (by omega) (by omega))
      simp only [norm_root.j0]; rfl

theorem rRoot_l (l : List Int) (hl0 : l.length ≠ 0) (hl1 : l.length ≤ 64) : ∀ (t : List Int) (i : Nat) (s : Int), l.drop i = t → i ≤ l.length → 0 ≤ s → s ≤ 72057594037927936 * i → Ev (fun k => heraldref09_Root.l0 k l s i) (rootGo l.length t s) := by
  intro t
  induction t with
  | nil =>
    intro i s h hi1 hs0 hs1
    have hi := drop_nil h
    simp only [rootGo, sqs]
    have hd := avg_in (n := l.length) hs0 (by omega)
    have hq := rSqrt_f (s / (l.length : Int)) ⟨by omega, by omega⟩
    refine Ev.step (f := fun k => (heraldref02_Sqrt.f k (s / (l.length : Int))).bind fun bt => (if bt.1 = 0 then (some (1, 0)) else (some (bt.1, 0)))) (fun k => ?_) ?_
    · simp only [heraldref09_Root.l0]
      rw [if_neg (by omega), if_neg (by omega), Int.tdiv_eq_ediv_of_nonneg hs0, wrap64_id' (by omega) (by omega)]
    · refine Ev.bind hq ?_
      rw [sqrtS_pos hd.1]; dsimp only
      unfold rt
      split <;> exact Ev.now _
  | cons x t ih =>
    intro i s h hi1 hs0 hs1
    obtain ⟨hi, hg, hd⟩ := drop_cons h
    have hr := rd_of_get hg
    simp only [rootGo, sqs]
    by_cases h1 : x > 268435456
    · rw [if_pos (Or.inr h1)]
      refine Ev.step (f := fun _ => some (0, 90)) (fun k => ?_) (Ev.now _)
      simp only [heraldref09_Root.l0, hr]
      rw [if_pos (by omega), if_pos (by omega), if_pos h1]
    · by_cases h2 : x < -268435456
      · rw [if_pos (Or.inl h2)]
        refine Ev.step (f := fun _ => some (0, 90)) (fun k => ?_) (Ev.now _)
        simp only [heraldref09_Root.l0, hr]
        rw [if_pos (by omega), if_pos (by omega), if_neg h1, if_pos h2]
      · rw [if_neg (by omega)]
        have hb := sq_bound (x := x) (M := 268435456) (by omega) (by omega)
        refine Ev.step (fun k => ?_) (ih (i + 1) (s + x * x) hd (by omega) (by omega) (by omega))
        simp only [heraldref09_Root.l0, hr]
        rw [if_pos (by omega), if_pos (by omega), if_neg h1, if_neg h2, wrap64_id' (x := x * x) (by omega) (by omega), wrap64_id' (by omega) (by omega), wrap64_id' (by omega) (by omega)]
        rfl
theorem rRoot_f (l : List Int) : Ev (fun k => heraldref09_Root.f k l) (rootS l) := by
  rw [rootS_eq]
  unfold heraldref09_Root.f
  by_cases h : l.length = 0
  · rw [if_pos (Or.inl h)]
    simp only [show (l.length : Int) < 1 by omega, if_true]
    exact Ev.step (fun k => by simp only [heraldref09_Root.j0, if_true]) (Ev.now _)
  · by_cases h2 : l.length > 64
    · rw [if_pos (Or.inr h2)]
      simp only [show ¬ (l.length : Int) < 1 by omega, show (l.length : Int) > 64 by omega, if_false, decide_true]
      exact Ev.step (fun k => by simp only [heraldref09_Root.j0, if_true]) (Ev.now _)
    · rw [if_neg (by omega)]
      simp only [show ¬ (l.length : Int) < 1 by omega, show ¬ (l.length : Int) > 64 by omega, if_false, decide_false]
      refine Ev.step (fun k => ?_) (rRoot_l l h (by omega) l 0 0 rfl (by omega) (by omega) (by omega))
      simp only [heraldref09_Root.j0]; rfl

theorem set_mid {α : Type} (a : List α) (x v : α) (b : List α) (i : Int) (hi : i = a.length) : (a ++ x :: b).set i.toNat v = (a ++ [v]) ++ b := by
  subst hi; simp
/-- The rest of a row, brought to size r, with gains. -/
def cells (r : Int) : List Int → List Int → List Int
  | x :: t, g :: u => cell r x g :: cells r t u
  | _, _ => []
theorem cells_length (r : Int) : ∀ t u : List Int, t.length = u.length → (cells r t u).length = t.length
  | [], _, _ => rfl
  | x :: t, [], h => by simp at h
  | x :: t, g :: u, h => by simp only [cells, List.length_cons]; rw [cells_length r t u (by simpa using h)]
def rowS (l g : List Int) : List Int × Int := if l.length = g.length then (if (rootS l).2 = 0 then (cells (rootS l).1 l g, 0) else ([], (rootS l).2)) else ([], 1)
theorem cell_code {r x g : Int} (hr0 : 1 ≤ r) (hr1 : r ≤ 4294967296) (hx0 : -268435456 ≤ x) (hx1 : x ≤ 268435456) (hg : I8 g) :
    wrap64 ((wrap64 (Int.tdiv (wrap64 (64 * x)) r)) * (wrap64 g)) = Int.tdiv (64 * x) r * g ∧ I64 (Int.tdiv (64 * x) r * g) := by
  unfold I8 at hg
  have ht := tdiv_abs (a := 64 * x) (r := r) (M := 17179869184) (by omega) (by omega)
  have hm := mul_abs (g := g) ht.1 ht.2 hg.1 hg.2
  rw [wrap64_id' (x := 64 * x) (by omega) (by omega), wrap64_id' (x := Int.tdiv (64 * x) r) (by omega) (by omega), wrap64_id' (x := g) (by omega) (by omega), wrap64_id' (by omega) (by omega)]
  exact ⟨rfl, by omega, by omega⟩

theorem Row_l (l g : List Int) (r : Int) (hr0 : 1 ≤ r) (hr1 : r ≤ 4294967296) (hl1 : l.length ≤ 64) (hlg : l.length = g.length) (hx : ∀ x ∈ l, -268435456 ≤ x ∧ x ≤ 268435456) (hg : ∀ x ∈ g, I8 x) : ∀ (t u : List Int) (i : Nat) (a : List Int), l.drop i = t → g.drop i = u → a.length = i → i ≤ l.length → Ev (fun k => norm_Row.l0 k g r (a ++ List.replicate t.length 0) l l.length i) (a ++ cells r t u, 0) := by
  intro t
  induction t with
  | nil =>
    intro u i a h hu ha hi1
    have hi := drop_nil h
    refine Ev.step (f := fun _ => some (a, 0)) (fun k => ?_) (by simp only [cells, List.append_nil]; exact Ev.now _)
    simp only [norm_Row.l0]
    rw [if_neg (by omega)]; simp
  | cons x t ih =>
    intro u i a h hu ha hi1
    obtain ⟨hi, hgx, hd⟩ := drop_cons h
    have hrx := rd_of_get hgx
    have hxm := hx x (List.mem_of_getElem? hgx)
    cases u with
    | nil => have := drop_nil hu; omega
    | cons y u =>
      obtain ⟨hj, hgy, hd'⟩ := drop_cons hu
      have hry := rd_of_get hgy
      have hym := hg y (List.mem_of_getElem? hgy)
      obtain ⟨c1, c2⟩ := cell_code hr0 hr1 hxm.1 hxm.2 hym
      have hih := ih u (i + 1) (a ++ [cell r x y]) hd hd' (by simp [ha]) (by omega)
      refine Ev.step (f := fun k => norm_Row.l0 k g r ((a ++ [cell r x y]) ++ List.replicate t.length 0) l l.length ((i + 1 : Nat) : Int)) (fun k => ?_) (by simpa [cells] using hih)
      simp only [norm_Row.l0, hrx, hry]
      rw [if_pos (by omega), if_pos (by omega), if_pos (by omega), if_neg (by omega), if_pos (by omega), c1, Round_f _ _ c2, rowS_64]
      simp only [Option.bind_some, Narrow_f]
      rw [if_pos (by simp [ha]; omega), wrap64_id' (by omega) (by omega), List.length_cons, List.replicate_succ, set_mid _ _ _ _ _ (by omega)]
      rfl
theorem Row_f (l g : List Int) (hg : ∀ x ∈ g, I8 x) : Ev (fun k => norm_Row.f k l g) (rowS l g) := by
  unfold norm_Row.f rowS
  by_cases h : l.length = g.length
  · rw [if_pos h]
    simp only [show (l.length : Int) = (g.length : Int) by omega, if_true]
    refine Ev.bind (root_f l) ?_
    by_cases h0 : (rootS l).2 = 0
    · obtain ⟨p0, p1, p2, p3, p4⟩ := rootS_pos (l := l) (r := (rootS l).1) (by rw [← h0])
      simp only [h0, if_true, show (0 : Int) ≤ (g.length : Int) by omega, Int.toNat_natCast]
      simp only [show g.length ≤ 281474976710656 by omega, if_true]
      have := Row_l l g _ p0 p1 p3 h p4 hg l g 0 [] rfl rfl rfl (by omega)
      simpa [h] using this
    · simp only [h0, if_false]; exact Ev.now _
  · rw [if_neg h]
    simp only [show ¬ (l.length : Int) = (g.length : Int) by omega, if_false]
    exact Ev.now _

theorem rRow_l (l g : List Int) (r : Int) (hr0 : 1 ≤ r) (hr1 : r ≤ 4294967296) (hl1 : l.length ≤ 64) (hlg : l.length = g.length) (hx : ∀ x ∈ l, -268435456 ≤ x ∧ x ≤ 268435456) (hg : ∀ x ∈ g, I8 x) : ∀ (t u : List Int) (i : Nat) (a : List Int), l.drop i = t → g.drop i = u → a.length = i → i ≤ l.length → Ev (fun k => heraldref09_Row.l0 k l g r a i) (a ++ cells r t u, 0) := by
  intro t
  induction t with
  | nil =>
    intro u i a h hu ha hi1
    have hi := drop_nil h
    refine Ev.step (f := fun _ => some (a, 0)) (fun k => ?_) (by simp only [cells, List.append_nil]; exact Ev.now _)
    simp only [heraldref09_Row.l0]
    rw [if_neg (by omega)]
  | cons x t ih =>
    intro u i a h hu ha hi1
    obtain ⟨hi, hgx, hd⟩ := drop_cons h
    have hrx := rd_of_get hgx
    have hxm := hx x (List.mem_of_getElem? hgx)
    cases u with
    | nil => have := drop_nil hu; omega
    | cons y u =>
      obtain ⟨hj, hgy, hd'⟩ := drop_cons hu
      have hry := rd_of_get hgy
      have hym := hg y (List.mem_of_getElem? hgy)
      obtain ⟨c1, c2⟩ := cell_code hr0 hr1 hxm.1 hxm.2 hym
      have hih := ih u (i + 1) (a ++ [cell r x y]) hd hd' (by simp [ha]) (by omega)
      have fin : ∀ v, v = Int.tdiv (64 * x) r * y → Ev (fun k => (heraldref02_Round.f k v 6).bind fun bt => ((heraldref02_Narrow.f bt.1).bind fun t149 => (if a.length < 140737488355328 then (heraldref09_Row.l0 k l g r (a ++ [t149]) (wrap64 ((i : Int) + 1))) else (none)))) (a ++ cells r (x :: t) (y :: u), 0) := by
        rintro v rfl
        refine Ev.bind (rRound_f _ 6 c2) ?_
        have ec : narrow (near (Int.tdiv (64 * x) r * y) 64) = cell r x y := rfl
        simp only [ec, rowS_64, rNarrow_f, Option.bind_some, show a.length < 140737488355328 by omega, if_true, wrap64_id' (x := (i : Int) + 1) (by omega) (by omega)]
        simpa [cells] using hih
      unfold I8 at hym
      by_cases hneg : x < 0
      · refine Ev.step (f := fun k => heraldref09_Row.j1 k l g r a i (-x)) (fun k => ?_) ?_
        · simp only [heraldref09_Row.l0, hrx]
          rw [if_pos (by omega), if_pos (by omega), if_pos hneg, wrap64_id' (by omega) (by omega)]
        · refine Ev.step (fun k => ?_) (fin (-(Int.tdiv (64 * -x) r) * y) (by rw [Int.mul_neg, Int.neg_tdiv, Int.neg_neg]))
          have ht := tdiv_abs (a := 64 * -x) (r := r) (M := 17179869184) (by omega) (by omega)
          have hm := mul_abs (a := -(Int.tdiv (64 * -x) r)) (g := y) (M := 17179869184) (by omega) (by omega) hym.1 hym.2
          simp only [heraldref09_Row.j1, hrx, hry]
          rw [if_neg (by omega), if_pos (by omega), if_pos (by omega), if_pos hneg, if_pos (by omega), wrap64_id' (x := 64 * -x) (by omega) (by omega), wrap64_id' (x := Int.tdiv (64 * -x) r) (by omega) (by omega), wrap64_id' (x := -(Int.tdiv (64 * -x) r)) (by omega) (by omega), wrap64_id' (x := y) (by omega) (by omega), wrap64_id' (x := -(Int.tdiv (64 * -x) r) * y) (by omega) (by omega)]
      · refine Ev.step (f := fun k => heraldref09_Row.j1 k l g r a i x) (fun k => ?_) ?_
        · simp only [heraldref09_Row.l0, hrx]
          rw [if_pos (by omega), if_pos (by omega), if_neg hneg]
        · refine Ev.step (fun k => ?_) (fin _ c1)
          simp only [heraldref09_Row.j1, hrx, hry]
          rw [if_neg (by omega), if_pos (by omega), if_pos (by omega), if_neg hneg, if_pos (by omega)]
theorem rRow_f (l g : List Int) (hg : ∀ x ∈ g, I8 x) : Ev (fun k => heraldref09_Row.f k l g) (rowS l g) := by
  unfold heraldref09_Row.f rowS
  by_cases h : l.length = g.length
  · rw [if_pos h]
    simp only [show (l.length : Int) = (g.length : Int) by omega, if_true]
    refine Ev.bind (rRoot_f l) ?_
    by_cases h0 : (rootS l).2 = 0
    · obtain ⟨p0, p1, p2, p3, p4⟩ := rootS_pos (l := l) (r := (rootS l).1) (by rw [← h0])
      simp only [h0, if_true]
      exact rRow_l l g _ p0 p1 p3 h p4 hg l g 0 [] rfl rfl rfl (by omega)
    · simp only [h0, if_false]; exact Ev.now _
  · rw [if_neg h]
    simp only [show ¬ (l.length : Int) = (g.length : Int) by omega, if_false]
    exact Ev.now _

theorem rows_l (a : List Int) (ha : a.length ≤ 4611686018427387904) : ∀ (d i : Nat), i + d = a.length → Ev (fun k => heraldlaw09_rows.l0 k a a i) true := by
  intro d
  induction d with
  | zero =>
    intro i hi
    exact Ev.step (fun k => by simp only [heraldlaw09_rows.l0]; rw [if_neg (by omega)]) (Ev.now _)
  | succ d ih =>
    intro i hi
    refine Ev.step (fun k => ?_) (ih (i + 1) (by omega))
    simp only [heraldlaw09_rows.l0]
    rw [if_pos (by omega), if_pos (by omega), if_pos (by omega), if_pos trivial, wrap64_id' (by omega) (by omega)]; rfl
theorem rows_same (a : List Int) (ha : a.length ≤ 4611686018427387904) : Ev (fun k => heraldlaw09_rows.f k a a) true := by
  unfold heraldlaw09_rows.f; simp only [if_true]
  exact rows_l a ha a.length 0 (by omega)

theorem awake_ev : Ev (fun k => heraldlaw09_awake.f k) true := Ev.of (k := 100) heraldlaw09_awake.mono (by decide +kernel)
end Go.Proofs.Ytgdbcknofcnfbaa.L
