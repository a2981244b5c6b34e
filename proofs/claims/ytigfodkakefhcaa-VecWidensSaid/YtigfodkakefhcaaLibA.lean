/- Lemmas on the printed functions: what each answers, in plain words of Lean; on condition that the numbers are of their kinds. -/
import Derived.Test.YtigfodkakefhcaaPx10
import Derived.Test.YtigfodkakefhcaaPx11
import Derived.Test.YtigfodkakefhcaaPx5
import Derived.Test.YtigfodkakefhcaaPx6
import Derived.Test.YtigfodkakefhcaaPx9
import Derived.Test.YtigfodkakefhcaaMath
namespace Go.Proofs.Ytigfodkakefhcaa.L
open Go Go.RowKit Go.Proofs.Ytigfodkakefhcaa.M Go.Proofs.Ytigfodkakefhcaa.P Go.Proofs.YtigfodkakefhcaaW.PrintWords Go.Proofs.YtigfodkakefhcaaW.PrintLast Go.Proofs.YtigfodkakefhcaaW.PrintMore
set_option linter.unusedVariables false
set_option linter.unusedSimpArgs false

theorem Floor_f (a d : Int) (ha : I64 a) (hd : I64 d) : fixed_Floor.f a d = some (floorS a d) := by
  unfold fixed_Floor.f; exact floor_code a d ha hd

theorem rFloor_f (a d : Int) (ha : I64 a) (hd : I64 d) : heraldref02_Floor.f a d = some (floorS a d) := by
  unfold heraldref02_Floor.f; exact floor_code a d ha hd

theorem Near_f (a d : Int) (ha : I64 a) (hd : I64 d) : fixed_Near.f a d = some (nearS a d) := by
  unfold fixed_Near.f nearS; rw [Floor_f a d ha hd]; simp only [Option.bind_some, floorS]
  by_cases h : d < 1
  · rw [if_pos h, if_pos h]; rfl
  · rw [if_neg h, if_neg h]; simp only [if_true]; exact near_code a d ha hd (by omega)

theorem rNear_f (a d : Int) (ha : I64 a) (hd : I64 d) : heraldref02_Near.f a d = some (nearS a d) := by
  unfold heraldref02_Near.f nearS; rw [rFloor_f a d ha hd]; simp only [Option.bind_some, floorS]
  by_cases h : d < 1
  · rw [if_pos h, if_pos h]; rfl
  · rw [if_neg h, if_neg h]; simp only [if_true]; exact near_code' a d ha hd (by omega)

theorem Round_f (a s : Int) (ha : I64 a) : fixed_Round.f a s = some (roundS a s) := by
  unfold fixed_Round.f roundS
  by_cases h : s < 0
  · rw [if_pos h, if_pos (Or.inl h)]
  · by_cases h' : s > 62
    · rw [if_neg h, if_pos h', if_pos (Or.inr h')]
    · rw [if_neg h, if_neg h', if_pos (by omega), if_neg (by omega), shl_one (by omega) (by omega)]
      have hp := pow_in (s := s) (by omega) (by omega)
      rw [Near_f a _ ha ⟨by omega, by omega⟩]
      unfold nearS; rw [if_neg (by omega)]; rfl

theorem rRound_l (a : Int) (ha : I64 a) (s : Nat) (hs : s ≤ 62) : ∀ (d i : Nat), i + d = s → Ev (fun k => heraldref02_Round.l0 k a s (2 ^ i) i) (near a (2 ^ s), 0) := by
  intro d
  induction d with
  | zero =>
    intro i hi
    obtain rfl : i = s := by omega
    have hp := pow_in (s := (i : Int)) (by omega) (by omega)
    simp only [Int.toNat_natCast] at hp
    refine Ev.step (f := fun _ => some (near a (2 ^ i), 0)) (fun k => ?_) (Ev.now _)
    simp only [heraldref02_Round.l0]
    rw [if_neg (by omega), rNear_f a _ ha ⟨by omega, by omega⟩]
    unfold nearS; rw [if_neg (by omega)]; rfl
  | succ d ih =>
    intro i hi
    refine Ev.step (fun k => ?_) (ih (i + 1) (by omega))
    have hp := pow_in (s := ((i + 1 : Nat) : Int)) (by omega) (by omega)
    simp only [Int.toNat_natCast] at hp
    simp only [heraldref02_Round.l0]
    rw [if_pos (by omega), ← Int.pow_succ, wrap64_id' (by omega) (by omega), wrap64_id' (by omega) (by omega)]
    rfl
theorem rRound_f (a s : Int) (ha : I64 a) : Ev (fun k => heraldref02_Round.f k a s) (roundS a s) := by
  unfold heraldref02_Round.f roundS
  by_cases h : s < 0
  · simp only [h, true_or, if_true]
    exact Ev.step (fun k => by simp only [heraldref02_Round.j0, if_true]) (Ev.now _)
  · by_cases h' : s > 62
    · simp only [h, h', decide_true, or_true, if_true, if_false]
      exact Ev.step (fun k => by simp only [heraldref02_Round.j0, if_true]) (Ev.now _)
    · obtain ⟨n, rfl⟩ := Int.eq_ofNat_of_zero_le (show 0 ≤ s by omega)
      simp only [h, h', decide_false, or_self, if_false]
      refine Ev.step (fun k => ?_) (rRound_l a ha n (by omega) n 0 (by omega))
      simp only [heraldref02_Round.j0]; rfl

def clamp (x lo hi : Int) : Int := if x < lo then lo else if x > hi then hi else x
theorem Clamp_f (x lo hi : Int) : fixed_Clamp.f x lo hi = some (clamp x lo hi) := by
  unfold fixed_Clamp.f clamp; repeat' split
  all_goals rfl
def narrow (x : Int) : Int := clamp x (-127) 127
theorem narrow_in (x : Int) : -127 ≤ narrow x ∧ narrow x ≤ 127 := by
  unfold narrow clamp; repeat' split
  all_goals omega
theorem narrow_i8 (x : Int) : IntKind.i8.wrap (clamp x (-127) 127) = narrow x := by
  have h := narrow_in x
  exact i8wrap_id ⟨by unfold narrow at h; omega, by unfold narrow at h; omega⟩

theorem Narrow_f (x : Int) : fixed_Narrow.f x = some (narrow x) := by
  unfold fixed_Narrow.f; rw [Clamp_f]; simp only [Option.bind_some, narrow_i8]

theorem rClamp_f (x lo hi : Int) : heraldref02_Clamp.f x lo hi = some (clamp x lo hi) := by
  unfold heraldref02_Clamp.f clamp; repeat' split
  all_goals rfl

theorem rNarrow_f (x : Int) : heraldref02_Narrow.f x = some (narrow x) := by
  unfold heraldref02_Narrow.f; rw [rClamp_f]; simp only [Option.bind_some, narrow_i8]
end Go.Proofs.Ytigfodkakefhcaa.L
