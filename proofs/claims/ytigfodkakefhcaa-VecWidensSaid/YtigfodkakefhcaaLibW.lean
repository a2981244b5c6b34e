/- Lemmas on the printed functions: what each answers, in plain words of Lean; on condition that the numbers are of their kinds. -/
import Derived.Test.YtigfodkakefhcaaPx11
import Derived.Test.YtigfodkakefhcaaPx13
import Derived.Test.YtigfodkakefhcaaPx14
import Derived.Test.YtigfodkakefhcaaPx15
import Derived.Test.YtigfodkakefhcaaPx3
import Derived.Test.YtigfodkakefhcaaPx5
import Derived.Test.YtigfodkakefhcaaPx6
import Derived.Test.YtigfodkakefhcaaPx9
import Derived.Test.YtigfodkakefhcaaMath
import Derived.Test.YtigfodkakefhcaaLibV
import Derived.Test.YtigfodkakefhcaaLibB
namespace Go.Proofs.Ytigfodkakefhcaa.L
open Go Go.RowKit Go.Proofs.Ytigfodkakefhcaa.M Go.Proofs.Ytigfodkakefhcaa.P Go.Proofs.YtigfodkakefhcaaW.PrintWords Go.Proofs.YtigfodkakefhcaaW.PrintLast Go.Proofs.YtigfodkakefhcaaW.PrintMore
set_option linter.unusedVariables false
set_option linter.unusedSimpArgs false

theorem fit64_one (l : List Int) : Ev (fun k => vec_fit_int64.f k [l]) (if l.length > 1048576 then 81 else 0) := by
  have w1 : wrap64 1 = 1 := by unfold wrap64; rfl
  unfold vec_fit_int64.f
  by_cases h : l.length > 1048576
  · rw [if_pos h]
    refine Ev.step (f := fun _ => some 81) (fun k => ?_) (Ev.now _)
    have h' : (1048576 : Int) < l.length := by omega
    simp [vec_fit_int64.l0, rd_L3, h']
  · rw [if_neg h]
    refine Ev.step (f := fun k => vec_fit_int64.l0 k [l] [l] 1 1) (fun k => ?_) ?_
    · have h' : ¬ (1048576 : Int) < l.length := by omega
      simp [vec_fit_int64.l0, rd_L3, w1, h']
    · refine Ev.step (f := fun k => vec_fit_int64.l1 k [l] [l] 1 0) (fun k => ?_) ?_
      · simp [vec_fit_int64.l0]
      · refine Ev.step (f := fun k => vec_fit_int64.l1 k [l] [l] 1 1) (fun k => ?_) ?_
        · simp [vec_fit_int64.l1, rd_L3, w1]
        · exact Ev.step (f := fun _ => some 0) (fun k => by simp [vec_fit_int64.l1]) (Ev.now _)
theorem fit64_two (l m : List Int) : Ev (fun k => vec_fit_int64.f k [l, m]) (if l.length > 1048576 ∨ m.length > 1048576 then 81 else if l.length = m.length then 0 else 80) := by
  have w1 : wrap64 1 = 1 := by unfold wrap64; rfl
  have w2 : wrap64 2 = 2 := by unfold wrap64; rfl
  unfold vec_fit_int64.f
  by_cases h : l.length > 1048576
  · rw [if_pos (Or.inl h)]
    refine Ev.step (f := fun _ => some 81) (fun k => ?_) (Ev.now _)
    have h' : (1048576 : Int) < l.length := by omega
    simp [vec_fit_int64.l0, rd_L3, h']
  · refine Ev.step (f := fun k => vec_fit_int64.l0 k [l, m] [l, m] 2 1) (fun k => ?_) ?_
    · have h' : ¬ (1048576 : Int) < l.length := by omega
      simp [vec_fit_int64.l0, rd_L3, w1, h']
    · by_cases h2 : m.length > 1048576
      · rw [if_pos (Or.inr h2)]
        refine Ev.step (f := fun _ => some 81) (fun k => ?_) (Ev.now _)
        have h' : (1048576 : Int) < m.length := by omega
        simp [vec_fit_int64.l0, rd_L3, h']
      · rw [if_neg (by omega)]
        refine Ev.step (f := fun k => vec_fit_int64.l0 k [l, m] [l, m] 2 2) (fun k => ?_) ?_
        · have h' : ¬ (1048576 : Int) < m.length := by omega
          simp [vec_fit_int64.l0, rd_L3, w2, h']
        · refine Ev.step (f := fun k => vec_fit_int64.l1 k [l, m] [l, m] 2 0) (fun k => ?_) ?_
          · simp [vec_fit_int64.l0]
          · refine Ev.step (f := fun k => vec_fit_int64.l1 k [l, m] [l, m] 2 1) (fun k => ?_) ?_
            · simp [vec_fit_int64.l1, rd_L3, w1]
            · by_cases h3 : l.length = m.length
              · rw [if_pos h3]
                refine Ev.step (f := fun k => vec_fit_int64.l1 k [l, m] [l, m] 2 2) (fun k => ?_) ?_
                · simp [vec_fit_int64.l1, rd_L3, w2, h3]
                · exact Ev.step (f := fun _ => some 0) (fun k => by simp [vec_fit_int64.l1]) (Ev.now _)
              · rw [if_neg h3]
                refine Ev.step (f := fun _ => some 80) (fun k => ?_) (Ev.now _)
                have h4 : ¬ (m.length : Int) = (l.length : Int) := by omega
                have h5 : ¬ m.length = l.length := by omega
                simp [vec_fit_int64.l1, rd_L3, h4, h5]

theorem fit8_one (l : List Int) : Ev (fun k => vec_fit_int8.f k [l]) (if l.length > 1048576 then 81 else 0) := by
  have w1 : wrap64 1 = 1 := by unfold wrap64; rfl
  unfold vec_fit_int8.f
  by_cases h : l.length > 1048576
  · rw [if_pos h]
    refine Ev.step (f := fun _ => some 81) (fun k => ?_) (Ev.now _)
    have h' : (1048576 : Int) < l.length := by omega
    simp [vec_fit_int8.l0, rd_L1, h']
  · rw [if_neg h]
    refine Ev.step (f := fun k => vec_fit_int8.l0 k [l] [l] 1 1) (fun k => ?_) ?_
    · have h' : ¬ (1048576 : Int) < l.length := by omega
      simp [vec_fit_int8.l0, rd_L1, w1, h']
    · refine Ev.step (f := fun k => vec_fit_int8.l1 k [l] [l] 1 0) (fun k => ?_) ?_
      · simp [vec_fit_int8.l0]
      · refine Ev.step (f := fun k => vec_fit_int8.l1 k [l] [l] 1 1) (fun k => ?_) ?_
        · simp [vec_fit_int8.l1, rd_L1, w1]
        · exact Ev.step (f := fun _ => some 0) (fun k => by simp [vec_fit_int8.l1]) (Ev.now _)
theorem fit8_two (l m : List Int) : Ev (fun k => vec_fit_int8.f k [l, m]) (if l.length > 1048576 ∨ m.length > 1048576 then 81 else if l.length = m.length then 0 else 80) := by
  have w1 : wrap64 1 = 1 := by unfold wrap64; rfl
  have w2 : wrap64 2 = 2 := by unfold wrap64; rfl
  unfold vec_fit_int8.f
  by_cases h : l.length > 1048576
  · rw [if_pos (Or.inl h)]
    refine Ev.step (f := fun _ => some 81) (fun k => ?_) (Ev.now _)
    have h' : (1048576 : Int) < l.length := by omega
    simp [vec_fit_int8.l0, rd_L1, h']
  · refine Ev.step (f := fun k => vec_fit_int8.l0 k [l, m] [l, m] 2 1) (fun k => ?_) ?_
    · have h' : ¬ (1048576 : Int) < l.length := by omega
      simp [vec_fit_int8.l0, rd_L1, w1, h']
    · by_cases h2 : m.length > 1048576
      · rw [if_pos (Or.inr h2)]
        refine Ev.step (f := fun _ => some 81) (fun k => ?_) (Ev.now _)
        have h' : (1048576 : Int) < m.length := by omega
        simp [vec_fit_int8.l0, rd_L1, h']
      · rw [if_neg (by omega)]
        refine Ev.step (f := fun k => vec_fit_int8.l0 k [l, m] [l, m] 2 2) (fun k => ?_) ?_
        · have h' : ¬ (1048576 : Int) < m.length := by omega
          simp [vec_fit_int8.l0, rd_L1, w2, h']
        · refine Ev.step (f := fun k => vec_fit_int8.l1 k [l, m] [l, m] 2 0) (fun k => ?_) ?_
          · simp [vec_fit_int8.l0]
          · refine Ev.step (f := fun k => vec_fit_int8.l1 k [l, m] [l, m] 2 1) (fun k => ?_) ?_
            · simp [vec_fit_int8.l1, rd_L1, w1]
            · by_cases h3 : l.length = m.length
              · rw [if_pos h3]
                refine Ev.step (f := fun k => vec_fit_int8.l1 k [l, m] [l, m] 2 2) (fun k => ?_) ?_
                · simp [vec_fit_int8.l1, rd_L1, w2, h3]
                · exact Ev.step (f := fun _ => some 0) (fun k => by simp [vec_fit_int8.l1]) (Ev.now _)
              · rw [if_neg h3]
                refine Ev.step (f := fun _ => some 80) (fun k => ?_) (Ev.now _)
                have h4 : ¬ (m.length : Int) = (l.length : Int) := by omega
                have h5 : ¬ m.length = l.length := by omega
                simp [vec_fit_int8.l1, rd_L1, h4, h5]

theorem shl_pow {x : Int} {s : Nat} (hs : s ≤ 55) (hx : I8 x) : shl .i64 x s = x * 2 ^ s ∧ I64 (x * 2 ^ s) := by
  have hp : (2 : Nat) ^ s ≤ 2 ^ 55 := Nat.pow_le_pow_right (by decide) hs
  have hp' : ((2 ^ s : Nat) : Int) ≤ ((2 ^ 55 : Nat) : Int) := by exact_mod_cast hp
  have h0 : (0 : Int) < 2 ^ s := Int.pow_pos (by omega)
  simp only [Int.natCast_pow, Int.cast_ofNat_Int] at hp'
  have e : (x * 2 ^ s).natAbs = x.natAbs * ((2 : Int) ^ s).natAbs := Int.natAbs_mul _ _
  unfold I8 at hx
  have hm : x.natAbs * ((2 : Int) ^ s).natAbs ≤ 128 * 36028797018963968 := Nat.mul_le_mul (by omega) (by omega)
  have hI : I64 (x * 2 ^ s) := ⟨by omega, by omega⟩
  refine ⟨?_, hI⟩
  have e0 : IntKind.bits .i64 = 64 := rfl
  have e1 : min (s : Int).toNat (IntKind.bits .i64) = s := by rw [e0]; simp; omega
  unfold shl
  rw [e1, i64wrap_eq, wrap64_id hI]
theorem u64_id {x : Int} (h0 : 0 ≤ x) (h1 : x < 18446744073709551616) : IntKind.u64.wrap x = x := by
  simp only [IntKind.wrap, IntKind.bits, IntKind.signed]; simp; omega
def widenS (l : List Int) (s : Int) : List Int × Int := if l.length > 1048576 then ([], 81) else if s < 0 ∨ s > 55 then ([], 20) else ((List.range l.length).map fun i : Nat => rd l i * 2 ^ s.toNat, 0)
def scaleS (l : List Int) (s : Int) : List Int × Int := if l.length > 1048576 then ([], 81) else if s < 0 ∨ s > 62 then ([], 20) else ((List.range l.length).map fun i : Nat => (roundS (rd l i) s).1, 0)
def shrinkS (l : List Int) (s : Int) : List Int × Int := ((List.range (scaleS l s).1.length).map fun i : Nat => narrow (rd (scaleS l s).1 i), (scaleS l s).2)
theorem widenS_len (l : List Int) (s : Int) : (widenS l s).1.length ≤ l.length := by
  unfold widenS; repeat' split
  all_goals simp
theorem scaleS_len (l : List Int) (s : Int) : (scaleS l s).1.length ≤ l.length ∧ (scaleS l s).1.length ≤ 1048576 := by
  unfold scaleS; repeat' split
  all_goals (simp; try omega)
theorem shrinkS_len (l : List Int) (s : Int) : (shrinkS l s).1.length ≤ l.length ∧ (shrinkS l s).1.length ≤ 1048576 := by
  unfold shrinkS; have := scaleS_len l s; simp; omega
theorem rd_i64 {l : List Int} (h : ∀ x ∈ l, I64 x) (i : Int) : I64 (rd l i) := rd_all h ⟨by omega, by omega⟩ i

theorem Widen_f (l : List Int) (s : Int) (hl : ∀ x ∈ l, I8 x) : Ev (fun k => vec_Widen.f k l s) (widenS l s) := by
  unfold vec_Widen.f widenS
  refine Ev.bind (fit8_one l) ?_
  by_cases h : l.length > 1048576
  · simp only [h, if_true]; exact Ev.now _
  · simp only [h, if_false, if_true]
    by_cases h0 : s < 0
    · simp only [h0, true_or, if_true]
      exact Ev.step (fun k => by simp only [vec_Widen.j0, if_true]) (Ev.now _)
    · by_cases h1 : s > 55
      · simp only [h0, h1, or_true, if_true, if_false, decide_true]
        exact Ev.step (fun k => by simp only [vec_Widen.j0, if_true]) (Ev.now _)
      · simp only [h0, h1, or_self, if_false, decide_false]
        obtain ⟨n, rfl⟩ := Int.eq_ofNat_of_zero_le (show 0 ≤ s by omega)
        refine Ev.step (f := fun k => vec_Widen.l0 k n (List.replicate l.length 0) l l.length 0) (fun k => ?_) ?_
        · simp only [vec_Widen.j0, Bool.false_eq_true, if_false, Int.toNat_natCast]
          rw [if_pos (by omega), if_pos (by omega)]
        · have := ev_loop (fun k i => vec_Widen.l0 k n ((List.range i).map (fun i : Nat => rd l i * 2 ^ n) ++ List.replicate (l.length - i) 0) l l.length i) ((List.range l.length).map (fun i : Nat => rd l i * 2 ^ n), 0) l.length (fun _ => True) trivial (fun _ => ?_) (fun i hi _ ih => ?_)
          · simpa using this
          · refine Ev.step (f := fun _ => some _) (fun k => ?_) (Ev.now _)
            simp only [vec_Widen.l0]; rw [if_neg (by omega)]; simp
          · refine Ev.step (fun k => ?_) (ih trivial)
            obtain ⟨s1, s2⟩ := shl_pow (s := n) (by omega) (rd_i8 hl i)
            simp only [vec_Widen.l0]
            rw [if_pos (by omega), if_pos (by omega), if_pos (by omega), if_pos (by omega), if_pos (by simp; omega), wrap64_id (rd_i8 hl i).i64, s1, wrap64_id' (x := (i : Int) + 1) (by omega) (by omega), Int.toNat_natCast, rng_set (g := fun i : Nat => rd l i * 2 ^ n) hi]
            rfl

theorem rWiden_f (l : List Int) (s : Int) (hl : ∀ x ∈ l, I8 x) : Ev (fun k => heraldref08_Widen.f k l s) (widenS l s) := by
  unfold heraldref08_Widen.f widenS
  by_cases h : l.length > 1048576
  · simp only [h, show (l.length : Int) > 1048576 by omega, if_true]; exact Ev.now _
  · simp only [h, show ¬ (l.length : Int) > 1048576 by omega, if_false]
    by_cases h0 : s < 0
    · simp only [h0, true_or, if_true]
      exact Ev.step (fun k => by simp only [heraldref08_Widen.j0, if_true]) (Ev.now _)
    · by_cases h1 : s > 55
      · simp only [h0, h1, or_true, if_true, if_false, decide_true]
        exact Ev.step (fun k => by simp only [heraldref08_Widen.j0, if_true]) (Ev.now _)
      · simp only [h0, h1, or_self, if_false, decide_false]
        obtain ⟨n, rfl⟩ := Int.eq_ofNat_of_zero_le (show 0 ≤ s by omega)
        refine ev_succ ?_
        simp only [heraldref08_Widen.j0, Bool.false_eq_true, if_false]
        refine ev_loop (fun k i => heraldref08_Widen.l0 k n ((List.range i).map (fun i : Nat => rd l i * 2 ^ n)) l l.length i) ((List.range l.length).map (fun i : Nat => rd l i * 2 ^ n), 0) l.length (fun _ => True) trivial (fun _ => ?_) (fun i hi _ ih => ?_)
        · refine Ev.step (f := fun _ => some _) (fun k => ?_) (Ev.now _)
          simp only [heraldref08_Widen.l0]; rw [if_neg (by omega)]
        · refine Ev.step (fun k => ?_) (ih trivial)
          obtain ⟨s1, s2⟩ := shl_pow (s := n) (by omega) (rd_i8 hl i)
          have s3 := shl_one (s := (n : Int)) (by omega) (by omega)
          simp only [heraldref08_Widen.l0]
          rw [u64_id (x := (n : Int)) (by omega) (by omega), if_pos (by omega), if_pos (by omega), if_pos (by omega), if_pos (by omega), if_pos (by simp; omega), wrap64_id (rd_i8 hl i).i64, s3, Int.toNat_natCast, wrap64_id s2, wrap64_id' (x := (i : Int) + 1) (by omega) (by omega), rng_snoc]
          rfl

theorem Scale_f (l : List Int) (s : Int) (hl : ∀ x ∈ l, I64 x) : Ev (fun k => vec_Scale.f k l s) (scaleS l s) := by
  unfold vec_Scale.f scaleS
  refine Ev.bind (fit64_one l) ?_
  by_cases h : l.length > 1048576
  · simp only [h, if_true]; exact Ev.now _
  · simp only [h, if_false, if_true, Round_f 0 s ⟨by omega, by omega⟩, Option.bind_some]
    by_cases h0 : s < 0 ∨ s > 62
    · simp only [roundS, h0, if_true]; exact Ev.now _
    · have hr : (roundS 0 s).2 = 0 := by unfold roundS; rw [if_neg h0]
      simp only [hr, h0, if_false, if_true, show (0 : Int) ≤ (l.length : Int) by omega, Int.toNat_natCast, show l.length ≤ 35184372088832 by omega]
      have := ev_loop (fun k i => vec_Scale.l0 k s ((List.range i).map (fun i : Nat => (roundS (rd l i) s).1) ++ List.replicate (l.length - i) 0) l l.length i) ((List.range l.length).map (fun i : Nat => (roundS (rd l i) s).1), 0) l.length (fun _ => True) trivial (fun _ => ?_) (fun i hi _ ih => ?_)
      · simpa using this
      · refine Ev.step (f := fun _ => some _) (fun k => ?_) (Ev.now _)
        simp only [vec_Scale.l0]; rw [if_neg (by omega)]; simp
      · refine Ev.step (fun k => ?_) (ih trivial)
        simp only [vec_Scale.l0]
        rw [if_pos (by omega), if_pos (by omega), if_pos (by omega), Round_f _ _ (rd_i64 hl i)]
        simp only [Option.bind_some]
        rw [if_pos (by simp; omega), wrap64_id' (x := (i : Int) + 1) (by omega) (by omega), Int.toNat_natCast, rng_set (g := fun i : Nat => (roundS (rd l i) s).1) hi]
        rfl

theorem rScale_f (l : List Int) (s : Int) (hl : ∀ x ∈ l, I64 x) : Ev (fun k => heraldref08_Scale.f k l s) (scaleS l s) := by
  unfold heraldref08_Scale.f scaleS
  by_cases h : l.length > 1048576
  · simp only [h, show (l.length : Int) > 1048576 by omega, if_true]; exact Ev.now _
  · simp only [h, show ¬ (l.length : Int) > 1048576 by omega, if_false]
    by_cases h0 : s < 0
    · simp only [h0, true_or, if_true]
      exact Ev.step (fun k => by simp only [heraldref08_Scale.j0, if_true]) (Ev.now _)
    · by_cases h1 : s > 62
      · simp only [h0, h1, or_true, if_true, if_false, decide_true]
        exact Ev.step (fun k => by simp only [heraldref08_Scale.j0, if_true]) (Ev.now _)
      · simp only [h0, h1, or_self, if_false, decide_false]
        refine ev_succ ?_
        simp only [heraldref08_Scale.j0, Bool.false_eq_true, if_false]
        refine ev_loop (fun k i => heraldref08_Scale.l0 k s ((List.range i).map (fun i : Nat => (roundS (rd l i) s).1)) l l.length i) ((List.range l.length).map (fun i : Nat => (roundS (rd l i) s).1), 0) l.length (fun _ => True) trivial (fun _ => ?_) (fun i hi _ ih => ?_)
        · refine Ev.step (f := fun _ => some _) (fun k => ?_) (Ev.now _)
          simp only [heraldref08_Scale.l0]; rw [if_neg (by omega)]
        · refine Ev.step (f := fun k => (heraldref02_Round.f k (rd l i) s).bind fun bt => heraldref08_Scale.l0 k s ((List.range i).map (fun i : Nat => (roundS (rd l i) s).1) ++ [bt.1]) l l.length ((i + 1 : Nat) : Int)) (fun k => ?_) ?_
          · simp only [heraldref08_Scale.l0]
            rw [if_pos (by omega), if_pos (by omega), if_pos (by omega), wrap64_id' (x := (i : Int) + 1) (by omega) (by omega)]
            simp only [List.length_map, List.length_range, show i < 17592186044416 by omega, if_true]; rfl
          · refine Ev.bind (rRound_f _ _ (rd_i64 hl i)) ?_
            have := ih trivial
            rw [rng_snoc] at this; exact this

theorem Shrink_f (l : List Int) (s : Int) (hl : ∀ x ∈ l, I64 x) : Ev (fun k => vec_Shrink.f k l s) (shrinkS l s) := by
  unfold vec_Shrink.f
  refine Ev.bind (Scale_f l s hl) ?_
  have hn := scaleS_len l s
  by_cases h : (scaleS l s).2 = 0
  · simp only [h, if_true, show (0 : Int) ≤ ((scaleS l s).1.length : Int) by omega, Int.toNat_natCast, show (scaleS l s).1.length ≤ 281474976710656 by omega]
    unfold shrinkS
    rw [h]
    generalize (scaleS l s).1 = m at *
    have := ev_loop (fun k i => vec_Shrink.l0 k ((List.range i).map (fun i : Nat => narrow (rd m i)) ++ List.replicate (m.length - i) 0) m m.length i) ((List.range m.length).map (fun i : Nat => narrow (rd m i)), 0) m.length (fun _ => True) trivial (fun _ => ?_) (fun i hi _ ih => ?_)
    · simpa using this
    · refine Ev.step (f := fun _ => some _) (fun k => ?_) (Ev.now _)
      simp only [vec_Shrink.l0]; rw [if_neg (by omega)]; simp
    · refine Ev.step (fun k => ?_) (ih trivial)
      simp only [vec_Shrink.l0]
      rw [if_pos (by omega), if_pos (by omega), if_pos (by omega), Narrow_f]
      simp only [Option.bind_some]
      rw [if_pos (by simp; omega), wrap64_id' (x := (i : Int) + 1) (by omega) (by omega), Int.toNat_natCast, rng_set (g := fun i : Nat => narrow (rd m i)) hi]
      rfl
  · simp only [h, if_false]
    have e : (scaleS l s).1 = [] := by
      unfold scaleS at h ⊢; repeat' split
      · rfl
      · rfl
      · rename_i h1 h2; rw [if_neg h1, if_neg h2] at h; exact absurd rfl h
    unfold shrinkS; rw [e]; exact Ev.now _

theorem rShrink_f (l : List Int) (s : Int) (hl : ∀ x ∈ l, I64 x) : Ev (fun k => heraldref08_Shrink.f k l s) (shrinkS l s) := by
  unfold heraldref08_Shrink.f
  refine Ev.bind (rScale_f l s hl) ?_
  have hn := scaleS_len l s
  unfold shrinkS
  generalize (scaleS l s).1 = m at *
  generalize (scaleS l s).2 = e at *
  refine ev_loop (fun k i => heraldref08_Shrink.l0 k e ((List.range i).map (fun i : Nat => narrow (rd m i))) m m.length i) ((List.range m.length).map (fun i : Nat => narrow (rd m i)), e) m.length (fun _ => True) trivial (fun _ => ?_) (fun i hi _ ih => ?_)
  · refine Ev.step (f := fun _ => some _) (fun k => ?_) (Ev.now _)
    simp only [heraldref08_Shrink.l0]; rw [if_neg (by omega)]
  · refine Ev.step (fun k => ?_) (ih trivial)
    simp only [heraldref08_Shrink.l0]
    rw [if_pos (by omega), if_pos (by omega), if_pos (by omega), rNarrow_f]
    simp only [Option.bind_some]
    rw [if_pos (by simp; omega), wrap64_id' (x := (i : Int) + 1) (by omega) (by omega), rng_snoc]
    rfl

/-- Whether all sums up to a place fit. -/
def fits (a b : List Int) (i : Nat) : Prop := ∀ j, j < i → (addS (rd a j) (rd b j)).2 = true
instance (a b : List Int) (i : Nat) : Decidable (fits a b i) := by unfold fits; exact inferInstance
def addsS (a b : List Int) : List Int × Int := if a.length > 1048576 ∨ b.length > 1048576 then ([], 81) else if a.length = b.length then (if fits a b a.length then ((List.range a.length).map fun i : Nat => (addS (rd a i) (rd b i)).1, 0) else ([], 82)) else ([], 80)
theorem addsS_len (a b : List Int) : (addsS a b).1.length ≤ a.length := by
  unfold addsS; repeat' split
  all_goals simp

theorem vAdd_f (a b : List Int) (ha : ∀ x ∈ a, I64 x) (hb : ∀ x ∈ b, I64 x) : Ev (fun k => vec_Add.f k a b) (addsS a b) := by
  unfold vec_Add.f addsS
  refine Ev.bind (fit64_two a b) ?_
  by_cases h : a.length > 1048576 ∨ b.length > 1048576
  · simp only [h, if_true]; exact Ev.now _
  · by_cases h2 : a.length = b.length
    · rw [if_neg h, if_pos h2]
      simp only [h, h2, if_false, if_true, show (0 : Int) ≤ (b.length : Int) by omega, Int.toNat_natCast, show b.length ≤ 35184372088832 by omega]
      have := ev_loop (fun k i => vec_Add.l0 k b ((List.range i).map (fun i : Nat => (addS (rd a i) (rd b i)).1) ++ List.replicate (b.length - i) 0) a b.length i) (if fits a b b.length then ((List.range b.length).map (fun i : Nat => (addS (rd a i) (rd b i)).1), 0) else ([], 82)) b.length (fun i => fits a b i) (fun j hj => by omega) (fun hp => ?_) (fun i hi hp ih => ?_)
      · have hb1 : ¬ 1048576 < b.length := by omega
        simpa [hb1] using this
      · rw [if_pos hp]
        refine Ev.step (f := fun _ => some _) (fun k => ?_) (Ev.now _)
        simp only [vec_Add.l0]; rw [if_neg (by omega)]; simp
      · by_cases hc : (addS (rd a i) (rd b i)).2 = true
        · refine Ev.step (fun k => ?_) (ih (fun j hj => by
            by_cases e : j = i
            · subst e; exact hc
            · exact hp j (by omega)))
          simp only [vec_Add.l0]
          rw [if_pos (by omega), if_pos (by omega), if_pos (by omega), if_pos (by omega), Add_f _ _ (rd_i64 ha i) (rd_i64 hb i)]
          simp only [Option.bind_some]
          rw [if_pos (by simp; omega), if_pos hc, wrap64_id' (x := (i : Int) + 1) (by omega) (by omega), Int.toNat_natCast, rng_set (g := fun i : Nat => (addS (rd a i) (rd b i)).1) hi]
          rfl
        · rw [if_neg (fun hf => hc (hf i hi))]
          refine Ev.step (f := fun _ => some ([], 82)) (fun k => ?_) (Ev.now _)
          simp only [vec_Add.l0]
          rw [if_pos (by omega), if_pos (by omega), if_pos (by omega), if_pos (by omega), Add_f _ _ (rd_i64 ha i) (rd_i64 hb i)]
          simp only [Option.bind_some]
          rw [if_pos (by simp; omega), if_neg hc]
    · rw [if_neg h, if_neg h2]
      simp only [h, h2, if_false, show ¬ (80 : Int) = 0 by decide]; exact Ev.now _

theorem rvAdd_f (a b : List Int) (ha : ∀ x ∈ a, I64 x) (hb : ∀ x ∈ b, I64 x) : Ev (fun k => heraldref08_Add.f k a b) (addsS a b) := by
  unfold heraldref08_Add.f addsS
  by_cases h1 : a.length > 1048576
  · simp only [show (a.length : Int) > 1048576 by omega, h1, true_or, if_true]
    exact Ev.step (fun k => by simp only [heraldref08_Add.j0, if_true]) (Ev.now _)
  · by_cases h2 : b.length > 1048576
    · simp only [show ¬ (a.length : Int) > 1048576 by omega, show (b.length : Int) > 1048576 by omega, h2, or_true, if_true, if_false, decide_true]
      exact Ev.step (fun k => by simp only [heraldref08_Add.j0, if_true]) (Ev.now _)
    · simp only [show ¬ (a.length : Int) > 1048576 by omega, show ¬ (b.length : Int) > 1048576 by omega, h1, h2, or_self, if_false, decide_false]
      refine ev_succ ?_
      simp only [heraldref08_Add.j0, Bool.false_eq_true, if_false]
      by_cases h3 : a.length = b.length
      · rw [if_pos h3]
        simp only [show (a.length : Int) = (b.length : Int) by omega, if_true]
        rw [show (if fits a b a.length then ((List.range a.length).map fun i : Nat => (addS (rd a i) (rd b i)).1, (0 : Int)) else ([], 82)) = if fits a b b.length then ((List.range b.length).map fun i : Nat => (addS (rd a i) (rd b i)).1, 0) else ([], 82) by rw [h3]]
        refine ev_loop (fun k i => heraldref08_Add.l0 k a b ((List.range i).map (fun i : Nat => (addS (rd a i) (rd b i)).1)) b.length i) (if fits a b b.length then ((List.range b.length).map (fun i : Nat => (addS (rd a i) (rd b i)).1), 0) else ([], 82)) b.length (fun i => fits a b i) (fun j hj => by omega) (fun hp => ?_) (fun i hi hp ih => ?_)
        · rw [if_pos hp]
          refine Ev.step (f := fun _ => some _) (fun k => ?_) (Ev.now _)
          simp only [heraldref08_Add.l0]; rw [if_neg (by omega)]
        · by_cases hc : (addS (rd a i) (rd b i)).2 = true
          · refine Ev.step (fun k => ?_) (ih (fun j hj => by
              by_cases e : j = i
              · subst e; exact hc
              · exact hp j (by omega)))
            simp only [heraldref08_Add.l0]
            rw [if_pos (by omega), if_pos (by omega), if_pos (by omega), if_pos (by omega), rAdd_f _ _ (rd_i64 ha i) (rd_i64 hb i)]
            simp only [Option.bind_some]
            rw [if_pos hc, if_pos (by simp; omega), wrap64_id' (x := (i : Int) + 1) (by omega) (by omega), rng_snoc]
            rfl
          · rw [if_neg (fun hf => hc (hf i hi))]
            refine Ev.step (f := fun _ => some ([], 82)) (fun k => ?_) (Ev.now _)
            simp only [heraldref08_Add.l0]
            rw [if_pos (by omega), if_pos (by omega), if_pos (by omega), if_pos (by omega), rAdd_f _ _ (rd_i64 ha i) (rd_i64 hb i)]
            simp only [Option.bind_some]
            rw [if_neg hc]
      · rw [if_neg h3]
        simp only [show ¬ (a.length : Int) = (b.length : Int) by omega, if_false]; exact Ev.now _
end Go.Proofs.Ytigfodkakefhcaa.L
