/- The program's root of a row is at least 1, its square is not above the mean of the squares (but where it is 1), and the next number's square is above it; what is refused is what the reference refuses. No condition but that the row can be handed in. -/
import Derived.Test.YtgdbcknofcnfbaaPx10
import Derived.Test.YtgdbcknofcnfbaaLibB
namespace Go.Proofs.Ytgdbcknofcnfbaa.Pure
open Go Go.RowKit Go.Proofs.Ytgdbcknofcnfbaa.M Go.Proofs.Ytgdbcknofcnfbaa.L Go.Proofs.Ytgdbcknofcnfbaa.P Go.Proofs.YtgdbcknofcnfbaaW.PrintWords Go.Proofs.YtgdbcknofcnfbaaW.PrintLast Go.Proofs.YtgdbcknofcnfbaaW.PrintMore
set_option linter.unusedVariables false
set_option linter.unusedSimpArgs false

theorem rootS_no {l : List Int} (h : (rootS l).2 ≠ 0) : (rootS l).1 = 0 := by
  unfold rootS at *
  split
  · rfl
  · rename_i hl
    split
    · rfl
    · rename_i s hs
      rw [if_neg hl, hs] at h
      exact absurd rfl h
theorem sizes_l (l : List Int) (r : Int) (hl1 : l.length ≤ 64) (m : Int) (hfin : Ev (fun k => (heraldref02_Floor.f m (l.length : Int)).bind fun bt => (if r ≥ 1 then (if r = 1 then (some (decide ((wrap64 ((wrap64 (r + 1)) * (wrap64 (r + 1)))) > bt.1))) else (if (wrap64 (r * r)) ≤ bt.1 then (some (decide ((wrap64 ((wrap64 (r + 1)) * (wrap64 (r + 1)))) > bt.1))) else (some false))) else (some false))) true) :
    ∀ (t : List Int) (i : Nat) (s : Int), l.drop i = t → i ≤ l.length → 0 ≤ s → s ≤ 72057594037927936 * i → sqs t s = some m → Ev (fun k => heraldlaw09_NormSize.l0 k l r s i) true := by
  intro t
  induction t with
  | nil =>
    intro i s h hi1 hs0 hs1 hm
    have hi := drop_nil h
    simp only [sqs, Option.some.injEq] at hm
    subst hm
    refine Ev.step (fun k => ?_) hfin
    simp only [heraldlaw09_NormSize.l0]
    rw [if_neg (by omega)]
  | cons x t ih =>
    intro i s h hi1 hs0 hs1 hm
    obtain ⟨hi, hg, hd⟩ := drop_cons h
    have hr := rd_of_get hg
    simp only [sqs] at hm
    split at hm
    · cases hm
    · rename_i hx
      have hb := sq_bound (x := x) (M := 268435456) (by omega) (by omega)
      refine Ev.step (fun k => ?_) (ih (i + 1) (s + x * x) hd (by omega) (by omega) (by omega) hm)
      simp only [heraldlaw09_NormSize.l0, hr]
      rw [if_pos (by omega), if_pos (by omega), wrap64_id' (x := x * x) (by omega) (by omega), wrap64_id' (by omega) (by omega), wrap64_id' (by omega) (by omega)]
      rfl
theorem NormSize : heraldlaw09_NormSize.Pure := by
  intro l h1 h2 h3
  refine Ev.rounds (g := fun k => heraldlaw09_NormSize.f k l) ?_
  unfold heraldlaw09_NormSize.f
  refine Ev.bind (Root_f l) ?_
  refine Ev.bind (rRoot_f l) ?_
  refine Ev.bind awake_ev ?_
  simp only [if_true]
  by_cases h0 : (rootS l).2 = 0
  · obtain ⟨p0, p1, p2, p3, p4⟩ := rootS_pos (l := l) (r := (rootS l).1) (by rw [← h0])
    refine Ev.step (f := fun k => heraldlaw09_NormSize.l0 k l (rootS l).1 0 0) (fun k => ?_) ?_
    · simp only [heraldlaw09_NormSize.j0, bne_self_eq_false, Bool.false_eq_true, if_false, h0, if_true]
    · cases hs : sqs l 0 with
      | none =>
        exfalso
        unfold rootS at h0
        rw [if_neg (by omega), hs] at h0
        simp at h0
      | some m =>
        have hrt : (rootS l).1 = rt m l.length := by
          unfold rootS
          rw [if_neg (by omega), hs]
        have hb := sqs_bound _ _ _ hs
        refine sizes_l l _ (by omega) m ?_ l 0 0 rfl (by omega) (by omega) (by omega) hs
        have hav := avg_in (s := m) (n := l.length) (by omega) (by omega)
        obtain ⟨q0, q1, q2⟩ := sq_spec hav.1
        have hbig : sq (m / (l.length : Int)) ≤ 2147483648 := by
          by_cases hc : sq (m / (l.length : Int)) ≤ 2147483648
          · exact hc
          · have : 2147483649 * 2147483649 ≤ sq (m / (l.length : Int)) * sq (m / (l.length : Int)) := Int.mul_le_mul (by omega) (by omega) (by omega) (by omega)
            omega
        rw [rFloor_f m _ ⟨by omega, by omega⟩ ⟨by omega, by omega⟩]
        unfold floorS
        rw [if_neg (by omega)]
        simp only [Option.bind_some]
        have hge : (rootS l).1 ≥ 1 := p0
        simp only [hge, if_true]
        rw [hrt]
        by_cases hz : sq (m / (l.length : Int)) = 0
        · have e : rt m l.length = 1 := by unfold rt; rw [if_pos hz]
          rw [hz] at q2
          simp only [e, if_true]
          have e2 : wrap64 ((wrap64 (1 + 1)) * (wrap64 (1 + 1))) = 4 := by unfold wrap64; rfl
          rw [e2]
          have : decide (4 > m / (l.length : Int)) = true := decide_eq_true (by omega)
          rw [this]; exact Ev.now _
        · have e : rt m l.length = sq (m / (l.length : Int)) := by unfold rt; rw [if_neg hz]
          rw [e]
          have hn0 := Int.mul_nonneg q0 q0
          have hn : (sq (m / (l.length : Int)) + 1) * (sq (m / (l.length : Int)) + 1) ≤ 2147483649 * 2147483649 := Int.mul_le_mul (by omega) (by omega) (by omega) (by omega)
          rw [wrap64_id' (x := sq (m / (l.length : Int)) + 1) (by omega) (by omega), wrap64_id' (x := (sq (m / (l.length : Int)) + 1) * (sq (m / (l.length : Int)) + 1)) (by omega) (by omega), wrap64_id' (x := sq (m / (l.length : Int)) * sq (m / (l.length : Int))) (by omega) (by omega)]
          have hd : decide ((sq (m / (l.length : Int)) + 1) * (sq (m / (l.length : Int)) + 1) > m / (l.length : Int)) = true := decide_eq_true (by omega)
          rw [hd]
          simp only [q1, if_true, ite_self]
          exact Ev.now _
  · refine Ev.step (f := fun _ => some ((rootS l).1 == 0)) (fun k => ?_) ?_
    · simp only [heraldlaw09_NormSize.j0, bne_self_eq_false, Bool.false_eq_true, if_false, h0]
    · rw [rootS_no h0]; exact Ev.now _

end Go.Proofs.Ytgdbcknofcnfbaa.Pure
