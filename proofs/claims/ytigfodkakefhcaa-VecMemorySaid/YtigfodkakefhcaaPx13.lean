-- Printed by xprint.py (wip): functions, contracts, rows. Lean checks it.
import Derived.Test.YtigfodkakefhcaaPx0
import Derived.Test.YtigfodkakefhcaaPx6
namespace Go.Proofs.Ytigfodkakefhcaa.P
open Go.RowKit Go.Proofs.YtigfodkakefhcaaW.PrintWords Go.Proofs.YtigfodkakefhcaaW.PrintLast Go.Proofs.YtigfodkakefhcaaW.PrintMore
attribute [local go_sem] max2_int min2_int max_two min_two max_three min_three max_four min_four   -- for this text's walks alone
set_option linter.unusedVariables false
set_option linter.unusedSimpArgs false

/-! ### heraldref08_Row: function 27 -/
def heraldref08_Row.f (l0 : List Int) (a1 : Int) (a2 : Int) : Option (List Int × Int) := (heraldref08_Matrix.f l0 a1).bind fun t => if t = 0 then (if a2 < 0 then some ([], 1) else if a2 ≥ (l0.length : Int) / a1 then some ([], 1) else some ((l0.take (a2 * a1 + a1).toNat).drop (a2 * a1).toNat, 0)) else some ([], t)
theorem matrix08_ok {l0 : List Int} {a1 : Int} (h : heraldref08_Matrix.f l0 a1 = some 0) : l0.length ≤ 1048576 ∧ 1 ≤ a1 ∧ (l0.length : Int) % a1 = 0 := by
  unfold heraldref08_Matrix.f at h
  split at h
  · cases h
  · split at h
    · cases h
    · split at h
      · cases h
      · split at h
        · refine ⟨by omega, by omega, by assumption⟩
        · cases h
set_option maxRecDepth 100000 in
set_option maxHeartbeats 1000000 in
/-- What is handed back is a part of what came in: it reads wherever that reads. -/
theorem heraldref08_Row.calls (A0 : Option Addr) (c0 : Nat) (l0 : List Int) (a1 : Int) (a2 : Int) (r1 : List Int) (r2 : Int) (w : World) (hr0 : Kd.C (Kd.int .i8) w A0 l0.length l0) (hc0 : l0.length ≤ c0) (h : heraldref08_Row.f l0 a1 a2 = some (r1, r2)) :
    Calls Try.prog 27 #[.slice A0 l0.length c0, .int .i64 a1, .int .i64 a2] w fun e w' => (∃ (A1 : Option Addr) (c1 : Nat), e = .returned (.tuple #[.slice A1 r1.length c1, .int .i64 r2]) ∧ r1.length ≤ c1 ∧ ∀ W, Kd.C (Kd.int .i8) W A0 l0.length l0 → Kd.C (Kd.int .i8) W A1 r1.length r1) ∧ Drawn0 w w' := by
  have HR0 := Aside0.mk hr0
  have HC0 := Aside0.mk hc0
  clear hr0 hc0
  unfold heraldref08_Row.f at h
  obtain ⟨t, ht, h⟩ := Option.bind_eq_some_iff.mp h
  have HM := Aside0.mk ht
  by_cases c : t = 0
  · rw [if_pos c] at h
    have c1 : (t == 0) = true := beq_iff_eq.mpr c
    have c2 : (t != 0) = false := bne_eq_false_iff_eq.mpr c
    subst c
    obtain ⟨q1, q2, q3⟩ := matrix08_ok ht
    clear ht
    by_cases c3 : a2 < 0
    · rw [if_pos c3] at h
      have c4 : decide (a2 < 0) = true := decide_eq_true c3
      simp only [Option.some.injEq, Prod.mk.injEq] at h
      obtain ⟨rfl, rfl⟩ := h
      clear c3 q1 q2 q3
      go_enter Try.func27, Try.ntmps27
      go_wp2_with (go_at_call 49; (with_reducible refine (heraldref08_Matrix.calls _ _ l0 a1 0 _ HR0.out HC0.out HM.out).mono ?_); rintro e w' ⟨rfl, ⟨nd, rfl⟩⟩)
      go_ret2
      exact ⟨⟨none, 0, rfl, by simp, fun W _ => Kd.C_nil _ W⟩, ⟨⟨nd, rfl⟩⟩⟩
    · rw [if_neg c3] at h
      have c4 : decide (a2 < 0) = false := decide_eq_false c3
      have c5 : (a1 == 0) = false := beq_eq_false_iff_ne.mpr (by omega)
      have hw : wrap64 ((l0.length : Int) / a1) = (l0.length : Int) / a1 := by
        have e1 : (l0.length : Int) / a1 ≤ l0.length := Int.ediv_le_self _ (by omega)
        have e2 : 0 ≤ (l0.length : Int) / a1 := Int.ediv_nonneg (by omega) (by omega)
        unfold wrap64; omega
      by_cases c6 : a2 ≥ (l0.length : Int) / a1
      · rw [if_pos c6] at h
        have c7 : decide ((wrap64 ((l0.length : Int) / a1)) ≤ a2) = true := decide_eq_true (by rw [hw]; exact c6)
        simp only [Option.some.injEq, Prod.mk.injEq] at h
        obtain ⟨rfl, rfl⟩ := h
        have c8 : a1 ≠ 0 := by omega
        clear c3 c6 q1 q2 q3 hw
        go_enter Try.func27, Try.ntmps27
        go_wp2_with (go_at_call 49; (with_reducible refine (heraldref08_Matrix.calls _ _ l0 a1 0 _ HR0.out HC0.out HM.out).mono ?_); rintro e w' ⟨rfl, ⟨nd, rfl⟩⟩)
        go_ret2
        exact ⟨⟨none, 0, rfl, by simp, fun W _ => Kd.C_nil _ W⟩, ⟨⟨nd, rfl⟩⟩⟩
      · rw [if_neg c6] at h
        have c7 : decide ((wrap64 ((l0.length : Int) / a1)) ≤ a2) = false := decide_eq_false (by rw [hw]; exact c6)
        have c8 : a1 ≠ 0 := by omega
        have p0 : 0 ≤ a2 * a1 := Int.mul_nonneg (by omega) (by omega)
        have p1 : a2 * a1 + a1 ≤ l0.length := by
          have h1 : (a2 + 1) * a1 ≤ (l0.length : Int) / a1 * a1 := Int.mul_le_mul_of_nonneg_right (by omega) (by omega)
          have h2 : (l0.length : Int) / a1 * a1 ≤ l0.length := Int.ediv_mul_le _ (by omega)
          rw [Int.add_mul, Int.one_mul] at h1
          omega
        obtain ⟨p, hp⟩ : ∃ p, p = a2 * a1 := ⟨_, rfl⟩
        rw [← hp] at h p0 p1
        obtain ⟨q, hq⟩ : ∃ q, q = p + a1 := ⟨_, rfl⟩
        rw [← hq] at h p1
        have hpw : IntKind.i64.wrap (a2 * a1) = p := by rw [i64_w, ← hp]; unfold wrap64; omega
        have hpx : wrap64 (a2 * a1) = p := by rw [← hp]; unfold wrap64; omega
        have hqw : IntKind.i64.wrap (p + a1) = q := by rw [i64_w, ← hq]; unfold wrap64; omega
        have hqx : wrap64 (p + a1) = q := by rw [← hq]; unfold wrap64; omega
        obtain ⟨L, hL⟩ : ∃ L : List Int, (l0.take q.toNat).drop p.toNat = L := ⟨_, rfl⟩
        rw [hL] at h
        simp only [Option.some.injEq, Prod.mk.injEq] at h
        obtain ⟨rfl, rfl⟩ := h
        obtain ⟨i0, hi0, _, hsz, _⟩ := info_parts info42
        obtain ⟨A1, hcut, hA, hC⟩ := print_mid_of (P := Try.prog) (Value.int .i8) 0 22 42 .i64 .i64 Try.underlying22 hi0 hsz A0 c0 l0 p q p0 (by omega) p1 HC0.out
        rw [hL] at hcut hA hC
        have HA := Aside0.mk hA
        have HC := Aside0.mk hC
        have HP := Aside0.mk hp
        have HQ := Aside0.mk hq
        clear c3 c6 q1 q2 q3 hw hA hC hi0 hsz p0 p1 hp hq hL
        go_enter Try.func27, Try.ntmps27
        go_wp2_with (go_at_call 49; (with_reducible refine (heraldref08_Matrix.calls _ _ l0 a1 0 _ HR0.out HC0.out HM.out).mono ?_); rintro e w' ⟨rfl, ⟨nd, rfl⟩⟩)
        go_ret2
        exact ⟨⟨A1, _, rfl, HC.out, fun W hW => Kd.C_of_reads (h1 := fun _ => rfl) (HA.out W (Kd.reads_of_C hW))⟩, ⟨⟨nd, rfl⟩⟩⟩
  · rw [if_neg c] at h
    have c1 : (t == 0) = false := beq_eq_false_iff_ne.mpr c
    have c2 : (t != 0) = true := bne_iff_ne.mpr c
    simp only [Option.some.injEq, Prod.mk.injEq] at h
    obtain ⟨rfl, rfl⟩ := h
    clear c ht
    go_enter Try.func27, Try.ntmps27
    go_wp2_with (go_at_call 49; (with_reducible refine (heraldref08_Matrix.calls _ _ l0 a1 t _ HR0.out HC0.out HM.out).mono ?_); rintro e w' ⟨rfl, ⟨nd, rfl⟩⟩)
    go_ret2
    exact ⟨⟨none, 0, rfl, by simp, fun W _ => Kd.C_nil _ W⟩, ⟨⟨nd, rfl⟩⟩⟩

/-! ### fixed_Floor: function 67 -/
def fixed_Floor.f (a0 : Int) (a1 : Int) : Option (Int × Int × Int) := if a1 < 1 then (some (0, 0, 21)) else (if a1 = 0 then (none) else (if (Int.tmod a0 a1) < 0 then (some (wrap64 ((wrap64 (Int.tdiv a0 a1)) - 1), wrap64 ((Int.tmod a0 a1) + a1), 0)) else (some (wrap64 (Int.tdiv a0 a1), Int.tmod a0 a1, 0))))
set_option maxHeartbeats 8000000 in
set_option maxRecDepth 100000 in
theorem fixed_Floor.calls (a0 : Int) (a1 : Int) (r1 : Int) (r2 : Int) (r3 : Int) (w : World) (h : fixed_Floor.f a0 a1 = some (r1, r2, r3)) :
    Calls Try.prog 67 #[.int .i64 a0, .int .i64 a1] w fun e w' => e = .returned (.tuple #[.int .i64 r1, .int .i64 r2, .int .i64 r3]) ∧ Drawn0 w w' := by
 have H : (if a1 < 1 then (some (0, 0, 21)) else (if a1 = 0 then (none) else (if (Int.tmod a0 a1) < 0 then (some (wrap64 ((wrap64 (Int.tdiv a0 a1)) - 1), wrap64 ((Int.tmod a0 a1) + a1), 0)) else (some (wrap64 (Int.tdiv a0 a1), Int.tmod a0 a1, 0))))) = some (r1, r2, r3) := h
 clear h
 by_cases c3 : a1 < 1
 ·
  rw [if_pos c3] at H
  have c3b0 : decide (a1 < 1) = true := decide_eq_true c3
  clear c3
  simp only [Option.some.injEq, Prod.mk.injEq] at H
  obtain ⟨rfl, rfl, rfl⟩ := H
  go_enter Try.func67, Try.ntmps67
  go_wp2
  repeat (go_quiet (fail); try go_wp2)
  go_ret3
  exact ⟨by first | rfl | (simp; done) | (simp [*]; done), by repeat (first | exact Drawn0.refl _ | apply Drawn0.step)⟩
 rw [if_neg c3] at H
 have c3b0 : decide (a1 < 1) = false := decide_eq_false c3
 clear c3
 by_cases c4 : a1 = 0
 ·
  rw [if_pos c4] at H
  exact absurd H (by simp)
 rw [if_neg c4] at H
 have c4b0 : (a1 == 0) = false := beq_eq_false_iff_ne.mpr c4
 have c4b1 : (a1 != 0) = true := bne_iff_ne.mpr c4
 by_cases c5 : (Int.tmod a0 a1) < 0
 ·
  rw [if_pos c5] at H
  have c5b0 : decide ((Int.tmod a0 a1) < 0) = true := decide_eq_true c5
  clear c5
  simp only [Option.some.injEq, Prod.mk.injEq] at H
  obtain ⟨rfl, rfl, rfl⟩ := H
  go_enter Try.func67, Try.ntmps67
  go_wp2
  repeat (go_quiet (fail); try go_wp2)
  go_ret3
  exact ⟨by first | rfl | (simp; done) | (simp [*]; done), by repeat (first | exact Drawn0.refl _ | apply Drawn0.step)⟩
 rw [if_neg c5] at H
 have c5b0 : decide ((Int.tmod a0 a1) < 0) = false := decide_eq_false c5
 clear c5
 simp only [Option.some.injEq, Prod.mk.injEq] at H
 obtain ⟨rfl, rfl, rfl⟩ := H
 go_enter Try.func67, Try.ntmps67
 go_wp2
 repeat (go_quiet (fail); try go_wp2)
 go_ret3
 exact ⟨by first | rfl | (simp; done) | (simp [*]; done), by repeat (first | exact Drawn0.refl _ | apply Drawn0.step)⟩

end Go.Proofs.Ytigfodkakefhcaa.P
