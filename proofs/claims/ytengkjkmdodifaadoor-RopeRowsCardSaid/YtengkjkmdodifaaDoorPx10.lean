-- Printed by xprint.py (wip): functions, contracts, rows. Lean checks it.
import Derived.Test.YtengkjkmdodifaaDoorPx0
namespace Go.Proofs.YtengkjkmdodifaaDoor.P
open Go.RowKit Go.Proofs.YtengkjkmdodifaaDoorW.PrintWords Go.Proofs.YtengkjkmdodifaaDoorW.PrintLast Go.Proofs.YtengkjkmdodifaaDoorW.PrintMore
attribute [local go_sem] max2_int min2_int max_two min_two max_three min_three max_four min_four   -- for this text's walks alone
set_option linter.unusedVariables false
set_option linter.unusedSimpArgs false

/-! ### heraldref02_Floor: function 30 -/
def heraldref02_Floor.f (a0 : Int) (a1 : Int) : Option (Int × Int × Int) := if a1 < 1 then (some (0, 0, 21)) else (if a1 = 0 then (none) else (if (Int.tmod a0 a1) < 0 then (some (wrap64 ((wrap64 (Int.tdiv a0 a1)) - 1), wrap64 ((Int.tmod a0 a1) + a1), 0)) else (some (wrap64 (Int.tdiv a0 a1), Int.tmod a0 a1, 0))))
set_option maxHeartbeats 8000000 in
set_option maxRecDepth 100000 in
theorem heraldref02_Floor.calls (a0 : Int) (a1 : Int) (r1 : Int) (r2 : Int) (r3 : Int) (w : World) (h : heraldref02_Floor.f a0 a1 = some (r1, r2, r3)) :
    Calls Tryd.prog 30 #[.int .i64 a0, .int .i64 a1] w fun e w' => e = .returned (.tuple #[.int .i64 r1, .int .i64 r2, .int .i64 r3]) ∧ Drawn0 w w' := by
 have H : (if a1 < 1 then (some (0, 0, 21)) else (if a1 = 0 then (none) else (if (Int.tmod a0 a1) < 0 then (some (wrap64 ((wrap64 (Int.tdiv a0 a1)) - 1), wrap64 ((Int.tmod a0 a1) + a1), 0)) else (some (wrap64 (Int.tdiv a0 a1), Int.tmod a0 a1, 0))))) = some (r1, r2, r3) := h
 clear h
 by_cases c3 : a1 < 1
 ·
  rw [if_pos c3] at H
  have c3b0 : decide (a1 < 1) = true := decide_eq_true c3
  clear c3
  simp only [Option.some.injEq, Prod.mk.injEq] at H
  obtain ⟨rfl, rfl, rfl⟩ := H
  go_enter Tryd.func30, Tryd.ntmps30
  go_wp2
  go_ret3
  exact ⟨by first | rfl | (simp; done) | (simp [*]; done), by repeat (first | exact Drawn0.refl _ | apply Drawn0.step)⟩
 rw [if_neg c3] at H
 have c3b0 : decide (a1 < 1) = false := decide_eq_false c3
 clear c3
 by_cases c4 : a1 = 0
 ·
  rw [if_pos c4] at H
  exact absurd H (by simp)
 rw [if_neg c4] at H
 have c4b0 : (a1 == 0) = false := beq_eq_false_iff_ne.mpr c4
 have c4b1 : (a1 != 0) = true := bne_iff_ne.mpr c4
 by_cases c5 : (Int.tmod a0 a1) < 0
 ·
  rw [if_pos c5] at H
  have c5b0 : decide ((Int.tmod a0 a1) < 0) = true := decide_eq_true c5
  clear c5
  simp only [Option.some.injEq, Prod.mk.injEq] at H
  obtain ⟨rfl, rfl, rfl⟩ := H
  go_enter Tryd.func30, Tryd.ntmps30
  go_wp2
  go_ret3
  exact ⟨by first | rfl | (simp; done) | (simp [*]; done), by repeat (first | exact Drawn0.refl _ | apply Drawn0.step)⟩
 rw [if_neg c5] at H
 have c5b0 : decide ((Int.tmod a0 a1) < 0) = false := decide_eq_false c5
 clear c5
 simp only [Option.some.injEq, Prod.mk.injEq] at H
 obtain ⟨rfl, rfl, rfl⟩ := H
 go_enter Tryd.func30, Tryd.ntmps30
 go_wp2
 go_ret3
 exact ⟨by first | rfl | (simp; done) | (simp [*]; done), by repeat (first | exact Drawn0.refl _ | apply Drawn0.step)⟩

/-! ### heraldref02_Near: function 39 -/
def heraldref02_Near.f (a0 : Int) (a1 : Int) : Option (Int × Int) := (heraldref02_Floor.f a0 a1).bind fun bt180 => (if bt180.2.2 = 0 then (if bt180.2.1 > (wrap64 (a1 - bt180.2.1)) then (some (wrap64 (bt180.1 + 1), 0)) else (if bt180.2.1 = (wrap64 (a1 - bt180.2.1)) then (if (Int.tmod bt180.1 2) = 0 then (some (bt180.1, 0)) else (some (wrap64 (bt180.1 + 1), 0))) else (some (bt180.1, 0)))) else (some (0, bt180.2.2)))
set_option maxHeartbeats 8000000 in
set_option maxRecDepth 100000 in
theorem heraldref02_Near.calls (a0 : Int) (a1 : Int) (r1 : Int) (r2 : Int) (w : World) (h : heraldref02_Near.f a0 a1 = some (r1, r2)) :
    Calls Tryd.prog 39 #[.int .i64 a0, .int .i64 a1] w fun e w' => e = .returned (.tuple #[.int .i64 r1, .int .i64 r2]) ∧ Drawn0 w w' := by
 have H : ((heraldref02_Floor.f a0 a1).bind fun bt180 => (if bt180.2.2 = 0 then (if bt180.2.1 > (wrap64 (a1 - bt180.2.1)) then (some (wrap64 (bt180.1 + 1), 0)) else (if bt180.2.1 = (wrap64 (a1 - bt180.2.1)) then (if (Int.tmod bt180.1 2) = 0 then (some (bt180.1, 0)) else (some (wrap64 (bt180.1 + 1), 0))) else (some (bt180.1, 0)))) else (some (0, bt180.2.2)))) = some (r1, r2) := h
 clear h
 replace H := Option.bind_eq_some_iff.mp H
 obtain ⟨⟨t180, t181, t182⟩, A30, H⟩ := H
 replace H : (if t182 = 0 then (if t181 > (wrap64 (a1 - t181)) then (some (wrap64 (t180 + 1), 0)) else (if t181 = (wrap64 (a1 - t181)) then (if (Int.tmod t180 2) = 0 then (some (t180, 0)) else (some (wrap64 (t180 + 1), 0))) else (some (t180, 0)))) else (some (0, t182))) = some (r1, r2) := H
 have A3 := ym A30
 clear A30
 by_cases c4 : t182 = 0
 ·
  rw [if_pos c4] at H
  have c4b0 : (t182 == 0) = true := beq_iff_eq.mpr c4
  have c4b1 : (t182 != 0) = false := bne_eq_false_iff_eq.mpr c4
  clear c4
  by_cases c5 : t181 > (wrap64 (a1 - t181))
  ·
   rw [if_pos c5] at H
   have c5b0 : decide ((wrap64 (a1 - t181)) < t181) = true := decide_eq_true c5
   clear c5
   simp only [Option.some.injEq, Prod.mk.injEq] at H
   obtain ⟨rfl, rfl⟩ := H
   go_enter Tryd.func39, Tryd.ntmps39
   go_wp2_with (first | ((with_reducible refine gate_callee (f := 30) rfl ?_); refine goesL_ (some 12) rfl rfl Tryd.func30 (by kernel_rfl) rfl #[.int .i64 a0, .int .i64 a1] rfl (by (try simp only [List.map_toArray, List.map_cons, List.map_nil]); first | done | rfl | (simp only [List.length_drop, List.length_take]; rfl)) ?_; (with_reducible refine (heraldref02_Floor.calls a0 a1 t180 t181 t182 _ A3.out).mono ?_); rintro e w' ⟨rfl, ⟨nd, rfl⟩⟩; refine ⟨_, rfl, ?_⟩))
   go_ret2
   exact ⟨by first | rfl | (simp; done) | (simp [*]; done), by repeat (first | exact Drawn0.refl _ | apply Drawn0.step)⟩
  rw [if_neg c5] at H
  have c5b0 : decide ((wrap64 (a1 - t181)) < t181) = false := decide_eq_false c5
  clear c5
  by_cases c6 : t181 = (wrap64 (a1 - t181))
  ·
   rw [if_pos c6] at H
   have c6b0 : (t181 == (wrap64 (a1 - t181))) = true := beq_iff_eq.mpr c6
   have c6b1 : (t181 != (wrap64 (a1 - t181))) = false := bne_eq_false_iff_eq.mpr c6
   clear c6
   by_cases c7 : (Int.tmod t180 2) = 0
   ·
    rw [if_pos c7] at H
    have c7b0 : ((Int.tmod t180 2) == 0) = true := beq_iff_eq.mpr c7
    have c7b1 : ((Int.tmod t180 2) != 0) = false := bne_eq_false_iff_eq.mpr c7
    clear c7
    simp only [Option.some.injEq, Prod.mk.injEq] at H
    obtain ⟨rfl, rfl⟩ := H
    go_enter Tryd.func39, Tryd.ntmps39
    go_wp2_with (first | ((with_reducible refine gate_callee (f := 30) rfl ?_); refine goesL_ (some 12) rfl rfl Tryd.func30 (by kernel_rfl) rfl #[.int .i64 a0, .int .i64 a1] rfl (by (try simp only [List.map_toArray, List.map_cons, List.map_nil]); first | done | rfl | (simp only [List.length_drop, List.length_take]; rfl)) ?_; (with_reducible refine (heraldref02_Floor.calls a0 a1 t180 t181 t182 _ A3.out).mono ?_); rintro e w' ⟨rfl, ⟨nd, rfl⟩⟩; refine ⟨_, rfl, ?_⟩))
    go_ret2
    exact ⟨by first | rfl | (simp; done) | (simp [*]; done), by repeat (first | exact Drawn0.refl _ | apply Drawn0.step)⟩
   rw [if_neg c7] at H
   have c7b0 : ((Int.tmod t180 2) == 0) = false := beq_eq_false_iff_ne.mpr c7
   have c7b1 : ((Int.tmod t180 2) != 0) = true := bne_iff_ne.mpr c7
   simp only [Option.some.injEq, Prod.mk.injEq] at H
   obtain ⟨rfl, rfl⟩ := H
   go_enter Tryd.func39, Tryd.ntmps39
   go_wp2_with (first | ((with_reducible refine gate_callee (f := 30) rfl ?_); refine goesL_ (some 12) rfl rfl Tryd.func30 (by kernel_rfl) rfl #[.int .i64 a0, .int .i64 a1] rfl (by (try simp only [List.map_toArray, List.map_cons, List.map_nil]); first | done | rfl | (simp only [List.length_drop, List.length_take]; rfl)) ?_; (with_reducible refine (heraldref02_Floor.calls a0 a1 t180 t181 t182 _ A3.out).mono ?_); rintro e w' ⟨rfl, ⟨nd, rfl⟩⟩; refine ⟨_, rfl, ?_⟩))
   go_ret2
   exact ⟨by first | rfl | (simp; done) | (simp [*]; done), by repeat (first | exact Drawn0.refl _ | apply Drawn0.step)⟩
  rw [if_neg c6] at H
  have c6b0 : (t181 == (wrap64 (a1 - t181))) = false := beq_eq_false_iff_ne.mpr c6
  have c6b1 : (t181 != (wrap64 (a1 - t181))) = true := bne_iff_ne.mpr c6
  simp only [Option.some.injEq, Prod.mk.injEq] at H
  obtain ⟨rfl, rfl⟩ := H
  go_enter Tryd.func39, Tryd.ntmps39
  go_wp2_with (first | ((with_reducible refine gate_callee (f := 30) rfl ?_); refine goesL_ (some 12) rfl rfl Tryd.func30 (by kernel_rfl) rfl #[.int .i64 a0, .int .i64 a1] rfl (by (try simp only [List.map_toArray, List.map_cons, List.map_nil]); first | done | rfl | (simp only [List.length_drop, List.length_take]; rfl)) ?_; (with_reducible refine (heraldref02_Floor.calls a0 a1 t180 t181 t182 _ A3.out).mono ?_); rintro e w' ⟨rfl, ⟨nd, rfl⟩⟩; refine ⟨_, rfl, ?_⟩))
  go_ret2
  exact ⟨by first | rfl | (simp; done) | (simp [*]; done), by repeat (first | exact Drawn0.refl _ | apply Drawn0.step)⟩
 rw [if_neg c4] at H
 have c4b0 : (t182 == 0) = false := beq_eq_false_iff_ne.mpr c4
 have c4b1 : (t182 != 0) = true := bne_iff_ne.mpr c4
 simp only [Option.some.injEq, Prod.mk.injEq] at H
 obtain ⟨rfl, rfl⟩ := H
 go_enter Tryd.func39, Tryd.ntmps39
 go_wp2_with (first | ((with_reducible refine gate_callee (f := 30) rfl ?_); refine goesL_ (some 12) rfl rfl Tryd.func30 (by kernel_rfl) rfl #[.int .i64 a0, .int .i64 a1] rfl (by (try simp only [List.map_toArray, List.map_cons, List.map_nil]); first | done | rfl | (simp only [List.length_drop, List.length_take]; rfl)) ?_; (with_reducible refine (heraldref02_Floor.calls a0 a1 t180 t181 t182 _ A3.out).mono ?_); rintro e w' ⟨rfl, ⟨nd, rfl⟩⟩; refine ⟨_, rfl, ?_⟩))
 go_ret2
 exact ⟨by first | rfl | (simp; done) | (simp [*]; done), by repeat (first | exact Drawn0.refl _ | apply Drawn0.step)⟩

end Go.Proofs.YtengkjkmdodifaaDoor.P
