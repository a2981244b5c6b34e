-- Printed by xprint.py (wip): functions, contracts, rows. Lean checks it.
import Derived.Test.YtmpldbccohdnjaaPx0
import Derived.Test.YtmpldbccohdnjaaPx10
import Derived.Test.YtmpldbccohdnjaaPx27
namespace Go.Proofs.Ytmpldbccohdnjaa.P
open Go.RowKit Go.Proofs.YtmpldbccohdnjaaW.PrintWords Go.Proofs.YtmpldbccohdnjaaW.PrintLast Go.Proofs.YtmpldbccohdnjaaW.PrintMore
attribute [local go_sem] max2_int min2_int max_two min_two max_three min_three max_four min_four   -- for this text's walks alone
set_option linter.unusedVariables false
set_option linter.unusedSimpArgs false

/-! ### soft_Best: function 27 -/
def soft_Best.f (k : Nat) (l0 : List Int) (l1 : List Int) : Option (Int × Int × Int) := (soft_Mean.f k l0 l1).bind fun bt407 => (if bt407.2 = 0 then ((fixed_Argmax.f k l0).bind fun t409 => (if 0 ≤ t409 then (if t409 < (l1.length : Int) then (some (rd l1 t409, t409, 0)) else (none)) else (none))) else (some (0, 0, bt407.2)))
theorem soft_Best.mono : ∀ a0 a1 k, LeO (soft_Best.f k a0 a1) (soft_Best.f (k + 1) a0 a1) := by
  intro a0 a1 k
  unfold soft_Best.f
  repeat' first
      | (with_reducible exact fixed_Argmax.mono _ _)
      | (with_reducible exact soft_Mean.mono _ _ _)
      | (with_reducible exact LeO.refl _)
      | (with_reducible exact LeO.none _)
      | (with_reducible refine LeO.ite ?_ ?_)
      | (with_reducible refine LeO.bind ?_ (fun _ => ?_))
      | exact fixed_Argmax.mono _ _
      | exact soft_Mean.mono _ _ _
      | exact LeO.none _
      | refine LeO.ite ?_ ?_
      | refine LeO.bind ?_ (fun _ => ?_)
set_option maxHeartbeats 8000000 in
set_option maxRecDepth 100000 in
theorem soft_Best.calls (k : Nat) (A0 : Option Addr) (c0 : Nat) (l0 : List Int) (A1 : Option Addr) (c1 : Nat) (l1 : List Int) (r1 : Int) (r2 : Int) (r3 : Int) (w : World) (hr0 : Kd.C (Kd.int .i64) w A0 l0.length l0) (hc0 : l0.length ≤ c0) (hr1 : Kd.C (Kd.int .i8) w A1 l1.length l1) (hc1 : l1.length ≤ c1) (h : soft_Best.f k l0 l1 = some (r1, r2, r3)) :
    Calls Try.prog 27 #[.slice A0 l0.length c0, .slice A1 l1.length c1] w fun e w' => e = .returned (.tuple #[.int .i8 r1, .int .i64 r2, .int .i64 r3]) ∧ Drawn0 w w' := by
 have HR0 := ym hr0
 have HC0 := ym hc0
 clear hr0 hc0
 have HR1 := ym hr1
 have HC1 := ym hc1
 clear hr1 hc1
 have H : ((soft_Mean.f k l0 l1).bind fun bt407 => (if bt407.2 = 0 then ((fixed_Argmax.f k l0).bind fun t409 => (if 0 ≤ t409 then (if t409 < (l1.length : Int) then (some (rd l1 t409, t409, 0)) else (none)) else (none))) else (some (0, 0, bt407.2)))) = some (r1, r2, r3) := h
 clear h
 replace H := Option.bind_eq_some_iff.mp H
 obtain ⟨⟨t407, t408⟩, A30, H⟩ := H
 replace H : (if t408 = 0 then ((fixed_Argmax.f k l0).bind fun t409 => (if 0 ≤ t409 then (if t409 < (l1.length : Int) then (some (rd l1 t409, t409, 0)) else (none)) else (none))) else (some (0, 0, t408))) = some (r1, r2, r3) := H
 have A3 := ym A30
 clear A30
 by_cases c4 : t408 = 0
 ·
  rw [if_pos c4] at H
  have c4b0 : (t408 == 0) = true := beq_iff_eq.mpr c4
  have c4b1 : (t408 != 0) = false := bne_eq_false_iff_eq.mpr c4
  clear c4
  replace H := Option.bind_eq_some_iff.mp H
  obtain ⟨t409, A50, H⟩ := H
  replace H : (if 0 ≤ t409 then (if t409 < (l1.length : Int) then (some (rd l1 t409, t409, 0)) else (none)) else (none)) = some (r1, r2, r3) := H
  have A5 := ym A50
  clear A50
  by_cases c6 : 0 ≤ t409
  ·
   rw [if_pos c6] at H
   have c6b0 : decide (0 ≤ t409) = true := decide_eq_true c6
   clear c6
   by_cases c7 : t409 < (l1.length : Int)
   ·
    rw [if_pos c7] at H
    have c7b0 : decide (t409 < (l1.length : Int)) = true := decide_eq_true c7
    clear c7
    simp only [Option.some.injEq, Prod.mk.injEq] at H
    obtain ⟨rfl, rfl, rfl⟩ := H
    go_enter Try.func27, Try.ntmps27
    go_wp2_with (first | ((with_reducible refine gate_callee (f := 16) rfl ?_); refine goesL_ (some 13) rfl rfl Try.func16 (by kernel_rfl) rfl #[.slice A0 l0.length c0, .slice A1 l1.length c1] rfl (by (try simp only [List.map_toArray, List.map_cons, List.map_nil]); first | done | rfl | (simp only [List.length_drop, List.length_take]; rfl)) ?_; (with_reducible refine (soft_Mean.calls k _ _ l0 _ _ l1 t407 t408 _ ?side1 ?side2 ?side3 ?side4 A3.out).mono ?_); (case side1 => repeat (first | exact HR0.out | (with_reducible refine yi ?_ _) | (with_reducible refine yj ?_ _) | (with_reducible refine yk ?_))); (case side2 => exact HC0.out); (case side3 => repeat (first | exact HR1.out | (with_reducible refine yi ?_ _) | (with_reducible refine yj ?_ _) | (with_reducible refine yk ?_))); (case side4 => exact HC1.out); rintro e w' ⟨rfl, ⟨nd, rfl⟩⟩; refine ⟨_, rfl, ?_⟩) | ((with_reducible refine gate_callee (f := 39) rfl ?_); refine goesL_ (some 20) rfl rfl Try.func39 (by kernel_rfl) rfl #[.slice A0 l0.length c0] rfl (by (try simp only [List.map_toArray, List.map_cons, List.map_nil]); first | done | rfl | (simp only [List.length_drop, List.length_take]; rfl)) ?_; (with_reducible refine (fixed_Argmax.calls k _ _ l0 t409 _ ?side1 ?side2 A5.out).mono ?_); (case side1 => repeat (first | exact HR0.out | (with_reducible refine yi ?_ _) | (with_reducible refine yj ?_ _) | (with_reducible refine yk ?_))); (case side2 => exact HC0.out); rintro e w' ⟨rfl, ⟨nd, rfl⟩⟩; refine ⟨_, rfl, ?_⟩; have p410 : 0 ≤ (t409 : Int) := of_decide_eq_true (by first | (with_reducible assumption) | assumption); have q410 : t409 < (l1.length : Int) := of_decide_eq_true (by first | (with_reducible assumption) | assumption); obtain ⟨ad410, e410, hx410_0⟩ := Kd.at_int HR1.out t409 p410 q410; cases e410; replace p410 := eq_true p410; replace q410 := eq_true q410))
    go_ret3
    exact ⟨by first | rfl | (simp; done) | (simp [*]; done), by repeat (first | exact Drawn0.refl _ | apply Drawn0.step)⟩
   rw [if_neg c7] at H
   exact absurd H (by simp)
  rw [if_neg c6] at H
  exact absurd H (by simp)
 rw [if_neg c4] at H
 have c4b0 : (t408 == 0) = false := beq_eq_false_iff_ne.mpr c4
 have c4b1 : (t408 != 0) = true := bne_iff_ne.mpr c4
 simp only [Option.some.injEq, Prod.mk.injEq] at H
 obtain ⟨rfl, rfl, rfl⟩ := H
 go_enter Try.func27, Try.ntmps27
 go_wp2_with (first | ((with_reducible refine gate_callee (f := 16) rfl ?_); refine goesL_ (some 13) rfl rfl Try.func16 (by kernel_rfl) rfl #[.slice A0 l0.length c0, .slice A1 l1.length c1] rfl (by (try simp only [List.map_toArray, List.map_cons, List.map_nil]); first | done | rfl | (simp only [List.length_drop, List.length_take]; rfl)) ?_; (with_reducible refine (soft_Mean.calls k _ _ l0 _ _ l1 t407 t408 _ ?side1 ?side2 ?side3 ?side4 A3.out).mono ?_); (case side1 => repeat (first | exact HR0.out | (with_reducible refine yi ?_ _) | (with_reducible refine yj ?_ _) | (with_reducible refine yk ?_))); (case side2 => exact HC0.out); (case side3 => repeat (first | exact HR1.out | (with_reducible refine yi ?_ _) | (with_reducible refine yj ?_ _) | (with_reducible refine yk ?_))); (case side4 => exact HC1.out); rintro e w' ⟨rfl, ⟨nd, rfl⟩⟩; refine ⟨_, rfl, ?_⟩))
 go_ret3
 exact ⟨by first | rfl | (simp; done) | (simp [*]; done), by repeat (first | exact Drawn0.refl _ | apply Drawn0.step)⟩

end Go.Proofs.Ytmpldbccohdnjaa.P
