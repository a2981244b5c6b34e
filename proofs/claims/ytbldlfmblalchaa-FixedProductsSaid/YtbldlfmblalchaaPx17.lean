-- Printed by xprint.py (wip): functions, contracts, rows. Lean checks it.
import Derived.Test.YtbldlfmblalchaaPx0
import Derived.Test.YtbldlfmblalchaaPx14
import Derived.Test.YtbldlfmblalchaaPx16
namespace Go.Proofs.Ytbldlfmblalchaa.P
open Go.RowKit Go.Proofs.YtbldlfmblalchaaW.PrintWords Go.Proofs.YtbldlfmblalchaaW.PrintLast Go.Proofs.YtbldlfmblalchaaW.PrintMore
attribute [local go_sem] max2_int min2_int max_two min_two max_three min_three max_four min_four   -- for this text's walks alone
set_option linter.unusedVariables false
set_option linter.unusedSimpArgs false

/-! ### heraldref02_MulDiv: function 45 -/
mutual
def heraldref02_MulDiv.l0 : Nat → Int → Int → Int → List Int → Int → Int → Bool → Int → Option (Int × Int)
  | 0, _, _, _, _, _, _, _, _ => none
  | k + 1, x0, x1, x2, x8, x9, x10, x11, x12 => if x12 ≥ 0 then (if 0 ≤ (wrap64 (Int.tdiv x12 16)) then (if (wrap64 (Int.tdiv x12 16)) < (x8.length : Int) then (if 0 ≤ (IntKind.u64.wrap (Int.tmod x12 16)) then (if x11 = true then (if (IntKind.u64.wrap ((IntKind.u64.wrap (2 * x10)) + (Go.bits .and .u64 (shr .u64 (rd x8 (wrap64 (Int.tdiv x12 16))) (IntKind.u64.wrap (Int.tmod x12 16))) 1))) ≥ (IntKind.u64.wrap (x2)) then (heraldref02_MulDiv.l0 k x0 x1 x2 x8 (IntKind.u64.wrap ((IntKind.u64.wrap (x9 * 2)) + 1)) (IntKind.u64.wrap ((IntKind.u64.wrap ((IntKind.u64.wrap (2 * x10)) + (Go.bits .and .u64 (shr .u64 (rd x8 (wrap64 (Int.tdiv x12 16))) (IntKind.u64.wrap (Int.tmod x12 16))) 1))) - (IntKind.u64.wrap (x2)))) true (wrap64 (x12 - 1))) else (heraldref02_MulDiv.l0 k x0 x1 x2 x8 (IntKind.u64.wrap (x9 * 2)) (IntKind.u64.wrap ((IntKind.u64.wrap (2 * x10)) + (Go.bits .and .u64 (shr .u64 (rd x8 (wrap64 (Int.tdiv x12 16))) (IntKind.u64.wrap (Int.tmod x12 16))) 1))) true (wrap64 (x12 - 1)))) else (if (IntKind.u64.wrap ((IntKind.u64.wrap (2 * x10)) + (Go.bits .and .u64 (shr .u64 (rd x8 (wrap64 (Int.tdiv x12 16))) (IntKind.u64.wrap (Int.tmod x12 16))) 1))) ≥ (IntKind.u64.wrap (x2)) then (heraldref02_MulDiv.l0 k x0 x1 x2 x8 (IntKind.u64.wrap ((IntKind.u64.wrap (x9 * 2)) + 1)) (IntKind.u64.wrap ((IntKind.u64.wrap ((IntKind.u64.wrap (2 * x10)) + (Go.bits .and .u64 (shr .u64 (rd x8 (wrap64 (Int.tdiv x12 16))) (IntKind.u64.wrap (Int.tmod x12 16))) 1))) - (IntKind.u64.wrap (x2)))) (decide (x9 ≥ 9223372036854775808)) (wrap64 (x12 - 1))) else (heraldref02_MulDiv.l0 k x0 x1 x2 x8 (IntKind.u64.wrap (x9 * 2)) (IntKind.u64.wrap ((IntKind.u64.wrap (2 * x10)) + (Go.bits .and .u64 (shr .u64 (rd x8 (wrap64 (Int.tdiv x12 16))) (IntKind.u64.wrap (Int.tmod x12 16))) 1))) (decide (x9 ≥ 9223372036854775808)) (wrap64 (x12 - 1))))) else (none)) else (none)) else (none)) else (if x0 < 0 then (if x1 < 0 then (if x11 = true then (heraldref02_MulDiv.j1 k x9 false true) else (if x9 > 9223372036854775808 then (heraldref02_MulDiv.j1 k x9 false true) else (heraldref02_MulDiv.j1 k x9 false (x9 == 9223372036854775808)))) else (if x10 > 0 then (if x11 = true then (heraldref02_MulDiv.j2 k (IntKind.u64.wrap (x9 + 1)) true true) else (heraldref02_MulDiv.j2 k (IntKind.u64.wrap (x9 + 1)) (decide (x9 ≥ 9223372036854775808)) true)) else (heraldref02_MulDiv.j2 k x9 x11 true))) else (if x1 < 0 then (if x10 > 0 then (if x11 = true then (heraldref02_MulDiv.j4 k (IntKind.u64.wrap (x9 + 1)) true true) else (heraldref02_MulDiv.j4 k (IntKind.u64.wrap (x9 + 1)) (decide (x9 ≥ 9223372036854775808)) true)) else (heraldref02_MulDiv.j4 k x9 x11 true)) else (if x11 = true then (heraldref02_MulDiv.j6 k x9 false true) else (if x9 > 9223372036854775808 then (heraldref02_MulDiv.j6 k x9 false true) else (heraldref02_MulDiv.j6 k x9 false (x9 == 9223372036854775808))))))
def heraldref02_MulDiv.j1 : Nat → Int → Bool → Bool → Option (Int × Int)
  | 0, _, _, _ => none
  | k + 1, x9, x13, x84 => if x84 = true then (some (0, 23)) else (if x13 = true then (some (wrap64 (IntKind.u64.wrap (-x9)), 0)) else (some (wrap64 (x9), 0)))
def heraldref02_MulDiv.j2 : Nat → Int → Bool → Bool → Option (Int × Int)
  | 0, _, _, _ => none
  | k + 1, x9, x11, x13 => if x11 = true then (heraldref02_MulDiv.j3 k x9 x13 true) else (if x9 > 9223372036854775808 then (heraldref02_MulDiv.j3 k x9 x13 true) else (if x13 = true then (heraldref02_MulDiv.j3 k x9 x13 false) else (heraldref02_MulDiv.j3 k x9 x13 (x9 == 9223372036854775808))))
def heraldref02_MulDiv.j3 : Nat → Int → Bool → Bool → Option (Int × Int)
  | 0, _, _, _ => none
  | k + 1, x9, x13, x84 => if x84 = true then (some (0, 23)) else (if x13 = true then (some (wrap64 (IntKind.u64.wrap (-x9)), 0)) else (some (wrap64 (x9), 0)))
def heraldref02_MulDiv.j4 : Nat → Int → Bool → Bool → Option (Int × Int)
  | 0, _, _, _ => none
  | k + 1, x9, x11, x13 => if x11 = true then (heraldref02_MulDiv.j5 k x9 x13 true) else (if x9 > 9223372036854775808 then (heraldref02_MulDiv.j5 k x9 x13 true) else (if x13 = true then (heraldref02_MulDiv.j5 k x9 x13 false) else (heraldref02_MulDiv.j5 k x9 x13 (x9 == 9223372036854775808))))
def heraldref02_MulDiv.j5 : Nat → Int → Bool → Bool → Option (Int × Int)
  | 0, _, _, _ => none
  | k + 1, x9, x13, x84 => if x84 = true then (some (0, 23)) else (if x13 = true then (some (wrap64 (IntKind.u64.wrap (-x9)), 0)) else (some (wrap64 (x9), 0)))
def heraldref02_MulDiv.j6 : Nat → Int → Bool → Bool → Option (Int × Int)
  | 0, _, _, _ => none
  | k + 1, x9, x13, x84 => if x84 = true then (some (0, 23)) else (if x13 = true then (some (wrap64 (IntKind.u64.wrap (-x9)), 0)) else (some (wrap64 (x9), 0)))
end
def heraldref02_MulDiv.f (k : Nat) (a0 : Int) (a1 : Int) (a2 : Int) : Option (Int × Int) := if a2 < 1 then (some (0, 21)) else ((heraldref02_size.f a0).bind fun t145 => ((heraldref02_size.f a1).bind fun t146 => ((heraldref02_product.f k t145 t146).bind fun t147 => (heraldref02_MulDiv.l0 k a0 a1 a2 t147 0 0 false 127))))
theorem heraldref02_MulDiv.mono_l : ∀ k, (∀ y0 y1 y2 y3 y4 y5 y6 y7, LeO (heraldref02_MulDiv.l0 k y0 y1 y2 y3 y4 y5 y6 y7) (heraldref02_MulDiv.l0 (k + 1) y0 y1 y2 y3 y4 y5 y6 y7)) ∧ (∀ y0 y1 y2, LeO (heraldref02_MulDiv.j1 k y0 y1 y2) (heraldref02_MulDiv.j1 (k + 1) y0 y1 y2)) ∧ (∀ y0 y1 y2, LeO (heraldref02_MulDiv.j2 k y0 y1 y2) (heraldref02_MulDiv.j2 (k + 1) y0 y1 y2)) ∧ (∀ y0 y1 y2, LeO (heraldref02_MulDiv.j3 k y0 y1 y2) (heraldref02_MulDiv.j3 (k + 1) y0 y1 y2)) ∧ (∀ y0 y1 y2, LeO (heraldref02_MulDiv.j4 k y0 y1 y2) (heraldref02_MulDiv.j4 (k + 1) y0 y1 y2)) ∧ (∀ y0 y1 y2, LeO (heraldref02_MulDiv.j5 k y0 y1 y2) (heraldref02_MulDiv.j5 (k + 1) y0 y1 y2)) ∧ (∀ y0 y1 y2, LeO (heraldref02_MulDiv.j6 k y0 y1 y2) (heraldref02_MulDiv.j6 (k + 1) y0 y1 y2))
  | 0 => ⟨fun _ _ _ _ _ _ _ _ r h => by simp [heraldref02_MulDiv.l0] at h, fun _ _ _ r h => by simp [heraldref02_MulDiv.j1] at h, fun _ _ _ r h => by simp [heraldref02_MulDiv.j2] at h, fun _ _ _ r h => by simp [heraldref02_MulDiv.j3] at h, fun _ _ _ r h => by simp [heraldref02_MulDiv.j4] at h, fun _ _ _ r h => by simp [heraldref02_MulDiv.j5] at h, fun _ _ _ r h => by simp [heraldref02_MulDiv.j6] at h⟩
  | k + 1 => by
    obtain ⟨ih0, ih1, ih2, ih3, ih4, ih5, ih6⟩ := heraldref02_MulDiv.mono_l k
    refine ⟨?_, ?_, ?_, ?_, ?_, ?_, ?_⟩
    · intro y0 y1 y2 y3 y4 y5 y6 y7
      unfold heraldref02_MulDiv.l0
      repeat' first
      | (with_reducible exact ih0 _ _ _ _ _ _ _ _)
      | (with_reducible exact ih1 _ _ _)
      | (with_reducible exact ih2 _ _ _)
      | (with_reducible exact ih3 _ _ _)
      | (with_reducible exact ih4 _ _ _)
      | (with_reducible exact ih5 _ _ _)
      | (with_reducible exact ih6 _ _ _)
      | (with_reducible exact heraldref02_product.mono _ _ _)
      | (with_reducible exact LeO.refl _)
      | (with_reducible exact LeO.none _)
      | (with_reducible refine LeO.ite ?_ ?_)
      | (with_reducible refine LeO.bind ?_ (fun _ => ?_))
      | exact ih0 _ _ _ _ _ _ _ _
      | exact ih1 _ _ _
      | exact ih2 _ _ _
      | exact ih3 _ _ _
      | exact ih4 _ _ _
      | exact ih5 _ _ _
      | exact ih6 _ _ _
      | exact heraldref02_product.mono _ _ _
      | exact LeO.none _
      | refine LeO.ite ?_ ?_
      | refine LeO.bind ?_ (fun _ => ?_)
    · intro y0 y1 y2
      unfold heraldref02_MulDiv.j1
      repeat' first
      | (with_reducible exact ih0 _ _ _ _ _ _ _ _)
      | (with_reducible exact ih1 _ _ _)
      | (with_reducible exact ih2 _ _ _)
      | (with_reducible exact ih3 _ _ _)
      | (with_reducible exact ih4 _ _ _)
      | (with_reducible exact ih5 _ _ _)
      | (with_reducible exact ih6 _ _ _)
      | (with_reducible exact heraldref02_product.mono _ _ _)
      | (with_reducible exact LeO.refl _)
      | (with_reducible exact LeO.none _)
      | (with_reducible refine LeO.ite ?_ ?_)
      | (with_reducible refine LeO.bind ?_ (fun _ => ?_))
      | exact ih0 _ _ _ _ _ _ _ _
      | exact ih1 _ _ _
      | exact ih2 _ _ _
      | exact ih3 _ _ _
      | exact ih4 _ _ _
      | exact ih5 _ _ _
      | exact ih6 _ _ _
      | exact heraldref02_product.mono _ _ _
      | exact LeO.none _
      | refine LeO.ite ?_ ?_
      | refine LeO.bind ?_ (fun _ => ?_)
    · intro y0 y1 y2
      unfold heraldref02_MulDiv.j2
      repeat' first
      | (with_reducible exact ih0 _ _ _ _ _ _ _ _)
      | (with_reducible exact ih1 _ _ _)
      | (with_reducible exact ih2 _ _ _)
      | (with_reducible exact ih3 _ _ _)
      | (with_reducible exact ih4 _ _ _)
      | (with_reducible exact ih5 _ _ _)
      | (with_reducible exact ih6 _ _ _)
      | (with_reducible exact heraldref02_product.mono _ _ _)
      | (with_reducible exact LeO.refl _)
      | (with_reducible exact LeO.none _)
      | (with_reducible refine LeO.ite ?_ ?_)
      | (with_reducible refine LeO.bind ?_ (fun _ => ?_))
      | exact ih0 _ _ _ _ _ _ _ _
      | exact ih1 _ _ _
      | exact ih2 _ _ _
      | exact ih3 _ _ _
      | exact ih4 _ _ _
      | exact ih5 _ _ _
      | exact ih6 _ _ _
      | exact heraldref02_product.mono _ _ _
      | exact LeO.none _
      | refine LeO.ite ?_ ?_
      | refine LeO.bind ?_ (fun _ => ?_)
    · intro y0 y1 y2
      unfold heraldref02_MulDiv.j3
      repeat' first
      | (with_reducible exact ih0 _ _ _ _ _ _ _ _)
      | (with_reducible exact ih1 _ _ _)
      | (with_reducible exact ih2 _ _ _)
      | (with_reducible exact ih3 _ _ _)
      | (with_reducible exact ih4 _ _ _)
      | (with_reducible exact ih5 _ _ _)
      | (with_reducible exact ih6 _ _ _)
      | (with_reducible exact heraldref02_product.mono _ _ _)
      | (with_reducible exact LeO.refl _)
      | (with_reducible exact LeO.none _)
      | (with_reducible refine LeO.ite ?_ ?_)
      | (with_reducible refine LeO.bind ?_ (fun _ => ?_))
      | exact ih0 _ _ _ _ _ _ _ _
      | exact ih1 _ _ _
      | exact ih2 _ _ _
      | exact ih3 _ _ _
      | exact ih4 _ _ _
      | exact ih5 _ _ _
      | exact ih6 _ _ _
      | exact heraldref02_product.mono _ _ _
      | exact LeO.none _
      | refine LeO.ite ?_ ?_
      | refine LeO.bind ?_ (fun _ => ?_)
    · intro y0 y1 y2
      unfold heraldref02_MulDiv.j4
      repeat' first
      | (with_reducible exact ih0 _ _ _ _ _ _ _ _)
      | (with_reducible exact ih1 _ _ _)
      | (with_reducible exact ih2 _ _ _)
      | (with_reducible exact ih3 _ _ _)
      | (with_reducible exact ih4 _ _ _)
      | (with_reducible exact ih5 _ _ _)
      | (with_reducible exact ih6 _ _ _)
      | (with_reducible exact heraldref02_product.mono _ _ _)
      | (with_reducible exact LeO.refl _)
      | (with_reducible exact LeO.none _)
      | (with_reducible refine LeO.ite ?_ ?_)
      | (with_reducible refine LeO.bind ?_ (fun _ => ?_))
      | exact ih0 _ _ _ _ _ _ _ _
      | exact ih1 _ _ _
      | exact ih2 _ _ _
      | exact ih3 _ _ _
      | exact ih4 _ _ _
      | exact ih5 _ _ _
      | exact ih6 _ _ _
      | exact heraldref02_product.mono _ _ _
      | exact LeO.none _
      | refine LeO.ite ?_ ?_
      | refine LeO.bind ?_ (fun _ => ?_)
    · intro y0 y1 y2
      unfold heraldref02_MulDiv.j5
      repeat' first
      | (with_reducible exact ih0 _ _ _ _ _ _ _ _)
      | (with_reducible exact ih1 _ _ _)
      | (with_reducible exact ih2 _ _ _)
      | (with_reducible exact ih3 _ _ _)
      | (with_reducible exact ih4 _ _ _)
      | (with_reducible exact ih5 _ _ _)
      | (with_reducible exact ih6 _ _ _)
      | (with_reducible exact heraldref02_product.mono _ _ _)
      | (with_reducible exact LeO.refl _)
      | (with_reducible exact LeO.none _)
      | (with_reducible refine LeO.ite ?_ ?_)
      | (with_reducible refine LeO.bind ?_ (fun _ => ?_))
      | exact ih0 _ _ _ _ _ _ _ _
      | exact ih1 _ _ _
      | exact ih2 _ _ _
      | exact ih3 _ _ _
      | exact ih4 _ _ _
      | exact ih5 _ _ _
      | exact ih6 _ _ _
      | exact heraldref02_product.mono _ _ _
      | exact LeO.none _
      | refine LeO.ite ?_ ?_
      | refine LeO.bind ?_ (fun _ => ?_)
    · intro y0 y1 y2
      unfold heraldref02_MulDiv.j6
      repeat' first
      | (with_reducible exact ih0 _ _ _ _ _ _ _ _)
      | (with_reducible exact ih1 _ _ _)
      | (with_reducible exact ih2 _ _ _)
      | (with_reducible exact ih3 _ _ _)
      | (with_reducible exact ih4 _ _ _)
      | (with_reducible exact ih5 _ _ _)
      | (with_reducible exact ih6 _ _ _)
      | (with_reducible exact heraldref02_product.mono _ _ _)
      | (with_reducible exact LeO.refl _)
      | (with_reducible exact LeO.none _)
      | (with_reducible refine LeO.ite ?_ ?_)
      | (with_reducible refine LeO.bind ?_ (fun _ => ?_))
      | exact ih0 _ _ _ _ _ _ _ _
      | exact ih1 _ _ _
      | exact ih2 _ _ _
      | exact ih3 _ _ _
      | exact ih4 _ _ _
      | exact ih5 _ _ _
      | exact ih6 _ _ _
      | exact heraldref02_product.mono _ _ _
      | exact LeO.none _
      | refine LeO.ite ?_ ?_
      | refine LeO.bind ?_ (fun _ => ?_)
theorem heraldref02_MulDiv.mono : ∀ a0 a1 a2 k, LeO (heraldref02_MulDiv.f k a0 a1 a2) (heraldref02_MulDiv.f (k + 1) a0 a1 a2) := by
  intro a0 a1 a2 k
  obtain ⟨ih0, ih1, ih2, ih3, ih4, ih5, ih6⟩ := heraldref02_MulDiv.mono_l k
  unfold heraldref02_MulDiv.f
  repeat' first
      | (with_reducible exact ih0 _ _ _ _ _ _ _ _)
      | (with_reducible exact ih1 _ _ _)
      | (with_reducible exact ih2 _ _ _)
      | (with_reducible exact ih3 _ _ _)
      | (with_reducible exact ih4 _ _ _)
      | (with_reducible exact ih5 _ _ _)
      | (with_reducible exact ih6 _ _ _)
      | (with_reducible exact heraldref02_product.mono _ _ _)
      | (with_reducible exact LeO.refl _)
      | (with_reducible exact LeO.none _)
      | (with_reducible refine LeO.ite ?_ ?_)
      | (with_reducible refine LeO.bind ?_ (fun _ => ?_))
      | exact ih0 _ _ _ _ _ _ _ _
      | exact ih1 _ _ _
      | exact ih2 _ _ _
      | exact ih3 _ _ _
      | exact ih4 _ _ _
      | exact ih5 _ _ _
      | exact ih6 _ _ _
      | exact heraldref02_product.mono _ _ _
      | exact LeO.none _
      | refine LeO.ite ?_ ?_
      | refine LeO.bind ?_ (fun _ => ?_)
set_option maxHeartbeats 8000000 in
set_option maxRecDepth 100000 in
theorem heraldref02_MulDiv.calls (k : Nat) (a0 : Int) (a1 : Int) (a2 : Int) (r1 : Int) (r2 : Int) (w : World) (h : heraldref02_MulDiv.f k a0 a1 a2 = some (r1, r2)) :
    Calls Try.prog 45 #[.int .i64 a0, .int .i64 a1, .int .i64 a2] w fun e w' => e = .returned (.tuple #[.int .i64 r1, .int .i64 r2]) ∧ Below w.heap.size w w' := by
 have HB := ym (Below.refl w.heap.size w)
 have H : (if a2 < 1 then (some (0, 21)) else ((heraldref02_size.f a0).bind fun t145 => ((heraldref02_size.f a1).bind fun t146 => ((heraldref02_product.f k t145 t146).bind fun t147 => (heraldref02_MulDiv.l0 k a0 a1 a2 t147 0 0 false 127))))) = some (r1, r2) := h
 clear h
 by_cases c4 : a2 < 1
 ·
  rw [if_pos c4] at H
  have c4b0 : decide (a2 < 1) = true := decide_eq_true c4
  clear c4
  simp only [Option.some.injEq, Prod.mk.injEq] at H
  obtain ⟨rfl, rfl⟩ := H
  go_enter Try.func45, Try.ntmps45
  go_wp2
  go_ret2
  exact ⟨by first | rfl | (simp [errW_none, errW_some] <;> rfl) | (simp [*, errW_none, errW_some] <;> rfl), by repeat (first | (with_reducible first | exact HB.out | apply y3) | exact HB.out)⟩
 rw [if_neg c4] at H
 have c4b0 : decide (a2 < 1) = false := decide_eq_false c4
 clear c4
 replace H := Option.bind_eq_some_iff.mp H
 obtain ⟨t145, A50, H⟩ := H
 replace H : ((heraldref02_size.f a1).bind fun t146 => ((heraldref02_product.f k t145 t146).bind fun t147 => (heraldref02_MulDiv.l0 k a0 a1 a2 t147 0 0 false 127))) = some (r1, r2) := H
 have A5 := ym A50
 clear A50
 replace H := Option.bind_eq_some_iff.mp H
 obtain ⟨t146, A60, H⟩ := H
 replace H : ((heraldref02_product.f k t145 t146).bind fun t147 => (heraldref02_MulDiv.l0 k a0 a1 a2 t147 0 0 false 127)) = some (r1, r2) := H
 have A6 := ym A60
 clear A60
 replace H := Option.bind_eq_some_iff.mp H
 obtain ⟨t147, A70, H⟩ := H
 replace H : (heraldref02_MulDiv.l0 k a0 a1 a2 t147 0 0 false 127) = some (r1, r2) := H
 have A7 := ym A70
 clear A70
 have H' := ym H
 clear H
 go_enter Try.func45, Try.ntmps45
 go_wp2_with (first | ((with_reducible refine gate_callee (f := 50) rfl ?_); refine goesL_ (some 17) rfl rfl Try.func50 (by kernel_rfl) rfl #[.int .i64 a0] rfl (by (try simp only [List.map_toArray, List.map_cons, List.map_nil]); first | done | rfl | (simp only [List.length_drop, List.length_take]; rfl)) ?_; (with_reducible refine (heraldref02_size.calls a0 t145 _ A5.out).mono ?_); rintro e w' ⟨rfl, ⟨nd, rfl⟩⟩; refine ⟨_, rfl, ?_⟩) | ((with_reducible refine gate_callee (f := 50) rfl ?_); refine goesL_ (some 19) rfl rfl Try.func50 (by kernel_rfl) rfl #[.int .i64 a1] rfl (by (try simp only [List.map_toArray, List.map_cons, List.map_nil]); first | done | rfl | (simp only [List.length_drop, List.length_take]; rfl)) ?_; (with_reducible refine (heraldref02_size.calls a1 t146 _ A6.out).mono ?_); rintro e w' ⟨rfl, ⟨nd, rfl⟩⟩; refine ⟨_, rfl, ?_⟩) | ((with_reducible refine gate_callee (f := 52) rfl ?_); refine goesL_ (some 20) rfl rfl Try.func52 (by kernel_rfl) rfl #[.int .u64 t145, .int .u64 t146] rfl (by (try simp only [List.map_toArray, List.map_cons, List.map_nil]); first | done | rfl | (simp only [List.length_drop, List.length_take]; rfl)) ?_; (with_reducible refine (heraldref02_product.calls k t145 t146 t147 _ A7.out).mono ?_); rintro e w8 ⟨v148, rfl, ho0, hb⟩; refine ⟨_, rfl, ?_⟩; have n0_ := ym (yo ho0 (below_size (by repeat (first | (with_reducible first | exact HB.out | apply y3) | exact HB.out)))); have n1_ := ym (yn (by repeat (first | (with_reducible first | exact HB.out | apply y3) | exact HB.out)) hb); clear HB; have HO149 := n0_; have HB := n1_; clear n0_ n1_; (try clear hb); (try clear hb2); (try clear hk); (try clear hi); (try clear ho0)))
 go_loopg [9, 10, 11, 12] k (fun kq v9 v10 v11 v12 w' => ∃ (x9_1 : Int) (x10_1 : Int) (x11_1 : Bool) (x12_1 : Int), v9 = .int .u64 x9_1 ∧ v10 = .int .u64 x10_1 ∧ v11 = .bool x11_1 ∧ v12 = .int .i64 x12_1 ∧ Aside0 (heraldref02_MulDiv.l0 kq a0 a1 a2 t147 x9_1 x10_1 x11_1 x12_1 = some (r1, r2)) ∧ Aside0 (kq ≤ k) ∧ Aside0 (Kd.R (Kd.int .u64) 58 w' w.heap.size (fun _ => True) v148 t147) ∧ Aside0 (Below w.heap.size w w'))
 case atStart => exact ⟨(0), (0), (false), (127), (by first | rfl | (simp; done) | (simp [*]; done)), (by first | rfl | (simp; done) | (simp [*]; done)), (by first | rfl | (simp; done) | (simp [*]; done)), (by first | rfl | (simp; done) | (simp [*]; done)), H', ⟨Nat.le_refl _⟩, ⟨by (with_reducible repeat apply y2); exact HO149.out⟩, ⟨by repeat (first | (with_reducible first | exact HB.out | apply y3) | exact HB.out)⟩⟩
 case round =>
  clear H'
  try clear p2
  try clear c4
  try clear c4b0
  try clear c5
  obtain ⟨x9_1, x10_1, x11_1, x12_1, rfl, rfl, rfl, rfl, HA, HK1, HO_8, HB⟩ := hrel
  cases gk with
  | zero => exact absurd HA.out (by simp [heraldref02_MulDiv.l0])
  | succ k1 =>
   have H := HA.out
   clear HA
   simp only [heraldref02_MulDiv.l0] at H
   by_cases c9 : x12_1 ≥ 0
   ·
    rw [if_pos c9] at H
    have c9b0 : decide (0 ≤ x12_1) = true := decide_eq_true c9
    clear c9
    obtain ⟨ji10, hji10⟩ : ∃ j_ : Int, (wrap64 (Int.tdiv x12_1 16)) = j_ := ⟨_, rfl⟩
    replace H : (if 0 ≤ (ji10) then (if (ji10) < (t147.length : Int) then (if 0 ≤ (IntKind.u64.wrap (Int.tmod x12_1 16)) then (if x11_1 = true then (if (IntKind.u64.wrap ((IntKind.u64.wrap (2 * x10_1)) + (Go.bits .and .u64 (shr .u64 (rd t147 (ji10)) (IntKind.u64.wrap (Int.tmod x12_1 16))) 1))) ≥ (IntKind.u64.wrap (a2)) then (heraldref02_MulDiv.l0 k1 a0 a1 a2 t147 (IntKind.u64.wrap ((IntKind.u64.wrap (x9_1 * 2)) + 1)) (IntKind.u64.wrap ((IntKind.u64.wrap ((IntKind.u64.wrap (2 * x10_1)) + (Go.bits .and .u64 (shr .u64 (rd t147 (ji10)) (IntKind.u64.wrap (Int.tmod x12_1 16))) 1))) - (IntKind.u64.wrap (a2)))) true (wrap64 (x12_1 - 1))) else (heraldref02_MulDiv.l0 k1 a0 a1 a2 t147 (IntKind.u64.wrap (x9_1 * 2)) (IntKind.u64.wrap ((IntKind.u64.wrap (2 * x10_1)) + (Go.bits .and .u64 (shr .u64 (rd t147 (ji10)) (IntKind.u64.wrap (Int.tmod x12_1 16))) 1))) true (wrap64 (x12_1 - 1)))) else (if (IntKind.u64.wrap ((IntKind.u64.wrap (2 * x10_1)) + (Go.bits .and .u64 (shr .u64 (rd t147 (ji10)) (IntKind.u64.wrap (Int.tmod x12_1 16))) 1))) ≥ (IntKind.u64.wrap (a2)) then (heraldref02_MulDiv.l0 k1 a0 a1 a2 t147 (IntKind.u64.wrap ((IntKind.u64.wrap (x9_1 * 2)) + 1)) (IntKind.u64.wrap ((IntKind.u64.wrap ((IntKind.u64.wrap (2 * x10_1)) + (Go.bits .and .u64 (shr .u64 (rd t147 (ji10)) (IntKind.u64.wrap (Int.tmod x12_1 16))) 1))) - (IntKind.u64.wrap (a2)))) (decide (x9_1 ≥ 9223372036854775808)) (wrap64 (x12_1 - 1))) else (heraldref02_MulDiv.l0 k1 a0 a1 a2 t147 (IntKind.u64.wrap (x9_1 * 2)) (IntKind.u64.wrap ((IntKind.u64.wrap (2 * x10_1)) + (Go.bits .and .u64 (shr .u64 (rd t147 (ji10)) (IntKind.u64.wrap (Int.tmod x12_1 16))) 1))) (decide (x9_1 ≥ 9223372036854775808)) (wrap64 (x12_1 - 1))))) else (none)) else (none)) else (none)) = some (r1, r2) := by first | (rw [hji10] at H; exact H) | (simp only [hji10] at H ⊢; exact H)
    have hji10w : (IntKind.i64.wrap (Int.tdiv x12_1 16)) = ji10 := (i64_w _).trans hji10
    by_cases c11 : 0 ≤ (ji10)
    ·
     rw [if_pos c11] at H
     have c11b0 : decide (0 ≤ (ji10)) = true := decide_eq_true c11
     clear c11
     by_cases c12 : (ji10) < (t147.length : Int)
     ·
      rw [if_pos c12] at H
      have c12b0 : decide ((ji10) < (t147.length : Int)) = true := decide_eq_true c12
      clear c12
      obtain ⟨ji13, hji13⟩ : ∃ j_ : Int, (IntKind.u64.wrap (Int.tmod x12_1 16)) = j_ := ⟨_, rfl⟩
      replace H : (if 0 ≤ (ji13) then (if x11_1 = true then (if (IntKind.u64.wrap ((IntKind.u64.wrap (2 * x10_1)) + (Go.bits .and .u64 (shr .u64 (rd t147 (ji10)) (ji13)) 1))) ≥ (IntKind.u64.wrap (a2)) then (heraldref02_MulDiv.l0 k1 a0 a1 a2 t147 (IntKind.u64.wrap ((IntKind.u64.wrap (x9_1 * 2)) + 1)) (IntKind.u64.wrap ((IntKind.u64.wrap ((IntKind.u64.wrap (2 * x10_1)) + (Go.bits .and .u64 (shr .u64 (rd t147 (ji10)) (ji13)) 1))) - (IntKind.u64.wrap (a2)))) true (wrap64 (x12_1 - 1))) else (heraldref02_MulDiv.l0 k1 a0 a1 a2 t147 (IntKind.u64.wrap (x9_1 * 2)) (IntKind.u64.wrap ((IntKind.u64.wrap (2 * x10_1)) + (Go.bits .and .u64 (shr .u64 (rd t147 (ji10)) (ji13)) 1))) true (wrap64 (x12_1 - 1)))) else (if (IntKind.u64.wrap ((IntKind.u64.wrap (2 * x10_1)) + (Go.bits .and .u64 (shr .u64 (rd t147 (ji10)) (ji13)) 1))) ≥ (IntKind.u64.wrap (a2)) then (heraldref02_MulDiv.l0 k1 a0 a1 a2 t147 (IntKind.u64.wrap ((IntKind.u64.wrap (x9_1 * 2)) + 1)) (IntKind.u64.wrap ((IntKind.u64.wrap ((IntKind.u64.wrap (2 * x10_1)) + (Go.bits .and .u64 (shr .u64 (rd t147 (ji10)) (ji13)) 1))) - (IntKind.u64.wrap (a2)))) (decide (x9_1 ≥ 9223372036854775808)) (wrap64 (x12_1 - 1))) else (heraldref02_MulDiv.l0 k1 a0 a1 a2 t147 (IntKind.u64.wrap (x9_1 * 2)) (IntKind.u64.wrap ((IntKind.u64.wrap (2 * x10_1)) + (Go.bits .and .u64 (shr .u64 (rd t147 (ji10)) (ji13)) 1))) (decide (x9_1 ≥ 9223372036854775808)) (wrap64 (x12_1 - 1))))) else (none)) = some (r1, r2) := by first | (rw [hji13] at H; exact H) | (simp only [hji13] at H ⊢; exact H)
      by_cases c14 : 0 ≤ (ji13)
      ·
       rw [if_pos c14] at H
       have c14b0 := eq_true c14
       have c14b1 : decide (0 ≤ (ji13)) = true := decide_eq_true c14
       clear c14
       obtain ⟨ji15, hji15⟩ : ∃ j_ : Int, (shr .u64 (rd t147 (ji10)) (ji13)) = j_ := ⟨_, rfl⟩
       replace H : (if x11_1 = true then (if (IntKind.u64.wrap ((IntKind.u64.wrap (2 * x10_1)) + (Go.bits .and .u64 (ji15) 1))) ≥ (IntKind.u64.wrap (a2)) then (heraldref02_MulDiv.l0 k1 a0 a1 a2 t147 (IntKind.u64.wrap ((IntKind.u64.wrap (x9_1 * 2)) + 1)) (IntKind.u64.wrap ((IntKind.u64.wrap ((IntKind.u64.wrap (2 * x10_1)) + (Go.bits .and .u64 (ji15) 1))) - (IntKind.u64.wrap (a2)))) true (wrap64 (x12_1 - 1))) else (heraldref02_MulDiv.l0 k1 a0 a1 a2 t147 (IntKind.u64.wrap (x9_1 * 2)) (IntKind.u64.wrap ((IntKind.u64.wrap (2 * x10_1)) + (Go.bits .and .u64 (ji15) 1))) true (wrap64 (x12_1 - 1)))) else (if (IntKind.u64.wrap ((IntKind.u64.wrap (2 * x10_1)) + (Go.bits .and .u64 (ji15) 1))) ≥ (IntKind.u64.wrap (a2)) then (heraldref02_MulDiv.l0 k1 a0 a1 a2 t147 (IntKind.u64.wrap ((IntKind.u64.wrap (x9_1 * 2)) + 1)) (IntKind.u64.wrap ((IntKind.u64.wrap ((IntKind.u64.wrap (2 * x10_1)) + (Go.bits .and .u64 (ji15) 1))) - (IntKind.u64.wrap (a2)))) (decide (x9_1 ≥ 9223372036854775808)) (wrap64 (x12_1 - 1))) else (heraldref02_MulDiv.l0 k1 a0 a1 a2 t147 (IntKind.u64.wrap (x9_1 * 2)) (IntKind.u64.wrap ((IntKind.u64.wrap (2 * x10_1)) + (Go.bits .and .u64 (ji15) 1))) (decide (x9_1 ≥ 9223372036854775808)) (wrap64 (x12_1 - 1))))) = some (r1, r2) := by first | (rw [hji15] at H; exact H) | (simp only [hji15] at H ⊢; exact H)
       have hji15_ : ((rd t147 (ji10)) / 2 ^ min (ji13).toNat 64) = ji15 := hji15
       have hji15z : (ji13) ≤ 64 → ((rd t147 (ji10)) / 2 ^ (ji13).toNat) = ji15 := shr_small hji15
       by_cases c16 : x11_1 = true
       ·
        subst c16
        have H1 : (if (IntKind.u64.wrap ((IntKind.u64.wrap (2 * x10_1)) + (Go.bits .and .u64 (ji15) 1))) ≥ (IntKind.u64.wrap (a2)) then (heraldref02_MulDiv.l0 k1 a0 a1 a2 t147 (IntKind.u64.wrap ((IntKind.u64.wrap (x9_1 * 2)) + 1)) (IntKind.u64.wrap ((IntKind.u64.wrap ((IntKind.u64.wrap (2 * x10_1)) + (Go.bits .and .u64 (ji15) 1))) - (IntKind.u64.wrap (a2)))) true (wrap64 (x12_1 - 1))) else (heraldref02_MulDiv.l0 k1 a0 a1 a2 t147 (IntKind.u64.wrap (x9_1 * 2)) (IntKind.u64.wrap ((IntKind.u64.wrap (2 * x10_1)) + (Go.bits .and .u64 (ji15) 1))) true (wrap64 (x12_1 - 1)))) = some (r1, r2) := by rw [if_pos rfl] at H; exact H
        clear H
        have H := H1
        clear H1
        by_cases c17 : (IntKind.u64.wrap ((IntKind.u64.wrap (2 * x10_1)) + (Go.bits .and .u64 (ji15) 1))) ≥ (IntKind.u64.wrap (a2))
        ·
         rw [if_pos c17] at H
         have c17b0 : decide ((IntKind.u64.wrap (a2)) ≤ (IntKind.u64.wrap ((IntKind.u64.wrap (2 * x10_1)) + (Go.bits .and .u64 (ji15) 1)))) = true := decide_eq_true c17
         clear c17
         have H' := ym H
         clear H
         obtain ⟨Ao18, co18, eo18⟩ := Kd.R_slice HO_8.out
         subst eo18
         have p150 : 0 ≤ ((ji10) : Int) := of_decide_eq_true (by first | (with_reducible assumption) | assumption)
         have q150 : (ji10) < (t147.length : Int) := of_decide_eq_true (by first | (with_reducible assumption) | assumption)
         obtain ⟨ad150, e150, hx150_0⟩ := Kd.at_int (Kd.R_reads' HO_8.out).2.2 (ji10) p150 q150
         cases e150
         replace p150 := eq_true p150
         replace q150 := eq_true q150
         go_wp2
         go_roundg k1
         case measure => have := HK1.out; omega
         case rel => exact ⟨(IntKind.u64.wrap ((IntKind.u64.wrap (x9_1 * 2)) + 1)), (IntKind.u64.wrap ((IntKind.u64.wrap ((IntKind.u64.wrap (2 * x10_1)) + (Go.bits .and .u64 (ji15) 1))) - (IntKind.u64.wrap (a2)))), (true), (wrap64 (x12_1 - 1)), (by first | rfl | (simp; done) | (simp [*]; done)), (by first | rfl | (simp; done) | (simp only [← hji15] <;> (first | rfl | simp)) | (simp [*]; done)), (by first | rfl | (simp; done) | (simp [*]; done)), (by first | rfl | (simp; done) | (simp [*]; done)), H', ⟨by have := HK1.out; omega⟩, ⟨by (with_reducible repeat apply y2); exact HO_8.out⟩, ⟨by repeat (first | (with_reducible first | exact HB.out | apply y3) | exact HB.out)⟩⟩
        rw [if_neg c17] at H
        have c17b0 : decide ((IntKind.u64.wrap (a2)) ≤ (IntKind.u64.wrap ((IntKind.u64.wrap (2 * x10_1)) + (Go.bits .and .u64 (ji15) 1)))) = false := decide_eq_false c17
        clear c17
        have H' := ym H
        clear H
        obtain ⟨Ao19, co19, eo19⟩ := Kd.R_slice HO_8.out
        subst eo19
        have p150 : 0 ≤ ((ji10) : Int) := of_decide_eq_true (by first | (with_reducible assumption) | assumption)
        have q150 : (ji10) < (t147.length : Int) := of_decide_eq_true (by first | (with_reducible assumption) | assumption)
        obtain ⟨ad150, e150, hx150_0⟩ := Kd.at_int (Kd.R_reads' HO_8.out).2.2 (ji10) p150 q150
        cases e150
        replace p150 := eq_true p150
        replace q150 := eq_true q150
        go_wp2
        go_roundg k1
        case measure => have := HK1.out; omega
        case rel => exact ⟨(IntKind.u64.wrap (x9_1 * 2)), (IntKind.u64.wrap ((IntKind.u64.wrap (2 * x10_1)) + (Go.bits .and .u64 (ji15) 1))), (true), (wrap64 (x12_1 - 1)), (by first | rfl | (simp; done) | (simp [*]; done)), (by first | rfl | (simp; done) | (simp only [← hji15] <;> (first | rfl | simp)) | (simp [*]; done)), (by first | rfl | (simp; done) | (simp [*]; done)), (by first | rfl | (simp; done) | (simp [*]; done)), H', ⟨by have := HK1.out; omega⟩, ⟨by (with_reducible repeat apply y2); exact HO_8.out⟩, ⟨by repeat (first | (with_reducible first | exact HB.out | apply y3) | exact HB.out)⟩⟩
       replace c16 := Bool.eq_false_iff.mpr c16
       subst c16
       have H1 : (if (IntKind.u64.wrap ((IntKind.u64.wrap (2 * x10_1)) + (Go.bits .and .u64 (ji15) 1))) ≥ (IntKind.u64.wrap (a2)) then (heraldref02_MulDiv.l0 k1 a0 a1 a2 t147 (IntKind.u64.wrap ((IntKind.u64.wrap (x9_1 * 2)) + 1)) (IntKind.u64.wrap ((IntKind.u64.wrap ((IntKind.u64.wrap (2 * x10_1)) + (Go.bits .and .u64 (ji15) 1))) - (IntKind.u64.wrap (a2)))) (decide (x9_1 ≥ 9223372036854775808)) (wrap64 (x12_1 - 1))) else (heraldref02_MulDiv.l0 k1 a0 a1 a2 t147 (IntKind.u64.wrap (x9_1 * 2)) (IntKind.u64.wrap ((IntKind.u64.wrap (2 * x10_1)) + (Go.bits .and .u64 (ji15) 1))) (decide (x9_1 ≥ 9223372036854775808)) (wrap64 (x12_1 - 1)))) = some (r1, r2) := by rw [if_neg (show ¬ (false = true) by decide)] at H; exact H
       clear H
       have H := H1
       clear H1
       by_cases c20 : (IntKind.u64.wrap ((IntKind.u64.wrap (2 * x10_1)) + (Go.bits .and .u64 (ji15) 1))) ≥ (IntKind.u64.wrap (a2))
       ·
        rw [if_pos c20] at H
        have c20b0 : decide ((IntKind.u64.wrap (a2)) ≤ (IntKind.u64.wrap ((IntKind.u64.wrap (2 * x10_1)) + (Go.bits .and .u64 (ji15) 1)))) = true := decide_eq_true c20
        clear c20
        have H' := ym H
        clear H
        obtain ⟨Ao21, co21, eo21⟩ := Kd.R_slice HO_8.out
        subst eo21
        have p150 : 0 ≤ ((ji10) : Int) := of_decide_eq_true (by first | (with_reducible assumption) | assumption)
        have q150 : (ji10) < (t147.length : Int) := of_decide_eq_true (by first | (with_reducible assumption) | assumption)
        obtain ⟨ad150, e150, hx150_0⟩ := Kd.at_int (Kd.R_reads' HO_8.out).2.2 (ji10) p150 q150
        cases e150
        replace p150 := eq_true p150
        replace q150 := eq_true q150
        go_wp2
        go_roundg k1
        case measure => have := HK1.out; omega
        case rel => exact ⟨(IntKind.u64.wrap ((IntKind.u64.wrap (x9_1 * 2)) + 1)), (IntKind.u64.wrap ((IntKind.u64.wrap ((IntKind.u64.wrap (2 * x10_1)) + (Go.bits .and .u64 (ji15) 1))) - (IntKind.u64.wrap (a2)))), (decide (x9_1 ≥ 9223372036854775808)), (wrap64 (x12_1 - 1)), (by first | rfl | (simp; done) | (simp [*]; done)), (by first | rfl | (simp; done) | (simp only [← hji15] <;> (first | rfl | simp)) | (simp [*]; done)), (by first | rfl | (simp; done) | (simp [*]; done)), (by first | rfl | (simp; done) | (simp [*]; done)), H', ⟨by have := HK1.out; omega⟩, ⟨by (with_reducible repeat apply y2); exact HO_8.out⟩, ⟨by repeat (first | (with_reducible first | exact HB.out | apply y3) | exact HB.out)⟩⟩
       rw [if_neg c20] at H
       have c20b0 : decide ((IntKind.u64.wrap (a2)) ≤ (IntKind.u64.wrap ((IntKind.u64.wrap (2 * x10_1)) + (Go.bits .and .u64 (ji15) 1)))) = false := decide_eq_false c20
       clear c20
       have H' := ym H
       clear H
       obtain ⟨Ao22, co22, eo22⟩ := Kd.R_slice HO_8.out
       subst eo22
       have p150 : 0 ≤ ((ji10) : Int) := of_decide_eq_true (by first | (with_reducible assumption) | assumption)
       have q150 : (ji10) < (t147.length : Int) := of_decide_eq_true (by first | (with_reducible assumption) | assumption)
       obtain ⟨ad150, e150, hx150_0⟩ := Kd.at_int (Kd.R_reads' HO_8.out).2.2 (ji10) p150 q150
       cases e150
       replace p150 := eq_true p150
       replace q150 := eq_true q150
       go_wp2
       go_roundg k1
       case measure => have := HK1.out; omega
       case rel => exact ⟨(IntKind.u64.wrap (x9_1 * 2)), (IntKind.u64.wrap ((IntKind.u64.wrap (2 * x10_1)) + (Go.bits .and .u64 (ji15) 1))), (decide (x9_1 ≥ 9223372036854775808)), (wrap64 (x12_1 - 1)), (by first | rfl | (simp; done) | (simp [*]; done)), (by first | rfl | (simp; done) | (simp only [← hji15] <;> (first | rfl | simp)) | (simp [*]; done)), (by first | rfl | (simp; done) | (simp [*]; done)), (by first | rfl | (simp; done) | (simp [*]; done)), H', ⟨by have := HK1.out; omega⟩, ⟨by (with_reducible repeat apply y2); exact HO_8.out⟩, ⟨by repeat (first | (with_reducible first | exact HB.out | apply y3) | exact HB.out)⟩⟩
      rw [if_neg c14] at H
      exact absurd H (by simp)
     rw [if_neg c12] at H
     exact absurd H (by simp)
    rw [if_neg c11] at H
    exact absurd H (by simp)
   rw [if_neg c9] at H
   have c9b0 : decide (0 ≤ x12_1) = false := decide_eq_false c9
   clear c9
   by_cases c23 : a0 < 0
   ·
    rw [if_pos c23] at H
    have c23b0 : decide (a0 < 0) = true := decide_eq_true c23
    clear c23
    by_cases c24 : a1 < 0
    ·
     rw [if_pos c24] at H
     have c24b0 : decide (a1 < 0) = true := decide_eq_true c24
     clear c24
     have HC25 := ym H
     clear H
     go_upto_region 18 with (fail)
     go_cut [84] (fun v84 wc => ∃ (kq : Nat) (x84_24 : Bool), v84 = .bool x84_24 ∧ Aside0 (heraldref02_MulDiv.j1 kq x9_1 false x84_24 = some (r1, r2)) ∧ Aside0 (kq ≤ k1) ∧ Aside0 (Below w.heap.size w wc))
     case first =>
      have H := HC25.out
      clear HC25
      by_cases c26 : x11_1 = true
      ·
       subst c26
       have H1 : (heraldref02_MulDiv.j1 k1 x9_1 false true) = some (r1, r2) := by rw [if_pos rfl] at H; exact H
       clear H
       have H := H1
       clear H1
       have H' := ym H
       clear H
       go_wp2
       go_meet
       case rel => exact ⟨_, (true), (by first | rfl | (simp; done) | (simp [*]; done)), H', ⟨by have := HK1.out; first | omega | exact Nat.le_refl _⟩, ⟨by repeat (first | (with_reducible first | exact HB.out | apply y3) | exact HB.out)⟩⟩
      replace c26 := Bool.eq_false_iff.mpr c26
      subst c26
      have H1 : (if x9_1 > 9223372036854775808 then (heraldref02_MulDiv.j1 k1 x9_1 false true) else (heraldref02_MulDiv.j1 k1 x9_1 false (x9_1 == 9223372036854775808))) = some (r1, r2) := by rw [if_neg (show ¬ (false = true) by decide)] at H; exact H
      clear H
      have H := H1
      clear H1
      by_cases c27 : x9_1 > 9223372036854775808
      ·
       rw [if_pos c27] at H
       have c27b0 : decide (9223372036854775808 < x9_1) = true := decide_eq_true c27
       clear c27
       (first | rw [c27b0] | (simp only [i64_w, i32_w]; rw [c27b0]) | skip)
       have H' := ym H
       clear H
       go_wp2
       go_meet
       case rel => exact ⟨_, (true), (by first | rfl | (simp; done) | (simp [*]; done)), H', ⟨by have := HK1.out; first | omega | exact Nat.le_refl _⟩, ⟨by repeat (first | (with_reducible first | exact HB.out | apply y3) | exact HB.out)⟩⟩
      rw [if_neg c27] at H
      have c27b0 : decide (9223372036854775808 < x9_1) = false := decide_eq_false c27
      clear c27
      (first | rw [c27b0] | (simp only [i64_w, i32_w]; rw [c27b0]) | skip)
      have H' := ym H
      clear H
      go_wp2
      go_meet
      case rel => exact ⟨_, ((x9_1 == 9223372036854775808)), (by first | rfl | (simp; done) | (simp [*]; done)), H', ⟨by have := HK1.out; first | omega | exact Nat.le_refl _⟩, ⟨by repeat (first | (with_reducible first | exact HB.out | apply y3) | exact HB.out)⟩⟩
     case rest =>
      clear HC25
      try clear c1
      try clear p1
      try clear q1
      try clear hx1
      try clear c2
      try clear p2
      try clear c4
      try clear c4b0
      try clear c5
      try clear p6
      try clear c9
      try clear c9b0
      try clear c11
      try clear c11b0
      try clear c12
      try clear c12b0
      try clear c14
      try clear c14b0
      try clear c14b1
      try clear p15
      try clear q15
      try clear hx15
      try clear c16
      try clear c17
      try clear c17b0
      try clear c20
      try clear c20b0
      try clear c23
      try clear c23b0
      try clear c24
      try clear c24b0
      try clear c26
      try clear c27
      try clear c27b0
      try clear hx150_0
      try clear p150
      try clear p2
      try clear q150
      obtain ⟨kq, x84_24, rfl, HA, HJ24, HB⟩ := hcut
      cases kq with
      | zero => exact absurd HA.out (by simp [heraldref02_MulDiv.j1])
      | succ kj24 =>
       have H := HA.out
       clear HA
       simp only [heraldref02_MulDiv.j1] at H
       by_cases c28 : x84_24 = true
       ·
        subst c28
        have H1 : (some (0, 23)) = some (r1, r2) := by rw [if_pos rfl] at H; exact H
        clear H
        have H := H1
        clear H1
        simp only [Option.some.injEq, Prod.mk.injEq] at H
        obtain ⟨rfl, rfl⟩ := H
        go_wp2
        go_ret2
        exact ⟨by first | rfl | (simp [errW_none, errW_some] <;> rfl) | (simp [*, errW_none, errW_some] <;> rfl), by repeat (first | (with_reducible first | exact HB.out | apply y3) | exact HB.out)⟩
       replace c28 := Bool.eq_false_iff.mpr c28
       subst c28
       have H1 : (if false = true then (some (wrap64 (IntKind.u64.wrap (-x9_1)), 0)) else (some (wrap64 (x9_1), 0))) = some (r1, r2) := by rw [if_neg (show ¬ (false = true) by decide)] at H; exact H
       clear H
       have H := H1
       clear H1
       have c29 : ¬ (false = true) := by decide
       have H1 : (some (wrap64 (x9_1), 0)) = some (r1, r2) := by rw [if_neg (show ¬ (false = true) by decide)] at H; exact H
       clear H
       have H := H1
       clear H1
       simp only [Option.some.injEq, Prod.mk.injEq] at H
       obtain ⟨rfl, rfl⟩ := H
       go_wp2
       go_ret2
       exact ⟨by first | rfl | (simp [errW_none, errW_some] <;> rfl) | (simp [*, errW_none, errW_some] <;> rfl), by repeat (first | (with_reducible first | exact HB.out | apply y3) | exact HB.out)⟩
    rw [if_neg c24] at H
    have c24b0 : decide (a1 < 0) = false := decide_eq_false c24
    clear c24
    have HC30 := ym H
    clear H
    go_upto_if 64 with (fail)
    go_cut [9, 11] (fun v9 v11 wc => ∃ (kq : Nat) (x9_29 : Int) (x11_29 : Bool), v9 = .int .u64 x9_29 ∧ v11 = .bool x11_29 ∧ Aside0 (heraldref02_MulDiv.j2 kq x9_29 x11_29 true = some (r1, r2)) ∧ Aside0 (kq ≤ k1) ∧ Aside0 (Below w.heap.size w wc))
    case first =>
     have H := HC30.out
     clear HC30
     by_cases c31 : x10_1 > 0
     ·
      rw [if_pos c31] at H
      have c31b0 : decide (0 < x10_1) = true := decide_eq_true c31
      clear c31
      (first | rw [c31b0] | (simp only [i64_w, i32_w]; rw [c31b0]) | skip)
      by_cases c32 : x11_1 = true
      ·
       subst c32
       have H1 : (heraldref02_MulDiv.j2 k1 (IntKind.u64.wrap (x9_1 + 1)) true true) = some (r1, r2) := by rw [if_pos rfl] at H; exact H
       clear H
       have H := H1
       clear H1
       have H' := ym H
       clear H
       go_wp2
       go_meet
       case rel => exact ⟨_, (IntKind.u64.wrap (x9_1 + 1)), (true), (by first | rfl | (simp; done) | (simp [*]; done)), (by first | rfl | (simp; done) | (simp [*]; done)), H', ⟨by have := HK1.out; first | omega | exact Nat.le_refl _⟩, ⟨by repeat (first | (with_reducible first | exact HB.out | apply y3) | exact HB.out)⟩⟩
      replace c32 := Bool.eq_false_iff.mpr c32
      subst c32
      have H1 : (heraldref02_MulDiv.j2 k1 (IntKind.u64.wrap (x9_1 + 1)) (decide (x9_1 ≥ 9223372036854775808)) true) = some (r1, r2) := by rw [if_neg (show ¬ (false = true) by decide)] at H; exact H
      clear H
      have H := H1
      clear H1
      have H' := ym H
      clear H
      go_wp2
      go_meet
      case rel => exact ⟨_, (IntKind.u64.wrap (x9_1 + 1)), (decide (x9_1 ≥ 9223372036854775808)), (by first | rfl | (simp; done) | (simp [*]; done)), (by first | rfl | (simp; done) | (simp [*]; done)), H', ⟨by have := HK1.out; first | omega | exact Nat.le_refl _⟩, ⟨by repeat (first | (with_reducible first | exact HB.out | apply y3) | exact HB.out)⟩⟩
     rw [if_neg c31] at H
     have c31b0 : decide (0 < x10_1) = false := decide_eq_false c31
     clear c31
     (first | rw [c31b0] | (simp only [i64_w, i32_w]; rw [c31b0]) | skip)
     have H' := ym H
     clear H
     go_wp2
     go_meet
     case rel => exact ⟨_, (x9_1), (x11_1), (by first | rfl | (simp; done) | (simp [*]; done)), (by first | rfl | (simp; done) | (simp [*]; done)), H', ⟨by have := HK1.out; first | omega | exact Nat.le_refl _⟩, ⟨by repeat (first | (with_reducible first | exact HB.out | apply y3) | exact HB.out)⟩⟩
    case rest =>
     clear HC30
     try clear c1
     try clear p1
     try clear q1
     try clear hx1
     try clear c2
     try clear p2
     try clear c3
     try clear c4
     try clear c4b0
     try clear c5
     try clear p6
     try clear c9
     try clear c9b0
     try clear c11
     try clear c11b0
     try clear c12
     try clear c12b0
     try clear c14
     try clear c14b0
     try clear c14b1
     try clear p15
     try clear q15
     try clear hx15
     try clear c16
     try clear c17
     try clear c17b0
     try clear c20
     try clear c20b0
     try clear c23
     try clear c23b0
     try clear c24
     try clear c24b0
     try clear c26
     try clear c27
     try clear c27b0
     try clear c28
     try clear c29
     try clear c31
     try clear c31b0
     try clear c32
     try clear hx150_0
     try clear p1
     try clear p15
     try clear p150
     try clear p2
     try clear p6
     try clear q1
     try clear q15
     try clear q150
     obtain ⟨kq, x9_29, x11_29, rfl, rfl, HA, HJ29, HB⟩ := hcut
     cases kq with
     | zero => exact absurd HA.out (by simp [heraldref02_MulDiv.j2])
     | succ kj29 =>
      have H := HA.out
      clear HA
      simp only [heraldref02_MulDiv.j2] at H
      have HC33 := ym H
      clear H
      go_upto_region 18 with (fail)
      go_cut [84] (fun v84 wc => ∃ (kq : Nat) (x84_32 : Bool), v84 = .bool x84_32 ∧ Aside0 (heraldref02_MulDiv.j3 kq x9_29 true x84_32 = some (r1, r2)) ∧ Aside0 (kq ≤ kj29) ∧ Aside0 (Below w.heap.size w wc))
      case first =>
       have H := HC33.out
       clear HC33
       by_cases c34 : x11_29 = true
       ·
        subst c34
        have H1 : (heraldref02_MulDiv.j3 kj29 x9_29 true true) = some (r1, r2) := by rw [if_pos rfl] at H; exact H
        clear H
        have H := H1
        clear H1
        have H' := ym H
        clear H
        go_wp2
        go_meet
        case rel => exact ⟨_, (true), (by first | rfl | (simp; done) | (simp [*]; done)), H', ⟨by have := HK1.out; have := HJ29.out; first | omega | exact Nat.le_refl _⟩, ⟨by repeat (first | (with_reducible first | exact HB.out | apply y3) | exact HB.out)⟩⟩
       replace c34 := Bool.eq_false_iff.mpr c34
       subst c34
       have H1 : (if x9_29 > 9223372036854775808 then (heraldref02_MulDiv.j3 kj29 x9_29 true true) else (if true = true then (heraldref02_MulDiv.j3 kj29 x9_29 true false) else (heraldref02_MulDiv.j3 kj29 x9_29 true (x9_29 == 9223372036854775808)))) = some (r1, r2) := by rw [if_neg (show ¬ (false = true) by decide)] at H; exact H
       clear H
       have H := H1
       clear H1
       by_cases c35 : x9_29 > 9223372036854775808
       ·
        rw [if_pos c35] at H
        have c35b0 : decide (9223372036854775808 < x9_29) = true := decide_eq_true c35
        clear c35
        (first | rw [c35b0] | (simp only [i64_w, i32_w]; rw [c35b0]) | skip)
        have H' := ym H
        clear H
        go_wp2
        go_meet
        case rel => exact ⟨_, (true), (by first | rfl | (simp; done) | (simp [*]; done)), H', ⟨by have := HK1.out; have := HJ29.out; first | omega | exact Nat.le_refl _⟩, ⟨by repeat (first | (with_reducible first | exact HB.out | apply y3) | exact HB.out)⟩⟩
       rw [if_neg c35] at H
       have c35b0 : decide (9223372036854775808 < x9_29) = false := decide_eq_false c35
       clear c35
       (first | rw [c35b0] | (simp only [i64_w, i32_w]; rw [c35b0]) | skip)
       have c36 : true = true := rfl
       have H1 : (heraldref02_MulDiv.j3 kj29 x9_29 true false) = some (r1, r2) := by rw [if_pos rfl] at H; exact H
       clear H
       have H := H1
       clear H1
       have H' := ym H
       clear H
       go_wp2
       go_meet
       case rel => exact ⟨_, (false), (by first | rfl | (simp; done) | (simp [*]; done)), H', ⟨by have := HK1.out; have := HJ29.out; first | omega | exact Nat.le_refl _⟩, ⟨by repeat (first | (with_reducible first | exact HB.out | apply y3) | exact HB.out)⟩⟩
      case rest =>
       clear HC33
       try clear c1
       try clear p1
       try clear q1
       try clear hx1
       try clear c2
       try clear p2
       try clear c3
       try clear c4
       try clear c4b0
       try clear c5
       try clear p6
       try clear c9
       try clear c9b0
       try clear c11
       try clear c11b0
       try clear c12
       try clear c12b0
       try clear c14
       try clear c14b0
       try clear c14b1
       try clear p15
       try clear q15
       try clear hx15
       try clear c16
       try clear c17
       try clear c17b0
       try clear c20
       try clear c20b0
       try clear c23
       try clear c23b0
       try clear c24
       try clear c24b0
       try clear c26
       try clear c27
       try clear c27b0
       try clear c28
       try clear c29
       try clear c31
       try clear c31b0
       try clear c32
       try clear c34
       try clear c35
       try clear c35b0
       try clear c36
       try clear hx150_0
       try clear p1
       try clear p15
       try clear p150
       try clear p2
       try clear p6
       try clear q1
       try clear q15
       try clear q150
       obtain ⟨kq, x84_32, rfl, HA, HJ32, HB⟩ := hcut
       cases kq with
       | zero => exact absurd HA.out (by simp [heraldref02_MulDiv.j3])
       | succ kj32 =>
        have H := HA.out
        clear HA
        simp only [heraldref02_MulDiv.j3] at H
        by_cases c37 : x84_32 = true
        ·
         subst c37
         have H1 : (some (0, 23)) = some (r1, r2) := by rw [if_pos rfl] at H; exact H
         clear H
         have H := H1
         clear H1
         simp only [Option.some.injEq, Prod.mk.injEq] at H
         obtain ⟨rfl, rfl⟩ := H
         go_wp2
         go_ret2
         exact ⟨by first | rfl | (simp [errW_none, errW_some] <;> rfl) | (simp [*, errW_none, errW_some] <;> rfl), by repeat (first | (with_reducible first | exact HB.out | apply y3) | exact HB.out)⟩
        replace c37 := Bool.eq_false_iff.mpr c37
        subst c37
        have H1 : (if true = true then (some (wrap64 (IntKind.u64.wrap (-x9_29)), 0)) else (some (wrap64 (x9_29), 0))) = some (r1, r2) := by rw [if_neg (show ¬ (false = true) by decide)] at H; exact H
        clear H
        have H := H1
        clear H1
        have c38 : true = true := rfl
        have H1 : (some (wrap64 (IntKind.u64.wrap (-x9_29)), 0)) = some (r1, r2) := by rw [if_pos rfl] at H; exact H
        clear H
        have H := H1
        clear H1
        simp only [Option.some.injEq, Prod.mk.injEq] at H
        obtain ⟨rfl, rfl⟩ := H
        go_wp2
        go_ret2
        exact ⟨by first | rfl | (simp [errW_none, errW_some] <;> rfl) | (simp [*, errW_none, errW_some] <;> rfl), by repeat (first | (with_reducible first | exact HB.out | apply y3) | exact HB.out)⟩
   rw [if_neg c23] at H
   have c23b0 : decide (a0 < 0) = false := decide_eq_false c23
   clear c23
   by_cases c39 : a1 < 0
   ·
    rw [if_pos c39] at H
    have c39b0 : decide (a1 < 0) = true := decide_eq_true c39
    clear c39
    have HC40 := ym H
    clear H
    go_upto_if 64 with (fail)
    go_cut [9, 11] (fun v9 v11 wc => ∃ (kq : Nat) (x9_39 : Int) (x11_39 : Bool), v9 = .int .u64 x9_39 ∧ v11 = .bool x11_39 ∧ Aside0 (heraldref02_MulDiv.j4 kq x9_39 x11_39 true = some (r1, r2)) ∧ Aside0 (kq ≤ k1) ∧ Aside0 (Below w.heap.size w wc))
    case first =>
     have H := HC40.out
     clear HC40
     by_cases c41 : x10_1 > 0
     ·
      rw [if_pos c41] at H
      have c41b0 : decide (0 < x10_1) = true := decide_eq_true c41
      clear c41
      (first | rw [c41b0] | (simp only [i64_w, i32_w]; rw [c41b0]) | skip)
      by_cases c42 : x11_1 = true
      ·
       subst c42
       have H1 : (heraldref02_MulDiv.j4 k1 (IntKind.u64.wrap (x9_1 + 1)) true true) = some (r1, r2) := by rw [if_pos rfl] at H; exact H
       clear H
       have H := H1
       clear H1
       have H' := ym H
       clear H
       go_wp2
       go_meet
       case rel => exact ⟨_, (IntKind.u64.wrap (x9_1 + 1)), (true), (by first | rfl | (simp; done) | (simp [*]; done)), (by first | rfl | (simp; done) | (simp [*]; done)), H', ⟨by have := HK1.out; first | omega | exact Nat.le_refl _⟩, ⟨by repeat (first | (with_reducible first | exact HB.out | apply y3) | exact HB.out)⟩⟩
      replace c42 := Bool.eq_false_iff.mpr c42
      subst c42
      have H1 : (heraldref02_MulDiv.j4 k1 (IntKind.u64.wrap (x9_1 + 1)) (decide (x9_1 ≥ 9223372036854775808)) true) = some (r1, r2) := by rw [if_neg (show ¬ (false = true) by decide)] at H; exact H
      clear H
      have H := H1
      clear H1
      have H' := ym H
      clear H
      go_wp2
      go_meet
      case rel => exact ⟨_, (IntKind.u64.wrap (x9_1 + 1)), (decide (x9_1 ≥ 9223372036854775808)), (by first | rfl | (simp; done) | (simp [*]; done)), (by first | rfl | (simp; done) | (simp [*]; done)), H', ⟨by have := HK1.out; first | omega | exact Nat.le_refl _⟩, ⟨by repeat (first | (with_reducible first | exact HB.out | apply y3) | exact HB.out)⟩⟩
     rw [if_neg c41] at H
     have c41b0 : decide (0 < x10_1) = false := decide_eq_false c41
     clear c41
     (first | rw [c41b0] | (simp only [i64_w, i32_w]; rw [c41b0]) | skip)
     have H' := ym H
     clear H
     go_wp2
     go_meet
     case rel => exact ⟨_, (x9_1), (x11_1), (by first | rfl | (simp; done) | (simp [*]; done)), (by first | rfl | (simp; done) | (simp [*]; done)), H', ⟨by have := HK1.out; first | omega | exact Nat.le_refl _⟩, ⟨by repeat (first | (with_reducible first | exact HB.out | apply y3) | exact HB.out)⟩⟩
    case rest =>
     clear HC40
     try clear c1
     try clear p1
     try clear q1
     try clear hx1
     try clear c2
     try clear p2
     try clear c3
     try clear c4
     try clear c4b0
     try clear c5
     try clear p6
     try clear c9
     try clear c9b0
     try clear c11
     try clear c11b0
     try clear c12
     try clear c12b0
     try clear c14
     try clear c14b0
     try clear c14b1
     try clear p15
     try clear q15
     try clear hx15
     try clear c16
     try clear c17
     try clear c17b0
     try clear c20
     try clear c20b0
     try clear c23
     try clear c23b0
     try clear c24
     try clear c24b0
     try clear c26
     try clear c27
     try clear c27b0
     try clear c28
     try clear c29
     try clear c31
     try clear c31b0
     try clear c32
     try clear c34
     try clear c35
     try clear c35b0
     try clear c36
     try clear c37
     try clear c38
     try clear c39
     try clear c39b0
     try clear c41
     try clear c41b0
     try clear c42
     try clear hx150_0
     try clear p1
     try clear p15
     try clear p150
     try clear p2
     try clear p6
     try clear q1
     try clear q15
     try clear q150
     obtain ⟨kq, x9_39, x11_39, rfl, rfl, HA, HJ39, HB⟩ := hcut
     cases kq with
     | zero => exact absurd HA.out (by simp [heraldref02_MulDiv.j4])
     | succ kj39 =>
      have H := HA.out
      clear HA
      simp only [heraldref02_MulDiv.j4] at H
      have HC43 := ym H
      clear H
      go_upto_region 18 with (fail)
      go_cut [84] (fun v84 wc => ∃ (kq : Nat) (x84_42 : Bool), v84 = .bool x84_42 ∧ Aside0 (heraldref02_MulDiv.j5 kq x9_39 true x84_42 = some (r1, r2)) ∧ Aside0 (kq ≤ kj39) ∧ Aside0 (Below w.heap.size w wc))
      case first =>
       have H := HC43.out
       clear HC43
       by_cases c44 : x11_39 = true
       ·
        subst c44
        have H1 : (heraldref02_MulDiv.j5 kj39 x9_39 true true) = some (r1, r2) := by rw [if_pos rfl] at H; exact H
        clear H
        have H := H1
        clear H1
        have H' := ym H
        clear H
        go_wp2
        go_meet
        case rel => exact ⟨_, (true), (by first | rfl | (simp; done) | (simp [*]; done)), H', ⟨by have := HK1.out; have := HJ39.out; first | omega | exact Nat.le_refl _⟩, ⟨by repeat (first | (with_reducible first | exact HB.out | apply y3) | exact HB.out)⟩⟩
       replace c44 := Bool.eq_false_iff.mpr c44
       subst c44
       have H1 : (if x9_39 > 9223372036854775808 then (heraldref02_MulDiv.j5 kj39 x9_39 true true) else (if true = true then (heraldref02_MulDiv.j5 kj39 x9_39 true false) else (heraldref02_MulDiv.j5 kj39 x9_39 true (x9_39 == 9223372036854775808)))) = some (r1, r2) := by rw [if_neg (show ¬ (false = true) by decide)] at H; exact H
       clear H
       have H := H1
       clear H1
       by_cases c45 : x9_39 > 9223372036854775808
       ·
        rw [if_pos c45] at H
        have c45b0 : decide (9223372036854775808 < x9_39) = true := decide_eq_true c45
        clear c45
        (first | rw [c45b0] | (simp only [i64_w, i32_w]; rw [c45b0]) | skip)
        have H' := ym H
        clear H
        go_wp2
        go_meet
        case rel => exact ⟨_, (true), (by first | rfl | (simp; done) | (simp [*]; done)), H', ⟨by have := HK1.out; have := HJ39.out; first | omega | exact Nat.le_refl _⟩, ⟨by repeat (first | (with_reducible first | exact HB.out | apply y3) | exact HB.out)⟩⟩
       rw [if_neg c45] at H
       have c45b0 : decide (9223372036854775808 < x9_39) = false := decide_eq_false c45
       clear c45
       (first | rw [c45b0] | (simp only [i64_w, i32_w]; rw [c45b0]) | skip)
       have c46 : true = true := rfl
       have H1 : (heraldref02_MulDiv.j5 kj39 x9_39 true false) = some (r1, r2) := by rw [if_pos rfl] at H; exact H
       clear H
       have H := H1
       clear H1
       have H' := ym H
       clear H
       go_wp2
       go_meet
       case rel => exact ⟨_, (false), (by first | rfl | (simp; done) | (simp [*]; done)), H', ⟨by have := HK1.out; have := HJ39.out; first | omega | exact Nat.le_refl _⟩, ⟨by repeat (first | (with_reducible first | exact HB.out | apply y3) | exact HB.out)⟩⟩
      case rest =>
       clear HC43
       try clear c1
       try clear p1
       try clear q1
       try clear hx1
       try clear c2
       try clear p2
       try clear c3
       try clear c4
       try clear c4b0
       try clear c5
       try clear p6
       try clear c9
       try clear c9b0
       try clear c11
       try clear c11b0
       try clear c12
       try clear c12b0
       try clear c14
       try clear c14b0
       try clear c14b1
       try clear p15
       try clear q15
       try clear hx15
       try clear c16
       try clear c17
       try clear c17b0
       try clear c20
       try clear c20b0
       try clear c23
       try clear c23b0
       try clear c24
       try clear c24b0
       try clear c26
       try clear c27
       try clear c27b0
       try clear c28
       try clear c29
       try clear c31
       try clear c31b0
       try clear c32
       try clear c34
       try clear c35
       try clear c35b0
       try clear c36
       try clear c37
       try clear c38
       try clear c39
       try clear c39b0
       try clear c41
       try clear c41b0
       try clear c42
       try clear c44
       try clear c45
       try clear c45b0
       try clear c46
       try clear hx150_0
       try clear p1
       try clear p15
       try clear p150
       try clear p2
       try clear p6
       try clear q1
       try clear q15
       try clear q150
       obtain ⟨kq, x84_42, rfl, HA, HJ42, HB⟩ := hcut
       cases kq with
       | zero => exact absurd HA.out (by simp [heraldref02_MulDiv.j5])
       | succ kj42 =>
        have H := HA.out
        clear HA
        simp only [heraldref02_MulDiv.j5] at H
        by_cases c47 : x84_42 = true
        ·
         subst c47
         have H1 : (some (0, 23)) = some (r1, r2) := by rw [if_pos rfl] at H; exact H
         clear H
         have H := H1
         clear H1
         simp only [Option.some.injEq, Prod.mk.injEq] at H
         obtain ⟨rfl, rfl⟩ := H
         go_wp2
         go_ret2
         exact ⟨by first | rfl | (simp [errW_none, errW_some] <;> rfl) | (simp [*, errW_none, errW_some] <;> rfl), by repeat (first | (with_reducible first | exact HB.out | apply y3) | exact HB.out)⟩
        replace c47 := Bool.eq_false_iff.mpr c47
        subst c47
        have H1 : (if true = true then (some (wrap64 (IntKind.u64.wrap (-x9_39)), 0)) else (some (wrap64 (x9_39), 0))) = some (r1, r2) := by rw [if_neg (show ¬ (false = true) by decide)] at H; exact H
        clear H
        have H := H1
        clear H1
        have c48 : true = true := rfl
        have H1 : (some (wrap64 (IntKind.u64.wrap (-x9_39)), 0)) = some (r1, r2) := by rw [if_pos rfl] at H; exact H
        clear H
        have H := H1
        clear H1
        simp only [Option.some.injEq, Prod.mk.injEq] at H
        obtain ⟨rfl, rfl⟩ := H
        go_wp2
        go_ret2
        exact ⟨by first | rfl | (simp [errW_none, errW_some] <;> rfl) | (simp [*, errW_none, errW_some] <;> rfl), by repeat (first | (with_reducible first | exact HB.out | apply y3) | exact HB.out)⟩
   rw [if_neg c39] at H
   have c39b0 : decide (a1 < 0) = false := decide_eq_false c39
   clear c39
   have HC49 := ym H
   clear H
   go_upto_region 18 with (fail)
   go_cut [84] (fun v84 wc => ∃ (kq : Nat) (x84_48 : Bool), v84 = .bool x84_48 ∧ Aside0 (heraldref02_MulDiv.j6 kq x9_1 false x84_48 = some (r1, r2)) ∧ Aside0 (kq ≤ k1) ∧ Aside0 (Below w.heap.size w wc))
   case first =>
    have H := HC49.out
    clear HC49
    by_cases c50 : x11_1 = true
    ·
     subst c50
     have H1 : (heraldref02_MulDiv.j6 k1 x9_1 false true) = some (r1, r2) := by rw [if_pos rfl] at H; exact H
     clear H
     have H := H1
     clear H1
     have H' := ym H
     clear H
     go_wp2
     go_meet
     case rel => exact ⟨_, (true), (by first | rfl | (simp; done) | (simp [*]; done)), H', ⟨by have := HK1.out; first | omega | exact Nat.le_refl _⟩, ⟨by repeat (first | (with_reducible first | exact HB.out | apply y3) | exact HB.out)⟩⟩
    replace c50 := Bool.eq_false_iff.mpr c50
    subst c50
    have H1 : (if x9_1 > 9223372036854775808 then (heraldref02_MulDiv.j6 k1 x9_1 false true) else (heraldref02_MulDiv.j6 k1 x9_1 false (x9_1 == 9223372036854775808))) = some (r1, r2) := by rw [if_neg (show ¬ (false = true) by decide)] at H; exact H
    clear H
    have H := H1
    clear H1
    by_cases c51 : x9_1 > 9223372036854775808
    ·
     rw [if_pos c51] at H
     have c51b0 : decide (9223372036854775808 < x9_1) = true := decide_eq_true c51
     clear c51
     (first | rw [c51b0] | (simp only [i64_w, i32_w]; rw [c51b0]) | skip)
     have H' := ym H
     clear H
     go_wp2
     go_meet
     case rel => exact ⟨_, (true), (by first | rfl | (simp; done) | (simp [*]; done)), H', ⟨by have := HK1.out; first | omega | exact Nat.le_refl _⟩, ⟨by repeat (first | (with_reducible first | exact HB.out | apply y3) | exact HB.out)⟩⟩
    rw [if_neg c51] at H
    have c51b0 : decide (9223372036854775808 < x9_1) = false := decide_eq_false c51
    clear c51
    (first | rw [c51b0] | (simp only [i64_w, i32_w]; rw [c51b0]) | skip)
    have H' := ym H
    clear H
    go_wp2
    go_meet
    case rel => exact ⟨_, ((x9_1 == 9223372036854775808)), (by first | rfl | (simp; done) | (simp [*]; done)), H', ⟨by have := HK1.out; first | omega | exact Nat.le_refl _⟩, ⟨by repeat (first | (with_reducible first | exact HB.out | apply y3) | exact HB.out)⟩⟩
   case rest =>
    clear HC49
    try clear c1
    try clear p1
    try clear q1
    try clear hx1
    try clear c2
    try clear p2
    try clear c3
    try clear c4
    try clear c4b0
    try clear c5
    try clear p6
    try clear c9
    try clear c9b0
    try clear c11
    try clear c11b0
    try clear c12
    try clear c12b0
    try clear c14
    try clear c14b0
    try clear c14b1
    try clear p15
    try clear q15
    try clear hx15
    try clear c16
    try clear c17
    try clear c17b0
    try clear c20
    try clear c20b0
    try clear c23
    try clear c23b0
    try clear c24
    try clear c24b0
    try clear c26
    try clear c27
    try clear c27b0
    try clear c28
    try clear c29
    try clear c31
    try clear c31b0
    try clear c32
    try clear c34
    try clear c35
    try clear c35b0
    try clear c36
    try clear c37
    try clear c38
    try clear c39
    try clear c39b0
    try clear c41
    try clear c41b0
    try clear c42
    try clear c44
    try clear c45
    try clear c45b0
    try clear c46
    try clear c47
    try clear c48
    try clear c50
    try clear c51
    try clear c51b0
    try clear hx150_0
    try clear p1
    try clear p15
    try clear p150
    try clear p2
    try clear p6
    try clear q1
    try clear q15
    try clear q150
    obtain ⟨kq, x84_48, rfl, HA, HJ48, HB⟩ := hcut
    cases kq with
    | zero => exact absurd HA.out (by simp [heraldref02_MulDiv.j6])
    | succ kj48 =>
     have H := HA.out
     clear HA
     simp only [heraldref02_MulDiv.j6] at H
     by_cases c52 : x84_48 = true
     ·
      subst c52
      have H1 : (some (0, 23)) = some (r1, r2) := by rw [if_pos rfl] at H; exact H
      clear H
      have H := H1
      clear H1
      simp only [Option.some.injEq, Prod.mk.injEq] at H
      obtain ⟨rfl, rfl⟩ := H
      go_wp2
      go_ret2
      exact ⟨by first | rfl | (simp [errW_none, errW_some] <;> rfl) | (simp [*, errW_none, errW_some] <;> rfl), by repeat (first | (with_reducible first | exact HB.out | apply y3) | exact HB.out)⟩
     replace c52 := Bool.eq_false_iff.mpr c52
     subst c52
     have H1 : (if false = true then (some (wrap64 (IntKind.u64.wrap (-x9_1)), 0)) else (some (wrap64 (x9_1), 0))) = some (r1, r2) := by rw [if_neg (show ¬ (false = true) by decide)] at H; exact H
     clear H
     have H := H1
     clear H1
     have c53 : ¬ (false = true) := by decide
     have H1 : (some (wrap64 (x9_1), 0)) = some (r1, r2) := by rw [if_neg (show ¬ (false = true) by decide)] at H; exact H
     clear H
     have H := H1
     clear H1
     simp only [Option.some.injEq, Prod.mk.injEq] at H
     obtain ⟨rfl, rfl⟩ := H
     go_wp2
     go_ret2
     exact ⟨by first | rfl | (simp [errW_none, errW_some] <;> rfl) | (simp [*, errW_none, errW_some] <;> rfl), by repeat (first | (with_reducible first | exact HB.out | apply y3) | exact HB.out)⟩

end Go.Proofs.Ytbldlfmblalchaa.P
