-- Printed by xprint.py (wip): functions, contracts, rows. Lean checks it.
import Derived.Test.YtbldlfmblalchaaPx0
import Derived.Test.YtbldlfmblalchaaPx1
import Derived.Test.YtbldlfmblalchaaPx3
import Derived.Test.YtbldlfmblalchaaPx4
namespace Go.Proofs.Ytbldlfmblalchaa.P
open Go.RowKit Go.Proofs.YtbldlfmblalchaaW.PrintWords Go.Proofs.YtbldlfmblalchaaW.PrintLast Go.Proofs.YtbldlfmblalchaaW.PrintMore
attribute [local go_sem] max2_int min2_int max_two min_two max_three min_three max_four min_four   -- for this text's walks alone
set_option linter.unusedVariables false
set_option linter.unusedSimpArgs false

/-! ### heraldlaw02_FixedSums: function 12 -/
mutual
def heraldlaw02_FixedSums.j0 : Nat → Int → Int → List Int → Bool → Option (Bool)
  | 0, _, _, _, _ => none
  | k + 1, x0, x1, x2, x35 => if x35 = true then (some false) else ((fixed_Mul.f x0 x1).bind fun bt220 => ((heraldref02_Mul.f k x0 x1).bind fun bt222 => (if bt220.1 = bt222.1 then (heraldlaw02_FixedSums.j1 k x2 (bt220.2 != bt222.2)) else (heraldlaw02_FixedSums.j1 k x2 true))))
def heraldlaw02_FixedSums.j1 : Nat → List Int → Bool → Option (Bool)
  | 0, _, _ => none
  | k + 1, x2, x55 => if x55 = true then (some false) else ((some (([] : List Int) : List Int)).bind fun y224 => (if y224.length + x2.length < 17592186044416 then ((some (y224 ++ x2 : List Int)).bind fun y227 => (if y227.length < 17592186044416 then ((some (y227 ++ [77] : List Int)).bind fun y230 => (if 0 ≤ (x2.length : Int) then (if (x2.length : Int) ≤ (y230.length : Int) then ((fixed_Sum.f k (y230.take ((x2.length : Int) : Int).toNat)).bind fun bt237 => ((heraldref02_Sum.f k x2).bind fun bt239 => (heraldlaw02_FixedSums.l0 k x2 bt237.1 bt237.2 bt239.1 bt239.2 y230 x2 (x2.length : Int) 0))) else (none)) else (none))) else (none))) else (none)))
def heraldlaw02_FixedSums.l0 : Nat → List Int → Int → Bool → Int → Bool → List Int → List Int → Int → Int → Option (Bool)
  | 0, _, _, _, _, _, _, _, _, _ => none
  | k + 1, x2, x7, x8, x9, x10, x11, x74, x75, x76 => if x76 < x75 then (if 0 ≤ x76 then (if x76 < (x74.length : Int) then (if x76 < (x11.length : Int) then (if (rd x11 x76) = (rd x74 x76) then (heraldlaw02_FixedSums.l0 k x2 x7 x8 x9 x10 x11 x74 x75 (wrap64 (x76 + 1))) else (some false)) else (none)) else (none)) else (none)) else (if x7 = x9 then (if (x8 == x10) = true then (if 0 ≤ (x2.length : Int) then (if (x2.length : Int) < (x11.length : Int) then (some ((rd x11 (x2.length : Int)) == 77)) else (none)) else (none)) else (some false)) else (some false))
end
def heraldlaw02_FixedSums.f (k : Nat) (a0 : Int) (a1 : Int) (l2 : List Int) : Option (Bool) := (heraldlaw02_awake.f k).bind fun t215 => (if t215 = true then ((fixed_Add.f a0 a1).bind fun bt216 => ((heraldref02_Add.f a0 a1).bind fun bt218 => (if bt216.1 = bt218.1 then (heraldlaw02_FixedSums.j0 k a0 a1 l2 (bt216.2 != bt218.2)) else (heraldlaw02_FixedSums.j0 k a0 a1 l2 true)))) else (some false))
theorem heraldlaw02_FixedSums.mono_l : ∀ k, (∀ y0 y1 y2 y3, LeO (heraldlaw02_FixedSums.j0 k y0 y1 y2 y3) (heraldlaw02_FixedSums.j0 (k + 1) y0 y1 y2 y3)) ∧ (∀ y0 y1, LeO (heraldlaw02_FixedSums.j1 k y0 y1) (heraldlaw02_FixedSums.j1 (k + 1) y0 y1)) ∧ (∀ y0 y1 y2 y3 y4 y5 y6 y7 y8, LeO (heraldlaw02_FixedSums.l0 k y0 y1 y2 y3 y4 y5 y6 y7 y8) (heraldlaw02_FixedSums.l0 (k + 1) y0 y1 y2 y3 y4 y5 y6 y7 y8))
  | 0 => ⟨fun _ _ _ _ r h => by simp [heraldlaw02_FixedSums.j0] at h, fun _ _ r h => by simp [heraldlaw02_FixedSums.j1] at h, fun _ _ _ _ _ _ _ _ _ r h => by simp [heraldlaw02_FixedSums.l0] at h⟩
  | k + 1 => by
    obtain ⟨ih0, ih1, ih2⟩ := heraldlaw02_FixedSums.mono_l k
    refine ⟨?_, ?_, ?_⟩
    · intro y0 y1 y2 y3
      unfold heraldlaw02_FixedSums.j0
      repeat' first
      | (with_reducible exact ih0 _ _ _ _)
      | (with_reducible exact ih1 _ _)
      | (with_reducible exact ih2 _ _ _ _ _ _ _ _ _)
      | (with_reducible exact fixed_Sum.mono _ _)
      | (with_reducible exact heraldlaw02_awake.mono _)
      | (with_reducible exact heraldref02_Mul.mono _ _ _)
      | (with_reducible exact heraldref02_Sum.mono _ _)
      | (with_reducible exact LeO.refl _)
      | (with_reducible exact LeO.none _)
      | (with_reducible refine LeO.ite ?_ ?_)
      | (with_reducible refine LeO.bind ?_ (fun _ => ?_))
      | exact ih0 _ _ _ _
      | exact ih1 _ _
      | exact ih2 _ _ _ _ _ _ _ _ _
      | exact fixed_Sum.mono _ _
      | exact heraldlaw02_awake.mono _
      | exact heraldref02_Mul.mono _ _ _
      | exact heraldref02_Sum.mono _ _
      | exact LeO.none _
      | refine LeO.ite ?_ ?_
      | refine LeO.bind ?_ (fun _ => ?_)
    · intro y0 y1
      unfold heraldlaw02_FixedSums.j1
      repeat' first
      | (with_reducible exact ih0 _ _ _ _)
      | (with_reducible exact ih1 _ _)
      | (with_reducible exact ih2 _ _ _ _ _ _ _ _ _)
      | (with_reducible exact fixed_Sum.mono _ _)
      | (with_reducible exact heraldlaw02_awake.mono _)
      | (with_reducible exact heraldref02_Mul.mono _ _ _)
      | (with_reducible exact heraldref02_Sum.mono _ _)
      | (with_reducible exact LeO.refl _)
      | (with_reducible exact LeO.none _)
      | (with_reducible refine LeO.ite ?_ ?_)
      | (with_reducible refine LeO.bind ?_ (fun _ => ?_))
      | exact ih0 _ _ _ _
      | exact ih1 _ _
      | exact ih2 _ _ _ _ _ _ _ _ _
      | exact fixed_Sum.mono _ _
      | exact heraldlaw02_awake.mono _
      | exact heraldref02_Mul.mono _ _ _
      | exact heraldref02_Sum.mono _ _
      | exact LeO.none _
      | refine LeO.ite ?_ ?_
      | refine LeO.bind ?_ (fun _ => ?_)
    · intro y0 y1 y2 y3 y4 y5 y6 y7 y8
      unfold heraldlaw02_FixedSums.l0
      repeat' first
      | (with_reducible exact ih0 _ _ _ _)
      | (with_reducible exact ih1 _ _)
      | (with_reducible exact ih2 _ _ _ _ _ _ _ _ _)
      | (with_reducible exact fixed_Sum.mono _ _)
      | (with_reducible exact heraldlaw02_awake.mono _)
      | (with_reducible exact heraldref02_Mul.mono _ _ _)
      | (with_reducible exact heraldref02_Sum.mono _ _)
      | (with_reducible exact LeO.refl _)
      | (with_reducible exact LeO.none _)
      | (with_reducible refine LeO.ite ?_ ?_)
      | (with_reducible refine LeO.bind ?_ (fun _ => ?_))
      | exact ih0 _ _ _ _
      | exact ih1 _ _
      | exact ih2 _ _ _ _ _ _ _ _ _
      | exact fixed_Sum.mono _ _
      | exact heraldlaw02_awake.mono _
      | exact heraldref02_Mul.mono _ _ _
      | exact heraldref02_Sum.mono _ _
      | exact LeO.none _
      | refine LeO.ite ?_ ?_
      | refine LeO.bind ?_ (fun _ => ?_)
theorem heraldlaw02_FixedSums.mono : ∀ a0 a1 a2 k, LeO (heraldlaw02_FixedSums.f k a0 a1 a2) (heraldlaw02_FixedSums.f (k + 1) a0 a1 a2) := by
  intro a0 a1 a2 k
  obtain ⟨ih0, ih1, ih2⟩ := heraldlaw02_FixedSums.mono_l k
  unfold heraldlaw02_FixedSums.f
  repeat' first
      | (with_reducible exact ih0 _ _ _ _)
      | (with_reducible exact ih1 _ _)
      | (with_reducible exact ih2 _ _ _ _ _ _ _ _ _)
      | (with_reducible exact fixed_Sum.mono _ _)
      | (with_reducible exact heraldlaw02_awake.mono _)
      | (with_reducible exact heraldref02_Mul.mono _ _ _)
      | (with_reducible exact heraldref02_Sum.mono _ _)
      | (with_reducible exact LeO.refl _)
      | (with_reducible exact LeO.none _)
      | (with_reducible refine LeO.ite ?_ ?_)
      | (with_reducible refine LeO.bind ?_ (fun _ => ?_))
      | exact ih0 _ _ _ _
      | exact ih1 _ _
      | exact ih2 _ _ _ _ _ _ _ _ _
      | exact fixed_Sum.mono _ _
      | exact heraldlaw02_awake.mono _
      | exact heraldref02_Mul.mono _ _ _
      | exact heraldref02_Sum.mono _ _
      | exact LeO.none _
      | refine LeO.ite ?_ ?_
      | refine LeO.bind ?_ (fun _ => ?_)
set_option maxHeartbeats 8000000 in
set_option maxRecDepth 100000 in
theorem heraldlaw02_FixedSums.calls (k : Nat) (a0 : Int) (a1 : Int) (A2 : Option Addr) (c2 : Nat) (l2 : List Int) (r : Bool) (w : World) (hr2 : Kd.C (Kd.int .i64) w A2 l2.length l2) (hc2 : l2.length ≤ c2) (h : heraldlaw02_FixedSums.f k a0 a1 l2 = some r) :
    Calls Try.prog 12 #[.int .i64 a0, .int .i64 a1, .slice A2 l2.length c2] w fun e w' => e = .returned (.bool r) ∧ Below w.heap.size w w' := by
  have HR2 := Aside0.mk hr2
  have HC2 := Aside0.mk hc2
  clear hr2 hc2
  have HB := Aside0.mk (Below.refl w.heap.size w)
  have H : ((heraldlaw02_awake.f k).bind fun t215 => (if t215 = true then ((fixed_Add.f a0 a1).bind fun bt216 => ((heraldref02_Add.f a0 a1).bind fun bt218 => (if bt216.1 = bt218.1 then (heraldlaw02_FixedSums.j0 k a0 a1 l2 (bt216.2 != bt218.2)) else (heraldlaw02_FixedSums.j0 k a0 a1 l2 true)))) else (some false))) = some r := h
  clear h
  replace H := Option.bind_eq_some_iff.mp H
  obtain ⟨t215, A40, H⟩ := H
  replace H : (if t215 = true then ((fixed_Add.f a0 a1).bind fun bt216 => ((heraldref02_Add.f a0 a1).bind fun bt218 => (if bt216.1 = bt218.1 then (heraldlaw02_FixedSums.j0 k a0 a1 l2 (bt216.2 != bt218.2)) else (heraldlaw02_FixedSums.j0 k a0 a1 l2 true)))) else (some false)) = some r := H
  have A4 := Aside0.mk A40
  clear A40
  by_cases c5 : t215 = true
  · subst c5
    have H1 : ((fixed_Add.f a0 a1).bind fun bt216 => ((heraldref02_Add.f a0 a1).bind fun bt218 => (if bt216.1 = bt218.1 then (heraldlaw02_FixedSums.j0 k a0 a1 l2 (bt216.2 != bt218.2)) else (heraldlaw02_FixedSums.j0 k a0 a1 l2 true)))) = some r := by rw [if_pos rfl] at H; exact H
    clear H
    have H := H1
    clear H1
    replace H := Option.bind_eq_some_iff.mp H
    obtain ⟨⟨t216, t217⟩, A60, H⟩ := H
    replace H : ((heraldref02_Add.f a0 a1).bind fun bt218 => (if t216 = bt218.1 then (heraldlaw02_FixedSums.j0 k a0 a1 l2 (t217 != bt218.2)) else (heraldlaw02_FixedSums.j0 k a0 a1 l2 true))) = some r := H
    have A6 := Aside0.mk A60
    clear A60
    replace H := Option.bind_eq_some_iff.mp H
    obtain ⟨⟨t218, t219⟩, A70, H⟩ := H
    replace H : (if t216 = t218 then (heraldlaw02_FixedSums.j0 k a0 a1 l2 (t217 != t219)) else (heraldlaw02_FixedSums.j0 k a0 a1 l2 true)) = some r := H
    have A7 := Aside0.mk A70
    clear A70
    have HC8 := Aside0.mk H
    clear H
    go_enter Try.func12, Try.ntmps12
    go_upto_region 5 with (first | ((with_reducible refine gate_callee (f := 15) rfl ?_); refine goesL_ (some 14) rfl rfl Try.func15 (by kernel_rfl) rfl #[] rfl (by (try simp only [List.map_toArray, List.map_cons, List.map_nil]); first | done | rfl | (simp only [List.length_drop, List.length_take]; rfl)) ?_; (with_reducible refine (heraldlaw02_awake.calls k  true _ A4.out).mono ?_); rintro e w9 ⟨rfl, hb⟩; refine ⟨_, rfl, ?_⟩; have n0_ := Aside0.mk (below_step (by repeat (first | (with_reducible first | exact HB.out | apply below_alloc | apply pw_below_drewN | apply below_drew1) | exact HB.out)) hb); clear HB; have HB := n0_; clear n0_; (try clear hb); (try clear hb2); (try clear hk); (try clear hi)) | ((with_reducible refine gate_callee (f := 34) rfl ?_); refine goesL_ (some 19) rfl rfl Try.func34 (by kernel_rfl) rfl #[.int .i64 a0, .int .i64 a1] rfl (by (try simp only [List.map_toArray, List.map_cons, List.map_nil]); first | done | rfl | (simp only [List.length_drop, List.length_take]; rfl)) ?_; (with_reducible refine (fixed_Add.calls a0 a1 t216 t217 _ A6.out).mono ?_); rintro e w' ⟨rfl, ⟨nd, rfl⟩⟩; refine ⟨_, rfl, ?_⟩) | ((with_reducible refine gate_callee (f := 35) rfl ?_); refine goesL_ (some 25) rfl rfl Try.func35 (by kernel_rfl) rfl #[.int .i64 a0, .int .i64 a1] rfl (by (try simp only [List.map_toArray, List.map_cons, List.map_nil]); first | done | rfl | (simp only [List.length_drop, List.length_take]; rfl)) ?_; (with_reducible refine (heraldref02_Add.calls a0 a1 t218 t219 _ A7.out).mono ?_); rintro e w' ⟨rfl, ⟨nd, rfl⟩⟩; refine ⟨_, rfl, ?_⟩))
    (try simp only [Act.put, List.setIfInBounds_toArray, List.set_cons_zero, List.set_cons_succ])
    go_cut [35] (fun v35 wc => ∃ (kq : Nat) (x35_7 : Bool), v35 = .bool x35_7 ∧ Aside0 (heraldlaw02_FixedSums.j0 kq a0 a1 l2 x35_7 = some r) ∧ Aside0 (kq ≤ k) ∧ Aside0 (Below w.heap.size w wc))
    case first =>
      have H := HC8.out
      clear HC8
      by_cases c10 : t216 = t218
      · rw [if_pos c10] at H
        have c10b0 : (t216 == t218) = true := beq_iff_eq.mpr c10
        have c10b1 : (t216 != t218) = false := bne_eq_false_iff_eq.mpr c10
        clear c10
        (first | rw [c10b0] | (simp only [i64_w, i32_w]; rw [c10b0]) | skip)
        have H' := Aside0.mk H
        clear H
        go_wp2
        go_meet
        case rel => exact ⟨_, ((t217 != t219)), (by first | rfl | (simp; done) | (simp [*]; done)), H', ⟨by first | omega | exact Nat.le_refl _⟩, ⟨by repeat (first | (with_reducible first | exact HB.out | apply below_alloc | apply pw_below_drewN | apply below_drew1) | exact HB.out)⟩⟩
      · rw [if_neg c10] at H
        have c10b0 : (t216 == t218) = false := beq_eq_false_iff_ne.mpr c10
        have c10b1 : (t216 != t218) = true := bne_iff_ne.mpr c10
        (first | rw [c10b0] | (simp only [i64_w, i32_w]; rw [c10b0]) | skip)
        have H' := Aside0.mk H
        clear H
        go_wp2
        go_meet
        case rel => exact ⟨_, (true), (by first | rfl | (simp; done) | (simp [*]; done)), H', ⟨by first | omega | exact Nat.le_refl _⟩, ⟨by repeat (first | (with_reducible first | exact HB.out | apply below_alloc | apply pw_below_drewN | apply below_drew1) | exact HB.out)⟩⟩
    case rest =>
      clear HC8
      try clear c1
      try clear c2
      try clear p2
      try clear c3
      try clear c5
      try clear c10
      try clear c10b0
      try clear c10b1
      obtain ⟨kq, x35_7, rfl, HA, HJ7, HB⟩ := hcut
      cases kq with
      | zero => exact absurd HA.out (by simp [heraldlaw02_FixedSums.j0])
      | succ kj7 =>
        have H := HA.out
        clear HA
        simp only [heraldlaw02_FixedSums.j0] at H
        by_cases c11 : x35_7 = true
        · subst c11
          have H1 : (some false) = some r := by rw [if_pos rfl] at H; exact H
          clear H
          have H := H1
          clear H1
          obtain rfl := Option.some.inj H
          go_wp2
          go_ret
          exact ⟨by first | rfl | (simp [errW_none, errW_some] <;> rfl) | (simp [*, errW_none, errW_some] <;> rfl), by repeat (first | (with_reducible first | exact HB.out | apply below_alloc | apply pw_below_drewN | apply below_drew1) | exact HB.out)⟩
        · replace c11 := Bool.eq_false_iff.mpr c11
          subst c11
          have H1 : ((fixed_Mul.f a0 a1).bind fun bt220 => ((heraldref02_Mul.f kj7 a0 a1).bind fun bt222 => (if bt220.1 = bt222.1 then (heraldlaw02_FixedSums.j1 kj7 l2 (bt220.2 != bt222.2)) else (heraldlaw02_FixedSums.j1 kj7 l2 true)))) = some r := by rw [if_neg (show ¬ (false = true) by decide)] at H; exact H
          clear H
          have H := H1
          clear H1
          replace H := Option.bind_eq_some_iff.mp H
          obtain ⟨⟨t220, t221⟩, A120, H⟩ := H
          replace H : ((heraldref02_Mul.f kj7 a0 a1).bind fun bt222 => (if t220 = bt222.1 then (heraldlaw02_FixedSums.j1 kj7 l2 (t221 != bt222.2)) else (heraldlaw02_FixedSums.j1 kj7 l2 true))) = some r := H
          have A12 := Aside0.mk A120
          clear A120
          replace H := Option.bind_eq_some_iff.mp H
          obtain ⟨⟨t222, t223⟩, A130, H⟩ := H
          replace H : (if t220 = t222 then (heraldlaw02_FixedSums.j1 kj7 l2 (t221 != t223)) else (heraldlaw02_FixedSums.j1 kj7 l2 true)) = some r := H
          have A13 := Aside0.mk A130
          clear A130
          have HC14 := Aside0.mk H
          clear H
          go_upto_region 9 with (first | ((with_reducible refine gate_callee (f := 36) rfl ?_); refine goesL_ (some 39) rfl rfl Try.func36 (by kernel_rfl) rfl #[.int .i64 a0, .int .i64 a1] rfl (by (try simp only [List.map_toArray, List.map_cons, List.map_nil]); first | done | rfl | (simp only [List.length_drop, List.length_take]; rfl)) ?_; (with_reducible refine (fixed_Mul.calls a0 a1 t220 t221 _ A12.out).mono ?_); rintro e w' ⟨rfl, ⟨nd, rfl⟩⟩; refine ⟨_, rfl, ?_⟩) | ((with_reducible refine gate_callee (f := 37) rfl ?_); refine goesL_ (some 45) rfl rfl Try.func37 (by kernel_rfl) rfl #[.int .i64 a0, .int .i64 a1] rfl (by (try simp only [List.map_toArray, List.map_cons, List.map_nil]); first | done | rfl | (simp only [List.length_drop, List.length_take]; rfl)) ?_; (with_reducible refine (heraldref02_Mul.calls kj7 a0 a1 t222 t223 _ A13.out).mono ?_); rintro e w' ⟨rfl, ⟨nd, rfl⟩⟩; refine ⟨_, rfl, ?_⟩))
          (try simp only [Act.put, List.setIfInBounds_toArray, List.set_cons_zero, List.set_cons_succ])
          go_cut [55] (fun v55 wc => ∃ (kq : Nat) (x55_13 : Bool), v55 = .bool x55_13 ∧ Aside0 (heraldlaw02_FixedSums.j1 kq l2 x55_13 = some r) ∧ Aside0 (kq ≤ kj7) ∧ Aside0 (Below w.heap.size w wc))
          case first =>
            have H := HC14.out
            clear HC14
            by_cases c15 : t220 = t222
            · rw [if_pos c15] at H
              have c15b0 : (t220 == t222) = true := beq_iff_eq.mpr c15
              have c15b1 : (t220 != t222) = false := bne_eq_false_iff_eq.mpr c15
              clear c15
              (first | rw [c15b0] | (simp only [i64_w, i32_w]; rw [c15b0]) | skip)
              have H' := Aside0.mk H
              clear H
              go_wp2
              go_meet
              case rel => exact ⟨_, ((t221 != t223)), (by first | rfl | (simp; done) | (simp [*]; done)), H', ⟨by have := HJ7.out; first | omega | exact Nat.le_refl _⟩, ⟨by repeat (first | (with_reducible first | exact HB.out | apply below_alloc | apply pw_below_drewN | apply below_drew1) | exact HB.out)⟩⟩
            · rw [if_neg c15] at H
              have c15b0 : (t220 == t222) = false := beq_eq_false_iff_ne.mpr c15
              have c15b1 : (t220 != t222) = true := bne_iff_ne.mpr c15
              (first | rw [c15b0] | (simp only [i64_w, i32_w]; rw [c15b0]) | skip)
              have H' := Aside0.mk H
              clear H
              go_wp2
              go_meet
              case rel => exact ⟨_, (true), (by first | rfl | (simp; done) | (simp [*]; done)), H', ⟨by have := HJ7.out; first | omega | exact Nat.le_refl _⟩, ⟨by repeat (first | (with_reducible first | exact HB.out | apply below_alloc | apply pw_below_drewN | apply below_drew1) | exact HB.out)⟩⟩
          case rest =>
            clear HC14
            try clear c1
            try clear c2
            try clear p2
            try clear c3
            try clear c5
            try clear c10
            try clear c10b0
            try clear c10b1
            try clear c11
            try clear c12
            try clear c15
            try clear c15b0
            try clear c15b1
            try clear p2
            obtain ⟨kq, x55_13, rfl, HA, HJ13, HB⟩ := hcut
            cases kq with
            | zero => exact absurd HA.out (by simp [heraldlaw02_FixedSums.j1])
            | succ kj13 =>
              have H := HA.out
              clear HA
              simp only [heraldlaw02_FixedSums.j1] at H
              by_cases c16 : x55_13 = true
              · subst c16
                have H1 : (some false) = some r := by rw [if_pos rfl] at H; exact H
                clear H
                have H := H1
                clear H1
                obtain rfl := Option.some.inj H
                go_wp2
                go_ret
                exact ⟨by first | rfl | (simp [errW_none, errW_some] <;> rfl) | (simp [*, errW_none, errW_some] <;> rfl), by repeat (first | (with_reducible first | exact HB.out | apply below_alloc | apply pw_below_drewN | apply below_drew1) | exact HB.out)⟩
              · replace c16 := Bool.eq_false_iff.mpr c16
                subst c16
                have H1 : ((some (([] : List Int) : List Int)).bind fun y224 => (if y224.length + l2.length < 17592186044416 then ((some (y224 ++ l2 : List Int)).bind fun y227 => (if y227.length < 17592186044416 then ((some (y227 ++ [77] : List Int)).bind fun y230 => (if 0 ≤ (l2.length : Int) then (if (l2.length : Int) ≤ (y230.length : Int) then ((fixed_Sum.f kj13 (y230.take ((l2.length : Int) : Int).toNat)).bind fun bt237 => ((heraldref02_Sum.f kj13 l2).bind fun bt239 => (heraldlaw02_FixedSums.l0 kj13 l2 bt237.1 bt237.2 bt239.1 bt239.2 y230 l2 (l2.length : Int) 0))) else (none)) else (none))) else (none))) else (none))) = some r := by rw [if_neg (show ¬ (false = true) by decide)] at H; exact H
                clear H
                have H := H1
                clear H1
                obtain ⟨y224, hy224⟩ : ∃ y_ : List Int, y_ = (([] : List Int)) := ⟨_, rfl⟩
                replace H : (if y224.length + l2.length < 17592186044416 then ((some (y224 ++ l2 : List Int)).bind fun y227 => (if y227.length < 17592186044416 then ((some (y227 ++ [77] : List Int)).bind fun y230 => (if 0 ≤ (l2.length : Int) then (if (l2.length : Int) ≤ (y230.length : Int) then ((fixed_Sum.f kj13 (y230.take ((l2.length : Int) : Int).toNat)).bind fun bt237 => ((heraldref02_Sum.f kj13 l2).bind fun bt239 => (heraldlaw02_FixedSums.l0 kj13 l2 bt237.1 bt237.2 bt239.1 bt239.2 y230 l2 (l2.length : Int) 0))) else (none)) else (none))) else (none))) else (none)) = some r := by first | (rw [hy224]; with_reducible exact H) | (have H2_ := (Option.bind_some _ _).symm.trans H; rw [hy224]; with_reducible exact H2_) | (have H2_ := (Option.bind_some _ _).symm.trans H; with_reducible exact H2_) | with_reducible exact H | (rw [hy224]; exact H) | exact H
                have Ny224 := Aside0.mk hy224
                clear hy224
                by_cases c17 : y224.length + l2.length < 17592186044416
                · rw [if_pos c17] at H
                  have LMc17 := Aside0.mk c17
                  clear c17
                  obtain ⟨y227, hy227⟩ : ∃ y_ : List Int, y_ = (y224 ++ l2) := ⟨_, rfl⟩
                  replace H : (if y227.length < 17592186044416 then ((some (y227 ++ [77] : List Int)).bind fun y230 => (if 0 ≤ (l2.length : Int) then (if (l2.length : Int) ≤ (y230.length : Int) then ((fixed_Sum.f kj13 (y230.take ((l2.length : Int) : Int).toNat)).bind fun bt237 => ((heraldref02_Sum.f kj13 l2).bind fun bt239 => (heraldlaw02_FixedSums.l0 kj13 l2 bt237.1 bt237.2 bt239.1 bt239.2 y230 l2 (l2.length : Int) 0))) else (none)) else (none))) else (none)) = some r := by first | (rw [hy227]; with_reducible exact H) | (have H2_ := (Option.bind_some _ _).symm.trans H; rw [hy227]; with_reducible exact H2_) | (have H2_ := (Option.bind_some _ _).symm.trans H; with_reducible exact H2_) | with_reducible exact H | (rw [hy227]; exact H) | exact H
                  have Ny227 := Aside0.mk hy227
                  clear hy227
                  by_cases c18 : y227.length < 17592186044416
                  · rw [if_pos c18] at H
                    have LMc18 := Aside0.mk c18
                    clear c18
                    obtain ⟨y230, hy230⟩ : ∃ y_ : List Int, y_ = (y227 ++ [77]) := ⟨_, rfl⟩
                    replace H : (if 0 ≤ (l2.length : Int) then (if (l2.length : Int) ≤ (y230.length : Int) then ((fixed_Sum.f kj13 (y230.take ((l2.length : Int) : Int).toNat)).bind fun bt237 => ((heraldref02_Sum.f kj13 l2).bind fun bt239 => (heraldlaw02_FixedSums.l0 kj13 l2 bt237.1 bt237.2 bt239.1 bt239.2 y230 l2 (l2.length : Int) 0))) else (none)) else (none)) = some r := by first | (rw [hy230]; with_reducible exact H) | (have H2_ := (Option.bind_some _ _).symm.trans H; rw [hy230]; with_reducible exact H2_) | (have H2_ := (Option.bind_some _ _).symm.trans H; with_reducible exact H2_) | with_reducible exact H | (rw [hy230]; exact H) | exact H
                    have Ny230 := Aside0.mk hy230
                    clear hy230
                    by_cases c19 : 0 ≤ (l2.length : Int)
                    · rw [if_pos c19] at H
                      have c19b0 := eq_true c19
                      have c19b1 : decide (0 ≤ (l2.length : Int)) = true := decide_eq_true c19
                      clear c19
                      by_cases c20 : (l2.length : Int) ≤ (y230.length : Int)
                      · rw [if_pos c20] at H
                        have c20b0 := eq_true c20
                        have c20b1 : decide ((l2.length : Int) ≤ (y230.length : Int)) = true := decide_eq_true c20
                        clear c20
                        obtain ⟨y233, hy233⟩ : ∃ y_ : List Int, y_ = (y230.take ((l2.length : Int) : Int).toNat) := ⟨_, rfl⟩
                        replace H : ((fixed_Sum.f kj13 y233).bind fun bt237 => ((heraldref02_Sum.f kj13 l2).bind fun bt239 => (heraldlaw02_FixedSums.l0 kj13 l2 bt237.1 bt237.2 bt239.1 bt239.2 y230 l2 (l2.length : Int) 0))) = some r := by first | (rw [hy233]; with_reducible exact H) | (have H2_ := (Option.bind_some _ _).symm.trans H; rw [hy233]; with_reducible exact H2_) | (have H2_ := (Option.bind_some _ _).symm.trans H; with_reducible exact H2_) | with_reducible exact H | (rw [hy233]; exact H) | exact H
                        have Ny233 := Aside0.mk hy233
                        clear hy233
                        replace H := Option.bind_eq_some_iff.mp H
                        obtain ⟨⟨t237, t238⟩, A210, H⟩ := H
                        replace H : ((heraldref02_Sum.f kj13 l2).bind fun bt239 => (heraldlaw02_FixedSums.l0 kj13 l2 t237 t238 bt239.1 bt239.2 y230 l2 (l2.length : Int) 0)) = some r := H
                        have A21 := Aside0.mk A210
                        clear A210
                        replace H := Option.bind_eq_some_iff.mp H
                        obtain ⟨⟨t239, t240⟩, A220, H⟩ := H
                        replace H : (heraldlaw02_FixedSums.l0 kj13 l2 t237 t238 t239 t240 y230 l2 (l2.length : Int) 0) = some r := H
                        have A22 := Aside0.mk A220
                        clear A220
                        have H' := Aside0.mk H
                        clear H
                        go_wp2_with (first | ((with_reducible refine gate_dst (N := 56) rfl ?_); (try (refine gate_guard (by rfl) ?_; dsimp only)); refine Kd.R_lit (Kd.int .i64) _ 2 ?hg (N := 56) ?hd (xs := ([] : List Int)) (inner := []) (ok := fun _ => True) (okp := fun _ => True) ?hr ?hp (fun _ hk => hk) trivial (Below.refl _ _) (Nat.le_refl _) (by simp) ?_; (case hd => rfl); (case hg => rfl); (case hr => first | (go_simp; done) | (go_simp; rfl)); (case hp => exact (Reps.none _ _)); intro v225 w23 ho24 hb hg_ hnew_; clear hg_ hnew_; (first | rw [← Ny224.out] at ho24 | (simp only [Int.reduceToNat] at ho24; rw [← Ny224.out] at ho24)); have n0_ := Aside0.mk (Kd.R_lower ho24 (below_size (by repeat (first | (with_reducible first | exact HB.out | apply below_alloc | apply pw_below_drewN | apply below_drew1) | exact HB.out)))); have n1_ := Aside0.mk (below_step (by repeat (first | (with_reducible first | exact HB.out | apply below_alloc | apply pw_below_drewN | apply below_drew1) | exact HB.out)) hb); clear HB; have HO226 := n0_; have HB := n1_; clear n0_ n1_; clear hb ho24) | ((with_reducible refine gate_builtin (b := .append) (xs := #[.tmp 56, .tmp 57]) rfl ?_); (try (refine gate_guard (by rfl) ?_; dsimp only)); at_builtin; refine Kd.R_append_rows (Kd.int .i64) (w0 := w) w.heap.size rfl (.tmp 56) (.tmp 57) 41 2 (.int .i64 0) 8 rfl Try.underlying41 info2 rfl (by decide) (by omega) v225 y224 l2 _ _ _ (fun _ => True) (fun _ => False) rfl rfl ?aO ?aR (fun _ _ h => h) (fun _ h => h.elim) ?aF ?aB ?aS ?aL ?_; (case aR => repeat (first | exact (Kd.C_below HR2.out HB.out) | (with_reducible refine Kd.C_alloc ?_ _) | (with_reducible refine Kd.C_drewN ?_ _) | (with_reducible refine Kd.C_drew ?_))); (case aB => exact (by repeat (first | (with_reducible first | exact HB.out | apply below_alloc | apply pw_below_drewN | apply below_drew1) | exact HB.out))); (case aF => exact (fun _ _ => trivial)); (case aO => exact (by (with_reducible repeat (first | apply Kd.R_alloc | apply Kd.R_drewN | apply Kd.R_drew)); exact HO226.out)); (case aS => exact (below_size (by repeat (first | (with_reducible first | exact HB.out | apply below_alloc | apply pw_below_drewN | apply below_drew1) | exact HB.out)))); (case aL => have := LMc17.out; omega); intro v228 w25 ho hb hg hat; rw [← Ny227.out] at ho; have n0_ := Aside0.mk (hb); have n1_ := Aside0.mk (ho); clear HB; clear HO226; have HB := n0_; have HO229 := n1_; clear n0_ n1_; clear ho hb hg hat) | ((with_reducible refine gate_builtin (b := .append) (xs := #[.tmp 58, .tmp 59]) rfl ?_); (try (refine gate_guard (by rfl) ?_; dsimp only)); at_builtin; refine Kd.R_append (Kd.int .i64) (w0 := w) w.heap.size rfl (.tmp 58) (.tmp 59) 41 2 (.int .i64 0) 8 rfl Try.underlying41 info2 rfl (by decide) (by omega) v228 y227 77 [.int .i64 77] (fun _ => True) (fun _ => False) rfl rfl ?aP (fun _ hk => hk.elim) ?aF ?aO ?aB ?aS ?aL ?_; (case aP => exact rfl); (case aB => exact (by repeat (first | (with_reducible first | exact HB.out | apply below_alloc | apply pw_below_drewN | apply below_drew1) | exact HB.out))); (case aF => exact (fun _ _ => trivial)); (case aO => exact (by (with_reducible repeat (first | apply Kd.R_alloc | apply Kd.R_drewN | apply Kd.R_drew)); exact HO229.out)); (case aS => exact (below_size (by repeat (first | (with_reducible first | exact HB.out | apply below_alloc | apply pw_below_drewN | apply below_drew1) | exact HB.out)))); (case aL => have := LMc18.out; omega); intro v231 w26 ho hb hg hat; rw [← Ny230.out] at ho; have n0_ := Aside0.mk (hb); have n1_ := Aside0.mk (ho); clear HB; clear HO229; have HB := n0_; have HO232 := n1_; clear n0_ n1_; clear ho hb hg hat; obtain ⟨Ao28, co28, eo28⟩ := Kd.R_slice HO232.out; subst eo28; have q27 : ((l2.length : Int) : Int) ≤ ((y230.length : Int) : Int) := of_decide_eq_true (by first | (with_reducible assumption) | assumption); obtain ⟨i027, hi027, _, hsz27, _⟩ := info_parts info2; have hroom27 : y230.length ≤ co28 := (Kd.R_reads' HO232.out).2.1; have hC27 : Kd.C (Kd.int .i64) _ Ao28 y230.length y230 := (Kd.R_reads' HO232.out).2.2; have hcut27 := cut_to (P := Try.prog) 41 2 .i64 Try.underlying41 hi027 Ao28 y230.length co28 (l2.length : Int) (of_decide_eq_true (by first | (with_reducible assumption) | assumption)) q27 hroom27; have hr27 := Kd.C_take (m := ((l2.length : Int) : Int).toNat) hC27 (by omega); have hy27 : y233.length = ((l2.length : Int) : Int).toNat := (by rw [Ny233.out, List.length_take]; omega); rw [← Ny233.out] at hr27; rw [← hy27] at hcut27; have HR236 := Aside0.mk hr27; have HC236 := Aside0.mk (show y233.length ≤ co28 from by omega); clear hr27 hC27 hroom27 hi027 hsz27; have KY27 := Aside0.mk hy27; clear hy27; have KL27 := Aside0.mk (show ((l2.length : Int) : Int).toNat ≤ y230.length from by omega); replace q27 := eq_true q27) | ((with_reducible refine gate_callee (f := 38) rfl ?_); refine goesL_ (some 66) rfl rfl Try.func38 (by kernel_rfl) rfl #[.slice Ao28 y233.length co28] rfl (by (try simp only [List.map_toArray, List.map_cons, List.map_nil]); first | done | rfl | (simp only [List.length_drop, List.length_take]; rfl)) ?_; (with_reducible refine (fixed_Sum.calls kj13 _ _ y233 t237 t238 _ ?side1 ?side2 A21.out).mono ?_); (case side1 => repeat (first | exact (by repeat (first | (with_reducible exact HR236.out) | (with_reducible refine Kd.C_alloc ?_ _) | (with_reducible refine Kd.C_drewN ?_ _) | (with_reducible refine Kd.C_drew ?_) | exact HR236.out)) | (with_reducible refine Kd.C_alloc ?_ _) | (with_reducible refine Kd.C_drewN ?_ _) | (with_reducible refine Kd.C_drew ?_))); (case side2 => exact HC236.out); rintro e w' ⟨rfl, ⟨nd, rfl⟩⟩; refine ⟨_, rfl, ?_⟩) | ((with_reducible refine gate_callee (f := 39) rfl ?_); refine goesL_ (some 71) rfl rfl Try.func39 (by kernel_rfl) rfl #[.slice A2 l2.length c2] rfl (by (try simp only [List.map_toArray, List.map_cons, List.map_nil]); first | done | rfl | (simp only [List.length_drop, List.length_take]; rfl)) ?_; (with_reducible refine (heraldref02_Sum.calls kj13 _ _ l2 t239 t240 _ ?side1 ?side2 A22.out).mono ?_); (case side1 => repeat (first | exact (Kd.C_below HR2.out (by repeat (first | (with_reducible first | exact HB.out | apply below_alloc | apply pw_below_drewN | apply below_drew1) | exact HB.out))) | (with_reducible refine Kd.C_alloc ?_ _) | (with_reducible refine Kd.C_drewN ?_ _) | (with_reducible refine Kd.C_drew ?_))); (case side2 => exact HC2.out); rintro e w' ⟨rfl, ⟨nd, rfl⟩⟩; refine ⟨_, rfl, ?_⟩))
                        go_loopg [76] kj13 (fun kq v76 w' => ∃ (x76_3 : Int), v76 = .int .i64 x76_3 ∧ Aside0 (heraldlaw02_FixedSums.l0 kq l2 t237 t238 t239 t240 y230 l2 (l2.length : Int) x76_3 = some r) ∧ Aside0 (kq ≤ kj13) ∧ Aside0 (Kd.R (Kd.int .i64) 2 w' w.heap.size (fun _ => True) (.slice Ao28 y230.length co28) y230) ∧ Aside0 (Kd.C (Kd.int .i64) w' Ao28 y233.length y233) ∧ Aside0 (Below w.heap.size w w'))
                        case atStart => exact ⟨(0), (by first | rfl | (simp; done) | (simp [*]; done)), H', ⟨Nat.le_refl _⟩, ⟨by (with_reducible repeat (first | apply Kd.R_alloc | apply Kd.R_drewN | apply Kd.R_drew)); exact HO232.out⟩, ⟨by repeat (first | (with_reducible exact HR236.out) | (with_reducible refine Kd.C_alloc ?_ _) | (with_reducible refine Kd.C_drewN ?_ _) | (with_reducible refine Kd.C_drew ?_) | exact HR236.out)⟩, ⟨by repeat (first | (with_reducible first | exact HB.out | apply below_alloc | apply pw_below_drewN | apply below_drew1) | exact HB.out)⟩⟩
                        case round =>
                          clear H'
                          try clear c1
                          try clear c2
                          try clear p2
                          try clear q2
                          try clear c3
                          try clear c5
                          try clear c10
                          try clear c10b0
                          try clear c10b1
                          try clear c11
                          try clear c12
                          try clear c15
                          try clear c15b0
                          try clear c15b1
                          try clear c16
                          try clear c17
                          try clear c18
                          try clear c19
                          try clear c19b0
                          try clear c19b1
                          try clear c20
                          try clear c20b0
                          try clear c20b1
                          try clear q27
                          try clear p2
                          try clear q27
                          obtain ⟨x76_3, rfl, HA, HK3, HO_11, HR236, HB⟩ := hrel
                          cases gk with
                          | zero => exact absurd HA.out (by simp [heraldlaw02_FixedSums.l0])
                          | succ k3 =>
                            have H := HA.out
                            clear HA
                            simp only [heraldlaw02_FixedSums.l0] at H
                            by_cases c29 : x76_3 < (l2.length : Int)
                            · rw [if_pos c29] at H
                              have c29b0 : decide (x76_3 < (l2.length : Int)) = true := decide_eq_true c29
                              clear c29
                              by_cases c30 : 0 ≤ x76_3
                              · rw [if_pos c30] at H
                                have c30b0 : decide (0 ≤ x76_3) = true := decide_eq_true c30
                                clear c30
                                by_cases c31 : x76_3 < (l2.length : Int)
                                · rw [if_pos c31] at H
                                  have c31b0 : decide (x76_3 < (l2.length : Int)) = true := decide_eq_true c31
                                  clear c31
                                  by_cases c32 : x76_3 < (y230.length : Int)
                                  · rw [if_pos c32] at H
                                    have c32b0 : decide (x76_3 < (y230.length : Int)) = true := decide_eq_true c32
                                    clear c32
                                    by_cases c33 : (rd y230 x76_3) = (rd l2 x76_3)
                                    · rw [if_pos c33] at H
                                      have c33b0 : ((rd y230 x76_3) == (rd l2 x76_3)) = true := beq_iff_eq.mpr c33
                                      have c33b1 : ((rd y230 x76_3) != (rd l2 x76_3)) = false := bne_eq_false_iff_eq.mpr c33
                                      clear c33
                                      have H' := Aside0.mk H
                                      clear H
                                      have p241 : 0 ≤ (x76_3 : Int) := of_decide_eq_true (by first | (with_reducible assumption) | assumption)
                                      have q241 : x76_3 < (l2.length : Int) := of_decide_eq_true (by first | (with_reducible assumption) | assumption)
                                      obtain ⟨ad241, e241, hx241_0⟩ := Kd.at_int HR2.out x76_3 p241 q241
                                      cases e241
                                      replace hx241_0 := (HB.out.cell (World.block_lt_of_cell? w _ hx241_0)).trans hx241_0
                                      replace p241 := eq_true p241
                                      replace q241 := eq_true q241
                                      have p242 : 0 ≤ (x76_3 : Int) := of_decide_eq_true (by first | (with_reducible assumption) | assumption)
                                      have q242 : x76_3 < (y230.length : Int) := of_decide_eq_true (by first | (with_reducible assumption) | assumption)
                                      obtain ⟨ad242, e242, hx242_0⟩ := Kd.at_int (Kd.R_reads' HO_11.out).2.2 x76_3 p242 q242
                                      cases e242
                                      replace p242 := eq_true p242
                                      replace q242 := eq_true q242
                                      go_wp2
                                      go_roundg k3
                                      case measure => have := HJ7.out; have := HJ13.out; have := HK3.out; omega
                                      case rel => exact ⟨(wrap64 (x76_3 + 1)), (by first | rfl | (simp; done) | (simp [*]; done)), H', ⟨by have := HJ7.out; have := HJ13.out; have := HK3.out; omega⟩, ⟨by (with_reducible repeat (first | apply Kd.R_alloc | apply Kd.R_drewN | apply Kd.R_drew)); exact HO_11.out⟩, ⟨by repeat (first | (with_reducible exact HR236.out) | (with_reducible refine Kd.C_alloc ?_ _) | (with_reducible refine Kd.C_drewN ?_ _) | (with_reducible refine Kd.C_drew ?_) | exact HR236.out)⟩, ⟨by repeat (first | (with_reducible first | exact HB.out | apply below_alloc | apply pw_below_drewN | apply below_drew1) | exact HB.out)⟩⟩
                                    · rw [if_neg c33] at H
                                      have c33b0 : ((rd y230 x76_3) == (rd l2 x76_3)) = false := beq_eq_false_iff_ne.mpr c33
                                      have c33b1 : ((rd y230 x76_3) != (rd l2 x76_3)) = true := bne_iff_ne.mpr c33
                                      obtain rfl := Option.some.inj H
                                      have p241 : 0 ≤ (x76_3 : Int) := of_decide_eq_true (by first | (with_reducible assumption) | assumption)
                                      have q241 : x76_3 < (l2.length : Int) := of_decide_eq_true (by first | (with_reducible assumption) | assumption)
                                      obtain ⟨ad241, e241, hx241_0⟩ := Kd.at_int HR2.out x76_3 p241 q241
                                      cases e241
                                      replace hx241_0 := (HB.out.cell (World.block_lt_of_cell? w _ hx241_0)).trans hx241_0
                                      replace p241 := eq_true p241
                                      replace q241 := eq_true q241
                                      have p242 : 0 ≤ (x76_3 : Int) := of_decide_eq_true (by first | (with_reducible assumption) | assumption)
                                      have q242 : x76_3 < (y230.length : Int) := of_decide_eq_true (by first | (with_reducible assumption) | assumption)
                                      obtain ⟨ad242, e242, hx242_0⟩ := Kd.at_int (Kd.R_reads' HO_11.out).2.2 x76_3 p242 q242
                                      cases e242
                                      replace p242 := eq_true p242
                                      replace q242 := eq_true q242
                                      go_wp2
                                      go_ret
                                      exact ⟨by first | rfl | (simp [errW_none, errW_some] <;> rfl) | (simp [*, errW_none, errW_some] <;> rfl), by repeat (first | (with_reducible first | exact HB.out | apply below_alloc | apply pw_below_drewN | apply below_drew1) | exact HB.out)⟩
                                  · rw [if_neg c32] at H
                                    exact absurd H (by simp)
                                · rw [if_neg c31] at H
                                  exact absurd H (by simp)
                              · rw [if_neg c30] at H
                                exact absurd H (by simp)
                            · rw [if_neg c29] at H
                              have c29b0 : decide (x76_3 < (l2.length : Int)) = false := decide_eq_false c29
                              clear c29
                              by_cases c34 : t237 = t239
                              · rw [if_pos c34] at H
                                have c34b0 : (t237 == t239) = true := beq_iff_eq.mpr c34
                                have c34b1 : (t237 != t239) = false := bne_eq_false_iff_eq.mpr c34
                                clear c34
                                by_cases c35 : (t238 == t240) = true
                                · rw [if_pos c35] at H
                                  have c35b0 : (t238 == t240) = true := c35
                                  (try (have c35b1 : decide (t238 = t240) = true := by simpa using c35))
                                  (try (have c35b2 : (t238 == t240) = true := by simpa using c35))
                                  clear c35
                                  by_cases c36 : 0 ≤ (l2.length : Int)
                                  · rw [if_pos c36] at H
                                    have c36b0 : decide (0 ≤ (l2.length : Int)) = true := decide_eq_true c36
                                    have c36b1 : decide (0 ≤ l2.length) = true := decide_eq_true (by omega)
                                    clear c36
                                    by_cases c37 : (l2.length : Int) < (y230.length : Int)
                                    · rw [if_pos c37] at H
                                      have c37b0 : decide ((l2.length : Int) < (y230.length : Int)) = true := decide_eq_true c37
                                      have c37b1 : decide (l2.length < y230.length) = true := decide_eq_true (Int.ofNat_lt.mp c37)
                                      clear c37
                                      obtain rfl := Option.some.inj H
                                      have p243 : 0 ≤ ((l2.length : Int) : Int) := of_decide_eq_true (by first | (with_reducible assumption) | assumption)
                                      have q243 : (l2.length : Int) < (y230.length : Int) := of_decide_eq_true (by first | (with_reducible assumption) | assumption)
                                      obtain ⟨ad243, e243, hx243_0⟩ := Kd.at_int (Kd.R_reads' HO_11.out).2.2 (l2.length : Int) p243 q243
                                      cases e243
                                      (try simp only [Go.IntWalk.toNatUp] at hx243_0)
                                      replace p243 := eq_true p243
                                      replace q243 := eq_true q243
                                      go_wp2
                                      go_ret
                                      exact ⟨by first | rfl | (simp [errW_none, errW_some] <;> rfl) | (simp [*, errW_none, errW_some] <;> rfl), by repeat (first | (with_reducible first | exact HB.out | apply below_alloc | apply pw_below_drewN | apply below_drew1) | exact HB.out)⟩
                                    · rw [if_neg c37] at H
                                      exact absurd H (by simp)
                                  · rw [if_neg c36] at H
                                    exact absurd H (by simp)
                                · rw [if_neg c35] at H
                                  have c35b0 : (t238 == t240) = false := by simpa using c35
                                  (try (have c35b1 : decide (t238 = t240) = false := by simpa using c35))
                                  (try (have c35b2 : (t238 == t240) = false := by simpa using c35))
                                  (try (have c35b3 : ¬ (t238 = t240) := by simpa using c35))
                                  clear c35
                                  obtain rfl := Option.some.inj H
                                  go_wp2
                                  go_ret
                                  exact ⟨by first | rfl | (simp [errW_none, errW_some] <;> rfl) | (simp [*, errW_none, errW_some] <;> rfl), by repeat (first | (with_reducible first | exact HB.out | apply below_alloc | apply pw_below_drewN | apply below_drew1) | exact HB.out)⟩
                              · rw [if_neg c34] at H
                                have c34b0 : (t237 == t239) = false := beq_eq_false_iff_ne.mpr c34
                                have c34b1 : (t237 != t239) = true := bne_iff_ne.mpr c34
                                obtain rfl := Option.some.inj H
                                go_wp2
                                go_ret
                                exact ⟨by first | rfl | (simp [errW_none, errW_some] <;> rfl) | (simp [*, errW_none, errW_some] <;> rfl), by repeat (first | (with_reducible first | exact HB.out | apply below_alloc | apply pw_below_drewN | apply below_drew1) | exact HB.out)⟩
                      · rw [if_neg c20] at H
                        exact absurd H (by simp)
                    · rw [if_neg c19] at H
                      exact absurd H (by simp)
                  · rw [if_neg c18] at H
                    exact absurd H (by simp)
                · rw [if_neg c17] at H
                  exact absurd H (by simp)
  · replace c5 := Bool.eq_false_iff.mpr c5
    subst c5
    have H1 : (some false) = some r := by rw [if_neg (show ¬ (false = true) by decide)] at H; exact H
    clear H
    have H := H1
    clear H1
    obtain rfl := Option.some.inj H
    go_enter Try.func12, Try.ntmps12
    go_wp2_with (first | ((with_reducible refine gate_callee (f := 15) rfl ?_); refine goesL_ (some 14) rfl rfl Try.func15 (by kernel_rfl) rfl #[] rfl (by (try simp only [List.map_toArray, List.map_cons, List.map_nil]); first | done | rfl | (simp only [List.length_drop, List.length_take]; rfl)) ?_; (with_reducible refine (heraldlaw02_awake.calls k  false _ A4.out).mono ?_); rintro e w38 ⟨rfl, hb⟩; refine ⟨_, rfl, ?_⟩; have n0_ := Aside0.mk (below_step (by repeat (first | (with_reducible first | exact HB.out | apply below_alloc | apply pw_below_drewN | apply below_drew1) | exact HB.out)) hb); clear HB; have HB := n0_; clear n0_; (try clear hb); (try clear hb2); (try clear hk); (try clear hi)))
    go_ret
    exact ⟨by first | rfl | (simp [errW_none, errW_some] <;> rfl) | (simp [*, errW_none, errW_some] <;> rfl), by repeat (first | (with_reducible first | exact HB.out | apply below_alloc | apply pw_below_drewN | apply below_drew1) | exact HB.out)⟩

/-- THE ONE PURE STATEMENT of heraldlaw02_FixedSums: yours. -/
def heraldlaw02_FixedSums.Pure : Prop := ∀ (a0 : Int) (a1 : Int) (l2 : List Int), (Lit.int .i64 a0).wf = true → (Lit.int .i64 a1).wf = true → l2.length ≤ maxLen → l2.length * 8 ≤ 140737488351232 → (∀ x ∈ l2, (Lit.int .i64 x).wf = true) → ∃ k, heraldlaw02_FixedSums.f k a0 a1 l2 = some true
theorem heraldlaw02_FixedSums.walk (P : heraldlaw02_FixedSums.Pure) (a0 : Int) (a1 : Int) (a2 : Option Addr) (len2 cap2 : Nat) (z2 : List Int) (w : World) (w0 : (Lit.int .i64 a0).wf = true) (w1 : (Lit.int .i64 a1).wf = true) (w2 : (a2 = none ∧ len2 = 0 ∧ cap2 = 0 ∧ z2 = []) ∨ ∃ x, a2 = some x ∧ len2 ≤ cap2 ∧ cap2 ≤ maxLen ∧ z2.length = cap2 ∧ (∀ i, i < z2.length → w.cell? (x.add i) = some (.int .i64 (z2.getD i 0))) ∧ ∀ n ∈ z2, (Lit.int .i64 n).wf = true) (y2 : len2 * 8 ≤ 140737488351232) :
    Calls Try.prog 12 #[.int .i64 a0, .int .i64 a1, .slice a2 len2 cap2] w fun e w' => e = .returned (.bool true) ∧ Below w.heap.size w w' := by
  obtain ⟨l2, rfl, hr2, hm2, hw2, hc2⟩ := ReadsInt.ofRowC w2
  obtain ⟨k, h⟩ := P a0 a1 l2 w0 w1 hm2 y2 hw2
  refine (heraldlaw02_FixedSums.calls k a0 a1 _ _ l2 true w (Kd.C_of_reads (d := (0 : Int)) (h1 := fun _ => rfl) hr2) hc2 h).mono ?_
  rintro e w' ⟨rfl, hd⟩
  exact ⟨rfl, hd⟩

end Go.Proofs.Ytbldlfmblalchaa.P
