-- Printed by xprint.py (wip): functions, contracts, rows. Lean checks it.
import Derived.Test.YtbldlfmblalchaaPx0
import Derived.Test.YtbldlfmblalchaaPx1
import Derived.Test.YtbldlfmblalchaaPx3
namespace Go.Proofs.Ytbldlfmblalchaa.P
open Go.RowKit Go.Proofs.YtbldlfmblalchaaW.PrintWords Go.Proofs.YtbldlfmblalchaaW.PrintLast Go.Proofs.YtbldlfmblalchaaW.PrintMore
attribute [local go_sem] max2_int min2_int max_two min_two max_three min_three max_four min_four   -- for this text's walks alone
set_option linter.unusedVariables false
set_option linter.unusedSimpArgs false

/-! ### heraldlaw02_FixedGrows: function 11 -/
mutual
def heraldlaw02_FixedGrows.j0 : Nat → Int → Int → Bool → Option (Bool)
  | 0, _, _, _ => none
  | k + 1, x0, x1, x35 => if x35 = true then (some false) else (if x0 < 1 then (heraldlaw02_FixedGrows.j1 k x0 x1 true) else (heraldlaw02_FixedGrows.j1 k x0 x1 (decide (x1 < 1))))
def heraldlaw02_FixedGrows.j1 : Nat → Int → Int → Bool → Option (Bool)
  | 0, _, _, _ => none
  | k + 1, x0, x1, x41 => if x41 = true then (some true) else (if x0 > x1 then (heraldlaw02_FixedGrows.j2 k x1 x0) else (heraldlaw02_FixedGrows.j2 k x0 x1))
def heraldlaw02_FixedGrows.j2 : Nat → Int → Int → Option (Bool)
  | 0, _, _ => none
  | k + 1, x0, x1 => (fixed_Log2.f k x0).bind fun bt205 => ((fixed_Log2.f k x1).bind fun bt207 => (if bt205.2 = 0 then (if bt207.2 = 0 then (if bt205.1 > bt207.1 then (heraldlaw02_FixedGrows.j3 k x0 bt205.1 true) else (if bt205.1 < 0 then (heraldlaw02_FixedGrows.j3 k x0 bt205.1 true) else (heraldlaw02_FixedGrows.j3 k x0 bt205.1 (decide (bt207.1 ≥ 4128768))))) else (heraldlaw02_FixedGrows.j3 k x0 bt205.1 true)) else (heraldlaw02_FixedGrows.j3 k x0 bt205.1 true)))
def heraldlaw02_FixedGrows.j3 : Nat → Int → Int → Bool → Option (Bool)
  | 0, _, _, _ => none
  | k + 1, x0, x9, x75 => if x75 = true then (some false) else (if x0 > 4611686018427387903 then (some true) else ((fixed_Log2.f k (wrap64 (2 * x0))).bind fun bt209 => (if bt209.1 = (wrap64 (x9 + 65536)) then (some (bt209.2 == 0)) else (some false))))
end
def heraldlaw02_FixedGrows.f (k : Nat) (a0 : Int) (a1 : Int) (a2 : Int) : Option (Bool) := (heraldlaw02_awake.f k).bind fun t202 => (if t202 = true then (if 0 ≤ (IntKind.u64.wrap (Int.tmod (wrap64 ((Int.tmod a2 63) + 63)) 63)) then ((fixed_Log2.f k (shl .i64 1 (IntKind.u64.wrap (Int.tmod (wrap64 ((Int.tmod a2 63) + 63)) 63)))).bind fun bt203 => (if bt203.1 = (wrap64 (65536 * (Int.tmod (wrap64 ((Int.tmod a2 63) + 63)) 63))) then (heraldlaw02_FixedGrows.j0 k a0 a1 (bt203.2 != 0)) else (heraldlaw02_FixedGrows.j0 k a0 a1 true))) else (none)) else (some false))
theorem heraldlaw02_FixedGrows.mono_l : ∀ k, (∀ y0 y1 y2, LeO (heraldlaw02_FixedGrows.j0 k y0 y1 y2) (heraldlaw02_FixedGrows.j0 (k + 1) y0 y1 y2)) ∧ (∀ y0 y1 y2, LeO (heraldlaw02_FixedGrows.j1 k y0 y1 y2) (heraldlaw02_FixedGrows.j1 (k + 1) y0 y1 y2)) ∧ (∀ y0 y1, LeO (heraldlaw02_FixedGrows.j2 k y0 y1) (heraldlaw02_FixedGrows.j2 (k + 1) y0 y1)) ∧ (∀ y0 y1 y2, LeO (heraldlaw02_FixedGrows.j3 k y0 y1 y2) (heraldlaw02_FixedGrows.j3 (k + 1) y0 y1 y2))
  | 0 => ⟨fun _ _ _ r h => by simp [heraldlaw02_FixedGrows.j0] at h, fun _ _ _ r h => by simp [heraldlaw02_FixedGrows.j1] at h, fun _ _ r h => by simp [heraldlaw02_FixedGrows.j2] at h, fun _ _ _ r h => by simp [heraldlaw02_FixedGrows.j3] at h⟩
  | k + 1 => by
    obtain ⟨ih0, ih1, ih2, ih3⟩ := heraldlaw02_FixedGrows.mono_l k
    refine ⟨?_, ?_, ?_, ?_⟩
    · intro y0 y1 y2
      unfold heraldlaw02_FixedGrows.j0
      repeat' first
      | (with_reducible exact ih0 _ _ _)
      | (with_reducible exact ih1 _ _ _)
      | (with_reducible exact ih2 _ _)
      | (with_reducible exact ih3 _ _ _)
      | (with_reducible exact fixed_Log2.mono _ _)
      | (with_reducible exact heraldlaw02_awake.mono _)
      | (with_reducible exact LeO.refl _)
      | (with_reducible exact LeO.none _)
      | (with_reducible refine LeO.ite ?_ ?_)
      | (with_reducible refine LeO.bind ?_ (fun _ => ?_))
      | exact ih0 _ _ _
      | exact ih1 _ _ _
      | exact ih2 _ _
      | exact ih3 _ _ _
      | exact fixed_Log2.mono _ _
      | exact heraldlaw02_awake.mono _
      | exact LeO.none _
      | refine LeO.ite ?_ ?_
      | refine LeO.bind ?_ (fun _ => ?_)
    · intro y0 y1 y2
      unfold heraldlaw02_FixedGrows.j1
      repeat' first
      | (with_reducible exact ih0 _ _ _)
      | (with_reducible exact ih1 _ _ _)
      | (with_reducible exact ih2 _ _)
      | (with_reducible exact ih3 _ _ _)
      | (with_reducible exact fixed_Log2.mono _ _)
      | (with_reducible exact heraldlaw02_awake.mono _)
      | (with_reducible exact LeO.refl _)
      | (with_reducible exact LeO.none _)
      | (with_reducible refine LeO.ite ?_ ?_)
      | (with_reducible refine LeO.bind ?_ (fun _ => ?_))
      | exact ih0 _ _ _
      | exact ih1 _ _ _
      | exact ih2 _ _
      | exact ih3 _ _ _
      | exact fixed_Log2.mono _ _
      | exact heraldlaw02_awake.mono _
      | exact LeO.none _
      | refine LeO.ite ?_ ?_
      | refine LeO.bind ?_ (fun _ => ?_)
    · intro y0 y1
      unfold heraldlaw02_FixedGrows.j2
      repeat' first
      | (with_reducible exact ih0 _ _ _)
      | (with_reducible exact ih1 _ _ _)
      | (with_reducible exact ih2 _ _)
      | (with_reducible exact ih3 _ _ _)
      | (with_reducible exact fixed_Log2.mono _ _)
      | (with_reducible exact heraldlaw02_awake.mono _)
      | (with_reducible exact LeO.refl _)
      | (with_reducible exact LeO.none _)
      | (with_reducible refine LeO.ite ?_ ?_)
      | (with_reducible refine LeO.bind ?_ (fun _ => ?_))
      | exact ih0 _ _ _
      | exact ih1 _ _ _
      | exact ih2 _ _
      | exact ih3 _ _ _
      | exact fixed_Log2.mono _ _
      | exact heraldlaw02_awake.mono _
      | exact LeO.none _
      | refine LeO.ite ?_ ?_
      | refine LeO.bind ?_ (fun _ => ?_)
    · intro y0 y1 y2
      unfold heraldlaw02_FixedGrows.j3
      repeat' first
      | (with_reducible exact ih0 _ _ _)
      | (with_reducible exact ih1 _ _ _)
      | (with_reducible exact ih2 _ _)
      | (with_reducible exact ih3 _ _ _)
      | (with_reducible exact fixed_Log2.mono _ _)
      | (with_reducible exact heraldlaw02_awake.mono _)
      | (with_reducible exact LeO.refl _)
      | (with_reducible exact LeO.none _)
      | (with_reducible refine LeO.ite ?_ ?_)
      | (with_reducible refine LeO.bind ?_ (fun _ => ?_))
      | exact ih0 _ _ _
      | exact ih1 _ _ _
      | exact ih2 _ _
      | exact ih3 _ _ _
      | exact fixed_Log2.mono _ _
      | exact heraldlaw02_awake.mono _
      | exact LeO.none _
      | refine LeO.ite ?_ ?_
      | refine LeO.bind ?_ (fun _ => ?_)
theorem heraldlaw02_FixedGrows.mono : ∀ a0 a1 a2 k, LeO (heraldlaw02_FixedGrows.f k a0 a1 a2) (heraldlaw02_FixedGrows.f (k + 1) a0 a1 a2) := by
  intro a0 a1 a2 k
  obtain ⟨ih0, ih1, ih2, ih3⟩ := heraldlaw02_FixedGrows.mono_l k
  unfold heraldlaw02_FixedGrows.f
  repeat' first
      | (with_reducible exact ih0 _ _ _)
      | (with_reducible exact ih1 _ _ _)
      | (with_reducible exact ih2 _ _)
      | (with_reducible exact ih3 _ _ _)
      | (with_reducible exact fixed_Log2.mono _ _)
      | (with_reducible exact heraldlaw02_awake.mono _)
      | (with_reducible exact LeO.refl _)
      | (with_reducible exact LeO.none _)
      | (with_reducible refine LeO.ite ?_ ?_)
      | (with_reducible refine LeO.bind ?_ (fun _ => ?_))
      | exact ih0 _ _ _
      | exact ih1 _ _ _
      | exact ih2 _ _
      | exact ih3 _ _ _
      | exact fixed_Log2.mono _ _
      | exact heraldlaw02_awake.mono _
      | exact LeO.none _
      | refine LeO.ite ?_ ?_
      | refine LeO.bind ?_ (fun _ => ?_)
set_option maxHeartbeats 8000000 in
set_option maxRecDepth 100000 in
theorem heraldlaw02_FixedGrows.calls (k : Nat) (a0 : Int) (a1 : Int) (a2 : Int) (r : Bool) (w : World) (h : heraldlaw02_FixedGrows.f k a0 a1 a2 = some r) :
    Calls Try.prog 11 #[.int .i64 a0, .int .i64 a1, .int .i64 a2] w fun e w' => e = .returned (.bool r) ∧ Below w.heap.size w w' := by
  have HB := Aside0.mk (Below.refl w.heap.size w)
  have H : ((heraldlaw02_awake.f k).bind fun t202 => (if t202 = true then (if 0 ≤ (IntKind.u64.wrap (Int.tmod (wrap64 ((Int.tmod a2 63) + 63)) 63)) then ((fixed_Log2.f k (shl .i64 1 (IntKind.u64.wrap (Int.tmod (wrap64 ((Int.tmod a2 63) + 63)) 63)))).bind fun bt203 => (if bt203.1 = (wrap64 (65536 * (Int.tmod (wrap64 ((Int.tmod a2 63) + 63)) 63))) then (heraldlaw02_FixedGrows.j0 k a0 a1 (bt203.2 != 0)) else (heraldlaw02_FixedGrows.j0 k a0 a1 true))) else (none)) else (some false))) = some r := h
  clear h
  replace H := Option.bind_eq_some_iff.mp H
  obtain ⟨t202, A40, H⟩ := H
  replace H : (if t202 = true then (if 0 ≤ (IntKind.u64.wrap (Int.tmod (wrap64 ((Int.tmod a2 63) + 63)) 63)) then ((fixed_Log2.f k (shl .i64 1 (IntKind.u64.wrap (Int.tmod (wrap64 ((Int.tmod a2 63) + 63)) 63)))).bind fun bt203 => (if bt203.1 = (wrap64 (65536 * (Int.tmod (wrap64 ((Int.tmod a2 63) + 63)) 63))) then (heraldlaw02_FixedGrows.j0 k a0 a1 (bt203.2 != 0)) else (heraldlaw02_FixedGrows.j0 k a0 a1 true))) else (none)) else (some false)) = some r := H
  have A4 := Aside0.mk A40
  clear A40
  by_cases c5 : t202 = true
  · subst c5
    have H1 : (if 0 ≤ (IntKind.u64.wrap (Int.tmod (wrap64 ((Int.tmod a2 63) + 63)) 63)) then ((fixed_Log2.f k (shl .i64 1 (IntKind.u64.wrap (Int.tmod (wrap64 ((Int.tmod a2 63) + 63)) 63)))).bind fun bt203 => (if bt203.1 = (wrap64 (65536 * (Int.tmod (wrap64 ((Int.tmod a2 63) + 63)) 63))) then (heraldlaw02_FixedGrows.j0 k a0 a1 (bt203.2 != 0)) else (heraldlaw02_FixedGrows.j0 k a0 a1 true))) else (none)) = some r := by rw [if_pos rfl] at H; exact H
    clear H
    have H := H1
    clear H1
    obtain ⟨ji6, hji6⟩ : ∃ j_ : Int, (IntKind.u64.wrap (Int.tmod (wrap64 ((Int.tmod a2 63) + 63)) 63)) = j_ := ⟨_, rfl⟩
    replace H : (if 0 ≤ (ji6) then ((fixed_Log2.f k (shl .i64 1 (ji6))).bind fun bt203 => (if bt203.1 = (wrap64 (65536 * (Int.tmod (wrap64 ((Int.tmod a2 63) + 63)) 63))) then (heraldlaw02_FixedGrows.j0 k a0 a1 (bt203.2 != 0)) else (heraldlaw02_FixedGrows.j0 k a0 a1 true))) else (none)) = some r := by first | (rw [hji6] at H; exact H) | (simp only [hji6] at H ⊢; exact H)
    (try rw [hji6] at A4)
    by_cases c7 : 0 ≤ (ji6)
    · rw [if_pos c7] at H
      have c7b0 := eq_true c7
      have c7b1 : decide (0 ≤ (ji6)) = true := decide_eq_true c7
      clear c7
      obtain ⟨ji8, hji8⟩ : ∃ j_ : Int, (shl .i64 1 (ji6)) = j_ := ⟨_, rfl⟩
      replace H : ((fixed_Log2.f k (ji8)).bind fun bt203 => (if bt203.1 = (wrap64 (65536 * (Int.tmod (wrap64 ((Int.tmod a2 63) + 63)) 63))) then (heraldlaw02_FixedGrows.j0 k a0 a1 (bt203.2 != 0)) else (heraldlaw02_FixedGrows.j0 k a0 a1 true))) = some r := by first | (rw [hji8] at H; exact H) | (simp only [hji8] at H ⊢; exact H)
      (try rw [hji8] at A4)
      have hji8_ : (IntKind.i64.wrap (1 * 2 ^ min (ji6).toNat 64)) = ji8 := hji8
      have hji8z : (ji6) ≤ 64 → (IntKind.i64.wrap (1 * 2 ^ (ji6).toNat)) = ji8 := shl_small hji8
      have hji8u : (IntKind.i64.wrap (2 ^ min (ji6).toNat 64)) = ji8 := by have h_ := hji8_; rw [Int.one_mul] at h_; exact h_
      have hji8v : (ji6) ≤ 64 → (IntKind.i64.wrap (2 ^ (ji6).toNat)) = ji8 := fun hle_ => by have h_ := hji8z hle_; rw [Int.one_mul] at h_; exact h_
      have hji8y : (wrap64 (1 * 2 ^ min (ji6).toNat 64)) = ji8 := (i64_w _).symm.trans hji8_
      have hji8x : (ji6) ≤ 64 → (wrap64 (1 * 2 ^ (ji6).toNat)) = ji8 := fun h_ => (i64_w _).symm.trans (hji8z h_)
      replace H := Option.bind_eq_some_iff.mp H
      obtain ⟨⟨t203, t204⟩, A90, H⟩ := H
      replace H : (if t203 = (wrap64 (65536 * (Int.tmod (wrap64 ((Int.tmod a2 63) + 63)) 63))) then (heraldlaw02_FixedGrows.j0 k a0 a1 (t204 != 0)) else (heraldlaw02_FixedGrows.j0 k a0 a1 true)) = some r := H
      have A9 := Aside0.mk A90
      clear A90
      have HC10 := Aside0.mk H
      clear H
      go_enter Try.func11, Try.ntmps11
      go_upto_region 4 with (first | ((with_reducible refine gate_callee (f := 15) rfl ?_); refine goesL_ (some 13) rfl rfl Try.func15 (by kernel_rfl) rfl #[] rfl (by (try simp only [List.map_toArray, List.map_cons, List.map_nil]); first | done | rfl | (simp only [List.length_drop, List.length_take]; rfl)) ?_; (with_reducible refine (heraldlaw02_awake.calls k  true _ A4.out).mono ?_); rintro e w11 ⟨rfl, hb⟩; refine ⟨_, rfl, ?_⟩; have n0_ := Aside0.mk (below_step (by repeat (first | (with_reducible first | exact HB.out | apply below_alloc | apply pw_below_drewN | apply below_drew1) | exact HB.out)) hb); clear HB; have HB := n0_; clear n0_; (try clear hb); (try clear hb2); (try clear hk); (try clear hi)) | ((with_reducible refine gate_callee (f := 32) rfl ?_); refine goesL_ (some 22) rfl rfl Try.func32 (by kernel_rfl) rfl #[.int .i64 ji8] rfl (by (try simp only [List.map_toArray, List.map_cons, List.map_nil]); first | done | (simp only [hji8]; rfl) | rfl | (simp only [List.length_drop, List.length_take]; rfl)) ?_; (with_reducible refine (fixed_Log2.calls k ji8 t203 t204 _ A9.out).mono ?_); rintro e w' ⟨rfl, ⟨nd, rfl⟩⟩; refine ⟨_, rfl, ?_⟩))
      (try simp only [Act.put, List.setIfInBounds_toArray, List.set_cons_zero, List.set_cons_succ])
      go_cut [35] (fun v35 wc => ∃ (kq : Nat) (x35_9 : Bool), v35 = .bool x35_9 ∧ Aside0 (heraldlaw02_FixedGrows.j0 kq a0 a1 x35_9 = some r) ∧ Aside0 (kq ≤ k) ∧ Aside0 (Below w.heap.size w wc))
      case first =>
        have H := HC10.out
        clear HC10
        by_cases c12 : t203 = (wrap64 (65536 * (Int.tmod (wrap64 ((Int.tmod a2 63) + 63)) 63)))
        · rw [if_pos c12] at H
          have c12b0 : (t203 == (wrap64 (65536 * (Int.tmod (wrap64 ((Int.tmod a2 63) + 63)) 63)))) = true := beq_iff_eq.mpr c12
          have c12b1 : (t203 != (wrap64 (65536 * (Int.tmod (wrap64 ((Int.tmod a2 63) + 63)) 63)))) = false := bne_eq_false_iff_eq.mpr c12
          clear c12
          (first | rw [c12b0] | (simp only [i64_w, i32_w]; rw [c12b0]) | skip)
          have H' := Aside0.mk H
          clear H
          go_wp2
          go_meet
          case rel => exact ⟨_, ((t204 != 0)), (by first | rfl | (simp; done) | (simp [*]; done)), H', ⟨by first | omega | exact Nat.le_refl _⟩, ⟨by repeat (first | (with_reducible first | exact HB.out | apply below_alloc | apply pw_below_drewN | apply below_drew1) | exact HB.out)⟩⟩
        · rw [if_neg c12] at H
          have c12b0 : (t203 == (wrap64 (65536 * (Int.tmod (wrap64 ((Int.tmod a2 63) + 63)) 63)))) = false := beq_eq_false_iff_ne.mpr c12
          have c12b1 : (t203 != (wrap64 (65536 * (Int.tmod (wrap64 ((Int.tmod a2 63) + 63)) 63)))) = true := bne_iff_ne.mpr c12
          (first | rw [c12b0] | (simp only [i64_w, i32_w]; rw [c12b0]) | skip)
          have H' := Aside0.mk H
          clear H
          go_wp2
          go_meet
          case rel => exact ⟨_, (true), (by first | rfl | (simp; done) | (simp [*]; done)), H', ⟨by first | omega | exact Nat.le_refl _⟩, ⟨by repeat (first | (with_reducible first | exact HB.out | apply below_alloc | apply pw_below_drewN | apply below_drew1) | exact HB.out)⟩⟩
      case rest =>
        clear HC10
        try clear c1
        try clear p2
        try clear c3
        try clear c5
        try clear p6
        try clear c7
        try clear c7b0
        try clear c7b1
        try clear c11
        try clear c12
        try clear c12b0
        try clear c12b1
        obtain ⟨kq, x35_9, rfl, HA, HJ9, HB⟩ := hcut
        cases kq with
        | zero => exact absurd HA.out (by simp [heraldlaw02_FixedGrows.j0])
        | succ kj9 =>
          have H := HA.out
          clear HA
          simp only [heraldlaw02_FixedGrows.j0] at H
          by_cases c13 : x35_9 = true
          · subst c13
            have H1 : (some false) = some r := by rw [if_pos rfl] at H; exact H
            clear H
            have H := H1
            clear H1
            obtain rfl := Option.some.inj H
            go_wp2
            go_ret
            exact ⟨by first | rfl | (simp [errW_none, errW_some] <;> rfl) | (simp only [← hji6, ← hji8]; first | rfl | (simp [errW_none, errW_some] <;> rfl)) | (simp [*, errW_none, errW_some] <;> rfl), by repeat (first | (with_reducible first | exact HB.out | apply below_alloc | apply pw_below_drewN | apply below_drew1) | exact HB.out)⟩
          · replace c13 := Bool.eq_false_iff.mpr c13
            subst c13
            have H1 : (if a0 < 1 then (heraldlaw02_FixedGrows.j1 kj9 a0 a1 true) else (heraldlaw02_FixedGrows.j1 kj9 a0 a1 (decide (a1 < 1)))) = some r := by rw [if_neg (show ¬ (false = true) by decide)] at H; exact H
            clear H
            have H := H1
            clear H1
            have HC14 := Aside0.mk H
            clear H
            go_upto_region 6 with (fail)
            go_cut [41] (fun v41 wc => ∃ (kq : Nat) (x41_13 : Bool), v41 = .bool x41_13 ∧ Aside0 (heraldlaw02_FixedGrows.j1 kq a0 a1 x41_13 = some r) ∧ Aside0 (kq ≤ kj9) ∧ Aside0 (Below w.heap.size w wc))
            case first =>
              have H := HC14.out
              clear HC14
              by_cases c15 : a0 < 1
              · rw [if_pos c15] at H
                have c15b0 : decide (a0 < 1) = true := decide_eq_true c15
                clear c15
                (first | rw [c15b0] | (simp only [i64_w, i32_w]; rw [c15b0]) | skip)
                have H' := Aside0.mk H
                clear H
                go_wp2
                go_meet
                case rel => exact ⟨_, (true), (by first | rfl | (simp; done) | (simp [*]; done)), H', ⟨by have := HJ9.out; first | omega | exact Nat.le_refl _⟩, ⟨by repeat (first | (with_reducible first | exact HB.out | apply below_alloc | apply pw_below_drewN | apply below_drew1) | exact HB.out)⟩⟩
              · rw [if_neg c15] at H
                have c15b0 : decide (a0 < 1) = false := decide_eq_false c15
                clear c15
                (first | rw [c15b0] | (simp only [i64_w, i32_w]; rw [c15b0]) | skip)
                have H' := Aside0.mk H
                clear H
                go_wp2
                go_meet
                case rel => exact ⟨_, (decide (a1 < 1)), (by first | rfl | (simp; done) | (simp [*]; done)), H', ⟨by have := HJ9.out; first | omega | exact Nat.le_refl _⟩, ⟨by repeat (first | (with_reducible first | exact HB.out | apply below_alloc | apply pw_below_drewN | apply below_drew1) | exact HB.out)⟩⟩
            case rest =>
              clear HC14
              try clear c1
              try clear p2
              try clear c3
              try clear c5
              try clear p6
              try clear c7
              try clear c7b0
              try clear c7b1
              try clear c11
              try clear c12
              try clear c12b0
              try clear c12b1
              try clear c13
              try clear c15
              try clear c15b0
              try clear p2
              try clear p6
              obtain ⟨kq, x41_13, rfl, HA, HJ13, HB⟩ := hcut
              cases kq with
              | zero => exact absurd HA.out (by simp [heraldlaw02_FixedGrows.j1])
              | succ kj13 =>
                have H := HA.out
                clear HA
                simp only [heraldlaw02_FixedGrows.j1] at H
                by_cases c16 : x41_13 = true
                · subst c16
                  have H1 : (some true) = some r := by rw [if_pos rfl] at H; exact H
                  clear H
                  have H := H1
                  clear H1
                  obtain rfl := Option.some.inj H
                  go_wp2
                  go_ret
                  exact ⟨by first | rfl | (simp [errW_none, errW_some] <;> rfl) | (simp only [← hji6, ← hji8]; first | rfl | (simp [errW_none, errW_some] <;> rfl)) | (simp [*, errW_none, errW_some] <;> rfl), by repeat (first | (with_reducible first | exact HB.out | apply below_alloc | apply pw_below_drewN | apply below_drew1) | exact HB.out)⟩
                · replace c16 := Bool.eq_false_iff.mpr c16
                  subst c16
                  have H1 : (if a0 > a1 then (heraldlaw02_FixedGrows.j2 kj13 a1 a0) else (heraldlaw02_FixedGrows.j2 kj13 a0 a1)) = some r := by rw [if_neg (show ¬ (false = true) by decide)] at H; exact H
                  clear H
                  have H := H1
                  clear H1
                  have HC17 := Aside0.mk H
                  clear H
                  go_upto_if 44 with (fail)
                  go_cut [0, 1] (fun v0 v1 wc => ∃ (kq : Nat) (x0_16 : Int) (x1_16 : Int), v0 = .int .i64 x0_16 ∧ v1 = .int .i64 x1_16 ∧ Aside0 (heraldlaw02_FixedGrows.j2 kq x0_16 x1_16 = some r) ∧ Aside0 (kq ≤ kj13) ∧ Aside0 (Below w.heap.size w wc))
                  case first =>
                    have H := HC17.out
                    clear HC17
                    by_cases c18 : a0 > a1
                    · rw [if_pos c18] at H
                      have c18b0 : decide (a1 < a0) = true := decide_eq_true c18
                      clear c18
                      (first | rw [c18b0] | (simp only [i64_w, i32_w]; rw [c18b0]) | skip)
                      have H' := Aside0.mk H
                      clear H
                      go_wp2
                      go_meet
                      case rel => exact ⟨_, (a1), (a0), (by first | rfl | (simp; done) | (simp [*]; done)), (by first | rfl | (simp; done) | (simp [*]; done)), H', ⟨by have := HJ9.out; have := HJ13.out; first | omega | exact Nat.le_refl _⟩, ⟨by repeat (first | (with_reducible first | exact HB.out | apply below_alloc | apply pw_below_drewN | apply below_drew1) | exact HB.out)⟩⟩
                    · rw [if_neg c18] at H
                      have c18b0 : decide (a1 < a0) = false := decide_eq_false c18
                      clear c18
                      (first | rw [c18b0] | (simp only [i64_w, i32_w]; rw [c18b0]) | skip)
                      have H' := Aside0.mk H
                      clear H
                      go_wp2
                      go_meet
                      case rel => exact ⟨_, (a0), (a1), (by first | rfl | (simp; done) | (simp [*]; done)), (by first | rfl | (simp; done) | (simp [*]; done)), H', ⟨by have := HJ9.out; have := HJ13.out; first | omega | exact Nat.le_refl _⟩, ⟨by repeat (first | (with_reducible first | exact HB.out | apply below_alloc | apply pw_below_drewN | apply below_drew1) | exact HB.out)⟩⟩
                  case rest =>
                    clear HC17
                    try clear c1
                    try clear p2
                    try clear c3
                    try clear c5
                    try clear p6
                    try clear c7
                    try clear c7b0
                    try clear c7b1
                    try clear c11
                    try clear c12
                    try clear c12b0
                    try clear c12b1
                    try clear c13
                    try clear c15
                    try clear c15b0
                    try clear c16
                    try clear c18
                    try clear c18b0
                    try clear p2
                    try clear p6
                    obtain ⟨kq, x0_16, x1_16, rfl, rfl, HA, HJ16, HB⟩ := hcut
                    cases kq with
                    | zero => exact absurd HA.out (by simp [heraldlaw02_FixedGrows.j2])
                    | succ kj16 =>
                      have H := HA.out
                      clear HA
                      simp only [heraldlaw02_FixedGrows.j2] at H
                      replace H := Option.bind_eq_some_iff.mp H
                      obtain ⟨⟨t205, t206⟩, A190, H⟩ := H
                      replace H : ((fixed_Log2.f kj16 x1_16).bind fun bt207 => (if t206 = 0 then (if bt207.2 = 0 then (if t205 > bt207.1 then (heraldlaw02_FixedGrows.j3 kj16 x0_16 t205 true) else (if t205 < 0 then (heraldlaw02_FixedGrows.j3 kj16 x0_16 t205 true) else (heraldlaw02_FixedGrows.j3 kj16 x0_16 t205 (decide (bt207.1 ≥ 4128768))))) else (heraldlaw02_FixedGrows.j3 kj16 x0_16 t205 true)) else (heraldlaw02_FixedGrows.j3 kj16 x0_16 t205 true))) = some r := H
                      have A19 := Aside0.mk A190
                      clear A190
                      replace H := Option.bind_eq_some_iff.mp H
                      obtain ⟨⟨t207, t208⟩, A200, H⟩ := H
                      replace H : (if t206 = 0 then (if t208 = 0 then (if t205 > t207 then (heraldlaw02_FixedGrows.j3 kj16 x0_16 t205 true) else (if t205 < 0 then (heraldlaw02_FixedGrows.j3 kj16 x0_16 t205 true) else (heraldlaw02_FixedGrows.j3 kj16 x0_16 t205 (decide (t207 ≥ 4128768))))) else (heraldlaw02_FixedGrows.j3 kj16 x0_16 t205 true)) else (heraldlaw02_FixedGrows.j3 kj16 x0_16 t205 true)) = some r := H
                      have A20 := Aside0.mk A200
                      clear A200
                      have HC21 := Aside0.mk H
                      clear H
                      go_upto_region 12 with (first | ((with_reducible refine gate_callee (f := 32) rfl ?_); refine goesL_ (some 49) rfl rfl Try.func32 (by kernel_rfl) rfl #[.int .i64 x0_16] rfl (by (try simp only [List.map_toArray, List.map_cons, List.map_nil]); first | done | rfl | (simp only [List.length_drop, List.length_take]; rfl)) ?_; (with_reducible refine (fixed_Log2.calls kj16 x0_16 t205 t206 _ A19.out).mono ?_); rintro e w' ⟨rfl, ⟨nd, rfl⟩⟩; refine ⟨_, rfl, ?_⟩) | ((with_reducible refine gate_callee (f := 32) rfl ?_); refine goesL_ (some 54) rfl rfl Try.func32 (by kernel_rfl) rfl #[.int .i64 x1_16] rfl (by (try simp only [List.map_toArray, List.map_cons, List.map_nil]); first | done | rfl | (simp only [List.length_drop, List.length_take]; rfl)) ?_; (with_reducible refine (fixed_Log2.calls kj16 x1_16 t207 t208 _ A20.out).mono ?_); rintro e w' ⟨rfl, ⟨nd, rfl⟩⟩; refine ⟨_, rfl, ?_⟩))
                      (try simp only [Act.put, List.setIfInBounds_toArray, List.set_cons_zero, List.set_cons_succ])
                      go_cut [75] (fun v75 wc => ∃ (kq : Nat) (x75_20 : Bool), v75 = .bool x75_20 ∧ Aside0 (heraldlaw02_FixedGrows.j3 kq x0_16 t205 x75_20 = some r) ∧ Aside0 (kq ≤ kj16) ∧ Aside0 (Below w.heap.size w wc))
                      case first =>
                        have H := HC21.out
                        clear HC21
                        by_cases c22 : t206 = 0
                        · rw [if_pos c22] at H
                          have c22b0 : (t206 == 0) = true := beq_iff_eq.mpr c22
                          have c22b1 : (t206 != 0) = false := bne_eq_false_iff_eq.mpr c22
                          clear c22
                          (first | rw [c22b0] | (simp only [i64_w, i32_w]; rw [c22b0]) | skip)
                          by_cases c23 : t208 = 0
                          · rw [if_pos c23] at H
                            have c23b0 : (t208 == 0) = true := beq_iff_eq.mpr c23
                            have c23b1 : (t208 != 0) = false := bne_eq_false_iff_eq.mpr c23
                            clear c23
                            by_cases c24 : t205 > t207
                            · rw [if_pos c24] at H
                              have c24b0 : decide (t207 < t205) = true := decide_eq_true c24
                              clear c24
                              have H' := Aside0.mk H
                              clear H
                              go_wp2
                              go_meet
                              case rel => exact ⟨_, (true), (by first | rfl | (simp; done) | (simp [*]; done)), H', ⟨by have := HJ9.out; have := HJ13.out; have := HJ16.out; first | omega | exact Nat.le_refl _⟩, ⟨by repeat (first | (with_reducible first | exact HB.out | apply below_alloc | apply pw_below_drewN | apply below_drew1) | exact HB.out)⟩⟩
                            · rw [if_neg c24] at H
                              have c24b0 : decide (t207 < t205) = false := decide_eq_false c24
                              clear c24
                              by_cases c25 : t205 < 0
                              · rw [if_pos c25] at H
                                have c25b0 : decide (t205 < 0) = true := decide_eq_true c25
                                clear c25
                                have H' := Aside0.mk H
                                clear H
                                go_wp2
                                go_meet
                                case rel => exact ⟨_, (true), (by first | rfl | (simp; done) | (simp [*]; done)), H', ⟨by have := HJ9.out; have := HJ13.out; have := HJ16.out; first | omega | exact Nat.le_refl _⟩, ⟨by repeat (first | (with_reducible first | exact HB.out | apply below_alloc | apply pw_below_drewN | apply below_drew1) | exact HB.out)⟩⟩
                              · rw [if_neg c25] at H
                                have c25b0 : decide (t205 < 0) = false := decide_eq_false c25
                                clear c25
                                have H' := Aside0.mk H
                                clear H
                                go_wp2
                                go_meet
                                case rel => exact ⟨_, (decide (t207 ≥ 4128768)), (by first | rfl | (simp; done) | (simp [*]; done)), H', ⟨by have := HJ9.out; have := HJ13.out; have := HJ16.out; first | omega | exact Nat.le_refl _⟩, ⟨by repeat (first | (with_reducible first | exact HB.out | apply below_alloc | apply pw_below_drewN | apply below_drew1) | exact HB.out)⟩⟩
                          · rw [if_neg c23] at H
                            have c23b0 : (t208 == 0) = false := beq_eq_false_iff_ne.mpr c23
                            have c23b1 : (t208 != 0) = true := bne_iff_ne.mpr c23
                            have H' := Aside0.mk H
                            clear H
                            go_wp2
                            go_meet
                            case rel => exact ⟨_, (true), (by first | rfl | (simp; done) | (simp [*]; done)), H', ⟨by have := HJ9.out; have := HJ13.out; have := HJ16.out; first | omega | exact Nat.le_refl _⟩, ⟨by repeat (first | (with_reducible first | exact HB.out | apply below_alloc | apply pw_below_drewN | apply below_drew1) | exact HB.out)⟩⟩
                        · rw [if_neg c22] at H
                          have c22b0 : (t206 == 0) = false := beq_eq_false_iff_ne.mpr c22
                          have c22b1 : (t206 != 0) = true := bne_iff_ne.mpr c22
                          (first | rw [c22b0] | (simp only [i64_w, i32_w]; rw [c22b0]) | skip)
                          have H' := Aside0.mk H
                          clear H
                          go_wp2
                          go_meet
                          case rel => exact ⟨_, (true), (by first | rfl | (simp; done) | (simp [*]; done)), H', ⟨by have := HJ9.out; have := HJ13.out; have := HJ16.out; first | omega | exact Nat.le_refl _⟩, ⟨by repeat (first | (with_reducible first | exact HB.out | apply below_alloc | apply pw_below_drewN | apply below_drew1) | exact HB.out)⟩⟩
                      case rest =>
                        clear HC21
                        try clear c1
                        try clear c2
                        try clear p2
                        try clear c3
                        try clear c5
                        try clear p6
                        try clear c7
                        try clear c7b0
                        try clear c7b1
                        try clear c11
                        try clear c12
                        try clear c12b0
                        try clear c12b1
                        try clear c13
                        try clear c15
                        try clear c15b0
                        try clear c16
                        try clear c18
                        try clear c18b0
                        try clear c22
                        try clear c22b0
                        try clear c22b1
                        try clear c23
                        try clear c23b0
                        try clear c23b1
                        try clear c24
                        try clear c24b0
                        try clear c25
                        try clear c25b0
                        try clear p2
                        try clear p6
                        obtain ⟨kq, x75_20, rfl, HA, HJ20, HB⟩ := hcut
                        cases kq with
                        | zero => exact absurd HA.out (by simp [heraldlaw02_FixedGrows.j3])
                        | succ kj20 =>
                          have H := HA.out
                          clear HA
                          simp only [heraldlaw02_FixedGrows.j3] at H
                          by_cases c26 : x75_20 = true
                          · subst c26
                            have H1 : (some false) = some r := by rw [if_pos rfl] at H; exact H
                            clear H
                            have H := H1
                            clear H1
                            obtain rfl := Option.some.inj H
                            go_wp2
                            go_ret
                            exact ⟨by first | rfl | (simp [errW_none, errW_some] <;> rfl) | (simp only [← hji6, ← hji8]; first | rfl | (simp [errW_none, errW_some] <;> rfl)) | (simp [*, errW_none, errW_some] <;> rfl), by repeat (first | (with_reducible first | exact HB.out | apply below_alloc | apply pw_below_drewN | apply below_drew1) | exact HB.out)⟩
                          · replace c26 := Bool.eq_false_iff.mpr c26
                            subst c26
                            have H1 : (if x0_16 > 4611686018427387903 then (some true) else ((fixed_Log2.f kj20 (wrap64 (2 * x0_16))).bind fun bt209 => (if bt209.1 = (wrap64 (t205 + 65536)) then (some (bt209.2 == 0)) else (some false)))) = some r := by rw [if_neg (show ¬ (false = true) by decide)] at H; exact H
                            clear H
                            have H := H1
                            clear H1
                            by_cases c27 : x0_16 > 4611686018427387903
                            · rw [if_pos c27] at H
                              have c27b0 : decide (4611686018427387903 < x0_16) = true := decide_eq_true c27
                              clear c27
                              obtain rfl := Option.some.inj H
                              go_wp2
                              go_ret
                              exact ⟨by first | rfl | (simp [errW_none, errW_some] <;> rfl) | (simp only [← hji6, ← hji8]; first | rfl | (simp [errW_none, errW_some] <;> rfl)) | (simp [*, errW_none, errW_some] <;> rfl), by repeat (first | (with_reducible first | exact HB.out | apply below_alloc | apply pw_below_drewN | apply below_drew1) | exact HB.out)⟩
                            · rw [if_neg c27] at H
                              have c27b0 : decide (4611686018427387903 < x0_16) = false := decide_eq_false c27
                              clear c27
                              replace H := Option.bind_eq_some_iff.mp H
                              obtain ⟨⟨t209, t210⟩, A280, H⟩ := H
                              replace H : (if t209 = (wrap64 (t205 + 65536)) then (some (t210 == 0)) else (some false)) = some r := H
                              have A28 := Aside0.mk A280
                              clear A280
                              by_cases c29 : t209 = (wrap64 (t205 + 65536))
                              · rw [if_pos c29] at H
                                have c29b0 : (t209 == (wrap64 (t205 + 65536))) = true := beq_iff_eq.mpr c29
                                have c29b1 : (t209 != (wrap64 (t205 + 65536))) = false := bne_eq_false_iff_eq.mpr c29
                                clear c29
                                obtain rfl := Option.some.inj H
                                go_wp2_with (first | ((with_reducible refine gate_callee (f := 32) rfl ?_); refine goesL_ (some 81) rfl rfl Try.func32 (by kernel_rfl) rfl #[.int .i64 (wrap64 (2 * x0_16))] rfl (by (try simp only [List.map_toArray, List.map_cons, List.map_nil]); first | done | rfl | (simp only [List.length_drop, List.length_take]; rfl)) ?_; (with_reducible refine (fixed_Log2.calls kj20 (wrap64 (2 * x0_16)) t209 t210 _ A28.out).mono ?_); rintro e w' ⟨rfl, ⟨nd, rfl⟩⟩; refine ⟨_, rfl, ?_⟩))
                                go_ret
                                exact ⟨by first | rfl | (simp [errW_none, errW_some] <;> rfl) | (simp only [← hji6, ← hji8]; first | rfl | (simp [errW_none, errW_some] <;> rfl)) | (simp [*, errW_none, errW_some] <;> rfl), by repeat (first | (with_reducible first | exact HB.out | apply below_alloc | apply pw_below_drewN | apply below_drew1) | exact HB.out)⟩
                              · rw [if_neg c29] at H
                                have c29b0 : (t209 == (wrap64 (t205 + 65536))) = false := beq_eq_false_iff_ne.mpr c29
                                have c29b1 : (t209 != (wrap64 (t205 + 65536))) = true := bne_iff_ne.mpr c29
                                obtain rfl := Option.some.inj H
                                go_wp2_with (first | ((with_reducible refine gate_callee (f := 32) rfl ?_); refine goesL_ (some 81) rfl rfl Try.func32 (by kernel_rfl) rfl #[.int .i64 (wrap64 (2 * x0_16))] rfl (by (try simp only [List.map_toArray, List.map_cons, List.map_nil]); first | done | rfl | (simp only [List.length_drop, List.length_take]; rfl)) ?_; (with_reducible refine (fixed_Log2.calls kj20 (wrap64 (2 * x0_16)) t209 t210 _ A28.out).mono ?_); rintro e w' ⟨rfl, ⟨nd, rfl⟩⟩; refine ⟨_, rfl, ?_⟩))
                                go_ret
                                exact ⟨by first | rfl | (simp [errW_none, errW_some] <;> rfl) | (simp only [← hji6, ← hji8]; first | rfl | (simp [errW_none, errW_some] <;> rfl)) | (simp [*, errW_none, errW_some] <;> rfl), by repeat (first | (with_reducible first | exact HB.out | apply below_alloc | apply pw_below_drewN | apply below_drew1) | exact HB.out)⟩
    · rw [if_neg c7] at H
      exact absurd H (by simp)
  · replace c5 := Bool.eq_false_iff.mpr c5
    subst c5
    have H1 : (some false) = some r := by rw [if_neg (show ¬ (false = true) by decide)] at H; exact H
    clear H
    have H := H1
    clear H1
    obtain rfl := Option.some.inj H
    go_enter Try.func11, Try.ntmps11
    go_wp2_with (first | ((with_reducible refine gate_callee (f := 15) rfl ?_); refine goesL_ (some 13) rfl rfl Try.func15 (by kernel_rfl) rfl #[] rfl (by (try simp only [List.map_toArray, List.map_cons, List.map_nil]); first | done | rfl | (simp only [List.length_drop, List.length_take]; rfl)) ?_; (with_reducible refine (heraldlaw02_awake.calls k  false _ A4.out).mono ?_); rintro e w30 ⟨rfl, hb⟩; refine ⟨_, rfl, ?_⟩; have n0_ := Aside0.mk (below_step (by repeat (first | (with_reducible first | exact HB.out | apply below_alloc | apply pw_below_drewN | apply below_drew1) | exact HB.out)) hb); clear HB; have HB := n0_; clear n0_; (try clear hb); (try clear hb2); (try clear hk); (try clear hi)))
    go_ret
    exact ⟨by first | rfl | (simp [errW_none, errW_some] <;> rfl) | (simp [*, errW_none, errW_some] <;> rfl), by repeat (first | (with_reducible first | exact HB.out | apply below_alloc | apply pw_below_drewN | apply below_drew1) | exact HB.out)⟩

/-- THE ONE PURE STATEMENT of heraldlaw02_FixedGrows: yours. -/
def heraldlaw02_FixedGrows.Pure : Prop := ∀ (a0 : Int) (a1 : Int) (a2 : Int), (Lit.int .i64 a0).wf = true → (Lit.int .i64 a1).wf = true → (Lit.int .i64 a2).wf = true → ∃ k, heraldlaw02_FixedGrows.f k a0 a1 a2 = some true
theorem heraldlaw02_FixedGrows.walk (P : heraldlaw02_FixedGrows.Pure) (a0 : Int) (a1 : Int) (a2 : Int) (w : World) (w0 : (Lit.int .i64 a0).wf = true) (w1 : (Lit.int .i64 a1).wf = true) (w2 : (Lit.int .i64 a2).wf = true) :
    Calls Try.prog 11 #[.int .i64 a0, .int .i64 a1, .int .i64 a2] w fun e w' => e = .returned (.bool true) ∧ Below w.heap.size w w' := by
  obtain ⟨k, h⟩ := P a0 a1 a2 w0 w1 w2
  refine (heraldlaw02_FixedGrows.calls k a0 a1 a2 true w h).mono ?_
  rintro e w' ⟨rfl, hd⟩
  exact ⟨rfl, hd⟩

end Go.Proofs.Ytbldlfmblalchaa.P
