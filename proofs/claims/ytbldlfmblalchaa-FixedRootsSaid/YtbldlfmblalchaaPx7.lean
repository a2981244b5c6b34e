-- Printed by xprint.py (wip): functions, contracts, rows. Lean checks it.
import Derived.Test.YtbldlfmblalchaaPx0
import Derived.Test.YtbldlfmblalchaaPx1
import Derived.Test.YtbldlfmblalchaaPx2
namespace Go.Proofs.Ytbldlfmblalchaa.P
open Go.RowKit Go.Proofs.YtbldlfmblalchaaW.PrintWords Go.Proofs.YtbldlfmblalchaaW.PrintLast Go.Proofs.YtbldlfmblalchaaW.PrintMore
attribute [local go_sem] max2_int min2_int max_two min_two max_three min_three max_four min_four   -- for this text's walks alone
set_option linter.unusedVariables false
set_option linter.unusedSimpArgs false

/-! ### heraldlaw02_FixedRoots: function 4 -/
def heraldlaw02_FixedRoots.j0 : Nat → Int → Bool → Option (Bool)
  | 0, _, _ => none
  | k + 1, x0, x27 => if x27 = true then (some false) else (if (Int.tmod x0 3037000500) < 0 then ((fixed_Sqrt.f k (wrap64 ((wrap64 (-(Int.tmod x0 3037000500))) * (wrap64 (-(Int.tmod x0 3037000500)))))).bind fun bt142 => (if bt142.1 = (wrap64 (-(Int.tmod x0 3037000500))) then (some (bt142.2 == 0)) else (some false))) else ((fixed_Sqrt.f k (wrap64 ((Int.tmod x0 3037000500) * (Int.tmod x0 3037000500)))).bind fun bt144 => (if bt144.1 = (Int.tmod x0 3037000500) then (some (bt144.2 == 0)) else (some false))))
def heraldlaw02_FixedRoots.f (k : Nat) (a0 : Int) : Option (Bool) := (heraldlaw02_awake.f k).bind fun t137 => (if t137 = true then ((fixed_Sqrt.f k a0).bind fun bt138 => ((heraldref02_Sqrt.f k a0).bind fun bt140 => (if bt138.1 = bt140.1 then (heraldlaw02_FixedRoots.j0 k a0 (bt138.2 != bt140.2)) else (heraldlaw02_FixedRoots.j0 k a0 true)))) else (some false))
theorem heraldlaw02_FixedRoots.mono_l : ∀ k, (∀ y0 y1, LeO (heraldlaw02_FixedRoots.j0 k y0 y1) (heraldlaw02_FixedRoots.j0 (k + 1) y0 y1))
  | 0 => fun _ _ r h => by simp [heraldlaw02_FixedRoots.j0] at h
  | k + 1 => by
    have ih0 := heraldlaw02_FixedRoots.mono_l k
    · intro y0 y1
      unfold heraldlaw02_FixedRoots.j0
      repeat' first
      | (with_reducible exact ih0 _ _)
      | (with_reducible exact fixed_Sqrt.mono _ _)
      | (with_reducible exact heraldlaw02_awake.mono _)
      | (with_reducible exact heraldref02_Sqrt.mono _ _)
      | (with_reducible exact LeO.refl _)
      | (with_reducible exact LeO.none _)
      | (with_reducible refine LeO.ite ?_ ?_)
      | (with_reducible refine LeO.bind ?_ (fun _ => ?_))
      | exact ih0 _ _
      | exact fixed_Sqrt.mono _ _
      | exact heraldlaw02_awake.mono _
      | exact heraldref02_Sqrt.mono _ _
      | exact LeO.none _
      | refine LeO.ite ?_ ?_
      | refine LeO.bind ?_ (fun _ => ?_)
theorem heraldlaw02_FixedRoots.mono : ∀ a0 k, LeO (heraldlaw02_FixedRoots.f k a0) (heraldlaw02_FixedRoots.f (k + 1) a0) := by
  intro a0 k
  have ih0 := heraldlaw02_FixedRoots.mono_l k
  unfold heraldlaw02_FixedRoots.f
  repeat' first
      | (with_reducible exact ih0 _ _)
      | (with_reducible exact fixed_Sqrt.mono _ _)
      | (with_reducible exact heraldlaw02_awake.mono _)
      | (with_reducible exact heraldref02_Sqrt.mono _ _)
      | (with_reducible exact LeO.refl _)
      | (with_reducible exact LeO.none _)
      | (with_reducible refine LeO.ite ?_ ?_)
      | (with_reducible refine LeO.bind ?_ (fun _ => ?_))
      | exact ih0 _ _
      | exact fixed_Sqrt.mono _ _
      | exact heraldlaw02_awake.mono _
      | exact heraldref02_Sqrt.mono _ _
      | exact LeO.none _
      | refine LeO.ite ?_ ?_
      | refine LeO.bind ?_ (fun _ => ?_)
set_option maxHeartbeats 8000000 in
set_option maxRecDepth 100000 in
theorem heraldlaw02_FixedRoots.calls (k : Nat) (a0 : Int) (r : Bool) (w : World) (h : heraldlaw02_FixedRoots.f k a0 = some r) :
    Calls Try.prog 4 #[.int .i64 a0] w fun e w' => e = .returned (.bool r) ∧ Below w.heap.size w w' := by
  have HB := Aside0.mk (Below.refl w.heap.size w)
  have H : ((heraldlaw02_awake.f k).bind fun t137 => (if t137 = true then ((fixed_Sqrt.f k a0).bind fun bt138 => ((heraldref02_Sqrt.f k a0).bind fun bt140 => (if bt138.1 = bt140.1 then (heraldlaw02_FixedRoots.j0 k a0 (bt138.2 != bt140.2)) else (heraldlaw02_FixedRoots.j0 k a0 true)))) else (some false))) = some r := h
  clear h
  replace H := Option.bind_eq_some_iff.mp H
  obtain ⟨t137, A20, H⟩ := H
  replace H : (if t137 = true then ((fixed_Sqrt.f k a0).bind fun bt138 => ((heraldref02_Sqrt.f k a0).bind fun bt140 => (if bt138.1 = bt140.1 then (heraldlaw02_FixedRoots.j0 k a0 (bt138.2 != bt140.2)) else (heraldlaw02_FixedRoots.j0 k a0 true)))) else (some false)) = some r := H
  have A2 := Aside0.mk A20
  clear A20
  by_cases c3 : t137 = true
  · subst c3
    have H1 : ((fixed_Sqrt.f k a0).bind fun bt138 => ((heraldref02_Sqrt.f k a0).bind fun bt140 => (if bt138.1 = bt140.1 then (heraldlaw02_FixedRoots.j0 k a0 (bt138.2 != bt140.2)) else (heraldlaw02_FixedRoots.j0 k a0 true)))) = some r := by rw [if_pos rfl] at H; exact H
    clear H
    have H := H1
    clear H1
    replace H := Option.bind_eq_some_iff.mp H
    obtain ⟨⟨t138, t139⟩, A40, H⟩ := H
    replace H : ((heraldref02_Sqrt.f k a0).bind fun bt140 => (if t138 = bt140.1 then (heraldlaw02_FixedRoots.j0 k a0 (t139 != bt140.2)) else (heraldlaw02_FixedRoots.j0 k a0 true))) = some r := H
    have A4 := Aside0.mk A40
    clear A40
    replace H := Option.bind_eq_some_iff.mp H
    obtain ⟨⟨t140, t141⟩, A50, H⟩ := H
    replace H : (if t138 = t140 then (heraldlaw02_FixedRoots.j0 k a0 (t139 != t141)) else (heraldlaw02_FixedRoots.j0 k a0 true)) = some r := H
    have A5 := Aside0.mk A50
    clear A50
    have HC6 := Aside0.mk H
    clear H
    go_enter Try.func4, Try.ntmps4
    go_upto_region 5 with (first | ((with_reducible refine gate_callee (f := 15) rfl ?_); refine goesL_ (some 8) rfl rfl Try.func15 (by kernel_rfl) rfl #[] rfl (by (try simp only [List.map_toArray, List.map_cons, List.map_nil]); first | done | rfl | (simp only [List.length_drop, List.length_take]; rfl)) ?_; (with_reducible refine (heraldlaw02_awake.calls k  true _ A2.out).mono ?_); rintro e w7 ⟨rfl, hb⟩; refine ⟨_, rfl, ?_⟩; have n0_ := Aside0.mk (below_step (by repeat (first | (with_reducible first | exact HB.out | apply below_alloc | apply pw_below_drewN | apply below_drew1) | exact HB.out)) hb); clear HB; have HB := n0_; clear n0_; (try clear hb); (try clear hb2); (try clear hk); (try clear hi)) | ((with_reducible refine gate_callee (f := 22) rfl ?_); refine goesL_ (some 12) rfl rfl Try.func22 (by kernel_rfl) rfl #[.int .i64 a0] rfl (by (try simp only [List.map_toArray, List.map_cons, List.map_nil]); first | done | rfl | (simp only [List.length_drop, List.length_take]; rfl)) ?_; (with_reducible refine (fixed_Sqrt.calls k a0 t138 t139 _ A4.out).mono ?_); rintro e w' ⟨rfl, ⟨nd, rfl⟩⟩; refine ⟨_, rfl, ?_⟩) | ((with_reducible refine gate_callee (f := 23) rfl ?_); refine goesL_ (some 17) rfl rfl Try.func23 (by kernel_rfl) rfl #[.int .i64 a0] rfl (by (try simp only [List.map_toArray, List.map_cons, List.map_nil]); first | done | rfl | (simp only [List.length_drop, List.length_take]; rfl)) ?_; (with_reducible refine (heraldref02_Sqrt.calls k a0 t140 t141 _ A5.out).mono ?_); rintro e w' ⟨rfl, ⟨nd, rfl⟩⟩; refine ⟨_, rfl, ?_⟩))
    (try simp only [Act.put, List.setIfInBounds_toArray, List.set_cons_zero, List.set_cons_succ])
    go_cut [27] (fun v27 wc => ∃ (kq : Nat) (x27_5 : Bool), v27 = .bool x27_5 ∧ Aside0 (heraldlaw02_FixedRoots.j0 kq a0 x27_5 = some r) ∧ Aside0 (kq ≤ k) ∧ Aside0 (Below w.heap.size w wc))
    case first =>
      have H := HC6.out
      clear HC6
      by_cases c8 : t138 = t140
      · rw [if_pos c8] at H
        have c8b0 : (t138 == t140) = true := beq_iff_eq.mpr c8
        have c8b1 : (t138 != t140) = false := bne_eq_false_iff_eq.mpr c8
        clear c8
        (first | rw [c8b0] | (simp only [i64_w, i32_w]; rw [c8b0]) | skip)
        have H' := Aside0.mk H
        clear H
        go_wp2
        go_meet
        case rel => exact ⟨_, ((t139 != t141)), (by first | rfl | (simp; done) | (simp [*]; done)), H', ⟨by first | omega | exact Nat.le_refl _⟩, ⟨by repeat (first | (with_reducible first | exact HB.out | apply below_alloc | apply pw_below_drewN | apply below_drew1) | exact HB.out)⟩⟩
      · rw [if_neg c8] at H
        have c8b0 : (t138 == t140) = false := beq_eq_false_iff_ne.mpr c8
        have c8b1 : (t138 != t140) = true := bne_iff_ne.mpr c8
        (first | rw [c8b0] | (simp only [i64_w, i32_w]; rw [c8b0]) | skip)
        have H' := Aside0.mk H
        clear H
        go_wp2
        go_meet
        case rel => exact ⟨_, (true), (by first | rfl | (simp; done) | (simp [*]; done)), H', ⟨by first | omega | exact Nat.le_refl _⟩, ⟨by repeat (first | (with_reducible first | exact HB.out | apply below_alloc | apply pw_below_drewN | apply below_drew1) | exact HB.out)⟩⟩
    case rest =>
      clear HC6
      try clear c1
      try clear c2
      try clear p2
      try clear c3
      try clear c4
      try clear c8
      try clear c8b0
      try clear c8b1
      obtain ⟨kq, x27_5, rfl, HA, HJ5, HB⟩ := hcut
      cases kq with
      | zero => exact absurd HA.out (by simp [heraldlaw02_FixedRoots.j0])
      | succ kj5 =>
        have H := HA.out
        clear HA
        simp only [heraldlaw02_FixedRoots.j0] at H
        by_cases c9 : x27_5 = true
        · subst c9
          have H1 : (some false) = some r := by rw [if_pos rfl] at H; exact H
          clear H
          have H := H1
          clear H1
          obtain rfl := Option.some.inj H
          go_wp2
          go_ret
          exact ⟨by first | rfl | (simp [errW_none, errW_some] <;> rfl) | (simp [*, errW_none, errW_some] <;> rfl), by repeat (first | (with_reducible first | exact HB.out | apply below_alloc | apply pw_below_drewN | apply below_drew1) | exact HB.out)⟩
        · replace c9 := Bool.eq_false_iff.mpr c9
          subst c9
          have H1 : (if (Int.tmod a0 3037000500) < 0 then ((fixed_Sqrt.f kj5 (wrap64 ((wrap64 (-(Int.tmod a0 3037000500))) * (wrap64 (-(Int.tmod a0 3037000500)))))).bind fun bt142 => (if bt142.1 = (wrap64 (-(Int.tmod a0 3037000500))) then (some (bt142.2 == 0)) else (some false))) else ((fixed_Sqrt.f kj5 (wrap64 ((Int.tmod a0 3037000500) * (Int.tmod a0 3037000500)))).bind fun bt144 => (if bt144.1 = (Int.tmod a0 3037000500) then (some (bt144.2 == 0)) else (some false)))) = some r := by rw [if_neg (show ¬ (false = true) by decide)] at H; exact H
          clear H
          have H := H1
          clear H1
          by_cases c10 : (Int.tmod a0 3037000500) < 0
          · rw [if_pos c10] at H
            have c10b0 : decide ((Int.tmod a0 3037000500) < 0) = true := decide_eq_true c10
            clear c10
            replace H := Option.bind_eq_some_iff.mp H
            obtain ⟨⟨t142, t143⟩, A110, H⟩ := H
            replace H : (if t142 = (wrap64 (-(Int.tmod a0 3037000500))) then (some (t143 == 0)) else (some false)) = some r := H
            have A11 := Aside0.mk A110
            clear A110
            by_cases c12 : t142 = (wrap64 (-(Int.tmod a0 3037000500)))
            · rw [if_pos c12] at H
              have c12b0 : (t142 == (wrap64 (-(Int.tmod a0 3037000500)))) = true := beq_iff_eq.mpr c12
              have c12b1 : (t142 != (wrap64 (-(Int.tmod a0 3037000500)))) = false := bne_eq_false_iff_eq.mpr c12
              clear c12
              obtain rfl := Option.some.inj H
              go_wp2_with (first | ((with_reducible refine gate_callee (f := 22) rfl ?_); refine goesL_ (some 38) rfl rfl Try.func22 (by kernel_rfl) rfl #[.int .i64 (wrap64 ((wrap64 (-(Int.tmod a0 3037000500))) * (wrap64 (-(Int.tmod a0 3037000500)))))] rfl (by (try simp only [List.map_toArray, List.map_cons, List.map_nil]); first | done | rfl | (simp only [List.length_drop, List.length_take]; rfl)) ?_; (with_reducible refine (fixed_Sqrt.calls kj5 (wrap64 ((wrap64 (-(Int.tmod a0 3037000500))) * (wrap64 (-(Int.tmod a0 3037000500))))) t142 t143 _ A11.out).mono ?_); rintro e w' ⟨rfl, ⟨nd, rfl⟩⟩; refine ⟨_, rfl, ?_⟩))
              go_ret
              exact ⟨by first | rfl | (simp [errW_none, errW_some] <;> rfl) | (simp [*, errW_none, errW_some] <;> rfl), by repeat (first | (with_reducible first | exact HB.out | apply below_alloc | apply pw_below_drewN | apply below_drew1) | exact HB.out)⟩
            · rw [if_neg c12] at H
              have c12b0 : (t142 == (wrap64 (-(Int.tmod a0 3037000500)))) = false := beq_eq_false_iff_ne.mpr c12
              have c12b1 : (t142 != (wrap64 (-(Int.tmod a0 3037000500)))) = true := bne_iff_ne.mpr c12
              obtain rfl := Option.some.inj H
              go_wp2_with (first | ((with_reducible refine gate_callee (f := 22) rfl ?_); refine goesL_ (some 38) rfl rfl Try.func22 (by kernel_rfl) rfl #[.int .i64 (wrap64 ((wrap64 (-(Int.tmod a0 3037000500))) * (wrap64 (-(Int.tmod a0 3037000500)))))] rfl (by (try simp only [List.map_toArray, List.map_cons, List.map_nil]); first | done | rfl | (simp only [List.length_drop, List.length_take]; rfl)) ?_; (with_reducible refine (fixed_Sqrt.calls kj5 (wrap64 ((wrap64 (-(Int.tmod a0 3037000500))) * (wrap64 (-(Int.tmod a0 3037000500))))) t142 t143 _ A11.out).mono ?_); rintro e w' ⟨rfl, ⟨nd, rfl⟩⟩; refine ⟨_, rfl, ?_⟩))
              go_ret
              exact ⟨by first | rfl | (simp [errW_none, errW_some] <;> rfl) | (simp [*, errW_none, errW_some] <;> rfl), by repeat (first | (with_reducible first | exact HB.out | apply below_alloc | apply pw_below_drewN | apply below_drew1) | exact HB.out)⟩
          · rw [if_neg c10] at H
            have c10b0 : decide ((Int.tmod a0 3037000500) < 0) = false := decide_eq_false c10
            clear c10
            replace H := Option.bind_eq_some_iff.mp H
            obtain ⟨⟨t144, t145⟩, A130, H⟩ := H
            replace H : (if t144 = (Int.tmod a0 3037000500) then (some (t145 == 0)) else (some false)) = some r := H
            have A13 := Aside0.mk A130
            clear A130
            by_cases c14 : t144 = (Int.tmod a0 3037000500)
            · rw [if_pos c14] at H
              have c14b0 : (t144 == (Int.tmod a0 3037000500)) = true := beq_iff_eq.mpr c14
              have c14b1 : (t144 != (Int.tmod a0 3037000500)) = false := bne_eq_false_iff_eq.mpr c14
              clear c14
              obtain rfl := Option.some.inj H
              go_wp2_with (first | ((with_reducible refine gate_callee (f := 22) rfl ?_); refine goesL_ (some 38) rfl rfl Try.func22 (by kernel_rfl) rfl #[.int .i64 (wrap64 ((Int.tmod a0 3037000500) * (Int.tmod a0 3037000500)))] rfl (by (try simp only [List.map_toArray, List.map_cons, List.map_nil]); first | done | rfl | (simp only [List.length_drop, List.length_take]; rfl)) ?_; (with_reducible refine (fixed_Sqrt.calls kj5 (wrap64 ((Int.tmod a0 3037000500) * (Int.tmod a0 3037000500))) t144 t145 _ A13.out).mono ?_); rintro e w' ⟨rfl, ⟨nd, rfl⟩⟩; refine ⟨_, rfl, ?_⟩))
              go_ret
              exact ⟨by first | rfl | (simp [errW_none, errW_some] <;> rfl) | (simp [*, errW_none, errW_some] <;> rfl), by repeat (first | (with_reducible first | exact HB.out | apply below_alloc | apply pw_below_drewN | apply below_drew1) | exact HB.out)⟩
            · rw [if_neg c14] at H
              have c14b0 : (t144 == (Int.tmod a0 3037000500)) = false := beq_eq_false_iff_ne.mpr c14
              have c14b1 : (t144 != (Int.tmod a0 3037000500)) = true := bne_iff_ne.mpr c14
              obtain rfl := Option.some.inj H
              go_wp2_with (first | ((with_reducible refine gate_callee (f := 22) rfl ?_); refine goesL_ (some 38) rfl rfl Try.func22 (by kernel_rfl) rfl #[.int .i64 (wrap64 ((Int.tmod a0 3037000500) * (Int.tmod a0 3037000500)))] rfl (by (try simp only [List.map_toArray, List.map_cons, List.map_nil]); first | done | rfl | (simp only [List.length_drop, List.length_take]; rfl)) ?_; (with_reducible refine (fixed_Sqrt.calls kj5 (wrap64 ((Int.tmod a0 3037000500) * (Int.tmod a0 3037000500))) t144 t145 _ A13.out).mono ?_); rintro e w' ⟨rfl, ⟨nd, rfl⟩⟩; refine ⟨_, rfl, ?_⟩))
              go_ret
              exact ⟨by first | rfl | (simp [errW_none, errW_some] <;> rfl) | (simp [*, errW_none, errW_some] <;> rfl), by repeat (first | (with_reducible first | exact HB.out | apply below_alloc | apply pw_below_drewN | apply below_drew1) | exact HB.out)⟩
  · replace c3 := Bool.eq_false_iff.mpr c3
    subst c3
    have H1 : (some false) = some r := by rw [if_neg (show ¬ (false = true) by decide)] at H; exact H
    clear H
    have H := H1
    clear H1
    obtain rfl := Option.some.inj H
    go_enter Try.func4, Try.ntmps4
    go_wp2_with (first | ((with_reducible refine gate_callee (f := 15) rfl ?_); refine goesL_ (some 8) rfl rfl Try.func15 (by kernel_rfl) rfl #[] rfl (by (try simp only [List.map_toArray, List.map_cons, List.map_nil]); first | done | rfl | (simp only [List.length_drop, List.length_take]; rfl)) ?_; (with_reducible refine (heraldlaw02_awake.calls k  false _ A2.out).mono ?_); rintro e w15 ⟨rfl, hb⟩; refine ⟨_, rfl, ?_⟩; have n0_ := Aside0.mk (below_step (by repeat (first | (with_reducible first | exact HB.out | apply below_alloc | apply pw_below_drewN | apply below_drew1) | exact HB.out)) hb); clear HB; have HB := n0_; clear n0_; (try clear hb); (try clear hb2); (try clear hk); (try clear hi)))
    go_ret
    exact ⟨by first | rfl | (simp [errW_none, errW_some] <;> rfl) | (simp [*, errW_none, errW_some] <;> rfl), by repeat (first | (with_reducible first | exact HB.out | apply below_alloc | apply pw_below_drewN | apply below_drew1) | exact HB.out)⟩

/-- THE ONE PURE STATEMENT of heraldlaw02_FixedRoots: yours. -/
def heraldlaw02_FixedRoots.Pure : Prop := ∀ (a0 : Int), (Lit.int .i64 a0).wf = true → ∃ k, heraldlaw02_FixedRoots.f k a0 = some true
theorem heraldlaw02_FixedRoots.walk (P : heraldlaw02_FixedRoots.Pure) (a0 : Int) (w : World) (w0 : (Lit.int .i64 a0).wf = true) :
    Calls Try.prog 4 #[.int .i64 a0] w fun e w' => e = .returned (.bool true) ∧ Below w.heap.size w w' := by
  obtain ⟨k, h⟩ := P a0 w0
  refine (heraldlaw02_FixedRoots.calls k a0 true w h).mono ?_
  rintro e w' ⟨rfl, hd⟩
  exact ⟨rfl, hd⟩

end Go.Proofs.Ytbldlfmblalchaa.P
