-- Printed by xprint.py (wip): functions, contracts, rows. Lean checks it.
import Derived.Test.YtbldlfmblalchaaPx0
import Derived.Test.YtbldlfmblalchaaPx1
namespace Go.Proofs.Ytbldlfmblalchaa.P
open Go.RowKit Go.Proofs.YtbldlfmblalchaaW.PrintWords Go.Proofs.YtbldlfmblalchaaW.PrintLast Go.Proofs.YtbldlfmblalchaaW.PrintMore
attribute [local go_sem] max2_int min2_int max_two min_two max_three min_three max_four min_four   -- for this text's walks alone
set_option linter.unusedVariables false
set_option linter.unusedSimpArgs false

/-! ### heraldlaw02_FixedNearest: function 7 -/
mutual
def heraldlaw02_FixedNearest.j0 : Nat → Int → Int → Int → Int → Int → Int → Bool → Option (Bool)
  | 0, _, _, _, _, _, _, _ => none
  | k + 1, x0, x1, x2, x7, x9, x10, x70 => if x70 = true then (some false) else (if x7 = x9 then (if x10 > (wrap64 (x1 - x10)) then (heraldlaw02_FixedNearest.j1 k x0 x1 x2 x7 true) else (if x10 = (wrap64 (x1 - x10)) then (if (Int.tmod x7 2) = 0 then (heraldlaw02_FixedNearest.j1 k x0 x1 x2 x7 false) else (heraldlaw02_FixedNearest.j1 k x0 x1 x2 x7 true)) else (heraldlaw02_FixedNearest.j1 k x0 x1 x2 x7 false))) else (if x10 < (wrap64 (x1 - x10)) then (heraldlaw02_FixedNearest.j3 k x0 x1 x2 x7 true) else (if x10 = (wrap64 (x1 - x10)) then (if (Int.tmod x7 2) = 0 then (heraldlaw02_FixedNearest.j3 k x0 x1 x2 x7 false) else (heraldlaw02_FixedNearest.j3 k x0 x1 x2 x7 true)) else (heraldlaw02_FixedNearest.j3 k x0 x1 x2 x7 false))))
def heraldlaw02_FixedNearest.j1 : Nat → Int → Int → Int → Int → Bool → Option (Bool)
  | 0, _, _, _, _, _ => none
  | k + 1, x0, x1, x2, x7, x104 => if x104 = true then (some false) else (if x0 > (-9223372036854775808) then ((fixed_Near.f (wrap64 (-x0)) x1).bind fun bt164 => (if bt164.1 = (wrap64 (-x7)) then (if bt164.2 = 0 then (heraldlaw02_FixedNearest.j2 k x0 x2) else (some false)) else (some false))) else (heraldlaw02_FixedNearest.j2 k x0 x2))
def heraldlaw02_FixedNearest.j2 : Nat → Int → Int → Option (Bool)
  | 0, _, _ => none
  | k + 1, x0, x2 => (fixed_Round.f x0 x2).bind fun bt166 => (if x2 < 0 then (if bt166.1 = 0 then (some (bt166.2 == 20)) else (some false)) else (if x2 > 62 then (if bt166.1 = 0 then (some (bt166.2 == 20)) else (some false)) else (if 0 ≤ (IntKind.u64.wrap (x2)) then ((fixed_Near.f x0 (shl .i64 1 (IntKind.u64.wrap (x2)))).bind fun bt168 => (if bt166.1 = bt168.1 then (if bt166.2 = 0 then (some (bt168.2 == 0)) else (some false)) else (some false))) else (none))))
def heraldlaw02_FixedNearest.j3 : Nat → Int → Int → Int → Int → Bool → Option (Bool)
  | 0, _, _, _, _, _ => none
  | k + 1, x0, x1, x2, x7, x104 => if x104 = true then (some false) else (if x0 > (-9223372036854775808) then ((fixed_Near.f (wrap64 (-x0)) x1).bind fun bt170 => (if bt170.1 = (wrap64 (-x7)) then (if bt170.2 = 0 then (heraldlaw02_FixedNearest.j4 k x0 x2) else (some false)) else (some false))) else (heraldlaw02_FixedNearest.j4 k x0 x2))
def heraldlaw02_FixedNearest.j4 : Nat → Int → Int → Option (Bool)
  | 0, _, _ => none
  | k + 1, x0, x2 => (fixed_Round.f x0 x2).bind fun bt172 => (if x2 < 0 then (if bt172.1 = 0 then (some (bt172.2 == 20)) else (some false)) else (if x2 > 62 then (if bt172.1 = 0 then (some (bt172.2 == 20)) else (some false)) else (if 0 ≤ (IntKind.u64.wrap (x2)) then ((fixed_Near.f x0 (shl .i64 1 (IntKind.u64.wrap (x2)))).bind fun bt174 => (if bt172.1 = bt174.1 then (if bt172.2 = 0 then (some (bt174.2 == 0)) else (some false)) else (some false))) else (none))))
end
def heraldlaw02_FixedNearest.f (k : Nat) (a0 : Int) (a1 : Int) (a2 : Int) : Option (Bool) := (heraldlaw02_awake.f k).bind fun t158 => (if t158 = true then ((fixed_Near.f a0 a1).bind fun bt159 => (if a1 < 1 then (if bt159.1 = 0 then (some (bt159.2 == 21)) else (some false)) else ((fixed_Floor.f a0 a1).bind fun bt161 => (if bt159.2 = 0 then (if bt161.2.2 = 0 then (if bt161.2.1 < 0 then (heraldlaw02_FixedNearest.j0 k a0 a1 a2 bt159.1 bt161.1 bt161.2.1 true) else (if bt161.2.1 ≥ a1 then (heraldlaw02_FixedNearest.j0 k a0 a1 a2 bt159.1 bt161.1 bt161.2.1 true) else (if bt161.1 > bt159.1 then (heraldlaw02_FixedNearest.j0 k a0 a1 a2 bt159.1 bt161.1 bt161.2.1 true) else (if bt159.1 > (wrap64 (bt161.1 + 1)) then (if bt159.1 = bt161.1 then (heraldlaw02_FixedNearest.j0 k a0 a1 a2 bt159.1 bt161.1 bt161.2.1 false) else (heraldlaw02_FixedNearest.j0 k a0 a1 a2 bt159.1 bt161.1 bt161.2.1 true)) else (heraldlaw02_FixedNearest.j0 k a0 a1 a2 bt159.1 bt161.1 bt161.2.1 false))))) else (heraldlaw02_FixedNearest.j0 k a0 a1 a2 bt159.1 bt161.1 bt161.2.1 true)) else (heraldlaw02_FixedNearest.j0 k a0 a1 a2 bt159.1 bt161.1 bt161.2.1 true))))) else (some false))
theorem heraldlaw02_FixedNearest.mono_l : ∀ k, (∀ y0 y1 y2 y3 y4 y5 y6, LeO (heraldlaw02_FixedNearest.j0 k y0 y1 y2 y3 y4 y5 y6) (heraldlaw02_FixedNearest.j0 (k + 1) y0 y1 y2 y3 y4 y5 y6)) ∧ (∀ y0 y1 y2 y3 y4, LeO (heraldlaw02_FixedNearest.j1 k y0 y1 y2 y3 y4) (heraldlaw02_FixedNearest.j1 (k + 1) y0 y1 y2 y3 y4)) ∧ (∀ y0 y1, LeO (heraldlaw02_FixedNearest.j2 k y0 y1) (heraldlaw02_FixedNearest.j2 (k + 1) y0 y1)) ∧ (∀ y0 y1 y2 y3 y4, LeO (heraldlaw02_FixedNearest.j3 k y0 y1 y2 y3 y4) (heraldlaw02_FixedNearest.j3 (k + 1) y0 y1 y2 y3 y4)) ∧ (∀ y0 y1, LeO (heraldlaw02_FixedNearest.j4 k y0 y1) (heraldlaw02_FixedNearest.j4 (k + 1) y0 y1))
  | 0 => ⟨fun _ _ _ _ _ _ _ r h => by simp [heraldlaw02_FixedNearest.j0] at h, fun _ _ _ _ _ r h => by simp [heraldlaw02_FixedNearest.j1] at h, fun _ _ r h => by simp [heraldlaw02_FixedNearest.j2] at h, fun _ _ _ _ _ r h => by simp [heraldlaw02_FixedNearest.j3] at h, fun _ _ r h => by simp [heraldlaw02_FixedNearest.j4] at h⟩
  | k + 1 => by
    obtain ⟨ih0, ih1, ih2, ih3, ih4⟩ := heraldlaw02_FixedNearest.mono_l k
    refine ⟨?_, ?_, ?_, ?_, ?_⟩
    · intro y0 y1 y2 y3 y4 y5 y6
      unfold heraldlaw02_FixedNearest.j0
      repeat' first
      | (with_reducible exact ih0 _ _ _ _ _ _ _)
      | (with_reducible exact ih1 _ _ _ _ _)
      | (with_reducible exact ih2 _ _)
      | (with_reducible exact ih3 _ _ _ _ _)
      | (with_reducible exact ih4 _ _)
      | (with_reducible exact heraldlaw02_awake.mono _)
      | (with_reducible exact LeO.refl _)
      | (with_reducible exact LeO.none _)
      | (with_reducible refine LeO.ite ?_ ?_)
      | (with_reducible refine LeO.bind ?_ (fun _ => ?_))
      | exact ih0 _ _ _ _ _ _ _
      | exact ih1 _ _ _ _ _
      | exact ih2 _ _
      | exact ih3 _ _ _ _ _
      | exact ih4 _ _
      | exact heraldlaw02_awake.mono _
      | exact LeO.none _
      | refine LeO.ite ?_ ?_
      | refine LeO.bind ?_ (fun _ => ?_)
    · intro y0 y1 y2 y3 y4
      unfold heraldlaw02_FixedNearest.j1
      repeat' first
      | (with_reducible exact ih0 _ _ _ _ _ _ _)
      | (with_reducible exact ih1 _ _ _ _ _)
      | (with_reducible exact ih2 _ _)
      | (with_reducible exact ih3 _ _ _ _ _)
      | (with_reducible exact ih4 _ _)
      | (with_reducible exact heraldlaw02_awake.mono _)
      | (with_reducible exact LeO.refl _)
      | (with_reducible exact LeO.none _)
      | (with_reducible refine LeO.ite ?_ ?_)
      | (with_reducible refine LeO.bind ?_ (fun _ => ?_))
      | exact ih0 _ _ _ _ _ _ _
      | exact ih1 _ _ _ _ _
      | exact ih2 _ _
      | exact ih3 _ _ _ _ _
      | exact ih4 _ _
      | exact heraldlaw02_awake.mono _
      | exact LeO.none _
      | refine LeO.ite ?_ ?_
      | refine LeO.bind ?_ (fun _ => ?_)
    · intro y0 y1
      unfold heraldlaw02_FixedNearest.j2
      repeat' first
      | (with_reducible exact ih0 _ _ _ _ _ _ _)
      | (with_reducible exact ih1 _ _ _ _ _)
      | (with_reducible exact ih2 _ _)
      | (with_reducible exact ih3 _ _ _ _ _)
      | (with_reducible exact ih4 _ _)
      | (with_reducible exact heraldlaw02_awake.mono _)
      | (with_reducible exact LeO.refl _)
      | (with_reducible exact LeO.none _)
      | (with_reducible refine LeO.ite ?_ ?_)
      | (with_reducible refine LeO.bind ?_ (fun _ => ?_))
      | exact ih0 _ _ _ _ _ _ _
      | exact ih1 _ _ _ _ _
      | exact ih2 _ _
      | exact ih3 _ _ _ _ _
      | exact ih4 _ _
      | exact heraldlaw02_awake.mono _
      | exact LeO.none _
      | refine LeO.ite ?_ ?_
      | refine LeO.bind ?_ (fun _ => ?_)
    · intro y0 y1 y2 y3 y4
      unfold heraldlaw02_FixedNearest.j3
      repeat' first
      | (with_reducible exact ih0 _ _ _ _ _ _ _)
      | (with_reducible exact ih1 _ _ _ _ _)
      | (with_reducible exact ih2 _ _)
      | (with_reducible exact ih3 _ _ _ _ _)
      | (with_reducible exact ih4 _ _)
      | (with_reducible exact heraldlaw02_awake.mono _)
      | (with_reducible exact LeO.refl _)
      | (with_reducible exact LeO.none _)
      | (with_reducible refine LeO.ite ?_ ?_)
      | (with_reducible refine LeO.bind ?_ (fun _ => ?_))
      | exact ih0 _ _ _ _ _ _ _
      | exact ih1 _ _ _ _ _
      | exact ih2 _ _
      | exact ih3 _ _ _ _ _
      | exact ih4 _ _
      | exact heraldlaw02_awake.mono _
      | exact LeO.none _
      | refine LeO.ite ?_ ?_
      | refine LeO.bind ?_ (fun _ => ?_)
    · intro y0 y1
      unfold heraldlaw02_FixedNearest.j4
      repeat' first
      | (with_reducible exact ih0 _ _ _ _ _ _ _)
      | (with_reducible exact ih1 _ _ _ _ _)
      | (with_reducible exact ih2 _ _)
      | (with_reducible exact ih3 _ _ _ _ _)
      | (with_reducible exact ih4 _ _)
      | (with_reducible exact heraldlaw02_awake.mono _)
      | (with_reducible exact LeO.refl _)
      | (with_reducible exact LeO.none _)
      | (with_reducible refine LeO.ite ?_ ?_)
      | (with_reducible refine LeO.bind ?_ (fun _ => ?_))
      | exact ih0 _ _ _ _ _ _ _
      | exact ih1 _ _ _ _ _
      | exact ih2 _ _
      | exact ih3 _ _ _ _ _
      | exact ih4 _ _
      | exact heraldlaw02_awake.mono _
      | exact LeO.none _
      | refine LeO.ite ?_ ?_
      | refine LeO.bind ?_ (fun _ => ?_)
theorem heraldlaw02_FixedNearest.mono : ∀ a0 a1 a2 k, LeO (heraldlaw02_FixedNearest.f k a0 a1 a2) (heraldlaw02_FixedNearest.f (k + 1) a0 a1 a2) := by
  intro a0 a1 a2 k
  obtain ⟨ih0, ih1, ih2, ih3, ih4⟩ := heraldlaw02_FixedNearest.mono_l k
  unfold heraldlaw02_FixedNearest.f
  repeat' first
      | (with_reducible exact ih0 _ _ _ _ _ _ _)
      | (with_reducible exact ih1 _ _ _ _ _)
      | (with_reducible exact ih2 _ _)
      | (with_reducible exact ih3 _ _ _ _ _)
      | (with_reducible exact ih4 _ _)
      | (with_reducible exact heraldlaw02_awake.mono _)
      | (with_reducible exact LeO.refl _)
      | (with_reducible exact LeO.none _)
      | (with_reducible refine LeO.ite ?_ ?_)
      | (with_reducible refine LeO.bind ?_ (fun _ => ?_))
      | exact ih0 _ _ _ _ _ _ _
      | exact ih1 _ _ _ _ _
      | exact ih2 _ _
      | exact ih3 _ _ _ _ _
      | exact ih4 _ _
      | exact heraldlaw02_awake.mono _
      | exact LeO.none _
      | refine LeO.ite ?_ ?_
      | refine LeO.bind ?_ (fun _ => ?_)
set_option maxHeartbeats 8000000 in
set_option maxRecDepth 100000 in
theorem heraldlaw02_FixedNearest.calls (k : Nat) (a0 : Int) (a1 : Int) (a2 : Int) (r : Bool) (w : World) (h : heraldlaw02_FixedNearest.f k a0 a1 a2 = some r) :
    Calls Try.prog 7 #[.int .i64 a0, .int .i64 a1, .int .i64 a2] w fun e w' => e = .returned (.bool r) ∧ Below w.heap.size w w' := by
  have HB := Aside0.mk (Below.refl w.heap.size w)
  have H : ((heraldlaw02_awake.f k).bind fun t158 => (if t158 = true then ((fixed_Near.f a0 a1).bind fun bt159 => (if a1 < 1 then (if bt159.1 = 0 then (some (bt159.2 == 21)) else (some false)) else ((fixed_Floor.f a0 a1).bind fun bt161 => (if bt159.2 = 0 then (if bt161.2.2 = 0 then (if bt161.2.1 < 0 then (heraldlaw02_FixedNearest.j0 k a0 a1 a2 bt159.1 bt161.1 bt161.2.1 true) else (if bt161.2.1 ≥ a1 then (heraldlaw02_FixedNearest.j0 k a0 a1 a2 bt159.1 bt161.1 bt161.2.1 true) else (if bt161.1 > bt159.1 then (heraldlaw02_FixedNearest.j0 k a0 a1 a2 bt159.1 bt161.1 bt161.2.1 true) else (if bt159.1 > (wrap64 (bt161.1 + 1)) then (if bt159.1 = bt161.1 then (heraldlaw02_FixedNearest.j0 k a0 a1 a2 bt159.1 bt161.1 bt161.2.1 false) else (heraldlaw02_FixedNearest.j0 k a0 a1 a2 bt159.1 bt161.1 bt161.2.1 true)) else (heraldlaw02_FixedNearest.j0 k a0 a1 a2 bt159.1 bt161.1 bt161.2.1 false))))) else (heraldlaw02_FixedNearest.j0 k a0 a1 a2 bt159.1 bt161.1 bt161.2.1 true)) else (heraldlaw02_FixedNearest.j0 k a0 a1 a2 bt159.1 bt161.1 bt161.2.1 true))))) else (some false))) = some r := h
  clear h
  replace H := Option.bind_eq_some_iff.mp H
  obtain ⟨t158, A40, H⟩ := H
  replace H : (if t158 = true then ((fixed_Near.f a0 a1).bind fun bt159 => (if a1 < 1 then (if bt159.1 = 0 then (some (bt159.2 == 21)) else (some false)) else ((fixed_Floor.f a0 a1).bind fun bt161 => (if bt159.2 = 0 then (if bt161.2.2 = 0 then (if bt161.2.1 < 0 then (heraldlaw02_FixedNearest.j0 k a0 a1 a2 bt159.1 bt161.1 bt161.2.1 true) else (if bt161.2.1 ≥ a1 then (heraldlaw02_FixedNearest.j0 k a0 a1 a2 bt159.1 bt161.1 bt161.2.1 true) else (if bt161.1 > bt159.1 then (heraldlaw02_FixedNearest.j0 k a0 a1 a2 bt159.1 bt161.1 bt161.2.1 true) else (if bt159.1 > (wrap64 (bt161.1 + 1)) then (if bt159.1 = bt161.1 then (heraldlaw02_FixedNearest.j0 k a0 a1 a2 bt159.1 bt161.1 bt161.2.1 false) else (heraldlaw02_FixedNearest.j0 k a0 a1 a2 bt159.1 bt161.1 bt161.2.1 true)) else (heraldlaw02_FixedNearest.j0 k a0 a1 a2 bt159.1 bt161.1 bt161.2.1 false))))) else (heraldlaw02_FixedNearest.j0 k a0 a1 a2 bt159.1 bt161.1 bt161.2.1 true)) else (heraldlaw02_FixedNearest.j0 k a0 a1 a2 bt159.1 bt161.1 bt161.2.1 true))))) else (some false)) = some r := H
  have A4 := Aside0.mk A40
  clear A40
  by_cases c5 : t158 = true
  · subst c5
    have H1 : ((fixed_Near.f a0 a1).bind fun bt159 => (if a1 < 1 then (if bt159.1 = 0 then (some (bt159.2 == 21)) else (some false)) else ((fixed_Floor.f a0 a1).bind fun bt161 => (if bt159.2 = 0 then (if bt161.2.2 = 0 then (if bt161.2.1 < 0 then (heraldlaw02_FixedNearest.j0 k a0 a1 a2 bt159.1 bt161.1 bt161.2.1 true) else (if bt161.2.1 ≥ a1 then (heraldlaw02_FixedNearest.j0 k a0 a1 a2 bt159.1 bt161.1 bt161.2.1 true) else (if bt161.1 > bt159.1 then (heraldlaw02_FixedNearest.j0 k a0 a1 a2 bt159.1 bt161.1 bt161.2.1 true) else (if bt159.1 > (wrap64 (bt161.1 + 1)) then (if bt159.1 = bt161.1 then (heraldlaw02_FixedNearest.j0 k a0 a1 a2 bt159.1 bt161.1 bt161.2.1 false) else (heraldlaw02_FixedNearest.j0 k a0 a1 a2 bt159.1 bt161.1 bt161.2.1 true)) else (heraldlaw02_FixedNearest.j0 k a0 a1 a2 bt159.1 bt161.1 bt161.2.1 false))))) else (heraldlaw02_FixedNearest.j0 k a0 a1 a2 bt159.1 bt161.1 bt161.2.1 true)) else (heraldlaw02_FixedNearest.j0 k a0 a1 a2 bt159.1 bt161.1 bt161.2.1 true))))) = some r := by rw [if_pos rfl] at H; exact H
    clear H
    have H := H1
    clear H1
    replace H := Option.bind_eq_some_iff.mp H
    obtain ⟨⟨t159, t160⟩, A60, H⟩ := H
    replace H : (if a1 < 1 then (if t159 = 0 then (some (t160 == 21)) else (some false)) else ((fixed_Floor.f a0 a1).bind fun bt161 => (if t160 = 0 then (if bt161.2.2 = 0 then (if bt161.2.1 < 0 then (heraldlaw02_FixedNearest.j0 k a0 a1 a2 t159 bt161.1 bt161.2.1 true) else (if bt161.2.1 ≥ a1 then (heraldlaw02_FixedNearest.j0 k a0 a1 a2 t159 bt161.1 bt161.2.1 true) else (if bt161.1 > t159 then (heraldlaw02_FixedNearest.j0 k a0 a1 a2 t159 bt161.1 bt161.2.1 true) else (if t159 > (wrap64 (bt161.1 + 1)) then (if t159 = bt161.1 then (heraldlaw02_FixedNearest.j0 k a0 a1 a2 t159 bt161.1 bt161.2.1 false) else (heraldlaw02_FixedNearest.j0 k a0 a1 a2 t159 bt161.1 bt161.2.1 true)) else (heraldlaw02_FixedNearest.j0 k a0 a1 a2 t159 bt161.1 bt161.2.1 false))))) else (heraldlaw02_FixedNearest.j0 k a0 a1 a2 t159 bt161.1 bt161.2.1 true)) else (heraldlaw02_FixedNearest.j0 k a0 a1 a2 t159 bt161.1 bt161.2.1 true)))) = some r := H
    have A6 := Aside0.mk A60
    clear A60
    by_cases c7 : a1 < 1
    · rw [if_pos c7] at H
      have c7b0 : decide (a1 < 1) = true := decide_eq_true c7
      clear c7
      by_cases c8 : t159 = 0
      · rw [if_pos c8] at H
        have c8b0 : (t159 == 0) = true := beq_iff_eq.mpr c8
        have c8b1 : (t159 != 0) = false := bne_eq_false_iff_eq.mpr c8
        clear c8
        obtain rfl := Option.some.inj H
        go_enter Try.func7, Try.ntmps7
        go_wp2_with (first | ((with_reducible refine gate_callee (f := 15) rfl ?_); refine goesL_ (some 17) rfl rfl Try.func15 (by kernel_rfl) rfl #[] rfl (by (try simp only [List.map_toArray, List.map_cons, List.map_nil]); first | done | rfl | (simp only [List.length_drop, List.length_take]; rfl)) ?_; (with_reducible refine (heraldlaw02_awake.calls k  true _ A4.out).mono ?_); rintro e w9 ⟨rfl, hb⟩; refine ⟨_, rfl, ?_⟩; have n0_ := Aside0.mk (below_step (by repeat (first | (with_reducible first | exact HB.out | apply below_alloc | apply pw_below_drewN | apply below_drew1) | exact HB.out)) hb); clear HB; have HB := n0_; clear n0_; (try clear hb); (try clear hb2); (try clear hk); (try clear hi)) | ((with_reducible refine gate_callee (f := 18) rfl ?_); refine goesL_ (some 22) rfl rfl Try.func18 (by kernel_rfl) rfl #[.int .i64 a0, .int .i64 a1] rfl (by (try simp only [List.map_toArray, List.map_cons, List.map_nil]); first | done | rfl | (simp only [List.length_drop, List.length_take]; rfl)) ?_; (with_reducible refine (fixed_Near.calls a0 a1 t159 t160 _ A6.out).mono ?_); rintro e w' ⟨rfl, ⟨nd, rfl⟩⟩; refine ⟨_, rfl, ?_⟩))
        go_ret
        exact ⟨by first | rfl | (simp [errW_none, errW_some] <;> rfl) | (simp [*, errW_none, errW_some] <;> rfl), by repeat (first | (with_reducible first | exact HB.out | apply below_alloc | apply pw_below_drewN | apply below_drew1) | exact HB.out)⟩
      · rw [if_neg c8] at H
        have c8b0 : (t159 == 0) = false := beq_eq_false_iff_ne.mpr c8
        have c8b1 : (t159 != 0) = true := bne_iff_ne.mpr c8
        obtain rfl := Option.some.inj H
        go_enter Try.func7, Try.ntmps7
        go_wp2_with (first | ((with_reducible refine gate_callee (f := 15) rfl ?_); refine goesL_ (some 17) rfl rfl Try.func15 (by kernel_rfl) rfl #[] rfl (by (try simp only [List.map_toArray, List.map_cons, List.map_nil]); first | done | rfl | (simp only [List.length_drop, List.length_take]; rfl)) ?_; (with_reducible refine (heraldlaw02_awake.calls k  true _ A4.out).mono ?_); rintro e w10 ⟨rfl, hb⟩; refine ⟨_, rfl, ?_⟩; have n0_ := Aside0.mk (below_step (by repeat (first | (with_reducible first | exact HB.out | apply below_alloc | apply pw_below_drewN | apply below_drew1) | exact HB.out)) hb); clear HB; have HB := n0_; clear n0_; (try clear hb); (try clear hb2); (try clear hk); (try clear hi)) | ((with_reducible refine gate_callee (f := 18) rfl ?_); refine goesL_ (some 22) rfl rfl Try.func18 (by kernel_rfl) rfl #[.int .i64 a0, .int .i64 a1] rfl (by (try simp only [List.map_toArray, List.map_cons, List.map_nil]); first | done | rfl | (simp only [List.length_drop, List.length_take]; rfl)) ?_; (with_reducible refine (fixed_Near.calls a0 a1 t159 t160 _ A6.out).mono ?_); rintro e w' ⟨rfl, ⟨nd, rfl⟩⟩; refine ⟨_, rfl, ?_⟩))
        go_ret
        exact ⟨by first | rfl | (simp [errW_none, errW_some] <;> rfl) | (simp [*, errW_none, errW_some] <;> rfl), by repeat (first | (with_reducible first | exact HB.out | apply below_alloc | apply pw_below_drewN | apply below_drew1) | exact HB.out)⟩
    · rw [if_neg c7] at H
      have c7b0 : decide (a1 < 1) = false := decide_eq_false c7
      clear c7
      replace H := Option.bind_eq_some_iff.mp H
      obtain ⟨⟨t161, t162, t163⟩, A110, H⟩ := H
      replace H : (if t160 = 0 then (if t163 = 0 then (if t162 < 0 then (heraldlaw02_FixedNearest.j0 k a0 a1 a2 t159 t161 t162 true) else (if t162 ≥ a1 then (heraldlaw02_FixedNearest.j0 k a0 a1 a2 t159 t161 t162 true) else (if t161 > t159 then (heraldlaw02_FixedNearest.j0 k a0 a1 a2 t159 t161 t162 true) else (if t159 > (wrap64 (t161 + 1)) then (if t159 = t161 then (heraldlaw02_FixedNearest.j0 k a0 a1 a2 t159 t161 t162 false) else (heraldlaw02_FixedNearest.j0 k a0 a1 a2 t159 t161 t162 true)) else (heraldlaw02_FixedNearest.j0 k a0 a1 a2 t159 t161 t162 false))))) else (heraldlaw02_FixedNearest.j0 k a0 a1 a2 t159 t161 t162 true)) else (heraldlaw02_FixedNearest.j0 k a0 a1 a2 t159 t161 t162 true)) = some r := H
      have A11 := Aside0.mk A110
      clear A110
      have HC12 := Aside0.mk H
      clear H
      go_enter Try.func7, Try.ntmps7
      go_upto_region 7 with (first | ((with_reducible refine gate_callee (f := 15) rfl ?_); refine goesL_ (some 17) rfl rfl Try.func15 (by kernel_rfl) rfl #[] rfl (by (try simp only [List.map_toArray, List.map_cons, List.map_nil]); first | done | rfl | (simp only [List.length_drop, List.length_take]; rfl)) ?_; (with_reducible refine (heraldlaw02_awake.calls k  true _ A4.out).mono ?_); rintro e w13 ⟨rfl, hb⟩; refine ⟨_, rfl, ?_⟩; have n0_ := Aside0.mk (below_step (by repeat (first | (with_reducible first | exact HB.out | apply below_alloc | apply pw_below_drewN | apply below_drew1) | exact HB.out)) hb); clear HB; have HB := n0_; clear n0_; (try clear hb); (try clear hb2); (try clear hk); (try clear hi)) | ((with_reducible refine gate_callee (f := 18) rfl ?_); refine goesL_ (some 22) rfl rfl Try.func18 (by kernel_rfl) rfl #[.int .i64 a0, .int .i64 a1] rfl (by (try simp only [List.map_toArray, List.map_cons, List.map_nil]); first | done | rfl | (simp only [List.length_drop, List.length_take]; rfl)) ?_; (with_reducible refine (fixed_Near.calls a0 a1 t159 t160 _ A6.out).mono ?_); rintro e w' ⟨rfl, ⟨nd, rfl⟩⟩; refine ⟨_, rfl, ?_⟩) | ((with_reducible refine gate_callee (f := 16) rfl ?_); refine goesL_ (some 36) rfl rfl Try.func16 (by kernel_rfl) rfl #[.int .i64 a0, .int .i64 a1] rfl (by (try simp only [List.map_toArray, List.map_cons, List.map_nil]); first | done | rfl | (simp only [List.length_drop, List.length_take]; rfl)) ?_; (with_reducible refine (fixed_Floor.calls a0 a1 t161 t162 t163 _ A11.out).mono ?_); rintro e w' ⟨rfl, ⟨nd, rfl⟩⟩; refine ⟨_, rfl, ?_⟩))
      (try simp only [Act.put, List.setIfInBounds_toArray, List.set_cons_zero, List.set_cons_succ])
      go_cut [70] (fun v70 wc => ∃ (kq : Nat) (x70_11 : Bool), v70 = .bool x70_11 ∧ Aside0 (heraldlaw02_FixedNearest.j0 kq a0 a1 a2 t159 t161 t162 x70_11 = some r) ∧ Aside0 (kq ≤ k) ∧ Aside0 (Below w.heap.size w wc))
      case first =>
        have H := HC12.out
        clear HC12
        by_cases c14 : t160 = 0
        · rw [if_pos c14] at H
          have c14b0 : (t160 == 0) = true := beq_iff_eq.mpr c14
          have c14b1 : (t160 != 0) = false := bne_eq_false_iff_eq.mpr c14
          clear c14
          (first | rw [c14b0] | (simp only [i64_w, i32_w]; rw [c14b0]) | skip)
          by_cases c15 : t163 = 0
          · rw [if_pos c15] at H
            have c15b0 : (t163 == 0) = true := beq_iff_eq.mpr c15
            have c15b1 : (t163 != 0) = false := bne_eq_false_iff_eq.mpr c15
            clear c15
            by_cases c16 : t162 < 0
            · rw [if_pos c16] at H
              have c16b0 : decide (t162 < 0) = true := decide_eq_true c16
              clear c16
              have H' := Aside0.mk H
              clear H
              go_wp2
              go_meet
              case rel => exact ⟨_, (true), (by first | rfl | (simp; done) | (simp [*]; done)), H', ⟨by first | omega | exact Nat.le_refl _⟩, ⟨by repeat (first | (with_reducible first | exact HB.out | apply below_alloc | apply pw_below_drewN | apply below_drew1) | exact HB.out)⟩⟩
            · rw [if_neg c16] at H
              have c16b0 : decide (t162 < 0) = false := decide_eq_false c16
              clear c16
              by_cases c17 : t162 ≥ a1
              · rw [if_pos c17] at H
                have c17b0 : decide (a1 ≤ t162) = true := decide_eq_true c17
                clear c17
                have H' := Aside0.mk H
                clear H
                go_wp2
                go_meet
                case rel => exact ⟨_, (true), (by first | rfl | (simp; done) | (simp [*]; done)), H', ⟨by first | omega | exact Nat.le_refl _⟩, ⟨by repeat (first | (with_reducible first | exact HB.out | apply below_alloc | apply pw_below_drewN | apply below_drew1) | exact HB.out)⟩⟩
              · rw [if_neg c17] at H
                have c17b0 : decide (a1 ≤ t162) = false := decide_eq_false c17
                clear c17
                by_cases c18 : t161 > t159
                · rw [if_pos c18] at H
                  have c18b0 : decide (t159 < t161) = true := decide_eq_true c18
                  clear c18
                  have H' := Aside0.mk H
                  clear H
                  go_wp2
                  go_meet
                  case rel => exact ⟨_, (true), (by first | rfl | (simp; done) | (simp [*]; done)), H', ⟨by first | omega | exact Nat.le_refl _⟩, ⟨by repeat (first | (with_reducible first | exact HB.out | apply below_alloc | apply pw_below_drewN | apply below_drew1) | exact HB.out)⟩⟩
                · rw [if_neg c18] at H
                  have c18b0 : decide (t159 < t161) = false := decide_eq_false c18
                  clear c18
                  by_cases c19 : t159 > (wrap64 (t161 + 1))
                  · rw [if_pos c19] at H
                    have c19b0 : decide ((wrap64 (t161 + 1)) < t159) = true := decide_eq_true c19
                    clear c19
                    by_cases c20 : t159 = t161
                    · rw [if_pos c20] at H
                      have c20b0 : (t159 == t161) = true := beq_iff_eq.mpr c20
                      have c20b1 : (t159 != t161) = false := bne_eq_false_iff_eq.mpr c20
                      clear c20
                      have H' := Aside0.mk H
                      clear H
                      go_wp2
                      go_meet
                      case rel => exact ⟨_, (false), (by first | rfl | (simp; done) | (simp [*]; done)), H', ⟨by first | omega | exact Nat.le_refl _⟩, ⟨by repeat (first | (with_reducible first | exact HB.out | apply below_alloc | apply pw_below_drewN | apply below_drew1) | exact HB.out)⟩⟩
                    · rw [if_neg c20] at H
                      have c20b0 : (t159 == t161) = false := beq_eq_false_iff_ne.mpr c20
                      have c20b1 : (t159 != t161) = true := bne_iff_ne.mpr c20
                      have H' := Aside0.mk H
                      clear H
                      go_wp2
                      go_meet
                      case rel => exact ⟨_, (true), (by first | rfl | (simp; done) | (simp [*]; done)), H', ⟨by first | omega | exact Nat.le_refl _⟩, ⟨by repeat (first | (with_reducible first | exact HB.out | apply below_alloc | apply pw_below_drewN | apply below_drew1) | exact HB.out)⟩⟩
                  · rw [if_neg c19] at H
                    have c19b0 : decide ((wrap64 (t161 + 1)) < t159) = false := decide_eq_false c19
                    clear c19
                    have H' := Aside0.mk H
                    clear H
                    go_wp2
                    go_meet
                    case rel => exact ⟨_, (false), (by first | rfl | (simp; done) | (simp [*]; done)), H', ⟨by first | omega | exact Nat.le_refl _⟩, ⟨by repeat (first | (with_reducible first | exact HB.out | apply below_alloc | apply pw_below_drewN | apply below_drew1) | exact HB.out)⟩⟩
          · rw [if_neg c15] at H
            have c15b0 : (t163 == 0) = false := beq_eq_false_iff_ne.mpr c15
            have c15b1 : (t163 != 0) = true := bne_iff_ne.mpr c15
            have H' := Aside0.mk H
            clear H
            go_wp2
            go_meet
            case rel => exact ⟨_, (true), (by first | rfl | (simp; done) | (simp [*]; done)), H', ⟨by first | omega | exact Nat.le_refl _⟩, ⟨by repeat (first | (with_reducible first | exact HB.out | apply below_alloc | apply pw_below_drewN | apply below_drew1) | exact HB.out)⟩⟩
        · rw [if_neg c14] at H
          have c14b0 : (t160 == 0) = false := beq_eq_false_iff_ne.mpr c14
          have c14b1 : (t160 != 0) = true := bne_iff_ne.mpr c14
          (first | rw [c14b0] | (simp only [i64_w, i32_w]; rw [c14b0]) | skip)
          have H' := Aside0.mk H
          clear H
          go_wp2
          go_meet
          case rel => exact ⟨_, (true), (by first | rfl | (simp; done) | (simp [*]; done)), H', ⟨by first | omega | exact Nat.le_refl _⟩, ⟨by repeat (first | (with_reducible first | exact HB.out | apply below_alloc | apply pw_below_drewN | apply below_drew1) | exact HB.out)⟩⟩
      case rest =>
        clear HC12
        try clear c1
        try clear c2
        try clear p2
        try clear c5
        try clear p6
        try clear c7
        try clear c7b0
        try clear c8
        try clear c8b0
        try clear c8b1
        try clear c14
        try clear c14b0
        try clear c14b1
        try clear c15
        try clear c15b0
        try clear c15b1
        try clear c16
        try clear c16b0
        try clear c17
        try clear c17b0
        try clear c18
        try clear c18b0
        try clear c19
        try clear c19b0
        try clear c20
        try clear c20b0
        try clear c20b1
        obtain ⟨kq, x70_11, rfl, HA, HJ11, HB⟩ := hcut
        cases kq with
        | zero => exact absurd HA.out (by simp [heraldlaw02_FixedNearest.j0])
        | succ kj11 =>
          have H := HA.out
          clear HA
          simp only [heraldlaw02_FixedNearest.j0] at H
          by_cases c21 : x70_11 = true
          · subst c21
            have H1 : (some false) = some r := by rw [if_pos rfl] at H; exact H
            clear H
            have H := H1
            clear H1
            obtain rfl := Option.some.inj H
            go_wp2
            go_ret
            exact ⟨by first | rfl | (simp [errW_none, errW_some] <;> rfl) | (simp [*, errW_none, errW_some] <;> rfl), by repeat (first | (with_reducible first | exact HB.out | apply below_alloc | apply pw_below_drewN | apply below_drew1) | exact HB.out)⟩
          · replace c21 := Bool.eq_false_iff.mpr c21
            subst c21
            have H1 : (if t159 = t161 then (if t162 > (wrap64 (a1 - t162)) then (heraldlaw02_FixedNearest.j1 kj11 a0 a1 a2 t159 true) else (if t162 = (wrap64 (a1 - t162)) then (if (Int.tmod t159 2) = 0 then (heraldlaw02_FixedNearest.j1 kj11 a0 a1 a2 t159 false) else (heraldlaw02_FixedNearest.j1 kj11 a0 a1 a2 t159 true)) else (heraldlaw02_FixedNearest.j1 kj11 a0 a1 a2 t159 false))) else (if t162 < (wrap64 (a1 - t162)) then (heraldlaw02_FixedNearest.j3 kj11 a0 a1 a2 t159 true) else (if t162 = (wrap64 (a1 - t162)) then (if (Int.tmod t159 2) = 0 then (heraldlaw02_FixedNearest.j3 kj11 a0 a1 a2 t159 false) else (heraldlaw02_FixedNearest.j3 kj11 a0 a1 a2 t159 true)) else (heraldlaw02_FixedNearest.j3 kj11 a0 a1 a2 t159 false)))) = some r := by rw [if_neg (show ¬ (false = true) by decide)] at H; exact H
            clear H
            have H := H1
            clear H1
            by_cases c22 : t159 = t161
            · rw [if_pos c22] at H
              have c22b0 : (t159 == t161) = true := beq_iff_eq.mpr c22
              have c22b1 : (t159 != t161) = false := bne_eq_false_iff_eq.mpr c22
              clear c22
              have HC23 := Aside0.mk H
              clear H
              go_upto_region 10 with (fail)
              go_cut [104] (fun v104 wc => ∃ (kq : Nat) (x104_22 : Bool), v104 = .bool x104_22 ∧ Aside0 (heraldlaw02_FixedNearest.j1 kq a0 a1 a2 t159 x104_22 = some r) ∧ Aside0 (kq ≤ kj11) ∧ Aside0 (Below w.heap.size w wc))
              case first =>
                have H := HC23.out
                clear HC23
                by_cases c24 : t162 > (wrap64 (a1 - t162))
                · rw [if_pos c24] at H
                  have c24b0 : decide ((wrap64 (a1 - t162)) < t162) = true := decide_eq_true c24
                  clear c24
                  (first | rw [c24b0] | (simp only [i64_w, i32_w]; rw [c24b0]) | skip)
                  have H' := Aside0.mk H
                  clear H
                  go_wp2
                  go_meet
                  case rel => exact ⟨_, (true), (by first | rfl | (simp; done) | (simp [*]; done)), H', ⟨by have := HJ11.out; first | omega | exact Nat.le_refl _⟩, ⟨by repeat (first | (with_reducible first | exact HB.out | apply below_alloc | apply pw_below_drewN | apply below_drew1) | exact HB.out)⟩⟩
                · rw [if_neg c24] at H
                  have c24b0 : decide ((wrap64 (a1 - t162)) < t162) = false := decide_eq_false c24
                  clear c24
                  (first | rw [c24b0] | (simp only [i64_w, i32_w]; rw [c24b0]) | skip)
                  by_cases c25 : t162 = (wrap64 (a1 - t162))
                  · rw [if_pos c25] at H
                    have c25b0 : (t162 == (wrap64 (a1 - t162))) = true := beq_iff_eq.mpr c25
                    have c25b1 : (t162 != (wrap64 (a1 - t162))) = false := bne_eq_false_iff_eq.mpr c25
                    clear c25
                    by_cases c26 : (Int.tmod t159 2) = 0
                    · rw [if_pos c26] at H
                      have c26b0 : ((Int.tmod t159 2) == 0) = true := beq_iff_eq.mpr c26
                      have c26b1 : ((Int.tmod t159 2) != 0) = false := bne_eq_false_iff_eq.mpr c26
                      clear c26
                      have H' := Aside0.mk H
                      clear H
                      go_wp2
                      go_meet
                      case rel => exact ⟨_, (false), (by first | rfl | (simp; done) | (simp [*]; done)), H', ⟨by have := HJ11.out; first | omega | exact Nat.le_refl _⟩, ⟨by repeat (first | (with_reducible first | exact HB.out | apply below_alloc | apply pw_below_drewN | apply below_drew1) | exact HB.out)⟩⟩
                    · rw [if_neg c26] at H
                      have c26b0 : ((Int.tmod t159 2) == 0) = false := beq_eq_false_iff_ne.mpr c26
                      have c26b1 : ((Int.tmod t159 2) != 0) = true := bne_iff_ne.mpr c26
                      have H' := Aside0.mk H
                      clear H
                      go_wp2
                      go_meet
                      case rel => exact ⟨_, (true), (by first | rfl | (simp; done) | (simp [*]; done)), H', ⟨by have := HJ11.out; first | omega | exact Nat.le_refl _⟩, ⟨by repeat (first | (with_reducible first | exact HB.out | apply below_alloc | apply pw_below_drewN | apply below_drew1) | exact HB.out)⟩⟩
                  · rw [if_neg c25] at H
                    have c25b0 : (t162 == (wrap64 (a1 - t162))) = false := beq_eq_false_iff_ne.mpr c25
                    have c25b1 : (t162 != (wrap64 (a1 - t162))) = true := bne_iff_ne.mpr c25
                    have H' := Aside0.mk H
                    clear H
                    go_wp2
                    go_meet
                    case rel => exact ⟨_, (false), (by first | rfl | (simp; done) | (simp [*]; done)), H', ⟨by have := HJ11.out; first | omega | exact Nat.le_refl _⟩, ⟨by repeat (first | (with_reducible first | exact HB.out | apply below_alloc | apply pw_below_drewN | apply below_drew1) | exact HB.out)⟩⟩
              case rest =>
                clear HC23
                try clear c1
                try clear c2
                try clear p2
                try clear c5
                try clear p6
                try clear c7
                try clear c7b0
                try clear c8
                try clear c8b0
                try clear c8b1
                try clear c14
                try clear c14b0
                try clear c14b1
                try clear c15
                try clear c15b0
                try clear c15b1
                try clear c16
                try clear c16b0
                try clear c17
                try clear c17b0
                try clear c18
                try clear c18b0
                try clear c19
                try clear c19b0
                try clear c20
                try clear c20b0
                try clear c20b1
                try clear c21
                try clear c22
                try clear c22b0
                try clear c22b1
                try clear c24
                try clear c24b0
                try clear c25
                try clear c25b0
                try clear c25b1
                try clear c26
                try clear c26b0
                try clear c26b1
                try clear p2
                try clear p6
                obtain ⟨kq, x104_22, rfl, HA, HJ22, HB⟩ := hcut
                cases kq with
                | zero => exact absurd HA.out (by simp [heraldlaw02_FixedNearest.j1])
                | succ kj22 =>
                  have H := HA.out
                  clear HA
                  simp only [heraldlaw02_FixedNearest.j1] at H
                  by_cases c27 : x104_22 = true
                  · subst c27
                    have H1 : (some false) = some r := by rw [if_pos rfl] at H; exact H
                    clear H
                    have H := H1
                    clear H1
                    obtain rfl := Option.some.inj H
                    go_wp2
                    go_ret
                    exact ⟨by first | rfl | (simp [errW_none, errW_some] <;> rfl) | (simp [*, errW_none, errW_some] <;> rfl), by repeat (first | (with_reducible first | exact HB.out | apply below_alloc | apply pw_below_drewN | apply below_drew1) | exact HB.out)⟩
                  · replace c27 := Bool.eq_false_iff.mpr c27
                    subst c27
                    have H1 : (if a0 > (-9223372036854775808) then ((fixed_Near.f (wrap64 (-a0)) a1).bind fun bt164 => (if bt164.1 = (wrap64 (-t159)) then (if bt164.2 = 0 then (heraldlaw02_FixedNearest.j2 kj22 a0 a2) else (some false)) else (some false))) else (heraldlaw02_FixedNearest.j2 kj22 a0 a2)) = some r := by rw [if_neg (show ¬ (false = true) by decide)] at H; exact H
                    clear H
                    have H := H1
                    clear H1
                    have HC28 := Aside0.mk H
                    clear H
                    go_upto_if 106 with (fail)
                    go_cut [] (fun wc => ∃ (kq : Nat), Aside0 (heraldlaw02_FixedNearest.j2 kq a0 a2 = some r) ∧ Aside0 (kq ≤ kj22) ∧ Aside0 (Below w.heap.size w wc))
                    case first =>
                      have H := HC28.out
                      clear HC28
                      by_cases c29 : a0 > (-9223372036854775808)
                      · rw [if_pos c29] at H
                        have c29b0 : decide ((-9223372036854775808) < a0) = true := decide_eq_true c29
                        clear c29
                        (first | rw [c29b0] | (simp only [i64_w, i32_w]; rw [c29b0]) | skip)
                        replace H := Option.bind_eq_some_iff.mp H
                        obtain ⟨⟨t164, t165⟩, A300, H⟩ := H
                        replace H : (if t164 = (wrap64 (-t159)) then (if t165 = 0 then (heraldlaw02_FixedNearest.j2 kj22 a0 a2) else (some false)) else (some false)) = some r := H
                        have A30 := Aside0.mk A300
                        clear A300
                        by_cases c31 : t164 = (wrap64 (-t159))
                        · rw [if_pos c31] at H
                          have c31b0 : (t164 == (wrap64 (-t159))) = true := beq_iff_eq.mpr c31
                          have c31b1 : (t164 != (wrap64 (-t159))) = false := bne_eq_false_iff_eq.mpr c31
                          clear c31
                          by_cases c32 : t165 = 0
                          · rw [if_pos c32] at H
                            have c32b0 : (t165 == 0) = true := beq_iff_eq.mpr c32
                            have c32b1 : (t165 != 0) = false := bne_eq_false_iff_eq.mpr c32
                            clear c32
                            have H' := Aside0.mk H
                            clear H
                            go_wp2_with (first | ((with_reducible refine gate_callee (f := 18) rfl ?_); refine goesL_ (some 111) rfl rfl Try.func18 (by kernel_rfl) rfl #[.int .i64 (wrap64 (-a0)), .int .i64 a1] rfl (by (try simp only [List.map_toArray, List.map_cons, List.map_nil]); first | done | rfl | (simp only [List.length_drop, List.length_take]; rfl)) ?_; (with_reducible refine (fixed_Near.calls (wrap64 (-a0)) a1 t164 t165 _ A30.out).mono ?_); rintro e w' ⟨rfl, ⟨nd, rfl⟩⟩; refine ⟨_, rfl, ?_⟩))
                            go_meet
                            case rel => exact ⟨_, H', ⟨by have := HJ11.out; have := HJ22.out; first | omega | exact Nat.le_refl _⟩, ⟨by repeat (first | (with_reducible first | exact HB.out | apply below_alloc | apply pw_below_drewN | apply below_drew1) | exact HB.out)⟩⟩
                          · rw [if_neg c32] at H
                            have c32b0 : (t165 == 0) = false := beq_eq_false_iff_ne.mpr c32
                            have c32b1 : (t165 != 0) = true := bne_iff_ne.mpr c32
                            obtain rfl := Option.some.inj H
                            go_wp2_with (first | ((with_reducible refine gate_callee (f := 18) rfl ?_); refine goesL_ (some 111) rfl rfl Try.func18 (by kernel_rfl) rfl #[.int .i64 (wrap64 (-a0)), .int .i64 a1] rfl (by (try simp only [List.map_toArray, List.map_cons, List.map_nil]); first | done | rfl | (simp only [List.length_drop, List.length_take]; rfl)) ?_; (with_reducible refine (fixed_Near.calls (wrap64 (-a0)) a1 t164 t165 _ A30.out).mono ?_); rintro e w' ⟨rfl, ⟨nd, rfl⟩⟩; refine ⟨_, rfl, ?_⟩))
                            go_ret
                            exact ⟨by first | rfl | (simp [errW_none, errW_some] <;> rfl) | (simp [*, errW_none, errW_some] <;> rfl), by repeat (first | (with_reducible first | exact HB.out | apply below_alloc | apply pw_below_drewN | apply below_drew1) | exact HB.out)⟩
                        · rw [if_neg c31] at H
                          have c31b0 : (t164 == (wrap64 (-t159))) = false := beq_eq_false_iff_ne.mpr c31
                          have c31b1 : (t164 != (wrap64 (-t159))) = true := bne_iff_ne.mpr c31
                          obtain rfl := Option.some.inj H
                          go_wp2_with (first | ((with_reducible refine gate_callee (f := 18) rfl ?_); refine goesL_ (some 111) rfl rfl Try.func18 (by kernel_rfl) rfl #[.int .i64 (wrap64 (-a0)), .int .i64 a1] rfl (by (try simp only [List.map_toArray, List.map_cons, List.map_nil]); first | done | rfl | (simp only [List.length_drop, List.length_take]; rfl)) ?_; (with_reducible refine (fixed_Near.calls (wrap64 (-a0)) a1 t164 t165 _ A30.out).mono ?_); rintro e w' ⟨rfl, ⟨nd, rfl⟩⟩; refine ⟨_, rfl, ?_⟩))
                          go_ret
                          exact ⟨by first | rfl | (simp [errW_none, errW_some] <;> rfl) | (simp [*, errW_none, errW_some] <;> rfl), by repeat (first | (with_reducible first | exact HB.out | apply below_alloc | apply pw_below_drewN | apply below_drew1) | exact HB.out)⟩
                      · rw [if_neg c29] at H
                        have c29b0 : decide ((-9223372036854775808) < a0) = false := decide_eq_false c29
                        clear c29
                        (first | rw [c29b0] | (simp only [i64_w, i32_w]; rw [c29b0]) | skip)
                        have H' := Aside0.mk H
                        clear H
                        go_wp2
                        go_meet
                        case rel => exact ⟨_, H', ⟨by have := HJ11.out; have := HJ22.out; first | omega | exact Nat.le_refl _⟩, ⟨by repeat (first | (with_reducible first | exact HB.out | apply below_alloc | apply pw_below_drewN | apply below_drew1) | exact HB.out)⟩⟩
                    case rest =>
                      clear HC28
                      try clear c1
                      try clear c2
                      try clear p2
                      try clear c3
                      try clear c5
                      try clear p6
                      try clear c7
                      try clear c7b0
                      try clear c8
                      try clear c8b0
                      try clear c8b1
                      try clear c14
                      try clear c14b0
                      try clear c14b1
                      try clear c15
                      try clear c15b0
                      try clear c15b1
                      try clear c16
                      try clear c16b0
                      try clear c17
                      try clear c17b0
                      try clear c18
                      try clear c18b0
                      try clear c19
                      try clear c19b0
                      try clear c20
                      try clear c20b0
                      try clear c20b1
                      try clear c21
                      try clear c22
                      try clear c22b0
                      try clear c22b1
                      try clear c24
                      try clear c24b0
                      try clear c25
                      try clear c25b0
                      try clear c25b1
                      try clear c26
                      try clear c26b0
                      try clear c26b1
                      try clear c27
                      try clear c29
                      try clear c29b0
                      try clear c31
                      try clear c31b0
                      try clear c31b1
                      try clear c32
                      try clear c32b0
                      try clear c32b1
                      try clear p2
                      try clear p6
                      obtain ⟨kq, HA, HJ27, HB⟩ := hcut
                      cases kq with
                      | zero => exact absurd HA.out (by simp [heraldlaw02_FixedNearest.j2])
                      | succ kj27 =>
                        have H := HA.out
                        clear HA
                        simp only [heraldlaw02_FixedNearest.j2] at H
                        replace H := Option.bind_eq_some_iff.mp H
                        obtain ⟨⟨t166, t167⟩, A330, H⟩ := H
                        replace H : (if a2 < 0 then (if t166 = 0 then (some (t167 == 20)) else (some false)) else (if a2 > 62 then (if t166 = 0 then (some (t167 == 20)) else (some false)) else (if 0 ≤ (IntKind.u64.wrap (a2)) then ((fixed_Near.f a0 (shl .i64 1 (IntKind.u64.wrap (a2)))).bind fun bt168 => (if t166 = bt168.1 then (if t167 = 0 then (some (bt168.2 == 0)) else (some false)) else (some false))) else (none)))) = some r := H
                        have A33 := Aside0.mk A330
                        clear A330
                        by_cases c34 : a2 < 0
                        · rw [if_pos c34] at H
                          have c34b0 : decide (a2 < 0) = true := decide_eq_true c34
                          clear c34
                          by_cases c35 : t166 = 0
                          · rw [if_pos c35] at H
                            have c35b0 : (t166 == 0) = true := beq_iff_eq.mpr c35
                            have c35b1 : (t166 != 0) = false := bne_eq_false_iff_eq.mpr c35
                            clear c35
                            obtain rfl := Option.some.inj H
                            go_wp2_with (first | ((with_reducible refine gate_callee (f := 20) rfl ?_); refine goesL_ (some 125) rfl rfl Try.func20 (by kernel_rfl) rfl #[.int .i64 a0, .int .i64 a2] rfl (by (try simp only [List.map_toArray, List.map_cons, List.map_nil]); first | done | rfl | (simp only [List.length_drop, List.length_take]; rfl)) ?_; (with_reducible refine (fixed_Round.calls a0 a2 t166 t167 _ A33.out).mono ?_); rintro e w' ⟨rfl, ⟨nd, rfl⟩⟩; refine ⟨_, rfl, ?_⟩))
                            go_ret
                            exact ⟨by first | rfl | (simp [errW_none, errW_some] <;> rfl) | (simp [*, errW_none, errW_some] <;> rfl), by repeat (first | (with_reducible first | exact HB.out | apply below_alloc | apply pw_below_drewN | apply below_drew1) | exact HB.out)⟩
                          · rw [if_neg c35] at H
                            have c35b0 : (t166 == 0) = false := beq_eq_false_iff_ne.mpr c35
                            have c35b1 : (t166 != 0) = true := bne_iff_ne.mpr c35
                            obtain rfl := Option.some.inj H
                            go_wp2_with (first | ((with_reducible refine gate_callee (f := 20) rfl ?_); refine goesL_ (some 125) rfl rfl Try.func20 (by kernel_rfl) rfl #[.int .i64 a0, .int .i64 a2] rfl (by (try simp only [List.map_toArray, List.map_cons, List.map_nil]); first | done | rfl | (simp only [List.length_drop, List.length_take]; rfl)) ?_; (with_reducible refine (fixed_Round.calls a0 a2 t166 t167 _ A33.out).mono ?_); rintro e w' ⟨rfl, ⟨nd, rfl⟩⟩; refine ⟨_, rfl, ?_⟩))
                            go_ret
                            exact ⟨by first | rfl | (simp [errW_none, errW_some] <;> rfl) | (simp [*, errW_none, errW_some] <;> rfl), by repeat (first | (with_reducible first | exact HB.out | apply below_alloc | apply pw_below_drewN | apply below_drew1) | exact HB.out)⟩
                        · rw [if_neg c34] at H
                          have c34b0 : decide (a2 < 0) = false := decide_eq_false c34
                          clear c34
                          by_cases c36 : a2 > 62
                          · rw [if_pos c36] at H
                            have c36b0 : decide (62 < a2) = true := decide_eq_true c36
                            clear c36
                            by_cases c37 : t166 = 0
                            · rw [if_pos c37] at H
                              have c37b0 : (t166 == 0) = true := beq_iff_eq.mpr c37
                              have c37b1 : (t166 != 0) = false := bne_eq_false_iff_eq.mpr c37
                              clear c37
                              obtain rfl := Option.some.inj H
                              go_wp2_with (first | ((with_reducible refine gate_callee (f := 20) rfl ?_); refine goesL_ (some 125) rfl rfl Try.func20 (by kernel_rfl) rfl #[.int .i64 a0, .int .i64 a2] rfl (by (try simp only [List.map_toArray, List.map_cons, List.map_nil]); first | done | rfl | (simp only [List.length_drop, List.length_take]; rfl)) ?_; (with_reducible refine (fixed_Round.calls a0 a2 t166 t167 _ A33.out).mono ?_); rintro e w' ⟨rfl, ⟨nd, rfl⟩⟩; refine ⟨_, rfl, ?_⟩))
                              go_ret
                              exact ⟨by first | rfl | (simp [errW_none, errW_some] <;> rfl) | (simp [*, errW_none, errW_some] <;> rfl), by repeat (first | (with_reducible first | exact HB.out | apply below_alloc | apply pw_below_drewN | apply below_drew1) | exact HB.out)⟩
                            · rw [if_neg c37] at H
                              have c37b0 : (t166 == 0) = false := beq_eq_false_iff_ne.mpr c37
                              have c37b1 : (t166 != 0) = true := bne_iff_ne.mpr c37
                              obtain rfl := Option.some.inj H
                              go_wp2_with (first | ((with_reducible refine gate_callee (f := 20) rfl ?_); refine goesL_ (some 125) rfl rfl Try.func20 (by kernel_rfl) rfl #[.int .i64 a0, .int .i64 a2] rfl (by (try simp only [List.map_toArray, List.map_cons, List.map_nil]); first | done | rfl | (simp only [List.length_drop, List.length_take]; rfl)) ?_; (with_reducible refine (fixed_Round.calls a0 a2 t166 t167 _ A33.out).mono ?_); rintro e w' ⟨rfl, ⟨nd, rfl⟩⟩; refine ⟨_, rfl, ?_⟩))
                              go_ret
                              exact ⟨by first | rfl | (simp [errW_none, errW_some] <;> rfl) | (simp [*, errW_none, errW_some] <;> rfl), by repeat (first | (with_reducible first | exact HB.out | apply below_alloc | apply pw_below_drewN | apply below_drew1) | exact HB.out)⟩
                          · rw [if_neg c36] at H
                            have c36b0 : decide (62 < a2) = false := decide_eq_false c36
                            clear c36
                            obtain ⟨ji38, hji38⟩ : ∃ j_ : Int, (IntKind.u64.wrap (a2)) = j_ := ⟨_, rfl⟩
                            replace H : (if 0 ≤ (ji38) then ((fixed_Near.f a0 (shl .i64 1 (ji38))).bind fun bt168 => (if t166 = bt168.1 then (if t167 = 0 then (some (bt168.2 == 0)) else (some false)) else (some false))) else (none)) = some r := by first | (rw [hji38] at H; exact H) | (simp only [hji38] at H ⊢; exact H)
                            (try rw [hji38] at A33)
                            by_cases c39 : 0 ≤ (ji38)
                            · rw [if_pos c39] at H
                              have c39b0 := eq_true c39
                              have c39b1 : decide (0 ≤ (ji38)) = true := decide_eq_true c39
                              clear c39
                              obtain ⟨ji40, hji40⟩ : ∃ j_ : Int, (shl .i64 1 (ji38)) = j_ := ⟨_, rfl⟩
                              replace H : ((fixed_Near.f a0 (ji40)).bind fun bt168 => (if t166 = bt168.1 then (if t167 = 0 then (some (bt168.2 == 0)) else (some false)) else (some false))) = some r := by first | (rw [hji40] at H; exact H) | (simp only [hji40] at H ⊢; exact H)
                              (try rw [hji40] at A33)
                              have hji40_ : (IntKind.i64.wrap (1 * 2 ^ min (ji38).toNat 64)) = ji40 := hji40
                              have hji40z : (ji38) ≤ 64 → (IntKind.i64.wrap (1 * 2 ^ (ji38).toNat)) = ji40 := shl_small hji40
                              have hji40u : (IntKind.i64.wrap (2 ^ min (ji38).toNat 64)) = ji40 := by have h_ := hji40_; rw [Int.one_mul] at h_; exact h_
                              have hji40v : (ji38) ≤ 64 → (IntKind.i64.wrap (2 ^ (ji38).toNat)) = ji40 := fun hle_ => by have h_ := hji40z hle_; rw [Int.one_mul] at h_; exact h_
                              have hji40y : (wrap64 (1 * 2 ^ min (ji38).toNat 64)) = ji40 := (i64_w _).symm.trans hji40_
                              have hji40x : (ji38) ≤ 64 → (wrap64 (1 * 2 ^ (ji38).toNat)) = ji40 := fun h_ => (i64_w _).symm.trans (hji40z h_)
                              replace H := Option.bind_eq_some_iff.mp H
                              obtain ⟨⟨t168, t169⟩, A410, H⟩ := H
                              replace H : (if t166 = t168 then (if t167 = 0 then (some (t169 == 0)) else (some false)) else (some false)) = some r := H
                              have A41 := Aside0.mk A410
                              clear A410
                              by_cases c42 : t166 = t168
                              · rw [if_pos c42] at H
                                have c42b0 : (t166 == t168) = true := beq_iff_eq.mpr c42
                                have c42b1 : (t166 != t168) = false := bne_eq_false_iff_eq.mpr c42
                                clear c42
                                by_cases c43 : t167 = 0
                                · rw [if_pos c43] at H
                                  have c43b0 : (t167 == 0) = true := beq_iff_eq.mpr c43
                                  have c43b1 : (t167 != 0) = false := bne_eq_false_iff_eq.mpr c43
                                  clear c43
                                  obtain rfl := Option.some.inj H
                                  go_wp2_with (first | ((with_reducible refine gate_callee (f := 20) rfl ?_); refine goesL_ (some 125) rfl rfl Try.func20 (by kernel_rfl) rfl #[.int .i64 a0, .int .i64 a2] rfl (by (try simp only [List.map_toArray, List.map_cons, List.map_nil]); first | done | rfl | (simp only [List.length_drop, List.length_take]; rfl)) ?_; (with_reducible refine (fixed_Round.calls a0 a2 t166 t167 _ A33.out).mono ?_); rintro e w' ⟨rfl, ⟨nd, rfl⟩⟩; refine ⟨_, rfl, ?_⟩) | ((with_reducible refine gate_callee (f := 18) rfl ?_); refine goesL_ (some 145) rfl rfl Try.func18 (by kernel_rfl) rfl #[.int .i64 a0, .int .i64 ji40] rfl (by (try simp only [List.map_toArray, List.map_cons, List.map_nil]); first | done | (simp only [hji40]; rfl) | rfl | (simp only [List.length_drop, List.length_take]; rfl)) ?_; (with_reducible refine (fixed_Near.calls a0 ji40 t168 t169 _ A41.out).mono ?_); rintro e w' ⟨rfl, ⟨nd, rfl⟩⟩; refine ⟨_, rfl, ?_⟩))
                                  go_ret
                                  exact ⟨by first | rfl | (simp [errW_none, errW_some] <;> rfl) | (simp only [← hji38, ← hji40]; first | rfl | (simp [errW_none, errW_some] <;> rfl)) | (simp [*, errW_none, errW_some] <;> rfl), by repeat (first | (with_reducible first | exact HB.out | apply below_alloc | apply pw_below_drewN | apply below_drew1) | exact HB.out)⟩
                                · rw [if_neg c43] at H
                                  have c43b0 : (t167 == 0) = false := beq_eq_false_iff_ne.mpr c43
                                  have c43b1 : (t167 != 0) = true := bne_iff_ne.mpr c43
                                  obtain rfl := Option.some.inj H
                                  go_wp2_with (first | ((with_reducible refine gate_callee (f := 20) rfl ?_); refine goesL_ (some 125) rfl rfl Try.func20 (by kernel_rfl) rfl #[.int .i64 a0, .int .i64 a2] rfl (by (try simp only [List.map_toArray, List.map_cons, List.map_nil]); first | done | rfl | (simp only [List.length_drop, List.length_take]; rfl)) ?_; (with_reducible refine (fixed_Round.calls a0 a2 t166 t167 _ A33.out).mono ?_); rintro e w' ⟨rfl, ⟨nd, rfl⟩⟩; refine ⟨_, rfl, ?_⟩) | ((with_reducible refine gate_callee (f := 18) rfl ?_); refine goesL_ (some 145) rfl rfl Try.func18 (by kernel_rfl) rfl #[.int .i64 a0, .int .i64 ji40] rfl (by (try simp only [List.map_toArray, List.map_cons, List.map_nil]); first | done | (simp only [hji40]; rfl) | rfl | (simp only [List.length_drop, List.length_take]; rfl)) ?_; (with_reducible refine (fixed_Near.calls a0 ji40 t168 t169 _ A41.out).mono ?_); rintro e w' ⟨rfl, ⟨nd, rfl⟩⟩; refine ⟨_, rfl, ?_⟩))
                                  go_ret
                                  exact ⟨by first | rfl | (simp [errW_none, errW_some] <;> rfl) | (simp only [← hji38, ← hji40]; first | rfl | (simp [errW_none, errW_some] <;> rfl)) | (simp [*, errW_none, errW_some] <;> rfl), by repeat (first | (with_reducible first | exact HB.out | apply below_alloc | apply pw_below_drewN | apply below_drew1) | exact HB.out)⟩
                              · rw [if_neg c42] at H
                                have c42b0 : (t166 == t168) = false := beq_eq_false_iff_ne.mpr c42
                                have c42b1 : (t166 != t168) = true := bne_iff_ne.mpr c42
                                obtain rfl := Option.some.inj H
                                go_wp2_with (first | ((with_reducible refine gate_callee (f := 20) rfl ?_); refine goesL_ (some 125) rfl rfl Try.func20 (by kernel_rfl) rfl #[.int .i64 a0, .int .i64 a2] rfl (by (try simp only [List.map_toArray, List.map_cons, List.map_nil]); first | done | rfl | (simp only [List.length_drop, List.length_take]; rfl)) ?_; (with_reducible refine (fixed_Round.calls a0 a2 t166 t167 _ A33.out).mono ?_); rintro e w' ⟨rfl, ⟨nd, rfl⟩⟩; refine ⟨_, rfl, ?_⟩) | ((with_reducible refine gate_callee (f := 18) rfl ?_); refine goesL_ (some 145) rfl rfl Try.func18 (by kernel_rfl) rfl #[.int .i64 a0, .int .i64 ji40] rfl (by (try simp only [List.map_toArray, List.map_cons, List.map_nil]); first | done | (simp only [hji40]; rfl) | rfl | (simp only [List.length_drop, List.length_take]; rfl)) ?_; (with_reducible refine (fixed_Near.calls a0 ji40 t168 t169 _ A41.out).mono ?_); rintro e w' ⟨rfl, ⟨nd, rfl⟩⟩; refine ⟨_, rfl, ?_⟩))
                                go_ret
                                exact ⟨by first | rfl | (simp [errW_none, errW_some] <;> rfl) | (simp only [← hji38, ← hji40]; first | rfl | (simp [errW_none, errW_some] <;> rfl)) | (simp [*, errW_none, errW_some] <;> rfl), by repeat (first | (with_reducible first | exact HB.out | apply below_alloc | apply pw_below_drewN | apply below_drew1) | exact HB.out)⟩
                            · rw [if_neg c39] at H
                              exact absurd H (by simp)
            · rw [if_neg c22] at H
              have c22b0 : (t159 == t161) = false := beq_eq_false_iff_ne.mpr c22
              have c22b1 : (t159 != t161) = true := bne_iff_ne.mpr c22
              have HC44 := Aside0.mk H
              clear H
              go_upto_region 10 with (fail)
              go_cut [104] (fun v104 wc => ∃ (kq : Nat) (x104_43 : Bool), v104 = .bool x104_43 ∧ Aside0 (heraldlaw02_FixedNearest.j3 kq a0 a1 a2 t159 x104_43 = some r) ∧ Aside0 (kq ≤ kj11) ∧ Aside0 (Below w.heap.size w wc))
              case first =>
                have H := HC44.out
                clear HC44
                by_cases c45 : t162 < (wrap64 (a1 - t162))
                · rw [if_pos c45] at H
                  have c45b0 : decide (t162 < (wrap64 (a1 - t162))) = true := decide_eq_true c45
                  clear c45
                  (first | rw [c45b0] | (simp only [i64_w, i32_w]; rw [c45b0]) | skip)
                  have H' := Aside0.mk H
                  clear H
                  go_wp2
                  go_meet
                  case rel => exact ⟨_, (true), (by first | rfl | (simp; done) | (simp [*]; done)), H', ⟨by have := HJ11.out; first | omega | exact Nat.le_refl _⟩, ⟨by repeat (first | (with_reducible first | exact HB.out | apply below_alloc | apply pw_below_drewN | apply below_drew1) | exact HB.out)⟩⟩
                · rw [if_neg c45] at H
                  have c45b0 : decide (t162 < (wrap64 (a1 - t162))) = false := decide_eq_false c45
                  clear c45
                  (first | rw [c45b0] | (simp only [i64_w, i32_w]; rw [c45b0]) | skip)
                  by_cases c46 : t162 = (wrap64 (a1 - t162))
                  · rw [if_pos c46] at H
                    have c46b0 : (t162 == (wrap64 (a1 - t162))) = true := beq_iff_eq.mpr c46
                    have c46b1 : (t162 != (wrap64 (a1 - t162))) = false := bne_eq_false_iff_eq.mpr c46
                    clear c46
                    by_cases c47 : (Int.tmod t159 2) = 0
                    · rw [if_pos c47] at H
                      have c47b0 : ((Int.tmod t159 2) == 0) = true := beq_iff_eq.mpr c47
                      have c47b1 : ((Int.tmod t159 2) != 0) = false := bne_eq_false_iff_eq.mpr c47
                      clear c47
                      have H' := Aside0.mk H
                      clear H
                      go_wp2
                      go_meet
                      case rel => exact ⟨_, (false), (by first | rfl | (simp; done) | (simp [*]; done)), H', ⟨by have := HJ11.out; first | omega | exact Nat.le_refl _⟩, ⟨by repeat (first | (with_reducible first | exact HB.out | apply below_alloc | apply pw_below_drewN | apply below_drew1) | exact HB.out)⟩⟩
                    · rw [if_neg c47] at H
                      have c47b0 : ((Int.tmod t159 2) == 0) = false := beq_eq_false_iff_ne.mpr c47
                      have c47b1 : ((Int.tmod t159 2) != 0) = true := bne_iff_ne.mpr c47
                      have H' := Aside0.mk H
                      clear H
                      go_wp2
                      go_meet
                      case rel => exact ⟨_, (true), (by first | rfl | (simp; done) | (simp [*]; done)), H', ⟨by have := HJ11.out; first | omega | exact Nat.le_refl _⟩, ⟨by repeat (first | (with_reducible first | exact HB.out | apply below_alloc | apply pw_below_drewN | apply below_drew1) | exact HB.out)⟩⟩
                  · rw [if_neg c46] at H
                    have c46b0 : (t162 == (wrap64 (a1 - t162))) = false := beq_eq_false_iff_ne.mpr c46
                    have c46b1 : (t162 != (wrap64 (a1 - t162))) = true := bne_iff_ne.mpr c46
                    have H' := Aside0.mk H
                    clear H
                    go_wp2
                    go_meet
                    case rel => exact ⟨_, (false), (by first | rfl | (simp; done) | (simp [*]; done)), H', ⟨by have := HJ11.out; first | omega | exact Nat.le_refl _⟩, ⟨by repeat (first | (with_reducible first | exact HB.out | apply below_alloc | apply pw_below_drewN | apply below_drew1) | exact HB.out)⟩⟩
              case rest =>
                clear HC44
                try clear c1
                try clear c2
                try clear p2
                try clear c3
                try clear c4
                try clear c5
                try clear p6
                try clear c7
                try clear c7b0
                try clear c8
                try clear c8b0
                try clear c8b1
                try clear c14
                try clear c14b0
                try clear c14b1
                try clear c15
                try clear c15b0
                try clear c15b1
                try clear c16
                try clear c16b0
                try clear c17
                try clear c17b0
                try clear c18
                try clear c18b0
                try clear c19
                try clear c19b0
                try clear c20
                try clear c20b0
                try clear c20b1
                try clear c21
                try clear c22
                try clear c22b0
                try clear c22b1
                try clear c24
                try clear c24b0
                try clear c25
                try clear c25b0
                try clear c25b1
                try clear c26
                try clear c26b0
                try clear c26b1
                try clear c27
                try clear c29
                try clear c29b0
                try clear c31
                try clear c31b0
                try clear c31b1
                try clear c32
                try clear c32b0
                try clear c32b1
                try clear c34
                try clear c34b0
                try clear c35
                try clear c35b0
                try clear c35b1
                try clear c36
                try clear c36b0
                try clear c37
                try clear c37b0
                try clear c37b1
                try clear c39
                try clear c39b0
                try clear c39b1
                try clear c42
                try clear c42b0
                try clear c42b1
                try clear c43
                try clear c43b0
                try clear c43b1
                try clear c45
                try clear c45b0
                try clear c46
                try clear c46b0
                try clear c46b1
                try clear c47
                try clear c47b0
                try clear c47b1
                try clear p2
                try clear p6
                obtain ⟨kq, x104_43, rfl, HA, HJ43, HB⟩ := hcut
                cases kq with
                | zero => exact absurd HA.out (by simp [heraldlaw02_FixedNearest.j3])
                | succ kj43 =>
                  have H := HA.out
                  clear HA
                  simp only [heraldlaw02_FixedNearest.j3] at H
                  by_cases c48 : x104_43 = true
                  · subst c48
                    have H1 : (some false) = some r := by rw [if_pos rfl] at H; exact H
                    clear H
                    have H := H1
                    clear H1
                    obtain rfl := Option.some.inj H
                    go_wp2
                    go_ret
                    exact ⟨by first | rfl | (simp [errW_none, errW_some] <;> rfl) | (simp [*, errW_none, errW_some] <;> rfl), by repeat (first | (with_reducible first | exact HB.out | apply below_alloc | apply pw_below_drewN | apply below_drew1) | exact HB.out)⟩
                  · replace c48 := Bool.eq_false_iff.mpr c48
                    subst c48
                    have H1 : (if a0 > (-9223372036854775808) then ((fixed_Near.f (wrap64 (-a0)) a1).bind fun bt170 => (if bt170.1 = (wrap64 (-t159)) then (if bt170.2 = 0 then (heraldlaw02_FixedNearest.j4 kj43 a0 a2) else (some false)) else (some false))) else (heraldlaw02_FixedNearest.j4 kj43 a0 a2)) = some r := by rw [if_neg (show ¬ (false = true) by decide)] at H; exact H
                    clear H
                    have H := H1
                    clear H1
                    have HC49 := Aside0.mk H
                    clear H
                    go_upto_if 106 with (fail)
                    go_cut [] (fun wc => ∃ (kq : Nat), Aside0 (heraldlaw02_FixedNearest.j4 kq a0 a2 = some r) ∧ Aside0 (kq ≤ kj43) ∧ Aside0 (Below w.heap.size w wc))
                    case first =>
                      have H := HC49.out
                      clear HC49
                      by_cases c50 : a0 > (-9223372036854775808)
                      · rw [if_pos c50] at H
                        have c50b0 : decide ((-9223372036854775808) < a0) = true := decide_eq_true c50
                        clear c50
                        (first | rw [c50b0] | (simp only [i64_w, i32_w]; rw [c50b0]) | skip)
                        replace H := Option.bind_eq_some_iff.mp H
                        obtain ⟨⟨t170, t171⟩, A510, H⟩ := H
                        replace H : (if t170 = (wrap64 (-t159)) then (if t171 = 0 then (heraldlaw02_FixedNearest.j4 kj43 a0 a2) else (some false)) else (some false)) = some r := H
                        have A51 := Aside0.mk A510
                        clear A510
                        by_cases c52 : t170 = (wrap64 (-t159))
                        · rw [if_pos c52] at H
                          have c52b0 : (t170 == (wrap64 (-t159))) = true := beq_iff_eq.mpr c52
                          have c52b1 : (t170 != (wrap64 (-t159))) = false := bne_eq_false_iff_eq.mpr c52
                          clear c52
                          by_cases c53 : t171 = 0
                          · rw [if_pos c53] at H
                            have c53b0 : (t171 == 0) = true := beq_iff_eq.mpr c53
                            have c53b1 : (t171 != 0) = false := bne_eq_false_iff_eq.mpr c53
                            clear c53
                            have H' := Aside0.mk H
                            clear H
                            go_wp2_with (first | ((with_reducible refine gate_callee (f := 18) rfl ?_); refine goesL_ (some 111) rfl rfl Try.func18 (by kernel_rfl) rfl #[.int .i64 (wrap64 (-a0)), .int .i64 a1] rfl (by (try simp only [List.map_toArray, List.map_cons, List.map_nil]); first | done | rfl | (simp only [List.length_drop, List.length_take]; rfl)) ?_; (with_reducible refine (fixed_Near.calls (wrap64 (-a0)) a1 t170 t171 _ A51.out).mono ?_); rintro e w' ⟨rfl, ⟨nd, rfl⟩⟩; refine ⟨_, rfl, ?_⟩))
                            go_meet
                            case rel => exact ⟨_, H', ⟨by have := HJ11.out; have := HJ43.out; first | omega | exact Nat.le_refl _⟩, ⟨by repeat (first | (with_reducible first | exact HB.out | apply below_alloc | apply pw_below_drewN | apply below_drew1) | exact HB.out)⟩⟩
                          · rw [if_neg c53] at H
                            have c53b0 : (t171 == 0) = false := beq_eq_false_iff_ne.mpr c53
                            have c53b1 : (t171 != 0) = true := bne_iff_ne.mpr c53
                            obtain rfl := Option.some.inj H
                            go_wp2_with (first | ((with_reducible refine gate_callee (f := 18) rfl ?_); refine goesL_ (some 111) rfl rfl Try.func18 (by kernel_rfl) rfl #[.int .i64 (wrap64 (-a0)), .int .i64 a1] rfl (by (try simp only [List.map_toArray, List.map_cons, List.map_nil]); first | done | rfl | (simp only [List.length_drop, List.length_take]; rfl)) ?_; (with_reducible refine (fixed_Near.calls (wrap64 (-a0)) a1 t170 t171 _ A51.out).mono ?_); rintro e w' ⟨rfl, ⟨nd, rfl⟩⟩; refine ⟨_, rfl, ?_⟩))
                            go_ret
                            exact ⟨by first | rfl | (simp [errW_none, errW_some] <;> rfl) | (simp [*, errW_none, errW_some] <;> rfl), by repeat (first | (with_reducible first | exact HB.out | apply below_alloc | apply pw_below_drewN | apply below_drew1) | exact HB.out)⟩
                        · rw [if_neg c52] at H
                          have c52b0 : (t170 == (wrap64 (-t159))) = false := beq_eq_false_iff_ne.mpr c52
                          have c52b1 : (t170 != (wrap64 (-t159))) = true := bne_iff_ne.mpr c52
                          obtain rfl := Option.some.inj H
                          go_wp2_with (first | ((with_reducible refine gate_callee (f := 18) rfl ?_); refine goesL_ (some 111) rfl rfl Try.func18 (by kernel_rfl) rfl #[.int .i64 (wrap64 (-a0)), .int .i64 a1] rfl (by (try simp only [List.map_toArray, List.map_cons, List.map_nil]); first | done | rfl | (simp only [List.length_drop, List.length_take]; rfl)) ?_; (with_reducible refine (fixed_Near.calls (wrap64 (-a0)) a1 t170 t171 _ A51.out).mono ?_); rintro e w' ⟨rfl, ⟨nd, rfl⟩⟩; refine ⟨_, rfl, ?_⟩))
                          go_ret
                          exact ⟨by first | rfl | (simp [errW_none, errW_some] <;> rfl) | (simp [*, errW_none, errW_some] <;> rfl), by repeat (first | (with_reducible first | exact HB.out | apply below_alloc | apply pw_below_drewN | apply below_drew1) | exact HB.out)⟩
                      · rw [if_neg c50] at H
                        have c50b0 : decide ((-9223372036854775808) < a0) = false := decide_eq_false c50
                        clear c50
                        (first | rw [c50b0] | (simp only [i64_w, i32_w]; rw [c50b0]) | skip)
                        have H' := Aside0.mk H
                        clear H
                        go_wp2
                        go_meet
                        case rel => exact ⟨_, H', ⟨by have := HJ11.out; have := HJ43.out; first | omega | exact Nat.le_refl _⟩, ⟨by repeat (first | (with_reducible first | exact HB.out | apply below_alloc | apply pw_below_drewN | apply below_drew1) | exact HB.out)⟩⟩
                    case rest =>
                      clear HC49
                      try clear c1
                      try clear c2
                      try clear p2
                      try clear c3
                      try clear c4
                      try clear c5
                      try clear p6
                      try clear c7
                      try clear c7b0
                      try clear c8
                      try clear c8b0
                      try clear c8b1
                      try clear c14
                      try clear c14b0
                      try clear c14b1
                      try clear c15
                      try clear c15b0
                      try clear c15b1
                      try clear c16
                      try clear c16b0
                      try clear c17
                      try clear c17b0
                      try clear c18
                      try clear c18b0
                      try clear c19
                      try clear c19b0
                      try clear c20
                      try clear c20b0
                      try clear c20b1
                      try clear c21
                      try clear c22
                      try clear c22b0
                      try clear c22b1
                      try clear c24
                      try clear c24b0
                      try clear c25
                      try clear c25b0
                      try clear c25b1
                      try clear c26
                      try clear c26b0
                      try clear c26b1
                      try clear c27
                      try clear c29
                      try clear c29b0
                      try clear c31
                      try clear c31b0
                      try clear c31b1
                      try clear c32
                      try clear c32b0
                      try clear c32b1
                      try clear c34
                      try clear c34b0
                      try clear c35
                      try clear c35b0
                      try clear c35b1
                      try clear c36
                      try clear c36b0
                      try clear c37
                      try clear c37b0
                      try clear c37b1
                      try clear c39
                      try clear c39b0
                      try clear c39b1
                      try clear c42
                      try clear c42b0
                      try clear c42b1
                      try clear c43
                      try clear c43b0
                      try clear c43b1
                      try clear c45
                      try clear c45b0
                      try clear c46
                      try clear c46b0
                      try clear c46b1
                      try clear c47
                      try clear c47b0
                      try clear c47b1
                      try clear c48
                      try clear c50
                      try clear c50b0
                      try clear c52
                      try clear c52b0
                      try clear c52b1
                      try clear c53
                      try clear c53b0
                      try clear c53b1
                      try clear p2
                      try clear p6
                      obtain ⟨kq, HA, HJ48, HB⟩ := hcut
                      cases kq with
                      | zero => exact absurd HA.out (by simp [heraldlaw02_FixedNearest.j4])
                      | succ kj48 =>
                        have H := HA.out
                        clear HA
                        simp only [heraldlaw02_FixedNearest.j4] at H
                        replace H := Option.bind_eq_some_iff.mp H
                        obtain ⟨⟨t172, t173⟩, A540, H⟩ := H
                        replace H : (if a2 < 0 then (if t172 = 0 then (some (t173 == 20)) else (some false)) else (if a2 > 62 then (if t172 = 0 then (some (t173 == 20)) else (some false)) else (if 0 ≤ (IntKind.u64.wrap (a2)) then ((fixed_Near.f a0 (shl .i64 1 (IntKind.u64.wrap (a2)))).bind fun bt174 => (if t172 = bt174.1 then (if t173 = 0 then (some (bt174.2 == 0)) else (some false)) else (some false))) else (none)))) = some r := H
                        have A54 := Aside0.mk A540
                        clear A540
                        by_cases c55 : a2 < 0
                        · rw [if_pos c55] at H
                          have c55b0 : decide (a2 < 0) = true := decide_eq_true c55
                          clear c55
                          by_cases c56 : t172 = 0
                          · rw [if_pos c56] at H
                            have c56b0 : (t172 == 0) = true := beq_iff_eq.mpr c56
                            have c56b1 : (t172 != 0) = false := bne_eq_false_iff_eq.mpr c56
                            clear c56
                            obtain rfl := Option.some.inj H
                            go_wp2_with (first | ((with_reducible refine gate_callee (f := 20) rfl ?_); refine goesL_ (some 125) rfl rfl Try.func20 (by kernel_rfl) rfl #[.int .i64 a0, .int .i64 a2] rfl (by (try simp only [List.map_toArray, List.map_cons, List.map_nil]); first | done | rfl | (simp only [List.length_drop, List.length_take]; rfl)) ?_; (with_reducible refine (fixed_Round.calls a0 a2 t172 t173 _ A54.out).mono ?_); rintro e w' ⟨rfl, ⟨nd, rfl⟩⟩; refine ⟨_, rfl, ?_⟩))
                            go_ret
                            exact ⟨by first | rfl | (simp [errW_none, errW_some] <;> rfl) | (simp [*, errW_none, errW_some] <;> rfl), by repeat (first | (with_reducible first | exact HB.out | apply below_alloc | apply pw_below_drewN | apply below_drew1) | exact HB.out)⟩
                          · rw [if_neg c56] at H
                            have c56b0 : (t172 == 0) = false := beq_eq_false_iff_ne.mpr c56
                            have c56b1 : (t172 != 0) = true := bne_iff_ne.mpr c56
                            obtain rfl := Option.some.inj H
                            go_wp2_with (first | ((with_reducible refine gate_callee (f := 20) rfl ?_); refine goesL_ (some 125) rfl rfl Try.func20 (by kernel_rfl) rfl #[.int .i64 a0, .int .i64 a2] rfl (by (try simp only [List.map_toArray, List.map_cons, List.map_nil]); first | done | rfl | (simp only [List.length_drop, List.length_take]; rfl)) ?_; (with_reducible refine (fixed_Round.calls a0 a2 t172 t173 _ A54.out).mono ?_); rintro e w' ⟨rfl, ⟨nd, rfl⟩⟩; refine ⟨_, rfl, ?_⟩))
                            go_ret
                            exact ⟨by first | rfl | (simp [errW_none, errW_some] <;> rfl) | (simp [*, errW_none, errW_some] <;> rfl), by repeat (first | (with_reducible first | exact HB.out | apply below_alloc | apply pw_below_drewN | apply below_drew1) | exact HB.out)⟩
                        · rw [if_neg c55] at H
                          have c55b0 : decide (a2 < 0) = false := decide_eq_false c55
                          clear c55
                          by_cases c57 : a2 > 62
                          · rw [if_pos c57] at H
                            have c57b0 : decide (62 < a2) = true := decide_eq_true c57
                            clear c57
                            by_cases c58 : t172 = 0
                            · rw [if_pos c58] at H
                              have c58b0 : (t172 == 0) = true := beq_iff_eq.mpr c58
                              have c58b1 : (t172 != 0) = false := bne_eq_false_iff_eq.mpr c58
                              clear c58
                              obtain rfl := Option.some.inj H
                              go_wp2_with (first | ((with_reducible refine gate_callee (f := 20) rfl ?_); refine goesL_ (some 125) rfl rfl Try.func20 (by kernel_rfl) rfl #[.int .i64 a0, .int .i64 a2] rfl (by (try simp only [List.map_toArray, List.map_cons, List.map_nil]); first | done | rfl | (simp only [List.length_drop, List.length_take]; rfl)) ?_; (with_reducible refine (fixed_Round.calls a0 a2 t172 t173 _ A54.out).mono ?_); rintro e w' ⟨rfl, ⟨nd, rfl⟩⟩; refine ⟨_, rfl, ?_⟩))
                              go_ret
                              exact ⟨by first | rfl | (simp [errW_none, errW_some] <;> rfl) | (simp [*, errW_none, errW_some] <;> rfl), by repeat (first | (with_reducible first | exact HB.out | apply below_alloc | apply pw_below_drewN | apply below_drew1) | exact HB.out)⟩
                            · rw [if_neg c58] at H
                              have c58b0 : (t172 == 0) = false := beq_eq_false_iff_ne.mpr c58
                              have c58b1 : (t172 != 0) = true := bne_iff_ne.mpr c58
                              obtain rfl := Option.some.inj H
                              go_wp2_with (first | ((with_reducible refine gate_callee (f := 20) rfl ?_); refine goesL_ (some 125) rfl rfl Try.func20 (by kernel_rfl) rfl #[.int .i64 a0, .int .i64 a2] rfl (by (try simp only [List.map_toArray, List.map_cons, List.map_nil]); first | done | rfl | (simp only [List.length_drop, List.length_take]; rfl)) ?_; (with_reducible refine (fixed_Round.calls a0 a2 t172 t173 _ A54.out).mono ?_); rintro e w' ⟨rfl, ⟨nd, rfl⟩⟩; refine ⟨_, rfl, ?_⟩))
                              go_ret
                              exact ⟨by first | rfl | (simp [errW_none, errW_some] <;> rfl) | (simp [*, errW_none, errW_some] <;> rfl), by repeat (first | (with_reducible first | exact HB.out | apply below_alloc | apply pw_below_drewN | apply below_drew1) | exact HB.out)⟩
                          · rw [if_neg c57] at H
                            have c57b0 : decide (62 < a2) = false := decide_eq_false c57
                            clear c57
                            obtain ⟨ji59, hji59⟩ : ∃ j_ : Int, (IntKind.u64.wrap (a2)) = j_ := ⟨_, rfl⟩
                            replace H : (if 0 ≤ (ji59) then ((fixed_Near.f a0 (shl .i64 1 (ji59))).bind fun bt174 => (if t172 = bt174.1 then (if t173 = 0 then (some (bt174.2 == 0)) else (some false)) else (some false))) else (none)) = some r := by first | (rw [hji59] at H; exact H) | (simp only [hji59] at H ⊢; exact H)
                            (try rw [hji59] at A54)
                            by_cases c60 : 0 ≤ (ji59)
                            · rw [if_pos c60] at H
                              have c60b0 := eq_true c60
                              have c60b1 : decide (0 ≤ (ji59)) = true := decide_eq_true c60
                              clear c60
                              obtain ⟨ji61, hji61⟩ : ∃ j_ : Int, (shl .i64 1 (ji59)) = j_ := ⟨_, rfl⟩
                              replace H : ((fixed_Near.f a0 (ji61)).bind fun bt174 => (if t172 = bt174.1 then (if t173 = 0 then (some (bt174.2 == 0)) else (some false)) else (some false))) = some r := by first | (rw [hji61] at H; exact H) | (simp only [hji61] at H ⊢; exact H)
                              (try rw [hji61] at A54)
                              have hji61_ : (IntKind.i64.wrap (1 * 2 ^ min (ji59).toNat 64)) = ji61 := hji61
                              have hji61z : (ji59) ≤ 64 → (IntKind.i64.wrap (1 * 2 ^ (ji59).toNat)) = ji61 := shl_small hji61
                              have hji61u : (IntKind.i64.wrap (2 ^ min (ji59).toNat 64)) = ji61 := by have h_ := hji61_; rw [Int.one_mul] at h_; exact h_
                              have hji61v : (ji59) ≤ 64 → (IntKind.i64.wrap (2 ^ (ji59).toNat)) = ji61 := fun hle_ => by have h_ := hji61z hle_; rw [Int.one_mul] at h_; exact h_
                              have hji61y : (wrap64 (1 * 2 ^ min (ji59).toNat 64)) = ji61 := (i64_w _).symm.trans hji61_
                              have hji61x : (ji59) ≤ 64 → (wrap64 (1 * 2 ^ (ji59).toNat)) = ji61 := fun h_ => (i64_w _).symm.trans (hji61z h_)
                              replace H := Option.bind_eq_some_iff.mp H
                              obtain ⟨⟨t174, t175⟩, A620, H⟩ := H
                              replace H : (if t172 = t174 then (if t173 = 0 then (some (t175 == 0)) else (some false)) else (some false)) = some r := H
                              have A62 := Aside0.mk A620
                              clear A620
                              by_cases c63 : t172 = t174
                              · rw [if_pos c63] at H
                                have c63b0 : (t172 == t174) = true := beq_iff_eq.mpr c63
                                have c63b1 : (t172 != t174) = false := bne_eq_false_iff_eq.mpr c63
                                clear c63
                                by_cases c64 : t173 = 0
                                · rw [if_pos c64] at H
                                  have c64b0 : (t173 == 0) = true := beq_iff_eq.mpr c64
                                  have c64b1 : (t173 != 0) = false := bne_eq_false_iff_eq.mpr c64
                                  clear c64
                                  obtain rfl := Option.some.inj H
                                  go_wp2_with (first | ((with_reducible refine gate_callee (f := 20) rfl ?_); refine goesL_ (some 125) rfl rfl Try.func20 (by kernel_rfl) rfl #[.int .i64 a0, .int .i64 a2] rfl (by (try simp only [List.map_toArray, List.map_cons, List.map_nil]); first | done | rfl | (simp only [List.length_drop, List.length_take]; rfl)) ?_; (with_reducible refine (fixed_Round.calls a0 a2 t172 t173 _ A54.out).mono ?_); rintro e w' ⟨rfl, ⟨nd, rfl⟩⟩; refine ⟨_, rfl, ?_⟩) | ((with_reducible refine gate_callee (f := 18) rfl ?_); refine goesL_ (some 145) rfl rfl Try.func18 (by kernel_rfl) rfl #[.int .i64 a0, .int .i64 ji61] rfl (by (try simp only [List.map_toArray, List.map_cons, List.map_nil]); first | done | (simp only [hji61]; rfl) | rfl | (simp only [List.length_drop, List.length_take]; rfl)) ?_; (with_reducible refine (fixed_Near.calls a0 ji61 t174 t175 _ A62.out).mono ?_); rintro e w' ⟨rfl, ⟨nd, rfl⟩⟩; refine ⟨_, rfl, ?_⟩))
                                  go_ret
                                  exact ⟨by first | rfl | (simp [errW_none, errW_some] <;> rfl) | (simp only [← hji59, ← hji61]; first | rfl | (simp [errW_none, errW_some] <;> rfl)) | (simp [*, errW_none, errW_some] <;> rfl), by repeat (first | (with_reducible first | exact HB.out | apply below_alloc | apply pw_below_drewN | apply below_drew1) | exact HB.out)⟩
                                · rw [if_neg c64] at H
                                  have c64b0 : (t173 == 0) = false := beq_eq_false_iff_ne.mpr c64
                                  have c64b1 : (t173 != 0) = true := bne_iff_ne.mpr c64
                                  obtain rfl := Option.some.inj H
                                  go_wp2_with (first | ((with_reducible refine gate_callee (f := 20) rfl ?_); refine goesL_ (some 125) rfl rfl Try.func20 (by kernel_rfl) rfl #[.int .i64 a0, .int .i64 a2] rfl (by (try simp only [List.map_toArray, List.map_cons, List.map_nil]); first | done | rfl | (simp only [List.length_drop, List.length_take]; rfl)) ?_; (with_reducible refine (fixed_Round.calls a0 a2 t172 t173 _ A54.out).mono ?_); rintro e w' ⟨rfl, ⟨nd, rfl⟩⟩; refine ⟨_, rfl, ?_⟩) | ((with_reducible refine gate_callee (f := 18) rfl ?_); refine goesL_ (some 145) rfl rfl Try.func18 (by kernel_rfl) rfl #[.int .i64 a0, .int .i64 ji61] rfl (by (try simp only [List.map_toArray, List.map_cons, List.map_nil]); first | done | (simp only [hji61]; rfl) | rfl | (simp only [List.length_drop, List.length_take]; rfl)) ?_; (with_reducible refine (fixed_Near.calls a0 ji61 t174 t175 _ A62.out).mono ?_); rintro e w' ⟨rfl, ⟨nd, rfl⟩⟩; refine ⟨_, rfl, ?_⟩))
                                  go_ret
                                  exact ⟨by first | rfl | (simp [errW_none, errW_some] <;> rfl) | (simp only [← hji59, ← hji61]; first | rfl | (simp [errW_none, errW_some] <;> rfl)) | (simp [*, errW_none, errW_some] <;> rfl), by repeat (first | (with_reducible first | exact HB.out | apply below_alloc | apply pw_below_drewN | apply below_drew1) | exact HB.out)⟩
                              · rw [if_neg c63] at H
                                have c63b0 : (t172 == t174) = false := beq_eq_false_iff_ne.mpr c63
                                have c63b1 : (t172 != t174) = true := bne_iff_ne.mpr c63
                                obtain rfl := Option.some.inj H
                                go_wp2_with (first | ((with_reducible refine gate_callee (f := 20) rfl ?_); refine goesL_ (some 125) rfl rfl Try.func20 (by kernel_rfl) rfl #[.int .i64 a0, .int .i64 a2] rfl (by (try simp only [List.map_toArray, List.map_cons, List.map_nil]); first | done | rfl | (simp only [List.length_drop, List.length_take]; rfl)) ?_; (with_reducible refine (fixed_Round.calls a0 a2 t172 t173 _ A54.out).mono ?_); rintro e w' ⟨rfl, ⟨nd, rfl⟩⟩; refine ⟨_, rfl, ?_⟩) | ((with_reducible refine gate_callee (f := 18) rfl ?_); refine goesL_ (some 145) rfl rfl Try.func18 (by kernel_rfl) rfl #[.int .i64 a0, .int .i64 ji61] rfl (by (try simp only [List.map_toArray, List.map_cons, List.map_nil]); first | done | (simp only [hji61]; rfl) | rfl | (simp only [List.length_drop, List.length_take]; rfl)) ?_; (with_reducible refine (fixed_Near.calls a0 ji61 t174 t175 _ A62.out).mono ?_); rintro e w' ⟨rfl, ⟨nd, rfl⟩⟩; refine ⟨_, rfl, ?_⟩))
                                go_ret
                                exact ⟨by first | rfl | (simp [errW_none, errW_some] <;> rfl) | (simp only [← hji59, ← hji61]; first | rfl | (simp [errW_none, errW_some] <;> rfl)) | (simp [*, errW_none, errW_some] <;> rfl), by repeat (first | (with_reducible first | exact HB.out | apply below_alloc | apply pw_below_drewN | apply below_drew1) | exact HB.out)⟩
                            · rw [if_neg c60] at H
                              exact absurd H (by simp)
  · replace c5 := Bool.eq_false_iff.mpr c5
    subst c5
    have H1 : (some false) = some r := by rw [if_neg (show ¬ (false = true) by decide)] at H; exact H
    clear H
    have H := H1
    clear H1
    obtain rfl := Option.some.inj H
    go_enter Try.func7, Try.ntmps7
    go_wp2_with (first | ((with_reducible refine gate_callee (f := 15) rfl ?_); refine goesL_ (some 17) rfl rfl Try.func15 (by kernel_rfl) rfl #[] rfl (by (try simp only [List.map_toArray, List.map_cons, List.map_nil]); first | done | rfl | (simp only [List.length_drop, List.length_take]; rfl)) ?_; (with_reducible refine (heraldlaw02_awake.calls k  false _ A4.out).mono ?_); rintro e w65 ⟨rfl, hb⟩; refine ⟨_, rfl, ?_⟩; have n0_ := Aside0.mk (below_step (by repeat (first | (with_reducible first | exact HB.out | apply below_alloc | apply pw_below_drewN | apply below_drew1) | exact HB.out)) hb); clear HB; have HB := n0_; clear n0_; (try clear hb); (try clear hb2); (try clear hk); (try clear hi)))
    go_ret
    exact ⟨by first | rfl | (simp [errW_none, errW_some] <;> rfl) | (simp [*, errW_none, errW_some] <;> rfl), by repeat (first | (with_reducible first | exact HB.out | apply below_alloc | apply pw_below_drewN | apply below_drew1) | exact HB.out)⟩

/-- THE ONE PURE STATEMENT of heraldlaw02_FixedNearest: yours. -/
def heraldlaw02_FixedNearest.Pure : Prop := ∀ (a0 : Int) (a1 : Int) (a2 : Int), (Lit.int .i64 a0).wf = true → (Lit.int .i64 a1).wf = true → (Lit.int .i64 a2).wf = true → ∃ k, heraldlaw02_FixedNearest.f k a0 a1 a2 = some true
theorem heraldlaw02_FixedNearest.walk (P : heraldlaw02_FixedNearest.Pure) (a0 : Int) (a1 : Int) (a2 : Int) (w : World) (w0 : (Lit.int .i64 a0).wf = true) (w1 : (Lit.int .i64 a1).wf = true) (w2 : (Lit.int .i64 a2).wf = true) :
    Calls Try.prog 7 #[.int .i64 a0, .int .i64 a1, .int .i64 a2] w fun e w' => e = .returned (.bool true) ∧ Below w.heap.size w w' := by
  obtain ⟨k, h⟩ := P a0 a1 a2 w0 w1 w2
  refine (heraldlaw02_FixedNearest.calls k a0 a1 a2 true w h).mono ?_
  rintro e w' ⟨rfl, hd⟩
  exact ⟨rfl, hd⟩

end Go.Proofs.Ytbldlfmblalchaa.P
