-- Printed by xprint.py (wip): functions, contracts, rows. Lean checks it.
import Derived.Test.YtbldlfmblalchaaPx0
import Derived.Test.YtbldlfmblalchaaPx7
import Derived.Test.YtbldlfmblalchaaPx13
import Derived.Test.YtbldlfmblalchaaPx17
namespace Go.Proofs.Ytbldlfmblalchaa.P
open Go.RowKit Go.Proofs.YtbldlfmblalchaaW.PrintWords Go.Proofs.YtbldlfmblalchaaW.PrintLast Go.Proofs.YtbldlfmblalchaaW.PrintMore
attribute [local go_sem] max2_int min2_int max_two min_two max_three min_three max_four min_four   -- for this text's walks alone
set_option linter.unusedVariables false
set_option linter.unusedSimpArgs false

/-! ### heraldlaw02_FixedProducts: function 14 -/
def heraldlaw02_FixedProducts.f (k : Nat) (a0 : Int) (a1 : Int) (a2 : Int) : Option (Bool) := (heraldlaw02_awake.f k).bind fun t151 => (if t151 = true then ((fixed_MulDiv.f k a0 a1 a2).bind fun bt152 => ((heraldref02_MulDiv.f k a0 a1 a2).bind fun bt154 => (if bt152.1 = bt154.1 then (if bt152.2 = bt154.2 then ((fixed_MulDiv.f k a0 a2 a2).bind fun bt156 => (if a2 < 1 then (some true) else (if bt156.1 = a0 then (some (bt156.2 == 0)) else (none)))) else (none)) else (none)))) else (none))
theorem heraldlaw02_FixedProducts.mono : ∀ a0 a1 a2 k, LeO (heraldlaw02_FixedProducts.f k a0 a1 a2) (heraldlaw02_FixedProducts.f (k + 1) a0 a1 a2) := by
  intro a0 a1 a2 k
  unfold heraldlaw02_FixedProducts.f
  repeat' first
      | (with_reducible exact fixed_MulDiv.mono _ _ _ _)
      | (with_reducible exact heraldlaw02_awake.mono _)
      | (with_reducible exact heraldref02_MulDiv.mono _ _ _ _)
      | (with_reducible exact LeO.refl _)
      | (with_reducible exact LeO.none _)
      | (with_reducible refine LeO.ite ?_ ?_)
      | (with_reducible refine LeO.bind ?_ (fun _ => ?_))
      | exact fixed_MulDiv.mono _ _ _ _
      | exact heraldlaw02_awake.mono _
      | exact heraldref02_MulDiv.mono _ _ _ _
      | exact LeO.none _
      | refine LeO.ite ?_ ?_
      | refine LeO.bind ?_ (fun _ => ?_)
set_option maxHeartbeats 8000000 in
set_option maxRecDepth 100000 in
theorem heraldlaw02_FixedProducts.calls (k : Nat) (a0 : Int) (a1 : Int) (a2 : Int) (r : Bool) (w : World) (h : heraldlaw02_FixedProducts.f k a0 a1 a2 = some r) :
    Calls Try.prog 14 #[.int .i64 a0, .int .i64 a1, .int .i64 a2] w fun e w' => e = .returned (.bool r) ∧ Below w.heap.size w w' := by
 have HB := ym (Below.refl w.heap.size w)
 have H : ((heraldlaw02_awake.f k).bind fun t151 => (if t151 = true then ((fixed_MulDiv.f k a0 a1 a2).bind fun bt152 => ((heraldref02_MulDiv.f k a0 a1 a2).bind fun bt154 => (if bt152.1 = bt154.1 then (if bt152.2 = bt154.2 then ((fixed_MulDiv.f k a0 a2 a2).bind fun bt156 => (if a2 < 1 then (some true) else (if bt156.1 = a0 then (some (bt156.2 == 0)) else (none)))) else (none)) else (none)))) else (none))) = some r := h
 clear h
 replace H := Option.bind_eq_some_iff.mp H
 obtain ⟨t151, A40, H⟩ := H
 replace H : (if t151 = true then ((fixed_MulDiv.f k a0 a1 a2).bind fun bt152 => ((heraldref02_MulDiv.f k a0 a1 a2).bind fun bt154 => (if bt152.1 = bt154.1 then (if bt152.2 = bt154.2 then ((fixed_MulDiv.f k a0 a2 a2).bind fun bt156 => (if a2 < 1 then (some true) else (if bt156.1 = a0 then (some (bt156.2 == 0)) else (none)))) else (none)) else (none)))) else (none)) = some r := H
 have A4 := ym A40
 clear A40
 by_cases c5 : t151 = true
 ·
  subst c5
  have H1 : ((fixed_MulDiv.f k a0 a1 a2).bind fun bt152 => ((heraldref02_MulDiv.f k a0 a1 a2).bind fun bt154 => (if bt152.1 = bt154.1 then (if bt152.2 = bt154.2 then ((fixed_MulDiv.f k a0 a2 a2).bind fun bt156 => (if a2 < 1 then (some true) else (if bt156.1 = a0 then (some (bt156.2 == 0)) else (none)))) else (none)) else (none)))) = some r := by rw [if_pos rfl] at H; exact H
  clear H
  have H := H1
  clear H1
  replace H := Option.bind_eq_some_iff.mp H
  obtain ⟨⟨t152, t153⟩, A60, H⟩ := H
  replace H : ((heraldref02_MulDiv.f k a0 a1 a2).bind fun bt154 => (if t152 = bt154.1 then (if t153 = bt154.2 then ((fixed_MulDiv.f k a0 a2 a2).bind fun bt156 => (if a2 < 1 then (some true) else (if bt156.1 = a0 then (some (bt156.2 == 0)) else (none)))) else (none)) else (none))) = some r := H
  have A6 := ym A60
  clear A60
  replace H := Option.bind_eq_some_iff.mp H
  obtain ⟨⟨t154, t155⟩, A70, H⟩ := H
  replace H : (if t152 = t154 then (if t153 = t155 then ((fixed_MulDiv.f k a0 a2 a2).bind fun bt156 => (if a2 < 1 then (some true) else (if bt156.1 = a0 then (some (bt156.2 == 0)) else (none)))) else (none)) else (none)) = some r := H
  have A7 := ym A70
  clear A70
  by_cases c8 : t152 = t154
  ·
   rw [if_pos c8] at H
   have c8b0 : (t152 == t154) = true := beq_iff_eq.mpr c8
   have c8b1 : (t152 != t154) = false := bne_eq_false_iff_eq.mpr c8
   clear c8
   by_cases c9 : t153 = t155
   ·
    rw [if_pos c9] at H
    have c9b0 : (t153 == t155) = true := beq_iff_eq.mpr c9
    have c9b1 : (t153 != t155) = false := bne_eq_false_iff_eq.mpr c9
    clear c9
    replace H := Option.bind_eq_some_iff.mp H
    obtain ⟨⟨t156, t157⟩, A100, H⟩ := H
    replace H : (if a2 < 1 then (some true) else (if t156 = a0 then (some (t157 == 0)) else (none))) = some r := H
    have A10 := ym A100
    clear A100
    by_cases c11 : a2 < 1
    ·
     rw [if_pos c11] at H
     have c11b0 : decide (a2 < 1) = true := decide_eq_true c11
     clear c11
     obtain rfl := Option.some.inj H
     go_enter Try.func14, Try.ntmps14
     go_wp2_with (first | ((with_reducible refine gate_callee (f := 15) rfl ?_); refine goesL_ (some 11) rfl rfl Try.func15 (by kernel_rfl) rfl #[] rfl (by (try simp only [List.map_toArray, List.map_cons, List.map_nil]); first | done | rfl | (simp only [List.length_drop, List.length_take]; rfl)) ?_; (with_reducible refine (heraldlaw02_awake.calls k  true _ A4.out).mono ?_); rintro e w12 ⟨rfl, hb⟩; refine ⟨_, rfl, ?_⟩; have n0_ := ym (yn (by repeat (first | (with_reducible first | exact HB.out | apply y3) | exact HB.out)) hb); clear HB; have HB := n0_; clear n0_; (try clear hb); (try clear hb2); (try clear hk); (try clear hi)) | ((with_reducible refine gate_callee (f := 44) rfl ?_); refine goesL_ (some 17) rfl rfl Try.func44 (by kernel_rfl) rfl #[.int .i64 a0, .int .i64 a1, .int .i64 a2] rfl (by (try simp only [List.map_toArray, List.map_cons, List.map_nil]); first | done | rfl | (simp only [List.length_drop, List.length_take]; rfl)) ?_; (with_reducible refine (fixed_MulDiv.calls k a0 a1 a2 t152 t153 _ A6.out).mono ?_); rintro e w' ⟨rfl, ⟨nd, rfl⟩⟩; refine ⟨_, rfl, ?_⟩) | ((with_reducible refine gate_callee (f := 45) rfl ?_); refine goesL_ (some 24) rfl rfl Try.func45 (by kernel_rfl) rfl #[.int .i64 a0, .int .i64 a1, .int .i64 a2] rfl (by (try simp only [List.map_toArray, List.map_cons, List.map_nil]); first | done | rfl | (simp only [List.length_drop, List.length_take]; rfl)) ?_; (with_reducible refine (heraldref02_MulDiv.calls k a0 a1 a2 t154 t155 _ A7.out).mono ?_); rintro e w13 ⟨rfl, hb⟩; refine ⟨_, rfl, ?_⟩; have n0_ := ym (yn (by repeat (first | (with_reducible first | exact HB.out | apply y3) | exact HB.out)) hb); clear HB; have HB := n0_; clear n0_; (try clear hb); (try clear hb2); (try clear hk); (try clear hi)) | ((with_reducible refine gate_callee (f := 44) rfl ?_); refine goesL_ (some 39) rfl rfl Try.func44 (by kernel_rfl) rfl #[.int .i64 a0, .int .i64 a2, .int .i64 a2] rfl (by (try simp only [List.map_toArray, List.map_cons, List.map_nil]); first | done | rfl | (simp only [List.length_drop, List.length_take]; rfl)) ?_; (with_reducible refine (fixed_MulDiv.calls k a0 a2 a2 t156 t157 _ A10.out).mono ?_); rintro e w' ⟨rfl, ⟨nd, rfl⟩⟩; refine ⟨_, rfl, ?_⟩))
     go_ret
     exact ⟨by first | rfl | (simp [errW_none, errW_some] <;> rfl) | (simp [*, errW_none, errW_some] <;> rfl), by repeat (first | (with_reducible first | exact HB.out | apply y3) | exact HB.out)⟩
    rw [if_neg c11] at H
    have c11b0 : decide (a2 < 1) = false := decide_eq_false c11
    clear c11
    by_cases c14 : t156 = a0
    ·
     rw [if_pos c14] at H
     have c14b0 : (t156 == a0) = true := beq_iff_eq.mpr c14
     have c14b1 : (t156 != a0) = false := bne_eq_false_iff_eq.mpr c14
     clear c14
     obtain rfl := Option.some.inj H
     go_enter Try.func14, Try.ntmps14
     go_wp2_with (first | ((with_reducible refine gate_callee (f := 15) rfl ?_); refine goesL_ (some 11) rfl rfl Try.func15 (by kernel_rfl) rfl #[] rfl (by (try simp only [List.map_toArray, List.map_cons, List.map_nil]); first | done | rfl | (simp only [List.length_drop, List.length_take]; rfl)) ?_; (with_reducible refine (heraldlaw02_awake.calls k  true _ A4.out).mono ?_); rintro e w15 ⟨rfl, hb⟩; refine ⟨_, rfl, ?_⟩; have n0_ := ym (yn (by repeat (first | (with_reducible first | exact HB.out | apply y3) | exact HB.out)) hb); clear HB; have HB := n0_; clear n0_; (try clear hb); (try clear hb2); (try clear hk); (try clear hi)) | ((with_reducible refine gate_callee (f := 44) rfl ?_); refine goesL_ (some 17) rfl rfl Try.func44 (by kernel_rfl) rfl #[.int .i64 a0, .int .i64 a1, .int .i64 a2] rfl (by (try simp only [List.map_toArray, List.map_cons, List.map_nil]); first | done | rfl | (simp only [List.length_drop, List.length_take]; rfl)) ?_; (with_reducible refine (fixed_MulDiv.calls k a0 a1 a2 t152 t153 _ A6.out).mono ?_); rintro e w' ⟨rfl, ⟨nd, rfl⟩⟩; refine ⟨_, rfl, ?_⟩) | ((with_reducible refine gate_callee (f := 45) rfl ?_); refine goesL_ (some 24) rfl rfl Try.func45 (by kernel_rfl) rfl #[.int .i64 a0, .int .i64 a1, .int .i64 a2] rfl (by (try simp only [List.map_toArray, List.map_cons, List.map_nil]); first | done | rfl | (simp only [List.length_drop, List.length_take]; rfl)) ?_; (with_reducible refine (heraldref02_MulDiv.calls k a0 a1 a2 t154 t155 _ A7.out).mono ?_); rintro e w16 ⟨rfl, hb⟩; refine ⟨_, rfl, ?_⟩; have n0_ := ym (yn (by repeat (first | (with_reducible first | exact HB.out | apply y3) | exact HB.out)) hb); clear HB; have HB := n0_; clear n0_; (try clear hb); (try clear hb2); (try clear hk); (try clear hi)) | ((with_reducible refine gate_callee (f := 44) rfl ?_); refine goesL_ (some 39) rfl rfl Try.func44 (by kernel_rfl) rfl #[.int .i64 a0, .int .i64 a2, .int .i64 a2] rfl (by (try simp only [List.map_toArray, List.map_cons, List.map_nil]); first | done | rfl | (simp only [List.length_drop, List.length_take]; rfl)) ?_; (with_reducible refine (fixed_MulDiv.calls k a0 a2 a2 t156 t157 _ A10.out).mono ?_); rintro e w' ⟨rfl, ⟨nd, rfl⟩⟩; refine ⟨_, rfl, ?_⟩))
     go_ret
     exact ⟨by first | rfl | (simp [errW_none, errW_some] <;> rfl) | (simp [*, errW_none, errW_some] <;> rfl), by repeat (first | (with_reducible first | exact HB.out | apply y3) | exact HB.out)⟩
    rw [if_neg c14] at H
    exact absurd H (by simp)
   rw [if_neg c9] at H
   exact absurd H (by simp)
  rw [if_neg c8] at H
  exact absurd H (by simp)
 replace c5 := Bool.eq_false_iff.mpr c5
 subst c5
 have H1 : (none) = some r := by rw [if_neg (show ¬ (false = true) by decide)] at H; exact H
 clear H
 have H := H1
 clear H1
 exact absurd H (by simp)

/-- THE ONE PURE STATEMENT of heraldlaw02_FixedProducts: yours. -/
def heraldlaw02_FixedProducts.Pure : Prop := ∀ (a0 : Int) (a1 : Int) (a2 : Int), (Lit.int .i64 a0).wf = true → (Lit.int .i64 a1).wf = true → (Lit.int .i64 a2).wf = true → ∃ k, heraldlaw02_FixedProducts.f k a0 a1 a2 = some true
theorem heraldlaw02_FixedProducts.walk (P : heraldlaw02_FixedProducts.Pure) (a0 : Int) (a1 : Int) (a2 : Int) (w : World) (w0 : (Lit.int .i64 a0).wf = true) (w1 : (Lit.int .i64 a1).wf = true) (w2 : (Lit.int .i64 a2).wf = true) :
    Calls Try.prog 14 #[.int .i64 a0, .int .i64 a1, .int .i64 a2] w fun e w' => e = .returned (.bool true) ∧ Below w.heap.size w w' := by
 obtain ⟨k, h⟩ := P a0 a1 a2 w0 w1 w2
 refine (heraldlaw02_FixedProducts.calls k a0 a1 a2 true w h).mono ?_
 rintro e w' ⟨rfl, hd⟩
 exact ⟨rfl, hd⟩

end Go.Proofs.Ytbldlfmblalchaa.P
