-- Printed by xprint.py (wip): functions, contracts, rows. Lean checks it.
import Derived.Test.YtigfodkakefhcaaPx0
import Derived.Test.YtigfodkakefhcaaPx1
import Derived.Test.YtigfodkakefhcaaPx11
namespace Go.Proofs.Ytigfodkakefhcaa.P
open Go.RowKit Go.Proofs.YtigfodkakefhcaaW.PrintWords Go.Proofs.YtigfodkakefhcaaW.PrintLast Go.Proofs.YtigfodkakefhcaaW.PrintMore
attribute [local go_sem] max2_int min2_int max_two min_two max_three min_three max_four min_four   -- for this text's walks alone
set_option linter.unusedVariables false
set_option linter.unusedSimpArgs false

/-! ### vec_Row: function 26 -/
def vec_Row.f (l0 : List Int) (a1 : Int) (a2 : Int) : Option (List Int × Int) := (vec_matrix.f l0 a1).bind fun t155 => (if t155 = 0 then (if a2 < 0 then (some (([] : List Int), 1)) else (if a1 = 0 then (none) else (if a2 ≥ (wrap64 ((l0.length : Int) / a1)) then (some (([] : List Int), 1)) else (if 0 ≤ (wrap64 (a2 * a1)) then (if (wrap64 (a2 * a1)) ≤ (wrap64 ((wrap64 (a2 + 1)) * a1)) then (if (wrap64 ((wrap64 (a2 + 1)) * a1)) ≤ (l0.length : Int) then ((slices_Clone_int8_int8.f ((l0.take ((wrap64 ((wrap64 (a2 + 1)) * a1)) : Int).toNat).drop ((wrap64 (a2 * a1)) : Int).toNat)).bind fun t157 => (some (t157, 0))) else (none)) else (none)) else (none))))) else (some (([] : List Int), t155)))
set_option maxHeartbeats 8000000 in
set_option maxRecDepth 100000 in
theorem vec_Row.calls (A0 : Option Addr) (c0 : Nat) (l0 : List Int) (a1 : Int) (a2 : Int) (r1 : List Int) (r2 : Int) (w : World) (hr0 : Kd.C (Kd.int .i8) w A0 l0.length l0) (hc0 : l0.length ≤ c0) (h : vec_Row.f l0 a1 a2 = some (r1, r2)) :
    Calls Try.prog 26 #[.slice A0 l0.length c0, .int .i64 a1, .int .i64 a2] w fun e w' => ∃ v0_ : Value, e = .returned (.tuple #[v0_, .int .i64 r2]) ∧ Kd.R (Kd.int .i8) 42 w' w.heap.size (fun _ => True) v0_ r1 ∧ Below w.heap.size w w' := by
 have HR0 := ym hr0
 have HC0 := ym hc0
 clear hr0 hc0
 have HB := ym (Below.refl w.heap.size w)
 have H : ((vec_matrix.f l0 a1).bind fun t155 => (if t155 = 0 then (if a2 < 0 then (some (([] : List Int), 1)) else (if a1 = 0 then (none) else (if a2 ≥ (wrap64 ((l0.length : Int) / a1)) then (some (([] : List Int), 1)) else (if 0 ≤ (wrap64 (a2 * a1)) then (if (wrap64 (a2 * a1)) ≤ (wrap64 ((wrap64 (a2 + 1)) * a1)) then (if (wrap64 ((wrap64 (a2 + 1)) * a1)) ≤ (l0.length : Int) then ((slices_Clone_int8_int8.f ((l0.take ((wrap64 ((wrap64 (a2 + 1)) * a1)) : Int).toNat).drop ((wrap64 (a2 * a1)) : Int).toNat)).bind fun t157 => (some (t157, 0))) else (none)) else (none)) else (none))))) else (some (([] : List Int), t155)))) = some (r1, r2) := h
 clear h
 replace H := Option.bind_eq_some_iff.mp H
 obtain ⟨t155, A40, H⟩ := H
 replace H : (if t155 = 0 then (if a2 < 0 then (some (([] : List Int), 1)) else (if a1 = 0 then (none) else (if a2 ≥ (wrap64 ((l0.length : Int) / a1)) then (some (([] : List Int), 1)) else (if 0 ≤ (wrap64 (a2 * a1)) then (if (wrap64 (a2 * a1)) ≤ (wrap64 ((wrap64 (a2 + 1)) * a1)) then (if (wrap64 ((wrap64 (a2 + 1)) * a1)) ≤ (l0.length : Int) then ((slices_Clone_int8_int8.f ((l0.take ((wrap64 ((wrap64 (a2 + 1)) * a1)) : Int).toNat).drop ((wrap64 (a2 * a1)) : Int).toNat)).bind fun t157 => (some (t157, 0))) else (none)) else (none)) else (none))))) else (some (([] : List Int), t155))) = some (r1, r2) := H
 have A4 := ym A40
 clear A40
 by_cases c5 : t155 = 0
 ·
  rw [if_pos c5] at H
  have c5b0 : (t155 == 0) = true := beq_iff_eq.mpr c5
  have c5b1 : (t155 != 0) = false := bne_eq_false_iff_eq.mpr c5
  clear c5
  by_cases c6 : a2 < 0
  ·
   rw [if_pos c6] at H
   have c6b0 : decide (a2 < 0) = true := decide_eq_true c6
   clear c6
   simp only [Option.some.injEq, Prod.mk.injEq] at H
   obtain ⟨rfl, rfl⟩ := H
   go_enter Try.func26, Try.ntmps26
   go_wp2_with (first | ((with_reducible refine gate_callee (f := 46) rfl ?_); refine goesL_ (some 11) rfl rfl Try.func46 (by kernel_rfl) rfl #[.slice A0 l0.length c0, .int .i64 a1] rfl (by (try simp only [List.map_toArray, List.map_cons, List.map_nil]); first | done | rfl | (simp only [List.length_drop, List.length_take]; rfl)) ?_; (with_reducible refine (vec_matrix.calls _ _ l0 a1 t155 _ ?side1 ?side2 A4.out).mono ?_); (case side1 => repeat (first | exact HR0.out | (with_reducible refine yi ?_ _) | (with_reducible refine yj ?_ _) | (with_reducible refine yk ?_))); (case side2 => exact HC0.out); rintro e w' ⟨rfl, ⟨nd, rfl⟩⟩; refine ⟨_, rfl, ?_⟩))
   go_ret2
   exact ⟨_, by first | rfl | (simp [errW_none, errW_some] <;> rfl) | (simp [*, errW_none, errW_some] <;> rfl), by first | exact Kd.R_nil _ _ _ _ _ | exact Kd.N_nil _ _ _ _ _ | exact Kd.V_nil _ _ _ _ _ | exact Kd.Q_nil _ _ _ _ _ | exact Kd.S_nil _ _ _ _ _, by repeat (first | (with_reducible first | exact HB.out | apply y3) | exact HB.out)⟩
  rw [if_neg c6] at H
  have c6b0 : decide (a2 < 0) = false := decide_eq_false c6
  clear c6
  by_cases c7 : a1 = 0
  ·
   rw [if_pos c7] at H
   exact absurd H (by simp)
  rw [if_neg c7] at H
  have c7b0 : (a1 == 0) = false := beq_eq_false_iff_ne.mpr c7
  have c7b1 : (a1 != 0) = true := bne_iff_ne.mpr c7
  by_cases c8 : a2 ≥ (wrap64 ((l0.length : Int) / a1))
  ·
   rw [if_pos c8] at H
   have c8b0 : decide ((wrap64 ((l0.length : Int) / a1)) ≤ a2) = true := decide_eq_true c8
   clear c8
   simp only [Option.some.injEq, Prod.mk.injEq] at H
   obtain ⟨rfl, rfl⟩ := H
   go_enter Try.func26, Try.ntmps26
   go_wp2_with (first | ((with_reducible refine gate_callee (f := 46) rfl ?_); refine goesL_ (some 11) rfl rfl Try.func46 (by kernel_rfl) rfl #[.slice A0 l0.length c0, .int .i64 a1] rfl (by (try simp only [List.map_toArray, List.map_cons, List.map_nil]); first | done | rfl | (simp only [List.length_drop, List.length_take]; rfl)) ?_; (with_reducible refine (vec_matrix.calls _ _ l0 a1 t155 _ ?side1 ?side2 A4.out).mono ?_); (case side1 => repeat (first | exact HR0.out | (with_reducible refine yi ?_ _) | (with_reducible refine yj ?_ _) | (with_reducible refine yk ?_))); (case side2 => exact HC0.out); rintro e w' ⟨rfl, ⟨nd, rfl⟩⟩; refine ⟨_, rfl, ?_⟩))
   go_ret2
   exact ⟨_, by first | rfl | (simp [errW_none, errW_some] <;> rfl) | (simp [*, errW_none, errW_some] <;> rfl), by first | exact Kd.R_nil _ _ _ _ _ | exact Kd.N_nil _ _ _ _ _ | exact Kd.V_nil _ _ _ _ _ | exact Kd.Q_nil _ _ _ _ _ | exact Kd.S_nil _ _ _ _ _, by repeat (first | (with_reducible first | exact HB.out | apply y3) | exact HB.out)⟩
  rw [if_neg c8] at H
  have c8b0 : decide ((wrap64 ((l0.length : Int) / a1)) ≤ a2) = false := decide_eq_false c8
  clear c8
  obtain ⟨ji9, hji9⟩ : ∃ j_ : Int, (wrap64 (a2 * a1)) = j_ := ⟨_, rfl⟩
  replace H : (if 0 ≤ (ji9) then (if (ji9) ≤ (wrap64 ((wrap64 (a2 + 1)) * a1)) then (if (wrap64 ((wrap64 (a2 + 1)) * a1)) ≤ (l0.length : Int) then ((slices_Clone_int8_int8.f ((l0.take ((wrap64 ((wrap64 (a2 + 1)) * a1)) : Int).toNat).drop ((ji9) : Int).toNat)).bind fun t157 => (some (t157, 0))) else (none)) else (none)) else (none)) = some (r1, r2) := by first | (rw [hji9] at H; exact H) | (simp only [hji9] at H ⊢; exact H)
  (try rw [hji9] at A4)
  have hji9w : (IntKind.i64.wrap (a2 * a1)) = ji9 := (i64_w _).trans hji9
  by_cases c10 : 0 ≤ (ji9)
  ·
   rw [if_pos c10] at H
   have c10b0 := eq_true c10
   have c10b1 : decide (0 ≤ (ji9)) = true := decide_eq_true c10
   clear c10
   by_cases c11 : (ji9) ≤ (wrap64 ((wrap64 (a2 + 1)) * a1))
   ·
    rw [if_pos c11] at H
    have c11b0 := eq_true c11
    have c11b1 : decide ((ji9) ≤ (wrap64 ((wrap64 (a2 + 1)) * a1))) = true := decide_eq_true c11
    by_cases c12 : (wrap64 ((wrap64 (a2 + 1)) * a1)) ≤ (l0.length : Int)
    ·
     rw [if_pos c12] at H
     have c12b0 := eq_true c12
     have c12b1 : decide ((wrap64 ((wrap64 (a2 + 1)) * a1)) ≤ (l0.length : Int)) = true := decide_eq_true c12
     replace H := Option.bind_eq_some_iff.mp H
     obtain ⟨t157, A130, H⟩ := H
     replace H : (some (t157, 0)) = some (r1, r2) := H
     have A13 := ym A130
     clear A130
     simp only [Option.some.injEq, Prod.mk.injEq] at H
     obtain ⟨rfl, rfl⟩ := H
     go_enter Try.func26, Try.ntmps26
     go_wp2_with (first | ((with_reducible refine gate_callee (f := 46) rfl ?_); refine goesL_ (some 11) rfl rfl Try.func46 (by kernel_rfl) rfl #[.slice A0 l0.length c0, .int .i64 a1] rfl (by (try simp only [List.map_toArray, List.map_cons, List.map_nil]); first | done | rfl | (simp only [List.length_drop, List.length_take]; rfl)) ?_; (with_reducible refine (vec_matrix.calls _ _ l0 a1 t155 _ ?side1 ?side2 A4.out).mono ?_); (case side1 => repeat (first | exact HR0.out | (with_reducible refine yi ?_ _) | (with_reducible refine yj ?_ _) | (with_reducible refine yk ?_))); (case side2 => exact HC0.out); rintro e w' ⟨rfl, ⟨nd, rfl⟩⟩; refine ⟨_, rfl, ?_⟩; obtain ⟨i014, hi014, _, hsz14, _⟩ := info_parts info42; obtain ⟨A14, hcut14, hA14, hC14⟩ := print_mid_of (P := Try.prog) (Value.int .i8) 0 22 42 .i64 .i64 Try.underlying22 hi014 hsz14 A0 c0 l0 (ji9) (wrap64 ((wrap64 (a2 + 1)) * a1)) (of_decide_eq_true (by first | (with_reducible assumption) | assumption)) (by first | omega | exact of_decide_eq_true (by first | (with_reducible assumption) | assumption)) (of_decide_eq_true (by first | (with_reducible assumption) | assumption)) HC0.out; have HR156 := ym (Kd.C_of_reads (h1 := fun _ => rfl) (hA14 _ (Kd.reads_of_C HR0.out))); have HC156 := ym hC14; clear hA14 hC14 hi014 hsz14) | ((with_reducible refine gate_callee (f := 51) rfl ?_); refine goesL_ (some 34) rfl rfl Try.func51 (by kernel_rfl) rfl #[.slice A14 ((l0.take ((wrap64 ((wrap64 (a2 + 1)) * a1)) : Int).toNat).drop ((ji9) : Int).toNat).length (c0 - (ji9).toNat)] rfl (by (try simp only [List.map_toArray, List.map_cons, List.map_nil]); first | done | (rw [show ((l0.take ((wrap64 ((wrap64 (a2 + 1)) * a1)) : Int).toNat).drop ((ji9) : Int).toNat).length = ((wrap64 ((wrap64 (a2 + 1)) * a1)).toNat - (ji9).toNat) from (by rw [List.length_drop, List.length_take]; have h_ : ((wrap64 ((wrap64 (a2 + 1)) * a1)) : Int) ≤ (l0.length : Int) := of_decide_eq_true (by first | (with_reducible assumption) | assumption); omega)] <;> rfl) | (simp only [hji9]; rfl) | rfl | (simp only [List.length_drop, List.length_take]; rfl)) ?_; (with_reducible refine (slices_Clone_int8_int8.calls _ _ ((l0.take ((wrap64 ((wrap64 (a2 + 1)) * a1)) : Int).toNat).drop ((ji9) : Int).toNat) t157 _ ?side1 ?side2 A13.out).mono ?_); (case side1 => repeat (first | exact HR156.out | (with_reducible refine yi ?_ _) | (with_reducible refine yj ?_ _) | (with_reducible refine yk ?_))); (case side2 => exact HC156.out); rintro e w15 ⟨v158, rfl, ho0, hb⟩; refine ⟨_, rfl, ?_⟩; have n0_ := ym (yo ho0 (below_size (by repeat (first | (with_reducible first | exact HB.out | apply y3) | exact HB.out)))); have n1_ := ym (yn (by repeat (first | (with_reducible first | exact HB.out | apply y3) | exact HB.out)) hb); clear HB; have HO159 := n0_; have HB := n1_; clear n0_ n1_; (try clear hb); (try clear hb2); (try clear hk); (try clear hi); (try clear ho0)))
     go_ret2
     exact ⟨_, by first | rfl | (simp [errW_none, errW_some] <;> rfl) | (simp only [← hji9]; first | rfl | (simp [errW_none, errW_some] <;> rfl)) | (simp [*, errW_none, errW_some] <;> rfl), by (with_reducible repeat apply y2); exact HO159.out, by repeat (first | (with_reducible first | exact HB.out | apply y3) | exact HB.out)⟩
    rw [if_neg c12] at H
    exact absurd H (by simp)
   rw [if_neg c11] at H
   exact absurd H (by simp)
  rw [if_neg c10] at H
  exact absurd H (by simp)
 rw [if_neg c5] at H
 have c5b0 : (t155 == 0) = false := beq_eq_false_iff_ne.mpr c5
 have c5b1 : (t155 != 0) = true := bne_iff_ne.mpr c5
 simp only [Option.some.injEq, Prod.mk.injEq] at H
 obtain ⟨rfl, rfl⟩ := H
 go_enter Try.func26, Try.ntmps26
 go_wp2_with (first | ((with_reducible refine gate_callee (f := 46) rfl ?_); refine goesL_ (some 11) rfl rfl Try.func46 (by kernel_rfl) rfl #[.slice A0 l0.length c0, .int .i64 a1] rfl (by (try simp only [List.map_toArray, List.map_cons, List.map_nil]); first | done | rfl | (simp only [List.length_drop, List.length_take]; rfl)) ?_; (with_reducible refine (vec_matrix.calls _ _ l0 a1 t155 _ ?side1 ?side2 A4.out).mono ?_); (case side1 => repeat (first | exact HR0.out | (with_reducible refine yi ?_ _) | (with_reducible refine yj ?_ _) | (with_reducible refine yk ?_))); (case side2 => exact HC0.out); rintro e w' ⟨rfl, ⟨nd, rfl⟩⟩; refine ⟨_, rfl, ?_⟩))
 go_ret2
 exact ⟨_, by first | rfl | (simp [errW_none, errW_some] <;> rfl) | (simp [*, errW_none, errW_some] <;> rfl), by first | exact Kd.R_nil _ _ _ _ _ | exact Kd.N_nil _ _ _ _ _ | exact Kd.V_nil _ _ _ _ _ | exact Kd.Q_nil _ _ _ _ _ | exact Kd.S_nil _ _ _ _ _, by repeat (first | (with_reducible first | exact HB.out | apply y3) | exact HB.out)⟩

end Go.Proofs.Ytigfodkakefhcaa.P
