-- Printed by xprint.py (wip): functions, contracts, rows. Lean checks it.
import Derived.Test.YtgdbcknofcnfbaaPx0
import Derived.Test.YtgdbcknofcnfbaaPx2
import Derived.Test.YtgdbcknofcnfbaaPx5
import Derived.Test.YtgdbcknofcnfbaaPx7
namespace Go.Proofs.Ytgdbcknofcnfbaa.P
open Go.RowKit Go.Proofs.YtgdbcknofcnfbaaW.PrintWords Go.Proofs.YtgdbcknofcnfbaaW.PrintLast Go.Proofs.YtgdbcknofcnfbaaW.PrintMore
attribute [local go_sem] max2_int min2_int max_two min_two max_three min_three max_four min_four   -- for this text's walks alone
set_option linter.unusedVariables false
set_option linter.unusedSimpArgs false

/-! ### norm_Row: function 11 -/
def norm_Row.l0 : Nat → List Int → Int → List Int → List Int → Int → Int → Option (List Int × Int)
  | 0, _, _, _, _, _, _ => none
  | k + 1, x1, x6, x8, x29, x30, x31 => if x31 < x30 then (if 0 ≤ x31 then (if x31 < (x29.length : Int) then (if x6 = 0 then (none) else (if x31 < (x1.length : Int) then ((fixed_Round.f (wrap64 ((wrap64 (Int.tdiv (wrap64 (64 * (rd x29 x31))) x6)) * (wrap64 (rd x1 x31)))) 6).bind fun bt117 => ((fixed_Narrow.f bt117.1).bind fun t119 => (if x31 < (x8.length : Int) then (norm_Row.l0 k x1 x6 (x8.set (x31 : Int).toNat t119) x29 x30 (wrap64 (x31 + 1))) else (none)))) else (none))) else (none)) else (none)) else (some (x8, 0))
def norm_Row.f (k : Nat) (l0 : List Int) (l1 : List Int) : Option (List Int × Int) := if (l0.length : Int) = (l1.length : Int) then ((norm_root.f k l0).bind fun bt110 => (if bt110.2 = 0 then (if 0 ≤ (l0.length : Int) then (if ((l0.length : Int) : Int).toNat ≤ 281474976710656 then (norm_Row.l0 k l1 bt110.1 (List.replicate ((l0.length : Int) : Int).toNat 0) l0 (l0.length : Int) 0) else (none)) else (none)) else (some (([] : List Int), bt110.2)))) else (some (([] : List Int), 1))
theorem norm_Row.mono_l : ∀ k, (∀ y0 y1 y2 y3 y4 y5, LeO (norm_Row.l0 k y0 y1 y2 y3 y4 y5) (norm_Row.l0 (k + 1) y0 y1 y2 y3 y4 y5))
  | 0 => fun _ _ _ _ _ _ r h => by simp [norm_Row.l0] at h
  | k + 1 => by
    have ih0 := norm_Row.mono_l k
    · intro y0 y1 y2 y3 y4 y5
      unfold norm_Row.l0
      repeat' first
      | (with_reducible exact ih0 _ _ _ _ _ _)
      | (with_reducible exact norm_root.mono _ _)
      | (with_reducible exact LeO.refl _)
      | (with_reducible exact LeO.none _)
      | (with_reducible refine LeO.ite ?_ ?_)
      | (with_reducible refine LeO.bind ?_ (fun _ => ?_))
      | exact ih0 _ _ _ _ _ _
      | exact norm_root.mono _ _
      | exact LeO.none _
      | refine LeO.ite ?_ ?_
      | refine LeO.bind ?_ (fun _ => ?_)
theorem norm_Row.mono : ∀ a0 a1 k, LeO (norm_Row.f k a0 a1) (norm_Row.f (k + 1) a0 a1) := by
  intro a0 a1 k
  have ih0 := norm_Row.mono_l k
  unfold norm_Row.f
  repeat' first
      | (with_reducible exact ih0 _ _ _ _ _ _)
      | (with_reducible exact norm_root.mono _ _)
      | (with_reducible exact LeO.refl _)
      | (with_reducible exact LeO.none _)
      | (with_reducible refine LeO.ite ?_ ?_)
      | (with_reducible refine LeO.bind ?_ (fun _ => ?_))
      | exact ih0 _ _ _ _ _ _
      | exact norm_root.mono _ _
      | exact LeO.none _
      | refine LeO.ite ?_ ?_
      | refine LeO.bind ?_ (fun _ => ?_)
set_option maxHeartbeats 8000000 in
set_option maxRecDepth 100000 in
theorem norm_Row.calls (k : Nat) (A0 : Option Addr) (c0 : Nat) (l0 : List Int) (A1 : Option Addr) (c1 : Nat) (l1 : List Int) (r1 : List Int) (r2 : Int) (w : World) (hr0 : Kd.C (Kd.int .i64) w A0 l0.length l0) (hc0 : l0.length ≤ c0) (hr1 : Kd.C (Kd.int .i8) w A1 l1.length l1) (hc1 : l1.length ≤ c1) (h : norm_Row.f k l0 l1 = some (r1, r2)) :
    Calls Try.prog 11 #[.slice A0 l0.length c0, .slice A1 l1.length c1] w fun e w' => ∃ v0_ : Value, e = .returned (.tuple #[v0_, .int .i64 r2]) ∧ Kd.R (Kd.int .i8) 33 w' w.heap.size (fun _ => True) v0_ r1 ∧ Below w.heap.size w w' := by
 have HR0 := ym hr0
 have HC0 := ym hc0
 clear hr0 hc0
 have HR1 := ym hr1
 have HC1 := ym hc1
 clear hr1 hc1
 have HB := ym (Below.refl w.heap.size w)
 have H : (if (l0.length : Int) = (l1.length : Int) then ((norm_root.f k l0).bind fun bt110 => (if bt110.2 = 0 then (if 0 ≤ (l0.length : Int) then (if ((l0.length : Int) : Int).toNat ≤ 281474976710656 then (norm_Row.l0 k l1 bt110.1 (List.replicate ((l0.length : Int) : Int).toNat 0) l0 (l0.length : Int) 0) else (none)) else (none)) else (some (([] : List Int), bt110.2)))) else (some (([] : List Int), 1))) = some (r1, r2) := h
 clear h
 by_cases c3 : (l0.length : Int) = (l1.length : Int)
 ·
  rw [if_pos c3] at H
  have c3b0 : ((l0.length : Int) == (l1.length : Int)) = true := beq_iff_eq.mpr c3
  have c3b1 : ((l0.length : Int) != (l1.length : Int)) = false := bne_eq_false_iff_eq.mpr c3
  have c3b2 : (l0.length == l1.length) = true := by first | simpa using c3 | (simp at c3 ⊢; omega)
  clear c3
  replace H := Option.bind_eq_some_iff.mp H
  obtain ⟨⟨t110, t111⟩, A40, H⟩ := H
  replace H : (if t111 = 0 then (if 0 ≤ (l0.length : Int) then (if ((l0.length : Int) : Int).toNat ≤ 281474976710656 then (norm_Row.l0 k l1 t110 (List.replicate ((l0.length : Int) : Int).toNat 0) l0 (l0.length : Int) 0) else (none)) else (none)) else (some (([] : List Int), t111))) = some (r1, r2) := H
  have A4 := ym A40
  clear A40
  by_cases c5 : t111 = 0
  ·
   rw [if_pos c5] at H
   have c5b0 : (t111 == 0) = true := beq_iff_eq.mpr c5
   have c5b1 : (t111 != 0) = false := bne_eq_false_iff_eq.mpr c5
   clear c5
   by_cases c6 : 0 ≤ (l0.length : Int)
   ·
    rw [if_pos c6] at H
    have c6b0 := eq_true c6
    have c6b1 : decide (0 ≤ (l0.length : Int)) = true := decide_eq_true c6
    clear c6
    by_cases c7 : ((l0.length : Int) : Int).toNat ≤ 281474976710656
    ·
     rw [if_pos c7] at H
     have c7b0 := eq_true c7
     have c7b1 : decide (((l0.length : Int) : Int).toNat ≤ 281474976710656) = true := decide_eq_true c7
     clear c7
     obtain ⟨y112, hy112⟩ : ∃ y_ : List Int, y_ = (List.replicate ((l0.length : Int) : Int).toNat 0) := ⟨_, rfl⟩
     replace H : (norm_Row.l0 k l1 t110 y112 l0 (l0.length : Int) 0) = some (r1, r2) := by first | (rw [hy112]; with_reducible exact H) | (have H2_ := (Option.bind_some _ _).symm.trans H; rw [hy112]; with_reducible exact H2_) | (have H2_ := (Option.bind_some _ _).symm.trans H; with_reducible exact H2_) | with_reducible exact H | (rw [hy112]; exact H) | exact H
     have Ny112 := ym hy112
     clear hy112
     have H' := ym H
     clear H
     go_enter Try.func11, Try.ntmps11
     go_wp2_with (first | (go_at_call 27; (with_reducible refine (norm_root.calls k _ _ l0 t110 t111 _ ?side1 ?side2 A4.out).mono ?_); (case side1 => repeat (first | exact HR0.out | (with_reducible refine yi ?_ _) | (with_reducible refine yj ?_ _) | (with_reducible refine yk ?_))); (case side2 => exact HC0.out); rintro e w8 ⟨rfl, hb⟩; have n0_ := ym (yn (by repeat (first | (with_reducible first | exact HB.out | apply y3) | exact HB.out)) hb); clear HB; have HB := n0_; clear n0_; (try clear hb); (try clear hb2); (try clear hk); (try clear hi)) | ((with_reducible refine gate_dst (N := 28) rfl ?_); refine Kd.R_make (Kd.int .i8) _ 33 rfl (N := 28) rfl 23 _ _ rfl (l0.length : Int) rfl rfl Try.underlying23 (.int .i8 0) 1 info33 rfl (by decide) (by omega) 0 (ok := fun _ => True) (okp := fun _ => True) rfl (fun _ hk => hk) trivial (of_decide_eq_true (by first | (with_reducible assumption) | assumption)) (Nat.le_trans (Nat.mul_le_mul_right _ (of_decide_eq_true (by first | (with_reducible assumption) | assumption) : (l0.length : Int).toNat ≤ 281474976710656)) (by omega)) (Below.refl _ _) (Nat.le_refl _) ?_; intro v113 w9 ho10 hb hg_ hnew_; clear hg_ hnew_; (first | rw [← Ny112.out] at ho10 | (simp only [Int.reduceToNat] at ho10; rw [← Ny112.out] at ho10)); have n0_ := ym (yo ho10 (below_size (by repeat (first | (with_reducible first | exact HB.out | apply y3) | exact HB.out)))); have n1_ := ym (yn (by repeat (first | (with_reducible first | exact HB.out | apply y3) | exact HB.out)) hb); clear HB; have HO114 := n0_; have HB := n1_; clear n0_ n1_; clear hb ho10))
     repeat (go_quiet (first | (go_at_call 27; (with_reducible refine (norm_root.calls k _ _ l0 t110 t111 _ ?side1 ?side2 A4.out).mono ?_); (case side1 => repeat (first | exact HR0.out | (with_reducible refine yi ?_ _) | (with_reducible refine yj ?_ _) | (with_reducible refine yk ?_))); (case side2 => exact HC0.out); rintro e w8 ⟨rfl, hb⟩; have n0_ := ym (yn (by repeat (first | (with_reducible first | exact HB.out | apply y3) | exact HB.out)) hb); clear HB; have HB := n0_; clear n0_; (try clear hb); (try clear hb2); (try clear hk); (try clear hi)) | ((with_reducible refine gate_dst (N := 28) rfl ?_); refine Kd.R_make (Kd.int .i8) _ 33 rfl (N := 28) rfl 23 _ _ rfl (l0.length : Int) rfl rfl Try.underlying23 (.int .i8 0) 1 info33 rfl (by decide) (by omega) 0 (ok := fun _ => True) (okp := fun _ => True) rfl (fun _ hk => hk) trivial (of_decide_eq_true (by first | (with_reducible assumption) | assumption)) (Nat.le_trans (Nat.mul_le_mul_right _ (of_decide_eq_true (by first | (with_reducible assumption) | assumption) : (l0.length : Int).toNat ≤ 281474976710656)) (by omega)) (Below.refl _ _) (Nat.le_refl _) ?_; intro v113 w9 ho10 hb hg_ hnew_; clear hg_ hnew_; (first | rw [← Ny112.out] at ho10 | (simp only [Int.reduceToNat] at ho10; rw [← Ny112.out] at ho10)); have n0_ := ym (yo ho10 (below_size (by repeat (first | (with_reducible first | exact HB.out | apply y3) | exact HB.out)))); have n1_ := ym (yn (by repeat (first | (with_reducible first | exact HB.out | apply y3) | exact HB.out)) hb); clear HB; have HO114 := n0_; have HB := n1_; clear n0_ n1_; clear hb ho10)); try go_wp2_with (first | (go_at_call 27; (with_reducible refine (norm_root.calls k _ _ l0 t110 t111 _ ?side1 ?side2 A4.out).mono ?_); (case side1 => repeat (first | exact HR0.out | (with_reducible refine yi ?_ _) | (with_reducible refine yj ?_ _) | (with_reducible refine yk ?_))); (case side2 => exact HC0.out); rintro e w8 ⟨rfl, hb⟩; have n0_ := ym (yn (by repeat (first | (with_reducible first | exact HB.out | apply y3) | exact HB.out)) hb); clear HB; have HB := n0_; clear n0_; (try clear hb); (try clear hb2); (try clear hk); (try clear hi)) | ((with_reducible refine gate_dst (N := 28) rfl ?_); refine Kd.R_make (Kd.int .i8) _ 33 rfl (N := 28) rfl 23 _ _ rfl (l0.length : Int) rfl rfl Try.underlying23 (.int .i8 0) 1 info33 rfl (by decide) (by omega) 0 (ok := fun _ => True) (okp := fun _ => True) rfl (fun _ hk => hk) trivial (of_decide_eq_true (by first | (with_reducible assumption) | assumption)) (Nat.le_trans (Nat.mul_le_mul_right _ (of_decide_eq_true (by first | (with_reducible assumption) | assumption) : (l0.length : Int).toNat ≤ 281474976710656)) (by omega)) (Below.refl _ _) (Nat.le_refl _) ?_; intro v113 w9 ho10 hb hg_ hnew_; clear hg_ hnew_; (first | rw [← Ny112.out] at ho10 | (simp only [Int.reduceToNat] at ho10; rw [← Ny112.out] at ho10)); have n0_ := ym (yo ho10 (below_size (by repeat (first | (with_reducible first | exact HB.out | apply y3) | exact HB.out)))); have n1_ := ym (yn (by repeat (first | (with_reducible first | exact HB.out | apply y3) | exact HB.out)) hb); clear HB; have HO114 := n0_; have HB := n1_; clear n0_ n1_; clear hb ho10)))
     go_loopg [31] k (fun kq v31 w' => ∃ (x8_1 : List Int) (x31_1 : Int), v31 = .int .i64 x31_1 ∧ Aside0 (norm_Row.l0 kq l1 t110 x8_1 l0 (l0.length : Int) x31_1 = some (r1, r2)) ∧ Aside0 (kq ≤ k) ∧ Aside0 (Kd.R (Kd.int .i8) 33 w' w.heap.size (fun _ => True) v113 x8_1) ∧ Aside0 (Below w.heap.size w w'))
     case atStart => exact ⟨(y112), (0), (by first | rfl | (simp; done) | (simp [*]; done)), H', ⟨Nat.le_refl _⟩, ⟨by (with_reducible repeat apply y2); exact HO114.out⟩, ⟨by repeat (first | (with_reducible first | exact HB.out | apply y3) | exact HB.out)⟩⟩
     case round =>
      clear H'
      try clear c1
      try clear p2
      try clear c3
      try clear c3b0
      try clear c3b1
      try clear c3b2
      try clear c5
      try clear c5b0
      try clear c5b1
      try clear c6
      try clear c6b0
      try clear c6b1
      try clear c7
      try clear c7b0
      try clear c7b1
      obtain ⟨x8_1, x31_1, rfl, HA, HK1, HO_8, HB⟩ := hrel
      cases gk with
      | zero => exact absurd HA.out (by simp [norm_Row.l0])
      | succ k1 =>
       have H := HA.out
       clear HA
       simp only [norm_Row.l0] at H
       by_cases c11 : x31_1 < (l0.length : Int)
       ·
        rw [if_pos c11] at H
        have c11b0 : decide (x31_1 < (l0.length : Int)) = true := decide_eq_true c11
        clear c11
        by_cases c12 : 0 ≤ x31_1
        ·
         rw [if_pos c12] at H
         have c12b0 : decide (0 ≤ x31_1) = true := decide_eq_true c12
         clear c12
         by_cases c13 : x31_1 < (l0.length : Int)
         ·
          rw [if_pos c13] at H
          have c13b0 : decide (x31_1 < (l0.length : Int)) = true := decide_eq_true c13
          clear c13
          by_cases c14 : t110 = 0
          ·
           rw [if_pos c14] at H
           exact absurd H (by simp)
          rw [if_neg c14] at H
          have c14b0 : (t110 == 0) = false := beq_eq_false_iff_ne.mpr c14
          have c14b1 : (t110 != 0) = true := bne_iff_ne.mpr c14
          by_cases c15 : x31_1 < (l1.length : Int)
          ·
           rw [if_pos c15] at H
           have c15b0 : decide (x31_1 < (l1.length : Int)) = true := decide_eq_true c15
           clear c15
           replace H := Option.bind_eq_some_iff.mp H
           obtain ⟨⟨t117, t118⟩, A160, H⟩ := H
           replace H : ((fixed_Narrow.f t117).bind fun t119 => (if x31_1 < (x8_1.length : Int) then (norm_Row.l0 k1 l1 t110 (x8_1.set (x31_1 : Int).toNat t119) l0 (l0.length : Int) (wrap64 (x31_1 + 1))) else (none))) = some (r1, r2) := H
           have A16 := ym A160
           clear A160
           replace H := Option.bind_eq_some_iff.mp H
           obtain ⟨t119, A170, H⟩ := H
           replace H : (if x31_1 < (x8_1.length : Int) then (norm_Row.l0 k1 l1 t110 (x8_1.set (x31_1 : Int).toNat t119) l0 (l0.length : Int) (wrap64 (x31_1 + 1))) else (none)) = some (r1, r2) := H
           have A17 := ym A170
           clear A170
           by_cases c18 : x31_1 < (x8_1.length : Int)
           ·
            rw [if_pos c18] at H
            have c18b0 : decide (x31_1 < (x8_1.length : Int)) = true := decide_eq_true c18
            clear c18
            obtain ⟨y120, hy120⟩ : ∃ y_ : List Int, y_ = (x8_1.set (x31_1 : Int).toNat t119) := ⟨_, rfl⟩
            replace H : (norm_Row.l0 k1 l1 t110 y120 l0 (l0.length : Int) (wrap64 (x31_1 + 1))) = some (r1, r2) := by first | (rw [hy120]; with_reducible exact H) | (have H2_ := (Option.bind_some _ _).symm.trans H; rw [hy120]; with_reducible exact H2_) | (have H2_ := (Option.bind_some _ _).symm.trans H; with_reducible exact H2_) | with_reducible exact H | (rw [hy120]; exact H) | exact H
            have Ny120 := ym hy120
            clear hy120
            have H' := ym H
            clear H
            have p115 : 0 ≤ (x31_1 : Int) := of_decide_eq_true (by first | (with_reducible assumption) | assumption)
            have q115 : x31_1 < (l0.length : Int) := of_decide_eq_true (by first | (with_reducible assumption) | assumption)
            obtain ⟨ad115, e115, hx115_0⟩ := Kd.at_int HR0.out x31_1 p115 q115
            cases e115
            replace hx115_0 := (HB.out.cell (World.block_lt_of_cell? w _ hx115_0)).trans hx115_0
            replace p115 := eq_true p115
            replace q115 := eq_true q115
            have p116 : 0 ≤ (x31_1 : Int) := of_decide_eq_true (by first | (with_reducible assumption) | assumption)
            have q116 : x31_1 < (l1.length : Int) := of_decide_eq_true (by first | (with_reducible assumption) | assumption)
            obtain ⟨ad116, e116, hx116_0⟩ := Kd.at_int HR1.out x31_1 p116 q116
            cases e116
            replace hx116_0 := (HB.out.cell (World.block_lt_of_cell? w _ hx116_0)).trans hx116_0
            replace p116 := eq_true p116
            replace q116 := eq_true q116
            have p19 : 0 ≤ (x31_1 : Int) := of_decide_eq_true (by first | (with_reducible assumption) | assumption)
            have q19 : (x31_1 : Int) < ((x8_1.length : Int) : Int) := of_decide_eq_true (by first | (with_reducible assumption) | assumption)
            obtain ⟨go19, co19, eo19, gb19, gl19, cl19, HG19⟩ := Kd.R_form HO_8.out (by omega)
            (first | cases eo19 | (injection eo19 with ea_ en_ ec_; (first | subst ea_ | (injection ea_ with ea_; subst ea_)); subst ec_; clear en_))
            have GB19 := ym gb19
            have GG19 := ym HG19
            clear gb19 gl19 HG19
            obtain ⟨hx19_0, hf19_0⟩ := Kd.R_celln 0 HO_8.out (x31_1 : Int) p19 q19
            replace p19 := eq_true p19
            replace q19 := eq_true q19
            obtain ⟨hy20_, hz20_⟩ := Kd.R_celln 0 HO_8.out (x31_1 : Int) (of_decide_eq_true (by first | (with_reducible assumption) | assumption)) (of_decide_eq_true (by first | (with_reducible assumption) | assumption))
            have HP20 := Kd.R_putg HO_8.out (x31_1 : Int) t119
            go_wp2_with (first | (go_at_call 28; (with_reducible refine (fixed_Round.calls (wrap64 ((wrap64 (Int.tdiv (wrap64 (64 * (rd l0 x31_1))) t110)) * (wrap64 (rd l1 x31_1)))) 6 t117 t118 _ A16.out).mono ?_); rintro e w' ⟨rfl, ⟨nd, rfl⟩⟩; (try first | exact ⟨rfl, _, World.drewN_drewN _ _ _⟩ | exact ⟨rfl, _, Eq.trans (World.drewN_drewN _ _ _) (congrArg (World.drewN _) (Nat.add_assoc _ _ _))⟩)) | (go_at_call 29; (with_reducible refine (fixed_Narrow.calls t117 t119 _ A17.out).mono ?_); rintro e w' ⟨rfl, ⟨nd, rfl⟩⟩; (try first | exact ⟨rfl, _, World.drewN_drewN _ _ _⟩ | exact ⟨rfl, _, Eq.trans (World.drewN_drewN _ _ _) (congrArg (World.drewN _) (Nat.add_assoc _ _ _))⟩)) | ((with_reducible refine gate_store (t := 33) (p := 54) rfl ?_); (try (rw [drewN_self wr]; generalize hq_ : World.drewN wr _ = wr; have n0_ := ym (Kd.R_at hq_ HO_8.out); have n1_ := ym (below_at hq_ HB.out); clear hq_ HO_8 HB; have HO_8 := n0_; have HB := n1_; clear n0_ n1_; (try (obtain ⟨hy20_, hz20_⟩ := Kd.R_celln 0 HO_8.out (x31_1 : Int) (of_decide_eq_true (by first | (with_reducible assumption) | assumption)) (of_decide_eq_true (by first | (with_reducible assumption) | assumption)))); (try (have HP20 := Kd.R_putg HO_8.out (x31_1 : Int) t119)))); refine store_event (t := 33) (p := 54) (v := ?vo_w21) (w1 := (wr.setCell ⟨go19, (x31_1 : Int).toNat, none⟩ (.int .i8 t119))) ?hg ?ho ?hn ?hr ?_; (case ho => rfl); (case hg => rfl); (case hn => rfl); (case hr => first | (go_simp; done) | (go_simp; rfl)); intro w21 hw; have hg : wr.grownBy w21 (some go19) := (by rw [hw]; exact HP20.2); have hp_ : Kd.R (Kd.int .i8) 33 w21 w.heap.size (fun _ => True) (.slice (some ⟨go19, 0, none⟩) x8_1.length co19) y120 := (by rw [hw, Ny120.out]; exact HP20.1); clear HP20; have n0_ := ym (hp_); have n1_ := ym ((by rw [hw]; exact ys (HB.out) GB19.out : Below w.heap.size w w21)); clear HO_8; clear HB; have HO_8 := n0_; have HB := n1_; clear n0_ n1_; clear hg hw hp_))
            repeat (go_quiet (first | (go_at_call 28; (with_reducible refine (fixed_Round.calls (wrap64 ((wrap64 (Int.tdiv (wrap64 (64 * (rd l0 x31_1))) t110)) * (wrap64 (rd l1 x31_1)))) 6 t117 t118 _ A16.out).mono ?_); rintro e w' ⟨rfl, ⟨nd, rfl⟩⟩; (try first | exact ⟨rfl, _, World.drewN_drewN _ _ _⟩ | exact ⟨rfl, _, Eq.trans (World.drewN_drewN _ _ _) (congrArg (World.drewN _) (Nat.add_assoc _ _ _))⟩)) | (go_at_call 29; (with_reducible refine (fixed_Narrow.calls t117 t119 _ A17.out).mono ?_); rintro e w' ⟨rfl, ⟨nd, rfl⟩⟩; (try first | exact ⟨rfl, _, World.drewN_drewN _ _ _⟩ | exact ⟨rfl, _, Eq.trans (World.drewN_drewN _ _ _) (congrArg (World.drewN _) (Nat.add_assoc _ _ _))⟩)) | ((with_reducible refine gate_store (t := 33) (p := 54) rfl ?_); (try (rw [drewN_self wr]; generalize hq_ : World.drewN wr _ = wr; have n0_ := ym (Kd.R_at hq_ HO_8.out); have n1_ := ym (below_at hq_ HB.out); clear hq_ HO_8 HB; have HO_8 := n0_; have HB := n1_; clear n0_ n1_; (try (obtain ⟨hy20_, hz20_⟩ := Kd.R_celln 0 HO_8.out (x31_1 : Int) (of_decide_eq_true (by first | (with_reducible assumption) | assumption)) (of_decide_eq_true (by first | (with_reducible assumption) | assumption)))); (try (have HP20 := Kd.R_putg HO_8.out (x31_1 : Int) t119)))); refine store_event (t := 33) (p := 54) (v := ?vo_w21) (w1 := (wr.setCell ⟨go19, (x31_1 : Int).toNat, none⟩ (.int .i8 t119))) ?hg ?ho ?hn ?hr ?_; (case ho => rfl); (case hg => rfl); (case hn => rfl); (case hr => first | (go_simp; done) | (go_simp; rfl)); intro w21 hw; have hg : wr.grownBy w21 (some go19) := (by rw [hw]; exact HP20.2); have hp_ : Kd.R (Kd.int .i8) 33 w21 w.heap.size (fun _ => True) (.slice (some ⟨go19, 0, none⟩) x8_1.length co19) y120 := (by rw [hw, Ny120.out]; exact HP20.1); clear HP20; have n0_ := ym (hp_); have n1_ := ym ((by rw [hw]; exact ys (HB.out) GB19.out : Below w.heap.size w w21)); clear HO_8; clear HB; have HO_8 := n0_; have HB := n1_; clear n0_ n1_; clear hg hw hp_)); try go_wp2_with (first | (go_at_call 28; (with_reducible refine (fixed_Round.calls (wrap64 ((wrap64 (Int.tdiv (wrap64 (64 * (rd l0 x31_1))) t110)) * (wrap64 (rd l1 x31_1)))) 6 t117 t118 _ A16.out).mono ?_); rintro e w' ⟨rfl, ⟨nd, rfl⟩⟩; (try first | exact ⟨rfl, _, World.drewN_drewN _ _ _⟩ | exact ⟨rfl, _, Eq.trans (World.drewN_drewN _ _ _) (congrArg (World.drewN _) (Nat.add_assoc _ _ _))⟩)) | (go_at_call 29; (with_reducible refine (fixed_Narrow.calls t117 t119 _ A17.out).mono ?_); rintro e w' ⟨rfl, ⟨nd, rfl⟩⟩; (try first | exact ⟨rfl, _, World.drewN_drewN _ _ _⟩ | exact ⟨rfl, _, Eq.trans (World.drewN_drewN _ _ _) (congrArg (World.drewN _) (Nat.add_assoc _ _ _))⟩)) | ((with_reducible refine gate_store (t := 33) (p := 54) rfl ?_); (try (rw [drewN_self wr]; generalize hq_ : World.drewN wr _ = wr; have n0_ := ym (Kd.R_at hq_ HO_8.out); have n1_ := ym (below_at hq_ HB.out); clear hq_ HO_8 HB; have HO_8 := n0_; have HB := n1_; clear n0_ n1_; (try (obtain ⟨hy20_, hz20_⟩ := Kd.R_celln 0 HO_8.out (x31_1 : Int) (of_decide_eq_true (by first | (with_reducible assumption) | assumption)) (of_decide_eq_true (by first | (with_reducible assumption) | assumption)))); (try (have HP20 := Kd.R_putg HO_8.out (x31_1 : Int) t119)))); refine store_event (t := 33) (p := 54) (v := ?vo_w21) (w1 := (wr.setCell ⟨go19, (x31_1 : Int).toNat, none⟩ (.int .i8 t119))) ?hg ?ho ?hn ?hr ?_; (case ho => rfl); (case hg => rfl); (case hn => rfl); (case hr => first | (go_simp; done) | (go_simp; rfl)); intro w21 hw; have hg : wr.grownBy w21 (some go19) := (by rw [hw]; exact HP20.2); have hp_ : Kd.R (Kd.int .i8) 33 w21 w.heap.size (fun _ => True) (.slice (some ⟨go19, 0, none⟩) x8_1.length co19) y120 := (by rw [hw, Ny120.out]; exact HP20.1); clear HP20; have n0_ := ym (hp_); have n1_ := ym ((by rw [hw]; exact ys (HB.out) GB19.out : Below w.heap.size w w21)); clear HO_8; clear HB; have HO_8 := n0_; have HB := n1_; clear n0_ n1_; clear hg hw hp_)))
            go_roundg k1
            case measure => have := HK1.out; omega
            case rel => exact ⟨(y120), (wrap64 (x31_1 + 1)), (by first | rfl | (simp; done) | (simp [*]; done)), H', ⟨by have := HK1.out; omega⟩, ⟨by (with_reducible repeat apply y2); exact HO_8.out⟩, ⟨by repeat (first | (with_reducible first | exact HB.out | apply y3) | exact HB.out)⟩⟩
           rw [if_neg c18] at H
           exact absurd H (by simp)
          rw [if_neg c15] at H
          exact absurd H (by simp)
         rw [if_neg c13] at H
         exact absurd H (by simp)
        rw [if_neg c12] at H
        exact absurd H (by simp)
       rw [if_neg c11] at H
       have c11b0 : decide (x31_1 < (l0.length : Int)) = false := decide_eq_false c11
       clear c11
       simp only [Option.some.injEq, Prod.mk.injEq] at H
       obtain ⟨rfl, rfl⟩ := H
       go_wp2
       repeat (go_quiet (fail); try go_wp2)
       go_ret2
       exact ⟨_, by first | rfl | (simp [errW_none, errW_some] <;> rfl) | (simp [*, errW_none, errW_some] <;> rfl), by (with_reducible repeat apply y2); exact HO_8.out, by repeat (first | (with_reducible first | exact HB.out | apply y3) | exact HB.out)⟩
    rw [if_neg c7] at H
    exact absurd H (by simp)
   rw [if_neg c6] at H
   exact absurd H (by simp)
  rw [if_neg c5] at H
  have c5b0 : (t111 == 0) = false := beq_eq_false_iff_ne.mpr c5
  have c5b1 : (t111 != 0) = true := bne_iff_ne.mpr c5
  simp only [Option.some.injEq, Prod.mk.injEq] at H
  obtain ⟨rfl, rfl⟩ := H
  go_enter Try.func11, Try.ntmps11
  go_wp2_with (first | (go_at_call 27; (with_reducible refine (norm_root.calls k _ _ l0 t110 t111 _ ?side1 ?side2 A4.out).mono ?_); (case side1 => repeat (first | exact HR0.out | (with_reducible refine yi ?_ _) | (with_reducible refine yj ?_ _) | (with_reducible refine yk ?_))); (case side2 => exact HC0.out); rintro e w22 ⟨rfl, hb⟩; have n0_ := ym (yn (by repeat (first | (with_reducible first | exact HB.out | apply y3) | exact HB.out)) hb); clear HB; have HB := n0_; clear n0_; (try clear hb); (try clear hb2); (try clear hk); (try clear hi)))
  repeat (go_quiet (first | (go_at_call 27; (with_reducible refine (norm_root.calls k _ _ l0 t110 t111 _ ?side1 ?side2 A4.out).mono ?_); (case side1 => repeat (first | exact HR0.out | (with_reducible refine yi ?_ _) | (with_reducible refine yj ?_ _) | (with_reducible refine yk ?_))); (case side2 => exact HC0.out); rintro e w22 ⟨rfl, hb⟩; have n0_ := ym (yn (by repeat (first | (with_reducible first | exact HB.out | apply y3) | exact HB.out)) hb); clear HB; have HB := n0_; clear n0_; (try clear hb); (try clear hb2); (try clear hk); (try clear hi))); try go_wp2_with (first | (go_at_call 27; (with_reducible refine (norm_root.calls k _ _ l0 t110 t111 _ ?side1 ?side2 A4.out).mono ?_); (case side1 => repeat (first | exact HR0.out | (with_reducible refine yi ?_ _) | (with_reducible refine yj ?_ _) | (with_reducible refine yk ?_))); (case side2 => exact HC0.out); rintro e w22 ⟨rfl, hb⟩; have n0_ := ym (yn (by repeat (first | (with_reducible first | exact HB.out | apply y3) | exact HB.out)) hb); clear HB; have HB := n0_; clear n0_; (try clear hb); (try clear hb2); (try clear hk); (try clear hi))))
  go_ret2
  exact ⟨_, by first | rfl | (simp [errW_none, errW_some] <;> rfl) | (simp [*, errW_none, errW_some] <;> rfl), by first | exact Kd.R_nil _ _ _ _ _ | exact Kd.N_nil _ _ _ _ _ | exact Kd.V_nil _ _ _ _ _ | exact Kd.Q_nil _ _ _ _ _ | exact Kd.S_nil _ _ _ _ _, by repeat (first | (with_reducible first | exact HB.out | apply y3) | exact HB.out)⟩
 rw [if_neg c3] at H
 have c3b0 : ((l0.length : Int) == (l1.length : Int)) = false := beq_eq_false_iff_ne.mpr c3
 have c3b1 : ((l0.length : Int) != (l1.length : Int)) = true := bne_iff_ne.mpr c3
 have c3b2 : (l0.length == l1.length) = false := by first | simpa using c3 | (simp at c3 ⊢; omega)
 simp only [Option.some.injEq, Prod.mk.injEq] at H
 obtain ⟨rfl, rfl⟩ := H
 go_enter Try.func11, Try.ntmps11
 go_wp2
 repeat (go_quiet (fail); try go_wp2)
 go_ret2
 exact ⟨_, by first | rfl | (simp [errW_none, errW_some] <;> rfl) | (simp [*, errW_none, errW_some] <;> rfl), by first | exact Kd.R_nil _ _ _ _ _ | exact Kd.N_nil _ _ _ _ _ | exact Kd.V_nil _ _ _ _ _ | exact Kd.Q_nil _ _ _ _ _ | exact Kd.S_nil _ _ _ _ _, by repeat (first | (with_reducible first | exact HB.out | apply y3) | exact HB.out)⟩

end Go.Proofs.Ytgdbcknofcnfbaa.P
