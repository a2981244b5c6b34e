-- Printed by xprint.py (wip): functions, contracts, rows. Lean checks it.
import Derived.Test.YtigfodkakefhcaaPx0
import Derived.Test.YtigfodkakefhcaaPx13
namespace Go.Proofs.Ytigfodkakefhcaa.P
open Go.RowKit Go.Proofs.YtigfodkakefhcaaW.PrintWords Go.Proofs.YtigfodkakefhcaaW.PrintLast Go.Proofs.YtigfodkakefhcaaW.PrintMore
attribute [local go_sem] max2_int min2_int max_two min_two max_three min_three max_four min_four   -- for this text's walks alone
set_option linter.unusedVariables false
set_option linter.unusedSimpArgs false

/-! ### heraldref08_Sizes: function 28 -/
mutual
def heraldref08_Sizes.l0 : Nat → List Int → Int → List Int → Int → Option (List Int × Int)
  | 0, _, _, _, _ => none
  | k + 1, x0, x1, x7, x8 => if x8 < (x0.length : Int) then (if 0 ≤ x8 then (if x8 ≤ (wrap64 (x8 + x1)) then (if (wrap64 (x8 + x1)) ≤ (x0.length : Int) then (heraldref08_Sizes.l1 k x0 x1 x7 x8 0 ((x0.take ((wrap64 (x8 + x1)) : Int).toNat).drop (x8 : Int).toNat) (((x0.take ((wrap64 (x8 + x1)) : Int).toNat).drop (x8 : Int).toNat).length : Int) 0) else (none)) else (none)) else (none)) else (some (x7, 0))
def heraldref08_Sizes.l1 : Nat → List Int → Int → List Int → Int → Int → List Int → Int → Int → Option (List Int × Int)
  | 0, _, _, _, _, _, _, _, _ => none
  | k + 1, x0, x1, x7, x8, x9, x31, x32, x33 => if x33 < x32 then (if 0 ≤ x33 then (if x33 < (x31.length : Int) then (if (rd x31 x33) < 0 then (heraldref08_Sizes.l1 k x0 x1 x7 x8 (wrap64 (x9 - (wrap64 (rd x31 x33)))) x31 x32 (wrap64 (x33 + 1))) else (heraldref08_Sizes.l1 k x0 x1 x7 x8 (wrap64 (x9 + (wrap64 (rd x31 x33)))) x31 x32 (wrap64 (x33 + 1)))) else (none)) else (none)) else (if x7.length < 17592186044416 then (heraldref08_Sizes.l0 k x0 x1 (x7 ++ [x9]) (wrap64 (x8 + x1))) else (none))
end
def heraldref08_Sizes.f (k : Nat) (l0 : List Int) (a1 : Int) : Option (List Int × Int) := (heraldref08_Matrix.f l0 a1).bind fun t141 => (if t141 = 0 then (heraldref08_Sizes.l0 k l0 a1 (([] : List Int)) 0) else (some (([] : List Int), t141)))
theorem heraldref08_Sizes.mono_l : ∀ k, (∀ y0 y1 y2 y3, LeO (heraldref08_Sizes.l0 k y0 y1 y2 y3) (heraldref08_Sizes.l0 (k + 1) y0 y1 y2 y3)) ∧ (∀ y0 y1 y2 y3 y4 y5 y6 y7, LeO (heraldref08_Sizes.l1 k y0 y1 y2 y3 y4 y5 y6 y7) (heraldref08_Sizes.l1 (k + 1) y0 y1 y2 y3 y4 y5 y6 y7))
  | 0 => ⟨fun _ _ _ _ r h => by simp [heraldref08_Sizes.l0] at h, fun _ _ _ _ _ _ _ _ r h => by simp [heraldref08_Sizes.l1] at h⟩
  | k + 1 => by
    obtain ⟨ih0, ih1⟩ := heraldref08_Sizes.mono_l k
    refine ⟨?_, ?_⟩
    · intro y0 y1 y2 y3
      unfold heraldref08_Sizes.l0
      repeat' first
      | (with_reducible exact ih0 _ _ _ _)
      | (with_reducible exact ih1 _ _ _ _ _ _ _ _)
      | (with_reducible exact LeO.refl _)
      | (with_reducible exact LeO.none _)
      | (with_reducible refine LeO.ite ?_ ?_)
      | (with_reducible refine LeO.bind ?_ (fun _ => ?_))
      | exact ih0 _ _ _ _
      | exact ih1 _ _ _ _ _ _ _ _
      | exact LeO.none _
      | refine LeO.ite ?_ ?_
      | refine LeO.bind ?_ (fun _ => ?_)
    · intro y0 y1 y2 y3 y4 y5 y6 y7
      unfold heraldref08_Sizes.l1
      repeat' first
      | (with_reducible exact ih0 _ _ _ _)
      | (with_reducible exact ih1 _ _ _ _ _ _ _ _)
      | (with_reducible exact LeO.refl _)
      | (with_reducible exact LeO.none _)
      | (with_reducible refine LeO.ite ?_ ?_)
      | (with_reducible refine LeO.bind ?_ (fun _ => ?_))
      | exact ih0 _ _ _ _
      | exact ih1 _ _ _ _ _ _ _ _
      | exact LeO.none _
      | refine LeO.ite ?_ ?_
      | refine LeO.bind ?_ (fun _ => ?_)
theorem heraldref08_Sizes.mono : ∀ a0 a1 k, LeO (heraldref08_Sizes.f k a0 a1) (heraldref08_Sizes.f (k + 1) a0 a1) := by
  intro a0 a1 k
  obtain ⟨ih0, ih1⟩ := heraldref08_Sizes.mono_l k
  unfold heraldref08_Sizes.f
  repeat' first
      | (with_reducible exact ih0 _ _ _ _)
      | (with_reducible exact ih1 _ _ _ _ _ _ _ _)
      | (with_reducible exact LeO.refl _)
      | (with_reducible exact LeO.none _)
      | (with_reducible refine LeO.ite ?_ ?_)
      | (with_reducible refine LeO.bind ?_ (fun _ => ?_))
      | exact ih0 _ _ _ _
      | exact ih1 _ _ _ _ _ _ _ _
      | exact LeO.none _
      | refine LeO.ite ?_ ?_
      | refine LeO.bind ?_ (fun _ => ?_)
set_option maxHeartbeats 8000000 in
set_option maxRecDepth 100000 in
theorem heraldref08_Sizes.calls (k : Nat) (A0 : Option Addr) (c0 : Nat) (l0 : List Int) (a1 : Int) (r1 : List Int) (r2 : Int) (w : World) (hr0 : Kd.C (Kd.int .i8) w A0 l0.length l0) (hc0 : l0.length ≤ c0) (h : heraldref08_Sizes.f k l0 a1 = some (r1, r2)) :
    Calls Try.prog 28 #[.slice A0 l0.length c0, .int .i64 a1] w fun e w' => ∃ v0_ : Value, e = .returned (.tuple #[v0_, .int .i64 r2]) ∧ Kd.R (Kd.int .i64) 2 w' w.heap.size (fun _ => True) v0_ r1 ∧ Below w.heap.size w w' := by
 have HR0 := ym hr0
 have HC0 := ym hc0
 clear hr0 hc0
 have HB := ym (Below.refl w.heap.size w)
 have H : ((heraldref08_Matrix.f l0 a1).bind fun t141 => (if t141 = 0 then (heraldref08_Sizes.l0 k l0 a1 (([] : List Int)) 0) else (some (([] : List Int), t141)))) = some (r1, r2) := h
 clear h
 replace H := Option.bind_eq_some_iff.mp H
 obtain ⟨t141, A30, H⟩ := H
 replace H : (if t141 = 0 then (heraldref08_Sizes.l0 k l0 a1 (([] : List Int)) 0) else (some (([] : List Int), t141))) = some (r1, r2) := H
 have A3 := ym A30
 clear A30
 by_cases c4 : t141 = 0
 ·
  rw [if_pos c4] at H
  have c4b0 : (t141 == 0) = true := beq_iff_eq.mpr c4
  have c4b1 : (t141 != 0) = false := bne_eq_false_iff_eq.mpr c4
  clear c4
  obtain ⟨y142, hy142⟩ : ∃ y_ : List Int, y_ = (([] : List Int)) := ⟨_, rfl⟩
  replace H : (heraldref08_Sizes.l0 k l0 a1 y142 0) = some (r1, r2) := by first | (rw [hy142]; with_reducible exact H) | (have H2_ := (Option.bind_some _ _).symm.trans H; rw [hy142]; with_reducible exact H2_) | (have H2_ := (Option.bind_some _ _).symm.trans H; with_reducible exact H2_) | with_reducible exact H | (rw [hy142]; exact H) | exact H
  have Ny142 := ym hy142
  clear hy142
  have H' := ym H
  clear H
  go_enter Try.func28, Try.ntmps28
  go_wp2_with (first | ((with_reducible refine gate_callee (f := 49) rfl ?_); refine goesL_ (some 14) rfl rfl Try.func49 (by kernel_rfl) rfl #[.slice A0 l0.length c0, .int .i64 a1] rfl (by (try simp only [List.map_toArray, List.map_cons, List.map_nil]); first | done | rfl | (simp only [List.length_drop, List.length_take]; rfl)) ?_; (with_reducible refine (heraldref08_Matrix.calls _ _ l0 a1 t141 _ ?side1 ?side2 A3.out).mono ?_); (case side1 => repeat (first | exact HR0.out | (with_reducible refine yi ?_ _) | (with_reducible refine yj ?_ _) | (with_reducible refine yk ?_))); (case side2 => exact HC0.out); rintro e w' ⟨rfl, ⟨nd, rfl⟩⟩; refine ⟨_, rfl, ?_⟩) | ((with_reducible refine gate_dst (N := 18) rfl ?_); refine Kd.R_lit (Kd.int .i64) _ 2 ?hg (N := 18) ?hd (xs := ([] : List Int)) (inner := []) (ok := fun _ => True) (okp := fun _ => True) ?hr ?hp (fun _ hk => hk) trivial (Below.refl _ _) (Nat.le_refl _) (by simp) ?_; (case hd => rfl); (case hg => rfl); (case hr => first | (go_simp; done) | (go_simp; rfl)); (case hp => exact (Reps.none _ _)); intro v143 w5 ho6 hb hg_ hnew_; clear hg_ hnew_; (first | rw [← Ny142.out] at ho6 | (simp only [Int.reduceToNat] at ho6; rw [← Ny142.out] at ho6)); have n0_ := ym (yo ho6 (below_size (by repeat (first | (with_reducible first | exact HB.out | apply y3) | exact HB.out)))); have n1_ := ym (yn (by repeat (first | (with_reducible first | exact HB.out | apply y3) | exact HB.out)) hb); clear HB; have HO144 := n0_; have HB := n1_; clear n0_ n1_; clear hb ho6))
  go_loopg [7, 8] k (fun kq v7 v8 w' => ∃ (x7_1 : List Int) (x8_1 : Int), v8 = .int .i64 x8_1 ∧ Aside0 (heraldref08_Sizes.l0 kq l0 a1 x7_1 x8_1 = some (r1, r2)) ∧ Aside0 (kq ≤ k) ∧ Aside0 (Kd.R (Kd.int .i64) 2 w' w.heap.size (fun _ => True) v7 x7_1) ∧ Aside0 (Below w.heap.size w w'))
  case atStart => exact ⟨(y142), (0), (by first | rfl | (simp; done) | (simp [*]; done)), H', ⟨Nat.le_refl _⟩, ⟨by (with_reducible repeat apply y2); exact HO144.out⟩, ⟨by repeat (first | (with_reducible first | exact HB.out | apply y3) | exact HB.out)⟩⟩
  case round =>
   clear H'
   try clear c2
   try clear p2
   try clear c4
   try clear c4b0
   try clear c4b1
   obtain ⟨x7_1, x8_1, rfl, HA, HK1, HO_7, HB⟩ := hrel
   cases gk with
   | zero => exact absurd HA.out (by simp [heraldref08_Sizes.l0])
   | succ k1 =>
    have H := HA.out
    clear HA
    simp only [heraldref08_Sizes.l0] at H
    by_cases c7 : x8_1 < (l0.length : Int)
    ·
     rw [if_pos c7] at H
     have c7b0 : decide (x8_1 < (l0.length : Int)) = true := decide_eq_true c7
     clear c7
     by_cases c8 : 0 ≤ x8_1
     ·
      rw [if_pos c8] at H
      have c8b0 := eq_true c8
      have c8b1 : decide (0 ≤ x8_1) = true := decide_eq_true c8
      clear c8
      by_cases c9 : x8_1 ≤ (wrap64 (x8_1 + a1))
      ·
       rw [if_pos c9] at H
       have c9b0 := eq_true c9
       have c9b1 : decide (x8_1 ≤ (wrap64 (x8_1 + a1))) = true := decide_eq_true c9
       by_cases c10 : (wrap64 (x8_1 + a1)) ≤ (l0.length : Int)
       ·
        rw [if_pos c10] at H
        have c10b0 := eq_true c10
        have c10b1 : decide ((wrap64 (x8_1 + a1)) ≤ (l0.length : Int)) = true := decide_eq_true c10
        have H' := ym H
        clear H
        obtain ⟨i011, hi011, _, hsz11, _⟩ := info_parts info42
        obtain ⟨A11, hcut11, hA11, hC11⟩ := print_mid_of (P := Try.prog) (Value.int .i8) 0 22 42 .i64 .i64 Try.underlying22 hi011 hsz11 A0 c0 l0 x8_1 (wrap64 (x8_1 + a1)) (of_decide_eq_true (by first | (with_reducible assumption) | assumption)) (by first | omega | exact of_decide_eq_true (by first | (with_reducible assumption) | assumption)) (of_decide_eq_true (by first | (with_reducible assumption) | assumption)) HC0.out
        have HR145 := ym (Kd.C_of_reads (h1 := fun _ => rfl) (hA11 _ (Kd.reads_of_C HR0.out)))
        have HC145 := ym hC11
        clear hA11 hC11 hi011 hsz11
        obtain ⟨L_, hL_⟩ : ∃ L_ : List Int, ((l0.take ((wrap64 (x8_1 + a1)) : Int).toNat).drop (x8_1 : Int).toNat) = L_ := ⟨_, rfl⟩
        rw [hL_] at hcut11 HR145 HC145 H'
        have HL_ := ym hL_
        clear hL_
        go_wp2
        go_loopg [9, 33] k1 (fun kq v9 v33 w' => ∃ (x9_2 : Int) (x33_2 : Int), v9 = .int .i64 x9_2 ∧ v33 = .int .i64 x33_2 ∧ Aside0 (heraldref08_Sizes.l1 kq l0 a1 x7_1 x8_1 x9_2 L_ (L_.length : Int) x33_2 = some (r1, r2)) ∧ Aside0 (kq ≤ k1) ∧ Aside0 (Kd.R (Kd.int .i64) 2 w' w.heap.size (fun _ => True) u7 x7_1) ∧ Aside0 (Below w.heap.size w w'))
        case atStart => exact ⟨(0), (0), (by first | rfl | (simp; done) | (simp [*]; done)), (by first | rfl | (simp; done) | (simp [*]; done)), H', ⟨Nat.le_refl _⟩, ⟨by (with_reducible repeat apply y2); exact HO_7.out⟩, ⟨by repeat (first | (with_reducible first | exact HB.out | apply y3) | exact HB.out)⟩⟩
        case round =>
         clear H'
         try clear c1
         try clear c2
         try clear p2
         try clear c4
         try clear c4b0
         try clear c4b1
         try clear p6
         try clear c7
         try clear c7b0
         try clear c8
         try clear c8b0
         try clear c8b1
         try clear c9
         try clear c9b0
         try clear c9b1
         try clear c10
         try clear c10b0
         try clear c10b1
         try clear p2
         obtain ⟨x9_2, x33_2, rfl, rfl, HA, HK2, HO_7, HB⟩ := hrel
         cases gk with
         | zero => exact absurd HA.out (by simp [heraldref08_Sizes.l1])
         | succ k2 =>
          have H := HA.out
          clear HA
          simp only [heraldref08_Sizes.l1] at H
          by_cases c12 : x33_2 < (L_.length : Int)
          ·
           rw [if_pos c12] at H
           have c12b0 : decide (x33_2 < (L_.length : Int)) = true := decide_eq_true c12
           clear c12
           by_cases c13 : 0 ≤ x33_2
           ·
            rw [if_pos c13] at H
            have c13b0 : decide (0 ≤ x33_2) = true := decide_eq_true c13
            clear c13
            by_cases c14 : x33_2 < (L_.length : Int)
            ·
             rw [if_pos c14] at H
             have c14b0 : decide (x33_2 < (L_.length : Int)) = true := decide_eq_true c14
             clear c14
             by_cases c15 : (rd L_ x33_2) < 0
             ·
              rw [if_pos c15] at H
              have c15b0 : decide ((rd L_ x33_2) < 0) = true := decide_eq_true c15
              clear c15
              have H' := ym H
              clear H
              have p146 : 0 ≤ (x33_2 : Int) := of_decide_eq_true (by first | (with_reducible assumption) | assumption)
              have q146 : x33_2 < (L_.length : Int) := of_decide_eq_true (by first | (with_reducible assumption) | assumption)
              obtain ⟨ad146, e146, hx146_0⟩ := Kd.at_int HR145.out x33_2 p146 q146
              cases e146
              replace hx146_0 := (HB.out.cell (World.block_lt_of_cell? w _ hx146_0)).trans hx146_0
              replace p146 := eq_true p146
              replace q146 := eq_true q146
              go_wp2
              go_roundg k2
              case measure => have := HK1.out; have := HK2.out; omega
              case rel => exact ⟨(wrap64 (x9_2 - (wrap64 (rd L_ x33_2)))), (wrap64 (x33_2 + 1)), (by first | rfl | (simp; done) | (simp [*]; done)), (by first | rfl | (simp; done) | (simp [*]; done)), H', ⟨by have := HK1.out; have := HK2.out; omega⟩, ⟨by (with_reducible repeat apply y2); exact HO_7.out⟩, ⟨by repeat (first | (with_reducible first | exact HB.out | apply y3) | exact HB.out)⟩⟩
             rw [if_neg c15] at H
             have c15b0 : decide ((rd L_ x33_2) < 0) = false := decide_eq_false c15
             clear c15
             have H' := ym H
             clear H
             have p146 : 0 ≤ (x33_2 : Int) := of_decide_eq_true (by first | (with_reducible assumption) | assumption)
             have q146 : x33_2 < (L_.length : Int) := of_decide_eq_true (by first | (with_reducible assumption) | assumption)
             obtain ⟨ad146, e146, hx146_0⟩ := Kd.at_int HR145.out x33_2 p146 q146
             cases e146
             replace hx146_0 := (HB.out.cell (World.block_lt_of_cell? w _ hx146_0)).trans hx146_0
             replace p146 := eq_true p146
             replace q146 := eq_true q146
             go_wp2
             go_roundg k2
             case measure => have := HK1.out; have := HK2.out; omega
             case rel => exact ⟨(wrap64 (x9_2 + (wrap64 (rd L_ x33_2)))), (wrap64 (x33_2 + 1)), (by first | rfl | (simp; done) | (simp [*]; done)), (by first | rfl | (simp; done) | (simp [*]; done)), H', ⟨by have := HK1.out; have := HK2.out; omega⟩, ⟨by (with_reducible repeat apply y2); exact HO_7.out⟩, ⟨by repeat (first | (with_reducible first | exact HB.out | apply y3) | exact HB.out)⟩⟩
            rw [if_neg c14] at H
            exact absurd H (by simp)
           rw [if_neg c13] at H
           exact absurd H (by simp)
          rw [if_neg c12] at H
          have c12b0 : decide (x33_2 < (L_.length : Int)) = false := decide_eq_false c12
          clear c12
          by_cases c16 : x7_1.length < 17592186044416
          ·
           rw [if_pos c16] at H
           have LMc16 := ym c16
           clear c16
           obtain ⟨y147, hy147⟩ : ∃ y_ : List Int, y_ = (x7_1 ++ [x9_2]) := ⟨_, rfl⟩
           replace H : (heraldref08_Sizes.l0 k2 l0 a1 y147 (wrap64 (x8_1 + a1))) = some (r1, r2) := by first | (rw [hy147]; with_reducible exact H) | (have H2_ := (Option.bind_some _ _).symm.trans H; rw [hy147]; with_reducible exact H2_) | (have H2_ := (Option.bind_some _ _).symm.trans H; with_reducible exact H2_) | with_reducible exact H | (rw [hy147]; exact H) | exact H
           have Ny147 := ym hy147
           clear hy147
           have H' := ym H
           clear H
           go_wp2_with (first | ((with_reducible refine gate_builtin (b := .append) (xs := #[.tmp 48, .tmp 50]) rfl ?_); at_builtin; refine Kd.R_append (Kd.int .i64) (w0 := w) w.heap.size rfl (.tmp 48) (.tmp 50) 28 2 (.int .i64 0) 8 rfl Try.underlying28 info2 rfl (by decide) (by omega) u7 x7_1 x9_2 [.int .i64 x9_2] (fun _ => True) (fun _ => False) rfl rfl ?aP (fun _ hk => hk.elim) ?aF ?aO ?aB ?aS ?aL ?_; (case aP => exact rfl); (case aB => exact (by repeat (first | (with_reducible first | exact HB.out | apply y3) | exact HB.out))); (case aF => exact (fun _ _ => trivial)); (case aO => exact (by (with_reducible repeat apply y2); exact HO_7.out)); (case aS => exact (below_size (by repeat (first | (with_reducible first | exact HB.out | apply y3) | exact HB.out)))); (case aL => have := LMc16.out; omega); intro v148 w17 ho hb hg hat; rw [← Ny147.out] at ho; have n0_ := ym (hb); have n1_ := ym (ho); clear HB; clear HO_7; have HB := n0_; have HO149 := n1_; clear n0_ n1_; clear ho hb hg hat))
           go_roundg k2
           case measure => have := HK1.out; have := HK2.out; omega
           case rel => exact ⟨(y147), (wrap64 (x8_1 + a1)), (by first | rfl | (simp; done) | (simp [*]; done)), H', ⟨by have := HK1.out; have := HK2.out; omega⟩, ⟨by (with_reducible repeat apply y2); exact HO149.out⟩, ⟨by repeat (first | (with_reducible first | exact HB.out | apply y3) | exact HB.out)⟩⟩
          rw [if_neg c16] at H
          exact absurd H (by simp)
       rw [if_neg c10] at H
       exact absurd H (by simp)
      rw [if_neg c9] at H
      exact absurd H (by simp)
     rw [if_neg c8] at H
     exact absurd H (by simp)
    rw [if_neg c7] at H
    have c7b0 : decide (x8_1 < (l0.length : Int)) = false := decide_eq_false c7
    clear c7
    simp only [Option.some.injEq, Prod.mk.injEq] at H
    obtain ⟨rfl, rfl⟩ := H
    go_wp2
    go_ret2
    exact ⟨_, by first | rfl | (simp [errW_none, errW_some] <;> rfl) | (simp [*, errW_none, errW_some] <;> rfl), by (with_reducible repeat apply y2); exact HO_7.out, by repeat (first | (with_reducible first | exact HB.out | apply y3) | exact HB.out)⟩
 rw [if_neg c4] at H
 have c4b0 : (t141 == 0) = false := beq_eq_false_iff_ne.mpr c4
 have c4b1 : (t141 != 0) = true := bne_iff_ne.mpr c4
 simp only [Option.some.injEq, Prod.mk.injEq] at H
 obtain ⟨rfl, rfl⟩ := H
 go_enter Try.func28, Try.ntmps28
 go_wp2_with (first | ((with_reducible refine gate_callee (f := 49) rfl ?_); refine goesL_ (some 14) rfl rfl Try.func49 (by kernel_rfl) rfl #[.slice A0 l0.length c0, .int .i64 a1] rfl (by (try simp only [List.map_toArray, List.map_cons, List.map_nil]); first | done | rfl | (simp only [List.length_drop, List.length_take]; rfl)) ?_; (with_reducible refine (heraldref08_Matrix.calls _ _ l0 a1 t141 _ ?side1 ?side2 A3.out).mono ?_); (case side1 => repeat (first | exact HR0.out | (with_reducible refine yi ?_ _) | (with_reducible refine yj ?_ _) | (with_reducible refine yk ?_))); (case side2 => exact HC0.out); rintro e w' ⟨rfl, ⟨nd, rfl⟩⟩; refine ⟨_, rfl, ?_⟩))
 go_ret2
 exact ⟨_, by first | rfl | (simp [errW_none, errW_some] <;> rfl) | (simp [*, errW_none, errW_some] <;> rfl), by first | exact Kd.R_nil _ _ _ _ _ | exact Kd.N_nil _ _ _ _ _ | exact Kd.V_nil _ _ _ _ _ | exact Kd.Q_nil _ _ _ _ _ | exact Kd.S_nil _ _ _ _ _, by repeat (first | (with_reducible first | exact HB.out | apply y3) | exact HB.out)⟩

end Go.Proofs.Ytigfodkakefhcaa.P
