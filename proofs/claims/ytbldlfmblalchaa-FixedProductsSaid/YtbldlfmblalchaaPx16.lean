-- Printed by xprint.py (wip): functions, contracts, rows. Lean checks it.
import Derived.Test.YtbldlfmblalchaaPx0
import Derived.Test.YtbldlfmblalchaaPx15
namespace Go.Proofs.Ytbldlfmblalchaa.P
open Go.RowKit Go.Proofs.YtbldlfmblalchaaW.PrintWords Go.Proofs.YtbldlfmblalchaaW.PrintLast Go.Proofs.YtbldlfmblalchaaW.PrintMore
attribute [local go_sem] max2_int min2_int max_two min_two max_three min_three max_four min_four   -- for this text's walks alone
set_option linter.unusedVariables false
set_option linter.unusedSimpArgs false

/-! ### heraldref02_product: function 52 -/
mutual
def heraldref02_product.l0 : Nat → List Int → List Int → List Int → Int → Int → Option (List Int)
  | 0, _, _, _, _, _ => none
  | k + 1, x5, x6, x7, x18, x19 => if x19 < x18 then (heraldref02_product.l1 k x5 x6 x7 x19 0 x18 x19 (x7.length : Int) 0) else (some x5)
def heraldref02_product.l1 : Nat → List Int → List Int → List Int → Int → Int → Int → Int → Int → Int → Option (List Int)
  | 0, _, _, _, _, _, _, _, _, _ => none
  | k + 1, x5, x6, x7, x8, x9, x18, x19, x23, x24 => if x24 < x23 then (if 0 ≤ (wrap64 (x8 + x24)) then (if (wrap64 (x8 + x24)) < (x5.length : Int) then (if 0 ≤ x8 then (if x8 < (x6.length : Int) then (if 0 ≤ x24 then (if x24 < (x7.length : Int) then (heraldref02_product.l1 k (x5.set ((wrap64 (x8 + x24)) : Int).toNat (Int.tmod (IntKind.u64.wrap ((IntKind.u64.wrap ((rd x5 (wrap64 (x8 + x24))) + (IntKind.u64.wrap ((rd x6 x8) * (rd x7 x24))))) + x9)) 65536)) x6 x7 x8 (IntKind.u64.wrap (Int.tdiv (IntKind.u64.wrap ((IntKind.u64.wrap ((rd x5 (wrap64 (x8 + x24))) + (IntKind.u64.wrap ((rd x6 x8) * (rd x7 x24))))) + x9)) 65536)) x18 x19 x23 (wrap64 (x24 + 1))) else (none)) else (none)) else (none)) else (none)) else (none)) else (none)) else (if 0 ≤ (wrap64 (x8 + 4)) then (if (wrap64 (x8 + 4)) < (x5.length : Int) then (heraldref02_product.l0 k (x5.set ((wrap64 (x8 + 4)) : Int).toNat (IntKind.u64.wrap ((rd x5 (wrap64 (x8 + 4))) + x9))) x6 x7 x18 (wrap64 (x19 + 1))) else (none)) else (none))
end
def heraldref02_product.f (k : Nat) (a0 : Int) (a1 : Int) : Option (List Int) := if 8 ≤ 35184372088832 then ((heraldref02_digits.f k a0).bind fun t133 => ((heraldref02_digits.f k a1).bind fun t136 => (heraldref02_product.l0 k (List.replicate 8 0) t133 t136 (t133.length : Int) 0))) else (none)
theorem heraldref02_product.mono_l : ∀ k, (∀ y0 y1 y2 y3 y4, LeO (heraldref02_product.l0 k y0 y1 y2 y3 y4) (heraldref02_product.l0 (k + 1) y0 y1 y2 y3 y4)) ∧ (∀ y0 y1 y2 y3 y4 y5 y6 y7 y8, LeO (heraldref02_product.l1 k y0 y1 y2 y3 y4 y5 y6 y7 y8) (heraldref02_product.l1 (k + 1) y0 y1 y2 y3 y4 y5 y6 y7 y8))
  | 0 => ⟨fun _ _ _ _ _ r h => by simp [heraldref02_product.l0] at h, fun _ _ _ _ _ _ _ _ _ r h => by simp [heraldref02_product.l1] at h⟩
  | k + 1 => by
    obtain ⟨ih0, ih1⟩ := heraldref02_product.mono_l k
    refine ⟨?_, ?_⟩
    · intro y0 y1 y2 y3 y4
      unfold heraldref02_product.l0
      repeat' first
      | (with_reducible exact ih0 _ _ _ _ _)
      | (with_reducible exact ih1 _ _ _ _ _ _ _ _ _)
      | (with_reducible exact heraldref02_digits.mono _ _)
      | (with_reducible exact LeO.refl _)
      | (with_reducible exact LeO.none _)
      | (with_reducible refine LeO.ite ?_ ?_)
      | (with_reducible refine LeO.bind ?_ (fun _ => ?_))
      | exact ih0 _ _ _ _ _
      | exact ih1 _ _ _ _ _ _ _ _ _
      | exact heraldref02_digits.mono _ _
      | exact LeO.none _
      | refine LeO.ite ?_ ?_
      | refine LeO.bind ?_ (fun _ => ?_)
    · intro y0 y1 y2 y3 y4 y5 y6 y7 y8
      unfold heraldref02_product.l1
      repeat' first
      | (with_reducible exact ih0 _ _ _ _ _)
      | (with_reducible exact ih1 _ _ _ _ _ _ _ _ _)
      | (with_reducible exact heraldref02_digits.mono _ _)
      | (with_reducible exact LeO.refl _)
      | (with_reducible exact LeO.none _)
      | (with_reducible refine LeO.ite ?_ ?_)
      | (with_reducible refine LeO.bind ?_ (fun _ => ?_))
      | exact ih0 _ _ _ _ _
      | exact ih1 _ _ _ _ _ _ _ _ _
      | exact heraldref02_digits.mono _ _
      | exact LeO.none _
      | refine LeO.ite ?_ ?_
      | refine LeO.bind ?_ (fun _ => ?_)
theorem heraldref02_product.mono : ∀ a0 a1 k, LeO (heraldref02_product.f k a0 a1) (heraldref02_product.f (k + 1) a0 a1) := by
  intro a0 a1 k
  obtain ⟨ih0, ih1⟩ := heraldref02_product.mono_l k
  unfold heraldref02_product.f
  repeat' first
      | (with_reducible exact ih0 _ _ _ _ _)
      | (with_reducible exact ih1 _ _ _ _ _ _ _ _ _)
      | (with_reducible exact heraldref02_digits.mono _ _)
      | (with_reducible exact LeO.refl _)
      | (with_reducible exact LeO.none _)
      | (with_reducible refine LeO.ite ?_ ?_)
      | (with_reducible refine LeO.bind ?_ (fun _ => ?_))
      | exact ih0 _ _ _ _ _
      | exact ih1 _ _ _ _ _ _ _ _ _
      | exact heraldref02_digits.mono _ _
      | exact LeO.none _
      | refine LeO.ite ?_ ?_
      | refine LeO.bind ?_ (fun _ => ?_)
set_option maxHeartbeats 8000000 in
set_option maxRecDepth 100000 in
theorem heraldref02_product.calls (k : Nat) (a0 : Int) (a1 : Int) (r : List Int) (w : World) (h : heraldref02_product.f k a0 a1 = some r) :
    Calls Try.prog 52 #[.int .u64 a0, .int .u64 a1] w fun e w' => ∃ v0_ : Value, e = .returned (v0_) ∧ Kd.R (Kd.int .u64) 58 w' w.heap.size (fun _ => True) v0_ r ∧ Below w.heap.size w w' := by
 have HB := ym (Below.refl w.heap.size w)
 have H : (if 8 ≤ 35184372088832 then ((heraldref02_digits.f k a0).bind fun t133 => ((heraldref02_digits.f k a1).bind fun t136 => (heraldref02_product.l0 k (List.replicate 8 0) t133 t136 (t133.length : Int) 0))) else (none)) = some r := h
 clear h
 by_cases c3 : 8 ≤ 35184372088832
 ·
  rw [if_pos c3] at H
  have c3b0 := eq_true c3
  have c3b1 : decide (8 ≤ 35184372088832) = true := decide_eq_true c3
  clear c3
  obtain ⟨y130, hy130⟩ : ∃ y_ : List Int, y_ = (List.replicate 8 0) := ⟨_, rfl⟩
  replace H : ((heraldref02_digits.f k a0).bind fun t133 => ((heraldref02_digits.f k a1).bind fun t136 => (heraldref02_product.l0 k y130 t133 t136 (t133.length : Int) 0))) = some r := by first | (rw [hy130]; with_reducible exact H) | (have H2_ := (Option.bind_some _ _).symm.trans H; rw [hy130]; with_reducible exact H2_) | (have H2_ := (Option.bind_some _ _).symm.trans H; with_reducible exact H2_) | with_reducible exact H | (rw [hy130]; exact H) | exact H
  have Ny130 := ym hy130
  clear hy130
  replace H := Option.bind_eq_some_iff.mp H
  obtain ⟨t133, A40, H⟩ := H
  replace H : ((heraldref02_digits.f k a1).bind fun t136 => (heraldref02_product.l0 k y130 t133 t136 (t133.length : Int) 0)) = some r := H
  have A4 := ym A40
  clear A40
  replace H := Option.bind_eq_some_iff.mp H
  obtain ⟨t136, A50, H⟩ := H
  replace H : (heraldref02_product.l0 k y130 t133 t136 (t133.length : Int) 0) = some r := H
  have A5 := ym A50
  clear A50
  have H' := ym H
  clear H
  go_enter Try.func52, Try.ntmps52
  go_wp2_with (first | ((with_reducible refine gate_dst (N := 12) rfl ?_); refine Kd.R_make (Kd.int .u64) _ 58 rfl (N := 12) rfl 63 _ _ rfl 8 rfl rfl Try.underlying63 (.int .u64 0) 8 info58 rfl (by decide) (by omega) 0 (ok := fun _ => True) (okp := fun _ => True) rfl (fun _ hk => hk) trivial (by omega) (by omega) (Below.refl _ _) (Nat.le_refl _) ?_; intro v131 w6 ho7 hb hg_ hnew_; clear hg_ hnew_; (first | rw [← Ny130.out] at ho7 | (simp only [Int.reduceToNat] at ho7; rw [← Ny130.out] at ho7)); have n0_ := ym (yo ho7 (below_size (by repeat (first | (with_reducible first | exact HB.out | apply y3) | exact HB.out)))); have n1_ := ym (yn (by repeat (first | (with_reducible first | exact HB.out | apply y3) | exact HB.out)) hb); clear HB; have HO132 := n0_; have HB := n1_; clear n0_ n1_; clear hb ho7) | ((with_reducible refine gate_callee (f := 54) rfl ?_); refine goesL_ (some 14) rfl rfl Try.func54 (by kernel_rfl) rfl #[.int .u64 a0] rfl (by (try simp only [List.map_toArray, List.map_cons, List.map_nil]); first | done | rfl | (simp only [List.length_drop, List.length_take]; rfl)) ?_; (with_reducible refine (heraldref02_digits.calls k a0 t133 _ A4.out).mono ?_); rintro e w8 ⟨v134, rfl, ho0, hb⟩; refine ⟨_, rfl, ?_⟩; have n0_ := ym (Kd.R_elder' (by (with_reducible repeat apply y2); exact HO132.out) (Kd.R_base ho0) hb); have n1_ := ym (yo (Kd.R_new' ho0 (Kd.R_lt (by (with_reducible repeat apply y2); exact HO132.out))) (below_size (by repeat (first | (with_reducible first | exact HB.out | apply y3) | exact HB.out)))); have n2_ := ym (yn (by repeat (first | (with_reducible first | exact HB.out | apply y3) | exact HB.out)) hb); clear HO132; clear HB; have HO132 := n0_; have HO135 := n1_; have HB := n2_; clear n0_ n1_ n2_; (try clear hb); (try clear hb2); (try clear hk); (try clear hi); (try clear ho0)) | ((with_reducible refine gate_callee (f := 54) rfl ?_); refine goesL_ (some 16) rfl rfl Try.func54 (by kernel_rfl) rfl #[.int .u64 a1] rfl (by (try simp only [List.map_toArray, List.map_cons, List.map_nil]); first | done | rfl | (simp only [List.length_drop, List.length_take]; rfl)) ?_; (with_reducible refine (heraldref02_digits.calls k a1 t136 _ A5.out).mono ?_); rintro e w9 ⟨v137, rfl, ho0, hb⟩; refine ⟨_, rfl, ?_⟩; have n0_ := ym (Kd.R_elder' (by (with_reducible repeat apply y2); exact HO132.out) (Kd.R_base ho0) hb); have n1_ := ym (Kd.R_elder' (by (with_reducible repeat apply y2); exact HO135.out) (Kd.R_base ho0) hb); have n2_ := ym (yo (Kd.R_new' (Kd.R_new' ho0 (Kd.R_lt (by (with_reducible repeat apply y2); exact HO132.out))) (Kd.R_lt (by (with_reducible repeat apply y2); exact HO135.out))) (below_size (by repeat (first | (with_reducible first | exact HB.out | apply y3) | exact HB.out)))); have n3_ := ym (yn (by repeat (first | (with_reducible first | exact HB.out | apply y3) | exact HB.out)) hb); clear HO132; clear HO135; clear HB; have HO132 := n0_; have HO135 := n1_; have HO138 := n2_; have HB := n3_; clear n0_ n1_ n2_ n3_; (try clear hb); (try clear hb2); (try clear hk); (try clear hi); (try clear ho0); obtain ⟨Ao10, co10, eo10⟩ := Kd.R_slice HO135.out; subst eo10))
  go_loopg [19] k (fun kq v19 w' => ∃ (x5_1 : List Int) (x19_1 : Int), v19 = .int .i64 x19_1 ∧ Aside0 (heraldref02_product.l0 kq x5_1 t133 t136 (t133.length : Int) x19_1 = some r) ∧ Aside0 (kq ≤ k) ∧ Aside0 (Kd.R (Kd.int .u64) 58 w' w.heap.size (fun k_ => some k_ ≠ ((.slice Ao10 t133.length co10) : Value).ownBlock ∧ some k_ ≠ (v137 : Value).ownBlock) v131 x5_1) ∧ Aside0 (Kd.R (Kd.int .u64) 58 w' w.heap.size (fun k_ => some k_ ≠ (v131 : Value).ownBlock ∧ some k_ ≠ (v137 : Value).ownBlock) (.slice Ao10 t133.length co10) t133) ∧ Aside0 (Kd.R (Kd.int .u64) 58 w' w.heap.size (fun k_ => some k_ ≠ (v131 : Value).ownBlock ∧ some k_ ≠ ((.slice Ao10 t133.length co10) : Value).ownBlock) v137 t136) ∧ Aside0 (Below w.heap.size w w'))
  case atStart => exact ⟨(y130), (0), (by first | rfl | (simp; done) | (simp [*]; done)), H', ⟨Nat.le_refl _⟩, ⟨by (with_reducible repeat apply y2); exact Kd.R_mono HO132.out (fun _ hk => ⟨hk.1.2, hk.2⟩)⟩, ⟨by (with_reducible repeat apply y2); exact Kd.R_mono HO135.out (fun _ hk => ⟨hk.1.2, hk.2⟩)⟩, ⟨by (with_reducible repeat apply y2); exact Kd.R_mono HO138.out (fun _ hk => ⟨hk.1.2, hk.2⟩)⟩, ⟨by repeat (first | (with_reducible first | exact HB.out | apply y3) | exact HB.out)⟩⟩
  case round =>
   clear H'
   try clear p2
   try clear c3
   try clear c3b0
   try clear c3b1
   try clear c5
   obtain ⟨x5_1, x19_1, rfl, HA, HK1, HO_5, HO_6, HO_7, HB⟩ := hrel
   cases gk with
   | zero => exact absurd HA.out (by simp [heraldref02_product.l0])
   | succ k1 =>
    have H := HA.out
    clear HA
    simp only [heraldref02_product.l0] at H
    by_cases c11 : x19_1 < (t133.length : Int)
    ·
     rw [if_pos c11] at H
     have c11b0 : decide (x19_1 < (t133.length : Int)) = true := decide_eq_true c11
     clear c11
     have H' := ym H
     clear H
     obtain ⟨Ao12, co12, eo12⟩ := Kd.R_slice HO_7.out
     subst eo12
     go_wp2
     go_loopg [9, 24] k1 (fun kq v9 v24 w' => ∃ (x5_2 : List Int) (x9_2 : Int) (x24_2 : Int), v9 = .int .u64 x9_2 ∧ v24 = .int .i64 x24_2 ∧ Aside0 (heraldref02_product.l1 kq x5_2 t133 t136 x19_1 x9_2 (t133.length : Int) x19_1 (t136.length : Int) x24_2 = some r) ∧ Aside0 (kq ≤ k1) ∧ Aside0 (Kd.R (Kd.int .u64) 58 w' w.heap.size (fun k_ => some k_ ≠ ((.slice Ao10 t133.length co10) : Value).ownBlock ∧ some k_ ≠ ((.slice Ao12 t136.length co12) : Value).ownBlock) v131 x5_2) ∧ Aside0 (Kd.R (Kd.int .u64) 58 w' w.heap.size (fun k_ => some k_ ≠ (v131 : Value).ownBlock ∧ some k_ ≠ ((.slice Ao12 t136.length co12) : Value).ownBlock) (.slice Ao10 t133.length co10) t133) ∧ Aside0 (Kd.R (Kd.int .u64) 58 w' w.heap.size (fun k_ => some k_ ≠ (v131 : Value).ownBlock ∧ some k_ ≠ ((.slice Ao10 t133.length co10) : Value).ownBlock) (.slice Ao12 t136.length co12) t136) ∧ Aside0 (Below w.heap.size w w'))
     case atStart => exact ⟨(x5_1), (0), (0), (by first | rfl | (simp; done) | (simp [*]; done)), (by first | rfl | (simp; done) | (simp [*]; done)), H', ⟨Nat.le_refl _⟩, ⟨by (with_reducible repeat apply y2); exact HO_5.out⟩, ⟨by (with_reducible repeat apply y2); exact HO_6.out⟩, ⟨by (with_reducible repeat apply y2); exact HO_7.out⟩, ⟨by repeat (first | (with_reducible first | exact HB.out | apply y3) | exact HB.out)⟩⟩
     case round =>
      clear H'
      try clear c1
      try clear p2
      try clear c3
      try clear c3b0
      try clear c3b1
      try clear c5
      try clear c11
      try clear c11b0
      try clear p2
      obtain ⟨x5_2, x9_2, x24_2, rfl, rfl, HA, HK2, HO_5, HO_6, HO_7, HB⟩ := hrel
      cases gk with
      | zero => exact absurd HA.out (by simp [heraldref02_product.l1])
      | succ k2 =>
       have H := HA.out
       clear HA
       simp only [heraldref02_product.l1] at H
       by_cases c13 : x24_2 < (t136.length : Int)
       ·
        rw [if_pos c13] at H
        have c13b0 : decide (x24_2 < (t136.length : Int)) = true := decide_eq_true c13
        clear c13
        obtain ⟨ji14, hji14⟩ : ∃ j_ : Int, (wrap64 (x19_1 + x24_2)) = j_ := ⟨_, rfl⟩
        replace H : (if 0 ≤ (ji14) then (if (ji14) < (x5_2.length : Int) then (if 0 ≤ x19_1 then (if x19_1 < (t133.length : Int) then (if 0 ≤ x24_2 then (if x24_2 < (t136.length : Int) then (heraldref02_product.l1 k2 (x5_2.set ((ji14) : Int).toNat (Int.tmod (IntKind.u64.wrap ((IntKind.u64.wrap ((rd x5_2 (ji14)) + (IntKind.u64.wrap ((rd t133 x19_1) * (rd t136 x24_2))))) + x9_2)) 65536)) t133 t136 x19_1 (IntKind.u64.wrap (Int.tdiv (IntKind.u64.wrap ((IntKind.u64.wrap ((rd x5_2 (ji14)) + (IntKind.u64.wrap ((rd t133 x19_1) * (rd t136 x24_2))))) + x9_2)) 65536)) (t133.length : Int) x19_1 (t136.length : Int) (wrap64 (x24_2 + 1))) else (none)) else (none)) else (none)) else (none)) else (none)) else (none)) = some r := by first | (rw [hji14] at H; exact H) | (simp only [hji14] at H ⊢; exact H)
        have hji14w : (IntKind.i64.wrap (x19_1 + x24_2)) = ji14 := (i64_w _).trans hji14
        by_cases c15 : 0 ≤ (ji14)
        ·
         rw [if_pos c15] at H
         have c15b0 : decide (0 ≤ (ji14)) = true := decide_eq_true c15
         clear c15
         by_cases c16 : (ji14) < (x5_2.length : Int)
         ·
          rw [if_pos c16] at H
          have c16b0 : decide ((ji14) < (x5_2.length : Int)) = true := decide_eq_true c16
          clear c16
          by_cases c17 : 0 ≤ x19_1
          ·
           rw [if_pos c17] at H
           have c17b0 : decide (0 ≤ x19_1) = true := decide_eq_true c17
           clear c17
           by_cases c18 : x19_1 < (t133.length : Int)
           ·
            rw [if_pos c18] at H
            have c18b0 : decide (x19_1 < (t133.length : Int)) = true := decide_eq_true c18
            clear c18
            by_cases c19 : 0 ≤ x24_2
            ·
             rw [if_pos c19] at H
             have c19b0 : decide (0 ≤ x24_2) = true := decide_eq_true c19
             clear c19
             by_cases c20 : x24_2 < (t136.length : Int)
             ·
              rw [if_pos c20] at H
              have c20b0 : decide (x24_2 < (t136.length : Int)) = true := decide_eq_true c20
              clear c20
              obtain ⟨y142, hy142⟩ : ∃ y_ : List Int, y_ = (x5_2.set ((ji14) : Int).toNat (Int.tmod (IntKind.u64.wrap ((IntKind.u64.wrap ((rd x5_2 (ji14)) + (IntKind.u64.wrap ((rd t133 x19_1) * (rd t136 x24_2))))) + x9_2)) 65536)) := ⟨_, rfl⟩
              replace H : (heraldref02_product.l1 k2 y142 t133 t136 x19_1 (IntKind.u64.wrap (Int.tdiv (IntKind.u64.wrap ((IntKind.u64.wrap ((rd x5_2 (ji14)) + (IntKind.u64.wrap ((rd t133 x19_1) * (rd t136 x24_2))))) + x9_2)) 65536)) (t133.length : Int) x19_1 (t136.length : Int) (wrap64 (x24_2 + 1))) = some r := by first | (rw [hy142]; with_reducible exact H) | (have H2_ := (Option.bind_some _ _).symm.trans H; rw [hy142]; with_reducible exact H2_) | (have H2_ := (Option.bind_some _ _).symm.trans H; with_reducible exact H2_) | with_reducible exact H | (rw [hy142]; exact H) | exact H
              have Ny142 := ym hy142
              clear hy142
              have H' := ym H
              clear H
              obtain ⟨Ao22, co22, eo22⟩ := Kd.R_slice HO_5.out
              subst eo22
              have p139 : 0 ≤ ((ji14) : Int) := of_decide_eq_true (by first | (with_reducible assumption) | assumption)
              have q139 : (ji14) < (x5_2.length : Int) := of_decide_eq_true (by first | (with_reducible assumption) | assumption)
              obtain ⟨ad139, e139, hx139_0⟩ := Kd.at_int (Kd.R_reads' HO_5.out).2.2 (ji14) p139 q139
              cases e139
              replace p139 := eq_true p139
              replace q139 := eq_true q139
              have p140 : 0 ≤ (x19_1 : Int) := of_decide_eq_true (by first | (with_reducible assumption) | assumption)
              have q140 : x19_1 < (t133.length : Int) := of_decide_eq_true (by first | (with_reducible assumption) | assumption)
              obtain ⟨ad140, e140, hx140_0⟩ := Kd.at_int (Kd.R_reads' HO_6.out).2.2 x19_1 p140 q140
              cases e140
              replace p140 := eq_true p140
              replace q140 := eq_true q140
              have p141 : 0 ≤ (x24_2 : Int) := of_decide_eq_true (by first | (with_reducible assumption) | assumption)
              have q141 : x24_2 < (t136.length : Int) := of_decide_eq_true (by first | (with_reducible assumption) | assumption)
              obtain ⟨ad141, e141, hx141_0⟩ := Kd.at_int (Kd.R_reads' HO_7.out).2.2 x24_2 p141 q141
              cases e141
              replace p141 := eq_true p141
              replace q141 := eq_true q141
              go_wp2
              go_quiet (fail)
              have n0_ := ym (yg HO_5.out nq)
              have n1_ := ym (yg HO_6.out nq)
              have n2_ := ym (yg HO_7.out nq)
              have n3_ := ym (yd HB.out nq)
              clear HO_5 HO_6 HO_7 HB
              have HO_5 := n0_
              have HO_6 := n1_
              have HO_7 := n2_
              have HB := n3_
              clear n0_ n1_ n2_ n3_
              generalize wr.drewN nq = wd_ at HO_5 HO_6 HO_7 HB ⊢
              have p21 : 0 ≤ ((ji14) : Int) := of_decide_eq_true (by first | (with_reducible assumption) | assumption)
              have q21 : ((ji14) : Int) < ((x5_2.length : Int) : Int) := of_decide_eq_true (by first | (with_reducible assumption) | assumption)
              obtain ⟨go21, co21, eo21, gb21, gl21, cl21, HG21⟩ := Kd.R_form HO_5.out (by omega)
              (first | cases eo21 | (injection eo21 with ea_ en_ ec_; (first | subst ea_ | (injection ea_ with ea_; subst ea_)); subst ec_; clear en_))
              have GB21 := ym gb21
              have GG21 := ym HG21
              clear gb21 gl21 HG21
              (first | simp only [add_plain] at hx139_0 | skip)
              obtain ⟨hx21_0, hf21_0⟩ := Kd.R_celln 0 HO_5.out ((ji14) : Int) p21 q21
              replace p21 := eq_true p21
              replace q21 := eq_true q21
              have HP23 := Kd.R_putg HO_5.out ((ji14) : Int) (Int.tmod (IntKind.u64.wrap ((IntKind.u64.wrap ((rd x5_2 (ji14)) + (IntKind.u64.wrap ((rd t133 x19_1) * (rd t136 x24_2))))) + x9_2)) 65536)
              go_wp2_with (first | ((with_reducible refine gate_store (t := 58) (p := 51) rfl ?_); refine store_event (t := 58) (p := 51) (v := ?vo_w24) (w1 := (wd_.setCell ⟨go21, ((ji14) : Int).toNat, none⟩ (.int .u64 (Int.tmod (IntKind.u64.wrap ((IntKind.u64.wrap ((rd x5_2 (ji14)) + (IntKind.u64.wrap ((rd t133 x19_1) * (rd t136 x24_2))))) + x9_2)) 65536)))) ?hg ?ho ?hn ?hr ?_; (case ho => rfl); (case hg => rfl); (case hn => rfl); (case hr => first | (go_simp; done) | (go_simp; rfl)); intro w24 hw; have hg : wd_.grownBy w24 (some go21) := (by rw [hw]; exact HP23.2); have hp_ : Kd.R (Kd.int .u64) 58 w24 w.heap.size (fun k_ => some k_ ≠ (.slice (some ad140) t133.length co10 : Value).ownBlock ∧ some k_ ≠ (.slice (some ad141) t136.length co12 : Value).ownBlock) (.slice (some ⟨go21, 0, none⟩) x5_2.length co22) y142 := (by rw [hw, Ny142.out]; exact HP23.1); clear HP23; have n0_ := ym (hp_); have n1_ := ym (Kd.R_after (v := (.slice (some ⟨go21, 0, none⟩) x5_2.length co22)) (v1 := (.slice (some ⟨go21, 0, none⟩) x5_2.length co22)) (ok := (fun k_ => some k_ ≠ (.slice (some ad141) t136.length co12 : Value).ownBlock)) (by (with_reducible repeat apply y2); exact Kd.R_mono HO_6.out (fun _ hk => ⟨hk.2, hk.1⟩)) hg (.inl rfl)); have n2_ := ym (Kd.R_after (v := (.slice (some ⟨go21, 0, none⟩) x5_2.length co22)) (v1 := (.slice (some ⟨go21, 0, none⟩) x5_2.length co22)) (ok := (fun k_ => some k_ ≠ (.slice (some ad140) t133.length co10 : Value).ownBlock)) (by (with_reducible repeat apply y2); exact Kd.R_mono HO_7.out (fun _ hk => ⟨hk.2, hk.1⟩)) hg (.inl rfl)); have n3_ := ym ((by rw [hw]; exact ys (HB.out) GB21.out : Below w.heap.size w w24)); clear HO_5; clear HO_6; clear HO_7; clear HB; have HO_5 := n0_; have HO_6 := n1_; have HO_7 := n2_; have HB := n3_; clear n0_ n1_ n2_ n3_; clear hg hw hp_))
              go_roundg k2
              case measure => have := HK1.out; have := HK2.out; omega
              case rel => exact ⟨(y142), (IntKind.u64.wrap (Int.tdiv (IntKind.u64.wrap ((IntKind.u64.wrap ((rd x5_2 (ji14)) + (IntKind.u64.wrap ((rd t133 x19_1) * (rd t136 x24_2))))) + x9_2)) 65536)), (wrap64 (x24_2 + 1)), (by first | rfl | (simp; done) | (simp only [← hji14] <;> (first | rfl | simp)) | (simp [*]; done)), (by first | rfl | (simp; done) | (simp [*]; done)), H', ⟨by have := HK1.out; have := HK2.out; omega⟩, ⟨by (with_reducible repeat apply y2); exact HO_5.out⟩, ⟨by (with_reducible repeat apply y2); exact Kd.R_mono HO_6.out (fun _ hk => ⟨hk.2, hk.1⟩)⟩, ⟨by (with_reducible repeat apply y2); exact Kd.R_mono HO_7.out (fun _ hk => ⟨hk.2, hk.1⟩)⟩, ⟨by repeat (first | (with_reducible first | exact HB.out | apply y3) | exact HB.out)⟩⟩
             rw [if_neg c20] at H
             exact absurd H (by simp)
            rw [if_neg c19] at H
            exact absurd H (by simp)
           rw [if_neg c18] at H
           exact absurd H (by simp)
          rw [if_neg c17] at H
          exact absurd H (by simp)
         rw [if_neg c16] at H
         exact absurd H (by simp)
        rw [if_neg c15] at H
        exact absurd H (by simp)
       rw [if_neg c13] at H
       have c13b0 : decide (x24_2 < (t136.length : Int)) = false := decide_eq_false c13
       clear c13
       obtain ⟨ji25, hji25⟩ : ∃ j_ : Int, (wrap64 (x19_1 + 4)) = j_ := ⟨_, rfl⟩
       replace H : (if 0 ≤ (ji25) then (if (ji25) < (x5_2.length : Int) then (heraldref02_product.l0 k2 (x5_2.set ((ji25) : Int).toNat (IntKind.u64.wrap ((rd x5_2 (ji25)) + x9_2))) t133 t136 (t133.length : Int) (wrap64 (x19_1 + 1))) else (none)) else (none)) = some r := by first | (rw [hji25] at H; exact H) | (simp only [hji25] at H ⊢; exact H)
       have hji25w : (IntKind.i64.wrap (x19_1 + 4)) = ji25 := (i64_w _).trans hji25
       by_cases c26 : 0 ≤ (ji25)
       ·
        rw [if_pos c26] at H
        have c26b0 : decide (0 ≤ (ji25)) = true := decide_eq_true c26
        clear c26
        by_cases c27 : (ji25) < (x5_2.length : Int)
        ·
         rw [if_pos c27] at H
         have c27b0 : decide ((ji25) < (x5_2.length : Int)) = true := decide_eq_true c27
         clear c27
         obtain ⟨y144, hy144⟩ : ∃ y_ : List Int, y_ = (x5_2.set ((ji25) : Int).toNat (IntKind.u64.wrap ((rd x5_2 (ji25)) + x9_2))) := ⟨_, rfl⟩
         replace H : (heraldref02_product.l0 k2 y144 t133 t136 (t133.length : Int) (wrap64 (x19_1 + 1))) = some r := by first | (rw [hy144]; with_reducible exact H) | (have H2_ := (Option.bind_some _ _).symm.trans H; rw [hy144]; with_reducible exact H2_) | (have H2_ := (Option.bind_some _ _).symm.trans H; with_reducible exact H2_) | with_reducible exact H | (rw [hy144]; exact H) | exact H
         have Ny144 := ym hy144
         clear hy144
         have H' := ym H
         clear H
         obtain ⟨Ao29, co29, eo29⟩ := Kd.R_slice HO_5.out
         subst eo29
         have p143 : 0 ≤ ((ji25) : Int) := of_decide_eq_true (by first | (with_reducible assumption) | assumption)
         have q143 : (ji25) < (x5_2.length : Int) := of_decide_eq_true (by first | (with_reducible assumption) | assumption)
         obtain ⟨ad143, e143, hx143_0⟩ := Kd.at_int (Kd.R_reads' HO_5.out).2.2 (ji25) p143 q143
         cases e143
         replace p143 := eq_true p143
         replace q143 := eq_true q143
         have p28 : 0 ≤ ((ji25) : Int) := of_decide_eq_true (by first | (with_reducible assumption) | assumption)
         have q28 : ((ji25) : Int) < ((x5_2.length : Int) : Int) := of_decide_eq_true (by first | (with_reducible assumption) | assumption)
         obtain ⟨go28, co28, eo28, gb28, gl28, cl28, HG28⟩ := Kd.R_form HO_5.out (by omega)
         (first | cases eo28 | (injection eo28 with ea_ en_ ec_; (first | subst ea_ | (injection ea_ with ea_; subst ea_)); subst ec_; clear en_))
         have GB28 := ym gb28
         have GG28 := ym HG28
         clear gb28 gl28 HG28
         (first | simp only [add_plain] at hx143_0 | skip)
         obtain ⟨hx28_0, hf28_0⟩ := Kd.R_celln 0 HO_5.out ((ji25) : Int) p28 q28
         replace p28 := eq_true p28
         replace q28 := eq_true q28
         have HP30 := Kd.R_putg HO_5.out ((ji25) : Int) (IntKind.u64.wrap ((rd x5_2 (ji25)) + x9_2))
         go_wp2_with (first | ((with_reducible refine gate_store (t := 58) (p := 62) rfl ?_); refine store_event (t := 58) (p := 62) (v := ?vo_w31) (w1 := (wr.setCell ⟨go28, ((ji25) : Int).toNat, none⟩ (.int .u64 (IntKind.u64.wrap ((rd x5_2 (ji25)) + x9_2))))) ?hg ?ho ?hn ?hr ?_; (case ho => rfl); (case hg => rfl); (case hn => rfl); (case hr => first | (go_simp; done) | (go_simp; rfl)); intro w31 hw; have hg : wr.grownBy w31 (some go28) := (by rw [hw]; exact HP30.2); have hp_ : Kd.R (Kd.int .u64) 58 w31 w.heap.size (fun k_ => some k_ ≠ (.slice Ao10 t133.length co10 : Value).ownBlock ∧ some k_ ≠ (.slice Ao12 t136.length co12 : Value).ownBlock) (.slice (some ⟨go28, 0, none⟩) x5_2.length co29) y144 := (by rw [hw, Ny144.out]; exact HP30.1); clear HP30; have n0_ := ym (hp_); have n1_ := ym (Kd.R_after (v := (.slice (some ⟨go28, 0, none⟩) x5_2.length co29)) (v1 := (.slice (some ⟨go28, 0, none⟩) x5_2.length co29)) (ok := (fun k_ => some k_ ≠ (.slice Ao12 t136.length co12 : Value).ownBlock)) (by (with_reducible repeat apply y2); exact Kd.R_mono HO_6.out (fun _ hk => ⟨hk.2, hk.1⟩)) hg (.inl rfl)); have n2_ := ym (Kd.R_after (v := (.slice (some ⟨go28, 0, none⟩) x5_2.length co29)) (v1 := (.slice (some ⟨go28, 0, none⟩) x5_2.length co29)) (ok := (fun k_ => some k_ ≠ (.slice Ao10 t133.length co10 : Value).ownBlock)) (by (with_reducible repeat apply y2); exact Kd.R_mono HO_7.out (fun _ hk => ⟨hk.2, hk.1⟩)) hg (.inl rfl)); have n3_ := ym ((by rw [hw]; exact ys (HB.out) GB28.out : Below w.heap.size w w31)); clear HO_5; clear HO_6; clear HO_7; clear HB; have HO_5 := n0_; have HO_6 := n1_; have HO_7 := n2_; have HB := n3_; clear n0_ n1_ n2_ n3_; clear hg hw hp_))
         go_roundg k2
         case measure => have := HK1.out; have := HK2.out; omega
         case rel => exact ⟨(y144), (wrap64 (x19_1 + 1)), (by first | rfl | (simp; done) | (simp [*]; done)), H', ⟨by have := HK1.out; have := HK2.out; omega⟩, ⟨by (with_reducible repeat apply y2); exact HO_5.out⟩, ⟨by (with_reducible repeat apply y2); exact Kd.R_mono HO_6.out (fun _ hk => ⟨hk.2, hk.1⟩)⟩, ⟨by (with_reducible repeat apply y2); exact Kd.R_mono HO_7.out (fun _ hk => ⟨hk.2, hk.1⟩)⟩, ⟨by repeat (first | (with_reducible first | exact HB.out | apply y3) | exact HB.out)⟩⟩
        rw [if_neg c27] at H
        exact absurd H (by simp)
       rw [if_neg c26] at H
       exact absurd H (by simp)
    rw [if_neg c11] at H
    have c11b0 : decide (x19_1 < (t133.length : Int)) = false := decide_eq_false c11
    clear c11
    obtain rfl := Option.some.inj H
    go_wp2
    go_ret
    exact ⟨_, by first | rfl | (simp [errW_none, errW_some] <;> rfl) | (simp [*, errW_none, errW_some] <;> rfl), by (with_reducible repeat apply y2); exact Kd.R_mono HO_5.out (fun _ hk => trivial), by repeat (first | (with_reducible first | exact HB.out | apply y3) | exact HB.out)⟩
 rw [if_neg c3] at H
 exact absurd H (by simp)

end Go.Proofs.Ytbldlfmblalchaa.P
