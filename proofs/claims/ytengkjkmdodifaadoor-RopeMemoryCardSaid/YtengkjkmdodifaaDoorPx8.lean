-- Printed by xprint.py (wip): functions, contracts, rows. Lean checks it.
import Derived.Test.YtengkjkmdodifaaDoorPx0
namespace Go.Proofs.YtengkjkmdodifaaDoor.P
open Go.RowKit Go.Proofs.YtengkjkmdodifaaDoorW.PrintWords Go.Proofs.YtengkjkmdodifaaDoorW.PrintLast Go.Proofs.YtengkjkmdodifaaDoorW.PrintMore
attribute [local go_sem] max2_int min2_int max_two min_two max_three min_three max_four min_four   -- for this text's walks alone
set_option linter.unusedVariables false
set_option linter.unusedSimpArgs false

/-! ### heraldref10_Sine: function 17 -/
def heraldref10_Sine.j0 : Nat → List Int → Int → Option (Int)
  | 0, _, _ => none
  | k + 1, x3, x4 => if x4 ≤ 64 then (if 0 ≤ x4 then (if x4 < (x3.length : Int) then (some (rd x3 x4)) else (none)) else (none)) else (if x4 ≤ 128 then (if 0 ≤ (wrap64 (128 - x4)) then (if (wrap64 (128 - x4)) < (x3.length : Int) then (some (rd x3 (wrap64 (128 - x4)))) else (none)) else (none)) else (if x4 ≤ 192 then (if 0 ≤ (wrap64 (x4 - 128)) then (if (wrap64 (x4 - 128)) < (x3.length : Int) then (some (IntKind.i8.wrap (-(rd x3 (wrap64 (x4 - 128)))))) else (none)) else (none)) else (if 0 ≤ (wrap64 (256 - x4)) then (if (wrap64 (256 - x4)) < (x3.length : Int) then (some (IntKind.i8.wrap (-(rd x3 (wrap64 (256 - x4)))))) else (none)) else (none))))
def heraldref10_Sine.f (k : Nat) (a0 : Int) : Option (Int) := (some (([0, 2, 3, 5, 6, 8, 9, 11, 12, 14, 16, 17, 19, 20, 22, 23, 24, 26, 27, 29, 30, 32, 33, 34, 36, 37, 38, 39, 41, 42, 43, 44, 45, 46, 47, 48, 49, 50, 51, 52, 53, 54, 55, 56, 56, 57, 58, 59, 59, 60, 60, 61, 61, 62, 62, 62, 63, 63, 63, 64, 64, 64, 64, 64, 64] : List Int) : List Int)).bind fun y155 => (if (Int.tmod a0 256) < 0 then (heraldref10_Sine.j0 k y155 (wrap64 ((Int.tmod a0 256) + 256))) else (heraldref10_Sine.j0 k y155 (Int.tmod a0 256)))
theorem heraldref10_Sine.mono_l : ∀ k, (∀ y0 y1, LeO (heraldref10_Sine.j0 k y0 y1) (heraldref10_Sine.j0 (k + 1) y0 y1))
  | 0 => fun _ _ r h => by simp [heraldref10_Sine.j0] at h
  | k + 1 => by
    have ih0 := heraldref10_Sine.mono_l k
    · intro y0 y1
      unfold heraldref10_Sine.j0
      repeat' first
      | (with_reducible exact ih0 _ _)
      | (with_reducible exact LeO.refl _)
      | (with_reducible exact LeO.none _)
      | (with_reducible refine LeO.ite ?_ ?_)
      | (with_reducible refine LeO.bind ?_ (fun _ => ?_))
      | exact ih0 _ _
      | exact LeO.none _
      | refine LeO.ite ?_ ?_
      | refine LeO.bind ?_ (fun _ => ?_)
theorem heraldref10_Sine.mono : ∀ a0 k, LeO (heraldref10_Sine.f k a0) (heraldref10_Sine.f (k + 1) a0) := by
  intro a0 k
  have ih0 := heraldref10_Sine.mono_l k
  unfold heraldref10_Sine.f
  repeat' first
      | (with_reducible exact ih0 _ _)
      | (with_reducible exact LeO.refl _)
      | (with_reducible exact LeO.none _)
      | (with_reducible refine LeO.ite ?_ ?_)
      | (with_reducible refine LeO.bind ?_ (fun _ => ?_))
      | exact ih0 _ _
      | exact LeO.none _
      | refine LeO.ite ?_ ?_
      | refine LeO.bind ?_ (fun _ => ?_)
set_option maxHeartbeats 8000000 in
set_option maxRecDepth 100000 in
theorem heraldref10_Sine.calls (k : Nat) (a0 : Int) (r : Int) (w : World) (h : heraldref10_Sine.f k a0 = some r) :
    Calls Tryd.prog 17 #[.int .i64 a0] w fun e w' => e = .returned (.int .i8 r) ∧ Below w.heap.size w w' := by
 have HB := ym (Below.refl w.heap.size w)
 have H : ((some (([0, 2, 3, 5, 6, 8, 9, 11, 12, 14, 16, 17, 19, 20, 22, 23, 24, 26, 27, 29, 30, 32, 33, 34, 36, 37, 38, 39, 41, 42, 43, 44, 45, 46, 47, 48, 49, 50, 51, 52, 53, 54, 55, 56, 56, 57, 58, 59, 59, 60, 60, 61, 61, 62, 62, 62, 63, 63, 63, 64, 64, 64, 64, 64, 64] : List Int) : List Int)).bind fun y155 => (if (Int.tmod a0 256) < 0 then (heraldref10_Sine.j0 k y155 (wrap64 ((Int.tmod a0 256) + 256))) else (heraldref10_Sine.j0 k y155 (Int.tmod a0 256)))) = some r := h
 clear h
 obtain ⟨y155, hy155⟩ : ∃ y_ : List Int, y_ = (([0, 2, 3, 5, 6, 8, 9, 11, 12, 14, 16, 17, 19, 20, 22, 23, 24, 26, 27, 29, 30, 32, 33, 34, 36, 37, 38, 39, 41, 42, 43, 44, 45, 46, 47, 48, 49, 50, 51, 52, 53, 54, 55, 56, 56, 57, 58, 59, 59, 60, 60, 61, 61, 62, 62, 62, 63, 63, 63, 64, 64, 64, 64, 64, 64] : List Int)) := ⟨_, rfl⟩
 replace H : (if (Int.tmod a0 256) < 0 then (heraldref10_Sine.j0 k y155 (wrap64 ((Int.tmod a0 256) + 256))) else (heraldref10_Sine.j0 k y155 (Int.tmod a0 256))) = some r := by first | (rw [hy155]; with_reducible exact H) | (have H2_ := (Option.bind_some _ _).symm.trans H; rw [hy155]; with_reducible exact H2_) | (have H2_ := (Option.bind_some _ _).symm.trans H; with_reducible exact H2_) | with_reducible exact H | (rw [hy155]; exact H) | exact H
 have Ny155 := ym hy155
 clear hy155
 have HC2 := ym H
 clear H
 go_enter Tryd.func17, Tryd.ntmps17
 go_upto_if 9 with (first | ((with_reducible refine gate_dst (N := 5) rfl ?_); refine Kd.R_lit (Kd.int .i8) _ 33 ?hg (N := 5) ?hd (xs := ([0, 2, 3, 5, 6, 8, 9, 11, 12, 14, 16, 17, 19, 20, 22, 23, 24, 26, 27, 29, 30, 32, 33, 34, 36, 37, 38, 39, 41, 42, 43, 44, 45, 46, 47, 48, 49, 50, 51, 52, 53, 54, 55, 56, 56, 57, 58, 59, 59, 60, 60, 61, 61, 62, 62, 62, 63, 63, 63, 64, 64, 64, 64, 64, 64] : List Int)) (inner := [.int .i8 0, .int .i8 2, .int .i8 3, .int .i8 5, .int .i8 6, .int .i8 8, .int .i8 9, .int .i8 11, .int .i8 12, .int .i8 14, .int .i8 16, .int .i8 17, .int .i8 19, .int .i8 20, .int .i8 22, .int .i8 23, .int .i8 24, .int .i8 26, .int .i8 27, .int .i8 29, .int .i8 30, .int .i8 32, .int .i8 33, .int .i8 34, .int .i8 36, .int .i8 37, .int .i8 38, .int .i8 39, .int .i8 41, .int .i8 42, .int .i8 43, .int .i8 44, .int .i8 45, .int .i8 46, .int .i8 47, .int .i8 48, .int .i8 49, .int .i8 50, .int .i8 51, .int .i8 52, .int .i8 53, .int .i8 54, .int .i8 55, .int .i8 56, .int .i8 56, .int .i8 57, .int .i8 58, .int .i8 59, .int .i8 59, .int .i8 60, .int .i8 60, .int .i8 61, .int .i8 61, .int .i8 62, .int .i8 62, .int .i8 62, .int .i8 63, .int .i8 63, .int .i8 63, .int .i8 64, .int .i8 64, .int .i8 64, .int .i8 64, .int .i8 64, .int .i8 64]) (ok := fun _ => True) (okp := fun _ => True) ?hr ?hp (fun _ hk => hk) trivial (Below.refl _ _) (Nat.le_refl _) (by simp) ?_; (case hd => rfl); (case hg => rfl); (case hr => first | (go_simp; done) | (go_simp; rfl)); (case hp => exact (Reps.one (show Kd.M (Kd.int .i8) _ _ _ 0 [.int .i8 0] from rfl) (Reps.one (show Kd.M (Kd.int .i8) _ _ _ 2 [.int .i8 2] from rfl) (Reps.one (show Kd.M (Kd.int .i8) _ _ _ 3 [.int .i8 3] from rfl) (Reps.one (show Kd.M (Kd.int .i8) _ _ _ 5 [.int .i8 5] from rfl) (Reps.one (show Kd.M (Kd.int .i8) _ _ _ 6 [.int .i8 6] from rfl) (Reps.one (show Kd.M (Kd.int .i8) _ _ _ 8 [.int .i8 8] from rfl) (Reps.one (show Kd.M (Kd.int .i8) _ _ _ 9 [.int .i8 9] from rfl) (Reps.one (show Kd.M (Kd.int .i8) _ _ _ 11 [.int .i8 11] from rfl) (Reps.one (show Kd.M (Kd.int .i8) _ _ _ 12 [.int .i8 12] from rfl) (Reps.one (show Kd.M (Kd.int .i8) _ _ _ 14 [.int .i8 14] from rfl) (Reps.one (show Kd.M (Kd.int .i8) _ _ _ 16 [.int .i8 16] from rfl) (Reps.one (show Kd.M (Kd.int .i8) _ _ _ 17 [.int .i8 17] from rfl) (Reps.one (show Kd.M (Kd.int .i8) _ _ _ 19 [.int .i8 19] from rfl) (Reps.one (show Kd.M (Kd.int .i8) _ _ _ 20 [.int .i8 20] from rfl) (Reps.one (show Kd.M (Kd.int .i8) _ _ _ 22 [.int .i8 22] from rfl) (Reps.one (show Kd.M (Kd.int .i8) _ _ _ 23 [.int .i8 23] from rfl) (Reps.one (show Kd.M (Kd.int .i8) _ _ _ 24 [.int .i8 24] from rfl) (Reps.one (show Kd.M (Kd.int .i8) _ _ _ 26 [.int .i8 26] from rfl) (Reps.one (show Kd.M (Kd.int .i8) _ _ _ 27 [.int .i8 27] from rfl) (Reps.one (show Kd.M (Kd.int .i8) _ _ _ 29 [.int .i8 29] from rfl) (Reps.one (show Kd.M (Kd.int .i8) _ _ _ 30 [.int .i8 30] from rfl) (Reps.one (show Kd.M (Kd.int .i8) _ _ _ 32 [.int .i8 32] from rfl) (Reps.one (show Kd.M (Kd.int .i8) _ _ _ 33 [.int .i8 33] from rfl) (Reps.one (show Kd.M (Kd.int .i8) _ _ _ 34 [.int .i8 34] from rfl) (Reps.one (show Kd.M (Kd.int .i8) _ _ _ 36 [.int .i8 36] from rfl) (Reps.one (show Kd.M (Kd.int .i8) _ _ _ 37 [.int .i8 37] from rfl) (Reps.one (show Kd.M (Kd.int .i8) _ _ _ 38 [.int .i8 38] from rfl) (Reps.one (show Kd.M (Kd.int .i8) _ _ _ 39 [.int .i8 39] from rfl) (Reps.one (show Kd.M (Kd.int .i8) _ _ _ 41 [.int .i8 41] from rfl) (Reps.one (show Kd.M (Kd.int .i8) _ _ _ 42 [.int .i8 42] from rfl) (Reps.one (show Kd.M (Kd.int .i8) _ _ _ 43 [.int .i8 43] from rfl) (Reps.one (show Kd.M (Kd.int .i8) _ _ _ 44 [.int .i8 44] from rfl) (Reps.one (show Kd.M (Kd.int .i8) _ _ _ 45 [.int .i8 45] from rfl) (Reps.one (show Kd.M (Kd.int .i8) _ _ _ 46 [.int .i8 46] from rfl) (Reps.one (show Kd.M (Kd.int .i8) _ _ _ 47 [.int .i8 47] from rfl) (Reps.one (show Kd.M (Kd.int .i8) _ _ _ 48 [.int .i8 48] from rfl) (Reps.one (show Kd.M (Kd.int .i8) _ _ _ 49 [.int .i8 49] from rfl) (Reps.one (show Kd.M (Kd.int .i8) _ _ _ 50 [.int .i8 50] from rfl) (Reps.one (show Kd.M (Kd.int .i8) _ _ _ 51 [.int .i8 51] from rfl) (Reps.one (show Kd.M (Kd.int .i8) _ _ _ 52 [.int .i8 52] from rfl) (Reps.one (show Kd.M (Kd.int .i8) _ _ _ 53 [.int .i8 53] from rfl) (Reps.one (show Kd.M (Kd.int .i8) _ _ _ 54 [.int .i8 54] from rfl) (Reps.one (show Kd.M (Kd.int .i8) _ _ _ 55 [.int .i8 55] from rfl) (Reps.one (show Kd.M (Kd.int .i8) _ _ _ 56 [.int .i8 56] from rfl) (Reps.one (show Kd.M (Kd.int .i8) _ _ _ 56 [.int .i8 56] from rfl) (Reps.one (show Kd.M (Kd.int .i8) _ _ _ 57 [.int .i8 57] from rfl) (Reps.one (show Kd.M (Kd.int .i8) _ _ _ 58 [.int .i8 58] from rfl) (Reps.one (show Kd.M (Kd.int .i8) _ _ _ 59 [.int .i8 59] from rfl) (Reps.one (show Kd.M (Kd.int .i8) _ _ _ 59 [.int .i8 59] from rfl) (Reps.one (show Kd.M (Kd.int .i8) _ _ _ 60 [.int .i8 60] from rfl) (Reps.one (show Kd.M (Kd.int .i8) _ _ _ 60 [.int .i8 60] from rfl) (Reps.one (show Kd.M (Kd.int .i8) _ _ _ 61 [.int .i8 61] from rfl) (Reps.one (show Kd.M (Kd.int .i8) _ _ _ 61 [.int .i8 61] from rfl) (Reps.one (show Kd.M (Kd.int .i8) _ _ _ 62 [.int .i8 62] from rfl) (Reps.one (show Kd.M (Kd.int .i8) _ _ _ 62 [.int .i8 62] from rfl) (Reps.one (show Kd.M (Kd.int .i8) _ _ _ 62 [.int .i8 62] from rfl) (Reps.one (show Kd.M (Kd.int .i8) _ _ _ 63 [.int .i8 63] from rfl) (Reps.one (show Kd.M (Kd.int .i8) _ _ _ 63 [.int .i8 63] from rfl) (Reps.one (show Kd.M (Kd.int .i8) _ _ _ 63 [.int .i8 63] from rfl) (Reps.one (show Kd.M (Kd.int .i8) _ _ _ 64 [.int .i8 64] from rfl) (Reps.one (show Kd.M (Kd.int .i8) _ _ _ 64 [.int .i8 64] from rfl) (Reps.one (show Kd.M (Kd.int .i8) _ _ _ 64 [.int .i8 64] from rfl) (Reps.one (show Kd.M (Kd.int .i8) _ _ _ 64 [.int .i8 64] from rfl) (Reps.one (show Kd.M (Kd.int .i8) _ _ _ 64 [.int .i8 64] from rfl) (Reps.one (show Kd.M (Kd.int .i8) _ _ _ 64 [.int .i8 64] from rfl) (Reps.none _ _))))))))))))))))))))))))))))))))))))))))))))))))))))))))))))))))))); intro v156 w3 ho4 hb hg_ hnew_; clear hg_ hnew_; (first | rw [← Ny155.out] at ho4 | (simp only [Int.reduceToNat] at ho4; rw [← Ny155.out] at ho4)); have n0_ := ym (yo ho4 (below_size (by repeat (first | (with_reducible first | exact HB.out | apply y3) | exact HB.out)))); have n1_ := ym (yn (by repeat (first | (with_reducible first | exact HB.out | apply y3) | exact HB.out)) hb); clear HB; have HO157 := n0_; have HB := n1_; clear n0_ n1_; clear hb ho4))
 (try simp only [Act.put, y0])
 go_cut [4] (fun v4 wc => ∃ (kq : Nat) (x4_1 : Int), v4 = .int .i64 x4_1 ∧ Aside0 (heraldref10_Sine.j0 kq y155 x4_1 = some r) ∧ Aside0 (kq ≤ k) ∧ Aside0 (Kd.R (Kd.int .i8) 33 wc w.heap.size (fun _ => True) v156 y155) ∧ Aside0 (Below w.heap.size w wc))
 case first =>
  have H := HC2.out
  clear HC2
  by_cases c5 : (Int.tmod a0 256) < 0
  ·
   rw [if_pos c5] at H
   have c5b0 : decide ((Int.tmod a0 256) < 0) = true := decide_eq_true c5
   clear c5
   (first | rw [c5b0] | (simp only [i64_w, i32_w]; rw [c5b0]) | skip)
   have H' := ym H
   clear H
   go_wp2
   go_meet
   case rel => exact ⟨_, (wrap64 ((Int.tmod a0 256) + 256)), (by first | rfl | (simp; done) | (simp [*]; done)), H', ⟨by first | omega | exact Nat.le_refl _⟩, ⟨by (with_reducible repeat apply y2); exact HO157.out⟩, ⟨by repeat (first | (with_reducible first | exact HB.out | apply y3) | exact HB.out)⟩⟩
  rw [if_neg c5] at H
  have c5b0 : decide ((Int.tmod a0 256) < 0) = false := decide_eq_false c5
  clear c5
  (first | rw [c5b0] | (simp only [i64_w, i32_w]; rw [c5b0]) | skip)
  have H' := ym H
  clear H
  go_wp2
  go_meet
  case rel => exact ⟨_, (Int.tmod a0 256), (by first | rfl | (simp; done) | (simp [*]; done)), H', ⟨by first | omega | exact Nat.le_refl _⟩, ⟨by (with_reducible repeat apply y2); exact HO157.out⟩, ⟨by repeat (first | (with_reducible first | exact HB.out | apply y3) | exact HB.out)⟩⟩
 case rest =>
  clear HC2
  try clear c1
  try clear p2
  try clear c5
  try clear c5b0
  obtain ⟨kq, x4_1, rfl, HA, HJ1, HO_3, HB⟩ := hcut
  cases kq with
  | zero => exact absurd HA.out (by simp [heraldref10_Sine.j0])
  | succ kj1 =>
   have H := HA.out
   clear HA
   simp only [heraldref10_Sine.j0] at H
   by_cases c6 : x4_1 ≤ 64
   ·
    rw [if_pos c6] at H
    have c6b0 : decide (x4_1 ≤ 64) = true := decide_eq_true c6
    clear c6
    by_cases c7 : 0 ≤ x4_1
    ·
     rw [if_pos c7] at H
     have c7b0 : decide (0 ≤ x4_1) = true := decide_eq_true c7
     clear c7
     by_cases c8 : x4_1 < (y155.length : Int)
     ·
      rw [if_pos c8] at H
      have c8b0 : decide (x4_1 < (y155.length : Int)) = true := decide_eq_true c8
      clear c8
      obtain rfl := Option.some.inj H
      obtain ⟨Ao9, co9, eo9⟩ := Kd.R_slice HO_3.out
      subst eo9
      have p158 : 0 ≤ (x4_1 : Int) := of_decide_eq_true (by first | (with_reducible assumption) | assumption)
      have q158 : x4_1 < (y155.length : Int) := of_decide_eq_true (by first | (with_reducible assumption) | assumption)
      obtain ⟨ad158, e158, hx158_0⟩ := Kd.at_int (Kd.R_reads' HO_3.out).2.2 x4_1 p158 q158
      cases e158
      replace p158 := eq_true p158
      replace q158 := eq_true q158
      go_wp2
      go_ret
      exact ⟨by first | rfl | (simp [errW_none, errW_some] <;> rfl) | (simp [*, errW_none, errW_some] <;> rfl), by repeat (first | (with_reducible first | exact HB.out | apply y3) | exact HB.out)⟩
     rw [if_neg c8] at H
     exact absurd H (by simp)
    rw [if_neg c7] at H
    exact absurd H (by simp)
   rw [if_neg c6] at H
   have c6b0 : decide (x4_1 ≤ 64) = false := decide_eq_false c6
   clear c6
   by_cases c10 : x4_1 ≤ 128
   ·
    rw [if_pos c10] at H
    have c10b0 : decide (x4_1 ≤ 128) = true := decide_eq_true c10
    clear c10
    obtain ⟨ji11, hji11⟩ : ∃ j_ : Int, (wrap64 (128 - x4_1)) = j_ := ⟨_, rfl⟩
    replace H : (if 0 ≤ (ji11) then (if (ji11) < (y155.length : Int) then (some (rd y155 (ji11))) else (none)) else (none)) = some r := by first | (rw [hji11] at H; exact H) | (simp only [hji11] at H ⊢; exact H)
    have hji11w : (IntKind.i64.wrap (128 - x4_1)) = ji11 := (i64_w _).trans hji11
    by_cases c12 : 0 ≤ (ji11)
    ·
     rw [if_pos c12] at H
     have c12b0 : decide (0 ≤ (ji11)) = true := decide_eq_true c12
     clear c12
     by_cases c13 : (ji11) < (y155.length : Int)
     ·
      rw [if_pos c13] at H
      have c13b0 : decide ((ji11) < (y155.length : Int)) = true := decide_eq_true c13
      clear c13
      obtain rfl := Option.some.inj H
      obtain ⟨Ao14, co14, eo14⟩ := Kd.R_slice HO_3.out
      subst eo14
      have p159 : 0 ≤ ((ji11) : Int) := of_decide_eq_true (by first | (with_reducible assumption) | assumption)
      have q159 : (ji11) < (y155.length : Int) := of_decide_eq_true (by first | (with_reducible assumption) | assumption)
      obtain ⟨ad159, e159, hx159_0⟩ := Kd.at_int (Kd.R_reads' HO_3.out).2.2 (ji11) p159 q159
      cases e159
      replace p159 := eq_true p159
      replace q159 := eq_true q159
      go_wp2
      go_ret
      exact ⟨by first | rfl | (simp [errW_none, errW_some] <;> rfl) | (simp only [← hji11]; first | rfl | (simp [errW_none, errW_some] <;> rfl)) | (simp [*, errW_none, errW_some] <;> rfl), by repeat (first | (with_reducible first | exact HB.out | apply y3) | exact HB.out)⟩
     rw [if_neg c13] at H
     exact absurd H (by simp)
    rw [if_neg c12] at H
    exact absurd H (by simp)
   rw [if_neg c10] at H
   have c10b0 : decide (x4_1 ≤ 128) = false := decide_eq_false c10
   clear c10
   by_cases c15 : x4_1 ≤ 192
   ·
    rw [if_pos c15] at H
    have c15b0 : decide (x4_1 ≤ 192) = true := decide_eq_true c15
    clear c15
    obtain ⟨ji16, hji16⟩ : ∃ j_ : Int, (wrap64 (x4_1 - 128)) = j_ := ⟨_, rfl⟩
    replace H : (if 0 ≤ (ji16) then (if (ji16) < (y155.length : Int) then (some (IntKind.i8.wrap (-(rd y155 (ji16))))) else (none)) else (none)) = some r := by first | (rw [hji16] at H; exact H) | (simp only [hji16] at H ⊢; exact H)
    have hji16w : (IntKind.i64.wrap (x4_1 - 128)) = ji16 := (i64_w _).trans hji16
    by_cases c17 : 0 ≤ (ji16)
    ·
     rw [if_pos c17] at H
     have c17b0 : decide (0 ≤ (ji16)) = true := decide_eq_true c17
     clear c17
     by_cases c18 : (ji16) < (y155.length : Int)
     ·
      rw [if_pos c18] at H
      have c18b0 : decide ((ji16) < (y155.length : Int)) = true := decide_eq_true c18
      clear c18
      obtain rfl := Option.some.inj H
      obtain ⟨Ao19, co19, eo19⟩ := Kd.R_slice HO_3.out
      subst eo19
      have p160 : 0 ≤ ((ji16) : Int) := of_decide_eq_true (by first | (with_reducible assumption) | assumption)
      have q160 : (ji16) < (y155.length : Int) := of_decide_eq_true (by first | (with_reducible assumption) | assumption)
      obtain ⟨ad160, e160, hx160_0⟩ := Kd.at_int (Kd.R_reads' HO_3.out).2.2 (ji16) p160 q160
      cases e160
      replace p160 := eq_true p160
      replace q160 := eq_true q160
      go_wp2
      go_ret
      exact ⟨by first | rfl | (simp [errW_none, errW_some] <;> rfl) | (simp only [← hji16]; first | rfl | (simp [errW_none, errW_some] <;> rfl)) | (simp [*, errW_none, errW_some] <;> rfl), by repeat (first | (with_reducible first | exact HB.out | apply y3) | exact HB.out)⟩
     rw [if_neg c18] at H
     exact absurd H (by simp)
    rw [if_neg c17] at H
    exact absurd H (by simp)
   rw [if_neg c15] at H
   have c15b0 : decide (x4_1 ≤ 192) = false := decide_eq_false c15
   clear c15
   obtain ⟨ji20, hji20⟩ : ∃ j_ : Int, (wrap64 (256 - x4_1)) = j_ := ⟨_, rfl⟩
   replace H : (if 0 ≤ (ji20) then (if (ji20) < (y155.length : Int) then (some (IntKind.i8.wrap (-(rd y155 (ji20))))) else (none)) else (none)) = some r := by first | (rw [hji20] at H; exact H) | (simp only [hji20] at H ⊢; exact H)
   have hji20w : (IntKind.i64.wrap (256 - x4_1)) = ji20 := (i64_w _).trans hji20
   by_cases c21 : 0 ≤ (ji20)
   ·
    rw [if_pos c21] at H
    have c21b0 : decide (0 ≤ (ji20)) = true := decide_eq_true c21
    clear c21
    by_cases c22 : (ji20) < (y155.length : Int)
    ·
     rw [if_pos c22] at H
     have c22b0 : decide ((ji20) < (y155.length : Int)) = true := decide_eq_true c22
     clear c22
     obtain rfl := Option.some.inj H
     obtain ⟨Ao23, co23, eo23⟩ := Kd.R_slice HO_3.out
     subst eo23
     have p161 : 0 ≤ ((ji20) : Int) := of_decide_eq_true (by first | (with_reducible assumption) | assumption)
     have q161 : (ji20) < (y155.length : Int) := of_decide_eq_true (by first | (with_reducible assumption) | assumption)
     obtain ⟨ad161, e161, hx161_0⟩ := Kd.at_int (Kd.R_reads' HO_3.out).2.2 (ji20) p161 q161
     cases e161
     replace p161 := eq_true p161
     replace q161 := eq_true q161
     go_wp2
     go_ret
     exact ⟨by first | rfl | (simp [errW_none, errW_some] <;> rfl) | (simp only [← hji20]; first | rfl | (simp [errW_none, errW_some] <;> rfl)) | (simp [*, errW_none, errW_some] <;> rfl), by repeat (first | (with_reducible first | exact HB.out | apply y3) | exact HB.out)⟩
    rw [if_neg c22] at H
    exact absurd H (by simp)
   rw [if_neg c21] at H
   exact absurd H (by simp)

end Go.Proofs.YtengkjkmdodifaaDoor.P
