-- Printed by xprint.py (wip): functions, contracts, rows. Lean checks it.
import Derived.Test.YtengkjkmdodifaaDoorPx0
import Derived.Test.YtengkjkmdodifaaDoorPx1
import Derived.Test.YtengkjkmdodifaaDoorPx3
namespace Go.Proofs.YtengkjkmdodifaaDoor.P
open Go.RowKit Go.Proofs.YtengkjkmdodifaaDoorW.PrintWords Go.Proofs.YtengkjkmdodifaaDoorW.PrintLast Go.Proofs.YtengkjkmdodifaaDoorW.PrintMore
attribute [local go_sem] max2_int min2_int max_two min_two max_three min_three max_four min_four   -- for this text's walks alone
set_option linter.unusedVariables false
set_option linter.unusedSimpArgs false

/-! ### rope_pairs_Back_1: function 26 -/
mutual
def rope_pairs_Back_1.j0 : Nat → List Int → Int → List Int → List Int → Bool → Option (List Int × Int)
  | 0, _, _, _, _, _ => none
  | k + 1, x0, x1, x2, x3, x30 => if x30 = true then (some (([] : List Int), 100)) else (if (x2.length : Int) = (wrap64 (Int.tdiv x1 2)) then (rope_pairs_Back_1.j1 k x0 x1 x2 x3 ((x3.length : Int) != (wrap64 (Int.tdiv x1 2)))) else (rope_pairs_Back_1.j1 k x0 x1 x2 x3 true))
def rope_pairs_Back_1.j1 : Nat → List Int → Int → List Int → List Int → Bool → Option (List Int × Int)
  | 0, _, _, _, _, _ => none
  | k + 1, x0, x1, x2, x3, x42 => if x42 = true then (some (([] : List Int), 101)) else (if 0 ≤ (x0.length : Int) then (if ((x0.length : Int) : Int).toNat ≤ 281474976710656 then (rope_pairs_Back_1.l0 k x0 x1 x2 x3 (List.replicate ((x0.length : Int) : Int).toNat 0) 0) else (none)) else (none))
def rope_pairs_Back_1.l0 : Nat → List Int → Int → List Int → List Int → List Int → Int → Option (List Int × Int)
  | 0, _, _, _, _, _, _ => none
  | k + 1, x0, x1, x2, x3, x12, x13 => if x13 < (x0.length : Int) then (if x1 = 0 then (none) else (if 0 ≤ x13 then (if 0 ≤ (wrap64 (x13 + 1)) then (if (wrap64 (x13 + 1)) < (x0.length : Int) then (if 0 ≤ (wrap64 (Int.tdiv (Int.tmod x13 x1) 2)) then (if (wrap64 (Int.tdiv (Int.tmod x13 x1) 2)) < (x2.length : Int) then (if (wrap64 (Int.tdiv (Int.tmod x13 x1) 2)) < (x3.length : Int) then ((rope_Back_1.f (wrap64 (rd x0 x13)) (wrap64 (rd x0 (wrap64 (x13 + 1)))) (wrap64 (rd x2 (wrap64 (Int.tdiv (Int.tmod x13 x1) 2)))) (wrap64 (rd x3 (wrap64 (Int.tdiv (Int.tmod x13 x1) 2))))).bind fun bt185 => ((rope_narrow.f bt185.1).bind fun t187 => ((rope_narrow.f bt185.2).bind fun t188 => (if x13 < (x12.length : Int) then (if (wrap64 (x13 + 1)) < (x12.length : Int) then (rope_pairs_Back_1.l0 k x0 x1 x2 x3 ((x12.set (x13 : Int).toNat t187).set ((wrap64 (x13 + 1)) : Int).toNat t188) (wrap64 (x13 + 2))) else (none)) else (none))))) else (none)) else (none)) else (none)) else (none)) else (none)) else (none))) else (some (x12, 0))
end
def rope_pairs_Back_1.f (k : Nat) (l0 : List Int) (a1 : Int) (l2 : List Int) (l3 : List Int) (a4 : Int) : Option (List Int × Int) := if a1 < 2 then (rope_pairs_Back_1.j0 k l0 a1 l2 l3 true) else (if (Int.tmod a1 2) = 0 then (if a1 = 0 then (none) else (rope_pairs_Back_1.j0 k l0 a1 l2 l3 (((l0.length : Int) % a1) != 0))) else (rope_pairs_Back_1.j0 k l0 a1 l2 l3 true))
theorem rope_pairs_Back_1.mono_l : ∀ k, (∀ y0 y1 y2 y3 y4, LeO (rope_pairs_Back_1.j0 k y0 y1 y2 y3 y4) (rope_pairs_Back_1.j0 (k + 1) y0 y1 y2 y3 y4)) ∧ (∀ y0 y1 y2 y3 y4, LeO (rope_pairs_Back_1.j1 k y0 y1 y2 y3 y4) (rope_pairs_Back_1.j1 (k + 1) y0 y1 y2 y3 y4)) ∧ (∀ y0 y1 y2 y3 y4 y5, LeO (rope_pairs_Back_1.l0 k y0 y1 y2 y3 y4 y5) (rope_pairs_Back_1.l0 (k + 1) y0 y1 y2 y3 y4 y5))
  | 0 => ⟨fun _ _ _ _ _ r h => by simp [rope_pairs_Back_1.j0] at h, fun _ _ _ _ _ r h => by simp [rope_pairs_Back_1.j1] at h, fun _ _ _ _ _ _ r h => by simp [rope_pairs_Back_1.l0] at h⟩
  | k + 1 => by
    obtain ⟨ih0, ih1, ih2⟩ := rope_pairs_Back_1.mono_l k
    refine ⟨?_, ?_, ?_⟩
    · intro y0 y1 y2 y3 y4
      unfold rope_pairs_Back_1.j0
      repeat' first
      | (with_reducible exact ih0 _ _ _ _ _)
      | (with_reducible exact ih1 _ _ _ _ _)
      | (with_reducible exact ih2 _ _ _ _ _ _)
      | (with_reducible exact LeO.refl _)
      | (with_reducible exact LeO.none _)
      | (with_reducible refine LeO.ite ?_ ?_)
      | (with_reducible refine LeO.bind ?_ (fun _ => ?_))
      | exact ih0 _ _ _ _ _
      | exact ih1 _ _ _ _ _
      | exact ih2 _ _ _ _ _ _
      | exact LeO.none _
      | refine LeO.ite ?_ ?_
      | refine LeO.bind ?_ (fun _ => ?_)
    · intro y0 y1 y2 y3 y4
      unfold rope_pairs_Back_1.j1
      repeat' first
      | (with_reducible exact ih0 _ _ _ _ _)
      | (with_reducible exact ih1 _ _ _ _ _)
      | (with_reducible exact ih2 _ _ _ _ _ _)
      | (with_reducible exact LeO.refl _)
      | (with_reducible exact LeO.none _)
      | (with_reducible refine LeO.ite ?_ ?_)
      | (with_reducible refine LeO.bind ?_ (fun _ => ?_))
      | exact ih0 _ _ _ _ _
      | exact ih1 _ _ _ _ _
      | exact ih2 _ _ _ _ _ _
      | exact LeO.none _
      | refine LeO.ite ?_ ?_
      | refine LeO.bind ?_ (fun _ => ?_)
    · intro y0 y1 y2 y3 y4 y5
      unfold rope_pairs_Back_1.l0
      repeat' first
      | (with_reducible exact ih0 _ _ _ _ _)
      | (with_reducible exact ih1 _ _ _ _ _)
      | (with_reducible exact ih2 _ _ _ _ _ _)
      | (with_reducible exact LeO.refl _)
      | (with_reducible exact LeO.none _)
      | (with_reducible refine LeO.ite ?_ ?_)
      | (with_reducible refine LeO.bind ?_ (fun _ => ?_))
      | exact ih0 _ _ _ _ _
      | exact ih1 _ _ _ _ _
      | exact ih2 _ _ _ _ _ _
      | exact LeO.none _
      | refine LeO.ite ?_ ?_
      | refine LeO.bind ?_ (fun _ => ?_)
theorem rope_pairs_Back_1.mono : ∀ a0 a1 a2 a3 a4 k, LeO (rope_pairs_Back_1.f k a0 a1 a2 a3 a4) (rope_pairs_Back_1.f (k + 1) a0 a1 a2 a3 a4) := by
  intro a0 a1 a2 a3 a4 k
  obtain ⟨ih0, ih1, ih2⟩ := rope_pairs_Back_1.mono_l k
  unfold rope_pairs_Back_1.f
  repeat' first
      | (with_reducible exact ih0 _ _ _ _ _)
      | (with_reducible exact ih1 _ _ _ _ _)
      | (with_reducible exact ih2 _ _ _ _ _ _)
      | (with_reducible exact LeO.refl _)
      | (with_reducible exact LeO.none _)
      | (with_reducible refine LeO.ite ?_ ?_)
      | (with_reducible refine LeO.bind ?_ (fun _ => ?_))
      | exact ih0 _ _ _ _ _
      | exact ih1 _ _ _ _ _
      | exact ih2 _ _ _ _ _ _
      | exact LeO.none _
      | refine LeO.ite ?_ ?_
      | refine LeO.bind ?_ (fun _ => ?_)
set_option maxHeartbeats 8000000 in
set_option maxRecDepth 100000 in
theorem rope_pairs_Back_1.calls (k : Nat) (A0 : Option Addr) (c0 : Nat) (l0 : List Int) (a1 : Int) (A2 : Option Addr) (c2 : Nat) (l2 : List Int) (A3 : Option Addr) (c3 : Nat) (l3 : List Int) (a4 : Int) (r1 : List Int) (r2 : Int) (w : World) (hr0 : Kd.C (Kd.int .i8) w A0 l0.length l0) (hc0 : l0.length ≤ c0) (hr2 : Kd.C (Kd.int .i8) w A2 l2.length l2) (hc2 : l2.length ≤ c2) (hr3 : Kd.C (Kd.int .i8) w A3 l3.length l3) (hc3 : l3.length ≤ c3) (h : rope_pairs_Back_1.f k l0 a1 l2 l3 a4 = some (r1, r2)) :
    Calls Tryd.prog 26 #[.slice A0 l0.length c0, .int .i64 a1, .slice A2 l2.length c2, .slice A3 l3.length c3, .func (.func 29) #[] #[]] w fun e w' => ∃ v0_ : Value, e = .returned (.tuple #[v0_, .int .i64 r2]) ∧ Kd.R (Kd.int .i8) 33 w' w.heap.size (fun _ => True) v0_ r1 ∧ Below w.heap.size w w' := by
 have HR0 := Aside0.mk hr0
 have HC0 := Aside0.mk hc0
 clear hr0 hc0
 have HR2 := Aside0.mk hr2
 have HC2 := Aside0.mk hc2
 clear hr2 hc2
 have HR3 := Aside0.mk hr3
 have HC3 := Aside0.mk hc3
 clear hr3 hc3
 have HB := Aside0.mk (Below.refl w.heap.size w)
 have H : (if a1 < 2 then (rope_pairs_Back_1.j0 k l0 a1 l2 l3 true) else (if (Int.tmod a1 2) = 0 then (if a1 = 0 then (none) else (rope_pairs_Back_1.j0 k l0 a1 l2 l3 (((l0.length : Int) % a1) != 0))) else (rope_pairs_Back_1.j0 k l0 a1 l2 l3 true))) = some (r1, r2) := h
 clear h
 have HC6 := Aside0.mk H
 clear H
 go_enter Tryd.func26, Tryd.ntmps26
 go_upto_region 1 with (fail)
 repeat (go_quiet (fail); go_upto_region 1 with (fail))
 go_cut [30] (fun v30 wc => ∃ (kq : Nat) (x30_5 : Bool), v30 = .bool x30_5 ∧ Aside0 (rope_pairs_Back_1.j0 kq l0 a1 l2 l3 x30_5 = some (r1, r2)) ∧ Aside0 (kq ≤ k) ∧ Aside0 (Below w.heap.size w wc))
 case first =>
  have H := HC6.out
  clear HC6
  by_cases c7 : a1 < 2
  ·
   rw [if_pos c7] at H
   have c7b0 : decide (a1 < 2) = true := decide_eq_true c7
   clear c7
   (first | rw [c7b0] | (simp only [i64_w, i32_w]; rw [c7b0]) | skip)
   have H' := Aside0.mk H
   clear H
   go_wp2
   repeat (go_quiet (fail); try go_wp2)
   go_meet
   case rel => exact ⟨_, (true), (by first | rfl | (simp; done) | (simp [*]; done)), H', ⟨by first | omega | exact Nat.le_refl _⟩, ⟨by repeat (first | (with_reducible first | exact HB.out | apply below_alloc | apply pw_below_drewN | apply below_drew1) | exact HB.out)⟩⟩
  ·
   rw [if_neg c7] at H
   have c7b0 : decide (a1 < 2) = false := decide_eq_false c7
   clear c7
   (first | rw [c7b0] | (simp only [i64_w, i32_w]; rw [c7b0]) | skip)
   by_cases c8 : (Int.tmod a1 2) = 0
   ·
    rw [if_pos c8] at H
    have c8b0 : ((Int.tmod a1 2) == 0) = true := beq_iff_eq.mpr c8
    have c8b1 : ((Int.tmod a1 2) != 0) = false := bne_eq_false_iff_eq.mpr c8
    clear c8
    by_cases c9 : a1 = 0
    ·
     rw [if_pos c9] at H
     exact absurd H (by simp)
    ·
     rw [if_neg c9] at H
     have c9b0 : (a1 == 0) = false := beq_eq_false_iff_ne.mpr c9
     have c9b1 : (a1 != 0) = true := bne_iff_ne.mpr c9
     have H' := Aside0.mk H
     clear H
     go_wp2
     repeat (go_quiet (fail); try go_wp2)
     go_meet
     case rel => exact ⟨_, ((((l0.length : Int) % a1) != 0)), (by first | rfl | (simp; done) | (simp [*]; done)), H', ⟨by first | omega | exact Nat.le_refl _⟩, ⟨by repeat (first | (with_reducible first | exact HB.out | apply below_alloc | apply pw_below_drewN | apply below_drew1) | exact HB.out)⟩⟩
   ·
    rw [if_neg c8] at H
    have c8b0 : ((Int.tmod a1 2) == 0) = false := beq_eq_false_iff_ne.mpr c8
    have c8b1 : ((Int.tmod a1 2) != 0) = true := bne_iff_ne.mpr c8
    have H' := Aside0.mk H
    clear H
    go_wp2
    repeat (go_quiet (fail); try go_wp2)
    go_meet
    case rel => exact ⟨_, (true), (by first | rfl | (simp; done) | (simp [*]; done)), H', ⟨by first | omega | exact Nat.le_refl _⟩, ⟨by repeat (first | (with_reducible first | exact HB.out | apply below_alloc | apply pw_below_drewN | apply below_drew1) | exact HB.out)⟩⟩
 case rest =>
  clear HC6
  try clear c2
  try clear p2
  try clear c3
  try clear c7
  try clear c7b0
  try clear c8
  try clear c8b0
  try clear c8b1
  try clear c9
  try clear c9b0
  try clear c9b1
  obtain ⟨kq, x30_5, rfl, HA, HJ5, HB⟩ := hcut
  cases kq with
  | zero => exact absurd HA.out (by simp [rope_pairs_Back_1.j0])
  | succ kj5 =>
   have H := HA.out
   clear HA
   simp only [rope_pairs_Back_1.j0] at H
   by_cases c10 : x30_5 = true
   ·
    subst c10
    have H1 : (some (([] : List Int), 100)) = some (r1, r2) := by rw [if_pos rfl] at H; exact H
    clear H
    have H := H1
    clear H1
    simp only [Option.some.injEq, Prod.mk.injEq] at H
    obtain ⟨rfl, rfl⟩ := H
    go_wp2
    repeat (go_quiet (fail); try go_wp2)
    go_ret2
    exact ⟨_, by first | rfl | (simp [errW_none, errW_some] <;> rfl) | (simp [*, errW_none, errW_some] <;> rfl), by first | exact Kd.R_nil _ _ _ _ _ | exact Kd.N_nil _ _ _ _ _ | exact Kd.V_nil _ _ _ _ _ | exact Kd.Q_nil _ _ _ _ _ | exact Kd.S_nil _ _ _ _ _, by repeat (first | (with_reducible first | exact HB.out | apply below_alloc | apply pw_below_drewN | apply below_drew1) | exact HB.out)⟩
   ·
    replace c10 := Bool.eq_false_iff.mpr c10
    subst c10
    have H1 : (if (l2.length : Int) = (wrap64 (Int.tdiv a1 2)) then (rope_pairs_Back_1.j1 kj5 l0 a1 l2 l3 ((l3.length : Int) != (wrap64 (Int.tdiv a1 2)))) else (rope_pairs_Back_1.j1 kj5 l0 a1 l2 l3 true)) = some (r1, r2) := by rw [if_neg (show ¬ (false = true) by decide)] at H; exact H
    clear H
    have H := H1
    clear H1
    have HC11 := Aside0.mk H
    clear H
    go_upto_region 3 with (fail)
    repeat (go_quiet (fail); go_upto_region 3 with (fail))
    go_cut [42] (fun v42 wc => ∃ (kq : Nat) (x42_10 : Bool), v42 = .bool x42_10 ∧ Aside0 (rope_pairs_Back_1.j1 kq l0 a1 l2 l3 x42_10 = some (r1, r2)) ∧ Aside0 (kq ≤ kj5) ∧ Aside0 (Below w.heap.size w wc))
    case first =>
     have H := HC11.out
     clear HC11
     by_cases c12 : (l2.length : Int) = (wrap64 (Int.tdiv a1 2))
     ·
      rw [if_pos c12] at H
      have c12b0 : ((l2.length : Int) == (wrap64 (Int.tdiv a1 2))) = true := beq_iff_eq.mpr c12
      have c12b1 : ((l2.length : Int) != (wrap64 (Int.tdiv a1 2))) = false := bne_eq_false_iff_eq.mpr c12
      clear c12
      (first | rw [c12b0] | (simp only [i64_w, i32_w]; rw [c12b0]) | skip)
      have H' := Aside0.mk H
      clear H
      go_wp2
      repeat (go_quiet (fail); try go_wp2)
      go_meet
      case rel => exact ⟨_, (((l3.length : Int) != (wrap64 (Int.tdiv a1 2)))), (by first | rfl | (simp; done) | (simp [*]; done)), H', ⟨by have := HJ5.out; first | omega | exact Nat.le_refl _⟩, ⟨by repeat (first | (with_reducible first | exact HB.out | apply below_alloc | apply pw_below_drewN | apply below_drew1) | exact HB.out)⟩⟩
     ·
      rw [if_neg c12] at H
      have c12b0 : ((l2.length : Int) == (wrap64 (Int.tdiv a1 2))) = false := beq_eq_false_iff_ne.mpr c12
      have c12b1 : ((l2.length : Int) != (wrap64 (Int.tdiv a1 2))) = true := bne_iff_ne.mpr c12
      (first | rw [c12b0] | (simp only [i64_w, i32_w]; rw [c12b0]) | skip)
      have H' := Aside0.mk H
      clear H
      go_wp2
      repeat (go_quiet (fail); try go_wp2)
      go_meet
      case rel => exact ⟨_, (true), (by first | rfl | (simp; done) | (simp [*]; done)), H', ⟨by have := HJ5.out; first | omega | exact Nat.le_refl _⟩, ⟨by repeat (first | (with_reducible first | exact HB.out | apply below_alloc | apply pw_below_drewN | apply below_drew1) | exact HB.out)⟩⟩
    case rest =>
     clear HC11
     try clear c1
     try clear c2
     try clear p2
     try clear c3
     try clear p6
     try clear c7
     try clear c7b0
     try clear c8
     try clear c8b0
     try clear c8b1
     try clear c9
     try clear c9b0
     try clear c9b1
     try clear c10
     try clear c12
     try clear c12b0
     try clear c12b1
     try clear p2
     obtain ⟨kq, x42_10, rfl, HA, HJ10, HB⟩ := hcut
     cases kq with
     | zero => exact absurd HA.out (by simp [rope_pairs_Back_1.j1])
     | succ kj10 =>
      have H := HA.out
      clear HA
      simp only [rope_pairs_Back_1.j1] at H
      by_cases c13 : x42_10 = true
      ·
       subst c13
       have H1 : (some (([] : List Int), 101)) = some (r1, r2) := by rw [if_pos rfl] at H; exact H
       clear H
       have H := H1
       clear H1
       simp only [Option.some.injEq, Prod.mk.injEq] at H
       obtain ⟨rfl, rfl⟩ := H
       go_wp2
       repeat (go_quiet (fail); try go_wp2)
       go_ret2
       exact ⟨_, by first | rfl | (simp [errW_none, errW_some] <;> rfl) | (simp [*, errW_none, errW_some] <;> rfl), by first | exact Kd.R_nil _ _ _ _ _ | exact Kd.N_nil _ _ _ _ _ | exact Kd.V_nil _ _ _ _ _ | exact Kd.Q_nil _ _ _ _ _ | exact Kd.S_nil _ _ _ _ _, by repeat (first | (with_reducible first | exact HB.out | apply below_alloc | apply pw_below_drewN | apply below_drew1) | exact HB.out)⟩
      ·
       replace c13 := Bool.eq_false_iff.mpr c13
       subst c13
       have H1 : (if 0 ≤ (l0.length : Int) then (if ((l0.length : Int) : Int).toNat ≤ 281474976710656 then (rope_pairs_Back_1.l0 kj10 l0 a1 l2 l3 (List.replicate ((l0.length : Int) : Int).toNat 0) 0) else (none)) else (none)) = some (r1, r2) := by rw [if_neg (show ¬ (false = true) by decide)] at H; exact H
       clear H
       have H := H1
       clear H1
       by_cases c14 : 0 ≤ (l0.length : Int)
       ·
        rw [if_pos c14] at H
        have c14b0 := eq_true c14
        have c14b1 : decide (0 ≤ (l0.length : Int)) = true := decide_eq_true c14
        clear c14
        by_cases c15 : ((l0.length : Int) : Int).toNat ≤ 281474976710656
        ·
         rw [if_pos c15] at H
         have c15b0 := eq_true c15
         have c15b1 : decide (((l0.length : Int) : Int).toNat ≤ 281474976710656) = true := decide_eq_true c15
         clear c15
         obtain ⟨y178, hy178⟩ : ∃ y_ : List Int, y_ = (List.replicate ((l0.length : Int) : Int).toNat 0) := ⟨_, rfl⟩
         replace H : (rope_pairs_Back_1.l0 kj10 l0 a1 l2 l3 y178 0) = some (r1, r2) := by first | (rw [hy178]; with_reducible exact H) | (have H2_ := (Option.bind_some _ _).symm.trans H; rw [hy178]; with_reducible exact H2_) | (have H2_ := (Option.bind_some _ _).symm.trans H; with_reducible exact H2_) | with_reducible exact H | (rw [hy178]; exact H) | exact H
         have Ny178 := Aside0.mk hy178
         clear hy178
         have H' := Aside0.mk H
         clear H
         go_wp2_with (first | ((with_reducible refine gate_dst (N := 45) rfl ?_); (try (refine gate_guard (by rfl) ?_; dsimp only)); refine Kd.R_make (Kd.int .i8) _ 33 rfl (N := 45) rfl 22 _ _ rfl (l0.length : Int) rfl rfl Tryd.underlying22 (.int .i8 0) 1 info33 rfl (by decide) (by omega) 0 (ok := fun _ => True) (okp := fun _ => True) rfl (fun _ hk => hk) trivial (of_decide_eq_true (by first | (with_reducible assumption) | assumption)) (Nat.le_trans (Nat.mul_le_mul_right _ (of_decide_eq_true (by first | (with_reducible assumption) | assumption) : (l0.length : Int).toNat ≤ 281474976710656)) (by omega)) (Below.refl _ _) (Nat.le_refl _) ?_; intro v179 w16 ho17 hb hg_ hnew_; clear hg_ hnew_; (first | rw [← Ny178.out] at ho17 | (simp only [Int.reduceToNat] at ho17; rw [← Ny178.out] at ho17)); have n0_ := Aside0.mk (Kd.R_lower ho17 (below_size (by repeat (first | (with_reducible first | exact HB.out | apply below_alloc | apply pw_below_drewN | apply below_drew1) | exact HB.out)))); have n1_ := Aside0.mk (below_step (by repeat (first | (with_reducible first | exact HB.out | apply below_alloc | apply pw_below_drewN | apply below_drew1) | exact HB.out)) hb); clear HB; have HO180 := n0_; have HB := n1_; clear n0_ n1_; clear hb ho17))
         repeat (go_quiet (first | ((with_reducible refine gate_dst (N := 45) rfl ?_); (try (refine gate_guard (by rfl) ?_; dsimp only)); refine Kd.R_make (Kd.int .i8) _ 33 rfl (N := 45) rfl 22 _ _ rfl (l0.length : Int) rfl rfl Tryd.underlying22 (.int .i8 0) 1 info33 rfl (by decide) (by omega) 0 (ok := fun _ => True) (okp := fun _ => True) rfl (fun _ hk => hk) trivial (of_decide_eq_true (by first | (with_reducible assumption) | assumption)) (Nat.le_trans (Nat.mul_le_mul_right _ (of_decide_eq_true (by first | (with_reducible assumption) | assumption) : (l0.length : Int).toNat ≤ 281474976710656)) (by omega)) (Below.refl _ _) (Nat.le_refl _) ?_; intro v179 w16 ho17 hb hg_ hnew_; clear hg_ hnew_; (first | rw [← Ny178.out] at ho17 | (simp only [Int.reduceToNat] at ho17; rw [← Ny178.out] at ho17)); have n0_ := Aside0.mk (Kd.R_lower ho17 (below_size (by repeat (first | (with_reducible first | exact HB.out | apply below_alloc | apply pw_below_drewN | apply below_drew1) | exact HB.out)))); have n1_ := Aside0.mk (below_step (by repeat (first | (with_reducible first | exact HB.out | apply below_alloc | apply pw_below_drewN | apply below_drew1) | exact HB.out)) hb); clear HB; have HO180 := n0_; have HB := n1_; clear n0_ n1_; clear hb ho17)); try go_wp2_with (first | ((with_reducible refine gate_dst (N := 45) rfl ?_); (try (refine gate_guard (by rfl) ?_; dsimp only)); refine Kd.R_make (Kd.int .i8) _ 33 rfl (N := 45) rfl 22 _ _ rfl (l0.length : Int) rfl rfl Tryd.underlying22 (.int .i8 0) 1 info33 rfl (by decide) (by omega) 0 (ok := fun _ => True) (okp := fun _ => True) rfl (fun _ hk => hk) trivial (of_decide_eq_true (by first | (with_reducible assumption) | assumption)) (Nat.le_trans (Nat.mul_le_mul_right _ (of_decide_eq_true (by first | (with_reducible assumption) | assumption) : (l0.length : Int).toNat ≤ 281474976710656)) (by omega)) (Below.refl _ _) (Nat.le_refl _) ?_; intro v179 w16 ho17 hb hg_ hnew_; clear hg_ hnew_; (first | rw [← Ny178.out] at ho17 | (simp only [Int.reduceToNat] at ho17; rw [← Ny178.out] at ho17)); have n0_ := Aside0.mk (Kd.R_lower ho17 (below_size (by repeat (first | (with_reducible first | exact HB.out | apply below_alloc | apply pw_below_drewN | apply below_drew1) | exact HB.out)))); have n1_ := Aside0.mk (below_step (by repeat (first | (with_reducible first | exact HB.out | apply below_alloc | apply pw_below_drewN | apply below_drew1) | exact HB.out)) hb); clear HB; have HO180 := n0_; have HB := n1_; clear n0_ n1_; clear hb ho17)))
         go_loopg [13] kj10 (fun kq v13 w' => ∃ (x12_3 : List Int) (x13_3 : Int), v13 = .int .i64 x13_3 ∧ Aside0 (rope_pairs_Back_1.l0 kq l0 a1 l2 l3 x12_3 x13_3 = some (r1, r2)) ∧ Aside0 (kq ≤ kj10) ∧ Aside0 (Kd.R (Kd.int .i8) 33 w' w.heap.size (fun _ => True) v179 x12_3) ∧ Aside0 (Below w.heap.size w w'))
         case atStart => exact ⟨(y178), (0), (by first | rfl | (simp; done) | (simp [*]; done)), H', ⟨Nat.le_refl _⟩, ⟨by (with_reducible repeat (first | apply Kd.R_alloc | apply Kd.R_drewN | apply Kd.R_drew)); exact HO180.out⟩, ⟨by repeat (first | (with_reducible first | exact HB.out | apply below_alloc | apply pw_below_drewN | apply below_drew1) | exact HB.out)⟩⟩
         case round =>
          clear H'
          try clear c1
          try clear c2
          try clear p2
          try clear c3
          try clear p6
          try clear c7
          try clear c7b0
          try clear c8
          try clear c8b0
          try clear c8b1
          try clear c9
          try clear c9b0
          try clear c9b1
          try clear c10
          try clear c12
          try clear c12b0
          try clear c12b1
          try clear c13
          try clear c14
          try clear c14b0
          try clear c14b1
          try clear c15
          try clear c15b0
          try clear c15b1
          try clear p2
          try clear p6
          obtain ⟨x12_3, x13_3, rfl, HA, HK3, HO_12, HB⟩ := hrel
          cases gk with
          | zero => exact absurd HA.out (by simp [rope_pairs_Back_1.l0])
          | succ k3 =>
           have H := HA.out
           clear HA
           simp only [rope_pairs_Back_1.l0] at H
           by_cases c18 : x13_3 < (l0.length : Int)
           ·
            rw [if_pos c18] at H
            have c18b0 : decide (x13_3 < (l0.length : Int)) = true := decide_eq_true c18
            clear c18
            by_cases c19 : a1 = 0
            ·
             rw [if_pos c19] at H
             exact absurd H (by simp)
            ·
             rw [if_neg c19] at H
             have c19b0 : (a1 == 0) = false := beq_eq_false_iff_ne.mpr c19
             have c19b1 : (a1 != 0) = true := bne_iff_ne.mpr c19
             by_cases c20 : 0 ≤ x13_3
             ·
              rw [if_pos c20] at H
              have c20b0 : decide (0 ≤ x13_3) = true := decide_eq_true c20
              clear c20
              obtain ⟨ji21, hji21⟩ : ∃ j_ : Int, (wrap64 (x13_3 + 1)) = j_ := ⟨_, rfl⟩
              replace H : (if 0 ≤ (ji21) then (if (ji21) < (l0.length : Int) then (if 0 ≤ (wrap64 (Int.tdiv (Int.tmod x13_3 a1) 2)) then (if (wrap64 (Int.tdiv (Int.tmod x13_3 a1) 2)) < (l2.length : Int) then (if (wrap64 (Int.tdiv (Int.tmod x13_3 a1) 2)) < (l3.length : Int) then ((rope_Back_1.f (wrap64 (rd l0 x13_3)) (wrap64 (rd l0 (ji21))) (wrap64 (rd l2 (wrap64 (Int.tdiv (Int.tmod x13_3 a1) 2)))) (wrap64 (rd l3 (wrap64 (Int.tdiv (Int.tmod x13_3 a1) 2))))).bind fun bt185 => ((rope_narrow.f bt185.1).bind fun t187 => ((rope_narrow.f bt185.2).bind fun t188 => (if x13_3 < (x12_3.length : Int) then (if (ji21) < (x12_3.length : Int) then (rope_pairs_Back_1.l0 k3 l0 a1 l2 l3 ((x12_3.set (x13_3 : Int).toNat t187).set ((ji21) : Int).toNat t188) (wrap64 (x13_3 + 2))) else (none)) else (none))))) else (none)) else (none)) else (none)) else (none)) else (none)) = some (r1, r2) := by first | (rw [hji21] at H; exact H) | (simp only [hji21] at H ⊢; exact H)
              have hji21w : (IntKind.i64.wrap (x13_3 + 1)) = ji21 := (i64_w _).trans hji21
              by_cases c22 : 0 ≤ (ji21)
              ·
               rw [if_pos c22] at H
               have c22b0 : decide (0 ≤ (ji21)) = true := decide_eq_true c22
               clear c22
               by_cases c23 : (ji21) < (l0.length : Int)
               ·
                rw [if_pos c23] at H
                have c23b0 : decide ((ji21) < (l0.length : Int)) = true := decide_eq_true c23
                clear c23
                obtain ⟨ji24, hji24⟩ : ∃ j_ : Int, (wrap64 (Int.tdiv (Int.tmod x13_3 a1) 2)) = j_ := ⟨_, rfl⟩
                replace H : (if 0 ≤ (ji24) then (if (ji24) < (l2.length : Int) then (if (ji24) < (l3.length : Int) then ((rope_Back_1.f (wrap64 (rd l0 x13_3)) (wrap64 (rd l0 (ji21))) (wrap64 (rd l2 (ji24))) (wrap64 (rd l3 (ji24)))).bind fun bt185 => ((rope_narrow.f bt185.1).bind fun t187 => ((rope_narrow.f bt185.2).bind fun t188 => (if x13_3 < (x12_3.length : Int) then (if (ji21) < (x12_3.length : Int) then (rope_pairs_Back_1.l0 k3 l0 a1 l2 l3 ((x12_3.set (x13_3 : Int).toNat t187).set ((ji21) : Int).toNat t188) (wrap64 (x13_3 + 2))) else (none)) else (none))))) else (none)) else (none)) else (none)) = some (r1, r2) := by first | (rw [hji24] at H; exact H) | (simp only [hji24] at H ⊢; exact H)
                have hji24w : (IntKind.i64.wrap (Int.tdiv (Int.tmod x13_3 a1) 2)) = ji24 := (i64_w _).trans hji24
                by_cases c25 : 0 ≤ (ji24)
                ·
                 rw [if_pos c25] at H
                 have c25b0 : decide (0 ≤ (ji24)) = true := decide_eq_true c25
                 clear c25
                 by_cases c26 : (ji24) < (l2.length : Int)
                 ·
                  rw [if_pos c26] at H
                  have c26b0 : decide ((ji24) < (l2.length : Int)) = true := decide_eq_true c26
                  clear c26
                  by_cases c27 : (ji24) < (l3.length : Int)
                  ·
                   rw [if_pos c27] at H
                   have c27b0 : decide ((ji24) < (l3.length : Int)) = true := decide_eq_true c27
                   clear c27
                   replace H := Option.bind_eq_some_iff.mp H
                   obtain ⟨⟨t185, t186⟩, A280, H⟩ := H
                   replace H : ((rope_narrow.f t185).bind fun t187 => ((rope_narrow.f t186).bind fun t188 => (if x13_3 < (x12_3.length : Int) then (if (ji21) < (x12_3.length : Int) then (rope_pairs_Back_1.l0 k3 l0 a1 l2 l3 ((x12_3.set (x13_3 : Int).toNat t187).set ((ji21) : Int).toNat t188) (wrap64 (x13_3 + 2))) else (none)) else (none)))) = some (r1, r2) := H
                   have A28 := Aside0.mk A280
                   clear A280
                   replace H := Option.bind_eq_some_iff.mp H
                   obtain ⟨t187, A290, H⟩ := H
                   replace H : ((rope_narrow.f t186).bind fun t188 => (if x13_3 < (x12_3.length : Int) then (if (ji21) < (x12_3.length : Int) then (rope_pairs_Back_1.l0 k3 l0 a1 l2 l3 ((x12_3.set (x13_3 : Int).toNat t187).set ((ji21) : Int).toNat t188) (wrap64 (x13_3 + 2))) else (none)) else (none))) = some (r1, r2) := H
                   have A29 := Aside0.mk A290
                   clear A290
                   replace H := Option.bind_eq_some_iff.mp H
                   obtain ⟨t188, A300, H⟩ := H
                   replace H : (if x13_3 < (x12_3.length : Int) then (if (ji21) < (x12_3.length : Int) then (rope_pairs_Back_1.l0 k3 l0 a1 l2 l3 ((x12_3.set (x13_3 : Int).toNat t187).set ((ji21) : Int).toNat t188) (wrap64 (x13_3 + 2))) else (none)) else (none)) = some (r1, r2) := H
                   have A30 := Aside0.mk A300
                   clear A300
                   by_cases c31 : x13_3 < (x12_3.length : Int)
                   ·
                    rw [if_pos c31] at H
                    have c31b0 : decide (x13_3 < (x12_3.length : Int)) = true := decide_eq_true c31
                    clear c31
                    obtain ⟨y189, hy189⟩ : ∃ y_ : List Int, y_ = (x12_3.set (x13_3 : Int).toNat t187) := ⟨_, rfl⟩
                    replace H : (if (ji21) < (x12_3.length : Int) then (rope_pairs_Back_1.l0 k3 l0 a1 l2 l3 (y189.set ((ji21) : Int).toNat t188) (wrap64 (x13_3 + 2))) else (none)) = some (r1, r2) := by first | (rw [hy189]; with_reducible exact H) | (have H2_ := (Option.bind_some _ _).symm.trans H; rw [hy189]; with_reducible exact H2_) | (have H2_ := (Option.bind_some _ _).symm.trans H; with_reducible exact H2_) | with_reducible exact H | (rw [hy189]; exact H) | exact H
                    have Ny189 := Aside0.mk hy189
                    clear hy189
                    by_cases c33 : (ji21) < (x12_3.length : Int)
                    ·
                     rw [if_pos c33] at H
                     have c33b0 : decide ((ji21) < (x12_3.length : Int)) = true := decide_eq_true c33
                     clear c33
                     obtain ⟨y190, hy190⟩ : ∃ y_ : List Int, y_ = (y189.set ((ji21) : Int).toNat t188) := ⟨_, rfl⟩
                     replace H : (rope_pairs_Back_1.l0 k3 l0 a1 l2 l3 y190 (wrap64 (x13_3 + 2))) = some (r1, r2) := by first | (rw [hy190]; with_reducible exact H) | (have H2_ := (Option.bind_some _ _).symm.trans H; rw [hy190]; with_reducible exact H2_) | (have H2_ := (Option.bind_some _ _).symm.trans H; with_reducible exact H2_) | with_reducible exact H | (rw [hy190]; exact H) | exact H
                     have Ny190 := Aside0.mk hy190
                     clear hy190
                     have H' := Aside0.mk H
                     clear H
                     have p181 : 0 ≤ (x13_3 : Int) := of_decide_eq_true (by first | (with_reducible assumption) | assumption)
                     have q181 : x13_3 < (l0.length : Int) := of_decide_eq_true (by first | (with_reducible assumption) | assumption)
                     obtain ⟨ad181, e181, hx181_0⟩ := Kd.at_int HR0.out x13_3 p181 q181
                     cases e181
                     replace hx181_0 := (HB.out.cell (World.block_lt_of_cell? w _ hx181_0)).trans hx181_0
                     replace p181 := eq_true p181
                     replace q181 := eq_true q181
                     have p182 : 0 ≤ ((ji21) : Int) := of_decide_eq_true (by first | (with_reducible assumption) | assumption)
                     have q182 : (ji21) < (l0.length : Int) := of_decide_eq_true (by first | (with_reducible assumption) | assumption)
                     obtain ⟨ad182, e182, hx182_0⟩ := Kd.at_int HR0.out (ji21) p182 q182
                     obtain rfl : ad181 = ad182 := (by injection e182)
                     replace hx182_0 := (HB.out.cell (World.block_lt_of_cell? w _ hx182_0)).trans hx182_0
                     replace p182 := eq_true p182
                     replace q182 := eq_true q182
                     have p183 : 0 ≤ ((ji24) : Int) := of_decide_eq_true (by first | (with_reducible assumption) | assumption)
                     have q183 : (ji24) < (l2.length : Int) := of_decide_eq_true (by first | (with_reducible assumption) | assumption)
                     obtain ⟨ad183, e183, hx183_0⟩ := Kd.at_int HR2.out (ji24) p183 q183
                     cases e183
                     replace hx183_0 := (HB.out.cell (World.block_lt_of_cell? w _ hx183_0)).trans hx183_0
                     replace p183 := eq_true p183
                     replace q183 := eq_true q183
                     have p184 : 0 ≤ ((ji24) : Int) := of_decide_eq_true (by first | (with_reducible assumption) | assumption)
                     have q184 : (ji24) < (l3.length : Int) := of_decide_eq_true (by first | (with_reducible assumption) | assumption)
                     obtain ⟨ad184, e184, hx184_0⟩ := Kd.at_int HR3.out (ji24) p184 q184
                     cases e184
                     replace hx184_0 := (HB.out.cell (World.block_lt_of_cell? w _ hx184_0)).trans hx184_0
                     replace p184 := eq_true p184
                     replace q184 := eq_true q184
                     have p32 : 0 ≤ (x13_3 : Int) := of_decide_eq_true (by first | (with_reducible assumption) | assumption)
                     have q32 : (x13_3 : Int) < ((x12_3.length : Int) : Int) := of_decide_eq_true (by first | (with_reducible assumption) | assumption)
                     obtain ⟨go32, co32, eo32, gb32, gl32, cl32, HG32⟩ := Kd.R_form HO_12.out (by omega)
                     (first | cases eo32 | (injection eo32 with ea_ en_ ec_; (first | subst ea_ | (injection ea_ with ea_; subst ea_)); subst ec_; clear en_))
                     have GB32 := Aside0.mk gb32
                     have GG32 := Aside0.mk HG32
                     clear gb32 gl32 HG32
                     obtain ⟨hx32_0, hf32_0⟩ := Kd.R_celln 0 HO_12.out (x13_3 : Int) p32 q32
                     replace p32 := eq_true p32
                     replace q32 := eq_true q32
                     obtain ⟨hy35_, hz35_⟩ := Kd.R_celln 0 HO_12.out (x13_3 : Int) (of_decide_eq_true (by first | (with_reducible assumption) | assumption)) (of_decide_eq_true (by first | (with_reducible assumption) | assumption))
                     have HP35 := Kd.R_putg HO_12.out (x13_3 : Int) t187
                     go_wp2_with (first | (go_at_call 29; (with_reducible refine (rope_Back_1.calls (wrap64 (rd l0 x13_3)) (wrap64 (rd l0 (ji21))) (wrap64 (rd l2 (ji24))) (wrap64 (rd l3 (ji24))) t185 t186 _ A28.out).mono ?_); rintro e w' ⟨rfl, ⟨nd, rfl⟩⟩; (try first | exact ⟨rfl, _, World.drewN_drewN _ _ _⟩ | exact ⟨rfl, _, Eq.trans (World.drewN_drewN _ _ _) (congrArg (World.drewN _) (Nat.add_assoc _ _ _))⟩)) | (go_at_call 31; (with_reducible refine (rope_narrow.calls t185 t187 _ A29.out).mono ?_); rintro e w' ⟨rfl, ⟨nd, rfl⟩⟩; (try first | exact ⟨rfl, _, World.drewN_drewN _ _ _⟩ | exact ⟨rfl, _, Eq.trans (World.drewN_drewN _ _ _) (congrArg (World.drewN _) (Nat.add_assoc _ _ _))⟩)) | (go_at_call 31; (with_reducible refine (rope_narrow.calls t186 t188 _ A30.out).mono ?_); rintro e w' ⟨rfl, ⟨nd, rfl⟩⟩; (try first | exact ⟨rfl, _, World.drewN_drewN _ _ _⟩ | exact ⟨rfl, _, Eq.trans (World.drewN_drewN _ _ _) (congrArg (World.drewN _) (Nat.add_assoc _ _ _))⟩)) | ((with_reducible refine gate_store (t := 33) (p := 91) rfl ?_); (try (rw [drewN_self wr]; generalize hq_ : World.drewN wr _ = wr; have n0_ := Aside0.mk (Kd.R_at hq_ HO_12.out); have n1_ := Aside0.mk (below_at hq_ HB.out); clear hq_ HO_12 HB; have HO_12 := n0_; have HB := n1_; clear n0_ n1_; (try (obtain ⟨hy35_, hz35_⟩ := Kd.R_celln 0 HO_12.out (x13_3 : Int) (of_decide_eq_true (by first | (with_reducible assumption) | assumption)) (of_decide_eq_true (by first | (with_reducible assumption) | assumption)))); (try (have HP35 := Kd.R_putg HO_12.out (x13_3 : Int) t187)))); refine store_event (t := 33) (p := 91) (v := ?vo_w36) (w1 := (wr.setCell ⟨go32, (x13_3 : Int).toNat, none⟩ (.int .i8 t187))) ?hg ?ho ?hn ?hr ?_; (case ho => rfl); (case hg => rfl); (case hn => rfl); (case hr => first | (go_simp; done) | (go_simp; rfl)); intro w36 hw; have hg : wr.grownBy w36 (some go32) := (by rw [hw]; exact HP35.2); have hp_ : Kd.R (Kd.int .i8) 33 w36 w.heap.size (fun _ => True) (.slice (some ⟨go32, 0, none⟩) x12_3.length co32) y189 := (by rw [hw, Ny189.out]; exact HP35.1); clear HP35; have n0_ := Aside0.mk (hp_); have n1_ := Aside0.mk ((by rw [hw]; exact below_set (HB.out) GB32.out : Below w.heap.size w w36)); clear HO_12; clear HB; have HO_12 := n0_; have HB := n1_; clear n0_ n1_; clear hg hw hp_; have p34 : 0 ≤ ((ji21) : Int) := of_decide_eq_true (by first | (with_reducible assumption) | assumption); have q34 : ((ji21) : Int) < ((x12_3.length : Int) : Int) := of_decide_eq_true (by first | (with_reducible assumption) | assumption); obtain ⟨hx34_0, hf34_0⟩ := Kd.R_celln 0 HO_12.out ((ji21) : Int) p34 q34; replace p34 := eq_true p34; replace q34 := eq_true q34; obtain ⟨hy37_, hz37_⟩ := Kd.R_celln 0 HO_12.out ((ji21) : Int) (of_decide_eq_true (by first | (with_reducible assumption) | assumption)) (of_decide_eq_true (by first | (with_reducible assumption) | assumption)); have HP37 := Kd.R_putg HO_12.out ((ji21) : Int) t188) | ((with_reducible refine gate_store (t := 33) (p := 92) rfl ?_); (try (rw [drewN_self w36]; generalize hq_ : World.drewN w36 _ = w36; have n0_ := Aside0.mk (Kd.R_at hq_ HO_12.out); have n1_ := Aside0.mk (below_at hq_ HB.out); clear hq_ HO_12 HB; have HO_12 := n0_; have HB := n1_; clear n0_ n1_; (try (obtain ⟨hy37_, hz37_⟩ := Kd.R_celln 0 HO_12.out ((ji21) : Int) (of_decide_eq_true (by first | (with_reducible assumption) | assumption)) (of_decide_eq_true (by first | (with_reducible assumption) | assumption)))); (try (have HP37 := Kd.R_putg HO_12.out ((ji21) : Int) t188)))); refine store_event (t := 33) (p := 92) (v := ?vo_w38) (w1 := (w36.setCell ⟨go32, ((ji21) : Int).toNat, none⟩ (.int .i8 t188))) ?hg ?ho ?hn ?hr ?_; (case ho => rfl); (case hg => rfl); (case hn => rfl); (case hr => first | (go_simp; done) | (go_simp; rfl)); intro w38 hw; have hg : w36.grownBy w38 (some go32) := (by rw [hw]; exact HP37.2); have hp_ : Kd.R (Kd.int .i8) 33 w38 w.heap.size (fun _ => True) (.slice (some ⟨go32, 0, none⟩) x12_3.length co32) y190 := (by rw [hw, Ny190.out]; exact HP37.1); clear HP37; have n0_ := Aside0.mk (hp_); have n1_ := Aside0.mk ((by rw [hw]; exact below_set (HB.out) GB32.out : Below w.heap.size w w38)); clear HO_12; clear HB; have HO_12 := n0_; have HB := n1_; clear n0_ n1_; clear hg hw hp_))
                     repeat (go_quiet (first | (go_at_call 29; (with_reducible refine (rope_Back_1.calls (wrap64 (rd l0 x13_3)) (wrap64 (rd l0 (ji21))) (wrap64 (rd l2 (ji24))) (wrap64 (rd l3 (ji24))) t185 t186 _ A28.out).mono ?_); rintro e w' ⟨rfl, ⟨nd, rfl⟩⟩; (try first | exact ⟨rfl, _, World.drewN_drewN _ _ _⟩ | exact ⟨rfl, _, Eq.trans (World.drewN_drewN _ _ _) (congrArg (World.drewN _) (Nat.add_assoc _ _ _))⟩)) | (go_at_call 31; (with_reducible refine (rope_narrow.calls t185 t187 _ A29.out).mono ?_); rintro e w' ⟨rfl, ⟨nd, rfl⟩⟩; (try first | exact ⟨rfl, _, World.drewN_drewN _ _ _⟩ | exact ⟨rfl, _, Eq.trans (World.drewN_drewN _ _ _) (congrArg (World.drewN _) (Nat.add_assoc _ _ _))⟩)) | (go_at_call 31; (with_reducible refine (rope_narrow.calls t186 t188 _ A30.out).mono ?_); rintro e w' ⟨rfl, ⟨nd, rfl⟩⟩; (try first | exact ⟨rfl, _, World.drewN_drewN _ _ _⟩ | exact ⟨rfl, _, Eq.trans (World.drewN_drewN _ _ _) (congrArg (World.drewN _) (Nat.add_assoc _ _ _))⟩)) | ((with_reducible refine gate_store (t := 33) (p := 91) rfl ?_); (try (rw [drewN_self wr]; generalize hq_ : World.drewN wr _ = wr; have n0_ := Aside0.mk (Kd.R_at hq_ HO_12.out); have n1_ := Aside0.mk (below_at hq_ HB.out); clear hq_ HO_12 HB; have HO_12 := n0_; have HB := n1_; clear n0_ n1_; (try (obtain ⟨hy35_, hz35_⟩ := Kd.R_celln 0 HO_12.out (x13_3 : Int) (of_decide_eq_true (by first | (with_reducible assumption) | assumption)) (of_decide_eq_true (by first | (with_reducible assumption) | assumption)))); (try (have HP35 := Kd.R_putg HO_12.out (x13_3 : Int) t187)))); refine store_event (t := 33) (p := 91) (v := ?vo_w36) (w1 := (wr.setCell ⟨go32, (x13_3 : Int).toNat, none⟩ (.int .i8 t187))) ?hg ?ho ?hn ?hr ?_; (case ho => rfl); (case hg => rfl); (case hn => rfl); (case hr => first | (go_simp; done) | (go_simp; rfl)); intro w36 hw; have hg : wr.grownBy w36 (some go32) := (by rw [hw]; exact HP35.2); have hp_ : Kd.R (Kd.int .i8) 33 w36 w.heap.size (fun _ => True) (.slice (some ⟨go32, 0, none⟩) x12_3.length co32) y189 := (by rw [hw, Ny189.out]; exact HP35.1); clear HP35; have n0_ := Aside0.mk (hp_); have n1_ := Aside0.mk ((by rw [hw]; exact below_set (HB.out) GB32.out : Below w.heap.size w w36)); clear HO_12; clear HB; have HO_12 := n0_; have HB := n1_; clear n0_ n1_; clear hg hw hp_; have p34 : 0 ≤ ((ji21) : Int) := of_decide_eq_true (by first | (with_reducible assumption) | assumption); have q34 : ((ji21) : Int) < ((x12_3.length : Int) : Int) := of_decide_eq_true (by first | (with_reducible assumption) | assumption); obtain ⟨hx34_0, hf34_0⟩ := Kd.R_celln 0 HO_12.out ((ji21) : Int) p34 q34; replace p34 := eq_true p34; replace q34 := eq_true q34; obtain ⟨hy37_, hz37_⟩ := Kd.R_celln 0 HO_12.out ((ji21) : Int) (of_decide_eq_true (by first | (with_reducible assumption) | assumption)) (of_decide_eq_true (by first | (with_reducible assumption) | assumption)); have HP37 := Kd.R_putg HO_12.out ((ji21) : Int) t188) | ((with_reducible refine gate_store (t := 33) (p := 92) rfl ?_); (try (rw [drewN_self w36]; generalize hq_ : World.drewN w36 _ = w36; have n0_ := Aside0.mk (Kd.R_at hq_ HO_12.out); have n1_ := Aside0.mk (below_at hq_ HB.out); clear hq_ HO_12 HB; have HO_12 := n0_; have HB := n1_; clear n0_ n1_; (try (obtain ⟨hy37_, hz37_⟩ := Kd.R_celln 0 HO_12.out ((ji21) : Int) (of_decide_eq_true (by first | (with_reducible assumption) | assumption)) (of_decide_eq_true (by first | (with_reducible assumption) | assumption)))); (try (have HP37 := Kd.R_putg HO_12.out ((ji21) : Int) t188)))); refine store_event (t := 33) (p := 92) (v := ?vo_w38) (w1 := (w36.setCell ⟨go32, ((ji21) : Int).toNat, none⟩ (.int .i8 t188))) ?hg ?ho ?hn ?hr ?_; (case ho => rfl); (case hg => rfl); (case hn => rfl); (case hr => first | (go_simp; done) | (go_simp; rfl)); intro w38 hw; have hg : w36.grownBy w38 (some go32) := (by rw [hw]; exact HP37.2); have hp_ : Kd.R (Kd.int .i8) 33 w38 w.heap.size (fun _ => True) (.slice (some ⟨go32, 0, none⟩) x12_3.length co32) y190 := (by rw [hw, Ny190.out]; exact HP37.1); clear HP37; have n0_ := Aside0.mk (hp_); have n1_ := Aside0.mk ((by rw [hw]; exact below_set (HB.out) GB32.out : Below w.heap.size w w38)); clear HO_12; clear HB; have HO_12 := n0_; have HB := n1_; clear n0_ n1_; clear hg hw hp_)); try go_wp2_with (first | (go_at_call 29; (with_reducible refine (rope_Back_1.calls (wrap64 (rd l0 x13_3)) (wrap64 (rd l0 (ji21))) (wrap64 (rd l2 (ji24))) (wrap64 (rd l3 (ji24))) t185 t186 _ A28.out).mono ?_); rintro e w' ⟨rfl, ⟨nd, rfl⟩⟩; (try first | exact ⟨rfl, _, World.drewN_drewN _ _ _⟩ | exact ⟨rfl, _, Eq.trans (World.drewN_drewN _ _ _) (congrArg (World.drewN _) (Nat.add_assoc _ _ _))⟩)) | (go_at_call 31; (with_reducible refine (rope_narrow.calls t185 t187 _ A29.out).mono ?_); rintro e w' ⟨rfl, ⟨nd, rfl⟩⟩; (try first | exact ⟨rfl, _, World.drewN_drewN _ _ _⟩ | exact ⟨rfl, _, Eq.trans (World.drewN_drewN _ _ _) (congrArg (World.drewN _) (Nat.add_assoc _ _ _))⟩)) | (go_at_call 31; (with_reducible refine (rope_narrow.calls t186 t188 _ A30.out).mono ?_); rintro e w' ⟨rfl, ⟨nd, rfl⟩⟩; (try first | exact ⟨rfl, _, World.drewN_drewN _ _ _⟩ | exact ⟨rfl, _, Eq.trans (World.drewN_drewN _ _ _) (congrArg (World.drewN _) (Nat.add_assoc _ _ _))⟩)) | ((with_reducible refine gate_store (t := 33) (p := 91) rfl ?_); (try (rw [drewN_self wr]; generalize hq_ : World.drewN wr _ = wr; have n0_ := Aside0.mk (Kd.R_at hq_ HO_12.out); have n1_ := Aside0.mk (below_at hq_ HB.out); clear hq_ HO_12 HB; have HO_12 := n0_; have HB := n1_; clear n0_ n1_; (try (obtain ⟨hy35_, hz35_⟩ := Kd.R_celln 0 HO_12.out (x13_3 : Int) (of_decide_eq_true (by first | (with_reducible assumption) | assumption)) (of_decide_eq_true (by first | (with_reducible assumption) | assumption)))); (try (have HP35 := Kd.R_putg HO_12.out (x13_3 : Int) t187)))); refine store_event (t := 33) (p := 91) (v := ?vo_w36) (w1 := (wr.setCell ⟨go32, (x13_3 : Int).toNat, none⟩ (.int .i8 t187))) ?hg ?ho ?hn ?hr ?_; (case ho => rfl); (case hg => rfl); (case hn => rfl); (case hr => first | (go_simp; done) | (go_simp; rfl)); intro w36 hw; have hg : wr.grownBy w36 (some go32) := (by rw [hw]; exact HP35.2); have hp_ : Kd.R (Kd.int .i8) 33 w36 w.heap.size (fun _ => True) (.slice (some ⟨go32, 0, none⟩) x12_3.length co32) y189 := (by rw [hw, Ny189.out]; exact HP35.1); clear HP35; have n0_ := Aside0.mk (hp_); have n1_ := Aside0.mk ((by rw [hw]; exact below_set (HB.out) GB32.out : Below w.heap.size w w36)); clear HO_12; clear HB; have HO_12 := n0_; have HB := n1_; clear n0_ n1_; clear hg hw hp_; have p34 : 0 ≤ ((ji21) : Int) := of_decide_eq_true (by first | (with_reducible assumption) | assumption); have q34 : ((ji21) : Int) < ((x12_3.length : Int) : Int) := of_decide_eq_true (by first | (with_reducible assumption) | assumption); obtain ⟨hx34_0, hf34_0⟩ := Kd.R_celln 0 HO_12.out ((ji21) : Int) p34 q34; replace p34 := eq_true p34; replace q34 := eq_true q34; obtain ⟨hy37_, hz37_⟩ := Kd.R_celln 0 HO_12.out ((ji21) : Int) (of_decide_eq_true (by first | (with_reducible assumption) | assumption)) (of_decide_eq_true (by first | (with_reducible assumption) | assumption)); have HP37 := Kd.R_putg HO_12.out ((ji21) : Int) t188) | ((with_reducible refine gate_store (t := 33) (p := 92) rfl ?_); (try (rw [drewN_self w36]; generalize hq_ : World.drewN w36 _ = w36; have n0_ := Aside0.mk (Kd.R_at hq_ HO_12.out); have n1_ := Aside0.mk (below_at hq_ HB.out); clear hq_ HO_12 HB; have HO_12 := n0_; have HB := n1_; clear n0_ n1_; (try (obtain ⟨hy37_, hz37_⟩ := Kd.R_celln 0 HO_12.out ((ji21) : Int) (of_decide_eq_true (by first | (with_reducible assumption) | assumption)) (of_decide_eq_true (by first | (with_reducible assumption) | assumption)))); (try (have HP37 := Kd.R_putg HO_12.out ((ji21) : Int) t188)))); refine store_event (t := 33) (p := 92) (v := ?vo_w38) (w1 := (w36.setCell ⟨go32, ((ji21) : Int).toNat, none⟩ (.int .i8 t188))) ?hg ?ho ?hn ?hr ?_; (case ho => rfl); (case hg => rfl); (case hn => rfl); (case hr => first | (go_simp; done) | (go_simp; rfl)); intro w38 hw; have hg : w36.grownBy w38 (some go32) := (by rw [hw]; exact HP37.2); have hp_ : Kd.R (Kd.int .i8) 33 w38 w.heap.size (fun _ => True) (.slice (some ⟨go32, 0, none⟩) x12_3.length co32) y190 := (by rw [hw, Ny190.out]; exact HP37.1); clear HP37; have n0_ := Aside0.mk (hp_); have n1_ := Aside0.mk ((by rw [hw]; exact below_set (HB.out) GB32.out : Below w.heap.size w w38)); clear HO_12; clear HB; have HO_12 := n0_; have HB := n1_; clear n0_ n1_; clear hg hw hp_)))
                     go_roundg k3
                     case measure => have := HJ5.out; have := HJ10.out; have := HK3.out; omega
                     case rel => exact ⟨(y190), (wrap64 (x13_3 + 2)), (by first | rfl | (simp; done) | (simp [*]; done)), H', ⟨by have := HJ5.out; have := HJ10.out; have := HK3.out; omega⟩, ⟨by (with_reducible repeat (first | apply Kd.R_alloc | apply Kd.R_drewN | apply Kd.R_drew)); exact HO_12.out⟩, ⟨by repeat (first | (with_reducible first | exact HB.out | apply below_alloc | apply pw_below_drewN | apply below_drew1) | exact HB.out)⟩⟩
                    ·
                     rw [if_neg c33] at H
                     exact absurd H (by simp)
                   ·
                    rw [if_neg c31] at H
                    exact absurd H (by simp)
                  ·
                   rw [if_neg c27] at H
                   exact absurd H (by simp)
                 ·
                  rw [if_neg c26] at H
                  exact absurd H (by simp)
                ·
                 rw [if_neg c25] at H
                 exact absurd H (by simp)
               ·
                rw [if_neg c23] at H
                exact absurd H (by simp)
              ·
               rw [if_neg c22] at H
               exact absurd H (by simp)
             ·
              rw [if_neg c20] at H
              exact absurd H (by simp)
           ·
            rw [if_neg c18] at H
            have c18b0 : decide (x13_3 < (l0.length : Int)) = false := decide_eq_false c18
            clear c18
            simp only [Option.some.injEq, Prod.mk.injEq] at H
            obtain ⟨rfl, rfl⟩ := H
            go_wp2
            repeat (go_quiet (fail); try go_wp2)
            go_ret2
            exact ⟨_, by first | rfl | (simp [errW_none, errW_some] <;> rfl) | (simp [*, errW_none, errW_some] <;> rfl), by (with_reducible repeat (first | apply Kd.R_alloc | apply Kd.R_drewN | apply Kd.R_drew)); exact HO_12.out, by repeat (first | (with_reducible first | exact HB.out | apply below_alloc | apply pw_below_drewN | apply below_drew1) | exact HB.out)⟩
        ·
         rw [if_neg c15] at H
         exact absurd H (by simp)
       ·
        rw [if_neg c14] at H
        exact absurd H (by simp)

/-! ### rope_Back: function 14 -/
def rope_Back.f (k : Nat) (l0 : List Int) (a1 : Int) (l2 : List Int) (l3 : List Int) : Option (List Int × Int) := (rope_pairs_Back_1.f k l0 a1 l2 l3 0).bind fun bt191 => (some (bt191.1, bt191.2))
theorem rope_Back.mono : ∀ a0 a1 a2 a3 k, LeO (rope_Back.f k a0 a1 a2 a3) (rope_Back.f (k + 1) a0 a1 a2 a3) := by
  intro a0 a1 a2 a3 k
  unfold rope_Back.f
  repeat' first
      | (with_reducible exact rope_pairs_Back_1.mono _ _ _ _ _ _)
      | (with_reducible exact LeO.refl _)
      | (with_reducible exact LeO.none _)
      | (with_reducible refine LeO.ite ?_ ?_)
      | (with_reducible refine LeO.bind ?_ (fun _ => ?_))
      | exact rope_pairs_Back_1.mono _ _ _ _ _ _
      | exact LeO.none _
      | refine LeO.ite ?_ ?_
      | refine LeO.bind ?_ (fun _ => ?_)
set_option maxHeartbeats 8000000 in
set_option maxRecDepth 100000 in
theorem rope_Back.calls (k : Nat) (A0 : Option Addr) (c0 : Nat) (l0 : List Int) (a1 : Int) (A2 : Option Addr) (c2 : Nat) (l2 : List Int) (A3 : Option Addr) (c3 : Nat) (l3 : List Int) (r1 : List Int) (r2 : Int) (w : World) (hr0 : Kd.C (Kd.int .i8) w A0 l0.length l0) (hc0 : l0.length ≤ c0) (hr2 : Kd.C (Kd.int .i8) w A2 l2.length l2) (hc2 : l2.length ≤ c2) (hr3 : Kd.C (Kd.int .i8) w A3 l3.length l3) (hc3 : l3.length ≤ c3) (h : rope_Back.f k l0 a1 l2 l3 = some (r1, r2)) :
    Calls Tryd.prog 14 #[.slice A0 l0.length c0, .int .i64 a1, .slice A2 l2.length c2, .slice A3 l3.length c3] w fun e w' => ∃ v0_ : Value, e = .returned (.tuple #[v0_, .int .i64 r2]) ∧ Kd.R (Kd.int .i8) 33 w' w.heap.size (fun _ => True) v0_ r1 ∧ Below w.heap.size w w' := by
 have HR0 := Aside0.mk hr0
 have HC0 := Aside0.mk hc0
 clear hr0 hc0
 have HR2 := Aside0.mk hr2
 have HC2 := Aside0.mk hc2
 clear hr2 hc2
 have HR3 := Aside0.mk hr3
 have HC3 := Aside0.mk hc3
 clear hr3 hc3
 have HB := Aside0.mk (Below.refl w.heap.size w)
 have H : ((rope_pairs_Back_1.f k l0 a1 l2 l3 0).bind fun bt191 => (some (bt191.1, bt191.2))) = some (r1, r2) := h
 clear h
 replace H := Option.bind_eq_some_iff.mp H
 obtain ⟨⟨t191, t192⟩, A50, H⟩ := H
 replace H : (some (t191, t192)) = some (r1, r2) := H
 have A5 := Aside0.mk A50
 clear A50
 simp only [Option.some.injEq, Prod.mk.injEq] at H
 obtain ⟨rfl, rfl⟩ := H
 go_enter Tryd.func14, Tryd.ntmps14
 go_wp2_with (first | ((with_reducible refine gate_callee (f := 26) rfl ?_); refine goesL_ (some 14) rfl rfl Tryd.func26 (by kernel_rfl) rfl #[.slice A0 l0.length c0, .int .i64 a1, .slice A2 l2.length c2, .slice A3 l3.length c3, .func (.func 29) #[] #[]] rfl (by (try simp only [List.map_toArray, List.map_cons, List.map_nil]); first | done | rfl | (simp only [List.length_drop, List.length_take]; rfl)) ?_; (with_reducible refine (rope_pairs_Back_1.calls k _ _ l0 a1 _ _ l2 _ _ l3 0 t191 t192 _ ?side1 ?side2 ?side3 ?side4 ?side5 ?side6 A5.out).mono ?_); (case side1 => repeat (first | exact HR0.out | (with_reducible refine Kd.C_alloc ?_ _) | (with_reducible refine Kd.C_drewN ?_ _) | (with_reducible refine Kd.C_drew ?_))); (case side2 => exact HC0.out); (case side3 => repeat (first | exact HR2.out | (with_reducible refine Kd.C_alloc ?_ _) | (with_reducible refine Kd.C_drewN ?_ _) | (with_reducible refine Kd.C_drew ?_))); (case side4 => exact HC2.out); (case side5 => repeat (first | exact HR3.out | (with_reducible refine Kd.C_alloc ?_ _) | (with_reducible refine Kd.C_drewN ?_ _) | (with_reducible refine Kd.C_drew ?_))); (case side6 => exact HC3.out); rintro e w6 ⟨v193, rfl, ho0, hb⟩; refine ⟨_, rfl, ?_⟩; have n0_ := Aside0.mk (Kd.R_lower ho0 (below_size (by repeat (first | (with_reducible first | exact HB.out | apply below_alloc | apply pw_below_drewN | apply below_drew1) | exact HB.out)))); have n1_ := Aside0.mk (below_step (by repeat (first | (with_reducible first | exact HB.out | apply below_alloc | apply pw_below_drewN | apply below_drew1) | exact HB.out)) hb); clear HB; have HO194 := n0_; have HB := n1_; clear n0_ n1_; (try clear hb); (try clear hb2); (try clear hk); (try clear hi); (try clear ho0)))
 go_ret2
 exact ⟨_, by first | rfl | (simp [errW_none, errW_some] <;> rfl) | (simp [*, errW_none, errW_some] <;> rfl), by (with_reducible repeat (first | apply Kd.R_alloc | apply Kd.R_drewN | apply Kd.R_drew)); exact HO194.out, by repeat (first | (with_reducible first | exact HB.out | apply below_alloc | apply pw_below_drewN | apply below_drew1) | exact HB.out)⟩

/-! ### heraldref10_Back: function 15 -/
def heraldref10_Back.f (k : Nat) (l0 : List Int) (a1 : Int) (l2 : List Int) (l3 : List Int) : Option (List Int × Int) := (heraldref10_turned.f k l0 a1 l2 l3 1).bind fun bt195 => (some (bt195.1, bt195.2))
theorem heraldref10_Back.mono : ∀ a0 a1 a2 a3 k, LeO (heraldref10_Back.f k a0 a1 a2 a3) (heraldref10_Back.f (k + 1) a0 a1 a2 a3) := by
  intro a0 a1 a2 a3 k
  unfold heraldref10_Back.f
  repeat' first
      | (with_reducible exact heraldref10_turned.mono _ _ _ _ _ _)
      | (with_reducible exact LeO.refl _)
      | (with_reducible exact LeO.none _)
      | (with_reducible refine LeO.ite ?_ ?_)
      | (with_reducible refine LeO.bind ?_ (fun _ => ?_))
      | exact heraldref10_turned.mono _ _ _ _ _ _
      | exact LeO.none _
      | refine LeO.ite ?_ ?_
      | refine LeO.bind ?_ (fun _ => ?_)
set_option maxHeartbeats 8000000 in
set_option maxRecDepth 100000 in
theorem heraldref10_Back.calls (k : Nat) (A0 : Option Addr) (c0 : Nat) (l0 : List Int) (a1 : Int) (A2 : Option Addr) (c2 : Nat) (l2 : List Int) (A3 : Option Addr) (c3 : Nat) (l3 : List Int) (r1 : List Int) (r2 : Int) (w : World) (hr0 : Kd.C (Kd.int .i8) w A0 l0.length l0) (hc0 : l0.length ≤ c0) (hr2 : Kd.C (Kd.int .i8) w A2 l2.length l2) (hc2 : l2.length ≤ c2) (hr3 : Kd.C (Kd.int .i8) w A3 l3.length l3) (hc3 : l3.length ≤ c3) (h : heraldref10_Back.f k l0 a1 l2 l3 = some (r1, r2)) :
    Calls Tryd.prog 15 #[.slice A0 l0.length c0, .int .i64 a1, .slice A2 l2.length c2, .slice A3 l3.length c3] w fun e w' => ∃ v0_ : Value, e = .returned (.tuple #[v0_, .int .i64 r2]) ∧ Kd.R (Kd.int .i8) 33 w' w.heap.size (fun _ => True) v0_ r1 ∧ Below w.heap.size w w' := by
 have HR0 := Aside0.mk hr0
 have HC0 := Aside0.mk hc0
 clear hr0 hc0
 have HR2 := Aside0.mk hr2
 have HC2 := Aside0.mk hc2
 clear hr2 hc2
 have HR3 := Aside0.mk hr3
 have HC3 := Aside0.mk hc3
 clear hr3 hc3
 have HB := Aside0.mk (Below.refl w.heap.size w)
 have H : ((heraldref10_turned.f k l0 a1 l2 l3 1).bind fun bt195 => (some (bt195.1, bt195.2))) = some (r1, r2) := h
 clear h
 replace H := Option.bind_eq_some_iff.mp H
 obtain ⟨⟨t195, t196⟩, A50, H⟩ := H
 replace H : (some (t195, t196)) = some (r1, r2) := H
 have A5 := Aside0.mk A50
 clear A50
 simp only [Option.some.injEq, Prod.mk.injEq] at H
 obtain ⟨rfl, rfl⟩ := H
 go_enter Tryd.func15, Tryd.ntmps15
 go_wp2_with (first | ((with_reducible refine gate_callee (f := 28) rfl ?_); refine goesL_ (some 14) rfl rfl Tryd.func28 (by kernel_rfl) rfl #[.slice A0 l0.length c0, .int .i64 a1, .slice A2 l2.length c2, .slice A3 l3.length c3, .int .i64 1] rfl (by (try simp only [List.map_toArray, List.map_cons, List.map_nil]); first | done | rfl | (simp only [List.length_drop, List.length_take]; rfl)) ?_; (with_reducible refine (heraldref10_turned.calls k _ _ l0 a1 _ _ l2 _ _ l3 1 t195 t196 _ ?side1 ?side2 ?side3 ?side4 ?side5 ?side6 A5.out).mono ?_); (case side1 => repeat (first | exact HR0.out | (with_reducible refine Kd.C_alloc ?_ _) | (with_reducible refine Kd.C_drewN ?_ _) | (with_reducible refine Kd.C_drew ?_))); (case side2 => exact HC0.out); (case side3 => repeat (first | exact HR2.out | (with_reducible refine Kd.C_alloc ?_ _) | (with_reducible refine Kd.C_drewN ?_ _) | (with_reducible refine Kd.C_drew ?_))); (case side4 => exact HC2.out); (case side5 => repeat (first | exact HR3.out | (with_reducible refine Kd.C_alloc ?_ _) | (with_reducible refine Kd.C_drewN ?_ _) | (with_reducible refine Kd.C_drew ?_))); (case side6 => exact HC3.out); rintro e w6 ⟨v197, rfl, ho0, hb⟩; refine ⟨_, rfl, ?_⟩; have n0_ := Aside0.mk (Kd.R_lower ho0 (below_size (by repeat (first | (with_reducible first | exact HB.out | apply below_alloc | apply pw_below_drewN | apply below_drew1) | exact HB.out)))); have n1_ := Aside0.mk (below_step (by repeat (first | (with_reducible first | exact HB.out | apply below_alloc | apply pw_below_drewN | apply below_drew1) | exact HB.out)) hb); clear HB; have HO198 := n0_; have HB := n1_; clear n0_ n1_; (try clear hb); (try clear hb2); (try clear hk); (try clear hi); (try clear ho0)))
 go_ret2
 exact ⟨_, by first | rfl | (simp [errW_none, errW_some] <;> rfl) | (simp [*, errW_none, errW_some] <;> rfl), by (with_reducible repeat (first | apply Kd.R_alloc | apply Kd.R_drewN | apply Kd.R_drew)); exact HO198.out, by repeat (first | (with_reducible first | exact HB.out | apply below_alloc | apply pw_below_drewN | apply below_drew1) | exact HB.out)⟩

-- NOT PRINTED: function 4 (heraldlaw10_RopeHeads)

/-! ### heraldref10_Sine: function 17 -/
def heraldref10_Sine.j0 : Nat → List Int → Int → Option (Int)
  | 0, _, _ => none
  | k + 1, x3, x4 => if x4 ≤ 64 then (if 0 ≤ x4 then (if x4 < (x3.length : Int) then (some (rd x3 x4)) else (none)) else (none)) else (if x4 ≤ 128 then (if 0 ≤ (wrap64 (128 - x4)) then (if (wrap64 (128 - x4)) < (x3.length : Int) then (some (rd x3 (wrap64 (128 - x4)))) else (none)) else (none)) else (if x4 ≤ 192 then (if 0 ≤ (wrap64 (x4 - 128)) then (if (wrap64 (x4 - 128)) < (x3.length : Int) then (some (IntKind.i8.wrap (-(rd x3 (wrap64 (x4 - 128)))))) else (none)) else (none)) else (if 0 ≤ (wrap64 (256 - x4)) then (if (wrap64 (256 - x4)) < (x3.length : Int) then (some (IntKind.i8.wrap (-(rd x3 (wrap64 (256 - x4)))))) else (none)) else (none))))
def heraldref10_Sine.f (k : Nat) (a0 : Int) : Option (Int) := (some (([0, 2, 3, 5, 6, 8, 9, 11, 12, 14, 16, 17, 19, 20, 22, 23, 24, 26, 27, 29, 30, 32, 33, 34, 36, 37, 38, 39, 41, 42, 43, 44, 45, 46, 47, 48, 49, 50, 51, 52, 53, 54, 55, 56, 56, 57, 58, 59, 59, 60, 60, 61, 61, 62, 62, 62, 63, 63, 63, 64, 64, 64, 64, 64, 64] : List Int) : List Int)).bind fun y313 => (if (Int.tmod a0 256) < 0 then (heraldref10_Sine.j0 k y313 (wrap64 ((Int.tmod a0 256) + 256))) else (heraldref10_Sine.j0 k y313 (Int.tmod a0 256)))
theorem heraldref10_Sine.mono_l : ∀ k, (∀ y0 y1, LeO (heraldref10_Sine.j0 k y0 y1) (heraldref10_Sine.j0 (k + 1) y0 y1))
  | 0 => fun _ _ r h => by simp [heraldref10_Sine.j0] at h
  | k + 1 => by
    have ih0 := heraldref10_Sine.mono_l k
    · intro y0 y1
      unfold heraldref10_Sine.j0
      repeat' first
      | (with_reducible exact ih0 _ _)
      | (with_reducible exact LeO.refl _)
      | (with_reducible exact LeO.none _)
      | (with_reducible refine LeO.ite ?_ ?_)
      | (with_reducible refine LeO.bind ?_ (fun _ => ?_))
      | exact ih0 _ _
      | exact LeO.none _
      | refine LeO.ite ?_ ?_
      | refine LeO.bind ?_ (fun _ => ?_)
theorem heraldref10_Sine.mono : ∀ a0 k, LeO (heraldref10_Sine.f k a0) (heraldref10_Sine.f (k + 1) a0) := by
  intro a0 k
  have ih0 := heraldref10_Sine.mono_l k
  unfold heraldref10_Sine.f
  repeat' first
      | (with_reducible exact ih0 _ _)
      | (with_reducible exact LeO.refl _)
      | (with_reducible exact LeO.none _)
      | (with_reducible refine LeO.ite ?_ ?_)
      | (with_reducible refine LeO.bind ?_ (fun _ => ?_))
      | exact ih0 _ _
      | exact LeO.none _
      | refine LeO.ite ?_ ?_
      | refine LeO.bind ?_ (fun _ => ?_)
set_option maxHeartbeats 8000000 in
set_option maxRecDepth 100000 in
theorem heraldref10_Sine.calls (k : Nat) (a0 : Int) (r : Int) (w : World) (h : heraldref10_Sine.f k a0 = some r) :
    Calls Tryd.prog 17 #[.int .i64 a0] w fun e w' => e = .returned (.int .i8 r) ∧ Below w.heap.size w w' := by
 have HB := Aside0.mk (Below.refl w.heap.size w)
 have H : ((some (([0, 2, 3, 5, 6, 8, 9, 11, 12, 14, 16, 17, 19, 20, 22, 23, 24, 26, 27, 29, 30, 32, 33, 34, 36, 37, 38, 39, 41, 42, 43, 44, 45, 46, 47, 48, 49, 50, 51, 52, 53, 54, 55, 56, 56, 57, 58, 59, 59, 60, 60, 61, 61, 62, 62, 62, 63, 63, 63, 64, 64, 64, 64, 64, 64] : List Int) : List Int)).bind fun y313 => (if (Int.tmod a0 256) < 0 then (heraldref10_Sine.j0 k y313 (wrap64 ((Int.tmod a0 256) + 256))) else (heraldref10_Sine.j0 k y313 (Int.tmod a0 256)))) = some r := h
 clear h
 obtain ⟨y313, hy313⟩ : ∃ y_ : List Int, y_ = (([0, 2, 3, 5, 6, 8, 9, 11, 12, 14, 16, 17, 19, 20, 22, 23, 24, 26, 27, 29, 30, 32, 33, 34, 36, 37, 38, 39, 41, 42, 43, 44, 45, 46, 47, 48, 49, 50, 51, 52, 53, 54, 55, 56, 56, 57, 58, 59, 59, 60, 60, 61, 61, 62, 62, 62, 63, 63, 63, 64, 64, 64, 64, 64, 64] : List Int)) := ⟨_, rfl⟩
 replace H : (if (Int.tmod a0 256) < 0 then (heraldref10_Sine.j0 k y313 (wrap64 ((Int.tmod a0 256) + 256))) else (heraldref10_Sine.j0 k y313 (Int.tmod a0 256))) = some r := by first | (rw [hy313]; with_reducible exact H) | (have H2_ := (Option.bind_some _ _).symm.trans H; rw [hy313]; with_reducible exact H2_) | (have H2_ := (Option.bind_some _ _).symm.trans H; with_reducible exact H2_) | with_reducible exact H | (rw [hy313]; exact H) | exact H
 have Ny313 := Aside0.mk hy313
 clear hy313
 have HC2 := Aside0.mk H
 clear H
 go_enter Tryd.func17, Tryd.ntmps17
 go_upto_if 9 with (first | ((with_reducible refine gate_dst (N := 5) rfl ?_); refine Kd.R_lit (Kd.int .i8) _ 33 ?hg (N := 5) ?hd (xs := ([0, 2, 3, 5, 6, 8, 9, 11, 12, 14, 16, 17, 19, 20, 22, 23, 24, 26, 27, 29, 30, 32, 33, 34, 36, 37, 38, 39, 41, 42, 43, 44, 45, 46, 47, 48, 49, 50, 51, 52, 53, 54, 55, 56, 56, 57, 58, 59, 59, 60, 60, 61, 61, 62, 62, 62, 63, 63, 63, 64, 64, 64, 64, 64, 64] : List Int)) (inner := [.int .i8 0, .int .i8 2, .int .i8 3, .int .i8 5, .int .i8 6, .int .i8 8, .int .i8 9, .int .i8 11, .int .i8 12, .int .i8 14, .int .i8 16, .int .i8 17, .int .i8 19, .int .i8 20, .int .i8 22, .int .i8 23, .int .i8 24, .int .i8 26, .int .i8 27, .int .i8 29, .int .i8 30, .int .i8 32, .int .i8 33, .int .i8 34, .int .i8 36, .int .i8 37, .int .i8 38, .int .i8 39, .int .i8 41, .int .i8 42, .int .i8 43, .int .i8 44, .int .i8 45, .int .i8 46, .int .i8 47, .int .i8 48, .int .i8 49, .int .i8 50, .int .i8 51, .int .i8 52, .int .i8 53, .int .i8 54, .int .i8 55, .int .i8 56, .int .i8 56, .int .i8 57, .int .i8 58, .int .i8 59, .int .i8 59, .int .i8 60, .int .i8 60, .int .i8 61, .int .i8 61, .int .i8 62, .int .i8 62, .int .i8 62, .int .i8 63, .int .i8 63, .int .i8 63, .int .i8 64, .int .i8 64, .int .i8 64, .int .i8 64, .int .i8 64, .int .i8 64]) (ok := fun _ => True) (okp := fun _ => True) ?hr ?hp (fun _ hk => hk) trivial (Below.refl _ _) (Nat.le_refl _) (by simp) ?_; (case hd => rfl); (case hg => rfl); (case hr => first | (go_simp; done) | (go_simp; rfl)); (case hp => exact (Reps.one (show Kd.M (Kd.int .i8) _ _ _ 0 [.int .i8 0] from rfl) (Reps.one (show Kd.M (Kd.int .i8) _ _ _ 2 [.int .i8 2] from rfl) (Reps.one (show Kd.M (Kd.int .i8) _ _ _ 3 [.int .i8 3] from rfl) (Reps.one (show Kd.M (Kd.int .i8) _ _ _ 5 [.int .i8 5] from rfl) (Reps.one (show Kd.M (Kd.int .i8) _ _ _ 6 [.int .i8 6] from rfl) (Reps.one (show Kd.M (Kd.int .i8) _ _ _ 8 [.int .i8 8] from rfl) (Reps.one (show Kd.M (Kd.int .i8) _ _ _ 9 [.int .i8 9] from rfl) (Reps.one (show Kd.M (Kd.int .i8) _ _ _ 11 [.int .i8 11] from rfl) (Reps.one (show Kd.M (Kd.int .i8) _ _ _ 12 [.int .i8 12] from rfl) (Reps.one (show Kd.M (Kd.int .i8) _ _ _ 14 [.int .i8 14] from rfl) (Reps.one (show Kd.M (Kd.int .i8) _ _ _ 16 [.int .i8 16] from rfl) (Reps.one (show Kd.M (Kd.int .i8) _ _ _ 17 [.int .i8 17] from rfl) (Reps.one (show Kd.M (Kd.int .i8) _ _ _ 19 [.int .i8 19] from rfl) (Reps.one (show Kd.M (Kd.int .i8) _ _ _ 20 [.int .i8 20] from rfl) (Reps.one (show Kd.M (Kd.int .i8) _ _ _ 22 [.int .i8 22] from rfl) (Reps.one (show Kd.M (Kd.int .i8) _ _ _ 23 [.int .i8 23] from rfl) (Reps.one (show Kd.M (Kd.int .i8) _ _ _ 24 [.int .i8 24] from rfl) (Reps.one (show Kd.M (Kd.int .i8) _ _ _ 26 [.int .i8 26] from rfl) (Reps.one (show Kd.M (Kd.int .i8) _ _ _ 27 [.int .i8 27] from rfl) (Reps.one (show Kd.M (Kd.int .i8) _ _ _ 29 [.int .i8 29] from rfl) (Reps.one (show Kd.M (Kd.int .i8) _ _ _ 30 [.int .i8 30] from rfl) (Reps.one (show Kd.M (Kd.int .i8) _ _ _ 32 [.int .i8 32] from rfl) (Reps.one (show Kd.M (Kd.int .i8) _ _ _ 33 [.int .i8 33] from rfl) (Reps.one (show Kd.M (Kd.int .i8) _ _ _ 34 [.int .i8 34] from rfl) (Reps.one (show Kd.M (Kd.int .i8) _ _ _ 36 [.int .i8 36] from rfl) (Reps.one (show Kd.M (Kd.int .i8) _ _ _ 37 [.int .i8 37] from rfl) (Reps.one (show Kd.M (Kd.int .i8) _ _ _ 38 [.int .i8 38] from rfl) (Reps.one (show Kd.M (Kd.int .i8) _ _ _ 39 [.int .i8 39] from rfl) (Reps.one (show Kd.M (Kd.int .i8) _ _ _ 41 [.int .i8 41] from rfl) (Reps.one (show Kd.M (Kd.int .i8) _ _ _ 42 [.int .i8 42] from rfl) (Reps.one (show Kd.M (Kd.int .i8) _ _ _ 43 [.int .i8 43] from rfl) (Reps.one (show Kd.M (Kd.int .i8) _ _ _ 44 [.int .i8 44] from rfl) (Reps.one (show Kd.M (Kd.int .i8) _ _ _ 45 [.int .i8 45] from rfl) (Reps.one (show Kd.M (Kd.int .i8) _ _ _ 46 [.int .i8 46] from rfl) (Reps.one (show Kd.M (Kd.int .i8) _ _ _ 47 [.int .i8 47] from rfl) (Reps.one (show Kd.M (Kd.int .i8) _ _ _ 48 [.int .i8 48] from rfl) (Reps.one (show Kd.M (Kd.int .i8) _ _ _ 49 [.int .i8 49] from rfl) (Reps.one (show Kd.M (Kd.int .i8) _ _ _ 50 [.int .i8 50] from rfl) (Reps.one (show Kd.M (Kd.int .i8) _ _ _ 51 [.int .i8 51] from rfl) (Reps.one (show Kd.M (Kd.int .i8) _ _ _ 52 [.int .i8 52] from rfl) (Reps.one (show Kd.M (Kd.int .i8) _ _ _ 53 [.int .i8 53] from rfl) (Reps.one (show Kd.M (Kd.int .i8) _ _ _ 54 [.int .i8 54] from rfl) (Reps.one (show Kd.M (Kd.int .i8) _ _ _ 55 [.int .i8 55] from rfl) (Reps.one (show Kd.M (Kd.int .i8) _ _ _ 56 [.int .i8 56] from rfl) (Reps.one (show Kd.M (Kd.int .i8) _ _ _ 56 [.int .i8 56] from rfl) (Reps.one (show Kd.M (Kd.int .i8) _ _ _ 57 [.int .i8 57] from rfl) (Reps.one (show Kd.M (Kd.int .i8) _ _ _ 58 [.int .i8 58] from rfl) (Reps.one (show Kd.M (Kd.int .i8) _ _ _ 59 [.int .i8 59] from rfl) (Reps.one (show Kd.M (Kd.int .i8) _ _ _ 59 [.int .i8 59] from rfl) (Reps.one (show Kd.M (Kd.int .i8) _ _ _ 60 [.int .i8 60] from rfl) (Reps.one (show Kd.M (Kd.int .i8) _ _ _ 60 [.int .i8 60] from rfl) (Reps.one (show Kd.M (Kd.int .i8) _ _ _ 61 [.int .i8 61] from rfl) (Reps.one (show Kd.M (Kd.int .i8) _ _ _ 61 [.int .i8 61] from rfl) (Reps.one (show Kd.M (Kd.int .i8) _ _ _ 62 [.int .i8 62] from rfl) (Reps.one (show Kd.M (Kd.int .i8) _ _ _ 62 [.int .i8 62] from rfl) (Reps.one (show Kd.M (Kd.int .i8) _ _ _ 62 [.int .i8 62] from rfl) (Reps.one (show Kd.M (Kd.int .i8) _ _ _ 63 [.int .i8 63] from rfl) (Reps.one (show Kd.M (Kd.int .i8) _ _ _ 63 [.int .i8 63] from rfl) (Reps.one (show Kd.M (Kd.int .i8) _ _ _ 63 [.int .i8 63] from rfl) (Reps.one (show Kd.M (Kd.int .i8) _ _ _ 64 [.int .i8 64] from rfl) (Reps.one (show Kd.M (Kd.int .i8) _ _ _ 64 [.int .i8 64] from rfl) (Reps.one (show Kd.M (Kd.int .i8) _ _ _ 64 [.int .i8 64] from rfl) (Reps.one (show Kd.M (Kd.int .i8) _ _ _ 64 [.int .i8 64] from rfl) (Reps.one (show Kd.M (Kd.int .i8) _ _ _ 64 [.int .i8 64] from rfl) (Reps.one (show Kd.M (Kd.int .i8) _ _ _ 64 [.int .i8 64] from rfl) (Reps.none _ _))))))))))))))))))))))))))))))))))))))))))))))))))))))))))))))))))); intro v314 w3 ho4 hb hg_ hnew_; clear hg_ hnew_; (first | rw [← Ny313.out] at ho4 | (simp only [Int.reduceToNat] at ho4; rw [← Ny313.out] at ho4)); have n0_ := Aside0.mk (Kd.R_lower ho4 (below_size (by repeat (first | (with_reducible first | exact HB.out | apply below_alloc | apply pw_below_drewN | apply below_drew1) | exact HB.out)))); have n1_ := Aside0.mk (below_step (by repeat (first | (with_reducible first | exact HB.out | apply below_alloc | apply pw_below_drewN | apply below_drew1) | exact HB.out)) hb); clear HB; have HO315 := n0_; have HB := n1_; clear n0_ n1_; clear hb ho4))
 (try simp only [Act.put, List.setIfInBounds_toArray, List.set_cons_zero, List.set_cons_succ])
 go_cut [4] (fun v4 wc => ∃ (kq : Nat) (x4_1 : Int), v4 = .int .i64 x4_1 ∧ Aside0 (heraldref10_Sine.j0 kq y313 x4_1 = some r) ∧ Aside0 (kq ≤ k) ∧ Aside0 (Kd.R (Kd.int .i8) 33 wc w.heap.size (fun _ => True) v314 y313) ∧ Aside0 (Below w.heap.size w wc))
 case first =>
  have H := HC2.out
  clear HC2
  by_cases c5 : (Int.tmod a0 256) < 0
  ·
   rw [if_pos c5] at H
   have c5b0 : decide ((Int.tmod a0 256) < 0) = true := decide_eq_true c5
   clear c5
   (first | rw [c5b0] | (simp only [i64_w, i32_w]; rw [c5b0]) | skip)
   have H' := Aside0.mk H
   clear H
   go_wp2
   go_meet
   case rel => exact ⟨_, (wrap64 ((Int.tmod a0 256) + 256)), (by first | rfl | (simp; done) | (simp [*]; done)), H', ⟨by first | omega | exact Nat.le_refl _⟩, ⟨by (with_reducible repeat (first | apply Kd.R_alloc | apply Kd.R_drewN | apply Kd.R_drew)); exact HO315.out⟩, ⟨by repeat (first | (with_reducible first | exact HB.out | apply below_alloc | apply pw_below_drewN | apply below_drew1) | exact HB.out)⟩⟩
  ·
   rw [if_neg c5] at H
   have c5b0 : decide ((Int.tmod a0 256) < 0) = false := decide_eq_false c5
   clear c5
   (first | rw [c5b0] | (simp only [i64_w, i32_w]; rw [c5b0]) | skip)
   have H' := Aside0.mk H
   clear H
   go_wp2
   go_meet
   case rel => exact ⟨_, (Int.tmod a0 256), (by first | rfl | (simp; done) | (simp [*]; done)), H', ⟨by first | omega | exact Nat.le_refl _⟩, ⟨by (with_reducible repeat (first | apply Kd.R_alloc | apply Kd.R_drewN | apply Kd.R_drew)); exact HO315.out⟩, ⟨by repeat (first | (with_reducible first | exact HB.out | apply below_alloc | apply pw_below_drewN | apply below_drew1) | exact HB.out)⟩⟩
 case rest =>
  clear HC2
  try clear c1
  try clear p2
  try clear c5
  try clear c5b0
  obtain ⟨kq, x4_1, rfl, HA, HJ1, HO_3, HB⟩ := hcut
  cases kq with
  | zero => exact absurd HA.out (by simp [heraldref10_Sine.j0])
  | succ kj1 =>
   have H := HA.out
   clear HA
   simp only [heraldref10_Sine.j0] at H
   by_cases c6 : x4_1 ≤ 64
   ·
    rw [if_pos c6] at H
    have c6b0 : decide (x4_1 ≤ 64) = true := decide_eq_true c6
    clear c6
    by_cases c7 : 0 ≤ x4_1
    ·
     rw [if_pos c7] at H
     have c7b0 : decide (0 ≤ x4_1) = true := decide_eq_true c7
     clear c7
     by_cases c8 : x4_1 < (y313.length : Int)
     ·
      rw [if_pos c8] at H
      have c8b0 : decide (x4_1 < (y313.length : Int)) = true := decide_eq_true c8
      clear c8
      obtain rfl := Option.some.inj H
      obtain ⟨Ao9, co9, eo9⟩ := Kd.R_slice HO_3.out
      subst eo9
      have p316 : 0 ≤ (x4_1 : Int) := of_decide_eq_true (by first | (with_reducible assumption) | assumption)
      have q316 : x4_1 < (y313.length : Int) := of_decide_eq_true (by first | (with_reducible assumption) | assumption)
      obtain ⟨ad316, e316, hx316_0⟩ := Kd.at_int (Kd.R_reads' HO_3.out).2.2 x4_1 p316 q316
      cases e316
      replace p316 := eq_true p316
      replace q316 := eq_true q316
      go_wp2
      go_ret
      exact ⟨by first | rfl | (simp [errW_none, errW_some] <;> rfl) | (simp [*, errW_none, errW_some] <;> rfl), by repeat (first | (with_reducible first | exact HB.out | apply below_alloc | apply pw_below_drewN | apply below_drew1) | exact HB.out)⟩
     ·
      rw [if_neg c8] at H
      exact absurd H (by simp)
    ·
     rw [if_neg c7] at H
     exact absurd H (by simp)
   ·
    rw [if_neg c6] at H
    have c6b0 : decide (x4_1 ≤ 64) = false := decide_eq_false c6
    clear c6
    by_cases c10 : x4_1 ≤ 128
    ·
     rw [if_pos c10] at H
     have c10b0 : decide (x4_1 ≤ 128) = true := decide_eq_true c10
     clear c10
     obtain ⟨ji11, hji11⟩ : ∃ j_ : Int, (wrap64 (128 - x4_1)) = j_ := ⟨_, rfl⟩
     replace H : (if 0 ≤ (ji11) then (if (ji11) < (y313.length : Int) then (some (rd y313 (ji11))) else (none)) else (none)) = some r := by first | (rw [hji11] at H; exact H) | (simp only [hji11] at H ⊢; exact H)
     have hji11w : (IntKind.i64.wrap (128 - x4_1)) = ji11 := (i64_w _).trans hji11
     by_cases c12 : 0 ≤ (ji11)
     ·
      rw [if_pos c12] at H
      have c12b0 : decide (0 ≤ (ji11)) = true := decide_eq_true c12
      clear c12
      by_cases c13 : (ji11) < (y313.length : Int)
      ·
       rw [if_pos c13] at H
       have c13b0 : decide ((ji11) < (y313.length : Int)) = true := decide_eq_true c13
       clear c13
       obtain rfl := Option.some.inj H
       obtain ⟨Ao14, co14, eo14⟩ := Kd.R_slice HO_3.out
       subst eo14
       have p317 : 0 ≤ ((ji11) : Int) := of_decide_eq_true (by first | (with_reducible assumption) | assumption)
       have q317 : (ji11) < (y313.length : Int) := of_decide_eq_true (by first | (with_reducible assumption) | assumption)
       obtain ⟨ad317, e317, hx317_0⟩ := Kd.at_int (Kd.R_reads' HO_3.out).2.2 (ji11) p317 q317
       cases e317
       replace p317 := eq_true p317
       replace q317 := eq_true q317
       go_wp2
       go_ret
       exact ⟨by first | rfl | (simp [errW_none, errW_some] <;> rfl) | (simp only [← hji11]; first | rfl | (simp [errW_none, errW_some] <;> rfl)) | (simp [*, errW_none, errW_some] <;> rfl), by repeat (first | (with_reducible first | exact HB.out | apply below_alloc | apply pw_below_drewN | apply below_drew1) | exact HB.out)⟩
      ·
       rw [if_neg c13] at H
       exact absurd H (by simp)
     ·
      rw [if_neg c12] at H
      exact absurd H (by simp)
    ·
     rw [if_neg c10] at H
     have c10b0 : decide (x4_1 ≤ 128) = false := decide_eq_false c10
     clear c10
     by_cases c15 : x4_1 ≤ 192
     ·
      rw [if_pos c15] at H
      have c15b0 : decide (x4_1 ≤ 192) = true := decide_eq_true c15
      clear c15
      obtain ⟨ji16, hji16⟩ : ∃ j_ : Int, (wrap64 (x4_1 - 128)) = j_ := ⟨_, rfl⟩
      replace H : (if 0 ≤ (ji16) then (if (ji16) < (y313.length : Int) then (some (IntKind.i8.wrap (-(rd y313 (ji16))))) else (none)) else (none)) = some r := by first | (rw [hji16] at H; exact H) | (simp only [hji16] at H ⊢; exact H)
      have hji16w : (IntKind.i64.wrap (x4_1 - 128)) = ji16 := (i64_w _).trans hji16
      by_cases c17 : 0 ≤ (ji16)
      ·
       rw [if_pos c17] at H
       have c17b0 : decide (0 ≤ (ji16)) = true := decide_eq_true c17
       clear c17
       by_cases c18 : (ji16) < (y313.length : Int)
       ·
        rw [if_pos c18] at H
        have c18b0 : decide ((ji16) < (y313.length : Int)) = true := decide_eq_true c18
        clear c18
        obtain rfl := Option.some.inj H
        obtain ⟨Ao19, co19, eo19⟩ := Kd.R_slice HO_3.out
        subst eo19
        have p318 : 0 ≤ ((ji16) : Int) := of_decide_eq_true (by first | (with_reducible assumption) | assumption)
        have q318 : (ji16) < (y313.length : Int) := of_decide_eq_true (by first | (with_reducible assumption) | assumption)
        obtain ⟨ad318, e318, hx318_0⟩ := Kd.at_int (Kd.R_reads' HO_3.out).2.2 (ji16) p318 q318
        cases e318
        replace p318 := eq_true p318
        replace q318 := eq_true q318
        go_wp2
        go_ret
        exact ⟨by first | rfl | (simp [errW_none, errW_some] <;> rfl) | (simp only [← hji16]; first | rfl | (simp [errW_none, errW_some] <;> rfl)) | (simp [*, errW_none, errW_some] <;> rfl), by repeat (first | (with_reducible first | exact HB.out | apply below_alloc | apply pw_below_drewN | apply below_drew1) | exact HB.out)⟩
       ·
        rw [if_neg c18] at H
        exact absurd H (by simp)
      ·
       rw [if_neg c17] at H
       exact absurd H (by simp)
     ·
      rw [if_neg c15] at H
      have c15b0 : decide (x4_1 ≤ 192) = false := decide_eq_false c15
      clear c15
      obtain ⟨ji20, hji20⟩ : ∃ j_ : Int, (wrap64 (256 - x4_1)) = j_ := ⟨_, rfl⟩
      replace H : (if 0 ≤ (ji20) then (if (ji20) < (y313.length : Int) then (some (IntKind.i8.wrap (-(rd y313 (ji20))))) else (none)) else (none)) = some r := by first | (rw [hji20] at H; exact H) | (simp only [hji20] at H ⊢; exact H)
      have hji20w : (IntKind.i64.wrap (256 - x4_1)) = ji20 := (i64_w _).trans hji20
      by_cases c21 : 0 ≤ (ji20)
      ·
       rw [if_pos c21] at H
       have c21b0 : decide (0 ≤ (ji20)) = true := decide_eq_true c21
       clear c21
       by_cases c22 : (ji20) < (y313.length : Int)
       ·
        rw [if_pos c22] at H
        have c22b0 : decide ((ji20) < (y313.length : Int)) = true := decide_eq_true c22
        clear c22
        obtain rfl := Option.some.inj H
        obtain ⟨Ao23, co23, eo23⟩ := Kd.R_slice HO_3.out
        subst eo23
        have p319 : 0 ≤ ((ji20) : Int) := of_decide_eq_true (by first | (with_reducible assumption) | assumption)
        have q319 : (ji20) < (y313.length : Int) := of_decide_eq_true (by first | (with_reducible assumption) | assumption)
        obtain ⟨ad319, e319, hx319_0⟩ := Kd.at_int (Kd.R_reads' HO_3.out).2.2 (ji20) p319 q319
        cases e319
        replace p319 := eq_true p319
        replace q319 := eq_true q319
        go_wp2
        go_ret
        exact ⟨by first | rfl | (simp [errW_none, errW_some] <;> rfl) | (simp only [← hji20]; first | rfl | (simp [errW_none, errW_some] <;> rfl)) | (simp [*, errW_none, errW_some] <;> rfl), by repeat (first | (with_reducible first | exact HB.out | apply below_alloc | apply pw_below_drewN | apply below_drew1) | exact HB.out)⟩
       ·
        rw [if_neg c22] at H
        exact absurd H (by simp)
      ·
       rw [if_neg c21] at H
       exact absurd H (by simp)

end Go.Proofs.YtengkjkmdodifaaDoor.P
