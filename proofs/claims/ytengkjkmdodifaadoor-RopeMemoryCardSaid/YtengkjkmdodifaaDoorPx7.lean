-- Printed by xprint.py (wip): functions, contracts, rows. Lean checks it.
import Derived.Test.YtengkjkmdodifaaDoorPx0
import Derived.Test.YtengkjkmdodifaaDoorPx6
namespace Go.Proofs.YtengkjkmdodifaaDoor.P
open Go.RowKit Go.Proofs.YtengkjkmdodifaaDoorW.PrintWords Go.Proofs.YtengkjkmdodifaaDoorW.PrintLast Go.Proofs.YtengkjkmdodifaaDoorW.PrintMore
attribute [local go_sem] max2_int min2_int max_two min_two max_three min_three max_four min_four   -- for this text's walks alone
set_option linter.unusedVariables false
set_option linter.unusedSimpArgs false

/-! ### rope_Table: function 18 -/
mutual
def rope_Table.j0 : Nat → Int → Int → Bool → Option (List Int × List Int × Int)
  | 0, _, _, _ => none
  | k + 1, x0, x1, x25 => if x25 = true then (some (([] : List Int), ([] : List Int), 102)) else (rope_Table.l0 k x1 ([] : List Int) ([] : List Int) x0 0)
def rope_Table.l0 : Nat → Int → List Int → List Int → Int → Int → Option (List Int × List Int × Int)
  | 0, _, _, _, _, _ => none
  | k + 1, x1, x7, x8, x26, x27 => if x27 < x26 then (rope_Table.l1 k x1 x7 x8 x27 x26 x27 x1 0) else (some (x7, x8, 0))
def rope_Table.l1 : Nat → Int → List Int → List Int → Int → Int → Int → Int → Int → Option (List Int × List Int × Int)
  | 0, _, _, _, _, _, _, _, _ => none
  | k + 1, x1, x7, x8, x9, x26, x27, x30, x31 => if x31 < x30 then (if 0 ≤ x31 then ((rope_Sine.f (wrap64 ((Int.tmod (shr .i64 (wrap64 (64 * x9)) x31) 256) + 64))).bind fun t147 => (if x7.length < 140737488355328 then ((rope_Sine.f (shr .i64 (wrap64 (64 * x9)) x31)).bind fun t151 => (if x8.length < 140737488355328 then (rope_Table.l1 k x1 (x7 ++ [t147]) (x8 ++ [t151]) x9 x26 x27 x30 (wrap64 (x31 + 1))) else (none))) else (none))) else (none)) else (rope_Table.l0 k x1 x7 x8 x26 (wrap64 (x27 + 1)))
end
def rope_Table.f (k : Nat) (a0 : Int) (a1 : Int) : Option (List Int × List Int × Int) := if a0 < 1 then (rope_Table.j0 k a0 a1 true) else (if a0 > 512 then (rope_Table.j0 k a0 a1 true) else (if a1 < 1 then (rope_Table.j0 k a0 a1 true) else (rope_Table.j0 k a0 a1 (decide (a1 > 32)))))
theorem rope_Table.mono_l : ∀ k, (∀ y0 y1 y2, LeO (rope_Table.j0 k y0 y1 y2) (rope_Table.j0 (k + 1) y0 y1 y2)) ∧ (∀ y0 y1 y2 y3 y4, LeO (rope_Table.l0 k y0 y1 y2 y3 y4) (rope_Table.l0 (k + 1) y0 y1 y2 y3 y4)) ∧ (∀ y0 y1 y2 y3 y4 y5 y6 y7, LeO (rope_Table.l1 k y0 y1 y2 y3 y4 y5 y6 y7) (rope_Table.l1 (k + 1) y0 y1 y2 y3 y4 y5 y6 y7))
  | 0 => ⟨fun _ _ _ r h => by simp [rope_Table.j0] at h, fun _ _ _ _ _ r h => by simp [rope_Table.l0] at h, fun _ _ _ _ _ _ _ _ r h => by simp [rope_Table.l1] at h⟩
  | k + 1 => by
    obtain ⟨ih0, ih1, ih2⟩ := rope_Table.mono_l k
    refine ⟨?_, ?_, ?_⟩
    · intro y0 y1 y2
      unfold rope_Table.j0
      repeat' first
      | (with_reducible exact ih0 _ _ _)
      | (with_reducible exact ih1 _ _ _ _ _)
      | (with_reducible exact ih2 _ _ _ _ _ _ _ _)
      | (with_reducible exact LeO.refl _)
      | (with_reducible exact LeO.none _)
      | (with_reducible refine LeO.ite ?_ ?_)
      | (with_reducible refine LeO.bind ?_ (fun _ => ?_))
      | exact ih0 _ _ _
      | exact ih1 _ _ _ _ _
      | exact ih2 _ _ _ _ _ _ _ _
      | exact LeO.none _
      | refine LeO.ite ?_ ?_
      | refine LeO.bind ?_ (fun _ => ?_)
    · intro y0 y1 y2 y3 y4
      unfold rope_Table.l0
      repeat' first
      | (with_reducible exact ih0 _ _ _)
      | (with_reducible exact ih1 _ _ _ _ _)
      | (with_reducible exact ih2 _ _ _ _ _ _ _ _)
      | (with_reducible exact LeO.refl _)
      | (with_reducible exact LeO.none _)
      | (with_reducible refine LeO.ite ?_ ?_)
      | (with_reducible refine LeO.bind ?_ (fun _ => ?_))
      | exact ih0 _ _ _
      | exact ih1 _ _ _ _ _
      | exact ih2 _ _ _ _ _ _ _ _
      | exact LeO.none _
      | refine LeO.ite ?_ ?_
      | refine LeO.bind ?_ (fun _ => ?_)
    · intro y0 y1 y2 y3 y4 y5 y6 y7
      unfold rope_Table.l1
      repeat' first
      | (with_reducible exact ih0 _ _ _)
      | (with_reducible exact ih1 _ _ _ _ _)
      | (with_reducible exact ih2 _ _ _ _ _ _ _ _)
      | (with_reducible exact LeO.refl _)
      | (with_reducible exact LeO.none _)
      | (with_reducible refine LeO.ite ?_ ?_)
      | (with_reducible refine LeO.bind ?_ (fun _ => ?_))
      | exact ih0 _ _ _
      | exact ih1 _ _ _ _ _
      | exact ih2 _ _ _ _ _ _ _ _
      | exact LeO.none _
      | refine LeO.ite ?_ ?_
      | refine LeO.bind ?_ (fun _ => ?_)
theorem rope_Table.mono : ∀ a0 a1 k, LeO (rope_Table.f k a0 a1) (rope_Table.f (k + 1) a0 a1) := by
  intro a0 a1 k
  obtain ⟨ih0, ih1, ih2⟩ := rope_Table.mono_l k
  unfold rope_Table.f
  repeat' first
      | (with_reducible exact ih0 _ _ _)
      | (with_reducible exact ih1 _ _ _ _ _)
      | (with_reducible exact ih2 _ _ _ _ _ _ _ _)
      | (with_reducible exact LeO.refl _)
      | (with_reducible exact LeO.none _)
      | (with_reducible refine LeO.ite ?_ ?_)
      | (with_reducible refine LeO.bind ?_ (fun _ => ?_))
      | exact ih0 _ _ _
      | exact ih1 _ _ _ _ _
      | exact ih2 _ _ _ _ _ _ _ _
      | exact LeO.none _
      | refine LeO.ite ?_ ?_
      | refine LeO.bind ?_ (fun _ => ?_)
set_option maxHeartbeats 8000000 in
set_option maxRecDepth 100000 in
theorem rope_Table.calls (k : Nat) (a0 : Int) (a1 : Int) (r1 : List Int) (r2 : List Int) (r3 : Int) (w : World) (h : rope_Table.f k a0 a1 = some (r1, r2, r3)) (ht : Tab w) :
    Calls Tryd.prog 18 #[.int .i64 a0, .int .i64 a1] w fun e w' => ∃ v0_ v1_ : Value, e = .returned (.tuple #[v0_, v1_, .int .i64 r3]) ∧ Kd.R (Kd.int .i8) 33 w' w.heap.size (fun k_ => some k_ ≠ (v1_ : Value).ownBlock) v0_ r1 ∧ Kd.R (Kd.int .i8) 33 w' w.heap.size (fun k_ => some k_ ≠ (v0_ : Value).ownBlock) v1_ r2 ∧ Below w.heap.size w w' := by
 have HTAB := ym ht
 clear ht
 have HB := ym (Below.refl w.heap.size w)
 have H : (if a0 < 1 then (rope_Table.j0 k a0 a1 true) else (if a0 > 512 then (rope_Table.j0 k a0 a1 true) else (if a1 < 1 then (rope_Table.j0 k a0 a1 true) else (rope_Table.j0 k a0 a1 (decide (a1 > 32)))))) = some (r1, r2, r3) := h
 clear h
 have HC3 := ym H
 clear H
 go_enter Tryd.func18, Tryd.ntmps18
 go_upto_region 1 with (fail)
 go_cut [25] (fun v25 wc => ∃ (kq : Nat) (x25_2 : Bool), v25 = .bool x25_2 ∧ Aside0 (rope_Table.j0 kq a0 a1 x25_2 = some (r1, r2, r3)) ∧ Aside0 (kq ≤ k) ∧ Aside0 (Below w.heap.size w wc))
 case first =>
  have H := HC3.out
  clear HC3
  by_cases c4 : a0 < 1
  ·
   rw [if_pos c4] at H
   have c4b0 : decide (a0 < 1) = true := decide_eq_true c4
   clear c4
   (first | rw [c4b0] | (simp only [i64_w, i32_w]; rw [c4b0]) | skip)
   have H' := ym H
   clear H
   go_wp2
   go_meet
   case rel => exact ⟨_, (true), (by first | rfl | (simp; done) | (simp [*]; done)), H', ⟨by first | omega | exact Nat.le_refl _⟩, ⟨by repeat (first | (with_reducible first | exact HB.out | apply y3) | exact HB.out)⟩⟩
  rw [if_neg c4] at H
  have c4b0 : decide (a0 < 1) = false := decide_eq_false c4
  clear c4
  (first | rw [c4b0] | (simp only [i64_w, i32_w]; rw [c4b0]) | skip)
  by_cases c5 : a0 > 512
  ·
   rw [if_pos c5] at H
   have c5b0 : decide (512 < a0) = true := decide_eq_true c5
   clear c5
   have H' := ym H
   clear H
   go_wp2
   go_meet
   case rel => exact ⟨_, (true), (by first | rfl | (simp; done) | (simp [*]; done)), H', ⟨by first | omega | exact Nat.le_refl _⟩, ⟨by repeat (first | (with_reducible first | exact HB.out | apply y3) | exact HB.out)⟩⟩
  rw [if_neg c5] at H
  have c5b0 : decide (512 < a0) = false := decide_eq_false c5
  clear c5
  by_cases c6 : a1 < 1
  ·
   rw [if_pos c6] at H
   have c6b0 : decide (a1 < 1) = true := decide_eq_true c6
   clear c6
   have H' := ym H
   clear H
   go_wp2
   go_meet
   case rel => exact ⟨_, (true), (by first | rfl | (simp; done) | (simp [*]; done)), H', ⟨by first | omega | exact Nat.le_refl _⟩, ⟨by repeat (first | (with_reducible first | exact HB.out | apply y3) | exact HB.out)⟩⟩
  rw [if_neg c6] at H
  have c6b0 : decide (a1 < 1) = false := decide_eq_false c6
  clear c6
  have H' := ym H
  clear H
  go_wp2
  go_meet
  case rel => exact ⟨_, (decide (a1 > 32)), (by first | rfl | (simp; done) | (simp [*]; done)), H', ⟨by first | omega | exact Nat.le_refl _⟩, ⟨by repeat (first | (with_reducible first | exact HB.out | apply y3) | exact HB.out)⟩⟩
 case rest =>
  clear HC3
  try clear c1
  try clear p2
  try clear c4
  try clear c4b0
  try clear c5
  try clear c5b0
  try clear c6
  try clear c6b0
  obtain ⟨kq, x25_2, rfl, HA, HJ2, HB⟩ := hcut
  cases kq with
  | zero => exact absurd HA.out (by simp [rope_Table.j0])
  | succ kj2 =>
   have H := HA.out
   clear HA
   simp only [rope_Table.j0] at H
   by_cases c7 : x25_2 = true
   ·
    subst c7
    have H1 : (some (([] : List Int), ([] : List Int), 102)) = some (r1, r2, r3) := by rw [if_pos rfl] at H; exact H
    clear H
    have H := H1
    clear H1
    simp only [Option.some.injEq, Prod.mk.injEq] at H
    obtain ⟨rfl, rfl, rfl⟩ := H
    go_wp2
    go_ret3
    exact ⟨_, _, by first | rfl | (simp [errW_none, errW_some] <;> rfl) | (simp [*, errW_none, errW_some] <;> rfl), by first | exact Kd.R_nil _ _ _ _ _ | exact Kd.N_nil _ _ _ _ _ | exact Kd.V_nil _ _ _ _ _ | exact Kd.Q_nil _ _ _ _ _ | exact Kd.S_nil _ _ _ _ _, by first | exact Kd.R_nil _ _ _ _ _ | exact Kd.N_nil _ _ _ _ _ | exact Kd.V_nil _ _ _ _ _ | exact Kd.Q_nil _ _ _ _ _ | exact Kd.S_nil _ _ _ _ _, by repeat (first | (with_reducible first | exact HB.out | apply y3) | exact HB.out)⟩
   replace c7 := Bool.eq_false_iff.mpr c7
   subst c7
   have H1 : (rope_Table.l0 kj2 a1 ([] : List Int) ([] : List Int) a0 0) = some (r1, r2, r3) := by rw [if_neg (show ¬ (false = true) by decide)] at H; exact H
   clear H
   have H := H1
   clear H1
   have H' := ym H
   clear H
   go_wp2
   go_loopg [7, 8, 27] kj2 (fun kq v7 v8 v27 w' => ∃ (x7_2 : List Int) (x8_2 : List Int) (x27_2 : Int), v27 = .int .i64 x27_2 ∧ Aside0 (rope_Table.l0 kq a1 x7_2 x8_2 a0 x27_2 = some (r1, r2, r3)) ∧ Aside0 (kq ≤ kj2) ∧ Aside0 (Kd.R (Kd.int .i8) 33 w' w.heap.size (fun k_ => some k_ ≠ (v8 : Value).ownBlock) v7 x7_2) ∧ Aside0 (Kd.R (Kd.int .i8) 33 w' w.heap.size (fun k_ => some k_ ≠ (v7 : Value).ownBlock) v8 x8_2) ∧ Aside0 (Below w.heap.size w w'))
   case atStart => exact ⟨(([] : List Int)), (([] : List Int)), (0), (by first | rfl | (simp; done) | (simp [*]; done)), H', ⟨Nat.le_refl _⟩, ⟨by first | exact Kd.R_nil _ _ _ _ _ | exact Kd.N_nil _ _ _ _ _ | exact Kd.V_nil _ _ _ _ _ | exact Kd.Q_nil _ _ _ _ _ | exact Kd.S_nil _ _ _ _ _⟩, ⟨by first | exact Kd.R_nil _ _ _ _ _ | exact Kd.N_nil _ _ _ _ _ | exact Kd.V_nil _ _ _ _ _ | exact Kd.Q_nil _ _ _ _ _ | exact Kd.S_nil _ _ _ _ _⟩, ⟨by repeat (first | (with_reducible first | exact HB.out | apply y3) | exact HB.out)⟩⟩
   case round =>
    clear H'
    try clear c1
    try clear p2
    try clear c4
    try clear c4b0
    try clear c5
    try clear c5b0
    try clear c6
    try clear c6b0
    try clear c7
    try clear p2
    obtain ⟨x7_2, x8_2, x27_2, rfl, HA, HK2, HO_7, HO_8, HB⟩ := hrel
    cases gk with
    | zero => exact absurd HA.out (by simp [rope_Table.l0])
    | succ k2 =>
     have H := HA.out
     clear HA
     simp only [rope_Table.l0] at H
     by_cases c8 : x27_2 < a0
     ·
      rw [if_pos c8] at H
      have c8b0 : decide (x27_2 < a0) = true := decide_eq_true c8
      clear c8
      have H' := ym H
      clear H
      go_wp2
      go_loopg [7, 8, 31] k2 (fun kq v7 v8 v31 w' => ∃ (x7_3 : List Int) (x8_3 : List Int) (x31_3 : Int), v31 = .int .i64 x31_3 ∧ Aside0 (rope_Table.l1 kq a1 x7_3 x8_3 x27_2 a0 x27_2 a1 x31_3 = some (r1, r2, r3)) ∧ Aside0 (kq ≤ k2) ∧ Aside0 (Kd.R (Kd.int .i8) 33 w' w.heap.size (fun k_ => some k_ ≠ (v8 : Value).ownBlock) v7 x7_3) ∧ Aside0 (Kd.R (Kd.int .i8) 33 w' w.heap.size (fun k_ => some k_ ≠ (v7 : Value).ownBlock) v8 x8_3) ∧ Aside0 (Below w.heap.size w w'))
      case atStart => exact ⟨(x7_2), (x8_2), (0), (by first | rfl | (simp; done) | (simp [*]; done)), H', ⟨Nat.le_refl _⟩, ⟨by (with_reducible repeat apply y2); exact HO_7.out⟩, ⟨by (with_reducible repeat apply y2); exact HO_8.out⟩, ⟨by repeat (first | (with_reducible first | exact HB.out | apply y3) | exact HB.out)⟩⟩
      case round =>
       clear H'
       try clear c1
       try clear p2
       try clear c4
       try clear c4b0
       try clear c5
       try clear c5b0
       try clear c6
       try clear c6b0
       try clear c7
       try clear c8
       try clear c8b0
       try clear p2
       obtain ⟨x7_3, x8_3, x31_3, rfl, HA, HK3, HO_7, HO_8, HB⟩ := hrel
       cases gk with
       | zero => exact absurd HA.out (by simp [rope_Table.l1])
       | succ k3 =>
        have H := HA.out
        clear HA
        simp only [rope_Table.l1] at H
        by_cases c9 : x31_3 < a1
        ·
         rw [if_pos c9] at H
         have c9b0 : decide (x31_3 < a1) = true := decide_eq_true c9
         clear c9
         by_cases c10 : 0 ≤ x31_3
         ·
          rw [if_pos c10] at H
          have c10b0 := eq_true c10
          have c10b1 : decide (0 ≤ x31_3) = true := decide_eq_true c10
          clear c10
          obtain ⟨ji11, hji11⟩ : ∃ j_ : Int, (shr .i64 (wrap64 (64 * x27_2)) x31_3) = j_ := ⟨_, rfl⟩
          replace H : ((rope_Sine.f (wrap64 ((Int.tmod (ji11) 256) + 64))).bind fun t147 => (if x7_3.length < 140737488355328 then ((rope_Sine.f (ji11)).bind fun t151 => (if x8_3.length < 140737488355328 then (rope_Table.l1 k3 a1 (x7_3 ++ [t147]) (x8_3 ++ [t151]) x27_2 a0 x27_2 a1 (wrap64 (x31_3 + 1))) else (none))) else (none))) = some (r1, r2, r3) := by first | (rw [hji11] at H; exact H) | (simp only [hji11] at H ⊢; exact H)
          have hji11_ : ((wrap64 (64 * x27_2)) / 2 ^ min x31_3.toNat 64) = ji11 := hji11
          have hji11z : x31_3 ≤ 64 → ((wrap64 (64 * x27_2)) / 2 ^ x31_3.toNat) = ji11 := shr_small hji11
          replace H := Option.bind_eq_some_iff.mp H
          obtain ⟨t147, A120, H⟩ := H
          replace H : (if x7_3.length < 140737488355328 then ((rope_Sine.f (ji11)).bind fun t151 => (if x8_3.length < 140737488355328 then (rope_Table.l1 k3 a1 (x7_3 ++ [t147]) (x8_3 ++ [t151]) x27_2 a0 x27_2 a1 (wrap64 (x31_3 + 1))) else (none))) else (none)) = some (r1, r2, r3) := H
          have A12 := ym A120
          clear A120
          by_cases c13 : x7_3.length < 140737488355328
          ·
           rw [if_pos c13] at H
           have LMc13 := ym c13
           clear c13
           obtain ⟨y148, hy148⟩ : ∃ y_ : List Int, y_ = (x7_3 ++ [t147]) := ⟨_, rfl⟩
           replace H : ((rope_Sine.f (ji11)).bind fun t151 => (if x8_3.length < 140737488355328 then (rope_Table.l1 k3 a1 y148 (x8_3 ++ [t151]) x27_2 a0 x27_2 a1 (wrap64 (x31_3 + 1))) else (none))) = some (r1, r2, r3) := by first | (rw [hy148]; with_reducible exact H) | (have H2_ := (Option.bind_some _ _).symm.trans H; rw [hy148]; with_reducible exact H2_) | (have H2_ := (Option.bind_some _ _).symm.trans H; with_reducible exact H2_) | with_reducible exact H | (rw [hy148]; exact H) | exact H
           have Ny148 := ym hy148
           clear hy148
           replace H := Option.bind_eq_some_iff.mp H
           obtain ⟨t151, A140, H⟩ := H
           replace H : (if x8_3.length < 140737488355328 then (rope_Table.l1 k3 a1 y148 (x8_3 ++ [t151]) x27_2 a0 x27_2 a1 (wrap64 (x31_3 + 1))) else (none)) = some (r1, r2, r3) := H
           have A14 := ym A140
           clear A140
           by_cases c15 : x8_3.length < 140737488355328
           ·
            rw [if_pos c15] at H
            have LMc15 := ym c15
            clear c15
            obtain ⟨y152, hy152⟩ : ∃ y_ : List Int, y_ = (x8_3 ++ [t151]) := ⟨_, rfl⟩
            replace H : (rope_Table.l1 k3 a1 y148 y152 x27_2 a0 x27_2 a1 (wrap64 (x31_3 + 1))) = some (r1, r2, r3) := by first | (rw [hy152]; with_reducible exact H) | (have H2_ := (Option.bind_some _ _).symm.trans H; rw [hy152]; with_reducible exact H2_) | (have H2_ := (Option.bind_some _ _).symm.trans H; with_reducible exact H2_) | with_reducible exact H | (rw [hy152]; exact H) | exact H
            have Ny152 := ym hy152
            clear hy152
            have H' := ym H
            clear H
            go_wp2_with (first | ((with_reducible refine gate_callee (f := 16) rfl ?_); refine goesL_ (some 42) rfl rfl Tryd.func16 (by kernel_rfl) rfl #[.int .i64 (wrap64 ((Int.tmod (ji11) 256) + 64))] rfl (by (try simp only [List.map_toArray, List.map_cons, List.map_nil]); first | done | (simp only [hji11]; rfl) | rfl | (simp only [List.length_drop, List.length_take]; rfl)) ?_; (with_reducible refine (rope_Sine.calls (wrap64 ((Int.tmod (ji11) 256) + 64)) t147 _ A12.out (tab_of HTAB.out (by repeat (first | (with_reducible first | exact HB.out | apply y3) | exact HB.out | exact Below.refl _ _)))).mono ?_); rintro e w' ⟨rfl, ⟨nd, rfl⟩⟩; refine ⟨_, rfl, ?_⟩) | ((with_reducible refine gate_builtin (b := .append) (xs := #[.tmp 38, .tmp 43]) rfl ?_); at_builtin; refine Kd.R_append (Kd.int .i8) (w0 := w) w.heap.size rfl (.tmp 38) (.tmp 43) 22 33 (.int .i8 0) 1 rfl Tryd.underlying22 info33 rfl (by decide) (by omega) u7 x7_3 t147 [.int .i8 t147] (fun k_ => some k_ ≠ (u8 : Value).ownBlock) (fun _ => False) rfl rfl ?aP (fun _ hk => hk.elim) ?aF ?aO ?aB ?aS ?aL ?_; (case aP => exact rfl); (case aB => exact (by repeat (first | (with_reducible first | exact HB.out | apply y3) | exact HB.out))); (case aF => exact (fun k_ hk => Kd.fresh' (Kd.R_lt (by (with_reducible repeat apply y2); exact HO_8.out)) k_ hk)); (case aO => exact (by (with_reducible repeat apply y2); exact HO_7.out)); (case aS => exact (below_size (by repeat (first | (with_reducible first | exact HB.out | apply y3) | exact HB.out)))); (case aL => have := LMc13.out; omega); intro v149 w16 ho hb hg hat; rw [← Ny148.out] at ho; have n0_ := ym (Kd.R_after (ok := (fun _ => True)) (by (with_reducible repeat apply y2); exact Kd.R_mono HO_8.out (fun _ hk => ⟨trivial, hk⟩)) hg hat); have n1_ := ym (hb); have n2_ := ym (ho); clear HO_8; clear HB; clear HO_7; have HO_8 := n0_; have HB := n1_; have HO150 := n2_; clear n0_ n1_ n2_; clear ho hb hg hat) | ((with_reducible refine gate_callee (f := 16) rfl ?_); refine goesL_ (some 47) rfl rfl Tryd.func16 (by kernel_rfl) rfl #[.int .i64 ji11] rfl (by (try simp only [List.map_toArray, List.map_cons, List.map_nil]); first | done | (simp only [hji11]; rfl) | rfl | (simp only [List.length_drop, List.length_take]; rfl)) ?_; (with_reducible refine (rope_Sine.calls ji11 t151 _ A14.out (tab_of HTAB.out (by repeat (first | (with_reducible first | exact HB.out | apply y3) | exact HB.out | exact Below.refl _ _)))).mono ?_); rintro e w' ⟨rfl, ⟨nd, rfl⟩⟩; refine ⟨_, rfl, ?_⟩) | ((with_reducible refine gate_builtin (b := .append) (xs := #[.tmp 45, .tmp 48]) rfl ?_); at_builtin; refine Kd.R_append (Kd.int .i8) (w0 := w) w.heap.size rfl (.tmp 45) (.tmp 48) 22 33 (.int .i8 0) 1 rfl Tryd.underlying22 info33 rfl (by decide) (by omega) u8 x8_3 t151 [.int .i8 t151] (fun k_ => some k_ ≠ (v149 : Value).ownBlock) (fun _ => False) rfl rfl ?aP (fun _ hk => hk.elim) ?aF ?aO ?aB ?aS ?aL ?_; (case aP => exact rfl); (case aB => exact (by repeat (first | (with_reducible first | exact HB.out | apply y3) | exact HB.out))); (case aF => exact (fun k_ hk => Kd.fresh' (Kd.R_lt (by (with_reducible repeat apply y2); exact HO150.out)) k_ hk)); (case aO => exact (by (with_reducible repeat apply y2); exact Kd.R_mono HO_8.out (fun _ hk => hk.2))); (case aS => exact (below_size (by repeat (first | (with_reducible first | exact HB.out | apply y3) | exact HB.out)))); (case aL => have := LMc15.out; omega); intro v153 w17 ho hb hg hat; rw [← Ny152.out] at ho; have n0_ := ym (Kd.R_after (ok := (fun _ => True)) (by (with_reducible repeat apply y2); exact Kd.R_mono HO150.out (fun _ hk => ⟨trivial, hk⟩)) hg hat); have n1_ := ym (hb); have n2_ := ym (ho); clear HO150; clear HB; clear HO_8; have HO150 := n0_; have HB := n1_; have HO154 := n2_; clear n0_ n1_ n2_; clear ho hb hg hat))
            go_roundg k3
            case measure => have := HJ2.out; have := HK2.out; have := HK3.out; omega
            case rel => exact ⟨(y148), (y152), (wrap64 (x31_3 + 1)), (by first | rfl | (simp; done) | (simp [*]; done)), H', ⟨by have := HJ2.out; have := HK2.out; have := HK3.out; omega⟩, ⟨by (with_reducible repeat apply y2); exact Kd.R_mono HO150.out (fun _ hk => hk.2)⟩, ⟨by (with_reducible repeat apply y2); exact HO154.out⟩, ⟨by repeat (first | (with_reducible first | exact HB.out | apply y3) | exact HB.out)⟩⟩
           rw [if_neg c15] at H
           exact absurd H (by simp)
          rw [if_neg c13] at H
          exact absurd H (by simp)
         rw [if_neg c10] at H
         exact absurd H (by simp)
        rw [if_neg c9] at H
        have c9b0 : decide (x31_3 < a1) = false := decide_eq_false c9
        clear c9
        have H' := ym H
        clear H
        go_wp2
        go_roundg k3
        case measure => have := HJ2.out; have := HK2.out; have := HK3.out; omega
        case rel => exact ⟨(x7_3), (x8_3), (wrap64 (x27_2 + 1)), (by first | rfl | (simp; done) | (simp [*]; done)), H', ⟨by have := HJ2.out; have := HK2.out; have := HK3.out; omega⟩, ⟨by (with_reducible repeat apply y2); exact HO_7.out⟩, ⟨by (with_reducible repeat apply y2); exact HO_8.out⟩, ⟨by repeat (first | (with_reducible first | exact HB.out | apply y3) | exact HB.out)⟩⟩
     rw [if_neg c8] at H
     have c8b0 : decide (x27_2 < a0) = false := decide_eq_false c8
     clear c8
     simp only [Option.some.injEq, Prod.mk.injEq] at H
     obtain ⟨rfl, rfl, rfl⟩ := H
     go_wp2
     go_ret3
     exact ⟨_, _, by first | rfl | (simp [errW_none, errW_some] <;> rfl) | (simp [*, errW_none, errW_some] <;> rfl), by (with_reducible repeat apply y2); exact HO_7.out, by (with_reducible repeat apply y2); exact HO_8.out, by repeat (first | (with_reducible first | exact HB.out | apply y3) | exact HB.out)⟩

end Go.Proofs.YtengkjkmdodifaaDoor.P
