-- Printed by xprint.py (wip): functions, contracts, rows. Lean checks it.
import Derived.Test.YtmpldbccohdnjaaPx0
import Derived.Test.YtmpldbccohdnjaaPx8
namespace Go.Proofs.Ytmpldbccohdnjaa.P
open Go.RowKit Go.Proofs.YtmpldbccohdnjaaW.PrintWords Go.Proofs.YtmpldbccohdnjaaW.PrintLast Go.Proofs.YtmpldbccohdnjaaW.PrintMore
attribute [local go_sem] max2_int min2_int max_two min_two max_three min_three max_four min_four   -- for this text's walks alone
set_option linter.unusedVariables false
set_option linter.unusedSimpArgs false

/-! ### heraldref11_Masked: function 26 -/
mutual
def heraldref11_Masked.j0 : Nat → List Int → List Bool → Bool → Option (List Int × Int)
  | 0, _, _, _ => none
  | k + 1, x0, x1, x27 => if x27 = true then (some ((([] : List Int)), 1)) else (heraldref11_Masked.l0 k x0 x1 (([] : List Int)) 0)
def heraldref11_Masked.l0 : Nat → List Int → List Bool → List Int → Int → Option (List Int × Int)
  | 0, _, _, _, _ => none
  | k + 1, x0, x1, x6, x7 => if x7 < (x0.length : Int) then (if 0 ≤ x7 then (if x7 < (x1.length : Int) then (if rdOf false x1 x7 = true then (if x6.length < 17592186044416 then (heraldref11_Masked.l0 k x0 x1 (x6 ++ [rd x0 x7]) (wrap64 (x7 + 1))) else (none)) else (heraldref11_Masked.l0 k x0 x1 x6 (wrap64 (x7 + 1)))) else (none)) else (none)) else (if (x6.length : Int) = 0 then (some ((([] : List Int)), 111)) else ((heraldref11_Weights.f k x6).bind fun bt390 => (heraldref11_Masked.l1 k x0 x1 bt390.1 (([] : List Int)) 0 0)))
def heraldref11_Masked.l1 : Nat → List Int → List Bool → List Int → List Int → Int → Int → Option (List Int × Int)
  | 0, _, _, _, _, _, _ => none
  | k + 1, x0, x1, x8, x10, x11, x12 => if x12 < (x0.length : Int) then (if 0 ≤ x12 then (if x12 < (x1.length : Int) then (if rdOf false x1 x12 = true then (if 0 ≤ x11 then (if x11 < (x8.length : Int) then (if x10.length < 17592186044416 then (heraldref11_Masked.l1 k x0 x1 x8 (x10 ++ [rd x8 x11]) (wrap64 (x11 + 1)) (wrap64 (x12 + 1))) else (none)) else (none)) else (none)) else (if x10.length < 17592186044416 then (heraldref11_Masked.l1 k x0 x1 x8 (x10 ++ [0]) x11 (wrap64 (x12 + 1))) else (none))) else (none)) else (none)) else (some (x10, 0))
end
def heraldref11_Masked.f (k : Nat) (l0 : List Int) (l1 : List Bool) : Option (List Int × Int) := if (l0.length : Int) < 1 then (heraldref11_Masked.j0 k l0 l1 true) else (if (l0.length : Int) > 512 then (heraldref11_Masked.j0 k l0 l1 true) else (heraldref11_Masked.j0 k l0 l1 ((l1.length : Int) != (l0.length : Int))))
theorem heraldref11_Masked.mono_l : ∀ k, (∀ y0 y1 y2, LeO (heraldref11_Masked.j0 k y0 y1 y2) (heraldref11_Masked.j0 (k + 1) y0 y1 y2)) ∧ (∀ y0 y1 y2 y3, LeO (heraldref11_Masked.l0 k y0 y1 y2 y3) (heraldref11_Masked.l0 (k + 1) y0 y1 y2 y3)) ∧ (∀ y0 y1 y2 y3 y4 y5, LeO (heraldref11_Masked.l1 k y0 y1 y2 y3 y4 y5) (heraldref11_Masked.l1 (k + 1) y0 y1 y2 y3 y4 y5))
  | 0 => ⟨fun _ _ _ r h => by simp [heraldref11_Masked.j0] at h, fun _ _ _ _ r h => by simp [heraldref11_Masked.l0] at h, fun _ _ _ _ _ _ r h => by simp [heraldref11_Masked.l1] at h⟩
  | k + 1 => by
    obtain ⟨ih0, ih1, ih2⟩ := heraldref11_Masked.mono_l k
    refine ⟨?_, ?_, ?_⟩
    · intro y0 y1 y2
      unfold heraldref11_Masked.j0
      repeat' first
      | (with_reducible exact ih0 _ _ _)
      | (with_reducible exact ih1 _ _ _ _)
      | (with_reducible exact ih2 _ _ _ _ _ _)
      | (with_reducible exact heraldref11_Weights.mono _ _)
      | (with_reducible exact LeO.refl _)
      | (with_reducible exact LeO.none _)
      | (with_reducible refine LeO.ite ?_ ?_)
      | (with_reducible refine LeO.bind ?_ (fun _ => ?_))
      | exact ih0 _ _ _
      | exact ih1 _ _ _ _
      | exact ih2 _ _ _ _ _ _
      | exact heraldref11_Weights.mono _ _
      | exact LeO.none _
      | refine LeO.ite ?_ ?_
      | refine LeO.bind ?_ (fun _ => ?_)
    · intro y0 y1 y2 y3
      unfold heraldref11_Masked.l0
      repeat' first
      | (with_reducible exact ih0 _ _ _)
      | (with_reducible exact ih1 _ _ _ _)
      | (with_reducible exact ih2 _ _ _ _ _ _)
      | (with_reducible exact heraldref11_Weights.mono _ _)
      | (with_reducible exact LeO.refl _)
      | (with_reducible exact LeO.none _)
      | (with_reducible refine LeO.ite ?_ ?_)
      | (with_reducible refine LeO.bind ?_ (fun _ => ?_))
      | exact ih0 _ _ _
      | exact ih1 _ _ _ _
      | exact ih2 _ _ _ _ _ _
      | exact heraldref11_Weights.mono _ _
      | exact LeO.none _
      | refine LeO.ite ?_ ?_
      | refine LeO.bind ?_ (fun _ => ?_)
    · intro y0 y1 y2 y3 y4 y5
      unfold heraldref11_Masked.l1
      repeat' first
      | (with_reducible exact ih0 _ _ _)
      | (with_reducible exact ih1 _ _ _ _)
      | (with_reducible exact ih2 _ _ _ _ _ _)
      | (with_reducible exact heraldref11_Weights.mono _ _)
      | (with_reducible exact LeO.refl _)
      | (with_reducible exact LeO.none _)
      | (with_reducible refine LeO.ite ?_ ?_)
      | (with_reducible refine LeO.bind ?_ (fun _ => ?_))
      | exact ih0 _ _ _
      | exact ih1 _ _ _ _
      | exact ih2 _ _ _ _ _ _
      | exact heraldref11_Weights.mono _ _
      | exact LeO.none _
      | refine LeO.ite ?_ ?_
      | refine LeO.bind ?_ (fun _ => ?_)
theorem heraldref11_Masked.mono : ∀ a0 a1 k, LeO (heraldref11_Masked.f k a0 a1) (heraldref11_Masked.f (k + 1) a0 a1) := by
  intro a0 a1 k
  obtain ⟨ih0, ih1, ih2⟩ := heraldref11_Masked.mono_l k
  unfold heraldref11_Masked.f
  repeat' first
      | (with_reducible exact ih0 _ _ _)
      | (with_reducible exact ih1 _ _ _ _)
      | (with_reducible exact ih2 _ _ _ _ _ _)
      | (with_reducible exact heraldref11_Weights.mono _ _)
      | (with_reducible exact LeO.refl _)
      | (with_reducible exact LeO.none _)
      | (with_reducible refine LeO.ite ?_ ?_)
      | (with_reducible refine LeO.bind ?_ (fun _ => ?_))
      | exact ih0 _ _ _
      | exact ih1 _ _ _ _
      | exact ih2 _ _ _ _ _ _
      | exact heraldref11_Weights.mono _ _
      | exact LeO.none _
      | refine LeO.ite ?_ ?_
      | refine LeO.bind ?_ (fun _ => ?_)
set_option maxHeartbeats 8000000 in
set_option maxRecDepth 100000 in
theorem heraldref11_Masked.calls (k : Nat) (A0 : Option Addr) (c0 : Nat) (l0 : List Int) (A1 : Option Addr) (c1 : Nat) (l1 : List Bool) (r1 : List Int) (r2 : Int) (w : World) (hr0 : Kd.C (Kd.int .i64) w A0 l0.length l0) (hc0 : l0.length ≤ c0) (hr1 : Kd.C Kd.bool w A1 l1.length l1) (hc1 : l1.length ≤ c1) (h : heraldref11_Masked.f k l0 l1 = some (r1, r2)) :
    Calls Try.prog 26 #[.slice A0 l0.length c0, .slice A1 l1.length c1] w fun e w' => ∃ v0_ : Value, e = .returned (.tuple #[v0_, .int .i64 r2]) ∧ Kd.R (Kd.int .i64) 2 w' w.heap.size (fun _ => True) v0_ r1 ∧ Below w.heap.size w w' := by
 have HR0 := ym hr0
 have HC0 := ym hc0
 clear hr0 hc0
 have HR1 := ym hr1
 have HC1 := ym hc1
 clear hr1 hc1
 have HB := ym (Below.refl w.heap.size w)
 have H : (if (l0.length : Int) < 1 then (heraldref11_Masked.j0 k l0 l1 true) else (if (l0.length : Int) > 512 then (heraldref11_Masked.j0 k l0 l1 true) else (heraldref11_Masked.j0 k l0 l1 ((l1.length : Int) != (l0.length : Int))))) = some (r1, r2) := h
 clear h
 have HC3 := ym H
 clear H
 go_enter Try.func26, Try.ntmps26
 go_upto_region 1 with (fail)
 go_cut [27] (fun v27 wc => ∃ (kq : Nat) (x27_2 : Bool), v27 = .bool x27_2 ∧ Aside0 (heraldref11_Masked.j0 kq l0 l1 x27_2 = some (r1, r2)) ∧ Aside0 (kq ≤ k) ∧ Aside0 (Below w.heap.size w wc))
 case first =>
  have H := HC3.out
  clear HC3
  by_cases c4 : (l0.length : Int) < 1
  ·
   rw [if_pos c4] at H
   have c4b0 : decide ((l0.length : Int) < 1) = true := decide_eq_true c4
   have c4b1 : decide (l0.length < 1) = true := decide_eq_true (by omega)
   clear c4
   (first | rw [c4b0] | (simp only [i64_w, i32_w]; rw [c4b0]) | skip)
   have H' := ym H
   clear H
   go_wp2
   go_meet
   case rel => exact ⟨_, (true), (by first | rfl | (simp; done) | (simp [*]; done)), H', ⟨by first | omega | exact Nat.le_refl _⟩, ⟨by repeat (first | (with_reducible first | exact HB.out | apply y3) | exact HB.out)⟩⟩
  rw [if_neg c4] at H
  have c4b0 : decide ((l0.length : Int) < 1) = false := decide_eq_false c4
  have c4b1 : decide (l0.length < 1) = false := decide_eq_false (by omega)
  clear c4
  (first | rw [c4b0] | (simp only [i64_w, i32_w]; rw [c4b0]) | skip)
  by_cases c5 : (l0.length : Int) > 512
  ·
   rw [if_pos c5] at H
   have c5b0 : decide (512 < (l0.length : Int)) = true := decide_eq_true c5
   have c5b1 : decide (512 < l0.length) = true := decide_eq_true (by omega)
   clear c5
   have H' := ym H
   clear H
   go_wp2
   go_meet
   case rel => exact ⟨_, (true), (by first | rfl | (simp; done) | (simp [*]; done)), H', ⟨by first | omega | exact Nat.le_refl _⟩, ⟨by repeat (first | (with_reducible first | exact HB.out | apply y3) | exact HB.out)⟩⟩
  rw [if_neg c5] at H
  have c5b0 : decide (512 < (l0.length : Int)) = false := decide_eq_false c5
  have c5b1 : decide (512 < l0.length) = false := decide_eq_false (by omega)
  clear c5
  have H' := ym H
  clear H
  go_wp2
  go_meet
  case rel => exact ⟨_, (((l1.length : Int) != (l0.length : Int))), (by first | rfl | (simp; done) | (simp [*]; done)), H', ⟨by first | omega | exact Nat.le_refl _⟩, ⟨by repeat (first | (with_reducible first | exact HB.out | apply y3) | exact HB.out)⟩⟩
 case rest =>
  clear HC3
  try clear c1
  try clear c2
  try clear p2
  try clear c4
  try clear c4b0
  try clear c4b1
  try clear c5
  try clear c5b0
  try clear c5b1
  obtain ⟨kq, x27_2, rfl, HA, HJ2, HB⟩ := hcut
  cases kq with
  | zero => exact absurd HA.out (by simp [heraldref11_Masked.j0])
  | succ kj2 =>
   have H := HA.out
   clear HA
   simp only [heraldref11_Masked.j0] at H
   by_cases c6 : x27_2 = true
   ·
    subst c6
    have H1 : (some ((([] : List Int)), 1)) = some (r1, r2) := by rw [if_pos rfl] at H; exact H
    clear H
    have H := H1
    clear H1
    obtain ⟨y376, hy376⟩ : ∃ y_ : List Int, y_ = (([] : List Int)) := ⟨_, rfl⟩
    replace H : (some (y376, 1)) = some (r1, r2) := by first | (rw [hy376]; with_reducible exact H) | (have H2_ := (Option.bind_some _ _).symm.trans H; rw [hy376]; with_reducible exact H2_) | (have H2_ := (Option.bind_some _ _).symm.trans H; with_reducible exact H2_) | with_reducible exact H | (rw [hy376]; exact H) | exact H
    have Ny376 := ym hy376
    clear hy376
    simp only [Option.some.injEq, Prod.mk.injEq] at H
    obtain ⟨rfl, rfl⟩ := H
    go_wp2_with (first | ((with_reducible refine gate_dst (N := 28) rfl ?_); (try (refine gate_guard (by rfl) ?_; dsimp only)); refine Kd.R_lit (Kd.int .i64) _ 2 ?hg (N := 28) ?hd (xs := ([] : List Int)) (inner := []) (ok := fun _ => True) (okp := fun _ => True) ?hr ?hp (fun _ hk => hk) trivial (Below.refl _ _) (Nat.le_refl _) (by simp) ?_; (case hd => rfl); (case hg => rfl); (case hr => first | (go_simp; done) | (go_simp; rfl)); (case hp => exact (Reps.none _ _)); intro v377 w7 ho8 hb hg_ hnew_; clear hg_ hnew_; (first | rw [← Ny376.out] at ho8 | (simp only [Int.reduceToNat] at ho8; rw [← Ny376.out] at ho8)); have n0_ := ym (yo ho8 (below_size (by repeat (first | (with_reducible first | exact HB.out | apply y3) | exact HB.out)))); have n1_ := ym (yn (by repeat (first | (with_reducible first | exact HB.out | apply y3) | exact HB.out)) hb); clear HB; have HO378 := n0_; have HB := n1_; clear n0_ n1_; clear hb ho8))
    go_ret2
    exact ⟨_, by first | rfl | (simp [errW_none, errW_some] <;> rfl) | (simp [*, errW_none, errW_some] <;> rfl), by (with_reducible repeat apply y2); exact HO378.out, by repeat (first | (with_reducible first | exact HB.out | apply y3) | exact HB.out)⟩
   replace c6 := Bool.eq_false_iff.mpr c6
   subst c6
   have H1 : (heraldref11_Masked.l0 kj2 l0 l1 (([] : List Int)) 0) = some (r1, r2) := by rw [if_neg (show ¬ (false = true) by decide)] at H; exact H
   clear H
   have H := H1
   clear H1
   obtain ⟨y379, hy379⟩ : ∃ y_ : List Int, y_ = (([] : List Int)) := ⟨_, rfl⟩
   replace H : (heraldref11_Masked.l0 kj2 l0 l1 y379 0) = some (r1, r2) := by first | (rw [hy379]; with_reducible exact H) | (have H2_ := (Option.bind_some _ _).symm.trans H; rw [hy379]; with_reducible exact H2_) | (have H2_ := (Option.bind_some _ _).symm.trans H; with_reducible exact H2_) | with_reducible exact H | (rw [hy379]; exact H) | exact H
   have Ny379 := ym hy379
   clear hy379
   have H' := ym H
   clear H
   go_wp2_with (first | ((with_reducible refine gate_dst (N := 29) rfl ?_); (try (refine gate_guard (by rfl) ?_; dsimp only)); refine Kd.R_lit (Kd.int .i64) _ 2 ?hg (N := 29) ?hd (xs := ([] : List Int)) (inner := []) (ok := fun _ => True) (okp := fun _ => True) ?hr ?hp (fun _ hk => hk) trivial (Below.refl _ _) (Nat.le_refl _) (by simp) ?_; (case hd => rfl); (case hg => rfl); (case hr => first | (go_simp; done) | (go_simp; rfl)); (case hp => exact (Reps.none _ _)); intro v380 w9 ho10 hb hg_ hnew_; clear hg_ hnew_; (first | rw [← Ny379.out] at ho10 | (simp only [Int.reduceToNat] at ho10; rw [← Ny379.out] at ho10)); have n0_ := ym (yo ho10 (below_size (by repeat (first | (with_reducible first | exact HB.out | apply y3) | exact HB.out)))); have n1_ := ym (yn (by repeat (first | (with_reducible first | exact HB.out | apply y3) | exact HB.out)) hb); clear HB; have HO381 := n0_; have HB := n1_; clear n0_ n1_; clear hb ho10))
   go_loopg [6, 7] kj2 (fun kq v6 v7 w' => ∃ (x6_2 : List Int) (x7_2 : Int), v7 = .int .i64 x7_2 ∧ Aside0 (heraldref11_Masked.l0 kq l0 l1 x6_2 x7_2 = some (r1, r2)) ∧ Aside0 (kq ≤ kj2) ∧ Aside0 (Kd.R (Kd.int .i64) 2 w' w.heap.size (fun _ => True) v6 x6_2) ∧ Aside0 (Below w.heap.size w w'))
   case atStart => exact ⟨(y379), (0), (by first | rfl | (simp; done) | (simp [*]; done)), H', ⟨Nat.le_refl _⟩, ⟨by (with_reducible repeat apply y2); exact HO381.out⟩, ⟨by repeat (first | (with_reducible first | exact HB.out | apply y3) | exact HB.out)⟩⟩
   case round =>
    clear H'
    try clear c1
    try clear c2
    try clear p2
    try clear c4
    try clear c4b0
    try clear c4b1
    try clear c5
    try clear c5b0
    try clear c5b1
    try clear c6
    try clear p2
    obtain ⟨x6_2, x7_2, rfl, HA, HK2, HO_6, HB⟩ := hrel
    cases gk with
    | zero => exact absurd HA.out (by simp [heraldref11_Masked.l0])
    | succ k2 =>
     have H := HA.out
     clear HA
     simp only [heraldref11_Masked.l0] at H
     by_cases c11 : x7_2 < (l0.length : Int)
     ·
      rw [if_pos c11] at H
      have c11b0 : decide (x7_2 < (l0.length : Int)) = true := decide_eq_true c11
      clear c11
      by_cases c12 : 0 ≤ x7_2
      ·
       rw [if_pos c12] at H
       have c12b0 : decide (0 ≤ x7_2) = true := decide_eq_true c12
       clear c12
       by_cases c13 : x7_2 < (l1.length : Int)
       ·
        rw [if_pos c13] at H
        have c13b0 : decide (x7_2 < (l1.length : Int)) = true := decide_eq_true c13
        clear c13
        obtain ⟨bq14, hbq14⟩ : ∃ b_ : Bool, b_ = (rdOf false l1 x7_2) := ⟨_, rfl⟩
        replace H : (if bq14 = true then (if x6_2.length < 17592186044416 then (heraldref11_Masked.l0 k2 l0 l1 (x6_2 ++ [rd l0 x7_2]) (wrap64 (x7_2 + 1))) else (none)) else (heraldref11_Masked.l0 k2 l0 l1 x6_2 (wrap64 (x7_2 + 1)))) = some (r1, r2) := by rw [← hbq14] at H; exact H
        have Nbq14 := ym hbq14
        clear hbq14
        by_cases c15 : bq14 = true
        ·
         subst c15
         have H1 : (if x6_2.length < 17592186044416 then (heraldref11_Masked.l0 k2 l0 l1 (x6_2 ++ [rd l0 x7_2]) (wrap64 (x7_2 + 1))) else (none)) = some (r1, r2) := by rw [if_pos rfl] at H; exact H
         clear H
         have H := H1
         clear H1
         by_cases c16 : x6_2.length < 17592186044416
         ·
          rw [if_pos c16] at H
          have LMc16 := ym c16
          clear c16
          obtain ⟨y384, hy384⟩ : ∃ y_ : List Int, y_ = (x6_2 ++ [rd l0 x7_2]) := ⟨_, rfl⟩
          replace H : (heraldref11_Masked.l0 k2 l0 l1 y384 (wrap64 (x7_2 + 1))) = some (r1, r2) := by first | (rw [hy384]; with_reducible exact H) | (have H2_ := (Option.bind_some _ _).symm.trans H; rw [hy384]; with_reducible exact H2_) | (have H2_ := (Option.bind_some _ _).symm.trans H; with_reducible exact H2_) | with_reducible exact H | (rw [hy384]; exact H) | exact H
          have Ny384 := ym hy384
          clear hy384
          have H' := ym H
          clear H
          have p382 : 0 ≤ (x7_2 : Int) := of_decide_eq_true (by first | (with_reducible assumption) | assumption)
          have q382 : x7_2 < (l1.length : Int) := of_decide_eq_true (by first | (with_reducible assumption) | assumption)
          obtain ⟨ad382, e382, hx382_0⟩ := Kd.at_bool HR1.out x7_2 p382 q382
          (try rw [← Nbq14.out] at hx382_0)
          cases e382
          replace hx382_0 := (HB.out.cell (World.block_lt_of_cell? w _ hx382_0)).trans hx382_0
          replace p382 := eq_true p382
          replace q382 := eq_true q382
          have p383 : 0 ≤ (x7_2 : Int) := of_decide_eq_true (by first | (with_reducible assumption) | assumption)
          have q383 : x7_2 < (l0.length : Int) := of_decide_eq_true (by first | (with_reducible assumption) | assumption)
          obtain ⟨ad383, e383, hx383_0⟩ := Kd.at_int HR0.out x7_2 p383 q383
          cases e383
          replace hx383_0 := (HB.out.cell (World.block_lt_of_cell? w _ hx383_0)).trans hx383_0
          replace p383 := eq_true p383
          replace q383 := eq_true q383
          go_wp2_with (first | ((with_reducible refine gate_builtin (b := .append) (xs := #[.tmp 40, .tmp 45]) rfl ?_); (try (refine gate_guard (by rfl) ?_; dsimp only)); at_builtin; refine Kd.R_append (Kd.int .i64) (w0 := w) w.heap.size rfl (.tmp 40) (.tmp 45) 22 2 (.int .i64 0) 8 rfl Try.underlying22 info2 rfl (by decide) (by omega) u6 x6_2 (rd l0 x7_2) [.int .i64 (rd l0 x7_2)] (fun _ => True) (fun _ => False) rfl rfl ?aP (fun _ hk => hk.elim) ?aF ?aO ?aB ?aS ?aL ?_; (case aP => exact rfl); (case aB => exact (by repeat (first | (with_reducible first | exact HB.out | apply y3) | exact HB.out))); (case aF => exact (fun _ _ => trivial)); (case aO => exact (by (with_reducible repeat apply y2); exact HO_6.out)); (case aS => exact (below_size (by repeat (first | (with_reducible first | exact HB.out | apply y3) | exact HB.out)))); (case aL => have := LMc16.out; omega); intro v385 w17 ho hb hg hat; rw [← Ny384.out] at ho; have n0_ := ym (hb); have n1_ := ym (ho); clear HB; clear HO_6; have HB := n0_; have HO386 := n1_; clear n0_ n1_; clear ho hb hg hat))
          go_roundg k2
          case measure => have := HJ2.out; have := HK2.out; omega
          case rel => exact ⟨(y384), (wrap64 (x7_2 + 1)), (by first | rfl | (simp; done) | (simp [*]; done)), H', ⟨by have := HJ2.out; have := HK2.out; omega⟩, ⟨by (with_reducible repeat apply y2); exact HO386.out⟩, ⟨by repeat (first | (with_reducible first | exact HB.out | apply y3) | exact HB.out)⟩⟩
         rw [if_neg c16] at H
         exact absurd H (by simp)
        replace c15 := Bool.eq_false_iff.mpr c15
        subst c15
        have H1 : (heraldref11_Masked.l0 k2 l0 l1 x6_2 (wrap64 (x7_2 + 1))) = some (r1, r2) := by rw [if_neg (show ¬ (false = true) by decide)] at H; exact H
        clear H
        have H := H1
        clear H1
        have H' := ym H
        clear H
        have p382 : 0 ≤ (x7_2 : Int) := of_decide_eq_true (by first | (with_reducible assumption) | assumption)
        have q382 : x7_2 < (l1.length : Int) := of_decide_eq_true (by first | (with_reducible assumption) | assumption)
        obtain ⟨ad382, e382, hx382_0⟩ := Kd.at_bool HR1.out x7_2 p382 q382
        (try rw [← Nbq14.out] at hx382_0)
        cases e382
        replace hx382_0 := (HB.out.cell (World.block_lt_of_cell? w _ hx382_0)).trans hx382_0
        replace p382 := eq_true p382
        replace q382 := eq_true q382
        go_wp2
        go_roundg k2
        case measure => have := HJ2.out; have := HK2.out; omega
        case rel => exact ⟨(x6_2), (wrap64 (x7_2 + 1)), (by first | rfl | (simp; done) | (simp [*]; done)), H', ⟨by have := HJ2.out; have := HK2.out; omega⟩, ⟨by (with_reducible repeat apply y2); exact HO_6.out⟩, ⟨by repeat (first | (with_reducible first | exact HB.out | apply y3) | exact HB.out)⟩⟩
       rw [if_neg c13] at H
       exact absurd H (by simp)
      rw [if_neg c12] at H
      exact absurd H (by simp)
     rw [if_neg c11] at H
     have c11b0 : decide (x7_2 < (l0.length : Int)) = false := decide_eq_false c11
     clear c11
     by_cases c18 : (x6_2.length : Int) = 0
     ·
      rw [if_pos c18] at H
      have c18b0 : ((x6_2.length : Int) == 0) = true := beq_iff_eq.mpr c18
      have c18b1 : ((x6_2.length : Int) != 0) = false := bne_eq_false_iff_eq.mpr c18
      clear c18
      obtain ⟨y387, hy387⟩ : ∃ y_ : List Int, y_ = (([] : List Int)) := ⟨_, rfl⟩
      replace H : (some (y387, 111)) = some (r1, r2) := by first | (rw [hy387]; with_reducible exact H) | (have H2_ := (Option.bind_some _ _).symm.trans H; rw [hy387]; with_reducible exact H2_) | (have H2_ := (Option.bind_some _ _).symm.trans H; with_reducible exact H2_) | with_reducible exact H | (rw [hy387]; exact H) | exact H
      have Ny387 := ym hy387
      clear hy387
      simp only [Option.some.injEq, Prod.mk.injEq] at H
      obtain ⟨rfl, rfl⟩ := H
      obtain ⟨Ao19, co19, eo19⟩ := Kd.R_slice HO_6.out
      subst eo19
      go_wp2_with (first | ((with_reducible refine gate_dst (N := 50) rfl ?_); (try (refine gate_guard (by rfl) ?_; dsimp only)); refine Kd.R_lit (Kd.int .i64) _ 2 ?hg (N := 50) ?hd (xs := ([] : List Int)) (inner := []) (ok := fun _ => True) (okp := fun _ => True) ?hr ?hp (fun _ hk => hk) trivial (Below.refl _ _) (Nat.le_refl _) (by simp) ?_; (case hd => rfl); (case hg => rfl); (case hr => first | (go_simp; done) | (go_simp; rfl)); (case hp => exact (Reps.none _ _)); intro v388 w20 ho21 hb hg_ hnew_; clear hg_ hnew_; (first | rw [← Ny387.out] at ho21 | (simp only [Int.reduceToNat] at ho21; rw [← Ny387.out] at ho21)); have n0_ := ym (Kd.R_elder' (by (with_reducible repeat apply y2); exact HO_6.out) (Kd.R_base ho21) hb); have n1_ := ym (yo (Kd.R_new' ho21 (Kd.R_lt (by (with_reducible repeat apply y2); exact HO_6.out))) (below_size (by repeat (first | (with_reducible first | exact HB.out | apply y3) | exact HB.out)))); have n2_ := ym (yn (by repeat (first | (with_reducible first | exact HB.out | apply y3) | exact HB.out)) hb); clear HO_6; clear HB; have HO_6 := n0_; have HO389 := n1_; have HB := n2_; clear n0_ n1_ n2_; clear hb ho21))
      go_ret2
      exact ⟨_, by first | rfl | (simp [errW_none, errW_some] <;> rfl) | (simp [*, errW_none, errW_some] <;> rfl), by (with_reducible repeat apply y2); exact Kd.R_mono HO389.out (fun _ hk => trivial), by repeat (first | (with_reducible first | exact HB.out | apply y3) | exact HB.out)⟩
     rw [if_neg c18] at H
     have c18b0 : ((x6_2.length : Int) == 0) = false := beq_eq_false_iff_ne.mpr c18
     have c18b1 : ((x6_2.length : Int) != 0) = true := bne_iff_ne.mpr c18
     have c18b2 : ¬ (x6_2 = []) := fun h_ => c18 (by rw [h_]; rfl)
     replace H := Option.bind_eq_some_iff.mp H
     obtain ⟨⟨t390, t391⟩, A220, H⟩ := H
     replace H : (heraldref11_Masked.l1 k2 l0 l1 t390 (([] : List Int)) 0 0) = some (r1, r2) := H
     have A22 := ym A220
     clear A220
     obtain ⟨y394, hy394⟩ : ∃ y_ : List Int, y_ = (([] : List Int)) := ⟨_, rfl⟩
     replace H : (heraldref11_Masked.l1 k2 l0 l1 t390 y394 0 0) = some (r1, r2) := by first | (rw [hy394]; with_reducible exact H) | (have H2_ := (Option.bind_some _ _).symm.trans H; rw [hy394]; with_reducible exact H2_) | (have H2_ := (Option.bind_some _ _).symm.trans H; with_reducible exact H2_) | with_reducible exact H | (rw [hy394]; exact H) | exact H
     have Ny394 := ym hy394
     clear hy394
     have H' := ym H
     clear H
     obtain ⟨Ao23, co23, eo23⟩ := Kd.R_slice HO_6.out
     subst eo23
     go_wp2_with (first | ((with_reducible refine gate_callee (f := 13) rfl ?_); refine goesL_ (some 53) rfl rfl Try.func13 (by kernel_rfl) rfl #[.slice Ao23 x6_2.length co23] rfl (by (try simp only [List.map_toArray, List.map_cons, List.map_nil]); first | done | rfl | (simp only [List.length_drop, List.length_take]; rfl)) ?_; (with_reducible refine (heraldref11_Weights.calls k2 _ _ x6_2 t390 t391 _ ?side1 ?side2 A22.out).mono ?_); (case side1 => repeat (first | exact (Kd.R_reads' HO_6.out).2.2 | (with_reducible refine yi ?_ _) | (with_reducible refine yj ?_ _) | (with_reducible refine yk ?_))); (case side2 => exact (Kd.R_reads' HO_6.out).2.1); rintro e w24 ⟨v392, rfl, ho0, hb⟩; refine ⟨_, rfl, ?_⟩; have n0_ := ym (Kd.R_elder' (by (with_reducible repeat apply y2); exact HO_6.out) (Kd.R_base ho0) hb); have n1_ := ym (yo (Kd.R_new' ho0 (Kd.R_lt (by (with_reducible repeat apply y2); exact HO_6.out))) (below_size (by repeat (first | (with_reducible first | exact HB.out | apply y3) | exact HB.out)))); have n2_ := ym (yn (by repeat (first | (with_reducible first | exact HB.out | apply y3) | exact HB.out)) hb); clear HO_6; clear HB; have HO_6 := n0_; have HO393 := n1_; have HB := n2_; clear n0_ n1_ n2_; (try clear hb); (try clear hb2); (try clear hk); (try clear hi); (try clear ho0)) | ((with_reducible refine gate_dst (N := 56) rfl ?_); (try (refine gate_guard (by rfl) ?_; dsimp only)); refine Kd.R_lit (Kd.int .i64) _ 2 ?hg (N := 56) ?hd (xs := ([] : List Int)) (inner := []) (ok := fun _ => True) (okp := fun _ => True) ?hr ?hp (fun _ hk => hk) trivial (Below.refl _ _) (Nat.le_refl _) (by simp) ?_; (case hd => rfl); (case hg => rfl); (case hr => first | (go_simp; done) | (go_simp; rfl)); (case hp => exact (Reps.none _ _)); intro v395 w25 ho26 hb hg_ hnew_; clear hg_ hnew_; (first | rw [← Ny394.out] at ho26 | (simp only [Int.reduceToNat] at ho26; rw [← Ny394.out] at ho26)); have n0_ := ym (Kd.R_elder' (by (with_reducible repeat apply y2); exact HO_6.out) (Kd.R_base ho26) hb); have n1_ := ym (Kd.R_elder' (by (with_reducible repeat apply y2); exact HO393.out) (Kd.R_base ho26) hb); have n2_ := ym (yo (Kd.R_new' (Kd.R_new' ho26 (Kd.R_lt (by (with_reducible repeat apply y2); exact HO_6.out))) (Kd.R_lt (by (with_reducible repeat apply y2); exact HO393.out))) (below_size (by repeat (first | (with_reducible first | exact HB.out | apply y3) | exact HB.out)))); have n3_ := ym (yn (by repeat (first | (with_reducible first | exact HB.out | apply y3) | exact HB.out)) hb); clear HO_6; clear HO393; clear HB; have HO_6 := n0_; have HO393 := n1_; have HO396 := n2_; have HB := n3_; clear n0_ n1_ n2_ n3_; clear hb ho26))
     go_loopg [10, 11, 12] k2 (fun kq v10 v11 v12 w' => ∃ (x10_3 : List Int) (x11_3 : Int) (x12_3 : Int), v11 = .int .i64 x11_3 ∧ v12 = .int .i64 x12_3 ∧ Aside0 (heraldref11_Masked.l1 kq l0 l1 t390 x10_3 x11_3 x12_3 = some (r1, r2)) ∧ Aside0 (kq ≤ k2) ∧ Aside0 (Kd.R (Kd.int .i64) 2 w' w.heap.size (fun k_ => some k_ ≠ (v10 : Value).ownBlock) v392 t390) ∧ Aside0 (Kd.R (Kd.int .i64) 2 w' w.heap.size (fun k_ => some k_ ≠ (v392 : Value).ownBlock) v10 x10_3) ∧ Aside0 (Below w.heap.size w w'))
     case atStart => exact ⟨(y394), (0), (0), (by first | rfl | (simp; done) | (simp [*]; done)), (by first | rfl | (simp; done) | (simp [*]; done)), H', ⟨Nat.le_refl _⟩, ⟨by (with_reducible repeat apply y2); exact Kd.R_mono HO393.out (fun _ hk => hk.2)⟩, ⟨by (with_reducible repeat apply y2); exact Kd.R_mono HO396.out (fun _ hk => hk.2)⟩, ⟨by repeat (first | (with_reducible first | exact HB.out | apply y3) | exact HB.out)⟩⟩
     case round =>
      clear H'
      try clear c1
      try clear q1
      try clear c2
      try clear p2
      try clear p3
      try clear q3
      try clear hx3
      try clear c4
      try clear c4b0
      try clear c4b1
      try clear c5
      try clear c5b0
      try clear c5b1
      try clear c6
      try clear p6
      try clear c11
      try clear c11b0
      try clear c12
      try clear c12b0
      try clear c13
      try clear c13b0
      try clear q14
      try clear c15
      try clear c16
      try clear c18
      try clear c18b0
      try clear c18b1
      try clear c18b2
      try clear c26
      try clear hx382_0
      try clear hx383_0
      try clear p2
      try clear p382
      try clear p383
      try clear q382
      try clear q383
      obtain ⟨x10_3, x11_3, x12_3, rfl, rfl, HA, HK3, HO_8, HO_10, HB⟩ := hrel
      cases gk with
      | zero => exact absurd HA.out (by simp [heraldref11_Masked.l1])
      | succ k3 =>
       have H := HA.out
       clear HA
       simp only [heraldref11_Masked.l1] at H
       by_cases c27 : x12_3 < (l0.length : Int)
       ·
        rw [if_pos c27] at H
        have c27b0 : decide (x12_3 < (l0.length : Int)) = true := decide_eq_true c27
        clear c27
        by_cases c28 : 0 ≤ x12_3
        ·
         rw [if_pos c28] at H
         have c28b0 : decide (0 ≤ x12_3) = true := decide_eq_true c28
         clear c28
         by_cases c29 : x12_3 < (l1.length : Int)
         ·
          rw [if_pos c29] at H
          have c29b0 : decide (x12_3 < (l1.length : Int)) = true := decide_eq_true c29
          clear c29
          obtain ⟨bq30, hbq30⟩ : ∃ b_ : Bool, b_ = (rdOf false l1 x12_3) := ⟨_, rfl⟩
          replace H : (if bq30 = true then (if 0 ≤ x11_3 then (if x11_3 < (t390.length : Int) then (if x10_3.length < 17592186044416 then (heraldref11_Masked.l1 k3 l0 l1 t390 (x10_3 ++ [rd t390 x11_3]) (wrap64 (x11_3 + 1)) (wrap64 (x12_3 + 1))) else (none)) else (none)) else (none)) else (if x10_3.length < 17592186044416 then (heraldref11_Masked.l1 k3 l0 l1 t390 (x10_3 ++ [0]) x11_3 (wrap64 (x12_3 + 1))) else (none))) = some (r1, r2) := by rw [← hbq30] at H; exact H
          have Nbq30 := ym hbq30
          clear hbq30
          by_cases c31 : bq30 = true
          ·
           subst c31
           have H1 : (if 0 ≤ x11_3 then (if x11_3 < (t390.length : Int) then (if x10_3.length < 17592186044416 then (heraldref11_Masked.l1 k3 l0 l1 t390 (x10_3 ++ [rd t390 x11_3]) (wrap64 (x11_3 + 1)) (wrap64 (x12_3 + 1))) else (none)) else (none)) else (none)) = some (r1, r2) := by rw [if_pos rfl] at H; exact H
           clear H
           have H := H1
           clear H1
           by_cases c32 : 0 ≤ x11_3
           ·
            rw [if_pos c32] at H
            have c32b0 : decide (0 ≤ x11_3) = true := decide_eq_true c32
            clear c32
            by_cases c33 : x11_3 < (t390.length : Int)
            ·
             rw [if_pos c33] at H
             have c33b0 : decide (x11_3 < (t390.length : Int)) = true := decide_eq_true c33
             clear c33
             by_cases c34 : x10_3.length < 17592186044416
             ·
              rw [if_pos c34] at H
              have LMc34 := ym c34
              clear c34
              obtain ⟨y399, hy399⟩ : ∃ y_ : List Int, y_ = (x10_3 ++ [rd t390 x11_3]) := ⟨_, rfl⟩
              replace H : (heraldref11_Masked.l1 k3 l0 l1 t390 y399 (wrap64 (x11_3 + 1)) (wrap64 (x12_3 + 1))) = some (r1, r2) := by first | (rw [hy399]; with_reducible exact H) | (have H2_ := (Option.bind_some _ _).symm.trans H; rw [hy399]; with_reducible exact H2_) | (have H2_ := (Option.bind_some _ _).symm.trans H; with_reducible exact H2_) | with_reducible exact H | (rw [hy399]; exact H) | exact H
              have Ny399 := ym hy399
              clear hy399
              have H' := ym H
              clear H
              have p397 : 0 ≤ (x12_3 : Int) := of_decide_eq_true (by first | (with_reducible assumption) | assumption)
              have q397 : x12_3 < (l1.length : Int) := of_decide_eq_true (by first | (with_reducible assumption) | assumption)
              obtain ⟨ad397, e397, hx397_0⟩ := Kd.at_bool HR1.out x12_3 p397 q397
              (try rw [← Nbq30.out] at hx397_0)
              cases e397
              replace hx397_0 := (HB.out.cell (World.block_lt_of_cell? w _ hx397_0)).trans hx397_0
              replace p397 := eq_true p397
              replace q397 := eq_true q397
              obtain ⟨Ao35, co35, eo35⟩ := Kd.R_slice HO_8.out
              subst eo35
              have p398 : 0 ≤ (x11_3 : Int) := of_decide_eq_true (by first | (with_reducible assumption) | assumption)
              have q398 : x11_3 < (t390.length : Int) := of_decide_eq_true (by first | (with_reducible assumption) | assumption)
              obtain ⟨ad398, e398, hx398_0⟩ := Kd.at_int (Kd.R_reads' HO_8.out).2.2 x11_3 p398 q398
              cases e398
              replace p398 := eq_true p398
              replace q398 := eq_true q398
              go_wp2_with (first | ((with_reducible refine gate_builtin (b := .append) (xs := #[.tmp 67, .tmp 72]) rfl ?_); (try (refine gate_guard (by rfl) ?_; dsimp only)); at_builtin; refine Kd.R_append (Kd.int .i64) (w0 := w) w.heap.size rfl (.tmp 67) (.tmp 72) 22 2 (.int .i64 0) 8 rfl Try.underlying22 info2 rfl (by decide) (by omega) u10 x10_3 (rd t390 x11_3) [.int .i64 (rd t390 x11_3)] (fun k_ => some k_ ≠ (.slice (some ad398) t390.length co35 : Value).ownBlock) (fun _ => False) rfl rfl ?aP (fun _ hk => hk.elim) ?aF ?aO ?aB ?aS ?aL ?_; (case aP => exact rfl); (case aB => exact (by repeat (first | (with_reducible first | exact HB.out | apply y3) | exact HB.out))); (case aF => exact (fun k_ hk => Kd.fresh' (Kd.R_lt (by (with_reducible repeat apply y2); exact HO_8.out)) k_ hk)); (case aO => exact (by (with_reducible repeat apply y2); exact HO_10.out)); (case aS => exact (below_size (by repeat (first | (with_reducible first | exact HB.out | apply y3) | exact HB.out)))); (case aL => have := LMc34.out; omega); intro v400 w36 ho hb hg hat; rw [← Ny399.out] at ho; have n0_ := ym (Kd.R_after (ok := (fun _ => True)) (by (with_reducible repeat apply y2); exact Kd.R_mono HO_8.out (fun _ hk => ⟨trivial, hk⟩)) hg hat); have n1_ := ym (hb); have n2_ := ym (ho); clear HO_8; clear HB; clear HO_10; have HO_8 := n0_; have HB := n1_; have HO401 := n2_; clear n0_ n1_ n2_; clear ho hb hg hat))
              go_roundg k3
              case measure => have := HJ2.out; have := HK2.out; have := HK3.out; omega
              case rel => exact ⟨(y399), (wrap64 (x11_3 + 1)), (wrap64 (x12_3 + 1)), (by first | rfl | (simp; done) | (simp [*]; done)), (by first | rfl | (simp; done) | (simp [*]; done)), H', ⟨by have := HJ2.out; have := HK2.out; have := HK3.out; omega⟩, ⟨by (with_reducible repeat apply y2); exact Kd.R_mono HO_8.out (fun _ hk => hk.2)⟩, ⟨by (with_reducible repeat apply y2); exact HO401.out⟩, ⟨by repeat (first | (with_reducible first | exact HB.out | apply y3) | exact HB.out)⟩⟩
             rw [if_neg c34] at H
             exact absurd H (by simp)
            rw [if_neg c33] at H
            exact absurd H (by simp)
           rw [if_neg c32] at H
           exact absurd H (by simp)
          replace c31 := Bool.eq_false_iff.mpr c31
          subst c31
          have H1 : (if x10_3.length < 17592186044416 then (heraldref11_Masked.l1 k3 l0 l1 t390 (x10_3 ++ [0]) x11_3 (wrap64 (x12_3 + 1))) else (none)) = some (r1, r2) := by rw [if_neg (show ¬ (false = true) by decide)] at H; exact H
          clear H
          have H := H1
          clear H1
          by_cases c37 : x10_3.length < 17592186044416
          ·
           rw [if_pos c37] at H
           have LMc37 := ym c37
           clear c37
           obtain ⟨y402, hy402⟩ : ∃ y_ : List Int, y_ = (x10_3 ++ [0]) := ⟨_, rfl⟩
           replace H : (heraldref11_Masked.l1 k3 l0 l1 t390 y402 x11_3 (wrap64 (x12_3 + 1))) = some (r1, r2) := by first | (rw [hy402]; with_reducible exact H) | (have H2_ := (Option.bind_some _ _).symm.trans H; rw [hy402]; with_reducible exact H2_) | (have H2_ := (Option.bind_some _ _).symm.trans H; with_reducible exact H2_) | with_reducible exact H | (rw [hy402]; exact H) | exact H
           have Ny402 := ym hy402
           clear hy402
           have H' := ym H
           clear H
           have p397 : 0 ≤ (x12_3 : Int) := of_decide_eq_true (by first | (with_reducible assumption) | assumption)
           have q397 : x12_3 < (l1.length : Int) := of_decide_eq_true (by first | (with_reducible assumption) | assumption)
           obtain ⟨ad397, e397, hx397_0⟩ := Kd.at_bool HR1.out x12_3 p397 q397
           (try rw [← Nbq30.out] at hx397_0)
           cases e397
           replace hx397_0 := (HB.out.cell (World.block_lt_of_cell? w _ hx397_0)).trans hx397_0
           replace p397 := eq_true p397
           replace q397 := eq_true q397
           go_wp2_with (first | ((with_reducible refine gate_builtin (b := .append) (xs := #[.tmp 76, .tmp 77]) rfl ?_); (try (refine gate_guard (by rfl) ?_; dsimp only)); at_builtin; refine Kd.R_append (Kd.int .i64) (w0 := w) w.heap.size rfl (.tmp 76) (.tmp 77) 22 2 (.int .i64 0) 8 rfl Try.underlying22 info2 rfl (by decide) (by omega) u10 x10_3 0 [.int .i64 0] (fun k_ => some k_ ≠ (v392 : Value).ownBlock) (fun _ => False) rfl rfl ?aP (fun _ hk => hk.elim) ?aF ?aO ?aB ?aS ?aL ?_; (case aP => exact rfl); (case aB => exact (by repeat (first | (with_reducible first | exact HB.out | apply y3) | exact HB.out))); (case aF => exact (fun k_ hk => Kd.fresh' (Kd.R_lt (by (with_reducible repeat apply y2); exact HO_8.out)) k_ hk)); (case aO => exact (by (with_reducible repeat apply y2); exact HO_10.out)); (case aS => exact (below_size (by repeat (first | (with_reducible first | exact HB.out | apply y3) | exact HB.out)))); (case aL => have := LMc37.out; omega); intro v403 w38 ho hb hg hat; rw [← Ny402.out] at ho; have n0_ := ym (Kd.R_after (ok := (fun _ => True)) (by (with_reducible repeat apply y2); exact Kd.R_mono HO_8.out (fun _ hk => ⟨trivial, hk⟩)) hg hat); have n1_ := ym (hb); have n2_ := ym (ho); clear HO_8; clear HB; clear HO_10; have HO_8 := n0_; have HB := n1_; have HO404 := n2_; clear n0_ n1_ n2_; clear ho hb hg hat))
           go_roundg k3
           case measure => have := HJ2.out; have := HK2.out; have := HK3.out; omega
           case rel => exact ⟨(y402), (x11_3), (wrap64 (x12_3 + 1)), (by first | rfl | (simp; done) | (simp [*]; done)), (by first | rfl | (simp; done) | (simp [*]; done)), H', ⟨by have := HJ2.out; have := HK2.out; have := HK3.out; omega⟩, ⟨by (with_reducible repeat apply y2); exact Kd.R_mono HO_8.out (fun _ hk => hk.2)⟩, ⟨by (with_reducible repeat apply y2); exact HO404.out⟩, ⟨by repeat (first | (with_reducible first | exact HB.out | apply y3) | exact HB.out)⟩⟩
          rw [if_neg c37] at H
          exact absurd H (by simp)
         rw [if_neg c29] at H
         exact absurd H (by simp)
        rw [if_neg c28] at H
        exact absurd H (by simp)
       rw [if_neg c27] at H
       have c27b0 : decide (x12_3 < (l0.length : Int)) = false := decide_eq_false c27
       clear c27
       simp only [Option.some.injEq, Prod.mk.injEq] at H
       obtain ⟨rfl, rfl⟩ := H
       go_wp2
       go_ret2
       exact ⟨_, by first | rfl | (simp [errW_none, errW_some] <;> rfl) | (simp [*, errW_none, errW_some] <;> rfl), by (with_reducible repeat apply y2); exact Kd.R_mono HO_10.out (fun _ hk => trivial), by repeat (first | (with_reducible first | exact HB.out | apply y3) | exact HB.out)⟩

end Go.Proofs.Ytmpldbccohdnjaa.P
