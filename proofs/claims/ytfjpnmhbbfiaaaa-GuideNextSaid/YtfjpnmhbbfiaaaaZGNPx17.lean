-- Printed by xprint.py (wip): functions, contracts, rows. Lean checks it.
import Derived.Test.YtfjpnmhbbfiaaaaZGNPx0
import Derived.Test.YtfjpnmhbbfiaaaaZGNPx16
import Derived.Test.YtfjpnmhbbfiaaaaZGNTiny
namespace Go.Proofs.Ytfjpnmhbbfiaaaa.P
open Go.RowKit Go.Proofs.YtfjpnmhbbfiaaaaW.PrintWords Go.Proofs.YtfjpnmhbbfiaaaaW.PrintLast Go.Proofs.YtfjpnmhbbfiaaaaW.PrintMore
attribute [local go_sem] max2_int min2_int max_two min_two max_three min_three max_four min_four   -- for this text's walks alone
set_option linter.unusedVariables false
set_option linter.unusedSimpArgs false

/-! ### heraldref15_Alive: function 22 -/
mutual
def heraldref15_Alive.l0 : Nat → List Bool → Int → List Bool → List (S93) → Option (List Bool)
  | 0, _, _, _, _ => none
  | k + 1, x3, x4, x236000, x236001 => if x4 < (x236000.length : Int) then (heraldref15_Alive.l1 k x3 x4 0 x236000 x236001) else (some x3)
def heraldref15_Alive.l1 : Nat → List Bool → Int → Int → List Bool → List (S93) → Option (List Bool)
  | 0, _, _, _, _, _ => none
  | k + 1, x3, x4, x5, x236000, x236001 => if x5 < (x236001.length : Int) then (if 0 ≤ x5 then ((heraldref15_state.f x236000 x236001 ((rd_T93 x236001 x5).f0)).bind fun t244 => (if t244 = true then ((heraldref15_state.f x236000 x236001 ((rd_T93 x236001 x5).f3)).bind fun t245 => (if t245 = true then (if 0 ≤ ((rd_T93 x236001 x5).f3) then (if ((rd_T93 x236001 x5).f3) < (x3.length : Int) then (if rdOf false x3 ((rd_T93 x236001 x5).f3) = true then (if 0 ≤ ((rd_T93 x236001 x5).f0) then (if ((rd_T93 x236001 x5).f0) < (x3.length : Int) then (heraldref15_Alive.l1 k (x3.set (((rd_T93 x236001 x5).f0) : Int).toNat true) x4 (wrap64 (x5 + 1)) x236000 x236001) else (none)) else (none)) else (heraldref15_Alive.l1 k x3 x4 (wrap64 (x5 + 1)) x236000 x236001)) else (none)) else (none)) else (heraldref15_Alive.l1 k x3 x4 (wrap64 (x5 + 1)) x236000 x236001))) else (heraldref15_Alive.l1 k x3 x4 (wrap64 (x5 + 1)) x236000 x236001))) else (none)) else (heraldref15_Alive.l0 k x3 (wrap64 (x4 + 1)) x236000 x236001)
end
def heraldref15_Alive.f (k : Nat) (l0_0 : List Bool) (l0_1 : List (S93)) : Option (List Bool) := (some (([] : List Bool) : List Bool)).bind fun y236 => (if y236.length + l0_0.length < 140737488355328 then (heraldref15_Alive.l0 k (y236 ++ l0_0) 0 l0_0 l0_1) else (none))
theorem heraldref15_Alive.mono_l : ∀ k, (∀ y0 y1 y2 y3, LeO (heraldref15_Alive.l0 k y0 y1 y2 y3) (heraldref15_Alive.l0 (k + 1) y0 y1 y2 y3)) ∧ (∀ y0 y1 y2 y3 y4, LeO (heraldref15_Alive.l1 k y0 y1 y2 y3 y4) (heraldref15_Alive.l1 (k + 1) y0 y1 y2 y3 y4))
  | 0 => ⟨fun _ _ _ _ r h => by simp [heraldref15_Alive.l0] at h, fun _ _ _ _ _ r h => by simp [heraldref15_Alive.l1] at h⟩
  | k + 1 => by
    obtain ⟨ih0, ih1⟩ := heraldref15_Alive.mono_l k
    refine ⟨?_, ?_⟩
    · intro y0 y1 y2 y3
      unfold heraldref15_Alive.l0
      repeat' first
      | (with_reducible exact ih0 _ _ _ _)
      | (with_reducible exact ih1 _ _ _ _ _)
      | (with_reducible exact LeO.refl _)
      | (with_reducible exact LeO.none _)
      | (with_reducible refine LeO.ite ?_ ?_)
      | (with_reducible refine LeO.bind ?_ (fun _ => ?_))
      | exact ih0 _ _ _ _
      | exact ih1 _ _ _ _ _
      | exact LeO.none _
      | refine LeO.ite ?_ ?_
      | refine LeO.bind ?_ (fun _ => ?_)
    · intro y0 y1 y2 y3 y4
      unfold heraldref15_Alive.l1
      repeat' first
      | (with_reducible exact ih0 _ _ _ _)
      | (with_reducible exact ih1 _ _ _ _ _)
      | (with_reducible exact LeO.refl _)
      | (with_reducible exact LeO.none _)
      | (with_reducible refine LeO.ite ?_ ?_)
      | (with_reducible refine LeO.bind ?_ (fun _ => ?_))
      | exact ih0 _ _ _ _
      | exact ih1 _ _ _ _ _
      | exact LeO.none _
      | refine LeO.ite ?_ ?_
      | refine LeO.bind ?_ (fun _ => ?_)
theorem heraldref15_Alive.mono : ∀ a0 a1 k, LeO (heraldref15_Alive.f k a0 a1) (heraldref15_Alive.f (k + 1) a0 a1) := by
  intro a0 a1 k
  obtain ⟨ih0, ih1⟩ := heraldref15_Alive.mono_l k
  unfold heraldref15_Alive.f
  repeat' first
      | (with_reducible exact ih0 _ _ _ _)
      | (with_reducible exact ih1 _ _ _ _ _)
      | (with_reducible exact LeO.refl _)
      | (with_reducible exact LeO.none _)
      | (with_reducible refine LeO.ite ?_ ?_)
      | (with_reducible refine LeO.bind ?_ (fun _ => ?_))
      | exact ih0 _ _ _ _
      | exact ih1 _ _ _ _ _
      | exact LeO.none _
      | refine LeO.ite ?_ ?_
      | refine LeO.bind ?_ (fun _ => ?_)
set_option maxHeartbeats 8000000 in
set_option maxRecDepth 100000 in
theorem heraldref15_Alive.calls (k : Nat) (A0_0 : Option Addr) (c0_0 : Nat) (l0_0 : List Bool) (A0_1 : Option Addr) (c0_1 : Nat) (l0_1 : List (S93)) (r : List Bool) (w : World) (hr0_0 : Kd.C Kd.bool w A0_0 l0_0.length l0_0) (hc0_0 : l0_0.length ≤ c0_0) (hr0_1 : Kd.C k93 w A0_1 l0_1.length l0_1) (hc0_1 : l0_1.length ≤ c0_1) (h : heraldref15_Alive.f k l0_0 l0_1 = some r) :
    Calls Try.prog 22 #[.agg #[.slice A0_0 l0_0.length c0_0, .slice A0_1 l0_1.length c0_1]] w fun e w' => ∃ v0_ : Value, e = .returned (v0_) ∧ Kd.R Kd.bool 4 w' w.heap.size (fun _ => True) v0_ r ∧ Below w.heap.size w w' := by
 have hu28 := Try.underlying28
 have hu93 := Try.underlying93
 have HR0_0 := ym hr0_0
 have HC0_0 := ym hc0_0
 clear hr0_0 hc0_0
 have HR0_1 := ym hr0_1
 have HC0_1 := ym hc0_1
 clear hr0_1 hc0_1
 have HB := ym (Below.refl w.heap.size w)
 have H : ((some (([] : List Bool) : List Bool)).bind fun y236 => (if y236.length + l0_0.length < 140737488355328 then (heraldref15_Alive.l0 k (y236 ++ l0_0) 0 l0_0 l0_1) else (none))) = some r := h
 clear h
 obtain ⟨y236, hy236⟩ : ∃ y_ : List Bool, y_ = (([] : List Bool)) := ⟨_, rfl⟩
 replace H : (if y236.length + l0_0.length < 140737488355328 then (heraldref15_Alive.l0 k (y236 ++ l0_0) 0 l0_0 l0_1) else (none)) = some r := by first | (rw [hy236]; with_reducible exact H) | (have H2_ := (Option.bind_some _ _).symm.trans H; rw [hy236]; with_reducible exact H2_) | (have H2_ := (Option.bind_some _ _).symm.trans H; with_reducible exact H2_) | with_reducible exact H | (rw [hy236]; exact H) | exact H
 have Ny236 := ym hy236
 clear hy236
 by_cases c2 : y236.length + l0_0.length < 140737488355328
 ·
  rw [if_pos c2] at H
  have LMc2 := ym c2
  clear c2
  obtain ⟨y239, hy239⟩ : ∃ y_ : List Bool, y_ = (y236 ++ l0_0) := ⟨_, rfl⟩
  replace H : (heraldref15_Alive.l0 k y239 0 l0_0 l0_1) = some r := by first | (rw [hy239]; with_reducible exact H) | (have H2_ := (Option.bind_some _ _).symm.trans H; rw [hy239]; with_reducible exact H2_) | (have H2_ := (Option.bind_some _ _).symm.trans H; with_reducible exact H2_) | with_reducible exact H | (rw [hy239]; exact H) | exact H
  have Ny239 := ym hy239
  clear hy239
  have H' := ym H
  clear H
  go_enter Try.func22, Try.ntmps22
  go_wp2_with (first | ((with_reducible refine gate_dst (N := 1) rfl ?_); refine box_event ?hg (N := 1) ?hd (cs := #[.slice A0_0 l0_0.length c0_0, .slice A0_1 l0_1.length c0_1]) (t := 28) ?hr ?_; (case hd => rfl); (case hg => rfl); (case hr => first | (go_simp; done) | (go_simp; rfl)); intro gb235 hg w3 hbox hb; have n0_ := ym (yn yb hb); have n1_ := ym (hbox); have n2_ := ym ((by rw [hg]; exact (below_size yb) : w.heap.size ≤ gb235)); have n3_ := n2_; clear HB; have HB := n0_; have BK235 := n1_; have GW235 := n2_; have GE235 := n3_; clear n0_ n1_ n2_ n3_; clear hb hbox hg) | ((with_reducible refine gate_dst (N := 7) rfl ?_); refine Kd.R_lit Kd.bool _ 4 ?hg (N := 7) ?hd (xs := ([] : List Bool)) (inner := []) (ok := fun _ => True) (okp := fun _ => True) ?hr ?hp (fun _ hk => hk) trivial (Below.refl _ _) (Nat.le_refl _) (by simp) ?_; (case hd => rfl); (case hg => rfl); (case hr => first | (go_simp; done) | (go_simp; rfl)); (case hp => exact (Reps.none _ _)); intro v237 w4 ho5 hb hg_ hnew_; clear hg_ hnew_; (first | rw [← Ny236.out] at ho5 | (simp only [Int.reduceToNat] at ho5; rw [← Ny236.out] at ho5)); have n0_ := ym (yo ho5 (below_size yb)); have n1_ := ym (yq (g := gb235) (o := .cells #[.slice A0_0 l0_0.length c0_0, .slice A0_1 l0_1.length c0_1] 28 (0, 0)) (yc BK235) hb); have n2_ := ym (yn yb hb); clear BK235; clear HB; have HO238 := n0_; have BK235 := n1_; have HB := n2_; clear n0_ n1_ n2_; clear hb ho5; have hcz6_0 : w4.cell? ⟨gb235, 0, none⟩ = some (.slice A0_0 l0_0.length c0_0) := (yw BK235.out 0).trans rfl; have hcz6_1 : w4.cell? ⟨gb235, 1, none⟩ = some (.slice A0_1 l0_1.length c0_1) := (yw BK235.out 1).trans rfl; have hfz6_0 := yv BK235.out 0; have hfz6_1 := yv BK235.out 1) | ((with_reducible refine gate_builtin (b := .append) (xs := #[.tmp 7, .tmp 9]) rfl ?_); at_builtin; refine Kd.R_append_rows Kd.bool (w0 := w) w.heap.size rfl (.tmp 7) (.tmp 9) 22 4 (.bool false) 1 rfl Try.underlying22 info4 rfl (by decide) (by omega) v237 y236 l0_0 _ _ _ (fun _ => True) (fun _ => False) rfl rfl ?aO ?aR (fun _ _ h => h) (fun _ h => h.elim) ?aF ?aB ?aS ?aL ?_; (case aR => repeat (first | exact (Kd.C_below HR0_0.out HB.out) | (with_reducible refine yi ?_ _) | (with_reducible refine yj ?_ _) | (with_reducible refine yk ?_))); (case aB => exact yb); (case aF => exact (fun _ _ => trivial)); (case aO => exact (by (with_reducible repeat apply y2); exact HO238.out)); (case aS => exact (below_size yb)); (case aL => have := LMc2.out; omega); intro v240 w7 ho hb hg hat; rw [← Ny239.out] at ho; have n0_ := ym (blk_grown (g := gb235) (o := .cells #[.slice A0_0 l0_0.length c0_0, .slice A0_1 l0_1.length c0_1] 28 (0, 0)) (yc BK235) hg (Kd.R_ne HO238.out BK235.out (by decide))); have n1_ := ym (hb); have n2_ := ym (ho); clear BK235; clear HB; clear HO238; have BK235 := n0_; have HB := n1_; have HO241 := n2_; clear n0_ n1_ n2_; clear ho hb hg hat))
  go_loopg [4] k (fun kq v4 w' => ∃ (x3_1 : List Bool) (x4_1 : Int), v4 = .int .i64 x4_1 ∧ Aside0 (heraldref15_Alive.l0 kq x3_1 x4_1 l0_0 l0_1 = some r) ∧ Aside0 (kq ≤ k) ∧ Aside0 (Kd.R Kd.bool 4 w' w.heap.size (fun _ => True) v240 x3_1) ∧ Aside0 (w'.heap[gb235]? = some (.cells #[(.slice A0_0 l0_0.length c0_0), (.slice A0_1 l0_1.length c0_1)] 28 (0, 0))) ∧ Aside0 (Below w.heap.size w w'))
  case atStart => exact ⟨(y239), (0), y7, H', ⟨Nat.le_refl _⟩, ⟨by (with_reducible repeat apply y2); exact HO241.out⟩, ⟨by (with_reducible repeat refine y4 ?_); exact BK235.out⟩, ⟨by repeat (first | (with_reducible first | exact HB.out | apply y3 | refine ys ?_ GE235.out) | exact HB.out)⟩⟩
  case round =>
   clear H'
   try clear c2
   try clear p2
   try clear hcz6_0
   try clear hcz6_1
   try clear hfz6_0
   try clear hfz6_1
   obtain ⟨x3_1, x4_1, rfl, HA, HK1, HO_3, BK235, HB⟩ := hrel
   cases gk with
   | zero => exact absurd HA.out (by simp [heraldref15_Alive.l0])
   | succ k1 =>
    have H := HA.out
    clear HA
    simp only [heraldref15_Alive.l0] at H
    by_cases c8 : x4_1 < (l0_0.length : Int)
    ·
     rw [if_pos c8] at H
     have c8b0 : decide (x4_1 < (l0_0.length : Int)) = true := decide_eq_true c8
     clear c8
     have H' := ym H
     clear H
     have hcz9_0 : wr.cell? ⟨gb235, 0, none⟩ = some (.slice A0_0 l0_0.length c0_0) := (yw BK235.out 0).trans rfl
     have hcz9_1 : wr.cell? ⟨gb235, 1, none⟩ = some (.slice A0_1 l0_1.length c0_1) := (yw BK235.out 1).trans rfl
     have hfz9_0 := yv BK235.out 0
     have hfz9_1 := yv BK235.out 1
     go_wp2
     go_loopg [5] k1 (fun kq v5 w' => ∃ (x3_2 : List Bool) (x5_2 : Int), v5 = .int .i64 x5_2 ∧ Aside0 (heraldref15_Alive.l1 kq x3_2 x4_1 x5_2 l0_0 l0_1 = some r) ∧ Aside0 (kq ≤ k1) ∧ Aside0 (Kd.R Kd.bool 4 w' w.heap.size (fun _ => True) v240 x3_2) ∧ Aside0 (w'.heap[gb235]? = some (.cells #[(.slice A0_0 l0_0.length c0_0), (.slice A0_1 l0_1.length c0_1)] 28 (0, 0))) ∧ Aside0 (Below w.heap.size w w'))
     case atStart => exact ⟨(x3_1), (0), y7, H', ⟨Nat.le_refl _⟩, ⟨by (with_reducible repeat apply y2); exact HO_3.out⟩, ⟨by (with_reducible repeat refine y4 ?_); exact BK235.out⟩, ⟨by repeat (first | (with_reducible first | exact HB.out | apply y3 | refine ys ?_ GE235.out) | exact HB.out)⟩⟩
     case round =>
      clear H'
      try clear c2
      try clear p2
      try clear c8
      try clear c8b0
      try clear hcz6_0
      try clear hcz6_1
      try clear hcz9_0
      try clear hcz9_1
      try clear hfz6_0
      try clear hfz6_1
      try clear hfz9_0
      try clear hfz9_1
      try clear p2
      obtain ⟨x3_2, x5_2, rfl, HA, HK2, HO_3, BK235, HB⟩ := hrel
      cases gk with
      | zero => exact absurd HA.out (by simp [heraldref15_Alive.l1])
      | succ k2 =>
       have H := HA.out
       clear HA
       simp only [heraldref15_Alive.l1] at H
       by_cases c10 : x5_2 < (l0_1.length : Int)
       ·
        rw [if_pos c10] at H
        have c10b0 : decide (x5_2 < (l0_1.length : Int)) = true := decide_eq_true c10
        clear c10
        by_cases c11 : 0 ≤ x5_2
        ·
         rw [if_pos c11] at H
         have c11b0 : decide (0 ≤ x5_2) = true := decide_eq_true c11
         clear c11
         replace H := Option.bind_eq_some_iff.mp H
         obtain ⟨t244, A120, H⟩ := H
         replace H : (if t244 = true then ((heraldref15_state.f l0_0 l0_1 ((rd_T93 l0_1 x5_2).f3)).bind fun t245 => (if t245 = true then (if 0 ≤ ((rd_T93 l0_1 x5_2).f3) then (if ((rd_T93 l0_1 x5_2).f3) < (x3_2.length : Int) then (if rdOf false x3_2 ((rd_T93 l0_1 x5_2).f3) = true then (if 0 ≤ ((rd_T93 l0_1 x5_2).f0) then (if ((rd_T93 l0_1 x5_2).f0) < (x3_2.length : Int) then (heraldref15_Alive.l1 k2 (x3_2.set (((rd_T93 l0_1 x5_2).f0) : Int).toNat true) x4_1 (wrap64 (x5_2 + 1)) l0_0 l0_1) else (none)) else (none)) else (heraldref15_Alive.l1 k2 x3_2 x4_1 (wrap64 (x5_2 + 1)) l0_0 l0_1)) else (none)) else (none)) else (heraldref15_Alive.l1 k2 x3_2 x4_1 (wrap64 (x5_2 + 1)) l0_0 l0_1))) else (heraldref15_Alive.l1 k2 x3_2 x4_1 (wrap64 (x5_2 + 1)) l0_0 l0_1)) = some r := H
         have A12 := ym A120
         clear A120
         by_cases c13 : t244 = true
         ·
          subst c13
          have H1 : ((heraldref15_state.f l0_0 l0_1 ((rd_T93 l0_1 x5_2).f3)).bind fun t245 => (if t245 = true then (if 0 ≤ ((rd_T93 l0_1 x5_2).f3) then (if ((rd_T93 l0_1 x5_2).f3) < (x3_2.length : Int) then (if rdOf false x3_2 ((rd_T93 l0_1 x5_2).f3) = true then (if 0 ≤ ((rd_T93 l0_1 x5_2).f0) then (if ((rd_T93 l0_1 x5_2).f0) < (x3_2.length : Int) then (heraldref15_Alive.l1 k2 (x3_2.set (((rd_T93 l0_1 x5_2).f0) : Int).toNat true) x4_1 (wrap64 (x5_2 + 1)) l0_0 l0_1) else (none)) else (none)) else (heraldref15_Alive.l1 k2 x3_2 x4_1 (wrap64 (x5_2 + 1)) l0_0 l0_1)) else (none)) else (none)) else (heraldref15_Alive.l1 k2 x3_2 x4_1 (wrap64 (x5_2 + 1)) l0_0 l0_1))) = some r := by rw [if_pos rfl] at H; exact H
          clear H
          have H := H1
          clear H1
          replace H := Option.bind_eq_some_iff.mp H
          obtain ⟨t245, A140, H⟩ := H
          replace H : (if t245 = true then (if 0 ≤ ((rd_T93 l0_1 x5_2).f3) then (if ((rd_T93 l0_1 x5_2).f3) < (x3_2.length : Int) then (if rdOf false x3_2 ((rd_T93 l0_1 x5_2).f3) = true then (if 0 ≤ ((rd_T93 l0_1 x5_2).f0) then (if ((rd_T93 l0_1 x5_2).f0) < (x3_2.length : Int) then (heraldref15_Alive.l1 k2 (x3_2.set (((rd_T93 l0_1 x5_2).f0) : Int).toNat true) x4_1 (wrap64 (x5_2 + 1)) l0_0 l0_1) else (none)) else (none)) else (heraldref15_Alive.l1 k2 x3_2 x4_1 (wrap64 (x5_2 + 1)) l0_0 l0_1)) else (none)) else (none)) else (heraldref15_Alive.l1 k2 x3_2 x4_1 (wrap64 (x5_2 + 1)) l0_0 l0_1)) = some r := H
          have A14 := ym A140
          clear A140
          by_cases c15 : t245 = true
          ·
           subst c15
           have H1 : (if 0 ≤ ((rd_T93 l0_1 x5_2).f3) then (if ((rd_T93 l0_1 x5_2).f3) < (x3_2.length : Int) then (if rdOf false x3_2 ((rd_T93 l0_1 x5_2).f3) = true then (if 0 ≤ ((rd_T93 l0_1 x5_2).f0) then (if ((rd_T93 l0_1 x5_2).f0) < (x3_2.length : Int) then (heraldref15_Alive.l1 k2 (x3_2.set (((rd_T93 l0_1 x5_2).f0) : Int).toNat true) x4_1 (wrap64 (x5_2 + 1)) l0_0 l0_1) else (none)) else (none)) else (heraldref15_Alive.l1 k2 x3_2 x4_1 (wrap64 (x5_2 + 1)) l0_0 l0_1)) else (none)) else (none)) = some r := by rw [if_pos rfl] at H; exact H
           clear H
           have H := H1
           clear H1
           by_cases c16 : 0 ≤ ((rd_T93 l0_1 x5_2).f3)
           ·
            rw [if_pos c16] at H
            have c16b0 : decide (0 ≤ ((rd_T93 l0_1 x5_2).f3)) = true := decide_eq_true c16
            clear c16
            by_cases c17 : ((rd_T93 l0_1 x5_2).f3) < (x3_2.length : Int)
            ·
             rw [if_pos c17] at H
             have c17b0 : decide (((rd_T93 l0_1 x5_2).f3) < (x3_2.length : Int)) = true := decide_eq_true c17
             clear c17
             obtain ⟨bq18, hbq18⟩ : ∃ b_ : Bool, b_ = (rdOf false x3_2 ((rd_T93 l0_1 x5_2).f3)) := ⟨_, rfl⟩
             replace H : (if bq18 = true then (if 0 ≤ ((rd_T93 l0_1 x5_2).f0) then (if ((rd_T93 l0_1 x5_2).f0) < (x3_2.length : Int) then (heraldref15_Alive.l1 k2 (x3_2.set (((rd_T93 l0_1 x5_2).f0) : Int).toNat true) x4_1 (wrap64 (x5_2 + 1)) l0_0 l0_1) else (none)) else (none)) else (heraldref15_Alive.l1 k2 x3_2 x4_1 (wrap64 (x5_2 + 1)) l0_0 l0_1)) = some r := by rw [← hbq18] at H; exact H
             have Nbq18 := ym hbq18
             clear hbq18
             by_cases c19 : bq18 = true
             ·
              subst c19
              have H1 : (if 0 ≤ ((rd_T93 l0_1 x5_2).f0) then (if ((rd_T93 l0_1 x5_2).f0) < (x3_2.length : Int) then (heraldref15_Alive.l1 k2 (x3_2.set (((rd_T93 l0_1 x5_2).f0) : Int).toNat true) x4_1 (wrap64 (x5_2 + 1)) l0_0 l0_1) else (none)) else (none)) = some r := by rw [if_pos rfl] at H; exact H
              clear H
              have H := H1
              clear H1
              by_cases c20 : 0 ≤ ((rd_T93 l0_1 x5_2).f0)
              ·
               rw [if_pos c20] at H
               have c20b0 : decide (0 ≤ ((rd_T93 l0_1 x5_2).f0)) = true := decide_eq_true c20
               clear c20
               by_cases c21 : ((rd_T93 l0_1 x5_2).f0) < (x3_2.length : Int)
               ·
                rw [if_pos c21] at H
                have c21b0 : decide (((rd_T93 l0_1 x5_2).f0) < (x3_2.length : Int)) = true := decide_eq_true c21
                clear c21
                obtain ⟨y247, hy247⟩ : ∃ y_ : List Bool, y_ = (x3_2.set (((rd_T93 l0_1 x5_2).f0) : Int).toNat true) := ⟨_, rfl⟩
                replace H : (heraldref15_Alive.l1 k2 y247 x4_1 (wrap64 (x5_2 + 1)) l0_0 l0_1) = some r := by first | (rw [hy247]; with_reducible exact H) | (have H2_ := (Option.bind_some _ _).symm.trans H; rw [hy247]; with_reducible exact H2_) | (have H2_ := (Option.bind_some _ _).symm.trans H; with_reducible exact H2_) | with_reducible exact H | (rw [hy247]; exact H) | exact H
                have Ny247 := ym hy247
                clear hy247
                have H' := ym H
                clear H
                have hcz23_0 : wr.cell? ⟨gb235, 0, none⟩ = some (.slice A0_0 l0_0.length c0_0) := (yw BK235.out 0).trans rfl
                have hcz23_1 : wr.cell? ⟨gb235, 1, none⟩ = some (.slice A0_1 l0_1.length c0_1) := (yw BK235.out 1).trans rfl
                have hfz23_0 := yv BK235.out 0
                have hfz23_1 := yv BK235.out 1
                have p242 : 0 ≤ (x5_2 : Int) := of_decide_eq_true y5
                have q242 : x5_2 < (l0_1.length : Int) := of_decide_eq_true y5
                obtain ⟨ad242, e242, hx242_0, hx242_1, hx242_2, hx242_3⟩ := at_T93 HR0_1.out x5_2 p242 q242
                cases e242
                replace hx242_0 := (HB.out.cell (World.block_lt_of_cell? w _ hx242_0)).trans hx242_0
                replace hx242_1 := (HB.out.cell (World.block_lt_of_cell? w _ hx242_1)).trans hx242_1
                replace hx242_2 := (HB.out.cell (World.block_lt_of_cell? w _ hx242_2)).trans hx242_2
                replace hx242_3 := (HB.out.cell (World.block_lt_of_cell? w _ hx242_3)).trans hx242_3
                replace p242 := eq_true p242
                replace q242 := eq_true q242
                go_wp2_with (first | ((with_reducible refine gate_dst (N := 6) rfl ?_); refine box_event ?hg (N := 6) ?hd (cs := #[.int .i64 0, .int .u8 0, .int .u8 0, .int .i64 0]) (t := 93) ?hr ?_; (case hd => rfl); (case hg => rfl); (case hr => first | (go_simp; done) | (go_simp; rfl)); intro gb243 hg w24 hbox hb; have n0_ := ym (yp (by (with_reducible repeat apply y2); exact HO_3.out) hb); have n1_ := ym (yq (g := gb235) (o := .cells #[.slice A0_0 l0_0.length c0_0, .slice (some ad242) l0_1.length c0_1] 28 (0, 0)) (yc BK235) hb); have n2_ := ym (yn yb hb); have n3_ := ym (hbox); have n4_ := ym ((by rw [hg]; exact (below_size yb) : w.heap.size ≤ gb243)); have n5_ := n4_; have n6_ := ym ((by rw [hg]; exact Nat.ne_of_lt (blk_lt (g := gb235) (o := .cells #[.slice A0_0 l0_0.length c0_0, .slice (some ad242) l0_1.length c0_1] 28 (0, 0)) (yc BK235)) : gb235 ≠ gb243)); have n7_ := ym ((by rw [hg]; exact Nat.ne_of_gt (blk_lt (g := gb235) (o := .cells #[.slice A0_0 l0_0.length c0_0, .slice (some ad242) l0_1.length c0_1] 28 (0, 0)) (yc BK235)) : gb243 ≠ gb235)); clear HO_3; clear BK235; clear HB; have HO_3 := n0_; have BK235 := n1_; have HB := n2_; have BK243 := n3_; have GW243 := n4_; have GE243 := n5_; have NB235_243 := n6_; have NB243_235 := n7_; clear n0_ n1_ n2_ n3_ n4_ n5_ n6_ n7_; clear hb hbox hg; have hnb25 := NB243_235.out; have hnc25 := NB235_243.out; have hcz26_0 : w24.cell? ⟨gb243, 0, none⟩ = some (.int .i64 0) := (yw BK243.out 0).trans rfl; have hcz26_1 : w24.cell? ⟨gb243, 1, none⟩ = some (.int .u8 0) := (yw BK243.out 1).trans rfl; have hcz26_2 : w24.cell? ⟨gb243, 2, none⟩ = some (.int .u8 0) := (yw BK243.out 2).trans rfl; have hcz26_3 : w24.cell? ⟨gb243, 3, none⟩ = some (.int .i64 0) := (yw BK243.out 3).trans rfl; have hfz26_0 := yv BK243.out 0; have hfz26_1 := yv BK243.out 1; have hfz26_2 := yv BK243.out 2; have hfz26_3 := yv BK243.out 3; have hcz27_0 : w24.cell? ⟨gb235, 0, none⟩ = some (.slice A0_0 l0_0.length c0_0) := (yw BK235.out 0).trans rfl; have hcz27_1 : w24.cell? ⟨gb235, 1, none⟩ = some (.slice (some ad242) l0_1.length c0_1) := (yw BK235.out 1).trans rfl; have hfz27_0 := yv BK235.out 0; have hfz27_1 := yv BK235.out 1) | ((with_reducible refine gate_callee (f := 49) rfl ?_); refine goesL_ (some 33) rfl rfl Try.func49 (by kernel_rfl) rfl #[.agg #[.slice A0_0 l0_0.length c0_0, .slice (some ad242) l0_1.length c0_1], .int .i64 ((rd_T93 l0_1 x5_2).f0)] rfl y6 ?_; (with_reducible refine (heraldref15_state.calls _ _ l0_0 _ _ l0_1 ((rd_T93 l0_1 x5_2).f0) true _ ?side1 ?side2 ?side3 ?side4 A12.out).mono ?_); (case side1 => exact Kd.C_below HR0_0.out yb); (case side2 => exact HC0_0.out); (case side3 => exact Kd.C_below HR0_1.out yb); (case side4 => exact HC0_1.out); rintro e w28 ⟨rfl, hb⟩; refine ⟨_, rfl, ?_⟩; have n0_ := ym (yp (by (with_reducible repeat apply y2); exact (Kd.R_mono (Kd.R_far (p := ⟨gb243, 3, none⟩) (Kd.R_far (p := ⟨gb243, 2, none⟩) (Kd.R_far (p := ⟨gb243, 1, none⟩) (Kd.R_far (p := ⟨gb243, 0, none⟩) (Kd.R_types HO_3.out BK243.out (by decide)) (fun _ hk => hk.2) (.int .i64 ((rd_T93 l0_1 x5_2).f0))) (fun _ hk => hk.2) (.int .u8 ((rd_T93 l0_1 x5_2).f1))) (fun _ hk => hk.2) (.int .u8 ((rd_T93 l0_1 x5_2).f2))) (fun _ hk => hk.2) (.int .i64 ((rd_T93 l0_1 x5_2).f3))) (fun _ h_ => h_.1))) hb); have n1_ := ym (yq (g := gb235) (o := .cells #[.slice A0_0 l0_0.length c0_0, .slice (some ad242) l0_1.length c0_1] 28 (0, 0)) (by (with_reducible repeat refine y4 ?_); refine yx ?_ NB235_243.out _; (with_reducible repeat refine y4 ?_); refine yx ?_ NB235_243.out _; (with_reducible repeat refine y4 ?_); refine yx ?_ NB235_243.out _; (with_reducible repeat refine y4 ?_); refine yx ?_ NB235_243.out _; (with_reducible repeat refine y4 ?_); exact BK235.out) hb); have n2_ := ym (yq (g := gb243) (o := .cells #[.int .i64 ((rd_T93 l0_1 x5_2).f0), .int .u8 ((rd_T93 l0_1 x5_2).f1), .int .u8 ((rd_T93 l0_1 x5_2).f2), .int .i64 ((rd_T93 l0_1 x5_2).f3)] 93 (0, 0)) (by (with_reducible repeat refine y4 ?_); refine yy (cs := #[.int .i64 ((rd_T93 l0_1 x5_2).f0), .int .u8 ((rd_T93 l0_1 x5_2).f1), .int .u8 ((rd_T93 l0_1 x5_2).f2), .int .i64 0]) ?_ 3 _ rfl; (with_reducible repeat refine y4 ?_); refine yy (cs := #[.int .i64 ((rd_T93 l0_1 x5_2).f0), .int .u8 ((rd_T93 l0_1 x5_2).f1), .int .u8 0, .int .i64 0]) ?_ 2 _ rfl; (with_reducible repeat refine y4 ?_); refine yy (cs := #[.int .i64 ((rd_T93 l0_1 x5_2).f0), .int .u8 0, .int .u8 0, .int .i64 0]) ?_ 1 _ rfl; (with_reducible repeat refine y4 ?_); refine yy (cs := #[.int .i64 0, .int .u8 0, .int .u8 0, .int .i64 0]) ?_ 0 _ rfl; (with_reducible repeat refine y4 ?_); exact BK243.out) hb); have n3_ := ym (yn yb hb); clear HO_3; clear BK235; clear BK243; clear HB; have HO_3 := n0_; have BK235 := n1_; have BK243 := n2_; have HB := n3_; clear n0_ n1_ n2_ n3_; (try clear hb); (try clear hb2); (try clear hk); (try clear hi); have hcz29_0 : w28.cell? ⟨gb235, 0, none⟩ = some (.slice A0_0 l0_0.length c0_0) := (yw BK235.out 0).trans rfl; have hcz29_1 : w28.cell? ⟨gb235, 1, none⟩ = some (.slice (some ad242) l0_1.length c0_1) := (yw BK235.out 1).trans rfl; have hfz29_0 := yv BK235.out 0; have hfz29_1 := yv BK235.out 1; have hcz30_0 : w28.cell? ⟨gb243, 0, none⟩ = some (.int .i64 ((rd_T93 l0_1 x5_2).f0)) := (yw BK243.out 0).trans rfl; have hcz30_1 : w28.cell? ⟨gb243, 1, none⟩ = some (.int .u8 ((rd_T93 l0_1 x5_2).f1)) := (yw BK243.out 1).trans rfl; have hcz30_2 : w28.cell? ⟨gb243, 2, none⟩ = some (.int .u8 ((rd_T93 l0_1 x5_2).f2)) := (yw BK243.out 2).trans rfl; have hcz30_3 : w28.cell? ⟨gb243, 3, none⟩ = some (.int .i64 ((rd_T93 l0_1 x5_2).f3)) := (yw BK243.out 3).trans rfl; have hfz30_0 := yv BK243.out 0; have hfz30_1 := yv BK243.out 1; have hfz30_2 := yv BK243.out 2; have hfz30_3 := yv BK243.out 3) | (go_at_call 49; (with_reducible refine (heraldref15_state.calls _ _ l0_0 _ _ l0_1 ((rd_T93 l0_1 x5_2).f3) true _ ?side1 ?side2 ?side3 ?side4 A14.out).mono ?_); (case side1 => exact y9 HR0_0); (case side2 => exact HC0_0.out); (case side3 => exact y9 HR0_1); (case side4 => exact HC0_1.out); rintro e w31 ⟨rfl, hb⟩; have n0_ := ym (yp (by (with_reducible repeat apply y2); exact HO_3.out) hb); have n1_ := ym (yq (g := gb235) (o := .cells #[.slice A0_0 l0_0.length c0_0, .slice (some ad242) l0_1.length c0_1] 28 (0, 0)) (yc BK235) hb); have n2_ := ym (yq (g := gb243) (o := .cells #[.int .i64 ((rd_T93 l0_1 x5_2).f0), .int .u8 ((rd_T93 l0_1 x5_2).f1), .int .u8 ((rd_T93 l0_1 x5_2).f2), .int .i64 ((rd_T93 l0_1 x5_2).f3)] 93 (0, 0)) (yc BK243) hb); have n3_ := ym (yn yb hb); clear HO_3; clear BK235; clear BK243; clear HB; have HO_3 := n0_; have BK235 := n1_; have BK243 := n2_; have HB := n3_; clear n0_ n1_ n2_ n3_; (try clear hb); (try clear hb2); (try clear hk); (try clear hi); have hcz32_0 : w31.cell? ⟨gb243, 0, none⟩ = some (.int .i64 ((rd_T93 l0_1 x5_2).f0)) := (yw BK243.out 0).trans rfl; have hcz32_1 : w31.cell? ⟨gb243, 1, none⟩ = some (.int .u8 ((rd_T93 l0_1 x5_2).f1)) := (yw BK243.out 1).trans rfl; have hcz32_2 : w31.cell? ⟨gb243, 2, none⟩ = some (.int .u8 ((rd_T93 l0_1 x5_2).f2)) := (yw BK243.out 2).trans rfl; have hcz32_3 : w31.cell? ⟨gb243, 3, none⟩ = some (.int .i64 ((rd_T93 l0_1 x5_2).f3)) := (yw BK243.out 3).trans rfl; have hfz32_0 := yv BK243.out 0; have hfz32_1 := yv BK243.out 1; have hfz32_2 := yv BK243.out 2; have hfz32_3 := yv BK243.out 3; obtain ⟨Ao33, co33, eo33⟩ := Kd.R_slice HO_3.out; subst eo33; have p246 : 0 ≤ (((rd_T93 l0_1 x5_2).f3) : Int) := of_decide_eq_true y5; have q246 : ((rd_T93 l0_1 x5_2).f3) < (x3_2.length : Int) := of_decide_eq_true y5; obtain ⟨ad246, e246, hx246_0⟩ := Kd.at_bool (Kd.R_reads' HO_3.out).2.2 ((rd_T93 l0_1 x5_2).f3) p246 q246; (try rw [← Nbq18.out] at hx246_0); cases e246; replace p246 := eq_true p246; replace q246 := eq_true q246; have p22 : 0 ≤ (((rd_T93 l0_1 x5_2).f0) : Int) := of_decide_eq_true y5; have q22 : (((rd_T93 l0_1 x5_2).f0) : Int) < ((x3_2.length : Int) : Int) := of_decide_eq_true y5; obtain ⟨go22, co22, eo22, gb22, gl22, cl22, HG22⟩ := Kd.R_form HO_3.out (by omega); (first | cases eo22 | (injection eo22 with ea_ en_ ec_; (first | subst ea_ | (injection ea_ with ea_; subst ea_)); subst ec_; clear en_)); have GB22 := ym gb22; have GG22 := ym HG22; clear gb22 gl22 HG22; (first | simp only [add_plain] at hx246_0 | skip); obtain ⟨hx22_0, hf22_0⟩ := Kd.R_celln false HO_3.out (((rd_T93 l0_1 x5_2).f0) : Int) p22 q22; replace p22 := eq_true p22; replace q22 := eq_true q22; obtain ⟨hy34_, hz34_⟩ := Kd.R_celln false HO_3.out (((rd_T93 l0_1 x5_2).f0) : Int) (of_decide_eq_true y5) (of_decide_eq_true y5); have HP34 := Kd.R_putg HO_3.out (((rd_T93 l0_1 x5_2).f0) : Int) true) | ((with_reducible refine gate_store (t := 4) (p := 50) rfl ?_); refine store_event (t := 4) (p := 50) (v := ?vo_w35) (w1 := (w31.setCell ⟨go22, (((rd_T93 l0_1 x5_2).f0) : Int).toNat, none⟩ (.bool true))) ?hg ?ho ?hn ?hr ?_; (case ho => rfl); (case hg => rfl); (case hn => rfl); (case hr => first | (go_simp; done) | (go_simp; rfl)); intro w35 hw; have hg : w31.grownBy w35 (some go22) := (by rw [hw]; exact HP34.2); have hp_ : Kd.R Kd.bool 4 w35 w.heap.size (fun _ => True) (.slice (some ⟨go22, 0, none⟩) x3_2.length co33) y247 := (by rw [hw, Ny247.out]; exact HP34.1); clear HP34; have n0_ := ym (hp_); have n1_ := ym (blk_grown (g := gb235) (o := .cells #[.slice A0_0 l0_0.length c0_0, .slice (some ad242) l0_1.length c0_1] 28 (0, 0)) (yc BK235) hg (Kd.R_ne HO_3.out BK235.out (by decide))); have n2_ := ym (blk_grown (g := gb243) (o := .cells #[.int .i64 ((rd_T93 l0_1 x5_2).f0), .int .u8 ((rd_T93 l0_1 x5_2).f1), .int .u8 ((rd_T93 l0_1 x5_2).f2), .int .i64 ((rd_T93 l0_1 x5_2).f3)] 93 (0, 0)) (yc BK243) hg (Kd.R_ne HO_3.out BK243.out (by decide))); have n3_ := ym ((by rw [hw]; exact ys (HB.out) GB22.out : Below w.heap.size w w35)); clear HO_3; clear BK235; clear BK243; clear HB; have HO_3 := n0_; have BK235 := n1_; have BK243 := n2_; have HB := n3_; clear n0_ n1_ n2_ n3_; clear hg hw hp_))
                go_roundg k2
                case measure => have := HK1.out; have := HK2.out; omega
                case rel => exact ⟨(y247), (wrap64 (x5_2 + 1)), y7, H', ⟨by have := HK1.out; have := HK2.out; omega⟩, ⟨by (with_reducible repeat apply y2); exact HO_3.out⟩, ⟨by (with_reducible repeat refine y4 ?_); exact BK235.out⟩, ⟨by repeat (first | (with_reducible first | exact HB.out | apply y3 | refine ys ?_ GE235.out | refine ys ?_ GE243.out) | exact HB.out)⟩⟩
               rw [if_neg c21] at H
               exact absurd H (by simp)
              rw [if_neg c20] at H
              exact absurd H (by simp)
             replace c19 := Bool.eq_false_iff.mpr c19
             subst c19
             have H1 : (heraldref15_Alive.l1 k2 x3_2 x4_1 (wrap64 (x5_2 + 1)) l0_0 l0_1) = some r := by rw [if_neg (show ¬ (false = true) by decide)] at H; exact H
             clear H
             have H := H1
             clear H1
             have H' := ym H
             clear H
             have hcz36_0 : wr.cell? ⟨gb235, 0, none⟩ = some (.slice A0_0 l0_0.length c0_0) := (yw BK235.out 0).trans rfl
             have hcz36_1 : wr.cell? ⟨gb235, 1, none⟩ = some (.slice A0_1 l0_1.length c0_1) := (yw BK235.out 1).trans rfl
             have hfz36_0 := yv BK235.out 0
             have hfz36_1 := yv BK235.out 1
             have p242 : 0 ≤ (x5_2 : Int) := of_decide_eq_true y5
             have q242 : x5_2 < (l0_1.length : Int) := of_decide_eq_true y5
             obtain ⟨ad242, e242, hx242_0, hx242_1, hx242_2, hx242_3⟩ := at_T93 HR0_1.out x5_2 p242 q242
             cases e242
             replace hx242_0 := (HB.out.cell (World.block_lt_of_cell? w _ hx242_0)).trans hx242_0
             replace hx242_1 := (HB.out.cell (World.block_lt_of_cell? w _ hx242_1)).trans hx242_1
             replace hx242_2 := (HB.out.cell (World.block_lt_of_cell? w _ hx242_2)).trans hx242_2
             replace hx242_3 := (HB.out.cell (World.block_lt_of_cell? w _ hx242_3)).trans hx242_3
             replace p242 := eq_true p242
             replace q242 := eq_true q242
             go_wp2_with (first | ((with_reducible refine gate_dst (N := 6) rfl ?_); refine box_event ?hg (N := 6) ?hd (cs := #[.int .i64 0, .int .u8 0, .int .u8 0, .int .i64 0]) (t := 93) ?hr ?_; (case hd => rfl); (case hg => rfl); (case hr => first | (go_simp; done) | (go_simp; rfl)); intro gb243 hg w37 hbox hb; have n0_ := ym (yp (by (with_reducible repeat apply y2); exact HO_3.out) hb); have n1_ := ym (yq (g := gb235) (o := .cells #[.slice A0_0 l0_0.length c0_0, .slice (some ad242) l0_1.length c0_1] 28 (0, 0)) (yc BK235) hb); have n2_ := ym (yn yb hb); have n3_ := ym (hbox); have n4_ := ym ((by rw [hg]; exact (below_size yb) : w.heap.size ≤ gb243)); have n5_ := n4_; have n6_ := ym ((by rw [hg]; exact Nat.ne_of_lt (blk_lt (g := gb235) (o := .cells #[.slice A0_0 l0_0.length c0_0, .slice (some ad242) l0_1.length c0_1] 28 (0, 0)) (yc BK235)) : gb235 ≠ gb243)); have n7_ := ym ((by rw [hg]; exact Nat.ne_of_gt (blk_lt (g := gb235) (o := .cells #[.slice A0_0 l0_0.length c0_0, .slice (some ad242) l0_1.length c0_1] 28 (0, 0)) (yc BK235)) : gb243 ≠ gb235)); clear HO_3; clear BK235; clear HB; have HO_3 := n0_; have BK235 := n1_; have HB := n2_; have BK243 := n3_; have GW243 := n4_; have GE243 := n5_; have NB235_243 := n6_; have NB243_235 := n7_; clear n0_ n1_ n2_ n3_ n4_ n5_ n6_ n7_; clear hb hbox hg; have hnb38 := NB243_235.out; have hnc38 := NB235_243.out; have hcz39_0 : w37.cell? ⟨gb243, 0, none⟩ = some (.int .i64 0) := (yw BK243.out 0).trans rfl; have hcz39_1 : w37.cell? ⟨gb243, 1, none⟩ = some (.int .u8 0) := (yw BK243.out 1).trans rfl; have hcz39_2 : w37.cell? ⟨gb243, 2, none⟩ = some (.int .u8 0) := (yw BK243.out 2).trans rfl; have hcz39_3 : w37.cell? ⟨gb243, 3, none⟩ = some (.int .i64 0) := (yw BK243.out 3).trans rfl; have hfz39_0 := yv BK243.out 0; have hfz39_1 := yv BK243.out 1; have hfz39_2 := yv BK243.out 2; have hfz39_3 := yv BK243.out 3; have hcz40_0 : w37.cell? ⟨gb235, 0, none⟩ = some (.slice A0_0 l0_0.length c0_0) := (yw BK235.out 0).trans rfl; have hcz40_1 : w37.cell? ⟨gb235, 1, none⟩ = some (.slice (some ad242) l0_1.length c0_1) := (yw BK235.out 1).trans rfl; have hfz40_0 := yv BK235.out 0; have hfz40_1 := yv BK235.out 1) | ((with_reducible refine gate_callee (f := 49) rfl ?_); refine goesL_ (some 33) rfl rfl Try.func49 (by kernel_rfl) rfl #[.agg #[.slice A0_0 l0_0.length c0_0, .slice (some ad242) l0_1.length c0_1], .int .i64 ((rd_T93 l0_1 x5_2).f0)] rfl y6 ?_; (with_reducible refine (heraldref15_state.calls _ _ l0_0 _ _ l0_1 ((rd_T93 l0_1 x5_2).f0) true _ ?side1 ?side2 ?side3 ?side4 A12.out).mono ?_); (case side1 => exact Kd.C_below HR0_0.out yb); (case side2 => exact HC0_0.out); (case side3 => exact Kd.C_below HR0_1.out yb); (case side4 => exact HC0_1.out); rintro e w41 ⟨rfl, hb⟩; refine ⟨_, rfl, ?_⟩; have n0_ := ym (yp (by (with_reducible repeat apply y2); exact (Kd.R_mono (Kd.R_far (p := ⟨gb243, 3, none⟩) (Kd.R_far (p := ⟨gb243, 2, none⟩) (Kd.R_far (p := ⟨gb243, 1, none⟩) (Kd.R_far (p := ⟨gb243, 0, none⟩) (Kd.R_types HO_3.out BK243.out (by decide)) (fun _ hk => hk.2) (.int .i64 ((rd_T93 l0_1 x5_2).f0))) (fun _ hk => hk.2) (.int .u8 ((rd_T93 l0_1 x5_2).f1))) (fun _ hk => hk.2) (.int .u8 ((rd_T93 l0_1 x5_2).f2))) (fun _ hk => hk.2) (.int .i64 ((rd_T93 l0_1 x5_2).f3))) (fun _ h_ => h_.1))) hb); have n1_ := ym (yq (g := gb235) (o := .cells #[.slice A0_0 l0_0.length c0_0, .slice (some ad242) l0_1.length c0_1] 28 (0, 0)) (by (with_reducible repeat refine y4 ?_); refine yx ?_ NB235_243.out _; (with_reducible repeat refine y4 ?_); refine yx ?_ NB235_243.out _; (with_reducible repeat refine y4 ?_); refine yx ?_ NB235_243.out _; (with_reducible repeat refine y4 ?_); refine yx ?_ NB235_243.out _; (with_reducible repeat refine y4 ?_); exact BK235.out) hb); have n2_ := ym (yq (g := gb243) (o := .cells #[.int .i64 ((rd_T93 l0_1 x5_2).f0), .int .u8 ((rd_T93 l0_1 x5_2).f1), .int .u8 ((rd_T93 l0_1 x5_2).f2), .int .i64 ((rd_T93 l0_1 x5_2).f3)] 93 (0, 0)) (by (with_reducible repeat refine y4 ?_); refine yy (cs := #[.int .i64 ((rd_T93 l0_1 x5_2).f0), .int .u8 ((rd_T93 l0_1 x5_2).f1), .int .u8 ((rd_T93 l0_1 x5_2).f2), .int .i64 0]) ?_ 3 _ rfl; (with_reducible repeat refine y4 ?_); refine yy (cs := #[.int .i64 ((rd_T93 l0_1 x5_2).f0), .int .u8 ((rd_T93 l0_1 x5_2).f1), .int .u8 0, .int .i64 0]) ?_ 2 _ rfl; (with_reducible repeat refine y4 ?_); refine yy (cs := #[.int .i64 ((rd_T93 l0_1 x5_2).f0), .int .u8 0, .int .u8 0, .int .i64 0]) ?_ 1 _ rfl; (with_reducible repeat refine y4 ?_); refine yy (cs := #[.int .i64 0, .int .u8 0, .int .u8 0, .int .i64 0]) ?_ 0 _ rfl; (with_reducible repeat refine y4 ?_); exact BK243.out) hb); have n3_ := ym (yn yb hb); clear HO_3; clear BK235; clear BK243; clear HB; have HO_3 := n0_; have BK235 := n1_; have BK243 := n2_; have HB := n3_; clear n0_ n1_ n2_ n3_; (try clear hb); (try clear hb2); (try clear hk); (try clear hi); have hcz42_0 : w41.cell? ⟨gb235, 0, none⟩ = some (.slice A0_0 l0_0.length c0_0) := (yw BK235.out 0).trans rfl; have hcz42_1 : w41.cell? ⟨gb235, 1, none⟩ = some (.slice (some ad242) l0_1.length c0_1) := (yw BK235.out 1).trans rfl; have hfz42_0 := yv BK235.out 0; have hfz42_1 := yv BK235.out 1; have hcz43_0 : w41.cell? ⟨gb243, 0, none⟩ = some (.int .i64 ((rd_T93 l0_1 x5_2).f0)) := (yw BK243.out 0).trans rfl; have hcz43_1 : w41.cell? ⟨gb243, 1, none⟩ = some (.int .u8 ((rd_T93 l0_1 x5_2).f1)) := (yw BK243.out 1).trans rfl; have hcz43_2 : w41.cell? ⟨gb243, 2, none⟩ = some (.int .u8 ((rd_T93 l0_1 x5_2).f2)) := (yw BK243.out 2).trans rfl; have hcz43_3 : w41.cell? ⟨gb243, 3, none⟩ = some (.int .i64 ((rd_T93 l0_1 x5_2).f3)) := (yw BK243.out 3).trans rfl; have hfz43_0 := yv BK243.out 0; have hfz43_1 := yv BK243.out 1; have hfz43_2 := yv BK243.out 2; have hfz43_3 := yv BK243.out 3) | (go_at_call 49; (with_reducible refine (heraldref15_state.calls _ _ l0_0 _ _ l0_1 ((rd_T93 l0_1 x5_2).f3) true _ ?side1 ?side2 ?side3 ?side4 A14.out).mono ?_); (case side1 => exact y9 HR0_0); (case side2 => exact HC0_0.out); (case side3 => exact y9 HR0_1); (case side4 => exact HC0_1.out); rintro e w44 ⟨rfl, hb⟩; have n0_ := ym (yp (by (with_reducible repeat apply y2); exact HO_3.out) hb); have n1_ := ym (yq (g := gb235) (o := .cells #[.slice A0_0 l0_0.length c0_0, .slice (some ad242) l0_1.length c0_1] 28 (0, 0)) (yc BK235) hb); have n2_ := ym (yq (g := gb243) (o := .cells #[.int .i64 ((rd_T93 l0_1 x5_2).f0), .int .u8 ((rd_T93 l0_1 x5_2).f1), .int .u8 ((rd_T93 l0_1 x5_2).f2), .int .i64 ((rd_T93 l0_1 x5_2).f3)] 93 (0, 0)) (yc BK243) hb); have n3_ := ym (yn yb hb); clear HO_3; clear BK235; clear BK243; clear HB; have HO_3 := n0_; have BK235 := n1_; have BK243 := n2_; have HB := n3_; clear n0_ n1_ n2_ n3_; (try clear hb); (try clear hb2); (try clear hk); (try clear hi); have hcz45_0 : w44.cell? ⟨gb243, 0, none⟩ = some (.int .i64 ((rd_T93 l0_1 x5_2).f0)) := (yw BK243.out 0).trans rfl; have hcz45_1 : w44.cell? ⟨gb243, 1, none⟩ = some (.int .u8 ((rd_T93 l0_1 x5_2).f1)) := (yw BK243.out 1).trans rfl; have hcz45_2 : w44.cell? ⟨gb243, 2, none⟩ = some (.int .u8 ((rd_T93 l0_1 x5_2).f2)) := (yw BK243.out 2).trans rfl; have hcz45_3 : w44.cell? ⟨gb243, 3, none⟩ = some (.int .i64 ((rd_T93 l0_1 x5_2).f3)) := (yw BK243.out 3).trans rfl; have hfz45_0 := yv BK243.out 0; have hfz45_1 := yv BK243.out 1; have hfz45_2 := yv BK243.out 2; have hfz45_3 := yv BK243.out 3; obtain ⟨Ao46, co46, eo46⟩ := Kd.R_slice HO_3.out; subst eo46; have p246 : 0 ≤ (((rd_T93 l0_1 x5_2).f3) : Int) := of_decide_eq_true y5; have q246 : ((rd_T93 l0_1 x5_2).f3) < (x3_2.length : Int) := of_decide_eq_true y5; obtain ⟨ad246, e246, hx246_0⟩ := Kd.at_bool (Kd.R_reads' HO_3.out).2.2 ((rd_T93 l0_1 x5_2).f3) p246 q246; (try rw [← Nbq18.out] at hx246_0); cases e246; replace p246 := eq_true p246; replace q246 := eq_true q246))
             go_roundg k2
             case measure => have := HK1.out; have := HK2.out; omega
             case rel => exact ⟨(x3_2), (wrap64 (x5_2 + 1)), y7, H', ⟨by have := HK1.out; have := HK2.out; omega⟩, ⟨by (with_reducible repeat apply y2); exact HO_3.out⟩, ⟨by (with_reducible repeat refine y4 ?_); exact BK235.out⟩, ⟨by repeat (first | (with_reducible first | exact HB.out | apply y3 | refine ys ?_ GE235.out | refine ys ?_ GE243.out) | exact HB.out)⟩⟩
            rw [if_neg c17] at H
            exact absurd H (by simp)
           rw [if_neg c16] at H
           exact absurd H (by simp)
          replace c15 := Bool.eq_false_iff.mpr c15
          subst c15
          have H1 : (heraldref15_Alive.l1 k2 x3_2 x4_1 (wrap64 (x5_2 + 1)) l0_0 l0_1) = some r := by rw [if_neg (show ¬ (false = true) by decide)] at H; exact H
          clear H
          have H := H1
          clear H1
          have H' := ym H
          clear H
          have hcz47_0 : wr.cell? ⟨gb235, 0, none⟩ = some (.slice A0_0 l0_0.length c0_0) := (yw BK235.out 0).trans rfl
          have hcz47_1 : wr.cell? ⟨gb235, 1, none⟩ = some (.slice A0_1 l0_1.length c0_1) := (yw BK235.out 1).trans rfl
          have hfz47_0 := yv BK235.out 0
          have hfz47_1 := yv BK235.out 1
          have p242 : 0 ≤ (x5_2 : Int) := of_decide_eq_true y5
          have q242 : x5_2 < (l0_1.length : Int) := of_decide_eq_true y5
          obtain ⟨ad242, e242, hx242_0, hx242_1, hx242_2, hx242_3⟩ := at_T93 HR0_1.out x5_2 p242 q242
          cases e242
          replace hx242_0 := (HB.out.cell (World.block_lt_of_cell? w _ hx242_0)).trans hx242_0
          replace hx242_1 := (HB.out.cell (World.block_lt_of_cell? w _ hx242_1)).trans hx242_1
          replace hx242_2 := (HB.out.cell (World.block_lt_of_cell? w _ hx242_2)).trans hx242_2
          replace hx242_3 := (HB.out.cell (World.block_lt_of_cell? w _ hx242_3)).trans hx242_3
          replace p242 := eq_true p242
          replace q242 := eq_true q242
          go_wp2_with (first | ((with_reducible refine gate_dst (N := 6) rfl ?_); refine box_event ?hg (N := 6) ?hd (cs := #[.int .i64 0, .int .u8 0, .int .u8 0, .int .i64 0]) (t := 93) ?hr ?_; (case hd => rfl); (case hg => rfl); (case hr => first | (go_simp; done) | (go_simp; rfl)); intro gb243 hg w48 hbox hb; have n0_ := ym (yp (by (with_reducible repeat apply y2); exact HO_3.out) hb); have n1_ := ym (yq (g := gb235) (o := .cells #[.slice A0_0 l0_0.length c0_0, .slice (some ad242) l0_1.length c0_1] 28 (0, 0)) (yc BK235) hb); have n2_ := ym (yn yb hb); have n3_ := ym (hbox); have n4_ := ym ((by rw [hg]; exact (below_size yb) : w.heap.size ≤ gb243)); have n5_ := n4_; have n6_ := ym ((by rw [hg]; exact Nat.ne_of_lt (blk_lt (g := gb235) (o := .cells #[.slice A0_0 l0_0.length c0_0, .slice (some ad242) l0_1.length c0_1] 28 (0, 0)) (yc BK235)) : gb235 ≠ gb243)); have n7_ := ym ((by rw [hg]; exact Nat.ne_of_gt (blk_lt (g := gb235) (o := .cells #[.slice A0_0 l0_0.length c0_0, .slice (some ad242) l0_1.length c0_1] 28 (0, 0)) (yc BK235)) : gb243 ≠ gb235)); clear HO_3; clear BK235; clear HB; have HO_3 := n0_; have BK235 := n1_; have HB := n2_; have BK243 := n3_; have GW243 := n4_; have GE243 := n5_; have NB235_243 := n6_; have NB243_235 := n7_; clear n0_ n1_ n2_ n3_ n4_ n5_ n6_ n7_; clear hb hbox hg; have hnb49 := NB243_235.out; have hnc49 := NB235_243.out; have hcz50_0 : w48.cell? ⟨gb243, 0, none⟩ = some (.int .i64 0) := (yw BK243.out 0).trans rfl; have hcz50_1 : w48.cell? ⟨gb243, 1, none⟩ = some (.int .u8 0) := (yw BK243.out 1).trans rfl; have hcz50_2 : w48.cell? ⟨gb243, 2, none⟩ = some (.int .u8 0) := (yw BK243.out 2).trans rfl; have hcz50_3 : w48.cell? ⟨gb243, 3, none⟩ = some (.int .i64 0) := (yw BK243.out 3).trans rfl; have hfz50_0 := yv BK243.out 0; have hfz50_1 := yv BK243.out 1; have hfz50_2 := yv BK243.out 2; have hfz50_3 := yv BK243.out 3; have hcz51_0 : w48.cell? ⟨gb235, 0, none⟩ = some (.slice A0_0 l0_0.length c0_0) := (yw BK235.out 0).trans rfl; have hcz51_1 : w48.cell? ⟨gb235, 1, none⟩ = some (.slice (some ad242) l0_1.length c0_1) := (yw BK235.out 1).trans rfl; have hfz51_0 := yv BK235.out 0; have hfz51_1 := yv BK235.out 1) | ((with_reducible refine gate_callee (f := 49) rfl ?_); refine goesL_ (some 33) rfl rfl Try.func49 (by kernel_rfl) rfl #[.agg #[.slice A0_0 l0_0.length c0_0, .slice (some ad242) l0_1.length c0_1], .int .i64 ((rd_T93 l0_1 x5_2).f0)] rfl y6 ?_; (with_reducible refine (heraldref15_state.calls _ _ l0_0 _ _ l0_1 ((rd_T93 l0_1 x5_2).f0) true _ ?side1 ?side2 ?side3 ?side4 A12.out).mono ?_); (case side1 => exact Kd.C_below HR0_0.out yb); (case side2 => exact HC0_0.out); (case side3 => exact Kd.C_below HR0_1.out yb); (case side4 => exact HC0_1.out); rintro e w52 ⟨rfl, hb⟩; refine ⟨_, rfl, ?_⟩; have n0_ := ym (yp (by (with_reducible repeat apply y2); exact (Kd.R_mono (Kd.R_far (p := ⟨gb243, 3, none⟩) (Kd.R_far (p := ⟨gb243, 2, none⟩) (Kd.R_far (p := ⟨gb243, 1, none⟩) (Kd.R_far (p := ⟨gb243, 0, none⟩) (Kd.R_types HO_3.out BK243.out (by decide)) (fun _ hk => hk.2) (.int .i64 ((rd_T93 l0_1 x5_2).f0))) (fun _ hk => hk.2) (.int .u8 ((rd_T93 l0_1 x5_2).f1))) (fun _ hk => hk.2) (.int .u8 ((rd_T93 l0_1 x5_2).f2))) (fun _ hk => hk.2) (.int .i64 ((rd_T93 l0_1 x5_2).f3))) (fun _ h_ => h_.1))) hb); have n1_ := ym (yq (g := gb235) (o := .cells #[.slice A0_0 l0_0.length c0_0, .slice (some ad242) l0_1.length c0_1] 28 (0, 0)) (by (with_reducible repeat refine y4 ?_); refine yx ?_ NB235_243.out _; (with_reducible repeat refine y4 ?_); refine yx ?_ NB235_243.out _; (with_reducible repeat refine y4 ?_); refine yx ?_ NB235_243.out _; (with_reducible repeat refine y4 ?_); refine yx ?_ NB235_243.out _; (with_reducible repeat refine y4 ?_); exact BK235.out) hb); have n2_ := ym (yq (g := gb243) (o := .cells #[.int .i64 ((rd_T93 l0_1 x5_2).f0), .int .u8 ((rd_T93 l0_1 x5_2).f1), .int .u8 ((rd_T93 l0_1 x5_2).f2), .int .i64 ((rd_T93 l0_1 x5_2).f3)] 93 (0, 0)) (by (with_reducible repeat refine y4 ?_); refine yy (cs := #[.int .i64 ((rd_T93 l0_1 x5_2).f0), .int .u8 ((rd_T93 l0_1 x5_2).f1), .int .u8 ((rd_T93 l0_1 x5_2).f2), .int .i64 0]) ?_ 3 _ rfl; (with_reducible repeat refine y4 ?_); refine yy (cs := #[.int .i64 ((rd_T93 l0_1 x5_2).f0), .int .u8 ((rd_T93 l0_1 x5_2).f1), .int .u8 0, .int .i64 0]) ?_ 2 _ rfl; (with_reducible repeat refine y4 ?_); refine yy (cs := #[.int .i64 ((rd_T93 l0_1 x5_2).f0), .int .u8 0, .int .u8 0, .int .i64 0]) ?_ 1 _ rfl; (with_reducible repeat refine y4 ?_); refine yy (cs := #[.int .i64 0, .int .u8 0, .int .u8 0, .int .i64 0]) ?_ 0 _ rfl; (with_reducible repeat refine y4 ?_); exact BK243.out) hb); have n3_ := ym (yn yb hb); clear HO_3; clear BK235; clear BK243; clear HB; have HO_3 := n0_; have BK235 := n1_; have BK243 := n2_; have HB := n3_; clear n0_ n1_ n2_ n3_; (try clear hb); (try clear hb2); (try clear hk); (try clear hi); have hcz53_0 : w52.cell? ⟨gb235, 0, none⟩ = some (.slice A0_0 l0_0.length c0_0) := (yw BK235.out 0).trans rfl; have hcz53_1 : w52.cell? ⟨gb235, 1, none⟩ = some (.slice (some ad242) l0_1.length c0_1) := (yw BK235.out 1).trans rfl; have hfz53_0 := yv BK235.out 0; have hfz53_1 := yv BK235.out 1; have hcz54_0 : w52.cell? ⟨gb243, 0, none⟩ = some (.int .i64 ((rd_T93 l0_1 x5_2).f0)) := (yw BK243.out 0).trans rfl; have hcz54_1 : w52.cell? ⟨gb243, 1, none⟩ = some (.int .u8 ((rd_T93 l0_1 x5_2).f1)) := (yw BK243.out 1).trans rfl; have hcz54_2 : w52.cell? ⟨gb243, 2, none⟩ = some (.int .u8 ((rd_T93 l0_1 x5_2).f2)) := (yw BK243.out 2).trans rfl; have hcz54_3 : w52.cell? ⟨gb243, 3, none⟩ = some (.int .i64 ((rd_T93 l0_1 x5_2).f3)) := (yw BK243.out 3).trans rfl; have hfz54_0 := yv BK243.out 0; have hfz54_1 := yv BK243.out 1; have hfz54_2 := yv BK243.out 2; have hfz54_3 := yv BK243.out 3) | (go_at_call 49; (with_reducible refine (heraldref15_state.calls _ _ l0_0 _ _ l0_1 ((rd_T93 l0_1 x5_2).f3) false _ ?side1 ?side2 ?side3 ?side4 A14.out).mono ?_); (case side1 => exact y9 HR0_0); (case side2 => exact HC0_0.out); (case side3 => exact y9 HR0_1); (case side4 => exact HC0_1.out); rintro e w55 ⟨rfl, hb⟩; have n0_ := ym (yp (by (with_reducible repeat apply y2); exact HO_3.out) hb); have n1_ := ym (yq (g := gb235) (o := .cells #[.slice A0_0 l0_0.length c0_0, .slice (some ad242) l0_1.length c0_1] 28 (0, 0)) (yc BK235) hb); have n2_ := ym (yq (g := gb243) (o := .cells #[.int .i64 ((rd_T93 l0_1 x5_2).f0), .int .u8 ((rd_T93 l0_1 x5_2).f1), .int .u8 ((rd_T93 l0_1 x5_2).f2), .int .i64 ((rd_T93 l0_1 x5_2).f3)] 93 (0, 0)) (yc BK243) hb); have n3_ := ym (yn yb hb); clear HO_3; clear BK235; clear BK243; clear HB; have HO_3 := n0_; have BK235 := n1_; have BK243 := n2_; have HB := n3_; clear n0_ n1_ n2_ n3_; (try clear hb); (try clear hb2); (try clear hk); (try clear hi)))
          go_roundg k2
          case measure => have := HK1.out; have := HK2.out; omega
          case rel => exact ⟨(x3_2), (wrap64 (x5_2 + 1)), y7, H', ⟨by have := HK1.out; have := HK2.out; omega⟩, ⟨by (with_reducible repeat apply y2); exact HO_3.out⟩, ⟨by (with_reducible repeat refine y4 ?_); exact BK235.out⟩, ⟨by repeat (first | (with_reducible first | exact HB.out | apply y3 | refine ys ?_ GE235.out | refine ys ?_ GE243.out) | exact HB.out)⟩⟩
         replace c13 := Bool.eq_false_iff.mpr c13
         subst c13
         have H1 : (heraldref15_Alive.l1 k2 x3_2 x4_1 (wrap64 (x5_2 + 1)) l0_0 l0_1) = some r := by rw [if_neg (show ¬ (false = true) by decide)] at H; exact H
         clear H
         have H := H1
         clear H1
         have H' := ym H
         clear H
         have hcz56_0 : wr.cell? ⟨gb235, 0, none⟩ = some (.slice A0_0 l0_0.length c0_0) := (yw BK235.out 0).trans rfl
         have hcz56_1 : wr.cell? ⟨gb235, 1, none⟩ = some (.slice A0_1 l0_1.length c0_1) := (yw BK235.out 1).trans rfl
         have hfz56_0 := yv BK235.out 0
         have hfz56_1 := yv BK235.out 1
         have p242 : 0 ≤ (x5_2 : Int) := of_decide_eq_true y5
         have q242 : x5_2 < (l0_1.length : Int) := of_decide_eq_true y5
         obtain ⟨ad242, e242, hx242_0, hx242_1, hx242_2, hx242_3⟩ := at_T93 HR0_1.out x5_2 p242 q242
         cases e242
         replace hx242_0 := (HB.out.cell (World.block_lt_of_cell? w _ hx242_0)).trans hx242_0
         replace hx242_1 := (HB.out.cell (World.block_lt_of_cell? w _ hx242_1)).trans hx242_1
         replace hx242_2 := (HB.out.cell (World.block_lt_of_cell? w _ hx242_2)).trans hx242_2
         replace hx242_3 := (HB.out.cell (World.block_lt_of_cell? w _ hx242_3)).trans hx242_3
         replace p242 := eq_true p242
         replace q242 := eq_true q242
         go_wp2_with (first | ((with_reducible refine gate_dst (N := 6) rfl ?_); refine box_event ?hg (N := 6) ?hd (cs := #[.int .i64 0, .int .u8 0, .int .u8 0, .int .i64 0]) (t := 93) ?hr ?_; (case hd => rfl); (case hg => rfl); (case hr => first | (go_simp; done) | (go_simp; rfl)); intro gb243 hg w57 hbox hb; have n0_ := ym (yp (by (with_reducible repeat apply y2); exact HO_3.out) hb); have n1_ := ym (yq (g := gb235) (o := .cells #[.slice A0_0 l0_0.length c0_0, .slice (some ad242) l0_1.length c0_1] 28 (0, 0)) (yc BK235) hb); have n2_ := ym (yn yb hb); have n3_ := ym (hbox); have n4_ := ym ((by rw [hg]; exact (below_size yb) : w.heap.size ≤ gb243)); have n5_ := n4_; have n6_ := ym ((by rw [hg]; exact Nat.ne_of_lt (blk_lt (g := gb235) (o := .cells #[.slice A0_0 l0_0.length c0_0, .slice (some ad242) l0_1.length c0_1] 28 (0, 0)) (yc BK235)) : gb235 ≠ gb243)); have n7_ := ym ((by rw [hg]; exact Nat.ne_of_gt (blk_lt (g := gb235) (o := .cells #[.slice A0_0 l0_0.length c0_0, .slice (some ad242) l0_1.length c0_1] 28 (0, 0)) (yc BK235)) : gb243 ≠ gb235)); clear HO_3; clear BK235; clear HB; have HO_3 := n0_; have BK235 := n1_; have HB := n2_; have BK243 := n3_; have GW243 := n4_; have GE243 := n5_; have NB235_243 := n6_; have NB243_235 := n7_; clear n0_ n1_ n2_ n3_ n4_ n5_ n6_ n7_; clear hb hbox hg; have hnb58 := NB243_235.out; have hnc58 := NB235_243.out; have hcz59_0 : w57.cell? ⟨gb243, 0, none⟩ = some (.int .i64 0) := (yw BK243.out 0).trans rfl; have hcz59_1 : w57.cell? ⟨gb243, 1, none⟩ = some (.int .u8 0) := (yw BK243.out 1).trans rfl; have hcz59_2 : w57.cell? ⟨gb243, 2, none⟩ = some (.int .u8 0) := (yw BK243.out 2).trans rfl; have hcz59_3 : w57.cell? ⟨gb243, 3, none⟩ = some (.int .i64 0) := (yw BK243.out 3).trans rfl; have hfz59_0 := yv BK243.out 0; have hfz59_1 := yv BK243.out 1; have hfz59_2 := yv BK243.out 2; have hfz59_3 := yv BK243.out 3; have hcz60_0 : w57.cell? ⟨gb235, 0, none⟩ = some (.slice A0_0 l0_0.length c0_0) := (yw BK235.out 0).trans rfl; have hcz60_1 : w57.cell? ⟨gb235, 1, none⟩ = some (.slice (some ad242) l0_1.length c0_1) := (yw BK235.out 1).trans rfl; have hfz60_0 := yv BK235.out 0; have hfz60_1 := yv BK235.out 1) | ((with_reducible refine gate_callee (f := 49) rfl ?_); refine goesL_ (some 33) rfl rfl Try.func49 (by kernel_rfl) rfl #[.agg #[.slice A0_0 l0_0.length c0_0, .slice (some ad242) l0_1.length c0_1], .int .i64 ((rd_T93 l0_1 x5_2).f0)] rfl y6 ?_; (with_reducible refine (heraldref15_state.calls _ _ l0_0 _ _ l0_1 ((rd_T93 l0_1 x5_2).f0) false _ ?side1 ?side2 ?side3 ?side4 A12.out).mono ?_); (case side1 => exact Kd.C_below HR0_0.out yb); (case side2 => exact HC0_0.out); (case side3 => exact Kd.C_below HR0_1.out yb); (case side4 => exact HC0_1.out); rintro e w61 ⟨rfl, hb⟩; refine ⟨_, rfl, ?_⟩; have n0_ := ym (yp (by (with_reducible repeat apply y2); exact (Kd.R_mono (Kd.R_far (p := ⟨gb243, 3, none⟩) (Kd.R_far (p := ⟨gb243, 2, none⟩) (Kd.R_far (p := ⟨gb243, 1, none⟩) (Kd.R_far (p := ⟨gb243, 0, none⟩) (Kd.R_types HO_3.out BK243.out (by decide)) (fun _ hk => hk.2) (.int .i64 ((rd_T93 l0_1 x5_2).f0))) (fun _ hk => hk.2) (.int .u8 ((rd_T93 l0_1 x5_2).f1))) (fun _ hk => hk.2) (.int .u8 ((rd_T93 l0_1 x5_2).f2))) (fun _ hk => hk.2) (.int .i64 ((rd_T93 l0_1 x5_2).f3))) (fun _ h_ => h_.1))) hb); have n1_ := ym (yq (g := gb235) (o := .cells #[.slice A0_0 l0_0.length c0_0, .slice (some ad242) l0_1.length c0_1] 28 (0, 0)) (by (with_reducible repeat refine y4 ?_); refine yx ?_ NB235_243.out _; (with_reducible repeat refine y4 ?_); refine yx ?_ NB235_243.out _; (with_reducible repeat refine y4 ?_); refine yx ?_ NB235_243.out _; (with_reducible repeat refine y4 ?_); refine yx ?_ NB235_243.out _; (with_reducible repeat refine y4 ?_); exact BK235.out) hb); have n2_ := ym (yq (g := gb243) (o := .cells #[.int .i64 ((rd_T93 l0_1 x5_2).f0), .int .u8 ((rd_T93 l0_1 x5_2).f1), .int .u8 ((rd_T93 l0_1 x5_2).f2), .int .i64 ((rd_T93 l0_1 x5_2).f3)] 93 (0, 0)) (by (with_reducible repeat refine y4 ?_); refine yy (cs := #[.int .i64 ((rd_T93 l0_1 x5_2).f0), .int .u8 ((rd_T93 l0_1 x5_2).f1), .int .u8 ((rd_T93 l0_1 x5_2).f2), .int .i64 0]) ?_ 3 _ rfl; (with_reducible repeat refine y4 ?_); refine yy (cs := #[.int .i64 ((rd_T93 l0_1 x5_2).f0), .int .u8 ((rd_T93 l0_1 x5_2).f1), .int .u8 0, .int .i64 0]) ?_ 2 _ rfl; (with_reducible repeat refine y4 ?_); refine yy (cs := #[.int .i64 ((rd_T93 l0_1 x5_2).f0), .int .u8 0, .int .u8 0, .int .i64 0]) ?_ 1 _ rfl; (with_reducible repeat refine y4 ?_); refine yy (cs := #[.int .i64 0, .int .u8 0, .int .u8 0, .int .i64 0]) ?_ 0 _ rfl; (with_reducible repeat refine y4 ?_); exact BK243.out) hb); have n3_ := ym (yn yb hb); clear HO_3; clear BK235; clear BK243; clear HB; have HO_3 := n0_; have BK235 := n1_; have BK243 := n2_; have HB := n3_; clear n0_ n1_ n2_ n3_; (try clear hb); (try clear hb2); (try clear hk); (try clear hi)))
         go_roundg k2
         case measure => have := HK1.out; have := HK2.out; omega
         case rel => exact ⟨(x3_2), (wrap64 (x5_2 + 1)), y7, H', ⟨by have := HK1.out; have := HK2.out; omega⟩, ⟨by (with_reducible repeat apply y2); exact HO_3.out⟩, ⟨by (with_reducible repeat refine y4 ?_); exact BK235.out⟩, ⟨by repeat (first | (with_reducible first | exact HB.out | apply y3 | refine ys ?_ GE235.out | refine ys ?_ GE243.out) | exact HB.out)⟩⟩
        rw [if_neg c11] at H
        exact absurd H (by simp)
       rw [if_neg c10] at H
       have c10b0 : decide (x5_2 < (l0_1.length : Int)) = false := decide_eq_false c10
       clear c10
       have H' := ym H
       clear H
       have hcz62_0 : wr.cell? ⟨gb235, 0, none⟩ = some (.slice A0_0 l0_0.length c0_0) := (yw BK235.out 0).trans rfl
       have hcz62_1 : wr.cell? ⟨gb235, 1, none⟩ = some (.slice A0_1 l0_1.length c0_1) := (yw BK235.out 1).trans rfl
       have hfz62_0 := yv BK235.out 0
       have hfz62_1 := yv BK235.out 1
       go_wp2
       go_roundg k2
       case measure => have := HK1.out; have := HK2.out; omega
       case rel => exact ⟨(x3_2), (wrap64 (x4_1 + 1)), y7, H', ⟨by have := HK1.out; have := HK2.out; omega⟩, ⟨by (with_reducible repeat apply y2); exact HO_3.out⟩, ⟨by (with_reducible repeat refine y4 ?_); exact BK235.out⟩, ⟨by repeat (first | (with_reducible first | exact HB.out | apply y3 | refine ys ?_ GE235.out) | exact HB.out)⟩⟩
    rw [if_neg c8] at H
    have c8b0 : decide (x4_1 < (l0_0.length : Int)) = false := decide_eq_false c8
    clear c8
    obtain rfl := Option.some.inj H
    have hcz63_0 : wr.cell? ⟨gb235, 0, none⟩ = some (.slice A0_0 l0_0.length c0_0) := (yw BK235.out 0).trans rfl
    have hcz63_1 : wr.cell? ⟨gb235, 1, none⟩ = some (.slice A0_1 l0_1.length c0_1) := (yw BK235.out 1).trans rfl
    have hfz63_0 := yv BK235.out 0
    have hfz63_1 := yv BK235.out 1
    go_wp2
    go_ret
    exact ⟨_, by first | rfl | (simp [errW_none, errW_some] <;> rfl) | (simp [*, errW_none, errW_some] <;> rfl), by (with_reducible repeat apply y2); exact HO_3.out, by repeat (first | (with_reducible first | exact HB.out | apply y3 | refine ys ?_ GE235.out) | exact HB.out)⟩
 rw [if_neg c2] at H
 exact absurd H (by simp)

end Go.Proofs.Ytfjpnmhbbfiaaaa.P
