-- Printed by xprint.py (wip): functions, contracts, rows. Lean checks it.
import Derived.Test.YtmpldbccohdnjaaPx0
import Derived.Test.YtmpldbccohdnjaaPx2
import Derived.Test.YtmpldbccohdnjaaPx3
namespace Go.Proofs.Ytmpldbccohdnjaa.P
open Go.RowKit Go.Proofs.YtmpldbccohdnjaaW.PrintWords Go.Proofs.YtmpldbccohdnjaaW.PrintLast Go.Proofs.YtmpldbccohdnjaaW.PrintMore
attribute [local go_sem] max2_int min2_int max_two min_two max_three min_three max_four min_four   -- for this text's walks alone
set_option linter.unusedVariables false
set_option linter.unusedSimpArgs false

/-! ### heraldlaw11_SoftBetween: function 6 -/
mutual
def heraldlaw11_SoftBetween.j0 : Nat → List Int → List Int → Int → Int → Bool → Option (Bool)
  | 0, _, _, _, _, _ => none
  | k + 1, x0, x1, x5, x6, x33 => if x33 = true then (some false) else (if x6 = 0 then (heraldlaw11_SoftBetween.l0 k x0 x1 x5 127 (-128) 0 0 0) else (some (x5 == 0)))
def heraldlaw11_SoftBetween.l0 : Nat → List Int → List Int → Int → Int → Int → Int → Int → Int → Option (Bool)
  | 0, _, _, _, _, _, _, _, _ => none
  | k + 1, x0, x1, x5, x9, x10, x11, x12, x13 => if x13 < (x0.length : Int) then (if 0 ≤ x13 then (if (rd x0 x13) > 0 then (if x13 < (x1.length : Int) then (heraldlaw11_SoftBetween.j2 k x0 x1 x5 x9 x10 x11 x12 x13 (decide ((rd x1 x13) < x9))) else (none)) else (heraldlaw11_SoftBetween.j2 k x0 x1 x5 x9 x10 x11 x12 x13 false)) else (none)) else (if x5 ≥ x9 then (if x5 ≤ x10 then (if (wrap64 (2 * (wrap64 (x12 - (wrap64 ((wrap64 (x5)) * x11)))))) ≥ (wrap64 (-x11)) then (some (decide ((wrap64 (2 * (wrap64 (x12 - (wrap64 ((wrap64 (x5)) * x11)))))) < x11))) else (some false)) else (some false)) else (some false))
def heraldlaw11_SoftBetween.j2 : Nat → List Int → List Int → Int → Int → Int → Int → Int → Int → Bool → Option (Bool)
  | 0, _, _, _, _, _, _, _, _, _ => none
  | k + 1, x0, x1, x5, x9, x10, x11, x12, x13, x56 => if x56 = true then (if 0 ≤ x13 then (if x13 < (x1.length : Int) then (if x13 < (x0.length : Int) then (if (rd x0 x13) > 0 then (if (rd x1 x13) > x10 then (heraldlaw11_SoftBetween.l0 k x0 x1 x5 (rd x1 x13) (rd x1 x13) (wrap64 (x11 + (rd x0 x13))) (wrap64 (x12 + (wrap64 ((rd x0 x13) * (wrap64 (rd x1 x13)))))) (wrap64 (x13 + 1))) else (heraldlaw11_SoftBetween.l0 k x0 x1 x5 (rd x1 x13) x10 (wrap64 (x11 + (rd x0 x13))) (wrap64 (x12 + (wrap64 ((rd x0 x13) * (wrap64 (rd x1 x13)))))) (wrap64 (x13 + 1)))) else (heraldlaw11_SoftBetween.l0 k x0 x1 x5 (rd x1 x13) x10 (wrap64 (x11 + (rd x0 x13))) (wrap64 (x12 + (wrap64 ((rd x0 x13) * (wrap64 (rd x1 x13)))))) (wrap64 (x13 + 1)))) else (none)) else (none)) else (none)) else (if 0 ≤ x13 then (if x13 < (x0.length : Int) then (if (rd x0 x13) > 0 then (if x13 < (x1.length : Int) then (if (rd x1 x13) > x10 then (heraldlaw11_SoftBetween.l0 k x0 x1 x5 x9 (rd x1 x13) (wrap64 (x11 + (rd x0 x13))) (wrap64 (x12 + (wrap64 ((rd x0 x13) * (wrap64 (rd x1 x13)))))) (wrap64 (x13 + 1))) else (heraldlaw11_SoftBetween.l0 k x0 x1 x5 x9 x10 (wrap64 (x11 + (rd x0 x13))) (wrap64 (x12 + (wrap64 ((rd x0 x13) * (wrap64 (rd x1 x13)))))) (wrap64 (x13 + 1)))) else (none)) else (if x13 < (x1.length : Int) then (heraldlaw11_SoftBetween.l0 k x0 x1 x5 x9 x10 (wrap64 (x11 + (rd x0 x13))) (wrap64 (x12 + (wrap64 ((rd x0 x13) * (wrap64 (rd x1 x13)))))) (wrap64 (x13 + 1))) else (none))) else (none)) else (none))
end
def heraldlaw11_SoftBetween.f (k : Nat) (l0 : List Int) (l1 : List Int) : Option (Bool) := (soft_Mean.f k l0 l1).bind fun bt237 => ((heraldref11_Mean.f k l0 l1).bind fun bt239 => ((heraldlaw11_awake.f k).bind fun t241 => (if t241 = true then (heraldlaw11_SoftBetween.j0 k l0 l1 bt237.1 bt237.2 (bt237.2 != bt239.2)) else (heraldlaw11_SoftBetween.j0 k l0 l1 bt237.1 bt237.2 true))))
theorem heraldlaw11_SoftBetween.mono_l : ∀ k, (∀ y0 y1 y2 y3 y4, LeO (heraldlaw11_SoftBetween.j0 k y0 y1 y2 y3 y4) (heraldlaw11_SoftBetween.j0 (k + 1) y0 y1 y2 y3 y4)) ∧ (∀ y0 y1 y2 y3 y4 y5 y6 y7, LeO (heraldlaw11_SoftBetween.l0 k y0 y1 y2 y3 y4 y5 y6 y7) (heraldlaw11_SoftBetween.l0 (k + 1) y0 y1 y2 y3 y4 y5 y6 y7)) ∧ (∀ y0 y1 y2 y3 y4 y5 y6 y7 y8, LeO (heraldlaw11_SoftBetween.j2 k y0 y1 y2 y3 y4 y5 y6 y7 y8) (heraldlaw11_SoftBetween.j2 (k + 1) y0 y1 y2 y3 y4 y5 y6 y7 y8))
  | 0 => ⟨fun _ _ _ _ _ r h => by simp [heraldlaw11_SoftBetween.j0] at h, fun _ _ _ _ _ _ _ _ r h => by simp [heraldlaw11_SoftBetween.l0] at h, fun _ _ _ _ _ _ _ _ _ r h => by simp [heraldlaw11_SoftBetween.j2] at h⟩
  | k + 1 => by
    obtain ⟨ih0, ih1, ih2⟩ := heraldlaw11_SoftBetween.mono_l k
    refine ⟨?_, ?_, ?_⟩
    · intro y0 y1 y2 y3 y4
      unfold heraldlaw11_SoftBetween.j0
      repeat' first
      | (with_reducible exact ih0 _ _ _ _ _)
      | (with_reducible exact ih1 _ _ _ _ _ _ _ _)
      | (with_reducible exact ih2 _ _ _ _ _ _ _ _ _)
      | (with_reducible exact heraldlaw11_awake.mono _)
      | (with_reducible exact heraldref11_Mean.mono _ _ _)
      | (with_reducible exact soft_Mean.mono _ _ _)
      | (with_reducible exact LeO.refl _)
      | (with_reducible exact LeO.none _)
      | (with_reducible refine LeO.ite ?_ ?_)
      | (with_reducible refine LeO.bind ?_ (fun _ => ?_))
      | exact ih0 _ _ _ _ _
      | exact ih1 _ _ _ _ _ _ _ _
      | exact ih2 _ _ _ _ _ _ _ _ _
      | exact heraldlaw11_awake.mono _
      | exact heraldref11_Mean.mono _ _ _
      | exact soft_Mean.mono _ _ _
      | exact LeO.none _
      | refine LeO.ite ?_ ?_
      | refine LeO.bind ?_ (fun _ => ?_)
    · intro y0 y1 y2 y3 y4 y5 y6 y7
      unfold heraldlaw11_SoftBetween.l0
      repeat' first
      | (with_reducible exact ih0 _ _ _ _ _)
      | (with_reducible exact ih1 _ _ _ _ _ _ _ _)
      | (with_reducible exact ih2 _ _ _ _ _ _ _ _ _)
      | (with_reducible exact heraldlaw11_awake.mono _)
      | (with_reducible exact heraldref11_Mean.mono _ _ _)
      | (with_reducible exact soft_Mean.mono _ _ _)
      | (with_reducible exact LeO.refl _)
      | (with_reducible exact LeO.none _)
      | (with_reducible refine LeO.ite ?_ ?_)
      | (with_reducible refine LeO.bind ?_ (fun _ => ?_))
      | exact ih0 _ _ _ _ _
      | exact ih1 _ _ _ _ _ _ _ _
      | exact ih2 _ _ _ _ _ _ _ _ _
      | exact heraldlaw11_awake.mono _
      | exact heraldref11_Mean.mono _ _ _
      | exact soft_Mean.mono _ _ _
      | exact LeO.none _
      | refine LeO.ite ?_ ?_
      | refine LeO.bind ?_ (fun _ => ?_)
    · intro y0 y1 y2 y3 y4 y5 y6 y7 y8
      unfold heraldlaw11_SoftBetween.j2
      repeat' first
      | (with_reducible exact ih0 _ _ _ _ _)
      | (with_reducible exact ih1 _ _ _ _ _ _ _ _)
      | (with_reducible exact ih2 _ _ _ _ _ _ _ _ _)
      | (with_reducible exact heraldlaw11_awake.mono _)
      | (with_reducible exact heraldref11_Mean.mono _ _ _)
      | (with_reducible exact soft_Mean.mono _ _ _)
      | (with_reducible exact LeO.refl _)
      | (with_reducible exact LeO.none _)
      | (with_reducible refine LeO.ite ?_ ?_)
      | (with_reducible refine LeO.bind ?_ (fun _ => ?_))
      | exact ih0 _ _ _ _ _
      | exact ih1 _ _ _ _ _ _ _ _
      | exact ih2 _ _ _ _ _ _ _ _ _
      | exact heraldlaw11_awake.mono _
      | exact heraldref11_Mean.mono _ _ _
      | exact soft_Mean.mono _ _ _
      | exact LeO.none _
      | refine LeO.ite ?_ ?_
      | refine LeO.bind ?_ (fun _ => ?_)
theorem heraldlaw11_SoftBetween.mono : ∀ a0 a1 k, LeO (heraldlaw11_SoftBetween.f k a0 a1) (heraldlaw11_SoftBetween.f (k + 1) a0 a1) := by
  intro a0 a1 k
  obtain ⟨ih0, ih1, ih2⟩ := heraldlaw11_SoftBetween.mono_l k
  unfold heraldlaw11_SoftBetween.f
  repeat' first
      | (with_reducible exact ih0 _ _ _ _ _)
      | (with_reducible exact ih1 _ _ _ _ _ _ _ _)
      | (with_reducible exact ih2 _ _ _ _ _ _ _ _ _)
      | (with_reducible exact heraldlaw11_awake.mono _)
      | (with_reducible exact heraldref11_Mean.mono _ _ _)
      | (with_reducible exact soft_Mean.mono _ _ _)
      | (with_reducible exact LeO.refl _)
      | (with_reducible exact LeO.none _)
      | (with_reducible refine LeO.ite ?_ ?_)
      | (with_reducible refine LeO.bind ?_ (fun _ => ?_))
      | exact ih0 _ _ _ _ _
      | exact ih1 _ _ _ _ _ _ _ _
      | exact ih2 _ _ _ _ _ _ _ _ _
      | exact heraldlaw11_awake.mono _
      | exact heraldref11_Mean.mono _ _ _
      | exact soft_Mean.mono _ _ _
      | exact LeO.none _
      | refine LeO.ite ?_ ?_
      | refine LeO.bind ?_ (fun _ => ?_)
set_option maxHeartbeats 8000000 in
set_option maxRecDepth 100000 in
theorem heraldlaw11_SoftBetween.calls (k : Nat) (A0 : Option Addr) (c0 : Nat) (l0 : List Int) (A1 : Option Addr) (c1 : Nat) (l1 : List Int) (r : Bool) (w : World) (hr0 : Kd.C (Kd.int .i64) w A0 l0.length l0) (hc0 : l0.length ≤ c0) (hr1 : Kd.C (Kd.int .i8) w A1 l1.length l1) (hc1 : l1.length ≤ c1) (h : heraldlaw11_SoftBetween.f k l0 l1 = some r) :
    Calls Try.prog 6 #[.slice A0 l0.length c0, .slice A1 l1.length c1] w fun e w' => e = .returned (.bool r) ∧ Below w.heap.size w w' := by
  have HR0 := Aside0.mk hr0
  have HC0 := Aside0.mk hc0
  clear hr0 hc0
  have HR1 := Aside0.mk hr1
  have HC1 := Aside0.mk hc1
  clear hr1 hc1
  have HB := Aside0.mk (Below.refl w.heap.size w)
  have H : ((soft_Mean.f k l0 l1).bind fun bt237 => ((heraldref11_Mean.f k l0 l1).bind fun bt239 => ((heraldlaw11_awake.f k).bind fun t241 => (if t241 = true then (heraldlaw11_SoftBetween.j0 k l0 l1 bt237.1 bt237.2 (bt237.2 != bt239.2)) else (heraldlaw11_SoftBetween.j0 k l0 l1 bt237.1 bt237.2 true))))) = some r := h
  clear h
  replace H := Option.bind_eq_some_iff.mp H
  obtain ⟨⟨t237, t238⟩, A30, H⟩ := H
  replace H : ((heraldref11_Mean.f k l0 l1).bind fun bt239 => ((heraldlaw11_awake.f k).bind fun t241 => (if t241 = true then (heraldlaw11_SoftBetween.j0 k l0 l1 t237 t238 (t238 != bt239.2)) else (heraldlaw11_SoftBetween.j0 k l0 l1 t237 t238 true)))) = some r := H
  have A3 := Aside0.mk A30
  clear A30
  replace H := Option.bind_eq_some_iff.mp H
  obtain ⟨⟨t239, t240⟩, A40, H⟩ := H
  replace H : ((heraldlaw11_awake.f k).bind fun t241 => (if t241 = true then (heraldlaw11_SoftBetween.j0 k l0 l1 t237 t238 (t238 != t240)) else (heraldlaw11_SoftBetween.j0 k l0 l1 t237 t238 true))) = some r := H
  have A4 := Aside0.mk A40
  clear A40
  have HC5 := Aside0.mk H
  clear H
  go_enter Try.func6, Try.ntmps6
  go_upto_region 3 with (first | (go_at_call 16; (with_reducible refine (soft_Mean.calls k _ _ l0 _ _ l1 t237 t238 _ ?side1 ?side2 ?side3 ?side4 A3.out).mono ?_); (case side1 => repeat (first | exact HR0.out | (with_reducible refine Kd.C_alloc ?_ _) | (with_reducible refine Kd.C_drewN ?_ _) | (with_reducible refine Kd.C_drew ?_))); (case side2 => exact HC0.out); (case side3 => repeat (first | exact HR1.out | (with_reducible refine Kd.C_alloc ?_ _) | (with_reducible refine Kd.C_drewN ?_ _) | (with_reducible refine Kd.C_drew ?_))); (case side4 => exact HC1.out); rintro e w' ⟨rfl, ⟨nd, rfl⟩⟩; (try first | exact ⟨rfl, _, World.drewN_drewN _ _ _⟩ | exact ⟨rfl, _, Eq.trans (World.drewN_drewN _ _ _) (congrArg (World.drewN _) (Nat.add_assoc _ _ _))⟩)) | (go_at_call 17; (with_reducible refine (heraldref11_Mean.calls k _ _ l0 _ _ l1 t239 t240 _ ?side1 ?side2 ?side3 ?side4 A4.out).mono ?_); (case side1 => repeat (first | exact HR0.out | (with_reducible refine Kd.C_alloc ?_ _) | (with_reducible refine Kd.C_drewN ?_ _) | (with_reducible refine Kd.C_drew ?_))); (case side2 => exact HC0.out); (case side3 => repeat (first | exact HR1.out | (with_reducible refine Kd.C_alloc ?_ _) | (with_reducible refine Kd.C_drewN ?_ _) | (with_reducible refine Kd.C_drew ?_))); (case side4 => exact HC1.out); rintro e w' ⟨rfl, ⟨nd, rfl⟩⟩; (try first | exact ⟨rfl, _, World.drewN_drewN _ _ _⟩ | exact ⟨rfl, _, Eq.trans (World.drewN_drewN _ _ _) (congrArg (World.drewN _) (Nat.add_assoc _ _ _))⟩)))
  repeat (go_quiet (first | (go_at_call 16; (with_reducible refine (soft_Mean.calls k _ _ l0 _ _ l1 t237 t238 _ ?side1 ?side2 ?side3 ?side4 A3.out).mono ?_); (case side1 => repeat (first | exact HR0.out | (with_reducible refine Kd.C_alloc ?_ _) | (with_reducible refine Kd.C_drewN ?_ _) | (with_reducible refine Kd.C_drew ?_))); (case side2 => exact HC0.out); (case side3 => repeat (first | exact HR1.out | (with_reducible refine Kd.C_alloc ?_ _) | (with_reducible refine Kd.C_drewN ?_ _) | (with_reducible refine Kd.C_drew ?_))); (case side4 => exact HC1.out); rintro e w' ⟨rfl, ⟨nd, rfl⟩⟩; (try first | exact ⟨rfl, _, World.drewN_drewN _ _ _⟩ | exact ⟨rfl, _, Eq.trans (World.drewN_drewN _ _ _) (congrArg (World.drewN _) (Nat.add_assoc _ _ _))⟩)) | (go_at_call 17; (with_reducible refine (heraldref11_Mean.calls k _ _ l0 _ _ l1 t239 t240 _ ?side1 ?side2 ?side3 ?side4 A4.out).mono ?_); (case side1 => repeat (first | exact HR0.out | (with_reducible refine Kd.C_alloc ?_ _) | (with_reducible refine Kd.C_drewN ?_ _) | (with_reducible refine Kd.C_drew ?_))); (case side2 => exact HC0.out); (case side3 => repeat (first | exact HR1.out | (with_reducible refine Kd.C_alloc ?_ _) | (with_reducible refine Kd.C_drewN ?_ _) | (with_reducible refine Kd.C_drew ?_))); (case side4 => exact HC1.out); rintro e w' ⟨rfl, ⟨nd, rfl⟩⟩; (try first | exact ⟨rfl, _, World.drewN_drewN _ _ _⟩ | exact ⟨rfl, _, Eq.trans (World.drewN_drewN _ _ _) (congrArg (World.drewN _) (Nat.add_assoc _ _ _))⟩))); go_upto_region 3 with (first | (go_at_call 16; (with_reducible refine (soft_Mean.calls k _ _ l0 _ _ l1 t237 t238 _ ?side1 ?side2 ?side3 ?side4 A3.out).mono ?_); (case side1 => repeat (first | exact HR0.out | (with_reducible refine Kd.C_alloc ?_ _) | (with_reducible refine Kd.C_drewN ?_ _) | (with_reducible refine Kd.C_drew ?_))); (case side2 => exact HC0.out); (case side3 => repeat (first | exact HR1.out | (with_reducible refine Kd.C_alloc ?_ _) | (with_reducible refine Kd.C_drewN ?_ _) | (with_reducible refine Kd.C_drew ?_))); (case side4 => exact HC1.out); rintro e w' ⟨rfl, ⟨nd, rfl⟩⟩; (try first | exact ⟨rfl, _, World.drewN_drewN _ _ _⟩ | exact ⟨rfl, _, Eq.trans (World.drewN_drewN _ _ _) (congrArg (World.drewN _) (Nat.add_assoc _ _ _))⟩)) | (go_at_call 17; (with_reducible refine (heraldref11_Mean.calls k _ _ l0 _ _ l1 t239 t240 _ ?side1 ?side2 ?side3 ?side4 A4.out).mono ?_); (case side1 => repeat (first | exact HR0.out | (with_reducible refine Kd.C_alloc ?_ _) | (with_reducible refine Kd.C_drewN ?_ _) | (with_reducible refine Kd.C_drew ?_))); (case side2 => exact HC0.out); (case side3 => repeat (first | exact HR1.out | (with_reducible refine Kd.C_alloc ?_ _) | (with_reducible refine Kd.C_drewN ?_ _) | (with_reducible refine Kd.C_drew ?_))); (case side4 => exact HC1.out); rintro e w' ⟨rfl, ⟨nd, rfl⟩⟩; (try first | exact ⟨rfl, _, World.drewN_drewN _ _ _⟩ | exact ⟨rfl, _, Eq.trans (World.drewN_drewN _ _ _) (congrArg (World.drewN _) (Nat.add_assoc _ _ _))⟩))))
  (try simp only [Act.put, List.setIfInBounds_toArray, List.set_cons_zero, List.set_cons_succ])
  go_cut [33] (fun v33 wc => ∃ (kq : Nat) (x33_4 : Bool), v33 = .bool x33_4 ∧ Aside0 (heraldlaw11_SoftBetween.j0 kq l0 l1 t237 t238 x33_4 = some r) ∧ Aside0 (kq ≤ k) ∧ Aside0 (Below w.heap.size w wc))
  case first =>
    have H := HC5.out
    clear HC5
    replace H := Option.bind_eq_some_iff.mp H
    obtain ⟨t241, A60, H⟩ := H
    replace H : (if t241 = true then (heraldlaw11_SoftBetween.j0 k l0 l1 t237 t238 (t238 != t240)) else (heraldlaw11_SoftBetween.j0 k l0 l1 t237 t238 true)) = some r := H
    have A6 := Aside0.mk A60
    clear A60
    by_cases c7 : t241 = true
    · subst c7
      have H1 : (heraldlaw11_SoftBetween.j0 k l0 l1 t237 t238 (t238 != t240)) = some r := by rw [if_pos rfl] at H; exact H
      clear H
      have H := H1
      clear H1
      have H' := Aside0.mk H
      clear H
      go_wp2_with (first | (go_at_call 14; (with_reducible refine (heraldlaw11_awake.calls k  true _ A6.out).mono ?_); rintro e w8 ⟨rfl, hb⟩; have n0_ := Aside0.mk (below_step (by repeat (first | (with_reducible first | exact HB.out | apply below_alloc | apply pw_below_drewN | apply below_drew1) | exact HB.out)) hb); clear HB; have HB := n0_; clear n0_; (try clear hb); (try clear hb2); (try clear hk); (try clear hi)))
      repeat (go_quiet (first | (go_at_call 14; (with_reducible refine (heraldlaw11_awake.calls k  true _ A6.out).mono ?_); rintro e w8 ⟨rfl, hb⟩; have n0_ := Aside0.mk (below_step (by repeat (first | (with_reducible first | exact HB.out | apply below_alloc | apply pw_below_drewN | apply below_drew1) | exact HB.out)) hb); clear HB; have HB := n0_; clear n0_; (try clear hb); (try clear hb2); (try clear hk); (try clear hi))); try go_wp2_with (first | (go_at_call 14; (with_reducible refine (heraldlaw11_awake.calls k  true _ A6.out).mono ?_); rintro e w8 ⟨rfl, hb⟩; have n0_ := Aside0.mk (below_step (by repeat (first | (with_reducible first | exact HB.out | apply below_alloc | apply pw_below_drewN | apply below_drew1) | exact HB.out)) hb); clear HB; have HB := n0_; clear n0_; (try clear hb); (try clear hb2); (try clear hk); (try clear hi))))
      go_meet
      case rel => exact ⟨_, ((t238 != t240)), (by first | rfl | (simp; done) | (simp [*]; done)), H', ⟨by first | omega | exact Nat.le_refl _⟩, ⟨by repeat (first | (with_reducible first | exact HB.out | apply below_alloc | apply pw_below_drewN | apply below_drew1) | exact HB.out)⟩⟩
    · replace c7 := Bool.eq_false_iff.mpr c7
      subst c7
      have H1 : (heraldlaw11_SoftBetween.j0 k l0 l1 t237 t238 true) = some r := by rw [if_neg (show ¬ (false = true) by decide)] at H; exact H
      clear H
      have H := H1
      clear H1
      have H' := Aside0.mk H
      clear H
      go_wp2_with (first | (go_at_call 14; (with_reducible refine (heraldlaw11_awake.calls k  false _ A6.out).mono ?_); rintro e w9 ⟨rfl, hb⟩; have n0_ := Aside0.mk (below_step (by repeat (first | (with_reducible first | exact HB.out | apply below_alloc | apply pw_below_drewN | apply below_drew1) | exact HB.out)) hb); clear HB; have HB := n0_; clear n0_; (try clear hb); (try clear hb2); (try clear hk); (try clear hi)))
      repeat (go_quiet (first | (go_at_call 14; (with_reducible refine (heraldlaw11_awake.calls k  false _ A6.out).mono ?_); rintro e w9 ⟨rfl, hb⟩; have n0_ := Aside0.mk (below_step (by repeat (first | (with_reducible first | exact HB.out | apply below_alloc | apply pw_below_drewN | apply below_drew1) | exact HB.out)) hb); clear HB; have HB := n0_; clear n0_; (try clear hb); (try clear hb2); (try clear hk); (try clear hi))); try go_wp2_with (first | (go_at_call 14; (with_reducible refine (heraldlaw11_awake.calls k  false _ A6.out).mono ?_); rintro e w9 ⟨rfl, hb⟩; have n0_ := Aside0.mk (below_step (by repeat (first | (with_reducible first | exact HB.out | apply below_alloc | apply pw_below_drewN | apply below_drew1) | exact HB.out)) hb); clear HB; have HB := n0_; clear n0_; (try clear hb); (try clear hb2); (try clear hk); (try clear hi))))
      go_meet
      case rel => exact ⟨_, (true), (by first | rfl | (simp; done) | (simp [*]; done)), H', ⟨by first | omega | exact Nat.le_refl _⟩, ⟨by repeat (first | (with_reducible first | exact HB.out | apply below_alloc | apply pw_below_drewN | apply below_drew1) | exact HB.out)⟩⟩
  case rest =>
    clear HC5
    try clear c1
    try clear p2
    try clear c6
    try clear c7
    obtain ⟨kq, x33_4, rfl, HA, HJ4, HB⟩ := hcut
    cases kq with
    | zero => exact absurd HA.out (by simp [heraldlaw11_SoftBetween.j0])
    | succ kj4 =>
      have H := HA.out
      clear HA
      simp only [heraldlaw11_SoftBetween.j0] at H
      by_cases c10 : x33_4 = true
      · subst c10
        have H1 : (some false) = some r := by rw [if_pos rfl] at H; exact H
        clear H
        have H := H1
        clear H1
        obtain rfl := Option.some.inj H
        go_wp2
        repeat (go_quiet (fail); try go_wp2)
        go_ret
        exact ⟨by first | rfl | (simp [errW_none, errW_some] <;> rfl) | (simp [*, errW_none, errW_some] <;> rfl), by repeat (first | (with_reducible first | exact HB.out | apply below_alloc | apply pw_below_drewN | apply below_drew1) | exact HB.out)⟩
      · replace c10 := Bool.eq_false_iff.mpr c10
        subst c10
        have H1 : (if t238 = 0 then (heraldlaw11_SoftBetween.l0 kj4 l0 l1 t237 127 (-128) 0 0 0) else (some (t237 == 0))) = some r := by rw [if_neg (show ¬ (false = true) by decide)] at H; exact H
        clear H
        have H := H1
        clear H1
        by_cases c11 : t238 = 0
        · rw [if_pos c11] at H
          have c11b0 : (t238 == 0) = true := beq_iff_eq.mpr c11
          have c11b1 : (t238 != 0) = false := bne_eq_false_iff_eq.mpr c11
          clear c11
          have H' := Aside0.mk H
          clear H
          go_wp2
          repeat (go_quiet (fail); try go_wp2)
          go_loopg [9, 10, 11, 12, 13] kj4 (fun kq v9 v10 v11 v12 v13 w' => ∃ (x9_2 : Int) (x10_2 : Int) (x11_2 : Int) (x12_2 : Int) (x13_2 : Int), v9 = .int .i8 x9_2 ∧ v10 = .int .i8 x10_2 ∧ v11 = .int .i64 x11_2 ∧ v12 = .int .i64 x12_2 ∧ v13 = .int .i64 x13_2 ∧ Aside0 (heraldlaw11_SoftBetween.l0 kq l0 l1 t237 x9_2 x10_2 x11_2 x12_2 x13_2 = some r) ∧ Aside0 (kq ≤ kj4) ∧ Aside0 (Below w.heap.size w w'))
          case atStart => exact ⟨(127), ((-128)), (0), (0), (0), (by first | rfl | (simp; done) | (simp [*]; done)), (by first | rfl | (simp; done) | (simp [*]; done)), (by first | rfl | (simp; done) | (simp [*]; done)), (by first | rfl | (simp; done) | (simp [*]; done)), (by first | rfl | (simp; done) | (simp [*]; done)), H', ⟨Nat.le_refl _⟩, ⟨by repeat (first | (with_reducible first | exact HB.out | apply below_alloc | apply pw_below_drewN | apply below_drew1) | exact HB.out)⟩⟩
          case round =>
            clear H'
            try clear c1
            try clear p2
            try clear c6
            try clear c7
            try clear c10
            try clear c11
            try clear c11b0
            try clear c11b1
            try clear p2
            obtain ⟨x9_2, x10_2, x11_2, x12_2, x13_2, rfl, rfl, rfl, rfl, rfl, HA, HK2, HB⟩ := hrel
            cases gk with
            | zero => exact absurd HA.out (by simp [heraldlaw11_SoftBetween.l0])
            | succ k2 =>
              have H := HA.out
              clear HA
              simp only [heraldlaw11_SoftBetween.l0] at H
              by_cases c12 : x13_2 < (l0.length : Int)
              · rw [if_pos c12] at H
                have c12b0 : decide (x13_2 < (l0.length : Int)) = true := decide_eq_true c12
                clear c12
                have HC13 := Aside0.mk H
                clear H
                go_upto_region 12 with (fail)
                repeat (go_quiet (fail); go_upto_region 12 with (fail))
                go_cut [56] (fun v56 wc => ∃ (kq : Nat) (x56_12 : Bool), v56 = .bool x56_12 ∧ Aside0 (heraldlaw11_SoftBetween.j2 kq l0 l1 t237 x9_2 x10_2 x11_2 x12_2 x13_2 x56_12 = some r) ∧ Aside0 (kq ≤ k2) ∧ Aside0 (Below w.heap.size w wc))
                case first =>
                  have H := HC13.out
                  clear HC13
                  by_cases c14 : 0 ≤ x13_2
                  · rw [if_pos c14] at H
                    have c14b0 : decide (0 ≤ x13_2) = true := decide_eq_true c14
                    clear c14
                    (first | rw [c14b0] | (simp only [i64_w, i32_w]; rw [c14b0]) | skip)
                    by_cases c15 : (rd l0 x13_2) > 0
                    · rw [if_pos c15] at H
                      have c15b0 : decide (0 < (rd l0 x13_2)) = true := decide_eq_true c15
                      clear c15
                      by_cases c16 : x13_2 < (l1.length : Int)
                      · rw [if_pos c16] at H
                        have c16b0 : decide (x13_2 < (l1.length : Int)) = true := decide_eq_true c16
                        clear c16
                        have H' := Aside0.mk H
                        clear H
                        have p242 : 0 ≤ (x13_2 : Int) := of_decide_eq_true (by first | (with_reducible assumption) | assumption)
                        have q242 : x13_2 < (l0.length : Int) := of_decide_eq_true (by first | (with_reducible assumption) | assumption)
                        obtain ⟨ad242, e242, hx242_0⟩ := Kd.at_int HR0.out x13_2 p242 q242
                        cases e242
                        replace hx242_0 := (HB.out.cell (World.block_lt_of_cell? w _ hx242_0)).trans hx242_0
                        replace p242 := eq_true p242
                        replace q242 := eq_true q242
                        have p243 : 0 ≤ (x13_2 : Int) := of_decide_eq_true (by first | (with_reducible assumption) | assumption)
                        have q243 : x13_2 < (l1.length : Int) := of_decide_eq_true (by first | (with_reducible assumption) | assumption)
                        obtain ⟨ad243, e243, hx243_0⟩ := Kd.at_int HR1.out x13_2 p243 q243
                        cases e243
                        replace hx243_0 := (HB.out.cell (World.block_lt_of_cell? w _ hx243_0)).trans hx243_0
                        replace p243 := eq_true p243
                        replace q243 := eq_true q243
                        go_wp2
                        repeat (go_quiet (fail); try go_wp2)
                        go_meet
                        case rel => exact ⟨_, (decide ((rd l1 x13_2) < x9_2)), (by first | rfl | (simp; done) | (simp [*]; done)), H', ⟨by have := HJ4.out; have := HK2.out; first | omega | exact Nat.le_refl _⟩, ⟨by repeat (first | (with_reducible first | exact HB.out | apply below_alloc | apply pw_below_drewN | apply below_drew1) | exact HB.out)⟩⟩
                      · rw [if_neg c16] at H
                        exact absurd H (by simp)
                    · rw [if_neg c15] at H
                      have c15b0 : decide (0 < (rd l0 x13_2)) = false := decide_eq_false c15
                      clear c15
                      have H' := Aside0.mk H
                      clear H
                      have p242 : 0 ≤ (x13_2 : Int) := of_decide_eq_true (by first | (with_reducible assumption) | assumption)
                      have q242 : x13_2 < (l0.length : Int) := of_decide_eq_true (by first | (with_reducible assumption) | assumption)
                      obtain ⟨ad242, e242, hx242_0⟩ := Kd.at_int HR0.out x13_2 p242 q242
                      cases e242
                      replace hx242_0 := (HB.out.cell (World.block_lt_of_cell? w _ hx242_0)).trans hx242_0
                      replace p242 := eq_true p242
                      replace q242 := eq_true q242
                      go_wp2
                      repeat (go_quiet (fail); try go_wp2)
                      go_meet
                      case rel => exact ⟨_, (false), (by first | rfl | (simp; done) | (simp [*]; done)), H', ⟨by have := HJ4.out; have := HK2.out; first | omega | exact Nat.le_refl _⟩, ⟨by repeat (first | (with_reducible first | exact HB.out | apply below_alloc | apply pw_below_drewN | apply below_drew1) | exact HB.out)⟩⟩
                  · rw [if_neg c14] at H
                    exact absurd H (by simp)
                case rest =>
                  clear HC13
                  try clear c1
                  try clear p2
                  try clear q2
                  try clear hx2
                  try clear c6
                  try clear c7
                  try clear c10
                  try clear c11
                  try clear c11b0
                  try clear c11b1
                  try clear c12
                  try clear c12b0
                  try clear c14
                  try clear c14b0
                  try clear c15
                  try clear c15b0
                  try clear c16
                  try clear c16b0
                  try clear hx242_0
                  try clear hx243_0
                  try clear p2
                  try clear p242
                  try clear p243
                  try clear q242
                  try clear q243
                  obtain ⟨kq, x56_12, rfl, HA, HJ12, HB⟩ := hcut
                  cases kq with
                  | zero => exact absurd HA.out (by simp [heraldlaw11_SoftBetween.j2])
                  | succ kj12 =>
                    have H := HA.out
                    clear HA
                    simp only [heraldlaw11_SoftBetween.j2] at H
                    by_cases c17 : x56_12 = true
                    · subst c17
                      have H1 : (if 0 ≤ x13_2 then (if x13_2 < (l1.length : Int) then (if x13_2 < (l0.length : Int) then (if (rd l0 x13_2) > 0 then (if (rd l1 x13_2) > x10_2 then (heraldlaw11_SoftBetween.l0 kj12 l0 l1 t237 (rd l1 x13_2) (rd l1 x13_2) (wrap64 (x11_2 + (rd l0 x13_2))) (wrap64 (x12_2 + (wrap64 ((rd l0 x13_2) * (wrap64 (rd l1 x13_2)))))) (wrap64 (x13_2 + 1))) else (heraldlaw11_SoftBetween.l0 kj12 l0 l1 t237 (rd l1 x13_2) x10_2 (wrap64 (x11_2 + (rd l0 x13_2))) (wrap64 (x12_2 + (wrap64 ((rd l0 x13_2) * (wrap64 (rd l1 x13_2)))))) (wrap64 (x13_2 + 1)))) else (heraldlaw11_SoftBetween.l0 kj12 l0 l1 t237 (rd l1 x13_2) x10_2 (wrap64 (x11_2 + (rd l0 x13_2))) (wrap64 (x12_2 + (wrap64 ((rd l0 x13_2) * (wrap64 (rd l1 x13_2)))))) (wrap64 (x13_2 + 1)))) else (none)) else (none)) else (none)) = some r := by rw [if_pos rfl] at H; exact H
                      clear H
                      have H := H1
                      clear H1
                      by_cases c18 : 0 ≤ x13_2
                      · rw [if_pos c18] at H
                        have c18b0 : decide (0 ≤ x13_2) = true := decide_eq_true c18
                        clear c18
                        by_cases c19 : x13_2 < (l1.length : Int)
                        · rw [if_pos c19] at H
                          have c19b0 : decide (x13_2 < (l1.length : Int)) = true := decide_eq_true c19
                          clear c19
                          by_cases c20 : x13_2 < (l0.length : Int)
                          · rw [if_pos c20] at H
                            have c20b0 : decide (x13_2 < (l0.length : Int)) = true := decide_eq_true c20
                            clear c20
                            by_cases c21 : (rd l0 x13_2) > 0
                            · rw [if_pos c21] at H
                              have c21b0 : decide (0 < (rd l0 x13_2)) = true := decide_eq_true c21
                              clear c21
                              by_cases c22 : (rd l1 x13_2) > x10_2
                              · rw [if_pos c22] at H
                                have c22b0 : decide (x10_2 < (rd l1 x13_2)) = true := decide_eq_true c22
                                clear c22
                                have H' := Aside0.mk H
                                clear H
                                have p244 : 0 ≤ (x13_2 : Int) := of_decide_eq_true (by first | (with_reducible assumption) | assumption)
                                have q244 : x13_2 < (l1.length : Int) := of_decide_eq_true (by first | (with_reducible assumption) | assumption)
                                obtain ⟨ad244, e244, hx244_0⟩ := Kd.at_int HR1.out x13_2 p244 q244
                                cases e244
                                replace hx244_0 := (HB.out.cell (World.block_lt_of_cell? w _ hx244_0)).trans hx244_0
                                replace p244 := eq_true p244
                                replace q244 := eq_true q244
                                have p245 : 0 ≤ (x13_2 : Int) := of_decide_eq_true (by first | (with_reducible assumption) | assumption)
                                have q245 : x13_2 < (l0.length : Int) := of_decide_eq_true (by first | (with_reducible assumption) | assumption)
                                obtain ⟨ad245, e245, hx245_0⟩ := Kd.at_int HR0.out x13_2 p245 q245
                                cases e245
                                replace hx245_0 := (HB.out.cell (World.block_lt_of_cell? w _ hx245_0)).trans hx245_0
                                replace p245 := eq_true p245
                                replace q245 := eq_true q245
                                have p246 : 0 ≤ (x13_2 : Int) := of_decide_eq_true (by first | (with_reducible assumption) | assumption)
                                have q246 : x13_2 < (l1.length : Int) := of_decide_eq_true (by first | (with_reducible assumption) | assumption)
                                obtain ⟨ad246, e246, hx246_0⟩ := Kd.at_int HR1.out x13_2 p246 q246
                                obtain rfl : ad244 = ad246 := (by injection e246)
                                replace hx246_0 := (HB.out.cell (World.block_lt_of_cell? w _ hx246_0)).trans hx246_0
                                replace p246 := eq_true p246
                                replace q246 := eq_true q246
                                have p247 : 0 ≤ (x13_2 : Int) := of_decide_eq_true (by first | (with_reducible assumption) | assumption)
                                have q247 : x13_2 < (l1.length : Int) := of_decide_eq_true (by first | (with_reducible assumption) | assumption)
                                obtain ⟨ad247, e247, hx247_0⟩ := Kd.at_int HR1.out x13_2 p247 q247
                                obtain rfl : ad244 = ad247 := (by injection e247)
                                replace hx247_0 := (HB.out.cell (World.block_lt_of_cell? w _ hx247_0)).trans hx247_0
                                replace p247 := eq_true p247
                                replace q247 := eq_true q247
                                have p248 : 0 ≤ (x13_2 : Int) := of_decide_eq_true (by first | (with_reducible assumption) | assumption)
                                have q248 : x13_2 < (l0.length : Int) := of_decide_eq_true (by first | (with_reducible assumption) | assumption)
                                obtain ⟨ad248, e248, hx248_0⟩ := Kd.at_int HR0.out x13_2 p248 q248
                                obtain rfl : ad245 = ad248 := (by injection e248)
                                replace hx248_0 := (HB.out.cell (World.block_lt_of_cell? w _ hx248_0)).trans hx248_0
                                replace p248 := eq_true p248
                                replace q248 := eq_true q248
                                have p249 : 0 ≤ (x13_2 : Int) := of_decide_eq_true (by first | (with_reducible assumption) | assumption)
                                have q249 : x13_2 < (l0.length : Int) := of_decide_eq_true (by first | (with_reducible assumption) | assumption)
                                obtain ⟨ad249, e249, hx249_0⟩ := Kd.at_int HR0.out x13_2 p249 q249
                                obtain rfl : ad245 = ad249 := (by injection e249)
                                replace hx249_0 := (HB.out.cell (World.block_lt_of_cell? w _ hx249_0)).trans hx249_0
                                replace p249 := eq_true p249
                                replace q249 := eq_true q249
                                have p250 : 0 ≤ (x13_2 : Int) := of_decide_eq_true (by first | (with_reducible assumption) | assumption)
                                have q250 : x13_2 < (l1.length : Int) := of_decide_eq_true (by first | (with_reducible assumption) | assumption)
                                obtain ⟨ad250, e250, hx250_0⟩ := Kd.at_int HR1.out x13_2 p250 q250
                                obtain rfl : ad244 = ad250 := (by injection e250)
                                replace hx250_0 := (HB.out.cell (World.block_lt_of_cell? w _ hx250_0)).trans hx250_0
                                replace p250 := eq_true p250
                                replace q250 := eq_true q250
                                go_wp2
                                repeat (go_quiet (fail); try go_wp2)
                                go_roundg kj12
                                case measure => have := HJ4.out; have := HK2.out; have := HJ12.out; omega
                                case rel => exact ⟨(rd l1 x13_2), (rd l1 x13_2), (wrap64 (x11_2 + (rd l0 x13_2))), (wrap64 (x12_2 + (wrap64 ((rd l0 x13_2) * (wrap64 (rd l1 x13_2)))))), (wrap64 (x13_2 + 1)), (by first | rfl | (simp; done) | (simp [*]; done)), (by first | rfl | (simp; done) | (simp [*]; done)), (by first | rfl | (simp; done) | (simp [*]; done)), (by first | rfl | (simp; done) | (simp [*]; done)), (by first | rfl | (simp; done) | (simp [*]; done)), H', ⟨by have := HJ4.out; have := HK2.out; have := HJ12.out; omega⟩, ⟨by repeat (first | (with_reducible first | exact HB.out | apply below_alloc | apply pw_below_drewN | apply below_drew1) | exact HB.out)⟩⟩
                              · rw [if_neg c22] at H
                                have c22b0 : decide (x10_2 < (rd l1 x13_2)) = false := decide_eq_false c22
                                clear c22
                                have H' := Aside0.mk H
                                clear H
                                have p244 : 0 ≤ (x13_2 : Int) := of_decide_eq_true (by first | (with_reducible assumption) | assumption)
                                have q244 : x13_2 < (l1.length : Int) := of_decide_eq_true (by first | (with_reducible assumption) | assumption)
                                obtain ⟨ad244, e244, hx244_0⟩ := Kd.at_int HR1.out x13_2 p244 q244
                                cases e244
                                replace hx244_0 := (HB.out.cell (World.block_lt_of_cell? w _ hx244_0)).trans hx244_0
                                replace p244 := eq_true p244
                                replace q244 := eq_true q244
                                have p245 : 0 ≤ (x13_2 : Int) := of_decide_eq_true (by first | (with_reducible assumption) | assumption)
                                have q245 : x13_2 < (l0.length : Int) := of_decide_eq_true (by first | (with_reducible assumption) | assumption)
                                obtain ⟨ad245, e245, hx245_0⟩ := Kd.at_int HR0.out x13_2 p245 q245
                                cases e245
                                replace hx245_0 := (HB.out.cell (World.block_lt_of_cell? w _ hx245_0)).trans hx245_0
                                replace p245 := eq_true p245
                                replace q245 := eq_true q245
                                have p246 : 0 ≤ (x13_2 : Int) := of_decide_eq_true (by first | (with_reducible assumption) | assumption)
                                have q246 : x13_2 < (l1.length : Int) := of_decide_eq_true (by first | (with_reducible assumption) | assumption)
                                obtain ⟨ad246, e246, hx246_0⟩ := Kd.at_int HR1.out x13_2 p246 q246
                                obtain rfl : ad244 = ad246 := (by injection e246)
                                replace hx246_0 := (HB.out.cell (World.block_lt_of_cell? w _ hx246_0)).trans hx246_0
                                replace p246 := eq_true p246
                                replace q246 := eq_true q246
                                have p251 : 0 ≤ (x13_2 : Int) := of_decide_eq_true (by first | (with_reducible assumption) | assumption)
                                have q251 : x13_2 < (l0.length : Int) := of_decide_eq_true (by first | (with_reducible assumption) | assumption)
                                obtain ⟨ad251, e251, hx251_0⟩ := Kd.at_int HR0.out x13_2 p251 q251
                                obtain rfl : ad245 = ad251 := (by injection e251)
                                replace hx251_0 := (HB.out.cell (World.block_lt_of_cell? w _ hx251_0)).trans hx251_0
                                replace p251 := eq_true p251
                                replace q251 := eq_true q251
                                have p252 : 0 ≤ (x13_2 : Int) := of_decide_eq_true (by first | (with_reducible assumption) | assumption)
                                have q252 : x13_2 < (l0.length : Int) := of_decide_eq_true (by first | (with_reducible assumption) | assumption)
                                obtain ⟨ad252, e252, hx252_0⟩ := Kd.at_int HR0.out x13_2 p252 q252
                                obtain rfl : ad245 = ad252 := (by injection e252)
                                replace hx252_0 := (HB.out.cell (World.block_lt_of_cell? w _ hx252_0)).trans hx252_0
                                replace p252 := eq_true p252
                                replace q252 := eq_true q252
                                have p253 : 0 ≤ (x13_2 : Int) := of_decide_eq_true (by first | (with_reducible assumption) | assumption)
                                have q253 : x13_2 < (l1.length : Int) := of_decide_eq_true (by first | (with_reducible assumption) | assumption)
                                obtain ⟨ad253, e253, hx253_0⟩ := Kd.at_int HR1.out x13_2 p253 q253
                                obtain rfl : ad244 = ad253 := (by injection e253)
                                replace hx253_0 := (HB.out.cell (World.block_lt_of_cell? w _ hx253_0)).trans hx253_0
                                replace p253 := eq_true p253
                                replace q253 := eq_true q253
                                go_wp2
                                repeat (go_quiet (fail); try go_wp2)
                                go_roundg kj12
                                case measure => have := HJ4.out; have := HK2.out; have := HJ12.out; omega
                                case rel => exact ⟨(rd l1 x13_2), (x10_2), (wrap64 (x11_2 + (rd l0 x13_2))), (wrap64 (x12_2 + (wrap64 ((rd l0 x13_2) * (wrap64 (rd l1 x13_2)))))), (wrap64 (x13_2 + 1)), (by first | rfl | (simp; done) | (simp [*]; done)), (by first | rfl | (simp; done) | (simp [*]; done)), (by first | rfl | (simp; done) | (simp [*]; done)), (by first | rfl | (simp; done) | (simp [*]; done)), (by first | rfl | (simp; done) | (simp [*]; done)), H', ⟨by have := HJ4.out; have := HK2.out; have := HJ12.out; omega⟩, ⟨by repeat (first | (with_reducible first | exact HB.out | apply below_alloc | apply pw_below_drewN | apply below_drew1) | exact HB.out)⟩⟩
                            · rw [if_neg c21] at H
                              have c21b0 : decide (0 < (rd l0 x13_2)) = false := decide_eq_false c21
                              clear c21
                              have H' := Aside0.mk H
                              clear H
                              have p244 : 0 ≤ (x13_2 : Int) := of_decide_eq_true (by first | (with_reducible assumption) | assumption)
                              have q244 : x13_2 < (l1.length : Int) := of_decide_eq_true (by first | (with_reducible assumption) | assumption)
                              obtain ⟨ad244, e244, hx244_0⟩ := Kd.at_int HR1.out x13_2 p244 q244
                              cases e244
                              replace hx244_0 := (HB.out.cell (World.block_lt_of_cell? w _ hx244_0)).trans hx244_0
                              replace p244 := eq_true p244
                              replace q244 := eq_true q244
                              have p245 : 0 ≤ (x13_2 : Int) := of_decide_eq_true (by first | (with_reducible assumption) | assumption)
                              have q245 : x13_2 < (l0.length : Int) := of_decide_eq_true (by first | (with_reducible assumption) | assumption)
                              obtain ⟨ad245, e245, hx245_0⟩ := Kd.at_int HR0.out x13_2 p245 q245
                              cases e245
                              replace hx245_0 := (HB.out.cell (World.block_lt_of_cell? w _ hx245_0)).trans hx245_0
                              replace p245 := eq_true p245
                              replace q245 := eq_true q245
                              have p254 : 0 ≤ (x13_2 : Int) := of_decide_eq_true (by first | (with_reducible assumption) | assumption)
                              have q254 : x13_2 < (l0.length : Int) := of_decide_eq_true (by first | (with_reducible assumption) | assumption)
                              obtain ⟨ad254, e254, hx254_0⟩ := Kd.at_int HR0.out x13_2 p254 q254
                              obtain rfl : ad245 = ad254 := (by injection e254)
                              replace hx254_0 := (HB.out.cell (World.block_lt_of_cell? w _ hx254_0)).trans hx254_0
                              replace p254 := eq_true p254
                              replace q254 := eq_true q254
                              have p255 : 0 ≤ (x13_2 : Int) := of_decide_eq_true (by first | (with_reducible assumption) | assumption)
                              have q255 : x13_2 < (l0.length : Int) := of_decide_eq_true (by first | (with_reducible assumption) | assumption)
                              obtain ⟨ad255, e255, hx255_0⟩ := Kd.at_int HR0.out x13_2 p255 q255
                              obtain rfl : ad245 = ad255 := (by injection e255)
                              replace hx255_0 := (HB.out.cell (World.block_lt_of_cell? w _ hx255_0)).trans hx255_0
                              replace p255 := eq_true p255
                              replace q255 := eq_true q255
                              have p256 : 0 ≤ (x13_2 : Int) := of_decide_eq_true (by first | (with_reducible assumption) | assumption)
                              have q256 : x13_2 < (l1.length : Int) := of_decide_eq_true (by first | (with_reducible assumption) | assumption)
                              obtain ⟨ad256, e256, hx256_0⟩ := Kd.at_int HR1.out x13_2 p256 q256
                              obtain rfl : ad244 = ad256 := (by injection e256)
                              replace hx256_0 := (HB.out.cell (World.block_lt_of_cell? w _ hx256_0)).trans hx256_0
                              replace p256 := eq_true p256
                              replace q256 := eq_true q256
                              go_wp2
                              repeat (go_quiet (fail); try go_wp2)
                              go_roundg kj12
                              case measure => have := HJ4.out; have := HK2.out; have := HJ12.out; omega
                              case rel => exact ⟨(rd l1 x13_2), (x10_2), (wrap64 (x11_2 + (rd l0 x13_2))), (wrap64 (x12_2 + (wrap64 ((rd l0 x13_2) * (wrap64 (rd l1 x13_2)))))), (wrap64 (x13_2 + 1)), (by first | rfl | (simp; done) | (simp [*]; done)), (by first | rfl | (simp; done) | (simp [*]; done)), (by first | rfl | (simp; done) | (simp [*]; done)), (by first | rfl | (simp; done) | (simp [*]; done)), (by first | rfl | (simp; done) | (simp [*]; done)), H', ⟨by have := HJ4.out; have := HK2.out; have := HJ12.out; omega⟩, ⟨by repeat (first | (with_reducible first | exact HB.out | apply below_alloc | apply pw_below_drewN | apply below_drew1) | exact HB.out)⟩⟩
                          · rw [if_neg c20] at H
                            exact absurd H (by simp)
                        · rw [if_neg c19] at H
                          exact absurd H (by simp)
                      · rw [if_neg c18] at H
                        exact absurd H (by simp)
                    · replace c17 := Bool.eq_false_iff.mpr c17
                      subst c17
                      have H1 : (if 0 ≤ x13_2 then (if x13_2 < (l0.length : Int) then (if (rd l0 x13_2) > 0 then (if x13_2 < (l1.length : Int) then (if (rd l1 x13_2) > x10_2 then (heraldlaw11_SoftBetween.l0 kj12 l0 l1 t237 x9_2 (rd l1 x13_2) (wrap64 (x11_2 + (rd l0 x13_2))) (wrap64 (x12_2 + (wrap64 ((rd l0 x13_2) * (wrap64 (rd l1 x13_2)))))) (wrap64 (x13_2 + 1))) else (heraldlaw11_SoftBetween.l0 kj12 l0 l1 t237 x9_2 x10_2 (wrap64 (x11_2 + (rd l0 x13_2))) (wrap64 (x12_2 + (wrap64 ((rd l0 x13_2) * (wrap64 (rd l1 x13_2)))))) (wrap64 (x13_2 + 1)))) else (none)) else (if x13_2 < (l1.length : Int) then (heraldlaw11_SoftBetween.l0 kj12 l0 l1 t237 x9_2 x10_2 (wrap64 (x11_2 + (rd l0 x13_2))) (wrap64 (x12_2 + (wrap64 ((rd l0 x13_2) * (wrap64 (rd l1 x13_2)))))) (wrap64 (x13_2 + 1))) else (none))) else (none)) else (none)) = some r := by rw [if_neg (show ¬ (false = true) by decide)] at H; exact H
                      clear H
                      have H := H1
                      clear H1
                      by_cases c23 : 0 ≤ x13_2
                      · rw [if_pos c23] at H
                        have c23b0 : decide (0 ≤ x13_2) = true := decide_eq_true c23
                        clear c23
                        by_cases c24 : x13_2 < (l0.length : Int)
                        · rw [if_pos c24] at H
                          have c24b0 : decide (x13_2 < (l0.length : Int)) = true := decide_eq_true c24
                          clear c24
                          by_cases c25 : (rd l0 x13_2) > 0
                          · rw [if_pos c25] at H
                            have c25b0 : decide (0 < (rd l0 x13_2)) = true := decide_eq_true c25
                            clear c25
                            by_cases c26 : x13_2 < (l1.length : Int)
                            · rw [if_pos c26] at H
                              have c26b0 : decide (x13_2 < (l1.length : Int)) = true := decide_eq_true c26
                              clear c26
                              by_cases c27 : (rd l1 x13_2) > x10_2
                              · rw [if_pos c27] at H
                                have c27b0 : decide (x10_2 < (rd l1 x13_2)) = true := decide_eq_true c27
                                clear c27
                                have H' := Aside0.mk H
                                clear H
                                have p257 : 0 ≤ (x13_2 : Int) := of_decide_eq_true (by first | (with_reducible assumption) | assumption)
                                have q257 : x13_2 < (l0.length : Int) := of_decide_eq_true (by first | (with_reducible assumption) | assumption)
                                obtain ⟨ad257, e257, hx257_0⟩ := Kd.at_int HR0.out x13_2 p257 q257
                                cases e257
                                replace hx257_0 := (HB.out.cell (World.block_lt_of_cell? w _ hx257_0)).trans hx257_0
                                replace p257 := eq_true p257
                                replace q257 := eq_true q257
                                have p258 : 0 ≤ (x13_2 : Int) := of_decide_eq_true (by first | (with_reducible assumption) | assumption)
                                have q258 : x13_2 < (l1.length : Int) := of_decide_eq_true (by first | (with_reducible assumption) | assumption)
                                obtain ⟨ad258, e258, hx258_0⟩ := Kd.at_int HR1.out x13_2 p258 q258
                                cases e258
                                replace hx258_0 := (HB.out.cell (World.block_lt_of_cell? w _ hx258_0)).trans hx258_0
                                replace p258 := eq_true p258
                                replace q258 := eq_true q258
                                have p259 : 0 ≤ (x13_2 : Int) := of_decide_eq_true (by first | (with_reducible assumption) | assumption)
                                have q259 : x13_2 < (l1.length : Int) := of_decide_eq_true (by first | (with_reducible assumption) | assumption)
                                obtain ⟨ad259, e259, hx259_0⟩ := Kd.at_int HR1.out x13_2 p259 q259
                                obtain rfl : ad258 = ad259 := (by injection e259)
                                replace hx259_0 := (HB.out.cell (World.block_lt_of_cell? w _ hx259_0)).trans hx259_0
                                replace p259 := eq_true p259
                                replace q259 := eq_true q259
                                have p260 : 0 ≤ (x13_2 : Int) := of_decide_eq_true (by first | (with_reducible assumption) | assumption)
                                have q260 : x13_2 < (l0.length : Int) := of_decide_eq_true (by first | (with_reducible assumption) | assumption)
                                obtain ⟨ad260, e260, hx260_0⟩ := Kd.at_int HR0.out x13_2 p260 q260
                                obtain rfl : ad257 = ad260 := (by injection e260)
                                replace hx260_0 := (HB.out.cell (World.block_lt_of_cell? w _ hx260_0)).trans hx260_0
                                replace p260 := eq_true p260
                                replace q260 := eq_true q260
                                have p261 : 0 ≤ (x13_2 : Int) := of_decide_eq_true (by first | (with_reducible assumption) | assumption)
                                have q261 : x13_2 < (l0.length : Int) := of_decide_eq_true (by first | (with_reducible assumption) | assumption)
                                obtain ⟨ad261, e261, hx261_0⟩ := Kd.at_int HR0.out x13_2 p261 q261
                                obtain rfl : ad257 = ad261 := (by injection e261)
                                replace hx261_0 := (HB.out.cell (World.block_lt_of_cell? w _ hx261_0)).trans hx261_0
                                replace p261 := eq_true p261
                                replace q261 := eq_true q261
                                have p262 : 0 ≤ (x13_2 : Int) := of_decide_eq_true (by first | (with_reducible assumption) | assumption)
                                have q262 : x13_2 < (l1.length : Int) := of_decide_eq_true (by first | (with_reducible assumption) | assumption)
                                obtain ⟨ad262, e262, hx262_0⟩ := Kd.at_int HR1.out x13_2 p262 q262
                                obtain rfl : ad258 = ad262 := (by injection e262)
                                replace hx262_0 := (HB.out.cell (World.block_lt_of_cell? w _ hx262_0)).trans hx262_0
                                replace p262 := eq_true p262
                                replace q262 := eq_true q262
                                go_wp2
                                repeat (go_quiet (fail); try go_wp2)
                                go_roundg kj12
                                case measure => have := HJ4.out; have := HK2.out; have := HJ12.out; omega
                                case rel => exact ⟨(x9_2), (rd l1 x13_2), (wrap64 (x11_2 + (rd l0 x13_2))), (wrap64 (x12_2 + (wrap64 ((rd l0 x13_2) * (wrap64 (rd l1 x13_2)))))), (wrap64 (x13_2 + 1)), (by first | rfl | (simp; done) | (simp [*]; done)), (by first | rfl | (simp; done) | (simp [*]; done)), (by first | rfl | (simp; done) | (simp [*]; done)), (by first | rfl | (simp; done) | (simp [*]; done)), (by first | rfl | (simp; done) | (simp [*]; done)), H', ⟨by have := HJ4.out; have := HK2.out; have := HJ12.out; omega⟩, ⟨by repeat (first | (with_reducible first | exact HB.out | apply below_alloc | apply pw_below_drewN | apply below_drew1) | exact HB.out)⟩⟩
                              · rw [if_neg c27] at H
                                have c27b0 : decide (x10_2 < (rd l1 x13_2)) = false := decide_eq_false c27
                                clear c27
                                have H' := Aside0.mk H
                                clear H
                                have p257 : 0 ≤ (x13_2 : Int) := of_decide_eq_true (by first | (with_reducible assumption) | assumption)
                                have q257 : x13_2 < (l0.length : Int) := of_decide_eq_true (by first | (with_reducible assumption) | assumption)
                                obtain ⟨ad257, e257, hx257_0⟩ := Kd.at_int HR0.out x13_2 p257 q257
                                cases e257
                                replace hx257_0 := (HB.out.cell (World.block_lt_of_cell? w _ hx257_0)).trans hx257_0
                                replace p257 := eq_true p257
                                replace q257 := eq_true q257
                                have p258 : 0 ≤ (x13_2 : Int) := of_decide_eq_true (by first | (with_reducible assumption) | assumption)
                                have q258 : x13_2 < (l1.length : Int) := of_decide_eq_true (by first | (with_reducible assumption) | assumption)
                                obtain ⟨ad258, e258, hx258_0⟩ := Kd.at_int HR1.out x13_2 p258 q258
                                cases e258
                                replace hx258_0 := (HB.out.cell (World.block_lt_of_cell? w _ hx258_0)).trans hx258_0
                                replace p258 := eq_true p258
                                replace q258 := eq_true q258
                                have p263 : 0 ≤ (x13_2 : Int) := of_decide_eq_true (by first | (with_reducible assumption) | assumption)
                                have q263 : x13_2 < (l0.length : Int) := of_decide_eq_true (by first | (with_reducible assumption) | assumption)
                                obtain ⟨ad263, e263, hx263_0⟩ := Kd.at_int HR0.out x13_2 p263 q263
                                obtain rfl : ad257 = ad263 := (by injection e263)
                                replace hx263_0 := (HB.out.cell (World.block_lt_of_cell? w _ hx263_0)).trans hx263_0
                                replace p263 := eq_true p263
                                replace q263 := eq_true q263
                                have p264 : 0 ≤ (x13_2 : Int) := of_decide_eq_true (by first | (with_reducible assumption) | assumption)
                                have q264 : x13_2 < (l0.length : Int) := of_decide_eq_true (by first | (with_reducible assumption) | assumption)
                                obtain ⟨ad264, e264, hx264_0⟩ := Kd.at_int HR0.out x13_2 p264 q264
                                obtain rfl : ad257 = ad264 := (by injection e264)
                                replace hx264_0 := (HB.out.cell (World.block_lt_of_cell? w _ hx264_0)).trans hx264_0
                                replace p264 := eq_true p264
                                replace q264 := eq_true q264
                                have p265 : 0 ≤ (x13_2 : Int) := of_decide_eq_true (by first | (with_reducible assumption) | assumption)
                                have q265 : x13_2 < (l1.length : Int) := of_decide_eq_true (by first | (with_reducible assumption) | assumption)
                                obtain ⟨ad265, e265, hx265_0⟩ := Kd.at_int HR1.out x13_2 p265 q265
                                obtain rfl : ad258 = ad265 := (by injection e265)
                                replace hx265_0 := (HB.out.cell (World.block_lt_of_cell? w _ hx265_0)).trans hx265_0
                                replace p265 := eq_true p265
                                replace q265 := eq_true q265
                                go_wp2
                                repeat (go_quiet (fail); try go_wp2)
                                go_roundg kj12
                                case measure => have := HJ4.out; have := HK2.out; have := HJ12.out; omega
                                case rel => exact ⟨(x9_2), (x10_2), (wrap64 (x11_2 + (rd l0 x13_2))), (wrap64 (x12_2 + (wrap64 ((rd l0 x13_2) * (wrap64 (rd l1 x13_2)))))), (wrap64 (x13_2 + 1)), (by first | rfl | (simp; done) | (simp [*]; done)), (by first | rfl | (simp; done) | (simp [*]; done)), (by first | rfl | (simp; done) | (simp [*]; done)), (by first | rfl | (simp; done) | (simp [*]; done)), (by first | rfl | (simp; done) | (simp [*]; done)), H', ⟨by have := HJ4.out; have := HK2.out; have := HJ12.out; omega⟩, ⟨by repeat (first | (with_reducible first | exact HB.out | apply below_alloc | apply pw_below_drewN | apply below_drew1) | exact HB.out)⟩⟩
                            · rw [if_neg c26] at H
                              exact absurd H (by simp)
                          · rw [if_neg c25] at H
                            have c25b0 : decide (0 < (rd l0 x13_2)) = false := decide_eq_false c25
                            clear c25
                            by_cases c28 : x13_2 < (l1.length : Int)
                            · rw [if_pos c28] at H
                              have c28b0 : decide (x13_2 < (l1.length : Int)) = true := decide_eq_true c28
                              clear c28
                              have H' := Aside0.mk H
                              clear H
                              have p257 : 0 ≤ (x13_2 : Int) := of_decide_eq_true (by first | (with_reducible assumption) | assumption)
                              have q257 : x13_2 < (l0.length : Int) := of_decide_eq_true (by first | (with_reducible assumption) | assumption)
                              obtain ⟨ad257, e257, hx257_0⟩ := Kd.at_int HR0.out x13_2 p257 q257
                              cases e257
                              replace hx257_0 := (HB.out.cell (World.block_lt_of_cell? w _ hx257_0)).trans hx257_0
                              replace p257 := eq_true p257
                              replace q257 := eq_true q257
                              have p266 : 0 ≤ (x13_2 : Int) := of_decide_eq_true (by first | (with_reducible assumption) | assumption)
                              have q266 : x13_2 < (l0.length : Int) := of_decide_eq_true (by first | (with_reducible assumption) | assumption)
                              obtain ⟨ad266, e266, hx266_0⟩ := Kd.at_int HR0.out x13_2 p266 q266
                              obtain rfl : ad257 = ad266 := (by injection e266)
                              replace hx266_0 := (HB.out.cell (World.block_lt_of_cell? w _ hx266_0)).trans hx266_0
                              replace p266 := eq_true p266
                              replace q266 := eq_true q266
                              have p267 : 0 ≤ (x13_2 : Int) := of_decide_eq_true (by first | (with_reducible assumption) | assumption)
                              have q267 : x13_2 < (l0.length : Int) := of_decide_eq_true (by first | (with_reducible assumption) | assumption)
                              obtain ⟨ad267, e267, hx267_0⟩ := Kd.at_int HR0.out x13_2 p267 q267
                              obtain rfl : ad257 = ad267 := (by injection e267)
                              replace hx267_0 := (HB.out.cell (World.block_lt_of_cell? w _ hx267_0)).trans hx267_0
                              replace p267 := eq_true p267
                              replace q267 := eq_true q267
                              have p268 : 0 ≤ (x13_2 : Int) := of_decide_eq_true (by first | (with_reducible assumption) | assumption)
                              have q268 : x13_2 < (l1.length : Int) := of_decide_eq_true (by first | (with_reducible assumption) | assumption)
                              obtain ⟨ad268, e268, hx268_0⟩ := Kd.at_int HR1.out x13_2 p268 q268
                              cases e268
                              replace hx268_0 := (HB.out.cell (World.block_lt_of_cell? w _ hx268_0)).trans hx268_0
                              replace p268 := eq_true p268
                              replace q268 := eq_true q268
                              go_wp2
                              repeat (go_quiet (fail); try go_wp2)
                              go_roundg kj12
                              case measure => have := HJ4.out; have := HK2.out; have := HJ12.out; omega
                              case rel => exact ⟨(x9_2), (x10_2), (wrap64 (x11_2 + (rd l0 x13_2))), (wrap64 (x12_2 + (wrap64 ((rd l0 x13_2) * (wrap64 (rd l1 x13_2)))))), (wrap64 (x13_2 + 1)), (by first | rfl | (simp; done) | (simp [*]; done)), (by first | rfl | (simp; done) | (simp [*]; done)), (by first | rfl | (simp; done) | (simp [*]; done)), (by first | rfl | (simp; done) | (simp [*]; done)), (by first | rfl | (simp; done) | (simp [*]; done)), H', ⟨by have := HJ4.out; have := HK2.out; have := HJ12.out; omega⟩, ⟨by repeat (first | (with_reducible first | exact HB.out | apply below_alloc | apply pw_below_drewN | apply below_drew1) | exact HB.out)⟩⟩
                            · rw [if_neg c28] at H
                              exact absurd H (by simp)
                        · rw [if_neg c24] at H
                          exact absurd H (by simp)
                      · rw [if_neg c23] at H
                        exact absurd H (by simp)
              · rw [if_neg c12] at H
                have c12b0 : decide (x13_2 < (l0.length : Int)) = false := decide_eq_false c12
                clear c12
                by_cases c29 : t237 ≥ x9_2
                · rw [if_pos c29] at H
                  have c29b0 : decide (x9_2 ≤ t237) = true := decide_eq_true c29
                  clear c29
                  by_cases c30 : t237 ≤ x10_2
                  · rw [if_pos c30] at H
                    have c30b0 : decide (t237 ≤ x10_2) = true := decide_eq_true c30
                    clear c30
                    by_cases c31 : (wrap64 (2 * (wrap64 (x12_2 - (wrap64 ((wrap64 (t237)) * x11_2)))))) ≥ (wrap64 (-x11_2))
                    · rw [if_pos c31] at H
                      have c31b0 : decide ((wrap64 (-x11_2)) ≤ (wrap64 (2 * (wrap64 (x12_2 - (wrap64 ((wrap64 (t237)) * x11_2))))))) = true := decide_eq_true c31
                      clear c31
                      obtain rfl := Option.some.inj H
                      go_wp2
                      repeat (go_quiet (fail); try go_wp2)
                      go_ret
                      exact ⟨by first | rfl | (simp [errW_none, errW_some] <;> rfl) | (simp [*, errW_none, errW_some] <;> rfl), by repeat (first | (with_reducible first | exact HB.out | apply below_alloc | apply pw_below_drewN | apply below_drew1) | exact HB.out)⟩
                    · rw [if_neg c31] at H
                      have c31b0 : decide ((wrap64 (-x11_2)) ≤ (wrap64 (2 * (wrap64 (x12_2 - (wrap64 ((wrap64 (t237)) * x11_2))))))) = false := decide_eq_false c31
                      clear c31
                      obtain rfl := Option.some.inj H
                      go_wp2
                      repeat (go_quiet (fail); try go_wp2)
                      go_ret
                      exact ⟨by first | rfl | (simp [errW_none, errW_some] <;> rfl) | (simp [*, errW_none, errW_some] <;> rfl), by repeat (first | (with_reducible first | exact HB.out | apply below_alloc | apply pw_below_drewN | apply below_drew1) | exact HB.out)⟩
                  · rw [if_neg c30] at H
                    have c30b0 : decide (t237 ≤ x10_2) = false := decide_eq_false c30
                    clear c30
                    obtain rfl := Option.some.inj H
                    go_wp2
                    repeat (go_quiet (fail); try go_wp2)
                    go_ret
                    exact ⟨by first | rfl | (simp [errW_none, errW_some] <;> rfl) | (simp [*, errW_none, errW_some] <;> rfl), by repeat (first | (with_reducible first | exact HB.out | apply below_alloc | apply pw_below_drewN | apply below_drew1) | exact HB.out)⟩
                · rw [if_neg c29] at H
                  have c29b0 : decide (x9_2 ≤ t237) = false := decide_eq_false c29
                  clear c29
                  obtain rfl := Option.some.inj H
                  go_wp2
                  repeat (go_quiet (fail); try go_wp2)
                  go_ret
                  exact ⟨by first | rfl | (simp [errW_none, errW_some] <;> rfl) | (simp [*, errW_none, errW_some] <;> rfl), by repeat (first | (with_reducible first | exact HB.out | apply below_alloc | apply pw_below_drewN | apply below_drew1) | exact HB.out)⟩
        · rw [if_neg c11] at H
          have c11b0 : (t238 == 0) = false := beq_eq_false_iff_ne.mpr c11
          have c11b1 : (t238 != 0) = true := bne_iff_ne.mpr c11
          obtain rfl := Option.some.inj H
          go_wp2
          repeat (go_quiet (fail); try go_wp2)
          go_ret
          exact ⟨by first | rfl | (simp [errW_none, errW_some] <;> rfl) | (simp [*, errW_none, errW_some] <;> rfl), by repeat (first | (with_reducible first | exact HB.out | apply below_alloc | apply pw_below_drewN | apply below_drew1) | exact HB.out)⟩

/-- THE ONE PURE STATEMENT of heraldlaw11_SoftBetween: yours. -/
def heraldlaw11_SoftBetween.Pure : Prop := ∀ (l0 : List Int) (l1 : List Int), l0.length ≤ maxLen → l0.length * 8 ≤ 140737488351232 → (∀ x ∈ l0, (Lit.int .i64 x).wf = true) → l1.length ≤ maxLen → l1.length * 1 ≤ 140737488351232 → (∀ x ∈ l1, (Lit.int .i8 x).wf = true) → ∃ k, heraldlaw11_SoftBetween.f k l0 l1 = some true
theorem heraldlaw11_SoftBetween.walk (P : heraldlaw11_SoftBetween.Pure) (a0 : Option Addr) (len0 cap0 : Nat) (z0 : List Int) (a1 : Option Addr) (len1 cap1 : Nat) (z1 : List Int) (w : World) (w0 : (a0 = none ∧ len0 = 0 ∧ cap0 = 0 ∧ z0 = []) ∨ ∃ x, a0 = some x ∧ len0 ≤ cap0 ∧ cap0 ≤ maxLen ∧ z0.length = cap0 ∧ (∀ i, i < z0.length → w.cell? (x.add i) = some (.int .i64 (z0.getD i 0))) ∧ ∀ n ∈ z0, (Lit.int .i64 n).wf = true) (y0 : len0 * 8 ≤ 140737488351232) (w1 : (a1 = none ∧ len1 = 0 ∧ cap1 = 0 ∧ z1 = []) ∨ ∃ x, a1 = some x ∧ len1 ≤ cap1 ∧ cap1 ≤ maxLen ∧ z1.length = cap1 ∧ (∀ i, i < z1.length → w.cell? (x.add i) = some (.int .i8 (z1.getD i 0))) ∧ ∀ n ∈ z1, (Lit.int .i8 n).wf = true) (y1 : len1 * 1 ≤ 140737488351232) :
    Calls Try.prog 6 #[.slice a0 len0 cap0, .slice a1 len1 cap1] w fun e w' => e = .returned (.bool true) ∧ Below w.heap.size w w' := by
  obtain ⟨l0, rfl, hr0, hm0, hw0, hc0⟩ := ReadsInt.ofRowC w0
  obtain ⟨l1, rfl, hr1, hm1, hw1, hc1⟩ := ReadsInt.ofRowC w1
  obtain ⟨k, h⟩ := P l0 l1 hm0 y0 hw0 hm1 y1 hw1
  refine (heraldlaw11_SoftBetween.calls k _ _ l0 _ _ l1 true w (Kd.C_of_reads (d := (0 : Int)) (h1 := fun _ => rfl) hr0) hc0 (Kd.C_of_reads (d := (0 : Int)) (h1 := fun _ => rfl) hr1) hc1 h).mono ?_
  rintro e w' ⟨rfl, hd⟩
  exact ⟨rfl, hd⟩

end Go.Proofs.Ytmpldbccohdnjaa.P
