-- Printed by xprint.py (wip): functions, contracts, rows. Lean checks it.
import Derived.Test.YtfjpnmhbbfiaaaaZGNPx0
import Derived.Test.YtfjpnmhbbfiaaaaZGNTiny
namespace Go.Proofs.Ytfjpnmhbbfiaaaa.P
open Go.RowKit Go.Proofs.YtfjpnmhbbfiaaaaW.PrintWords Go.Proofs.YtfjpnmhbbfiaaaaW.PrintLast Go.Proofs.YtfjpnmhbbfiaaaaW.PrintMore
attribute [local go_sem] max2_int min2_int max_two min_two max_three min_three max_four min_four   -- for this text's walks alone
set_option linter.unusedVariables false
set_option linter.unusedSimpArgs false

/-! ### guide_alive: function 51 -/
mutual
def guide_alive.l0 : Nat → List Bool → List Int → List Bool → Int → Int → List Bool → List (S92) → Option (List Bool)
  | 0, _, _, _, _, _, _, _ => none
  | k + 1, x3, x4, x15, x16, x17, x117000, x117001 => if x17 < x16 then (if 0 ≤ x17 then (if x17 < (x15.length : Int) then (if rdOf false x15 x17 = true then (if x17 < (x3.length : Int) then (if x4.length < 17592186044416 then (guide_alive.l0 k (x3.set (x17 : Int).toNat true) (x4 ++ [x17]) x15 x16 (wrap64 (x17 + 1)) x117000 x117001) else (none)) else (none)) else (guide_alive.l0 k x3 x4 x15 x16 (wrap64 (x17 + 1)) x117000 x117001)) else (none)) else (none)) else (guide_alive.l1 k x3 x4 x117000 x117001)
def guide_alive.l1 : Nat → List Bool → List Int → List Bool → List (S92) → Option (List Bool)
  | 0, _, _, _, _ => none
  | k + 1, x3, x4, x117000, x117001 => if (x4.length : Int) > 0 then (if 0 < (x4.length : Int) then (if 1 ≤ (x4.length : Int) then (guide_alive.l2 k x3 (x4.drop (1 : Int).toNat) (rd x4 0) x117001 (x117001.length : Int) 0 x117000 x117001) else (none)) else (none)) else (some x3)
def guide_alive.l2 : Nat → List Bool → List Int → Int → List (S92) → Int → Int → List Bool → List (S92) → Option (List Bool)
  | 0, _, _, _, _, _, _, _, _ => none
  | k + 1, x3, x4, x7, x40, x41, x42, x117000, x117001 => if x42 < x41 then (if 0 ≤ x42 then (if x42 < (x40.length : Int) then (if ((rd_T92 x40 x42).f3) = x7 then (if 0 ≤ ((rd_T92 x40 x42).f0) then (if ((rd_T92 x40 x42).f0) < (x3.length : Int) then (if (rdOf false x3 ((rd_T92 x40 x42).f0) = true) then (guide_alive.l2 k x3 x4 x7 x40 x41 (wrap64 (x42 + 1)) x117000 x117001) else (if x4.length < 17592186044416 then (guide_alive.l2 k (x3.set (((rd_T92 x40 x42).f0) : Int).toNat true) (x4 ++ [(rd_T92 x40 x42).f0]) x7 x40 x41 (wrap64 (x42 + 1)) x117000 x117001) else (none))) else (none)) else (none)) else (guide_alive.l2 k x3 x4 x7 x40 x41 (wrap64 (x42 + 1)) x117000 x117001)) else (none)) else (none)) else (guide_alive.l1 k x3 x4 x117000 x117001)
end
def guide_alive.f (k : Nat) (l0_0 : List Bool) (l0_1 : List (S92)) : Option (List Bool) := if 0 ≤ (l0_0.length : Int) then (if ((l0_0.length : Int) : Int).toNat ≤ 281474976710656 then (guide_alive.l0 k (List.replicate ((l0_0.length : Int) : Int).toNat false) ([] : List Int) l0_0 (l0_0.length : Int) 0 l0_0 l0_1) else (none)) else (none)
theorem guide_alive.mono_l : ∀ k, (∀ y0 y1 y2 y3 y4 y5 y6, LeO (guide_alive.l0 k y0 y1 y2 y3 y4 y5 y6) (guide_alive.l0 (k + 1) y0 y1 y2 y3 y4 y5 y6)) ∧ (∀ y0 y1 y2 y3, LeO (guide_alive.l1 k y0 y1 y2 y3) (guide_alive.l1 (k + 1) y0 y1 y2 y3)) ∧ (∀ y0 y1 y2 y3 y4 y5 y6 y7, LeO (guide_alive.l2 k y0 y1 y2 y3 y4 y5 y6 y7) (guide_alive.l2 (k + 1) y0 y1 y2 y3 y4 y5 y6 y7))
  | 0 => ⟨fun _ _ _ _ _ _ _ r h => by simp [guide_alive.l0] at h, fun _ _ _ _ r h => by simp [guide_alive.l1] at h, fun _ _ _ _ _ _ _ _ r h => by simp [guide_alive.l2] at h⟩
  | k + 1 => by
    obtain ⟨ih0, ih1, ih2⟩ := guide_alive.mono_l k
    refine ⟨?_, ?_, ?_⟩
    · intro y0 y1 y2 y3 y4 y5 y6
      unfold guide_alive.l0
      repeat' first
      | (with_reducible exact ih0 _ _ _ _ _ _ _)
      | (with_reducible exact ih1 _ _ _ _)
      | (with_reducible exact ih2 _ _ _ _ _ _ _ _)
      | (with_reducible exact LeO.refl _)
      | (with_reducible exact LeO.none _)
      | (with_reducible refine LeO.ite ?_ ?_)
      | (with_reducible refine LeO.bind ?_ (fun _ => ?_))
      | exact ih0 _ _ _ _ _ _ _
      | exact ih1 _ _ _ _
      | exact ih2 _ _ _ _ _ _ _ _
      | exact LeO.none _
      | refine LeO.ite ?_ ?_
      | refine LeO.bind ?_ (fun _ => ?_)
    · intro y0 y1 y2 y3
      unfold guide_alive.l1
      repeat' first
      | (with_reducible exact ih0 _ _ _ _ _ _ _)
      | (with_reducible exact ih1 _ _ _ _)
      | (with_reducible exact ih2 _ _ _ _ _ _ _ _)
      | (with_reducible exact LeO.refl _)
      | (with_reducible exact LeO.none _)
      | (with_reducible refine LeO.ite ?_ ?_)
      | (with_reducible refine LeO.bind ?_ (fun _ => ?_))
      | exact ih0 _ _ _ _ _ _ _
      | exact ih1 _ _ _ _
      | exact ih2 _ _ _ _ _ _ _ _
      | exact LeO.none _
      | refine LeO.ite ?_ ?_
      | refine LeO.bind ?_ (fun _ => ?_)
    · intro y0 y1 y2 y3 y4 y5 y6 y7
      unfold guide_alive.l2
      repeat' first
      | (with_reducible exact ih0 _ _ _ _ _ _ _)
      | (with_reducible exact ih1 _ _ _ _)
      | (with_reducible exact ih2 _ _ _ _ _ _ _ _)
      | (with_reducible exact LeO.refl _)
      | (with_reducible exact LeO.none _)
      | (with_reducible refine LeO.ite ?_ ?_)
      | (with_reducible refine LeO.bind ?_ (fun _ => ?_))
      | exact ih0 _ _ _ _ _ _ _
      | exact ih1 _ _ _ _
      | exact ih2 _ _ _ _ _ _ _ _
      | exact LeO.none _
      | refine LeO.ite ?_ ?_
      | refine LeO.bind ?_ (fun _ => ?_)
theorem guide_alive.mono : ∀ a0 a1 k, LeO (guide_alive.f k a0 a1) (guide_alive.f (k + 1) a0 a1) := by
  intro a0 a1 k
  obtain ⟨ih0, ih1, ih2⟩ := guide_alive.mono_l k
  unfold guide_alive.f
  repeat' first
      | (with_reducible exact ih0 _ _ _ _ _ _ _)
      | (with_reducible exact ih1 _ _ _ _)
      | (with_reducible exact ih2 _ _ _ _ _ _ _ _)
      | (with_reducible exact LeO.refl _)
      | (with_reducible exact LeO.none _)
      | (with_reducible refine LeO.ite ?_ ?_)
      | (with_reducible refine LeO.bind ?_ (fun _ => ?_))
      | exact ih0 _ _ _ _ _ _ _
      | exact ih1 _ _ _ _
      | exact ih2 _ _ _ _ _ _ _ _
      | exact LeO.none _
      | refine LeO.ite ?_ ?_
      | refine LeO.bind ?_ (fun _ => ?_)
set_option maxHeartbeats 8000000 in
set_option maxRecDepth 100000 in
theorem guide_alive.calls (k : Nat) (A0_0 : Option Addr) (c0_0 : Nat) (l0_0 : List Bool) (A0_1 : Option Addr) (c0_1 : Nat) (l0_1 : List (S92)) (r : List Bool) (w : World) (hr0_0 : Kd.C Kd.bool w A0_0 l0_0.length l0_0) (hc0_0 : l0_0.length ≤ c0_0) (hr0_1 : Kd.C k92 w A0_1 l0_1.length l0_1) (hc0_1 : l0_1.length ≤ c0_1) (h : guide_alive.f k l0_0 l0_1 = some r) :
    Calls Try.prog 51 #[.agg #[.slice A0_0 l0_0.length c0_0, .slice A0_1 l0_1.length c0_1]] w fun e w' => ∃ v0_ : Value, e = .returned (v0_) ∧ Kd.R Kd.bool 4 w' w.heap.size (fun _ => True) v0_ r ∧ Below w.heap.size w w' := by
 have hu25 := Try.underlying25
 have hu92 := Try.underlying92
 have HR0_0 := ym hr0_0
 have HC0_0 := ym hc0_0
 clear hr0_0 hc0_0
 have HR0_1 := ym hr0_1
 have HC0_1 := ym hc0_1
 clear hr0_1 hc0_1
 have HB := ym (Below.refl w.heap.size w)
 have H : (if 0 ≤ (l0_0.length : Int) then (if ((l0_0.length : Int) : Int).toNat ≤ 281474976710656 then (guide_alive.l0 k (List.replicate ((l0_0.length : Int) : Int).toNat false) ([] : List Int) l0_0 (l0_0.length : Int) 0 l0_0 l0_1) else (none)) else (none)) = some r := h
 clear h
 by_cases c2 : 0 ≤ (l0_0.length : Int)
 ·
  rw [if_pos c2] at H
  have c2b0 := eq_true c2
  have c2b1 : decide (0 ≤ (l0_0.length : Int)) = true := decide_eq_true c2
  clear c2
  by_cases c3 : ((l0_0.length : Int) : Int).toNat ≤ 281474976710656
  ·
   rw [if_pos c3] at H
   have c3b0 := eq_true c3
   have c3b1 : decide (((l0_0.length : Int) : Int).toNat ≤ 281474976710656) = true := decide_eq_true c3
   clear c3
   obtain ⟨y117, hy117⟩ : ∃ y_ : List Bool, y_ = (List.replicate ((l0_0.length : Int) : Int).toNat false) := ⟨_, rfl⟩
   replace H : (guide_alive.l0 k y117 ([] : List Int) l0_0 (l0_0.length : Int) 0 l0_0 l0_1) = some r := by first | (rw [hy117]; with_reducible exact H) | (have H2_ := (Option.bind_some _ _).symm.trans H; rw [hy117]; with_reducible exact H2_) | (have H2_ := (Option.bind_some _ _).symm.trans H; with_reducible exact H2_) | with_reducible exact H | (rw [hy117]; exact H) | exact H
   have Ny117 := ym hy117
   clear hy117
   have H' := ym H
   clear H
   go_enter Try.func51, Try.ntmps51
   go_wp2_with (first | ((with_reducible refine gate_dst (N := 1) rfl ?_); refine box_event ?hg (N := 1) ?hd (cs := #[.slice A0_0 l0_0.length c0_0, .slice A0_1 l0_1.length c0_1]) (t := 25) ?hr ?_; (case hd => rfl); (case hg => rfl); (case hr => first | (go_simp; done) | (go_simp; rfl)); intro gb116 hg w4 hbox hb; have n0_ := ym (yn yb hb); have n1_ := ym (hbox); have n2_ := ym ((by rw [hg]; exact (below_size yb) : w.heap.size ≤ gb116)); have n3_ := n2_; clear HB; have HB := n0_; have BK116 := n1_; have GW116 := n2_; have GE116 := n3_; clear n0_ n1_ n2_ n3_; clear hb hbox hg; have hcz5_0 : w4.cell? ⟨gb116, 0, none⟩ = some (.slice A0_0 l0_0.length c0_0) := (yw BK116.out 0).trans rfl; have hcz5_1 : w4.cell? ⟨gb116, 1, none⟩ = some (.slice A0_1 l0_1.length c0_1) := (yw BK116.out 1).trans rfl; have hfz5_0 := yv BK116.out 0; have hfz5_1 := yv BK116.out 1) | ((with_reducible refine gate_dst (N := 13) rfl ?_); refine Kd.R_make Kd.bool _ 4 rfl (N := 13) rfl 22 _ _ rfl (l0_0.length : Int) rfl rfl Try.underlying22 (.bool false) 1 info4 rfl (by decide) (by omega) false (ok := fun _ => True) (okp := fun _ => True) rfl (fun _ hk => hk) trivial (of_decide_eq_true y5) (Nat.le_trans (Nat.mul_le_mul_right _ (of_decide_eq_true y5 : (l0_0.length : Int).toNat ≤ 281474976710656)) (by omega)) (Below.refl _ _) (Nat.le_refl _) ?_; intro v118 w6 ho7 hb hg_ hnew_; clear hg_ hnew_; (first | rw [← Ny117.out] at ho7 | (simp only [Int.reduceToNat] at ho7; rw [← Ny117.out] at ho7)); have n0_ := ym (yo ho7 (below_size yb)); have n1_ := ym (yq (g := gb116) (o := .cells #[.slice A0_0 l0_0.length c0_0, .slice A0_1 l0_1.length c0_1] 25 (0, 0)) (yc BK116) hb); have n2_ := ym (yn yb hb); clear BK116; clear HB; have HO119 := n0_; have BK116 := n1_; have HB := n2_; clear n0_ n1_ n2_; clear hb ho7; have hcz8_0 : w6.cell? ⟨gb116, 0, none⟩ = some (.slice A0_0 l0_0.length c0_0) := (yw BK116.out 0).trans rfl; have hcz8_1 : w6.cell? ⟨gb116, 1, none⟩ = some (.slice A0_1 l0_1.length c0_1) := (yw BK116.out 1).trans rfl; have hfz8_0 := yv BK116.out 0; have hfz8_1 := yv BK116.out 1))
   go_loopg [4, 17] k (fun kq v4 v17 w' => ∃ (x3_1 : List Bool) (x4_1 : List Int) (x17_1 : Int), v17 = .int .i64 x17_1 ∧ Aside0 (guide_alive.l0 kq x3_1 x4_1 l0_0 (l0_0.length : Int) x17_1 l0_0 l0_1 = some r) ∧ Aside0 (kq ≤ k) ∧ Aside0 (Kd.R Kd.bool 4 w' w.heap.size (fun _ => True) v118 x3_1) ∧ Aside0 (Kd.Q (Kd.int .i64) 3 w' w.heap.size (fun _ => True) v4 x4_1) ∧ Aside0 (w'.heap[gb116]? = some (.cells #[(.slice A0_0 l0_0.length c0_0), (.slice A0_1 l0_1.length c0_1)] 25 (0, 0))) ∧ Aside0 (Below w.heap.size w w'))
   case atStart => exact ⟨(y117), (([] : List Int)), (0), y7, H', ⟨Nat.le_refl _⟩, ⟨by (with_reducible repeat apply y2); exact HO119.out⟩, ⟨Kd.Q_of_R (by first | exact Kd.R_nil _ _ _ _ _ | exact Kd.N_nil _ _ _ _ _ | exact Kd.V_nil _ _ _ _ _ | exact Kd.Q_nil _ _ _ _ _ | exact Kd.S_nil _ _ _ _ _)⟩, ⟨by (with_reducible repeat refine y4 ?_); exact BK116.out⟩, ⟨by repeat (first | (with_reducible first | exact HB.out | apply y3 | refine ys ?_ GE116.out) | exact HB.out)⟩⟩
   case round =>
    clear H'
    try clear c2
    try clear c2b0
    try clear c2b1
    try clear p2
    try clear c3
    try clear c3b0
    try clear c3b1
    try clear c5
    try clear hcz5_0
    try clear hcz5_1
    try clear hcz8_0
    try clear hcz8_1
    try clear hfz5_0
    try clear hfz5_1
    try clear hfz8_0
    try clear hfz8_1
    obtain ⟨x3_1, x4_1, x17_1, rfl, HA, HK1, HO_3, HO_4, BK116, HB⟩ := hrel
    cases gk with
    | zero => exact absurd HA.out (by simp [guide_alive.l0])
    | succ k1 =>
     have H := HA.out
     clear HA
     simp only [guide_alive.l0] at H
     by_cases c9 : x17_1 < (l0_0.length : Int)
     ·
      rw [if_pos c9] at H
      have c9b0 : decide (x17_1 < (l0_0.length : Int)) = true := decide_eq_true c9
      clear c9
      by_cases c10 : 0 ≤ x17_1
      ·
       rw [if_pos c10] at H
       have c10b0 : decide (0 ≤ x17_1) = true := decide_eq_true c10
       clear c10
       by_cases c11 : x17_1 < (l0_0.length : Int)
       ·
        rw [if_pos c11] at H
        have c11b0 : decide (x17_1 < (l0_0.length : Int)) = true := decide_eq_true c11
        clear c11
        obtain ⟨bq12, hbq12⟩ : ∃ b_ : Bool, b_ = (rdOf false l0_0 x17_1) := ⟨_, rfl⟩
        replace H : (if bq12 = true then (if x17_1 < (x3_1.length : Int) then (if x4_1.length < 17592186044416 then (guide_alive.l0 k1 (x3_1.set (x17_1 : Int).toNat true) (x4_1 ++ [x17_1]) l0_0 (l0_0.length : Int) (wrap64 (x17_1 + 1)) l0_0 l0_1) else (none)) else (none)) else (guide_alive.l0 k1 x3_1 x4_1 l0_0 (l0_0.length : Int) (wrap64 (x17_1 + 1)) l0_0 l0_1)) = some r := by rw [← hbq12] at H; exact H
        have Nbq12 := ym hbq12
        clear hbq12
        by_cases c13 : bq12 = true
        ·
         subst c13
         have H1 : (if x17_1 < (x3_1.length : Int) then (if x4_1.length < 17592186044416 then (guide_alive.l0 k1 (x3_1.set (x17_1 : Int).toNat true) (x4_1 ++ [x17_1]) l0_0 (l0_0.length : Int) (wrap64 (x17_1 + 1)) l0_0 l0_1) else (none)) else (none)) = some r := by rw [if_pos rfl] at H; exact H
         clear H
         have H := H1
         clear H1
         by_cases c14 : x17_1 < (x3_1.length : Int)
         ·
          rw [if_pos c14] at H
          have c14b0 : decide (x17_1 < (x3_1.length : Int)) = true := decide_eq_true c14
          clear c14
          obtain ⟨y121, hy121⟩ : ∃ y_ : List Bool, y_ = (x3_1.set (x17_1 : Int).toNat true) := ⟨_, rfl⟩
          replace H : (if x4_1.length < 17592186044416 then (guide_alive.l0 k1 y121 (x4_1 ++ [x17_1]) l0_0 (l0_0.length : Int) (wrap64 (x17_1 + 1)) l0_0 l0_1) else (none)) = some r := by first | (rw [hy121]; with_reducible exact H) | (have H2_ := (Option.bind_some _ _).symm.trans H; rw [hy121]; with_reducible exact H2_) | (have H2_ := (Option.bind_some _ _).symm.trans H; with_reducible exact H2_) | with_reducible exact H | (rw [hy121]; exact H) | exact H
          have Ny121 := ym hy121
          clear hy121
          by_cases c16 : x4_1.length < 17592186044416
          ·
           rw [if_pos c16] at H
           have LMc16 := ym c16
           clear c16
           obtain ⟨y122, hy122⟩ : ∃ y_ : List Int, y_ = (x4_1 ++ [x17_1]) := ⟨_, rfl⟩
           replace H : (guide_alive.l0 k1 y121 y122 l0_0 (l0_0.length : Int) (wrap64 (x17_1 + 1)) l0_0 l0_1) = some r := by first | (rw [hy122]; with_reducible exact H) | (have H2_ := (Option.bind_some _ _).symm.trans H; rw [hy122]; with_reducible exact H2_) | (have H2_ := (Option.bind_some _ _).symm.trans H; with_reducible exact H2_) | with_reducible exact H | (rw [hy122]; exact H) | exact H
           have Ny122 := ym hy122
           clear hy122
           have H' := ym H
           clear H
           have p120 : 0 ≤ (x17_1 : Int) := of_decide_eq_true y5
           have q120 : x17_1 < (l0_0.length : Int) := of_decide_eq_true y5
           obtain ⟨ad120, e120, hx120_0⟩ := Kd.at_bool HR0_0.out x17_1 p120 q120
           (try rw [← Nbq12.out] at hx120_0)
           cases e120
           replace hx120_0 := (HB.out.cell (World.block_lt_of_cell? w _ hx120_0)).trans hx120_0
           replace p120 := eq_true p120
           replace q120 := eq_true q120
           have p15 : 0 ≤ (x17_1 : Int) := of_decide_eq_true y5
           have q15 : (x17_1 : Int) < ((x3_1.length : Int) : Int) := of_decide_eq_true y5
           obtain ⟨go15, co15, eo15, gb15, gl15, cl15, HG15⟩ := Kd.R_form HO_3.out (by omega)
           (first | cases eo15 | (injection eo15 with ea_ en_ ec_; (first | subst ea_ | (injection ea_ with ea_; subst ea_)); subst ec_; clear en_))
           have GB15 := ym gb15
           have GG15 := ym HG15
           clear gb15 gl15 HG15
           obtain ⟨hx15_0, hf15_0⟩ := Kd.R_celln false HO_3.out (x17_1 : Int) p15 q15
           replace p15 := eq_true p15
           replace q15 := eq_true q15
           have HP17 := Kd.R_putg HO_3.out (x17_1 : Int) true
           go_wp2_with (first | ((with_reducible refine gate_store (t := 4) (p := 25) rfl ?_); refine store_event (t := 4) (p := 25) (v := ?vo_w18) (w1 := (wr.setCell ⟨go15, (x17_1 : Int).toNat, none⟩ (.bool true))) ?hg ?ho ?hn ?hr ?_; (case ho => rfl); (case hg => rfl); (case hn => rfl); (case hr => first | (go_simp; done) | (go_simp; rfl)); intro w18 hw; have hg : wr.grownBy w18 (some go15) := (by rw [hw]; exact HP17.2); have hp_ : Kd.R Kd.bool 4 w18 w.heap.size (fun _ => True) (.slice (some ⟨go15, 0, none⟩) x3_1.length co15) y121 := (by rw [hw, Ny121.out]; exact HP17.1); clear HP17; have n0_ := ym (hp_); have n1_ := ym (Kd.Q_over' (v := (.slice (some ⟨go15, 0, none⟩) x3_1.length co15)) (by (with_reducible repeat (first | apply Kd.Q_alloc | apply Kd.Q_drewN | apply Kd.Q_drew)); exact HO_4.out) (Kd.R_typed HO_3.out) (by decide) hg); have n2_ := ym (blk_grown (g := gb116) (o := .cells #[.slice (some ad120) l0_0.length c0_0, .slice A0_1 l0_1.length c0_1] 25 (0, 0)) (yc BK116) hg (Kd.R_ne HO_3.out BK116.out (by decide))); have n3_ := ym ((by rw [hw]; exact ys (HB.out) GB15.out : Below w.heap.size w w18)); clear HO_3; clear HO_4; clear BK116; clear HB; have HO_3 := n0_; have HO_4 := n1_; have BK116 := n2_; have HB := n3_; clear n0_ n1_ n2_ n3_; clear hg hw hp_) | ((with_reducible refine gate_builtin (b := .append) (xs := #[.tmp 26, .tmp 28]) rfl ?_); at_builtin; refine Kd.Q_append (Kd.int .i64) (w0 := w) w.heap.size rfl (.tmp 26) (.tmp 28) 53 3 (.int .i64 0) 8 rfl Try.underlying53 info3 rfl (by decide) (by omega) u4 x4_1 x17_1 [.int .i64 x17_1] (fun _ => True) (fun _ => False) rfl rfl ?aP (fun _ hk => hk.elim) ?aF ?aO ?aB ?aS ?aL ?_; (case aP => exact rfl); (case aB => exact yb); (case aF => exact (fun _ _ => trivial)); (case aO => exact (by (with_reducible repeat (first | apply Kd.Q_alloc | apply Kd.Q_drewN | apply Kd.Q_drew)); exact HO_4.out)); (case aS => exact (below_size yb)); (case aL => have := LMc16.out; omega); intro v123 w19 ho hb hg hat; rw [← Ny122.out] at ho; have n0_ := ym (Kd.R_over' (by (with_reducible repeat apply y2); exact HO_3.out) (Kd.Q_typed (by (with_reducible repeat (first | apply Kd.Q_alloc | apply Kd.Q_drewN | apply Kd.Q_drew)); exact HO_4.out)) (by decide) hg); have n1_ := ym (blk_grown (g := gb116) (o := .cells #[.slice (some ad120) l0_0.length c0_0, .slice A0_1 l0_1.length c0_1] 25 (0, 0)) (yc BK116) hg (Kd.Q_ne HO_4.out BK116.out (by decide))); have n2_ := ym (hb); have n3_ := ym (ho); clear HO_3; clear BK116; clear HB; clear HO_4; have HO_3 := n0_; have BK116 := n1_; have HB := n2_; have HO124 := n3_; clear n0_ n1_ n2_ n3_; clear ho hb hg hat))
           go_roundg k1
           case measure => have := HK1.out; omega
           case rel => exact ⟨(y121), (y122), (wrap64 (x17_1 + 1)), y7, H', ⟨by have := HK1.out; omega⟩, ⟨by (with_reducible repeat apply y2); exact HO_3.out⟩, ⟨by (with_reducible repeat (first | apply Kd.Q_alloc | apply Kd.Q_drewN | apply Kd.Q_drew)); exact HO124.out⟩, ⟨by (with_reducible repeat refine y4 ?_); exact BK116.out⟩, ⟨by repeat (first | (with_reducible first | exact HB.out | apply y3 | refine ys ?_ GE116.out) | exact HB.out)⟩⟩
          rw [if_neg c16] at H
          exact absurd H (by simp)
         rw [if_neg c14] at H
         exact absurd H (by simp)
        replace c13 := Bool.eq_false_iff.mpr c13
        subst c13
        have H1 : (guide_alive.l0 k1 x3_1 x4_1 l0_0 (l0_0.length : Int) (wrap64 (x17_1 + 1)) l0_0 l0_1) = some r := by rw [if_neg (show ¬ (false = true) by decide)] at H; exact H
        clear H
        have H := H1
        clear H1
        have H' := ym H
        clear H
        have p120 : 0 ≤ (x17_1 : Int) := of_decide_eq_true y5
        have q120 : x17_1 < (l0_0.length : Int) := of_decide_eq_true y5
        obtain ⟨ad120, e120, hx120_0⟩ := Kd.at_bool HR0_0.out x17_1 p120 q120
        (try rw [← Nbq12.out] at hx120_0)
        cases e120
        replace hx120_0 := (HB.out.cell (World.block_lt_of_cell? w _ hx120_0)).trans hx120_0
        replace p120 := eq_true p120
        replace q120 := eq_true q120
        go_wp2
        go_roundg k1
        case measure => have := HK1.out; omega
        case rel => exact ⟨(x3_1), (x4_1), (wrap64 (x17_1 + 1)), y7, H', ⟨by have := HK1.out; omega⟩, ⟨by (with_reducible repeat apply y2); exact HO_3.out⟩, ⟨by (with_reducible repeat (first | apply Kd.Q_alloc | apply Kd.Q_drewN | apply Kd.Q_drew)); exact HO_4.out⟩, ⟨by (with_reducible repeat refine y4 ?_); exact BK116.out⟩, ⟨by repeat (first | (with_reducible first | exact HB.out | apply y3 | refine ys ?_ GE116.out) | exact HB.out)⟩⟩
       rw [if_neg c11] at H
       exact absurd H (by simp)
      rw [if_neg c10] at H
      exact absurd H (by simp)
     rw [if_neg c9] at H
     have c9b0 : decide (x17_1 < (l0_0.length : Int)) = false := decide_eq_false c9
     clear c9
     have H' := ym H
     clear H
     go_wp2
     go_loopg [4] k1 (fun kq v4 w' => ∃ (x3_2 : List Bool) (x4_2 : List Int), Aside0 (guide_alive.l1 kq x3_2 x4_2 l0_0 l0_1 = some r) ∧ Aside0 (kq ≤ k1) ∧ Aside0 (Kd.R Kd.bool 4 w' w.heap.size (fun _ => True) v118 x3_2) ∧ Aside0 (Kd.Q (Kd.int .i64) 3 w' w.heap.size (fun _ => True) v4 x4_2) ∧ Aside0 (w'.heap[gb116]? = some (.cells #[(.slice A0_0 l0_0.length c0_0), (.slice A0_1 l0_1.length c0_1)] 25 (0, 0))) ∧ Aside0 (Below w.heap.size w w'))
     case atStart => exact ⟨(x3_1), (x4_1), H', ⟨Nat.le_refl _⟩, ⟨by (with_reducible repeat apply y2); exact HO_3.out⟩, ⟨by (with_reducible repeat (first | apply Kd.Q_alloc | apply Kd.Q_drewN | apply Kd.Q_drew)); exact HO_4.out⟩, ⟨by (with_reducible repeat refine y4 ?_); exact BK116.out⟩, ⟨by repeat (first | (with_reducible first | exact HB.out | apply y3 | refine ys ?_ GE116.out) | exact HB.out)⟩⟩
     case round =>
      clear H'
      try clear c1
      try clear p1
      try clear q1
      try clear hx1
      try clear hf1
      try clear c2
      try clear c2b0
      try clear c2b1
      try clear p2
      try clear c3
      try clear c3b0
      try clear c3b1
      try clear c5
      try clear p6
      try clear c9
      try clear c9b0
      try clear c10
      try clear c10b0
      try clear c11
      try clear c11b0
      try clear p12
      try clear q12
      try clear hx12
      try clear c13
      try clear c14
      try clear c14b0
      try clear p15
      try clear q15
      try clear hx15
      try clear hf15
      try clear c16
      try clear hcz5_0
      try clear hcz5_1
      try clear hcz8_0
      try clear hcz8_1
      try clear hfz5_0
      try clear hfz5_1
      try clear hfz8_0
      try clear hfz8_1
      try clear hx120_0
      try clear hx15_0
      try clear p120
      try clear p15
      try clear p2
      try clear q120
      try clear q15
      obtain ⟨x3_2, x4_2, HA, HK2, HO_3, HO_4, BK116, HB⟩ := hrel
      cases gk with
      | zero => exact absurd HA.out (by simp [guide_alive.l1])
      | succ k2 =>
       have H := HA.out
       clear HA
       simp only [guide_alive.l1] at H
       by_cases c20 : (x4_2.length : Int) > 0
       ·
        rw [if_pos c20] at H
        have c20b0 : decide (0 < (x4_2.length : Int)) = true := decide_eq_true c20
        have c20b1 : decide (0 < x4_2.length) = true := decide_eq_true (by omega)
        clear c20
        by_cases c21 : 0 < (x4_2.length : Int)
        ·
         rw [if_pos c21] at H
         have c21b0 : decide (0 < (x4_2.length : Int)) = true := decide_eq_true c21
         have c21b1 : decide (0 < x4_2.length) = true := decide_eq_true (by omega)
         clear c21
         by_cases c22 : 1 ≤ (x4_2.length : Int)
         ·
          rw [if_pos c22] at H
          have c22b0 := eq_true c22
          have c22b1 : decide (1 ≤ (x4_2.length : Int)) = true := decide_eq_true c22
          clear c22
          obtain ⟨y126, hy126⟩ : ∃ y_ : List Int, y_ = (x4_2.drop (1 : Int).toNat) := ⟨_, rfl⟩
          replace H : (guide_alive.l2 k2 x3_2 y126 (rd x4_2 0) l0_1 (l0_1.length : Int) 0 l0_0 l0_1) = some r := by first | (rw [hy126]; with_reducible exact H) | (have H2_ := (Option.bind_some _ _).symm.trans H; rw [hy126]; with_reducible exact H2_) | (have H2_ := (Option.bind_some _ _).symm.trans H; with_reducible exact H2_) | with_reducible exact H | (rw [hy126]; exact H) | exact H
          have Ny126 := ym hy126
          clear hy126
          have H' := ym H
          clear H
          obtain ⟨Ao23, co23, eo23, _⟩ := Kd.Q_slice HO_4.out
          subst eo23
          have p125 : 0 ≤ (0 : Int) := (by omega)
          have q125 : 0 < (x4_2.length : Int) := of_decide_eq_true y5
          obtain ⟨ad125, e125, hx125_0⟩ := Kd.at_int (Kd.Q_reads' HO_4.out).2.2 0 p125 q125
          cases e125
          have qi125 : (0 < x4_2.length) = True := eq_true (by omega)
          (try rw [show ((0 : Int)).toNat = 0 from rfl] at hx125_0)
          (try rw [Addr.add_zero'] at hx125_0)
          replace p125 := eq_true p125
          replace q125 := eq_true q125
          have q24 : (1 : Int) ≤ ((x4_2.length : Int) : Int) := of_decide_eq_true y5
          obtain ⟨i024, hi024, _, hsz24, _⟩ := info_parts info3
          have hcut24 := cut_from (P := Try.prog) 53 3 .i64 Try.underlying53 hi024 1 hsz24 (some ad125) x4_2.length co23 1 (by omega) q24
          have hr24 := Kd.Q_drop (k := (1 : Int).toNat) HO_4.out (by omega)
          obtain ⟨A24, hA24⟩ : ∃ A1_, A1_ = (if co23 = (1 : Int).toNat then (some ad125) else ((some ad125) : Option Addr).map (·.add ((1 : Int).toNat * 1))) := ⟨_, rfl⟩
          obtain ⟨c24, hc24⟩ : ∃ c1_, c1_ = co23 - (1 : Int).toNat := ⟨_, rfl⟩
          have hy24 : y126.length = x4_2.length - (1 : Int).toNat := (by rw [Ny126.out, List.length_drop])
          rw [← Ny126.out] at hr24
          rw [← hy24, ← hA24, ← hc24] at hcut24
          replace hr24 : Kd.Q (Kd.int .i64) 3 wr w.heap.size (fun _ => True) (.slice A24 y126.length c24) y126 := (by rw [hA24, hc24, hy24]; exact hr24)
          have HE24 : Aside0 ((Value.slice A24 y126.length c24).ownBlock = (.slice (some ad125) x4_2.length co23 : Value).ownBlock) := ⟨by rw [hA24]; split <;> (cases ((some ad125) : Option Addr) <;> rfl)⟩
          clear hy24 hi024 hsz24 HO_4 hA24 hc24
          have HO128 := ym hr24
          clear hr24
          replace q24 := eq_true q24
          have hcz25_0 : wr.cell? ⟨gb116, 0, none⟩ = some (.slice A0_0 l0_0.length c0_0) := (yw BK116.out 0).trans rfl
          have hcz25_1 : wr.cell? ⟨gb116, 1, none⟩ = some (.slice A0_1 l0_1.length c0_1) := (yw BK116.out 1).trans rfl
          have hfz25_0 := yv BK116.out 0
          have hfz25_1 := yv BK116.out 1
          go_wp2
          go_loopg [4, 42] k2 (fun kq v4 v42 w' => ∃ (x3_3 : List Bool) (x4_3 : List Int) (x42_3 : Int), v42 = .int .i64 x42_3 ∧ Aside0 (guide_alive.l2 kq x3_3 x4_3 (rd x4_2 0) l0_1 (l0_1.length : Int) x42_3 l0_0 l0_1 = some r) ∧ Aside0 (kq ≤ k2) ∧ Aside0 (Kd.R Kd.bool 4 w' w.heap.size (fun _ => True) v118 x3_3) ∧ Aside0 (Kd.Q (Kd.int .i64) 3 w' w.heap.size (fun _ => True) v4 x4_3) ∧ Aside0 (w'.heap[gb116]? = some (.cells #[(.slice A0_0 l0_0.length c0_0), (.slice A0_1 l0_1.length c0_1)] 25 (0, 0))) ∧ Aside0 (Below w.heap.size w w'))
          case atStart => exact ⟨(x3_2), (y126), (0), y7, H', ⟨Nat.le_refl _⟩, ⟨by (with_reducible repeat apply y2); exact HO_3.out⟩, ⟨by (with_reducible repeat (first | apply Kd.Q_alloc | apply Kd.Q_drewN | apply Kd.Q_drew)); exact HO128.out⟩, ⟨by (with_reducible repeat refine y4 ?_); exact BK116.out⟩, ⟨by repeat (first | (with_reducible first | exact HB.out | apply y3 | refine ys ?_ GE116.out) | exact HB.out)⟩⟩
          case round =>
           clear H'
           try clear c1
           try clear p1
           try clear q1
           try clear hx1
           try clear qi1
           try clear hf1
           try clear c2
           try clear c2b0
           try clear c2b1
           try clear p2
           try clear q2
           try clear c3
           try clear c3b0
           try clear c3b1
           try clear c5
           try clear p6
           try clear c9
           try clear c9b0
           try clear c10
           try clear c10b0
           try clear c11
           try clear c11b0
           try clear p12
           try clear q12
           try clear hx12
           try clear qi12
           try clear c13
           try clear c14
           try clear c14b0
           try clear p15
           try clear q15
           try clear hx15
           try clear hf15
           try clear c16
           try clear c20
           try clear c20b0
           try clear c20b1
           try clear c21
           try clear c21b0
           try clear c21b1
           try clear c22
           try clear c22b0
           try clear c22b1
           try clear c24
           try clear q24
           try clear hcz25_0
           try clear hcz25_1
           try clear hcz5_0
           try clear hcz5_1
           try clear hcz8_0
           try clear hcz8_1
           try clear hfz25_0
           try clear hfz25_1
           try clear hfz5_0
           try clear hfz5_1
           try clear hfz8_0
           try clear hfz8_1
           try clear hx120_0
           try clear hx125_0
           try clear hx15_0
           try clear p1
           try clear p12
           try clear p120
           try clear p125
           try clear p15
           try clear p2
           try clear p6
           try clear q1
           try clear q12
           try clear q120
           try clear q125
           try clear q15
           try clear q24
           obtain ⟨x3_3, x4_3, x42_3, rfl, HA, HK3, HO_3, HO_4, BK116, HB⟩ := hrel
           cases gk with
           | zero => exact absurd HA.out (by simp [guide_alive.l2])
           | succ k3 =>
            have H := HA.out
            clear HA
            simp only [guide_alive.l2] at H
            by_cases c26 : x42_3 < (l0_1.length : Int)
            ·
             rw [if_pos c26] at H
             have c26b0 : decide (x42_3 < (l0_1.length : Int)) = true := decide_eq_true c26
             clear c26
             by_cases c27 : 0 ≤ x42_3
             ·
              rw [if_pos c27] at H
              have c27b0 : decide (0 ≤ x42_3) = true := decide_eq_true c27
              clear c27
              by_cases c28 : x42_3 < (l0_1.length : Int)
              ·
               rw [if_pos c28] at H
               have c28b0 : decide (x42_3 < (l0_1.length : Int)) = true := decide_eq_true c28
               clear c28
               by_cases c29 : ((rd_T92 l0_1 x42_3).f3) = (rd x4_2 0)
               ·
                rw [if_pos c29] at H
                have c29b0 : (((rd_T92 l0_1 x42_3).f3) == (rd x4_2 0)) = true := beq_iff_eq.mpr c29
                have c29b1 : (((rd_T92 l0_1 x42_3).f3) != (rd x4_2 0)) = false := bne_eq_false_iff_eq.mpr c29
                clear c29
                by_cases c30 : 0 ≤ ((rd_T92 l0_1 x42_3).f0)
                ·
                 rw [if_pos c30] at H
                 have c30b0 : decide (0 ≤ ((rd_T92 l0_1 x42_3).f0)) = true := decide_eq_true c30
                 clear c30
                 by_cases c31 : ((rd_T92 l0_1 x42_3).f0) < (x3_3.length : Int)
                 ·
                  rw [if_pos c31] at H
                  have c31b0 : decide (((rd_T92 l0_1 x42_3).f0) < (x3_3.length : Int)) = true := decide_eq_true c31
                  clear c31
                  obtain ⟨bq32, hbq32⟩ : ∃ b_ : Bool, b_ = (rdOf false x3_3 ((rd_T92 l0_1 x42_3).f0)) := ⟨_, rfl⟩
                  replace H : (if (bq32 = true) then (guide_alive.l2 k3 x3_3 x4_3 (rd x4_2 0) l0_1 (l0_1.length : Int) (wrap64 (x42_3 + 1)) l0_0 l0_1) else (if x4_3.length < 17592186044416 then (guide_alive.l2 k3 (x3_3.set (((rd_T92 l0_1 x42_3).f0) : Int).toNat true) (x4_3 ++ [(rd_T92 l0_1 x42_3).f0]) (rd x4_2 0) l0_1 (l0_1.length : Int) (wrap64 (x42_3 + 1)) l0_0 l0_1) else (none))) = some r := by rw [← hbq32] at H; exact H
                  have Nbq32 := ym hbq32
                  clear hbq32
                  by_cases c33 : (bq32 = true)
                  ·
                   subst c33
                   have H1 : (guide_alive.l2 k3 x3_3 x4_3 (rd x4_2 0) l0_1 (l0_1.length : Int) (wrap64 (x42_3 + 1)) l0_0 l0_1) = some r := by rw [if_pos rfl] at H; exact H
                   clear H
                   have H := H1
                   clear H1
                   have H' := ym H
                   clear H
                   have p129 : 0 ≤ (x42_3 : Int) := of_decide_eq_true y5
                   have q129 : x42_3 < (l0_1.length : Int) := of_decide_eq_true y5
                   obtain ⟨ad129, e129, hx129_0, hx129_1, hx129_2, hx129_3⟩ := at_T92 HR0_1.out x42_3 p129 q129
                   cases e129
                   replace hx129_0 := (HB.out.cell (World.block_lt_of_cell? w _ hx129_0)).trans hx129_0
                   replace hx129_1 := (HB.out.cell (World.block_lt_of_cell? w _ hx129_1)).trans hx129_1
                   replace hx129_2 := (HB.out.cell (World.block_lt_of_cell? w _ hx129_2)).trans hx129_2
                   replace hx129_3 := (HB.out.cell (World.block_lt_of_cell? w _ hx129_3)).trans hx129_3
                   replace p129 := eq_true p129
                   replace q129 := eq_true q129
                   go_wp2_with (first | ((with_reducible refine gate_dst (N := 9) rfl ?_); refine box_event ?hg (N := 9) ?hd (cs := #[.int .i64 0, .int .u8 0, .int .u8 0, .int .i64 0]) (t := 92) ?hr ?_; (case hd => rfl); (case hg => rfl); (case hr => first | (go_simp; done) | (go_simp; rfl)); intro gb130 hg w34 hbox hb; have n0_ := ym (yp (by (with_reducible repeat apply y2); exact HO_3.out) hb); have n1_ := ym (Kd.Q_below (by (with_reducible repeat (first | apply Kd.Q_alloc | apply Kd.Q_drewN | apply Kd.Q_drew)); exact HO_4.out) hb); have n2_ := ym (yq (g := gb116) (o := .cells #[.slice A0_0 l0_0.length c0_0, .slice (some ad129) l0_1.length c0_1] 25 (0, 0)) (yc BK116) hb); have n3_ := ym (yn yb hb); have n4_ := ym (hbox); have n5_ := ym ((by rw [hg]; exact (below_size yb) : w.heap.size ≤ gb130)); have n6_ := n5_; have n7_ := ym ((by rw [hg]; exact Nat.ne_of_lt (blk_lt (g := gb116) (o := .cells #[.slice A0_0 l0_0.length c0_0, .slice (some ad129) l0_1.length c0_1] 25 (0, 0)) (yc BK116)) : gb116 ≠ gb130)); have n8_ := ym ((by rw [hg]; exact Nat.ne_of_gt (blk_lt (g := gb116) (o := .cells #[.slice A0_0 l0_0.length c0_0, .slice (some ad129) l0_1.length c0_1] 25 (0, 0)) (yc BK116)) : gb130 ≠ gb116)); clear HO_3; clear HO_4; clear BK116; clear HB; have HO_3 := n0_; have HO_4 := n1_; have BK116 := n2_; have HB := n3_; have BK130 := n4_; have GW130 := n5_; have GE130 := n6_; have NB116_130 := n7_; have NB130_116 := n8_; clear n0_ n1_ n2_ n3_ n4_ n5_ n6_ n7_ n8_; clear hb hbox hg; have hnb35 := NB130_116.out; have hnc35 := NB116_130.out; have hcz36_0 : w34.cell? ⟨gb130, 0, none⟩ = some (.int .i64 0) := (yw BK130.out 0).trans rfl; have hcz36_1 : w34.cell? ⟨gb130, 1, none⟩ = some (.int .u8 0) := (yw BK130.out 1).trans rfl; have hcz36_2 : w34.cell? ⟨gb130, 2, none⟩ = some (.int .u8 0) := (yw BK130.out 2).trans rfl; have hcz36_3 : w34.cell? ⟨gb130, 3, none⟩ = some (.int .i64 0) := (yw BK130.out 3).trans rfl; have hfz36_0 := yv BK130.out 0; have hfz36_1 := yv BK130.out 1; have hfz36_2 := yv BK130.out 2; have hfz36_3 := yv BK130.out 3; obtain ⟨Ao37, co37, eo37⟩ := Kd.R_slice HO_3.out; subst eo37; have p131 : 0 ≤ (((rd_T92 l0_1 x42_3).f0) : Int) := of_decide_eq_true y5; have q131 : ((rd_T92 l0_1 x42_3).f0) < (x3_3.length : Int) := of_decide_eq_true y5; obtain ⟨ad131, e131, hx131_0⟩ := Kd.at_bool (Kd.R_reads' HO_3.out).2.2 ((rd_T92 l0_1 x42_3).f0) p131 q131; (try rw [← Nbq32.out] at hx131_0); cases e131; have hn131_0 : ad131.block ≠ gb130 := Kd.own_blk (Kd.R_ne HO_3.out BK130.out (by decide)); have hn131_1 : ad131.block ≠ gb130 := Kd.own_blk (Kd.R_ne HO_3.out BK130.out (by decide)); have hn131_2 : ad131.block ≠ gb130 := Kd.own_blk (Kd.R_ne HO_3.out BK130.out (by decide)); have hn131_3 : ad131.block ≠ gb130 := Kd.own_blk (Kd.R_ne HO_3.out BK130.out (by decide)); replace hx131_0 := (cell_far (p := ⟨gb130, 0, none⟩) (by first | (rw [add_block]; exact hn131_0) | (show (Addr.add _ _).block ≠ _; rw [add_block]; exact hn131_0) | exact hn131_0) (.int .i64 ((rd_T92 l0_1 x42_3).f0))).trans hx131_0; replace hx131_0 := (cell_far (p := ⟨gb130, 1, none⟩) (by first | (rw [add_block]; exact hn131_1) | (show (Addr.add _ _).block ≠ _; rw [add_block]; exact hn131_1) | exact hn131_1) (.int .u8 ((rd_T92 l0_1 x42_3).f1))).trans hx131_0; replace hx131_0 := (cell_far (p := ⟨gb130, 2, none⟩) (by first | (rw [add_block]; exact hn131_2) | (show (Addr.add _ _).block ≠ _; rw [add_block]; exact hn131_2) | exact hn131_2) (.int .u8 ((rd_T92 l0_1 x42_3).f2))).trans hx131_0; replace hx131_0 := (cell_far (p := ⟨gb130, 3, none⟩) (by first | (rw [add_block]; exact hn131_3) | (show (Addr.add _ _).block ≠ _; rw [add_block]; exact hn131_3) | exact hn131_3) (.int .i64 ((rd_T92 l0_1 x42_3).f3))).trans hx131_0; clear hn131_0; clear hn131_1; clear hn131_2; clear hn131_3; replace p131 := eq_true p131; replace q131 := eq_true q131))
                   go_roundg k3
                   case measure => have := HK1.out; have := HK2.out; have := HK3.out; omega
                   case rel => exact ⟨(x3_3), (x4_3), (wrap64 (x42_3 + 1)), y7, H', ⟨by have := HK1.out; have := HK2.out; have := HK3.out; omega⟩, ⟨by (with_reducible repeat apply y2); exact Kd.R_mono (Kd.R_far (p := ⟨gb130, 3, none⟩) (Kd.R_far (p := ⟨gb130, 2, none⟩) (Kd.R_far (p := ⟨gb130, 1, none⟩) (Kd.R_far (p := ⟨gb130, 0, none⟩) (Kd.R_types HO_3.out BK130.out (by decide)) (fun _ hk => hk.2) (.int .i64 ((rd_T92 l0_1 x42_3).f0))) (fun _ hk => hk.2) (.int .u8 ((rd_T92 l0_1 x42_3).f1))) (fun _ hk => hk.2) (.int .u8 ((rd_T92 l0_1 x42_3).f2))) (fun _ hk => hk.2) (.int .i64 ((rd_T92 l0_1 x42_3).f3))) (fun _ hk => trivial)⟩, ⟨by (with_reducible repeat (first | apply Kd.Q_alloc | apply Kd.Q_drewN | apply Kd.Q_drew)); exact Kd.Q_mono (Kd.Q_far (p := ⟨gb130, 3, none⟩) (Kd.Q_far (p := ⟨gb130, 2, none⟩) (Kd.Q_far (p := ⟨gb130, 1, none⟩) (Kd.Q_far (p := ⟨gb130, 0, none⟩) (Kd.Q_types HO_4.out BK130.out (by decide)) (fun _ hk => hk.2) (.int .i64 ((rd_T92 l0_1 x42_3).f0))) (fun _ hk => hk.2) (.int .u8 ((rd_T92 l0_1 x42_3).f1))) (fun _ hk => hk.2) (.int .u8 ((rd_T92 l0_1 x42_3).f2))) (fun _ hk => hk.2) (.int .i64 ((rd_T92 l0_1 x42_3).f3))) (fun _ hk => trivial)⟩, ⟨by (with_reducible repeat refine y4 ?_); refine yx ?_ NB116_130.out _; (with_reducible repeat refine y4 ?_); refine yx ?_ NB116_130.out _; (with_reducible repeat refine y4 ?_); refine yx ?_ NB116_130.out _; (with_reducible repeat refine y4 ?_); refine yx ?_ NB116_130.out _; (with_reducible repeat refine y4 ?_); exact BK116.out⟩, ⟨by repeat (first | (with_reducible first | exact HB.out | apply y3 | refine ys ?_ GE116.out | refine ys ?_ GE130.out) | exact HB.out)⟩⟩
                  replace c33 := Bool.eq_false_iff.mpr c33
                  subst c33
                  have H1 : (if x4_3.length < 17592186044416 then (guide_alive.l2 k3 (x3_3.set (((rd_T92 l0_1 x42_3).f0) : Int).toNat true) (x4_3 ++ [(rd_T92 l0_1 x42_3).f0]) (rd x4_2 0) l0_1 (l0_1.length : Int) (wrap64 (x42_3 + 1)) l0_0 l0_1) else (none)) = some r := by rw [if_neg (show ¬ (false = true) by decide)] at H; exact H
                  clear H
                  have H := H1
                  clear H1
                  obtain ⟨y132, hy132⟩ : ∃ y_ : List Bool, y_ = (x3_3.set (((rd_T92 l0_1 x42_3).f0) : Int).toNat true) := ⟨_, rfl⟩
                  replace H : (if x4_3.length < 17592186044416 then (guide_alive.l2 k3 y132 (x4_3 ++ [(rd_T92 l0_1 x42_3).f0]) (rd x4_2 0) l0_1 (l0_1.length : Int) (wrap64 (x42_3 + 1)) l0_0 l0_1) else (none)) = some r := by first | (rw [hy132]; with_reducible exact H) | (have H2_ := (Option.bind_some _ _).symm.trans H; rw [hy132]; with_reducible exact H2_) | (have H2_ := (Option.bind_some _ _).symm.trans H; with_reducible exact H2_) | with_reducible exact H | (rw [hy132]; exact H) | exact H
                  have Ny132 := ym hy132
                  clear hy132
                  by_cases c39 : x4_3.length < 17592186044416
                  ·
                   rw [if_pos c39] at H
                   have LMc39 := ym c39
                   clear c39
                   obtain ⟨y133, hy133⟩ : ∃ y_ : List Int, y_ = (x4_3 ++ [(rd_T92 l0_1 x42_3).f0]) := ⟨_, rfl⟩
                   replace H : (guide_alive.l2 k3 y132 y133 (rd x4_2 0) l0_1 (l0_1.length : Int) (wrap64 (x42_3 + 1)) l0_0 l0_1) = some r := by first | (rw [hy133]; with_reducible exact H) | (have H2_ := (Option.bind_some _ _).symm.trans H; rw [hy133]; with_reducible exact H2_) | (have H2_ := (Option.bind_some _ _).symm.trans H; with_reducible exact H2_) | with_reducible exact H | (rw [hy133]; exact H) | exact H
                   have Ny133 := ym hy133
                   clear hy133
                   have H' := ym H
                   clear H
                   have p129 : 0 ≤ (x42_3 : Int) := of_decide_eq_true y5
                   have q129 : x42_3 < (l0_1.length : Int) := of_decide_eq_true y5
                   obtain ⟨ad129, e129, hx129_0, hx129_1, hx129_2, hx129_3⟩ := at_T92 HR0_1.out x42_3 p129 q129
                   cases e129
                   replace hx129_0 := (HB.out.cell (World.block_lt_of_cell? w _ hx129_0)).trans hx129_0
                   replace hx129_1 := (HB.out.cell (World.block_lt_of_cell? w _ hx129_1)).trans hx129_1
                   replace hx129_2 := (HB.out.cell (World.block_lt_of_cell? w _ hx129_2)).trans hx129_2
                   replace hx129_3 := (HB.out.cell (World.block_lt_of_cell? w _ hx129_3)).trans hx129_3
                   replace p129 := eq_true p129
                   replace q129 := eq_true q129
                   go_wp2_with (first | ((with_reducible refine gate_dst (N := 9) rfl ?_); refine box_event ?hg (N := 9) ?hd (cs := #[.int .i64 0, .int .u8 0, .int .u8 0, .int .i64 0]) (t := 92) ?hr ?_; (case hd => rfl); (case hg => rfl); (case hr => first | (go_simp; done) | (go_simp; rfl)); intro gb130 hg w40 hbox hb; have n0_ := ym (yp (by (with_reducible repeat apply y2); exact HO_3.out) hb); have n1_ := ym (Kd.Q_below (by (with_reducible repeat (first | apply Kd.Q_alloc | apply Kd.Q_drewN | apply Kd.Q_drew)); exact HO_4.out) hb); have n2_ := ym (yq (g := gb116) (o := .cells #[.slice A0_0 l0_0.length c0_0, .slice (some ad129) l0_1.length c0_1] 25 (0, 0)) (yc BK116) hb); have n3_ := ym (yn yb hb); have n4_ := ym (hbox); have n5_ := ym ((by rw [hg]; exact (below_size yb) : w.heap.size ≤ gb130)); have n6_ := n5_; have n7_ := ym ((by rw [hg]; exact Nat.ne_of_lt (blk_lt (g := gb116) (o := .cells #[.slice A0_0 l0_0.length c0_0, .slice (some ad129) l0_1.length c0_1] 25 (0, 0)) (yc BK116)) : gb116 ≠ gb130)); have n8_ := ym ((by rw [hg]; exact Nat.ne_of_gt (blk_lt (g := gb116) (o := .cells #[.slice A0_0 l0_0.length c0_0, .slice (some ad129) l0_1.length c0_1] 25 (0, 0)) (yc BK116)) : gb130 ≠ gb116)); clear HO_3; clear HO_4; clear BK116; clear HB; have HO_3 := n0_; have HO_4 := n1_; have BK116 := n2_; have HB := n3_; have BK130 := n4_; have GW130 := n5_; have GE130 := n6_; have NB116_130 := n7_; have NB130_116 := n8_; clear n0_ n1_ n2_ n3_ n4_ n5_ n6_ n7_ n8_; clear hb hbox hg; have hnb41 := NB130_116.out; have hnc41 := NB116_130.out; have hcz42_0 : w40.cell? ⟨gb130, 0, none⟩ = some (.int .i64 0) := (yw BK130.out 0).trans rfl; have hcz42_1 : w40.cell? ⟨gb130, 1, none⟩ = some (.int .u8 0) := (yw BK130.out 1).trans rfl; have hcz42_2 : w40.cell? ⟨gb130, 2, none⟩ = some (.int .u8 0) := (yw BK130.out 2).trans rfl; have hcz42_3 : w40.cell? ⟨gb130, 3, none⟩ = some (.int .i64 0) := (yw BK130.out 3).trans rfl; have hfz42_0 := yv BK130.out 0; have hfz42_1 := yv BK130.out 1; have hfz42_2 := yv BK130.out 2; have hfz42_3 := yv BK130.out 3) | ((with_reducible refine gate_store (t := 92) (p := 9) rfl ?_); refine store_event (t := 92) (p := 9) (v := ?vo_w43) (w1 := ((((w40.setCell ⟨gb130, 0, none⟩ (.int .i64 ((rd_T92 l0_1 x42_3).f0))).setCell ⟨gb130, 1, none⟩ (.int .u8 ((rd_T92 l0_1 x42_3).f1))).setCell ⟨gb130, 2, none⟩ (.int .u8 ((rd_T92 l0_1 x42_3).f2))).setCell ⟨gb130, 3, none⟩ (.int .i64 ((rd_T92 l0_1 x42_3).f3)))) ?hg ?ho ?hn ?hr ?_; (case ho => rfl); (case hg => rfl); (case hn => rfl); (case hr => first | (go_simp; done) | (go_simp; rfl)); intro w43 hw; have n0_ : Aside0 (Kd.R Kd.bool 4 w43 w.heap.size (fun _ => True) v118 x3_3) := ⟨(by rw [hw]; exact (by (with_reducible repeat apply y2); exact Kd.R_mono (Kd.R_far (p := ⟨gb130, 3, none⟩) (Kd.R_far (p := ⟨gb130, 2, none⟩) (Kd.R_far (p := ⟨gb130, 1, none⟩) (Kd.R_far (p := ⟨gb130, 0, none⟩) (Kd.R_types HO_3.out BK130.out (by decide)) (fun _ hk => hk.2) (.int .i64 ((rd_T92 l0_1 x42_3).f0))) (fun _ hk => hk.2) (.int .u8 ((rd_T92 l0_1 x42_3).f1))) (fun _ hk => hk.2) (.int .u8 ((rd_T92 l0_1 x42_3).f2))) (fun _ hk => hk.2) (.int .i64 ((rd_T92 l0_1 x42_3).f3))) (fun _ hk => trivial)))⟩; have n1_ : Aside0 (Kd.Q (Kd.int .i64) 3 w43 w.heap.size (fun _ => True) u4 x4_3) := ⟨(by rw [hw]; exact (by (with_reducible repeat (first | apply Kd.Q_alloc | apply Kd.Q_drewN | apply Kd.Q_drew)); exact Kd.Q_mono (Kd.Q_far (p := ⟨gb130, 3, none⟩) (Kd.Q_far (p := ⟨gb130, 2, none⟩) (Kd.Q_far (p := ⟨gb130, 1, none⟩) (Kd.Q_far (p := ⟨gb130, 0, none⟩) (Kd.Q_types HO_4.out BK130.out (by decide)) (fun _ hk => hk.2) (.int .i64 ((rd_T92 l0_1 x42_3).f0))) (fun _ hk => hk.2) (.int .u8 ((rd_T92 l0_1 x42_3).f1))) (fun _ hk => hk.2) (.int .u8 ((rd_T92 l0_1 x42_3).f2))) (fun _ hk => hk.2) (.int .i64 ((rd_T92 l0_1 x42_3).f3))) (fun _ hk => trivial)))⟩; have n2_ : Aside0 (w43.heap[gb116]? = some (.cells #[.slice A0_0 l0_0.length c0_0, .slice (some ad129) l0_1.length c0_1] 25 (0, 0))) := ⟨(by rw [hw]; exact (by (with_reducible repeat refine y4 ?_); refine yx ?_ NB116_130.out _; (with_reducible repeat refine y4 ?_); refine yx ?_ NB116_130.out _; (with_reducible repeat refine y4 ?_); refine yx ?_ NB116_130.out _; (with_reducible repeat refine y4 ?_); refine yx ?_ NB116_130.out _; (with_reducible repeat refine y4 ?_); exact BK116.out))⟩; have n3_ : Aside0 (w43.heap[gb130]? = some (.cells #[.int .i64 ((rd_T92 l0_1 x42_3).f0), .int .u8 ((rd_T92 l0_1 x42_3).f1), .int .u8 ((rd_T92 l0_1 x42_3).f2), .int .i64 ((rd_T92 l0_1 x42_3).f3)] 92 (0, 0))) := ⟨(by rw [hw]; exact (by (with_reducible repeat refine y4 ?_); refine yy (cs := #[.int .i64 ((rd_T92 l0_1 x42_3).f0), .int .u8 ((rd_T92 l0_1 x42_3).f1), .int .u8 ((rd_T92 l0_1 x42_3).f2), .int .i64 0]) ?_ 3 _ rfl; (with_reducible repeat refine y4 ?_); refine yy (cs := #[.int .i64 ((rd_T92 l0_1 x42_3).f0), .int .u8 ((rd_T92 l0_1 x42_3).f1), .int .u8 0, .int .i64 0]) ?_ 2 _ rfl; (with_reducible repeat refine y4 ?_); refine yy (cs := #[.int .i64 ((rd_T92 l0_1 x42_3).f0), .int .u8 0, .int .u8 0, .int .i64 0]) ?_ 1 _ rfl; (with_reducible repeat refine y4 ?_); refine yy (cs := #[.int .i64 0, .int .u8 0, .int .u8 0, .int .i64 0]) ?_ 0 _ rfl; (with_reducible repeat refine y4 ?_); exact BK130.out))⟩; have n4_ : Aside0 (Below w.heap.size w w43) := ⟨(by rw [hw]; exact yb)⟩; clear hw; clear HO_3; clear HO_4; clear BK116; clear BK130; clear HB; have HO_3 := n0_; have HO_4 := n1_; have BK116 := n2_; have BK130 := n3_; have HB := n4_; clear n0_ n1_ n2_ n3_ n4_; have hcz44_0 : w43.cell? ⟨gb130, 0, none⟩ = some (.int .i64 ((rd_T92 l0_1 x42_3).f0)) := (yw BK130.out 0).trans rfl; have hcz44_1 : w43.cell? ⟨gb130, 1, none⟩ = some (.int .u8 ((rd_T92 l0_1 x42_3).f1)) := (yw BK130.out 1).trans rfl; have hcz44_2 : w43.cell? ⟨gb130, 2, none⟩ = some (.int .u8 ((rd_T92 l0_1 x42_3).f2)) := (yw BK130.out 2).trans rfl; have hcz44_3 : w43.cell? ⟨gb130, 3, none⟩ = some (.int .i64 ((rd_T92 l0_1 x42_3).f3)) := (yw BK130.out 3).trans rfl; have hfz44_0 := yv BK130.out 0; have hfz44_1 := yv BK130.out 1; have hfz44_2 := yv BK130.out 2; have hfz44_3 := yv BK130.out 3; obtain ⟨Ao45, co45, eo45⟩ := Kd.R_slice HO_3.out; subst eo45; have p131 : 0 ≤ (((rd_T92 l0_1 x42_3).f0) : Int) := of_decide_eq_true y5; have q131 : ((rd_T92 l0_1 x42_3).f0) < (x3_3.length : Int) := of_decide_eq_true y5; obtain ⟨ad131, e131, hx131_0⟩ := Kd.at_bool (Kd.R_reads' HO_3.out).2.2 ((rd_T92 l0_1 x42_3).f0) p131 q131; (try rw [← Nbq32.out] at hx131_0); cases e131; replace p131 := eq_true p131; replace q131 := eq_true q131; have p38 : 0 ≤ (((rd_T92 l0_1 x42_3).f0) : Int) := of_decide_eq_true y5; have q38 : (((rd_T92 l0_1 x42_3).f0) : Int) < ((x3_3.length : Int) : Int) := of_decide_eq_true y5; obtain ⟨go38, co38, eo38, gb38, gl38, cl38, HG38⟩ := Kd.R_form HO_3.out (by omega); (first | cases eo38 | (injection eo38 with ea_ en_ ec_; (first | subst ea_ | (injection ea_ with ea_; subst ea_)); subst ec_; clear en_)); have GB38 := ym gb38; have GG38 := ym HG38; clear gb38 gl38 HG38; (first | simp only [add_plain] at hx131_0 | skip); obtain ⟨hx38_0, hf38_0⟩ := Kd.R_celln false HO_3.out (((rd_T92 l0_1 x42_3).f0) : Int) p38 q38; replace p38 := eq_true p38; replace q38 := eq_true q38; obtain ⟨hy46_, hz46_⟩ := Kd.R_celln false HO_3.out (((rd_T92 l0_1 x42_3).f0) : Int) (of_decide_eq_true y5) (of_decide_eq_true y5); have HP46 := Kd.R_putg HO_3.out (((rd_T92 l0_1 x42_3).f0) : Int) true) | ((with_reducible refine gate_store (t := 4) (p := 61) rfl ?_); refine store_event (t := 4) (p := 61) (v := ?vo_w47) (w1 := (w43.setCell ⟨go38, (((rd_T92 l0_1 x42_3).f0) : Int).toNat, none⟩ (.bool true))) ?hg ?ho ?hn ?hr ?_; (case ho => rfl); (case hg => rfl); (case hn => rfl); (case hr => first | (go_simp; done) | (go_simp; rfl)); intro w47 hw; have hg : w43.grownBy w47 (some go38) := (by rw [hw]; exact HP46.2); have hp_ : Kd.R Kd.bool 4 w47 w.heap.size (fun _ => True) (.slice (some ⟨go38, 0, none⟩) x3_3.length co45) y132 := (by rw [hw, Ny132.out]; exact HP46.1); clear HP46; have n0_ := ym (hp_); have n1_ := ym (Kd.Q_over' (v := (.slice (some ⟨go38, 0, none⟩) x3_3.length co45)) (by (with_reducible repeat (first | apply Kd.Q_alloc | apply Kd.Q_drewN | apply Kd.Q_drew)); exact HO_4.out) (Kd.R_typed HO_3.out) (by decide) hg); have n2_ := ym (blk_grown (g := gb116) (o := .cells #[.slice A0_0 l0_0.length c0_0, .slice (some ad129) l0_1.length c0_1] 25 (0, 0)) (yc BK116) hg (Kd.R_ne HO_3.out BK116.out (by decide))); have n3_ := ym (blk_grown (g := gb130) (o := .cells #[.int .i64 ((rd_T92 l0_1 x42_3).f0), .int .u8 ((rd_T92 l0_1 x42_3).f1), .int .u8 ((rd_T92 l0_1 x42_3).f2), .int .i64 ((rd_T92 l0_1 x42_3).f3)] 92 (0, 0)) (yc BK130) hg (Kd.R_ne HO_3.out BK130.out (by decide))); have n4_ := ym ((by rw [hw]; exact ys (HB.out) GB38.out : Below w.heap.size w w47)); clear HO_3; clear HO_4; clear BK116; clear BK130; clear HB; have HO_3 := n0_; have HO_4 := n1_; have BK116 := n2_; have BK130 := n3_; have HB := n4_; clear n0_ n1_ n2_ n3_ n4_; clear hg hw hp_; have hcz48_0 : w47.cell? ⟨gb130, 0, none⟩ = some (.int .i64 ((rd_T92 l0_1 x42_3).f0)) := (yw BK130.out 0).trans rfl; have hcz48_1 : w47.cell? ⟨gb130, 1, none⟩ = some (.int .u8 ((rd_T92 l0_1 x42_3).f1)) := (yw BK130.out 1).trans rfl; have hcz48_2 : w47.cell? ⟨gb130, 2, none⟩ = some (.int .u8 ((rd_T92 l0_1 x42_3).f2)) := (yw BK130.out 2).trans rfl; have hcz48_3 : w47.cell? ⟨gb130, 3, none⟩ = some (.int .i64 ((rd_T92 l0_1 x42_3).f3)) := (yw BK130.out 3).trans rfl; have hfz48_0 := yv BK130.out 0; have hfz48_1 := yv BK130.out 1; have hfz48_2 := yv BK130.out 2; have hfz48_3 := yv BK130.out 3) | ((with_reducible refine gate_builtin (b := .append) (xs := #[.tmp 62, .tmp 65]) rfl ?_); at_builtin; refine Kd.Q_append (Kd.int .i64) (w0 := w) w.heap.size rfl (.tmp 62) (.tmp 65) 53 3 (.int .i64 0) 8 rfl Try.underlying53 info3 rfl (by decide) (by omega) u4 x4_3 ((rd_T92 l0_1 x42_3).f0) [.int .i64 ((rd_T92 l0_1 x42_3).f0)] (fun _ => True) (fun _ => False) rfl rfl ?aP (fun _ hk => hk.elim) ?aF ?aO ?aB ?aS ?aL ?_; (case aP => exact rfl); (case aB => exact yb); (case aF => exact (fun _ _ => trivial)); (case aO => exact (by (with_reducible repeat (first | apply Kd.Q_alloc | apply Kd.Q_drewN | apply Kd.Q_drew)); exact HO_4.out)); (case aS => exact (below_size yb)); (case aL => have := LMc39.out; omega); intro v134 w49 ho hb hg hat; rw [← Ny133.out] at ho; have n0_ := ym (Kd.R_over' (by (with_reducible repeat apply y2); exact HO_3.out) (Kd.Q_typed (by (with_reducible repeat (first | apply Kd.Q_alloc | apply Kd.Q_drewN | apply Kd.Q_drew)); exact HO_4.out)) (by decide) hg); have n1_ := ym (blk_grown (g := gb116) (o := .cells #[.slice A0_0 l0_0.length c0_0, .slice (some ad129) l0_1.length c0_1] 25 (0, 0)) (yc BK116) hg (Kd.Q_ne HO_4.out BK116.out (by decide))); have n2_ := ym (blk_grown (g := gb130) (o := .cells #[.int .i64 ((rd_T92 l0_1 x42_3).f0), .int .u8 ((rd_T92 l0_1 x42_3).f1), .int .u8 ((rd_T92 l0_1 x42_3).f2), .int .i64 ((rd_T92 l0_1 x42_3).f3)] 92 (0, 0)) (yc BK130) hg (Kd.Q_ne HO_4.out BK130.out (by decide))); have n3_ := ym (hb); have n4_ := ym (ho); clear HO_3; clear BK116; clear BK130; clear HB; clear HO_4; have HO_3 := n0_; have BK116 := n1_; have BK130 := n2_; have HB := n3_; have HO135 := n4_; clear n0_ n1_ n2_ n3_ n4_; clear ho hb hg hat))
                   go_roundg k3
                   case measure => have := HK1.out; have := HK2.out; have := HK3.out; omega
                   case rel => exact ⟨(y132), (y133), (wrap64 (x42_3 + 1)), y7, H', ⟨by have := HK1.out; have := HK2.out; have := HK3.out; omega⟩, ⟨by (with_reducible repeat apply y2); exact HO_3.out⟩, ⟨by (with_reducible repeat (first | apply Kd.Q_alloc | apply Kd.Q_drewN | apply Kd.Q_drew)); exact HO135.out⟩, ⟨by (with_reducible repeat refine y4 ?_); exact BK116.out⟩, ⟨by repeat (first | (with_reducible first | exact HB.out | apply y3 | refine ys ?_ GE116.out | refine ys ?_ GE130.out) | exact HB.out)⟩⟩
                  rw [if_neg c39] at H
                  exact absurd H (by simp)
                 rw [if_neg c31] at H
                 exact absurd H (by simp)
                rw [if_neg c30] at H
                exact absurd H (by simp)
               rw [if_neg c29] at H
               have c29b0 : (((rd_T92 l0_1 x42_3).f3) == (rd x4_2 0)) = false := beq_eq_false_iff_ne.mpr c29
               have c29b1 : (((rd_T92 l0_1 x42_3).f3) != (rd x4_2 0)) = true := bne_iff_ne.mpr c29
               have H' := ym H
               clear H
               have p129 : 0 ≤ (x42_3 : Int) := of_decide_eq_true y5
               have q129 : x42_3 < (l0_1.length : Int) := of_decide_eq_true y5
               obtain ⟨ad129, e129, hx129_0, hx129_1, hx129_2, hx129_3⟩ := at_T92 HR0_1.out x42_3 p129 q129
               cases e129
               replace hx129_0 := (HB.out.cell (World.block_lt_of_cell? w _ hx129_0)).trans hx129_0
               replace hx129_1 := (HB.out.cell (World.block_lt_of_cell? w _ hx129_1)).trans hx129_1
               replace hx129_2 := (HB.out.cell (World.block_lt_of_cell? w _ hx129_2)).trans hx129_2
               replace hx129_3 := (HB.out.cell (World.block_lt_of_cell? w _ hx129_3)).trans hx129_3
               replace p129 := eq_true p129
               replace q129 := eq_true q129
               go_wp2_with (first | ((with_reducible refine gate_dst (N := 9) rfl ?_); refine box_event ?hg (N := 9) ?hd (cs := #[.int .i64 0, .int .u8 0, .int .u8 0, .int .i64 0]) (t := 92) ?hr ?_; (case hd => rfl); (case hg => rfl); (case hr => first | (go_simp; done) | (go_simp; rfl)); intro gb130 hg w50 hbox hb; have n0_ := ym (yp (by (with_reducible repeat apply y2); exact HO_3.out) hb); have n1_ := ym (Kd.Q_below (by (with_reducible repeat (first | apply Kd.Q_alloc | apply Kd.Q_drewN | apply Kd.Q_drew)); exact HO_4.out) hb); have n2_ := ym (yq (g := gb116) (o := .cells #[.slice A0_0 l0_0.length c0_0, .slice (some ad129) l0_1.length c0_1] 25 (0, 0)) (yc BK116) hb); have n3_ := ym (yn yb hb); have n4_ := ym (hbox); have n5_ := ym ((by rw [hg]; exact (below_size yb) : w.heap.size ≤ gb130)); have n6_ := n5_; have n7_ := ym ((by rw [hg]; exact Nat.ne_of_lt (blk_lt (g := gb116) (o := .cells #[.slice A0_0 l0_0.length c0_0, .slice (some ad129) l0_1.length c0_1] 25 (0, 0)) (yc BK116)) : gb116 ≠ gb130)); have n8_ := ym ((by rw [hg]; exact Nat.ne_of_gt (blk_lt (g := gb116) (o := .cells #[.slice A0_0 l0_0.length c0_0, .slice (some ad129) l0_1.length c0_1] 25 (0, 0)) (yc BK116)) : gb130 ≠ gb116)); clear HO_3; clear HO_4; clear BK116; clear HB; have HO_3 := n0_; have HO_4 := n1_; have BK116 := n2_; have HB := n3_; have BK130 := n4_; have GW130 := n5_; have GE130 := n6_; have NB116_130 := n7_; have NB130_116 := n8_; clear n0_ n1_ n2_ n3_ n4_ n5_ n6_ n7_ n8_; clear hb hbox hg; have hnb51 := NB130_116.out; have hnc51 := NB116_130.out; have hcz52_0 : w50.cell? ⟨gb130, 0, none⟩ = some (.int .i64 0) := (yw BK130.out 0).trans rfl; have hcz52_1 : w50.cell? ⟨gb130, 1, none⟩ = some (.int .u8 0) := (yw BK130.out 1).trans rfl; have hcz52_2 : w50.cell? ⟨gb130, 2, none⟩ = some (.int .u8 0) := (yw BK130.out 2).trans rfl; have hcz52_3 : w50.cell? ⟨gb130, 3, none⟩ = some (.int .i64 0) := (yw BK130.out 3).trans rfl; have hfz52_0 := yv BK130.out 0; have hfz52_1 := yv BK130.out 1; have hfz52_2 := yv BK130.out 2; have hfz52_3 := yv BK130.out 3))
               go_roundg k3
               case measure => have := HK1.out; have := HK2.out; have := HK3.out; omega
               case rel => exact ⟨(x3_3), (x4_3), (wrap64 (x42_3 + 1)), y7, H', ⟨by have := HK1.out; have := HK2.out; have := HK3.out; omega⟩, ⟨by (with_reducible repeat apply y2); exact Kd.R_mono (Kd.R_far (p := ⟨gb130, 3, none⟩) (Kd.R_far (p := ⟨gb130, 2, none⟩) (Kd.R_far (p := ⟨gb130, 1, none⟩) (Kd.R_far (p := ⟨gb130, 0, none⟩) (Kd.R_types HO_3.out BK130.out (by decide)) (fun _ hk => hk.2) (.int .i64 ((rd_T92 l0_1 x42_3).f0))) (fun _ hk => hk.2) (.int .u8 ((rd_T92 l0_1 x42_3).f1))) (fun _ hk => hk.2) (.int .u8 ((rd_T92 l0_1 x42_3).f2))) (fun _ hk => hk.2) (.int .i64 ((rd_T92 l0_1 x42_3).f3))) (fun _ hk => trivial)⟩, ⟨by (with_reducible repeat (first | apply Kd.Q_alloc | apply Kd.Q_drewN | apply Kd.Q_drew)); exact Kd.Q_mono (Kd.Q_far (p := ⟨gb130, 3, none⟩) (Kd.Q_far (p := ⟨gb130, 2, none⟩) (Kd.Q_far (p := ⟨gb130, 1, none⟩) (Kd.Q_far (p := ⟨gb130, 0, none⟩) (Kd.Q_types HO_4.out BK130.out (by decide)) (fun _ hk => hk.2) (.int .i64 ((rd_T92 l0_1 x42_3).f0))) (fun _ hk => hk.2) (.int .u8 ((rd_T92 l0_1 x42_3).f1))) (fun _ hk => hk.2) (.int .u8 ((rd_T92 l0_1 x42_3).f2))) (fun _ hk => hk.2) (.int .i64 ((rd_T92 l0_1 x42_3).f3))) (fun _ hk => trivial)⟩, ⟨by (with_reducible repeat refine y4 ?_); refine yx ?_ NB116_130.out _; (with_reducible repeat refine y4 ?_); refine yx ?_ NB116_130.out _; (with_reducible repeat refine y4 ?_); refine yx ?_ NB116_130.out _; (with_reducible repeat refine y4 ?_); refine yx ?_ NB116_130.out _; (with_reducible repeat refine y4 ?_); exact BK116.out⟩, ⟨by repeat (first | (with_reducible first | exact HB.out | apply y3 | refine ys ?_ GE116.out | refine ys ?_ GE130.out) | exact HB.out)⟩⟩
              rw [if_neg c28] at H
              exact absurd H (by simp)
             rw [if_neg c27] at H
             exact absurd H (by simp)
            rw [if_neg c26] at H
            have c26b0 : decide (x42_3 < (l0_1.length : Int)) = false := decide_eq_false c26
            clear c26
            have H' := ym H
            clear H
            go_wp2
            go_roundg k3
            case measure => have := HK1.out; have := HK2.out; have := HK3.out; omega
            case rel => exact ⟨(x3_3), (x4_3), H', ⟨by have := HK1.out; have := HK2.out; have := HK3.out; omega⟩, ⟨by (with_reducible repeat apply y2); exact HO_3.out⟩, ⟨by (with_reducible repeat (first | apply Kd.Q_alloc | apply Kd.Q_drewN | apply Kd.Q_drew)); exact HO_4.out⟩, ⟨by (with_reducible repeat refine y4 ?_); exact BK116.out⟩, ⟨by repeat (first | (with_reducible first | exact HB.out | apply y3 | refine ys ?_ GE116.out) | exact HB.out)⟩⟩
         rw [if_neg c22] at H
         exact absurd H (by simp)
        rw [if_neg c21] at H
        exact absurd H (by simp)
       rw [if_neg c20] at H
       have c20b0 : decide (0 < (x4_2.length : Int)) = false := decide_eq_false c20
       have c20b1 : decide (0 < x4_2.length) = false := decide_eq_false (by omega)
       clear c20
       obtain rfl := Option.some.inj H
       obtain ⟨Ao53, co53, eo53, _⟩ := Kd.Q_slice HO_4.out
       subst eo53
       go_wp2
       go_ret
       exact ⟨_, by first | rfl | (simp [errW_none, errW_some] <;> rfl) | (simp [*, errW_none, errW_some] <;> rfl), by (with_reducible repeat apply y2); exact HO_3.out, by repeat (first | (with_reducible first | exact HB.out | apply y3 | refine ys ?_ GE116.out) | exact HB.out)⟩
  rw [if_neg c3] at H
  exact absurd H (by simp)
 rw [if_neg c2] at H
 exact absurd H (by simp)

end Go.Proofs.Ytfjpnmhbbfiaaaa.P
