-- Printed by xprint.py (wip): functions, contracts, rows. Lean checks it.
import Derived.Test.YtgdbcknofcnfbaaPx0
import Derived.Test.YtgdbcknofcnfbaaPx8
namespace Go.Proofs.Ytgdbcknofcnfbaa.P
open Go.RowKit Go.Proofs.YtgdbcknofcnfbaaW.PrintWords Go.Proofs.YtgdbcknofcnfbaaW.PrintLast Go.Proofs.YtgdbcknofcnfbaaW.PrintMore
attribute [local go_sem] max2_int min2_int max_two min_two max_three min_three max_four min_four   -- for this text's walks alone
set_option linter.unusedVariables false
set_option linter.unusedSimpArgs false

/-! ### norm_Rows: function 19 -/
def norm_Rows.l0 : Nat → List Int → List (List Int) → List (List Int) → Int → Int → Option ((List (List Int)) × Int × Int)
  | 0, _, _, _, _, _ => none
  | k + 1, x1, x7, x12, x13, x14 => if x14 < x13 then (if 0 ≤ x14 then (if x14 < (x12.length : Int) then ((norm_Row.f k (rd_L2 x12 x14) x1).bind fun bt175 => (if bt175.2 = 0 then (if x7.length < 5864062014805 then (norm_Rows.l0 k x1 (x7 ++ [bt175.1]) x12 x13 (wrap64 (x14 + 1))) else (none)) else (some (([] : List (List Int)), x14, bt175.2)))) else (none)) else (none)) else (some (x7, 0, 0))
def norm_Rows.f (k : Nat) (l0 : List (List Int)) (l1 : List Int) : Option ((List (List Int)) × Int × Int) := norm_Rows.l0 k l1 ([] : List (List Int)) l0 (l0.length : Int) 0
theorem norm_Rows.mono_l : ∀ k, (∀ y0 y1 y2 y3 y4, LeO (norm_Rows.l0 k y0 y1 y2 y3 y4) (norm_Rows.l0 (k + 1) y0 y1 y2 y3 y4))
  | 0 => fun _ _ _ _ _ r h => by simp [norm_Rows.l0] at h
  | k + 1 => by
    have ih0 := norm_Rows.mono_l k
    · intro y0 y1 y2 y3 y4
      unfold norm_Rows.l0
      repeat' first
      | (with_reducible exact ih0 _ _ _ _ _)
      | (with_reducible exact norm_Row.mono _ _ _)
      | (with_reducible exact LeO.refl _)
      | (with_reducible exact LeO.none _)
      | (with_reducible refine LeO.ite ?_ ?_)
      | (with_reducible refine LeO.bind ?_ (fun _ => ?_))
      | exact ih0 _ _ _ _ _
      | exact norm_Row.mono _ _ _
      | exact LeO.none _
      | refine LeO.ite ?_ ?_
      | refine LeO.bind ?_ (fun _ => ?_)
theorem norm_Rows.mono : ∀ a0 a1 k, LeO (norm_Rows.f k a0 a1) (norm_Rows.f (k + 1) a0 a1) := by
  intro a0 a1 k
  have ih0 := norm_Rows.mono_l k
  unfold norm_Rows.f
  repeat' first
      | (with_reducible exact ih0 _ _ _ _ _)
      | (with_reducible exact norm_Row.mono _ _ _)
      | (with_reducible exact LeO.refl _)
      | (with_reducible exact LeO.none _)
      | (with_reducible refine LeO.ite ?_ ?_)
      | (with_reducible refine LeO.bind ?_ (fun _ => ?_))
      | exact ih0 _ _ _ _ _
      | exact norm_Row.mono _ _ _
      | exact LeO.none _
      | refine LeO.ite ?_ ?_
      | refine LeO.bind ?_ (fun _ => ?_)
set_option maxHeartbeats 8000000 in
set_option maxRecDepth 100000 in
theorem norm_Rows.calls (k : Nat) (A0 : Option Addr) (c0 : Nat) (l0 : List (List Int)) (A1 : Option Addr) (c1 : Nat) (l1 : List Int) (r1 : List (List Int)) (r2 : Int) (r3 : Int) (w : World) (hr0 : Kd.C (Kd.slice 2 (Kd.int .i64)) w A0 l0.length l0) (hc0 : l0.length ≤ c0) (hr1 : Kd.C (Kd.int .i8) w A1 l1.length l1) (hc1 : l1.length ≤ c1) (h : norm_Rows.f k l0 l1 = some (r1, r2, r3)) :
    Calls Try.prog 19 #[.slice A0 l0.length c0, .slice A1 l1.length c1] w fun e w' => ∃ v0_ : Value, e = .returned (.tuple #[v0_, .int .i64 r2, .int .i64 r3]) ∧ Kd.S (Kd.slice 33 (Kd.int .i8)) 23 w' w.heap.size (fun _ => True) v0_ r1 ∧ Below w.heap.size w w' := by
 have HR0 := ym hr0
 have HC0 := ym hc0
 clear hr0 hc0
 have HR1 := ym hr1
 have HC1 := ym hc1
 clear hr1 hc1
 have HB := ym (Below.refl w.heap.size w)
 have H : (norm_Rows.l0 k l1 ([] : List (List Int)) l0 (l0.length : Int) 0) = some (r1, r2, r3) := h
 clear h
 have H' := ym H
 clear H
 go_enter Try.func19, Try.ntmps19
 go_wp2
 go_loopg [7, 14] k (fun kq v7 v14 w' => ∃ (x7_1 : List (List Int)) (x14_1 : Int), v14 = .int .i64 x14_1 ∧ Aside0 (norm_Rows.l0 kq l1 x7_1 l0 (l0.length : Int) x14_1 = some (r1, r2, r3)) ∧ Aside0 (kq ≤ k) ∧ Aside0 (Kd.S (Kd.slice 33 (Kd.int .i8)) 23 w' w.heap.size (fun _ => True) v7 x7_1) ∧ Aside0 (Below w.heap.size w w'))
 case atStart => exact ⟨(([] : List (List Int))), (0), (by first | rfl | (simp; done) | (simp [*]; done)), H', ⟨Nat.le_refl _⟩, ⟨by first | exact Kd.S_nil _ _ _ _ _ | exact Kd.N_nil _ _ _ _ _ | exact Kd.V_nil _ _ _ _ _ | exact Kd.Q_nil _ _ _ _ _ | exact Kd.R_nil _ _ _ _ _⟩, ⟨by repeat (first | (with_reducible first | exact HB.out | apply y3) | exact HB.out)⟩⟩
 case round =>
  clear H'
  try clear c1
  try clear p2
  obtain ⟨x7_1, x14_1, rfl, HA, HK1, HO_7, HB⟩ := hrel
  cases gk with
  | zero => exact absurd HA.out (by simp [norm_Rows.l0])
  | succ k1 =>
   have H := HA.out
   clear HA
   simp only [norm_Rows.l0] at H
   by_cases c3 : x14_1 < (l0.length : Int)
   ·
    rw [if_pos c3] at H
    have c3b0 : decide (x14_1 < (l0.length : Int)) = true := decide_eq_true c3
    clear c3
    by_cases c4 : 0 ≤ x14_1
    ·
     rw [if_pos c4] at H
     have c4b0 : decide (0 ≤ x14_1) = true := decide_eq_true c4
     clear c4
     by_cases c5 : x14_1 < (l0.length : Int)
     ·
      rw [if_pos c5] at H
      have c5b0 : decide (x14_1 < (l0.length : Int)) = true := decide_eq_true c5
      clear c5
      replace H := Option.bind_eq_some_iff.mp H
      obtain ⟨⟨t175, t176⟩, A60, H⟩ := H
      replace H : (if t176 = 0 then (if x7_1.length < 5864062014805 then (norm_Rows.l0 k1 l1 (x7_1 ++ [t175]) l0 (l0.length : Int) (wrap64 (x14_1 + 1))) else (none)) else (some (([] : List (List Int)), x14_1, t176))) = some (r1, r2, r3) := H
      have A6 := ym A60
      clear A60
      by_cases c7 : t176 = 0
      ·
       rw [if_pos c7] at H
       have c7b0 : (t176 == 0) = true := beq_iff_eq.mpr c7
       have c7b1 : (t176 != 0) = false := bne_eq_false_iff_eq.mpr c7
       clear c7
       by_cases c8 : x7_1.length < 5864062014805
       ·
        rw [if_pos c8] at H
        have LMc8 := ym c8
        clear c8
        obtain ⟨y179, hy179⟩ : ∃ y_ : List (List Int), y_ = (x7_1 ++ [t175]) := ⟨_, rfl⟩
        replace H : (norm_Rows.l0 k1 l1 y179 l0 (l0.length : Int) (wrap64 (x14_1 + 1))) = some (r1, r2, r3) := by first | (rw [hy179]; with_reducible exact H) | (have H2_ := (Option.bind_some _ _).symm.trans H; rw [hy179]; with_reducible exact H2_) | (have H2_ := (Option.bind_some _ _).symm.trans H; with_reducible exact H2_) | with_reducible exact H | (rw [hy179]; exact H) | exact H
        have Ny179 := ym hy179
        clear hy179
        have H' := ym H
        clear H
        have p174 : 0 ≤ (x14_1 : Int) := of_decide_eq_true (by first | (with_reducible assumption) | assumption)
        have q174 : x14_1 < (l0.length : Int) := of_decide_eq_true (by first | (with_reducible assumption) | assumption)
        obtain ⟨ad174, A174_0, c174_0, e174, hx174_0, hl174_0, hi174_0⟩ := at_L2 HR0.out x14_1 p174 q174
        cases e174
        replace hx174_0 := (HB.out.cell (World.block_lt_of_cell? w _ hx174_0)).trans hx174_0
        have HR174_0 := ym hi174_0
        have HC174_0 := ym hl174_0
        clear hi174_0 hl174_0
        replace p174 := eq_true p174
        replace q174 := eq_true q174
        go_wp2_with (first | ((with_reducible refine gate_callee (f := 11) rfl ?_); refine goesL_ (some 22) rfl rfl Try.func11 (by kernel_rfl) rfl #[.slice A174_0 (rd_L2 l0 x14_1).length c174_0, .slice A1 l1.length c1] rfl (by (try simp only [List.map_toArray, List.map_cons, List.map_nil]); first | done | rfl | (simp only [List.length_drop, List.length_take]; rfl)) ?_; (with_reducible refine (norm_Row.calls k1 _ _ (rd_L2 l0 x14_1) _ _ l1 t175 t176 _ ?side1 ?side2 ?side3 ?side4 A6.out).mono ?_); (case side1 => repeat (first | exact (Kd.C_below HR174_0.out HB.out) | (with_reducible refine yi ?_ _) | (with_reducible refine yj ?_ _) | (with_reducible refine yk ?_))); (case side2 => exact HC174_0.out); (case side3 => repeat (first | exact (Kd.C_below HR1.out HB.out) | (with_reducible refine yi ?_ _) | (with_reducible refine yj ?_ _) | (with_reducible refine yk ?_))); (case side4 => exact HC1.out); rintro e w9 ⟨v177, rfl, ho0, hb⟩; refine ⟨_, rfl, ?_⟩; have n0_ := ym (Kd.S_elder' (by (with_reducible repeat (first | apply Kd.S_alloc | apply Kd.S_drewN | apply Kd.S_drew)); exact HO_7.out) (Kd.R_base ho0) hb); have n1_ := ym (yo ho0 (below_size (by repeat (first | (with_reducible first | exact HB.out | apply y3) | exact HB.out)))); have n2_ := ym (yn (by repeat (first | (with_reducible first | exact HB.out | apply y3) | exact HB.out)) hb); clear HO_7; clear HB; have HO_7 := n0_; have HO178 := n1_; have HB := n2_; clear n0_ n1_ n2_; (try clear hb); (try clear hb2); (try clear hk); (try clear hi); (try clear ho0); obtain ⟨Ao11, co11, eo11⟩ := Kd.R_slice HO178.out; subst eo11) | ((with_reducible refine gate_builtin (b := .append) (xs := #[.tmp 29, .tmp 31]) rfl ?_); at_builtin; refine Kd.S_append (Kd.slice 33 (Kd.int .i8)) (w0 := w) w.heap.size rfl (.tmp 29) (.tmp 31) 42 23 (.slice none 0 0) 24 rfl Try.underlying42 info23 rfl (by decide) (by omega) u7 x7_1 t175 [.slice Ao11 t175.length co11] (fun _ => True) (fun k_ => some k_ = (.slice Ao11 t175.length co11 : Value).ownBlock) rfl rfl ?aP (fun k_ hk_ => ((Kd.R_mono (ok' := fun k_ => ((fun _ => True)) k_ ∧ some k_ ≠ (u7 : Value).ownBlock) (Kd.R_apart' (HO178.out) (Kd.S_typed HO_7.out) (by decide)) (fun k_ hk => ⟨trivial, hk.2⟩))).1 k_ hk_.symm) ?aF ?aO ?aB ?aS ?aL ?_; (case aP => exact Kd.M_row (Kd.R_mono (Kd.R_tight rfl (Kd.R_mono (ok' := fun k_ => ((fun _ => True)) k_ ∧ some k_ ≠ (u7 : Value).ownBlock) (Kd.R_apart' (HO178.out) (Kd.S_typed HO_7.out) (by decide)) (fun k_ hk => ⟨trivial, hk.2⟩))) (fun _ h_ => h_))); (case aB => exact (by repeat (first | (with_reducible first | exact HB.out | apply y3) | exact HB.out))); (case aF => exact (fun _ _ => trivial)); (case aO => exact (by (with_reducible repeat (first | apply Kd.S_alloc | apply Kd.S_drewN | apply Kd.S_drew)); exact Kd.S_mono HO_7.out (fun k_ hk => ⟨trivial, fun e_ => hk.2 e_⟩))); (case aS => exact (below_size (by repeat (first | (with_reducible first | exact HB.out | apply y3) | exact HB.out)))); (case aL => have := LMc8.out; omega); intro v180 w10 ho hb hg hat; rw [← Ny179.out] at ho; have n0_ := ym (hb); have n1_ := ym (ho); clear HB; clear HO_7; clear HO178; have HB := n0_; have HO181 := n1_; clear n0_ n1_; clear ho hb hg hat))
        go_roundg k1
        case measure => have := HK1.out; omega
        case rel => exact ⟨(y179), (wrap64 (x14_1 + 1)), (by first | rfl | (simp; done) | (simp [*]; done)), H', ⟨by have := HK1.out; omega⟩, ⟨by (with_reducible repeat (first | apply Kd.S_alloc | apply Kd.S_drewN | apply Kd.S_drew)); exact HO181.out⟩, ⟨by repeat (first | (with_reducible first | exact HB.out | apply y3) | exact HB.out)⟩⟩
       rw [if_neg c8] at H
       exact absurd H (by simp)
      rw [if_neg c7] at H
      have c7b0 : (t176 == 0) = false := beq_eq_false_iff_ne.mpr c7
      have c7b1 : (t176 != 0) = true := bne_iff_ne.mpr c7
      simp only [Option.some.injEq, Prod.mk.injEq] at H
      obtain ⟨rfl, rfl, rfl⟩ := H
      have p174 : 0 ≤ (x14_1 : Int) := of_decide_eq_true (by first | (with_reducible assumption) | assumption)
      have q174 : x14_1 < (l0.length : Int) := of_decide_eq_true (by first | (with_reducible assumption) | assumption)
      obtain ⟨ad174, A174_0, c174_0, e174, hx174_0, hl174_0, hi174_0⟩ := at_L2 HR0.out x14_1 p174 q174
      cases e174
      replace hx174_0 := (HB.out.cell (World.block_lt_of_cell? w _ hx174_0)).trans hx174_0
      have HR174_0 := ym hi174_0
      have HC174_0 := ym hl174_0
      clear hi174_0 hl174_0
      replace p174 := eq_true p174
      replace q174 := eq_true q174
      go_wp2_with (first | ((with_reducible refine gate_callee (f := 11) rfl ?_); refine goesL_ (some 22) rfl rfl Try.func11 (by kernel_rfl) rfl #[.slice A174_0 (rd_L2 l0 x14_1).length c174_0, .slice A1 l1.length c1] rfl (by (try simp only [List.map_toArray, List.map_cons, List.map_nil]); first | done | rfl | (simp only [List.length_drop, List.length_take]; rfl)) ?_; (with_reducible refine (norm_Row.calls k1 _ _ (rd_L2 l0 x14_1) _ _ l1 t175 t176 _ ?side1 ?side2 ?side3 ?side4 A6.out).mono ?_); (case side1 => repeat (first | exact (Kd.C_below HR174_0.out HB.out) | (with_reducible refine yi ?_ _) | (with_reducible refine yj ?_ _) | (with_reducible refine yk ?_))); (case side2 => exact HC174_0.out); (case side3 => repeat (first | exact (Kd.C_below HR1.out HB.out) | (with_reducible refine yi ?_ _) | (with_reducible refine yj ?_ _) | (with_reducible refine yk ?_))); (case side4 => exact HC1.out); rintro e w12 ⟨v177, rfl, ho0, hb⟩; refine ⟨_, rfl, ?_⟩; have n0_ := ym (Kd.S_elder' (by (with_reducible repeat (first | apply Kd.S_alloc | apply Kd.S_drewN | apply Kd.S_drew)); exact HO_7.out) (Kd.R_base ho0) hb); have n1_ := ym (yo ho0 (below_size (by repeat (first | (with_reducible first | exact HB.out | apply y3) | exact HB.out)))); have n2_ := ym (yn (by repeat (first | (with_reducible first | exact HB.out | apply y3) | exact HB.out)) hb); clear HO_7; clear HB; have HO_7 := n0_; have HO178 := n1_; have HB := n2_; clear n0_ n1_ n2_; (try clear hb); (try clear hb2); (try clear hk); (try clear hi); (try clear ho0)))
      go_ret3
      exact ⟨_, by first | rfl | (simp [errW_none, errW_some] <;> rfl) | (simp [*, errW_none, errW_some] <;> rfl), by first | exact Kd.S_nil _ _ _ _ _ | exact Kd.N_nil _ _ _ _ _ | exact Kd.V_nil _ _ _ _ _ | exact Kd.Q_nil _ _ _ _ _ | exact Kd.R_nil _ _ _ _ _, by repeat (first | (with_reducible first | exact HB.out | apply y3) | exact HB.out)⟩
     rw [if_neg c5] at H
     exact absurd H (by simp)
    rw [if_neg c4] at H
    exact absurd H (by simp)
   rw [if_neg c3] at H
   have c3b0 : decide (x14_1 < (l0.length : Int)) = false := decide_eq_false c3
   clear c3
   simp only [Option.some.injEq, Prod.mk.injEq] at H
   obtain ⟨rfl, rfl, rfl⟩ := H
   go_wp2
   go_ret3
   exact ⟨_, by first | rfl | (simp [errW_none, errW_some] <;> rfl) | (simp [*, errW_none, errW_some] <;> rfl), by (with_reducible repeat (first | apply Kd.S_alloc | apply Kd.S_drewN | apply Kd.S_drew)); exact HO_7.out, by repeat (first | (with_reducible first | exact HB.out | apply y3) | exact HB.out)⟩

end Go.Proofs.Ytgdbcknofcnfbaa.P
