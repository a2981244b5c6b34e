-- Printed by xprint.py (wip): functions, contracts, rows. Lean checks it.
import Derived.Test.YtengkjkmdodifaaDoorPx0
import Derived.Test.YtengkjkmdodifaaDoorPx4
import Derived.Test.YtengkjkmdodifaaDoorPx7
namespace Go.Proofs.YtengkjkmdodifaaDoor.P
open Go.RowKit Go.Proofs.YtengkjkmdodifaaDoorW.PrintWords Go.Proofs.YtengkjkmdodifaaDoorW.PrintLast Go.Proofs.YtengkjkmdodifaaDoorW.PrintMore
attribute [local go_sem] max2_int min2_int max_two min_two max_three min_three max_four min_four   -- for this text's walks alone
set_option linter.unusedVariables false
set_option linter.unusedSimpArgs false

/-! ### rope_Rows: function 22 -/
mutual
def rope_Rows.l0 : Nat → Int → List Int → List Int → Int → List (List Int) → List (List Int) → Int → Int → Option ((List (List Int)) × Int × Int)
  | 0, _, _, _, _, _, _, _, _ => none
  | k + 1, x1, x2, x3, x4, x13, x20, x21, x22 => if x22 < x21 then (if 0 ≤ x22 then (if x22 < (x20.length : Int) then (if x1 < 2 then (rope_Rows.j1 k x1 x2 x3 x4 x13 x22 (rd_L1 x20 x22) x20 x21 x22 true) else (rope_Rows.j1 k x1 x2 x3 x4 x13 x22 (rd_L1 x20 x22) x20 x21 x22 ((Int.tmod x1 2) != 0))) else (none)) else (none)) else (some (x13, 0, 0))
def rope_Rows.j1 : Nat → Int → List Int → List Int → Int → List (List Int) → Int → List Int → List (List Int) → Int → Int → Bool → Option ((List (List Int)) × Int × Int)
  | 0, _, _, _, _, _, _, _, _, _, _, _ => none
  | k + 1, x1, x2, x3, x4, x13, x14, x15, x20, x21, x22, x33 => if x33 = true then (some (([] : List (List Int)), x14, 100)) else ((rope_At.f k x2 x3 (wrap64 (Int.tdiv x1 2)) (wrap64 (x4 + x14))).bind fun bt166 => (if bt166.2.2 = 0 then ((rope_Turn.f k x15 x1 bt166.1 bt166.2.1).bind fun bt173 => (if bt173.2 = 0 then (if x13.length < 5864062014805 then (rope_Rows.l0 k x1 x2 x3 x4 (x13 ++ [bt173.1]) x20 x21 (wrap64 (x22 + 1))) else (none)) else (some (([] : List (List Int)), x14, bt173.2)))) else (some (([] : List (List Int)), x14, bt166.2.2))))
end
def rope_Rows.f (k : Nat) (l0 : List (List Int)) (a1 : Int) (l2 : List Int) (l3 : List Int) (a4 : Int) : Option ((List (List Int)) × Int × Int) := rope_Rows.l0 k a1 l2 l3 a4 ([] : List (List Int)) l0 (l0.length : Int) 0
theorem rope_Rows.mono_l : ∀ k, (∀ y0 y1 y2 y3 y4 y5 y6 y7, LeO (rope_Rows.l0 k y0 y1 y2 y3 y4 y5 y6 y7) (rope_Rows.l0 (k + 1) y0 y1 y2 y3 y4 y5 y6 y7)) ∧ (∀ y0 y1 y2 y3 y4 y5 y6 y7 y8 y9 y10, LeO (rope_Rows.j1 k y0 y1 y2 y3 y4 y5 y6 y7 y8 y9 y10) (rope_Rows.j1 (k + 1) y0 y1 y2 y3 y4 y5 y6 y7 y8 y9 y10))
  | 0 => ⟨fun _ _ _ _ _ _ _ _ r h => by simp [rope_Rows.l0] at h, fun _ _ _ _ _ _ _ _ _ _ _ r h => by simp [rope_Rows.j1] at h⟩
  | k + 1 => by
    obtain ⟨ih0, ih1⟩ := rope_Rows.mono_l k
    refine ⟨?_, ?_⟩
    · intro y0 y1 y2 y3 y4 y5 y6 y7
      unfold rope_Rows.l0
      repeat' first
      | (with_reducible exact ih0 _ _ _ _ _ _ _ _)
      | (with_reducible exact ih1 _ _ _ _ _ _ _ _ _ _ _)
      | (with_reducible exact rope_At.mono _ _ _ _ _)
      | (with_reducible exact rope_Turn.mono _ _ _ _ _)
      | (with_reducible exact LeO.refl _)
      | (with_reducible exact LeO.none _)
      | (with_reducible refine LeO.ite ?_ ?_)
      | (with_reducible refine LeO.bind ?_ (fun _ => ?_))
      | exact ih0 _ _ _ _ _ _ _ _
      | exact ih1 _ _ _ _ _ _ _ _ _ _ _
      | exact rope_At.mono _ _ _ _ _
      | exact rope_Turn.mono _ _ _ _ _
      | exact LeO.none _
      | refine LeO.ite ?_ ?_
      | refine LeO.bind ?_ (fun _ => ?_)
    · intro y0 y1 y2 y3 y4 y5 y6 y7 y8 y9 y10
      unfold rope_Rows.j1
      repeat' first
      | (with_reducible exact ih0 _ _ _ _ _ _ _ _)
      | (with_reducible exact ih1 _ _ _ _ _ _ _ _ _ _ _)
      | (with_reducible exact rope_At.mono _ _ _ _ _)
      | (with_reducible exact rope_Turn.mono _ _ _ _ _)
      | (with_reducible exact LeO.refl _)
      | (with_reducible exact LeO.none _)
      | (with_reducible refine LeO.ite ?_ ?_)
      | (with_reducible refine LeO.bind ?_ (fun _ => ?_))
      | exact ih0 _ _ _ _ _ _ _ _
      | exact ih1 _ _ _ _ _ _ _ _ _ _ _
      | exact rope_At.mono _ _ _ _ _
      | exact rope_Turn.mono _ _ _ _ _
      | exact LeO.none _
      | refine LeO.ite ?_ ?_
      | refine LeO.bind ?_ (fun _ => ?_)
theorem rope_Rows.mono : ∀ a0 a1 a2 a3 a4 k, LeO (rope_Rows.f k a0 a1 a2 a3 a4) (rope_Rows.f (k + 1) a0 a1 a2 a3 a4) := by
  intro a0 a1 a2 a3 a4 k
  obtain ⟨ih0, ih1⟩ := rope_Rows.mono_l k
  unfold rope_Rows.f
  repeat' first
      | (with_reducible exact ih0 _ _ _ _ _ _ _ _)
      | (with_reducible exact ih1 _ _ _ _ _ _ _ _ _ _ _)
      | (with_reducible exact rope_At.mono _ _ _ _ _)
      | (with_reducible exact rope_Turn.mono _ _ _ _ _)
      | (with_reducible exact LeO.refl _)
      | (with_reducible exact LeO.none _)
      | (with_reducible refine LeO.ite ?_ ?_)
      | (with_reducible refine LeO.bind ?_ (fun _ => ?_))
      | exact ih0 _ _ _ _ _ _ _ _
      | exact ih1 _ _ _ _ _ _ _ _ _ _ _
      | exact rope_At.mono _ _ _ _ _
      | exact rope_Turn.mono _ _ _ _ _
      | exact LeO.none _
      | refine LeO.ite ?_ ?_
      | refine LeO.bind ?_ (fun _ => ?_)
set_option maxHeartbeats 8000000 in
set_option maxRecDepth 100000 in
theorem rope_Rows.calls (k : Nat) (A0 : Option Addr) (c0 : Nat) (l0 : List (List Int)) (a1 : Int) (A2 : Option Addr) (c2 : Nat) (l2 : List Int) (A3 : Option Addr) (c3 : Nat) (l3 : List Int) (a4 : Int) (r1 : List (List Int)) (r2 : Int) (r3 : Int) (w : World) (hr0 : Kd.C (Kd.slice 33 (Kd.int .i8)) w A0 l0.length l0) (hc0 : l0.length ≤ c0) (hr2 : Kd.C (Kd.int .i8) w A2 l2.length l2) (hc2 : l2.length ≤ c2) (hr3 : Kd.C (Kd.int .i8) w A3 l3.length l3) (hc3 : l3.length ≤ c3) (h : rope_Rows.f k l0 a1 l2 l3 a4 = some (r1, r2, r3)) :
    Calls Tryd.prog 22 #[.slice A0 l0.length c0, .int .i64 a1, .slice A2 l2.length c2, .slice A3 l3.length c3, .int .i64 a4] w fun e w' => ∃ v0_ : Value, e = .returned (.tuple #[v0_, .int .i64 r2, .int .i64 r3]) ∧ Kd.S (Kd.slice 33 (Kd.int .i8)) 22 w' w.heap.size (fun _ => True) v0_ r1 ∧ Below w.heap.size w w' := by
 have HR0 := ym hr0
 have HC0 := ym hc0
 clear hr0 hc0
 have HR2 := ym hr2
 have HC2 := ym hc2
 clear hr2 hc2
 have HR3 := ym hr3
 have HC3 := ym hc3
 clear hr3 hc3
 have HB := ym (Below.refl w.heap.size w)
 have H : (rope_Rows.l0 k a1 l2 l3 a4 ([] : List (List Int)) l0 (l0.length : Int) 0) = some (r1, r2, r3) := h
 clear h
 have H' := ym H
 clear H
 go_enter Tryd.func22, Tryd.ntmps22
 go_wp2
 go_loopg [13, 22] k (fun kq v13 v22 w' => ∃ (x13_1 : List (List Int)) (x22_1 : Int), v22 = .int .i64 x22_1 ∧ Aside0 (rope_Rows.l0 kq a1 l2 l3 a4 x13_1 l0 (l0.length : Int) x22_1 = some (r1, r2, r3)) ∧ Aside0 (kq ≤ k) ∧ Aside0 (Kd.S (Kd.slice 33 (Kd.int .i8)) 22 w' w.heap.size (fun _ => True) v13 x13_1) ∧ Aside0 (Below w.heap.size w w'))
 case atStart => exact ⟨(([] : List (List Int))), (0), (by first | rfl | (simp; done) | (simp [*]; done)), H', ⟨Nat.le_refl _⟩, ⟨by first | exact Kd.S_nil _ _ _ _ _ | exact Kd.N_nil _ _ _ _ _ | exact Kd.V_nil _ _ _ _ _ | exact Kd.Q_nil _ _ _ _ _ | exact Kd.R_nil _ _ _ _ _⟩, ⟨by repeat (first | (with_reducible first | exact HB.out | apply y3) | exact HB.out)⟩⟩
 case round =>
  clear H'
  try clear c2
  try clear p2
  try clear c3
  obtain ⟨x13_1, x22_1, rfl, HA, HK1, HO_13, HB⟩ := hrel
  cases gk with
  | zero => exact absurd HA.out (by simp [rope_Rows.l0])
  | succ k1 =>
   have H := HA.out
   clear HA
   simp only [rope_Rows.l0] at H
   by_cases c6 : x22_1 < (l0.length : Int)
   ·
    rw [if_pos c6] at H
    have c6b0 : decide (x22_1 < (l0.length : Int)) = true := decide_eq_true c6
    clear c6
    by_cases c7 : 0 ≤ x22_1
    ·
     rw [if_pos c7] at H
     have c7b0 : decide (0 ≤ x22_1) = true := decide_eq_true c7
     clear c7
     by_cases c8 : x22_1 < (l0.length : Int)
     ·
      rw [if_pos c8] at H
      have c8b0 : decide (x22_1 < (l0.length : Int)) = true := decide_eq_true c8
      clear c8
      have HC9 := ym H
      clear H
      have p165 : 0 ≤ (x22_1 : Int) := of_decide_eq_true (by first | (with_reducible assumption) | assumption)
      have q165 : x22_1 < (l0.length : Int) := of_decide_eq_true (by first | (with_reducible assumption) | assumption)
      obtain ⟨ad165, A165_0, c165_0, e165, hx165_0, hl165_0, hi165_0⟩ := at_L1 HR0.out x22_1 p165 q165
      cases e165
      replace hx165_0 := (HB.out.cell (World.block_lt_of_cell? w _ hx165_0)).trans hx165_0
      have HR165_0 := ym hi165_0
      have HC165_0 := ym hl165_0
      clear hi165_0 hl165_0
      replace p165 := eq_true p165
      replace q165 := eq_true q165
      go_upto_region 5 with (fail)
      go_cut [33] (fun v33 wc => ∃ (kq : Nat) (x33_8 : Bool), v33 = .bool x33_8 ∧ Aside0 (rope_Rows.j1 kq a1 l2 l3 a4 x13_1 x22_1 (rd_L1 l0 x22_1) l0 (l0.length : Int) x22_1 x33_8 = some (r1, r2, r3)) ∧ Aside0 (kq ≤ k1) ∧ Aside0 (Kd.S (Kd.slice 33 (Kd.int .i8)) 22 wc w.heap.size (fun _ => True) u13 x13_1) ∧ Aside0 (Below w.heap.size w wc))
      case first =>
       have H := HC9.out
       clear HC9
       by_cases c10 : a1 < 2
       ·
        rw [if_pos c10] at H
        have c10b0 : decide (a1 < 2) = true := decide_eq_true c10
        clear c10
        (first | rw [c10b0] | (simp only [i64_w, i32_w]; rw [c10b0]) | skip)
        have H' := ym H
        clear H
        go_wp2
        go_meet
        case rel => exact ⟨_, (true), (by first | rfl | (simp; done) | (simp [*]; done)), H', ⟨by have := HK1.out; first | omega | exact Nat.le_refl _⟩, ⟨by (with_reducible repeat (first | apply Kd.S_alloc | apply Kd.S_drewN | apply Kd.S_drew)); exact HO_13.out⟩, ⟨by repeat (first | (with_reducible first | exact HB.out | apply y3) | exact HB.out)⟩⟩
       rw [if_neg c10] at H
       have c10b0 : decide (a1 < 2) = false := decide_eq_false c10
       clear c10
       (first | rw [c10b0] | (simp only [i64_w, i32_w]; rw [c10b0]) | skip)
       have H' := ym H
       clear H
       go_wp2
       go_meet
       case rel => exact ⟨_, (((Int.tmod a1 2) != 0)), (by first | rfl | (simp; done) | (simp [*]; done)), H', ⟨by have := HK1.out; first | omega | exact Nat.le_refl _⟩, ⟨by (with_reducible repeat (first | apply Kd.S_alloc | apply Kd.S_drewN | apply Kd.S_drew)); exact HO_13.out⟩, ⟨by repeat (first | (with_reducible first | exact HB.out | apply y3) | exact HB.out)⟩⟩
      case rest =>
       clear HC9
       try clear c1
       try clear p1
       try clear q1
       try clear hx1
       try clear c2
       try clear p2
       try clear c3
       try clear c6
       try clear c6b0
       try clear c7
       try clear c7b0
       try clear c8
       try clear c8b0
       try clear c10
       try clear c10b0
       try clear hx165_0
       try clear p165
       try clear p2
       try clear q165
       obtain ⟨kq, x33_8, rfl, HA, HJ8, HO_13, HB⟩ := hcut
       cases kq with
       | zero => exact absurd HA.out (by simp [rope_Rows.j1])
       | succ kj8 =>
        have H := HA.out
        clear HA
        simp only [rope_Rows.j1] at H
        by_cases c11 : x33_8 = true
        ·
         subst c11
         have H1 : (some (([] : List (List Int)), x22_1, 100)) = some (r1, r2, r3) := by rw [if_pos rfl] at H; exact H
         clear H
         have H := H1
         clear H1
         simp only [Option.some.injEq, Prod.mk.injEq] at H
         obtain ⟨rfl, rfl, rfl⟩ := H
         go_wp2
         go_ret3
         exact ⟨_, by first | rfl | (simp [errW_none, errW_some] <;> rfl) | (simp [*, errW_none, errW_some] <;> rfl), by first | exact Kd.S_nil _ _ _ _ _ | exact Kd.N_nil _ _ _ _ _ | exact Kd.V_nil _ _ _ _ _ | exact Kd.Q_nil _ _ _ _ _ | exact Kd.R_nil _ _ _ _ _, by repeat (first | (with_reducible first | exact HB.out | apply y3) | exact HB.out)⟩
        replace c11 := Bool.eq_false_iff.mpr c11
        subst c11
        have H1 : ((rope_At.f kj8 l2 l3 (wrap64 (Int.tdiv a1 2)) (wrap64 (a4 + x22_1))).bind fun bt166 => (if bt166.2.2 = 0 then ((rope_Turn.f kj8 (rd_L1 l0 x22_1) a1 bt166.1 bt166.2.1).bind fun bt173 => (if bt173.2 = 0 then (if x13_1.length < 5864062014805 then (rope_Rows.l0 kj8 a1 l2 l3 a4 (x13_1 ++ [bt173.1]) l0 (l0.length : Int) (wrap64 (x22_1 + 1))) else (none)) else (some (([] : List (List Int)), x22_1, bt173.2)))) else (some (([] : List (List Int)), x22_1, bt166.2.2)))) = some (r1, r2, r3) := by rw [if_neg (show ¬ (false = true) by decide)] at H; exact H
        clear H
        have H := H1
        clear H1
        replace H := Option.bind_eq_some_iff.mp H
        obtain ⟨⟨t166, t167, t168⟩, A120, H⟩ := H
        replace H : (if t168 = 0 then ((rope_Turn.f kj8 (rd_L1 l0 x22_1) a1 t166 t167).bind fun bt173 => (if bt173.2 = 0 then (if x13_1.length < 5864062014805 then (rope_Rows.l0 kj8 a1 l2 l3 a4 (x13_1 ++ [bt173.1]) l0 (l0.length : Int) (wrap64 (x22_1 + 1))) else (none)) else (some (([] : List (List Int)), x22_1, bt173.2)))) else (some (([] : List (List Int)), x22_1, t168))) = some (r1, r2, r3) := H
        have A12 := ym A120
        clear A120
        by_cases c13 : t168 = 0
        ·
         rw [if_pos c13] at H
         have c13b0 : (t168 == 0) = true := beq_iff_eq.mpr c13
         have c13b1 : (t168 != 0) = false := bne_eq_false_iff_eq.mpr c13
         clear c13
         replace H := Option.bind_eq_some_iff.mp H
         obtain ⟨⟨t173, t174⟩, A140, H⟩ := H
         replace H : (if t174 = 0 then (if x13_1.length < 5864062014805 then (rope_Rows.l0 kj8 a1 l2 l3 a4 (x13_1 ++ [t173]) l0 (l0.length : Int) (wrap64 (x22_1 + 1))) else (none)) else (some (([] : List (List Int)), x22_1, t174))) = some (r1, r2, r3) := H
         have A14 := ym A140
         clear A140
         by_cases c15 : t174 = 0
         ·
          rw [if_pos c15] at H
          have c15b0 : (t174 == 0) = true := beq_iff_eq.mpr c15
          have c15b1 : (t174 != 0) = false := bne_eq_false_iff_eq.mpr c15
          clear c15
          by_cases c16 : x13_1.length < 5864062014805
          ·
           rw [if_pos c16] at H
           have LMc16 := ym c16
           clear c16
           obtain ⟨y177, hy177⟩ : ∃ y_ : List (List Int), y_ = (x13_1 ++ [t173]) := ⟨_, rfl⟩
           replace H : (rope_Rows.l0 kj8 a1 l2 l3 a4 y177 l0 (l0.length : Int) (wrap64 (x22_1 + 1))) = some (r1, r2, r3) := by first | (rw [hy177]; with_reducible exact H) | (have H2_ := (Option.bind_some _ _).symm.trans H; rw [hy177]; with_reducible exact H2_) | (have H2_ := (Option.bind_some _ _).symm.trans H; with_reducible exact H2_) | with_reducible exact H | (rw [hy177]; exact H) | exact H
           have Ny177 := ym hy177
           clear hy177
           have H' := ym H
           clear H
           go_wp2_with (first | ((with_reducible refine gate_callee (f := 20) rfl ?_); refine goesL_ (some 43) rfl rfl Tryd.func20 (by kernel_rfl) rfl #[.slice A2 l2.length c2, .slice A3 l3.length c3, .int .i64 (wrap64 (Int.tdiv a1 2)), .int .i64 (wrap64 (a4 + x22_1))] rfl (by (try simp only [List.map_toArray, List.map_cons, List.map_nil]); first | done | rfl | (simp only [List.length_drop, List.length_take]; rfl)) ?_; (with_reducible refine (rope_At.calls kj8 _ _ l2 _ _ l3 (wrap64 (Int.tdiv a1 2)) (wrap64 (a4 + x22_1)) t166 t167 t168 _ ?side1 ?side2 ?side3 ?side4 A12.out).mono ?_); (case side1 => repeat (first | exact (Kd.C_below HR2.out HB.out) | (with_reducible refine yi ?_ _) | (with_reducible refine yj ?_ _) | (with_reducible refine yk ?_))); (case side2 => exact HC2.out); (case side3 => repeat (first | exact (Kd.C_below HR3.out HB.out) | (with_reducible refine yi ?_ _) | (with_reducible refine yj ?_ _) | (with_reducible refine yk ?_))); (case side4 => exact HC3.out); rintro e w17 ⟨v169, v171, rfl, ho0, ho1, hb⟩; refine ⟨_, rfl, ?_⟩; have n0_ := ym (Kd.S_mono (Kd.S_told (Kd.S_told (Kd.S_old (by (with_reducible repeat (first | apply Kd.S_alloc | apply Kd.S_drewN | apply Kd.S_drew)); exact HO_13.out) hb) (Kd.R_base ho0)) (Kd.R_base ho1)) (fun _ h_ => h_.1)); have n1_ := ym (yo ho0 (below_size (by repeat (first | (with_reducible first | exact HB.out | apply y3) | exact HB.out)))); have n2_ := ym (yo ho1 (below_size (by repeat (first | (with_reducible first | exact HB.out | apply y3) | exact HB.out)))); have n3_ := ym (yn (by repeat (first | (with_reducible first | exact HB.out | apply y3) | exact HB.out)) hb); clear HO_13; clear HB; have HO_13 := n0_; have HO170 := n1_; have HO172 := n2_; have HB := n3_; clear n0_ n1_ n2_ n3_; (try clear hb); (try clear hb2); (try clear hk); (try clear hi); (try clear ho0); (try clear ho1); obtain ⟨Ao18, co18, eo18⟩ := Kd.R_slice HO170.out; subst eo18; obtain ⟨Ao19, co19, eo19⟩ := Kd.R_slice HO172.out; subst eo19) | ((with_reducible refine gate_callee (f := 11) rfl ?_); refine goesL_ (some 56) rfl rfl Tryd.func11 (by kernel_rfl) rfl #[.slice A165_0 (rd_L1 l0 x22_1).length c165_0, .int .i64 a1, .slice Ao18 t166.length co18, .slice Ao19 t167.length co19] rfl (by (try simp only [List.map_toArray, List.map_cons, List.map_nil]); first | done | rfl | (simp only [List.length_drop, List.length_take]; rfl)) ?_; (with_reducible refine (rope_Turn.calls kj8 _ _ (rd_L1 l0 x22_1) a1 _ _ t166 _ _ t167 t173 t174 _ ?side1 ?side2 ?side3 ?side4 ?side5 ?side6 A14.out).mono ?_); (case side1 => repeat (first | exact (Kd.C_below HR165_0.out HB.out) | (with_reducible refine yi ?_ _) | (with_reducible refine yj ?_ _) | (with_reducible refine yk ?_))); (case side2 => exact HC165_0.out); (case side3 => repeat (first | exact (Kd.R_reads' HO170.out).2.2 | (with_reducible refine yi ?_ _) | (with_reducible refine yj ?_ _) | (with_reducible refine yk ?_))); (case side4 => exact (Kd.R_reads' HO170.out).2.1); (case side5 => repeat (first | exact (Kd.R_reads' HO172.out).2.2 | (with_reducible refine yi ?_ _) | (with_reducible refine yj ?_ _) | (with_reducible refine yk ?_))); (case side6 => exact (Kd.R_reads' HO172.out).2.1); rintro e w20 ⟨v175, rfl, ho0, hb⟩; refine ⟨_, rfl, ?_⟩; have n0_ := ym (Kd.S_elder' (by (with_reducible repeat (first | apply Kd.S_alloc | apply Kd.S_drewN | apply Kd.S_drew)); exact HO_13.out) (Kd.R_base ho0) hb); have n1_ := ym (Kd.R_elder' (by (with_reducible repeat apply y2); exact HO170.out) (Kd.R_base ho0) hb); have n2_ := ym (Kd.R_elder' (by (with_reducible repeat apply y2); exact HO172.out) (Kd.R_base ho0) hb); have n3_ := ym (yo (Kd.R_new' (Kd.R_new' ho0 (Kd.R_lt (by (with_reducible repeat apply y2); exact HO170.out))) (Kd.R_lt (by (with_reducible repeat apply y2); exact HO172.out))) (below_size (by repeat (first | (with_reducible first | exact HB.out | apply y3) | exact HB.out)))); have n4_ := ym (yn (by repeat (first | (with_reducible first | exact HB.out | apply y3) | exact HB.out)) hb); clear HO_13; clear HO170; clear HO172; clear HB; have HO_13 := n0_; have HO170 := n1_; have HO172 := n2_; have HO176 := n3_; have HB := n4_; clear n0_ n1_ n2_ n3_ n4_; (try clear hb); (try clear hb2); (try clear hk); (try clear hi); (try clear ho0); obtain ⟨Ao22, co22, eo22⟩ := Kd.R_slice HO176.out; subst eo22) | ((with_reducible refine gate_builtin (b := .append) (xs := #[.tmp 63, .tmp 65]) rfl ?_); at_builtin; refine Kd.S_append (Kd.slice 33 (Kd.int .i8)) (w0 := w) w.heap.size rfl (.tmp 63) (.tmp 65) 41 22 (.slice none 0 0) 24 rfl Tryd.underlying41 info22 rfl (by decide) (by omega) u13 x13_1 t173 [.slice Ao22 t173.length co22] (fun k_ => some k_ ≠ (.slice Ao18 t166.length co18 : Value).ownBlock ∧ some k_ ≠ (.slice Ao19 t167.length co19 : Value).ownBlock) (fun k_ => some k_ = (.slice Ao22 t173.length co22 : Value).ownBlock) rfl rfl ?aP (fun k_ hk_ => ((Kd.R_mono (ok' := fun k_ => ((fun k_ => some k_ ≠ (.slice Ao18 t166.length co18 : Value).ownBlock ∧ some k_ ≠ (.slice Ao19 t167.length co19 : Value).ownBlock)) k_ ∧ some k_ ≠ (u13 : Value).ownBlock) (Kd.R_apart' (HO176.out) (Kd.S_typed HO_13.out) (by decide)) (fun k_ hk => ⟨⟨hk.1.1.2, hk.1.2⟩, hk.2⟩))).1 k_ hk_.symm) ?aF ?aO ?aB ?aS ?aL ?_; (case aP => exact Kd.M_row (Kd.R_mono (Kd.R_tight rfl (Kd.R_mono (ok' := fun k_ => ((fun k_ => some k_ ≠ (.slice Ao18 t166.length co18 : Value).ownBlock ∧ some k_ ≠ (.slice Ao19 t167.length co19 : Value).ownBlock)) k_ ∧ some k_ ≠ (u13 : Value).ownBlock) (Kd.R_apart' (HO176.out) (Kd.S_typed HO_13.out) (by decide)) (fun k_ hk => ⟨⟨hk.1.1.2, hk.1.2⟩, hk.2⟩))) (fun _ h_ => h_))); (case aB => exact (by repeat (first | (with_reducible first | exact HB.out | apply y3) | exact HB.out))); (case aF => exact (fun k_ hk => ⟨Kd.fresh' (Kd.R_lt (by (with_reducible repeat apply y2); exact HO170.out)) k_ hk, Kd.fresh' (Kd.R_lt (by (with_reducible repeat apply y2); exact HO172.out)) k_ hk⟩)); (case aO => exact (by (with_reducible repeat (first | apply Kd.S_alloc | apply Kd.S_drewN | apply Kd.S_drew)); exact Kd.S_mono HO_13.out (fun k_ hk => ⟨⟨hk.1.1.2, hk.1.2⟩, fun e_ => hk.2 e_⟩))); (case aS => exact (below_size (by repeat (first | (with_reducible first | exact HB.out | apply y3) | exact HB.out)))); (case aL => have := LMc16.out; omega); intro v178 w21 ho hb hg hat; rw [← Ny177.out] at ho; have n0_ := ym (Kd.R_over' (by (with_reducible repeat apply y2); exact HO170.out) (Kd.S_typed (by (with_reducible repeat (first | apply Kd.S_alloc | apply Kd.S_drewN | apply Kd.S_drew)); exact HO_13.out)) (by decide) hg); have n1_ := ym (Kd.R_over' (by (with_reducible repeat apply y2); exact HO172.out) (Kd.S_typed (by (with_reducible repeat (first | apply Kd.S_alloc | apply Kd.S_drewN | apply Kd.S_drew)); exact HO_13.out)) (by decide) hg); have n2_ := ym (hb); have n3_ := ym (ho); clear HO170; clear HO172; clear HB; clear HO_13; clear HO176; have HO170 := n0_; have HO172 := n1_; have HB := n2_; have HO179 := n3_; clear n0_ n1_ n2_ n3_; clear ho hb hg hat))
           go_roundg kj8
           case measure => have := HK1.out; have := HJ8.out; omega
           case rel => exact ⟨(y177), (wrap64 (x22_1 + 1)), (by first | rfl | (simp; done) | (simp [*]; done)), H', ⟨by have := HK1.out; have := HJ8.out; omega⟩, ⟨by (with_reducible repeat (first | apply Kd.S_alloc | apply Kd.S_drewN | apply Kd.S_drew)); exact Kd.S_mono HO179.out (fun _ hk => trivial)⟩, ⟨by repeat (first | (with_reducible first | exact HB.out | apply y3) | exact HB.out)⟩⟩
          rw [if_neg c16] at H
          exact absurd H (by simp)
         rw [if_neg c15] at H
         have c15b0 : (t174 == 0) = false := beq_eq_false_iff_ne.mpr c15
         have c15b1 : (t174 != 0) = true := bne_iff_ne.mpr c15
         simp only [Option.some.injEq, Prod.mk.injEq] at H
         obtain ⟨rfl, rfl, rfl⟩ := H
         go_wp2_with (first | ((with_reducible refine gate_callee (f := 20) rfl ?_); refine goesL_ (some 43) rfl rfl Tryd.func20 (by kernel_rfl) rfl #[.slice A2 l2.length c2, .slice A3 l3.length c3, .int .i64 (wrap64 (Int.tdiv a1 2)), .int .i64 (wrap64 (a4 + x22_1))] rfl (by (try simp only [List.map_toArray, List.map_cons, List.map_nil]); first | done | rfl | (simp only [List.length_drop, List.length_take]; rfl)) ?_; (with_reducible refine (rope_At.calls kj8 _ _ l2 _ _ l3 (wrap64 (Int.tdiv a1 2)) (wrap64 (a4 + x22_1)) t166 t167 t168 _ ?side1 ?side2 ?side3 ?side4 A12.out).mono ?_); (case side1 => repeat (first | exact (Kd.C_below HR2.out HB.out) | (with_reducible refine yi ?_ _) | (with_reducible refine yj ?_ _) | (with_reducible refine yk ?_))); (case side2 => exact HC2.out); (case side3 => repeat (first | exact (Kd.C_below HR3.out HB.out) | (with_reducible refine yi ?_ _) | (with_reducible refine yj ?_ _) | (with_reducible refine yk ?_))); (case side4 => exact HC3.out); rintro e w23 ⟨v169, v171, rfl, ho0, ho1, hb⟩; refine ⟨_, rfl, ?_⟩; have n0_ := ym (Kd.S_mono (Kd.S_told (Kd.S_told (Kd.S_old (by (with_reducible repeat (first | apply Kd.S_alloc | apply Kd.S_drewN | apply Kd.S_drew)); exact HO_13.out) hb) (Kd.R_base ho0)) (Kd.R_base ho1)) (fun _ h_ => h_.1)); have n1_ := ym (yo ho0 (below_size (by repeat (first | (with_reducible first | exact HB.out | apply y3) | exact HB.out)))); have n2_ := ym (yo ho1 (below_size (by repeat (first | (with_reducible first | exact HB.out | apply y3) | exact HB.out)))); have n3_ := ym (yn (by repeat (first | (with_reducible first | exact HB.out | apply y3) | exact HB.out)) hb); clear HO_13; clear HB; have HO_13 := n0_; have HO170 := n1_; have HO172 := n2_; have HB := n3_; clear n0_ n1_ n2_ n3_; (try clear hb); (try clear hb2); (try clear hk); (try clear hi); (try clear ho0); (try clear ho1); obtain ⟨Ao24, co24, eo24⟩ := Kd.R_slice HO170.out; subst eo24; obtain ⟨Ao25, co25, eo25⟩ := Kd.R_slice HO172.out; subst eo25) | ((with_reducible refine gate_callee (f := 11) rfl ?_); refine goesL_ (some 56) rfl rfl Tryd.func11 (by kernel_rfl) rfl #[.slice A165_0 (rd_L1 l0 x22_1).length c165_0, .int .i64 a1, .slice Ao24 t166.length co24, .slice Ao25 t167.length co25] rfl (by (try simp only [List.map_toArray, List.map_cons, List.map_nil]); first | done | rfl | (simp only [List.length_drop, List.length_take]; rfl)) ?_; (with_reducible refine (rope_Turn.calls kj8 _ _ (rd_L1 l0 x22_1) a1 _ _ t166 _ _ t167 t173 t174 _ ?side1 ?side2 ?side3 ?side4 ?side5 ?side6 A14.out).mono ?_); (case side1 => repeat (first | exact (Kd.C_below HR165_0.out HB.out) | (with_reducible refine yi ?_ _) | (with_reducible refine yj ?_ _) | (with_reducible refine yk ?_))); (case side2 => exact HC165_0.out); (case side3 => repeat (first | exact (Kd.R_reads' HO170.out).2.2 | (with_reducible refine yi ?_ _) | (with_reducible refine yj ?_ _) | (with_reducible refine yk ?_))); (case side4 => exact (Kd.R_reads' HO170.out).2.1); (case side5 => repeat (first | exact (Kd.R_reads' HO172.out).2.2 | (with_reducible refine yi ?_ _) | (with_reducible refine yj ?_ _) | (with_reducible refine yk ?_))); (case side6 => exact (Kd.R_reads' HO172.out).2.1); rintro e w26 ⟨v175, rfl, ho0, hb⟩; refine ⟨_, rfl, ?_⟩; have n0_ := ym (Kd.S_elder' (by (with_reducible repeat (first | apply Kd.S_alloc | apply Kd.S_drewN | apply Kd.S_drew)); exact HO_13.out) (Kd.R_base ho0) hb); have n1_ := ym (Kd.R_elder' (by (with_reducible repeat apply y2); exact HO170.out) (Kd.R_base ho0) hb); have n2_ := ym (Kd.R_elder' (by (with_reducible repeat apply y2); exact HO172.out) (Kd.R_base ho0) hb); have n3_ := ym (yo (Kd.R_new' (Kd.R_new' ho0 (Kd.R_lt (by (with_reducible repeat apply y2); exact HO170.out))) (Kd.R_lt (by (with_reducible repeat apply y2); exact HO172.out))) (below_size (by repeat (first | (with_reducible first | exact HB.out | apply y3) | exact HB.out)))); have n4_ := ym (yn (by repeat (first | (with_reducible first | exact HB.out | apply y3) | exact HB.out)) hb); clear HO_13; clear HO170; clear HO172; clear HB; have HO_13 := n0_; have HO170 := n1_; have HO172 := n2_; have HO176 := n3_; have HB := n4_; clear n0_ n1_ n2_ n3_ n4_; (try clear hb); (try clear hb2); (try clear hk); (try clear hi); (try clear ho0)))
         go_ret3
         exact ⟨_, by first | rfl | (simp [errW_none, errW_some] <;> rfl) | (simp [*, errW_none, errW_some] <;> rfl), by first | exact Kd.S_nil _ _ _ _ _ | exact Kd.N_nil _ _ _ _ _ | exact Kd.V_nil _ _ _ _ _ | exact Kd.Q_nil _ _ _ _ _ | exact Kd.R_nil _ _ _ _ _, by repeat (first | (with_reducible first | exact HB.out | apply y3) | exact HB.out)⟩
        rw [if_neg c13] at H
        have c13b0 : (t168 == 0) = false := beq_eq_false_iff_ne.mpr c13
        have c13b1 : (t168 != 0) = true := bne_iff_ne.mpr c13
        simp only [Option.some.injEq, Prod.mk.injEq] at H
        obtain ⟨rfl, rfl, rfl⟩ := H
        go_wp2_with (first | ((with_reducible refine gate_callee (f := 20) rfl ?_); refine goesL_ (some 43) rfl rfl Tryd.func20 (by kernel_rfl) rfl #[.slice A2 l2.length c2, .slice A3 l3.length c3, .int .i64 (wrap64 (Int.tdiv a1 2)), .int .i64 (wrap64 (a4 + x22_1))] rfl (by (try simp only [List.map_toArray, List.map_cons, List.map_nil]); first | done | rfl | (simp only [List.length_drop, List.length_take]; rfl)) ?_; (with_reducible refine (rope_At.calls kj8 _ _ l2 _ _ l3 (wrap64 (Int.tdiv a1 2)) (wrap64 (a4 + x22_1)) t166 t167 t168 _ ?side1 ?side2 ?side3 ?side4 A12.out).mono ?_); (case side1 => repeat (first | exact (Kd.C_below HR2.out HB.out) | (with_reducible refine yi ?_ _) | (with_reducible refine yj ?_ _) | (with_reducible refine yk ?_))); (case side2 => exact HC2.out); (case side3 => repeat (first | exact (Kd.C_below HR3.out HB.out) | (with_reducible refine yi ?_ _) | (with_reducible refine yj ?_ _) | (with_reducible refine yk ?_))); (case side4 => exact HC3.out); rintro e w27 ⟨v169, v171, rfl, ho0, ho1, hb⟩; refine ⟨_, rfl, ?_⟩; have n0_ := ym (Kd.S_mono (Kd.S_told (Kd.S_told (Kd.S_old (by (with_reducible repeat (first | apply Kd.S_alloc | apply Kd.S_drewN | apply Kd.S_drew)); exact HO_13.out) hb) (Kd.R_base ho0)) (Kd.R_base ho1)) (fun _ h_ => h_.1)); have n1_ := ym (yo ho0 (below_size (by repeat (first | (with_reducible first | exact HB.out | apply y3) | exact HB.out)))); have n2_ := ym (yo ho1 (below_size (by repeat (first | (with_reducible first | exact HB.out | apply y3) | exact HB.out)))); have n3_ := ym (yn (by repeat (first | (with_reducible first | exact HB.out | apply y3) | exact HB.out)) hb); clear HO_13; clear HB; have HO_13 := n0_; have HO170 := n1_; have HO172 := n2_; have HB := n3_; clear n0_ n1_ n2_ n3_; (try clear hb); (try clear hb2); (try clear hk); (try clear hi); (try clear ho0); (try clear ho1)))
        go_ret3
        exact ⟨_, by first | rfl | (simp [errW_none, errW_some] <;> rfl) | (simp [*, errW_none, errW_some] <;> rfl), by first | exact Kd.S_nil _ _ _ _ _ | exact Kd.N_nil _ _ _ _ _ | exact Kd.V_nil _ _ _ _ _ | exact Kd.Q_nil _ _ _ _ _ | exact Kd.R_nil _ _ _ _ _, by repeat (first | (with_reducible first | exact HB.out | apply y3) | exact HB.out)⟩
     rw [if_neg c8] at H
     exact absurd H (by simp)
    rw [if_neg c7] at H
    exact absurd H (by simp)
   rw [if_neg c6] at H
   have c6b0 : decide (x22_1 < (l0.length : Int)) = false := decide_eq_false c6
   clear c6
   simp only [Option.some.injEq, Prod.mk.injEq] at H
   obtain ⟨rfl, rfl, rfl⟩ := H
   go_wp2
   go_ret3
   exact ⟨_, by first | rfl | (simp [errW_none, errW_some] <;> rfl) | (simp [*, errW_none, errW_some] <;> rfl), by (with_reducible repeat (first | apply Kd.S_alloc | apply Kd.S_drewN | apply Kd.S_drew)); exact HO_13.out, by repeat (first | (with_reducible first | exact HB.out | apply y3) | exact HB.out)⟩

end Go.Proofs.YtengkjkmdodifaaDoor.P
