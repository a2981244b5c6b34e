-- Printed by xprint.py (wip): functions, contracts, rows. Lean checks it.
import Derived.Test.YtigfodkakefhcaaPx0
import Derived.Test.YtigfodkakefhcaaPx5
import Derived.Test.YtigfodkakefhcaaPx6
import Derived.Test.YtigfodkakefhcaaPx8
import Derived.Test.YtigfodkakefhcaaPx10
import Derived.Test.YtigfodkakefhcaaPx12
import Derived.Test.YtigfodkakefhcaaPx14
import Derived.Test.YtigfodkakefhcaaPx15
namespace Go.Proofs.Ytigfodkakefhcaa.P
open Go.RowKit Go.Proofs.YtigfodkakefhcaaW.PrintWords Go.Proofs.YtigfodkakefhcaaW.PrintLast Go.Proofs.YtigfodkakefhcaaW.PrintMore
attribute [local go_sem] max2_int min2_int max_two min_two max_three min_three max_four min_four   -- for this text's walks alone
set_option linter.unusedVariables false
set_option linter.unusedSimpArgs false

/-! ### heraldlaw08_VecRows: function 6 -/
def heraldlaw08_VecRows.f (k : Nat) (l0_0 : List Int) (a0_1 : Int) (l0_2 : List (List Int)) (a1 : Int) : Option Bool :=
  (heraldlaw08_awake.f k).bind fun t0 => (vec_Row.f l0_0 a0_1 a1).bind fun t1 => (heraldref08_Row.f l0_0 a0_1 a1).bind fun t2 => (heraldlaw08_same_int8.f k t1.1 t2.1).bind fun t3 =>
  (vec_Sizes.f l0_0 a0_1).bind fun t4 => (heraldref08_Sizes.f k l0_0 a0_1).bind fun t5 => (heraldlaw08_same_int64.f k t4.1 t5.1).bind fun t6 =>
  if t0 = true ∧ t3 = true ∧ t1.2 = t2.2 ∧ t6 = true ∧ t4.2 = t5.2 then some true else none
set_option maxRecDepth 100000 in
set_option maxHeartbeats 4000000 in
theorem heraldlaw08_VecRows.calls (k : Nat) (A0_0 : Option Addr) (c0_0 : Nat) (l0_0 : List Int) (a0_1 : Int) (A0_2 : Option Addr) (c0_2 : Nat) (l0_2 : List (List Int)) (a1 : Int) (r : Bool) (w : World) (hr0_0 : Kd.C (Kd.int .i8) w A0_0 l0_0.length l0_0) (hc0_0 : l0_0.length ≤ c0_0) (hr0_2 : Kd.C (Kd.slice 42 (Kd.int .i8)) w A0_2 l0_2.length l0_2) (hc0_2 : l0_2.length ≤ c0_2) (h : heraldlaw08_VecRows.f k l0_0 a0_1 l0_2 a1 = some r) :
    Calls Try.prog 6 #[.agg #[.slice A0_0 l0_0.length c0_0, .int .i64 a0_1, .slice A0_2 l0_2.length c0_2], .int .i64 a1] w fun e w' => e = .returned (.bool r) ∧ Below w.heap.size w w' := by
  have hu := Try.underlying25
  have HR := Aside0.mk hr0_0
  have HC := Aside0.mk hc0_0
  clear hr0_0 hc0_0 hr0_2 hc0_2
  have HB := Aside0.mk (Below.refl w.heap.size w)
  unfold heraldlaw08_VecRows.f at h
  obtain ⟨t0, g0, h0⟩ := Option.bind_eq_some_iff.mp h
  obtain ⟨⟨t1, e1⟩, g1, h1⟩ := Option.bind_eq_some_iff.mp h0
  obtain ⟨⟨t2, e2⟩, g2, h2⟩ := Option.bind_eq_some_iff.mp h1
  obtain ⟨t3, g3, h3⟩ := Option.bind_eq_some_iff.mp h2
  obtain ⟨⟨t4, e4⟩, g4, h4⟩ := Option.bind_eq_some_iff.mp h3
  obtain ⟨⟨t5, e5⟩, g5, h5⟩ := Option.bind_eq_some_iff.mp h4
  obtain ⟨t6, g6, h6⟩ := Option.bind_eq_some_iff.mp h5
  clear h h0 h1 h2 h3 h4 h5
  split at h6
  · rename_i hh
    obtain rfl := Option.some.inj h6
    clear h6
    obtain ⟨rfl, rfl, q1, rfl, q2⟩ := hh
    simp only at q1 q2
    subst q1 q2
    have G0 := Aside0.mk g0
    have G1 := Aside0.mk g1
    have G2 := Aside0.mk g2
    have G3 := Aside0.mk g3
    have G4 := Aside0.mk g4
    have G5 := Aside0.mk g5
    have G6 := Aside0.mk g6
    clear g0 g1 g2 g3 g4 g5 g6
    have n1 : (e1 != e1) = false := by simp
    have n2 : (e4 == e4) = true := by simp
    go_enter Try.func6, Try.ntmps6
    go_wp2_with (first | ((with_reducible refine gate_dst (N := 2) rfl ?_); refine box_event ?hg (N := 2) ?hd (cs := #[.slice A0_0 l0_0.length c0_0, .int .i64 a0_1, .slice A0_2 l0_2.length c0_2]) (t := 25) ?hr ?_; (case hd => rfl); (case hg => rfl); (case hr => first | (go_simp; done) | (go_simp; rfl)); intro gb hg w1 hbox hb; have BK1 := Aside0.mk hbox; have HB1 := Aside0.mk (below_step HB.out hb); have s0 := (blk_cell hbox 0).trans rfl; have s1 := (blk_cell hbox 1).trans rfl; clear hbox hb hg HB) | (go_at_call 13; refine (heraldlaw08_awake.calls k true _ G0.out).mono ?_; rintro e w2 ⟨rfl, hb⟩; have BK2 := Aside0.mk (blk_below BK1.out hb); have HB2 := Aside0.mk (below_step HB1.out hb); clear s0 s1; have s0 := (blk_cell BK2.out 0).trans rfl; have s1 := (blk_cell BK2.out 1).trans rfl; clear hb BK1 HB1) | (go_at_call 26; refine (vec_Row.calls _ _ l0_0 a0_1 a1 t1 e1 _ (Kd.C_below HR.out HB2.out) HC.out G1.out).mono ?_; rintro e w3 ⟨v1, rfl, ho, hb⟩; obtain ⟨A1, c1, rfl⟩ := Kd.R_slice ho; have BK3 := Aside0.mk (blk_below BK2.out hb); have HB3 := Aside0.mk (below_step HB2.out hb); have HO1 := Aside0.mk ho; clear s0 s1; have s0 := (blk_cell BK3.out 0).trans rfl; have s1 := (blk_cell BK3.out 1).trans rfl; clear hb ho BK2 HB2) | (go_at_call 27; refine (heraldref08_Row.calls _ _ l0_0 a0_1 a1 t2 e1 _ (Kd.C_below HR.out HB3.out) HC.out G2.out).mono ?_; rintro e w4 ⟨⟨A2, c2, rfl, hc2, hC2⟩, ⟨nd, rfl⟩⟩; have HC2 := Aside0.mk hc2; have HO2 := Aside0.mk hC2; clear hc2 hC2) | (go_at_call 21; refine (heraldlaw08_same_int8.calls k _ _ t1 _ _ t2 true _ (Kd.R_reads' (Kd.R_drewN HO1.out nd)).2.2 (Kd.R_reads' HO1.out).2.1 (HO2.out _ (Kd.C_below HR.out (pw_below_drewN HB3.out nd))) HC2.out G3.out).mono ?_; rintro e w5 ⟨rfl, hd⟩; have HB5 := Aside0.mk (below_step (pw_below_drewN HB3.out nd) hd.below); have BK5 := Aside0.mk (blk_below (blk_drewN BK3.out nd) hd.below); clear s0 s1; have s0 := (blk_cell BK5.out 0).trans rfl; have s1 := (blk_cell BK5.out 1).trans rfl; clear hd BK3 HB3) | (go_at_call 25; refine (vec_Sizes.calls _ _ l0_0 a0_1 t4 e4 _ (Kd.C_below HR.out HB5.out) HC.out G4.out).mono ?_; rintro e w6 ⟨v4, rfl, ho, hb⟩; obtain ⟨A4, c4, rfl⟩ := Kd.R_slice ho; have BK6 := Aside0.mk (blk_below BK5.out hb); have HB6 := Aside0.mk (below_step HB5.out hb); have HO4 := Aside0.mk ho; clear s0 s1; have s0 := (blk_cell BK6.out 0).trans rfl; have s1 := (blk_cell BK6.out 1).trans rfl; clear hb ho BK5 HB5) | (go_at_call 28; refine (heraldref08_Sizes.calls k _ _ l0_0 a0_1 t5 e4 _ (Kd.C_below HR.out HB6.out) HC.out G5.out).mono ?_; rintro e w7 ⟨v5, rfl, ho, hb⟩; obtain ⟨A5, c5, rfl⟩ := Kd.R_slice ho; have HB7 := Aside0.mk (below_step HB6.out hb); have HO5 := Aside0.mk ho; have HO4' := Aside0.mk (Kd.R_below HO4.out hb); clear s0 s1; clear hb ho BK6 HB6 HO4) | (go_at_call 17; refine (heraldlaw08_same_int64.calls k _ _ t4 _ _ t5 true _ (Kd.R_reads' HO4'.out).2.2 (Kd.R_reads' HO4'.out).2.1 (Kd.R_reads' HO5.out).2.2 (Kd.R_reads' HO5.out).2.1 G6.out).mono ?_; rintro e w8 ⟨rfl, hd⟩; have HB8 := Aside0.mk (below_step HB7.out hd.below); clear hd HB7))
    go_ret
    exact ⟨rfl, HB8.out⟩
  · cases h6

end Go.Proofs.Ytigfodkakefhcaa.P
