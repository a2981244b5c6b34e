-- Printed by xprint.py (wip): functions, contracts, rows. Lean checks it.
import Derived.Test.YtfjpnmhbbfiaaaaZGSPx0
import Derived.Test.YtfjpnmhbbfiaaaaZGSPx11
import Derived.Test.YtfjpnmhbbfiaaaaZGSPx12
import Derived.Test.YtfjpnmhbbfiaaaaZGSWRepsOne
namespace Go.Proofs.Ytfjpnmhbbfiaaaa.P
open Go.RowKit Go.Proofs.YtfjpnmhbbfiaaaaW.PrintWords Go.Proofs.YtfjpnmhbbfiaaaaW.PrintLast Go.Proofs.YtfjpnmhbbfiaaaaW.PrintMore
attribute [local go_sem] max2_int min2_int max_two min_two max_three min_three max_four min_four   -- for this text's walks alone
set_option linter.unusedVariables false
set_option linter.unusedSimpArgs false

/-! ### heraldref15_Check: function 20 -/
def heraldref15_Check.l0 : Nat → Int → List Bool → List (S93) → Option (Int × Int)
  | 0, _, _, _ => none
  | k + 1, x4, x222000, x222001 => if x4 < (x222001.length : Int) then ((heraldref15_edge.f k x222000 x222001 x4).bind fun t222 => (if t222 = true then (heraldref15_Check.l0 k (wrap64 (x4 + 1)) x222000 x222001) else (some (x4, 151)))) else (if (x222000.length : Int) > 0 then ((heraldref15_Alive.f k x222000 x222001).bind fun t223 => (if 0 < (t223.length : Int) then (if rdOf false t223 0 = true then (some (0, 0)) else (some (0, 152))) else (none))) else (some (0, 0)))
def heraldref15_Check.f (k : Nat) (l0_0 : List Bool) (l0_1 : List (S93)) : Option (Int × Int) := if (l0_0.length : Int) > 64 then (some (64, 150)) else (if (l0_1.length : Int) > 1024 then (some (1024, 151)) else (heraldref15_Check.l0 k 0 l0_0 l0_1))
theorem heraldref15_Check.mono_l : ∀ k, (∀ y0 y1 y2, LeO (heraldref15_Check.l0 k y0 y1 y2) (heraldref15_Check.l0 (k + 1) y0 y1 y2))
  | 0 => fun _ _ _ r h => by simp [heraldref15_Check.l0] at h
  | k + 1 => by
    have ih0 := heraldref15_Check.mono_l k
    · intro y0 y1 y2
      unfold heraldref15_Check.l0
      repeat' first
      | (with_reducible exact ih0 _ _ _)
      | (with_reducible exact heraldref15_Alive.mono _ _ _)
      | (with_reducible exact heraldref15_edge.mono _ _ _ _)
      | (with_reducible exact LeO.refl _)
      | (with_reducible exact LeO.none _)
      | (with_reducible refine LeO.ite ?_ ?_)
      | (with_reducible refine LeO.bind ?_ (fun _ => ?_))
      | exact ih0 _ _ _
      | exact heraldref15_Alive.mono _ _ _
      | exact heraldref15_edge.mono _ _ _ _
      | exact LeO.none _
      | refine LeO.ite ?_ ?_
      | refine LeO.bind ?_ (fun _ => ?_)
theorem heraldref15_Check.mono : ∀ a0 a1 k, LeO (heraldref15_Check.f k a0 a1) (heraldref15_Check.f (k + 1) a0 a1) := by
  intro a0 a1 k
  have ih0 := heraldref15_Check.mono_l k
  unfold heraldref15_Check.f
  repeat' first
      | (with_reducible exact ih0 _ _ _)
      | (with_reducible exact heraldref15_Alive.mono _ _ _)
      | (with_reducible exact heraldref15_edge.mono _ _ _ _)
      | (with_reducible exact LeO.refl _)
      | (with_reducible exact LeO.none _)
      | (with_reducible refine LeO.ite ?_ ?_)
      | (with_reducible refine LeO.bind ?_ (fun _ => ?_))
      | exact ih0 _ _ _
      | exact heraldref15_Alive.mono _ _ _
      | exact heraldref15_edge.mono _ _ _ _
      | exact LeO.none _
      | refine LeO.ite ?_ ?_
      | refine LeO.bind ?_ (fun _ => ?_)
set_option maxHeartbeats 8000000 in
set_option maxRecDepth 100000 in
theorem heraldref15_Check.calls (k : Nat) (A0_0 : Option Addr) (c0_0 : Nat) (l0_0 : List Bool) (A0_1 : Option Addr) (c0_1 : Nat) (l0_1 : List (S93)) (r1 : Int) (r2 : Int) (w : World) (hr0_0 : Kd.C Kd.bool w A0_0 l0_0.length l0_0) (hc0_0 : l0_0.length ≤ c0_0) (hr0_1 : Kd.C k93 w A0_1 l0_1.length l0_1) (hc0_1 : l0_1.length ≤ c0_1) (h : heraldref15_Check.f k l0_0 l0_1 = some (r1, r2)) :
    Calls Try.prog 20 #[.agg #[.slice A0_0 l0_0.length c0_0, .slice A0_1 l0_1.length c0_1]] w fun e w' => e = .returned (.tuple #[.int .i64 r1, .int .i64 r2]) ∧ Below w.heap.size w w' := by
 have hu28 := Try.underlying28; have HR0_0 := ym hr0_0; have HC0_0 := ym hc0_0; clear hr0_0 hc0_0; have HR0_1 := ym hr0_1; have HC0_1 := ym hc0_1; clear hr0_1 hc0_1; have HB := ym (Below.refl w.heap.size w); have H : (if (l0_0.length : Int) > 64 then (some (64, 150)) else (if (l0_1.length : Int) > 1024 then (some (1024, 151)) else (heraldref15_Check.l0 k 0 l0_0 l0_1))) = some (r1, r2) := h; clear h; by_cases c2 : (l0_0.length : Int) > 64
 ·
  rw [if_pos c2] at H; have c2b0 : decide (64 < (l0_0.length : Int)) = true := decide_eq_true c2; have c2b1 : decide (64 < l0_0.length) = true := decide_eq_true (by omega); clear c2; simp only [Option.some.injEq, Prod.mk.injEq] at H; obtain ⟨rfl, rfl⟩ := H
  go_enter Try.func20, Try.ntmps20
  go_wp2_with (first | (refine zb (N := 1) (cs := #[.slice A0_0 l0_0.length c0_0, .slice A0_1 l0_1.length c0_1]) (t := 28) ?_; intro gb221 hg w3 hbox hb; have BK221 := ym (hbox); have GW221 := yE hg; replace HB := yN hb; have GE221 := GW221; clear hb hbox hg; have hcz4_0 := yW BK221 0; have hcz4_1 := yW BK221 1; have hfz4_0 := yv BK221.out 0; have hfz4_1 := yv BK221.out 1))
  go_ret2
  exact ⟨by first | rfl | (simp [errW_none, errW_some] <;> rfl) | (simp [*, errW_none, errW_some] <;> rfl), by repeat (first | (with_reducible first | exact HB.out | apply y3 | refine ys ?_ GE221.out) | exact HB.out)⟩
 rw [if_neg c2] at H; have c2b0 : decide (64 < (l0_0.length : Int)) = false := decide_eq_false c2; have c2b1 : decide (64 < l0_0.length) = false := decide_eq_false (by omega); clear c2; by_cases c5 : (l0_1.length : Int) > 1024
 ·
  rw [if_pos c5] at H; have c5b0 : decide (1024 < (l0_1.length : Int)) = true := decide_eq_true c5; have c5b1 : decide (1024 < l0_1.length) = true := decide_eq_true (by omega); clear c5; simp only [Option.some.injEq, Prod.mk.injEq] at H; obtain ⟨rfl, rfl⟩ := H
  go_enter Try.func20, Try.ntmps20
  go_wp2_with (first | (refine zb (N := 1) (cs := #[.slice A0_0 l0_0.length c0_0, .slice A0_1 l0_1.length c0_1]) (t := 28) ?_; intro gb221 hg w6 hbox hb; have BK221 := ym (hbox); have GW221 := yE hg; replace HB := yN hb; have GE221 := GW221; clear hb hbox hg; have hcz7_0 := yW BK221 0; have hcz7_1 := yW BK221 1; have hfz7_0 := yv BK221.out 0; have hfz7_1 := yv BK221.out 1))
  go_ret2
  exact ⟨by first | rfl | (simp [errW_none, errW_some] <;> rfl) | (simp [*, errW_none, errW_some] <;> rfl), by repeat (first | (with_reducible first | exact HB.out | apply y3 | refine ys ?_ GE221.out) | exact HB.out)⟩
 rw [if_neg c5] at H; have c5b0 : decide (1024 < (l0_1.length : Int)) = false := decide_eq_false c5; have c5b1 : decide (1024 < l0_1.length) = false := decide_eq_false (by omega); clear c5; have H' := ym H; clear H
 go_enter Try.func20, Try.ntmps20
 go_wp2_with (first | (refine zb (N := 1) (cs := #[.slice A0_0 l0_0.length c0_0, .slice A0_1 l0_1.length c0_1]) (t := 28) ?_; intro gb221 hg w8 hbox hb; have BK221 := ym (hbox); have GW221 := yE hg; replace HB := yN hb; have GE221 := GW221; clear hb hbox hg; have hcz9_0 := yW BK221 0; have hcz9_1 := yW BK221 1; have hfz9_0 := yv BK221.out 0; have hfz9_1 := yv BK221.out 1))
 go_loopg [4] k (fun kq v4 w' => ∃ (x4_1 : Int), v4 = .int .i64 x4_1 ∧ Aside0 (heraldref15_Check.l0 kq x4_1 l0_0 l0_1 = some (r1, r2)) ∧ Aside0 (kq ≤ k) ∧ Aside0 (w'.heap[gb221]? = some (.cells #[(.slice A0_0 l0_0.length c0_0), (.slice A0_1 l0_1.length c0_1)] 28 (0, 0))) ∧ Aside0 (Below w.heap.size w w'))
 case atStart => exact ⟨(0), y7, H', ⟨Nat.le_refl _⟩, ⟨by (with_reducible repeat refine y4 ?_); exact BK221.out⟩, ⟨by repeat (first | (with_reducible first | exact HB.out | apply y3 | refine ys ?_ GE221.out) | exact HB.out)⟩⟩
 case round =>
  clear H'; (try clear c2); (try clear c2b0); (try clear c2b1); (try clear p2); (try clear c5); (try clear c5b0); (try clear c5b1); (try clear hcz4_0); (try clear hcz4_1); (try clear hcz7_0); (try clear hcz7_1); (try clear hcz9_0); (try clear hcz9_1); (try clear hfz4_0); (try clear hfz4_1); (try clear hfz7_0); (try clear hfz7_1); (try clear hfz9_0); (try clear hfz9_1); obtain ⟨x4_1, rfl, HA, HK1, BK221, HB⟩ := hrel
  cases gk with
  | zero => exact absurd HA.out (by simp [heraldref15_Check.l0])
  | succ k1 =>
   have H := HA.out; clear HA; simp only [heraldref15_Check.l0] at H; by_cases c10 : x4_1 < (l0_1.length : Int)
   ·
    rw [if_pos c10] at H; have c10b0 : decide (x4_1 < (l0_1.length : Int)) = true := decide_eq_true c10; clear c10; replace H := Option.bind_eq_some_iff.mp H; obtain ⟨t222, A110, H⟩ := H; replace H : (if t222 = true then (heraldref15_Check.l0 k1 (wrap64 (x4_1 + 1)) l0_0 l0_1) else (some (x4_1, 151))) = some (r1, r2) := H; have A11 := ym A110; clear A110; by_cases c12 : t222 = true
    ·
     subst c12; (have H1 : (heraldref15_Check.l0 k1 (wrap64 (x4_1 + 1)) l0_0 l0_1) = some (r1, r2) := by rw [if_pos rfl] at H; exact H); clear H; have H := H1; clear H1; have H' := ym H; clear H; have hcz13_0 := yW BK221 0; have hcz13_1 := yW BK221 1; have hfz13_0 := yv BK221.out 0; have hfz13_1 := yv BK221.out 1
     go_wp2_with (first | ((with_reducible refine gate_callee (f := 52) rfl ?_); refine goesL_ (some 22) rfl rfl Try.func52 (by kernel_rfl) rfl #[.agg #[.slice A0_0 l0_0.length c0_0, .slice A0_1 l0_1.length c0_1], .int .i64 x4_1] rfl y6 ?_; (with_reducible refine (heraldref15_edge.calls k1 _ _ l0_0 _ _ l0_1 x4_1 true _ ?side1 ?side2 ?side3 ?side4 A11.out).mono ?_); (case side1 => exact y9 HR0_0); (case side2 => exact HC0_0.out); (case side3 => exact y9 HR0_1); (case side4 => exact HC0_1.out); rintro e w14 ⟨rfl, hb⟩; refine ⟨_, rfl, ?_⟩; replace BK221 := yQ BK221 hb; replace HB := yN hb; (try clear hb); (try clear hb2); (try clear hk); (try clear hi)))
     go_roundg k1
     case measure => have := HK1.out; omega
     case rel => exact ⟨(wrap64 (x4_1 + 1)), y7, H', ⟨by have := HK1.out; omega⟩, ⟨by (with_reducible repeat refine y4 ?_); exact BK221.out⟩, ⟨by repeat (first | (with_reducible first | exact HB.out | apply y3 | refine ys ?_ GE221.out) | exact HB.out)⟩⟩
    replace c12 := Bool.eq_false_iff.mpr c12; subst c12; (have H1 : (some (x4_1, 151)) = some (r1, r2) := by rw [if_neg (show ¬ (false = true) by decide)] at H; exact H); clear H; have H := H1; clear H1; simp only [Option.some.injEq, Prod.mk.injEq] at H; obtain ⟨rfl, rfl⟩ := H; have hcz15_0 := yW BK221 0; have hcz15_1 := yW BK221 1; have hfz15_0 := yv BK221.out 0; have hfz15_1 := yv BK221.out 1
    go_wp2_with (first | ((with_reducible refine gate_callee (f := 52) rfl ?_); refine goesL_ (some 22) rfl rfl Try.func52 (by kernel_rfl) rfl #[.agg #[.slice A0_0 l0_0.length c0_0, .slice A0_1 l0_1.length c0_1], .int .i64 x4_1] rfl y6 ?_; (with_reducible refine (heraldref15_edge.calls k1 _ _ l0_0 _ _ l0_1 x4_1 false _ ?side1 ?side2 ?side3 ?side4 A11.out).mono ?_); (case side1 => exact y9 HR0_0); (case side2 => exact HC0_0.out); (case side3 => exact y9 HR0_1); (case side4 => exact HC0_1.out); rintro e w16 ⟨rfl, hb⟩; refine ⟨_, rfl, ?_⟩; replace BK221 := yQ BK221 hb; replace HB := yN hb; (try clear hb); (try clear hb2); (try clear hk); (try clear hi)))
    go_ret2
    exact ⟨by first | rfl | (simp [errW_none, errW_some] <;> rfl) | (simp [*, errW_none, errW_some] <;> rfl), by repeat (first | (with_reducible first | exact HB.out | apply y3 | refine ys ?_ GE221.out) | exact HB.out)⟩
   rw [if_neg c10] at H; have c10b0 : decide (x4_1 < (l0_1.length : Int)) = false := decide_eq_false c10; clear c10; by_cases c17 : (l0_0.length : Int) > 0
   ·
    rw [if_pos c17] at H; have c17b0 : decide (0 < (l0_0.length : Int)) = true := decide_eq_true c17; have c17b1 : decide (0 < l0_0.length) = true := decide_eq_true (by omega); clear c17; replace H := Option.bind_eq_some_iff.mp H; obtain ⟨t223, A180, H⟩ := H; replace H : (if 0 < (t223.length : Int) then (if rdOf false t223 0 = true then (some (0, 0)) else (some (0, 152))) else (none)) = some (r1, r2) := H; have A18 := ym A180; clear A180; by_cases c19 : 0 < (t223.length : Int)
    ·
     rw [if_pos c19] at H; have c19b0 : decide (0 < (t223.length : Int)) = true := decide_eq_true c19; have c19b1 : decide (0 < t223.length) = true := decide_eq_true (by omega); clear c19; obtain ⟨bq20, hbq20⟩ : ∃ b_ : Bool, b_ = (rdOf false t223 0) := ⟨_, rfl⟩; (replace H : (if bq20 = true then (some (0, 0)) else (some (0, 152))) = some (r1, r2) := by rw [← hbq20] at H; exact H); have Nbq20 := ym hbq20; clear hbq20; by_cases c21 : bq20 = true
     ·
      subst c21; (have H1 : (some (0, 0)) = some (r1, r2) := by rw [if_pos rfl] at H; exact H); clear H; have H := H1; clear H1; simp only [Option.some.injEq, Prod.mk.injEq] at H; obtain ⟨rfl, rfl⟩ := H; have hcz22_0 := yW BK221 0; have hcz22_1 := yW BK221 1; have hfz22_0 := yv BK221.out 0; have hfz22_1 := yv BK221.out 1
      go_wp2_with (first | (go_at_call 22; (with_reducible refine (heraldref15_Alive.calls k1 _ _ l0_0 _ _ l0_1 t223 _ ?side1 ?side2 ?side3 ?side4 A18.out).mono ?_); (case side1 => exact y9 HR0_0); (case side2 => exact HC0_0.out); (case side3 => exact y9 HR0_1); (case side4 => exact HC0_1.out); rintro e w23 ⟨v224, rfl, ho0, hb⟩; have HO225 := ym (yo ho0 (below_size yb)); replace BK221 := yQ BK221 hb; replace HB := yN hb; (try clear hb); (try clear hb2); (try clear hk); (try clear hi); (try clear ho0); obtain ⟨Ao24, co24, eo24⟩ := Kd.R_slice HO225.out; subst eo24; have p226 : 0 ≤ (0 : Int) := (by omega); have q226 : 0 < (t223.length : Int) := of_decide_eq_true y5; obtain ⟨ad226, e226, hx226_0⟩ := Kd.at_bool (Kd.R_reads' HO225.out).2.2 0 p226 q226; (try rw [← Nbq20.out] at hx226_0); cases e226; have qi226 : (0 < t223.length) = True := eq_true (by omega); (try rw [show ((0 : Int)).toNat = 0 from rfl] at hx226_0); (try rw [Addr.add_zero'] at hx226_0); replace p226 := eq_true p226; replace q226 := eq_true q226))
      go_ret2
      exact ⟨by first | rfl | (simp [errW_none, errW_some] <;> rfl) | (simp [*, errW_none, errW_some] <;> rfl), by repeat (first | (with_reducible first | exact HB.out | apply y3 | refine ys ?_ GE221.out) | exact HB.out)⟩
     replace c21 := Bool.eq_false_iff.mpr c21; subst c21; (have H1 : (some (0, 152)) = some (r1, r2) := by rw [if_neg (show ¬ (false = true) by decide)] at H; exact H); clear H; have H := H1; clear H1; simp only [Option.some.injEq, Prod.mk.injEq] at H; obtain ⟨rfl, rfl⟩ := H; have hcz25_0 := yW BK221 0; have hcz25_1 := yW BK221 1; have hfz25_0 := yv BK221.out 0; have hfz25_1 := yv BK221.out 1
     go_wp2_with (first | (go_at_call 22; (with_reducible refine (heraldref15_Alive.calls k1 _ _ l0_0 _ _ l0_1 t223 _ ?side1 ?side2 ?side3 ?side4 A18.out).mono ?_); (case side1 => exact y9 HR0_0); (case side2 => exact HC0_0.out); (case side3 => exact y9 HR0_1); (case side4 => exact HC0_1.out); rintro e w26 ⟨v224, rfl, ho0, hb⟩; have HO225 := ym (yo ho0 (below_size yb)); replace BK221 := yQ BK221 hb; replace HB := yN hb; (try clear hb); (try clear hb2); (try clear hk); (try clear hi); (try clear ho0); obtain ⟨Ao27, co27, eo27⟩ := Kd.R_slice HO225.out; subst eo27; have p226 : 0 ≤ (0 : Int) := (by omega); have q226 : 0 < (t223.length : Int) := of_decide_eq_true y5; obtain ⟨ad226, e226, hx226_0⟩ := Kd.at_bool (Kd.R_reads' HO225.out).2.2 0 p226 q226; (try rw [← Nbq20.out] at hx226_0); cases e226; have qi226 : (0 < t223.length) = True := eq_true (by omega); (try rw [show ((0 : Int)).toNat = 0 from rfl] at hx226_0); (try rw [Addr.add_zero'] at hx226_0); replace p226 := eq_true p226; replace q226 := eq_true q226))
     go_ret2
     exact ⟨by first | rfl | (simp [errW_none, errW_some] <;> rfl) | (simp [*, errW_none, errW_some] <;> rfl), by repeat (first | (with_reducible first | exact HB.out | apply y3 | refine ys ?_ GE221.out) | exact HB.out)⟩
    rw [if_neg c19] at H; exact absurd H (by simp)
   rw [if_neg c17] at H; have c17b0 : decide (0 < (l0_0.length : Int)) = false := decide_eq_false c17; have c17b1 : decide (0 < l0_0.length) = false := decide_eq_false (by omega); clear c17; simp only [Option.some.injEq, Prod.mk.injEq] at H; obtain ⟨rfl, rfl⟩ := H; have hcz28_0 := yW BK221 0; have hcz28_1 := yW BK221 1; have hfz28_0 := yv BK221.out 0; have hfz28_1 := yv BK221.out 1
   go_wp2
   go_ret2
   exact ⟨by first | rfl | (simp [errW_none, errW_some] <;> rfl) | (simp [*, errW_none, errW_some] <;> rfl), by repeat (first | (with_reducible first | exact HB.out | apply y3 | refine ys ?_ GE221.out) | exact HB.out)⟩

end Go.Proofs.Ytfjpnmhbbfiaaaa.P
