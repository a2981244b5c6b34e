-- Printed by xprint.py (wip): functions, contracts, rows. Lean checks it.
import Derived.Test.YtfjpnmhbbfiaaaaZGSMlst
import Derived.Test.YtfjpnmhbbfiaaaaZGSPx0
import Derived.Test.YtfjpnmhbbfiaaaaZGSPx1
import Derived.Test.YtfjpnmhbbfiaaaaZGSPx7
import Derived.Test.YtfjpnmhbbfiaaaaZGSPx9
import Derived.Test.YtfjpnmhbbfiaaaaZGSPx13
import Derived.Test.YtfjpnmhbbfiaaaaZGSPx18
import Derived.Test.YtfjpnmhbbfiaaaaZGSPx23
import Derived.Test.YtfjpnmhbbfiaaaaZGSPx25
import Derived.Test.YtfjpnmhbbfiaaaaZGSPx26
namespace Go.Proofs.Ytfjpnmhbbfiaaaa.P
open Go Go.RowKit Go.Proofs.YtfjpnmhbbfiaaaaW.PrintWords Go.Proofs.YtfjpnmhbbfiaaaaW.PrintLast Go.Proofs.YtfjpnmhbbfiaaaaW.PrintMore Go.Proofs.Ytfjpnmhbbfiaaaa
attribute [local go_sem] max2_int min2_int max_two min_two max_three min_three max_four min_four   -- for this text's walks alone
set_option linter.unusedVariables false
set_option linter.unusedSimpArgs false

/-! ### heraldlaw15_GuideSays: function 11 -/
/-- A guide behind a variable. -/
structure RG (W : World) (g : Nat) (A0 : Option Addr) (c0 : Nat) (A : List Bool) (A1 : Option Addr) (c1 : Nat) (E : List (S92)) : Prop where
  box : W.heap[g]? = some (.cells #[.slice A0 A.length c0, .slice A1 E.length c1] 25 (0, 0))
  r0 : Kd.C Kd.bool W A0 A.length A
  h0 : A.length ≤ c0
  r1 : Kd.C k92 W A1 E.length E
  h1 : E.length ≤ c1
theorem RG.below {W W' : World} {g : Nat} {A0 : Option Addr} {c0 : Nat} {A : List Bool} {A1 : Option Addr} {c1 : Nat} {E : List (S92)} (h : RG W g A0 c0 A A1 c1 E) (hb : Below W.heap.size W W') : RG W' g A0 c0 A A1 c1 E := ⟨blk_below h.box hb, Kd.C_below h.r0 hb, h.h0, Kd.C_below h.r1 hb, h.h1⟩
noncomputable def accG (k : Nat) (e : Int) (A : List Bool) (E : List (S92)) (t : ByteArray) : Option Bool := if e = 0 then guide_Accepts.f k A E t else some true
theorem accG_mono (k : Nat) (e : Int) (A : List Bool) (E : List (S92)) (t : ByteArray) : LeO (accG k e A E t) (accG (k + 1) e A E t) := LeO.ite (guide_Accepts.mono A E t k) (LeO.refl _)
noncomputable def heraldlaw15_GuideSays.f (k : Nat) (l0_0 : List Bool) (l0_1 : List (S92)) (l1_0 : List Bool) (l1_1 : List (S92)) (a2 : ByteArray) : Option Bool :=
  (heraldlaw15_awake.f k).bind fun aw => (heraldlaw15_given.f k l0_0 l0_1).bind fun m => (heraldref15_Check.f k m.1 m.2).bind fun c => (heraldlaw15_given.f k l1_0 l1_1).bind fun n => (heraldref15_Check.f k n.1 n.2).bind fun d =>
  if c.2 = 0 ∧ d.2 = 0 then (guide_Accepts.f k l0_0 l0_1 a2).bind fun p => (guide_Accepts.f k l1_0 l1_1 a2).bind fun q => (guide_Least.f k l0_0 l0_1).bind fun w => (guide_And.f k l0_0 l0_1 l1_0 l1_1).bind fun x => (guide_Or.f k l0_0 l0_1 l1_0 l1_1).bind fun y => (guide_Not.f k l0_0 l0_1).bind fun z => (guide_Shortest.f k l0_0 l0_1).bind fun s =>
    (accG k w.2.2 w.1 w.2.1 a2).bind fun g1 => (accG k x.2.2 x.1 x.2.1 a2).bind fun g2 => (accG k y.2.2 y.1 y.2.1 a2).bind fun g3 => (accG k z.2.2 z.1 z.2.1 a2).bind fun g4 => (guide_Accepts.f k l0_0 l0_1 s.1).bind fun sa =>
    if aw = true ∧ (w.2.2 = 0 → g1 = p) ∧ (x.2.2 = 0 → g2 = (p && q)) ∧ (y.2.2 = 0 → g3 = (p || q)) ∧ (z.2.2 = 0 → g4 = !p) ∧ s.2 = 0 ∧ sa = true ∧ (x.2.2 = 152 → (p && q) = false) ∧ (z.2.2 = 152 → p = true) then some true else none
  else (guide_And.f k l0_0 l0_1 l1_0 l1_1).bind fun x => if aw = true ∧ x.2.2 ≠ 0 then some true else none
theorem heraldlaw15_GuideSays.mono : ∀ a0 a1 a2 a3 a4 k, LeO (heraldlaw15_GuideSays.f k a0 a1 a2 a3 a4) (heraldlaw15_GuideSays.f (k + 1) a0 a1 a2 a3 a4) := fun a0 a1 a2 a3 a4 k => by
  unfold heraldlaw15_GuideSays.f
  refine LeO.bind (heraldlaw15_awake.mono k) (fun aw => LeO.bind (heraldlaw15_given.mono _ _ k) (fun m => LeO.bind (heraldref15_Check.mono _ _ k) (fun c => LeO.bind (heraldlaw15_given.mono _ _ k) (fun n => LeO.bind (heraldref15_Check.mono _ _ k) (fun d => LeO.ite ?_ ?_)))))
  · exact LeO.bind (guide_Accepts.mono _ _ _ k) (fun p => LeO.bind (guide_Accepts.mono _ _ _ k) (fun q => LeO.bind (guide_Least.mono _ _ k) (fun w => LeO.bind (guide_And.mono _ _ _ _ k) (fun x => LeO.bind (guide_Or.mono _ _ _ _ k) (fun y => LeO.bind (guide_Not.mono _ _ k) (fun z => LeO.bind (guide_Shortest.mono _ _ k) (fun s => LeO.bind (accG_mono _ _ _ _ _) (fun g1 => LeO.bind (accG_mono _ _ _ _ _) (fun g2 => LeO.bind (accG_mono _ _ _ _ _) (fun g3 => LeO.bind (accG_mono _ _ _ _ _) (fun g4 => LeO.bind (guide_Accepts.mono _ _ _ k) (fun sa => LeO.refl _))))))))))))
  · exact LeO.bind (guide_And.mono _ _ _ _ k) (fun x => LeO.refl _)
def gsays.T6 : Bool × List (List Nat × List Nat) := (true, [([], []), ([], []), ([0, 1], [0, 1]), ([], []), ([], []), ([3, 4, 2], [3, 4]), ([2, 5, 0, 1, 2], [2]), ([5, 6, 0, 1, 2, 3, 4, 5, 6], [5])])
def gsays.B6 : List Nat := [0, 0, 3, 0, 0, 31, 63, 127]
theorem gsays.tab6 : rtab .any (opsOf Try.f11 6) = gsays.T6 := by kernel_rfl
theorem gsays.bits6 : waitsOk gsays.T6.2 gsays.B6 = true := by kernel_rfl
set_option maxHeartbeats 8000000 in
set_option maxRecDepth 100000 in
theorem heraldlaw15_GuideSays.bad (k : Nat) (A0_0 : Option Addr) (c0_0 : Nat) (l0_0 : List Bool) (A0_1 : Option Addr) (c0_1 : Nat) (l0_1 : List (S92)) (A1_0 : Option Addr) (c1_0 : Nat) (l1_0 : List Bool) (A1_1 : Option Addr) (c1_1 : Nat) (l1_1 : List (S92)) (a2 : ByteArray) (r : Bool) (w : World) (hr0_0 : Kd.C Kd.bool w A0_0 l0_0.length l0_0) (hc0_0 : l0_0.length ≤ c0_0) (hr0_1 : Kd.C k92 w A0_1 l0_1.length l0_1) (hc0_1 : l0_1.length ≤ c0_1) (hr1_0 : Kd.C Kd.bool w A1_0 l1_0.length l1_0) (hc1_0 : l1_0.length ≤ c1_0) (hr1_1 : Kd.C k92 w A1_1 l1_1.length l1_1) (hc1_1 : l1_1.length ≤ c1_1) (m1 : List Bool) (m2 : List (S93)) (e1 e2 : Int) (n1 : List Bool) (n2 : List (S93)) (d1 d2 : Int) (haw : heraldlaw15_awake.f k = some true) (hm : heraldlaw15_given.f k l0_0 l0_1 = some (m1, m2)) (he : heraldref15_Check.f k m1 m2 = some (e1, e2)) (hn : heraldlaw15_given.f k l1_0 l1_1 = some (n1, n2)) (hd : heraldref15_Check.f k n1 n2 = some (d1, d2)) (hbad : ¬ (e2 = 0 ∧ d2 = 0)) (x1 : List Bool) (x2 : List (S92)) (x3 : Int) (hx : guide_And.f k l0_0 l0_1 l1_0 l1_1 = some (x1, x2, x3)) (hx3 : x3 ≠ 0) :
    Calls Try.prog 11 #[.agg #[.slice A0_0 l0_0.length c0_0, .slice A0_1 l0_1.length c0_1], .agg #[.slice A1_0 l1_0.length c1_0, .slice A1_1 l1_1.length c1_1], .string a2] w fun e w' => e = .returned (.bool true) ∧ Below w.heap.size w w' := by
  have hu25 := Try.underlying25
  have hu28 := Try.underlying28
  have HR0 := ym hr0_0
  have HC0 := ym hc0_0
  have HR1 := ym hr0_1
  have HC1 := ym hc0_1
  have HR2 := ym hr1_0
  have HC2 := ym hc1_0
  have HR3 := ym hr1_1
  have HC3 := ym hc1_1
  have HM := ym hm
  have HE := ym he
  have HN := ym hn
  have HD := ym hd
  have HAW := ym haw
  have HB := ym (Below.refl w.heap.size w)
  have HX := ym hx
  have b9 : (x3 != 0) = true := bne_iff_ne.mpr hx3
  clear hr0_0 hc0_0 hr0_1 hc0_1 hr1_0 hc1_0 hr1_1 hc1_1 hm he hn hd haw hx hx3
  by_cases hz : e2 = 0
  · subst hz
    have b1 : (d2 != 0) = true := bne_iff_ne.mpr (fun e => hbad ⟨rfl, e⟩)
    clear hbad
    go_enter Try.func11, Try.ntmps11
    go_wp2_with (first | ((with_reducible refine gate_dst (N := 3) rfl ?_); go_loud (refine zb (N := 3) (cs := #[.slice A0_0 l0_0.length c0_0, .slice A0_1 l0_1.length c0_1]) (t := 25) ?_); go_loud (intro g3 hg3 w1 hbox hb1; have G3 := ym (show RG w1 g3 A0_0 c0_0 l0_0 A0_1 c0_1 l0_1 from ⟨hbox, Kd.C_below HR0.out (below_step HB.out hb1), HC0.out, Kd.C_below HR1.out (below_step HB.out hb1), HC1.out⟩); replace HB := yN hb1; clear hg3 hbox hb1)) | ((with_reducible refine gate_dst (N := 4) rfl ?_); go_loud (refine zb (N := 4) (cs := #[.slice A1_0 l1_0.length c1_0, .slice A1_1 l1_1.length c1_1]) (t := 25) ?_); go_loud (intro g4 hg4 w2 hbox hb2; have G4 := ym (show RG w2 g4 A1_0 c1_0 l1_0 A1_1 c1_1 l1_1 from ⟨hbox, Kd.C_below HR2.out (below_step HB.out hb2), HC2.out, Kd.C_below HR3.out (below_step HB.out hb2), HC3.out⟩); replace G3 := ym (G3.out.below hb2); replace HB := yN hb2; clear hg4 hbox hb2; have a30 := yW ⟨G3.out.box⟩ 0; have a31 := yW ⟨G3.out.box⟩ 1)) | (go_at_call_of 13 (Value.slice A0_0 l0_0.length c0_0); go_loud (refine (heraldlaw15_given.calls k _ _ l0_0 _ _ l0_1 m1 m2 _ G3.out.r0 G3.out.h0 G3.out.r1 G3.out.h1 HM.out).mono ?_); go_loud (rintro e w3 ⟨v0, v1, rfl, h0, h1, hb⟩; obtain ⟨Ama, cma, q0⟩ := Kd.R_slice h0; subst q0; obtain ⟨Amb, cmb, q1⟩ := Kd.R_slice h1; subst q1; have Qma := ym (Kd.R_reads' h0).2.2; have Qmb := ym (Kd.R_reads' h1).2.2; have Lma := ym (Kd.R_reads' h0).2.1; have Lmb := ym (Kd.R_reads' h1).2.1; replace G3 := ym (G3.out.below hb); replace G4 := ym (G4.out.below hb); replace HB := yN hb; clear h0 h1 hb a30 a31)) | (go_at_call_of 20 (Value.slice Ama m1.length cma); go_loud (refine (heraldref15_Check.calls k _ _ m1 _ _ m2 e1 0 _ Qma.out Lma.out Qmb.out Lmb.out HE.out).mono ?_); go_loud (rintro e w4 ⟨rfl, hb⟩; replace G3 := ym (G3.out.below hb); replace G4 := ym (G4.out.below hb); replace HB := yN hb; clear hb Qma Qmb; have a40 := yW ⟨G4.out.box⟩ 0; have a41 := yW ⟨G4.out.box⟩ 1)) | (go_at_call_of 13 (Value.slice A1_0 l1_0.length c1_0); go_loud (refine (heraldlaw15_given.calls k _ _ l1_0 _ _ l1_1 n1 n2 _ G4.out.r0 G4.out.h0 G4.out.r1 G4.out.h1 HN.out).mono ?_); go_loud (rintro e w5 ⟨v0, v1, rfl, h0, h1, hb⟩; obtain ⟨Ana, cna, q0⟩ := Kd.R_slice h0; subst q0; obtain ⟨Anb, cnb, q1⟩ := Kd.R_slice h1; subst q1; have Qna := ym (Kd.R_reads' h0).2.2; have Qnb := ym (Kd.R_reads' h1).2.2; have Lna := ym (Kd.R_reads' h0).2.1; have Lnb := ym (Kd.R_reads' h1).2.1; replace G3 := ym (G3.out.below hb); replace G4 := ym (G4.out.below hb); replace HB := yN hb; clear h0 h1 hb a40 a41)) | (go_at_call_of 20 (Value.slice Ana n1.length cna); go_loud (refine (heraldref15_Check.calls k _ _ n1 _ _ n2 d1 d2 _ Qna.out Lna.out Qnb.out Lnb.out HD.out).mono ?_); go_loud (rintro e w6 ⟨rfl, hb⟩; replace G3 := ym (G3.out.below hb); replace G4 := ym (G4.out.below hb); replace HB := yN hb; clear hb Qna Qnb; have a30 := yW ⟨G3.out.box⟩ 0; have a31 := yW ⟨G3.out.box⟩ 1; have a40 := yW ⟨G4.out.box⟩ 0; have a41 := yW ⟨G4.out.box⟩ 1)) | (go_at_call 33; go_loud (refine (guide_And.calls k _ _ l0_0 _ _ l0_1 _ _ l1_0 _ _ l1_1 x1 x2 x3 _ G3.out.r0 G3.out.h0 G3.out.r1 G3.out.h1 G4.out.r0 G4.out.h0 G4.out.r1 G4.out.h1 HX.out).mono ?_); go_loud (rintro e w7 ⟨v0, v1, rfl, h0, h1, hb⟩; obtain ⟨Axa, cxa, q0⟩ := Kd.R_slice h0; subst q0; obtain ⟨Axb, cxb, q1⟩ := Kd.R_slice h1; subst q1; have Qxa := ym (Kd.R_reads' h0); have Qxb := ym (Kd.R_reads' h1); replace G3 := ym (G3.out.below hb); replace G4 := ym (G4.out.below hb); replace HB := yN hb; clear h0 h1 hb a30 a31 a40 a41)) | ((with_reducible refine gate_dst (N := 11) rfl ?_); go_loud (refine zb (N := 11) (cs := #[.slice none 0 0, .slice none 0 0]) (t := 25) ?_); go_loud (intro g11 hg11 w8 hbox hbA; have BG11 := ym hbox; have HA11 := ym hbA; have GA11 := ym (show w7.heap.size ≤ g11 by rw [hg11]; exact Nat.le_refl _); clear hg11 hbox hbA)) | ((with_reducible refine gate_store (t := 25) (p := 11) rfl ?_); go_loud (refine Arr.wpList_store_row rfl 25 _ _ rfl g11 #[.slice Axa x1.length cxa, .slice Axb x2.length cxb] rfl rfl 25 _ BG11.out (by kernel_rfl) rfl (by simp [Value.oneCell']) ?_); go_loud (obtain ⟨w9, hw8⟩ : ∃ wq_, wq_ = w8.setRow g11 #[.slice Axa x1.length cxa, .slice Axb x2.length cxb] := ⟨_, rfl⟩; rw [← hw8]; have hg8 : w8.grownBy w9 (some g11) := (by rw [hw8]; exact grown_setRow _ _ _); have hb8 : w9.heap[g11]? = some (.cells #[.slice Axa x1.length cxa, .slice Axb x2.length cxb] 25 (0, 0)) := (by rw [hw8]; exact setRow_heap _ _ _ _ _ _ BG11.out); have hbS : Below w7.heap.size w7 w9 := pw_below_grown HA11.out (some g11) HA11.out.size hg8 (fun k hk => by cases hk; exact GA11.out); have G11 := ym (show RG w9 g11 Axa cxa x1 Axb cxb x2 from ⟨hb8, Kd.C_below Qxa.out.2.2 hbS, Qxa.out.2.1, Kd.C_below Qxb.out.2.2 hbS, Qxb.out.2.1⟩); replace G3 := ym (G3.out.below hbS); replace G4 := ym (G4.out.below hbS); replace HB := yN hbS; clear hw8 hg8 hb8 hbS BG11 HA11 GA11 Qxa Qxb; skip)) | (go_at_call 14; go_loud (refine (heraldlaw15_awake.calls k true _ HAW.out).mono ?_); rintro e wz ⟨rfl, hb⟩; replace HB := yN hb; clear hb))
    go_ret
    exact ⟨rfl, HB.out⟩
  · have b1 : (e2 != 0) = true := bne_iff_ne.mpr hz
    clear hbad hz
    go_enter Try.func11, Try.ntmps11
    go_wp2_with (first | ((with_reducible refine gate_dst (N := 3) rfl ?_); go_loud (refine zb (N := 3) (cs := #[.slice A0_0 l0_0.length c0_0, .slice A0_1 l0_1.length c0_1]) (t := 25) ?_); go_loud (intro g3 hg3 w1 hbox hb1; have G3 := ym (show RG w1 g3 A0_0 c0_0 l0_0 A0_1 c0_1 l0_1 from ⟨hbox, Kd.C_below HR0.out (below_step HB.out hb1), HC0.out, Kd.C_below HR1.out (below_step HB.out hb1), HC1.out⟩); replace HB := yN hb1; clear hg3 hbox hb1)) | ((with_reducible refine gate_dst (N := 4) rfl ?_); go_loud (refine zb (N := 4) (cs := #[.slice A1_0 l1_0.length c1_0, .slice A1_1 l1_1.length c1_1]) (t := 25) ?_); go_loud (intro g4 hg4 w2 hbox hb2; have G4 := ym (show RG w2 g4 A1_0 c1_0 l1_0 A1_1 c1_1 l1_1 from ⟨hbox, Kd.C_below HR2.out (below_step HB.out hb2), HC2.out, Kd.C_below HR3.out (below_step HB.out hb2), HC3.out⟩); replace G3 := ym (G3.out.below hb2); replace HB := yN hb2; clear hg4 hbox hb2; have a30 := yW ⟨G3.out.box⟩ 0; have a31 := yW ⟨G3.out.box⟩ 1)) | (go_at_call_of 13 (Value.slice A0_0 l0_0.length c0_0); go_loud (refine (heraldlaw15_given.calls k _ _ l0_0 _ _ l0_1 m1 m2 _ G3.out.r0 G3.out.h0 G3.out.r1 G3.out.h1 HM.out).mono ?_); go_loud (rintro e w3 ⟨v0, v1, rfl, h0, h1, hb⟩; obtain ⟨Ama, cma, q0⟩ := Kd.R_slice h0; subst q0; obtain ⟨Amb, cmb, q1⟩ := Kd.R_slice h1; subst q1; have Qma := ym (Kd.R_reads' h0).2.2; have Qmb := ym (Kd.R_reads' h1).2.2; have Lma := ym (Kd.R_reads' h0).2.1; have Lmb := ym (Kd.R_reads' h1).2.1; replace G3 := ym (G3.out.below hb); replace G4 := ym (G4.out.below hb); replace HB := yN hb; clear h0 h1 hb a30 a31)) | (go_at_call_of 20 (Value.slice Ama m1.length cma); go_loud (refine (heraldref15_Check.calls k _ _ m1 _ _ m2 e1 e2 _ Qma.out Lma.out Qmb.out Lmb.out HE.out).mono ?_); go_loud (rintro e w4 ⟨rfl, hb⟩; replace G3 := ym (G3.out.below hb); replace G4 := ym (G4.out.below hb); replace HB := yN hb; clear hb Qma Qmb; have a40 := yW ⟨G4.out.box⟩ 0; have a41 := yW ⟨G4.out.box⟩ 1)) | (go_at_call_of 13 (Value.slice A1_0 l1_0.length c1_0); go_loud (refine (heraldlaw15_given.calls k _ _ l1_0 _ _ l1_1 n1 n2 _ G4.out.r0 G4.out.h0 G4.out.r1 G4.out.h1 HN.out).mono ?_); go_loud (rintro e w5 ⟨v0, v1, rfl, h0, h1, hb⟩; obtain ⟨Ana, cna, q0⟩ := Kd.R_slice h0; subst q0; obtain ⟨Anb, cnb, q1⟩ := Kd.R_slice h1; subst q1; have Qna := ym (Kd.R_reads' h0).2.2; have Qnb := ym (Kd.R_reads' h1).2.2; have Lna := ym (Kd.R_reads' h0).2.1; have Lnb := ym (Kd.R_reads' h1).2.1; replace G3 := ym (G3.out.below hb); replace G4 := ym (G4.out.below hb); replace HB := yN hb; clear h0 h1 hb a40 a41)) | (go_at_call_of 20 (Value.slice Ana n1.length cna); go_loud (refine (heraldref15_Check.calls k _ _ n1 _ _ n2 d1 d2 _ Qna.out Lna.out Qnb.out Lnb.out HD.out).mono ?_); go_loud (rintro e w6 ⟨rfl, hb⟩; replace G3 := ym (G3.out.below hb); replace G4 := ym (G4.out.below hb); replace HB := yN hb; clear hb Qna Qnb; have a30 := yW ⟨G3.out.box⟩ 0; have a31 := yW ⟨G3.out.box⟩ 1; have a40 := yW ⟨G4.out.box⟩ 0; have a41 := yW ⟨G4.out.box⟩ 1)) | (go_at_call 33; go_loud (refine (guide_And.calls k _ _ l0_0 _ _ l0_1 _ _ l1_0 _ _ l1_1 x1 x2 x3 _ G3.out.r0 G3.out.h0 G3.out.r1 G3.out.h1 G4.out.r0 G4.out.h0 G4.out.r1 G4.out.h1 HX.out).mono ?_); go_loud (rintro e w7 ⟨v0, v1, rfl, h0, h1, hb⟩; obtain ⟨Axa, cxa, q0⟩ := Kd.R_slice h0; subst q0; obtain ⟨Axb, cxb, q1⟩ := Kd.R_slice h1; subst q1; have Qxa := ym (Kd.R_reads' h0); have Qxb := ym (Kd.R_reads' h1); replace G3 := ym (G3.out.below hb); replace G4 := ym (G4.out.below hb); replace HB := yN hb; clear h0 h1 hb a30 a31 a40 a41)) | ((with_reducible refine gate_dst (N := 11) rfl ?_); go_loud (refine zb (N := 11) (cs := #[.slice none 0 0, .slice none 0 0]) (t := 25) ?_); go_loud (intro g11 hg11 w8 hbox hbA; have BG11 := ym hbox; have HA11 := ym hbA; have GA11 := ym (show w7.heap.size ≤ g11 by rw [hg11]; exact Nat.le_refl _); clear hg11 hbox hbA)) | ((with_reducible refine gate_store (t := 25) (p := 11) rfl ?_); go_loud (refine Arr.wpList_store_row rfl 25 _ _ rfl g11 #[.slice Axa x1.length cxa, .slice Axb x2.length cxb] rfl rfl 25 _ BG11.out (by kernel_rfl) rfl (by simp [Value.oneCell']) ?_); go_loud (obtain ⟨w9, hw8⟩ : ∃ wq_, wq_ = w8.setRow g11 #[.slice Axa x1.length cxa, .slice Axb x2.length cxb] := ⟨_, rfl⟩; rw [← hw8]; have hg8 : w8.grownBy w9 (some g11) := (by rw [hw8]; exact grown_setRow _ _ _); have hb8 : w9.heap[g11]? = some (.cells #[.slice Axa x1.length cxa, .slice Axb x2.length cxb] 25 (0, 0)) := (by rw [hw8]; exact setRow_heap _ _ _ _ _ _ BG11.out); have hbS : Below w7.heap.size w7 w9 := pw_below_grown HA11.out (some g11) HA11.out.size hg8 (fun k hk => by cases hk; exact GA11.out); have G11 := ym (show RG w9 g11 Axa cxa x1 Axb cxb x2 from ⟨hb8, Kd.C_below Qxa.out.2.2 hbS, Qxa.out.2.1, Kd.C_below Qxb.out.2.2 hbS, Qxb.out.2.1⟩); replace G3 := ym (G3.out.below hbS); replace G4 := ym (G4.out.below hbS); replace HB := yN hbS; clear hw8 hg8 hb8 hbS BG11 HA11 GA11 Qxa Qxb; skip)) | (go_at_call 14; go_loud (refine (heraldlaw15_awake.calls k true _ HAW.out).mono ?_); rintro e wz ⟨rfl, hb⟩; replace HB := yN hb; clear hb))
    go_ret
    exact ⟨rfl, HB.out⟩
set_option maxHeartbeats 8000000 in
set_option maxRecDepth 100000 in
theorem heraldlaw15_GuideSays.good (k : Nat) (A0_0 : Option Addr) (c0_0 : Nat) (l0_0 : List Bool) (A0_1 : Option Addr) (c0_1 : Nat) (l0_1 : List (S92)) (A1_0 : Option Addr) (c1_0 : Nat) (l1_0 : List Bool) (A1_1 : Option Addr) (c1_1 : Nat) (l1_1 : List (S92)) (a2 : ByteArray) (r : Bool) (w : World) (hr0_0 : Kd.C Kd.bool w A0_0 l0_0.length l0_0) (hc0_0 : l0_0.length ≤ c0_0) (hr0_1 : Kd.C k92 w A0_1 l0_1.length l0_1) (hc0_1 : l0_1.length ≤ c0_1) (hr1_0 : Kd.C Kd.bool w A1_0 l1_0.length l1_0) (hc1_0 : l1_0.length ≤ c1_0) (hr1_1 : Kd.C k92 w A1_1 l1_1.length l1_1) (hc1_1 : l1_1.length ≤ c1_1) (m1 : List Bool) (m2 : List (S93)) (e1 : Int) (n1 : List Bool) (n2 : List (S93)) (d1 : Int) (haw : heraldlaw15_awake.f k = some true) (hm : heraldlaw15_given.f k l0_0 l0_1 = some (m1, m2)) (he : heraldref15_Check.f k m1 m2 = some (e1, 0)) (hn : heraldlaw15_given.f k l1_0 l1_1 = some (n1, n2)) (hd : heraldref15_Check.f k n1 n2 = some (d1, 0)) (p q : Bool) (hp : guide_Accepts.f k l0_0 l0_1 a2 = some p) (hq : guide_Accepts.f k l1_0 l1_1 a2 = some q) (rw1 : List Bool) (rw2 : List (S92)) (rw3 : Int) (rx1 : List Bool) (rx2 : List (S92)) (rx3 : Int) (ry1 : List Bool) (ry2 : List (S92)) (ry3 : Int) (rz1 : List Bool) (rz2 : List (S92)) (rz3 : Int) (hw : guide_Least.f k l0_0 l0_1 = some (rw1, rw2, rw3)) (hx : guide_And.f k l0_0 l0_1 l1_0 l1_1 = some (rx1, rx2, rx3)) (hy : guide_Or.f k l0_0 l0_1 l1_0 l1_1 = some (ry1, ry2, ry3)) (hz : guide_Not.f k l0_0 l0_1 = some (rz1, rz2, rz3)) (s1 : ByteArray) (hs : guide_Shortest.f k l0_0 l0_1 = some (s1, 0)) (hsa : guide_Accepts.f k l0_0 l0_1 s1 = some true) (hg1 : (rw3 == 0) = true → guide_Accepts.f k rw1 rw2 a2 = some p) (hg2 : (rx3 == 0) = true → guide_Accepts.f k rx1 rx2 a2 = some (p && q)) (hg3 : (ry3 == 0) = true → guide_Accepts.f k ry1 ry2 a2 = some (p || q)) (hg4 : (rz3 == 0) = true → guide_Accepts.f k rz1 rz2 a2 = some (!p)) (hj : (rx3 != 152) = false → (p && q) = false) (hl : (rz3 != 152) = false → p = true) :
    Calls Try.prog 11 #[.agg #[.slice A0_0 l0_0.length c0_0, .slice A0_1 l0_1.length c0_1], .agg #[.slice A1_0 l1_0.length c1_0, .slice A1_1 l1_1.length c1_1], .string a2] w fun e w' => e = .returned (.bool true) ∧ Below w.heap.size w w' := by
  have hu25 := Try.underlying25
  have hu28 := Try.underlying28
  have HR0 := ym hr0_0
  have HC0 := ym hc0_0
  have HR1 := ym hr0_1
  have HC1 := ym hc0_1
  have HR2 := ym hr1_0
  have HC2 := ym hc1_0
  have HR3 := ym hr1_1
  have HC3 := ym hc1_1
  have HM := ym hm
  have HE := ym he
  have HN := ym hn
  have HD := ym hd
  have HAW := ym haw
  have HP := ym hp
  have HQ := ym hq
  have HW := ym hw
  have HX := ym hx
  have HY := ym hy
  have HZ := ym hz
  have HS := ym hs
  have HSA := ym hsa
  obtain ⟨bi, bi_⟩ : ∃ bi, bi = (rw3 == 0) := ⟨_, rfl⟩
  rw [← bi_] at hg1
  have biE := ym bi_.symm
  have HG1 := ym hg1
  obtain ⟨bj, bj_⟩ : ∃ bj, bj = (rx3 == 0) := ⟨_, rfl⟩
  rw [← bj_] at hg2
  have bjE := ym bj_.symm
  have HG2 := ym hg2
  obtain ⟨bk, bk_⟩ : ∃ bk, bk = (ry3 == 0) := ⟨_, rfl⟩
  rw [← bk_] at hg3
  have bkE := ym bk_.symm
  have HG3 := ym hg3
  obtain ⟨bl, bl_⟩ : ∃ bl, bl = (rz3 == 0) := ⟨_, rfl⟩
  rw [← bl_] at hg4
  have blE := ym bl_.symm
  have HG4 := ym hg4
  obtain ⟨bx, bx_⟩ : ∃ bx, bx = (rx3 != 152) := ⟨_, rfl⟩
  rw [← bx_] at hj
  have bxE := ym bx_.symm
  have HJ := ym hj
  obtain ⟨bz, bz_⟩ : ∃ bz, bz = (rz3 != 152) := ⟨_, rfl⟩
  rw [← bz_] at hl
  have bzE := ym bz_.symm
  have HL := ym hl
  have HB := ym (Below.refl w.heap.size w)
  clear hr0_0 hc0_0 hr0_1 hc0_1 hr1_0 hc1_0 hr1_1 hc1_1 hm he hn hd haw hp hq hw hx hy hz hs hsa hg1 hg2 hg3 hg4 hj hl bi_ bj_ bk_ bl_ bx_ bz_
  go_enter Try.func11, Try.ntmps11
  go_wp2_with (first | ((with_reducible refine gate_dst (N := 3) rfl ?_); go_loud (refine zb (N := 3) (cs := #[.slice A0_0 l0_0.length c0_0, .slice A0_1 l0_1.length c0_1]) (t := 25) ?_); go_loud (intro g3 hg3 w1 hbox hb1; have G3 := ym (show RG w1 g3 A0_0 c0_0 l0_0 A0_1 c0_1 l0_1 from ⟨hbox, Kd.C_below HR0.out (below_step HB.out hb1), HC0.out, Kd.C_below HR1.out (below_step HB.out hb1), HC1.out⟩); replace HB := yN hb1; clear hg3 hbox hb1)) | ((with_reducible refine gate_dst (N := 4) rfl ?_); go_loud (refine zb (N := 4) (cs := #[.slice A1_0 l1_0.length c1_0, .slice A1_1 l1_1.length c1_1]) (t := 25) ?_); go_loud (intro g4 hg4 w2 hbox hb2; have G4 := ym (show RG w2 g4 A1_0 c1_0 l1_0 A1_1 c1_1 l1_1 from ⟨hbox, Kd.C_below HR2.out (below_step HB.out hb2), HC2.out, Kd.C_below HR3.out (below_step HB.out hb2), HC3.out⟩); replace G3 := ym (G3.out.below hb2); replace HB := yN hb2; clear hg4 hbox hb2; have a30 := yW ⟨G3.out.box⟩ 0; have a31 := yW ⟨G3.out.box⟩ 1)) | (go_at_call_of 13 (Value.slice A0_0 l0_0.length c0_0); go_loud (refine (heraldlaw15_given.calls k _ _ l0_0 _ _ l0_1 m1 m2 _ G3.out.r0 G3.out.h0 G3.out.r1 G3.out.h1 HM.out).mono ?_); go_loud (rintro e w3 ⟨v0, v1, rfl, h0, h1, hb⟩; obtain ⟨Ama, cma, q0⟩ := Kd.R_slice h0; subst q0; obtain ⟨Amb, cmb, q1⟩ := Kd.R_slice h1; subst q1; have Qma := ym (Kd.R_reads' h0).2.2; have Qmb := ym (Kd.R_reads' h1).2.2; have Lma := ym (Kd.R_reads' h0).2.1; have Lmb := ym (Kd.R_reads' h1).2.1; replace G3 := ym (G3.out.below hb); replace G4 := ym (G4.out.below hb); replace HB := yN hb; clear h0 h1 hb a30 a31)) | (go_at_call_of 20 (Value.slice Ama m1.length cma); go_loud (refine (heraldref15_Check.calls k _ _ m1 _ _ m2 e1 0 _ Qma.out Lma.out Qmb.out Lmb.out HE.out).mono ?_); go_loud (rintro e w4 ⟨rfl, hb⟩; replace G3 := ym (G3.out.below hb); replace G4 := ym (G4.out.below hb); replace HB := yN hb; clear hb Qma Qmb; have a40 := yW ⟨G4.out.box⟩ 0; have a41 := yW ⟨G4.out.box⟩ 1)) | (go_at_call_of 13 (Value.slice A1_0 l1_0.length c1_0); go_loud (refine (heraldlaw15_given.calls k _ _ l1_0 _ _ l1_1 n1 n2 _ G4.out.r0 G4.out.h0 G4.out.r1 G4.out.h1 HN.out).mono ?_); go_loud (rintro e w5 ⟨v0, v1, rfl, h0, h1, hb⟩; obtain ⟨Ana, cna, q0⟩ := Kd.R_slice h0; subst q0; obtain ⟨Anb, cnb, q1⟩ := Kd.R_slice h1; subst q1; have Qna := ym (Kd.R_reads' h0).2.2; have Qnb := ym (Kd.R_reads' h1).2.2; have Lna := ym (Kd.R_reads' h0).2.1; have Lnb := ym (Kd.R_reads' h1).2.1; replace G3 := ym (G3.out.below hb); replace G4 := ym (G4.out.below hb); replace HB := yN hb; clear h0 h1 hb a40 a41)) | (go_at_call_of 20 (Value.slice Ana n1.length cna); go_loud (refine (heraldref15_Check.calls k _ _ n1 _ _ n2 d1 0 _ Qna.out Lna.out Qnb.out Lnb.out HD.out).mono ?_); go_loud (rintro e w6 ⟨rfl, hb⟩; replace G3 := ym (G3.out.below hb); replace G4 := ym (G4.out.below hb); replace HB := yN hb; clear hb Qna Qnb; skip)))
  refine start_ (n := 8) (S := fun w' => w'.heap[g3]? = some (.cells #[.slice A0_0 l0_0.length c0_0, .slice A0_1 l0_1.length c0_1] 25 (0, 0)) ∧ w'.heap[g4]? = some (.cells #[.slice A1_0 l1_0.length c1_0, .slice A1_1 l1_1.length c1_1] 25 (0, 0))) (ds := []) #[false, false, false, false, false, false, false, false] (by kernel_rfl) rfl rfl ⟨G3.out.box, G4.out.box⟩ (fun hHeld => ?_)
  refine with_tabW gsays.tab6 gsays.bits6 (fun HT_ HW_ => ?_)
  replace G3 := ym (G3.out.below (below_drew (Below.refl _ _)))
  replace G4 := ym (G4.out.below (below_drew (Below.refl _ _)))
  replace HB := ym (ye HB.out)
  generalize w6.drew = wd at G3 G4 HB hHeld ⊢
  refine zt (i := 1) (N := some 55) HT_ ?_
  refine zt (i := 4) (N := some 58) HT_ ?_
  refine zw (i := 0) (N := some 54) HT_ HW_ hHeld ?_ (hv := (by rintro w' ⟨s0, s1⟩; exact exec_load_row 25 _ rfl g3 rfl 25 _ (0, 0) _ s0 Try.underlying25 rfl (by kernel_rfl)))
  refine zw (i := 3) (N := some 57) HT_ HW_ hHeld ?_ (hv := (by rintro w' ⟨s0, s1⟩; exact exec_load_row 25 _ rfl g4 rfl 25 _ (0, 0) _ s1 Try.underlying25 rfl (by kernel_rfl)))
  refine one_ (i := 2) (N := some 56) #[i_, i_, i_, i_, i_, o_, o_, o_] rfl rfl (one_of HT_.out (by kernel_rfl)) (by decide) (fun K hK => ?_)
  refine goes_ (f := 17) Try.func17 (by kernel_rfl) rfl #[.agg #[.slice A0_0 l0_0.length c0_0, .slice A0_1 l0_1.length c0_1], .string a2] (by rfl) rfl rfl (by simp only [List.map_toArray, List.map_cons, List.map_nil]; rfl) ?_
  refine (guide_Accepts.calls k _ _ l0_0 _ _ l0_1 a2 p _ G3.out.r0 G3.out.h0 G3.out.r1 G3.out.h1 HP.out).mono ?_
  rintro e w7 ⟨rfl, hb⟩
  refine ⟨_, rfl, ?_⟩
  replace G3 := ym (G3.out.below hb)
  replace G4 := ym (G4.out.below hb)
  replace HB := yN hb
  refine hK.out _ _ ⟨G3.out.box, G4.out.box⟩ (fun hHeld => ?_)
  clear hK K hb
  refine norm_ (a' := ?_) ?_ ?_
  rotate_left
  · show Act.put _ (some 56) _ = _
    simp only [Act.put, y0, y1]
    rfl
  refine one_ (i := 5) (N := some 59) #[i_, i_, i_, i_, i_, i_, o_, o_] rfl rfl (one_of HT_.out (by kernel_rfl)) (by decide) (fun K hK => ?_)
  refine goes_ (f := 17) Try.func17 (by kernel_rfl) rfl #[.agg #[.slice A1_0 l1_0.length c1_0, .slice A1_1 l1_1.length c1_1], .string a2] (by rfl) rfl rfl (by simp only [List.map_toArray, List.map_cons, List.map_nil]; rfl) ?_
  refine (guide_Accepts.calls k _ _ l1_0 _ _ l1_1 a2 q _ G4.out.r0 G4.out.h0 G4.out.r1 G4.out.h1 HQ.out).mono ?_
  rintro e w8 ⟨rfl, hb⟩
  refine ⟨_, rfl, ?_⟩
  replace G3 := ym (G3.out.below hb)
  replace G4 := ym (G4.out.below hb)
  replace HB := yN hb
  refine hK.out _ _ ⟨G3.out.box, G4.out.box⟩ (fun hHeld => ?_)
  clear hK K hb
  refine norm_ (a' := ?_) ?_ ?_
  rotate_left
  · show Act.put _ (some 59) _ = _
    simp only [Act.put, y0, y1]
    rfl
  refine zt (i := 6) (N := some 13) HT_ ?_
  refine zt (i := 7) (N := some 14) HT_ ?_
  refine done_ (done_of HT_.out (by kernel_rfl)) ?_
  clear HT_ HW_ hHeld
  have a30 := yW ⟨G3.out.box⟩ 0
  have a31 := yW ⟨G3.out.box⟩ 1
  have a40 := yW ⟨G4.out.box⟩ 0
  have a41 := yW ⟨G4.out.box⟩ 1
  go_upto_region 12 with (first | (go_at_call 32; go_loud (refine (guide_Least.calls k _ _ l0_0 _ _ l0_1 rw1 rw2 rw3 _ G3.out.r0 G3.out.h0 G3.out.r1 G3.out.h1 HW.out).mono ?_); go_loud (rintro e w10 ⟨v0, v1, rfl, h0, h1, hb⟩; obtain ⟨Arwa, crwa, q0⟩ := Kd.R_slice h0; subst q0; obtain ⟨Arwb, crwb, q1⟩ := Kd.R_slice h1; subst q1; have Qrwa := ym (Kd.R_reads' h0); have Qrwb := ym (Kd.R_reads' h1); replace G3 := ym (G3.out.below hb); replace G4 := ym (G4.out.below hb); replace HB := yN hb; clear h0 h1 hb a30 a31 a40 a41)) | ((with_reducible refine gate_dst (N := 15) rfl ?_); go_loud (refine zb (N := 15) (cs := #[.slice none 0 0, .slice none 0 0]) (t := 25) ?_); go_loud (intro g15 hg15 w11 hbox hbA; have BG15 := ym hbox; have HA15 := ym hbA; have GA15 := ym (show w10.heap.size ≤ g15 by rw [hg15]; exact Nat.le_refl _); clear hg15 hbox hbA)) | ((with_reducible refine gate_store (t := 25) (p := 15) rfl ?_); go_loud (refine Arr.wpList_store_row rfl 25 _ _ rfl g15 #[.slice Arwa rw1.length crwa, .slice Arwb rw2.length crwb] rfl rfl 25 _ BG15.out (by kernel_rfl) rfl (by simp [Value.oneCell']) ?_); go_loud (obtain ⟨w12, hw8⟩ : ∃ wq_, wq_ = w11.setRow g15 #[.slice Arwa rw1.length crwa, .slice Arwb rw2.length crwb] := ⟨_, rfl⟩; rw [← hw8]; have hg8 : w11.grownBy w12 (some g15) := (by rw [hw8]; exact grown_setRow _ _ _); have hb8 : w12.heap[g15]? = some (.cells #[.slice Arwa rw1.length crwa, .slice Arwb rw2.length crwb] 25 (0, 0)) := (by rw [hw8]; exact setRow_heap _ _ _ _ _ _ BG15.out); have hbS : Below w10.heap.size w10 w12 := pw_below_grown HA15.out (some g15) HA15.out.size hg8 (fun k hk => by cases hk; exact GA15.out); have G15 := ym (show RG w12 g15 Arwa crwa rw1 Arwb crwb rw2 from ⟨hb8, Kd.C_below Qrwa.out.2.2 hbS, Qrwa.out.2.1, Kd.C_below Qrwb.out.2.2 hbS, Qrwb.out.2.1⟩); replace G3 := ym (G3.out.below hbS); replace G4 := ym (G4.out.below hbS); replace HB := yN hbS; clear hw8 hg8 hb8 hbS BG15 HA15 GA15 Qrwa Qrwb; have a30 := yW ⟨G3.out.box⟩ 0; have a31 := yW ⟨G3.out.box⟩ 1; have a40 := yW ⟨G4.out.box⟩ 0; have a41 := yW ⟨G4.out.box⟩ 1)) | (go_at_call 33; go_loud (refine (guide_And.calls k _ _ l0_0 _ _ l0_1 _ _ l1_0 _ _ l1_1 rx1 rx2 rx3 _ G3.out.r0 G3.out.h0 G3.out.r1 G3.out.h1 G4.out.r0 G4.out.h0 G4.out.r1 G4.out.h1 HX.out).mono ?_); go_loud (rintro e w20 ⟨v0, v1, rfl, h0, h1, hb⟩; obtain ⟨Arxa, crxa, q0⟩ := Kd.R_slice h0; subst q0; obtain ⟨Arxb, crxb, q1⟩ := Kd.R_slice h1; subst q1; have Qrxa := ym (Kd.R_reads' h0); have Qrxb := ym (Kd.R_reads' h1); replace G3 := ym (G3.out.below hb); replace G4 := ym (G4.out.below hb); replace G15 := ym (G15.out.below hb); replace HB := yN hb; clear h0 h1 hb a30 a31 a40 a41)) | ((with_reducible refine gate_dst (N := 17) rfl ?_); go_loud (refine zb (N := 17) (cs := #[.slice none 0 0, .slice none 0 0]) (t := 25) ?_); go_loud (intro g17 hg17 w21 hbox hbA; have BG17 := ym hbox; have HA17 := ym hbA; have GA17 := ym (show w20.heap.size ≤ g17 by rw [hg17]; exact Nat.le_refl _); clear hg17 hbox hbA)) | ((with_reducible refine gate_store (t := 25) (p := 17) rfl ?_); go_loud (refine Arr.wpList_store_row rfl 25 _ _ rfl g17 #[.slice Arxa rx1.length crxa, .slice Arxb rx2.length crxb] rfl rfl 25 _ BG17.out (by kernel_rfl) rfl (by simp [Value.oneCell']) ?_); go_loud (obtain ⟨w22, hw8⟩ : ∃ wq_, wq_ = w21.setRow g17 #[.slice Arxa rx1.length crxa, .slice Arxb rx2.length crxb] := ⟨_, rfl⟩; rw [← hw8]; have hg8 : w21.grownBy w22 (some g17) := (by rw [hw8]; exact grown_setRow _ _ _); have hb8 : w22.heap[g17]? = some (.cells #[.slice Arxa rx1.length crxa, .slice Arxb rx2.length crxb] 25 (0, 0)) := (by rw [hw8]; exact setRow_heap _ _ _ _ _ _ BG17.out); have hbS : Below w20.heap.size w20 w22 := pw_below_grown HA17.out (some g17) HA17.out.size hg8 (fun k hk => by cases hk; exact GA17.out); have G17 := ym (show RG w22 g17 Arxa crxa rx1 Arxb crxb rx2 from ⟨hb8, Kd.C_below Qrxa.out.2.2 hbS, Qrxa.out.2.1, Kd.C_below Qrxb.out.2.2 hbS, Qrxb.out.2.1⟩); replace G3 := ym (G3.out.below hbS); replace G4 := ym (G4.out.below hbS); replace G15 := ym (G15.out.below hbS); replace HB := yN hbS; clear hw8 hg8 hb8 hbS BG17 HA17 GA17 Qrxa Qrxb; have a30 := yW ⟨G3.out.box⟩ 0; have a31 := yW ⟨G3.out.box⟩ 1; have a40 := yW ⟨G4.out.box⟩ 0; have a41 := yW ⟨G4.out.box⟩ 1)) | (go_at_call 34; go_loud (refine (guide_Or.calls k _ _ l0_0 _ _ l0_1 _ _ l1_0 _ _ l1_1 ry1 ry2 ry3 _ G3.out.r0 G3.out.h0 G3.out.r1 G3.out.h1 G4.out.r0 G4.out.h0 G4.out.r1 G4.out.h1 HY.out).mono ?_); go_loud (rintro e w30 ⟨v0, v1, rfl, h0, h1, hb⟩; obtain ⟨Arya, crya, q0⟩ := Kd.R_slice h0; subst q0; obtain ⟨Aryb, cryb, q1⟩ := Kd.R_slice h1; subst q1; have Qrya := ym (Kd.R_reads' h0); have Qryb := ym (Kd.R_reads' h1); replace G3 := ym (G3.out.below hb); replace G4 := ym (G4.out.below hb); replace G15 := ym (G15.out.below hb); replace G17 := ym (G17.out.below hb); replace HB := yN hb; clear h0 h1 hb a30 a31 a40 a41)) | ((with_reducible refine gate_dst (N := 19) rfl ?_); go_loud (refine zb (N := 19) (cs := #[.slice none 0 0, .slice none 0 0]) (t := 25) ?_); go_loud (intro g19 hg19 w31 hbox hbA; have BG19 := ym hbox; have HA19 := ym hbA; have GA19 := ym (show w30.heap.size ≤ g19 by rw [hg19]; exact Nat.le_refl _); clear hg19 hbox hbA)) | ((with_reducible refine gate_store (t := 25) (p := 19) rfl ?_); go_loud (refine Arr.wpList_store_row rfl 25 _ _ rfl g19 #[.slice Arya ry1.length crya, .slice Aryb ry2.length cryb] rfl rfl 25 _ BG19.out (by kernel_rfl) rfl (by simp [Value.oneCell']) ?_); go_loud (obtain ⟨w32, hw8⟩ : ∃ wq_, wq_ = w31.setRow g19 #[.slice Arya ry1.length crya, .slice Aryb ry2.length cryb] := ⟨_, rfl⟩; rw [← hw8]; have hg8 : w31.grownBy w32 (some g19) := (by rw [hw8]; exact grown_setRow _ _ _); have hb8 : w32.heap[g19]? = some (.cells #[.slice Arya ry1.length crya, .slice Aryb ry2.length cryb] 25 (0, 0)) := (by rw [hw8]; exact setRow_heap _ _ _ _ _ _ BG19.out); have hbS : Below w30.heap.size w30 w32 := pw_below_grown HA19.out (some g19) HA19.out.size hg8 (fun k hk => by cases hk; exact GA19.out); have G19 := ym (show RG w32 g19 Arya crya ry1 Aryb cryb ry2 from ⟨hb8, Kd.C_below Qrya.out.2.2 hbS, Qrya.out.2.1, Kd.C_below Qryb.out.2.2 hbS, Qryb.out.2.1⟩); replace G3 := ym (G3.out.below hbS); replace G4 := ym (G4.out.below hbS); replace G15 := ym (G15.out.below hbS); replace G17 := ym (G17.out.below hbS); replace HB := yN hbS; clear hw8 hg8 hb8 hbS BG19 HA19 GA19 Qrya Qryb; have a30 := yW ⟨G3.out.box⟩ 0; have a31 := yW ⟨G3.out.box⟩ 1; have a40 := yW ⟨G4.out.box⟩ 0; have a41 := yW ⟨G4.out.box⟩ 1)) | (go_at_call 35; go_loud (refine (guide_Not.calls k _ _ l0_0 _ _ l0_1 rz1 rz2 rz3 _ G3.out.r0 G3.out.h0 G3.out.r1 G3.out.h1 HZ.out).mono ?_); go_loud (rintro e w40 ⟨v0, v1, rfl, h0, h1, hb⟩; obtain ⟨Arza, crza, q0⟩ := Kd.R_slice h0; subst q0; obtain ⟨Arzb, crzb, q1⟩ := Kd.R_slice h1; subst q1; have Qrza := ym (Kd.R_reads' h0); have Qrzb := ym (Kd.R_reads' h1); replace G3 := ym (G3.out.below hb); replace G4 := ym (G4.out.below hb); replace G15 := ym (G15.out.below hb); replace G17 := ym (G17.out.below hb); replace G19 := ym (G19.out.below hb); replace HB := yN hb; clear h0 h1 hb a30 a31 a40 a41)) | ((with_reducible refine gate_dst (N := 21) rfl ?_); go_loud (refine zb (N := 21) (cs := #[.slice none 0 0, .slice none 0 0]) (t := 25) ?_); go_loud (intro g21 hg21 w41 hbox hbA; have BG21 := ym hbox; have HA21 := ym hbA; have GA21 := ym (show w40.heap.size ≤ g21 by rw [hg21]; exact Nat.le_refl _); clear hg21 hbox hbA)) | ((with_reducible refine gate_store (t := 25) (p := 21) rfl ?_); go_loud (refine Arr.wpList_store_row rfl 25 _ _ rfl g21 #[.slice Arza rz1.length crza, .slice Arzb rz2.length crzb] rfl rfl 25 _ BG21.out (by kernel_rfl) rfl (by simp [Value.oneCell']) ?_); go_loud (obtain ⟨w42, hw8⟩ : ∃ wq_, wq_ = w41.setRow g21 #[.slice Arza rz1.length crza, .slice Arzb rz2.length crzb] := ⟨_, rfl⟩; rw [← hw8]; have hg8 : w41.grownBy w42 (some g21) := (by rw [hw8]; exact grown_setRow _ _ _); have hb8 : w42.heap[g21]? = some (.cells #[.slice Arza rz1.length crza, .slice Arzb rz2.length crzb] 25 (0, 0)) := (by rw [hw8]; exact setRow_heap _ _ _ _ _ _ BG21.out); have hbS : Below w40.heap.size w40 w42 := pw_below_grown HA21.out (some g21) HA21.out.size hg8 (fun k hk => by cases hk; exact GA21.out); have G21 := ym (show RG w42 g21 Arza crza rz1 Arzb crzb rz2 from ⟨hb8, Kd.C_below Qrza.out.2.2 hbS, Qrza.out.2.1, Kd.C_below Qrzb.out.2.2 hbS, Qrzb.out.2.1⟩); replace G3 := ym (G3.out.below hbS); replace G4 := ym (G4.out.below hbS); replace G15 := ym (G15.out.below hbS); replace G17 := ym (G17.out.below hbS); replace G19 := ym (G19.out.below hbS); replace HB := yN hbS; clear hw8 hg8 hb8 hbS BG21 HA21 GA21 Qrza Qrzb; have a30 := yW ⟨G3.out.box⟩ 0; have a31 := yW ⟨G3.out.box⟩ 1; have a40 := yW ⟨G4.out.box⟩ 0; have a41 := yW ⟨G4.out.box⟩ 1)) | (go_at_call 41; go_loud (refine (guide_Shortest.calls k _ _ l0_0 _ _ l0_1 s1 0 _ G3.out.r0 G3.out.h0 G3.out.r1 G3.out.h1 HS.out).mono ?_); go_loud (rintro e w50 ⟨rfl, hb⟩; replace G3 := ym (G3.out.below hb); replace G4 := ym (G4.out.below hb); replace G15 := ym (G15.out.below hb); replace G17 := ym (G17.out.below hb); replace G19 := ym (G19.out.below hb); replace G21 := ym (G21.out.below hb); replace HB := yN hb; clear hb a30 a31 a40 a41)))
  (try simp only [Act.put, List.setIfInBounds_toArray, List.set_cons_zero, List.set_cons_succ])
  go_cut [134] (fun v134 wc => v134 = .bool false ∧ Aside0 (RG wc g3 A0_0 c0_0 l0_0 A0_1 c0_1 l0_1) ∧ Aside0 (Below w.heap.size w wc))
  case first =>
    clear G4 HM HE HN HD HW HX HY HZ HS HSA HP HQ bxE bzE HJ HL
    have b15 := biE.out
    have b17 := bjE.out
    have b19 := bkE.out
    have b21 := blE.out
    have z15_0 := yW ⟨G15.out.box⟩ 0
    have z15_1 := yW ⟨G15.out.box⟩ 1
    have z17_0 := yW ⟨G17.out.box⟩ 0
    have z17_1 := yW ⟨G17.out.box⟩ 1
    have z19_0 := yW ⟨G19.out.box⟩ 0
    have z19_1 := yW ⟨G19.out.box⟩ 1
    have z21_0 := yW ⟨G21.out.box⟩ 0
    have z21_1 := yW ⟨G21.out.box⟩ 1
    clear biE bjE bkE blE
    cases bi <;> cases bj
    all_goals as_aux_lemma =>
      cases bk <;> cases bl <;> cases p
      all_goals (go_wp2_with (first | (go_at_call_of 17 (Value.slice Arwa rw1.length crwa); go_loud (refine (guide_Accepts.calls k _ _ rw1 _ _ rw2 a2 _ _ G15.out.r0 G15.out.h0 G15.out.r1 G15.out.h1 (HG1.out (by first | rfl | trivial))).mono ?_); go_loud (rintro e w61 ⟨rfl, hb⟩; replace G3 := ym (G3.out.below hb); replace G15 := ym (G15.out.below hb); replace G17 := ym (G17.out.below hb); replace G19 := ym (G19.out.below hb); replace G21 := ym (G21.out.below hb); replace HB := yN hb; clear hb z15_0 z15_1 z17_0 z17_1 z19_0 z19_1 z21_0 z21_1; have z15_0 := yW ⟨G15.out.box⟩ 0; have z15_1 := yW ⟨G15.out.box⟩ 1; have z17_0 := yW ⟨G17.out.box⟩ 0; have z17_1 := yW ⟨G17.out.box⟩ 1; have z19_0 := yW ⟨G19.out.box⟩ 0; have z19_1 := yW ⟨G19.out.box⟩ 1; have z21_0 := yW ⟨G21.out.box⟩ 0; have z21_1 := yW ⟨G21.out.box⟩ 1)) | (go_at_call_of 17 (Value.slice Arxa rx1.length crxa); go_loud (refine (guide_Accepts.calls k _ _ rx1 _ _ rx2 a2 _ _ G17.out.r0 G17.out.h0 G17.out.r1 G17.out.h1 (HG2.out (by first | rfl | trivial))).mono ?_); go_loud (rintro e w62 ⟨rfl, hb⟩; replace G3 := ym (G3.out.below hb); replace G15 := ym (G15.out.below hb); replace G17 := ym (G17.out.below hb); replace G19 := ym (G19.out.below hb); replace G21 := ym (G21.out.below hb); replace HB := yN hb; clear hb z15_0 z15_1 z17_0 z17_1 z19_0 z19_1 z21_0 z21_1; have z15_0 := yW ⟨G15.out.box⟩ 0; have z15_1 := yW ⟨G15.out.box⟩ 1; have z17_0 := yW ⟨G17.out.box⟩ 0; have z17_1 := yW ⟨G17.out.box⟩ 1; have z19_0 := yW ⟨G19.out.box⟩ 0; have z19_1 := yW ⟨G19.out.box⟩ 1; have z21_0 := yW ⟨G21.out.box⟩ 0; have z21_1 := yW ⟨G21.out.box⟩ 1)) | (go_at_call_of 17 (Value.slice Arya ry1.length crya); go_loud (refine (guide_Accepts.calls k _ _ ry1 _ _ ry2 a2 _ _ G19.out.r0 G19.out.h0 G19.out.r1 G19.out.h1 (HG3.out (by first | rfl | trivial))).mono ?_); go_loud (rintro e w63 ⟨rfl, hb⟩; replace G3 := ym (G3.out.below hb); replace G15 := ym (G15.out.below hb); replace G17 := ym (G17.out.below hb); replace G19 := ym (G19.out.below hb); replace G21 := ym (G21.out.below hb); replace HB := yN hb; clear hb z15_0 z15_1 z17_0 z17_1 z19_0 z19_1 z21_0 z21_1; have z15_0 := yW ⟨G15.out.box⟩ 0; have z15_1 := yW ⟨G15.out.box⟩ 1; have z17_0 := yW ⟨G17.out.box⟩ 0; have z17_1 := yW ⟨G17.out.box⟩ 1; have z19_0 := yW ⟨G19.out.box⟩ 0; have z19_1 := yW ⟨G19.out.box⟩ 1; have z21_0 := yW ⟨G21.out.box⟩ 0; have z21_1 := yW ⟨G21.out.box⟩ 1)) | (go_at_call_of 17 (Value.slice Arza rz1.length crza); go_loud (refine (guide_Accepts.calls k _ _ rz1 _ _ rz2 a2 _ _ G21.out.r0 G21.out.h0 G21.out.r1 G21.out.h1 (HG4.out (by first | rfl | trivial))).mono ?_); go_loud (rintro e w64 ⟨rfl, hb⟩; replace G3 := ym (G3.out.below hb); replace G15 := ym (G15.out.below hb); replace G17 := ym (G17.out.below hb); replace G19 := ym (G19.out.below hb); replace G21 := ym (G21.out.below hb); replace HB := yN hb; clear hb z15_0 z15_1 z17_0 z17_1 z19_0 z19_1 z21_0 z21_1; have z15_0 := yW ⟨G15.out.box⟩ 0; have z15_1 := yW ⟨G15.out.box⟩ 1; have z17_0 := yW ⟨G17.out.box⟩ 0; have z17_1 := yW ⟨G17.out.box⟩ 1; have z19_0 := yW ⟨G19.out.box⟩ 0; have z19_1 := yW ⟨G19.out.box⟩ 1; have z21_0 := yW ⟨G21.out.box⟩ 0; have z21_1 := yW ⟨G21.out.box⟩ 1))))
      all_goals go_meet
      all_goals (case rel => exact ⟨rfl, G3, HB⟩)
  case rest =>
    obtain ⟨rfl, G3, HB⟩ := hcut
    have b16 := bxE.out
    have b18 := bzE.out
    have a30 := yW ⟨G3.out.box⟩ 0
    have a31 := yW ⟨G3.out.box⟩ 1
    clear bxE bzE biE bjE bkE blE HG1 HG2 HG3 HG4 HM HE HN HD HW HX HY HZ HS HP HQ
    cases bx <;> cases bz <;> cases p <;> cases q
    all_goals first
      | exact absurd (HL.out (by first | rfl | trivial)) (by decide)
      | exact absurd (HJ.out (by first | rfl | trivial)) (by decide) | (go_wp2_with (first | (go_at_call 14; go_loud (refine (heraldlaw15_awake.calls k true _ HAW.out).mono ?_); go_loud (rintro e wz ⟨rfl, hb⟩; replace G3 := ym (G3.out.below hb); replace HB := yN hb; clear hb a30 a31; have a30 := yW ⟨G3.out.box⟩ 0; have a31 := yW ⟨G3.out.box⟩ 1)) | (go_at_call 17; go_loud (refine (guide_Accepts.calls k _ _ l0_0 _ _ l0_1 s1 true _ G3.out.r0 G3.out.h0 G3.out.r1 G3.out.h1 HSA.out).mono ?_); go_loud (rintro e wy ⟨rfl, hb⟩; replace HB := yN hb; clear hb a30 a31))); go_ret; exact ⟨rfl, HB.out⟩)
theorem heraldlaw15_GuideSays.calls (k : Nat) (A0_0 : Option Addr) (c0_0 : Nat) (l0_0 : List Bool) (A0_1 : Option Addr) (c0_1 : Nat) (l0_1 : List (S92)) (A1_0 : Option Addr) (c1_0 : Nat) (l1_0 : List Bool) (A1_1 : Option Addr) (c1_1 : Nat) (l1_1 : List (S92)) (a2 : ByteArray) (r : Bool) (w : World) (hr0_0 : Kd.C Kd.bool w A0_0 l0_0.length l0_0) (hc0_0 : l0_0.length ≤ c0_0) (hr0_1 : Kd.C k92 w A0_1 l0_1.length l0_1) (hc0_1 : l0_1.length ≤ c0_1) (hr1_0 : Kd.C Kd.bool w A1_0 l1_0.length l1_0) (hc1_0 : l1_0.length ≤ c1_0) (hr1_1 : Kd.C k92 w A1_1 l1_1.length l1_1) (hc1_1 : l1_1.length ≤ c1_1) (h : heraldlaw15_GuideSays.f k l0_0 l0_1 l1_0 l1_1 a2 = some r) :
    Calls Try.prog 11 #[.agg #[.slice A0_0 l0_0.length c0_0, .slice A0_1 l0_1.length c0_1], .agg #[.slice A1_0 l1_0.length c1_0, .slice A1_1 l1_1.length c1_1], .string a2] w fun e w' => e = .returned (.bool r) ∧ Below w.heap.size w w' := by
  unfold heraldlaw15_GuideSays.f at h
  obtain ⟨aw, haw, h⟩ := Option.bind_eq_some_iff.1 h
  obtain ⟨⟨m1, m2⟩, hm, h⟩ := Option.bind_eq_some_iff.1 h
  obtain ⟨⟨e1, e2⟩, he, h⟩ := Option.bind_eq_some_iff.1 h
  obtain ⟨⟨n1, n2⟩, hn, h⟩ := Option.bind_eq_some_iff.1 h
  obtain ⟨⟨d1, d2⟩, hd, h⟩ := Option.bind_eq_some_iff.1 h
  by_cases hz : e2 = 0 ∧ d2 = 0
  · rw [if_pos hz] at h
    have h9 := h
    obtain ⟨rfl, rfl⟩ := hz
    obtain ⟨p, hp, h⟩ := Option.bind_eq_some_iff.1 h9
    obtain ⟨q, hq, h⟩ := Option.bind_eq_some_iff.1 h
    obtain ⟨⟨rw1, rw2, rw3⟩, hw, h⟩ := Option.bind_eq_some_iff.1 h
    obtain ⟨⟨rx1, rx2, rx3⟩, hx, h⟩ := Option.bind_eq_some_iff.1 h
    obtain ⟨⟨ry1, ry2, ry3⟩, hy, h⟩ := Option.bind_eq_some_iff.1 h
    obtain ⟨⟨rz1, rz2, rz3⟩, hz, h⟩ := Option.bind_eq_some_iff.1 h
    obtain ⟨⟨s1, s2⟩, hs, h⟩ := Option.bind_eq_some_iff.1 h
    obtain ⟨g1, hg1, h⟩ := Option.bind_eq_some_iff.1 h
    obtain ⟨g2, hg2, h⟩ := Option.bind_eq_some_iff.1 h
    obtain ⟨g3, hg3, h⟩ := Option.bind_eq_some_iff.1 h
    obtain ⟨g4, hg4, h⟩ := Option.bind_eq_some_iff.1 h
    obtain ⟨sa, hsa, h⟩ := Option.bind_eq_some_iff.1 h
    split at h
    · rename_i hc
      obtain ⟨k1, k2, k3, k4, k5, k6, k7, k8, k9⟩ := hc
      have er := Option.some.inj h
      subst er
      have k1' : aw = true := k1
      have k6' : s2 = 0 := k6
      have k7' : sa = true := k7
      subst k1' k6' k7'
      have acc : ∀ {e : Int} {A : List Bool} {E : List (S92)} {g v : Bool}, accG k e A E a2 = some g → (e = 0 → g = v) → (e == 0) = true → guide_Accepts.f k A E a2 = some v := fun hg hv he => by
        have he' := beq_iff_eq.1 he
        unfold accG at hg
        rw [if_pos he'] at hg
        rw [hg, hv he']
      have ne : ∀ {e : Int} {P : Prop}, (e = 152 → P) → (e != 152) = false → P := fun hP he => hP (by simpa using he)
      exact heraldlaw15_GuideSays.good k A0_0 c0_0 l0_0 A0_1 c0_1 l0_1 A1_0 c1_0 l1_0 A1_1 c1_1 l1_1 a2 true w hr0_0 hc0_0 hr0_1 hc0_1 hr1_0 hc1_0 hr1_1 hc1_1 m1 m2 e1 n1 n2 d1 haw hm he hn hd p q hp hq rw1 rw2 rw3 rx1 rx2 rx3 ry1 ry2 ry3 rz1 rz2 rz3 hw hx hy hz s1 hs hsa (acc hg1 k2) (acc hg2 k3) (acc hg3 k4) (acc hg4 k5) (ne k8) (ne k9)
    · cases h
  · rw [if_neg hz] at h
    obtain ⟨⟨x1, x2, x3⟩, hx, h⟩ := Option.bind_eq_some_iff.1 h
    split at h
    · rename_i hc
      have er := Option.some.inj h
      subst er
      have k1' : aw = true := hc.1
      subst k1'
      exact heraldlaw15_GuideSays.bad k A0_0 c0_0 l0_0 A0_1 c0_1 l0_1 A1_0 c1_0 l1_0 A1_1 c1_1 l1_1 a2 true w hr0_0 hc0_0 hr0_1 hc0_1 hr1_0 hc1_0 hr1_1 hc1_1 m1 m2 e1 e2 n1 n2 d1 d2 haw hm he hn hd hz x1 x2 x3 hx hc.2
    · cases h

end Go.Proofs.Ytfjpnmhbbfiaaaa.P
