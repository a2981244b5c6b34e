-- Printed by xprint.py (wip): functions, contracts, rows. Lean checks it.
import Derived.Test.YtfjpnmhbbfiaaaaZGSMlst
import Derived.Test.YtfjpnmhbbfiaaaaZGSPx0
import Derived.Test.YtfjpnmhbbfiaaaaZGSPx4
namespace Go.Proofs.Ytfjpnmhbbfiaaaa.P
open Go Go.RowKit Go.Proofs.YtfjpnmhbbfiaaaaW.PrintWords Go.Proofs.YtfjpnmhbbfiaaaaW.PrintLast Go.Proofs.YtfjpnmhbbfiaaaaW.PrintMore Go.Proofs.Ytfjpnmhbbfiaaaa
attribute [local go_sem] max2_int min2_int max_two min_two max_three min_three max_four min_four   -- for this text's walks alone
set_option linter.unusedVariables false
set_option linter.unusedSimpArgs false

/-! ### guide_Least: function 32 -/
/-- What a guide's machine is, of a guide that is right. -/
noncomputable def mofG (A : List Bool) (E : List S92) : Option (List (List Int) × List Bool) := open Classical in if A.length ≤ 64 ∧ E.length ≤ 1024 ∧ ∀ e ∈ E, Mach.EdOk A.length e then some (Mach.mrows A E) else none
noncomputable def guide_Least.f (k : Nat) (l0_0 : List Bool) (l0_1 : List (S92)) : Option (List Bool × (List (S92)) × Int) := (guide_Check.f k l0_0 l0_1).bind fun c => if c.2 = 0 then (mofG l0_0 l0_1).bind fun m => Mach.leastG k m.1 m.2 else some ([], [], c.2)
theorem guide_Least.mono : ∀ a0 a1 k, LeO (guide_Least.f k a0 a1) (guide_Least.f (k + 1) a0 a1) := fun a0 a1 k => by
  unfold guide_Least.f
  exact LeO.bind (guide_Check.mono a0 a1 k) (fun c => LeO.ite (LeO.bind (LeO.refl _) (fun m r h => Mach.leastG_mono h)) (LeO.refl _))
theorem one2 {α β : Type} {d : Kd α} {d' : Kd β} {e e' b b' : Nat} {ok ok' : Nat → Prop} {W W' : World} {v v' : Value} {xs : List α} {ys : List β} (h : d.R e W b ok v xs) (h' : d'.R e' W' b' ok' v' ys) : (#[v, v'] : Array Value).all (·.oneCell') = true := by
  obtain ⟨_, _, rfl⟩ := Kd.R_slice h
  obtain ⟨_, _, rfl⟩ := Kd.R_slice h'
  simp [Value.oneCell']
set_option maxHeartbeats 8000000 in
set_option maxRecDepth 100000 in
theorem guide_Least.calls (k : Nat) (A0_0 : Option Addr) (c0_0 : Nat) (l0_0 : List Bool) (A0_1 : Option Addr) (c0_1 : Nat) (l0_1 : List (S92)) (r1 : List Bool) (r2 : List (S92)) (r3 : Int) (w : World) (hr0_0 : Kd.C Kd.bool w A0_0 l0_0.length l0_0) (hc0_0 : l0_0.length ≤ c0_0) (hr0_1 : Kd.C k92 w A0_1 l0_1.length l0_1) (hc0_1 : l0_1.length ≤ c0_1) (h : guide_Least.f k l0_0 l0_1 = some (r1, r2, r3)) :
    Calls Try.prog 32 #[.agg #[.slice A0_0 l0_0.length c0_0, .slice A0_1 l0_1.length c0_1]] w fun e w' => ∃ v0_ v1_ : Value, e = .returned (.tuple #[.agg #[v0_, v1_], .int .i64 r3]) ∧ Kd.R Kd.bool 4 w' w.heap.size (fun _ => True) v0_ r1 ∧ Kd.R k92 92 w' w.heap.size (fun _ => True) v1_ r2 ∧ Below w.heap.size w w' := by
  have hu25 := Try.underlying25
  have HR0 := ym hr0_0
  have HC0 := ym hc0_0
  have HR1 := ym hr0_1
  have HC1 := ym hc0_1
  have HB := ym (Below.refl w.heap.size w)
  unfold guide_Least.f at h
  obtain ⟨⟨c1, c2⟩, hc, hF⟩ := Option.bind_eq_some_iff.1 h
  have HC := ym hc
  clear h hr0_0 hc0_0 hr0_1 hc0_1 hc
  by_cases e0 : c2 = 0
  · rw [if_pos e0] at hF
    subst e0
    obtain ⟨m, hm, hL⟩ := Option.bind_eq_some_iff.1 hF
    unfold mofG at hm
    split at hm
    · rename_i hok
      have hm2 := Option.some.inj hm
      subst hm2
      have HOK := ym hok
      have HL := ym hL
      clear hm hL hF hok
      go_enter Try.func32, Try.ntmps32
      go_wp2_with (first | ((with_reducible refine gate_dst (N := 1) rfl ?_); go_loud (refine zb (N := 1) (cs := #[.slice A0_0 l0_0.length c0_0, .slice A0_1 l0_1.length c0_1]) (t := 25) ?_); go_loud (intro g1 hg1 w1 hbox hb1; have BG1 := ym hbox; replace HB := yN hb1; clear hg1 hbox hb1)) | ((with_reducible refine gate_dst (N := 2) rfl ?_); go_loud (refine zb (N := 2) (cs := #[.slice none 0 0, .slice none 0 0]) (t := 25) ?_); go_loud (intro g2 hg2 w2 hbox hb2; have BG2 := ym hbox; have GE2 := yE hg2; replace BG1 := yQ BG1 hb2; replace HB := yN hb2; clear hg2 hbox hb2; have c10 := yW BG1 0; have c11 := yW BG1 1)) | (go_at_call 19; go_loud (refine (guide_Check.calls k _ _ l0_0 _ _ l0_1 c1 0 _ (Kd.C_below HR0.out HB.out) HC0.out (Kd.C_below HR1.out HB.out) HC1.out HC.out).mono ?_); rintro e w3 ⟨rfl, hb3⟩; replace BG1 := yQ BG1 hb3; replace BG2 := yQ BG2 hb3; replace HB := yN hb3; clear hb3 c10 c11; have c10 := yW BG1 0; have c11 := yW BG1 1) | (go_at_call 56; go_loud (refine (machineOf_calls _ _ _ l0_0 _ _ l0_1 (Kd.C_below HR0.out HB.out) HC0.out (Kd.C_below HR1.out HB.out) HC1.out HOK.out.1 HOK.out.2.1 HOK.out.2.2).mono ?_); rintro e w4 ⟨gm, rfl, hM, hb4⟩; have HM := ym hM; replace BG2 := yQ BG2 hb4; replace HB := yN hb4; clear hM hb4 c10 c11 BG1) | (go_at_call 57; go_loud (refine (least_calls k _ HM.out (r1, r2, r3) HL.out).mono ?_); rintro e w5 ⟨v0, v1, rfl, h0, h1, hb5⟩; have H0 := ym h0; have H1 := ym h1; replace BG2 := yQ BG2 hb5; have HBo := HB; replace HB := yN hb5; clear h0 h1 hb5) | ((with_reducible refine gate_store (t := 25) (p := 2) rfl ?_); go_loud (refine Arr.wpList_store_row rfl 25 _ _ rfl g2 #[v0, v1] rfl rfl 25 _ BG2.out (by kernel_rfl) rfl (one2 H0.out H1.out) ?_); go_loud (obtain ⟨w8, hw8⟩ : ∃ w8, w8 = w5.setRow g2 #[v0, v1] := ⟨_, rfl⟩; rw [← hw8]; have hg8 : w5.grownBy w8 (some g2) := (by rw [hw8]; exact grown_setRow _ _ _); have BG8 := ym (by rw [hw8]; exact setRow_heap _ _ _ _ _ _ BG2.out : w8.heap[g2]? = some (.cells #[v0, v1] 25 (0, 0))); have hT := rowt_blk BG2.out; replace H0 := ym (R_row H0.out hg8 hT (by decide)); replace H1 := ym (R_row H1.out hg8 hT (by decide)); have HB8 := ym (pw_below_grown HB.out (some g2) (below_size HB.out) hg8 (fun k hk => by cases hk; exact GE2.out)); clear hw8 hg8 hT BG2)))
      refine bodyPost_ret (results_ct rfl _ _ g2 25 #[v0, v1] (0, 0) _ rfl BG8.out Try.underlying25 rfl (by kernel_rfl)) rfl ?_
      exact ⟨v0, v1, rfl, Kd.R_lower H0.out (below_size HBo.out), Kd.R_lower H1.out (below_size HBo.out), HB8.out⟩
    · cases hm
  · rw [if_neg e0] at hF
    have e1 := Option.some.inj hF
    cases e1
    have b0 : (c2 != 0) = true := bne_iff_ne.mpr e0
    clear hF e0
    go_enter Try.func32, Try.ntmps32
    go_wp2_with (first | ((with_reducible refine gate_dst (N := 1) rfl ?_); go_loud (refine zb (N := 1) (cs := #[.slice A0_0 l0_0.length c0_0, .slice A0_1 l0_1.length c0_1]) (t := 25) ?_); go_loud (intro g1 hg1 w1 hbox hb1; have BG1 := ym hbox; replace HB := yN hb1; clear hg1 hbox hb1)) | ((with_reducible refine gate_dst (N := 2) rfl ?_); go_loud (refine zb (N := 2) (cs := #[.slice none 0 0, .slice none 0 0]) (t := 25) ?_); go_loud (intro g2 hg2 w2 hbox hb2; have BG2 := ym hbox; have GE2 := yE hg2; replace BG1 := yQ BG1 hb2; replace HB := yN hb2; clear hg2 hbox hb2; have c10 := yW BG1 0; have c11 := yW BG1 1)) | (go_at_call 19; go_loud (refine (guide_Check.calls k _ _ l0_0 _ _ l0_1 c1 c2 _ (Kd.C_below HR0.out HB.out) HC0.out (Kd.C_below HR1.out HB.out) HC1.out HC.out).mono ?_); rintro e w3 ⟨rfl, hb3⟩; replace BG2 := yQ BG2 hb3; replace HB := yN hb3; clear hb3 c10 c11) | ((with_reducible refine gate_store (t := 25) (p := 2) rfl ?_); go_loud (refine Arr.wpList_store_row rfl 25 _ _ rfl g2 #[.slice none 0 0, .slice none 0 0] rfl rfl 25 _ BG2.out (by kernel_rfl) rfl (by simp [Value.oneCell']) ?_); go_loud (obtain ⟨w8, hw8⟩ : ∃ w8, w8 = w3.setRow g2 #[.slice none 0 0, .slice none 0 0] := ⟨_, rfl⟩; rw [← hw8]; have hg8 : w3.grownBy w8 (some g2) := (by rw [hw8]; exact grown_setRow _ _ _); have BG8 := ym (by rw [hw8]; exact setRow_heap _ _ _ _ _ _ BG2.out : w8.heap[g2]? = some (.cells #[.slice none 0 0, .slice none 0 0] 25 (0, 0))); have HB8 := ym (pw_below_grown HB.out (some g2) (below_size HB.out) hg8 (fun k hk => by cases hk; exact GE2.out)); clear hw8 hg8 BG2)))
    refine bodyPost_ret (results_ct rfl _ _ g2 25 #[.slice none 0 0, .slice none 0 0] (0, 0) _ rfl BG8.out Try.underlying25 rfl (by kernel_rfl)) rfl ?_
    exact ⟨_, _, rfl, Kd.R_nil _ _ _ _ _, Kd.R_nil _ _ _ _ _, HB8.out⟩

end Go.Proofs.Ytfjpnmhbbfiaaaa.P
