/- The least guide of a machine: the walk through 'least'. On condition that the rows are in place and lead to states. -/
import Derived.Test.YtfjpnmhbbfiaaaaZGSMlst0
namespace Go.Proofs.Ytfjpnmhbbfiaaaa.P
open Go Go.RowKit Go.Proofs.YtfjpnmhbbfiaaaaW.PrintWords Go.Proofs.YtfjpnmhbbfiaaaaW.PrintLast Go.Proofs.YtfjpnmhbbfiaaaaW.PrintMore Go.Proofs.Ytfjpnmhbbfiaaaa
set_option linter.unusedVariables false
set_option linter.unusedSimpArgs false
def least.T11 : Bool × List (List Nat × List Nat) := (true, [([], []), ([0], [0]), ([], []), ([2], [2]), ([3], [3]), ([4], [4]), ([], []), ([5, 6], [5, 6]), ([7], [7]), ([8], [8]), ([1, 9], [1, 9]), ([0, 1, 2, 3, 4, 5, 6, 7, 8, 9, 10], []), ([11, 10, 10, 0, 1, 2, 3, 4, 5, 6, 7, 8, 9, 10], [10, 11])])
def least.B11 : List Nat := [0, 1, 0, 4, 12, 28, 0, 124, 252, 508, 1023, 2047, 4095]
theorem least.tab11 : rtab .any (opsOf Try.f57 11) = least.T11 := by kernel_rfl
theorem least.bits11 : waitsOk least.T11.2 least.B11 = true := by kernel_rfl
set_option maxHeartbeats 8000000 in
set_option maxRecDepth 100000 in
theorem least_calls (k : Nat) (w : World) {g : Nat} {R : List (List Int)} {A : List Bool} (hM : Mac w g R A) (r : List Bool × List S92 × Int) (h : Mach.leastG k R A = some r) :
    Calls Try.prog 57 #[.pointer (some ⟨g, 0, none⟩)] w fun e w' => ∃ v0_ v1_ : Value, e = .returned (.tuple #[.agg #[v0_, v1_], .int .i64 r.2.2]) ∧ Kd.R Kd.bool 4 w' w.heap.size (fun _ => True) v0_ r.1 ∧ Kd.R k92 92 w' w.heap.size (fun _ => True) v1_ r.2.1 ∧ Below w.heap.size w w' := by
  have hu25 := Try.underlying25
  have hu92 := Try.underlying92
  have hu118 := Try.underlying118
  have hu129 := Try.underlying129
  unfold Mach.leastG at h
  by_cases hMa : Mach.Mach R A
  · rw [if_pos hMa] at h
    obtain ⟨c, hc, hF⟩ := Option.bind_eq_some_iff.1 h
    clear h
    have hp := hMa.pos
    have hn := hMa.most
    have HMA := ym hMa
    have HC0 := ym hc
    have HF := ym hF
    have HM := ym hM
    have HB := ym (Below.refl w.heap.size w)
    clear hM hc hF
    obtain ⟨t0, ht0⟩ : ∃ t0, t0 = Mach.at_ c 0 := ⟨_, rfl⟩
    rw [← ht0] at HF
    have HT0 := ym ht0
    clear ht0
    by_cases e0 : t0 = -1
    · have b0 : (t0 == -1) = true := beq_iff_eq.mpr e0
      have HE0 := ym e0
      clear e0
      go_enter Try.func57, Try.ntmps57
      go_wp2_with (first
        | ((with_reducible refine gate_dst (N := 2) rfl ?_); go_loud (refine zb (N := 2) (cs := #[.slice none 0 0, .slice none 0 0]) (t := 25) ?_); go_loud (intro g2 hg2 w0 hbox hb0; have BG2 := ym hbox; have GE2 := yE hg2; replace HM := ym (HM.out.below hb0); replace HB := yN hb0; clear hg2 hbox hb0))
        | (go_at_call 76; go_loud (refine (classes_calls k w0 HM.out HMA.out.len HMA.out.rows hp hn c HC0.out).mono ?_); rintro e w1 ⟨v4, rfl, ho1, hcl, hcb, hb1⟩; have HCL := ym hcl; obtain ⟨g4, c4, rfl, hg4, hg4b, _⟩ := Kd.R_form ho1 (by rw [hcl]; exact hp); rw [hcl]; rw [hcl] at ho1; have HCR := (Kd.R_reads' ho1).2.2; rw [hcl] at HCR; replace BG2 := yQ BG2 hb1; replace HM := ym (HM.out.below hb1); replace HB := yN hb1; obtain ⟨An, cn, Aa, ca, hbk, _⟩ := HM.out; have BK := ym hbk; have k0 := yW BK 0; have f0 := yv BK.out 0; have kc : w1.cell? ⟨g4, 0, none⟩ = some (.int .i64 t0) := (int_cell HCR hcl (s := 0) (by omega) (by omega)).trans (by rw [HT0.out]); clear ho1 hcl hcb hb1 hg4 hg4b hbk HCR)
        | ((with_reducible refine gate_store (t := 25) (p := 2) rfl ?_); go_loud (refine Arr.wpList_store_row rfl 25 _ _ rfl g2 #[.slice none 0 0, .slice none 0 0] rfl rfl 25 _ BG2.out (by kernel_rfl) rfl (by simp [Value.oneCell']) ?_); go_loud (obtain ⟨w8, hw8⟩ : ∃ w8, w8 = w1.setRow g2 #[.slice none 0 0, .slice none 0 0] := ⟨_, rfl⟩; rw [← hw8]; have hg8 : w1.grownBy w8 (some g2) := (by rw [hw8]; exact grown_setRow _ _ _); have BG8 := ym (by rw [hw8]; exact setRow_heap _ _ _ _ _ _ BG2.out : w8.heap[g2]? = some (.cells #[.slice none 0 0, .slice none 0 0] 25 (0, 0))); replace HB := ym (pw_below_grown HB.out (some g2) (below_size HB.out) hg8 (fun k hk => by cases hk; exact GE2.out)); clear hw8 hg8 BG2; have d0 := yW BG8 0; have d1 := yW BG8 1)))
      refine bodyPost_ret (results_ct rfl _ _ g2 25 #[.slice none 0 0, .slice none 0 0] (0, 0) _ rfl BG8.out Try.underlying25 rfl (by kernel_rfl)) rfl ?_
      have hr := HF.out
      rw [if_pos HE0.out] at hr
      cases hr
      exact ⟨_, _, rfl, Kd.R_nil _ _ _ _ _, Kd.R_nil _ _ _ _ _, HB.out⟩
    · have b0 : (t0 == -1) = false := beq_eq_false_iff_ne.mpr e0
      have hF2 := HF.out
      rw [if_neg e0] at hF2
      obtain ⟨q, hq, hr⟩ := Option.bind_eq_some_iff.1 hF2
      have HQ := ym hq
      have HR := ym hr
      clear hF2 hq hr HF e0
      go_enter Try.func57, Try.ntmps57
      go_wp2_with (first
        | ((with_reducible refine gate_dst (N := 2) rfl ?_); go_loud (refine zb (N := 2) (cs := #[.slice none 0 0, .slice none 0 0]) (t := 25) ?_); go_loud (intro g2 hg2 w0 hbox hb0; have BG2 := ym hbox; have GE2 := yE hg2; replace HM := ym (HM.out.below hb0); replace HB := yN hb0; clear hg2 hbox hb0))
        | (go_at_call 76; go_loud (refine (classes_calls k w0 HM.out HMA.out.len HMA.out.rows hp hn c HC0.out).mono ?_); rintro e w1 ⟨v4, rfl, ho1, hcl, hcb, hb1⟩; have HCL := ym hcl; have HCB := ym hcb; obtain ⟨g4, c4, rfl, hg4, hg4b, _⟩ := Kd.R_form ho1 (by rw [hcl]; exact hp); rw [hcl]; rw [hcl] at ho1; have hcr := (Kd.R_reads' ho1).2.2; rw [hcl] at hcr; have HCR := ym hcr; replace BG2 := yQ BG2 hb1; replace HM := ym (HM.out.below hb1); replace HB := yN hb1; obtain ⟨An, cn, Aa, ca, hbk, hkr, hkn, hka, hkan⟩ := HM.out; have BK := ym hbk; have HKR := ym hkr; have HKA := ym hka; have HBW := HB; clear HB; have HB := ym (Below.refl w1.heap.size w1); have k0 := yW BK 0; have f0 := yv BK.out 0; have kc : w1.cell? ⟨g4, 0, none⟩ = some (.int .i64 t0) := (int_cell hcr hcl (s := 0) (by omega) (by omega)).trans (by rw [HT0.out]); have HT1 := ym (hcb t0 (by rw [HT0.out]; exact Mach.at_mem (by omega) (by omega))); clear ho1 hcl hcb hb1 hg4 hg4b hbk hcr hkr hka hkn hkan)
        | ((with_reducible refine gate_dst (N := 26) rfl ?_); go_loud (refine Kept.map_event 143 3 3 ?hg ?ho ?_); (case hg => rfl); (case ho => rfl); go_loud (intro gm hgm w2 hS hb2; have SM := ym hS; have GEM := yE hgm; replace HB := ym hb2; clear hgm hS hb2 k0 f0 kc; have BKr := ym (blk_below BK.out HB.out); have k0 := yW BKr 0; have f0 := yv BKr.out 0; have kc : w2.cell? ⟨g4, 0, none⟩ = some (.int .i64 t0) := (int_cell (Kd.C_below HCR.out HB.out) HCL.out (s := 0) (by omega) (by omega)).trans (by rw [HT0.out])))
        | ((with_reducible refine gate_ (Op.insert 143 (.tmp 26) (.tmp 33) (.const (.int .i64 0))) rfl ?_); go_loud (refine Kept.ins SM.out keyed3 _ _ _ 143 rfl rfl Try.underlying143 Try.underlying3 (by decide) rfl (.int .i64 t0) rfl _ (key3 HT1.out.1 (by have := HT1.out.2; omega)) (fun i h => by simp at h) 0 rfl (lit64 (by omega) (by omega)) ?_); go_loud (intro w3 hS3 hg3; replace SM := ym hS3; replace HB := ym (pw_below_grown HB.out (some gm) (below_size HB.out) hg3 (fun k hk => by cases hk; exact GEM.out)); clear hS3 hg3 k0 f0 kc BKr; have BKr := ym (blk_below BK.out HB.out); have k0 := yW BKr 0; have f0 := yv BKr.out 0))
        | ((with_reducible refine gate_dst (N := 39) rfl ?_); go_loud (refine zl (N := 39) (cs := #[.int .i64 0]) (t := 3) (n := 1) ?_); go_loud (intro g6 hg6 w4 hbox hb4; have HO6 := ym (R_int_lit hbox (base := w1.heap.size) (by rw [hg6]; exact below_size HB.out)); replace SM := ym (SM.out.below hb4); replace HB := yN hb4; clear hg6 hbox hb4 k0 f0 BKr))
        | ((with_reducible refine gate_dst (N := 7) rfl ?_); go_loud (refine zb (N := 7) (cs := #[.slice none 0 0, .slice none 0 0]) (t := 25) ?_); go_loud (intro g7 hg7 w5 hbox hb5; have BG7 := ym hbox; have GE7 := yE hg7; replace SM := ym (SM.out.below hb5); replace HO6 := ym (Kd.R_below HO6.out hb5); replace HB := yN hb5; clear hg7 hbox hb5)))
      have HLS := ym (show LS w1 w5 g7 gm (.slice none 0 0) (.slice none 0 0) (.slice (some ⟨g6, 0, none⟩) 1 1) (.slice none 0 0) (.slice none 0 0) (plk (Mach.at_ c) [0]) [0] [] [] from ⟨BG7.out, HO6.out, Kd.R_nil _ _ _ _ _, Kd.R_nil _ _ _ _ _, by have h := SM.out; rw [HT0.out] at h; exact h, HB.out, GE7.out, GEM.out⟩)
      clear BG7 GE7 HO6 SM GEM HB
      go_loopg [6, 8] k (fun kq v6 v8 w' => ∃ (a : Nat) (o : List Int) (A' : List Bool) (E : List S92) (vA vE : Value), v8 = .int .i64 a ∧ Aside0 (Mach.leastF (Mach.dR R) (Mach.aR A) (Mach.at_ c) kq a o A' E = some q) ∧ Aside0 (kq ≤ k) ∧ Aside0 (a ≤ o.length ∧ 0 < o.length ∧ ∀ s ∈ o, Mach.In R.length s) ∧ Aside0 (LS w1 w' g7 gm vA vE v6 vA vE (plk (Mach.at_ c) o) o A' E))
      case atStart => exact ⟨0, [0], [], [], _, _, rfl, HQ, ⟨Nat.le_refl _⟩, ⟨by omega, by decide, fun s hs => by rw [List.mem_singleton.1 hs]; exact ⟨by omega, by omega⟩⟩, HLS⟩
      case round =>
        clear HLS HQ
        obtain ⟨a, o, A', E, vA, vE, rfl, HF, HK, HO, HLS⟩ := hrel
        cases gk with
        | zero => exact absurd HF.out (by simp [Mach.leastF])
        | succ k1 =>
          have hf := HF.out
          rw [Mach.leastF] at hf
          by_cases hsz : o.length ≤ 8192 ∧ A'.length ≤ 8192 ∧ E.length ≤ 4194304
          · rw [if_pos hsz] at hf
            have HSZ := ym hsz
            clear HF hsz
            obtain ⟨go, co, rfl, hgo, hgo2, _⟩ := Kd.R_form HLS.out.ord HO.out.2.1
            by_cases ha : a < o.length
            · rw [if_pos ha] at hf
              have HF := ym hf
              have HA := ym ha
              have p1 : ((a : Int) < (o.length : Int)) = True := eq_true (by omega)
              have p0 : ((0 : Int) ≤ (a : Int)) = True := eq_true (by omega)
              obtain ⟨h6c, h6f⟩ := Kd.R_celln (0 : Int) HLS.out.ord (a : Int) (by omega) (by omega)
              rw [Int.toNat_natCast] at h6c h6f
              have hin := HO.out.2.2 _ (Mach.at_mem (l := o) (i := (a : Int)) (by omega) (by omega))
              obtain ⟨s, hs, hsn⟩ := Mach.nat_in hin
              have e6 : rdOf (0 : Int) o (a : Int) = (s : Int) := by
                rw [← hs]
                unfold rdOf Mach.at_
                rw [List.getD_eq_getElem?_getD, List.getD_eq_getElem?_getD, Int.toNat_natCast, List.getElem?_eq_getElem ha]; rfl
              rw [e6] at h6c
              rw [hs] at HF
              have HS := ym hs
              have HSN := ym hsn
              have s0 : ((0 : Int) ≤ (s : Int)) = True := eq_true (by omega)
              have s1 : ((s : Int) < (A.length : Int)) = True := eq_true (by have := HMA.out.len; omega)
              obtain ⟨wa, rfl⟩ : ∃ wa, wa = wr := ⟨_, rfl⟩
              clear hf ha hin hs e6 hsn hgo hgo2
              go_wp2
              clear h6c h6f
              have HKr := ym (blk_below BK.out HLS.out.bel)
              obtain ⟨ada, ea, hfc⟩ := flag_cell HKA.out (s := (s : Int)) (by omega) (by have := HMA.out.len; have := HSN.out; omega)
              subst ea
              rw [Int.toNat_natCast] at hfc
              obtain ⟨fl, hfl⟩ : ∃ fl, fl = Mach.la A (s : Int) := ⟨_, rfl⟩
              rw [← hfl] at hfc
              have HFL := ym hfl
              have HFC := ym hfc
              clear hfl hfc
              refine start_ (n := 13) (S := fun w' => w'.cell? ⟨g7, 0, none⟩ = some vA ∧ w'.cell? ⟨g, 2, none⟩ = some (.slice (some ada) A.length ca) ∧ w'.cell? (ada.add s) = some (.bool fl)) (ds := [12]) #[false, false, false, false, false, false, false, false, false, false, false, false, false] (by kernel_rfl) rfl rfl ⟨yW ⟨HLS.out.box⟩ 0, yW HKr 2, pw_cell_below HLS.out.bel HFC.out⟩ (fun hHeld => ?_)
              refine with_tabW least.tab11 least.bits11 (fun HT_ HW_ => ?_)
              replace HLS := ym HLS.out.drew
              clear HKr
              generalize wa.drew = wd at HLS hHeld ⊢
              refine zt (i := 0) (N := some 50) HT_ ?_
              refine zt (i := 2) (N := some 52) HT_ ?_
              refine zt (i := 6) (N := some 56) HT_ ?_
              refine zw (i := 1) (N := some 51) HT_ HW_ hHeld ?_ (hv := (by rintro w' ⟨s0, s1, s2⟩; go_simp; with_reducible rfl))
              refine zt (i := 3) (N := some 53) HT_ ?_
              refine zt (i := 4) (N := some 54) HT_ ?_
              refine zw (i := 5) (N := some 55) HT_ HW_ hHeld ?_ (hv := (by rintro w' ⟨s0, s1, s2⟩; go_simp; with_reducible rfl))
              refine zt (i := 7) (N := some 57) HT_ ?_
              refine zw (i := 8) (N := some 58) HT_ HW_ hHeld ?_ (hv := (by rintro w' ⟨s0, s1, s2⟩; go_simp; with_reducible rfl))
              refine one_ (i := 9) (N := some 59) #[i_, i_, i_, i_, i_, i_, i_, i_, i_, i_, o_, o_, o_] rfl rfl (one_of HT_.out (by kernel_rfl)) (by decide) (fun K hK => ?_)
              refine value_ (w1 := wd.alloc (.cells #[.bool fl] 4 (0, 0))) (v := .slice (some ⟨wd.heap.size, 0, none⟩) 1 1) (by rfl) rfl (by first | (go_simp; done) | (go_simp; rfl)) ?_
              have HLSa := HLS.out.below (below_alloc (Below.refl _ _) (.cells #[.bool fl] 4 (0, 0)))
              refine hK.out _ _ ⟨yW ⟨HLSa.box⟩ 0, yW ⟨blk_below BK.out HLSa.bel⟩ 2, pw_cell_below HLSa.bel HFC.out⟩ (fun hHeld => ?_)
              clear hK K HLSa
              refine norm_ (a' := ?_) ?_ ?_
              rotate_left
              · show Act.put _ (some 59) _ = _
                simp only [Act.put, y0, y1]
                rfl
              refine one_ (i := 10) (N := some 60) #[i_, i_, i_, i_, i_, i_, i_, i_, i_, i_, i_, o_, o_] rfl rfl (one_of HT_.out (by kernel_rfl)) (by decide) (fun K hK => ?_)
              refine Kd.R_append_step Kd.bool (w0 := w1) w1.heap.size (by rfl) (.tmp 51) (.tmp 59) 22 4 (.bool false) 1 rfl Try.underlying22 info4 rfl (by decide) (by omega) vA A' fl [.bool fl] (fun _ => True) (fun _ => False) rfl rfl rfl (fun _ hk => hk.elim) (fun _ _ => trivial) HLS.out.acc HLS.out.bel HLS.out.bel.size (by have := HSZ.out.2.1; omega) ?_
              intro v1 w2 hR2 hB2 hg2 _
              replace HLS := ym (HLS.out.pushA hR2 hB2 hg2)
              clear hR2 hB2 hg2
              refine hK.out _ _ ⟨yW ⟨HLS.out.box⟩ 0, yW ⟨blk_below BK.out HLS.out.bel⟩ 2, pw_cell_below HLS.out.bel HFC.out⟩ (fun hHeld => ?_)
              clear hK K
              obtain ⟨AA, cA, eA⟩ := Kd.R_slice HLS.out.acc
              subst eA
              refine norm_ (a' := ?_) ?_ ?_
              rotate_left
              · show Act.put _ (some 60) _ = _
                simp only [Act.put, y0, y1]
                rfl
              refine zt (i := 11) (N := some 61) HT_ ?_
              have f8 := yv HLS.out.box 0
              have c8 := yW ⟨HLS.out.box⟩ 0
              refine last_ (i := 12) (N := none) #[i_, i_, i_, i_, i_, i_, i_, i_, i_, i_, i_, i_, i_] rfl rfl (one_of HT_.out (by kernel_rfl)) (by decide) (fun K hK => ?_)
              refine skip_step (w1 := w2.setCell ⟨g7, 0, none⟩ (.slice AA (A' ++ [fl]).length cA)) ?hw ?hrun ?_
              case hw => rfl
              case hrun => first | (go_simp; done) | (go_simp; rfl)
              replace HLS := ym (HLS.out.box0 (.slice AA (A' ++ [fl]).length cA))
              generalize w2.setCell ⟨g7, 0, none⟩ (.slice AA (A' ++ [fl]).length cA) = w3 at HLS ⊢
              refine hK.out _ _ ?_
              clear hK K f8 c8
              refine norm_ (a' := ?_) ?_ ?_
              rotate_left
              · show Act.put _ none _ = _
                rfl
              refine done_ (done_of HT_.out (by kernel_rfl)) ?_
              clear HT_ HW_ hHeld
              have HKr := ym (blk_below BK.out HLS.out.bel)
              have k1' := yW HKr 1
              obtain ⟨row, hrow⟩ : ∃ row, row = R.getD s [] := ⟨_, rfl⟩
              have hrl : row.length = 256 := by
                rw [hrow, List.getD_eq_getElem?_getD, List.getElem?_eq_getElem HSN.out]
                exact HMA.out.rows.wide _ (List.getElem_mem HSN.out)
              obtain ⟨adn, cz, en, _, hK129, hcell⟩ := Kd.C_get HKR.out ([] : List Int) (s : Int) (by omega) (by have := HSN.out; omega)
              subst en
              obtain ⟨_, rfl⟩ := k129_cells hK129
              rw [Int.toNat_natCast, ← hrow] at hcell
              have hload : ∀ j u, (encs (Value.int .i64) row)[j]? = some u → w3.cell? ((adn.add (s * 256)).add j) = some u := fun j u hu => by
                rw [add_two]
                exact pw_cell_below HLS.out.bel (hcell j u hu)
              have HLD := ym hload
              have HROW := ym hrow
              have HRL := ym hrl
              have r1 : ((s : Int) < (R.length : Int)) = True := eq_true (by have := HSN.out; omega)
              clear hload hrow hrl hK129 hcell HKr
              go_wp2_with (first
                | ((with_reducible refine gate_dst (N := 68) rfl ?_); go_loud (refine Arr.wpList_load_at rfl 129 _ rfl (adn.add (s * 256)) rfl (encs (Value.int .i64) row) _ HLD.out Try.underlying129 rfl (by rw [encs_length, HRL.out]; kernel_rfl) ?_)))
              obtain ⟨st, hst⟩ : ∃ st, st = Mach.rowF (Mach.dR R) (Mach.at_ c) (s : Int) a 256 (o, E, -1) := ⟨_, rfl⟩
              have hf := HF.out
              rw [← hst, Mach.aR_in (by omega), ← HFL.out] at hf
              replace HF := ym hf
              have HST := ym hst.symm
              have HW0 := ym (show o.length ≤ 8192 + 0 ∧ E.length ≤ 4194304 + 0 ∧ a < o.length ∧ (∀ t ∈ o, Mach.In R.length t) ∧ (-1 : Int) < (E.length : Int) ∧ (-1 : Int) ≤ -1 from ⟨HSZ.out.1, HSZ.out.2.2, HA.out, HO.out.2.2, by omega, by omega⟩)
              obtain ⟨N, hN⟩ : ∃ N : Nat, N = 256 := ⟨256, rfl⟩
              have HN := ym hN
              clear hN hf hst HSZ HO
              go_loopw [6, 10, 69] (fun v6 v10 v69 w' => ∃ (x : Nat) (o : List Int) (E : List S92) (last : Int) (vE : Value), v69 = .int .i64 x ∧ v10 = .int .i64 last ∧ Aside0 (x ≤ 256) ∧ Aside0 (Mach.rowF (Mach.dR R) (Mach.at_ c) (s : Int) a (256 - x) (o, E, last) = st) ∧ Aside0 (o.length ≤ 8192 + x ∧ E.length ≤ 4194304 + x ∧ a < o.length ∧ (∀ t ∈ o, Mach.In R.length t) ∧ last < (E.length : Int) ∧ -1 ≤ last) ∧ Aside0 (LS w1 w' g7 gm (.slice AA (A' ++ [fl]).length cA) vE v6 (.slice AA (A' ++ [fl]).length cA) vE (plk (Mach.at_ c) o) o (A' ++ [fl]) E)) (fun v6 v10 v69 w' => N - (intOf v69).toNat)
              case atStart => exact ⟨0, o, E, -1, _, rfl, rfl, ⟨Nat.zero_le _⟩, HST, HW0, HLS⟩
              case round =>
                clear HLS HST HW0
                obtain ⟨x, o, E, last, vE, rfl, rfl, HX, HST, HW, HLS⟩ := hrel
                obtain ⟨wb, rfl⟩ : ∃ wb, wb = wr := ⟨_, rfl⟩
                obtain ⟨go, co, rfl, _, _, _⟩ := Kd.R_form HLS.out.ord (by have := HW.out.2.2.1; omega)
                have hx256 := HX.out
                by_cases hx : x < 256
                · have q1 : ((x : Int) < 256) = True := eq_true (by omega)
                  have q0 : ((0 : Int) ≤ (x : Int)) = True := eq_true (by omega)
                  have m8 : (x : Int) % 256 = (x : Int) := by omega
                  have HX1 := ym hx
                  obtain ⟨t, ht⟩ : ∃ t, t = Mach.dR R (s : Int) (x : Int) := ⟨_, rfl⟩
                  have hix : ∀ W, (Instr.index 129 (.agg (encs (Value.int .i64) row).toArray) (.int .i64 (x : Int))).run Try.prog W = .ok (.int .i64 t) W := fun W => by
                    refine Arr.run_index_agg 129 3 256 _ .i64 (x : Int) W Try.underlying129 Try.underlying3 rfl (by kernel_rfl) (by omega) (by omega) _ ?_
                    rw [List.getElem?_toArray, Int.toNat_natCast, encs_get (d := (-1 : Int)) _ _ (by rw [HRL.out]; exact hx), ht, HROW.out]
                    unfold Mach.dR Mach.at_
                    rw [if_neg (by omega), Int.toNat_natCast, Int.toNat_natCast]
                  have hst : Mach.St R.length t := by rw [ht]; exact (HMA.out.rows.ok A).to_ _ _ ⟨by omega, by have := HSN.out; omega⟩ ⟨by omega, by omega⟩
                  have hnx : Mach.rowF (Mach.dR R) (Mach.at_ c) (s : Int) a (256 - (x + 1)) (Mach.stepB (Mach.dR R) (Mach.at_ c) (s : Int) a (x : Int) (o, E, last)) = st := by
                    have h := HST.out
                    obtain ⟨d, hd⟩ : ∃ d, 256 - x = d + 1 := ⟨256 - x - 1, by omega⟩
                    rw [hd, Mach.rowF, show 256 - (d + 1) = x by omega] at h
                    rw [show 256 - (x + 1) = d by omega]
                    exact h
                  unfold Mach.stepB at hnx
                  rw [← ht] at hnx
                  have HST3 := ym hst
                  clear hst HST ht hx
                  by_cases ht1 : t = -1
                  · subst ht1
                    rw [if_pos (.inl rfl)] at hnx
                    have HNX := ym hnx
                    clear hnx
                    go_wp2
                    go_roundw
                    case measure => exact mdec' (Nat.lt_of_lt_of_eq HX1.out HN.out.symm)
                    case rel => exact ⟨x + 1, o, E, -1, vE, rfl, rfl, ⟨HX1.out⟩, HNX, ⟨by have := HW.out.1; omega, by have := HW.out.2.1; omega, HW.out.2.2.1, HW.out.2.2.2.1, by omega, by omega⟩, HLS⟩
                  · have hin : Mach.In R.length t := by rcases HST3.out with e | e; exact absurd e ht1; exact e
                    have b2 : (t == -1) = false := beq_eq_false_iff_ne.mpr ht1
                    have t0' := eq_true hin.1
                    have t1' := eq_true hin.2
                    obtain ⟨ct, hct⟩ : ∃ ct, ct = Mach.at_ c t := ⟨_, rfl⟩
                    have hcm : ct ∈ c := by rw [hct]; exact Mach.at_mem hin.1 (by rw [HCL.out]; exact hin.2)
                    have hcb := HCB.out ct hcm
                    have kc := int_cell (Kd.C_below HCR.out HLS.out.bel) HCL.out hin.1 hin.2
                    rw [← hct] at kc hnx
                    have HIN := ym hin
                    have HCT := ym hct
                    have HCBT := ym hcb
                    clear hcm hcb hct hin
                    by_cases hc1 : ct = -1
                    · rw [if_pos (.inr hc1)] at hnx
                      have b3 : (ct == -1) = true := beq_iff_eq.mpr hc1
                      have HNX := ym hnx
                      clear hnx hc1
                      go_wp2
                      go_roundw
                      case measure => exact mdec' (Nat.lt_of_lt_of_eq HX1.out HN.out.symm)
                      case rel => exact ⟨x + 1, o, E, -1, vE, rfl, rfl, ⟨HX1.out⟩, HNX, ⟨by have := HW.out.1; omega, by have := HW.out.2.1; omega, HW.out.2.2.1, HW.out.2.2.2.1, by omega, by omega⟩, HLS⟩
                    · rw [if_neg (by rintro (h | h); exact ht1 h; exact hc1 h)] at hnx
                      have b3 : (ct == -1) = false := beq_eq_false_iff_ne.mpr hc1
                      clear ht1 hc1
                      obtain ⟨p, hp⟩ : ∃ p, p = Mach.posOf (Mach.at_ c) ct o := ⟨_, rfl⟩
                      have hple := Mach.posOf_le (Mach.at_ c) ct o
                      simp only [← hp] at hnx
                      rw [← hp] at hple
                      have HP := ym hp
                      clear hp
                      by_cases hpl : p < o.length
                      · rw [if_neg (show ¬ p = o.length by omega)] at hnx
                        have HPL := ym hpl
                        clear hpl hple
                        by_cases hl0 : 0 ≤ last
                        · obtain ⟨l, rfl⟩ : ∃ l : Nat, last = (l : Int) := ⟨last.toNat, by omega⟩
                          have hlE : l < E.length := by have := HW.out.2.2.2.2.1; omega
                          obtain ⟨ge, cE, rfl, _, _, _⟩ := Kd.R_form HLS.out.eds (by omega)
                          obtain ⟨e3, e2, e2f⟩ := R92_cell HLS.out.eds hlE
                          have l0 : ((0 : Int) ≤ (l : Int)) = True := eq_true (by omega)
                          have l1 : ((l : Int) < (E.length : Int)) = True := eq_true (by omega)
                          have c1 := yW ⟨HLS.out.box⟩ 1
                          have f1 := yv HLS.out.box 1
                          rw [Int.toNat_natCast] at hnx
                          have HLE := ym hlE
                          obtain ⟨z3, hz3⟩ : ∃ z3, z3 = (E.getD l ⟨0, 0, 0, 0⟩).f3 := ⟨_, rfl⟩
                          rw [← hz3] at e3 hnx
                          have HZ3 := ym hz3
                          by_cases h3 : z3 = (p : Int)
                          · rw [if_pos ⟨hl0, h3⟩] at hnx
                            rw [h3] at e3
                            have HNX := ym hnx
                            clear hnx h3 hz3 hl0 hlE
                            go_wp2_with (first
                              | ((with_reducible refine gate_dst (N := 88) rfl ?_); go_loud (refine Kept.look HLS.out.map keyed3 _ _ 143 rfl rfl Try.underlying143 Try.underlying3 (fun _ => rfl) rfl (.int .i64 ct) rfl _ (key3 HCBT.out.1 (by have := HCBT.out.2; omega)) ?_); go_loud (intro nn rr h1 h2; have hs := plk_says h1 h2; rw [← HP.out] at hs; have hrr : rr = true := (by cases rr with | true => rfl | false => exact absurd (hs.2 rfl).1 (by have := HPL.out; omega)); subst hrr; have hnn := (hs.1 rfl).1; subst hnn; clear h1 h2 hs)))
                            go_roundw
                            case measure => exact mdec' (Nat.lt_of_lt_of_eq HX1.out HN.out.symm)
                            case rel => exact ⟨x + 1, o, E.set l { E.getD l ⟨0, 0, 0, 0⟩ with f2 := (x : Int) }, (l : Int), _, rfl, rfl, ⟨HX1.out⟩, ⟨by have h := HNX.out; rw [HZ3.out] at h; exact h⟩, ⟨by have := HW.out.1; omega, by have := HW.out.2.1; rw [List.length_set]; omega, HW.out.2.2.1, HW.out.2.2.2.1, by rw [List.length_set]; have := HLE.out; omega, by omega⟩, ⟨HLS.out.setE HLE.out (x : Int)⟩⟩
                          · rw [if_neg (fun h => h3 h.2)] at hnx
                            have b5 : (z3 == (p : Int)) = false := beq_eq_false_iff_ne.mpr h3
                            have HNX := ym hnx
                            clear hnx h3 hz3 hl0 hlE
                            go_wp2_with (first
                              | ((with_reducible refine gate_dst (N := 88) rfl ?_); go_loud (refine Kept.look HLS.out.map keyed3 _ _ 143 rfl rfl Try.underlying143 Try.underlying3 (fun _ => rfl) rfl (.int .i64 ct) rfl _ (key3 HCBT.out.1 (by have := HCBT.out.2; omega)) ?_); go_loud (intro nn rr h1 h2; have hs := plk_says h1 h2; rw [← HP.out] at hs; have hrr : rr = true := (by cases rr with | true => rfl | false => exact absurd (hs.2 rfl).1 (by have := HPL.out; omega)); subst hrr; have hnn := (hs.1 rfl).1; subst hnn; clear h1 h2 hs))
                              | ((with_reducible refine gate_builtin (b := .append) (xs := #[.tmp 128, .tmp 136]) rfl ?_); at_builtin; go_loud (refine HLS.out.appE rfl (.tmp 128) (.tmp 136) rfl (⟨(a : Int), (x : Int), (x : Int), (p : Int)⟩ : S92) rfl (by first | (go_simp; done) | (go_simp; rfl)) (by have := HW.out.2.1; have := HX1.out; omega) ?_); go_loud (intro ve w8 HLS8; replace HLS := ym HLS8; obtain ⟨AE', cE', eE⟩ := Kd.R_slice HLS8.eds; have eE2 : ve = .slice AE' (E.length + 1) cE' := eE.trans (by simp); clear eE; subst eE2; clear HLS8 c1 f1; have c1 := yW ⟨HLS.out.box⟩ 1; have f1 := yv HLS.out.box 1)))
                            go_roundw
                            case measure => exact mdec' (Nat.lt_of_lt_of_eq HX1.out HN.out.symm)
                            case rel => exact ⟨x + 1, o, E ++ [⟨(a : Int), (x : Int), (x : Int), (p : Int)⟩], (E.length : Int), _, rfl, rfl, ⟨HX1.out⟩, HNX, ⟨by have := HW.out.1; omega, by have := HW.out.2.1; simp; omega, HW.out.2.2.1, HW.out.2.2.2.1, by simp; omega, by omega⟩, ⟨HLS.out.box1 _⟩⟩
                        · rw [if_neg (fun h => hl0 h.1)] at hnx
                          obtain ⟨AE, cE, eE⟩ := Kd.R_slice HLS.out.eds
                          subst eE
                          have n0 : ((0 : Int) ≤ last) = False := eq_false hl0
                          have c1 := yW ⟨HLS.out.box⟩ 1
                          have f1 := yv HLS.out.box 1
                          have HNX := ym hnx
                          clear hnx hl0
                          go_wp2_with (first
                            | ((with_reducible refine gate_dst (N := 88) rfl ?_); go_loud (refine Kept.look HLS.out.map keyed3 _ _ 143 rfl rfl Try.underlying143 Try.underlying3 (fun _ => rfl) rfl (.int .i64 ct) rfl _ (key3 HCBT.out.1 (by have := HCBT.out.2; omega)) ?_); go_loud (intro nn rr h1 h2; have hs := plk_says h1 h2; rw [← HP.out] at hs; have hrr : rr = true := (by cases rr with | true => rfl | false => exact absurd (hs.2 rfl).1 (by have := HPL.out; omega)); subst hrr; have hnn := (hs.1 rfl).1; subst hnn; clear h1 h2 hs))
                            | ((with_reducible refine gate_builtin (b := .append) (xs := #[.tmp 128, .tmp 136]) rfl ?_); at_builtin; go_loud (refine HLS.out.appE rfl (.tmp 128) (.tmp 136) rfl (⟨(a : Int), (x : Int), (x : Int), (p : Int)⟩ : S92) rfl (by first | (go_simp; done) | (go_simp; rfl)) (by have := HW.out.2.1; have := HX1.out; omega) ?_); go_loud (intro ve w8 HLS8; replace HLS := ym HLS8; obtain ⟨AE', cE', eE⟩ := Kd.R_slice HLS8.eds; have eE2 : ve = .slice AE' (E.length + 1) cE' := eE.trans (by simp); clear eE; subst eE2; clear HLS8 c1 f1; have c1 := yW ⟨HLS.out.box⟩ 1; have f1 := yv HLS.out.box 1)))
                          go_roundw
                          case measure => exact mdec' (Nat.lt_of_lt_of_eq HX1.out HN.out.symm)
                          case rel => exact ⟨x + 1, o, E ++ [⟨(a : Int), (x : Int), (x : Int), (p : Int)⟩], (E.length : Int), _, rfl, rfl, ⟨HX1.out⟩, HNX, ⟨by have := HW.out.1; omega, by have := HW.out.2.1; simp; omega, HW.out.2.2.1, HW.out.2.2.2.1, by simp; omega, by omega⟩, ⟨HLS.out.box1 _⟩⟩
                      · obtain rfl : p = o.length := by omega
                        rw [if_pos rfl] at hnx
                        clear hpl hple
                        have hlo : o.length < 8448 := by have := HW.out.1; omega
                        by_cases hl0 : 0 ≤ last
                        · obtain ⟨l, rfl⟩ : ∃ l : Nat, last = (l : Int) := ⟨last.toNat, by omega⟩
                          have hlE : l < E.length := by have := HW.out.2.2.2.2.1; omega
                          obtain ⟨ge, cE, rfl, _, _, _⟩ := Kd.R_form HLS.out.eds (by omega)
                          have l0 : ((0 : Int) ≤ (l : Int)) = True := eq_true (by omega)
                          have l1 : ((l : Int) < (E.length : Int)) = True := eq_true (by omega)
                          rw [Int.toNat_natCast] at hnx
                          have HLE := ym hlE
                          obtain ⟨z3, hz3⟩ : ∃ z3, z3 = (E.getD l ⟨0, 0, 0, 0⟩).f3 := ⟨_, rfl⟩
                          rw [← hz3] at hnx
                          have HZ3 := ym hz3
                          by_cases h3 : z3 = (o.length : Int)
                          · rw [if_pos ⟨hl0, h3⟩] at hnx
                            have HNX := ym hnx
                            have H3 := ym h3
                            clear hnx h3 hz3 hl0 hlE hlo
                            go_wp2_with (first
                              | ((with_reducible refine gate_dst (N := 88) rfl ?_); go_loud (refine Kept.look HLS.out.map keyed3 _ _ 143 rfl rfl Try.underlying143 Try.underlying3 (fun _ => rfl) rfl (.int .i64 ct) rfl _ (key3 HCBT.out.1 (by have := HCBT.out.2; omega)) ?_); go_loud (intro nn rr h1 h2; have hs := plk_says h1 h2; have hrr : rr = false := (by cases rr with | false => rfl | true => exact absurd (hs.1 rfl).2 (by have := HP.out; omega)); subst hrr; have HNO := ym (hs.2 rfl).2; clear h1 h2 hs))
                              | ((with_reducible refine gate_ (Op.mapUpdate 143 (.tmp 95) (.tmp 99) (.tmp 100)) rfl ?_); go_loud (refine Kept.put HLS.out.map keyed3 _ _ _ 143 rfl rfl Try.underlying143 Try.underlying3 (by rw [nk_len, plk_len]; have := HW.out.1; have := HX1.out; unfold maxLen; omega) rfl (.int .i64 ct) rfl _ (key3 HCBT.out.1 (by have := HCBT.out.2; omega)) HNO.out (o.length : Int) rfl (lit64 (by omega) (by have := HW.out.1; have := HX1.out; omega)) ?_); go_loud (intro w6 hS6 hg6; rw [nk_plk_snoc] at hS6; replace HLS := ym (HLS.out.put hS6 hg6); clear hS6 hg6 HNO))
                              | ((with_reducible refine gate_builtin (b := .append) (xs := #[.tmp 101, .tmp 103]) rfl ?_); at_builtin; go_loud (refine HLS.out.appO rfl (.tmp 101) (.tmp 103) rfl (t := t) rfl (by first | (go_simp; done) | (go_simp; rfl)) (by have := HW.out.1; have := HX1.out; omega) ?_); go_loud (intro vo w7 HLS7; replace HLS := ym HLS7; obtain ⟨Ao', co', eO⟩ := Kd.R_slice HLS7.ord; have eO2 : vo = .slice Ao' (o.length + 1) co' := eO.trans (by simp); clear eO; subst eO2; clear HLS7 kc; have c1 := yW ⟨HLS.out.box⟩ 1; have f1 := yv HLS.out.box 1; obtain ⟨e3, e2, e2f⟩ := R92_cell HLS.out.eds HLE.out; rw [← HZ3.out, H3.out] at e3)))
                            go_roundw
                            case measure => exact mdec' (Nat.lt_of_lt_of_eq HX1.out HN.out.symm)
                            case rel => exact ⟨x + 1, o ++ [t], E.set l { E.getD l ⟨0, 0, 0, 0⟩ with f2 := (x : Int) }, (l : Int), _, rfl, rfl, ⟨HX1.out⟩, ⟨by have h := HNX.out; rw [HZ3.out] at h; exact h⟩, ⟨by rw [List.length_append]; have h1 := HW.out.1; simp; omega, by have := HW.out.2.1; rw [List.length_set]; omega, by rw [List.length_append]; have := HW.out.2.2.1; omega, fun y hy => by
                               rcases List.mem_append.1 hy with hy | hy
                               · exact HW.out.2.2.2.1 y hy
                               · rw [List.mem_singleton.1 hy]; exact HIN.out, by rw [List.length_set]; have := HLE.out; omega, by omega⟩, ⟨by rw [plk_snoc, ← HCT.out]; exact HLS.out.setE HLE.out (x : Int)⟩⟩
                          · rw [if_neg (fun h => h3 h.2)] at hnx
                            have b5 : (z3 == (o.length : Int)) = false := beq_eq_false_iff_ne.mpr h3
                            have HNX := ym hnx
                            clear hnx h3 hz3 hl0 hlE hlo
                            go_wp2_with (first
                              | ((with_reducible refine gate_dst (N := 88) rfl ?_); go_loud (refine Kept.look HLS.out.map keyed3 _ _ 143 rfl rfl Try.underlying143 Try.underlying3 (fun _ => rfl) rfl (.int .i64 ct) rfl _ (key3 HCBT.out.1 (by have := HCBT.out.2; omega)) ?_); go_loud (intro nn rr h1 h2; have hs := plk_says h1 h2; have hrr : rr = false := (by cases rr with | false => rfl | true => exact absurd (hs.1 rfl).2 (by have := HP.out; omega)); subst hrr; have HNO := ym (hs.2 rfl).2; clear h1 h2 hs))
                              | ((with_reducible refine gate_ (Op.mapUpdate 143 (.tmp 95) (.tmp 99) (.tmp 100)) rfl ?_); go_loud (refine Kept.put HLS.out.map keyed3 _ _ _ 143 rfl rfl Try.underlying143 Try.underlying3 (by rw [nk_len, plk_len]; have := HW.out.1; have := HX1.out; unfold maxLen; omega) rfl (.int .i64 ct) rfl _ (key3 HCBT.out.1 (by have := HCBT.out.2; omega)) HNO.out (o.length : Int) rfl (lit64 (by omega) (by have := HW.out.1; have := HX1.out; omega)) ?_); go_loud (intro w6 hS6 hg6; rw [nk_plk_snoc] at hS6; replace HLS := ym (HLS.out.put hS6 hg6); clear hS6 hg6 HNO))
                              | ((with_reducible refine gate_builtin (b := .append) (xs := #[.tmp 101, .tmp 103]) rfl ?_); at_builtin; go_loud (refine HLS.out.appO rfl (.tmp 101) (.tmp 103) rfl (t := t) rfl (by first | (go_simp; done) | (go_simp; rfl)) (by have := HW.out.1; have := HX1.out; omega) ?_); go_loud (intro vo w7 HLS7; replace HLS := ym HLS7; obtain ⟨Ao', co', eO⟩ := Kd.R_slice HLS7.ord; have eO2 : vo = .slice Ao' (o.length + 1) co' := eO.trans (by simp); clear eO; subst eO2; clear HLS7 kc; have c1 := yW ⟨HLS.out.box⟩ 1; have f1 := yv HLS.out.box 1; obtain ⟨e3, e2, e2f⟩ := R92_cell HLS.out.eds HLE.out; rw [← HZ3.out] at e3))
                              | ((with_reducible refine gate_builtin (b := .append) (xs := #[.tmp 128, .tmp 136]) rfl ?_); at_builtin; go_loud (refine HLS.out.appE rfl (.tmp 128) (.tmp 136) rfl (⟨(a : Int), (x : Int), (x : Int), (o.length : Int)⟩ : S92) rfl (by first | (go_simp; done) | (go_simp; rfl)) (by have := HW.out.2.1; have := HX1.out; omega) ?_); go_loud (intro ve w8 HLS8; replace HLS := ym HLS8; obtain ⟨AE', cE', eE⟩ := Kd.R_slice HLS8.eds; have eE2 : ve = .slice AE' (E.length + 1) cE' := eE.trans (by simp); clear eE; subst eE2; clear HLS8 c1 f1; have c1 := yW ⟨HLS.out.box⟩ 1; have f1 := yv HLS.out.box 1)))
                            go_roundw
                            case measure => exact mdec' (Nat.lt_of_lt_of_eq HX1.out HN.out.symm)
                            case rel => exact ⟨x + 1, o ++ [t], E ++ [⟨(a : Int), (x : Int), (x : Int), (o.length : Int)⟩], (E.length : Int), _, rfl, rfl, ⟨HX1.out⟩, HNX, ⟨by rw [List.length_append]; have h1 := HW.out.1; simp; omega, by have := HW.out.2.1; simp; omega, by rw [List.length_append]; have := HW.out.2.2.1; omega, fun y hy => by
                              rcases List.mem_append.1 hy with hy | hy
                              · exact HW.out.2.2.2.1 y hy
                              · rw [List.mem_singleton.1 hy]; exact HIN.out, by simp; omega, by omega⟩, ⟨by rw [plk_snoc, ← HCT.out]; exact HLS.out.box1 _⟩⟩
                        · rw [if_neg (fun h => hl0 h.1)] at hnx
                          obtain ⟨AE, cE, eE⟩ := Kd.R_slice HLS.out.eds
                          subst eE
                          have n0 : ((0 : Int) ≤ last) = False := eq_false hl0
                          have HNX := ym hnx
                          clear hnx hl0 hlo
                          go_wp2_with (first
                            | ((with_reducible refine gate_dst (N := 88) rfl ?_); go_loud (refine Kept.look HLS.out.map keyed3 _ _ 143 rfl rfl Try.underlying143 Try.underlying3 (fun _ => rfl) rfl (.int .i64 ct) rfl _ (key3 HCBT.out.1 (by have := HCBT.out.2; omega)) ?_); go_loud (intro nn rr h1 h2; have hs := plk_says h1 h2; have hrr : rr = false := (by cases rr with | false => rfl | true => exact absurd (hs.1 rfl).2 (by have := HP.out; omega)); subst hrr; have HNO := ym (hs.2 rfl).2; clear h1 h2 hs))
                            | ((with_reducible refine gate_ (Op.mapUpdate 143 (.tmp 95) (.tmp 99) (.tmp 100)) rfl ?_); go_loud (refine Kept.put HLS.out.map keyed3 _ _ _ 143 rfl rfl Try.underlying143 Try.underlying3 (by rw [nk_len, plk_len]; have := HW.out.1; have := HX1.out; unfold maxLen; omega) rfl (.int .i64 ct) rfl _ (key3 HCBT.out.1 (by have := HCBT.out.2; omega)) HNO.out (o.length : Int) rfl (lit64 (by omega) (by have := HW.out.1; have := HX1.out; omega)) ?_); go_loud (intro w6 hS6 hg6; rw [nk_plk_snoc] at hS6; replace HLS := ym (HLS.out.put hS6 hg6); clear hS6 hg6 HNO))
                            | ((with_reducible refine gate_builtin (b := .append) (xs := #[.tmp 101, .tmp 103]) rfl ?_); at_builtin; go_loud (refine HLS.out.appO rfl (.tmp 101) (.tmp 103) rfl (t := t) rfl (by first | (go_simp; done) | (go_simp; rfl)) (by have := HW.out.1; have := HX1.out; omega) ?_); go_loud (intro vo w7 HLS7; replace HLS := ym HLS7; obtain ⟨Ao', co', eO⟩ := Kd.R_slice HLS7.ord; have eO2 : vo = .slice Ao' (o.length + 1) co' := eO.trans (by simp); clear eO; subst eO2; clear HLS7 kc; have c1 := yW ⟨HLS.out.box⟩ 1; have f1 := yv HLS.out.box 1))
                            | ((with_reducible refine gate_builtin (b := .append) (xs := #[.tmp 128, .tmp 136]) rfl ?_); at_builtin; go_loud (refine HLS.out.appE rfl (.tmp 128) (.tmp 136) rfl (⟨(a : Int), (x : Int), (x : Int), (o.length : Int)⟩ : S92) rfl (by first | (go_simp; done) | (go_simp; rfl)) (by have := HW.out.2.1; have := HX1.out; omega) ?_); go_loud (intro ve w8 HLS8; replace HLS := ym HLS8; obtain ⟨AE', cE', eE⟩ := Kd.R_slice HLS8.eds; have eE2 : ve = .slice AE' (E.length + 1) cE' := eE.trans (by simp); clear eE; subst eE2; clear HLS8 c1 f1; have c1 := yW ⟨HLS.out.box⟩ 1; have f1 := yv HLS.out.box 1)))
                          go_roundw
                          case measure => exact mdec' (Nat.lt_of_lt_of_eq HX1.out HN.out.symm)
                          case rel => exact ⟨x + 1, o ++ [t], E ++ [⟨(a : Int), (x : Int), (x : Int), (o.length : Int)⟩], (E.length : Int), _, rfl, rfl, ⟨HX1.out⟩, HNX, ⟨by rw [List.length_append]; have h1 := HW.out.1; simp; omega, by have := HW.out.2.1; simp; omega, by rw [List.length_append]; have := HW.out.2.2.1; omega, fun y hy => by
                            rcases List.mem_append.1 hy with hy | hy
                            · exact HW.out.2.2.2.1 y hy
                            · rw [List.mem_singleton.1 hy]; exact HIN.out, by simp; omega, by omega⟩, ⟨by rw [plk_snoc, ← HCT.out]; exact HLS.out.box1 _⟩⟩
                · obtain rfl : x = 256 := by omega
                  have e := HST.out
                  rw [Nat.sub_self, Mach.rowF] at e
                  subst e
                  have q1 : (((256 : Nat) : Int) < 256) = False := eq_false (by omega)
                  clear hx hx256 HX HST
                  go_wp2
                  go_roundg k1
                  case measure => have := HK.out; omega
                  case rel => exact ⟨a + 1, o, A' ++ [fl], E, _, vE, by rw [wup (by have := HW.out.1; have := HW.out.2.2.1; omega)]; rfl, HF, ⟨by have := HK.out; omega⟩, ⟨HW.out.2.2.1, by have := HW.out.2.2.1; omega, HW.out.2.2.2.1⟩, HLS⟩
            · rw [if_neg ha] at hf
              have p1 : ((a : Int) < (o.length : Int)) = False := eq_false (by omega)
              have e := Option.some.inj hf
              subst e
              have hr := HR.out
              clear hf ha HR hgo hgo2
              obtain ⟨AA, cA, eA⟩ := Kd.R_slice HLS.out.acc
              subst eA
              obtain ⟨AE, cE, eE⟩ := Kd.R_slice HLS.out.eds
              subst eE
              have c0 := yW ⟨HLS.out.box⟩ 0
              have c1 := yW ⟨HLS.out.box⟩ 1
              have BG2r := ym (blk_below BG2.out HLS.out.bel)
              obtain ⟨wa, rfl⟩ : ∃ wa, wa = wr := ⟨_, rfl⟩
              have HBw := ym (below_then HBW.out HBW.out.size HLS.out.bel)
              by_cases h64 : 64 < A'.length
              · rw [if_pos h64] at hr
                have hr' := Option.some.inj hr
                have HR' := ym hr'
                have p64 : ((A'.length : Int) > 64) = True := eq_true (by omega)
                clear hr hr' h64
                go_wp2_with (first
                  | ((with_reducible refine gate_store (t := 25) (p := 2) rfl ?_); go_loud (refine Arr.wpList_store_row rfl 25 _ _ rfl g2 #[.slice none 0 0, .slice none 0 0] rfl rfl 25 _ BG2r.out (by kernel_rfl) rfl (by simp [Value.oneCell']) ?_); go_loud (obtain ⟨w8, hw8⟩ : ∃ w8, w8 = wa.setRow g2 #[.slice none 0 0, .slice none 0 0] := ⟨_, rfl⟩; rw [← hw8]; have hg8 : wa.grownBy w8 (some g2) := (by rw [hw8]; exact grown_setRow _ _ _); have BG8 := ym (by rw [hw8]; exact setRow_heap _ _ _ _ _ _ BG2r.out : w8.heap[g2]? = some (.cells #[.slice none 0 0, .slice none 0 0] 25 (0, 0))); replace HB := ym (pw_below_grown HBw.out (some g2) (below_size HBw.out) hg8 (fun k hk => by cases hk; exact GE2.out)); clear hw8)))
                refine bodyPost_ret (results_ct rfl _ _ g2 25 #[.slice none 0 0, .slice none 0 0] (0, 0) _ rfl BG8.out Try.underlying25 rfl (by kernel_rfl)) rfl ?_
                have e := HR'.out
                subst e
                exact ⟨_, _, rfl, Kd.R_nil _ _ _ _ _, Kd.R_nil _ _ _ _ _, HB.out⟩
              · rw [if_neg h64] at hr
                have p64 : ((A'.length : Int) > 64) = False := eq_false (by omega)
                clear h64
                by_cases h24 : 1024 < E.length
                · rw [if_pos h24] at hr
                  have hr' := Option.some.inj hr
                  have HR' := ym hr'
                  have p24 : ((E.length : Int) > 1024) = True := eq_true (by omega)
                  clear hr hr' h24
                  go_wp2_with (first
                    | ((with_reducible refine gate_store (t := 25) (p := 2) rfl ?_); go_loud (refine Arr.wpList_store_row rfl 25 _ _ rfl g2 #[.slice none 0 0, .slice none 0 0] rfl rfl 25 _ BG2r.out (by kernel_rfl) rfl (by simp [Value.oneCell']) ?_); go_loud (obtain ⟨w8, hw8⟩ : ∃ w8, w8 = wa.setRow g2 #[.slice none 0 0, .slice none 0 0] := ⟨_, rfl⟩; rw [← hw8]; have hg8 : wa.grownBy w8 (some g2) := (by rw [hw8]; exact grown_setRow _ _ _); have BG8 := ym (by rw [hw8]; exact setRow_heap _ _ _ _ _ _ BG2r.out : w8.heap[g2]? = some (.cells #[.slice none 0 0, .slice none 0 0] 25 (0, 0))); replace HB := ym (pw_below_grown HBw.out (some g2) (below_size HBw.out) hg8 (fun k hk => by cases hk; exact GE2.out)); clear hw8)))
                  refine bodyPost_ret (results_ct rfl _ _ g2 25 #[.slice none 0 0, .slice none 0 0] (0, 0) _ rfl BG8.out Try.underlying25 rfl (by kernel_rfl)) rfl ?_
                  have e := HR'.out
                  subst e
                  exact ⟨_, _, rfl, Kd.R_nil _ _ _ _ _, Kd.R_nil _ _ _ _ _, HB.out⟩
                · rw [if_neg h24] at hr
                  have hr' := Option.some.inj hr
                  have HR' := ym hr'
                  have p24 : ((E.length : Int) > 1024) = False := eq_false (by omega)
                  clear hr hr' h24
                  go_wp2_with (first
                    | ((with_reducible refine gate_store (t := 25) (p := 2) rfl ?_); go_loud (refine Arr.wpList_store_row rfl 25 _ _ rfl g2 #[.slice AA A'.length cA, .slice AE E.length cE] rfl rfl 25 _ BG2r.out (by kernel_rfl) rfl (by simp [Value.oneCell']) ?_); go_loud (obtain ⟨w8, hw8⟩ : ∃ w8, w8 = wa.setRow g2 #[.slice AA A'.length cA, .slice AE E.length cE] := ⟨_, rfl⟩; rw [← hw8]; have hg8 : wa.grownBy w8 (some g2) := (by rw [hw8]; exact grown_setRow _ _ _); have BG8 := ym (by rw [hw8]; exact setRow_heap _ _ _ _ _ _ BG2r.out : w8.heap[g2]? = some (.cells #[.slice AA A'.length cA, .slice AE E.length cE] 25 (0, 0))); replace HB := ym (pw_below_grown HBw.out (some g2) (below_size HBw.out) hg8 (fun k hk => by cases hk; exact GE2.out)); clear hw8)))
                  refine bodyPost_ret (results_ct rfl _ _ g2 25 #[.slice AA A'.length cA, .slice AE E.length cE] (0, 0) _ rfl BG8.out Try.underlying25 rfl (by kernel_rfl)) rfl ?_
                  have e := HR'.out
                  subst e
                  have hT := rowt_blk BG2r.out
                  exact ⟨_, _, rfl, Kd.R_lower (R_row HLS.out.acc hg8 hT (by decide)) HBW.out.size, Kd.R_lower (R_row HLS.out.eds hg8 hT (by decide)) HBW.out.size, HB.out⟩
          · rw [if_neg hsz] at hf; cases hf
  · rw [if_neg hMa] at h; cases h
end Go.Proofs.Ytfjpnmhbbfiaaaa.P
