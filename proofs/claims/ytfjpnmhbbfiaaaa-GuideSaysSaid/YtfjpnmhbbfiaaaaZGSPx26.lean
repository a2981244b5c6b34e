-- Printed by xprint.py (wip): functions, contracts, rows. Lean checks it.
import Derived.Test.YtfjpnmhbbfiaaaaZGSMof
import Derived.Test.YtfjpnmhbbfiaaaaZGSMlst0
import Derived.Test.YtfjpnmhbbfiaaaaZGSMsh0
import Derived.Test.YtfjpnmhbbfiaaaaZGSPx0
import Derived.Test.YtfjpnmhbbfiaaaaZGSPx4
import Derived.Test.YtfjpnmhbbfiaaaaZGSPx18
namespace Go.Proofs.Ytfjpnmhbbfiaaaa.P
open Go Go.RowKit Go.Proofs.YtfjpnmhbbfiaaaaW.PrintWords Go.Proofs.YtfjpnmhbbfiaaaaW.PrintLast Go.Proofs.YtfjpnmhbbfiaaaaW.PrintMore Go.Proofs.Ytfjpnmhbbfiaaaa
attribute [local go_sem] max2_int min2_int max_two min_two max_three min_three max_four min_four   -- for this text's walks alone
set_option linter.unusedVariables false
set_option linter.unusedSimpArgs false

/-! ### guide_Shortest: function 41 -/
-- over guide_Least.calls
noncomputable def guide_Shortest.f (k : Nat) (l0_0 : List Bool) (l0_1 : List (S92)) : Option (ByteArray × Int) := (guide_Check.f k l0_0 l0_1).bind fun c => if c.2 = 0 then (mofG l0_0 l0_1).bind fun m => (Mach.shortG k m.1 m.2).bind fun r => some (r.elim ((⟨#[]⟩ : ByteArray), 152) (fun t => (strOfNums t, 0))) else some ((⟨#[]⟩ : ByteArray), c.2)
theorem guide_Shortest.mono : ∀ a0 a1 k, LeO (guide_Shortest.f k a0 a1) (guide_Shortest.f (k + 1) a0 a1) := fun a0 a1 k => by
  unfold guide_Shortest.f
  exact LeO.bind (guide_Check.mono a0 a1 k) (fun c => LeO.ite (LeO.bind (LeO.refl _) (fun m => LeO.bind (fun r h => Mach.shortG_mono h) (fun r => LeO.refl _))) (LeO.refl _))
set_option maxHeartbeats 8000000 in
set_option maxRecDepth 100000 in
theorem short_calls (k : Nat) (A0_0 : Option Addr) (c0_0 : Nat) (l0_0 : List Bool) (A0_1 : Option Addr) (c0_1 : Nat) (l0_1 : List (S92)) (w : World) (hr0_0 : Kd.C Kd.bool w A0_0 l0_0.length l0_0) (hc0_0 : l0_0.length ≤ c0_0) (hr0_1 : Kd.C k92 w A0_1 l0_1.length l0_1) (hc0_1 : l0_1.length ≤ c0_1) (d1 : Int) (hd : guide_Check.f k l0_0 l0_1 = some (d1, 0)) (hok : l0_0.length ≤ 64 ∧ l0_1.length ≤ 1024 ∧ ∀ e ∈ l0_1, Mach.EdOk l0_0.length e) (q : Option (List Int)) (h : Mach.shortG k (Mach.mrows l0_0 l0_1).1 (Mach.mrows l0_0 l0_1).2 = some q) :
    Calls Try.prog 41 #[.agg #[.slice A0_0 l0_0.length c0_0, .slice A0_1 l0_1.length c0_1]] w fun e w' => e = .returned (.tuple #[.string (q.elim ((⟨#[]⟩ : ByteArray), (152 : Int)) (fun t => (strOfNums t, 0))).1, .int .i64 (q.elim ((⟨#[]⟩ : ByteArray), (152 : Int)) (fun t => (strOfNums t, 0))).2]) ∧ Below w.heap.size w w' := by
  have hu25 := Try.underlying25
  have hu118 := Try.underlying118
  have HR0 := ym hr0_0
  have HC0 := ym hc0_0
  have HR1 := ym hr0_1
  have HC1 := ym hc0_1
  have HB := ym (Below.refl w.heap.size w)
  have HD := ym hd
  have HOK := ym hok
  obtain ⟨R, hR⟩ : ∃ R, R = (Mach.mrows l0_0 l0_1).1 := ⟨_, rfl⟩
  obtain ⟨A, hA⟩ : ∃ A, A = (Mach.mrows l0_0 l0_1).2 := ⟨_, rfl⟩
  rw [← hR, ← hA] at h
  unfold Mach.shortG at h
  by_cases hMa : Mach.Mach R A
  · rw [if_pos hMa] at h
    have HQ := ym h
    have HMA := ym hMa
    have HRR := ym hR
    have HAA := ym hA
    have hp := hMa.pos
    have hn := hMa.most
    clear hr0_0 hc0_0 hr0_1 hc0_1 hd hok h hR hA
    go_enter Try.func41, Try.ntmps41
    go_wp2_with (first | ((with_reducible refine gate_dst (N := 1) rfl ?_); go_loud (refine zb (N := 1) (cs := #[.slice A0_0 l0_0.length c0_0, .slice A0_1 l0_1.length c0_1]) (t := 25) ?_); go_loud (intro g1 hg1 w1 hbox hb1; have BG1 := ym hbox; replace HB := yN hb1; clear hg1 hbox hb1; have c10 := yW BG1 0; have c11 := yW BG1 1)) | (go_at_call 19; go_loud (refine (guide_Check.calls k _ _ l0_0 _ _ l0_1 d1 0 _ (Kd.C_below HR0.out HB.out) HC0.out (Kd.C_below HR1.out HB.out) HC1.out HD.out).mono ?_); rintro e w2 ⟨rfl, hb2⟩; replace BG1 := yQ BG1 hb2; replace HB := yN hb2; clear hb2 c10 c11; have c10 := yW BG1 0; have c11 := yW BG1 1) | (go_at_call 56; go_loud (refine (machineOf_calls _ _ _ l0_0 _ _ l0_1 (Kd.C_below HR0.out HB.out) HC0.out (Kd.C_below HR1.out HB.out) HC1.out HOK.out.1 HOK.out.2.1 HOK.out.2.2).mono ?_); rintro e w3 ⟨g, rfl, hM, hb3⟩; rw [← HRR.out, ← HAA.out] at hM; have HM := ym hM; replace HB := yN hb3; clear hM hb3 c10 c11 BG1; have HBW := HB; clear HB; have HB := ym (Below.refl w3.heap.size w3); obtain ⟨An, cn, Aa, ca, hbk, _⟩ := HM.out; have BK := ym hbk; clear hbk; have k0 := yW BK 0) | ((with_reducible refine gate_dst (N := 24) rfl ?_); go_loud (refine KeptS.map_event 119 3 9 ?hg ?ho ?_); (case hg => rfl); (case ho => rfl); go_loud (intro gm hgm w4 hS hb4; have SM := ym hS; have GEM := yE hgm; replace HB := ym hb4; clear hgm hS hb4 k0; have k0 := yW ⟨blk_below BK.out HB.out⟩ 0)) | ((with_reducible refine gate_ (Op.insert 119 (.tmp 24) (.tmp 28) (.const (.string ⟨#[]⟩))) rfl ?_); go_loud (refine KeptS.ins SM.out keyed3 _ _ _ 119 rfl rfl Try.underlying119 Try.underlying9 (by decide) rfl (.int .i64 0) rfl _ (key3 (by omega) (by omega)) (fun i h => by simp at h) ⟨#[]⟩ rfl (by decide) ?_); go_loud (intro w5 hS5 hg5; replace SM := ym hS5; replace HB := ym (pw_below_grown HB.out (some gm) (below_size HB.out) hg5 (fun k hk => by cases hk; exact GEM.out)); clear hS5 hg5 k0; have k0 := yW ⟨blk_below BK.out HB.out⟩ 0)) | ((with_reducible refine gate_dst (N := 34) rfl ?_); go_loud (refine zl (N := 34) (cs := #[.int .i64 0]) (t := 3) (n := 1) ?_); go_loud (intro g6 hg6 w6 hbox hb6; have HO6 := ym (R_int_lit hbox (base := w3.heap.size) (by rw [hg6]; exact below_size HB.out)); replace SM := ym (SM.out.below hb6); replace HB := yN hb6; clear hg6 hbox hb6 k0)))
    have HSH := ym (show SH w3 w6 gm (.slice (some ⟨g6, 0, none⟩) 1 1) 0 [(0, [])] (sk [(0, [])]) from ⟨Kd.Q_of_R HO6.out, SM.out, HB.out, GEM.out⟩)
    clear HO6 SM HB GEM
    have HF0 := ym (show (0 : Nat) ≤ [((0 : Int), ([] : List Int))].length ∧ ∀ p ∈ [((0 : Int), ([] : List Int))], Mach.In R.length p.1 from ⟨by simp, fun p hp => by rw [List.mem_singleton.1 hp]; exact ⟨by show (0 : Int) ≤ 0; omega, by show (0 : Int) < _; omega⟩⟩)
    go_loopg [8] k (fun kq v8 w' => ∃ (a : Nat) (F : List (Int × List Int)), Aside0 (Mach.shF (Mach.dR R) (Mach.aR A) kq a F = some q) ∧ Aside0 (kq ≤ k) ∧ Aside0 (a ≤ F.length ∧ ∀ p ∈ F, Mach.In R.length p.1) ∧ Aside0 (SH w3 w' gm v8 a F (sk F)))
    case atStart => exact ⟨0, [(0, [])], HQ, ⟨Nat.le_refl _⟩, HF0, HSH⟩
    case round =>
      clear HSH HQ HF0
      obtain ⟨a, F, HF, HK, HO, HSH⟩ := hrel
      cases gk with
      | zero => exact absurd HF.out (by simp [Mach.shF])
      | succ k1 =>
        have hf := HF.out
        rw [Mach.shF] at hf
        by_cases hsz : F.length ≤ 8192 ∧ (F.getD a (0, [])).2.length ≤ 8192
        · rw [if_pos hsz] at hf
          have HSZ := ym hsz
          clear HF hsz
          obtain ⟨wa, rfl⟩ : ∃ wa, wa = wr := ⟨_, rfl⟩
          obtain ⟨y, hy⟩ : ∃ y, y = (F.map Prod.fst).drop a := ⟨_, rfl⟩
          have hyl : y.length = F.length - a := by rw [hy]; simp
          have HY := ym hy
          have HYL := ym hyl
          have hq := HSH.out.que
          rw [← hy] at hq
          obtain ⟨Aq, cq, rfl, _⟩ := Kd.Q_slice hq
          have HQ := ym hq
          clear hq hy
          by_cases ha : a < F.length
          · rw [if_pos ha] at hf
            have p1 : ((y.length : Int) > 0) = True := eq_true (by omega)
            have p2 : (0 < y.length) = True := eq_true (by omega)
            have p3 : ((0 : Int) < (y.length : Int)) = True := eq_true (by omega)
            have p4 : ((1 : Int) ≤ (y.length : Int)) = True := eq_true (by omega)
            obtain ⟨p, hp'⟩ : ∃ p, p = F.getD a (0, []) := ⟨_, rfl⟩
            rw [← hp'] at hf
            have hpm : p ∈ F := by rw [hp', List.getD_eq_getElem?_getD, List.getElem?_eq_getElem ha]; exact List.getElem_mem ha
            have hpl : p.2.length ≤ 8192 := by rw [hp']; exact HSZ.out.2
            obtain ⟨ad, ea, hc0⟩ := Kd.at_int (Kd.Q_reads' HQ.out).2.2 0 (by omega) (by omega)
            subst ea
            have hc1 : wa.cell? ad = some (.int .i64 p.1) := by
              have e0 : (0 : Int).toNat = 0 := rfl
              rw [e0, Addr.add_zero'] at hc0
              rw [hc0]
              have hrd : rd y 0 = p.1 := by
                unfold rd
                rw [HY.out, hp', List.getD_eq_getElem?_getD, e0, List.getElem?_drop, List.getElem?_map, List.getD_eq_getElem?_getD]
                simp only [Nat.add_zero]
                rw [List.getElem?_eq_getElem ha]; rfl
              rw [hrd]
            have hin := HO.out.2 p hpm
            have HPM := ym hpm
            have HPL := ym hpl
            have HIN := ym hin
            have HA := ym ha
            obtain ⟨i0, hi0, _, hsz0, _⟩ := info_parts info3
            have hcut := cut_from (P := Try.prog) 53 3 .i64 Try.underlying53 hi0 1 hsz0 (some ad) y.length cq 1 (by omega) (by omega)
            have hr := Kd.Q_drop (k := (1 : Int).toNat) HQ.out (by have e0 : (1 : Int).toNat = 1 := rfl; omega)
            obtain ⟨A2, hA2⟩ : ∃ A1_, A1_ = (if cq = (1 : Int).toNat then (some ad) else ((some ad) : Option Addr).map (·.add ((1 : Int).toNat * 1))) := ⟨_, rfl⟩
            obtain ⟨c2, hc2⟩ : ∃ c1_, c1_ = cq - (1 : Int).toNat := ⟨_, rfl⟩
            obtain ⟨y2, hy2⟩ : ∃ y2, y2 = y.drop (1 : Int).toNat := ⟨_, rfl⟩
            have hyl2 : y2.length = y.length - (1 : Int).toNat := (by rw [hy2, List.length_drop])
            rw [← hy2] at hr
            rw [← hyl2, ← hA2, ← hc2] at hcut
            replace hr : Kd.Q (Kd.int .i64) 3 wa w3.heap.size (fun _ => True) (.slice A2 y2.length c2) y2 := (by rw [hA2, hc2, hyl2]; exact hr)
            have e2 : y2 = (F.map Prod.fst).drop (a + 1) := by
              rw [hy2, HY.out, List.drop_drop]; rfl
            rw [e2] at hr
            rw [← e2] at hr
            have hsh2 : SH w3 wa gm (.slice A2 y2.length c2) (a + 1) F (sk F) := ⟨by rw [← e2]; exact hr, HSH.out.map, HSH.out.bel, HSH.out.hm⟩
            have HSH2 := ym hsh2
            have HP' := ym hp'
            clear hsh2 hr hyl2 hy2 hc2 hA2 hi0 hsz0 hc0 hpm hpl hin hp' e2 HSH HQ HY ha hyl
            have htk := takes_calls wa (HM.out.below HSH2.out.bel) HMA.out.len p.1 (.inr HIN.out)
            by_cases hacc : Mach.aR A p.1 = true
            · rw [if_pos hacc] at hf
              have e := Option.some.inj hf
              subst e
              rw [hacc] at htk
              have HTK := ym htk
              clear hf hacc htk
              go_wp2_with (first | (go_at_call 67; go_loud (refine HTK.out.mono ?_); rintro e w' ⟨rfl, rfl⟩) | ((with_reducible refine gate_dst (N := 48) rfl ?_); go_loud (refine KeptS.get HSH2.out.map keyed3 _ _ 119 rfl rfl Try.underlying119 Try.underlying9 (fun _ => rfl) rfl (.int .i64 p.1) rfl _ (key3 (by have := HIN.out.1; omega) (by have := HIN.out.2; omega)) (strOfNums p.2) (List.mem_map.2 ⟨p, HPM.out, rfl⟩) ?_)))
              go_ret2
              exact ⟨rfl, below_then HBW.out HBW.out.size HSH2.out.bel⟩
            · rw [if_neg hacc] at hf
              have hacc' : Mach.aR A p.1 = false := by cases hq : Mach.aR A p.1; rfl; exact absurd hq hacc
              rw [hacc'] at htk
              have HTK := ym htk
              have HF := ym hf
              clear hf hacc hacc' htk
              go_wp2_with (first | (go_at_call 67; go_loud (refine HTK.out.mono ?_); rintro e w' ⟨rfl, rfl⟩))
              obtain ⟨st, hst⟩ : ∃ st, st = Mach.shR (Mach.dR R) p 256 F := ⟨_, rfl⟩
              have hf := HF.out
              rw [← hst] at hf
              replace HF := ym hf
              have HST := ym hst.symm
              have HW0 := ym (show F.length ≤ 8192 + 0 ∧ a < F.length ∧ (∀ p ∈ F, Mach.In R.length p.1) ∧ p ∈ F from ⟨HSZ.out.1, HA.out, HO.out.2, HPM.out⟩)
              obtain ⟨N, hN⟩ : ∃ N : Nat, N = 256 := ⟨256, rfl⟩
              have HN := ym hN
              clear hN hf hst HSZ HO HPM HP' hcut hc1 p1 p2 p3 p4
              go_loopw [8, 49] (fun v8 v49 w' => ∃ (x : Nat) (F : List (Int × List Int)), v49 = .int .i64 x ∧ Aside0 (x ≤ 256) ∧ Aside0 (Mach.shR (Mach.dR R) p (256 - x) F = st) ∧ Aside0 (F.length ≤ 8192 + x ∧ a < F.length ∧ (∀ p ∈ F, Mach.In R.length p.1) ∧ p ∈ F) ∧ Aside0 (SH w3 w' gm v8 (a + 1) F (sk F))) (fun v8 v49 w' => N - (intOf v49).toNat)
              case atStart => exact ⟨0, F, rfl, ⟨Nat.zero_le _⟩, HST, HW0, HSH2⟩
              case round =>
                clear HSH2 HST HW0
                obtain ⟨x, F, rfl, HX, HST, HW, HSH⟩ := hrel
                obtain ⟨wb, rfl⟩ : ∃ wb, wb = wr := ⟨_, rfl⟩
                have hx256 := HX.out
                by_cases hx : x < 256
                · have q1 : ((x : Int) < 256) = True := eq_true (by omega)
                  have q0 : ((0 : Int) ≤ (x : Int)) = True := eq_true (by omega)
                  have m8 : (x : Int) % 256 = (x : Int) := by omega
                  have HX1 := ym hx
                  have hbx : Mach.Byte (x : Int) := ⟨by omega, by omega⟩
                  obtain ⟨t, ht⟩ : ∃ t, t = Mach.dR R p.1 (x : Int) := ⟨_, rfl⟩
                  have hst : Mach.St R.length t := by rw [ht]; exact (HMA.out.rows.ok A).to_ _ _ HIN.out hbx
                  have hto := to_calls wb (HM.out.below HSH.out.bel) p.1 (x : Int) (.inr HIN.out) hbx
                  rw [← ht] at hto
                  have hnx : Mach.shR (Mach.dR R) p (256 - (x + 1)) (Mach.shB (Mach.dR R) p (x : Int) F) = st := by
                    have h := HST.out
                    obtain ⟨d, hd⟩ : ∃ d, 256 - x = d + 1 := ⟨256 - x - 1, by omega⟩
                    rw [hd, Mach.shR, show 256 - (d + 1) = x by omega] at h
                    rw [show 256 - (x + 1) = d by omega]
                    exact h
                  unfold Mach.shB at hnx
                  rw [← ht] at hnx
                  have HTO := ym hto
                  have HTS := ym hst
                  obtain ⟨fd, hfd⟩ : ∃ fd, fd = Mach.fnd F t := ⟨_, rfl⟩
                  rw [← hfd] at hnx
                  have HFD := ym hfd
                  have hbt : -1 ≤ t ∧ t ≤ 140737488355328 := by rcases hst with e | e; exact ⟨by omega, by omega⟩; exact ⟨by have := e.1; omega, by have := e.2; omega⟩
                  have HBT := ym hbt
                  clear hst HST ht hx hto hbx hfd hbt
                  by_cases hgo : t ≠ -1 ∧ fd = false
                  · rw [if_pos hgo] at hnx
                    have b2 : (t != -1) = true := bne_iff_ne.mpr hgo.1
                    have HNX := ym hnx
                    have HFF := ym hgo.2
                    have HGO := ym hgo.1
                    clear hnx hgo
                    go_wp2_with (first | (go_at_call 68; go_loud (refine HTO.out.mono ?_); rintro e w' ⟨rfl, rfl⟩) | ((with_reducible refine gate_dst (N := 59) rfl ?_); go_loud (refine KeptS.look HSH.out.map keyed3 _ _ 119 rfl rfl Try.underlying119 Try.underlying9 (fun _ => rfl) rfl (.int .i64 t) rfl _ (key3 HBT.out.1 HBT.out.2) ?_); go_loud (intro sc rr h1 h2; have hrr : rr = false := (by cases rr with | false => rfl | true => exact absurd (sk_says.1 (h1.1 rfl)) (by rw [← HFD.out, HFF.out]; decide)); subst hrr; clear h1 h2)) | ((with_reducible refine gate_dst (N := 72) rfl ?_); go_loud (refine KeptS.get HSH.out.map keyed3 _ _ 119 rfl rfl Try.underlying119 Try.underlying9 (fun _ => rfl) rfl (.int .i64 p.1) rfl _ (key3 (by have := HIN.out.1; omega) (by have := HIN.out.2; omega)) (strOfNums p.2) (List.mem_map.2 ⟨p, HW.out.2.2.2, rfl⟩) ?_)) | ((with_reducible refine gate_dst (N := 76) rfl ?_); go_loud (refine conv_event (x := (x : Int)) rfl (.tmp 75) rfl rfl (heap_alloc_new _ _) ?_); go_loud (have hSHa := HSH.out.below (below_alloc (Below.refl _ _) (.cells #[.int .u8 (x : Int)] 5 (0, 0))); replace HSH := ym hSHa; clear hSHa)) | ((with_reducible refine gate_dst (N := 77) rfl ?_); go_loud (refine add_event rfl (.tmp 72) (.tmp 76) rfl rfl rfl (by rw [strOfNums_size, strOfNums_size]; have := HPL.out; simp; omega) ?_); go_loud (rw [strOfNums_snoc])) | ((with_reducible refine gate_ (Op.mapUpdate 119 (.tmp 68) (.tmp 69) (.tmp 77)) rfl ?_); go_loud (refine KeptS.put HSH.out.map keyed3 _ _ _ 119 rfl rfl Try.underlying119 Try.underlying9 (by rw [sk_len]; have := HW.out.1; have := HX1.out; unfold maxLen; omega) rfl (.int .i64 t) rfl _ (key3 HBT.out.1 HBT.out.2) (fun i hi => by have h := sk_says.1 ⟨i, hi⟩; rw [← HFD.out, HFF.out] at h; cases h) (strOfNums (p.2 ++ [(x : Int)])) rfl (by rw [strOfNums_size, List.length_append]; have := HPL.out; unfold maxLen; simp; omega) ?_); go_loud (intro w7 hS7 hg7; rw [← sk_snoc] at hS7; replace HSH := ym (HSH.out.put hS7 hg7); clear hS7 hg7)) | ((with_reducible refine gate_builtin (b := .append) (xs := #[.tmp 78, .tmp 80]) rfl ?_); at_builtin; go_loud (refine HSH.out.app rfl (.tmp 78) (.tmp 80) rfl (t := t) (p.2 ++ [(x : Int)]) rfl (by first | (go_simp; done) | (go_simp; rfl)) (by have := HW.out.1; have := HX1.out; omega) HW.out.2.1 ?_); go_loud (intro vo w8 HSH8; replace HSH := ym HSH8; clear HSH8)))
                    go_roundw
                    case measure => exact mdec' (Nat.lt_of_lt_of_eq HX1.out HN.out.symm)
                    case rel => exact ⟨x + 1, F ++ [(t, p.2 ++ [(x : Int)])], rfl, ⟨HX1.out⟩, HNX, ⟨by rw [List.length_append]; have := HW.out.1; simp; omega, by rw [List.length_append]; have := HW.out.2.1; omega, fun y hy => by
                      rcases List.mem_append.1 hy with hy | hy
                      · exact HW.out.2.2.1 y hy
                      · rw [List.mem_singleton.1 hy]
                        rcases HTS.out with e | e
                        · exact absurd e HGO.out
                        · exact e, List.mem_append_left _ HW.out.2.2.2⟩, HSH⟩
                  · rw [if_neg hgo] at hnx
                    have HNX := ym hnx
                    clear hnx
                    by_cases hm : t = -1
                    · have b2 : (t != -1) = false := by rw [hm]; rfl
                      clear hm hgo
                      go_wp2_with (first | (go_at_call 68; go_loud (refine HTO.out.mono ?_); rintro e w' ⟨rfl, rfl⟩) | ((with_reducible refine gate_dst (N := 59) rfl ?_); go_loud (refine KeptS.look HSH.out.map keyed3 _ _ 119 rfl rfl Try.underlying119 Try.underlying9 (fun _ => rfl) rfl (.int .i64 t) rfl _ (key3 HBT.out.1 HBT.out.2) ?_); go_loud (intro sc rr h1 h2;  clear h1 h2)))
                      go_roundw
                      case measure => exact mdec' (Nat.lt_of_lt_of_eq HX1.out HN.out.symm)
                      case rel => exact ⟨x + 1, F, rfl, ⟨HX1.out⟩, HNX, ⟨by have := HW.out.1; omega, HW.out.2⟩, HSH⟩
                    · have b2 : (t != -1) = true := bne_iff_ne.mpr hm
                      have hfd1 : fd = true := by
                        cases hq : fd
                        · exact absurd ⟨hm, hq⟩ hgo
                        · rfl
                      have HFF := ym hfd1
                      clear hm hgo hfd1
                      go_wp2_with (first | (go_at_call 68; go_loud (refine HTO.out.mono ?_); rintro e w' ⟨rfl, rfl⟩) | ((with_reducible refine gate_dst (N := 59) rfl ?_); go_loud (refine KeptS.look HSH.out.map keyed3 _ _ 119 rfl rfl Try.underlying119 Try.underlying9 (fun _ => rfl) rfl (.int .i64 t) rfl _ (key3 HBT.out.1 HBT.out.2) ?_); go_loud (intro sc rr h1 h2; have hrr : rr = true := h1.2 (sk_says.2 (by rw [← HFD.out, HFF.out])); subst hrr; clear h1 h2)))
                      go_roundw
                      case measure => exact mdec' (Nat.lt_of_lt_of_eq HX1.out HN.out.symm)
                      case rel => exact ⟨x + 1, F, rfl, ⟨HX1.out⟩, HNX, ⟨by have := HW.out.1; omega, HW.out.2⟩, HSH⟩
                · obtain rfl : x = 256 := by omega
                  have e := HST.out
                  rw [Nat.sub_self, Mach.shR] at e
                  subst e
                  have q1 : (((256 : Nat) : Int) < 256) = False := eq_false (by omega)
                  clear hx hx256 HX HST
                  go_wp2
                  go_roundg k1
                  case measure => have := HK.out; omega
                  case rel => exact ⟨a + 1, F, HF, ⟨by have := HK.out; omega⟩, ⟨HW.out.2.1, HW.out.2.2.1⟩, HSH⟩
          · rw [if_neg ha] at hf
            have e := Option.some.inj hf
            subst e
            have p1 : ((y.length : Int) > 0) = False := eq_false (by omega)
            have p2 : (0 < y.length) = False := eq_false (by omega)
            have p3 : ((0 : Int) < (y.length : Int)) = False := eq_false (by omega)
            clear hf
            go_wp2
            go_ret2
            exact ⟨rfl, below_then HBW.out HBW.out.size HSH.out.bel⟩
        · rw [if_neg hsz] at hf; cases hf
  · rw [if_neg hMa] at h; cases h
set_option maxHeartbeats 8000000 in
set_option maxRecDepth 100000 in
theorem guide_Shortest.calls (k : Nat) (A0_0 : Option Addr) (c0_0 : Nat) (l0_0 : List Bool) (A0_1 : Option Addr) (c0_1 : Nat) (l0_1 : List (S92)) (r1 : ByteArray) (r2 : Int) (w : World) (hr0_0 : Kd.C Kd.bool w A0_0 l0_0.length l0_0) (hc0_0 : l0_0.length ≤ c0_0) (hr0_1 : Kd.C k92 w A0_1 l0_1.length l0_1) (hc0_1 : l0_1.length ≤ c0_1) (h : guide_Shortest.f k l0_0 l0_1 = some (r1, r2)) :
    Calls Try.prog 41 #[.agg #[.slice A0_0 l0_0.length c0_0, .slice A0_1 l0_1.length c0_1]] w fun e w' => e = .returned (.tuple #[.string r1, .int .i64 r2]) ∧ Below w.heap.size w w' := by
  unfold guide_Shortest.f at h
  obtain ⟨⟨d1, d2⟩, hd, hF⟩ := Option.bind_eq_some_iff.1 h
  by_cases e0 : d2 = 0
  · rw [if_pos e0] at hF
    subst e0
    obtain ⟨m, hm, hG⟩ := Option.bind_eq_some_iff.1 hF
    obtain ⟨q, hq, hE⟩ := Option.bind_eq_some_iff.1 hG
    unfold mofG at hm
    split at hm
    · rename_i hok
      have em := Option.some.inj hm
      subst em
      have e := Option.some.inj hE
      have e1 := congrArg Prod.fst e
      have e2 := congrArg Prod.snd e
      have e1' : (q.elim ((⟨#[]⟩ : ByteArray), (152 : Int)) (fun t => (strOfNums t, 0))).1 = r1 := e1
      have e2' : (q.elim ((⟨#[]⟩ : ByteArray), (152 : Int)) (fun t => (strOfNums t, 0))).2 = r2 := e2
      rw [← e1', ← e2']
      exact short_calls k A0_0 c0_0 l0_0 A0_1 c0_1 l0_1 w hr0_0 hc0_0 hr0_1 hc0_1 d1 hd hok q hq
    · cases hm
  · rw [if_neg e0] at hF
    have e1 := Option.some.inj hF
    cases e1
    have hu25 := Try.underlying25
    have HR0 := ym hr0_0
    have HC0 := ym hc0_0
    have HR1 := ym hr0_1
    have HC1 := ym hc0_1
    have HD := ym hd
    have HB := ym (Below.refl w.heap.size w)
    have b0 : (d2 != 0) = true := bne_iff_ne.mpr e0
    clear hF e0 h hr0_0 hc0_0 hr0_1 hc0_1 hd
    go_enter Try.func41, Try.ntmps41
    go_wp2_with (first | ((with_reducible refine gate_dst (N := 1) rfl ?_); go_loud (refine zb (N := 1) (cs := #[.slice A0_0 l0_0.length c0_0, .slice A0_1 l0_1.length c0_1]) (t := 25) ?_); go_loud (intro g1 hg1 w1 hbox hb1; have BG1 := ym hbox; replace HB := yN hb1; clear hg1 hbox hb1; have c10 := yW BG1 0; have c11 := yW BG1 1)) | (go_at_call 19; go_loud (refine (guide_Check.calls k _ _ l0_0 _ _ l0_1 d1 d2 _ (Kd.C_below HR0.out HB.out) HC0.out (Kd.C_below HR1.out HB.out) HC1.out HD.out).mono ?_); rintro e w2 ⟨rfl, hb2⟩; replace HB := yN hb2; clear hb2 c10 c11))
    go_ret2
    exact ⟨rfl, HB.out⟩

end Go.Proofs.Ytfjpnmhbbfiaaaa.P
