/- Two machines at one time: the walk through 'both'. On condition that the machines are in place and lead to states, and that the function value answers alike wherever it is called. -/
import Derived.Test.YtfjpnmhbbfiaaaaZGSMbo1
namespace Go.Proofs.Ytfjpnmhbbfiaaaa.P
open Go Go.RowKit Go.Proofs.YtfjpnmhbbfiaaaaW.PrintWords Go.Proofs.YtfjpnmhbbfiaaaaW.PrintLast Go.Proofs.YtfjpnmhbbfiaaaaW.PrintMore Go.Proofs.Ytfjpnmhbbfiaaaa
set_option linter.unusedVariables false
set_option linter.unusedSimpArgs false
def both.T5 : Bool × List (List Nat × List Nat) := (true, [([], []), ([], []), ([1], [1]), ([2], [2]), ([3], [3]), ([], []), ([5], [5]), ([6], [6]), ([7], [7]), ([4, 8], [4, 8]), ([0, 9], [0, 9])])
def both.B5 : List Nat := [0, 0, 2, 6, 14, 0, 32, 96, 224, 510, 1023]
theorem both.tab5 : rtab .any (opsOf Try.f77 5) = both.T5 := by kernel_rfl
theorem both.bits5 : waitsOk both.T5.2 both.B5 = true := by kernel_rfl
def both.T14 : Bool × List (List Nat × List Nat) := (true, [([], []), ([], []), ([], []), ([], []), ([3], [3]), ([], []), ([2, 4, 5], [2, 4, 5]), ([], []), ([], []), ([8], [8]), ([], []), ([7, 9, 10, 6], [7, 9, 10]), ([6, 11], [6, 11]), ([1, 12, 11], [1, 12]), ([0, 0, 1, 2, 3, 4, 5, 6, 7, 8, 9, 10, 11, 12, 13], [0]), ([14, 13, 13, 0, 1, 2, 3, 4, 5, 6, 7, 8, 9, 10, 11, 12, 13], [13, 14])])
def both.B14 : List Nat := [0, 0, 0, 0, 8, 0, 60, 0, 0, 256, 0, 2044, 4092, 8190, 16383, 32767]
theorem both.tab14 : rtab .any (opsOf Try.f77 14) = both.T14 := by kernel_rfl
theorem both.bits14 : waitsOk both.T14.2 both.B14 = true := by kernel_rfl
def both.T16 : Bool × List (List Nat × List Nat) := (true, [([], []), ([], []), ([1], [1]), ([2], [2]), ([3], [3]), ([], []), ([5], [5]), ([4, 6], [4, 6]), ([0, 0, 1, 2, 3, 4, 5, 6, 7], [0]), ([8, 0, 1, 2, 3, 4, 5, 6, 7], [8]), ([9, 7, 7, 0, 1, 2, 3, 4, 5, 6, 7], [7, 9])])
def both.B16 : List Nat := [0, 0, 2, 6, 14, 0, 32, 126, 255, 511, 1023]
theorem both.tab16 : rtab .any (opsOf Try.f77 16) = both.T16 := by kernel_rfl
theorem both.bits16 : waitsOk both.T16.2 both.B16 = true := by kernel_rfl
def both.T17 : Bool × List (List Nat × List Nat) := (true, [([], []), ([], []), ([1], [1]), ([2], [2]), ([3], [3]), ([], []), ([], []), ([], []), ([7], [7]), ([6, 8], [6, 8]), ([], []), ([], []), ([11], [11]), ([10, 12, 9], [10, 12]), ([5, 9, 13, 13], [5, 9, 13]), ([14], [14]), ([4, 15, 14], [4, 15]), ([0, 0, 1, 2, 3, 4, 5, 6, 7, 8, 9, 10, 11, 12, 13, 14, 15, 16], [0]), ([17, 0, 1, 2, 3, 4, 5, 6, 7, 8, 9, 10, 11, 12, 13, 14, 15, 16], [17]), ([18, 16, 16, 0, 1, 2, 3, 4, 5, 6, 7, 8, 9, 10, 11, 12, 13, 14, 15, 16], [16, 18])])
def both.B17 : List Nat := [0, 0, 2, 6, 14, 0, 0, 0, 128, 448, 0, 0, 2048, 8128, 16352, 32736, 65534, 131071, 262143, 524287]
theorem both.tab17 : rtab .any (opsOf Try.f77 17) = both.T17 := by kernel_rfl
theorem both.bits17 : waitsOk both.T17.2 both.B17 = true := by kernel_rfl
set_option maxHeartbeats 8000000 in
set_option maxRecDepth 100000 in
theorem both_calls (k : Nat) (w : World) {ga gb : Nat} {Ra : List (List Int)} {Aa : List Bool} {Rb : List (List Int)} {Ab : List Bool} (hMa : Mac w ga Ra Aa) (hMb : Mac w gb Rb Ab) (fi : FuncId) {fn : Func} (hfi : Try.prog.funcs[fi]? = some fn) (hnm : (fn.name == "runtime.NumGoroutine") = false) (hbd : fn.body.isSome = true) (is : Bool → Bool → Bool)
    (hIs : ∀ (x y : Bool) (W : World), Calls Try.prog fi #[.bool x, .bool y] W fun e w' => e = .returned (.bool (is x y)) ∧ w' = W) (r : List (List Int) × List Bool) (h : Mach.bothG k Ra Aa Rb Ab is = some r) :
    Calls Try.prog 77 #[.pointer (some ⟨ga, 0, none⟩), .pointer (some ⟨gb, 0, none⟩), .func (.func fi) #[] #[]] w fun e w' => ∃ g, e = .returned (.pointer (some ⟨g, 0, none⟩)) ∧ Mac w' g r.1 r.2 ∧ Below w.heap.size w w' := by
  have hu118 := Try.underlying118
  have hu129 := Try.underlying129
  have hu140 := Try.underlying140
  have hmf : ∀ (fn : Fn) (first cap : Array Value) (w : World), (Instr.makeFunc fn first cap).run Try.prog w = .ok (.func fn first cap) w := fun _ _ _ _ => rfl
  unfold Mach.bothG at h
  by_cases hMM : Mach.Mach Ra Aa ∧ Mach.Mach Rb Ab
  · rw [if_pos hMM] at h
    obtain ⟨q, hq, hr⟩ := Option.bind_eq_some_iff.1 h
    clear h
    have e := Option.some.inj hr
    subst e
    have HFI := ym hfi
    have HNM := ym hnm
    have HBD := ym hbd
    have HIS := ym hIs
    have HQ := ym hq
    have HMA := ym hMa
    have HMB := ym hMb
    have HMM := ym hMM
    have HB := ym (Below.refl w.heap.size w)
    clear hr hq hIs hfi hnm hbd hMa hMb hMM
    go_enter Try.func77, Try.ntmps77
    go_wp2_with (first
      | ((with_reducible refine gate_dst (N := 16) rfl ?_); go_loud (refine zb (N := 16) (cs := #[.int .i64 0, .slice none 0 0, .slice none 0 0]) (t := 118) ?_); go_loud (intro gM hgM w1 hbox hb1; have BGM := ym hbox; have GEM := yE hgM; replace HB := yN hb1; clear hgM hbox hb1))
      | ((with_reducible refine gate_dst (N := 17) rfl ?_); go_loud (refine Kept.map_event 139 140 3 ?hg ?ho ?_); (case hg => rfl); (case ho => rfl); go_loud (intro gm hgm w2 hS hb2; have SM := ym hS; have GEm := yE hgm; replace BGM := yQ BGM hb2; replace HB := yN hb2; clear hgm hS hb2))
      | ((with_reducible refine gate_dst (N := 8) rfl ?_); go_loud (refine zb (N := 8) (cs := #[.map none]) (t := 139) ?_); go_loud (intro gP hgP w3 hbox hb3; have BGP := ym hbox; have GEP := yE hgP; replace SM := ym (SM.out.below hb3); replace BGM := yQ BGM hb3; replace HB := yN hb3; clear hgP hbox hb3; have cP := yW BGP 0; have fP := yv BGP.out 0))
      | ((with_reducible refine gate_store (t := 139) (p := 8) rfl ?_); go_loud (refine store_event (t := 139) (p := 8) (v := ?vo) (w1 := w3.setCell ⟨gP, 0, none⟩ (.map (some gm))) ?hg ?ho ?hn ?hr ?_); (case ho => rfl); (case hg => rfl); (case hn => rfl); (case hr => first | (go_simp; done) | (go_simp; rfl)); go_loud (intro w4 hw4; have hg4 := grown_set w3 gP 0 (.map (some gm)); have hb4 := blk_set BGP.out 0 (.map (some gm)); rw [← hw4] at hg4 hb4; have hT := rowt_blk BGP.out; replace SM := ym (kept_row SM.out hg4 hT (by decide)); replace BGM := ym (blk_row BGM.out hg4 hT (by decide)); replace HB := ym (pw_below_grown HB.out _ (below_size HB.out) hg4 (fun k hk => by cases hk; exact GEP.out)); replace BGP := ym hb4; clear hw4 hg4 hb4 hT cP fP))
      | ((with_reducible refine gate_dst (N := 9) rfl ?_); go_loud (refine zb (N := 9) (cs := #[.slice none 0 0]) (t := 152) ?_); go_loud (intro gO hgO w5 hbox hb5; have BGO := ym hbox; have GEO := yE hgO; replace SM := ym (SM.out.below hb5); replace BGM := yQ BGM hb5; replace BGP := yQ BGP hb5; replace HB := yN hb5; clear hgO hbox hb5)))
    have HBS := ym (show BS w w5 gM gP gO gm (fun _ => True) (fun _ => True) (.slice none 0 0) (.slice none 0 0) (.slice none 0 0) (.slice none 0 0) (.slice none 0 0) [] [] [] from ⟨⟨BGP.out, BGO.out, SM.out, Kd.R_nil _ _ _ _ _⟩, BGM.out, Kd.R_nil _ _ _ _ _, Kd.R_nil _ _ _ _ _, HB.out, GEM.out, GEP.out, GEO.out, GEm.out⟩)
    clear BGM BGP BGO SM GEM GEP GEO GEm HB
    obtain ⟨_, _, _, _, hba, _⟩ := HMA.out
    obtain ⟨_, _, _, _, hbb, _⟩ := HMB.out
    have BA := ym hba
    have BB := ym hbb
    clear hba hbb
    refine start_ (n := 11) (S := fun w' => w'.cell? ⟨ga, 0, none⟩ = some (.int .i64 0) ∧ w'.cell? ⟨gb, 0, none⟩ = some (.int .i64 0)) (ds := []) #[false, false, false, false, false, false, false, false, false, false, false] (by kernel_rfl) rfl rfl ⟨yW ⟨blk_below BA.out HBS.out.bel⟩ 0, yW ⟨blk_below BB.out HBS.out.bel⟩ 0⟩ (fun hHeld => ?_)
    refine with_tabW both.tab5 both.bits5 (fun HT_ HW_ => ?_)
    replace HBS := ym HBS.out.drew
    generalize w5.drew = wd at HBS hHeld ⊢
    refine zt (i := 0) (N := some 19) HT_ ?_
    refine zt (i := 1) (N := some 20) HT_ ?_
    refine zt (i := 2) (N := some 21) HT_ ?_
    refine zt (i := 3) (N := some 22) HT_ ?_
    refine zw (i := 4) (N := some 23) HT_ HW_ hHeld ?_ (hv := (by rintro w' ⟨s0, s1⟩; go_simp; with_reducible rfl))
    refine zt (i := 5) (N := some 24) HT_ ?_
    refine zt (i := 6) (N := some 25) HT_ ?_
    refine zt (i := 7) (N := some 26) HT_ ?_
    refine zw (i := 8) (N := some 27) HT_ HW_ hHeld ?_ (hv := (by rintro w' ⟨s0, s1⟩; go_simp; with_reducible rfl))
    refine zt (i := 9) (N := some 28) HT_ ?_
    refine one_ (i := 10) (N := some 29) #[i_, i_, i_, i_, i_, i_, i_, i_, i_, i_, i_] rfl rfl (one_of HT_.out (by kernel_rfl)) (by decide) (fun K hK => ?_)
    refine goesV_ (f := 80) #[.pointer (some ⟨gP, 0, none⟩), .pointer (some ⟨gO, 0, none⟩)] Try.func80 (by kernel_rfl) rfl #[.agg #[.int .i64 0, .int .i64 0]] #[.agg #[.int .i64 0, .int .i64 0], .pointer (some ⟨gP, 0, none⟩), .pointer (some ⟨gO, 0, none⟩)] (by rfl) rfl rfl rfl (by simp only [List.map_toArray, List.map_cons, List.map_nil]; rfl) (by simp) ?_
    refine (place_calls wd HBS.out.ps (fun _ _ => trivial) HBS.out.bel.size (by simp) (0, 0) ⟨by decide, by decide⟩ ⟨by decide, by decide⟩).mono ?_
    rintro e w6 ⟨v6, rfl, hp6, hm6⟩
    refine ⟨_, rfl, ?_⟩
    replace HBS := ym (HBS.out.place hp6 hm6)
    refine hK.out _ _ ⟨yW ⟨blk_below BA.out HBS.out.bel⟩ 0, yW ⟨blk_below BB.out HBS.out.bel⟩ 0⟩ (fun hHeld => ?_)
    clear hK K hp6 hm6
    refine norm_ (a' := ?_) ?_ ?_
    rotate_left
    · show Act.put _ (some 29) _ = _
      simp only [Act.put, y0, y1]
      rfl
    refine done_ (done_of HT_.out (by kernel_rfl)) ?_
    clear HT_ HW_ hHeld
    go_wp2
    have HO0 := ym (show (0 : Nat) ≤ [((0, 0) : Int × Int)].length ∧ ∀ p ∈ [((0, 0) : Int × Int)], Mach.St Ra.length p.1 ∧ Mach.St Rb.length p.2 from ⟨by simp, fun p hp => by
      rw [List.mem_singleton.1 hp]
      have h1 := HMM.out.1.pos
      have h2 := HMM.out.2.pos
      exact ⟨.inr ⟨by omega, by show (0 : Int) < _; omega⟩, .inr ⟨by omega, by show (0 : Int) < _; omega⟩⟩⟩)
    go_loopg [11] k (fun kq v11 w' => ∃ (a : Nat) (o : List (Int × Int)) (R : List (List Int)) (A : List Bool) (vO vN vA : Value), v11 = .int .i64 a ∧ Aside0 (Mach.bothF (Mach.dR Ra) (Mach.dR Rb) (fun p q => is (Mach.aR Aa p) (Mach.aR Ab q)) kq a o R A = some q) ∧ Aside0 (kq ≤ k) ∧ Aside0 (a ≤ o.length ∧ ∀ p ∈ o, Mach.St Ra.length p.1 ∧ Mach.St Rb.length p.2) ∧ Aside0 (BS w w' gM gP gO gm (fun _ => True) (fun _ => True) vN vA vO vN vA o R A))
    case atStart => exact ⟨0, [(0, 0)], [], [], _, _, _, rfl, HQ, ⟨Nat.le_refl _⟩, HO0, HBS⟩
    case round =>
      clear HBS HQ HO0
      obtain ⟨a, o, R, A, vO, vN, vA, rfl, HF, HK, HO, HBS⟩ := hrel
      cases gk with
      | zero => exact absurd HF.out (by simp [Mach.bothF])
      | succ k1 =>
        have hf := HF.out
        rw [Mach.bothF] at hf
        by_cases hsz : o.length ≤ 8192 ∧ R.length ≤ 8192 ∧ A.length ≤ 8192
        · rw [if_pos hsz] at hf
          have HSZ := ym hsz
          clear HF hsz
          obtain ⟨wa, rfl⟩ : ∃ wa, wa = wr := ⟨_, rfl⟩
          have cO := yW ⟨HBS.out.ps.bO⟩ 0
          by_cases ha : a < o.length
          · rw [if_pos ha] at hf
            have HA := ym ha
            have p1 : ((a : Int) < (o.length : Int)) = True := eq_true (by omega)
            have p0 : ((0 : Int) ≤ (a : Int)) = True := eq_true (by omega)
            obtain ⟨go, co, rfl, hgo, hgo2, _⟩ := Kd.R_form HBS.out.ps.ord (by omega)
            obtain ⟨e1, e2⟩ := R140_cell HBS.out.ps.ord ha
            obtain ⟨p, hp⟩ : ∃ p, p = o.getD a (0, 0) := ⟨_, rfl⟩
            rw [← hp] at e1 e2 hf
            have HF := ym hf
            have hpin := HO.out.2 p (by rw [hp, List.getD_eq_getElem?_getD, List.getElem?_eq_getElem ha]; exact List.getElem_mem ha)
            have HPI := ym hpin
            clear hf ha hp hpin hgo hgo2
            go_wp2_with (first
              | ((with_reducible refine gate_dst (N := 12) rfl ?_); go_loud (refine zb (N := 12) (cs := #[.int .i64 0, .int .i64 0]) (t := 140) ?_); go_loud (intro g12 hg12 w1 hbox hb1; have GE12 := ym (show w.heap.size ≤ g12 by rw [hg12]; exact HBS.out.bel.size); replace HBS := ym ((HBS.out.elderO hg12).below hb1); have BG12 := ym hbox; clear hg12 hbox hb1 e1 e2 cO))
              | ((with_reducible refine gate_store (t := 140) (p := 12) rfl ?_); go_loud (refine Arr.wpList_store_row rfl 140 _ _ rfl g12 #[.int .i64 p.1, .int .i64 p.2] rfl rfl 140 _ BG12.out (by kernel_rfl) rfl (by simp [Value.oneCell']) ?_); go_loud (obtain ⟨w2, hw2⟩ : ∃ w2, w2 = w1.setRow g12 #[.int .i64 p.1, .int .i64 p.2] := ⟨_, rfl⟩; rw [← hw2]; have hg2 : w1.grownBy w2 (some g12) := (by rw [hw2]; exact grown_setRow _ _ _); have hb2 : w2.heap[g12]? = some (.cells #[.int .i64 p.1, .int .i64 p.2] 140 (0, 0)) := (by rw [hw2]; exact setRow_heap _ _ _ _ _ _ BG12.out); replace HBS := ym (HBS.out.far140 BG12.out hg2 (fun _ h => h) GE12.out); replace BG12 := ym hb2; clear hw2 hg2 hb2))
              | ((with_reducible refine gate_dst (N := 13) rfl ?_); go_loud (refine zb (N := 13) (cs := Try.zeroCells129) (t := 129) ?_); go_loud (intro g13 hg13 w3 hbox hb3; have GE13 := ym (show w.heap.size ≤ g13 by rw [hg13]; exact HBS.out.bel.size); replace HBS := ym ((HBS.out.elderN hg13).below hb3); have BG13 := ym (show w3.heap[g13]? = some (.cells (encs (Value.int .i64) Mach.zeros).toArray 129 (0, 0)) from by rw [← zeros_cells]; exact hbox); replace BG12 := yQ BG12 hb3; clear hg13 hbox hb3)))
            obtain ⟨st, hst⟩ : ∃ st, st = Mach.bothR (Mach.dR Ra) (Mach.dR Rb) p 256 (o, Mach.zeros) := ⟨_, rfl⟩
            have hf := HF.out
            rw [← hst] at hf
            replace HF := ym hf
            have HST := ym hst.symm
            have HW0 := ym (show Mach.zeros.length = 256 ∧ o.length ≤ 8192 + 0 ∧ a < o.length ∧ ∀ p ∈ o, Mach.St Ra.length p.1 ∧ Mach.St Rb.length p.2 from ⟨List.length_replicate, HSZ.out.1, HA.out, HO.out.2⟩)
            obtain ⟨N, hN⟩ : ∃ N : Nat, N = 256 := ⟨256, rfl⟩
            have HN := ym hN
            clear hN hf hst HO
            go_loopw [40] (fun v40 w' => ∃ (x : Nat) (o : List (Int × Int)) (r : List Int) (vO : Value), v40 = .int .i64 x ∧ Aside0 (x ≤ 256) ∧ Aside0 (Mach.bothR (Mach.dR Ra) (Mach.dR Rb) p (256 - x) (o, r) = st) ∧ Aside0 (r.length = 256 ∧ o.length ≤ 8192 + x ∧ a < o.length ∧ ∀ p ∈ o, Mach.St Ra.length p.1 ∧ Mach.St Rb.length p.2) ∧ Aside0 (BS w w' gM gP gO gm (fun k => k ≠ g12) (fun k => k ≠ g13) vN vA vO vN vA o R A) ∧ Aside0 (w'.heap[g12]? = some (.cells #[.int .i64 p.1, .int .i64 p.2] 140 (0, 0))) ∧ Aside0 (w'.heap[g13]? = some (.cells (encs (Value.int .i64) r).toArray 129 (0, 0)))) (fun v40 w' => N - (intOf v40).toNat)
            case atStart => exact ⟨0, o, Mach.zeros, _, rfl, ⟨Nat.zero_le _⟩, HST, HW0, HBS, BG12, BG13⟩
            case round =>
              clear HBS HST HW0 BG12 BG13
              obtain ⟨x, o, r, vO, rfl, HX, HST, HW, HBS, BG12, BG13⟩ := hrel
              obtain ⟨wb, rfl⟩ : ∃ wb, wb = wr := ⟨_, rfl⟩
              have hx256 := HX.out
              by_cases hx : x < 256
              · have q1 : ((x : Int) < 256) = True := eq_true (by omega)
                have q0 : ((0 : Int) ≤ (x : Int)) = True := eq_true (by omega)
                have HX1 := ym hx
                obtain ⟨t, ht⟩ : ∃ t : Int × Int, t = (Mach.dR Ra p.1 (x : Int), Mach.dR Rb p.2 (x : Int)) := ⟨_, rfl⟩
                have ht1 : Mach.dR Ra p.1 (x : Int) = t.1 := by rw [ht]
                have ht2 : Mach.dR Rb p.2 (x : Int) = t.2 := by rw [ht]
                have hbx : Mach.Byte (x : Int) := ⟨by omega, by omega⟩
                have hs1 : Mach.St Ra.length t.1 := by rw [← ht1]; exact (HMM.out.1.rows.ok Aa).st HPI.out.1 hbx
                have hs2 : Mach.St Rb.length t.2 := by rw [← ht2]; exact (HMM.out.2.rows.ok Ab).st HPI.out.2 hbx
                have hnx : Mach.bothR (Mach.dR Ra) (Mach.dR Rb) p (256 - (x + 1)) (plo t o, r.set x (Mach.ix t o : Int)) = st := by
                  have h := HST.out
                  obtain ⟨d, hd⟩ : ∃ d, 256 - x = d + 1 := ⟨256 - x - 1, by omega⟩
                  rw [hd, Mach.bothR, show 256 - (d + 1) = x by omega] at h
                  rw [show 256 - (x + 1) = d by omega]
                  unfold Mach.bothB at h
                  rw [ht1, ht2, Int.toNat_natCast] at h
                  exact h
                have HNX := ym hnx
                have HT1 := ym ht1
                have HT2 := ym ht2
                have HS1 := ym hs1
                have HS2 := ym hs2
                have HBX := ym hbx
                clear hnx HST ht ht1 ht2 hs1 hs2 hbx hx
                go_wp2
                refine start_ (n := 16) (S := fun w' => w'.cell? ⟨g12, 0, none⟩ = some (.int .i64 p.1) ∧ w'.cell? ⟨g12, 1, none⟩ = some (.int .i64 p.2)) (ds := [15]) #[false, false, false, false, false, false, false, false, false, false, false, false, false, false, false, false] (by kernel_rfl) rfl rfl ⟨yW BG12 0, yW BG12 1⟩ (fun hHeld => ?_)
                refine with_tabW both.tab14 both.bits14 (fun HT_ HW_ => ?_)
                replace HBS := ym HBS.out.drew
                replace BG12 := ym (yt BG12.out)
                replace BG13 := ym (yt BG13.out)
                generalize wb.drew = wd at HBS BG12 BG13 hHeld ⊢
                refine zt (i := 0) (N := some 43) HT_ ?_
                refine zt (i := 1) (N := some 44) HT_ ?_
                refine zt (i := 2) (N := some 45) HT_ ?_
                refine zt (i := 3) (N := some 46) HT_ ?_
                refine zt (i := 5) (N := some 48) HT_ ?_
                refine zt (i := 7) (N := some 50) HT_ ?_
                refine zt (i := 8) (N := some 51) HT_ ?_
                refine zt (i := 10) (N := some 53) HT_ ?_
                refine zw (i := 4) (N := some 47) HT_ HW_ hHeld ?_ (hv := (by rintro w' ⟨s0, s1⟩; go_simp; with_reducible rfl))
                refine zw (i := 9) (N := some 52) HT_ HW_ hHeld ?_ (hv := (by rintro w' ⟨s0, s1⟩; go_simp; with_reducible rfl))
                refine one_ (i := 6) (N := some 49) #[i_, i_, i_, i_, i_, i_, i_, i_, i_, i_, i_, o_, o_, o_, o_, o_] rfl rfl (one_of HT_.out (by kernel_rfl)) (by decide) (fun K hK => ?_)
                refine goes_ (f := 68) Try.func68 (by kernel_rfl) rfl #[.pointer (some ⟨ga, 0, none⟩), .int .i64 p.1, .int .i64 (x : Int)] (by rfl) rfl rfl (by simp only [List.map_toArray, List.map_cons, List.map_nil]; rfl) ?_
                refine (to_calls wd (HMA.out.below HBS.out.bel) p.1 (x : Int) HPI.out.1 HBX.out).mono ?_
                rintro e w' ⟨rfl, rfl⟩
                refine ⟨_, rfl, ?_⟩
                rw [HT1.out]
                refine hK.out _ _ hHeld (fun hHeld => ?_)
                clear hK K
                refine norm_ (a' := ?_) ?_ ?_
                rotate_left
                · show Act.put _ (some 49) _ = _
                  simp only [Act.put, y0, y1]
                  rfl
                refine one_ (i := 11) (N := some 54) #[i_, i_, i_, i_, i_, i_, i_, i_, i_, i_, i_, i_, o_, o_, o_, o_] rfl rfl (one_of HT_.out (by kernel_rfl)) (by decide) (fun K hK => ?_)
                refine goes_ (f := 68) Try.func68 (by kernel_rfl) rfl #[.pointer (some ⟨gb, 0, none⟩), .int .i64 p.2, .int .i64 (x : Int)] (by rfl) rfl rfl (by simp only [List.map_toArray, List.map_cons, List.map_nil]; rfl) ?_
                refine (to_calls _ (HMB.out.below HBS.out.bel) p.2 (x : Int) HPI.out.2 HBX.out).mono ?_
                rintro e w' ⟨rfl, rfl⟩
                refine ⟨_, rfl, ?_⟩
                rw [HT2.out]
                refine hK.out _ _ hHeld (fun hHeld => ?_)
                clear hK K
                refine norm_ (a' := ?_) ?_ ?_
                rotate_left
                · show Act.put _ (some 54) _ = _
                  simp only [Act.put, y0, y1]
                  rfl
                refine zt (i := 12) (N := some 55) HT_ ?_
                refine one_ (i := 13) (N := some 56) #[i_, i_, i_, i_, i_, i_, i_, i_, i_, i_, i_, i_, i_, i_, o_, o_] rfl rfl (one_of HT_.out (by kernel_rfl)) (by decide) (fun K hK => ?_)
                refine goesV_ (f := 80) #[.pointer (some ⟨gP, 0, none⟩), .pointer (some ⟨gO, 0, none⟩)] Try.func80 (by kernel_rfl) rfl #[.agg #[.int .i64 t.1, .int .i64 t.2]] #[.agg #[.int .i64 t.1, .int .i64 t.2], .pointer (some ⟨gP, 0, none⟩), .pointer (some ⟨gO, 0, none⟩)] (by rfl) rfl rfl rfl (by simp only [List.map_toArray, List.map_cons, List.map_nil]; rfl) (by simp) ?_
                have hbd : ∀ {n : Nat} {s : Int}, n ≤ 8192 → Mach.St n s → -1 ≤ s ∧ s ≤ 140737488355328 := fun hn hs => by
                  rcases hs with rfl | ⟨h1, h2⟩ <;> omega
                refine (place_calls _ HBS.out.ps (fun k hk => by have := blk_lt BG12.out; omega) HBS.out.bel.size (by have := HW.out.2.1; have := HX1.out; omega) t (hbd HMM.out.1.most HS1.out) (hbd HMM.out.2.most HS2.out)).mono ?_
                rintro e w6 ⟨v6, rfl, hp6, hm6⟩
                refine ⟨_, rfl, ?_⟩
                replace BG12 := ym (blk_mv BG12.out hm6 (by
                  rintro (e | e | e)
                  · obtain ⟨ob, h3, h4⟩ := kept_map HBS.out.ps.map
                    rw [← e, BG12.out] at h3
                    cases h3
                    cases h4
                  · exact absurd e (blk_ne BG12.out HBS.out.ps.bO (by decide))
                  · exact Kd.R_away HBS.out.ps.ord (fun _ h => h) e))
                replace BG13 := ym (blk_mv BG13.out hm6 (HBS.out.ps.none BG13.out (by decide) (by decide)))
                replace HBS := ym (HBS.out.place hp6 hm6)
                refine hK.out _ _ ⟨yW BG12 0, yW BG12 1⟩ (fun hHeld => ?_)
                clear hK K hp6 hm6 hbd
                refine norm_ (a' := ?_) ?_ ?_
                rotate_left
                · show Act.put _ (some 56) _ = _
                  simp only [Act.put, y0, y1]
                  rfl
                refine zt (i := 14) (N := some 57) HT_ ?_
                obtain ⟨z, hz⟩ : ∃ z : Int, z = (Mach.ix t o : Int) := ⟨_, rfl⟩
                rw [← hz] at HNX ⊢
                have c13 : w6.cell? ⟨g13, x, none⟩ = some (.int .i64 (r.getD x 0)) := (blk_cell BG13.out x).trans (by
                  rw [List.getElem?_toArray]
                  exact encs_get (d := (0 : Int)) r x (by have := HW.out.1; have := HX1.out; omega))
                have f13 := blk_frozen BG13.out x
                clear hz
                refine last_ (i := 15) (N := none) #[i_, i_, i_, i_, i_, i_, i_, i_, i_, i_, i_, i_, i_, i_, i_, i_] rfl rfl (one_of HT_.out (by kernel_rfl)) (by decide) (fun K hK => ?_)
                refine skip_step (w1 := w6.setCell ⟨g13, x, none⟩ (.int .i64 z)) ?hw ?hrun ?_
                case hw => rfl
                case hrun => first | (go_simp; done) | (go_simp; rfl)
                have hg7 := grown_set w6 g13 x (.int .i64 z)
                have hb7 := blk_set BG13.out x (.int .i64 z)
                rw [encs_set] at hb7
                generalize w6.setCell ⟨g13, x, none⟩ (.int .i64 z) = w7 at hg7 hb7 ⊢
                replace HBS := ym (HBS.out.far129 BG13.out hg7 (fun _ h => h) GE13.out)
                replace BG12 := ym (blk_row BG12.out hg7 (rowt_blk BG13.out) (by decide))
                replace BG13 := ym hb7
                refine hK.out _ _ ?_
                clear hK K hg7 hb7 c13 f13
                refine norm_ (a' := ?_) ?_ ?_
                rotate_left
                · show Act.put _ none _ = _
                  rfl
                refine done_ (done_of HT_.out (by kernel_rfl)) ?_
                clear HT_ HW_ hHeld
                go_wp2
                go_roundw
                case measure => exact mdec' (Nat.lt_of_lt_of_eq HX1.out HN.out.symm)
                case rel => exact ⟨x + 1, plo t o, r.set x z, _, rfl, ⟨HX1.out⟩, HNX, ⟨by rw [List.length_set]; exact HW.out.1, by
                  have := HW.out.2.1
                  unfold plo
                  split
                  · rw [List.length_append]; simp; omega
                  · omega, by
                  have := HW.out.2.2.1
                  unfold plo
                  split
                  · rw [List.length_append]; omega
                  · exact this, by
                  unfold plo
                  split
                  · intro y hy
                    rcases List.mem_append.1 hy with hy | hy
                    · exact HW.out.2.2.2 y hy
                    · rw [List.mem_singleton.1 hy]; exact ⟨HS1.out, HS2.out⟩
                  · exact HW.out.2.2.2⟩, HBS, BG12, BG13⟩
              · obtain rfl : x = 256 := by omega
                have e := HST.out
                rw [Nat.sub_self, Mach.bothR] at e
                subst e
                have q1 : (((256 : Nat) : Int) < 256) = False := eq_false (by omega)
                clear hx hx256 HX HST
                go_wp2
                obtain ⟨AN, cN, eN⟩ := Kd.R_slice HBS.out.nxt
                subst eN
                refine start_ (n := 11) (S := fun w' => w'.cell? ⟨gM, 1, none⟩ = some (.slice AN R.length cN) ∧ w'.heap[g13]? = some (.cells (encs (Value.int .i64) r).toArray 129 (0, 0))) (ds := [10]) #[false, false, false, false, false, false, false, false, false, false, false] (by kernel_rfl) rfl rfl ⟨yW ⟨HBS.out.bM⟩ 1, BG13.out⟩ (fun hHeld => ?_)
                refine with_tabW both.tab16 both.bits16 (fun HT_ HW_ => ?_)
                replace HBS := ym HBS.out.drew
                replace BG12 := ym (yt BG12.out)
                replace BG13 := ym (yt BG13.out)
                generalize wb.drew = wd at HBS BG12 BG13 hHeld ⊢
                refine zt (i := 0) (N := some 59) HT_ ?_
                refine zt (i := 1) (N := some 60) HT_ ?_
                refine zt (i := 2) (N := some 61) HT_ ?_
                refine zt (i := 3) (N := some 62) HT_ ?_
                refine zw (i := 4) (N := some 63) HT_ HW_ hHeld ?_ (hv := (by rintro w' ⟨s0, s1⟩; go_simp; with_reducible rfl))
                refine zw (i := 5) (N := some 64) HT_ HW_ hHeld ?_ (hv := (by rintro w' ⟨s0, s1⟩; exact exec_load_row 129 _ rfl g13 rfl 129 _ (0, 0) _ s1 Try.underlying129 rfl (by rw [List.size_toArray, encs_length, HW.out.1]; kernel_rfl)))
                refine one_ (i := 6) (N := some 65) #[i_, i_, i_, i_, i_, i_, i_, o_, o_, o_, o_] rfl rfl (one_of HT_.out (by kernel_rfl)) (by decide) (fun K hK => ?_)
                refine value_ (w1 := wd.alloc (.cells (encs (Value.int .i64) r).toArray 129 (0, 0))) (v := .slice (some ⟨wd.heap.size, 0, none⟩) 1 1) (by rfl) rfl (build129 (.tmp 64) rfl _ rfl (by rw [List.size_toArray, encs_length, HW.out.1])) ?_
                have hba := below_alloc (Below.refl _ wd) (.cells (encs (Value.int .i64) r).toArray 129 (0, 0))
                refine hK.out _ _ ⟨yW ⟨(HBS.out.below hba).bM⟩ 1, blk_below BG13.out hba⟩ (fun hHeld => ?_)
                clear hK K hba
                refine norm_ (a' := ?_) ?_ ?_
                rotate_left
                · show Act.put _ (some 65) _ = _
                  simp only [Act.put, y0, y1]
                  rfl
                refine one_ (i := 7) (N := some 66) #[i_, i_, i_, i_, i_, i_, i_, i_, o_, o_, o_] rfl rfl (one_of HT_.out (by kernel_rfl)) (by decide) (fun K hK => ?_)
                refine Kd.R_append_step k129 (w0 := w) w.heap.size (by rfl) (.tmp 63) (.tmp 65) 116 129 (.agg (Array.replicate 256 (.int .i64 0))) 2048 rfl Try.underlying116 info129 rfl (by decide) (by omega) (.slice AN R.length cN) R r (encs (Value.int .i64) r) (fun k => k ≠ g13) (fun _ => False) rfl rfl (k129_M _ _ _ HW.out.1) (fun _ hk => hk.elim) (fun k hk => by have := blk_lt BG13.out; omega) HBS.out.nxt HBS.out.bel HBS.out.bel.size (by have := HSZ.out.2.1; omega) ?_
                intro v1 w2 hR2 hB2 hg2 _
                have hT := rowt_R HBS.out.nxt
                replace BG12 := ym (blk_row BG12.out hg2 hT (by decide))
                replace BG13 := ym (blk_grown BG13.out hg2 (Kd.R_away HBS.out.nxt (fun _ h => h)))
                replace HBS := ym (HBS.out.pushN hR2 hB2 hg2)
                clear hR2 hB2 hg2 hT
                refine hK.out _ _ ⟨yW ⟨HBS.out.bM⟩ 1, BG13.out⟩ (fun hHeld => ?_)
                clear hK K
                obtain ⟨AN', cN', eN⟩ := Kd.R_slice HBS.out.nxt
                subst eN
                refine norm_ (a' := ?_) ?_ ?_
                rotate_left
                · show Act.put _ (some 66) _ = _
                  simp only [Act.put, y0, y1]
                  rfl
                refine zt (i := 8) (N := some 67) HT_ ?_
                refine zt (i := 9) (N := some 68) HT_ ?_
                have f8 := yv HBS.out.bM 1
                have c8 := yW ⟨HBS.out.bM⟩ 1
                refine last_ (i := 10) (N := none) #[i_, i_, i_, i_, i_, i_, i_, i_, i_, i_, i_] rfl rfl (one_of HT_.out (by kernel_rfl)) (by decide) (fun K hK => ?_)
                refine skip_step (w1 := w2.setCell ⟨gM, 1, none⟩ (.slice AN' (R ++ [r]).length cN')) ?hw ?hrun ?_
                case hw => rfl
                case hrun => first | (go_simp; done) | (go_simp; rfl)
                have hg3 := grown_set w2 gM 1 (.slice AN' (R ++ [r]).length cN')
                have hT := rowt_blk HBS.out.bM
                replace HBS := ym (HBS.out.boxN (.slice AN' (R ++ [r]).length cN'))
                generalize w2.setCell ⟨gM, 1, none⟩ (.slice AN' (R ++ [r]).length cN') = w3 at HBS hg3 ⊢
                replace BG12 := ym (blk_row BG12.out hg3 hT (by decide))
                clear hg3 hT f8 c8 BG13
                refine hK.out _ _ ?_
                clear hK K
                refine norm_ (a' := ?_) ?_ ?_
                rotate_left
                · show Act.put _ none _ = _
                  rfl
                refine done_ (done_of HT_.out (by kernel_rfl)) ?_
                clear HT_ HW_ hHeld
                go_wp2
                obtain ⟨AA, cA, eA⟩ := Kd.R_slice HBS.out.acc
                subst eA
                obtain ⟨fa, hfa⟩ : ∃ fa, fa = Mach.aR Aa p.1 := ⟨_, rfl⟩
                obtain ⟨fb, hfb⟩ : ∃ fb, fb = Mach.aR Ab p.2 := ⟨_, rfl⟩
                have HFA := ym hfa
                have HFB := ym hfb
                clear hfa hfb
                refine start_ (n := 20) (S := fun w' => w'.cell? ⟨gM, 2, none⟩ = some (.slice AA A.length cA) ∧ w'.cell? ⟨g12, 0, none⟩ = some (.int .i64 p.1) ∧ w'.cell? ⟨g12, 1, none⟩ = some (.int .i64 p.2)) (ds := [19]) #[false, false, false, false, false, false, false, false, false, false, false, false, false, false, false, false, false, false, false, false] (by kernel_rfl) rfl rfl ⟨yW ⟨HBS.out.bM⟩ 2, yW BG12 0, yW BG12 1⟩ (fun hHeld => ?_)
                refine with_tabW both.tab17 both.bits17 (fun HT_ HW_ => ?_)
                replace HBS := ym HBS.out.drew
                replace BG12 := ym (yt BG12.out)
                generalize w3.drew = w4 at HBS BG12 hHeld ⊢
                refine zt (i := 0) (N := some 69) HT_ ?_
                refine zt (i := 1) (N := some 70) HT_ ?_
                refine zt (i := 5) (N := some 74) HT_ ?_
                refine zt (i := 6) (N := some 75) HT_ ?_
                refine zt (i := 7) (N := some 76) HT_ ?_
                refine zt (i := 10) (N := some 79) HT_ ?_
                refine zt (i := 11) (N := some 80) HT_ ?_
                refine zt (i := 2) (N := some 71) HT_ ?_
                refine zt (i := 3) (N := some 72) HT_ ?_
                refine zw (i := 4) (N := some 73) HT_ HW_ hHeld ?_ (hv := (by rintro w' ⟨s0, s1, s2⟩; go_simp; with_reducible rfl))
                refine zw (i := 8) (N := some 77) HT_ HW_ hHeld ?_ (hv := (by rintro w' ⟨s0, s1, s2⟩; go_simp; with_reducible rfl))
                refine zw (i := 12) (N := some 81) HT_ HW_ hHeld ?_ (hv := (by rintro w' ⟨s0, s1, s2⟩; go_simp; with_reducible rfl))
                refine one_ (i := 9) (N := some 78) #[i_, i_, i_, i_, i_, i_, i_, i_, i_, i_, i_, i_, i_, o_, o_, o_, o_, o_, o_, o_] rfl rfl (one_of HT_.out (by kernel_rfl)) (by decide) (fun K hK => ?_)
                refine goes_ (f := 67) Try.func67 (by kernel_rfl) rfl #[.pointer (some ⟨ga, 0, none⟩), .int .i64 p.1] (by rfl) rfl rfl (by simp only [List.map_toArray, List.map_cons, List.map_nil]; rfl) ?_
                refine (takes_calls _ (HMA.out.below HBS.out.bel) HMM.out.1.len p.1 HPI.out.1).mono ?_
                rintro e w' ⟨rfl, rfl⟩
                refine ⟨_, rfl, ?_⟩
                rw [← HFA.out]
                refine hK.out _ _ hHeld (fun hHeld => ?_)
                clear hK K
                refine norm_ (a' := ?_) ?_ ?_
                rotate_left
                · show Act.put _ (some 78) _ = _
                  simp only [Act.put, y0, y1]
                  rfl
                refine one_ (i := 13) (N := some 82) #[i_, i_, i_, i_, i_, i_, i_, i_, i_, i_, i_, i_, i_, i_, o_, o_, o_, o_, o_, o_] rfl rfl (one_of HT_.out (by kernel_rfl)) (by decide) (fun K hK => ?_)
                refine goes_ (f := 67) Try.func67 (by kernel_rfl) rfl #[.pointer (some ⟨gb, 0, none⟩), .int .i64 p.2] (by rfl) rfl rfl (by simp only [List.map_toArray, List.map_cons, List.map_nil]; rfl) ?_
                refine (takes_calls _ (HMB.out.below HBS.out.bel) HMM.out.2.len p.2 HPI.out.2).mono ?_
                rintro e w' ⟨rfl, rfl⟩
                refine ⟨_, rfl, ?_⟩
                rw [← HFB.out]
                refine hK.out _ _ hHeld (fun hHeld => ?_)
                clear hK K
                refine norm_ (a' := ?_) ?_ ?_
                rotate_left
                · show Act.put _ (some 82) _ = _
                  simp only [Act.put, y0, y1]
                  rfl
                refine one_ (i := 14) (N := some 83) #[i_, i_, i_, i_, i_, i_, i_, i_, i_, i_, i_, i_, i_, i_, i_, o_, o_, o_, o_, o_] rfl rfl (one_of HT_.out (by kernel_rfl)) (by decide) (fun K hK => ?_)
                refine goesV_ (f := fi) #[] HFI.out HNM.out HBD.out #[.bool fa, .bool fb] #[.bool fa, .bool fb] (by rfl) rfl rfl rfl (by simp only [List.map_toArray, List.map_cons, List.map_nil]; rfl) (by simp) ?_
                refine (HIS.out fa fb _).mono ?_
                rintro e w' ⟨rfl, rfl⟩
                refine ⟨_, rfl, ?_⟩
                obtain ⟨fl, hfl⟩ : ∃ fl, fl = is fa fb := ⟨_, rfl⟩
                rw [← hfl]
                have HFL := ym hfl
                clear hfl
                refine hK.out _ _ hHeld (fun hHeld => ?_)
                clear hK K
                refine norm_ (a' := ?_) ?_ ?_
                rotate_left
                · show Act.put _ (some 83) _ = _
                  simp only [Act.put, y0, y1]
                  rfl
                refine one_ (i := 15) (N := some 84) #[i_, i_, i_, i_, i_, i_, i_, i_, i_, i_, i_, i_, i_, i_, i_, i_, o_, o_, o_, o_] rfl rfl (one_of HT_.out (by kernel_rfl)) (by decide) (fun K hK => ?_)
                refine value_ (w1 := w'.alloc (.cells #[.bool fl] 4 (0, 0))) (v := .slice (some ⟨w'.heap.size, 0, none⟩) 1 1) (by rfl) rfl (by first | (go_simp; done) | (go_simp; rfl)) ?_
                have hba := below_alloc (Below.refl _ w') (.cells #[.bool fl] 4 (0, 0))
                refine hK.out _ _ ⟨yW ⟨(HBS.out.below hba).bM⟩ 2, yW ⟨blk_below BG12.out hba⟩ 0, yW ⟨blk_below BG12.out hba⟩ 1⟩ (fun hHeld => ?_)
                clear hK K hba
                refine norm_ (a' := ?_) ?_ ?_
                rotate_left
                · show Act.put _ (some 84) _ = _
                  simp only [Act.put, y0, y1]
                  rfl
                refine one_ (i := 16) (N := some 85) #[i_, i_, i_, i_, i_, i_, i_, i_, i_, i_, i_, i_, i_, i_, i_, i_, i_, o_, o_, o_] rfl rfl (one_of HT_.out (by kernel_rfl)) (by decide) (fun K hK => ?_)
                refine Kd.R_append_step Kd.bool (w0 := w) w.heap.size (by rfl) (.tmp 73) (.tmp 84) 22 4 (.bool false) 1 rfl Try.underlying22 info4 rfl (by decide) (by omega) (.slice AA A.length cA) A fl [.bool fl] (fun _ => True) (fun _ => False) rfl rfl rfl (fun _ hk => hk.elim) (fun _ _ => trivial) HBS.out.acc HBS.out.bel HBS.out.bel.size (by have := HSZ.out.2.2; omega) ?_
                intro v1 w5 hR5 hB5 hg5 _
                replace BG12 := ym (blk_row BG12.out hg5 (rowt_R HBS.out.acc) (by decide))
                replace HBS := ym (HBS.out.pushA hR5 hB5 hg5)
                clear hR5 hB5 hg5
                refine hK.out _ _ ⟨yW ⟨HBS.out.bM⟩ 2, yW BG12 0, yW BG12 1⟩ (fun hHeld => ?_)
                clear hK K
                obtain ⟨AA', cA', eA⟩ := Kd.R_slice HBS.out.acc
                subst eA
                refine norm_ (a' := ?_) ?_ ?_
                rotate_left
                · show Act.put _ (some 85) _ = _
                  simp only [Act.put, y0, y1]
                  rfl
                refine zt (i := 17) (N := some 86) HT_ ?_
                refine zt (i := 18) (N := some 87) HT_ ?_
                have f8 := yv HBS.out.bM 2
                have c8 := yW ⟨HBS.out.bM⟩ 2
                refine last_ (i := 19) (N := none) #[i_, i_, i_, i_, i_, i_, i_, i_, i_, i_, i_, i_, i_, i_, i_, i_, i_, i_, i_, i_] rfl rfl (one_of HT_.out (by kernel_rfl)) (by decide) (fun K hK => ?_)
                refine skip_step (w1 := w5.setCell ⟨gM, 2, none⟩ (.slice AA' (A ++ [fl]).length cA')) ?hw ?hrun ?_
                case hw => rfl
                case hrun => first | (go_simp; done) | (go_simp; rfl)
                replace HBS := ym (HBS.out.boxA (.slice AA' (A ++ [fl]).length cA'))
                generalize w5.setCell ⟨gM, 2, none⟩ (.slice AA' (A ++ [fl]).length cA') = w6 at HBS ⊢
                clear f8 c8 BG12
                refine hK.out _ _ ?_
                clear hK K
                refine norm_ (a' := ?_) ?_ ?_
                rotate_left
                · show Act.put _ none _ = _
                  rfl
                refine done_ (done_of HT_.out (by kernel_rfl)) ?_
                clear HT_ HW_ hHeld
                go_wp2
                go_roundg k1
                case measure => have := HK.out; omega
                case rel => exact ⟨a + 1, o, R ++ [r], A ++ [fl], _, _, _, by rw [wup (by have := HW.out.2.1; have := HW.out.2.2.1; omega)]; rfl, ⟨by have h := HF.out; rw [← HFA.out, ← HFB.out, ← HFL.out] at h; exact h⟩, ⟨by have := HK.out; omega⟩, ⟨HW.out.2.2.1, HW.out.2.2.2⟩, ⟨HBS.out.mono (fun _ _ => trivial) (fun _ _ => trivial)⟩⟩
          · rw [if_neg ha] at hf
            have p1 : ((a : Int) < (o.length : Int)) = False := eq_false (by omega)
            have e := Option.some.inj hf
            subst e
            clear hf ha HO
            obtain ⟨AO, cO', eO⟩ := Kd.R_slice HBS.out.ps.ord
            subst eO
            obtain ⟨AN, cN, eN⟩ := Kd.R_slice HBS.out.nxt
            subst eN
            obtain ⟨AA, cA, eA⟩ := Kd.R_slice HBS.out.acc
            subst eA
            go_wp2
            go_ret
            obtain ⟨_, h2, h3⟩ := Kd.R_reads' HBS.out.nxt
            obtain ⟨_, h4, h5⟩ := Kd.R_reads' HBS.out.acc
            exact ⟨gM, rfl, ⟨_, _, _, _, HBS.out.bM, h3, h2, h5, h4⟩, HBS.out.bel⟩
        · rw [if_neg hsz] at hf; cases hf
  · rw [if_neg hMM] at h; cases h
end Go.Proofs.Ytfjpnmhbbfiaaaa.P
