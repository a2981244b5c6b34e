/- The machine of a guide: the walk through 'machineOf'. On condition that the guide is right. -/
import Derived.Test.YtfjpnmhbbfiaaaaZGSMliv
namespace Go.Proofs.Ytfjpnmhbbfiaaaa.P
open Go Go.RowKit Go.Proofs.YtfjpnmhbbfiaaaaW.PrintWords Go.Proofs.YtfjpnmhbbfiaaaaW.PrintLast Go.Proofs.YtfjpnmhbbfiaaaaW.PrintMore Go.Proofs.Ytfjpnmhbbfiaaaa
set_option linter.unusedVariables false
set_option linter.unusedSimpArgs false
theorem k129_M (w : World) (base : Nat) (ok : Nat → Prop) {r : List Int} (h : r.length = 256) : k129.M w base ok r (encs (Value.int .i64) r) := Kd.arr_of_cells h
theorem zeros_M (w : World) (base : Nat) (ok : Nat → Prop) : k129.M w base ok Mach.zeros (Value.agg (Array.replicate 256 (.int .i64 0))).cells.toList := by
  have h := k129_M w base ok (r := Mach.zeros) List.length_replicate
  have e : (Value.agg (Array.replicate 256 (.int .i64 0))).cells.toList = encs (Value.int .i64) Mach.zeros := by
    unfold encs Mach.zeros
    rw [List.map_replicate]
    exact Array.toList_replicate
  rw [e]; exact h
section
variable {P : Program} {ops : Array Oper} {rest : List Oper} {o : Oper} {a : Act} {Q : Exit → Act → World → Prop}
theorem zl {W : World} {N : Tmp} {cs : Array Value} {t : TypeId} {n : Nat} (h : ∀ g, g = W.heap.size → ∀ w1, w1.heap[g]? = some (.cells cs t (0, 0)) → Below W.heap.size W w1 → wpList P ops Q rest (a.put o.dst (.slice (some ⟨g, 0, none⟩) n n)) w1)
    (hN : o.dst = some N := by with_reducible exact rfl) (hgd : o.guard = none := by rfl) (hr : (execOp a.eval o).run P W = .ok (.value (.slice (some ⟨W.heap.size, 0, none⟩) n n)) (W.alloc (.cells cs t (0, 0))) := by first | (go_simp; done) | (go_simp; rfl)) : wpList P ops Q (o :: rest) a W :=
  Kd.event_run hgd hr (h _ rfl _ (blk_new W _) (below_alloc (Below.refl _ _) _))
end
section
variable {P : Program} {ops : Array Oper} {o : Oper} {a : Act} {Q : Exit → Act → World → Prop} {Kc : Act → World → Prop}
theorem skip_step {W w1 : World} (hw : Region.wanted o (yielded ops a.tmps) = true) (hrun : (execOp a.eval o).run P W = .ok .skip w1) (h : Kc (a.put o.dst undef) w1) : if Region.wanted o (yielded ops a.tmps) = true then Oper.wp P o a W Kc Q else Kc (a.put o.dst undef) W := by
  rw [if_pos hw]
  unfold Oper.wp
  rw [hrun]
  exact h
end
/-- A row that has come out of a block of one's own. -/
theorem C_bool_lit {w : World} {g : Nat} (h : w.heap[g]? = some (.cells #[.bool true] 4 (0, 0))) : Kd.bool.C w (some ⟨g, 0, none⟩) 1 [true] := by
  have h2 : Kd.bool.R 4 w 0 (fun _ => True) (.slice (some ⟨g, 0, none⟩) 1 1) [true] := Kd.R_of_own ⟨rfl, .inr ⟨g, 1, _, rfl, Nat.zero_le _, h, Nat.le_refl _, by decide, rfl, rfl⟩⟩ (fun _ _ => trivial)
  exact (Kd.R_reads' h2).2.2
theorem R129_cell {W : World} {base g n cap : Nat} {ok : Nat → Prop} {R : List (List Int)} (h : k129.R 129 W base ok (.slice (some ⟨g, 0, none⟩) n cap) R) {i c : Nat} (hi : i < n) (hc : c < 256) : W.cell? ⟨g, i * 256 + c, none⟩ = some (.int .i64 (Mach.at_ (R.getD i []) c)) ∧ W.frozen? ⟨g, i * 256 + c, none⟩ = false := by
  obtain ⟨cs, h1, h2, h3, h4⟩ := Kd.R_elem h ([] : List Int) (i : Int) (by omega) (by omega)
  rw [Int.toNat_natCast] at h2 h3 h4
  obtain ⟨hl, rfl⟩ := k129_cells (k129.K_of_M h2)
  have e := h3 c (.int .i64 (Mach.at_ (R.getD i []) c)) (by
    rw [encs_get (d := (-1 : Int)) _ _ (by omega)]; rfl)
  exact ⟨e, h4 c⟩
theorem R129_put {W : World} {base g n cap : Nat} {ok : Nat → Prop} {R : List (List Int)} (h : k129.R 129 W base ok (.slice (some ⟨g, 0, none⟩) n cap) R) {i c : Nat} (hi : i < n) (hc : c < 256) (x : Int) :
    k129.R 129 (W.setCell ⟨g, i * 256 + c, none⟩ (.int .i64 x)) base ok (.slice (some ⟨g, 0, none⟩) n cap) (R.set i ((R.getD i []).set c x)) ∧ W.grownBy (W.setCell ⟨g, i * 256 + c, none⟩ (.int .i64 x)) (some g) := by
  obtain ⟨cs, h1, h2, h3, h4⟩ := Kd.R_elem h ([] : List Int) (i : Int) (by omega) (by omega)
  rw [Int.toNat_natCast] at h2 h3
  obtain ⟨hl, rfl⟩ := k129_cells (k129.K_of_M h2)
  have e1 : (encs (Value.int .i64) (R.getD i [])).take c ++ [Value.int .i64 x] ++ (encs (Value.int .i64) (R.getD i [])).drop (c + 1) = encs (Value.int .i64) ((R.getD i []).set c x) := by
    unfold encs
    rw [List.map_set, List.set_eq_take_append_cons_drop, if_pos (by rw [List.length_map, hl]; exact hc)]
    simp
  have := Kd.R_seg h (i : Int) (by omega) (by omega) (c := encs (Value.int .i64) (R.getD i [])) (seg := [Value.int .i64 x]) (j := c) (okp := fun _ => False) (by rw [encs_length, hl]; rfl) (by rw [Int.toNat_natCast]; exact h3) (by show c + 1 ≤ 256; omega) (x' := (R.getD i []).set c x) (by
    have e2 := k129_M W base (fun _ => False) (r := (R.getD i []).set c x) (by rw [List.length_set]; exact hl)
    rw [← e1] at e2
    exact e2) (fun k hk => hk.elim)
  rw [Int.toNat_natCast] at this
  exact this
def machineOf.T3 : Bool × List (List Nat × List Nat) := (true, [([], []), ([0], [0]), ([1], [1]), ([2, 2], [2]), ([], []), ([4], [4]), ([3, 5], [3, 5]), ([6], [6]), ([7, 0, 1, 2, 3, 4, 5, 6, 7], [7])])
def machineOf.B3 : List Nat := [0, 1, 3, 7, 0, 16, 63, 127, 255]
theorem machineOf.tab3 : rtab .any (opsOf Try.f56 3) = machineOf.T3 := by kernel_rfl
theorem machineOf.bits3 : waitsOk machineOf.T3.2 machineOf.B3 = true := by kernel_rfl
def machineOf.T19 : Bool × List (List Nat × List Nat) := (true, [([], []), ([0], [0]), ([1], [1]), ([2], [2]), ([], []), ([4], [4]), ([], []), ([], []), ([7], [7]), ([3, 5], [3, 5]), ([9, 6, 0, 1, 2, 3, 4, 5, 6, 7, 8], [6, 9]), ([10, 8, 0, 1, 2, 3, 4, 5, 6, 7, 8], [8, 10])])
def machineOf.B19 : List Nat := [0, 1, 3, 7, 0, 16, 0, 0, 128, 63, 1023, 2047]
theorem machineOf.tab19 : rtab .any (opsOf Try.f56 19) = machineOf.T19 := by kernel_rfl
theorem machineOf.bits19 : waitsOk machineOf.T19.2 machineOf.B19 = true := by kernel_rfl
set_option maxHeartbeats 8000000 in
set_option maxRecDepth 100000 in
theorem machineOf_calls (w : World) (A0 : Option Addr) (c0 : Nat) (A : List Bool) (A1 : Option Addr) (c1 : Nat) (E : List S92) (hr0 : Kd.C Kd.bool w A0 A.length A) (hc0 : A.length ≤ c0) (hr1 : Kd.C k92 w A1 E.length E) (hc1 : E.length ≤ c1) (hA : A.length ≤ 64) (hE : E.length ≤ 1024) (he : ∀ e ∈ E, Mach.EdOk A.length e) :
    Calls Try.prog 56 #[.agg #[.slice A0 A.length c0, .slice A1 E.length c1]] w fun e w' => ∃ g, e = .returned (.pointer (some ⟨g, 0, none⟩)) ∧ Mac w' g (Mach.mrows A E).1 (Mach.mrows A E).2 ∧ Below w.heap.size w w' := by
  have hu25 := Try.underlying25
  have hu118 := Try.underlying118
  have hu129 := Try.underlying129
  have HR0 := ym hr0
  have HC0 := ym hc0
  have HR1 := ym hr1
  have HC1 := ym hc1
  have HE := ym he
  have HB := ym (Below.refl w.heap.size w)
  clear hr0 hc0 hr1 hc1 he
  have e1 : Mach.mrows A E = if A.length = 0 then ([Mach.zeros], [true]) else (Mach.fill (List.replicate A.length Mach.deads) E, A) := rfl
  rw [e1]
  clear e1
  by_cases hn : A.length = 0
  · rw [if_pos hn]
    have b0 : ((A.length : Int) == 0) = true := beq_iff_eq.mpr (by omega)
    go_enter Try.func56, Try.ntmps56
    go_wp2_with (first
      | ((with_reducible refine gate_dst (N := 1) rfl ?_); go_loud (refine zb (N := 1) (cs := #[.slice A0 A.length c0, .slice A1 E.length c1]) (t := 25) ?_); intro g1 hg1 w1 hbox hb1; have BG1 := ym hbox; replace HB := yN hb1; clear hg1 hbox hb1; have c10 := yW BG1 0; have c11 := yW BG1 1; have f10 := yv BG1.out 0; have f11 := yv BG1.out 1)
      | (at_make; go_loud (refine Kd.R_make k129 (w0 := w) w.heap.size 129 rfl (N := 13) rfl 116 _ _ rfl (1 : Int) rfl rfl Try.underlying116 (.agg (Array.replicate 256 (.int .i64 0))) 2048 info129 rfl (by decide) (by omega) Mach.zeros (ok := fun _ => True) (okp := fun _ => True) (zeros_M _ _ _) (fun _ hk => hk) trivial (by omega) (by decide) HB.out (below_size HB.out) ?_); intro v13 w2 ho2 hb2 hg2 hn2; have HN2 := ym (show v13.ownBlock ≠ none from by obtain ⟨b, e, _⟩ := hn2; rw [e]; simp); obtain ⟨gn, cn, rfl, hgn, hgn2, hcn, HG2⟩ := Kd.R_form ho2 (by decide); have HO2 := ym ho2; replace HB := ym hb2; replace BG1 := ym (blk_grown BG1.out hg2 (by simp)); clear ho2 hb2 hg2 hn2 hcn HG2; have d10 := yW BG1 0; have d11 := yW BG1 1)
      | ((with_reducible refine gate_dst (N := 14) rfl ?_); go_loud (refine zl (N := 14) (cs := #[.bool true]) (t := 4) (n := 1) ?_); intro g3 hg3 w3 hbox hb3; have BG3 := ym hbox; replace HO2 := ym (Kd.R_below HO2.out hb3); replace HB := yN hb3; clear hg3 hbox hb3)
      | ((with_reducible refine gate_dst (N := 16) rfl ?_); go_loud (refine zb (N := 16) (cs := #[.int .i64 0, .slice (some ⟨gn, 0, none⟩) 1 cn, .slice (some ⟨g3, 0, none⟩) 1 1]) (t := 118) ?_); intro g4 hg4 w4 hbox hb4; have BG4 := ym hbox; replace BG3 := yQ BG3 hb4; replace HO2 := ym (Kd.R_below HO2.out hb4); replace HB := yN hb4; clear hg4 hbox hb4))
    go_ret
    have hq := Kd.R_reads' HO2.out
    exact ⟨g4, rfl, ⟨_, cn, _, 1, BG4.out, hq.2.2, hq.2.1, C_bool_lit BG3.out, Nat.le_refl _⟩, HB.out⟩
  · rw [if_neg hn]
    have b0 : ((A.length : Int) == 0) = false := beq_eq_false_iff_ne.mpr (by omega)
    go_enter Try.func56, Try.ntmps56
    go_wp2_with (first
      | ((with_reducible refine gate_dst (N := 1) rfl ?_); go_loud (refine zb (N := 1) (cs := #[.slice A0 A.length c0, .slice A1 E.length c1]) (t := 25) ?_); intro g1 hg1 w1 hbox hb1; have BG1 := ym hbox; replace HB := yN hb1; clear hg1 hbox hb1; have c10 := yW BG1 0; have c11 := yW BG1 1; have f10 := yv BG1.out 0; have f11 := yv BG1.out 1))
    refine start_ (n := 9) (S := fun w' => w'.cell? ⟨g1, 0, none⟩ = some (.slice A0 A.length c0)) (ds := []) #[false, false, false, false, false, false, false, false, false] (by kernel_rfl) rfl rfl c10 (fun hHeld => ?_)
    refine with_tabW machineOf.tab3 machineOf.bits3 (fun HT_ HW_ => ?_)
    replace BG1 := ym (yt BG1.out)
    replace HB := ym (ye HB.out)
    clear c10 c11 f10 f11
    generalize w1.drew = w1d at BG1 HB hHeld ⊢
    refine zt (i := 0) (N := some 17) HT_ ?_
    refine zt (i := 4) (N := some 21) HT_ ?_
    refine zw (i := 1) (N := some 18) HT_ HW_ hHeld ?_ (hv := (by rintro w' s0; go_simp; with_reducible rfl))
    refine zw (i := 5) (N := some 22) HT_ HW_ hHeld ?_ (hv := (by rintro w' s0; go_simp; with_reducible rfl))
    refine zt (i := 2) (N := some 19) HT_ ?_
    refine one_ (i := 3) (N := some 20) #[i_, i_, i_, i_, i_, i_, o_, o_, o_] rfl rfl (one_of HT_.out (by kernel_rfl)) (by decide) (fun K hK => ?_)
    refine Kd.R_make_step k129 (w0 := w) w.heap.size 129 rfl (N := 20) rfl 116 _ _ rfl (A.length : Int) rfl rfl Try.underlying116 (.agg (Array.replicate 256 (.int .i64 0))) 2048 info129 rfl (by decide) (by omega) Mach.zeros (ok := fun _ => True) (okp := fun _ => True) (zeros_M _ _ _) (fun _ hk => hk) trivial (by omega) (by omega) HB.out (below_size HB.out) ?_
    intro v20 w2 ho2 hb2 hg2 hn2
    rw [Int.toNat_natCast] at ho2
    obtain ⟨gn, cn, rfl, hgn, hgn2, hcn, HG2⟩ := Kd.R_form ho2 (by simp; omega)
    rw [List.length_replicate] at ho2
    simp only [List.length_replicate]
    have HO2 := ym ho2
    replace HB := ym hb2
    replace BG1 := ym (blk_grown BG1.out hg2 (by simp))
    clear ho2 hb2 hg2 hn2 hcn HG2 hgn2
    refine hK.out _ _ (yW BG1 0) (fun hHeld => ?_)
    clear hK K
    refine norm_ (a' := ?_) ?_ ?_
    rotate_left
    · show Act.put _ (some 20) _ = _
      simp only [Act.put, y0, y1]
      rfl
    refine zt (i := 6) (N := some 23) HT_ ?_
    refine one_ (i := 7) (N := some 24) #[i_, i_, i_, i_, i_, i_, i_, i_, o_] rfl rfl (one_of HT_.out (by kernel_rfl)) (by decide) (fun K hK => ?_)
    refine zs (N := 24) (cs := #[.int .i64 0, .slice (some ⟨gn, 0, none⟩) A.length cn, .slice A0 A.length c0]) (t := 118) ?_
    intro gm hgm w3 hbox hb3
    have BM := ym hbox
    have GEM := yE hgm
    have NEM := ym (show gn ≠ gm from by
      intro e
      have h1 := Kd.R_lt HO2.out gn rfl
      omega)
    replace BG1 := yQ BG1 hb3
    replace HO2 := ym (Kd.R_below HO2.out hb3)
    replace HB := yN hb3
    clear hgm hbox hb3
    refine hK.out _ _ (yW BG1 0) (fun hHeld => ?_)
    clear hK K
    refine norm_ (a' := ?_) ?_ ?_
    rotate_left
    · show Act.put _ (some 24) _ = _
      simp only [Act.put, y0, y1]
      rfl
    refine zt (i := 8) (N := some 3) HT_ ?_
    refine done_ (done_of HT_.out (by kernel_rfl)) ?_
    clear HT_ HW_ hHeld
    have m1 := yW BM 1
    have n1 := yv BM.out 1
    go_wp2
    go_loopw [30] (fun v30 w' => ∃ (i : Nat), v30 = .int .i64 i ∧ Aside0 (i ≤ A.length) ∧ Aside0 (k129.R 129 w' w.heap.size (fun _ => True) (.slice (some ⟨gn, 0, none⟩) A.length cn) (List.replicate i Mach.deads ++ List.replicate (A.length - i) Mach.zeros)) ∧ Aside0 (w'.heap[gm]? = some (.cells #[.int .i64 0, .slice (some ⟨gn, 0, none⟩) A.length cn, .slice A0 A.length c0] 118 (0, 0))) ∧ Aside0 (w'.heap[g1]? = some (.cells #[.slice A0 A.length c0, .slice A1 E.length c1] 25 (0, 0))) ∧ Aside0 (Below w.heap.size w w')) (fun v30 w' => A.length - (intOf v30).toNat)
    case atStart => exact ⟨0, rfl, ⟨Nat.zero_le _⟩, ⟨by simpa using HO2.out⟩, BM, BG1, HB⟩
    case round =>
      clear HO2 BM BG1 HB m1 n1
      obtain ⟨i, rfl, HI, HO, BM, BG1, HB⟩ := hrel
      obtain ⟨wa, rfl⟩ : ∃ wa, wa = wr := ⟨_, rfl⟩
      by_cases hi : i < A.length
      · have p1 : ((i : Int) < (A.length : Int)) = True := eq_true (by omega)
        have p0 : ((0 : Int) ≤ (i : Int)) = True := eq_true (by omega)
        go_wp2
        have HI2 := ym hi
        obtain ⟨N, hN⟩ : ∃ N : Nat, N = 256 := ⟨256, rfl⟩
        have HN := ym hN
        clear hN
        go_loopw [33] (fun v33 w' => ∃ (c : Nat), v33 = .int .i64 c ∧ Aside0 (c ≤ 256) ∧ Aside0 (k129.R 129 w' w.heap.size (fun _ => True) (.slice (some ⟨gn, 0, none⟩) A.length cn) (List.replicate i Mach.deads ++ (List.replicate c (-1) ++ List.replicate (256 - c) 0) :: List.replicate (A.length - i - 1) Mach.zeros)) ∧ Aside0 (w'.heap[gm]? = some (.cells #[.int .i64 0, .slice (some ⟨gn, 0, none⟩) A.length cn, .slice A0 A.length c0] 118 (0, 0))) ∧ Aside0 (w'.heap[g1]? = some (.cells #[.slice A0 A.length c0, .slice A1 E.length c1] 25 (0, 0))) ∧ Aside0 (Below w.heap.size w w')) (fun v33 w' => N - (intOf v33).toNat)
        case atStart => exact ⟨0, rfl, ⟨by omega⟩, ⟨by
          have := HO.out
          obtain ⟨d, hd⟩ : ∃ d, A.length - i = d + 1 := ⟨A.length - i - 1, by have := HI2.out; omega⟩
          rw [hd, List.replicate_succ] at this
          have hd2 : A.length - i - 1 = d := by omega
          rw [hd2]
          exact this⟩, BM, BG1, HB⟩
        case round =>
          clear HO BM BG1 HB
          obtain ⟨c, rfl, HX, HO, BM, BG1, HB⟩ := hrel
          obtain ⟨wb, rfl⟩ : ∃ wb, wb = wr := ⟨_, rfl⟩
          have m1 := yW BM 1
          by_cases hc : c < 256
          · have q1 : ((c : Int) < 256) = True := eq_true (by omega)
            have q0 : ((0 : Int) ≤ (c : Int)) = True := eq_true (by omega)
            have HX1 := ym hc
            have HP := R129_put HO.out hi hc (-1)
            obtain ⟨hc1, hc2⟩ := R129_cell HO.out hi hc
            have HPA := ym HP
            clear HP
            go_wp2_with (first
              | ((with_reducible refine gate_store (t := 3) (p := 43) rfl ?_); go_loud (refine store_event (t := 3) (p := 43) (v := ?vo) (w1 := (wb.setCell ⟨gn, i * 256 + c, none⟩ (.int .i64 (-1)))) ?hg ?ho ?hn ?hr ?_); (case ho => rfl); (case hg => rfl); (case hn => rfl); (case hr => first | (go_simp; done) | (go_simp; rfl)); intro w8 hw8; have HO8 := ym (by rw [hw8]; exact HPA.out.1 : k129.R 129 w8 w.heap.size (fun _ => True) (.slice (some ⟨gn, 0, none⟩) A.length cn) ((List.replicate i Mach.deads ++ (List.replicate c (-1) ++ List.replicate (256 - c) 0) :: List.replicate (A.length - i - 1) Mach.zeros).set i (((List.replicate i Mach.deads ++ (List.replicate c (-1) ++ List.replicate (256 - c) 0) :: List.replicate (A.length - i - 1) Mach.zeros).getD i []).set c (-1)))); have hg8 : wb.grownBy w8 (some gn) := (by rw [hw8]; exact HPA.out.2); replace HB := ym (pw_below_grown HB.out (some gn) (below_size HB.out) hg8 (fun k hk => by cases hk; exact hgn)); replace BM := ym (blk_grown BM.out hg8 (by have := NEM.out; intro e; injection e with e; exact this e.symm)); replace BG1 := ym (blk_grown BG1.out hg8 (Kd.R_ne HO.out BG1.out (by decide))); clear hw8 hg8 HPA))
            go_roundw
            case measure => exact mdec' (Nat.lt_of_lt_of_eq HX1.out HN.out.symm)
            case rel => exact ⟨c + 1, rfl, ⟨HX1.out⟩, ⟨by
              have h8 := HO8.out
              have e2 : ((List.replicate i Mach.deads ++ (List.replicate c (-1) ++ List.replicate (256 - c) (0 : Int)) :: List.replicate (A.length - i - 1) Mach.zeros).getD i []) = List.replicate c (-1) ++ List.replicate (256 - c) 0 := by simp
              rw [e2] at h8
              have e3 : (List.replicate c (-1) ++ List.replicate (256 - c) (0 : Int)).set c (-1) = List.replicate (c + 1) (-1) ++ List.replicate (256 - (c + 1)) 0 := by
                obtain ⟨d, hd⟩ : ∃ d, 256 - c = d + 1 := ⟨256 - c - 1, by have := HX1.out; omega⟩
                have hd2 : 256 - (c + 1) = d := by omega
                rw [hd, hd2, List.replicate_succ, List.set_append_right _ _ (by simp)]
                simp [List.replicate_succ']
              rw [e3] at h8
              have e4 : (List.replicate i Mach.deads ++ (List.replicate c (-1) ++ List.replicate (256 - c) (0 : Int)) :: List.replicate (A.length - i - 1) Mach.zeros).set i (List.replicate (c + 1) (-1) ++ List.replicate (256 - (c + 1)) 0) = List.replicate i Mach.deads ++ (List.replicate (c + 1) (-1) ++ List.replicate (256 - (c + 1)) 0) :: List.replicate (A.length - i - 1) Mach.zeros := by
                rw [List.set_append_right _ _ (by simp)]
                simp
              rw [e4] at h8
              exact h8⟩, BM, BG1, HB⟩
          · obtain rfl : c = 256 := by have := HX.out; omega
            go_wp2
            go_roundw
            case measure => first | exact mdec' HI2.out | exact mdec HI2.out (by omega)
            case rel => exact ⟨i + 1, by first | rfl | (rw [wlt HI2.out (by omega)]; rfl), ⟨HI2.out⟩, ⟨by
              have h8 := HO.out
              have e1 : List.replicate 256 (-1) ++ List.replicate (256 - 256) (0 : Int) = Mach.deads := by
                rw [Nat.sub_self, List.replicate_zero, List.append_nil]; rfl
              rw [e1] at h8
              have e2 : List.replicate (i + 1) Mach.deads ++ List.replicate (A.length - (i + 1)) Mach.zeros = List.replicate i Mach.deads ++ Mach.deads :: List.replicate (A.length - i - 1) Mach.zeros := by
                rw [List.replicate_succ', List.append_assoc, Nat.sub_sub]; rfl
              rw [e2]
              exact h8⟩, BM, BG1, HB⟩
      · have ei : i = A.length := by have := HI.out; omega
        have hf := HO.out
        rw [ei, Nat.sub_self, List.replicate_zero, List.append_nil] at hf
        have HF := ym hf
        have p1 : ((i : Int) < (A.length : Int)) = False := eq_false (by omega)
        have c10 := yW BG1 1
        have f10 := yv BG1.out 1
        clear hf HO HI ei hi
        go_wp2
        go_loopw [49] (fun v49 w' => ∃ (j : Nat), v49 = .int .i64 j ∧ Aside0 (j ≤ E.length) ∧ Aside0 (k129.R 129 w' w.heap.size (fun _ => True) (.slice (some ⟨gn, 0, none⟩) A.length cn) (Mach.fill (List.replicate A.length Mach.deads) (E.take j))) ∧ Aside0 (w'.heap[gm]? = some (.cells #[.int .i64 0, .slice (some ⟨gn, 0, none⟩) A.length cn, .slice A0 A.length c0] 118 (0, 0))) ∧ Aside0 (Below w.heap.size w w')) (fun v49 w' => E.length - (intOf v49).toNat)
        case atStart => exact ⟨0, rfl, ⟨Nat.zero_le _⟩, ⟨by simpa [Mach.fill] using HF.out⟩, BM, HB⟩
        case round =>
          clear HF BM HB BG1 c10 f10
          obtain ⟨j, rfl, HJ, HO, BM, HB⟩ := hrel
          obtain ⟨wa, rfl⟩ : ∃ wa, wa = wr := ⟨_, rfl⟩
          by_cases hj : j < E.length
          · have p2 : ((j : Int) < (E.length : Int)) = True := eq_true (by omega)
            have p3 : ((0 : Int) ≤ (j : Int)) = True := eq_true (by omega)
            have HJ2 := ym hj
            obtain ⟨e, hedef⟩ : ∃ e, e = E[j] := ⟨_, rfl⟩
            have hem : e ∈ E := by rw [hedef]; exact List.getElem_mem hj
            have hok := HE.out e hem
            obtain ⟨ad, had, x0, x1, x2, x3⟩ := at_T92 (Kd.C_below HR1.out HB.out) (j : Int) (by omega) (by omega)
            have erd : rd_T92 E (j : Int) = e := by
              unfold rd_T92
              rw [Int.toNat_natCast, List.getD_eq_getElem?_getD, List.getElem?_eq_getElem hj, hedef]; rfl
            rw [erd, Int.toNat_natCast] at x0 x1 x2 x3
            subst had
            have HED := ym hedef
            have HOK := ym hok
            clear hedef hem hok erd
            obtain ⟨s, hs⟩ : ∃ s : Nat, e.f0 = (s : Int) := ⟨e.f0.toNat, by have := HOK.out.f0.1; omega⟩
            obtain ⟨a, ha⟩ : ∃ a : Nat, e.f1 = (a : Int) := ⟨e.f1.toNat, by have := HOK.out.f1; omega⟩
            obtain ⟨b, hb⟩ : ∃ b : Nat, e.f2 = (b : Int) := ⟨e.f2.toNat, by have := HOK.out.f1; have := HOK.out.le; omega⟩
            obtain ⟨t, ht⟩ : ∃ t : Nat, e.f3 = (t : Int) := ⟨e.f3.toNat, by have := HOK.out.f3.1; omega⟩
            have hab : a ≤ b := by have := HOK.out.le; omega
            have hb255 : b ≤ 255 := by have := HOK.out.f2; omega
            have hsn : s < A.length := by have := HOK.out.f0.2; omega
            rw [hs] at x0
            rw [ha] at x1
            rw [hb] at x2
            rw [ht] at x3
            have HS := ym hs
            have HA := ym ha
            have HBB := ym hb
            have HT := ym ht
            clear hs ha hb ht
            go_wp2_with (first
              | ((with_reducible refine gate_dst (N := 7) rfl ?_); go_loud (refine zb (N := 7) (cs := #[.int .i64 0, .int .u8 0, .int .u8 0, .int .i64 0]) (t := 92) ?_); intro g7 hg7 w7 hbox hb7; have BG7 := ym hbox; have GE7 := yE hg7; have NE7 := yF hg7 BM; replace BM := yQ BM hb7; replace HO := ym (Kd.R_below HO.out hb7); replace HB := yN hb7; clear hg7 hbox hb7)
              | ((with_reducible refine gate_store (t := 92) (p := 7) rfl ?_); go_loud (refine Arr.wpList_store_row rfl 92 _ _ rfl g7 #[.int .i64 (s : Int), .int .u8 (a : Int), .int .u8 (b : Int), .int .i64 (t : Int)] rfl rfl 92 _ BG7.out (by kernel_rfl) rfl (by simp [Value.oneCell']) ?_); obtain ⟨w8, hw8⟩ : ∃ w8, w8 = w7.setRow g7 #[.int .i64 (s : Int), .int .u8 (a : Int), .int .u8 (b : Int), .int .i64 (t : Int)] := ⟨_, rfl⟩; rw [← hw8]; have hg8 : w7.grownBy w8 (some g7) := (by rw [hw8]; exact grown_setRow _ _ _); have BG8 := ym (by rw [hw8]; exact setRow_heap _ _ _ _ _ _ BG7.out : w8.heap[g7]? = some (.cells #[.int .i64 (s : Int), .int .u8 (a : Int), .int .u8 (b : Int), .int .i64 (t : Int)] 92 (0, 0))); replace HO := ym (Kd.R_over' (v := .slice (some ⟨g7, 0, none⟩) 0 0) HO.out (fun k hk => by cases hk; exact ⟨_, BG7.out⟩) (by decide) hg8); replace HB := ym (pw_below_grown HB.out (some g7) (below_size HB.out) hg8 (fun k hk => by cases hk; exact GE7.out)); replace BM := ym (blk_grown BM.out hg8 (by have := NE7.out; intro q; injection q with q; exact this q)); have d70 := yW BG8 0; have d71 := yW BG8 1; have d72 := yW BG8 2; have d73 := yW BG8 3; clear hw8 hg8 BG7))
            clear d70 d71 d72 d73
            obtain ⟨Rj, hRj⟩ : ∃ Rj, Rj = Mach.fill (List.replicate A.length Mach.deads) (E.take j) := ⟨_, rfl⟩
            rw [← hRj] at HO
            have HRJ := ym hRj
            clear hRj
            have hrl := (Kd.R_reads' HO.out).1
            obtain ⟨row0, hrow0⟩ : ∃ row0, row0 = Rj.getD s [] := ⟨_, rfl⟩
            have hst : Rj.set s row0 = Rj := by
              rw [hrow0]
              apply List.ext_getElem (by simp)
              intro q h1 h2
              rw [List.getElem_set]
              split
              · rename_i e; subst e
                rw [List.getD_eq_getElem?_getD, List.getElem?_eq_getElem h2]; rfl
              · rfl
            have HROW0 := ym hrow0
            have HST := ym hst
            have HRL := ym hrl
            clear hrow0 hst hrl
            obtain ⟨N, hN⟩ : ∃ N : Nat, N = b + 1 := ⟨_, rfl⟩
            have HN := ym hN
            clear hN
            go_loopw [8] (fun v8 w' => ∃ (x d : Nat) (row : List Int), v8 = .int .i64 x ∧ Aside0 (x + d = b + 1 ∧ a ≤ x ∧ Mach.fillB e d row = Mach.fillB e (b + 1 - a) row0 ∧ row.length = 256) ∧ Aside0 (k129.R 129 w' w.heap.size (fun _ => True) (.slice (some ⟨gn, 0, none⟩) A.length cn) (Rj.set s row)) ∧ Aside0 (w'.heap[gm]? = some (.cells #[.int .i64 0, .slice (some ⟨gn, 0, none⟩) A.length cn, .slice A0 A.length c0] 118 (0, 0))) ∧ Aside0 (w'.heap[g7]? = some (.cells #[.int .i64 (s : Int), .int .u8 (a : Int), .int .u8 (b : Int), .int .i64 (t : Int)] 92 (0, 0))) ∧ Aside0 (Below w.heap.size w w')) (fun v8 w' => N - (intOf v8).toNat)
            case atStart => exact ⟨a, b + 1 - a, row0, rfl, ⟨by omega, Nat.le_refl _, rfl, by
              have h1 := R129_cell HO.out hsn (c := 0) (by omega)
              obtain ⟨cs, h1, h2, h3, h4⟩ := Kd.R_elem HO.out ([] : List Int) (s : Int) (by omega) (by omega)
              rw [Int.toNat_natCast] at h2
              rw [HROW0.out]
              exact (k129_cells (k129.K_of_M h2)).1⟩, ⟨by rw [HST.out]; exact HO.out⟩, BM, BG8, HB⟩
            case round =>
              clear HO BM BG8 HB
              obtain ⟨x, d, row, rfl, HX, HO, BM, BG8, HB⟩ := hrel
              obtain ⟨wb, rfl⟩ : ∃ wb, wb = wr := ⟨_, rfl⟩
              have d70 := yW BG8 0
              have d72 := yW BG8 2
              have d73 := yW BG8 3
              have m1 := yW BM 1
              by_cases hxb : x ≤ b
              · have q2 : ((x : Int) ≤ (b : Int)) = True := eq_true (by omega)
                go_wp2
                have s0 : ((0 : Int) ≤ (s : Int)) = True := eq_true (by omega)
                have s1 : ((s : Int) < (A.length : Int)) = True := eq_true (by omega)
                have t0 : ((0 : Int) ≤ (x : Int)) = True := eq_true (by omega)
                have t1 : ((x : Int) < 256) = True := eq_true (by omega)
                have HXB := ym hxb
                refine start_ (n := 12) (S := fun w' => w'.cell? ⟨gm, 1, none⟩ = some (.slice (some ⟨gn, 0, none⟩) A.length cn) ∧ w'.cell? ⟨g7, 0, none⟩ = some (.int .i64 (s : Int)) ∧ w'.cell? ⟨g7, 3, none⟩ = some (.int .i64 (t : Int))) (ds := []) #[false, false, false, false, false, false, false, false, false, false, false, false] (by kernel_rfl) rfl rfl ⟨m1, d70, d73⟩ (fun hHeld => ?_)
                refine with_tabW machineOf.tab19 machineOf.bits19 (fun HT_ HW_ => ?_)
                have BM1 := ym (yt BM.out)
                have BG81 := ym (yt BG8.out)
                have HB1 := ym (ye HB.out)
                have HO1 := ym (yh HO.out)
                clear m1 d70 d72 d73 HO BM BG8 HB
                generalize wb.drew = wc at BM1 BG81 HB1 HO1 hHeld ⊢
                have HP1 := ym (R129_put HO1.out hsn (c := x) (by omega) (t : Int))
                obtain ⟨cc1', cc2'⟩ := R129_cell HO1.out hsn (c := x) (by omega)
                refine zt (i := 0) (N := some 63) HT_ ?_
                refine zt (i := 4) (N := some 67) HT_ ?_
                refine zt (i := 6) (N := some 69) HT_ ?_
                refine zt (i := 7) (N := some 70) HT_ ?_
                refine zt (i := 1) (N := some 64) HT_ ?_
                refine zt (i := 2) (N := some 65) HT_ ?_
                refine zw (i := 3) (N := some 66) HT_ HW_ hHeld ?_ (hv := (by rintro w' ⟨s0, s1, s2⟩; go_simp; with_reducible rfl))
                refine zw (i := 5) (N := some 68) HT_ HW_ hHeld ?_ (hv := (by rintro w' ⟨s0, s1, s2⟩; go_simp; with_reducible rfl))
                refine zw (i := 8) (N := some 71) HT_ HW_ hHeld ?_ (hv := (by rintro w' ⟨s0, s1, s2⟩; go_simp; with_reducible rfl))
                refine zt (i := 9) (N := some 72) HT_ ?_
                refine zt (i := 10) (N := some 73) HT_ ?_
                refine one_ (i := 11) (N := none) #[i_, i_, i_, i_, i_, i_, i_, i_, i_, i_, i_, i_] rfl rfl (one_of HT_.out (by kernel_rfl)) (by decide) (fun K hK => ?_)
                refine skip_step (w1 := wc.setCell ⟨gn, s * 256 + x, none⟩ (.int .i64 (t : Int))) ?hw ?hrun ?_
                case hw => rfl
                case hrun => first | (go_simp; done) | (go_simp; rfl)
                obtain ⟨w8, hw8⟩ : ∃ w8, w8 = wc.setCell ⟨gn, s * 256 + x, none⟩ (.int .i64 (t : Int)) := ⟨_, rfl⟩
                rw [← hw8] at HP1 ⊢
                obtain ⟨hp1, hp2⟩ := HP1.out
                have HO := ym hp1
                have HB := ym (pw_below_grown HB1.out (some gn) (below_size HB1.out) hp2 (fun k hk => by cases hk; exact hgn))
                have BM := ym (blk_grown BM1.out hp2 (by have := NEM.out; intro q; injection q with q; exact this q.symm))
                have BG8 := ym (blk_grown BG81.out hp2 (Kd.R_ne HO1.out BG81.out (by decide)))
                clear hw8 hp1 hp2 HP1 BM1 BG81 HB1 HO1 cc1' cc2'
                refine hK.out _ _ ⟨yW BM 1, yW BG8 0, yW BG8 3⟩ (fun hHeld => ?_)
                clear hK K
                refine norm_ (a' := ?_) ?_ ?_
                rotate_left
                · show Act.put _ none _ = _
                  rfl
                refine done_ (done_of HT_.out (by kernel_rfl)) ?_
                clear HT_ HW_ hHeld
                go_wp2
                go_roundw
                case measure => exact mdec' (by rw [HN.out]; exact Nat.lt_succ_of_le HXB.out)
                case rel => exact ⟨x + 1, d - 1, row.set x (t : Int), rfl, ⟨by
                  obtain ⟨h1, h2, h3, h4⟩ := HX.out
                  have hxb := HXB.out
                  obtain ⟨d', hd⟩ : ∃ d', d = d' + 1 := ⟨d - 1, by omega⟩
                  subst hd
                  refine ⟨by omega, by omega, ?_, by rw [List.length_set]; exact h4⟩
                  rw [← h3]
                  simp only [Mach.fillB, Nat.add_sub_cancel]
                  rw [HBB.out, HT.out]
                  have e9 : ((b : Int) - (d' : Int)).toNat = x := by omega
                  rw [e9]⟩, ⟨by
                  have h8 := HO.out
                  have hl := HRL.out
                  have e1 : (Rj.set s row).getD s [] = row := by
                    rw [List.getD_eq_getElem?_getD, List.getElem?_set_self (by omega)]; rfl
                  rw [e1, List.set_set] at h8
                  exact h8⟩, BM, BG8, HB⟩
              · have HXN := ym hxb
                have q2 : ((x : Int) ≤ (b : Int)) = False := eq_false (by omega)
                clear d70 d72 d73 m1
                have d72 := yW BG8 2
                go_wp2
                go_roundw
                case measure => first | exact mdec' HJ2.out | exact mdec HJ2.out (by omega)
                case rel => exact ⟨j + 1, by first | rfl | (rw [wlt HJ2.out (by omega)]; rfl), ⟨HJ2.out⟩, ⟨by
                  obtain ⟨h1, h2, h3, h4⟩ := HX.out
                  have hx := HXN.out
                  have hd : d = 0 := by omega
                  subst hd
                  have h8 := HO.out
                  have e1 : row = Mach.fillB e (b + 1 - a) row0 := h3
                  have e2 : Mach.fill (List.replicate A.length Mach.deads) (E.take (j + 1)) = Mach.fillE Rj e := by
                    rw [List.take_add_one, List.getElem?_eq_getElem HJ2.out, HRJ.out, HED.out]
                    unfold Mach.fill
                    rw [List.foldl_append]; rfl
                  have e3 : Mach.fillE Rj e = Rj.set s row := by
                    unfold Mach.fillE
                    rw [HS.out, HA.out, HBB.out, Int.toNat_natCast, ← HROW0.out, e1]
                    have e4 : ((b : Int) - (a : Int) + 1).toNat = b + 1 - a := by omega
                    rw [e4]
                  rw [e2, e3]
                  exact h8⟩, BM, HB⟩
          · have ej : j = E.length := by have := HJ.out; omega
            have h8 := HO.out
            rw [ej, List.take_length] at h8
            have H8 := ym h8
            have p2 : ((j : Int) < (E.length : Int)) = False := eq_false (by omega)
            clear h8 HO HJ ej hj
            go_wp2
            go_ret
            have hq := Kd.R_reads' H8.out
            have hlen := hq.1
            refine ⟨gm, rfl, ⟨_, cn, _, c0, ?_, hq.2.2, by rw [← hlen]; exact hq.2.1, Kd.C_below HR0.out HB.out, HC0.out⟩, HB.out⟩
            rw [← hlen]; exact BM.out
end Go.Proofs.Ytfjpnmhbbfiaaaa.P
