-- Printed by xprint.py (wip): functions, contracts, rows. Lean checks it.
import Derived.Test.YtmpldbccohdnjaaPx0
import Derived.Test.YtmpldbccohdnjaaPx4
import Derived.Test.YtmpldbccohdnjaaPx8
import Derived.Test.YtmpldbccohdnjaaPx11
import Derived.Test.YtmpldbccohdnjaaPx12
import Derived.Test.YtmpldbccohdnjaaPx13
import Derived.Test.YtmpldbccohdnjaaPx14
import Derived.Test.YtmpldbccohdnjaaPx17
namespace Go.Proofs.Ytmpldbccohdnjaa.P
open Go.RowKit Go.Proofs.YtmpldbccohdnjaaW.PrintWords Go.Proofs.YtmpldbccohdnjaaW.PrintLast Go.Proofs.YtmpldbccohdnjaaW.PrintMore
attribute [local go_sem] max2_int min2_int max_two min_two max_three min_three max_four min_four   -- for this text's walks alone
set_option linter.unusedVariables false
set_option linter.unusedSimpArgs false

/-! ### heraldlaw11_SoftMemory: function 9 -/
/-- The weights and ones behind them. -/
def soft_wl (want : List Int) (n : Nat) : List Int := want ++ List.replicate (n - want.length) 1
def heraldlaw11_SoftMemory.f (k : Nat) (l0 : List Int) (l1 : List (List Int)) : Option Bool :=
  (heraldref11_Weights.f k l0).bind fun t0 => (heraldref11_Means.f k ((soft_wl t0.1 l1.length).take l1.length) l1).bind fun t1 => (soft_Weights.f k l0).bind fun t2 => (soft_Means.f k ((soft_wl t0.1 l1.length).take l1.length) l1).bind fun t3 =>
  (heraldlaw11_longs.f k t2.1 t0.1).bind fun t4 => (heraldlaw11_rows.f k t3.1 t1.1).bind fun t5 => (heraldlaw11_awake.f k).bind fun t6 =>
  if t4 = true ∧ t5 = true ∧ t6 = true ∧ l0.length ≤ 17592186044000 ∧ l1.length ≤ 5864062014800 ∧ t0.1.length ≤ 17592186044000 ∧ t2.1.length ≤ 17592186044000 ∧ t3.1.length ≤ 140737488355000 then some true else none
theorem softInfo.a : (Try.prog.info? 22).map (fun i => (i.zero, i.size, i.bytes)) = some (some (.slice none 0 0), 1, 24) := by kernel_rfl
theorem softInfo.b : (Try.prog.info? 31).map (fun i => (i.zero, i.size, i.bytes)) = some (some (.slice none 0 0), 1, 24) := by kernel_rfl
theorem softInfo.c : (Try.prog.info? 32).map (fun i => (i.zero, i.size, i.bytes)) = some (some (.int .i8 0), 1, 1) := by kernel_rfl
def smarkA (m : Nat) : Int := -1 - (m : Int)
def smarkB (m : Nat) : Int := (m : Int)
def vlen : Value → Nat
  | .slice _ n _ => n
  | _ => 0
theorem own_someform {w : World} {base e n : Nat} {v : Value} {cs : List Value} (h : w.ownsRow base e 1 v n cs) (hn : v.ownBlock ≠ none) : ∃ g c, v = .slice (some ⟨g, 0, none⟩) n c ∧ n ≤ c := by
  rcases h.2 with ⟨rfl, _⟩ | ⟨g, cap, cur, rfl, _, _, hc, _⟩
  · exact absurd rfl hn
  · exact ⟨g, cap, rfl, hc⟩
theorem soft_cut {w : World} {base e g n c L : Nat} {xs : List Int} (h : w.ownsRow base e 1 (.slice (some ⟨g, 0, none⟩) n c) xs.length (xs.map (Value.int .i64))) (hL : L ≤ xs.length) : Kd.C (Kd.int .i64) w (some ⟨g, 0, none⟩) (xs.take L).length (xs.take L) ∧ L ≤ c := by
  obtain ⟨h1, h2, h3⟩ := Pool.reads_of (h1 := fun _ => rfl) h
  exact ⟨Kd.C_take h3 hL, by omega⟩
theorem softMeansCut.calls (k g7 c7 : Nat) (wt : List Int) (L : Nat) (hwt : wt.length = L) (A1 : Option Addr) (c1 : Nat) (l1 : List (List Int)) (r1 : List Int) (r2 : Int) (w : World) (hr0 : Kd.C (Kd.int .i64) w (some ⟨g7, 0, none⟩) wt.length wt) (hc0 : L ≤ c7) (hr1 : Kd.C (Kd.slice 32 (Kd.int .i8)) w A1 l1.length l1) (hc1 : l1.length ≤ c1) (h : soft_Means.f k wt l1 = some (r1, r2)) :
    Calls Try.prog 19 #[.slice (some ⟨g7, 0, none⟩) L c7, .slice A1 l1.length c1] w fun e w' => ∃ v0_ : Value, e = .returned (.tuple #[v0_, .int .i64 r2]) ∧ Kd.R (Kd.int .i8) 32 w' w.heap.size (fun _ => True) v0_ r1 ∧ Below w.heap.size w w' := by
  subst hwt
  exact soft_Means.calls k _ _ wt A1 c1 l1 r1 r2 w hr0 hc0 hr1 hc1 h
theorem refMeansCut.calls (k g7 c7 : Nat) (wt : List Int) (L : Nat) (hwt : wt.length = L) (A1 : Option Addr) (c1 : Nat) (l1 : List (List Int)) (r1 : List Int) (r2 : Int) (w : World) (hr0 : Kd.C (Kd.int .i64) w (some ⟨g7, 0, none⟩) wt.length wt) (hc0 : L ≤ c7) (hr1 : Kd.C (Kd.slice 32 (Kd.int .i8)) w A1 l1.length l1) (hc1 : l1.length ≤ c1) (h : heraldref11_Means.f k wt l1 = some (r1, r2)) :
    Calls Try.prog 20 #[.slice (some ⟨g7, 0, none⟩) L c7, .slice A1 l1.length c1] w fun e w' => ∃ v0_ : Value, e = .returned (.tuple #[v0_, .int .i64 r2]) ∧ Kd.R (Kd.int .i8) 32 w' w.heap.size (fun _ => True) v0_ r1 ∧ Below w.heap.size w w' := by
  subst hwt
  exact heraldref11_Means.calls k _ _ wt A1 c1 l1 r1 r2 w hr0 hc0 hr1 hc1 h
set_option maxRecDepth 100000 in
set_option maxHeartbeats 16000000 in
theorem heraldlaw11_SoftMemory.calls (k : Nat) (A0 : Option Addr) (c0 : Nat) (l0 : List Int) (A1 : Option Addr) (c1 : Nat) (l1 : List (List Int)) (r : Bool) (w : World) (hr0 : Kd.C (Kd.int .i64) w A0 l0.length l0) (hc0 : l0.length ≤ c0) (hr1 : Kd.C (Kd.slice 32 (Kd.int .i8)) w A1 l1.length l1) (hc1 : l1.length ≤ c1) (h : heraldlaw11_SoftMemory.f k l0 l1 = some r) :
    Calls Try.prog 9 #[.slice A0 l0.length c0, .slice A1 l1.length c1] w fun e w' => e = .returned (.bool r) ∧ Below w.heap.size w w' := by
  have HR0 := Aside0.mk hr0
  have HC0 := Aside0.mk hc0
  have HR1 := Aside0.mk hr1
  have HC1 := Aside0.mk hc1
  clear hr0 hc0 hr1 hc1
  unfold heraldlaw11_SoftMemory.f at h
  obtain ⟨⟨want, ew⟩, g0, h0⟩ := Option.bind_eq_some_iff.mp h
  obtain ⟨⟨means, em⟩, g1, h1⟩ := Option.bind_eq_some_iff.mp h0
  obtain ⟨⟨ra, ea⟩, g2, h2⟩ := Option.bind_eq_some_iff.mp h1
  obtain ⟨⟨rb, eb⟩, g3, h3⟩ := Option.bind_eq_some_iff.mp h2
  obtain ⟨t4, g4, h4⟩ := Option.bind_eq_some_iff.mp h3
  obtain ⟨t5, g5, h5⟩ := Option.bind_eq_some_iff.mp h4
  obtain ⟨t6, g6, h6⟩ := Option.bind_eq_some_iff.mp h5
  clear h h0 h1 h2 h3 h4 h5
  split at h6
  · rename_i hh
    obtain ⟨rfl, rfl, rfl, hl0, hl1, hlw, hla, hlb⟩ := hh
    obtain rfl := Option.some.inj h6
    clear h6
    have G0 := Aside0.mk g0
    have G1 := Aside0.mk g1
    have G2 := Aside0.mk g2
    have G3 := Aside0.mk g3
    have G4 := Aside0.mk g4
    have G5 := Aside0.mk g5
    have G6 := Aside0.mk g6
    clear g0 g1 g2 g3 g4 g5 g6
    have HLA := Aside0.mk hla
    have HLB := Aside0.mk hlb
    clear hla hlb
    go_enter Try.func9, Try.ntmps9
    go_wp2_with (first | ((with_reducible refine gate_dst (N := 32) rfl ?_); refine Kd.R_lit (Kd.int .i64) _ 2 ?hg (N := 32) ?hd (xs := ([] : List Int)) (inner := []) (ok := fun _ => True) (okp := fun _ => True) ?hr ?hp (fun _ hk => hk) trivial (Below.refl _ _) (Nat.le_refl _) (by simp) ?_; (case hd => rfl); (case hg => rfl); (case hr => first | (go_simp; done) | (go_simp; rfl)); (case hp => exact (Reps.none _ _)); intro v1 w1 ho hb hg_ hnew_; clear hg_ hnew_; have HO1 := Aside0.mk ho; have HB1 := Aside0.mk hb; clear ho hb) | ((with_reducible refine gate_builtin (b := .append) (xs := #[.tmp 32, .tmp 33]) rfl ?_); at_builtin; refine Kd.R_append_rows (Kd.int .i64) (w0 := w) w.heap.size rfl (.tmp 32) (.tmp 33) 22 2 (.int .i64 0) 8 rfl Try.underlying22 info2 rfl (by decide) (by omega) v1 [] l0 _ _ _ (fun _ => True) (fun _ => False) rfl rfl HO1.out (Kd.C_below HR0.out HB1.out) (fun _ _ h => h) (fun _ h => h.elim) (fun _ _ => trivial) HB1.out HB1.out.size (by simp; omega) ?_; intro v2 w2 ho hb hg2 hat2; obtain ⟨A2, c2, rfl⟩ := Kd.R_slice ho; have HO2 : Aside0 (Kd.R (Kd.int .i64) 2 w2 w.heap.size (fun _ => True) (.slice A2 l0.length c2) l0) := Aside0.mk ho; have HB2 := Aside0.mk hb; clear ho hb hg2 hat2) | (go_at_call 13; refine (heraldref11_Weights.calls k _ _ l0 want ew _ (Kd.R_reads' HO2.out).2.2 (Kd.R_reads' HO2.out).2.1 G0.out).mono ?_; rintro e w5 ⟨v5, rfl, ho, hb⟩; obtain ⟨Aw, cw, rfl⟩ := Kd.R_slice ho; have HW := Aside0.mk (Pool.Inner.one (enc := Value.int .i64) (Kd.own_of_R (Kd.R_lower ho HB2.out.size))); have HB5 := Aside0.mk (below_step HB2.out hb); clear ho hb) | ((with_reducible refine gate_builtin (b := .append) (xs := #[.tmp 38, .tmp 39]) rfl ?_); at_builtin; refine Pool.wpList_append_keptAllT (ei := 32) (enc := Value.int .i8) (W0 := w5) rfl (.tmp 38) (.tmp 39) 22 rfl (.int .i64 0) 8 Try.underlying22 info2 rfl (by omega) (Pool.Inner.nil _ _ _ w5.heap.size) _ _ [] (World.ownsRow_lit w5 #[] 0 (Nat.le_refl _) (by unfold maxLen; omega) rfl) (by decide) _ _ (want.map (Value.int .i64)) (pw_own_below (HW.out.own 0 _ want rfl rfl) (below_alloc (Below.refl _ _) _)) (fun u hu => by obtain ⟨x, _, rfl⟩ := List.mem_map.1 hu; rfl) rfl rfl (below_alloc (Below.refl _ _) _) (by simp) (by omega) ?_; intro v6 w6 _ ho hb hs _ hn; obtain ⟨g6, c6, rfl, hc6⟩ := own_someform ho (hn (by simp [Value.ownBlock])); have HO6 := Aside0.mk ho; have HB6 := Aside0.mk hb; clear ho hb hs hn))
    go_loopw [7] (fun v wr => ∃ (m g c : Nat), v = .slice (some ⟨g, 0, none⟩) (want.length + m) c ∧ m ≤ l1.length - want.length ∧ want.length + m ≤ c ∧ Aside0 (wr.ownsRow w5.heap.size 2 1 v (want.length + m) ((want ++ List.replicate m 1).map (Value.int .i64))) ∧ Aside0 (Below w5.heap.size w5 wr)) (fun v _ => l1.length - vlen v)
    case atStart => exact ⟨0, g6, c6, by simp, Nat.zero_le _, by omega, ⟨by simpa using HO6.out⟩, HB6⟩
    case round =>
      clear HO6 HB6 hc6
      obtain ⟨m, g7, c7, rfl, hm, hmc, HO, HB⟩ := hrel
      by_cases hlt : want.length + m < l1.length
      · go_wp2_with (first | ((with_reducible refine gate_builtin (b := .append) (xs := #[.tmp 46, .tmp 47]) rfl ?_); at_builtin; refine Pool.wpList_append_keptT (ei := 32) (enc := Value.int .i8) (W0 := w5) rfl (.tmp 46) (.tmp 47) 22 rfl (.int .i64 0) 8 Try.underlying22 info2 rfl (by omega) (Pool.Inner.nil _ _ _ w5.heap.size) _ _ _ HO.out (by decide) (.int .i64 1) rfl rfl rfl HB.out HB.out.size (by omega) ?_; intro v8 w8 _ ho hb hs _ _ hn; obtain ⟨g8, c8, rfl, hc8⟩ := own_someform ho (hn (by simp [Value.ownBlock])); have HO8 := Aside0.mk ho; have HB8 := Aside0.mk hb; clear ho hb hs hn))
        go_roundw
        case measure => simp only [vlen]; omega
        case rel => exact ⟨m + 1, g8, c8, by rw [Nat.add_assoc], by omega, by omega, ⟨by have e := HO8.out; simp only [Nat.add_assoc] at e ⊢; rw [List.replicate_succ', ← List.append_assoc, List.map_append (l₂ := [(1 : Int)])]; exact e⟩, HB8⟩
      · obtain ⟨wl, hwl⟩ : ∃ wl, wl = soft_wl want l1.length := ⟨_, rfl⟩
        have hwe : wl = want ++ List.replicate m 1 := by rw [hwl]; unfold soft_wl; congr 2; omega
        have hwlen : wl.length = want.length + m := by rw [hwe]; simp
        rw [← hwe, ← hwlen] at HO
        rw [← hwl] at G1 G3
        rw [← hwlen] at hlt hmc
        simp only [← hwlen]
        clear hwl hwe hwlen hm
        have hcut : l1.length ≤ c7 := by omega
        have hLw : l1.length ≤ wl.length := by omega
        have HI0 := Aside0.mk (HW.out.join HB.out HB5.out.size (Pool.Inner.one (enc := Value.int .i64) (xs := wl) HO.out))
        have HB0 := Aside0.mk (below_step HB5.out HB.out)
        obtain ⟨wt, hwt⟩ : ∃ wt, wt = wl.take l1.length := ⟨_, rfl⟩
        have HWT := Aside0.mk hwt
        have HLT : Aside0 (wt.length = l1.length) := ⟨by rw [hwt, List.length_take]; omega⟩
        rw [← hwt] at G1 G3
        clear hwt HO HB m
        go_wp2_with (first | (go_at_call 20; refine (refMeansCut.calls k _ _ wt l1.length HLT.out _ _ l1 means em _ (by rw [HWT.out]; exact (soft_cut (HI0.out.own 1 _ wl rfl rfl) (by omega)).1) (by omega) (Kd.C_below HR1.out HB0.out) HC1.out G1.out).mono ?_; rintro e w9 ⟨v9, rfl, ho, hb⟩; obtain ⟨Am, cm, rfl⟩ := Kd.R_slice ho; have HJ9 := Aside0.mk (Pool.Inner.one (enc := Value.int .i8) (Kd.own_of_R (Kd.R_lower ho HB0.out.size))); have HI9 := Aside0.mk (HI0.out.below hb); have HB9 := Aside0.mk (below_step HB0.out hb); clear ho hb))
        go_loopw [10, 11, 12] (fun v10 v11 i wr => ∃ (n : Nat) (us vs : List Value) (xss yss : List (List Int)), i = .int .i64 n ∧ n ≤ 3 ∧ Aside0 (Pool.Inner 2 (Value.int .i64) wr w.heap.size (.slice Aw want.length cw :: .slice (some ⟨g7, 0, none⟩) wl.length c7 :: us) (want :: wl :: xss)) ∧ Aside0 (Pool.Inner 32 (Value.int .i8) wr w.heap.size (.slice Am means.length cm :: vs) (means :: yss)) ∧ Aside0 (wr.ownsRow w.heap.size 22 1 v10 n us) ∧ Aside0 (wr.ownsRow w.heap.size 31 1 v11 n vs) ∧ Aside0 (Below w.heap.size w wr) ∧ Aside0 (∀ x ∈ xss, x.length ≤ 17592186044000) ∧ Aside0 (∀ x ∈ yss, x.length ≤ 140737488355000)) (fun _ _ i _ => 3 - (intOf i).toNat)
        case atStart => exact ⟨0, [], [], [], [], rfl, by omega, ⟨(HI9.out.below (below_alloc (Below.refl _ _) _)).below (below_alloc (Below.refl _ _) _)⟩, ⟨(HJ9.out.below (below_alloc (Below.refl _ _) _)).below (below_alloc (Below.refl _ _) _)⟩, ⟨pw_own_below (World.ownsRow_lit w9 #[] 0 HB9.out.size (by unfold maxLen; omega) rfl) (below_alloc (Below.refl _ _) _)⟩, ⟨by have e := World.ownsRow_lit (base := w.heap.size) (size := 1) (e := 31) (w9.alloc (.cells #[] 22)) #[] 0 (below_alloc HB9.out _).size (by unfold maxLen; omega) rfl; simpa using e⟩, ⟨below_alloc (below_alloc HB9.out _) _⟩, ⟨by simp⟩, ⟨by simp⟩⟩
        case round =>
          clear HI0 HB0 HI9 HJ9 HB9
          obtain ⟨n, us, vs, xss, yss, rfl, hn, HI, HJ, HO, HP, HB, HX, HY⟩ := hrel
          obtain ⟨Ak, ck, rfl⟩ := own_slice HO.out
          obtain ⟨Al, cl, rfl⟩ := own_slice HP.out
          have hul : us.length = n := by have e : us.length = n * 1 := HO.out.1; omega
          have hvl : vs.length = n := by have e : vs.length = n * 1 := HP.out.1; omega
          by_cases hlt : n < 3
          · go_wp2_with (first | (go_at_call 12; refine (soft_Weights.calls k _ _ l0 ra ea _ (Kd.C_below HR0.out HB.out) HC0.out G2.out).mono ?_; rintro e wa ⟨va, rfl, ho, hb⟩; obtain ⟨Aa, ca, rfl⟩ := Kd.R_slice ho; have HIa := Aside0.mk (HI.out.join hb HB.out.size (Pool.Inner.one (enc := Value.int .i64) (Kd.own_of_R ho))); have HJa := Aside0.mk (HJ.out.below hb); have HOa := Aside0.mk (pw_own_below HO.out hb); have HPa := Aside0.mk (pw_own_below HP.out hb); have HBa := Aside0.mk (below_step HB.out hb); have HRa := Aside0.mk ho; clear ho hb) | (go_at_call 19; refine (softMeansCut.calls k _ _ wt l1.length HLT.out _ _ l1 rb eb _ (by rw [HWT.out]; exact (soft_cut (HIa.out.own 1 _ wl rfl rfl) (by omega)).1) (by omega) (Kd.C_below HR1.out HBa.out) HC1.out G3.out).mono ?_; rintro e wb ⟨vb, rfl, ho, hb⟩; obtain ⟨Ab, cb, rfl⟩ := Kd.R_slice ho; have HJb := Aside0.mk (HJa.out.join hb HBa.out.size (Pool.Inner.one (enc := Value.int .i8) (Kd.own_of_R ho))); have HIb := Aside0.mk (HIa.out.below hb); have HOb := Aside0.mk (pw_own_below HOa.out hb); have HPb := Aside0.mk (pw_own_below HPa.out hb); have HBb := Aside0.mk (below_step HBa.out hb); have HRa' := Aside0.mk (Kd.R_below HRa.out hb); have HRb := Aside0.mk ho; have HRw := Aside0.mk (Kd.R_of_own (h1 := fun _ => rfl) (ok := fun _ => True) (HIb.out.own 0 _ want rfl rfl) (fun _ _ => trivial)); have HRm := Aside0.mk (Kd.R_of_own (h1 := fun _ => rfl) (ok := fun _ => True) (HJb.out.own 0 _ means rfl rfl) (fun _ _ => trivial)); clear ho hb) | (go_at_call 15; refine (heraldlaw11_longs.calls k _ _ ra _ _ want true _ (Kd.R_reads' HRa'.out).2.2 (Kd.R_reads' HRa'.out).2.1 (Kd.R_reads' HRw.out).2.2 (Kd.R_reads' HRw.out).2.1 G4.out).mono ?_; rintro e wc ⟨rfl, hd⟩; have hb := hd.below; have HIc := Aside0.mk (HIb.out.below hb); have HJc := Aside0.mk (HJb.out.below hb); have HOc := Aside0.mk (pw_own_below HOb.out hb); have HPc := Aside0.mk (pw_own_below HPb.out hb); have HBc := Aside0.mk (below_step HBb.out hb); have HRb' := Aside0.mk (Kd.R_below HRb.out hb); have HRm' := Aside0.mk (Kd.R_below HRm.out hb); clear hd hb) | (go_at_call 18; refine (heraldlaw11_rows.calls k _ _ rb _ _ means true _ (Kd.R_reads' HRb'.out).2.2 (Kd.R_reads' HRb'.out).2.1 (Kd.R_reads' HRm'.out).2.2 (Kd.R_reads' HRm'.out).2.1 G5.out).mono ?_; rintro e wd ⟨rfl, hd⟩; have hb := hd.below; have HId := Aside0.mk (HIc.out.below hb); have HJd := Aside0.mk (HJc.out.below hb); have HOd := Aside0.mk (pw_own_below HOc.out hb); have HPd := Aside0.mk (pw_own_below HPc.out hb); have HBd := Aside0.mk (below_step HBc.out hb); clear hd hb) | ((with_reducible refine gate_builtin (b := .append) (xs := #[.tmp 86, .tmp 88]) rfl ?_); at_builtin; refine Pool.wpList_append_keptT (W0 := w) rfl (.tmp 86) (.tmp 88) 47 rfl (.slice none 0 0) 24 Try.underlying47 softInfo.a rfl (by omega) HId.out _ _ us HOd.out (by decide) (.slice Aa ra.length ca) rfl rfl rfl HBd.out HBd.out.size (by omega) ?_; intro ve we hi ho hb hs _ ht _; obtain ⟨Ae, ce, rfl⟩ := own_slice ho; have HIe := Aside0.mk hi; have HOe := Aside0.mk ho; have HBe := Aside0.mk hb; have HJe := Aside0.mk (HJd.out.ty ht (by decide)); have HPe := Aside0.mk (Pool.own_ty HPd.out ht (by decide)); clear hi ho hb hs ht) | ((with_reducible refine gate_builtin (b := .append) (xs := #[.tmp 90, .tmp 92]) rfl ?_); at_builtin; refine Pool.wpList_append_keptT (W0 := w) rfl (.tmp 90) (.tmp 92) 41 rfl (.slice none 0 0) 24 Try.underlying41 softInfo.b rfl (by omega) HJe.out _ _ vs HPe.out (by decide) (.slice Ab rb.length cb) rfl rfl rfl HBe.out HBe.out.size (by omega) ?_; intro vf wf hi ho hb hs _ ht _; obtain ⟨Af, cf, rfl⟩ := own_slice ho; have HJf := Aside0.mk hi; have HPf := Aside0.mk ho; have HBf := Aside0.mk hb; have HIf := Aside0.mk (HIe.out.ty ht (by decide)); have HOf := Aside0.mk (Pool.own_ty HOe.out ht (by decide)); clear hi ho hb hs ht))
            go_roundw
            case measure => simp only [intOf]; omega
            case rel => exact ⟨n + 1, us ++ [.slice Aa ra.length ca], vs ++ [.slice Ab rb.length cb], xss ++ [ra], yss ++ [rb], by simp, by omega, ⟨by simpa using HIf.out⟩, ⟨by simpa using HJf.out⟩, HOf, HPf, HBf, ⟨by intro x hx; rcases List.mem_append.1 hx with hx | hx; exact HX.out x hx; rw [List.mem_singleton.1 hx]; exact HLA.out⟩, ⟨by intro x hx; rcases List.mem_append.1 hx with hx | hx; exact HY.out x hx; rw [List.mem_singleton.1 hx]; exact HLB.out⟩⟩
          · have hn3 : 3 ≤ n := by omega
            obtain ⟨wz, rfl⟩ : ∃ wo, wo = wr := ⟨_, rfl⟩
            go_wp2
            go_loopw [17, 18, 19] (fun v _ _ wr => ∃ (m : Nat) (xss yss : List (List Int)), v = .int .i64 m ∧ m ≤ 3 ∧ Aside0 (Pool.Inner 2 (Value.int .i64) wr w.heap.size (.slice Aw want.length cw :: .slice (some ⟨g7, 0, none⟩) wl.length c7 :: us) (want :: wl :: xss)) ∧ Aside0 (Pool.Inner 32 (Value.int .i8) wr w.heap.size (.slice Am means.length cm :: vs) (means :: yss)) ∧ Aside0 (wr.ownsRow w.heap.size 22 1 (.slice Ak n ck) n us) ∧ Aside0 (wr.ownsRow w.heap.size 31 1 (.slice Al n cl) n vs) ∧ Aside0 (Below w.heap.size w wr) ∧ Aside0 (∀ x ∈ xss, x.length ≤ 17592186044000) ∧ Aside0 (∀ x ∈ yss, x.length ≤ 140737488355000) ∧ Aside0 (Pool.Marked smarkA xss m) ∧ Aside0 (Pool.Marked smarkB yss m)) (fun v _ _ _ => 3 - (intOf v).toNat)
            case atStart => exact ⟨0, xss, yss, rfl, Nat.zero_le _, HI, HJ, HO, HP, HB, HX, HY, ⟨Pool.Marked.zero _ _⟩, ⟨Pool.Marked.zero _ _⟩⟩
            case round =>
              clear HI HJ HO HP HB HX HY xss yss
              obtain ⟨m, xss, yss, rfl, hm, HI, HJ, HO, HP, HB, HX, HY, HM, HN⟩ := hrel
              by_cases hmt : m < 3
              · obtain ⟨wo, rfl⟩ : ∃ wo, wo = wr := ⟨_, rfl⟩
                have hmn : m < n := by omega
                obtain ⟨um, hum⟩ : ∃ um, us[m]? = some um := ⟨_, List.getElem?_eq_getElem (by omega)⟩
                have hum' : (Value.slice Aw want.length cw :: .slice (some ⟨g7, 0, none⟩) wl.length c7 :: us)[m + 2]? = some um := hum
                obtain ⟨xm, hxm, hown⟩ := HI.out.at_ hum'
                clear hown
                obtain ⟨Au, cu, rfl⟩ := HI.out.form hum' hxm
                obtain ⟨gk, ck', e, hcell⟩ := Pool.outer_cell HO.out hum
                cases e
                obtain ⟨vm, hvm⟩ : ∃ vm, vs[m]? = some vm := ⟨_, List.getElem?_eq_getElem (by omega)⟩
                have hvm' : (Value.slice Am means.length cm :: vs)[m + 1]? = some vm := hvm
                obtain ⟨ym, hym, hown⟩ := HJ.out.at_ hvm'
                clear hown
                obtain ⟨Av, cv, rfl⟩ := HJ.out.form hvm' hym
                obtain ⟨gl, cl', e, hcell2⟩ := Pool.outer_cell HP.out hvm
                cases e
                have hx20 : xm.length ≤ 17592186044000 := HX.out xm (List.mem_of_getElem? (show xss[m]? = some xm from hxm))
                have hy20 : ym.length ≤ 140737488355000 := HY.out ym (List.mem_of_getElem? (show yss[m]? = some ym from hym))
                obtain ⟨L, hL⟩ : ∃ L, L = xm.length := ⟨_, rfl⟩
                obtain ⟨M, hM⟩ : ∃ M, M = ym.length := ⟨_, rfl⟩
                rw [← hL] at hum hum' hcell hx20
                rw [← hM] at hvm hvm' hcell2 hy20
                clear hL hxm xm hM hym ym
                go_wp2
                go_loopw [18] (fun v wr => ∃ (j : Nat) (xss : List (List Int)), v = .int .i64 j ∧ j ≤ L ∧ Aside0 (Pool.Inner 2 (Value.int .i64) wr w.heap.size (.slice Aw want.length cw :: .slice (some ⟨g7, 0, none⟩) wl.length c7 :: us) (want :: wl :: xss)) ∧ Aside0 (Pool.Inner 32 (Value.int .i8) wr w.heap.size (.slice Am means.length cm :: vs) (means :: yss)) ∧ Aside0 (wr.ownsRow w.heap.size 22 1 (.slice (some ⟨gk, 0, none⟩) n ck) n us) ∧ Aside0 (wr.ownsRow w.heap.size 31 1 (.slice (some ⟨gl, 0, none⟩) n cl) n vs) ∧ Aside0 (Below w.heap.size w wr) ∧ Aside0 (∀ x ∈ xss, x.length ≤ 17592186044000) ∧ Aside0 (∀ x ∈ yss, x.length ≤ 140737488355000) ∧ Aside0 (Pool.Marked smarkA xss m) ∧ Aside0 (Pool.Marked smarkB yss m) ∧ Aside0 (Pool.Part smarkA xss m j)) (fun v _ => L - (intOf v).toNat)
                case atStart => exact ⟨0, xss, rfl, Nat.zero_le _, HI, HJ, HO, HP, HB, HX, HY, HM, HN, ⟨Pool.Part.zero _ _ _⟩⟩
                case round =>
                  clear HI HJ HO HP HB HX HY HM HN hcell hcell2 xss
                  obtain ⟨j, xss, rfl, hj, HI, HJ, HO, HP, HB, HX, HY, HM, HN, HQ⟩ := hrel
                  obtain ⟨_, _, e, hcell⟩ := Pool.outer_cell HO.out hum
                  cases e
                  obtain ⟨_, _, e, hcell2⟩ := Pool.outer_cell HP.out hvm
                  cases e
                  obtain ⟨xm, hxm, hown⟩ := HI.out.at_ hum'
                  obtain rfl : L = xm.length := by
                    obtain ⟨A, c, e⟩ := own_slice hown
                    cases e; rfl
                  have hxm' : xss[m]? = some xm := hxm
                  by_cases hlj : j < xm.length
                  · obtain ⟨g, c, e⟩ := HI.out.formed hum' hxm (by omega)
                    cases e
                    obtain ⟨hcj, hfj⟩ := HI.out.cell hxm hum' (List.getElem?_eq_getElem hlj)
                    have HT := Aside0.mk (Pool.ty_store hown j (.int .i64 (smarkA m)))
                    clear hown
                    go_wp2
                    go_roundw
                    case measure => simp only [intOf]; omega
                    case rel => exact ⟨j + 1, xss.set m (xm.set j (smarkA m)), by simp, by omega, ⟨HI.out.store hxm hum' j (smarkA m)⟩, ⟨HJ.out.ty HT.out (by decide)⟩, ⟨Pool.outer_store HO.out HI.out (by decide) hum' j _⟩, ⟨Pool.own_ty HP.out HT.out (by decide)⟩, ⟨ys HB.out (HI.out.lt hum' rfl).1⟩, ⟨by intro z hz; rcases List.mem_or_eq_of_mem_set hz with hz | rfl; exact HX.out z hz; rw [List.length_set]; exact hx20⟩, HY, ⟨HM.out.store _⟩, HN, ⟨HQ.out.store hxm'⟩⟩
                  · obtain rfl : j = xm.length := by omega
                    clear hown
                    obtain ⟨wo2, rfl⟩ : ∃ wo, wo = wr := ⟨_, rfl⟩
                    go_wp2
                    go_loopw [19] (fun v wr => ∃ (j : Nat) (yss : List (List Int)), v = .int .i64 j ∧ j ≤ M ∧ Aside0 (Pool.Inner 2 (Value.int .i64) wr w.heap.size (.slice Aw want.length cw :: .slice (some ⟨g7, 0, none⟩) wl.length c7 :: us) (want :: wl :: xss)) ∧ Aside0 (Pool.Inner 32 (Value.int .i8) wr w.heap.size (.slice Am means.length cm :: vs) (means :: yss)) ∧ Aside0 (wr.ownsRow w.heap.size 22 1 (.slice (some ⟨gk, 0, none⟩) n ck) n us) ∧ Aside0 (wr.ownsRow w.heap.size 31 1 (.slice (some ⟨gl, 0, none⟩) n cl) n vs) ∧ Aside0 (Below w.heap.size w wr) ∧ Aside0 (∀ x ∈ yss, x.length ≤ 140737488355000) ∧ Aside0 (Pool.Marked smarkB yss m) ∧ Aside0 (Pool.Part smarkB yss m j)) (fun v _ => M - (intOf v).toNat)
                    case atStart => exact ⟨0, yss, rfl, Nat.zero_le _, HI, HJ, HO, HP, HB, HY, HN, ⟨Pool.Part.zero _ _ _⟩⟩
                    case round =>
                      clear HI HJ HO HP HB HY HN hcell hcell2
                      obtain ⟨j, yss, rfl, hj, HI, HJ, HO, HP, HB, HY, HN, HR⟩ := hrel
                      obtain ⟨_, _, e, hcell⟩ := Pool.outer_cell HO.out hum
                      cases e
                      obtain ⟨_, _, e, hcell2⟩ := Pool.outer_cell HP.out hvm
                      cases e
                      obtain ⟨ym, hym, hown⟩ := HJ.out.at_ hvm'
                      obtain rfl : M = ym.length := by
                        obtain ⟨A, c, e⟩ := own_slice hown
                        cases e; rfl
                      have hym' : yss[m]? = some ym := hym
                      by_cases hlj : j < ym.length
                      · obtain ⟨g, c, e⟩ := HJ.out.formed hvm' hym (by omega)
                        cases e
                        obtain ⟨hcj, hfj⟩ := HJ.out.cell hym hvm' (List.getElem?_eq_getElem hlj)
                        have HT := Aside0.mk (Pool.ty_store hown j (.int .i8 (smarkB m)))
                        clear hown
                        go_wp2
                        go_roundw
                        case measure => simp only [intOf]; omega
                        case rel => exact ⟨j + 1, yss.set m (ym.set j (smarkB m)), by simp, by omega, ⟨HI.out.ty HT.out (by decide)⟩, ⟨HJ.out.store hym hvm' j (smarkB m)⟩, ⟨Pool.own_ty HO.out HT.out (by decide)⟩, ⟨Pool.outer_store HP.out HJ.out (by decide) hvm' j _⟩, ⟨ys HB.out (HJ.out.lt hvm' rfl).1⟩, ⟨by intro z hz; rcases List.mem_or_eq_of_mem_set hz with hz | rfl; exact HY.out z hz; rw [List.length_set]; exact hy20⟩, ⟨HN.out.store _⟩, ⟨HR.out.store hym'⟩⟩
                      · obtain rfl : j = ym.length := by omega
                        clear hown
                        go_wp2
                        go_roundw
                        case measure => simp only [intOf]; omega
                        case rel => exact ⟨m + 1, xss, yss, by simp, by omega, HI, HJ, HO, HP, HB, HX, HY, ⟨HM.out.next hxm' HQ.out⟩, ⟨HN.out.next hym' HR.out⟩⟩
              · obtain ⟨mz, rfl⟩ : ∃ z, z = m := ⟨_, rfl⟩
                obtain ⟨wy, rfl⟩ : ∃ wo, wo = wr := ⟨_, rfl⟩
                go_wp2
                go_loopw [20, 21, 22, 23] (fun v _ _ _ wr => ∃ (m : Nat), v = .int .i64 m ∧ m ≤ 3 ∧ Aside0 (Pool.Inner 2 (Value.int .i64) wr w.heap.size (.slice Aw want.length cw :: .slice (some ⟨g7, 0, none⟩) wl.length c7 :: us) (want :: wl :: xss)) ∧ Aside0 (Pool.Inner 32 (Value.int .i8) wr w.heap.size (.slice Am means.length cm :: vs) (means :: yss)) ∧ Aside0 (wr.ownsRow w.heap.size 22 1 (.slice Ak n ck) n us) ∧ Aside0 (wr.ownsRow w.heap.size 31 1 (.slice Al n cl) n vs) ∧ Aside0 (Below w.heap.size w wr)) (fun v _ _ _ _ => 3 - (intOf v).toNat)
                case atStart => exact ⟨0, rfl, Nat.zero_le _, HI, HJ, HO, HP, HB⟩
                case round =>
                  clear HI HJ HO HP HB
                  obtain ⟨m, rfl, hm, HI, HJ, HO, HP, HB⟩ := hrel
                  by_cases hmt : m < 3
                  · obtain ⟨wo2, rfl⟩ : ∃ wo, wo = wr := ⟨_, rfl⟩
                    have hmn : m < n := by omega
                    obtain ⟨um, hum⟩ : ∃ um, us[m]? = some um := ⟨_, List.getElem?_eq_getElem (by omega)⟩
                    have hum' : (Value.slice Aw want.length cw :: .slice (some ⟨g7, 0, none⟩) wl.length c7 :: us)[m + 2]? = some um := hum
                    obtain ⟨xm, hxm, hown⟩ := HI.out.at_ hum'
                    clear hown
                    obtain ⟨Au, cu, rfl⟩ := HI.out.form hum' hxm
                    obtain ⟨gk, ck', e, hcell⟩ := Pool.outer_cell HO.out hum
                    cases e
                    obtain ⟨vm, hvm⟩ : ∃ vm, vs[m]? = some vm := ⟨_, List.getElem?_eq_getElem (by omega)⟩
                    have hvm' : (Value.slice Am means.length cm :: vs)[m + 1]? = some vm := hvm
                    obtain ⟨ym, hym, hown⟩ := HJ.out.at_ hvm'
                    clear hown
                    obtain ⟨Av, cv, rfl⟩ := HJ.out.form hvm' hym
                    obtain ⟨gl, cl', e, hcell2⟩ := Pool.outer_cell HP.out hvm
                    cases e
                    have hx20 : xm.length ≤ 17592186044000 := HX.out xm (List.mem_of_getElem? (show xss[m]? = some xm from hxm))
                    have hy20 : ym.length ≤ 140737488355000 := HY.out ym (List.mem_of_getElem? (show yss[m]? = some ym from hym))
                    have HG := Aside0.mk (Pool.Ghost.start HI.out hum' hxm)
                    have HH := Aside0.mk (Pool.Ghost.start HJ.out hvm' hym)
                    go_wp2
                    go_region
                    rw [show decide (((m : Nat) : Int) < 3) = true from decide_eq_true (by omega)]
                    go_wp2
                    go_loopw [21, 22, 23] (fun gv hv v wr => ∃ (j : Nat), v = .int .i64 j ∧ j ≤ 20 ∧ Aside0 (Pool.Ghost 2 wr w.heap.size (.slice Aw want.length cw :: .slice (some ⟨g7, 0, none⟩) wl.length c7 :: us) (m + 2) gv (xm.length + j)) ∧ Aside0 (Pool.Ghost 32 wr w.heap.size (.slice Am means.length cm :: vs) (m + 1) hv (ym.length + j)) ∧ Aside0 (Pool.Inner 2 (Value.int .i64) wr w.heap.size (.slice Aw want.length cw :: .slice (some ⟨g7, 0, none⟩) wl.length c7 :: us) (want :: wl :: xss)) ∧ Aside0 (Pool.Inner 32 (Value.int .i8) wr w.heap.size (.slice Am means.length cm :: vs) (means :: yss)) ∧ Aside0 (wr.ownsRow w.heap.size 22 1 (.slice (some ⟨gk, 0, none⟩) n ck) n us) ∧ Aside0 (wr.ownsRow w.heap.size 31 1 (.slice (some ⟨gl, 0, none⟩) n cl) n vs) ∧ Aside0 (Below w.heap.size w wr)) (fun _ _ v _ => 20 - (intOf v).toNat)
                    case atStart => exact ⟨0, rfl, Nat.zero_le _, ⟨HG.out.below (below_drew (Below.refl _ _))⟩, ⟨HH.out.below (below_drew (Below.refl _ _))⟩, ⟨HI.out.below (below_drew (Below.refl _ _))⟩, ⟨HJ.out.below (below_drew (Below.refl _ _))⟩, ⟨pw_own_below HO.out (below_drew (Below.refl _ _))⟩, ⟨pw_own_below HP.out (below_drew (Below.refl _ _))⟩, ⟨below_drew HB.out⟩⟩
                    case round =>
                      clear HI HJ HO HP HB HG HH hcell hcell2
                      obtain ⟨j, rfl, hj, HG, HH, HI, HJ, HO, HP, HB⟩ := hrel
                      by_cases hlj : j < 20
                      · obtain ⟨Ag, cg, rfl⟩ := HG.out.form
                        obtain ⟨Ah, ch, rfl⟩ := HH.out.form
                        go_wp2_with (first | ((with_reducible refine gate_builtin (b := .append) (xs := #[.tmp 148, .tmp 149]) rfl ?_); at_builtin; refine Pool.wpList_append_ghostT (W0 := w) rfl (.tmp 148) (.tmp 149) 22 rfl (.int .i64 0) 8 Try.underlying22 info2 rfl (by omega) (fun _ => rfl) HI.out _ _ us HO.out (by decide) (m + 2) _ _ HG.out 77 rfl rfl HB.out HB.out.size (by omega) ?_; intro ve we hi ho hg hb hs ht; have HIe := Aside0.mk hi; have HOe := Aside0.mk ho; have HGe := Aside0.mk hg; have HBe := Aside0.mk hb; have HJe := Aside0.mk (HJ.out.ty ht (by decide)); have HPe := Aside0.mk (Pool.own_ty HP.out ht (by decide)); have HHe := Aside0.mk (HH.out.ty ht (by decide)); clear hi ho hg hb hs ht) | ((with_reducible refine gate_builtin (b := .append) (xs := #[.tmp 151, .tmp 152]) rfl ?_); at_builtin; refine Pool.wpList_append_ghostT (W0 := w) rfl (.tmp 151) (.tmp 152) 31 rfl (.int .i8 0) 1 Try.underlying31 softInfo.c rfl (by omega) (fun _ => rfl) HJe.out _ _ vs HPe.out (by decide) (m + 1) _ _ HHe.out 77 rfl rfl HBe.out HBe.out.size (by omega) ?_; intro vf wf hi ho hg hb hs ht; have HJf := Aside0.mk hi; have HPf := Aside0.mk ho; have HHf := Aside0.mk hg; have HBf := Aside0.mk hb; have HIf := Aside0.mk (HIe.out.ty ht (by decide)); have HOf := Aside0.mk (Pool.own_ty HOe.out ht (by decide)); have HGf := Aside0.mk (HGe.out.ty ht (by decide)); clear hi ho hg hb hs ht))
                        go_roundw
                        case measure => simp only [intOf]; omega
                        case rel => exact ⟨j + 1, by simp, by omega, ⟨by simpa only [Nat.add_assoc] using HGf.out⟩, ⟨by simpa only [Nat.add_assoc] using HHf.out⟩, HIf, HJf, HOf, HPf, HBf⟩
                      · obtain rfl : j = 20 := by omega
                        go_wp2
                        go_roundw
                        case measure => simp only [intOf]; omega
                        case rel => exact ⟨m + 1, by simp, by omega, HI, HJ, HO, HP, HB⟩
                  · obtain ⟨my, rfl⟩ : ∃ z, z = m := ⟨_, rfl⟩
                    obtain ⟨wx, rfl⟩ : ∃ wo, wo = wr := ⟨_, rfl⟩
                    go_wp2
                    go_loopw [24, 25, 26] (fun v _ _ wr => ∃ (m : Nat), v = .int .i64 m ∧ m ≤ 3 ∧ Aside0 (Pool.Inner 2 (Value.int .i64) wr w.heap.size (.slice Aw want.length cw :: .slice (some ⟨g7, 0, none⟩) wl.length c7 :: us) (want :: wl :: xss)) ∧ Aside0 (Pool.Inner 32 (Value.int .i8) wr w.heap.size (.slice Am means.length cm :: vs) (means :: yss)) ∧ Aside0 (wr.ownsRow w.heap.size 22 1 (.slice Ak n ck) n us) ∧ Aside0 (wr.ownsRow w.heap.size 31 1 (.slice Al n cl) n vs) ∧ Aside0 (Below w.heap.size w wr)) (fun v _ _ _ => 3 - (intOf v).toNat)
                    case atStart => exact ⟨0, rfl, Nat.zero_le _, HI, HJ, HO, HP, HB⟩
                    case round =>
                      clear HI HJ HO HP HB
                      obtain ⟨m, rfl, hm, HI, HJ, HO, HP, HB⟩ := hrel
                      by_cases hmt : m < 3
                      · obtain ⟨wo3, rfl⟩ : ∃ wo, wo = wr := ⟨_, rfl⟩
                        have hmn : m < n := by omega
                        obtain ⟨um, hum⟩ : ∃ um, us[m]? = some um := ⟨_, List.getElem?_eq_getElem (by omega)⟩
                        have hum' : (Value.slice Aw want.length cw :: .slice (some ⟨g7, 0, none⟩) wl.length c7 :: us)[m + 2]? = some um := hum
                        obtain ⟨xm, hxm, hown⟩ := HI.out.at_ hum'
                        clear hown
                        obtain ⟨Au, cu, rfl⟩ := HI.out.form hum' hxm
                        obtain ⟨gk, ck', e, hcell⟩ := Pool.outer_cell HO.out hum
                        cases e
                        obtain ⟨vm, hvm⟩ : ∃ vm, vs[m]? = some vm := ⟨_, List.getElem?_eq_getElem (by omega)⟩
                        have hvm' : (Value.slice Am means.length cm :: vs)[m + 1]? = some vm := hvm
                        obtain ⟨ym, hym, hown⟩ := HJ.out.at_ hvm'
                        clear hown
                        obtain ⟨Av, cv, rfl⟩ := HJ.out.form hvm' hym
                        obtain ⟨gl, cl', e, hcell2⟩ := Pool.outer_cell HP.out hvm
                        cases e
                        have hx20 : xm.length ≤ 17592186044000 := HX.out xm (List.mem_of_getElem? (show xss[m]? = some xm from hxm))
                        have hy20 : ym.length ≤ 140737488355000 := HY.out ym (List.mem_of_getElem? (show yss[m]? = some ym from hym))
                        go_wp2
                        go_loopw [25] (fun v wr => ∃ (j : Nat), v = .int .i64 j ∧ j ≤ xm.length ∧ Aside0 (Pool.Inner 2 (Value.int .i64) wr w.heap.size (.slice Aw want.length cw :: .slice (some ⟨g7, 0, none⟩) wl.length c7 :: us) (want :: wl :: xss)) ∧ Aside0 (Pool.Inner 32 (Value.int .i8) wr w.heap.size (.slice Am means.length cm :: vs) (means :: yss)) ∧ Aside0 (wr.ownsRow w.heap.size 22 1 (.slice (some ⟨gk, 0, none⟩) n ck) n us) ∧ Aside0 (wr.ownsRow w.heap.size 31 1 (.slice (some ⟨gl, 0, none⟩) n cl) n vs) ∧ Aside0 (Below w.heap.size w wr)) (fun v _ => xm.length - (intOf v).toNat)
                        case atStart => exact ⟨0, rfl, Nat.zero_le _, HI, HJ, HO, HP, HB⟩
                        case round =>
                          clear HI HJ HO HP HB hcell hcell2
                          obtain ⟨j, rfl, hj, HI, HJ, HO, HP, HB⟩ := hrel
                          obtain ⟨_, _, e, hcell⟩ := Pool.outer_cell HO.out hum
                          cases e
                          obtain ⟨_, _, e, hcell2⟩ := Pool.outer_cell HP.out hvm
                          cases e
                          by_cases hlj : j < xm.length
                          · obtain ⟨g, c, e⟩ := HI.out.formed hum' hxm (by omega)
                            cases e
                            obtain ⟨hcj, hfj⟩ := HI.out.cell hxm hum' (List.getElem?_eq_getElem hlj)
                            have hv : xm[j] = smarkA m := HM.out.at_ (by omega) (show xss[m]? = some xm from hxm) (List.getElem?_eq_getElem hlj)
                            rw [hv] at hcj
                            unfold smarkA at hcj
                            go_wp2
                            go_roundw
                            case measure => simp only [intOf]; omega
                            case rel => exact ⟨j + 1, by simp, by omega, HI, HJ, HO, HP, HB⟩
                          · obtain rfl : j = xm.length := by omega
                            obtain ⟨wo4, rfl⟩ : ∃ wo, wo = wr := ⟨_, rfl⟩
                            go_wp2
                            go_loopw [26] (fun v wr => ∃ (j : Nat), v = .int .i64 j ∧ j ≤ ym.length ∧ Aside0 (Pool.Inner 2 (Value.int .i64) wr w.heap.size (.slice Aw want.length cw :: .slice (some ⟨g7, 0, none⟩) wl.length c7 :: us) (want :: wl :: xss)) ∧ Aside0 (Pool.Inner 32 (Value.int .i8) wr w.heap.size (.slice Am means.length cm :: vs) (means :: yss)) ∧ Aside0 (wr.ownsRow w.heap.size 22 1 (.slice (some ⟨gk, 0, none⟩) n ck) n us) ∧ Aside0 (wr.ownsRow w.heap.size 31 1 (.slice (some ⟨gl, 0, none⟩) n cl) n vs) ∧ Aside0 (Below w.heap.size w wr)) (fun v _ => ym.length - (intOf v).toNat)
                            case atStart => exact ⟨0, rfl, Nat.zero_le _, HI, HJ, HO, HP, HB⟩
                            case round =>
                              clear HI HJ HO HP HB hcell hcell2
                              obtain ⟨j, rfl, hj, HI, HJ, HO, HP, HB⟩ := hrel
                              obtain ⟨_, _, e, hcell⟩ := Pool.outer_cell HO.out hum
                              cases e
                              obtain ⟨_, _, e, hcell2⟩ := Pool.outer_cell HP.out hvm
                              cases e
                              by_cases hlj : j < ym.length
                              · obtain ⟨g, c, e⟩ := HJ.out.formed hvm' hym (by omega)
                                cases e
                                obtain ⟨hcj, hfj⟩ := HJ.out.cell hym hvm' (List.getElem?_eq_getElem hlj)
                                have hv : ym[j] = smarkB m := HN.out.at_ (by omega) (show yss[m]? = some ym from hym) (List.getElem?_eq_getElem hlj)
                                rw [hv] at hcj
                                unfold smarkB at hcj
                                go_wp2
                                go_roundw
                                case measure => simp only [intOf]; omega
                                case rel => exact ⟨j + 1, by simp, by omega, HI, HJ, HO, HP, HB⟩
                              · obtain rfl : j = ym.length := by omega
                                go_wp2
                                go_roundw
                                case measure => simp only [intOf]; omega
                                case rel => exact ⟨m + 1, by simp, by omega, HI, HJ, HO, HP, HB⟩
                      · obtain rfl : m = 3 := by omega
                        have HRw := Aside0.mk (Kd.R_of_own (h1 := fun _ => rfl) (ok := fun _ => True) (HI.out.own 0 _ want rfl rfl) (fun _ _ => trivial))
                        have HRm := Aside0.mk (Kd.R_of_own (h1 := fun _ => rfl) (ok := fun _ => True) (HJ.out.own 0 _ means rfl rfl) (fun _ _ => trivial))
                        go_wp2_with (first | (go_at_call 12; refine (soft_Weights.calls k _ _ l0 ra ea _ (Kd.C_below HR0.out HB.out) HC0.out G2.out).mono ?_; rintro e wa ⟨va, rfl, ho, hb⟩; obtain ⟨Aa, ca, rfl⟩ := Kd.R_slice ho; have HIa := Aside0.mk (HI.out.below hb); have HRwa := Aside0.mk (Kd.R_below HRw.out hb); have HRma := Aside0.mk (Kd.R_below HRm.out hb); have HBa := Aside0.mk (below_step HB.out hb); have HRa := Aside0.mk ho; clear ho hb) | (go_at_call 19; refine (softMeansCut.calls k _ _ wt l1.length HLT.out _ _ l1 rb eb _ (by rw [HWT.out]; exact (soft_cut (HIa.out.own 1 _ wl rfl rfl) (by omega)).1) (by omega) (Kd.C_below HR1.out HBa.out) HC1.out G3.out).mono ?_; rintro e wb ⟨vb, rfl, ho, hb⟩; obtain ⟨Ab, cb, rfl⟩ := Kd.R_slice ho; have HBb := Aside0.mk (below_step HBa.out hb); have HRab := Aside0.mk (Kd.R_below HRa.out hb); have HRwb := Aside0.mk (Kd.R_below HRwa.out hb); have HRmb := Aside0.mk (Kd.R_below HRma.out hb); have HRb := Aside0.mk ho; clear ho hb) | (go_at_call 14; refine (heraldlaw11_awake.calls k true _ G6.out).mono ?_; rintro e wc ⟨rfl, hb⟩; have HRac := Aside0.mk (Kd.R_below HRab.out hb); have HRwc := Aside0.mk (Kd.R_below HRwb.out hb); have HRmc := Aside0.mk (Kd.R_below HRmb.out hb); have HRbc := Aside0.mk (Kd.R_below HRb.out hb); have HBc := Aside0.mk (below_step HBb.out hb); clear hb) | (go_at_call 15; refine (heraldlaw11_longs.calls k _ _ ra _ _ want true _ (Kd.R_reads' HRac.out).2.2 (Kd.R_reads' HRac.out).2.1 (Kd.R_reads' HRwc.out).2.2 (Kd.R_reads' HRwc.out).2.1 G4.out).mono ?_; rintro e wd ⟨rfl, hd⟩; have hb := hd.below; have HBd := Aside0.mk (below_step HBc.out hb); have HRbd := Aside0.mk (Kd.R_below HRbc.out hb); have HRmd := Aside0.mk (Kd.R_below HRmc.out hb); clear hd hb) | (go_at_call 18; refine (heraldlaw11_rows.calls k _ _ rb _ _ means true _ (Kd.R_reads' HRbd.out).2.2 (Kd.R_reads' HRbd.out).2.1 (Kd.R_reads' HRmd.out).2.2 (Kd.R_reads' HRmd.out).2.1 G5.out).mono ?_; rintro e we ⟨rfl, hd⟩; have HBe := Aside0.mk (below_step HBd.out hd.below); clear hd))
                        go_ret
                        exact ⟨rfl, HBe.out⟩
  · cases h6

end Go.Proofs.Ytmpldbccohdnjaa.P
