-- Printed by xprint.py (wip): functions, contracts, rows. Lean checks it.
import Derived.Test.YtgdbcknofcnfbaaPx0
import Derived.Test.YtgdbcknofcnfbaaPx8
import Derived.Test.YtgdbcknofcnfbaaPx16
import Derived.Test.YtgdbcknofcnfbaaPx17
import Derived.Test.YtgdbcknofcnfbaaPx18
import Derived.Test.YtgdbcknofcnfbaaPx19
namespace Go.Proofs.Ytgdbcknofcnfbaa.P
open Go.RowKit Go.Proofs.YtgdbcknofcnfbaaW.PrintWords Go.Proofs.YtgdbcknofcnfbaaW.PrintLast Go.Proofs.YtgdbcknofcnfbaaW.PrintMore
attribute [local go_sem] max2_int min2_int max_two min_two max_three min_three max_four min_four   -- for this text's walks alone
set_option linter.unusedVariables false
set_option linter.unusedSimpArgs false

/-! ### heraldlaw09_NormMemory: function 8 -/
/-- norm.Rows of one row twice, the rows' list laid by the caller. -/
theorem norm_Rows2.calls (k : Nat) (A0 : Option Addr) (c0 : Nat) (l0 : List Int) (A1 : Option Addr) (c1 : Nat) (l1 : List Int) (r1 : List (List Int)) (r2 r3 : Int) (w : World) (hr0 : Kd.C (Kd.int .i64) w A0 l0.length l0) (hc0 : l0.length ≤ c0) (hr1 : Kd.C (Kd.int .i8) w A1 l1.length l1) (hc1 : l1.length ≤ c1) (h : norm_Rows.f k [l0, l0] l1 = some (r1, r2, r3)) :
    Calls Try.prog 19 #[.slice (some ⟨w.heap.size, 0, none⟩) 2 2, .slice A1 l1.length c1] (w.alloc (.cells #[.slice A0 l0.length c0, .slice A0 l0.length c0] 22)) fun e w' => ∃ v0_ : Value, e = .returned (.tuple #[v0_, .int .i64 r2, .int .i64 r3]) ∧ Kd.S (Kd.slice 33 (Kd.int .i8)) 23 w' w.heap.size (fun _ => True) v0_ r1 ∧ Below w.heap.size w w' := by
  have hb : Below w.heap.size w (w.alloc (.cells #[.slice A0 l0.length c0, .slice A0 l0.length c0] 22)) := below_alloc (Below.refl _ _) _
  have hC : Kd.C (Kd.slice 2 (Kd.int .i64)) (w.alloc (.cells #[.slice A0 l0.length c0, .slice A0 l0.length c0] 22)) (some ⟨w.heap.size, 0, none⟩) [l0, l0].length [l0, l0] := by
    refine ⟨rfl, by simp, fun _ => ⟨_, rfl, fun j p hj => ?_⟩⟩
    have hK : (Kd.slice 2 (Kd.int .i64)).K (w.alloc (.cells #[.slice A0 l0.length c0, .slice A0 l0.length c0] 22)) l0 [.slice A0 l0.length c0] := ⟨A0, c0, rfl, hc0, Kd.C_below hr0 hb⟩
    have hj2 : j < 2 := by
      have := (List.getElem?_eq_some_iff.1 hj).1
      simpa using this
    have hp : p = l0 := by
      match j, hj2, hj with
      | 0, _, hj => exact (Option.some.inj hj).symm
      | 1, _, hj => exact (Option.some.inj hj).symm
    subst hp
    refine ⟨_, rfl, hK, fun q u hu => ?_⟩
    cases q with
    | succ q => simp at hu
    | zero =>
      have hu' : Value.slice A0 p.length c0 = u := by simpa using hu
      subst hu'
      rw [add_plain]
      refine (blk_cell (heap_alloc_new w _) _).trans ?_
      match j, hj2 with
      | 0, _ => rfl
      | 1, _ => rfl
  refine (norm_Rows.calls k (some ⟨w.heap.size, 0, none⟩) 2 [l0, l0] A1 c1 l1 r1 r2 r3 _ hC (by simp) (Kd.C_below hr1 hb) hc1 h).mono ?_
  rintro e w' ⟨v, he, ho, hb2⟩
  exact ⟨v, he, Kd.S_lower ho hb.size, below_step hb hb2⟩
def heraldlaw09_NormMemory.f (k : Nat) (l0 : List Int) (l1 : List Int) : Option Bool :=
  (heraldref09_Row.f k l0 l1).bind fun t0 => (norm_Row.f k l0 l1).bind fun t1 => (norm_Rows.f k [l0, l0] l1).bind fun t2 => (heraldlaw09_rows.f k t1.1 t0.1).bind fun t3 =>
  (match t2.1 with | [x, y] => (heraldlaw09_rows.f k x t0.1).bind fun b1 => (heraldlaw09_rows.f k y t0.1).bind fun b2 => some (b1 && b2) | [] => some true | _ => none).bind fun t4 =>
  (heraldlaw09_awake.f k).bind fun t5 => if t3 = true ∧ t4 = true ∧ t5 = true ∧ l0.length < 17592186044416 ∧ l1.length < 140737488355328 ∧ t1.1.length ≤ 1048576 ∧ ∀ x ∈ t2.1, x.length ≤ 1048576 then some true else none
/-- Row m's mark. -/
def nmark (m : Nat) : Int := (m : Int)
set_option maxRecDepth 100000 in
set_option maxHeartbeats 8000000 in
theorem heraldlaw09_NormMemory.calls (k : Nat) (A0 : Option Addr) (c0 : Nat) (l0 : List Int) (A1 : Option Addr) (c1 : Nat) (l1 : List Int) (r : Bool) (w : World) (hr0 : Kd.C (Kd.int .i64) w A0 l0.length l0) (hc0 : l0.length ≤ c0) (hr1 : Kd.C (Kd.int .i8) w A1 l1.length l1) (hc1 : l1.length ≤ c1) (h : heraldlaw09_NormMemory.f k l0 l1 = some r) :
    Calls Try.prog 8 #[.slice A0 l0.length c0, .slice A1 l1.length c1] w fun e w' => e = .returned (.bool r) ∧ Below w.heap.size w w' := by
  have HR0 := Aside0.mk hr0
  have HC0 := Aside0.mk hc0
  have HR1 := Aside0.mk hr1
  have HC1 := Aside0.mk hc1
  clear hr0 hc0 hr1 hc1
  unfold heraldlaw09_NormMemory.f at h
  obtain ⟨⟨want, ew⟩, g0, h0⟩ := Option.bind_eq_some_iff.mp h
  obtain ⟨⟨ra, ea⟩, g1, h1⟩ := Option.bind_eq_some_iff.mp h0
  obtain ⟨⟨rb, ib, eb⟩, g2, h2⟩ := Option.bind_eq_some_iff.mp h1
  obtain ⟨t3, g3, h3⟩ := Option.bind_eq_some_iff.mp h2
  obtain ⟨t4, g4, h4⟩ := Option.bind_eq_some_iff.mp h3
  obtain ⟨t5, g5, h5⟩ := Option.bind_eq_some_iff.mp h4
  clear h h0 h1 h2 h3 h4
  split at h5
  · rename_i hh
    obtain ⟨rfl, rfl, rfl, hl0, hl1, hla, hlb⟩ := hh
    obtain rfl := Option.some.inj h5
    clear h5
    have G0 := Aside0.mk g0
    have G1 := Aside0.mk g1
    have G2 := Aside0.mk g2
    have G3 := Aside0.mk g3
    have G4 := Aside0.mk g4
    have G5 := Aside0.mk g5
    have HL0 := Aside0.mk hl0
    have HL1 := Aside0.mk hl1
    have HLA := Aside0.mk hla
    have HLB := Aside0.mk hlb
    clear g0 g1 g2 g3 g4 g5 hl0 hl1 hla hlb
    go_enter Try.func8, Try.ntmps8
    go_wp2_with (first | ((with_reducible refine gate_dst (N := 24) rfl ?_); refine Kd.R_lit (Kd.int .i64) _ 2 ?hg (N := 24) ?hd (xs := ([] : List Int)) (inner := []) (ok := fun _ => True) (okp := fun _ => True) ?hr ?hp (fun _ hk => hk) trivial (Below.refl _ _) (Nat.le_refl _) (by simp) ?_; (case hd => rfl); (case hg => rfl); (case hr => first | (go_simp; done) | (go_simp; rfl)); (case hp => exact (Reps.none _ _)); intro v1 w1 ho hb hg_ hnew_; clear hg_ hnew_; have HO1 := Aside0.mk ho; have HB1 := Aside0.mk hb; clear ho hb) | ((with_reducible refine gate_builtin (b := .append) (xs := #[.tmp 24, .tmp 25]) rfl ?_); at_builtin; refine Kd.R_append_rows (Kd.int .i64) (w0 := w) w.heap.size rfl (.tmp 24) (.tmp 25) 22 2 (.int .i64 0) 8 rfl Try.underlying22 info2 rfl (by decide) (by omega) v1 [] l0 _ _ _ (fun _ => True) (fun _ => False) rfl rfl HO1.out (Kd.C_below HR0.out HB1.out) (fun _ _ h => h) (fun _ h => h.elim) (fun _ _ => trivial) HB1.out HB1.out.size (by have := HL0.out; simp; omega) ?_; intro v2 w2 ho hb hg2 hat2; obtain ⟨A2, c2, rfl⟩ := Kd.R_slice ho; have HO2 : Aside0 (Kd.R (Kd.int .i64) 2 w2 w.heap.size (fun _ => True) (.slice A2 l0.length c2) l0) := Aside0.mk ho; have HB2 := Aside0.mk hb; clear ho hb hg2 hat2) | ((with_reducible refine gate_dst (N := 27) rfl ?_); refine Kd.R_lit (Kd.int .i8) _ 33 ?hg (N := 27) ?hd (xs := ([] : List Int)) (inner := []) (ok := fun _ => True) (okp := fun _ => True) ?hr ?hp (fun _ hk => hk) trivial (Below.refl _ _) (Nat.le_refl _) (by simp) ?_; (case hd => rfl); (case hg => rfl); (case hr => first | (go_simp; done) | (go_simp; rfl)); (case hp => exact (Reps.none _ _)); intro v3 w3 ho hb hg_ hnew_; clear hg_ hnew_; have HO3 := Aside0.mk (Kd.R_lower ho HB2.out.size); have HO2' := Aside0.mk (Kd.R_below HO2.out hb); have HB3 := Aside0.mk (below_step HB2.out hb); clear ho hb) | ((with_reducible refine gate_builtin (b := .append) (xs := #[.tmp 27, .tmp 28]) rfl ?_); at_builtin; refine Kd.R_append_rows (Kd.int .i8) (w0 := w) w.heap.size rfl (.tmp 27) (.tmp 28) 23 33 (.int .i8 0) 1 rfl Try.underlying23 info33 rfl (by decide) (by omega) v3 [] l1 _ _ _ (fun _ => True) (fun _ => False) rfl rfl HO3.out (Kd.C_below HR1.out HB3.out) (fun _ _ h => h) (fun _ h => h.elim) (fun _ _ => trivial) HB3.out HB3.out.size (by have := HL1.out; simp; omega) ?_; intro v4 w4 ho hb hg4 hat4; obtain ⟨A4, c4, rfl⟩ := Kd.R_slice ho; have HO4 : Aside0 (Kd.R (Kd.int .i8) 33 w4 w.heap.size (fun _ => True) (.slice A4 l1.length c4) l1) := Aside0.mk ho; have HB4 := Aside0.mk hb; have HO2'' := Aside0.mk (Kd.R_over HO2'.out HO3.out (by decide) hg4); clear ho hb hg4 hat4) | (go_at_call 12; refine (heraldref09_Row.calls k _ _ l0 _ _ l1 want ew _ (Kd.R_reads' HO2''.out).2.2 (Kd.R_reads' HO2''.out).2.1 (Kd.R_reads' HO4.out).2.2 (Kd.R_reads' HO4.out).2.1 G0.out).mono ?_; rintro e w5 ⟨v5, rfl, ho, hb⟩; obtain ⟨Aw, cw, rfl⟩ := Kd.R_slice ho; have HW := Aside0.mk (Pool.Inner.one (enc := Value.int .i8) (Kd.own_of_R (Kd.R_lower ho HB4.out.size))); have HB5 := Aside0.mk (below_step HB4.out hb); clear ho hb))
    go_loopw [7, 8] (fun v i wr => ∃ (n : Nat) (us : List Value) (xss : List (List Int)), i = .int .i64 n ∧ n ≤ 3 ∧ us.length ≤ 3 * n ∧ Aside0 (Pool.Inner 33 (Value.int .i8) wr w.heap.size (.slice Aw want.length cw :: us) (want :: xss)) ∧ Aside0 (wr.ownsRow w.heap.size 23 1 v us.length us) ∧ Aside0 (Below w.heap.size w wr) ∧ Aside0 (∀ x ∈ xss, x.length ≤ 1048576)) (fun _ i _ => 3 - (intOf i).toNat)
    case atStart => exact ⟨0, [], [], rfl, by omega, by simp, ⟨HW.out.below (below_alloc (Below.refl _ _) _)⟩, ⟨World.ownsRow_lit w5 #[] 0 HB5.out.size (by unfold maxLen; omega) rfl⟩, ⟨below_alloc HB5.out _⟩, ⟨by simp⟩⟩
    case round =>
      obtain ⟨n, us, xss, rfl, hn, hus, HI, HO, HB, HX⟩ := hrel
      obtain ⟨Ak, ck, rfl⟩ := own_slice HO.out
      have HRw := Aside0.mk (Kd.R_of_own (h1 := fun _ => rfl) (ok := fun _ => True) (HI.out.own 0 _ want rfl rfl) (fun _ _ => trivial))
      by_cases hlt : n < 3
      · have hrb : rb = [] ∨ ∃ x y, rb = [x, y] := by
          have h := G4.out
          split at h
          · exact .inr ⟨_, _, rfl⟩
          · exact .inl rfl
          · cases h
        have fin : ∀ (v9 : Value) (w9 : World) (us' : List Value) (xss' : List (List Int)), us'.length = us.length + 1 + rb.length → us.length + 1 + rb.length ≤ 3 * (n + 1) := by
          intro v9 w9 us' xss' he
          rcases hrb with rfl | ⟨x, y, rfl⟩ <;> simp <;> omega
        rcases hrb with rfl | ⟨x, y, rfl⟩
        · go_wp2_with (first | (go_at_call 11; refine (norm_Row.calls k _ _ l0 _ _ l1 ra ea _ (Kd.C_below HR0.out HB.out) HC0.out (Kd.C_below HR1.out HB.out) HC1.out G1.out).mono ?_; rintro e w6 ⟨va, rfl, ho, hb⟩; obtain ⟨Aa, ca, rfl⟩ := Kd.R_slice ho; have HI6 := Aside0.mk (HI.out.join hb HB.out.size (Pool.Inner.one (enc := Value.int .i8) (Kd.own_of_R ho))); have HO6 := Aside0.mk (pw_own_below HO.out hb); have HRw6 := Aside0.mk (Kd.R_below HRw.out hb); have HRa := Aside0.mk ho; have HB6 := Aside0.mk (below_step HB.out hb); have HS6 := Aside0.mk hb.size; clear ho hb) | (go_at_call 19; refine (norm_Rows2.calls k _ _ l0 _ _ l1 [] ib eb _ (Kd.C_below HR0.out HB6.out) HC0.out (Kd.C_below HR1.out HB6.out) HC1.out G2.out).mono ?_; rintro e w7 ⟨vb, rfl, ho, hb⟩; obtain ⟨ds, hD, hID, hd⟩ := Pool.of_S ho; obtain rfl : ds = [] := List.eq_nil_of_length_eq_zero hID.len; obtain ⟨Ab, cb, rfl⟩ := own_slice hD; have HD := Aside0.mk hD; have HI7 := Aside0.mk (HI6.out.join hb HB6.out.size hID); have HO7 := Aside0.mk (pw_own_below HO6.out hb); have HRw7 := Aside0.mk (Kd.R_below HRw6.out hb); have HRa7 := Aside0.mk (Kd.R_below HRa.out hb); have HB7 := Aside0.mk (below_step HB6.out hb); clear ho hb hD hID hd) | (go_at_call 14; refine (heraldlaw09_rows.calls k _ _ ra _ _ want true _ (Kd.R_reads' HRa7.out).2.2 (Kd.R_reads' HRa7.out).2.1 (Kd.R_reads' HRw7.out).2.2 (Kd.R_reads' HRw7.out).2.1 G3.out).mono ?_; rintro e w8 ⟨rfl, hd⟩; have hb := hd.below; have HI8 := Aside0.mk (HI7.out.below hb); have HO8 := Aside0.mk (pw_own_below HO7.out hb); have HD8 := Aside0.mk (pw_own_below HD.out hb); have HB8 := Aside0.mk (below_step HB7.out hb); clear hb hd) | ((with_reducible refine gate_builtin (b := .append) (xs := #[.tmp 78, .tmp 80]) rfl ?_); at_builtin; refine Pool.wpList_append_kept (W0 := w) rfl (.tmp 78) (.tmp 80) 42 rfl (.slice none 0 0) 24 Try.underlying42 info23 rfl (by omega) HI8.out _ _ us HO8.out (by decide) (.slice Aa ra.length ca) rfl rfl rfl HB8.out HB8.out.size (by omega) ?_; intro v9 w9 hi ho hb hs hg; obtain ⟨A9, c9, rfl⟩ := own_slice ho; have HD9 := Aside0.mk (own_other HD8.out hg (Pool.new_apart HO6.out HD8.out)); have HI9 := Aside0.mk hi; have HO9 := Aside0.mk ho; have HB9 := Aside0.mk hb; clear hi ho hb hs hg) | ((with_reducible refine gate_builtin (b := .append) (xs := #[.tmp 82, .tmp 83]) rfl ?_); at_builtin; refine Pool.wpList_append_keptAll (W0 := w) rfl (.tmp 82) (.tmp 83) 42 rfl (.slice none 0 0) 24 Try.underlying42 info23 rfl (by omega) HI9.out _ _ _ HO9.out (by decide) _ _ [] HD9.out (fun _ h => by cases h) rfl rfl HB9.out HB9.out.size (by simp; omega) ?_; intro v10 w10 hi ho hb hs; have HI10 := Aside0.mk hi; have HO10 := Aside0.mk ho; have HB10 := Aside0.mk hb; clear hi ho hb hs))
          go_roundw
          case measure => simp only [intOf]; omega
          case rel => exact ⟨n + 1, us ++ [.slice Aa ra.length ca] ++ [], xss ++ [ra] ++ [], by simp, by omega, by simp; omega, ⟨by simpa using HI10.out⟩, ⟨by simpa using HO10.out⟩, HB10, ⟨by intro x hx; simp only [List.append_nil, List.mem_append, List.mem_singleton] at hx; rcases hx with hx | rfl; exact HX.out x hx; exact HLA.out⟩⟩
        · obtain ⟨b1, gx, h4⟩ := Option.bind_eq_some_iff.mp G4.out
          obtain ⟨b2, gy, h5⟩ := Option.bind_eq_some_iff.mp h4
          obtain ⟨rfl, rfl⟩ : b1 = true ∧ b2 = true := by simpa using h5
          have GX := Aside0.mk gx
          have GY := Aside0.mk gy
          clear gx gy h4 h5
          go_wp2_with (first | (go_at_call 11; refine (norm_Row.calls k _ _ l0 _ _ l1 ra ea _ (Kd.C_below HR0.out HB.out) HC0.out (Kd.C_below HR1.out HB.out) HC1.out G1.out).mono ?_; rintro e w6 ⟨va, rfl, ho, hb⟩; obtain ⟨Aa, ca, rfl⟩ := Kd.R_slice ho; have HI6 := Aside0.mk (HI.out.join hb HB.out.size (Pool.Inner.one (enc := Value.int .i8) (Kd.own_of_R ho))); have HO6 := Aside0.mk (pw_own_below HO.out hb); have HRw6 := Aside0.mk (Kd.R_below HRw.out hb); have HRa := Aside0.mk ho; have HB6 := Aside0.mk (below_step HB.out hb); have HS6 := Aside0.mk hb.size; clear ho hb) | (go_at_call 19; refine (norm_Rows2.calls k _ _ l0 _ _ l1 [x, y] ib eb _ (Kd.C_below HR0.out HB6.out) HC0.out (Kd.C_below HR1.out HB6.out) HC1.out G2.out).mono ?_; rintro e w7 ⟨vb, rfl, ho, hb⟩; obtain ⟨ds, hD, hID, hd⟩ := Pool.of_S ho; obtain ⟨u0, u1, rfl⟩ : ∃ u0 u1, ds = [u0, u1] := by { have := hID.len; match ds, this with | [u0, u1], _ => exact ⟨u0, u1, rfl⟩ }; obtain ⟨gb, cb, hvb, hc0⟩ := Pool.outer_cell hD (i := 0) (u := u0) rfl; subst hvb; obtain ⟨_, _, hvb, hc1⟩ := Pool.outer_cell hD (i := 1) (u := u1) rfl; cases hvb; obtain ⟨Ax, cx, rfl⟩ := hID.form (i := 0) (xs := x) rfl rfl; obtain ⟨Ay, cy, rfl⟩ := hID.form (i := 1) (xs := y) rfl rfl; have HX7 := Aside0.mk (Kd.R_of_own (h1 := fun _ => rfl) (ok := fun _ => True) (hID.own 0 _ x rfl rfl) (fun _ _ => trivial)); have HY7 := Aside0.mk (Kd.R_of_own (h1 := fun _ => rfl) (ok := fun _ => True) (hID.own 1 _ y rfl rfl) (fun _ _ => trivial)); have HD := Aside0.mk hD; have HI7 := Aside0.mk (HI6.out.join hb HB6.out.size hID); have HO7 := Aside0.mk (pw_own_below HO6.out hb); have HRw7 := Aside0.mk (Kd.R_below HRw6.out hb); have HRa7 := Aside0.mk (Kd.R_below HRa.out hb); have HB7 := Aside0.mk (below_step HB6.out hb); clear ho hb hD hID hd) | (go_at_call_of 14 (Value.slice Aa ra.length ca); refine (heraldlaw09_rows.calls k _ _ ra _ _ want true _ (Kd.R_reads' HRa7.out).2.2 (Kd.R_reads' HRa7.out).2.1 (Kd.R_reads' HRw7.out).2.2 (Kd.R_reads' HRw7.out).2.1 G3.out).mono ?_; rintro e w8a ⟨rfl, hd⟩; have hb := hd.below; have HI8a := Aside0.mk (HI7.out.below hb); have HO8a := Aside0.mk (pw_own_below HO7.out hb); have HD8a := Aside0.mk (pw_own_below HD.out hb); have HRw8a := Aside0.mk (Kd.R_below HRw7.out hb); have HX8a := Aside0.mk (Kd.R_below HX7.out hb); have HY8a := Aside0.mk (Kd.R_below HY7.out hb); have HB8a := Aside0.mk (below_step HB7.out hb); clear hb hd; obtain ⟨_, _, hvb, hc08a⟩ := Pool.outer_cell HD8a.out (i := 0) rfl; cases hvb; obtain ⟨_, _, hvb, hc18a⟩ := Pool.outer_cell HD8a.out (i := 1) rfl; cases hvb) | (go_at_call_of 14 (Value.slice Ax x.length cx); refine (heraldlaw09_rows.calls k _ _ x _ _ want true _ (Kd.R_reads' HX8a.out).2.2 (Kd.R_reads' HX8a.out).2.1 (Kd.R_reads' HRw8a.out).2.2 (Kd.R_reads' HRw8a.out).2.1 GX.out).mono ?_; rintro e w8b ⟨rfl, hd⟩; have hb := hd.below; have HI8b := Aside0.mk (HI8a.out.below hb); have HO8b := Aside0.mk (pw_own_below HO8a.out hb); have HD8b := Aside0.mk (pw_own_below HD8a.out hb); have HRw8b := Aside0.mk (Kd.R_below HRw8a.out hb); have HY8b := Aside0.mk (Kd.R_below HY8a.out hb); have HB8b := Aside0.mk (below_step HB8a.out hb); clear hb hd; obtain ⟨_, _, hvb, hc08b⟩ := Pool.outer_cell HD8b.out (i := 0) rfl; cases hvb; obtain ⟨_, _, hvb, hc18b⟩ := Pool.outer_cell HD8b.out (i := 1) rfl; cases hvb) | (go_at_call_of 14 (Value.slice Ay y.length cy); refine (heraldlaw09_rows.calls k _ _ y _ _ want true _ (Kd.R_reads' HY8b.out).2.2 (Kd.R_reads' HY8b.out).2.1 (Kd.R_reads' HRw8b.out).2.2 (Kd.R_reads' HRw8b.out).2.1 GY.out).mono ?_; rintro e w8 ⟨rfl, hd⟩; have hb := hd.below; have HI8 := Aside0.mk (HI8b.out.below hb); have HO8 := Aside0.mk (pw_own_below HO8b.out hb); have HD8 := Aside0.mk (pw_own_below HD8b.out hb); have HRw8 := Aside0.mk (Kd.R_below HRw8b.out hb); have HB8 := Aside0.mk (below_step HB8b.out hb); clear hb hd) | ((with_reducible refine gate_builtin (b := .append) (xs := #[.tmp 78, .tmp 80]) rfl ?_); at_builtin; refine Pool.wpList_append_kept (W0 := w) rfl (.tmp 78) (.tmp 80) 42 rfl (.slice none 0 0) 24 Try.underlying42 info23 rfl (by omega) HI8.out _ _ us HO8.out (by decide) (.slice Aa ra.length ca) rfl rfl rfl HB8.out HB8.out.size (by omega) ?_; intro v9 w9 hi ho hb hs hg; obtain ⟨A9, c9, rfl⟩ := own_slice ho; have HD9 := Aside0.mk (own_other HD8.out hg (Pool.new_apart HO6.out HD8.out)); have HI9 := Aside0.mk hi; have HO9 := Aside0.mk ho; have HB9 := Aside0.mk hb; clear hi ho hb hs hg) | ((with_reducible refine gate_builtin (b := .append) (xs := #[.tmp 82, .tmp 83]) rfl ?_); at_builtin; refine Pool.wpList_append_keptAll (W0 := w) rfl (.tmp 82) (.tmp 83) 42 rfl (.slice none 0 0) 24 Try.underlying42 info23 rfl (by omega) HI9.out _ _ _ HO9.out (by decide) _ _ _ HD9.out (fun u hu => by simp only [List.mem_cons, List.not_mem_nil, or_false] at hu; rcases hu with rfl | rfl <;> rfl) rfl rfl HB9.out HB9.out.size (by simp; omega) ?_; intro v10 w10 hi ho hb hs; have HI10 := Aside0.mk hi; have HO10 := Aside0.mk ho; have HB10 := Aside0.mk hb; clear hi ho hb hs))
          go_roundw
          case measure => simp only [intOf]; omega
          case rel => exact ⟨n + 1, us ++ [.slice Aa ra.length ca] ++ [.slice Ax x.length cx, .slice Ay y.length cy], xss ++ [ra] ++ [x, y], by simp, by omega, by simp; omega, ⟨by simpa using HI10.out⟩, ⟨by simpa using HO10.out⟩, HB10, ⟨by intro z hz; simp only [List.mem_append, List.mem_singleton, List.mem_cons, List.not_mem_nil, or_false] at hz; rcases hz with (hz | rfl) | hz; exact HX.out z hz; exact HLA.out; exact HLB.out z (by simpa using hz)⟩⟩
      · have hus9 : us.length ≤ 9 := by omega
        clear HRw
        obtain ⟨wz, rfl⟩ : ∃ wo, wo = wr := ⟨_, rfl⟩
        go_wp2
        clear hlt hus hn
        go_loopw [14] (fun v wr => ∃ (m : Nat) (yss : List (List Int)), v = .int .i64 m ∧ m ≤ us.length ∧ Aside0 (Pool.Inner 33 (Value.int .i8) wr w.heap.size (.slice Aw want.length cw :: us) (want :: yss)) ∧ Aside0 (wr.ownsRow w.heap.size 23 1 (.slice Ak us.length ck) us.length us) ∧ Aside0 (Below w.heap.size w wr) ∧ Aside0 (∀ x ∈ yss, x.length ≤ 1048576) ∧ Aside0 (Pool.Marked nmark yss m)) (fun v _ => us.length - (intOf v).toNat)
        case atStart => exact ⟨0, xss, rfl, Nat.zero_le _, HI, HO, HB, HX, ⟨Pool.Marked.zero _ _⟩⟩
        case round =>
          clear HI HO HB HX xss
          obtain ⟨m, xss, rfl, hm, HI, HO, HB, HX, HM⟩ := hrel
          by_cases hlt : m < us.length
          · obtain ⟨wo, rfl⟩ : ∃ wo, wo = wr := ⟨_, rfl⟩
            obtain ⟨um, hum⟩ : ∃ um, us[m]? = some um := ⟨_, List.getElem?_eq_getElem hlt⟩
            have hum' : (Value.slice Aw want.length cw :: us)[m + 1]? = some um := hum
            obtain ⟨xm, hxm, hown⟩ := HI.out.at_ hum'
            obtain ⟨Am, cm, rfl⟩ := HI.out.form hum' hxm
            obtain ⟨gk, ck', e, hcell⟩ := Pool.outer_cell HO.out hum
            cases e
            obtain ⟨L, hL⟩ : ∃ L, L = xm.length := ⟨_, rfl⟩
            rw [← hL] at hum hum' hcell
            clear hL hown hxm xm
            go_wp2
            go_loopw [15] (fun v wr => ∃ (j : Nat) (yss : List (List Int)), v = .int .i64 j ∧ j ≤ L ∧ Aside0 (Pool.Inner 33 (Value.int .i8) wr w.heap.size (.slice Aw want.length cw :: us) (want :: yss)) ∧ Aside0 (wr.ownsRow w.heap.size 23 1 (.slice (some ⟨gk, 0, none⟩) us.length ck) us.length us) ∧ Aside0 (Below w.heap.size w wr) ∧ Aside0 (∀ x ∈ yss, x.length ≤ 1048576) ∧ Aside0 (Pool.Marked nmark yss m) ∧ Aside0 (Pool.Part nmark yss m j)) (fun v _ => L - (intOf v).toNat)
            case atStart => exact ⟨0, xss, rfl, Nat.zero_le _, HI, HO, HB, HX, HM, ⟨Pool.Part.zero _ _ _⟩⟩
            case round =>
              clear HI HO HB HX HM xss hcell
              obtain ⟨j, xss, rfl, hj, HI, HO, HB, HX, HM, HP⟩ := hrel
              obtain ⟨_, _, e, hcell⟩ := Pool.outer_cell HO.out hum
              cases e
              obtain ⟨xm, hxm, hown⟩ := HI.out.at_ hum'
              obtain rfl : L = xm.length := by
                obtain ⟨A, c, e⟩ := own_slice hown
                cases e; rfl
              clear hown
              have hxm' : xss[m]? = some xm := hxm
              have hL20 : xm.length ≤ 1048576 := HX.out xm (List.mem_of_getElem? hxm')
              by_cases hlj : j < xm.length
              · obtain ⟨g, c, e⟩ := HI.out.formed hum' hxm (by omega)
                cases e
                obtain ⟨hcj, hfj⟩ := HI.out.cell hxm hum' (List.getElem?_eq_getElem hlj)
                go_wp2
                go_roundw
                case measure => simp only [intOf]; omega
                case rel => exact ⟨j + 1, xss.set m (xm.set j (nmark m)), by simp, by omega, ⟨HI.out.store hxm hum' j (nmark m)⟩, ⟨Pool.outer_store HO.out HI.out (by decide) hum' j _⟩, ⟨ys HB.out (HI.out.lt hum' rfl).1⟩, ⟨by intro z hz; rcases List.mem_or_eq_of_mem_set hz with hz | rfl; exact HX.out z hz; rw [List.length_set]; exact hL20⟩, ⟨HM.out.store _⟩, ⟨HP.out.store hxm'⟩⟩
              · obtain rfl : j = xm.length := by omega
                go_wp2
                go_roundw
                case measure => simp only [intOf]; omega
                case rel => exact ⟨m + 1, xss, by simp, by omega, HI, HO, HB, HX, ⟨HM.out.next hxm' HP.out⟩⟩
          · obtain rfl : m = us.length := by omega
            obtain ⟨wo, rfl⟩ : ∃ wo, wo = wr := ⟨_, rfl⟩
            go_wp2
            go_loopw [16, 17, 18] (fun v _ _ wr => ∃ (m : Nat), v = .int .i64 m ∧ m ≤ us.length ∧ Aside0 (Pool.Inner 33 (Value.int .i8) wr w.heap.size (.slice Aw want.length cw :: us) (want :: xss)) ∧ Aside0 (wr.ownsRow w.heap.size 23 1 (.slice Ak us.length ck) us.length us) ∧ Aside0 (Below w.heap.size w wr)) (fun v _ _ _ => us.length - (intOf v).toNat)
            case atStart => exact ⟨0, rfl, Nat.zero_le _, HI, HO, HB⟩
            case round =>
              clear HI HO HB
              obtain ⟨m, rfl, hm, HI, HO, HB⟩ := hrel
              by_cases hlt : m < us.length
              · obtain ⟨wo2, rfl⟩ : ∃ wo, wo = wr := ⟨_, rfl⟩
                obtain ⟨um, hum⟩ : ∃ um, us[m]? = some um := ⟨_, List.getElem?_eq_getElem hlt⟩
                have hum' : (Value.slice Aw want.length cw :: us)[m + 1]? = some um := hum
                obtain ⟨xm, hxm, hown⟩ := HI.out.at_ hum'
                have hL20 : xm.length ≤ 1048576 := HX.out xm (List.mem_of_getElem? (show xss[m]? = some xm from hxm))
                have HG := Aside0.mk (Pool.Ghost.start HI.out hum' hxm)
                obtain ⟨Am, cm, rfl⟩ := HI.out.form hum' hxm
                obtain ⟨gk, ck', e, hcell⟩ := Pool.outer_cell HO.out hum
                cases e
                clear hown
                go_wp2
                go_loopw [17, 18] (fun gv v wr => ∃ (j : Nat), v = .int .i64 j ∧ j ≤ 20 ∧ Aside0 (Pool.Ghost 33 wr w.heap.size (.slice Aw want.length cw :: us) (m + 1) gv (xm.length + j)) ∧ Aside0 (Pool.Inner 33 (Value.int .i8) wr w.heap.size (.slice Aw want.length cw :: us) (want :: xss)) ∧ Aside0 (wr.ownsRow w.heap.size 23 1 (.slice (some ⟨gk, 0, none⟩) us.length ck) us.length us) ∧ Aside0 (Below w.heap.size w wr)) (fun _ v _ => 20 - (intOf v).toNat)
                case atStart => exact ⟨0, rfl, Nat.zero_le _, HG, HI, HO, HB⟩
                case round =>
                  clear HI HO HB HG hcell
                  obtain ⟨j, rfl, hj, HG, HI, HO, HB⟩ := hrel
                  by_cases hlj : j < 20
                  · obtain ⟨Ag, cg, rfl⟩ := HG.out.form
                    go_wp2_with (first | ((with_reducible refine gate_builtin (b := .append) (xs := #[.tmp 122, .tmp 123]) rfl ?_); at_builtin; refine Pool.wpList_append_ghost (W0 := w) rfl (.tmp 122) (.tmp 123) 23 rfl (.int .i8 0) 1 Try.underlying23 info33 rfl (by omega) (fun _ => rfl) HI.out _ _ us HO.out (by decide) (m + 1) _ _ HG.out 77 rfl rfl HB.out HB.out.size (by omega) ?_; intro v9 w9 hi ho hg hb hs; have HI9 := Aside0.mk hi; have HO9 := Aside0.mk ho; have HG9 := Aside0.mk hg; have HB9 := Aside0.mk hb; clear hi ho hg hb hs))
                    go_roundw
                    case measure => simp only [intOf]; omega
                    case rel => exact ⟨j + 1, by simp, by omega, ⟨by simpa only [Nat.add_assoc] using HG9.out⟩, HI9, HO9, HB9⟩
                  · obtain rfl : j = 20 := by omega
                    go_wp2
                    go_roundw
                    case measure => simp only [intOf]; omega
                    case rel => exact ⟨m + 1, by simp, by omega, HI, HO, HB⟩
              · obtain rfl : m = us.length := by omega
                obtain ⟨wo2, rfl⟩ : ∃ wo, wo = wr := ⟨_, rfl⟩
                go_wp2
                go_loopw [19, 20] (fun v _ wr => ∃ (m : Nat), v = .int .i64 m ∧ m ≤ us.length ∧ Aside0 (Pool.Inner 33 (Value.int .i8) wr w.heap.size (.slice Aw want.length cw :: us) (want :: xss)) ∧ Aside0 (wr.ownsRow w.heap.size 23 1 (.slice Ak us.length ck) us.length us) ∧ Aside0 (Below w.heap.size w wr)) (fun v _ _ => us.length - (intOf v).toNat)
                case atStart => exact ⟨0, rfl, Nat.zero_le _, HI, HO, HB⟩
                case round =>
                  clear HI HO HB
                  obtain ⟨m, rfl, hm, HI, HO, HB⟩ := hrel
                  by_cases hlt : m < us.length
                  · obtain ⟨wo3, rfl⟩ : ∃ wo, wo = wr := ⟨_, rfl⟩
                    obtain ⟨um, hum⟩ : ∃ um, us[m]? = some um := ⟨_, List.getElem?_eq_getElem hlt⟩
                    have hum' : (Value.slice Aw want.length cw :: us)[m + 1]? = some um := hum
                    obtain ⟨xm, hxm, hown⟩ := HI.out.at_ hum'
                    have hL20 : xm.length ≤ 1048576 := HX.out xm (List.mem_of_getElem? (show xss[m]? = some xm from hxm))
                    obtain ⟨Am, cm, rfl⟩ := HI.out.form hum' hxm
                    obtain ⟨gk, ck', e, hcell⟩ := Pool.outer_cell HO.out hum
                    cases e
                    clear hown
                    go_wp2
                    go_loopw [20] (fun v wr => ∃ (j : Nat), v = .int .i64 j ∧ j ≤ xm.length ∧ Aside0 (Pool.Inner 33 (Value.int .i8) wr w.heap.size (.slice Aw want.length cw :: us) (want :: xss)) ∧ Aside0 (wr.ownsRow w.heap.size 23 1 (.slice (some ⟨gk, 0, none⟩) us.length ck) us.length us) ∧ Aside0 (Below w.heap.size w wr)) (fun v _ => xm.length - (intOf v).toNat)
                    case atStart => exact ⟨0, rfl, Nat.zero_le _, HI, HO, HB⟩
                    case round =>
                      clear HI HO HB hcell
                      obtain ⟨j, rfl, hj, HI, HO, HB⟩ := hrel
                      obtain ⟨_, _, e, hcell⟩ := Pool.outer_cell HO.out hum
                      cases e
                      by_cases hlj : j < xm.length
                      · obtain ⟨g, c, e⟩ := HI.out.formed hum' hxm (by omega)
                        cases e
                        obtain ⟨hcj, hfj⟩ := HI.out.cell hxm hum' (List.getElem?_eq_getElem hlj)
                        have hv : xm[j] = nmark m := HM.out.at_ hlt (show xss[m]? = some xm from hxm) (List.getElem?_eq_getElem hlj)
                        rw [hv] at hcj
                        unfold nmark at hcj
                        go_wp2
                        go_roundw
                        case measure => simp only [intOf]; omega
                        case rel => exact ⟨j + 1, by simp, by omega, HI, HO, HB⟩
                      · obtain rfl : j = xm.length := by omega
                        go_wp2
                        go_roundw
                        case measure => simp only [intOf]; omega
                        case rel => exact ⟨m + 1, by simp, by omega, HI, HO, HB⟩
                  · obtain rfl : m = us.length := by omega
                    have HRw := Aside0.mk (Kd.R_of_own (h1 := fun _ => rfl) (ok := fun _ => True) (HI.out.own 0 _ want rfl rfl) (fun _ _ => trivial))
                    go_wp2_with (first | (go_at_call 11; refine (norm_Row.calls k _ _ l0 _ _ l1 ra ea _ (Kd.C_below HR0.out HB.out) HC0.out (Kd.C_below HR1.out HB.out) HC1.out G1.out).mono ?_; rintro e w6 ⟨va, rfl, ho, hb⟩; obtain ⟨Aa, ca, rfl⟩ := Kd.R_slice ho; have HRw6 := Aside0.mk (Kd.R_below HRw.out hb); have HRa := Aside0.mk ho; have HB6 := Aside0.mk (below_step HB.out hb); clear ho hb) | (go_at_call 13; refine (heraldlaw09_awake.calls k true _ G5.out).mono ?_; rintro e w7 ⟨rfl, hb⟩; have HRw7 := Aside0.mk (Kd.R_below HRw6.out hb); have HRa7 := Aside0.mk (Kd.R_below HRa.out hb); have HB7 := Aside0.mk (below_step HB6.out hb); clear hb) | (go_at_call 14; refine (heraldlaw09_rows.calls k _ _ ra _ _ want true _ (Kd.R_reads' HRa7.out).2.2 (Kd.R_reads' HRa7.out).2.1 (Kd.R_reads' HRw7.out).2.2 (Kd.R_reads' HRw7.out).2.1 G3.out).mono ?_; rintro e w8 ⟨rfl, hd⟩; have HB8 := Aside0.mk (below_step HB7.out hd.below); clear hd))
                    go_ret
                    exact ⟨rfl, HB8.out⟩
  · cases h5

end Go.Proofs.Ytgdbcknofcnfbaa.P
