/- The closure that numbers pairs: the walk through 'place'. On condition that what it captures is in place. -/
import Derived.Test.YtfjpnmhbbfiaaaaZGSMbo0
namespace Go.Proofs.Ytfjpnmhbbfiaaaa.P
open Go Go.RowKit Go.Proofs.YtfjpnmhbbfiaaaaW.PrintWords Go.Proofs.YtfjpnmhbbfiaaaaW.PrintLast Go.Proofs.YtfjpnmhbbfiaaaaW.PrintMore Go.Proofs.Ytfjpnmhbbfiaaaa
set_option linter.unusedVariables false
set_option linter.unusedSimpArgs false
/-- What 'place' leaves of a row of pairs. -/
def plo (p : Int × Int) (o : List (Int × Int)) : List (Int × Int) := if Mach.ix p o = o.length then o ++ [p] else o
set_option maxHeartbeats 8000000 in
set_option maxRecDepth 100000 in
theorem place_calls (w : World) {base : Nat} {ok : Nat → Prop} {gP gO gm : Nat} {vO : Value} {o : List (Int × Int)} (h : PS base ok w gP gO gm vO o) (hok : ∀ k, w.heap.size ≤ k → ok k) (hbw : base ≤ w.heap.size) (hl : o.length ≤ 100000) (p : Int × Int) (h1 : -1 ≤ p.1 ∧ p.1 ≤ 140737488355328) (h2 : -1 ≤ p.2 ∧ p.2 ≤ 140737488355328) :
    Calls Try.prog 80 #[pv p, .pointer (some ⟨gP, 0, none⟩), .pointer (some ⟨gO, 0, none⟩)] w fun e w' => ∃ v, e = .returned (.int .i64 (Mach.ix p o : Int)) ∧ PS base ok w' gP gO gm v (plo p o) ∧ Mv w w' (fun i => i = gm ∨ i = gO ∨ some i = vO.ownBlock) := by
  have hu140 := Try.underlying140
  have hu152 := Try.underlying152
  have HS := ym h
  have HM := ym (Mv.of_below (S := fun i => i = gm ∨ i = gO ∨ some i = vO.ownBlock) (Below.refl w.heap.size w))
  have HOK := ym hok
  obtain ⟨kl, hkl⟩ := key140 h1 h2
  have HKL := ym hkl
  obtain ⟨A0, c0, hv0⟩ := Kd.R_slice h.ord
  subst hv0
  have HGO := ym (show gO < w.heap.size from blk_lt h.bO)
  have HGM := ym (show gm < w.heap.size from h.map.lt)
  clear h hok h1 h2 hkl
  have hpv : pv p = .agg #[.int .i64 p.1, .int .i64 p.2] := rfl
  rw [hpv]
  have HPV := ym hpv
  clear hpv
  by_cases hx : Mach.ix p o < o.length
  · have HX := ym hx
    have hpl : plo p o = o := if_neg (by omega)
    rw [hpl]
    clear hx hpl
    go_enter Try.func80, Try.ntmps80
    go_wp2_with (first
      | ((with_reducible refine gate_dst (N := 3) rfl ?_); go_loud (refine zb (N := 3) (cs := #[.int .i64 p.1, .int .i64 p.2]) (t := 140) ?_); go_loud (intro g3 hg3 w1 hbox hb1; have BG3 := ym hbox; replace HS := ym (HS.out.below hb1); replace HM := ym (Mv.of_below hb1 : Mv w w1 (fun i => i = gm ∨ i = gO ∨ some i = (Value.slice A0 o.length c0).ownBlock)); clear hg3 hbox hb1; have c30 := yW BG3 0; have c31 := yW BG3 1; have cP := yW ⟨HS.out.bP⟩ 0))
      | ((with_reducible refine gate_dst (N := 10) rfl ?_); go_loud (refine Kept.look HS.out.map keyed140 _ _ 139 rfl rfl Try.underlying139 Try.underlying3 (fun _ => rfl) rfl (pv p) rfl kl HKL.out ?_); go_loud (intro nn rr h1 h2; have hs := prk_says h1 h2; have hrr : rr = true := (by cases rr with | true => rfl | false => exact absurd (hs.2 rfl).1 (by have := HX.out; omega)); subst hrr; have hnn := (hs.1 rfl).1; subst hnn; clear h1 h2 hs)))
    go_ret
    exact ⟨_, rfl, HS.out, HM.out⟩
  · have heq : Mach.ix p o = o.length := by have := Mach.ix_le p o; omega
    have HEQ := ym heq
    have hpl : plo p o = o ++ [p] := if_pos heq
    rw [hpl, heq]
    clear hx hpl heq
    go_enter Try.func80, Try.ntmps80
    go_wp2_with (first
      | ((with_reducible refine gate_dst (N := 3) rfl ?_); go_loud (refine zb (N := 3) (cs := #[.int .i64 p.1, .int .i64 p.2]) (t := 140) ?_); go_loud (intro g3 hg3 w1 hbox hb1; have BG3 := ym hbox; replace HS := ym (HS.out.below hb1); replace HM := ym (Mv.of_below hb1 : Mv w w1 (fun i => i = gm ∨ i = gO ∨ some i = (Value.slice A0 o.length c0).ownBlock)); clear hg3 hbox hb1; have c30 := yW BG3 0; have c31 := yW BG3 1; have cP := yW ⟨HS.out.bP⟩ 0; have cO := yW ⟨HS.out.bO⟩ 0; have fO := yv HS.out.bO 0))
      | ((with_reducible refine gate_dst (N := 10) rfl ?_); go_loud (refine Kept.look HS.out.map keyed140 _ _ 139 rfl rfl Try.underlying139 Try.underlying3 (fun _ => rfl) rfl (pv p) rfl kl HKL.out ?_); go_loud (intro nn rr h1 h2; have hs := prk_says h1 h2; have hrr : rr = false := (by cases rr with | false => rfl | true => exact absurd (hs.1 rfl).2 (by have := HEQ.out; omega)); subst hrr; have HNO := ym (hs.2 rfl).2; clear h1 h2 hs))
      | ((with_reducible refine gate_ (Op.mapUpdate 139 (.tmp 17) (.tmp 18) (.tmp 19)) rfl ?_); go_loud (refine Kept.put HS.out.map keyed140 _ _ _ 139 rfl rfl Try.underlying139 Try.underlying3 (by rw [nk_len, prk_len]; unfold maxLen; omega) rfl (pv p) rfl kl HKL.out HNO.out (o.length : Int) rfl (lit64 (by omega) (by omega)) ?_); go_loud (intro w2 hS2 hg2; have HSM := ym (show Kept.Kept Try.prog 140 3 w2 gm (nk (prk (o ++ [p]))) from by rw [prk_snoc, nk_snoc, prk_len]; exact hS2); have hT := rowt_map HS.out.map; have bP := blk_row HS.out.bP hg2 hT (by decide); have BP := ym bP; have bO := blk_row HS.out.bO hg2 hT (by decide); have BO := ym bO; have HO := ym (R_row HS.out.ord hg2 hT (by decide)); replace BG3 := ym (blk_row BG3.out hg2 hT (by decide)); replace HM := ym (HM.out.trans (Mv.of_grown hg2) (fun i _ e => .inl (Option.some.inj e))); clear hS2 hg2 HS hT bP bO c30 c31 cP cO fO; have c30 := yW BG3 0; have c31 := yW BG3 1; have cO := yW BO 0; have fO := yv BO.out 0))
      | ((with_reducible refine gate_builtin (b := .append) (xs := #[.tmp 20, .tmp 22]) rfl ?_); at_builtin; go_loud (refine Kd.R_append k140 (w0 := w2) base rfl (.tmp 20) (.tmp 22) 152 140 (.agg #[(.int .i64 0), (.int .i64 0)]) 16 rfl Try.underlying152 info140 rfl (by decide) (by omega) (.slice A0 o.length c0) o p [.int .i64 p.1, .int .i64 p.2] ok (fun _ => False) rfl (by first | (go_simp; done) | (go_simp; rfl)) (k140_mkM _ _ _ p) (fun _ hk => hk.elim) (fun k hk => HOK.out k (Nat.le_trans HM.out.size hk)) HO.out (Below.refl _ _) (Nat.le_trans hbw HM.out.size) (by omega) ?_); go_loud (intro v1 w3 hR3 hB3 hg3 _; obtain ⟨A1, c1, e1⟩ := Kd.R_slice hR3; have e2 : v1 = .slice A1 (o.length + 1) c1 := e1.trans (by simp); clear e1; subst e2; have hT := rowt_R HO.out; have HSM3 := ym (kept_row HSM.out hg3 hT (by decide)); replace BP := ym (blk_row BP.out hg3 hT (by decide)); replace BO := ym (blk_row BO.out hg3 hT (by decide)); replace HO := ym hR3; replace HM := ym (HM.out.trans (Mv.of_grown hg3) (fun i _ e => .inr (.inr e))); clear hR3 hB3 hg3 hT c30 c31 cO fO HSM BG3; have cO := yW BO 0; have fO := yv BO.out 0)))
    go_ret
    have hg := grown_set w3 gO 0 (.slice A1 (o.length + 1) c1)
    have hT := rowt_blk BO.out
    exact ⟨_, rfl, ⟨blk_row BP.out hg hT (by decide), blk_set BO.out 0 (.slice A1 (o.length + 1) c1), kept_row HSM3.out hg hT (by decide), R_row HO.out hg hT (by decide)⟩, HM.out.trans (Mv.of_grown hg) (fun i _ e => .inr (.inl (Option.some.inj e)))⟩
end Go.Proofs.Ytfjpnmhbbfiaaaa.P
