/- Which states of a machine are alive: the walk through 'living'. On condition that the rows are in place and lead to states. -/
import Derived.Test.YtfjpnmhbbfiaaaaZGSArrs
import Derived.Laws.IdiomCopy
namespace Go.Proofs.Ytfjpnmhbbfiaaaa.P
open Go Go.RowKit Go.Proofs.YtfjpnmhbbfiaaaaW.PrintWords Go.Proofs.YtfjpnmhbbfiaaaaW.PrintLast Go.Proofs.YtfjpnmhbbfiaaaaW.PrintMore Go.Proofs.Ytfjpnmhbbfiaaaa
set_option linter.unusedVariables false
set_option linter.unusedSimpArgs false
def setAll {α : Type} (xs : List α) : Nat → List α → List α
  | _, [] => xs
  | o, y :: ys => setAll (xs.set o y) (o + 1) ys
theorem setAll_go {α : Type} : ∀ (ys ps qs : List α), qs.length = ys.length → setAll (ps ++ qs) ps.length ys = ps ++ ys
  | [], ps, qs, h => by simp [setAll, List.length_eq_zero_iff.1 h]
  | y :: ys, ps, [], h => by simp at h
  | y :: ys, ps, q :: qs, h => by
    have ih := setAll_go ys (ps ++ [y]) qs (by simpa using h)
    simp only [setAll]
    rw [List.set_append_right _ _ (Nat.le_refl _), Nat.sub_self, List.set_cons_zero]
    simpa using ih
theorem grown_two {w w1 w2 : World} {row : Option Nat} (h : w.grownBy w1 row) (k : w1.grownBy w2 row) : w.grownBy w2 row :=
  ⟨k.os.trans h.os, k.tape.trans h.tape, k.output.trans h.output, Nat.le_trans h.size k.size, fun i hi hr => (k.block i (Nat.lt_of_lt_of_le hi h.size) hr).trans (h.block i hi hr)⟩
theorem R_setCells {α : Type} {enc : α → Value} {h1 : ∀ x, (enc x).oneCell' = true} {e base g n cap : Nat} {ok : Nat → Prop} : ∀ (ys : List α) (o : Nat) {W : World} {xs : List α}, (Kd.scalar enc h1).R e W base ok (.slice (some ⟨g, 0, none⟩) n cap) xs →
    (Kd.scalar enc h1).R e (W.setCells g o (ys.map enc)) base ok (.slice (some ⟨g, 0, none⟩) n cap) (setAll xs o ys) ∧ W.grownBy (W.setCells g o (ys.map enc)) (some g)
  | [], o, W, xs, h => ⟨h, World.grownBy.refl _ _⟩
  | y :: ys, o, W, xs, h => by
    obtain ⟨a1, a2⟩ := Kd.R_putg h (o : Int) y
    rw [Int.toNat_natCast] at a1 a2
    obtain ⟨b1, b2⟩ := R_setCells ys (o + 1) a1
    exact ⟨b1, grown_two a2 b2⟩
theorem grown_setRow (W : World) (g : Nat) (cs : Array Value) : W.grownBy (W.setRow g cs) (some g) := by
  refine ⟨rfl, rfl, rfl, by simp [World.setRow], fun i hi hr => ?_⟩
  have hne : g ≠ i := fun e => hr (by rw [e])
  simp only [World.setRow]
  rw [Array.getElem?_modify]
  simp [hne]
section
variable {P : Program} {ops : Array Oper} {rest : List Oper} {o : Oper} {a : Act} {Q : Exit → Act → World → Prop}
/-- 'copy' of a row of flags over a row of one's own, as long. -/
theorem copy_event {W : World} (hgd : o.guard = none) (d s : Operand) (t el : TypeId) (ho : o.op = .call { callee := .builtin .copy, args := #[d, s], argTypes := #[t, t] }) {g n cap base e : Nat} {ok : Nat → Prop} {xs ys : List Bool} {ad : Addr} {c : Nat}
    (hu : P.underlying t = some (.slice el)) (hs1 : (P.info? el).map (·.size) = some 1) (hd : a.eval d = .slice (some ⟨g, 0, none⟩) n cap) (hs : a.eval s = .slice (some ad) ys.length c) (hR : Kd.bool.R e W base ok (.slice (some ⟨g, 0, none⟩) n cap) xs) (hC : Kd.bool.C W (some ad) ys.length ys) (hl : xs.length = ys.length)
    (h : ∀ w1, Kd.bool.R e w1 base ok (.slice (some ⟨g, 0, none⟩) n cap) ys → W.grownBy w1 (some g) → wpList P ops Q rest (a.put o.dst (.int .i64 ys.length)) w1) : wpList P ops Q (o :: rest) a W := by
  obtain ⟨hn, hnc, hCx⟩ := Kd.R_reads' hR
  obtain ⟨b1, b2⟩ := R_setCells ys 0 hR
  have e1 : setAll xs 0 ys = ys := by simpa using setAll_go ys [] xs hl
  rw [e1] at b1
  have hr := run_copy_cells (P := P) W t t o.type el g 0 n cap ad ys.length c (ys.map Value.bool) hu hs1 (by rw [List.length_map]; exact (Nat.min_eq_left (by omega)).symm) (fun j v hv => by
      obtain ⟨ad', he, hc⟩ := Kd.at_bool hC (j : Int) (by omega) (by
        have := (List.getElem?_eq_some_iff.1 hv).1
        simp at this; omega)
      cases he
      have hj := (List.getElem?_eq_some_iff.1 hv).1
      simp at hj
      rw [Int.toNat_natCast] at hc
      rw [hc]
      rw [List.getElem?_map, List.getElem?_eq_getElem hj] at hv
      simp only [Option.map_some, Option.some.injEq] at hv
      rw [← hv]
      unfold rdOf
      rw [Int.toNat_natCast, List.getD_eq_getElem?_getD, List.getElem?_eq_getElem hj]; rfl) (fun j hj => by
      have hj' : j < n := by simp at hj; omega
      have := (Kd.R_celln false hR (j : Int) (by omega) (by omega)).1
      rw [Int.toNat_natCast] at this
      rw [Nat.zero_add, this]; rfl) (fun j hj => by
      have hj' : j < n := by simp at hj; omega
      have := (Kd.R_celln false hR (j : Int) (by omega) (by omega)).2
      rw [Int.toNat_natCast] at this
      rw [Nat.zero_add]; exact this) (fun v hv => by
      obtain ⟨b, _, rfl⟩ := List.mem_map.1 hv
      rfl)
  refine wpList_plain hgd fun K hK => ?_
  unfold Oper.wp execOp
  simp only [ho, resolve, invoke, builtin, Sem.run_bind, Sem.run_pure, Result.andThen_ok, List.map_toArray, List.map_cons, List.map_nil, hd, hs, hr]
  have := hK _ _ (h _ b1 b2)
  simp only [goInt, List.length_map]
  exact this
end
set_option maxHeartbeats 8000000 in
set_option maxRecDepth 100000 in
theorem living_calls (k : Nat) (w : World) {g : Nat} {R : List (List Int)} {A : List Bool} (hM : Mac w g R A) (hA : A.length = R.length) (hR : Mach.Rows R) (hp : 0 < R.length) (hn : R.length ≤ 8192) (r : List Bool) (h : Mach.livF (Mach.dR R) R.length k A = some r) :
    Calls Try.prog 79 #[.pointer (some ⟨g, 0, none⟩)] w fun e w' => ∃ v, e = .returned v ∧ Kd.R Kd.bool 4 w' w.heap.size (fun _ => True) v r ∧ Below w.heap.size w w' := by
  have hu118 := Try.underlying118
  have hu129 := Try.underlying129
  have HM := ym hM
  have H := ym h
  obtain ⟨An, cn, Aa, ca, hb, hC, hcn, hCA, hca⟩ := hM
  obtain ⟨adn, rfl, _⟩ := k129_cell hC (s := 0) (x := 0) (by omega) (by omega) ⟨by omega, by omega⟩
  obtain ⟨ada, rfl, _⟩ := flag_cell hCA (s := 0) (by omega) (by omega)
  have BK := ym hb
  have HC := ym hC
  have HCA := ym hCA
  have HB := ym (Below.refl w.heap.size w)
  have c1 := yW BK 1
  have c2 := yW BK 2
  have f1 := yv BK.out 1
  have f2 := yv BK.out 2
  have HA := ym hA
  clear hb hC hCA h hA
  obtain ⟨n, en⟩ : ∃ n, n = R.length := ⟨_, rfl⟩
  go_enter Try.func79, Try.ntmps79
  go_wp2_with (first
    | (at_make; refine Kd.R_make Kd.bool (w0 := w) w.heap.size 4 rfl (N := 14) rfl 22 _ _ rfl (R.length : Int) rfl rfl Try.underlying22 (.bool false) 1 info4 rfl (by decide) (by omega) false (ok := fun _ => True) (okp := fun _ => True) rfl (fun _ hk => hk) trivial (by omega) (by omega) (Below.refl _ _) (Nat.le_refl _) ?_; intro v1 w1 ho hb1 hg1 hnew1; rw [Int.toNat_natCast] at ho; obtain ⟨gl, cl, rfl, hgl, hgl2, hcl, HG⟩ := Kd.R_form ho (by simp; omega); rw [List.length_replicate] at ho; (try simp only [List.length_replicate]); clear hg1 hnew1 hcl hgl2 HG; have HO := ym ho; have BK1 := ym (blk_below BK.out hb1); have HCA1 := ym (Kd.C_below HCA.out hb1); replace HB := ym hb1; clear ho hb1; have c11 := yW BK1 1; have c12 := yW BK1 2; have f11 := yv BK1.out 1; have f12 := yv BK1.out 2)
    | ((with_reducible refine gate_dst (N := 20) rfl ?_); go_loud (refine copy_event rfl _ _ 22 4 rfl (g := gl) (n := R.length) (cap := cl) (base := w.heap.size) (e := 4) (ok := fun _ => True) (xs := List.replicate R.length false) (ys := A) (ad := ada) (c := ca) Try.underlying22 (by kernel_rfl) rfl rfl HO.out HCA1.out (by rw [List.length_replicate]; exact HA.out.symm) ?_); intro w2 hO2 hg2; have HO2 := ym hO2; replace HB := ym (pw_below_grown HB.out (some gl) (below_size HB.out) hg2 (fun k hk => by cases hk; exact hgl)); clear hO2 hg2))
  clear c11 c12 f11 f12 BK1 HCA1 HO c1 c2 f1 f2
  go_loopg [4] k (fun kq v4 w' => ∃ (b : Bool) (L : List Bool), v4 = .bool b ∧ Aside0 (if b = true then Mach.livF (Mach.dR R) R.length kq L = some r else L = r) ∧ Aside0 (kq ≤ k) ∧ Aside0 (L.length = R.length) ∧ Aside0 (Kd.R Kd.bool 4 w' w.heap.size (fun _ => True) (.slice (some ⟨gl, 0, none⟩) R.length cl) L) ∧ Aside0 (Below w.heap.size w w'))
  case atStart => exact ⟨true, A, rfl, ⟨by rw [if_pos rfl]; exact H.out⟩, ⟨Nat.le_refl _⟩, HA, HO2, HB⟩
  case round =>
    clear HO2 HB H
    obtain ⟨b, L, rfl, HF, HK, HL, HO, HB⟩ := hrel
    cases b with
    | false =>
      have e := HF.out
      rw [if_neg (by decide)] at e
      subst e
      go_wp2
      go_ret
      exact ⟨_, rfl, HO.out, HB.out⟩
    | true =>
      cases gk with
      | zero => exact absurd HF.out (by simp [Mach.livF])
      | succ k1 =>
        have HF' := HF.out
        rw [if_pos rfl] at HF'
        rw [Mach.livF] at HF'
        obtain ⟨st, hst⟩ : ∃ st, st = Mach.livP (Mach.dR R) R.length 0 (L, false) := ⟨_, rfl⟩
        rw [← hst] at HF'
        have HF2 := ym HF'
        have HST := ym hst.symm
        clear HF HF' hst
        have BKr := ym (blk_below BK.out HB.out)
        have c1 := yW BKr 1
        have f1 := yv BKr.out 1
        obtain ⟨wa, rfl⟩ : ∃ wa, wa = wr := ⟨_, rfl⟩
        go_wp2
        go_loopw [4, 27] (fun v4 v27 w' => ∃ (i : Nat) (b : Bool) (L : List Bool), v4 = .bool b ∧ v27 = .int .i64 i ∧ Aside0 (i ≤ R.length) ∧ Aside0 (Mach.livP (Mach.dR R) (R.length - i) i (L, b) = st) ∧ Aside0 (L.length = R.length) ∧ Aside0 (Kd.R Kd.bool 4 w' w.heap.size (fun _ => True) (.slice (some ⟨gl, 0, none⟩) R.length cl) L) ∧ Aside0 (Below w.heap.size w w')) (fun v4 v27 w' => R.length - (intOf v27).toNat)
        case atStart => exact ⟨0, false, L, rfl, rfl, ⟨Nat.zero_le _⟩, HST, HL, HO, HB⟩
        case round =>
          clear HST HL HO HB BKr c1 f1 L
          obtain ⟨i, b, L, rfl, rfl, HI, HST, HL, HO, HB⟩ := hrel
          have BKr := ym (blk_below BK.out HB.out)
          have HCr := ym (Kd.C_below HC.out HB.out)
          obtain ⟨wb, rfl⟩ : ∃ wb, wb = wr := ⟨_, rfl⟩
          by_cases hi : i < R.length
          · have p1 : ((i : Int) < (R.length : Int)) = True := eq_true (by omega)
            have p0 : ((0 : Int) ≤ (i : Int)) = True := eq_true (by omega)
            obtain ⟨d, hd⟩ : ∃ d, R.length - i = d + 1 := ⟨R.length - i - 1, by omega⟩
            have e := HST.out
            rw [hd] at e
            simp only [Mach.livP] at e
            have hd2 : d = R.length - (i + 1) := by omega
            rw [hd2] at e
            obtain ⟨s1, hs1⟩ : ∃ s1, s1 = Mach.livR (Mach.dR R) (i : Int) 256 (L, b) := ⟨_, rfl⟩
            rw [← hs1] at e
            have HS1 := ym hs1.symm
            have HST2 := ym e
            clear e HST hs1 hd hd2
            obtain ⟨row, hrow⟩ : ∃ row, row = R.getD i [] := ⟨_, rfl⟩
            have hrl : row.length = 256 := by
              rw [hrow, List.getD_eq_getElem?_getD, List.getElem?_eq_getElem hi]
              exact hR.wide _ (List.getElem_mem hi)
            have hload : ∀ j u, (encs (Value.int .i64) row)[j]? = some u → wb.cell? ((adn.add (i * 256)).add j) = some u := fun j u hu => by
              obtain ⟨ad', c', e1, hc', hK, hcell⟩ := Kd.C_get HCr.out ([] : List Int) (i : Int) (by omega) (by omega)
              cases e1
              obtain ⟨_, rfl⟩ := k129_cells hK
              rw [Int.toNat_natCast, ← hrow] at hcell
              rw [add_two]
              exact hcell j u hu
            have HLD := ym hload
            have HROW := ym hrow
            have es : (encs (Value.int .i64) row).toArray.size = 256 := by rw [List.size_toArray, encs_length, hrl]
            have ea : (encs (Value.int .i64) row).toArray.all (·.oneCell') = true := by
              simp only [encs, List.all_toArray, List.all_map]
              rw [List.all_eq_true]
              intro x _
              rfl
            have ES := ym es
            have EA := ym ea
            have HRL := ym hrl
            clear hload hrow es ea hrl
            go_wp2_with (first
              | ((with_reducible refine gate_dst (N := 31) rfl ?_); go_loud (refine Arr.wpList_load_at rfl 129 _ rfl (adn.add (i * 256)) rfl (encs (Value.int .i64) row) _ HLD.out Try.underlying129 rfl (by rw [encs_length, HRL.out]; kernel_rfl) ?_))
              | ((with_reducible refine gate_dst (N := 6) rfl ?_); go_loud (refine zb (N := 6) (cs := Try.zeroCells129) (t := 129) ?_); intro g6 hg6 w6 hbox hb6; have BG6 := ym hbox; have GE6 := yE hg6; replace HB := yN hb6; replace HO := ym (Kd.R_below HO.out hb6); replace BKr := yQ BKr hb6; clear hg6 hbox hb6)
              | ((with_reducible refine gate_store (t := 129) (p := 6) rfl ?_); go_loud (refine Arr.wpList_store_row rfl 129 _ _ rfl g6 (encs (Value.int .i64) row).toArray rfl rfl 129 Try.zeroCells129 BG6.out (by rw [ES.out]; kernel_rfl) (by rw [ES.out]; kernel_rfl) EA.out ?_); obtain ⟨w7, hw7⟩ : ∃ w7, w7 = w6.setRow g6 (encs (Value.int .i64) row).toArray := ⟨_, rfl⟩; rw [← hw7]; have hg7 : w6.grownBy w7 (some g6) := (by rw [hw7]; exact grown_setRow _ _ _); have BG7 := ym (by rw [hw7]; exact setRow_heap _ _ _ _ _ _ BG6.out : w7.heap[g6]? = some (.cells (encs (Value.int .i64) row).toArray 129 (0, 0))); replace HO := ym (Kd.R_over' (v := .slice (some ⟨g6, 0, none⟩) 0 0) HO.out (fun k hk => by cases hk; exact ⟨_, BG6.out⟩) (by decide) hg7); replace HB := ym (pw_below_grown HB.out (some g6) (below_size HB.out) hg7 (fun k hk => by cases hk; exact GE6.out)); clear hw7 hg7 BG6 BKr)
              | ((with_reducible refine gate_dst (N := 32) rfl ?_); go_loud (refine wpList_load_row rfl 129 _ rfl g6 rfl 129 (encs (Value.int .i64) row).toArray (0, 0) _ BG7.out Try.underlying129 rfl (by rw [ES.out]; kernel_rfl) ?_)))
            clear BG7 GE6 HLD EA ES HCr
            have HI2 := ym hi
            obtain ⟨N, hN⟩ : ∃ N : Nat, N = 256 := ⟨256, rfl⟩
            have HN := ym hN
            clear hN
            go_loopw [4, 33] (fun v4 v33 w' => ∃ (x : Nat) (b : Bool) (L : List Bool), v4 = .bool b ∧ v33 = .int .i64 x ∧ Aside0 (x ≤ 256) ∧ Aside0 (Mach.livR (Mach.dR R) (i : Int) (256 - x) (L, b) = s1) ∧ Aside0 (L.length = R.length) ∧ Aside0 (Kd.R Kd.bool 4 w' w.heap.size (fun _ => True) (.slice (some ⟨gl, 0, none⟩) R.length cl) L) ∧ Aside0 (Below w.heap.size w w')) (fun v4 v33 w' => N - (intOf v33).toNat)
            case atStart => exact ⟨0, b, L, rfl, rfl, ⟨by omega⟩, HS1, HL, HO, HB⟩
            case round =>
              clear HS1 HL HO HB
              obtain ⟨x, b, L, rfl, rfl, HX, HS1, HL, HO, HB⟩ := hrel
              obtain ⟨wc, rfl⟩ : ∃ wc, wc = wr := ⟨_, rfl⟩
              have hx256 := HX.out
              by_cases hx : x < 256
              · have q1 : ((x : Int) < 256) = True := eq_true (by omega)
                have q0 : ((0 : Int) ≤ (x : Int)) = True := eq_true (by omega)
                obtain ⟨d, hd⟩ : ∃ d, 256 - x = d + 1 := ⟨256 - x - 1, by omega⟩
                have e := HS1.out
                rw [hd] at e
                simp only [Mach.livR] at e
                have hd2 : d = 256 - (x + 1) := by omega
                have hd3 : 256 - (d + 1) = x := by omega
                rw [hd3, hd2] at e
                clear hd hd2 hd3
                obtain ⟨t, ht⟩ : ∃ t, t = Mach.dR R (i : Int) (x : Int) := ⟨_, rfl⟩
                have hix : ∀ W, (Instr.index 129 (.agg (encs (Value.int .i64) row).toArray) (.int .i64 (x : Int))).run Try.prog W = .ok (.int .i64 t) W := fun W => by
                  refine Arr.run_index_agg 129 3 256 _ .i64 (x : Int) W Try.underlying129 Try.underlying3 rfl (by kernel_rfl) (by omega) (by omega) _ ?_
                  rw [List.getElem?_toArray, Int.toNat_natCast, encs_get (d := (-1 : Int)) _ _ (by rw [HRL.out]; exact hx), ht, HROW.out]
                  unfold Mach.dR Mach.at_
                  rw [if_neg (by omega), Int.toNat_natCast, Int.toNat_natCast]
                have hst : Mach.St R.length t := by rw [ht]; exact (hR.ok A).to_ _ _ ⟨by omega, by have := HI2.out; omega⟩ ⟨by omega, by omega⟩
                have hcl := Kd.R_celln false HO.out (i : Int) (by omega) (by have := HI2.out; omega)
                rw [Int.toNat_natCast] at hcl
                obtain ⟨hci, hfi⟩ := hcl
                have p0 : ((0 : Int) ≤ (i : Int)) = True := eq_true (by omega)
                have p1 : ((i : Int) < (R.length : Int)) = True := eq_true (by have := HI2.out; omega)
                have e1 : Mach.livB (Mach.dR R) (i : Int) (x : Int) (L, b) = if Mach.la L i = false ∧ t ≠ -1 ∧ Mach.la L t = true then (L.set i true, true) else (L, b) := by
                  unfold Mach.livB
                  rw [← ht, Int.toNat_natCast]
                rw [e1] at e
                have ela : rdOf false L (i : Int) = Mach.la L (i : Int) := rfl
                rw [ela] at hci
                have HS2 := ym e
                have HST3 := ym hst
                have HX1 := ym hx
                clear e e1 ela HS1 ht hst HX hx256 HROW HRL
                cases hl : Mach.la L (i : Int) with
                | true =>
                  rw [hl] at hci
                  have e2 := HS2.out
                  rw [if_neg (by rw [hl]; simp)] at e2
                  have HS3 := ym e2
                  clear e2 HS2 hl
                  go_wp2
                  go_roundw
                  case measure => exact mdec' (Nat.lt_of_lt_of_eq HX1.out HN.out.symm)
                  case rel => exact ⟨x + 1, b, L, rfl, rfl, ⟨by have := HX1.out; omega⟩, HS3, HL, HO, HB⟩
                | false =>
                  rw [hl] at hci
                  by_cases ht1 : t = -1
                  · subst ht1
                    have e2 := HS2.out
                    rw [if_neg (by simp)] at e2
                    have HS3 := ym e2
                    clear e2 HS2 hl
                    go_wp2
                    go_roundw
                    case measure => exact mdec' (Nat.lt_of_lt_of_eq HX1.out HN.out.symm)
                    case rel => exact ⟨x + 1, b, L, rfl, rfl, ⟨by have := HX1.out; omega⟩, HS3, HL, HO, HB⟩
                  · have hin : Mach.In R.length t := by rcases HST3.out with e | e; exact absurd e ht1; exact e
                    have b1 : (t != -1) = true := bne_iff_ne.mpr ht1
                    have hct := (Kd.R_celln false HO.out t hin.1 hin.2).1
                    have hla : rdOf false L t = Mach.la L t := rfl
                    rw [hla] at hct
                    have t0 := eq_true hin.1
                    have t1 := eq_true hin.2
                    cases hlt : Mach.la L t with
                    | false =>
                      rw [hlt] at hct
                      have e2 := HS2.out
                      rw [if_neg (by rw [hlt]; simp)] at e2
                      have HS3 := ym e2
                      clear e2 HS2 hl hlt hla hin
                      go_wp2
                      go_roundw
                      case measure => exact mdec' (Nat.lt_of_lt_of_eq HX1.out HN.out.symm)
                      case rel => exact ⟨x + 1, b, L, rfl, rfl, ⟨by have := HX1.out; omega⟩, HS3, HL, HO, HB⟩
                    | true =>
                      rw [hlt] at hct
                      have e2 := HS2.out
                      rw [if_pos ⟨hl, ht1, hlt⟩] at e2
                      have HS3 := ym e2
                      have HP := Kd.R_putg HO.out (i : Int) true
                      rw [Int.toNat_natCast] at HP
                      clear e2 HS2 hl hlt hla hin
                      go_wp2_with (first
                        | ((with_reducible refine gate_store (t := 4) (p := 53) rfl ?_); go_loud (refine store_event (t := 4) (p := 53) (v := ?vo) (w1 := (wc.setCell ⟨gl, i, none⟩ (.bool true))) ?hg ?ho ?hn ?hr ?_); (case ho => rfl); (case hg => rfl); (case hn => rfl); (case hr => first | (go_simp; done) | (go_simp; rfl)); intro w8 hw8; have HO8 := ym (by rw [hw8]; exact HP.1 : Kd.R Kd.bool 4 w8 w.heap.size (fun _ => True) (.slice (some ⟨gl, 0, none⟩) R.length cl) (L.set i true)); have hg8 : wc.grownBy w8 (some gl) := (by rw [hw8]; exact HP.2); replace HB := ym (pw_below_grown HB.out (some gl) (below_size HB.out) hg8 (fun k hk => by cases hk; exact hgl)); clear hw8 hg8 HP))
                      go_roundw
                      case measure => exact mdec' (Nat.lt_of_lt_of_eq HX1.out HN.out.symm)
                      case rel => exact ⟨x + 1, true, L.set i true, rfl, rfl, ⟨by have := HX1.out; omega⟩, HS3, ⟨by rw [List.length_set]; exact HL.out⟩, HO8, HB⟩
              · obtain rfl : x = 256 := by omega
                have e := HS1.out
                simp only [Nat.sub_self, Mach.livR] at e
                have E1 := ym e
                clear e HS1
                go_wp2
                go_roundw
                case measure => first | exact mdec' HI2.out | exact mdec HI2.out hn
                case rel => exact ⟨i + 1, b, L, rfl, by first | rfl | (rw [wlt HI2.out hn]; rfl), ⟨by have := HI2.out; omega⟩, ⟨by rw [← HST2.out, ← E1.out]⟩, HL, HO, HB⟩
          · have ei : i = R.length := by have := HI.out; omega
            have e := HST.out
            rw [ei, Nat.sub_self] at e
            have E2 := ym (show (L, b) = st from e)
            have p1 : ((i : Int) < (R.length : Int)) = False := eq_false (by omega)
            clear e HST ei hi
            go_wp2
            go_roundg k1
            case measure => have := HK.out; omega
            case rel => exact ⟨b, L, rfl, ⟨by have h1 := HF2.out; have h2 := E2.out; rw [← h2] at h1; cases b <;> simpa using h1⟩, ⟨by have := HK.out; omega⟩, HL, HO, HB⟩
end Go.Proofs.Ytfjpnmhbbfiaaaa.P
