/- The least guide of a machine: what lies in memory while it is made, and how each step turns it. Each law names its conditions. -/
import Derived.Test.YtfjpnmhbbfiaaaaZGSMoved
namespace Go.Proofs.Ytfjpnmhbbfiaaaa.P
open Go Go.RowKit Go.Proofs.YtfjpnmhbbfiaaaaW.PrintWords Go.Proofs.YtfjpnmhbbfiaaaaW.PrintLast Go.Proofs.YtfjpnmhbbfiaaaaW.PrintMore Go.Proofs.Ytfjpnmhbbfiaaaa
set_option linter.unusedVariables false
set_option linter.unusedSimpArgs false
/-- The row of states, the guide's flags and edges, the guide's box, the map of places. -/
structure LS (w1 W : World) (gg gm : Nat) (bA bE vo vA vE : Value) (ks : List Value) (o : List Int) (A : List Bool) (E : List S92) : Prop where
  box : W.heap[gg]? = some (.cells #[bA, bE] 25 (0, 0))
  ord : Kd.R (Kd.int .i64) 3 W w1.heap.size (fun _ => True) vo o
  acc : Kd.R Kd.bool 4 W w1.heap.size (fun _ => True) vA A
  eds : Kd.R k92 92 W w1.heap.size (fun _ => True) vE E
  map : Kept.Kept Try.prog 3 3 W gm (nk ks)
  bel : Below w1.heap.size w1 W
  hg : w1.heap.size ≤ gg
  hm : w1.heap.size ≤ gm
section
variable {w1 W W' : World} {gg gm : Nat} {bA bE vo vA vE : Value} {ks : List Value} {o : List Int} {A : List Bool} {E : List S92}
theorem LS.below (h : LS w1 W gg gm bA bE vo vA vE ks o A E) (hb : Below W.heap.size W W') : LS w1 W' gg gm bA bE vo vA vE ks o A E :=
  ⟨blk_below h.box hb, Kd.R_below h.ord hb, Kd.R_below h.acc hb, Kd.R_below h.eds hb, h.map.below hb, below_then h.bel h.bel.size hb, h.hg, h.hm⟩
theorem LS.drew (h : LS w1 W gg gm bA bE vo vA vE ks o A E) : LS w1 W.drew gg gm bA bE vo vA vE ks o A E := h.below (below_drew (Below.refl _ _))
theorem LS.box0 (h : LS w1 W gg gm bA bE vo vA vE ks o A E) (v : Value) : LS w1 (W.setCell ⟨gg, 0, none⟩ v) gg gm v bE vo vA vE ks o A E :=
  have hg := grown_set W gg 0 v
  have hT := rowt_blk h.box
  ⟨blk_set h.box 0 v, R_row h.ord hg hT (by decide), R_row h.acc hg hT (by decide), R_row h.eds hg hT (by decide), kept_row h.map hg hT (by decide), pw_below_grown h.bel _ h.bel.size hg (fun k hk => by cases hk; exact h.hg), h.hg, h.hm⟩
theorem LS.box1 (h : LS w1 W gg gm bA bE vo vA vE ks o A E) (v : Value) : LS w1 (W.setCell ⟨gg, 1, none⟩ v) gg gm bA v vo vA vE ks o A E :=
  have hg := grown_set W gg 1 v
  have hT := rowt_blk h.box
  ⟨blk_set h.box 1 v, R_row h.ord hg hT (by decide), R_row h.acc hg hT (by decide), R_row h.eds hg hT (by decide), kept_row h.map hg hT (by decide), pw_below_grown h.bel _ h.bel.size hg (fun k hk => by cases hk; exact h.hg), h.hg, h.hm⟩
theorem LS.pushA {v : Value} {A' : List Bool} (h : LS w1 W gg gm bA bE vo vA vE ks o A E) (hR : Kd.R Kd.bool 4 W' w1.heap.size (fun _ => True) v A') (hB : Below w1.heap.size w1 W') (hg : W.grownBy W' vA.ownBlock) : LS w1 W' gg gm bA bE vo v vE ks o A' E :=
  have hT := rowt_R h.acc
  ⟨blk_row h.box hg hT (by decide), R_row h.ord hg hT (by decide), hR, R_row h.eds hg hT (by decide), kept_row h.map hg hT (by decide), hB, h.hg, h.hm⟩
theorem LS.pushO {v : Value} {o' : List Int} (h : LS w1 W gg gm bA bE vo vA vE ks o A E) (hR : Kd.R (Kd.int .i64) 3 W' w1.heap.size (fun _ => True) v o') (hB : Below w1.heap.size w1 W') (hg : W.grownBy W' vo.ownBlock) : LS w1 W' gg gm bA bE v vA vE ks o' A E :=
  have hT := rowt_R h.ord
  ⟨blk_row h.box hg hT (by decide), hR, R_row h.acc hg hT (by decide), R_row h.eds hg hT (by decide), kept_row h.map hg hT (by decide), hB, h.hg, h.hm⟩
theorem LS.pushE {v : Value} {E' : List S92} (h : LS w1 W gg gm bA bE vo vA vE ks o A E) (hR : Kd.R k92 92 W' w1.heap.size (fun _ => True) v E') (hB : Below w1.heap.size w1 W') (hg : W.grownBy W' vE.ownBlock) : LS w1 W' gg gm bA bE vo vA v ks o A E' :=
  have hT := rowt_R h.eds
  ⟨blk_row h.box hg hT (by decide), R_row h.ord hg hT (by decide), R_row h.acc hg hT (by decide), hR, kept_row h.map hg hT (by decide), hB, h.hg, h.hm⟩
theorem LS.put {ks' : List Value} (h : LS w1 W gg gm bA bE vo vA vE ks o A E) (hS : Kept.Kept Try.prog 3 3 W' gm (nk ks')) (hg : W.grownBy W' (some gm)) : LS w1 W' gg gm bA bE vo vA vE ks' o A E :=
  have hT := rowt_map h.map
  ⟨blk_row h.box hg hT (by decide), R_row h.ord hg hT (by decide), R_row h.acc hg hT (by decide), R_row h.eds hg hT (by decide), hS, pw_below_grown h.bel _ h.bel.size hg (fun k hk => by cases hk; exact h.hm), h.hg, h.hm⟩
end
section
variable {w1 W W' : World} {gg gm : Nat} {bA bE vo vA vE : Value} {ks : List Value} {o : List Int} {A : List Bool} {E : List S92}
variable {ops : Array Oper} {rest : List Oper} {oi : Oper} {a : Act} {Q : Exit → Act → World → Prop}
/-- A state put behind the row of states. -/
theorem LS.appO (h : LS w1 W gg gm bA bE vo vA vE ks o A E) (hgd : oi.guard = none) (s x : Operand) (ho : oi.op = .call { callee := .builtin .append, args := #[s, x], argTypes := #[53, 53] }) {t : Int} (hs : a.eval s = vo) (hx : a.eval x = .slice (some ⟨W.heap.size, 0, none⟩) 1 1) (hl : o.length ≤ 100000)
    (k : ∀ v w2, LS w1 w2 gg gm bA bE v vA vE ks (o ++ [t]) A E → wpList Try.prog ops Q rest (a.put oi.dst v) w2) : wpList Try.prog ops Q (oi :: rest) a (W.alloc (.cells #[.int .i64 t] 3 (0, 0))) :=
  Kd.R_append (Kd.int .i64) (w0 := w1) w1.heap.size hgd s x 53 3 (.int .i64 0) 8 ho Try.underlying53 info3 rfl (by decide) (by omega) vo o t [.int .i64 t] (fun _ => True) (fun _ => False) hs hx rfl (fun _ hk => hk.elim) (fun _ _ => trivial) h.ord h.bel h.bel.size (by omega) (fun v w2 hR hB hg _ => k v w2 (h.pushO hR hB hg))
/-- An edge put behind the row of edges. -/
theorem LS.appE (h : LS w1 W gg gm bA bE vo vA vE ks o A E) (hgd : oi.guard = none) (s x : Operand) (ho : oi.op = .call { callee := .builtin .append, args := #[s, x], argTypes := #[23, 23] }) (e : S92) (hs : a.eval s = vE) (hx : a.eval x = .slice (some ⟨W.heap.size, 0, none⟩) 1 1) (hl : E.length ≤ 8388608)
    (k : ∀ v w2, LS w1 w2 gg gm bA bE vo vA v ks o A (E ++ [e]) → wpList Try.prog ops Q rest (a.put oi.dst v) w2) : wpList Try.prog ops Q (oi :: rest) a (W.alloc (.cells #[.int .i64 e.f0, .int .u8 e.f1, .int .u8 e.f2, .int .i64 e.f3] 92 (0, 0))) :=
  Kd.R_append k92 (w0 := w1) w1.heap.size hgd s x 23 92 (.agg #[(.int .i64 0), (.int .u8 0), (.int .u8 0), (.int .i64 0)]) 24 ho Try.underlying23 info92 rfl (by decide) (by omega) vE E e [.int .i64 e.f0, .int .u8 e.f1, .int .u8 e.f2, .int .i64 e.f3] (fun _ => True) (fun _ => False) hs hx (k92_mkM _ _ _ e) (fun _ hk => hk.elim) (fun _ _ => trivial) h.eds h.bel h.bel.size (by omega) (fun v w2 hR hB hg _ => k v w2 (h.pushE hR hB hg))
end
/-- A number of a row that is only read. -/
theorem int_cell {w : World} {g n : Nat} {l : List Int} (h : Kd.C (Kd.int .i64) w (some ⟨g, 0, none⟩) n l) (hl : l.length = n) {s : Int} (h0 : 0 ≤ s) (h1 : s < (n : Int)) : w.cell? ⟨g, s.toNat, none⟩ = some (.int .i64 (Mach.at_ l s)) := by
  obtain ⟨ad, e, hc⟩ := Kd.at_int h s h0 h1
  cases e
  rw [add_plain] at hc
  rw [hc]
  unfold rd Mach.at_
  rw [List.getD_eq_getElem?_getD, List.getD_eq_getElem?_getD, List.getElem?_eq_getElem (by omega)]; rfl
theorem R_int_lit {w : World} {g base : Nat} {x : Int} (h : w.heap[g]? = some (.cells #[.int .i64 x] 3 (0, 0))) (hb : base ≤ g) : Kd.R (Kd.int .i64) 3 w base (fun _ => True) (.slice (some ⟨g, 0, none⟩) 1 1) [x] :=
  Kd.R_of_own ⟨rfl, .inr ⟨g, 1, _, rfl, hb, h, Nat.le_refl _, by decide, rfl, rfl⟩⟩ (fun _ _ => trivial)
/-- An edge of a row: the numbers of its block. -/
theorem R92_cell {W : World} {base g n cap : Nat} {ok : Nat → Prop} {E : List S92} (h : k92.R 92 W base ok (.slice (some ⟨g, 0, none⟩) n cap) E) {i : Nat} (hi : i < n) : W.cell? ⟨g, i * 4 + 3, none⟩ = some (.int .i64 (E.getD i ⟨0, 0, 0, 0⟩).f3) ∧ W.cell? ⟨g, i * 4 + 2, none⟩ = some (.int .u8 (E.getD i ⟨0, 0, 0, 0⟩).f2) ∧ W.frozen? ⟨g, i * 4 + 2, none⟩ = false := by
  obtain ⟨cs, h1, h2, h3, h4⟩ := Kd.R_elem h (⟨0, 0, 0, 0⟩ : S92) (i : Int) (by omega) (by omega)
  rw [Int.toNat_natCast] at h2 h3 h4
  have hk := k92_openM h2
  subst hk
  exact ⟨h3 3 _ rfl, h3 2 _ rfl, h4 2⟩
theorem R92_put {W : World} {base g n cap : Nat} {ok : Nat → Prop} {E : List S92} (h : k92.R 92 W base ok (.slice (some ⟨g, 0, none⟩) n cap) E) {i : Nat} (hi : i < n) (x : Int) :
    k92.R 92 (W.setCell ⟨g, i * 4 + 2, none⟩ (.int .u8 x)) base ok (.slice (some ⟨g, 0, none⟩) n cap) (E.set i { E.getD i ⟨0, 0, 0, 0⟩ with f2 := x }) ∧ W.grownBy (W.setCell ⟨g, i * 4 + 2, none⟩ (.int .u8 x)) (some g) := by
  obtain ⟨cs, h1, h2, h3, h4⟩ := Kd.R_elem h (⟨0, 0, 0, 0⟩ : S92) (i : Int) (by omega) (by omega)
  rw [Int.toNat_natCast] at h2 h3
  have hk := k92_openM h2
  subst hk
  have := Kd.R_seg h (i : Int) (by omega) (by omega) (c := [.int .i64 (E.getD i ⟨0, 0, 0, 0⟩).f0, .int .u8 (E.getD i ⟨0, 0, 0, 0⟩).f1, .int .u8 (E.getD i ⟨0, 0, 0, 0⟩).f2, .int .i64 (E.getD i ⟨0, 0, 0, 0⟩).f3]) (seg := [Value.int .u8 x]) (j := 2) (okp := fun _ => False) rfl (by rw [Int.toNat_natCast]; exact h3) (by show 2 + 1 ≤ 4; decide) (x' := { E.getD i ⟨0, 0, 0, 0⟩ with f2 := x }) (k92_mkM W base (fun _ => False) { E.getD i ⟨0, 0, 0, 0⟩ with f2 := x }) (fun k hk => hk.elim)
  rw [Int.toNat_natCast] at this
  exact this
theorem LS.setE {w1 W : World} {gg gm ge n cE i : Nat} {bA bE vo vA : Value} {ks : List Value} {o : List Int} {A : List Bool} {E : List S92} (h : LS w1 W gg gm bA bE vo vA (.slice (some ⟨ge, 0, none⟩) n cE) ks o A E) (hi : i < n) (x : Int) :
    LS w1 (W.setCell ⟨ge, i * 4 + 2, none⟩ (.int .u8 x)) gg gm bA bE vo vA (.slice (some ⟨ge, 0, none⟩) n cE) ks o A (E.set i { E.getD i ⟨0, 0, 0, 0⟩ with f2 := x }) := by
  obtain ⟨h1, h2⟩ := R92_put h.eds hi x
  exact h.pushE h1 (pw_below_grown h.bel _ h.bel.size h2 (fun k hk => Kd.R_base h.eds k hk)) h2
theorem nk_plk_snoc (cl : Int → Int) (o : List Int) (ct : Int) : nk (plk cl o) ++ [(Value.int .i64 ct, (o.length : Int))] = nk (plk cl o ++ [Value.int .i64 ct]) := by rw [nk_snoc, plk_len]
end Go.Proofs.Ytfjpnmhbbfiaaaa.P
