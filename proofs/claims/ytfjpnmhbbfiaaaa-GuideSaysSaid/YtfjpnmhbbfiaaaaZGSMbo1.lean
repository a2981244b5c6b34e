/- Two machines at one time: how each step of making their machine turns what lies in memory. Each law names its conditions. -/
import Derived.Test.YtfjpnmhbbfiaaaaZGSMpl
import Derived.Great.BuildSlice
namespace Go.Proofs.Ytfjpnmhbbfiaaaa.P
open Go Go.RowKit Go.Proofs.YtfjpnmhbbfiaaaaW.PrintWords Go.Proofs.YtfjpnmhbbfiaaaaW.PrintLast Go.Proofs.YtfjpnmhbbfiaaaaW.PrintMore Go.Proofs.Ytfjpnmhbbfiaaaa
set_option linter.unusedVariables false
set_option linter.unusedSimpArgs false
theorem below_mv {B : Nat} {w W W' : World} {S : Nat → Prop} (h : Below B w W) (hm : Mv W W' S) (hS : ∀ i, i < B → ¬ S i) (hB : B ≤ W.heap.size) : Below B w W' :=
  ⟨hm.os.trans h.os, hm.tape.trans h.tape, hm.output.trans h.output, Nat.le_trans h.size hm.size, fun i hi => (hm.block i (Nat.lt_of_lt_of_le hi hB) (hS i hi)).trans (h.block i hi)⟩
/-- The machine's box, its rows and flags, and what the closure captures. -/
structure BS (w W : World) (gM gP gO gm : Nat) (okO okN : Nat → Prop) (bN bA vO vN vA : Value) (o : List (Int × Int)) (R : List (List Int)) (A : List Bool) : Prop where
  ps : PS w.heap.size okO W gP gO gm vO o
  bM : W.heap[gM]? = some (.cells #[.int .i64 0, bN, bA] 118 (0, 0))
  nxt : k129.R 129 W w.heap.size okN vN R
  acc : Kd.R Kd.bool 4 W w.heap.size (fun _ => True) vA A
  bel : Below w.heap.size w W
  hM : w.heap.size ≤ gM
  hP : w.heap.size ≤ gP
  hO : w.heap.size ≤ gO
  hm : w.heap.size ≤ gm
section
variable {w W W' : World} {gM gP gO gm : Nat} {okO okN okO' okN' : Nat → Prop} {bN bA vO vN vA : Value} {o : List (Int × Int)} {R : List (List Int)} {A : List Bool}
theorem BS.mono (h : BS w W gM gP gO gm okO okN bN bA vO vN vA o R A) (h1 : ∀ k, okO k → okO' k) (h2 : ∀ k, okN k → okN' k) : BS w W gM gP gO gm okO' okN' bN bA vO vN vA o R A :=
  ⟨⟨h.ps.bP, h.ps.bO, h.ps.map, Kd.R_mono h.ps.ord h1⟩, h.bM, Kd.R_mono h.nxt h2, h.acc, h.bel, h.hM, h.hP, h.hO, h.hm⟩
theorem BS.below (h : BS w W gM gP gO gm okO okN bN bA vO vN vA o R A) (hb : Below W.heap.size W W') : BS w W' gM gP gO gm okO okN bN bA vO vN vA o R A :=
  ⟨h.ps.below hb, blk_below h.bM hb, Kd.R_below h.nxt hb, Kd.R_below h.acc hb, below_then h.bel h.bel.size hb, h.hM, h.hP, h.hO, h.hm⟩
theorem BS.drew (h : BS w W gM gP gO gm okO okN bN bA vO vN vA o R A) : BS w W.drew gM gP gO gm okO okN bN bA vO vN vA o R A := h.below (below_drew (Below.refl _ _))
/-- A store into a block of another's. -/
theorem BS.far140 {g : Nat} {cs : Array Value} (h : BS w W gM gP gO gm okO okN bN bA vO vN vA o R A) (hc : W.heap[g]? = some (.cells cs 140 (0, 0))) (hg : W.grownBy W' (some g)) (h1 : ∀ k, okO k → k ≠ g) (hw : w.heap.size ≤ g) : BS w W' gM gP gO gm okO okN bN bA vO vN vA o R A :=
  have hT := rowt_blk hc
  ⟨⟨blk_row h.ps.bP hg hT (by decide), blk_row h.ps.bO hg hT (by decide), kept_row h.ps.map hg hT (by decide), Kd.R_grown h.ps.ord hg (fun k hk e => h1 k hk (Option.some.inj e))⟩, blk_row h.bM hg hT (by decide), R_row h.nxt hg hT (by decide), R_row h.acc hg hT (by decide), pw_below_grown h.bel _ h.bel.size hg (fun k hk => by cases hk; exact hw), h.hM, h.hP, h.hO, h.hm⟩
theorem BS.far129 {g : Nat} {cs : Array Value} (h : BS w W gM gP gO gm okO okN bN bA vO vN vA o R A) (hc : W.heap[g]? = some (.cells cs 129 (0, 0))) (hg : W.grownBy W' (some g)) (h1 : ∀ k, okN k → k ≠ g) (hw : w.heap.size ≤ g) : BS w W' gM gP gO gm okO okN bN bA vO vN vA o R A :=
  have hT := rowt_blk hc
  ⟨⟨blk_row h.ps.bP hg hT (by decide), blk_row h.ps.bO hg hT (by decide), kept_row h.ps.map hg hT (by decide), R_row h.ps.ord hg hT (by decide)⟩, blk_row h.bM hg hT (by decide), Kd.R_grown h.nxt hg (fun k hk e => h1 k hk (Option.some.inj e)), R_row h.acc hg hT (by decide), pw_below_grown h.bel _ h.bel.size hg (fun k hk => by cases hk; exact hw), h.hM, h.hP, h.hO, h.hm⟩
theorem BS.elderO (h : BS w W gM gP gO gm (fun _ => True) okN bN bA vO vN vA o R A) {g : Nat} (hg : g = W.heap.size) : BS w W gM gP gO gm (fun k => k ≠ g) okN bN bA vO vN vA o R A :=
  ⟨⟨h.ps.bP, h.ps.bO, h.ps.map, Kd.R_mono (Kd.R_elderB h.ps.ord g (by omega)) (fun _ hk => hk.2)⟩, h.bM, h.nxt, h.acc, h.bel, h.hM, h.hP, h.hO, h.hm⟩
theorem BS.elderN (h : BS w W gM gP gO gm okO (fun _ => True) bN bA vO vN vA o R A) {g : Nat} (hg : g = W.heap.size) : BS w W gM gP gO gm okO (fun k => k ≠ g) bN bA vO vN vA o R A :=
  ⟨h.ps, h.bM, Kd.R_mono (Kd.R_elderB h.nxt g (by omega)) (fun _ hk => hk.2), h.acc, h.bel, h.hM, h.hP, h.hO, h.hm⟩
theorem BS.boxN (h : BS w W gM gP gO gm okO okN bN bA vO vN vA o R A) (v : Value) : BS w (W.setCell ⟨gM, 1, none⟩ v) gM gP gO gm okO okN v bA vO vN vA o R A :=
  have hg := grown_set W gM 1 v
  have hT := rowt_blk h.bM
  ⟨⟨blk_row h.ps.bP hg hT (by decide), blk_row h.ps.bO hg hT (by decide), kept_row h.ps.map hg hT (by decide), R_row h.ps.ord hg hT (by decide)⟩, blk_set h.bM 1 v, R_row h.nxt hg hT (by decide), R_row h.acc hg hT (by decide), pw_below_grown h.bel _ h.bel.size hg (fun k hk => by cases hk; exact h.hM), h.hM, h.hP, h.hO, h.hm⟩
theorem BS.boxA (h : BS w W gM gP gO gm okO okN bN bA vO vN vA o R A) (v : Value) : BS w (W.setCell ⟨gM, 2, none⟩ v) gM gP gO gm okO okN bN v vO vN vA o R A :=
  have hg := grown_set W gM 2 v
  have hT := rowt_blk h.bM
  ⟨⟨blk_row h.ps.bP hg hT (by decide), blk_row h.ps.bO hg hT (by decide), kept_row h.ps.map hg hT (by decide), R_row h.ps.ord hg hT (by decide)⟩, blk_set h.bM 2 v, R_row h.nxt hg hT (by decide), R_row h.acc hg hT (by decide), pw_below_grown h.bel _ h.bel.size hg (fun k hk => by cases hk; exact h.hM), h.hM, h.hP, h.hO, h.hm⟩
theorem BS.pushA {v : Value} {A' : List Bool} (h : BS w W gM gP gO gm okO okN bN bA vO vN vA o R A) (hR : Kd.R Kd.bool 4 W' w.heap.size (fun _ => True) v A') (hB : Below w.heap.size w W') (hg : W.grownBy W' vA.ownBlock) : BS w W' gM gP gO gm okO okN bN bA vO vN v o R A' :=
  have hT := rowt_R h.acc
  ⟨⟨blk_row h.ps.bP hg hT (by decide), blk_row h.ps.bO hg hT (by decide), kept_row h.ps.map hg hT (by decide), R_row h.ps.ord hg hT (by decide)⟩, blk_row h.bM hg hT (by decide), R_row h.nxt hg hT (by decide), hR, hB, h.hM, h.hP, h.hO, h.hm⟩
theorem BS.pushN {v : Value} {R' : List (List Int)} (h : BS w W gM gP gO gm okO okN bN bA vO vN vA o R A) (hR : k129.R 129 W' w.heap.size okN v R') (hB : Below w.heap.size w W') (hg : W.grownBy W' vN.ownBlock) : BS w W' gM gP gO gm okO okN bN bA vO v vA o R' A :=
  have hT := rowt_R h.nxt
  ⟨⟨blk_row h.ps.bP hg hT (by decide), blk_row h.ps.bO hg hT (by decide), kept_row h.ps.map hg hT (by decide), R_row h.ps.ord hg hT (by decide)⟩, blk_row h.bM hg hT (by decide), hR, R_row h.acc hg hT (by decide), hB, h.hM, h.hP, h.hO, h.hm⟩
/-- None of what the closure turns is of another type. -/
theorem PS.none {base : Nat} {ok : Nat → Prop} (h : PS base ok W gP gO gm vO o) {k q : Nat} {cells : Array Value} (hc : W.heap[k]? = some (.cells cells q (0, 0))) (h1 : q ≠ 152) (h2 : q ≠ 140) : ¬ (k = gm ∨ k = gO ∨ some k = vO.ownBlock) := by
  rintro (rfl | rfl | e)
  · obtain ⟨ob, h3, h4⟩ := kept_map h.map
    rw [hc] at h3
    cases h3
    cases h4
  · have h3 := h.bO
    rw [hc] at h3
    injection h3 with h3
    injection h3 with _ h3
    exact h1 h3
  · exact Kd.R_ne h.ord hc (Ne.symm h2) e
theorem BS.place {v : Value} {o' : List (Int × Int)} (h : BS w W gM gP gO gm okO okN bN bA vO vN vA o R A) (hp : PS w.heap.size okO W' gP gO gm v o') (hm : Mv W W' (fun i => i = gm ∨ i = gO ∨ some i = vO.ownBlock)) : BS w W' gM gP gO gm okO okN bN bA v vN vA o' R A :=
  ⟨hp, blk_mv h.bM hm (h.ps.none h.bM (by decide) (by decide)), R_mv h.nxt hm (fun k hk q hq cells hc => h.ps.none hc (by
      have : ∀ q, q ∈ 129 :: k129.E → q ≠ 152 := by decide
      exact this q hq) (by
      have : ∀ q, q ∈ 129 :: k129.E → q ≠ 140 := by decide
      exact this q hq)), R_mv h.acc hm (fun k hk q hq cells hc => h.ps.none hc (by
      have : ∀ q, q ∈ 4 :: (Kd.bool).E → q ≠ 152 := by decide
      exact this q hq) (by
      have : ∀ q, q ∈ 4 :: (Kd.bool).E → q ≠ 140 := by decide
      exact this q hq)), below_mv h.bel hm (fun i hi => by
      rintro (rfl | rfl | e)
      · exact absurd h.hm (by omega)
      · exact absurd h.hO (by omega)
      · exact absurd (Kd.R_base h.ps.ord i e.symm) (by omega)) h.bel.size, h.hM, h.hP, h.hO, h.hm⟩
end
theorem encs_set (r : List Int) (x : Nat) (v : Int) : (encs (Value.int .i64) r).toArray.setIfInBounds x (.int .i64 v) = (encs (Value.int .i64) (r.set x v)).toArray := by
  unfold encs
  rw [List.setIfInBounds_toArray, List.map_set]
theorem zeros_cells : Try.zeroCells129 = (encs (Value.int .i64) Mach.zeros).toArray := by kernel_rfl
theorem fold_get : ∀ (l : List Value) (k : Nat) (z : Array Value) (i : Nat), ((l.zipIdx k).foldl (fun (a : Array Value) (p : Value × Nat) => a.setIfInBounds (0 + p.2) p.1) z)[i]? = if k ≤ i ∧ i < k + l.length ∧ i < z.size then l[i - k]? else z[i]?
  | [], k, z, i => by rw [if_neg (by simp; omega)]; rfl
  | v :: l, k, z, i => by
    rw [List.zipIdx_cons, List.foldl_cons, fold_get l (k + 1)]
    simp only [Nat.zero_add, Array.size_setIfInBounds, List.length_cons]
    by_cases h1 : i = k
    · subst h1
      rw [if_neg (by omega)]
      by_cases h2 : i < z.size
      · rw [if_pos (by omega), Nat.sub_self, Array.getElem?_setIfInBounds_self_of_lt h2]; rfl
      · rw [if_neg (by omega), Array.getElem?_eq_none (by simp; omega), Array.getElem?_eq_none (by omega)]
    · rw [Array.getElem?_setIfInBounds_ne (Ne.symm h1)]
      by_cases h2 : k + 1 ≤ i ∧ i < k + 1 + l.length ∧ i < z.size
      · rw [if_pos h2, if_pos (by omega)]
        obtain ⟨d, hd⟩ : ∃ d, i - k = d + 1 := ⟨i - k - 1, by omega⟩
        rw [hd, List.getElem?_cons_succ, show i - (k + 1) = d by omega]
      · rw [if_neg h2, if_neg (by omega)]
theorem fold_all (cs z : Array Value) (h : z.size = cs.size) : cs.zipIdx.foldl (fun (a : Array Value) (p : Value × Nat) => a.setIfInBounds (0 + p.2) p.1) z = cs := by
  rw [← Array.foldl_toList, Array.toList_zipIdx]
  apply Array.ext_getElem?
  intro i
  rw [fold_get]
  by_cases hi : i < cs.size
  · rw [if_pos (by simp; omega), Nat.sub_zero, Array.getElem?_toList]
  · rw [if_neg (by simp; omega), Array.getElem?_eq_none (by omega), Array.getElem?_eq_none (by omega)]
/-- '[]T{x}', x a whole array. -/
theorem exec_buildSlice_one {P : Program} {a : Act} {oi : Oper} {w : World} (t e : TypeId) (x : Operand) (ho : oi.op = .buildSlice t 1 #[(0, x)]) (cs : Array Value) (hx : a.eval x = .agg cs) (ie : TypeInfo) (z : Value) (hu : P.underlying t = some (.slice e)) (hie : P.info? e = some ie) (hz : ie.zero = some z) (hs : cs.size = ie.size) (h0 : 0 < ie.size) (h1 : ie.size ≤ 65536) :
    (execOp a.eval oi).run P w = .ok (.value (.slice (some ⟨w.heap.size, 0, none⟩) 1 1)) (w.alloc (.cells cs e (0, 0))) := by
  have hf : Instr.fill (fun i => some (i * ie.size, ie.size)) ((Array.range (1 * ie.size)).map (z.cells[· % z.cells.size]!)) (#[(0, x)].map fun (i, x) => (i, a.eval x)).toList = some cs := by
    have e1 : (#[((0 : Nat), x)].map fun (i, x) => (i, a.eval x)).toList = [(0, Value.agg cs)] := by simp [hx]
    rw [e1]
    simp only [Instr.fill, Nat.zero_mul]
    rw [if_neg (by simp [Value.cells, hs])]
    have h3 := fold_all cs ((Array.range (1 * ie.size)).map (z.cells[· % z.cells.size]!)) (by simp [hs])
    simp only [Value.cells]
    exact congrArg some h3
  unfold execOp
  simp only [ho, Sem.run_bind, run_buildSlice w t e 1 _ cs ie z hu hie hz (by omega) (by omega) hf, Result.andThen_ok]
  rfl
theorem build129 {a : Act} {oi : Oper} {w : World} (x : Operand) (ho : oi.op = .buildSlice 116 1 #[(0, x)]) (cs : Array Value) (hx : a.eval x = .agg cs) (hs : cs.size = 256) : (execOp a.eval oi).run Try.prog w = .ok (.value (.slice (some ⟨w.heap.size, 0, none⟩) 1 1)) (w.alloc (.cells cs 129 (0, 0))) := by
  obtain ⟨ie, hie, he⟩ := Option.map_eq_some_iff.1 info129
  simp only [Prod.mk.injEq] at he
  exact exec_buildSlice_one 116 129 x ho cs hx ie _ Try.underlying116 hie he.1 (by rw [hs, he.2.1]) (by omega) (by omega)
theorem exec_load_row {P : Program} {a : Act} {oi : Oper} {w : World} (ty : TypeId) (x : Operand) (ho : oi.op = .load ty x) (g : Nat) (hx : a.eval x = .pointer (some ⟨g, 0, none⟩)) (t : TypeId) (cs : Array Value) (fr : Nat × Nat) (d : TypeDesc) (hg : w.heap[g]? = some (.cells cs t fr))
    (hu : P.underlying ty = some d) (hd : (match d with | .struct _ | .array _ _ => true | _ => false) = true) (hi : (P.info? ty).map (·.size) = some cs.size) : (execOp a.eval oi).run P w = .ok (.value (.agg cs)) w := by
  unfold execOp
  simp only [ho, hx, Instr.loadAt, Instr.sureAddr, Sem.run_bind, Sem.run_pure, Result.andThen_ok, run_loadVar_row w g t ty cs fr d hg hu hd hi]
end Go.Proofs.Ytfjpnmhbbfiaaaa.P
