/- Two machines at one time: what lies in memory while their machine is made; function values called; the closure that numbers pairs. Each law names its conditions. -/
import Derived.Test.YtfjpnmhbbfiaaaaZGSMlst0
namespace Go.Proofs.Ytfjpnmhbbfiaaaa.P
open Go Go.RowKit Go.Proofs.YtfjpnmhbbfiaaaaW.PrintWords Go.Proofs.YtfjpnmhbbfiaaaaW.PrintLast Go.Proofs.YtfjpnmhbbfiaaaaW.PrintMore Go.Proofs.Ytfjpnmhbbfiaaaa
set_option linter.unusedVariables false
set_option linter.unusedSimpArgs false
theorem info140 : (Try.prog.info? 140).map (fun i => (i.zero, i.size, i.bytes)) = some (some (.agg #[(.int .i64 0), (.int .i64 0)]), 2, 16) := by kernel_rfl
theorem keyed140 : Go.Maps.Keyed Try.prog 140 := Go.Maps.Keyed.of_law (deep_law_laid laid (m := 3) (by omega) (of_decide_eq_true (by kernel_rfl)) (by kernel_rfl) (by rw [Try.underlying140]))
/-- A pair as a value. -/
def pv (p : Int × Int) : Value := .agg #[.int .i64 p.1, .int .i64 p.2]
def prk (o : List (Int × Int)) : List Value := o.map pv
theorem pv_inj {a b : Int × Int} (h : pv a = pv b) : a = b := by
  unfold pv at h
  injection h with h
  have h2 := congrArg Array.toList h
  simp only [List.cons.injEq, Value.int.injEq, true_and, and_true] at h2
  exact Prod.ext h2.1 h2.2
theorem key140 {p : Int × Int} (h1 : -1 ≤ p.1 ∧ p.1 ≤ 140737488355328) (h2 : -1 ≤ p.2 ∧ p.2 ≤ 140737488355328) : ∃ kl, keyOf Try.prog 140 (pv p) = some kl :=
  ⟨_, Keys.key_arr (n := 2) (m := Try.prog.types.size - 1) (xs := [p.1, p.2]) Try.underlying140 Try.underlying3 (by kernel_rfl) (by kernel_rfl) (by kernel_rfl) (by kernel_rfl) rfl (fun x hx => by
    rcases List.mem_cons.1 hx with rfl | hx
    · exact lit64 h1.1 h1.2
    · rw [List.mem_singleton.1 hx]; exact lit64 h2.1 h2.2)⟩
theorem prk_len (o : List (Int × Int)) : (prk o).length = o.length := by simp [prk]
theorem prk_snoc (o : List (Int × Int)) (p : Int × Int) : prk (o ++ [p]) = prk o ++ [pv p] := by simp [prk]
theorem prk_says {o : List (Int × Int)} {p : Int × Int} {c : Int} {r : Bool} (h1 : r = true ↔ ∃ i, (pv p, i) ∈ nk (prk o)) (h2 : ∀ i, (pv p, i) ∈ nk (prk o) → c = i) :
    (r = true → c = (Mach.ix p o : Int) ∧ Mach.ix p o < o.length) ∧ (r = false → Mach.ix p o = o.length ∧ ∀ i, (pv p, i) ∉ nk (prk o)) := by
  have hle := Mach.ix_le p o
  have hin : Mach.ix p o < o.length → (pv p, (Mach.ix p o : Int)) ∈ nk (prk o) := fun hlt => by
    refine nk_mem.2 ⟨_, rfl, ?_⟩
    unfold prk
    rw [List.getElem?_map, Mach.ix_at hlt]; rfl
  constructor
  · intro hr
    have hlt : Mach.ix p o < o.length := by
      by_cases hlt : Mach.ix p o < o.length
      · exact hlt
      · exfalso
        obtain ⟨i, hi⟩ := h1.1 hr
        obtain ⟨n, _, hn⟩ := nk_mem.1 hi
        unfold prk at hn
        rw [List.getElem?_map] at hn
        obtain ⟨s, hs, hs2⟩ := Option.map_eq_some_iff.1 hn
        have := pv_inj hs2
        subst this
        exact Mach.ix_no (by omega) (List.mem_of_getElem? hs)
    exact ⟨h2 _ (hin hlt), hlt⟩
  · intro hr
    have hno : ∀ i, (pv p, i) ∉ nk (prk o) := fun i hi => by
      have := h1.2 ⟨i, hi⟩
      rw [hr] at this; exact absurd this (by decide)
    refine ⟨?_, hno⟩
    by_cases hlt : Mach.ix p o < o.length
    · exact absurd (hin hlt) (hno _)
    · omega
/-- Pairs as elements of a row. -/
def k140 : Kd (Int × Int) := Kd.pair (Kd.int .i64) (Kd.int .i64)
theorem k140_mkM (w : World) (base : Nat) (ok : Nat → Prop) (p : Int × Int) : k140.M w base ok p [.int .i64 p.1, .int .i64 p.2] := ⟨[.int .i64 p.1], [.int .i64 p.2], rfl, rfl, rfl⟩
theorem k140_openM {w : World} {base : Nat} {ok : Nat → Prop} {p : Int × Int} {cs : List Value} (h : k140.M w base ok p cs) : cs = [.int .i64 p.1, .int .i64 p.2] := by
  obtain ⟨_, _, rfl, rfl, rfl⟩ := h
  rfl
theorem R140_cell {W : World} {base g n cap : Nat} {ok : Nat → Prop} {o : List (Int × Int)} (h : k140.R 140 W base ok (.slice (some ⟨g, 0, none⟩) n cap) o) {i : Nat} (hi : i < n) : W.cell? ⟨g, i * 2, none⟩ = some (.int .i64 (o.getD i (0, 0)).1) ∧ W.cell? ⟨g, i * 2 + 1, none⟩ = some (.int .i64 (o.getD i (0, 0)).2) := by
  obtain ⟨cs, h1, h2, h3, h4⟩ := Kd.R_elem h ((0, 0) : Int × Int) (i : Int) (by omega) (by omega)
  rw [Int.toNat_natCast] at h2 h3 h4
  have hk := k140_openM h2
  subst hk
  exact ⟨h3 0 _ rfl, h3 1 _ rfl⟩
/-- At most what lies in S has moved. -/
structure Mv (w w' : World) (S : Nat → Prop) : Prop where
  os : w'.os = w.os
  tape : w'.tape = w.tape
  output : w'.output = w.output
  size : w.heap.size ≤ w'.heap.size
  block : ∀ i, i < w.heap.size → ¬ S i → w'.heap[i]? = w.heap[i]?
theorem Mv.of_grown {w w' : World} {row : Option Nat} (h : w.grownBy w' row) : Mv w w' (fun i => some i = row) := ⟨h.os, h.tape, h.output, h.size, h.block⟩
theorem Mv.of_below {w w' : World} {S : Nat → Prop} (h : Below w.heap.size w w') : Mv w w' S := ⟨h.os, h.tape, h.output, h.size, fun i hi _ => h.block i hi⟩
theorem Mv.trans {w w' w'' : World} {S T : Nat → Prop} (h : Mv w w' S) (k : Mv w' w'' T) (hT : ∀ i, i < w.heap.size → T i → S i) : Mv w w'' S :=
  ⟨k.os.trans h.os, k.tape.trans h.tape, k.output.trans h.output, Nat.le_trans h.size k.size, fun i hi hn => (k.block i (Nat.lt_of_lt_of_le hi h.size) (fun ht => hn (hT i hi ht))).trans (h.block i hi hn)⟩
theorem R_mv {α : Type} {d : Kd α} {e base : Nat} {ok : Nat → Prop} {W W' : World} {v : Value} {xs : List α} {S : Nat → Prop} (h : d.R e W base ok v xs) (hm : Mv W W' S) (hS : ∀ k, ok k → ∀ q, q ∈ e :: d.E → ∀ cells, W.heap[k]? = some (.cells cells q (0, 0)) → ¬ S k) : d.R e W' base ok v xs :=
  Kd.R_mono (Kd.R_move (Kd.R_bound h) (fun k hk => by
    obtain ⟨h1, h2, h3, q, hq, cells, hc⟩ := hk
    exact hm.block k h3 (hS k h1 q hq cells hc))) (fun _ hk => hk.1)
theorem blk_mv {W W' : World} {g : Nat} {ob : Obj} {S : Nat → Prop} (h : W.heap[g]? = some ob) (hm : Mv W W' S) (hS : ¬ S g) : W'.heap[g]? = some ob := (hm.block g (blk_lt h) hS).trans h
section
variable {P : Program}
/-- A call of a function value. -/
theorem goesV_ {ops : Array Oper} {Q : Exit → Act → World → Prop} {oi : Oper} {N : Option Tmp} {a : Act} {w : World} {K : Act → World → Prop} {f : FuncId} {fn : Func} {x : Operand} {zs : Array Operand} {ts : Array TypeId} (caps : Array Value) (hf : P.funcs[f]? = some fn) (hname : (fn.name == "runtime.NumGoroutine") = false) (hb : fn.body.isSome = true) (args0 args : Array Value)
    (hw : Region.wanted oi (yielded ops a.tmps) = true) (hN : oi.dst = N) (hop : oi.op = .call { callee := .value x, args := zs, argTypes := ts }) (hx : a.eval x = .func (.func f) #[] caps) (hargs : zs.map a.eval = args0) (happ : args0 ++ caps = args)
    (h : Calls P f args w fun e w' => ∃ v, e = .returned v ∧ K (a.put N v) w') : if Region.wanted oi (yielded ops a.tmps) = true then Oper.wp P oi a w K Q else K (a.put N undef) w := by
  refine call_ f args hw hN ?_ h
  have he := enters_ hf hname hb args w
  unfold execOp
  simp [hop, resolve, Deferred.ofValue, invoke, hx, hargs, happ, he]
end
/-- What the closure captures: the map of places and the row of pairs, each behind a variable. -/
structure PS (base : Nat) (ok : Nat → Prop) (W : World) (gP gO gm : Nat) (vO : Value) (o : List (Int × Int)) : Prop where
  bP : W.heap[gP]? = some (.cells #[.map (some gm)] 139 (0, 0))
  bO : W.heap[gO]? = some (.cells #[vO] 152 (0, 0))
  map : Kept.Kept Try.prog 140 3 W gm (nk (prk o))
  ord : k140.R 140 W base ok vO o
theorem PS.below {base : Nat} {ok : Nat → Prop} {W W' : World} {gP gO gm : Nat} {vO : Value} {o : List (Int × Int)} (h : PS base ok W gP gO gm vO o) (hb : Below W.heap.size W W') : PS base ok W' gP gO gm vO o :=
  ⟨blk_below h.bP hb, blk_below h.bO hb, h.map.below hb, Kd.R_below h.ord hb⟩
end Go.Proofs.Ytfjpnmhbbfiaaaa.P
