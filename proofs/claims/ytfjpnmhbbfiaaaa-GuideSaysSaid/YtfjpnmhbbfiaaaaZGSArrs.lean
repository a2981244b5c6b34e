/- A machine in memory: rows of 256 numbers each and which states accept, behind a pointer; contracts of 'to' and 'takes'. On condition that the rows are in place. -/
import Derived.Test.YtfjpnmhbbfiaaaaZGSMachFns
import Derived.Test.YtfjpnmhbbfiaaaaZGSWRepsOne
import Derived.Maps.OwnSet
import Derived.Laws.Rows
import Derived.Laws.Tables
import Derived.OwnWalk
import Derived.Below
namespace Go.Proofs.Ytfjpnmhbbfiaaaa.P
open Go Go.RowKit Go.Proofs.YtfjpnmhbbfiaaaaW.PrintWords Go.Proofs.YtfjpnmhbbfiaaaaW.PrintLast Go.Proofs.YtfjpnmhbbfiaaaaW.PrintMore Go.Proofs.Ytfjpnmhbbfiaaaa
set_option linter.unusedVariables false
set_option linter.unusedSimpArgs false
theorem info129 : (Try.prog.info? 129).map (fun i => (i.zero, i.size, i.bytes)) = some (some (.agg (Array.replicate 256 (.int .i64 0))), 256, 2048) := by kernel_rfl
def k129 : Kd (List Int) := Kd.arr 256 (Kd.int .i64) (by decide)
theorem k129_sz : k129.sz = 256 := rfl
theorem wup {a : Nat} (h : a ≤ 140737488351232) : wrap64 ((a : Int) + 1) = (a : Int) + 1 := by
  unfold wrap64; omega
theorem wlt {a N : Nat} (h : a < N) (hN : N ≤ 8192 := by omega) : wrap64 ((a : Int) + 1) = (a : Int) + 1 := wup (by omega)
theorem mdec {a N : Nat} (h : a < N) (hN : N ≤ 8192 := by omega) : N - (wrap64 ((a : Int) + 1)).toNat < N - ((a : Int)).toNat := by rw [wlt h hN]; omega
theorem mdec' {a N : Nat} (h : a < N) : N - ((a : Int) + 1).toNat < N - ((a : Int)).toNat := by omega
/-- Block g is a machine. -/
def Mac (w : World) (g : Nat) (R : List (List Int)) (A : List Bool) : Prop :=
  ∃ An cn Aa ca, w.heap[g]? = some (.cells #[.int .i64 0, .slice An R.length cn, .slice Aa A.length ca] 118 (0, 0)) ∧ k129.C w An R.length R ∧ R.length ≤ cn ∧ Kd.bool.C w Aa A.length A ∧ A.length ≤ ca
theorem Mac.below {w w1 : World} {g : Nat} {R : List (List Int)} {A : List Bool} (h : Mac w g R A) (hb : Below w.heap.size w w1) : Mac w1 g R A := by
  obtain ⟨An, cn, Aa, ca, h1, h2, h3, h4, h5⟩ := h
  exact ⟨An, cn, Aa, ca, blk_below h1 hb, Kd.C_below h2 hb, h3, Kd.C_below h4 hb, h5⟩
theorem k129_cells {w : World} {r : List Int} {c : List Value} (h : k129.K w r c) : r.length = 256 ∧ c = encs (Value.int .i64) r := Kd.arr_cells h
theorem add_two (a : Addr) (m n : Nat) : (a.add m).add n = a.add (m + n) := by
  unfold Addr.add
  by_cases h1 : m = 0 <;> by_cases h2 : n = 0 <;> simp [h1, h2, Nat.add_assoc]
/-- A number of a row. -/
theorem k129_cell {w : World} {An : Option Addr} {n : Nat} {R : List (List Int)} (h : k129.C w An n R) {s x : Int} (h0 : 0 ≤ s) (h1 : s < (n : Int)) (hx : Mach.Byte x) :
    ∃ ad, An = some ad ∧ w.cell? ((ad.add (s.toNat * 256)).add x.toNat) = some (.int .i64 (Mach.dR R s x)) := by
  obtain ⟨ad, c, rfl, hc, hK, hcell⟩ := Kd.C_get h ([] : List Int) s h0 h1
  obtain ⟨hl, rfl⟩ := k129_cells hK
  refine ⟨ad, rfl, ?_⟩
  have hx0 := hx.1
  have hx1 := hx.2
  have e := hcell x.toNat (.int .i64 (Mach.dR R s x)) (by
    rw [encs_get (d := (-1 : Int)) _ _ (by omega)]
    unfold Mach.dR Mach.at_
    rw [if_neg (by omega)])
  rw [k129_sz] at e
  rw [add_two]
  exact e
/-- 'to': where a byte leads. -/
theorem to_calls (w : World) {g : Nat} {R : List (List Int)} {A : List Bool} (hM : Mac w g R A) (s x : Int) (hs : Mach.St R.length s) (hx : Mach.Byte x) :
    Calls Try.prog 68 #[.pointer (some ⟨g, 0, none⟩), .int .i64 s, .int .i64 x] w fun e w' => e = .returned (.int .i64 (Mach.dR R s x)) ∧ w' = w := by
  obtain ⟨An, cn, Aa, ca, hb, hC, hcn, hCA, hca⟩ := hM
  have hu118 := Try.underlying118
  have hu129 := Try.underlying129
  by_cases c : s = -1
  · subst c
    go_enter Try.func68, Try.ntmps68
    go_wp2
    go_ret
    exact ⟨rfl, rfl⟩
  · have b0 : (s == -1) = false := beq_eq_false_iff_ne.mpr c
    have hin : Mach.In R.length s := by rcases hs with e | e; exact absurd e c; exact e
    obtain ⟨ad, rfl, hcell⟩ := k129_cell hC hin.1 hin.2 hx
    have h1 : w.cell? ⟨g, 1, none⟩ = some (.slice (some ad) R.length cn) := (yw hb 1).trans rfl
    have f1 := yv hb 1
    have p0 := eq_true hin.1
    have p1 := eq_true hin.2
    have q0 := eq_true hx.1
    have q1 : (x < 256) = True := eq_true (by have := hx.2; omega)
    clear hb hC hCA
    go_enter Try.func68, Try.ntmps68
    go_wp2
    go_ret
    exact ⟨rfl, rfl⟩
/-- A flag of a row of flags. -/
theorem flag_cell {w : World} {Aa : Option Addr} {n : Nat} {A : List Bool} (h : Kd.bool.C w Aa n A) {s : Int} (h0 : 0 ≤ s) (h1 : s < (n : Int)) :
    ∃ ad, Aa = some ad ∧ w.cell? (ad.add s.toNat) = some (.bool (Mach.la A s)) := by
  obtain ⟨ad, rfl, hcell⟩ := Kd.at_bool h s h0 h1
  exact ⟨ad, rfl, hcell⟩
/-- 'takes': whether a state accepts. -/
theorem takes_calls (w : World) {g : Nat} {R : List (List Int)} {A : List Bool} (hM : Mac w g R A) (hA : A.length = R.length) (s : Int) (hs : Mach.St R.length s) :
    Calls Try.prog 67 #[.pointer (some ⟨g, 0, none⟩), .int .i64 s] w fun e w' => e = .returned (.bool (Mach.aR A s)) ∧ w' = w := by
  obtain ⟨An, cn, Aa, ca, hb, hC, hcn, hCA, hca⟩ := hM
  have hu118 := Try.underlying118
  by_cases c : s = -1
  · subst c
    go_enter Try.func67, Try.ntmps67
    go_wp2
    go_ret
    exact ⟨rfl, rfl⟩
  · have b1 : (s != -1) = true := bne_iff_ne.mpr c
    have hin : Mach.In R.length s := by rcases hs with e | e; exact absurd e c; exact e
    have hlt : s < (A.length : Int) := by have := hin.2; omega
    obtain ⟨ad, rfl, hcell⟩ := flag_cell hCA hin.1 hlt
    have h1 : w.cell? ⟨g, 2, none⟩ = some (.slice (some ad) A.length ca) := (yw hb 2).trans rfl
    have f1 := yv hb 2
    have p0 := eq_true hin.1
    have p1 := eq_true hlt
    have e1 : Mach.aR A s = Mach.la A s := if_neg c
    rw [e1]
    clear hb hC hCA
    go_enter Try.func67, Try.ntmps67
    go_wp2
    go_ret
    exact ⟨rfl, rfl⟩
end Go.Proofs.Ytfjpnmhbbfiaaaa.P
/- Rows of a block and arrays as values: read whole, stored whole, read at a place. Each law names its conditions. -/
namespace Go.Proofs.Ytfjpnmhbbfiaaaa.Arr
open Go Go.RowKit
set_option linter.unusedVariables false
variable {P : Program}
theorem run_loadVar_at (w : World) (adr : Addr) (ty : TypeId) (cs : List Value) (d : TypeDesc) (hc : ∀ j v, cs[j]? = some v → w.cell? (adr.add j) = some v)
    (hu : P.underlying ty = some d) (hd : (match d with | .struct _ | .array _ _ => true | _ => false) = true) (hi : (P.info? ty).map (·.size) = some cs.length) :
    (loadVar ty adr).run P w = .ok (.agg cs.toArray) w := by
  have hl : (loadCells adr cs.length).run P w = .ok cs.toArray w := run_loadCells_list (P := P) w adr cs hc
  cases hq : P.info? ty with
  | none => simp [hq] at hi
  | some i =>
    have hs : i.size = cs.length := by simpa [hq] using hi
    have hagg : (isAgg ty).run P w = .ok true w := by
      unfold isAgg
      rw [Sem.run_bind, run_underlying hu w]
      cases d <;> simp_all
    simp [loadVar, Sem.run_bind, hagg, Go.sizeOf, typeInfo, hq, hs, hl]
theorem wpList_load_at {ops : Array Oper} {rest : List Oper} {o : Oper} {a : Act} {w : World} {Q : Exit → Act → World → Prop} (hgd : o.guard = none) (ty : TypeId) (x : Operand) (ho : o.op = .load ty x)
    (adr : Addr) (hx : a.eval x = .pointer (some adr)) (cs : List Value) (d : TypeDesc) (hc : ∀ j v, cs[j]? = some v → w.cell? (adr.add j) = some v)
    (hu : P.underlying ty = some d) (hd : (match d with | .struct _ | .array _ _ => true | _ => false) = true) (hi : (P.info? ty).map (·.size) = some cs.length)
    (h : wpList P ops Q rest (a.put o.dst (.agg cs.toArray)) w) : wpList P ops Q (o :: rest) a w :=
  wpList_plain hgd fun K hK => by
    unfold Oper.wp execOp
    simp only [ho, hx, Instr.loadAt, Instr.sureAddr, Sem.run_bind, Sem.run_pure, Result.andThen_ok, run_loadVar_at w adr ty cs d hc hu hd hi]
    exact hK _ _ h
theorem wpList_store_row {ops : Array Oper} {rest : List Oper} {o : Oper} {a : Act} {w : World} {Q : Exit → Act → World → Prop} (hgd : o.guard = none) (ty : TypeId) (x y : Operand) (ho : o.op = .store ty x y)
    (g : Nat) (cells : Array Value) (hx : a.eval x = .pointer (some ⟨g, 0, none⟩)) (hy : a.eval y = .agg cells)
    (t : TypeId) (old : Array Value) (hg : w.heap[g]? = some (.cells old t (0, 0))) (hi : (P.info? ty).map (·.size) = some cells.size)
    (hold : old.size = cells.size) (h1 : cells.all (·.oneCell') = true)
    (h : wpList P ops Q rest (a.put o.dst undef) (w.setRow g cells)) : wpList P ops Q (o :: rest) a w :=
  wpList_plain hgd fun _ hK => wp_store_row ty x y ho g cells hx hy t old hg hi hold h1 (hK _ _ h)
theorem run_index_agg (t e : TypeId) (n : Nat) (cs : Array Value) (k : IntKind) (i : Int) (w : World) (h : P.underlying t = some (.array n e)) {d : TypeDesc} (he : P.underlying e = some d) (hd : (match d with | .struct _ | .array _ _ => false | _ => true) = true) (hi : (P.info? e).map (·.size) = some 1) (h0 : 0 ≤ i) (h1 : i < (n : Int)) (v : Value) (hv : cs[i.toNat]? = some v) :
    (Instr.index t (.agg cs) (.int k i)).run P w = .ok v w := by
  cases hq : P.info? e with
  | none => simp [hq] at hi
  | some x =>
    have hs : x.size = 1 := by simpa [hq] using hi
    have hagg : (isAgg e).run P w = .ok false w := by
      unfold isAgg
      rw [Sem.run_bind, run_underlying he w]
      cases d <;> simp_all
    simp [Instr.index, run_underlying h, asIntOf, h0, h1, part, hagg, Go.sizeOf, typeInfo, hq, hs, hv]
end Go.Proofs.Ytfjpnmhbbfiaaaa.Arr
