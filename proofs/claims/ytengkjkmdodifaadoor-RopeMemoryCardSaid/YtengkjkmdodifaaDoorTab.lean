/- The table of sines as it is laid, what a call that makes memory leaves of it, and a call through a value that holds a function. No conditions. -/
import Derived.Test.YtengkjkmdodifaaDoorProg
import Derived.Test.YtengkjkmdodifaaDoorWWords
import Derived.Test.YtengkjkmdodifaaDoorWLast
import Derived.Test.YtengkjkmdodifaaDoorWMore
import Derived.Below
namespace Go.Proofs.YtengkjkmdodifaaDoor.P
open Go.RowKit Go.Proofs.YtengkjkmdodifaaDoorW.PrintWords Go.Proofs.YtengkjkmdodifaaDoorW.PrintLast Go.Proofs.YtengkjkmdodifaaDoorW.PrintMore
set_option linter.unusedVariables false
set_option linter.unusedSimpArgs false
def tabL : List Int := [0, 2, 3, 5, 6, 8, 9, 11, 12, 14, 16, 17, 19, 20, 22, 23, 24, 26, 27, 29, 30, 32, 33, 34, 36, 37, 38, 39, 41, 42, 43, 44, 45, 46, 47, 48, 49, 50, 51, 52, 53, 54, 55, 56, 56, 57, 58, 59, 59, 60, 60, 61, 61, 62, 62, 62, 63, 63, 63, 64, 64, 64, 64, 64, 64]
def Tab (w : World) : Prop := ∀ i : Nat, i < 65 → w.cell? ⟨0, i, none⟩ = some (.int .i8 (tabL.getD i 0))
theorem tab_of {w W : World} (h : Tab w) (hb : Below w.heap.size w W) : Tab W := by
  intro i hi
  have h0 : 0 < w.heap.size := by
    have := h 0 (by omega)
    by_cases c : 0 < w.heap.size
    · exact c
    · have e : w.heap[0]? = none := Array.getElem?_eq_none (by omega)
      simp [World.cell?, e] at this
  rw [hb.cell (p := ⟨0, i, none⟩) h0]
  exact h i hi
section
variable {P : Program} {ops : Array Oper} {Q : Exit → Act → World → Prop}
theorem goes_v {oi : Oper} {N : Option Tmp} {a : Act} {w : World} {K : Act → World → Prop} {f : FuncId} {fn : Func} {c : Operand} {xs_ : Array Operand} {ts : Array TypeId} (hf : P.funcs[f]? = some fn) (hname : (fn.name == "runtime.NumGoroutine") = false) (hb : fn.body.isSome = true) (args : Array Value)
    (hw : Region.wanted oi (yielded ops a.tmps) = true) (hN : oi.dst = N) (hop : oi.op = .call { callee := .value c, args := xs_, argTypes := ts }) (hc : a.eval c = .func (.func f) #[] #[]) (hargs : xs_.map a.eval = args)
    (h : Calls P f args w fun e w' => ∃ v, e = .returned v ∧ K (a.put N v) w') : if Region.wanted oi (yielded ops a.tmps) = true then Oper.wp P oi a w K Q else K (a.put N undef) w := by
  refine call_ f args hw hN ?_ h
  have he := enters_ hf hname hb args w
  unfold execOp

  simp [hop, resolve, Deferred.ofValue, invoke, hargs, hc, he]
end
end Go.Proofs.YtengkjkmdodifaaDoor.P
