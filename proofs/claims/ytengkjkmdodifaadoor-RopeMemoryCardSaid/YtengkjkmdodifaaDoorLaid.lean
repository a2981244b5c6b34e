/- The laid table: what the condition gives a walk, and a world that meets it. No conditions. -/
import Derived.Test.YtengkjkmdodifaaDoorRows
import Derived.Test.YtengkjkmdodifaaDoorTab
import Derived.ChangeSame
import Derived.ChangeVars
import Derived.JoinedOf
import Derived.OpenShut
import Derived.RowKit
import Derived.LaidLaws
import Derived.LaidHandle
namespace Go.Proofs.YtengkjkmdodifaaDoor.P
open Go.ChangeShapes Go.WideShapes Go.RowKit
set_option linter.unusedVariables false
set_option linter.unusedSimpArgs false
theorem quarters : Tryd.prog.globalNamed "herald/rope.quarterSines" = some 0 := by kernel_rfl
theorem quartersType : (Tryd.prog.globals[0]?).map (·.type) = some 60 := by kernel_rfl
theorem cells60 : Tryd.prog.cellsOf 60 = 65 := by kernel_rfl
theorem cells33 : Tryd.prog.cellsOf 33 = 1 := by kernel_rfl
theorem under60 : Tryd.prog.underlying 60 = some (.array 65 33) := by kernel_rfl
theorem datum_eq : (Rows.laid_herald_rope_quarterSines : DataW Unit) = .agg (tabL.map fun n => .lit (.int .i8 n)) := rfl
theorem tab_of_laid {W : World} (h : laidMetH Tryd.prog [("herald/rope.quarterSines", Rows.laid_herald_rope_quarterSines)] W) : Tab W := by
  have h' : laidMet Tryd.prog [("herald/rope.quarterSines", Rows.laid_herald_rope_quarterSines)] W := h
  obtain ⟨ps, ⟨g, t, cs, fuel, p, q, hg, ht, hvar, hd, _, _⟩, _⟩ := h'
  obtain rfl := Option.some.inj (quarters.symm.trans hg)
  obtain rfl := Option.some.inj (quartersType.symm.trans ht)
  obtain ⟨xs, m, _, hx, hl, hn, hi⟩ := DataW.trod_array under60 hd
  rw [cells60] at hl
  intro i hi65
  have h1 := hi i hi65
  rw [cells33, Nat.mul_one] at h1
  have hix : i < xs.length := by omega
  rw [List.getElem?_eq_getElem hix] at h1
  obtain ⟨n, hc, hx1, _⟩ := DataW.trod_int Tryd.underlying33 h1
  have hd1 : (xs.map (·.1))[i]? = some (.lit (.int .i8 n)) := by
    rw [List.getElem?_map, List.getElem?_eq_getElem hix, hx1]; rfl
  have e : xs.map (·.1) = tabL.map fun n => DataW.lit (.int .i8 n) := by
    have := congrArg Prod.fst hx
    rw [datum_eq] at this
    exact (DataW.agg.inj this).symm
  rw [e, List.getElem?_map] at hd1
  have ht65 : i < tabL.length := hi65
  rw [List.getElem?_eq_getElem ht65] at hd1
  have hv : tabL[i] = n := by
    have := Option.some.inj hd1
    injection this with this
    injection this
  have hcell := World.var?_cell hg hvar i
  rw [List.getD_eq_getElem?_getD, List.getElem?_eq_getElem ht65, Option.getD_some, hv]
  have hcs : cs.toList[i]? = some (.int .i8 n) := by
    have h2 : (cs.toList.drop i)[0]? = some (.int .i8 n) := by
      have h3 : ((cs.toList.drop i).take 1)[0]? = some (.int .i8 n) := by rw [hc]; rfl
      rwa [List.getElem?_take_of_lt (by omega)] at h3
    rwa [List.getElem?_drop, Nat.add_zero] at h2
  first
    | (rw [hcell]; simpa using hcs)
    | (simpa [hcs] using hcell)
def cells65 : Array Value := (tabL.map (Value.int .i8)).toArray
/-- A world that meets the condition: the settled one, the table laid. -/
noncomputable def laidWorld (os : Os) : World :=
  let w0 := World.holding Tryd.prog os ⟨#[], #[], []⟩
  { w0 with heap := w0.heap.modify 0 fun
      | .cells _ t frozen => .cells cells65 t frozen
      | o => o }
set_option maxRecDepth 100000 in
theorem laidWorld_met (os : Os) (args : Array Value) : laidMetH Tryd.prog [("herald/rope.quarterSines", Rows.laid_herald_rope_quarterSines)] ((laidWorld os).forCall (fun _ _ => 0) ⟨#[], args, []⟩).memory :=
  laidMet_of_run' 4 (by kernel_rfl) (by kernel_rfl)
end Go.Proofs.YtengkjkmdodifaaDoor.P
