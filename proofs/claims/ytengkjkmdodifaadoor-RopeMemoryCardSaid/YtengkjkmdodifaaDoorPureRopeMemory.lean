/- Tables that came out are the caller's own: marked and grown they leave other tables as they were, and a table asked for again is whole. No condition. -/
import Derived.Test.YtengkjkmdodifaaDoorPx10
import Derived.Test.YtengkjkmdodifaaDoorLibRopeMemory
namespace Go.Proofs.YtengkjkmdodifaaDoor.Pure
open Go Go.RowKit Go.Proofs.YtengkjkmdodifaaDoor.M Go.Proofs.YtengkjkmdodifaaDoor.L Go.Proofs.YtengkjkmdodifaaDoor.P Go.Proofs.YtengkjkmdodifaaDoorW.PrintWords Go.Proofs.YtengkjkmdodifaaDoorW.PrintLast Go.Proofs.YtengkjkmdodifaaDoorW.PrintMore
set_option linter.unusedVariables false
set_option linter.unusedSimpArgs false

theorem cosL_take (f : Nat → Nat → Int) (h : Nat) {m n : Nat} (hm : m ≤ n) : (cosL f h n).take m = cosL f h m := by
  unfold cosL; rw [← List.map_take, List.take_range, Nat.min_eq_left hm]
theorem sinL_take (f : Nat → Nat → Int) (h : Nat) {m n : Nat} (hm : m ≤ n) : (sinL f h n).take m = sinL f h m := by
  unfold sinL; rw [← List.map_take, List.take_range, Nat.min_eq_left hm]
theorem turnS_two {x c s : List Int} {n : Nat} (hn : 1 ≤ n) (hx : x.length = n + n) (hc : c.length = n) (hs : s.length = n) : ∃ y : List Int, turnS (-1) x ((2 * n : Nat) : Int) c s = (y, 0) ∧ y.length = n + n := by
  have e1 : (x.length : Int) = ((2 * n : Nat) : Int) := by omega
  have e2 : ((2 * n : Nat) : Int) / 2 = (n : Int) := by omega
  refine ⟨(List.range x.length).map (cellT (-1) x ((2 * n : Nat) : Int).toNat c s), ?_, by rw [List.length_map, List.length_range, hx]⟩
  unfold turnS
  rw [e1, Int.emod_self, e2, if_neg (by omega), if_neg (by omega)]
theorem RopeMemory : heraldlaw10_RopeMemory.Pure := by
  intro p h h1 h2
  refine Ev.rounds (g := fun k => heraldlaw10_RopeMemory.f k p h) ?_
  unfold heraldlaw10_RopeMemory.f
  refine Ev.bind awake_ev ?_
  simp only [if_true]
  have hl := tableS_len p h
  refine Ev.bind (Table_f p h) ?_
  refine Ev.bind (Table_f p h) ?_
  refine Ev.bind (rTable_f p h) ?_
  simp only [if_true]
  refine Ev.bind (same_ev _ (by omega)) ?_
  simp only [if_true]
  refine Ev.bind (same_ev _ (by omega)) ?_
  simp only [if_true]
  refine Ev.bind (same_ev _ (by omega)) ?_
  simp only [if_true]
  refine Ev.bind (same_ev _ (by omega)) ?_
  simp only [Bool.not_true]
  refine ev_succ ?_
  simp only [heraldlaw10_RopeMemory.j0, Bool.false_eq_true, if_false]
  by_cases hb : p < 1 ∨ p > 512 ∨ h < 1 ∨ h > 32
  · have e : tableS p h = ([], [], 102) := by unfold tableS; rw [if_pos hb]
    rw [e]
    simp only [show ¬ ((102 : Int) = 0) by decide, if_false]
    exact Ev.now _
  · obtain ⟨P, rfl⟩ : ∃ n : Nat, p = n := ⟨p.toNat, by omega⟩
    obtain ⟨Hn, rfl⟩ : ∃ n : Nat, h = n := ⟨h.toNat, by omega⟩
    have hg := grid_le (p := P) (h := Hn) (by omega) (by omega)
    have e : tableS P Hn = (cosL ang Hn (P * Hn), sinL ang Hn (P * Hn), 0) := by unfold tableS; rw [if_neg hb]; rfl
    have hPH : Hn ≤ P * Hn := Nat.le_mul_of_pos_left Hn (by omega)
    have c1 : (Hn : Int) ≤ ((P * Hn : Nat) : Int) := Int.ofNat_le.mpr hPH
    have c0 : (0 : Int) ≤ (Hn : Int) := Int.natCast_nonneg _
    have d1 : Hn < 140737488355328 := by omega
    have d2 : Hn + Hn < 140737488355328 := by omega
    have g0 : ((P * Hn : Nat) : Int) > 0 := by omega
    have g1 : ((P * Hn : Nat) : Int) < 1000000000000 := by omega
    have b := e ▸ Table_f P Hn
    rw [e] at hl
    have hl1 : (cosL ang Hn (P * Hn)).length ≤ 4611686018427387904 := Nat.le_trans hl.1 (by decide)
    have hl2 : (sinL ang Hn (P * Hn)).length ≤ 4611686018427387904 := Nat.le_trans hl.2 (by decide)
    rw [e]
    simp only [if_true, Option.bind_some, cosL_len, sinL_len, c0, c1, Int.toNat_natCast, List.nil_append, List.length_nil, Nat.zero_add, cosL_take ang Hn hPH, sinL_take ang Hn hPH, List.length_append, d1, d2, wdbl (a := Hn) (by omega)]
    have hx : ∀ y ∈ cosL ang Hn Hn ++ cosL ang Hn Hn, I8 y := fun y hy => by
      rcases List.mem_append.mp hy with hy | hy <;> exact cosL_i8 _ _ _ y hy
    refine Ev.bind (Turn_f (cosL ang Hn Hn ++ cosL ang Hn Hn) ((2 * Hn : Nat) : Int) (cosL ang Hn Hn) (sinL ang Hn Hn) hx (cosL_i8 _ _ _) (sinL_i8 _ _ _) ⟨by omega, by omega⟩ (by rw [List.length_append, cosL_len]; omega)) ?_
    obtain ⟨y, ey, ly⟩ := turnS_two (x := cosL ang Hn Hn ++ cosL ang Hn Hn) (c := cosL ang Hn Hn) (s := sinL ang Hn Hn) (n := Hn) (by omega) (by rw [List.length_append, cosL_len]) (cosL_len _ _ _) (sinL_len _ _ _)
    rw [ey]
    have y0 : ((y.length : Int) == 0) = false := beq_eq_false_iff_ne.mpr (by omega)
    have y1 : (y.length : Int) > 0 := by omega
    have y2 : (y.length : Int) < 1000000000000 := by omega
    simp only [if_true, y0]
    refine ev_succ ?_
    simp only [heraldlaw10_RopeMemory.j1, Bool.false_eq_true, if_false, cosL_len, sinL_len, g0, g1, y1, y2, if_true]
    refine Ev.bind b ?_
    refine Ev.bind (same_ev _ hl1) ?_
    simp only [if_true]
    refine Ev.bind (same_ev _ hl2) ?_
    simp only [if_true]
    refine Ev.bind (same_ev _ hl1) ?_
    simp only [if_true]
    exact Ev.bind (same_ev _ hl2) (Ev.now _)

end Go.Proofs.YtengkjkmdodifaaDoor.Pure
