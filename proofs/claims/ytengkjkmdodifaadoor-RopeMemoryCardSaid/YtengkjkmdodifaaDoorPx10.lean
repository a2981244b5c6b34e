-- Printed by xprint.py (wip): functions, contracts, rows. Lean checks it.
import Derived.Test.YtengkjkmdodifaaDoorPx0
import Derived.Test.YtengkjkmdodifaaDoorPx4
import Derived.Test.YtengkjkmdodifaaDoorPx5
import Derived.Test.YtengkjkmdodifaaDoorPx6
import Derived.Test.YtengkjkmdodifaaDoorPx7
import Derived.Test.YtengkjkmdodifaaDoorPx9
namespace Go.Proofs.YtengkjkmdodifaaDoor.P
open Go.RowKit Go.Proofs.YtengkjkmdodifaaDoorW.PrintWords Go.Proofs.YtengkjkmdodifaaDoorW.PrintLast Go.Proofs.YtengkjkmdodifaaDoorW.PrintMore
attribute [local go_sem] max2_int min2_int max_two min_two max_three min_three max_four min_four   -- for this text's walks alone
set_option linter.unusedVariables false
set_option linter.unusedSimpArgs false

/-! ### heraldlaw10_RopeMemory: function 7 -/
mutual
def heraldlaw10_RopeMemory.j0 : Nat → Int → Int → List Int → List Int → Int → List Int → List Int → List Int → List Int → Bool → Option (Bool)
  | 0, _, _, _, _, _, _, _, _, _, _ => none
  | k + 1, x0, x1, x5, x6, x7, x8, x9, x11, x12, x74 => if x74 = true then (none) else (if x7 = 0 then ((some (([] : List Int) : List Int)).bind fun y202 => (if 0 ≤ x1 then (if x1 ≤ (x5.length : Int) then ((some (x5.take (x1 : Int).toNat : List Int)).bind fun y205 => (if y202.length + y205.length < 140737488355328 then ((some (y202 ++ y205 : List Int)).bind fun y209 => (if y209.length + y209.length < 140737488355328 then (if x1 ≤ (x8.length : Int) then (if x1 ≤ (x9.length : Int) then ((rope_Turn.f k (y209 ++ y209) (wrap64 (2 * x1)) (x8.take (x1 : Int).toNat) (x9.take (x1 : Int).toNat)).bind fun bt223 => (if bt223.2 = 0 then (heraldlaw10_RopeMemory.j1 k x0 x1 x5 x6 x8 x9 x11 x12 bt223.1 ((bt223.1.length : Int) == 0)) else (heraldlaw10_RopeMemory.j1 k x0 x1 x5 x6 x8 x9 x11 x12 bt223.1 true))) else (none)) else (none)) else (none))) else (none))) else (none)) else (none))) else (some true))
def heraldlaw10_RopeMemory.j1 : Nat → Int → Int → List Int → List Int → List Int → List Int → List Int → List Int → List Int → Bool → Option (Bool)
  | 0, _, _, _, _, _, _, _, _, _, _ => none
  | k + 1, x0, x1, x5, x6, x8, x9, x11, x12, x15, x103 => if x103 = true then (none) else (if (x5.length : Int) > 0 then (if (x5.length : Int) < 1000000000000 then (if (x6.length : Int) > 0 then (if (x6.length : Int) < 1000000000000 then (if (x15.length : Int) > 0 then (if (x15.length : Int) < 1000000000000 then ((rope_Table.f k x0 x1).bind fun bt227 => ((heraldlaw10_same.f k x8 x11).bind fun t234 => (if t234 = true then ((heraldlaw10_same.f k x9 x12).bind fun t235 => (if t235 = true then ((heraldlaw10_same.f k bt227.1 x11).bind fun t236 => (if t236 = true then ((heraldlaw10_same.f k bt227.2.1 x12).bind fun t237 => (some t237)) else (none))) else (none))) else (none)))) else (none)) else (none)) else (none)) else (none)) else (none)) else (none))
end
def heraldlaw10_RopeMemory.f (k : Nat) (a0 : Int) (a1 : Int) : Option (Bool) := (heraldlaw10_awake.f k).bind fun t176 => (if t176 = true then ((rope_Table.f k a0 a1).bind fun bt177 => ((rope_Table.f k a0 a1).bind fun bt184 => ((heraldref10_Table.f k a0 a1).bind fun bt191 => (if bt177.2.2 = bt191.2.2 then ((heraldlaw10_same.f k bt177.1 bt191.1).bind fun t198 => (if t198 = true then ((heraldlaw10_same.f k bt177.2.1 bt191.2.1).bind fun t199 => (if t199 = true then ((heraldlaw10_same.f k bt184.1 bt191.1).bind fun t200 => (if t200 = true then ((heraldlaw10_same.f k bt184.2.1 bt191.2.1).bind fun t201 => (heraldlaw10_RopeMemory.j0 k a0 a1 bt177.1 bt177.2.1 bt177.2.2 bt184.1 bt184.2.1 bt191.1 bt191.2.1 (!t201))) else (heraldlaw10_RopeMemory.j0 k a0 a1 bt177.1 bt177.2.1 bt177.2.2 bt184.1 bt184.2.1 bt191.1 bt191.2.1 true))) else (heraldlaw10_RopeMemory.j0 k a0 a1 bt177.1 bt177.2.1 bt177.2.2 bt184.1 bt184.2.1 bt191.1 bt191.2.1 true))) else (heraldlaw10_RopeMemory.j0 k a0 a1 bt177.1 bt177.2.1 bt177.2.2 bt184.1 bt184.2.1 bt191.1 bt191.2.1 true))) else (heraldlaw10_RopeMemory.j0 k a0 a1 bt177.1 bt177.2.1 bt177.2.2 bt184.1 bt184.2.1 bt191.1 bt191.2.1 true))))) else (none))
theorem heraldlaw10_RopeMemory.mono_l : ∀ k, (∀ y0 y1 y2 y3 y4 y5 y6 y7 y8 y9, LeO (heraldlaw10_RopeMemory.j0 k y0 y1 y2 y3 y4 y5 y6 y7 y8 y9) (heraldlaw10_RopeMemory.j0 (k + 1) y0 y1 y2 y3 y4 y5 y6 y7 y8 y9)) ∧ (∀ y0 y1 y2 y3 y4 y5 y6 y7 y8 y9, LeO (heraldlaw10_RopeMemory.j1 k y0 y1 y2 y3 y4 y5 y6 y7 y8 y9) (heraldlaw10_RopeMemory.j1 (k + 1) y0 y1 y2 y3 y4 y5 y6 y7 y8 y9))
  | 0 => ⟨fun _ _ _ _ _ _ _ _ _ _ r h => by simp [heraldlaw10_RopeMemory.j0] at h, fun _ _ _ _ _ _ _ _ _ _ r h => by simp [heraldlaw10_RopeMemory.j1] at h⟩
  | k + 1 => by
    obtain ⟨ih0, ih1⟩ := heraldlaw10_RopeMemory.mono_l k
    refine ⟨?_, ?_⟩
    · intro y0 y1 y2 y3 y4 y5 y6 y7 y8 y9
      unfold heraldlaw10_RopeMemory.j0
      repeat' first
      | (with_reducible exact ih0 _ _ _ _ _ _ _ _ _ _)
      | (with_reducible exact ih1 _ _ _ _ _ _ _ _ _ _)
      | (with_reducible exact heraldlaw10_awake.mono _)
      | (with_reducible exact heraldlaw10_same.mono _ _ _)
      | (with_reducible exact heraldref10_Table.mono _ _ _)
      | (with_reducible exact rope_Table.mono _ _ _)
      | (with_reducible exact rope_Turn.mono _ _ _ _ _)
      | (with_reducible exact LeO.refl _)
      | (with_reducible exact LeO.none _)
      | (with_reducible refine LeO.ite ?_ ?_)
      | (with_reducible refine LeO.bind ?_ (fun _ => ?_))
      | exact ih0 _ _ _ _ _ _ _ _ _ _
      | exact ih1 _ _ _ _ _ _ _ _ _ _
      | exact heraldlaw10_awake.mono _
      | exact heraldlaw10_same.mono _ _ _
      | exact heraldref10_Table.mono _ _ _
      | exact rope_Table.mono _ _ _
      | exact rope_Turn.mono _ _ _ _ _
      | exact LeO.none _
      | refine LeO.ite ?_ ?_
      | refine LeO.bind ?_ (fun _ => ?_)
    · intro y0 y1 y2 y3 y4 y5 y6 y7 y8 y9
      unfold heraldlaw10_RopeMemory.j1
      repeat' first
      | (with_reducible exact ih0 _ _ _ _ _ _ _ _ _ _)
      | (with_reducible exact ih1 _ _ _ _ _ _ _ _ _ _)
      | (with_reducible exact heraldlaw10_awake.mono _)
      | (with_reducible exact heraldlaw10_same.mono _ _ _)
      | (with_reducible exact heraldref10_Table.mono _ _ _)
      | (with_reducible exact rope_Table.mono _ _ _)
      | (with_reducible exact rope_Turn.mono _ _ _ _ _)
      | (with_reducible exact LeO.refl _)
      | (with_reducible exact LeO.none _)
      | (with_reducible refine LeO.ite ?_ ?_)
      | (with_reducible refine LeO.bind ?_ (fun _ => ?_))
      | exact ih0 _ _ _ _ _ _ _ _ _ _
      | exact ih1 _ _ _ _ _ _ _ _ _ _
      | exact heraldlaw10_awake.mono _
      | exact heraldlaw10_same.mono _ _ _
      | exact heraldref10_Table.mono _ _ _
      | exact rope_Table.mono _ _ _
      | exact rope_Turn.mono _ _ _ _ _
      | exact LeO.none _
      | refine LeO.ite ?_ ?_
      | refine LeO.bind ?_ (fun _ => ?_)
theorem heraldlaw10_RopeMemory.mono : ∀ a0 a1 k, LeO (heraldlaw10_RopeMemory.f k a0 a1) (heraldlaw10_RopeMemory.f (k + 1) a0 a1) := by
  intro a0 a1 k
  obtain ⟨ih0, ih1⟩ := heraldlaw10_RopeMemory.mono_l k
  unfold heraldlaw10_RopeMemory.f
  repeat' first
      | (with_reducible exact ih0 _ _ _ _ _ _ _ _ _ _)
      | (with_reducible exact ih1 _ _ _ _ _ _ _ _ _ _)
      | (with_reducible exact heraldlaw10_awake.mono _)
      | (with_reducible exact heraldlaw10_same.mono _ _ _)
      | (with_reducible exact heraldref10_Table.mono _ _ _)
      | (with_reducible exact rope_Table.mono _ _ _)
      | (with_reducible exact rope_Turn.mono _ _ _ _ _)
      | (with_reducible exact LeO.refl _)
      | (with_reducible exact LeO.none _)
      | (with_reducible refine LeO.ite ?_ ?_)
      | (with_reducible refine LeO.bind ?_ (fun _ => ?_))
      | exact ih0 _ _ _ _ _ _ _ _ _ _
      | exact ih1 _ _ _ _ _ _ _ _ _ _
      | exact heraldlaw10_awake.mono _
      | exact heraldlaw10_same.mono _ _ _
      | exact heraldref10_Table.mono _ _ _
      | exact rope_Table.mono _ _ _
      | exact rope_Turn.mono _ _ _ _ _
      | exact LeO.none _
      | refine LeO.ite ?_ ?_
      | refine LeO.bind ?_ (fun _ => ?_)
def heraldlaw10_RopeMemory.T11 : Bool × List (List Nat × List Nat) := (true, [([], []), ([], []), ([0, 1], [0, 1]), ([], []), ([3], [3]), ([], []), ([], []), ([5, 6], [5, 6]), ([], []), ([], []), ([8, 9], [8, 9]), ([2, 4, 7, 10, 2], [2, 4, 7, 10]), ([11], [11]), ([12], [12]), ([12], [12]), ([13, 11, 0, 1, 2, 3, 4, 5, 6, 7, 8, 9, 10, 11, 12, 13], [13]), ([14, 15, 0, 1, 2, 3, 4, 5, 6, 7, 8, 9, 10, 11, 12, 13, 14, 15], [14])])
def heraldlaw10_RopeMemory.B11 : List Nat := [0, 0, 3, 0, 8, 0, 0, 96, 0, 0, 768, 2047, 4095, 8191, 8191, 16383, 65535]
theorem heraldlaw10_RopeMemory.tab11 : rtab .any (opsOf Tryd.f7 11) = heraldlaw10_RopeMemory.T11 := by kernel_rfl
theorem heraldlaw10_RopeMemory.bits11 : waitsOk heraldlaw10_RopeMemory.T11.2 heraldlaw10_RopeMemory.B11 = true := by kernel_rfl
set_option maxHeartbeats 8000000 in
set_option maxRecDepth 100000 in
set_option maxRecDepth 100000 in
set_option maxHeartbeats 16000000 in
theorem heraldlaw10_RopeMemory.calls (k : Nat) (a0 : Int) (a1 : Int) (r : Bool) (w : World) (h : heraldlaw10_RopeMemory.f k a0 a1 = some r) (ht : Tab w) :
    Calls Tryd.prog 7 #[.int .i64 a0, .int .i64 a1] w fun e w' => e = .returned (.bool r) ∧ Below w.heap.size w w' := by
 have HTAB := ym ht
 clear ht
 have HB := ym (Below.refl w.heap.size w)
 have H : ((heraldlaw10_awake.f k).bind fun t176 => (if t176 = true then ((rope_Table.f k a0 a1).bind fun bt177 => ((rope_Table.f k a0 a1).bind fun bt184 => ((heraldref10_Table.f k a0 a1).bind fun bt191 => (if bt177.2.2 = bt191.2.2 then ((heraldlaw10_same.f k bt177.1 bt191.1).bind fun t198 => (if t198 = true then ((heraldlaw10_same.f k bt177.2.1 bt191.2.1).bind fun t199 => (if t199 = true then ((heraldlaw10_same.f k bt184.1 bt191.1).bind fun t200 => (if t200 = true then ((heraldlaw10_same.f k bt184.2.1 bt191.2.1).bind fun t201 => (heraldlaw10_RopeMemory.j0 k a0 a1 bt177.1 bt177.2.1 bt177.2.2 bt184.1 bt184.2.1 bt191.1 bt191.2.1 (!t201))) else (heraldlaw10_RopeMemory.j0 k a0 a1 bt177.1 bt177.2.1 bt177.2.2 bt184.1 bt184.2.1 bt191.1 bt191.2.1 true))) else (heraldlaw10_RopeMemory.j0 k a0 a1 bt177.1 bt177.2.1 bt177.2.2 bt184.1 bt184.2.1 bt191.1 bt191.2.1 true))) else (heraldlaw10_RopeMemory.j0 k a0 a1 bt177.1 bt177.2.1 bt177.2.2 bt184.1 bt184.2.1 bt191.1 bt191.2.1 true))) else (heraldlaw10_RopeMemory.j0 k a0 a1 bt177.1 bt177.2.1 bt177.2.2 bt184.1 bt184.2.1 bt191.1 bt191.2.1 true))))) else (none))) = some r := h
 clear h
 replace H := Option.bind_eq_some_iff.mp H
 obtain ⟨t176, A30, H⟩ := H
 replace H : (if t176 = true then ((rope_Table.f k a0 a1).bind fun bt177 => ((rope_Table.f k a0 a1).bind fun bt184 => ((heraldref10_Table.f k a0 a1).bind fun bt191 => (if bt177.2.2 = bt191.2.2 then ((heraldlaw10_same.f k bt177.1 bt191.1).bind fun t198 => (if t198 = true then ((heraldlaw10_same.f k bt177.2.1 bt191.2.1).bind fun t199 => (if t199 = true then ((heraldlaw10_same.f k bt184.1 bt191.1).bind fun t200 => (if t200 = true then ((heraldlaw10_same.f k bt184.2.1 bt191.2.1).bind fun t201 => (heraldlaw10_RopeMemory.j0 k a0 a1 bt177.1 bt177.2.1 bt177.2.2 bt184.1 bt184.2.1 bt191.1 bt191.2.1 (!t201))) else (heraldlaw10_RopeMemory.j0 k a0 a1 bt177.1 bt177.2.1 bt177.2.2 bt184.1 bt184.2.1 bt191.1 bt191.2.1 true))) else (heraldlaw10_RopeMemory.j0 k a0 a1 bt177.1 bt177.2.1 bt177.2.2 bt184.1 bt184.2.1 bt191.1 bt191.2.1 true))) else (heraldlaw10_RopeMemory.j0 k a0 a1 bt177.1 bt177.2.1 bt177.2.2 bt184.1 bt184.2.1 bt191.1 bt191.2.1 true))) else (heraldlaw10_RopeMemory.j0 k a0 a1 bt177.1 bt177.2.1 bt177.2.2 bt184.1 bt184.2.1 bt191.1 bt191.2.1 true))))) else (none)) = some r := H
 have A3 := ym A30
 clear A30
 by_cases c4 : t176 = true
 ·
  subst c4
  have H1 : ((rope_Table.f k a0 a1).bind fun bt177 => ((rope_Table.f k a0 a1).bind fun bt184 => ((heraldref10_Table.f k a0 a1).bind fun bt191 => (if bt177.2.2 = bt191.2.2 then ((heraldlaw10_same.f k bt177.1 bt191.1).bind fun t198 => (if t198 = true then ((heraldlaw10_same.f k bt177.2.1 bt191.2.1).bind fun t199 => (if t199 = true then ((heraldlaw10_same.f k bt184.1 bt191.1).bind fun t200 => (if t200 = true then ((heraldlaw10_same.f k bt184.2.1 bt191.2.1).bind fun t201 => (heraldlaw10_RopeMemory.j0 k a0 a1 bt177.1 bt177.2.1 bt177.2.2 bt184.1 bt184.2.1 bt191.1 bt191.2.1 (!t201))) else (heraldlaw10_RopeMemory.j0 k a0 a1 bt177.1 bt177.2.1 bt177.2.2 bt184.1 bt184.2.1 bt191.1 bt191.2.1 true))) else (heraldlaw10_RopeMemory.j0 k a0 a1 bt177.1 bt177.2.1 bt177.2.2 bt184.1 bt184.2.1 bt191.1 bt191.2.1 true))) else (heraldlaw10_RopeMemory.j0 k a0 a1 bt177.1 bt177.2.1 bt177.2.2 bt184.1 bt184.2.1 bt191.1 bt191.2.1 true))) else (heraldlaw10_RopeMemory.j0 k a0 a1 bt177.1 bt177.2.1 bt177.2.2 bt184.1 bt184.2.1 bt191.1 bt191.2.1 true))))) = some r := by rw [if_pos rfl] at H; exact H
  clear H
  have H := H1
  clear H1
  replace H := Option.bind_eq_some_iff.mp H
  obtain ⟨⟨t177, t178, t179⟩, A50, H⟩ := H
  replace H : ((rope_Table.f k a0 a1).bind fun bt184 => ((heraldref10_Table.f k a0 a1).bind fun bt191 => (if t179 = bt191.2.2 then ((heraldlaw10_same.f k t177 bt191.1).bind fun t198 => (if t198 = true then ((heraldlaw10_same.f k t178 bt191.2.1).bind fun t199 => (if t199 = true then ((heraldlaw10_same.f k bt184.1 bt191.1).bind fun t200 => (if t200 = true then ((heraldlaw10_same.f k bt184.2.1 bt191.2.1).bind fun t201 => (heraldlaw10_RopeMemory.j0 k a0 a1 t177 t178 t179 bt184.1 bt184.2.1 bt191.1 bt191.2.1 (!t201))) else (heraldlaw10_RopeMemory.j0 k a0 a1 t177 t178 t179 bt184.1 bt184.2.1 bt191.1 bt191.2.1 true))) else (heraldlaw10_RopeMemory.j0 k a0 a1 t177 t178 t179 bt184.1 bt184.2.1 bt191.1 bt191.2.1 true))) else (heraldlaw10_RopeMemory.j0 k a0 a1 t177 t178 t179 bt184.1 bt184.2.1 bt191.1 bt191.2.1 true))) else (heraldlaw10_RopeMemory.j0 k a0 a1 t177 t178 t179 bt184.1 bt184.2.1 bt191.1 bt191.2.1 true)))) = some r := H
  have A5 := ym A50
  clear A50
  replace H := Option.bind_eq_some_iff.mp H
  obtain ⟨⟨t184, t185, t186⟩, A60, H⟩ := H
  replace H : ((heraldref10_Table.f k a0 a1).bind fun bt191 => (if t179 = bt191.2.2 then ((heraldlaw10_same.f k t177 bt191.1).bind fun t198 => (if t198 = true then ((heraldlaw10_same.f k t178 bt191.2.1).bind fun t199 => (if t199 = true then ((heraldlaw10_same.f k t184 bt191.1).bind fun t200 => (if t200 = true then ((heraldlaw10_same.f k t185 bt191.2.1).bind fun t201 => (heraldlaw10_RopeMemory.j0 k a0 a1 t177 t178 t179 t184 t185 bt191.1 bt191.2.1 (!t201))) else (heraldlaw10_RopeMemory.j0 k a0 a1 t177 t178 t179 t184 t185 bt191.1 bt191.2.1 true))) else (heraldlaw10_RopeMemory.j0 k a0 a1 t177 t178 t179 t184 t185 bt191.1 bt191.2.1 true))) else (heraldlaw10_RopeMemory.j0 k a0 a1 t177 t178 t179 t184 t185 bt191.1 bt191.2.1 true))) else (heraldlaw10_RopeMemory.j0 k a0 a1 t177 t178 t179 t184 t185 bt191.1 bt191.2.1 true))) = some r := H
  have A6 := ym A60
  clear A60
  replace H := Option.bind_eq_some_iff.mp H
  obtain ⟨⟨t191, t192, t193⟩, A70, H⟩ := H
  replace H : (if t179 = t193 then ((heraldlaw10_same.f k t177 t191).bind fun t198 => (if t198 = true then ((heraldlaw10_same.f k t178 t192).bind fun t199 => (if t199 = true then ((heraldlaw10_same.f k t184 t191).bind fun t200 => (if t200 = true then ((heraldlaw10_same.f k t185 t192).bind fun t201 => (heraldlaw10_RopeMemory.j0 k a0 a1 t177 t178 t179 t184 t185 t191 t192 (!t201))) else (heraldlaw10_RopeMemory.j0 k a0 a1 t177 t178 t179 t184 t185 t191 t192 true))) else (heraldlaw10_RopeMemory.j0 k a0 a1 t177 t178 t179 t184 t185 t191 t192 true))) else (heraldlaw10_RopeMemory.j0 k a0 a1 t177 t178 t179 t184 t185 t191 t192 true))) else (heraldlaw10_RopeMemory.j0 k a0 a1 t177 t178 t179 t184 t185 t191 t192 true)) = some r := H
  have A7 := ym A70
  clear A70
  have HC8 := ym H
  clear H
  go_enter Tryd.func7, Tryd.ntmps7
  go_upto_region 6 with (first | ((with_reducible refine gate_callee (f := 10) rfl ?_); refine goesL_ (some 25) rfl rfl Tryd.func10 (by kernel_rfl) rfl #[] rfl (by (try simp only [List.map_toArray, List.map_cons, List.map_nil]); first | done | rfl | (simp only [List.length_drop, List.length_take]; rfl)) ?_; (with_reducible refine (heraldlaw10_awake.calls k  true _ A3.out (tab_of HTAB.out (by repeat (first | (with_reducible first | exact HB.out | apply y3) | exact HB.out | exact Below.refl _ _)))).mono ?_); rintro e w9 ⟨rfl, hb⟩; refine ⟨_, rfl, ?_⟩; have n0_ := ym (yn (by repeat (first | (with_reducible first | exact HB.out | apply y3) | exact HB.out)) hb); clear HB; have HB := n0_; clear n0_; (try clear hb); (try clear hb2); (try clear hk); (try clear hi)) | ((with_reducible refine gate_callee (f := 18) rfl ?_); refine goesL_ (some 30) rfl rfl Tryd.func18 (by kernel_rfl) rfl #[.int .i64 a0, .int .i64 a1] rfl (by (try simp only [List.map_toArray, List.map_cons, List.map_nil]); first | done | rfl | (simp only [List.length_drop, List.length_take]; rfl)) ?_; (with_reducible refine (rope_Table.calls k a0 a1 t177 t178 t179 _ A5.out (tab_of HTAB.out (by repeat (first | (with_reducible first | exact HB.out | apply y3) | exact HB.out | exact Below.refl _ _)))).mono ?_); rintro e w10 ⟨v180, v182, rfl, ho0, ho1, hb⟩; refine ⟨_, rfl, ?_⟩; have n0_ := ym (yo ho0 (below_size (by repeat (first | (with_reducible first | exact HB.out | apply y3) | exact HB.out)))); have n1_ := ym (yo ho1 (below_size (by repeat (first | (with_reducible first | exact HB.out | apply y3) | exact HB.out)))); have n2_ := ym (yn (by repeat (first | (with_reducible first | exact HB.out | apply y3) | exact HB.out)) hb); clear HB; have HO181 := n0_; have HO183 := n1_; have HB := n2_; clear n0_ n1_ n2_; (try clear hb); (try clear hb2); (try clear hk); (try clear hi); (try clear ho0); (try clear ho1)) | ((with_reducible refine gate_callee (f := 18) rfl ?_); refine goesL_ (some 37) rfl rfl Tryd.func18 (by kernel_rfl) rfl #[.int .i64 a0, .int .i64 a1] rfl (by (try simp only [List.map_toArray, List.map_cons, List.map_nil]); first | done | rfl | (simp only [List.length_drop, List.length_take]; rfl)) ?_; (with_reducible refine (rope_Table.calls k a0 a1 t184 t185 t186 _ A6.out (tab_of HTAB.out (by repeat (first | (with_reducible first | exact HB.out | apply y3) | exact HB.out | exact Below.refl _ _)))).mono ?_); rintro e w11 ⟨v187, v189, rfl, ho0, ho1, hb⟩; refine ⟨_, rfl, ?_⟩; have n0_ := ym (Kd.R_mono (Kd.R_told (Kd.R_told (Kd.R_old (by (with_reducible repeat apply y2); exact HO181.out) hb) (Kd.R_base ho0)) (Kd.R_base ho1)) (fun _ h_ => h_.1)); have n1_ := ym (Kd.R_mono (Kd.R_told (Kd.R_told (Kd.R_old (by (with_reducible repeat apply y2); exact HO183.out) hb) (Kd.R_base ho0)) (Kd.R_base ho1)) (fun _ h_ => h_.1)); have n2_ := ym (yo (Kd.R_new' (Kd.R_new' ho0 (Kd.R_lt (by (with_reducible repeat apply y2); exact HO181.out))) (Kd.R_lt (by (with_reducible repeat apply y2); exact HO183.out))) (below_size (by repeat (first | (with_reducible first | exact HB.out | apply y3) | exact HB.out)))); have n3_ := ym (yo (Kd.R_new' (Kd.R_new' ho1 (Kd.R_lt (by (with_reducible repeat apply y2); exact HO181.out))) (Kd.R_lt (by (with_reducible repeat apply y2); exact HO183.out))) (below_size (by repeat (first | (with_reducible first | exact HB.out | apply y3) | exact HB.out)))); have n4_ := ym (yn (by repeat (first | (with_reducible first | exact HB.out | apply y3) | exact HB.out)) hb); clear HO181; clear HO183; clear HB; have HO181 := n0_; have HO183 := n1_; have HO188 := n2_; have HO190 := n3_; have HB := n4_; clear n0_ n1_ n2_ n3_ n4_; (try clear hb); (try clear hb2); (try clear hk); (try clear hi); (try clear ho0); (try clear ho1)) | ((with_reducible refine gate_callee (f := 19) rfl ?_); refine goesL_ (some 44) rfl rfl Tryd.func19 (by kernel_rfl) rfl #[.int .i64 a0, .int .i64 a1] rfl (by (try simp only [List.map_toArray, List.map_cons, List.map_nil]); first | done | rfl | (simp only [List.length_drop, List.length_take]; rfl)) ?_; (with_reducible refine (heraldref10_Table.calls k a0 a1 t191 t192 t193 _ A7.out).mono ?_); rintro e w12 ⟨v194, v196, rfl, ho0, ho1, hb⟩; refine ⟨_, rfl, ?_⟩; have n0_ := ym (Kd.R_mono (Kd.R_told (Kd.R_told (Kd.R_old (by (with_reducible repeat apply y2); exact HO181.out) hb) (Kd.R_base ho0)) (Kd.R_base ho1)) (fun _ h_ => h_.1)); have n1_ := ym (Kd.R_mono (Kd.R_told (Kd.R_told (Kd.R_old (by (with_reducible repeat apply y2); exact HO183.out) hb) (Kd.R_base ho0)) (Kd.R_base ho1)) (fun _ h_ => h_.1)); have n2_ := ym (Kd.R_mono (Kd.R_told (Kd.R_told (Kd.R_old (by (with_reducible repeat apply y2); exact HO188.out) hb) (Kd.R_base ho0)) (Kd.R_base ho1)) (fun _ h_ => h_.1)); have n3_ := ym (Kd.R_mono (Kd.R_told (Kd.R_told (Kd.R_old (by (with_reducible repeat apply y2); exact HO190.out) hb) (Kd.R_base ho0)) (Kd.R_base ho1)) (fun _ h_ => h_.1)); have n4_ := ym (yo (Kd.R_new' (Kd.R_new' (Kd.R_new' (Kd.R_new' ho0 (Kd.R_lt (by (with_reducible repeat apply y2); exact HO181.out))) (Kd.R_lt (by (with_reducible repeat apply y2); exact HO183.out))) (Kd.R_lt (by (with_reducible repeat apply y2); exact HO188.out))) (Kd.R_lt (by (with_reducible repeat apply y2); exact HO190.out))) (below_size (by repeat (first | (with_reducible first | exact HB.out | apply y3) | exact HB.out)))); have n5_ := ym (yo (Kd.R_new' (Kd.R_new' (Kd.R_new' (Kd.R_new' ho1 (Kd.R_lt (by (with_reducible repeat apply y2); exact HO181.out))) (Kd.R_lt (by (with_reducible repeat apply y2); exact HO183.out))) (Kd.R_lt (by (with_reducible repeat apply y2); exact HO188.out))) (Kd.R_lt (by (with_reducible repeat apply y2); exact HO190.out))) (below_size (by repeat (first | (with_reducible first | exact HB.out | apply y3) | exact HB.out)))); have n6_ := ym (yn (by repeat (first | (with_reducible first | exact HB.out | apply y3) | exact HB.out)) hb); clear HO181; clear HO183; clear HO188; clear HO190; clear HB; have HO181 := n0_; have HO183 := n1_; have HO188 := n2_; have HO190 := n3_; have HO195 := n4_; have HO197 := n5_; have HB := n6_; clear n0_ n1_ n2_ n3_ n4_ n5_ n6_; (try clear hb); (try clear hb2); (try clear hk); (try clear hi); (try clear ho0); (try clear ho1)))
  (try simp only [Act.put, y0])
  go_cut [74] (fun v74 wc => ∃ (kq : Nat) (x74_7 : Bool), v74 = .bool x74_7 ∧ Aside0 (heraldlaw10_RopeMemory.j0 kq a0 a1 t177 t178 t179 t184 t185 t191 t192 x74_7 = some r) ∧ Aside0 (kq ≤ k) ∧ Aside0 (Kd.R (Kd.int .i8) 33 wc w.heap.size (fun k_ => some k_ ≠ (v182 : Value).ownBlock ∧ some k_ ≠ (v187 : Value).ownBlock ∧ some k_ ≠ (v189 : Value).ownBlock ∧ some k_ ≠ (v194 : Value).ownBlock ∧ some k_ ≠ (v196 : Value).ownBlock) v180 t177) ∧ Aside0 (Kd.R (Kd.int .i8) 33 wc w.heap.size (fun k_ => some k_ ≠ (v180 : Value).ownBlock ∧ some k_ ≠ (v187 : Value).ownBlock ∧ some k_ ≠ (v189 : Value).ownBlock ∧ some k_ ≠ (v194 : Value).ownBlock ∧ some k_ ≠ (v196 : Value).ownBlock) v182 t178) ∧ Aside0 (Kd.R (Kd.int .i8) 33 wc w.heap.size (fun k_ => some k_ ≠ (v180 : Value).ownBlock ∧ some k_ ≠ (v182 : Value).ownBlock ∧ some k_ ≠ (v189 : Value).ownBlock ∧ some k_ ≠ (v194 : Value).ownBlock ∧ some k_ ≠ (v196 : Value).ownBlock) v187 t184) ∧ Aside0 (Kd.R (Kd.int .i8) 33 wc w.heap.size (fun k_ => some k_ ≠ (v180 : Value).ownBlock ∧ some k_ ≠ (v182 : Value).ownBlock ∧ some k_ ≠ (v187 : Value).ownBlock ∧ some k_ ≠ (v194 : Value).ownBlock ∧ some k_ ≠ (v196 : Value).ownBlock) v189 t185) ∧ Aside0 (Kd.R (Kd.int .i8) 33 wc w.heap.size (fun k_ => some k_ ≠ (v180 : Value).ownBlock ∧ some k_ ≠ (v182 : Value).ownBlock ∧ some k_ ≠ (v187 : Value).ownBlock ∧ some k_ ≠ (v189 : Value).ownBlock ∧ some k_ ≠ (v196 : Value).ownBlock) v194 t191) ∧ Aside0 (Kd.R (Kd.int .i8) 33 wc w.heap.size (fun k_ => some k_ ≠ (v180 : Value).ownBlock ∧ some k_ ≠ (v182 : Value).ownBlock ∧ some k_ ≠ (v187 : Value).ownBlock ∧ some k_ ≠ (v189 : Value).ownBlock ∧ some k_ ≠ (v194 : Value).ownBlock) v196 t192) ∧ Aside0 (Below w.heap.size w wc))
  case first =>
   have H := HC8.out
   clear HC8
   by_cases c13 : t179 = t193
   ·
    rw [if_pos c13] at H
    have c13b0 : (t179 == t193) = true := beq_iff_eq.mpr c13
    have c13b1 : (t179 != t193) = false := bne_eq_false_iff_eq.mpr c13
    clear c13
    (first | rw [c13b0] | (simp only [i64_w, i32_w]; rw [c13b0]) | skip)
    replace H := Option.bind_eq_some_iff.mp H
    obtain ⟨t198, A140, H⟩ := H
    replace H : (if t198 = true then ((heraldlaw10_same.f k t178 t192).bind fun t199 => (if t199 = true then ((heraldlaw10_same.f k t184 t191).bind fun t200 => (if t200 = true then ((heraldlaw10_same.f k t185 t192).bind fun t201 => (heraldlaw10_RopeMemory.j0 k a0 a1 t177 t178 t179 t184 t185 t191 t192 (!t201))) else (heraldlaw10_RopeMemory.j0 k a0 a1 t177 t178 t179 t184 t185 t191 t192 true))) else (heraldlaw10_RopeMemory.j0 k a0 a1 t177 t178 t179 t184 t185 t191 t192 true))) else (heraldlaw10_RopeMemory.j0 k a0 a1 t177 t178 t179 t184 t185 t191 t192 true)) = some r := H
    have A14 := ym A140
    clear A140
    by_cases c15 : t198 = true
    ·
     subst c15
     have H1 : ((heraldlaw10_same.f k t178 t192).bind fun t199 => (if t199 = true then ((heraldlaw10_same.f k t184 t191).bind fun t200 => (if t200 = true then ((heraldlaw10_same.f k t185 t192).bind fun t201 => (heraldlaw10_RopeMemory.j0 k a0 a1 t177 t178 t179 t184 t185 t191 t192 (!t201))) else (heraldlaw10_RopeMemory.j0 k a0 a1 t177 t178 t179 t184 t185 t191 t192 true))) else (heraldlaw10_RopeMemory.j0 k a0 a1 t177 t178 t179 t184 t185 t191 t192 true))) = some r := by rw [if_pos rfl] at H; exact H
     clear H
     have H := H1
     clear H1
     replace H := Option.bind_eq_some_iff.mp H
     obtain ⟨t199, A160, H⟩ := H
     replace H : (if t199 = true then ((heraldlaw10_same.f k t184 t191).bind fun t200 => (if t200 = true then ((heraldlaw10_same.f k t185 t192).bind fun t201 => (heraldlaw10_RopeMemory.j0 k a0 a1 t177 t178 t179 t184 t185 t191 t192 (!t201))) else (heraldlaw10_RopeMemory.j0 k a0 a1 t177 t178 t179 t184 t185 t191 t192 true))) else (heraldlaw10_RopeMemory.j0 k a0 a1 t177 t178 t179 t184 t185 t191 t192 true)) = some r := H
     have A16 := ym A160
     clear A160
     by_cases c17 : t199 = true
     ·
      subst c17
      have H1 : ((heraldlaw10_same.f k t184 t191).bind fun t200 => (if t200 = true then ((heraldlaw10_same.f k t185 t192).bind fun t201 => (heraldlaw10_RopeMemory.j0 k a0 a1 t177 t178 t179 t184 t185 t191 t192 (!t201))) else (heraldlaw10_RopeMemory.j0 k a0 a1 t177 t178 t179 t184 t185 t191 t192 true))) = some r := by rw [if_pos rfl] at H; exact H
      clear H
      have H := H1
      clear H1
      replace H := Option.bind_eq_some_iff.mp H
      obtain ⟨t200, A180, H⟩ := H
      replace H : (if t200 = true then ((heraldlaw10_same.f k t185 t192).bind fun t201 => (heraldlaw10_RopeMemory.j0 k a0 a1 t177 t178 t179 t184 t185 t191 t192 (!t201))) else (heraldlaw10_RopeMemory.j0 k a0 a1 t177 t178 t179 t184 t185 t191 t192 true)) = some r := H
      have A18 := ym A180
      clear A180
      by_cases c19 : t200 = true
      ·
       subst c19
       have H1 : ((heraldlaw10_same.f k t185 t192).bind fun t201 => (heraldlaw10_RopeMemory.j0 k a0 a1 t177 t178 t179 t184 t185 t191 t192 (!t201))) = some r := by rw [if_pos rfl] at H; exact H
       clear H
       have H := H1
       clear H1
       replace H := Option.bind_eq_some_iff.mp H
       obtain ⟨t201, A200, H⟩ := H
       replace H : (heraldlaw10_RopeMemory.j0 k a0 a1 t177 t178 t179 t184 t185 t191 t192 (!t201)) = some r := H
       have A20 := ym A200
       clear A200
       have H' := ym H
       clear H
       obtain ⟨Ao21, co21, eo21⟩ := Kd.R_slice HO181.out
       subst eo21
       obtain ⟨Ao22, co22, eo22⟩ := Kd.R_slice HO195.out
       subst eo22
       go_wp2_with (first | (go_at_call 13; (with_reducible refine (heraldlaw10_same.calls k _ _ t177 _ _ t191 true _ ?side1 ?side2 ?side3 ?side4 A14.out).mono ?_); (case side1 => repeat (first | exact (Kd.R_reads' HO181.out).2.2 | (with_reducible refine yi ?_ _) | (with_reducible refine yj ?_ _) | (with_reducible refine yk ?_))); (case side2 => exact (Kd.R_reads' HO181.out).2.1); (case side3 => repeat (first | exact (Kd.R_reads' HO195.out).2.2 | (with_reducible refine yi ?_ _) | (with_reducible refine yj ?_ _) | (with_reducible refine yk ?_))); (case side4 => exact (Kd.R_reads' HO195.out).2.1); rintro e w' ⟨rfl, ⟨nd, rfl⟩⟩; obtain ⟨Ao23, co23, eo23⟩ := Kd.R_slice HO183.out; subst eo23; obtain ⟨Ao24, co24, eo24⟩ := Kd.R_slice HO197.out; subst eo24) | (go_at_call 13; (with_reducible refine (heraldlaw10_same.calls k _ _ t178 _ _ t192 true _ ?side1 ?side2 ?side3 ?side4 A16.out).mono ?_); (case side1 => repeat (first | exact (Kd.R_reads' HO183.out).2.2 | (with_reducible refine yi ?_ _) | (with_reducible refine yj ?_ _) | (with_reducible refine yk ?_))); (case side2 => exact (Kd.R_reads' HO183.out).2.1); (case side3 => repeat (first | exact (Kd.R_reads' HO197.out).2.2 | (with_reducible refine yi ?_ _) | (with_reducible refine yj ?_ _) | (with_reducible refine yk ?_))); (case side4 => exact (Kd.R_reads' HO197.out).2.1); rintro e w' ⟨rfl, ⟨nd, rfl⟩⟩; obtain ⟨Ao25, co25, eo25⟩ := Kd.R_slice HO188.out; subst eo25) | (go_at_call 13; (with_reducible refine (heraldlaw10_same.calls k _ _ t184 _ _ t191 true _ ?side1 ?side2 ?side3 ?side4 A18.out).mono ?_); (case side1 => repeat (first | exact (Kd.R_reads' HO188.out).2.2 | (with_reducible refine yi ?_ _) | (with_reducible refine yj ?_ _) | (with_reducible refine yk ?_))); (case side2 => exact (Kd.R_reads' HO188.out).2.1); (case side3 => repeat (first | exact (Kd.R_reads' HO195.out).2.2 | (with_reducible refine yi ?_ _) | (with_reducible refine yj ?_ _) | (with_reducible refine yk ?_))); (case side4 => exact (Kd.R_reads' HO195.out).2.1); rintro e w' ⟨rfl, ⟨nd, rfl⟩⟩; obtain ⟨Ao26, co26, eo26⟩ := Kd.R_slice HO190.out; subst eo26) | (go_at_call 13; (with_reducible refine (heraldlaw10_same.calls k _ _ t185 _ _ t192 t201 _ ?side1 ?side2 ?side3 ?side4 A20.out).mono ?_); (case side1 => repeat (first | exact (Kd.R_reads' HO190.out).2.2 | (with_reducible refine yi ?_ _) | (with_reducible refine yj ?_ _) | (with_reducible refine yk ?_))); (case side2 => exact (Kd.R_reads' HO190.out).2.1); (case side3 => repeat (first | exact (Kd.R_reads' HO197.out).2.2 | (with_reducible refine yi ?_ _) | (with_reducible refine yj ?_ _) | (with_reducible refine yk ?_))); (case side4 => exact (Kd.R_reads' HO197.out).2.1); rintro e w' ⟨rfl, ⟨nd, rfl⟩⟩))
       go_meet
       case rel => exact ⟨_, (!t201), (by first | rfl | (simp; done) | (simp [*]; done)), H', ⟨by first | omega | exact Nat.le_refl _⟩, ⟨by (with_reducible repeat apply y2); exact Kd.R_mono HO181.out (fun _ hk => ⟨hk.1.1.1.1, ⟨hk.1.1.1.2, ⟨hk.1.1.2, ⟨hk.1.2, hk.2⟩⟩⟩⟩)⟩, ⟨by (with_reducible repeat apply y2); exact Kd.R_mono HO183.out (fun _ hk => ⟨hk.1.1.1.1, ⟨hk.1.1.1.2, ⟨hk.1.1.2, ⟨hk.1.2, hk.2⟩⟩⟩⟩)⟩, ⟨by (with_reducible repeat apply y2); exact Kd.R_mono HO188.out (fun _ hk => ⟨hk.1.1.1.2, ⟨hk.1.1.2, ⟨hk.1.1.1.1, ⟨hk.1.2, hk.2⟩⟩⟩⟩)⟩, ⟨by (with_reducible repeat apply y2); exact Kd.R_mono HO190.out (fun _ hk => ⟨hk.1.1.1.2, ⟨hk.1.1.2, ⟨hk.1.1.1.1, ⟨hk.1.2, hk.2⟩⟩⟩⟩)⟩, ⟨by (with_reducible repeat apply y2); exact Kd.R_mono HO195.out (fun _ hk => ⟨hk.1.1.1.2, ⟨hk.1.1.2, ⟨hk.1.2, ⟨hk.2, hk.1.1.1.1⟩⟩⟩⟩)⟩, ⟨by (with_reducible repeat apply y2); exact Kd.R_mono HO197.out (fun _ hk => ⟨hk.1.1.1.2, ⟨hk.1.1.2, ⟨hk.1.2, ⟨hk.2, hk.1.1.1.1⟩⟩⟩⟩)⟩, ⟨by repeat (first | (with_reducible first | exact HB.out | apply y3) | exact HB.out)⟩⟩
      replace c19 := Bool.eq_false_iff.mpr c19
      subst c19
      have H1 : (heraldlaw10_RopeMemory.j0 k a0 a1 t177 t178 t179 t184 t185 t191 t192 true) = some r := by rw [if_neg (show ¬ (false = true) by decide)] at H; exact H
      clear H
      have H := H1
      clear H1
      have H' := ym H
      clear H
      obtain ⟨Ao27, co27, eo27⟩ := Kd.R_slice HO181.out
      subst eo27
      obtain ⟨Ao28, co28, eo28⟩ := Kd.R_slice HO195.out
      subst eo28
      go_wp2_with (first | (go_at_call 13; (with_reducible refine (heraldlaw10_same.calls k _ _ t177 _ _ t191 true _ ?side1 ?side2 ?side3 ?side4 A14.out).mono ?_); (case side1 => repeat (first | exact (Kd.R_reads' HO181.out).2.2 | (with_reducible refine yi ?_ _) | (with_reducible refine yj ?_ _) | (with_reducible refine yk ?_))); (case side2 => exact (Kd.R_reads' HO181.out).2.1); (case side3 => repeat (first | exact (Kd.R_reads' HO195.out).2.2 | (with_reducible refine yi ?_ _) | (with_reducible refine yj ?_ _) | (with_reducible refine yk ?_))); (case side4 => exact (Kd.R_reads' HO195.out).2.1); rintro e w' ⟨rfl, ⟨nd, rfl⟩⟩; obtain ⟨Ao29, co29, eo29⟩ := Kd.R_slice HO183.out; subst eo29; obtain ⟨Ao30, co30, eo30⟩ := Kd.R_slice HO197.out; subst eo30) | (go_at_call 13; (with_reducible refine (heraldlaw10_same.calls k _ _ t178 _ _ t192 true _ ?side1 ?side2 ?side3 ?side4 A16.out).mono ?_); (case side1 => repeat (first | exact (Kd.R_reads' HO183.out).2.2 | (with_reducible refine yi ?_ _) | (with_reducible refine yj ?_ _) | (with_reducible refine yk ?_))); (case side2 => exact (Kd.R_reads' HO183.out).2.1); (case side3 => repeat (first | exact (Kd.R_reads' HO197.out).2.2 | (with_reducible refine yi ?_ _) | (with_reducible refine yj ?_ _) | (with_reducible refine yk ?_))); (case side4 => exact (Kd.R_reads' HO197.out).2.1); rintro e w' ⟨rfl, ⟨nd, rfl⟩⟩; obtain ⟨Ao31, co31, eo31⟩ := Kd.R_slice HO188.out; subst eo31) | (go_at_call 13; (with_reducible refine (heraldlaw10_same.calls k _ _ t184 _ _ t191 false _ ?side1 ?side2 ?side3 ?side4 A18.out).mono ?_); (case side1 => repeat (first | exact (Kd.R_reads' HO188.out).2.2 | (with_reducible refine yi ?_ _) | (with_reducible refine yj ?_ _) | (with_reducible refine yk ?_))); (case side2 => exact (Kd.R_reads' HO188.out).2.1); (case side3 => repeat (first | exact (Kd.R_reads' HO195.out).2.2 | (with_reducible refine yi ?_ _) | (with_reducible refine yj ?_ _) | (with_reducible refine yk ?_))); (case side4 => exact (Kd.R_reads' HO195.out).2.1); rintro e w' ⟨rfl, ⟨nd, rfl⟩⟩))
      go_meet
      case rel => exact ⟨_, (true), (by first | rfl | (simp; done) | (simp [*]; done)), H', ⟨by first | omega | exact Nat.le_refl _⟩, ⟨by (with_reducible repeat apply y2); exact Kd.R_mono HO181.out (fun _ hk => ⟨hk.1.1.1.1, ⟨hk.1.1.1.2, ⟨hk.1.1.2, ⟨hk.1.2, hk.2⟩⟩⟩⟩)⟩, ⟨by (with_reducible repeat apply y2); exact Kd.R_mono HO183.out (fun _ hk => ⟨hk.1.1.1.1, ⟨hk.1.1.1.2, ⟨hk.1.1.2, ⟨hk.1.2, hk.2⟩⟩⟩⟩)⟩, ⟨by (with_reducible repeat apply y2); exact Kd.R_mono HO188.out (fun _ hk => ⟨hk.1.1.1.2, ⟨hk.1.1.2, ⟨hk.1.1.1.1, ⟨hk.1.2, hk.2⟩⟩⟩⟩)⟩, ⟨by (with_reducible repeat apply y2); exact Kd.R_mono HO190.out (fun _ hk => ⟨hk.1.1.1.2, ⟨hk.1.1.2, ⟨hk.1.1.1.1, ⟨hk.1.2, hk.2⟩⟩⟩⟩)⟩, ⟨by (with_reducible repeat apply y2); exact Kd.R_mono HO195.out (fun _ hk => ⟨hk.1.1.1.2, ⟨hk.1.1.2, ⟨hk.1.2, ⟨hk.2, hk.1.1.1.1⟩⟩⟩⟩)⟩, ⟨by (with_reducible repeat apply y2); exact Kd.R_mono HO197.out (fun _ hk => ⟨hk.1.1.1.2, ⟨hk.1.1.2, ⟨hk.1.2, ⟨hk.2, hk.1.1.1.1⟩⟩⟩⟩)⟩, ⟨by repeat (first | (with_reducible first | exact HB.out | apply y3) | exact HB.out)⟩⟩
     replace c17 := Bool.eq_false_iff.mpr c17
     subst c17
     have H1 : (heraldlaw10_RopeMemory.j0 k a0 a1 t177 t178 t179 t184 t185 t191 t192 true) = some r := by rw [if_neg (show ¬ (false = true) by decide)] at H; exact H
     clear H
     have H := H1
     clear H1
     have H' := ym H
     clear H
     obtain ⟨Ao32, co32, eo32⟩ := Kd.R_slice HO181.out
     subst eo32
     obtain ⟨Ao33, co33, eo33⟩ := Kd.R_slice HO195.out
     subst eo33
     go_wp2_with (first | (go_at_call 13; (with_reducible refine (heraldlaw10_same.calls k _ _ t177 _ _ t191 true _ ?side1 ?side2 ?side3 ?side4 A14.out).mono ?_); (case side1 => repeat (first | exact (Kd.R_reads' HO181.out).2.2 | (with_reducible refine yi ?_ _) | (with_reducible refine yj ?_ _) | (with_reducible refine yk ?_))); (case side2 => exact (Kd.R_reads' HO181.out).2.1); (case side3 => repeat (first | exact (Kd.R_reads' HO195.out).2.2 | (with_reducible refine yi ?_ _) | (with_reducible refine yj ?_ _) | (with_reducible refine yk ?_))); (case side4 => exact (Kd.R_reads' HO195.out).2.1); rintro e w' ⟨rfl, ⟨nd, rfl⟩⟩; obtain ⟨Ao34, co34, eo34⟩ := Kd.R_slice HO183.out; subst eo34; obtain ⟨Ao35, co35, eo35⟩ := Kd.R_slice HO197.out; subst eo35) | (go_at_call 13; (with_reducible refine (heraldlaw10_same.calls k _ _ t178 _ _ t192 false _ ?side1 ?side2 ?side3 ?side4 A16.out).mono ?_); (case side1 => repeat (first | exact (Kd.R_reads' HO183.out).2.2 | (with_reducible refine yi ?_ _) | (with_reducible refine yj ?_ _) | (with_reducible refine yk ?_))); (case side2 => exact (Kd.R_reads' HO183.out).2.1); (case side3 => repeat (first | exact (Kd.R_reads' HO197.out).2.2 | (with_reducible refine yi ?_ _) | (with_reducible refine yj ?_ _) | (with_reducible refine yk ?_))); (case side4 => exact (Kd.R_reads' HO197.out).2.1); rintro e w' ⟨rfl, ⟨nd, rfl⟩⟩))
     go_meet
     case rel => exact ⟨_, (true), (by first | rfl | (simp; done) | (simp [*]; done)), H', ⟨by first | omega | exact Nat.le_refl _⟩, ⟨by (with_reducible repeat apply y2); exact Kd.R_mono HO181.out (fun _ hk => ⟨hk.1.1.1.1, ⟨hk.1.1.1.2, ⟨hk.1.1.2, ⟨hk.1.2, hk.2⟩⟩⟩⟩)⟩, ⟨by (with_reducible repeat apply y2); exact Kd.R_mono HO183.out (fun _ hk => ⟨hk.1.1.1.1, ⟨hk.1.1.1.2, ⟨hk.1.1.2, ⟨hk.1.2, hk.2⟩⟩⟩⟩)⟩, ⟨by (with_reducible repeat apply y2); exact Kd.R_mono HO188.out (fun _ hk => ⟨hk.1.1.1.2, ⟨hk.1.1.2, ⟨hk.1.1.1.1, ⟨hk.1.2, hk.2⟩⟩⟩⟩)⟩, ⟨by (with_reducible repeat apply y2); exact Kd.R_mono HO190.out (fun _ hk => ⟨hk.1.1.1.2, ⟨hk.1.1.2, ⟨hk.1.1.1.1, ⟨hk.1.2, hk.2⟩⟩⟩⟩)⟩, ⟨by (with_reducible repeat apply y2); exact Kd.R_mono HO195.out (fun _ hk => ⟨hk.1.1.1.2, ⟨hk.1.1.2, ⟨hk.1.2, ⟨hk.2, hk.1.1.1.1⟩⟩⟩⟩)⟩, ⟨by (with_reducible repeat apply y2); exact Kd.R_mono HO197.out (fun _ hk => ⟨hk.1.1.1.2, ⟨hk.1.1.2, ⟨hk.1.2, ⟨hk.2, hk.1.1.1.1⟩⟩⟩⟩)⟩, ⟨by repeat (first | (with_reducible first | exact HB.out | apply y3) | exact HB.out)⟩⟩
    replace c15 := Bool.eq_false_iff.mpr c15
    subst c15
    have H1 : (heraldlaw10_RopeMemory.j0 k a0 a1 t177 t178 t179 t184 t185 t191 t192 true) = some r := by rw [if_neg (show ¬ (false = true) by decide)] at H; exact H
    clear H
    have H := H1
    clear H1
    have H' := ym H
    clear H
    obtain ⟨Ao36, co36, eo36⟩ := Kd.R_slice HO181.out
    subst eo36
    obtain ⟨Ao37, co37, eo37⟩ := Kd.R_slice HO195.out
    subst eo37
    go_wp2_with (first | (go_at_call 13; (with_reducible refine (heraldlaw10_same.calls k _ _ t177 _ _ t191 false _ ?side1 ?side2 ?side3 ?side4 A14.out).mono ?_); (case side1 => repeat (first | exact (Kd.R_reads' HO181.out).2.2 | (with_reducible refine yi ?_ _) | (with_reducible refine yj ?_ _) | (with_reducible refine yk ?_))); (case side2 => exact (Kd.R_reads' HO181.out).2.1); (case side3 => repeat (first | exact (Kd.R_reads' HO195.out).2.2 | (with_reducible refine yi ?_ _) | (with_reducible refine yj ?_ _) | (with_reducible refine yk ?_))); (case side4 => exact (Kd.R_reads' HO195.out).2.1); rintro e w' ⟨rfl, ⟨nd, rfl⟩⟩))
    go_meet
    case rel => exact ⟨_, (true), (by first | rfl | (simp; done) | (simp [*]; done)), H', ⟨by first | omega | exact Nat.le_refl _⟩, ⟨by (with_reducible repeat apply y2); exact Kd.R_mono HO181.out (fun _ hk => ⟨hk.1.1.1.1, ⟨hk.1.1.1.2, ⟨hk.1.1.2, ⟨hk.1.2, hk.2⟩⟩⟩⟩)⟩, ⟨by (with_reducible repeat apply y2); exact Kd.R_mono HO183.out (fun _ hk => ⟨hk.1.1.1.1, ⟨hk.1.1.1.2, ⟨hk.1.1.2, ⟨hk.1.2, hk.2⟩⟩⟩⟩)⟩, ⟨by (with_reducible repeat apply y2); exact Kd.R_mono HO188.out (fun _ hk => ⟨hk.1.1.1.2, ⟨hk.1.1.2, ⟨hk.1.1.1.1, ⟨hk.1.2, hk.2⟩⟩⟩⟩)⟩, ⟨by (with_reducible repeat apply y2); exact Kd.R_mono HO190.out (fun _ hk => ⟨hk.1.1.1.2, ⟨hk.1.1.2, ⟨hk.1.1.1.1, ⟨hk.1.2, hk.2⟩⟩⟩⟩)⟩, ⟨by (with_reducible repeat apply y2); exact Kd.R_mono HO195.out (fun _ hk => ⟨hk.1.1.1.2, ⟨hk.1.1.2, ⟨hk.1.2, ⟨hk.2, hk.1.1.1.1⟩⟩⟩⟩)⟩, ⟨by (with_reducible repeat apply y2); exact Kd.R_mono HO197.out (fun _ hk => ⟨hk.1.1.1.2, ⟨hk.1.1.2, ⟨hk.1.2, ⟨hk.2, hk.1.1.1.1⟩⟩⟩⟩)⟩, ⟨by repeat (first | (with_reducible first | exact HB.out | apply y3) | exact HB.out)⟩⟩
   rw [if_neg c13] at H
   have c13b0 : (t179 == t193) = false := beq_eq_false_iff_ne.mpr c13
   have c13b1 : (t179 != t193) = true := bne_iff_ne.mpr c13
   (first | rw [c13b0] | (simp only [i64_w, i32_w]; rw [c13b0]) | skip)
   have H' := ym H
   clear H
   go_wp2
   go_meet
   case rel => exact ⟨_, (true), (by first | rfl | (simp; done) | (simp [*]; done)), H', ⟨by first | omega | exact Nat.le_refl _⟩, ⟨by (with_reducible repeat apply y2); exact Kd.R_mono HO181.out (fun _ hk => ⟨hk.1.1.1.1, ⟨hk.1.1.1.2, ⟨hk.1.1.2, ⟨hk.1.2, hk.2⟩⟩⟩⟩)⟩, ⟨by (with_reducible repeat apply y2); exact Kd.R_mono HO183.out (fun _ hk => ⟨hk.1.1.1.1, ⟨hk.1.1.1.2, ⟨hk.1.1.2, ⟨hk.1.2, hk.2⟩⟩⟩⟩)⟩, ⟨by (with_reducible repeat apply y2); exact Kd.R_mono HO188.out (fun _ hk => ⟨hk.1.1.1.2, ⟨hk.1.1.2, ⟨hk.1.1.1.1, ⟨hk.1.2, hk.2⟩⟩⟩⟩)⟩, ⟨by (with_reducible repeat apply y2); exact Kd.R_mono HO190.out (fun _ hk => ⟨hk.1.1.1.2, ⟨hk.1.1.2, ⟨hk.1.1.1.1, ⟨hk.1.2, hk.2⟩⟩⟩⟩)⟩, ⟨by (with_reducible repeat apply y2); exact Kd.R_mono HO195.out (fun _ hk => ⟨hk.1.1.1.2, ⟨hk.1.1.2, ⟨hk.1.2, ⟨hk.2, hk.1.1.1.1⟩⟩⟩⟩)⟩, ⟨by (with_reducible repeat apply y2); exact Kd.R_mono HO197.out (fun _ hk => ⟨hk.1.1.1.2, ⟨hk.1.1.2, ⟨hk.1.2, ⟨hk.2, hk.1.1.1.1⟩⟩⟩⟩)⟩, ⟨by repeat (first | (with_reducible first | exact HB.out | apply y3) | exact HB.out)⟩⟩
  case rest =>
   clear HC8
   try clear c1
   try clear p2
   try clear c4
   try clear c7
   try clear c10
   try clear c13
   try clear c13b0
   try clear c13b1
   try clear c15
   try clear c17
   try clear c18
   try clear c19
   obtain ⟨kq, x74_7, rfl, HA, HJ7, HO_5, HO_6, HO_8, HO_9, HO_11, HO_12, HB⟩ := hcut
   cases kq with
   | zero => exact absurd HA.out (by simp [heraldlaw10_RopeMemory.j0])
   | succ kj7 =>
    have H := HA.out
    clear HA
    simp only [heraldlaw10_RopeMemory.j0] at H
    by_cases c38 : x74_7 = true
    ·
     subst c38
     have H1 : (none) = some r := by rw [if_pos rfl] at H; exact H
     clear H
     have H := H1
     clear H1
     exact absurd H (by simp)
    replace c38 := Bool.eq_false_iff.mpr c38
    subst c38
    have H1 : (if t179 = 0 then ((some (([] : List Int) : List Int)).bind fun y202 => (if 0 ≤ a1 then (if a1 ≤ (t177.length : Int) then ((some (t177.take (a1 : Int).toNat : List Int)).bind fun y205 => (if y202.length + y205.length < 140737488355328 then ((some (y202 ++ y205 : List Int)).bind fun y209 => (if y209.length + y209.length < 140737488355328 then (if a1 ≤ (t184.length : Int) then (if a1 ≤ (t185.length : Int) then ((rope_Turn.f kj7 (y209 ++ y209) (wrap64 (2 * a1)) (t184.take (a1 : Int).toNat) (t185.take (a1 : Int).toNat)).bind fun bt223 => (if bt223.2 = 0 then (heraldlaw10_RopeMemory.j1 kj7 a0 a1 t177 t178 t184 t185 t191 t192 bt223.1 ((bt223.1.length : Int) == 0)) else (heraldlaw10_RopeMemory.j1 kj7 a0 a1 t177 t178 t184 t185 t191 t192 bt223.1 true))) else (none)) else (none)) else (none))) else (none))) else (none)) else (none))) else (some true)) = some r := by rw [if_neg (show ¬ (false = true) by decide)] at H; exact H
    clear H
    have H := H1
    clear H1
    by_cases c39 : t179 = 0
    ·
     rw [if_pos c39] at H
     have c39b0 : (t179 == 0) = true := beq_iff_eq.mpr c39
     have c39b1 : (t179 != 0) = false := bne_eq_false_iff_eq.mpr c39
     clear c39
     obtain ⟨y202, hy202⟩ : ∃ y_ : List Int, y_ = (([] : List Int)) := ⟨_, rfl⟩
     replace H : (if 0 ≤ a1 then (if a1 ≤ (t177.length : Int) then ((some (t177.take (a1 : Int).toNat : List Int)).bind fun y205 => (if y202.length + y205.length < 140737488355328 then ((some (y202 ++ y205 : List Int)).bind fun y209 => (if y209.length + y209.length < 140737488355328 then (if a1 ≤ (t184.length : Int) then (if a1 ≤ (t185.length : Int) then ((rope_Turn.f kj7 (y209 ++ y209) (wrap64 (2 * a1)) (t184.take (a1 : Int).toNat) (t185.take (a1 : Int).toNat)).bind fun bt223 => (if bt223.2 = 0 then (heraldlaw10_RopeMemory.j1 kj7 a0 a1 t177 t178 t184 t185 t191 t192 bt223.1 ((bt223.1.length : Int) == 0)) else (heraldlaw10_RopeMemory.j1 kj7 a0 a1 t177 t178 t184 t185 t191 t192 bt223.1 true))) else (none)) else (none)) else (none))) else (none))) else (none)) else (none)) = some r := by first | (rw [hy202]; with_reducible exact H) | (have H2_ := (Option.bind_some _ _).symm.trans H; rw [hy202]; with_reducible exact H2_) | (have H2_ := (Option.bind_some _ _).symm.trans H; with_reducible exact H2_) | with_reducible exact H | (rw [hy202]; exact H) | exact H
     have Ny202 := ym hy202
     clear hy202
     by_cases c40 : 0 ≤ a1
     ·
      rw [if_pos c40] at H
      have c40b0 := eq_true c40
      have c40b1 : decide (0 ≤ a1) = true := decide_eq_true c40
      clear c40
      by_cases c41 : a1 ≤ (t177.length : Int)
      ·
       rw [if_pos c41] at H
       have c41b0 := eq_true c41
       have c41b1 : decide (a1 ≤ (t177.length : Int)) = true := decide_eq_true c41
       clear c41
       obtain ⟨y205, hy205⟩ : ∃ y_ : List Int, y_ = (t177.take (a1 : Int).toNat) := ⟨_, rfl⟩
       replace H : (if y202.length + y205.length < 140737488355328 then ((some (y202 ++ y205 : List Int)).bind fun y209 => (if y209.length + y209.length < 140737488355328 then (if a1 ≤ (t184.length : Int) then (if a1 ≤ (t185.length : Int) then ((rope_Turn.f kj7 (y209 ++ y209) (wrap64 (2 * a1)) (t184.take (a1 : Int).toNat) (t185.take (a1 : Int).toNat)).bind fun bt223 => (if bt223.2 = 0 then (heraldlaw10_RopeMemory.j1 kj7 a0 a1 t177 t178 t184 t185 t191 t192 bt223.1 ((bt223.1.length : Int) == 0)) else (heraldlaw10_RopeMemory.j1 kj7 a0 a1 t177 t178 t184 t185 t191 t192 bt223.1 true))) else (none)) else (none)) else (none))) else (none)) = some r := by first | (rw [hy205]; with_reducible exact H) | (have H2_ := (Option.bind_some _ _).symm.trans H; rw [hy205]; with_reducible exact H2_) | (have H2_ := (Option.bind_some _ _).symm.trans H; with_reducible exact H2_) | with_reducible exact H | (rw [hy205]; exact H) | exact H
       have Ny205 := ym hy205
       clear hy205
       by_cases c42 : y202.length + y205.length < 140737488355328
       ·
        rw [if_pos c42] at H
        have LMc42 := ym c42
        clear c42
        obtain ⟨y209, hy209⟩ : ∃ y_ : List Int, y_ = (y202 ++ y205) := ⟨_, rfl⟩
        replace H : (if y209.length + y209.length < 140737488355328 then (if a1 ≤ (t184.length : Int) then (if a1 ≤ (t185.length : Int) then ((rope_Turn.f kj7 (y209 ++ y209) (wrap64 (2 * a1)) (t184.take (a1 : Int).toNat) (t185.take (a1 : Int).toNat)).bind fun bt223 => (if bt223.2 = 0 then (heraldlaw10_RopeMemory.j1 kj7 a0 a1 t177 t178 t184 t185 t191 t192 bt223.1 ((bt223.1.length : Int) == 0)) else (heraldlaw10_RopeMemory.j1 kj7 a0 a1 t177 t178 t184 t185 t191 t192 bt223.1 true))) else (none)) else (none)) else (none)) = some r := by first | (rw [hy209]; with_reducible exact H) | (have H2_ := (Option.bind_some _ _).symm.trans H; rw [hy209]; with_reducible exact H2_) | (have H2_ := (Option.bind_some _ _).symm.trans H; with_reducible exact H2_) | with_reducible exact H | (rw [hy209]; exact H) | exact H
        have Ny209 := ym hy209
        clear hy209
        by_cases c43 : y209.length + y209.length < 140737488355328
        ·
         rw [if_pos c43] at H
         have LMc43 := ym c43
         clear c43
         obtain ⟨y212, hy212⟩ : ∃ y_ : List Int, y_ = (y209 ++ y209) := ⟨_, rfl⟩
         replace H : (if a1 ≤ (t184.length : Int) then (if a1 ≤ (t185.length : Int) then ((rope_Turn.f kj7 y212 (wrap64 (2 * a1)) (t184.take (a1 : Int).toNat) (t185.take (a1 : Int).toNat)).bind fun bt223 => (if bt223.2 = 0 then (heraldlaw10_RopeMemory.j1 kj7 a0 a1 t177 t178 t184 t185 t191 t192 bt223.1 ((bt223.1.length : Int) == 0)) else (heraldlaw10_RopeMemory.j1 kj7 a0 a1 t177 t178 t184 t185 t191 t192 bt223.1 true))) else (none)) else (none)) = some r := by first | (rw [hy212]; with_reducible exact H) | (have H2_ := (Option.bind_some _ _).symm.trans H; rw [hy212]; with_reducible exact H2_) | (have H2_ := (Option.bind_some _ _).symm.trans H; with_reducible exact H2_) | with_reducible exact H | (rw [hy212]; exact H) | exact H
         have Ny212 := ym hy212
         clear hy212
         have c44b0 := eq_true (of_decide_eq_true (by first | (with_reducible assumption) | assumption) : 0 ≤ a1)
         by_cases c45 : a1 ≤ (t184.length : Int)
         ·
          rw [if_pos c45] at H
          have c45b0 := eq_true c45
          have c45b1 : decide (a1 ≤ (t184.length : Int)) = true := decide_eq_true c45
          clear c45
          obtain ⟨y215, hy215⟩ : ∃ y_ : List Int, y_ = (t184.take (a1 : Int).toNat) := ⟨_, rfl⟩
          replace H : (if a1 ≤ (t185.length : Int) then ((rope_Turn.f kj7 y212 (wrap64 (2 * a1)) y215 (t185.take (a1 : Int).toNat)).bind fun bt223 => (if bt223.2 = 0 then (heraldlaw10_RopeMemory.j1 kj7 a0 a1 t177 t178 t184 t185 t191 t192 bt223.1 ((bt223.1.length : Int) == 0)) else (heraldlaw10_RopeMemory.j1 kj7 a0 a1 t177 t178 t184 t185 t191 t192 bt223.1 true))) else (none)) = some r := by first | (rw [hy215]; with_reducible exact H) | (have H2_ := (Option.bind_some _ _).symm.trans H; rw [hy215]; with_reducible exact H2_) | (have H2_ := (Option.bind_some _ _).symm.trans H; with_reducible exact H2_) | with_reducible exact H | (rw [hy215]; exact H) | exact H
          have Ny215 := ym hy215
          clear hy215
          have c46b0 := eq_true (of_decide_eq_true (by first | (with_reducible assumption) | assumption) : 0 ≤ a1)
          by_cases c47 : a1 ≤ (t185.length : Int)
          ·
           rw [if_pos c47] at H
           have c47b0 := eq_true c47
           have c47b1 : decide (a1 ≤ (t185.length : Int)) = true := decide_eq_true c47
           clear c47
           obtain ⟨y219, hy219⟩ : ∃ y_ : List Int, y_ = (t185.take (a1 : Int).toNat) := ⟨_, rfl⟩
           replace H : ((rope_Turn.f kj7 y212 (wrap64 (2 * a1)) y215 y219).bind fun bt223 => (if bt223.2 = 0 then (heraldlaw10_RopeMemory.j1 kj7 a0 a1 t177 t178 t184 t185 t191 t192 bt223.1 ((bt223.1.length : Int) == 0)) else (heraldlaw10_RopeMemory.j1 kj7 a0 a1 t177 t178 t184 t185 t191 t192 bt223.1 true))) = some r := by first | (rw [hy219]; with_reducible exact H) | (have H2_ := (Option.bind_some _ _).symm.trans H; rw [hy219]; with_reducible exact H2_) | (have H2_ := (Option.bind_some _ _).symm.trans H; with_reducible exact H2_) | with_reducible exact H | (rw [hy219]; exact H) | exact H
           have Ny219 := ym hy219
           clear hy219
           replace H := Option.bind_eq_some_iff.mp H
           obtain ⟨⟨t223, t224⟩, A480, H⟩ := H
           replace H : (if t224 = 0 then (heraldlaw10_RopeMemory.j1 kj7 a0 a1 t177 t178 t184 t185 t191 t192 t223 ((t223.length : Int) == 0)) else (heraldlaw10_RopeMemory.j1 kj7 a0 a1 t177 t178 t184 t185 t191 t192 t223 true)) = some r := H
           have A48 := ym A480
           clear A480
           have HC49 := ym H
           clear H
           try go_wp2_with (first | ((with_reducible refine gate_dst (N := 77) rfl ?_); (try (refine gate_guard (by rfl) ?_; dsimp only)); refine Kd.R_lit (Kd.int .i8) _ 33 ?hg (N := 77) ?hd (xs := ([] : List Int)) (inner := []) (ok := fun _ => True) (okp := fun _ => True) ?hr ?hp (fun _ hk => hk) trivial (Below.refl _ _) (Nat.le_refl _) (by simp) ?_; (case hd => rfl); (case hg => rfl); (case hr => first | (go_simp; done) | (go_simp; rfl)); (case hp => exact (Reps.none _ _)); intro v203 w50 ho51 hb hg_ hnew_; clear hg_ hnew_; (first | rw [← Ny202.out] at ho51 | (simp only [Int.reduceToNat] at ho51; rw [← Ny202.out] at ho51)); have n0_ := ym (Kd.R_elder' (by (with_reducible repeat apply y2); exact HO_5.out) (Kd.R_base ho51) hb); have n1_ := ym (Kd.R_elder' (by (with_reducible repeat apply y2); exact HO_6.out) (Kd.R_base ho51) hb); have n2_ := ym (Kd.R_elder' (by (with_reducible repeat apply y2); exact HO_8.out) (Kd.R_base ho51) hb); have n3_ := ym (Kd.R_elder' (by (with_reducible repeat apply y2); exact HO_9.out) (Kd.R_base ho51) hb); have n4_ := ym (Kd.R_elder' (by (with_reducible repeat apply y2); exact HO_11.out) (Kd.R_base ho51) hb); have n5_ := ym (Kd.R_elder' (by (with_reducible repeat apply y2); exact HO_12.out) (Kd.R_base ho51) hb); have n6_ := ym (yo (Kd.R_new' (Kd.R_new' (Kd.R_new' (Kd.R_new' (Kd.R_new' (Kd.R_new' ho51 (Kd.R_lt (by (with_reducible repeat apply y2); exact HO_5.out))) (Kd.R_lt (by (with_reducible repeat apply y2); exact HO_6.out))) (Kd.R_lt (by (with_reducible repeat apply y2); exact HO_8.out))) (Kd.R_lt (by (with_reducible repeat apply y2); exact HO_9.out))) (Kd.R_lt (by (with_reducible repeat apply y2); exact HO_11.out))) (Kd.R_lt (by (with_reducible repeat apply y2); exact HO_12.out))) (below_size (by repeat (first | (with_reducible first | exact HB.out | apply y3) | exact HB.out)))); have n7_ := ym (yn (by repeat (first | (with_reducible first | exact HB.out | apply y3) | exact HB.out)) hb); clear HO_5; clear HO_6; clear HO_8; clear HO_9; clear HO_11; clear HO_12; clear HB; have HO_5 := n0_; have HO_6 := n1_; have HO_8 := n2_; have HO_9 := n3_; have HO_11 := n4_; have HO_12 := n5_; have HO204 := n6_; have HB := n7_; clear n0_ n1_ n2_ n3_ n4_ n5_ n6_ n7_; clear hb ho51; obtain ⟨Ao53, co53, eo53⟩ := Kd.R_slice HO_5.out; subst eo53; have q52 : (a1 : Int) ≤ ((t177.length : Int) : Int) := of_decide_eq_true (by first | (with_reducible assumption) | assumption); obtain ⟨i052, hi052, _, hsz52, _⟩ := info_parts info33; have hroom52 : t177.length ≤ co53 := (Kd.R_reads' HO_5.out).2.1; have hC52 : Kd.C (Kd.int .i8) _ Ao53 t177.length t177 := (Kd.R_reads' HO_5.out).2.2; have hcut52 := cut_to (P := Tryd.prog) 22 33 .i64 Tryd.underlying22 hi052 Ao53 t177.length co53 a1 (of_decide_eq_true (by first | (with_reducible assumption) | assumption)) q52 hroom52; have hr52 := Kd.C_take (m := (a1 : Int).toNat) hC52 (by omega); have hy52 : y205.length = (a1 : Int).toNat := (by rw [Ny205.out, List.length_take]; omega); rw [← Ny205.out] at hr52; rw [← hy52] at hcut52; have HR208 := ym hr52; have HC208 := ym (show y205.length ≤ co53 from by omega); clear hr52 hC52 hroom52 hi052 hsz52; have KY52 := ym hy52; clear hy52; have KL52 := ym (show (a1 : Int).toNat ≤ t177.length from by omega); replace q52 := eq_true q52) | ((with_reducible refine gate_builtin (b := .append) (xs := #[.tmp 77, .tmp 80]) rfl ?_); (try (refine gate_guard (by rfl) ?_; dsimp only)); at_builtin; refine Kd.R_append_rows (Kd.int .i8) (w0 := w) w.heap.size rfl (.tmp 77) (.tmp 80) 22 33 (.int .i8 0) 1 rfl Tryd.underlying22 info33 rfl (by decide) (by omega) v203 y202 y205 _ _ _ (fun k_ => some k_ ≠ (.slice Ao53 t177.length co53 : Value).ownBlock ∧ some k_ ≠ (v182 : Value).ownBlock ∧ some k_ ≠ (v187 : Value).ownBlock ∧ some k_ ≠ (v189 : Value).ownBlock ∧ some k_ ≠ (v194 : Value).ownBlock ∧ some k_ ≠ (v196 : Value).ownBlock) (fun _ => False) rfl rfl ?aO ?aR (fun _ _ h => h) (fun _ h => h.elim) ?aF ?aB ?aS ?aL ?_; (case aR => repeat (first | exact (by repeat (first | (with_reducible exact HR208.out) | (with_reducible refine yi ?_ _) | (with_reducible refine yj ?_ _) | (with_reducible refine yk ?_) | exact HR208.out)) | (with_reducible refine yi ?_ _) | (with_reducible refine yj ?_ _) | (with_reducible refine yk ?_))); (case aB => exact (by repeat (first | (with_reducible first | exact HB.out | apply y3) | exact HB.out))); (case aF => exact (fun k_ hk => ⟨Kd.fresh' (Kd.R_lt (by (with_reducible repeat apply y2); exact HO_5.out)) k_ hk, Kd.fresh' (Kd.R_lt (by (with_reducible repeat apply y2); exact HO_6.out)) k_ hk, Kd.fresh' (Kd.R_lt (by (with_reducible repeat apply y2); exact HO_8.out)) k_ hk, Kd.fresh' (Kd.R_lt (by (with_reducible repeat apply y2); exact HO_9.out)) k_ hk, Kd.fresh' (Kd.R_lt (by (with_reducible repeat apply y2); exact HO_11.out)) k_ hk, Kd.fresh' (Kd.R_lt (by (with_reducible repeat apply y2); exact HO_12.out)) k_ hk⟩)); (case aO => exact (by (with_reducible repeat apply y2); exact Kd.R_mono HO204.out (fun _ hk => ⟨hk.1.1.1.1.1.2, ⟨hk.1.1.1.1.2, ⟨hk.1.1.1.2, ⟨hk.1.1.2, ⟨hk.1.2, hk.2⟩⟩⟩⟩⟩))); (case aS => exact (below_size (by repeat (first | (with_reducible first | exact HB.out | apply y3) | exact HB.out)))); (case aL => have := LMc42.out; omega); intro v210 w54 ho hb hg hat; rw [← Ny209.out] at ho; have n0_ := ym (Kd.R_after (ok := (fun k_ => some k_ ≠ (v182 : Value).ownBlock ∧ some k_ ≠ (v187 : Value).ownBlock ∧ some k_ ≠ (v189 : Value).ownBlock ∧ some k_ ≠ (v194 : Value).ownBlock ∧ some k_ ≠ (v196 : Value).ownBlock)) (by (with_reducible repeat apply y2); exact HO_5.out) hg hat); have n1_ := ym (Kd.R_after (ok := (fun k_ => some k_ ≠ (.slice Ao53 t177.length co53 : Value).ownBlock ∧ some k_ ≠ (v187 : Value).ownBlock ∧ some k_ ≠ (v189 : Value).ownBlock ∧ some k_ ≠ (v194 : Value).ownBlock ∧ some k_ ≠ (v196 : Value).ownBlock)) (by (with_reducible repeat apply y2); exact HO_6.out) hg hat); have n2_ := ym (Kd.R_after (ok := (fun k_ => some k_ ≠ (.slice Ao53 t177.length co53 : Value).ownBlock ∧ some k_ ≠ (v182 : Value).ownBlock ∧ some k_ ≠ (v189 : Value).ownBlock ∧ some k_ ≠ (v194 : Value).ownBlock ∧ some k_ ≠ (v196 : Value).ownBlock)) (by (with_reducible repeat apply y2); exact HO_8.out) hg hat); have n3_ := ym (Kd.R_after (ok := (fun k_ => some k_ ≠ (.slice Ao53 t177.length co53 : Value).ownBlock ∧ some k_ ≠ (v182 : Value).ownBlock ∧ some k_ ≠ (v187 : Value).ownBlock ∧ some k_ ≠ (v194 : Value).ownBlock ∧ some k_ ≠ (v196 : Value).ownBlock)) (by (with_reducible repeat apply y2); exact HO_9.out) hg hat); have n4_ := ym (Kd.R_after (ok := (fun k_ => some k_ ≠ (.slice Ao53 t177.length co53 : Value).ownBlock ∧ some k_ ≠ (v182 : Value).ownBlock ∧ some k_ ≠ (v187 : Value).ownBlock ∧ some k_ ≠ (v189 : Value).ownBlock ∧ some k_ ≠ (v196 : Value).ownBlock)) (by (with_reducible repeat apply y2); exact HO_11.out) hg hat); have n5_ := ym (Kd.R_after (ok := (fun k_ => some k_ ≠ (.slice Ao53 t177.length co53 : Value).ownBlock ∧ some k_ ≠ (v182 : Value).ownBlock ∧ some k_ ≠ (v187 : Value).ownBlock ∧ some k_ ≠ (v189 : Value).ownBlock ∧ some k_ ≠ (v194 : Value).ownBlock)) (by (with_reducible repeat apply y2); exact HO_12.out) hg hat); have n6_ := ym (hb); have n7_ := ym ((show Kd.C (Kd.int .i8) w54 Ao53 y205.length y205 from by rw [Ny205.out]; exact Kd.C_take (m := (a1 : Int).toNat) ((Kd.R_reads' (Kd.R_after (ok := (fun k_ => some k_ ≠ (v182 : Value).ownBlock ∧ some k_ ≠ (v187 : Value).ownBlock ∧ some k_ ≠ (v189 : Value).ownBlock ∧ some k_ ≠ (v194 : Value).ownBlock ∧ some k_ ≠ (v196 : Value).ownBlock)) (by (with_reducible repeat apply y2); exact HO_5.out) hg hat)).2.2) KL52.out)); have n8_ := ym (ho); clear HO_5; clear HO_6; clear HO_8; clear HO_9; clear HO_11; clear HO_12; clear HB; clear HR208; clear HO204; have HO_5 := n0_; have HO_6 := n1_; have HO_8 := n2_; have HO_9 := n3_; have HO_11 := n4_; have HO_12 := n5_; have HB := n6_; have HR208 := n7_; have HO211 := n8_; clear n0_ n1_ n2_ n3_ n4_ n5_ n6_ n7_ n8_; clear ho hb hg hat))
           have n0_ := ym (yh HO_5.out)
           have n1_ := ym (yh HO_6.out)
           have n2_ := ym (yh HO_8.out)
           have n3_ := ym (yh HO_9.out)
           have n4_ := ym (yh HO_11.out)
           have n5_ := ym (yh HO_12.out)
           have n6_ := ym (yh HO211.out)
           have n7_ := ym (yk HR208.out)
           have n8_ := ym (ye HB.out)
           clear HO_5
           clear HO_6
           clear HO_8
           clear HO_9
           clear HO_11
           clear HO_12
           clear HO211
           clear HR208
           clear HB
           have HO_5 := n0_
           have HO_6 := n1_
           have HO_8 := n2_
           have HO_9 := n3_
           have HO_11 := n4_
           have HO_12 := n5_
           have HO211 := n6_
           have HR208 := n7_
           have HB := n8_
           clear n0_ n1_ n2_ n3_ n4_ n5_ n6_ n7_ n8_
           obtain ⟨Ao57, co57, eo57⟩ := Kd.R_slice HO_8.out
           (first | subst eo57 | (injection eo57 with f1_ f2_ f3_; have f4_ := f1_.symm; have f5_ := f3_.symm; clear f1_ f2_ f3_; subst f4_; subst f5_))
           have q56 : (a1 : Int) ≤ ((t184.length : Int) : Int) := of_decide_eq_true (by first | (with_reducible assumption) | assumption)
           obtain ⟨i056, hi056, _, hsz56, _⟩ := info_parts info33
           have hroom56 : t184.length ≤ co57 := (Kd.R_reads' HO_8.out).2.1
           have hC56 : Kd.C (Kd.int .i8) _ Ao57 t184.length t184 := (Kd.R_reads' HO_8.out).2.2
           have hcut56 := cut_to (P := Tryd.prog) 22 33 .i64 Tryd.underlying22 hi056 Ao57 t184.length co57 a1 (of_decide_eq_true (by first | (with_reducible assumption) | assumption)) q56 hroom56
           have hr56 := Kd.C_take (m := (a1 : Int).toNat) hC56 (by omega)
           have hy56 : y215.length = (a1 : Int).toNat := (by rw [Ny215.out, List.length_take]; omega)
           rw [← Ny215.out] at hr56
           rw [← hy56] at hcut56
           have HR218 := ym hr56
           have HC218 := ym (show y215.length ≤ co57 from by omega)
           clear hr56 hC56 hroom56 hi056 hsz56
           have KY56 := ym hy56
           clear hy56
           have KL56 := ym (show (a1 : Int).toNat ≤ t184.length from by omega)
           replace q56 := eq_true q56
           obtain ⟨Ao59, co59, eo59⟩ := Kd.R_slice HO_9.out
           (first | subst eo59 | (injection eo59 with f1_ f2_ f3_; have f4_ := f1_.symm; have f5_ := f3_.symm; clear f1_ f2_ f3_; subst f4_; subst f5_))
           have q58 : (a1 : Int) ≤ ((t185.length : Int) : Int) := of_decide_eq_true (by first | (with_reducible assumption) | assumption)
           obtain ⟨i058, hi058, _, hsz58, _⟩ := info_parts info33
           have hroom58 : t185.length ≤ co59 := (Kd.R_reads' HO_9.out).2.1
           have hC58 : Kd.C (Kd.int .i8) _ Ao59 t185.length t185 := (Kd.R_reads' HO_9.out).2.2
           have hcut58 := cut_to (P := Tryd.prog) 22 33 .i64 Tryd.underlying22 hi058 Ao59 t185.length co59 a1 (of_decide_eq_true (by first | (with_reducible assumption) | assumption)) q58 hroom58
           have hr58 := Kd.C_take (m := (a1 : Int).toNat) hC58 (by omega)
           have hy58 : y219.length = (a1 : Int).toNat := (by rw [Ny219.out, List.length_take]; omega)
           rw [← Ny219.out] at hr58
           rw [← hy58] at hcut58
           have HR222 := ym hr58
           have HC222 := ym (show y219.length ≤ co59 from by omega)
           clear hr58 hC58 hroom58 hi058 hsz58
           have KY58 := ym hy58
           clear hy58
           have KL58 := ym (show (a1 : Int).toNat ≤ t185.length from by omega)
           replace q58 := eq_true q58
           obtain ⟨Ao61, co61, eo61⟩ := Kd.R_slice HO211.out
           (first | subst eo61 | (injection eo61 with f1_ f2_ f3_; have f4_ := f1_.symm; have f5_ := f3_.symm; clear f1_ f2_ f3_; subst f4_; subst f5_))
           refine start_ (n := 17) (S := fun w' => True) (ds := []) #[false, false, false, false, false, false, false, false, false, false, false, false, false, false, false, false, false] (by kernel_rfl) rfl rfl trivial (fun hHeld => ?_); refine with_tabW heraldlaw10_RopeMemory.tab11 heraldlaw10_RopeMemory.bits11 (fun HT_ HW_ => ?_)
           generalize w54.drew = w55 at HO_5 HO_6 HO_8 HO_9 HO_11 HO_12 HO211 HR208 HB HR218 HR222 hHeld ⊢
           refine pure_ (i := 0) (N := some 83) (v := ?_) (a' := ?_) #[true, false, false, false, false, false, false, false, false, false, false, false, false, false, false, false, false] rfl rfl (any_of HT_.out (by kernel_rfl)) (fun _ _ _ h => h) (Or.inl ⟨by rfl, ?_⟩) ?_ ?_
           rotate_left
           ·
            intro w'
            go_simp
            with_reducible rfl
           rotate_left
           ·
            simp only [Act.put, y0, y1]
            rfl
           refine pure_ (i := 1) (N := some 84) (v := ?_) (a' := ?_) #[true, true, false, false, false, false, false, false, false, false, false, false, false, false, false, false, false] rfl rfl (any_of HT_.out (by kernel_rfl)) (fun _ _ _ h => h) (Or.inl ⟨by rfl, ?_⟩) ?_ ?_
           rotate_left
           ·
            intro w'
            go_simp
            with_reducible rfl
           rotate_left
           ·
            simp only [Act.put, y0, y1]
            rfl
           refine pure_ (i := 3) (N := some 86) (v := ?_) (a' := ?_) #[true, true, false, true, false, false, false, false, false, false, false, false, false, false, false, false, false] rfl rfl (any_of HT_.out (by kernel_rfl)) (fun _ _ _ h => h) (Or.inl ⟨by rfl, ?_⟩) ?_ ?_
           rotate_left
           ·
            intro w'
            go_simp
            with_reducible rfl
           rotate_left
           ·
            simp only [Act.put, y0, y1]
            rfl
           refine pure_ (i := 4) (N := some 87) (v := ?_) (a' := ?_) #[true, true, false, true, true, false, false, false, false, false, false, false, false, false, false, false, false] rfl rfl (any_of HT_.out (by kernel_rfl)) (fun _ _ _ h => h) (Or.inl ⟨by rfl, ?_⟩) ?_ ?_
           rotate_left
           ·
            intro w'
            go_simp
            with_reducible rfl
           rotate_left
           ·
            simp only [Act.put, y0, y1]
            rfl
           refine pure_ (i := 5) (N := some 88) (v := ?_) (a' := ?_) #[true, true, false, true, true, true, false, false, false, false, false, false, false, false, false, false, false] rfl rfl (any_of HT_.out (by kernel_rfl)) (fun _ _ _ h => h) (Or.inl ⟨by rfl, ?_⟩) ?_ ?_
           rotate_left
           ·
            intro w'
            go_simp
            with_reducible rfl
           rotate_left
           ·
            simp only [Act.put, y0, y1]
            rfl
           refine pure_ (i := 6) (N := some 89) (v := ?_) (a' := ?_) #[true, true, false, true, true, true, true, false, false, false, false, false, false, false, false, false, false] rfl rfl (any_of HT_.out (by kernel_rfl)) (fun _ _ _ h => h) (Or.inl ⟨by rfl, ?_⟩) ?_ ?_
           rotate_left
           ·
            intro w'
            go_simp
            with_reducible rfl
           rotate_left
           ·
            simp only [Act.put, y0, y1]
            rfl
           refine pure_ (i := 7) (N := some 90) (v := ?_) (a' := ?_) #[true, true, false, true, true, true, true, true, false, false, false, false, false, false, false, false, false] rfl rfl (any_of HT_.out (by kernel_rfl)) (fun _ _ _ h => h) (Or.inl ⟨by rfl, ?_⟩) ?_ ?_
           rotate_left
           ·
            intro w'
            go_simp
            with_reducible rfl
           rotate_left
           ·
            simp only [Act.put, y0, y1]
            rfl
           refine pure_ (i := 8) (N := some 91) (v := ?_) (a' := ?_) #[true, true, false, true, true, true, true, true, true, false, false, false, false, false, false, false, false] rfl rfl (any_of HT_.out (by kernel_rfl)) (fun _ _ _ h => h) (Or.inl ⟨by rfl, ?_⟩) ?_ ?_
           rotate_left
           ·
            intro w'
            go_simp
            with_reducible rfl
           rotate_left
           ·
            simp only [Act.put, y0, y1]
            rfl
           refine pure_ (i := 9) (N := some 92) (v := ?_) (a' := ?_) #[true, true, false, true, true, true, true, true, true, true, false, false, false, false, false, false, false] rfl rfl (any_of HT_.out (by kernel_rfl)) (fun _ _ _ h => h) (Or.inl ⟨by rfl, ?_⟩) ?_ ?_
           rotate_left
           ·
            intro w'
            go_simp
            with_reducible rfl
           rotate_left
           ·
            simp only [Act.put, y0, y1]
            rfl
           refine pure_ (i := 10) (N := some 93) (v := ?_) (a' := ?_) #[true, true, false, true, true, true, true, true, true, true, true, false, false, false, false, false, false] rfl rfl (any_of HT_.out (by kernel_rfl)) (fun _ _ _ h => h) (Or.inl ⟨by rfl, ?_⟩) ?_ ?_
           rotate_left
           ·
            intro w'
            go_simp
            with_reducible rfl
           rotate_left
           ·
            simp only [Act.put, y0, y1]
            rfl
           refine one_ (i := 2) (N := some 85) #[true, true, true, true, true, true, true, true, true, true, true, false, false, false, false, false, false] rfl rfl (one_of HT_.out (by kernel_rfl)) (by decide) (fun K hK => ?_)
           refine Kd.R_append_rows_step (Kd.int .i8) (w0 := w) w.heap.size (by rfl) (.tmp 83) (.tmp 84) 22 33 (.int .i8 0) 1 rfl Tryd.underlying22 info33 rfl (by decide) (by omega) (.slice Ao61 y209.length co61) y209 y209 _ _ _ (fun k_ => some k_ ≠ (.slice Ao53 t177.length co53 : Value).ownBlock ∧ some k_ ≠ (v182 : Value).ownBlock ∧ some k_ ≠ (.slice Ao57 t184.length co57 : Value).ownBlock ∧ some k_ ≠ (.slice Ao59 t185.length co59 : Value).ownBlock ∧ some k_ ≠ (v194 : Value).ownBlock ∧ some k_ ≠ (v196 : Value).ownBlock) (fun _ => False) rfl rfl ?aO ?aR (fun _ _ h => h) (fun _ h => h.elim) ?aF ?aB ?aS ?aL ?_
           (case aR => repeat (first | exact (Kd.R_reads' HO211.out).2.2 | (with_reducible refine yi ?_ _) | (with_reducible refine yj ?_ _) | (with_reducible refine yk ?_)))
           (case aB => exact (by repeat (first | (with_reducible first | exact HB.out | apply y3) | exact HB.out)))
           (case aF => exact (fun k_ hk => ⟨Kd.fresh' (Kd.R_lt (by (with_reducible repeat apply y2); exact HO_5.out)) k_ hk, Kd.fresh' (Kd.R_lt (by (with_reducible repeat apply y2); exact HO_6.out)) k_ hk, Kd.fresh' (Kd.R_lt (by (with_reducible repeat apply y2); exact HO_8.out)) k_ hk, Kd.fresh' (Kd.R_lt (by (with_reducible repeat apply y2); exact HO_9.out)) k_ hk, Kd.fresh' (Kd.R_lt (by (with_reducible repeat apply y2); exact HO_11.out)) k_ hk, Kd.fresh' (Kd.R_lt (by (with_reducible repeat apply y2); exact HO_12.out)) k_ hk⟩))
           (case aO => exact (by (with_reducible repeat apply y2); exact HO211.out))
           (case aS => exact (below_size (by repeat (first | (with_reducible first | exact HB.out | apply y3) | exact HB.out))))
           (case aL => have := LMc43.out; omega)
           intro v213 w60 ho hb hg hat
           rw [← Ny212.out] at ho
           have n0_ := ym (Kd.R_after (ok := (fun k_ => some k_ ≠ (v182 : Value).ownBlock ∧ some k_ ≠ (.slice Ao57 t184.length co57 : Value).ownBlock ∧ some k_ ≠ (.slice Ao59 t185.length co59 : Value).ownBlock ∧ some k_ ≠ (v194 : Value).ownBlock ∧ some k_ ≠ (v196 : Value).ownBlock)) (by (with_reducible repeat apply y2); exact HO_5.out) hg hat)
           have n1_ := ym (Kd.R_after (ok := (fun k_ => some k_ ≠ (.slice Ao53 t177.length co53 : Value).ownBlock ∧ some k_ ≠ (.slice Ao57 t184.length co57 : Value).ownBlock ∧ some k_ ≠ (.slice Ao59 t185.length co59 : Value).ownBlock ∧ some k_ ≠ (v194 : Value).ownBlock ∧ some k_ ≠ (v196 : Value).ownBlock)) (by (with_reducible repeat apply y2); exact HO_6.out) hg hat)
           have n2_ := ym (Kd.R_after (ok := (fun k_ => some k_ ≠ (.slice Ao53 t177.length co53 : Value).ownBlock ∧ some k_ ≠ (v182 : Value).ownBlock ∧ some k_ ≠ (.slice Ao59 t185.length co59 : Value).ownBlock ∧ some k_ ≠ (v194 : Value).ownBlock ∧ some k_ ≠ (v196 : Value).ownBlock)) (by (with_reducible repeat apply y2); exact HO_8.out) hg hat)
           have n3_ := ym (Kd.R_after (ok := (fun k_ => some k_ ≠ (.slice Ao53 t177.length co53 : Value).ownBlock ∧ some k_ ≠ (v182 : Value).ownBlock ∧ some k_ ≠ (.slice Ao57 t184.length co57 : Value).ownBlock ∧ some k_ ≠ (v194 : Value).ownBlock ∧ some k_ ≠ (v196 : Value).ownBlock)) (by (with_reducible repeat apply y2); exact HO_9.out) hg hat)
           have n4_ := ym (Kd.R_after (ok := (fun k_ => some k_ ≠ (.slice Ao53 t177.length co53 : Value).ownBlock ∧ some k_ ≠ (v182 : Value).ownBlock ∧ some k_ ≠ (.slice Ao57 t184.length co57 : Value).ownBlock ∧ some k_ ≠ (.slice Ao59 t185.length co59 : Value).ownBlock ∧ some k_ ≠ (v196 : Value).ownBlock)) (by (with_reducible repeat apply y2); exact HO_11.out) hg hat)
           have n5_ := ym (Kd.R_after (ok := (fun k_ => some k_ ≠ (.slice Ao53 t177.length co53 : Value).ownBlock ∧ some k_ ≠ (v182 : Value).ownBlock ∧ some k_ ≠ (.slice Ao57 t184.length co57 : Value).ownBlock ∧ some k_ ≠ (.slice Ao59 t185.length co59 : Value).ownBlock ∧ some k_ ≠ (v194 : Value).ownBlock)) (by (with_reducible repeat apply y2); exact HO_12.out) hg hat)
           have n6_ := ym (hb)
           have n7_ := ym ((show Kd.C (Kd.int .i8) w60 Ao53 y205.length y205 from by rw [Ny205.out]; exact Kd.C_take (m := (a1 : Int).toNat) ((Kd.R_reads' (Kd.R_after (ok := (fun k_ => some k_ ≠ (v182 : Value).ownBlock ∧ some k_ ≠ (.slice Ao57 t184.length co57 : Value).ownBlock ∧ some k_ ≠ (.slice Ao59 t185.length co59 : Value).ownBlock ∧ some k_ ≠ (v194 : Value).ownBlock ∧ some k_ ≠ (v196 : Value).ownBlock)) (by (with_reducible repeat apply y2); exact HO_5.out) hg hat)).2.2) KL52.out))
           have n8_ := ym ((show Kd.C (Kd.int .i8) w60 Ao57 y215.length y215 from by rw [Ny215.out]; exact Kd.C_take (m := (a1 : Int).toNat) ((Kd.R_reads' (Kd.R_after (ok := (fun k_ => some k_ ≠ (.slice Ao53 t177.length co53 : Value).ownBlock ∧ some k_ ≠ (v182 : Value).ownBlock ∧ some k_ ≠ (.slice Ao59 t185.length co59 : Value).ownBlock ∧ some k_ ≠ (v194 : Value).ownBlock ∧ some k_ ≠ (v196 : Value).ownBlock)) (by (with_reducible repeat apply y2); exact HO_8.out) hg hat)).2.2) KL56.out))
           have n9_ := ym ((show Kd.C (Kd.int .i8) w60 Ao59 y219.length y219 from by rw [Ny219.out]; exact Kd.C_take (m := (a1 : Int).toNat) ((Kd.R_reads' (Kd.R_after (ok := (fun k_ => some k_ ≠ (.slice Ao53 t177.length co53 : Value).ownBlock ∧ some k_ ≠ (v182 : Value).ownBlock ∧ some k_ ≠ (.slice Ao57 t184.length co57 : Value).ownBlock ∧ some k_ ≠ (v194 : Value).ownBlock ∧ some k_ ≠ (v196 : Value).ownBlock)) (by (with_reducible repeat apply y2); exact HO_9.out) hg hat)).2.2) KL58.out))
           have n10_ := ym (ho)
           clear HO_5
           clear HO_6
           clear HO_8
           clear HO_9
           clear HO_11
           clear HO_12
           clear HB
           clear HR208
           clear HR218
           clear HR222
           clear HO211
           have HO_5 := n0_
           have HO_6 := n1_
           have HO_8 := n2_
           have HO_9 := n3_
           have HO_11 := n4_
           have HO_12 := n5_
           have HB := n6_
           have HR208 := n7_
           have HR218 := n8_
           have HR222 := n9_
           have HO214 := n10_
           clear n0_ n1_ n2_ n3_ n4_ n5_ n6_ n7_ n8_ n9_ n10_
           clear ho hb hg hat
           obtain ⟨Ao62, co62, eo62⟩ := Kd.R_slice HO214.out
           (first | subst eo62 | (injection eo62 with f1_ f2_ f3_; have f4_ := f1_.symm; have f5_ := f3_.symm; clear f1_ f2_ f3_; subst f4_; subst f5_))
           refine hK.out _ _ trivial (fun hHeld => ?_)
           clear hK K
           refine norm_ (a' := ?_) ?_ ?_
           rotate_left
           ·
            show Act.put _ (some 85) _ = _
            simp only [Act.put, y0, y1]
            rfl
           refine one_ (i := 11) (N := some 94) #[true, true, true, true, true, true, true, true, true, true, true, true, false, false, false, false, false] rfl rfl (one_of HT_.out (by kernel_rfl)) (by decide) (fun K hK => ?_)
           refine goes_ Tryd.func11 (by kernel_rfl) rfl #[.slice Ao62 y212.length co62, .int .i64 (wrap64 (2 * a1)), .slice Ao57 y215.length co57, .slice Ao59 y219.length co59] (by rfl) rfl rfl (by (try simp only [List.map_toArray, List.map_cons, List.map_nil]); first | done | rfl | (simp only [List.length_drop, List.length_take]; rfl)) ?_
           with_reducible refine (rope_Turn.calls kj7 _ _ y212 (wrap64 (2 * a1)) _ _ y215 _ _ y219 t223 t224 _ ?side1 ?side2 ?side3 ?side4 ?side5 ?side6 A48.out).mono ?_
           (case side1 => repeat (first | exact (Kd.R_reads' HO214.out).2.2 | (with_reducible refine yi ?_ _) | (with_reducible refine yj ?_ _) | (with_reducible refine yk ?_)))
           (case side2 => exact (Kd.R_reads' HO214.out).2.1)
           (case side3 => repeat (first | exact (by repeat (first | (with_reducible exact HR218.out) | (with_reducible refine yi ?_ _) | (with_reducible refine yj ?_ _) | (with_reducible refine yk ?_) | exact HR218.out)) | (with_reducible refine yi ?_ _) | (with_reducible refine yj ?_ _) | (with_reducible refine yk ?_)))
           (case side4 => exact HC218.out)
           (case side5 => repeat (first | exact (by repeat (first | (with_reducible exact HR222.out) | (with_reducible refine yi ?_ _) | (with_reducible refine yj ?_ _) | (with_reducible refine yk ?_) | exact HR222.out)) | (with_reducible refine yi ?_ _) | (with_reducible refine yj ?_ _) | (with_reducible refine yk ?_)))
           (case side6 => exact HC222.out)
           rintro e w63 ⟨v225, rfl, ho0, hb⟩
           refine ⟨_, rfl, ?_⟩
           have n0_ := ym (Kd.R_elder' (by (with_reducible repeat apply y2); exact HO_5.out) (Kd.R_base ho0) hb)
           have n1_ := ym (Kd.R_elder' (by (with_reducible repeat apply y2); exact HO_6.out) (Kd.R_base ho0) hb)
           have n2_ := ym (Kd.R_elder' (by (with_reducible repeat apply y2); exact HO_8.out) (Kd.R_base ho0) hb)
           have n3_ := ym (Kd.R_elder' (by (with_reducible repeat apply y2); exact HO_9.out) (Kd.R_base ho0) hb)
           have n4_ := ym (Kd.R_elder' (by (with_reducible repeat apply y2); exact HO_11.out) (Kd.R_base ho0) hb)
           have n5_ := ym (Kd.R_elder' (by (with_reducible repeat apply y2); exact HO_12.out) (Kd.R_base ho0) hb)
           have n6_ := ym (Kd.R_elder' (by (with_reducible repeat apply y2); exact HO214.out) (Kd.R_base ho0) hb)
           have n7_ := ym (yo (Kd.R_new' (Kd.R_new' (Kd.R_new' (Kd.R_new' (Kd.R_new' (Kd.R_new' (Kd.R_new' ho0 (Kd.R_lt (by (with_reducible repeat apply y2); exact HO_5.out))) (Kd.R_lt (by (with_reducible repeat apply y2); exact HO_6.out))) (Kd.R_lt (by (with_reducible repeat apply y2); exact HO_8.out))) (Kd.R_lt (by (with_reducible repeat apply y2); exact HO_9.out))) (Kd.R_lt (by (with_reducible repeat apply y2); exact HO_11.out))) (Kd.R_lt (by (with_reducible repeat apply y2); exact HO_12.out))) (Kd.R_lt (by (with_reducible repeat apply y2); exact HO214.out))) (below_size (by repeat (first | (with_reducible first | exact HB.out | apply y3) | exact HB.out))))
           have n8_ := ym (Kd.C_below (by repeat (first | (with_reducible exact HR208.out) | (with_reducible refine yi ?_ _) | (with_reducible refine yj ?_ _) | (with_reducible refine yk ?_) | exact HR208.out)) hb)
           have n9_ := ym (Kd.C_below (by repeat (first | (with_reducible exact HR218.out) | (with_reducible refine yi ?_ _) | (with_reducible refine yj ?_ _) | (with_reducible refine yk ?_) | exact HR218.out)) hb)
           have n10_ := ym (Kd.C_below (by repeat (first | (with_reducible exact HR222.out) | (with_reducible refine yi ?_ _) | (with_reducible refine yj ?_ _) | (with_reducible refine yk ?_) | exact HR222.out)) hb)
           have n11_ := ym (yn (by repeat (first | (with_reducible first | exact HB.out | apply y3) | exact HB.out)) hb)
           clear HO_5
           clear HO_6
           clear HO_8
           clear HO_9
           clear HO_11
           clear HO_12
           clear HO214
           clear HR208
           clear HR218
           clear HR222
           clear HB
           have HO_5 := n0_
           have HO_6 := n1_
           have HO_8 := n2_
           have HO_9 := n3_
           have HO_11 := n4_
           have HO_12 := n5_
           have HO214 := n6_
           have HO226 := n7_
           have HR208 := n8_
           have HR218 := n9_
           have HR222 := n10_
           have HB := n11_
           clear n0_ n1_ n2_ n3_ n4_ n5_ n6_ n7_ n8_ n9_ n10_ n11_
           (try clear hb)
           (try clear hb2)
           (try clear hk)
           (try clear hi)
           (try clear ho0)
           refine hK.out _ _ trivial (fun hHeld => ?_)
           clear hK K
           refine norm_ (a' := ?_) ?_ ?_
           rotate_left
           ·
            show Act.put _ (some 94) _ = _
            simp only [Act.put, y0, y1]
            rfl
           refine pure_ (i := 12) (N := some 82) (v := ?_) (a' := ?_) #[true, true, true, true, true, true, true, true, true, true, true, true, true, false, false, false, false] rfl rfl (any_of HT_.out (by kernel_rfl)) (fun _ _ _ h => h) (Or.inl ⟨by rfl, ?_⟩) ?_ ?_
           rotate_left
           ·
            intro w'
            go_simp
            with_reducible rfl
           rotate_left
           ·
            simp only [Act.put, y0, y1]
            rfl
           refine pure_ (i := 13) (N := some 95) (v := ?_) (a' := ?_) #[true, true, true, true, true, true, true, true, true, true, true, true, true, true, false, false, false] rfl rfl (any_of HT_.out (by kernel_rfl)) (fun _ _ _ h => h) (Or.inl ⟨by rfl, ?_⟩) ?_ ?_
           rotate_left
           ·
            intro w'
            go_simp
            with_reducible rfl
           rotate_left
           ·
            simp only [Act.put, y0, y1]
            rfl
           refine pure_ (i := 14) (N := some 96) (v := ?_) (a' := ?_) #[true, true, true, true, true, true, true, true, true, true, true, true, true, true, true, false, false] rfl rfl (any_of HT_.out (by kernel_rfl)) (fun _ _ _ h => h) (Or.inl ⟨by rfl, ?_⟩) ?_ ?_
           rotate_left
           ·
            intro w'
            go_simp
            with_reducible rfl
           rotate_left
           ·
            simp only [Act.put, y0, y1]
            rfl
           refine pure_ (i := 15) (N := some 15) (v := ?_) (a' := ?_) #[true, true, true, true, true, true, true, true, true, true, true, true, true, true, true, true, false] rfl rfl (any_of HT_.out (by kernel_rfl)) (fun _ _ _ h => h) (Or.inl ⟨by rfl, ?_⟩) ?_ ?_
           rotate_left
           ·
            intro w'
            go_simp
            with_reducible rfl
           rotate_left
           ·
            simp only [Act.put, y0, y1]
            rfl
           refine pure_ (i := 16) (N := some 16) (v := ?_) (a' := ?_) #[true, true, true, true, true, true, true, true, true, true, true, true, true, true, true, true, true] rfl rfl (any_of HT_.out (by kernel_rfl)) (fun _ _ _ h => h) (Or.inl ⟨by rfl, ?_⟩) ?_ ?_
           rotate_left
           ·
            intro w'
            go_simp
            with_reducible rfl
           rotate_left
           ·
            simp only [Act.put, y0, y1]
            rfl
           refine done_ (done_of HT_.out (by kernel_rfl)) ?_
           go_upto_region 12 with (fail)
           go_cut [103] (fun v103 wc => ∃ (kq : Nat) (x103_48 : Bool), v103 = .bool x103_48 ∧ Aside0 (heraldlaw10_RopeMemory.j1 kq a0 a1 t177 t178 t184 t185 t191 t192 t223 x103_48 = some r) ∧ Aside0 (kq ≤ kj7) ∧ Aside0 (Kd.R (Kd.int .i8) 33 wc w.heap.size (fun k_ => some k_ ≠ (v182 : Value).ownBlock ∧ some k_ ≠ ((.slice Ao57 t184.length co57) : Value).ownBlock ∧ some k_ ≠ ((.slice Ao59 t185.length co59) : Value).ownBlock ∧ some k_ ≠ (v194 : Value).ownBlock ∧ some k_ ≠ (v196 : Value).ownBlock ∧ some k_ ≠ (v225 : Value).ownBlock) (.slice Ao53 t177.length co53) t177) ∧ Aside0 (Kd.R (Kd.int .i8) 33 wc w.heap.size (fun k_ => some k_ ≠ ((.slice Ao53 t177.length co53) : Value).ownBlock ∧ some k_ ≠ ((.slice Ao57 t184.length co57) : Value).ownBlock ∧ some k_ ≠ ((.slice Ao59 t185.length co59) : Value).ownBlock ∧ some k_ ≠ (v194 : Value).ownBlock ∧ some k_ ≠ (v196 : Value).ownBlock ∧ some k_ ≠ (v225 : Value).ownBlock) v182 t178) ∧ Aside0 (Kd.R (Kd.int .i8) 33 wc w.heap.size (fun k_ => some k_ ≠ ((.slice Ao53 t177.length co53) : Value).ownBlock ∧ some k_ ≠ (v182 : Value).ownBlock ∧ some k_ ≠ ((.slice Ao59 t185.length co59) : Value).ownBlock ∧ some k_ ≠ (v194 : Value).ownBlock ∧ some k_ ≠ (v196 : Value).ownBlock ∧ some k_ ≠ (v225 : Value).ownBlock) (.slice Ao57 t184.length co57) t184) ∧ Aside0 (Kd.R (Kd.int .i8) 33 wc w.heap.size (fun k_ => some k_ ≠ ((.slice Ao53 t177.length co53) : Value).ownBlock ∧ some k_ ≠ (v182 : Value).ownBlock ∧ some k_ ≠ ((.slice Ao57 t184.length co57) : Value).ownBlock ∧ some k_ ≠ (v194 : Value).ownBlock ∧ some k_ ≠ (v196 : Value).ownBlock ∧ some k_ ≠ (v225 : Value).ownBlock) (.slice Ao59 t185.length co59) t185) ∧ Aside0 (Kd.R (Kd.int .i8) 33 wc w.heap.size (fun k_ => some k_ ≠ ((.slice Ao53 t177.length co53) : Value).ownBlock ∧ some k_ ≠ (v182 : Value).ownBlock ∧ some k_ ≠ ((.slice Ao57 t184.length co57) : Value).ownBlock ∧ some k_ ≠ ((.slice Ao59 t185.length co59) : Value).ownBlock ∧ some k_ ≠ (v196 : Value).ownBlock ∧ some k_ ≠ (v225 : Value).ownBlock) v194 t191) ∧ Aside0 (Kd.R (Kd.int .i8) 33 wc w.heap.size (fun k_ => some k_ ≠ ((.slice Ao53 t177.length co53) : Value).ownBlock ∧ some k_ ≠ (v182 : Value).ownBlock ∧ some k_ ≠ ((.slice Ao57 t184.length co57) : Value).ownBlock ∧ some k_ ≠ ((.slice Ao59 t185.length co59) : Value).ownBlock ∧ some k_ ≠ (v194 : Value).ownBlock ∧ some k_ ≠ (v225 : Value).ownBlock) v196 t192) ∧ Aside0 (Kd.R (Kd.int .i8) 33 wc w.heap.size (fun k_ => some k_ ≠ ((.slice Ao53 t177.length co53) : Value).ownBlock ∧ some k_ ≠ (v182 : Value).ownBlock ∧ some k_ ≠ ((.slice Ao57 t184.length co57) : Value).ownBlock ∧ some k_ ≠ ((.slice Ao59 t185.length co59) : Value).ownBlock ∧ some k_ ≠ (v194 : Value).ownBlock ∧ some k_ ≠ (v196 : Value).ownBlock) v225 t223) ∧ Aside0 (Kd.C (Kd.int .i8) wc Ao53 y205.length y205) ∧ Aside0 (Kd.C (Kd.int .i8) wc Ao57 y215.length y215) ∧ Aside0 (Kd.C (Kd.int .i8) wc Ao59 y219.length y219) ∧ Aside0 (Below w.heap.size w wc))
           case first =>
            have H := HC49.out
            clear HC49
            by_cases c64 : t224 = 0
            ·
             rw [if_pos c64] at H
             have c64b0 : (t224 == 0) = true := beq_iff_eq.mpr c64
             have c64b1 : (t224 != 0) = false := bne_eq_false_iff_eq.mpr c64
             clear c64
             (first | rw [c64b0] | (simp only [i64_w, i32_w]; rw [c64b0]) | skip)
             have H' := ym H
             clear H
             obtain ⟨Ao65, co65, eo65⟩ := Kd.R_slice HO226.out
             subst eo65
             go_wp2
             go_meet
             case rel => exact ⟨_, (((t223.length : Int) == 0)), (by first | rfl | (simp; done) | (simp [*]; done)), H', ⟨by have := HJ7.out; first | omega | exact Nat.le_refl _⟩, ⟨by (with_reducible repeat apply y2); exact Kd.R_mono HO_5.out (fun _ hk => ⟨hk.1.1.1, ⟨hk.1.1.2.1, ⟨hk.1.1.2.2.1, ⟨hk.1.1.2.2.2.1, ⟨hk.1.1.2.2.2.2, hk.2⟩⟩⟩⟩⟩)⟩, ⟨by (with_reducible repeat apply y2); exact Kd.R_mono HO_6.out (fun _ hk => ⟨hk.1.1.1, ⟨hk.1.1.2.1, ⟨hk.1.1.2.2.1, ⟨hk.1.1.2.2.2.1, ⟨hk.1.1.2.2.2.2, hk.2⟩⟩⟩⟩⟩)⟩, ⟨by (with_reducible repeat apply y2); exact Kd.R_mono HO_8.out (fun _ hk => ⟨hk.1.1.1, ⟨hk.1.1.2.1, ⟨hk.1.1.2.2.1, ⟨hk.1.1.2.2.2.1, ⟨hk.1.1.2.2.2.2, hk.2⟩⟩⟩⟩⟩)⟩, ⟨by (with_reducible repeat apply y2); exact Kd.R_mono HO_9.out (fun _ hk => ⟨hk.1.1.1, ⟨hk.1.1.2.1, ⟨hk.1.1.2.2.1, ⟨hk.1.1.2.2.2.1, ⟨hk.1.1.2.2.2.2, hk.2⟩⟩⟩⟩⟩)⟩, ⟨by (with_reducible repeat apply y2); exact Kd.R_mono HO_11.out (fun _ hk => ⟨hk.1.1.1, ⟨hk.1.1.2.1, ⟨hk.1.1.2.2.1, ⟨hk.1.1.2.2.2.1, ⟨hk.1.1.2.2.2.2, hk.2⟩⟩⟩⟩⟩)⟩, ⟨by (with_reducible repeat apply y2); exact Kd.R_mono HO_12.out (fun _ hk => ⟨hk.1.1.1, ⟨hk.1.1.2.1, ⟨hk.1.1.2.2.1, ⟨hk.1.1.2.2.2.1, ⟨hk.1.1.2.2.2.2, hk.2⟩⟩⟩⟩⟩)⟩, ⟨by (with_reducible repeat apply y2); exact Kd.R_mono HO226.out (fun _ hk => ⟨hk.1.1.1.1.1.1.2, ⟨hk.1.1.1.1.1.2, ⟨hk.1.1.1.1.2, ⟨hk.1.1.1.2, ⟨hk.1.1.2, hk.1.2⟩⟩⟩⟩⟩)⟩, ⟨by repeat (first | (with_reducible exact HR208.out) | (with_reducible refine yi ?_ _) | (with_reducible refine yj ?_ _) | (with_reducible refine yk ?_) | exact HR208.out)⟩, ⟨by repeat (first | (with_reducible exact HR218.out) | (with_reducible refine yi ?_ _) | (with_reducible refine yj ?_ _) | (with_reducible refine yk ?_) | exact HR218.out)⟩, ⟨by repeat (first | (with_reducible exact HR222.out) | (with_reducible refine yi ?_ _) | (with_reducible refine yj ?_ _) | (with_reducible refine yk ?_) | exact HR222.out)⟩, ⟨by repeat (first | (with_reducible first | exact HB.out | apply y3) | exact HB.out)⟩⟩
            rw [if_neg c64] at H
            have c64b0 : (t224 == 0) = false := beq_eq_false_iff_ne.mpr c64
            have c64b1 : (t224 != 0) = true := bne_iff_ne.mpr c64
            (first | rw [c64b0] | (simp only [i64_w, i32_w]; rw [c64b0]) | skip)
            have H' := ym H
            clear H
            go_wp2
            go_meet
            case rel => exact ⟨_, (true), (by first | rfl | (simp; done) | (simp [*]; done)), H', ⟨by have := HJ7.out; first | omega | exact Nat.le_refl _⟩, ⟨by (with_reducible repeat apply y2); exact Kd.R_mono HO_5.out (fun _ hk => ⟨hk.1.1.1, ⟨hk.1.1.2.1, ⟨hk.1.1.2.2.1, ⟨hk.1.1.2.2.2.1, ⟨hk.1.1.2.2.2.2, hk.2⟩⟩⟩⟩⟩)⟩, ⟨by (with_reducible repeat apply y2); exact Kd.R_mono HO_6.out (fun _ hk => ⟨hk.1.1.1, ⟨hk.1.1.2.1, ⟨hk.1.1.2.2.1, ⟨hk.1.1.2.2.2.1, ⟨hk.1.1.2.2.2.2, hk.2⟩⟩⟩⟩⟩)⟩, ⟨by (with_reducible repeat apply y2); exact Kd.R_mono HO_8.out (fun _ hk => ⟨hk.1.1.1, ⟨hk.1.1.2.1, ⟨hk.1.1.2.2.1, ⟨hk.1.1.2.2.2.1, ⟨hk.1.1.2.2.2.2, hk.2⟩⟩⟩⟩⟩)⟩, ⟨by (with_reducible repeat apply y2); exact Kd.R_mono HO_9.out (fun _ hk => ⟨hk.1.1.1, ⟨hk.1.1.2.1, ⟨hk.1.1.2.2.1, ⟨hk.1.1.2.2.2.1, ⟨hk.1.1.2.2.2.2, hk.2⟩⟩⟩⟩⟩)⟩, ⟨by (with_reducible repeat apply y2); exact Kd.R_mono HO_11.out (fun _ hk => ⟨hk.1.1.1, ⟨hk.1.1.2.1, ⟨hk.1.1.2.2.1, ⟨hk.1.1.2.2.2.1, ⟨hk.1.1.2.2.2.2, hk.2⟩⟩⟩⟩⟩)⟩, ⟨by (with_reducible repeat apply y2); exact Kd.R_mono HO_12.out (fun _ hk => ⟨hk.1.1.1, ⟨hk.1.1.2.1, ⟨hk.1.1.2.2.1, ⟨hk.1.1.2.2.2.1, ⟨hk.1.1.2.2.2.2, hk.2⟩⟩⟩⟩⟩)⟩, ⟨by (with_reducible repeat apply y2); exact Kd.R_mono HO226.out (fun _ hk => ⟨hk.1.1.1.1.1.1.2, ⟨hk.1.1.1.1.1.2, ⟨hk.1.1.1.1.2, ⟨hk.1.1.1.2, ⟨hk.1.1.2, hk.1.2⟩⟩⟩⟩⟩)⟩, ⟨by repeat (first | (with_reducible exact HR208.out) | (with_reducible refine yi ?_ _) | (with_reducible refine yj ?_ _) | (with_reducible refine yk ?_) | exact HR208.out)⟩, ⟨by repeat (first | (with_reducible exact HR218.out) | (with_reducible refine yi ?_ _) | (with_reducible refine yj ?_ _) | (with_reducible refine yk ?_) | exact HR218.out)⟩, ⟨by repeat (first | (with_reducible exact HR222.out) | (with_reducible refine yi ?_ _) | (with_reducible refine yj ?_ _) | (with_reducible refine yk ?_) | exact HR222.out)⟩, ⟨by repeat (first | (with_reducible first | exact HB.out | apply y3) | exact HB.out)⟩⟩
           case rest =>
            clear HC49
            try clear c1
            try clear p2
            try clear c3
            try clear c4
            try clear q5
            try clear c6
            try clear p6
            try clear c7
            try clear c10
            try clear c11
            try clear c13
            try clear c13b0
            try clear c13b1
            try clear c15
            try clear c17
            try clear c18
            try clear c19
            try clear c38
            try clear c39
            try clear c39b0
            try clear c39b1
            try clear c40
            try clear c40b0
            try clear c40b1
            try clear c41
            try clear c41b0
            try clear c41b1
            try clear c42
            try clear c43
            try clear c44
            try clear c44b0
            try clear c45
            try clear c45b0
            try clear c45b1
            try clear c46
            try clear c46b0
            try clear c47
            try clear c47b0
            try clear c47b1
            try clear q52
            try clear q56
            try clear q58
            try clear c64
            try clear c64b0
            try clear c64b1
            try clear p64
            try clear p2
            try clear q52
            try clear q56
            try clear q58
            obtain ⟨kq, x103_48, rfl, HA, HJ48, HO_5, HO_6, HO_8, HO_9, HO_11, HO_12, HO_15, HR208, HR218, HR222, HB⟩ := hcut
            cases kq with
            | zero => exact absurd HA.out (by simp [heraldlaw10_RopeMemory.j1])
            | succ kj48 =>
             have H := HA.out
             clear HA
             simp only [heraldlaw10_RopeMemory.j1] at H
             by_cases c66 : x103_48 = true
             ·
              subst c66
              have H1 : (none) = some r := by rw [if_pos rfl] at H; exact H
              clear H
              have H := H1
              clear H1
              exact absurd H (by simp)
             replace c66 := Bool.eq_false_iff.mpr c66
             subst c66
             have H1 : (if (t177.length : Int) > 0 then (if (t177.length : Int) < 1000000000000 then (if (t178.length : Int) > 0 then (if (t178.length : Int) < 1000000000000 then (if (t223.length : Int) > 0 then (if (t223.length : Int) < 1000000000000 then ((rope_Table.f kj48 a0 a1).bind fun bt227 => ((heraldlaw10_same.f kj48 t184 t191).bind fun t234 => (if t234 = true then ((heraldlaw10_same.f kj48 t185 t192).bind fun t235 => (if t235 = true then ((heraldlaw10_same.f kj48 bt227.1 t191).bind fun t236 => (if t236 = true then ((heraldlaw10_same.f kj48 bt227.2.1 t192).bind fun t237 => (some t237)) else (none))) else (none))) else (none)))) else (none)) else (none)) else (none)) else (none)) else (none)) else (none)) = some r := by rw [if_neg (show ¬ (false = true) by decide)] at H; exact H
             clear H
             have H := H1
             clear H1
             by_cases c67 : (t177.length : Int) > 0
             ·
              rw [if_pos c67] at H
              have c67b0 : decide (0 < (t177.length : Int)) = true := decide_eq_true c67
              have c67b1 : decide (0 < t177.length) = true := decide_eq_true (by omega)
              clear c67
              by_cases c68 : (t177.length : Int) < 1000000000000
              ·
               rw [if_pos c68] at H
               have c68b0 : decide ((t177.length : Int) < 1000000000000) = true := decide_eq_true c68
               have c68b1 : decide (t177.length < 1000000000000) = true := decide_eq_true (by omega)
               clear c68
               by_cases c69 : (t178.length : Int) > 0
               ·
                rw [if_pos c69] at H
                have c69b0 : decide (0 < (t178.length : Int)) = true := decide_eq_true c69
                have c69b1 : decide (0 < t178.length) = true := decide_eq_true (by omega)
                clear c69
                by_cases c70 : (t178.length : Int) < 1000000000000
                ·
                 rw [if_pos c70] at H
                 have c70b0 : decide ((t178.length : Int) < 1000000000000) = true := decide_eq_true c70
                 have c70b1 : decide (t178.length < 1000000000000) = true := decide_eq_true (by omega)
                 clear c70
                 by_cases c71 : (t223.length : Int) > 0
                 ·
                  rw [if_pos c71] at H
                  have c71b0 : decide (0 < (t223.length : Int)) = true := decide_eq_true c71
                  have c71b1 : decide (0 < t223.length) = true := decide_eq_true (by omega)
                  clear c71
                  by_cases c72 : (t223.length : Int) < 1000000000000
                  ·
                   rw [if_pos c72] at H
                   have c72b0 : decide ((t223.length : Int) < 1000000000000) = true := decide_eq_true c72
                   have c72b1 : decide (t223.length < 1000000000000) = true := decide_eq_true (by omega)
                   clear c72
                   have k5 : 0 < t177.length := by have e := of_decide_eq_true (show decide (0 < (t177.length : Int)) = true by with_reducible assumption); omega
                   have m5 : t177.length < 1000000000000 := by have e := of_decide_eq_true (show decide ((t177.length : Int) < 1000000000000) = true by with_reducible assumption); omega
                   have k6 : 0 < t178.length := by have e := of_decide_eq_true (show decide (0 < (t178.length : Int)) = true by with_reducible assumption); omega
                   have m6 : t178.length < 1000000000000 := by have e := of_decide_eq_true (show decide ((t178.length : Int) < 1000000000000) = true by with_reducible assumption); omega
                   have k15 : 0 < t223.length := by have e := of_decide_eq_true (show decide (0 < (t223.length : Int)) = true by with_reducible assumption); omega
                   have m15 : t223.length < 1000000000000 := by have e := of_decide_eq_true (show decide ((t223.length : Int) < 1000000000000) = true by with_reducible assumption); omega
                   obtain ⟨A6_, c6_, e6_⟩ := Kd.R_slice HO_6.out
                   obtain ⟨A15_, c15_, e15_⟩ := Kd.R_slice HO_15.out
                   (first | subst e6_ | skip)
                   (first | subst e15_ | skip)
                   have POOL0 := ym (Pool.Inner.snoc (Pool.Inner.snoc (Pool.Inner.snoc (Pool.Inner.snoc (Pool.Inner.snoc (Pool.Inner.snoc (Pool.Inner.one (enc := Value.int .i8) (Kd.own_of_R HO_5.out)) (Kd.own_of_R HO_6.out) (Pool.rp_apart HO_6)) (Kd.own_of_R HO_8.out) (Pool.rp_apart HO_8)) (Kd.own_of_R HO_9.out) (Pool.rp_apart HO_9)) (Kd.own_of_R HO_11.out) (Pool.rp_apart HO_11)) (Kd.own_of_R HO_12.out) (Pool.rp_apart HO_12)) (Kd.own_of_R HO_15.out) (Pool.rp_apart HO_15))
                   obtain ⟨PV, hPV⟩ : ∃ z : List Value, z = [(.slice Ao53 t177.length co53), (.slice A6_ t178.length c6_), (.slice Ao57 t184.length co57), (.slice Ao59 t185.length co59), v194, v196, (.slice A15_ t223.length c15_)] := ⟨_, rfl⟩
                   obtain ⟨PX, hPX⟩ : ∃ z : List (List Int), z = [t177, t178, t184, t185, t191, t192, t223] := ⟨_, rfl⟩
                   have POOL : Aside0 (Pool.Inner 33 (Value.int .i8) wc w.heap.size PV PX) := ⟨by rw [hPV, hPX]; exact POOL0.out⟩
                   clear POOL0
                   have HPV := ym hPV
                   have HPU : Aside0 (Pool.RUp (.slice Ao53 t177.length co53) (.slice A6_ t178.length c6_) (.slice A15_ t223.length c15_) PV 0) := ⟨by rw [hPV]; exact Pool.RUp.start _ _ _ _ _ _ _⟩
                   have HPR : Aside0 (Pool.RKeep t184 t185 t191 t192 PX) := ⟨by rw [hPX]; exact ⟨rfl, rfl, rfl, rfl⟩⟩
                   have HPL : Aside0 (Pool.RPos PX) := ⟨by rw [hPX]; exact Pool.RPos.mk3 k5 k6 k15⟩
                   have HPM : Aside0 (Pool.RMax PX) := ⟨by rw [hPX]; exact Pool.RMax.mk3 m5 m6 m15⟩
                   have HPK : Aside0 (Pool.RKeepV (.slice Ao57 t184.length co57) (.slice Ao59 t185.length co59) v194 v196 PV) := ⟨by rw [hPV]; exact ⟨rfl, rfl, rfl, rfl⟩⟩
                   clear hPV hPX
                   go_wp2
                   (try clear q58); (try clear q56); (try clear q52); (try clear hy58); (try clear hy56); (try clear hy52); (try clear hr58); (try clear hr56); (try clear hr52); (try clear hcut58); (try clear hcut56); (try clear hcut52); (try clear c72b1); (try clear c72b0); (try clear c71b1); (try clear c71b0); (try clear c70b1); (try clear c70b0); (try clear c69b1); (try clear c69b0); (try clear c68b1); (try clear c68b0); (try clear c67b1); (try clear c67b0); (try clear c66); (try clear c64b1); (try clear c64b0); (try clear c47b1); (try clear c47b0); (try clear c46b0); (try clear c45b1); (try clear c45b0); (try clear c44b0); (try clear c41b1); (try clear c41b0); (try clear c40b1); (try clear c40b0); (try clear c39b1); (try clear c39b0); (try clear c38); (try clear c19); (try clear c17); (try clear c15); (try clear c13b1); (try clear c13b0)
                   go_loopw [109] (fun v wr => ∃ (j : Nat) (PX : List (List Int)), v = .int .i64 j ∧ j ≤ 3 ∧ Aside0 (Pool.Inner 33 (Value.int .i8) wr w.heap.size PV PX) ∧ Aside0 (wr.heap[wc.heap.size]? = some (.cells #[(.slice Ao53 t177.length co53), (.slice A6_ t178.length c6_), (.slice A15_ t223.length c15_)] 22 (0, 0))) ∧ Aside0 (Below w.heap.size w wr) ∧ Aside0 (Pool.RKeep t184 t185 t191 t192 PX) ∧ Aside0 (Pool.RPos PX) ∧ Aside0 (Pool.RMax PX) ∧ Aside0 (Pool.RDone PX j)) (fun v _ => 3 - (intOf v).toNat)
                   case atStart => exact ⟨0, PX, rfl, by omega, ⟨POOL.out.below (ya (Below.refl _ _) _)⟩, ⟨blk_new wc _⟩, ⟨ya HB.out _⟩, HPR, HPL, HPM, ⟨fun q hq => by omega⟩⟩
                   case round =>
                     clear POOL HB HPR HPL HPM
                     obtain ⟨j, PX, rfl, hj, POOL, LIT, HB, HPR, HPL, HPM, HPD⟩ := hrel
                     by_cases hlt : j < 3
                     · obtain ⟨wo, rfl⟩ : ∃ wo, wo = wr := ⟨_, rfl⟩
                       obtain ⟨uj, hlit⟩ : ∃ u, (#[(.slice Ao53 t177.length co53), (.slice A6_ t178.length c6_), (.slice A15_ t223.length c15_)] : Array Value)[j]? = some u := ⟨_, Array.getElem?_eq_getElem (by simpa using hlt)⟩
                       have hum := HPU.out j uj (Nat.zero_le _) hlit
                       obtain ⟨xm, hxm, hown⟩ := POOL.out.at_ hum
                       obtain ⟨gu, cu, rfl⟩ := POOL.out.formed hum hxm (HPL.out j xm hlt hxm)
                       have hcell := (yw LIT.out j).trans hlit
                       have hL20 := HPM.out j xm hlt hxm
                       obtain ⟨L, hL⟩ : ∃ L, L = xm.length := ⟨_, rfl⟩
                       rw [← hL] at hum hcell hL20 hlit
                       have HUM := ym hum
                       have HLIT := ym hlit
                       clear hum hlit hL hown hxm xm
                       go_wp2
                       go_loopw [115] (fun v wr => ∃ (q : Nat) (PX : List (List Int)), v = .int .i64 q ∧ q ≤ L ∧ Aside0 (Pool.Inner 33 (Value.int .i8) wr w.heap.size PV PX) ∧ Aside0 (wr.heap[wc.heap.size]? = some (.cells #[(.slice Ao53 t177.length co53), (.slice A6_ t178.length c6_), (.slice A15_ t223.length c15_)] 22 (0, 0))) ∧ Aside0 (Below w.heap.size w wr) ∧ Aside0 (Pool.RKeep t184 t185 t191 t192 PX) ∧ Aside0 (Pool.RPos PX) ∧ Aside0 (Pool.RMax PX) ∧ Aside0 (Pool.RDone PX j) ∧ Aside0 (Pool.Part (fun _ => 99) PX (Pool.pi j) q)) (fun v _ => L - (intOf v).toNat)
                       case atStart => exact ⟨0, PX, rfl, Nat.zero_le _, POOL, LIT, HB, HPR, HPL, HPM, HPD, ⟨Pool.Part.zero _ _ _⟩⟩
                       case round =>
                         clear POOL LIT HB HPR HPL HPM HPD hcell
                         obtain ⟨q, PX, rfl, hq, POOL, LIT, HB, HPR, HPL, HPM, HPD, HPT⟩ := hrel
                         obtain ⟨yml, hym, hown⟩ := POOL.out.at_ HUM.out
                         clear hown
                         have hyL := (Pool.vform POOL.out HUM.out hym).1
                         by_cases hlq : q < L
                         · obtain ⟨vj, hvj⟩ : ∃ v, yml[q]? = some v := ⟨_, List.getElem?_eq_getElem (show q < yml.length by rw [hyL]; exact hlq)⟩
                           obtain ⟨hcj, hfj⟩ := Pool.vcell POOL.out HUM.out hym hvj
                           clear hvj
                           have HT := ym (Pool.ty_store (POOL.out.own _ _ yml HUM.out hym) q (.int .i8 99))
                           have HYM := ym hym
                           clear hyL hym
                           go_wp2
                           go_roundw
                           case measure => simp only [intOf]; omega
                           case rel => exact ⟨q + 1, PX.set (Pool.pi j) (yml.set q 99), by simp, by omega, ⟨POOL.out.store HYM.out HUM.out q 99⟩, ⟨Pool.blk_ty LIT.out HT.out (by decide)⟩, ⟨ys HB.out (POOL.out.lt HUM.out rfl).1⟩, ⟨HPR.out.set j _⟩, ⟨HPL.out.set HYM.out (by rw [List.length_set])⟩, ⟨HPM.out.set HYM.out (by rw [List.length_set])⟩, ⟨HPD.out.set hlt⟩, ⟨HPT.out.store HYM.out⟩⟩
                         · have HPq := ym (show Pool.Part (fun _ => (99 : Int)) PX (Pool.pi j) yml.length by rw [hyL, Nat.le_antisymm (Nat.le_of_not_lt hlq) hq]; exact HPT.out)
                           have HYM := ym hym
                           clear hyL hym
                           go_wp2
                           go_roundw
                           case measure => simp only [intOf]; omega
                           case rel => exact ⟨j + 1, PX, by simp, by omega, POOL, LIT, HB, HPR, HPL, HPM, ⟨HPD.out.next HYM.out HPq.out⟩⟩
                     · obtain ⟨jz, rfl⟩ : ∃ z, z = j := ⟨_, rfl⟩
                       have HPD3 : Aside0 (Pool.RDone PX 3) := ⟨by rw [show 3 = jz by omega]; exact HPD.out⟩
                       obtain ⟨wz, rfl⟩ : ∃ wo, wo = wr := ⟨_, rfl⟩
                       go_wp2
                       clear hlt hj LIT
                       have HF := ym (Pool.RFrom.start HPL.out HPM.out HPD3.out)
                       clear HPL HPM HPD HPD3
                       go_loopw [128] (fun v wr => ∃ (j : Nat) (PV : List Value) (PX : List (List Int)), v = .int .i64 j ∧ j ≤ 3 ∧ Aside0 (Pool.Inner 33 (Value.int .i8) wr w.heap.size PV PX) ∧ Aside0 (wr.heap[wz.heap.size]? = some (.cells #[(.slice Ao53 t177.length co53), (.slice A6_ t178.length c6_), (.slice A15_ t223.length c15_)] 22 (0, 0))) ∧ Aside0 (Below w.heap.size w wr) ∧ Aside0 (Pool.RUp (.slice Ao53 t177.length co53) (.slice A6_ t178.length c6_) (.slice A15_ t223.length c15_) PV j) ∧ Aside0 (Pool.RKeep t184 t185 t191 t192 PX) ∧ Aside0 (Pool.RKeepV (.slice Ao57 t184.length co57) (.slice Ao59 t185.length co59) v194 v196 PV) ∧ Aside0 (Pool.RFrom PX j)) (fun v _ => 3 - (intOf v).toNat)
                       case atStart => exact ⟨0, PV, PX, rfl, by omega, ⟨POOL.out.below (ya (Below.refl _ _) _)⟩, ⟨blk_new wz _⟩, ⟨ya HB.out _⟩, HPU, HPR, HPK, HF⟩
                       case round =>
                         clear POOL HB HPU HPR HPK HF
                         obtain ⟨j, PV, PX, rfl, hj, POOL, LIT, HB, HPU, HPR, HPK, HF⟩ := hrel
                         by_cases hlt : j < 3
                         · obtain ⟨wo, rfl⟩ : ∃ wo, wo = wr := ⟨_, rfl⟩
                           obtain ⟨uj, hlit⟩ : ∃ u, (#[(.slice Ao53 t177.length co53), (.slice A6_ t178.length c6_), (.slice A15_ t223.length c15_)] : Array Value)[j]? = some u := ⟨_, Array.getElem?_eq_getElem (by simpa using hlt)⟩
                           have hum := HPU.out j uj (Nat.le_refl _) hlit
                           obtain ⟨xm, hxm, hown⟩ := POOL.out.at_ hum
                           have hfr := HF.out j xm (Nat.le_refl _) hlt hxm
                           obtain ⟨gu, cu, rfl⟩ := POOL.out.formed hum hxm hfr.1
                           have hcell := (yw LIT.out j).trans hlit
                           obtain ⟨L, hL⟩ : ∃ L, L = xm.length := ⟨_, rfl⟩
                           have hL12 : L < 1000000000000 := by rw [hL]; exact hfr.2.1
                           rw [← hL] at hum hcell
                           have HG := ym (Pool.RGrow.start hum hxm hL hfr)
                           clear hum hlit hL hown hxm hfr xm
                           go_wp2
                           rw [show decide ((j : Int) < 3) = true from decide_eq_true (by omega)]
                           go_loopw [21, 132] (fun gv v wr => ∃ (q : Nat) (PV : List Value) (PX : List (List Int)), v = .int .i64 q ∧ q ≤ 9 ∧ Aside0 (Pool.Inner 33 (Value.int .i8) wr w.heap.size PV PX) ∧ Aside0 (wr.heap[wz.heap.size]? = some (.cells #[(.slice Ao53 t177.length co53), (.slice A6_ t178.length c6_), (.slice A15_ t223.length c15_)] 22 (0, 0))) ∧ Aside0 (Below w.heap.size w wr) ∧ Aside0 (Pool.RUp (.slice Ao53 t177.length co53) (.slice A6_ t178.length c6_) (.slice A15_ t223.length c15_) PV (j + 1)) ∧ Aside0 (Pool.RKeep t184 t185 t191 t192 PX) ∧ Aside0 (Pool.RKeepV (.slice Ao57 t184.length co57) (.slice Ao59 t185.length co59) v194 v196 PV) ∧ Aside0 (Pool.RFrom PX (j + 1)) ∧ Aside0 (Pool.RGrow PV PX j (L + q) gv)) (fun _ v _ => 9 - (intOf v).toNat)
                           case atStart => exact ⟨0, PV, PX, rfl, by omega, POOL, LIT, HB, ⟨HPU.out.next⟩, HPR, HPK, ⟨HF.out.next⟩, HG⟩
                           case round =>
                             clear POOL LIT HB HPU HPR HPK HF HG hcell
                             obtain ⟨q, PV, PX, rfl, hq, POOL, LIT, HB, HPU, HPR, HPK, HF, HG⟩ := hrel
                             obtain ⟨hgv, yq, hyq, hmq⟩ := HG.out
                             have hform := POOL.out.formed hgv hyq (by simp)
                             rw [show (99 :: yq).length = L + q from hmq] at hform
                             obtain ⟨gq, cq, rfl⟩ := hform
                             obtain ⟨hc0, hf0⟩ := Pool.vcell POOL.out hgv hyq (show (99 :: yq)[0]? = some (99 : Int) from rfl)
                             have HGV := ym hgv
                             have HYQ := ym hyq
                             have HMQ := ym hmq
                             have HLQ := ym (show (99 :: yq).length = L + q from hmq)
                             have hlp : 0 < L + q := by rw [← hmq]; exact Nat.succ_pos _
                             have HGQ := HGV
                             clear hgv hyq hmq HG
                             by_cases hlt9 : q < 9
                             · go_wp2_with (first
                                 | ((with_reducible refine gate_builtin (b := .append) (xs := #[.tmp 134, .tmp 135]) rfl ?_); at_builtin; refine Pool.wpList_append_row (W0 := w) rfl (.tmp 134) (.tmp 135) 22 rfl (.int .i8 0) 1 Tryd.underlying22 info33 rfl (by decide) (fun _ => rfl) POOL.out (Pool.pi j) (L + q) _ _ HGQ.out HYQ.out HLQ.out 77 rfl rfl HB.out HB.out.size ?hl ?_; (case hl => exact Pool.row_small hL12 hq); intro v9 w9 hi hb hs hty; have HI9 := ym hi; have HB9 := ym hb; have LIT9 := ym (Pool.blk_ty LIT.out hty (by decide)); clear hi hb hs hty))
                               go_roundw
                               case measure => simp only [intOf]; omega
                               case rel => exact ⟨q + 1, PV.set (Pool.pi j) v9, PX.set (Pool.pi j) (99 :: yq ++ [77]), by simp, by omega, HI9, LIT9, HB9, ⟨HPU.out.setNext hlt v9⟩, ⟨HPR.out.set j _⟩, ⟨HPK.out.set j _⟩, ⟨HF.out.setNext hlt _⟩, ⟨Pool.RGrow.grow HGV.out HYQ.out HMQ.out⟩⟩
                             · go_wp2
                               go_roundw
                               case measure => simp only [intOf]; omega
                               case rel => exact ⟨j + 1, PV, PX, by simp, by omega, POOL, LIT, HB, HPU, HPR, HPK, HF⟩
                         · clear LIT HPU HF
                           have HR8 := ym (Kd.R_of_own (h1 := fun _ => rfl) (ok := fun _ => True) (POOL.out.own 2 _ t184 HPK.out.1 HPR.out.1) (fun _ _ => trivial))
                           have HR9 := ym (Kd.R_of_own (h1 := fun _ => rfl) (ok := fun _ => True) (POOL.out.own 3 _ t185 HPK.out.2.1 HPR.out.2.1) (fun _ _ => trivial))
                           have HR11 := ym (Kd.R_of_own (h1 := fun _ => rfl) (ok := fun _ => True) (POOL.out.own 4 _ t191 HPK.out.2.2.1 HPR.out.2.2.1) (fun _ _ => trivial))
                           have HR12 := ym (Kd.R_of_own (h1 := fun _ => rfl) (ok := fun _ => True) (POOL.out.own 5 _ t192 HPK.out.2.2.2 HPR.out.2.2.2) (fun _ _ => trivial))
                           clear POOL HPR HPK
                           obtain ⟨wy, rfl⟩ : ∃ wo, wo = wr := ⟨_, rfl⟩
                           replace H := Option.bind_eq_some_iff.mp H
                           obtain ⟨⟨t227, t228, t229⟩, A730, H⟩ := H
                           replace H : ((heraldlaw10_same.f kj48 t184 t191).bind fun t234 => (if t234 = true then ((heraldlaw10_same.f kj48 t185 t192).bind fun t235 => (if t235 = true then ((heraldlaw10_same.f kj48 t227 t191).bind fun t236 => (if t236 = true then ((heraldlaw10_same.f kj48 t228 t192).bind fun t237 => (some t237)) else (none))) else (none))) else (none))) = some r := H
                           have A73 := ym A730
                           clear A730
                           replace H := Option.bind_eq_some_iff.mp H
                           obtain ⟨t234, A740, H⟩ := H
                           replace H : (if t234 = true then ((heraldlaw10_same.f kj48 t185 t192).bind fun t235 => (if t235 = true then ((heraldlaw10_same.f kj48 t227 t191).bind fun t236 => (if t236 = true then ((heraldlaw10_same.f kj48 t228 t192).bind fun t237 => (some t237)) else (none))) else (none))) else (none)) = some r := H
                           have A74 := ym A740
                           clear A740
                           by_cases c75 : t234 = true
                           ·
                            subst c75
                            have H1 : ((heraldlaw10_same.f kj48 t185 t192).bind fun t235 => (if t235 = true then ((heraldlaw10_same.f kj48 t227 t191).bind fun t236 => (if t236 = true then ((heraldlaw10_same.f kj48 t228 t192).bind fun t237 => (some t237)) else (none))) else (none))) = some r := by rw [if_pos rfl] at H; exact H
                            clear H
                            have H := H1
                            clear H1
                            replace H := Option.bind_eq_some_iff.mp H
                            obtain ⟨t235, A760, H⟩ := H
                            replace H : (if t235 = true then ((heraldlaw10_same.f kj48 t227 t191).bind fun t236 => (if t236 = true then ((heraldlaw10_same.f kj48 t228 t192).bind fun t237 => (some t237)) else (none))) else (none)) = some r := H
                            have A76 := ym A760
                            clear A760
                            by_cases c77 : t235 = true
                            ·
                             subst c77
                             have H1 : ((heraldlaw10_same.f kj48 t227 t191).bind fun t236 => (if t236 = true then ((heraldlaw10_same.f kj48 t228 t192).bind fun t237 => (some t237)) else (none))) = some r := by rw [if_pos rfl] at H; exact H
                             clear H
                             have H := H1
                             clear H1
                             replace H := Option.bind_eq_some_iff.mp H
                             obtain ⟨t236, A780, H⟩ := H
                             replace H : (if t236 = true then ((heraldlaw10_same.f kj48 t228 t192).bind fun t237 => (some t237)) else (none)) = some r := H
                             have A78 := ym A780
                             clear A780
                             by_cases c79 : t236 = true
                             ·
                              subst c79
                              have H1 : ((heraldlaw10_same.f kj48 t228 t192).bind fun t237 => (some t237)) = some r := by rw [if_pos rfl] at H; exact H
                              clear H
                              have H := H1
                              clear H1
                              replace H := Option.bind_eq_some_iff.mp H
                              obtain ⟨t237, A800, H⟩ := H
                              replace H : (some t237) = some r := H
                              have A80 := ym A800
                              clear A800
                              obtain rfl := Option.some.inj H
                              obtain ⟨A11_, c11_, e11_⟩ := Kd.R_slice HR11.out
                              obtain ⟨A12_, c12_, e12_⟩ := Kd.R_slice HR12.out
                              subst e11_
                              subst e12_
                              go_wp2_with (first
                                | (go_at_call 18; refine (rope_Table.calls kj48 a0 a1 t227 t228 t229 _ A73.out (tab_of HTAB.out HB.out)).mono ?_; rintro e w83_ ⟨vu_, vv_, rfl, hou, hov, hb⟩; obtain ⟨Au_, cu_, rfl⟩ := Kd.R_slice hou; obtain ⟨Av_, cv_, rfl⟩ := Kd.R_slice hov; have GU := ym hou; have GV := ym hov; have HB83 := ym (yn HB.out hb); have G8 := ym (yp HR8.out hb); have G9 := ym (yp HR9.out hb); have G11 := ym (yp HR11.out hb); have G12 := ym (yp HR12.out hb); clear hou hov hb)
                                | (go_at_call_of 13 (Value.slice Ao57 t184.length co57); refine (heraldlaw10_same.calls kj48 _ _ t184 _ _ t191 true _ (Kd.R_reads' G8.out).2.2 (Kd.R_reads' G8.out).2.1 (Kd.R_reads' G11.out).2.2 (Kd.R_reads' G11.out).2.1 A74.out).mono ?_; rintro e w84_ ⟨rfl, hd⟩; have hb := hd.below; have I9 := ym (yp G9.out hb); have I11 := ym (yp G11.out hb); have I12 := ym (yp G12.out hb); have IU := ym (yp GU.out hb); have IV := ym (yp GV.out hb); have HB84 := ym (yn HB83.out hb); clear hb hd)
                                | (go_at_call_of 13 (Value.slice Ao59 t185.length co59); refine (heraldlaw10_same.calls kj48 _ _ t185 _ _ t192 true _ (Kd.R_reads' I9.out).2.2 (Kd.R_reads' I9.out).2.1 (Kd.R_reads' I12.out).2.2 (Kd.R_reads' I12.out).2.1 A76.out).mono ?_; rintro e w85_ ⟨rfl, hd⟩; have hb := hd.below; have J11 := ym (yp I11.out hb); have J12 := ym (yp I12.out hb); have JU := ym (yp IU.out hb); have JV := ym (yp IV.out hb); have HB85 := ym (yn HB84.out hb); clear hb hd)
                                | (go_at_call_of 13 (Value.slice Au_ t227.length cu_); refine (heraldlaw10_same.calls kj48 _ _ t227 _ _ t191 true _ (Kd.R_reads' JU.out).2.2 (Kd.R_reads' JU.out).2.1 (Kd.R_reads' J11.out).2.2 (Kd.R_reads' J11.out).2.1 A78.out).mono ?_; rintro e w86_ ⟨rfl, hd⟩; have hb := hd.below; have K12 := ym (yp J12.out hb); have KV := ym (yp JV.out hb); have HB86 := ym (yn HB85.out hb); clear hb hd)
                                | (go_at_call_of 13 (Value.slice Av_ t228.length cv_); refine (heraldlaw10_same.calls kj48 _ _ t228 _ _ t192 t237 _ (Kd.R_reads' KV.out).2.2 (Kd.R_reads' KV.out).2.1 (Kd.R_reads' K12.out).2.2 (Kd.R_reads' K12.out).2.1 A80.out).mono ?_; rintro e w87_ ⟨rfl, hd⟩; have hb := hd.below; have HB87 := ym (yn HB86.out hb); clear hb hd))
                              go_ret
                              exact ⟨rfl, HB87.out⟩
                             replace c79 := Bool.eq_false_iff.mpr c79
                             subst c79
                             have H1 : (none) = some r := by rw [if_neg (show ¬ (false = true) by decide)] at H; exact H
                             clear H
                             have H := H1
                             clear H1
                             exact absurd H (by simp)
                            replace c77 := Bool.eq_false_iff.mpr c77
                            subst c77
                            have H1 : (none) = some r := by rw [if_neg (show ¬ (false = true) by decide)] at H; exact H
                            clear H
                            have H := H1
                            clear H1
                            exact absurd H (by simp)
                           replace c75 := Bool.eq_false_iff.mpr c75
                           subst c75
                           have H1 : (none) = some r := by rw [if_neg (show ¬ (false = true) by decide)] at H; exact H
                           clear H
                           have H := H1
                           clear H1
                           exact absurd H (by simp)
                  rw [if_neg c72] at H
                  exact absurd H (by simp)
                 rw [if_neg c71] at H
                 exact absurd H (by simp)
                rw [if_neg c70] at H
                exact absurd H (by simp)
               rw [if_neg c69] at H
               exact absurd H (by simp)
              rw [if_neg c68] at H
              exact absurd H (by simp)
             rw [if_neg c67] at H
             exact absurd H (by simp)
          rw [if_neg c47] at H
          exact absurd H (by simp)
         rw [if_neg c45] at H
         exact absurd H (by simp)
        rw [if_neg c43] at H
        exact absurd H (by simp)
       rw [if_neg c42] at H
       exact absurd H (by simp)
      rw [if_neg c41] at H
      exact absurd H (by simp)
     rw [if_neg c40] at H
     exact absurd H (by simp)
    rw [if_neg c39] at H
    have c39b0 : (t179 == 0) = false := beq_eq_false_iff_ne.mpr c39
    have c39b1 : (t179 != 0) = true := bne_iff_ne.mpr c39
    obtain rfl := Option.some.inj H
    go_wp2
    go_ret
    exact ⟨by first | rfl | (simp [errW_none, errW_some] <;> rfl) | (simp [*, errW_none, errW_some] <;> rfl), by repeat (first | (with_reducible first | exact HB.out | apply y3) | exact HB.out)⟩
 replace c4 := Bool.eq_false_iff.mpr c4
 subst c4
 have H1 : (none) = some r := by rw [if_neg (show ¬ (false = true) by decide)] at H; exact H
 clear H
 have H := H1
 clear H1
 exact absurd H (by simp)

/-- THE ONE PURE STATEMENT of heraldlaw10_RopeMemory: yours. -/
def heraldlaw10_RopeMemory.Pure : Prop := ∀ (a0 : Int) (a1 : Int), (Lit.int .i64 a0).wf = true → (Lit.int .i64 a1).wf = true → ∃ k, heraldlaw10_RopeMemory.f k a0 a1 = some true
theorem heraldlaw10_RopeMemory.walk (P : heraldlaw10_RopeMemory.Pure) (a0 : Int) (a1 : Int) (w : World) (ht : Tab w) (w0 : (Lit.int .i64 a0).wf = true) (w1 : (Lit.int .i64 a1).wf = true) :
    Calls Tryd.prog 7 #[.int .i64 a0, .int .i64 a1] w fun e w' => e = .returned (.bool true) ∧ Below w.heap.size w w' := by
 obtain ⟨k, h⟩ := P a0 a1 w0 w1
 refine (heraldlaw10_RopeMemory.calls k a0 a1 true w h ht).mono ?_
 rintro e w' ⟨rfl, hd⟩
 exact ⟨rfl, hd⟩

end Go.Proofs.YtengkjkmdodifaaDoor.P
