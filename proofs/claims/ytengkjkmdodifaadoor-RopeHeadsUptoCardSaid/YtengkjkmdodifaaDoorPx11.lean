-- Printed by xprint.py (wip): functions, contracts, rows. Lean checks it.
import Derived.Test.YtengkjkmdodifaaDoorPx0
namespace Go.Proofs.YtengkjkmdodifaaDoor.P
open Go.RowKit Go.Proofs.YtengkjkmdodifaaDoorW.PrintWords Go.Proofs.YtengkjkmdodifaaDoorW.PrintLast Go.Proofs.YtengkjkmdodifaaDoorW.PrintMore
attribute [local go_sem] max2_int min2_int max_two min_two max_three min_three max_four min_four   -- for this text's walks alone
set_option linter.unusedVariables false
set_option linter.unusedSimpArgs false

/-! ### rope_Sine: function 16 -/
def rope_Sine.f (a0 : Int) : Option Int := if a0 % 256 < 128 then some (tabL.getD (min (a0 % 128).toNat (128 - a0 % 128).toNat) 0) else some (-(tabL.getD (min (a0 % 128).toNat (128 - a0 % 128).toNat) 0))
theorem tabL_in : ∀ i : Nat, 0 ≤ tabL.getD i 0 ∧ tabL.getD i 0 ≤ 64 := by
  have h : ∀ i : Fin 65, 0 ≤ tabL.getD i.1 0 ∧ tabL.getD i.1 0 ≤ 64 := by decide +kernel
  intro i
  by_cases c : i < 65
  · exact h ⟨i, c⟩
  · rw [List.getD_eq_getElem?_getD, List.getElem?_eq_none (by simp [tabL]; omega)]; simp
set_option maxRecDepth 100000 in
theorem rope_Sine.calls (a0 : Int) (r : Int) (w : World) (h : rope_Sine.f a0 = some r) (ht : Tab w) : Calls Tryd.prog 16 #[.int .i64 a0] w fun e w' => e = .returned (.int .i8 r) ∧ Drawn0 w w' := by
  have b0 : -255 ≤ Int.tmod a0 256 ∧ Int.tmod a0 256 ≤ 255 := by
    rw [Int.tmod_eq_emod]; split <;> omega
  have e1 : (Int.tmod a0 256 + 256) % 256 = a0 % 256 := by
    rw [Int.tmod_eq_emod]; split <;> omega
  have e2 : (a0 % 256) % 128 = a0 % 128 := by omega
  unfold rope_Sine.f at h
  generalize hm : Int.tmod a0 256 = m at b0 e1
  generalize hq : a0 % 256 = q at e1 e2 h
  have q0 : 0 ≤ q ∧ q ≤ 255 := by omega
  generalize hx : a0 % 128 = x at e2 h
  have x0 : 0 ≤ x ∧ x ≤ 127 := by omega
  have hl1 : x ≤ 64 → min x.toNat (128 - x).toNat = x.toNat := fun _ => by omega
  have hl2 : 65 ≤ x → min x.toNat (128 - x).toNat = (128 - x).toNat := fun _ => by omega
  have i0 : min x.toNat (128 - x).toNat < 65 := by omega
  generalize hi : min x.toNat (128 - x).toNat = i at hl1 hl2 i0 h
  have hc := ht i i0
  have hv := tabL_in i
  generalize tabL.getD i 0 = v at hc hv h
  obtain ⟨b1, b2⟩ := b0
  obtain ⟨q1, q2⟩ := q0
  obtain ⟨x1, x2⟩ := x0
  obtain ⟨v1, v2⟩ := hv
  clear hi hx hq ht
  rcases (show x ≤ 64 ∨ 65 ≤ x by omega) with cx | cx
  all_goals
    first | (have hj := hl1 cx; clear hl1 hl2; subst hj) | (have hj := hl2 cx; clear hl1 hl2; subst hj)
    by_cases c : q < 128
    · rw [if_pos c] at h
      obtain rfl := Option.some.inj h
      have c1 : decide ((128 : Int) ≤ q) = false := decide_eq_false (by omega)
      clear h
      go_enter Tryd.func16, Tryd.ntmps16
      go_wp2
      go_ret
      exact ⟨rfl, ⟨0, rfl⟩⟩
    · rw [if_neg c] at h
      obtain rfl := Option.some.inj h
      have c1 : decide ((128 : Int) ≤ q) = true := decide_eq_true (by omega)
      clear h
      go_enter Tryd.func16, Tryd.ntmps16
      go_wp2
      go_ret
      exact ⟨rfl, ⟨0, rfl⟩⟩

end Go.Proofs.YtengkjkmdodifaaDoor.P
