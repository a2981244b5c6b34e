-- Printed by xprint.py (wip): functions, contracts, rows. Lean checks it.
import Derived.Test.YtigfodkakefhcaaPx0
import Derived.Test.YtigfodkakefhcaaPx1
namespace Go.Proofs.Ytigfodkakefhcaa.P
open Go.RowKit Go.Proofs.YtigfodkakefhcaaW.PrintWords Go.Proofs.YtigfodkakefhcaaW.PrintLast Go.Proofs.YtigfodkakefhcaaW.PrintMore
attribute [local go_sem] max2_int min2_int max_two min_two max_three min_three max_four min_four   -- for this text's walks alone
set_option linter.unusedVariables false
set_option linter.unusedSimpArgs false

/-! ### vec_Sizes: function 25 -/
def vec_Sizes.f (l0 : List Int) (a1 : Int) : Option (List Int × Int) := (vec_matrix.f l0 a1).bind fun e => if e = 0 then some ((List.range (l0.length / a1.toNat)).map (fun j => K.sizeSum (K.rowOf l0 a1.toNat j)), 0) else some ([], e)
theorem vec_Sizes.calls (A0 : Option Addr) (c0 : Nat) (l0 : List Int) (a1 : Int) (r1 : List Int) (r2 : Int) (w : World) (hr0 : Kd.C (Kd.int .i8) w A0 l0.length l0) (hc0 : l0.length ≤ c0) (h : vec_Sizes.f l0 a1 = some (r1, r2)) :
    Calls Try.prog 25 #[.slice A0 l0.length c0, .int .i64 a1] w fun e w' => ∃ v0_ : Value, e = .returned (.tuple #[v0_, .int .i64 r2]) ∧ Kd.R (Kd.int .i64) 2 w' w.heap.size (fun _ => True) v0_ r1 ∧ Below w.heap.size w w' := by
  unfold vec_Sizes.f at h
  obtain ⟨e, he, h⟩ := Option.bind_eq_some_iff.mp h
  have hm : ∀ W, Below w.heap.size w W → Calls Try.prog 46 #[.slice A0 l0.length c0, .int .i64 a1] W fun e' w' => e' = .returned (.int .i64 e) ∧ Drawn0 W w' := fun W hb => vec_matrix.calls A0 c0 l0 a1 e W (Kd.C_below hr0 hb) hc0 he
  by_cases c : e = 0
  · subst c
    rw [if_pos rfl] at h
    obtain ⟨q1, q2, q3⟩ : l0.length ≤ 1048576 ∧ 1 ≤ a1 ∧ (l0.length : Int) % a1 = 0 := by
      unfold vec_matrix.f at he
      split at he
      · cases he
      · split at he
        · cases he
        · split at he
          · cases he
          · split at he
            · refine ⟨by omega, by omega, by assumption⟩
            · cases he
    obtain ⟨n, rfl⟩ : ∃ n : Nat, a1 = n := ⟨a1.toNat, by omega⟩
    simp only [Int.toNat_natCast] at h
    have q3' : l0.length % n = 0 := by omega
    have hT : l0.length / n * n = l0.length := Nat.div_mul_cancel (Nat.dvd_of_mod_eq_zero q3')
    have hrows : l0.length / n ≤ l0.length := Nat.div_le_self _ _
    have key := K.sizes_in Fence.wide 4 trivial trivial trivial trivial rfl (by omega) A0 c0 n (l0.length / n) l0.length hT (by omega) hc0 (by omega) l0 rfl w (by omega)
      (fun W hb j hj => by
        obtain ⟨ad, hA, hcell⟩ := Kd.at_int (Kd.C_below hr0 hb) (j : Int) (by omega) (by omega)
        exact ⟨ad, hA, by simpa [rd] using hcell⟩)
      (fun W hb => callsIn_wide.2 ((hm W hb).mono fun e w' ⟨he, nd, hw⟩ => ⟨he, nd, hw⟩))
    refine (callsIn_wide.1 key).mono ?_
    rintro e w' ⟨v, rfl, hown, hb⟩
    simp only [Option.some.injEq, Prod.mk.injEq] at h
    obtain ⟨rfl, rfl⟩ := h
    refine ⟨v, rfl, Kd.R_of_own ?_ (fun _ _ => trivial), hb⟩
    have e1 : K.tt (fun j : Fin (l0.length / n) => K.sizeSum (K.rowOf l0 n j.1)) (List.finRange (l0.length / n)) = ((List.range (l0.length / n)).map (fun j => K.sizeSum (K.rowOf l0 n j))).map (Value.int .i64) := by
      unfold K.tt
      apply List.ext_getElem
      · simp
      · intro i h1 h2
        simp
    rw [e1] at hown
    simpa [encs] using hown
  · rw [if_neg c] at h
    cases h
    have e1 : (r2 == 0) = false := beq_eq_false_iff_ne.mpr c
    have e2 : (r2 != 0) = true := bne_iff_ne.mpr c
    go_enter Try.func25, Try.ntmps25
    go_wp2_with (go_at_call 46; refine (hm _ (Below.refl _ w)).mono ?_; rintro e' w' ⟨rfl, ⟨nd, rfl⟩⟩)
    go_ret2
    exact ⟨_, rfl, Kd.R_nil _ _ _ _ _, pw_below_drewN (Below.refl _ w) nd⟩

end Go.Proofs.Ytigfodkakefhcaa.P
