-- Printed by xprint.py (wip): functions, contracts, rows. Lean checks it.
import Derived.Test.YtigfodkakefhcaaPx0
import Derived.Test.YtigfodkakefhcaaPx1
namespace Go.Proofs.Ytigfodkakefhcaa.P
open Go.RowKit Go.Proofs.YtigfodkakefhcaaW.PrintWords Go.Proofs.YtigfodkakefhcaaW.PrintLast Go.Proofs.YtigfodkakefhcaaW.PrintMore
attribute [local go_sem] max2_int min2_int max_two min_two max_three min_three max_four min_four   -- for this text's walks alone
set_option linter.unusedVariables false
set_option linter.unusedSimpArgs false

/-! ### vec_Times: function 15 -/
def rowsDots (k : Nat) (w x : List Int) (n : Nat) : Nat → Option (List Int)
  | 0 => some []
  | j + 1 => (rowsDots k w x n j).bind fun p => (vec_dot.f k ((w.drop (j * n)).take n) x).bind fun s => some (p ++ [s])
def vec_Times.f (k : Nat) (l0 : List Int) (a1 : Int) (l2 : List Int) : Option (List Int × Int) := (vec_matrix.f l0 a1).bind fun e => if e = 0 then (if (l2.length : Int) = a1 then ((rowsDots k l0 l2 a1.toNat (l0.length / a1.toNat)).bind fun r => some (r, 0)) else some ([], 80)) else some ([], e)
theorem rowsDots_mono (w x : List Int) (n k : Nat) : ∀ j, LeO (rowsDots k w x n j) (rowsDots (k + 1) w x n j)
  | 0 => LeO.refl _
  | j + 1 => by
    simp only [rowsDots]
    exact LeO.bind (rowsDots_mono w x n k j) (fun _ => LeO.bind (vec_dot.mono _ _ _) (fun _ => LeO.refl _))
theorem vec_Times.mono : ∀ a0 a1 a2 k, LeO (vec_Times.f k a0 a1 a2) (vec_Times.f (k + 1) a0 a1 a2) := by
  intro a0 a1 a2 k
  unfold vec_Times.f
  refine LeO.bind (LeO.refl _) (fun _ => ?_)
  refine LeO.ite ?_ (LeO.refl _)
  refine LeO.ite ?_ (LeO.refl _)
  exact LeO.bind (rowsDots_mono _ _ _ _ _) (fun _ => LeO.refl _)
theorem rowsDots_get (k : Nat) (w x : List Int) (n : Nat) : ∀ (j : Nat) (r : List Int), rowsDots k w x n j = some r → r.length = j ∧ ∀ i (h : i < r.length), vec_dot.f k ((w.drop (i * n)).take n) x = some r[i]
  | 0, r, h => by simp [rowsDots] at h; subst h; simp
  | j + 1, r, h => by
    simp only [rowsDots] at h
    obtain ⟨p, hp, h⟩ := Option.bind_eq_some_iff.mp h
    obtain ⟨s, hs, h⟩ := Option.bind_eq_some_iff.mp h
    cases h
    obtain ⟨h1, h2⟩ := rowsDots_get k w x n j p hp
    refine ⟨by simp [h1], fun i hi => ?_⟩
    by_cases c : i < p.length
    · rw [List.getElem_append_left c]; exact h2 i c
    · have e : i = j := by simp at hi; omega
      subst e
      rw [List.getElem_append_right (by omega)]
      simpa [h1] using hs
theorem chunk_C {W : World} {A : Option Addr} {l : List Int} (h : Kd.C (Kd.int .i8) W A l.length l) (n j : Nat) (hj : j * n + n ≤ l.length) : Kd.C (Kd.int .i8) W (A.map (·.add (j * n))) n ((l.drop (j * n)).take n) := by
  refine ⟨by simp; omega, by have := h.2.1; omega, fun hpos => ?_⟩
  obtain ⟨ad, rfl, hc⟩ := h.2.2 (by omega)
  refine ⟨ad.add (j * n), rfl, fun i p hp => ?_⟩
  have hp' : l[j * n + i]? = some p := by
    rw [List.getElem?_take] at hp
    split at hp
    · rw [List.getElem?_drop] at hp; exact hp
    · cases hp
  obtain ⟨c, hs, hr, hcell⟩ := hc _ p hp'
  refine ⟨c, hs, hr, fun q u hu => ?_⟩
  have := hcell q u hu
  rw [show ∀ (p : Addr) (a b : Nat), (p.add a).add b = p.add (a + b) from fun p a b => by unfold Addr.add; by_cases ha : a = 0 <;> by_cases hb : b = 0 <;> simp [ha, hb, Nat.add_assoc]]
  have e : (j * n + i) * (Kd.int .i8).sz + q = j * n + (i * (Kd.int .i8).sz + q) := by show (j * n + i) * 1 + q = j * n + (i * 1 + q); omega
  rw [e] at this
  exact this
set_option maxRecDepth 100000 in
set_option maxHeartbeats 4000000 in
theorem vec_Times.calls (k : Nat) (A0 : Option Addr) (c0 : Nat) (l0 : List Int) (a1 : Int) (A2 : Option Addr) (c2 : Nat) (l2 : List Int) (r1 : List Int) (r2 : Int) (w : World) (hr0 : Kd.C (Kd.int .i8) w A0 l0.length l0) (hc0 : l0.length ≤ c0) (hr2 : Kd.C (Kd.int .i8) w A2 l2.length l2) (hc2 : l2.length ≤ c2) (h : vec_Times.f k l0 a1 l2 = some (r1, r2)) :
    Calls Try.prog 15 #[.slice A0 l0.length c0, .int .i64 a1, .slice A2 l2.length c2] w fun e w' => ∃ v0_ : Value, e = .returned (.tuple #[v0_, .int .i64 r2]) ∧ Kd.R (Kd.int .i64) 2 w' w.heap.size (fun _ => True) v0_ r1 ∧ Below w.heap.size w w' := by
  unfold vec_Times.f at h
  obtain ⟨e, he, h⟩ := Option.bind_eq_some_iff.mp h
  have hm : ∀ W, Below w.heap.size w W → Calls Try.prog 46 #[.slice A0 l0.length c0, .int .i64 a1] W fun e' w' => e' = .returned (.int .i64 e) ∧ Drawn0 W w' := fun W hb => vec_matrix.calls A0 c0 l0 a1 e W (Kd.C_below hr0 hb) hc0 he
  by_cases c : e = 0
  · subst c
    rw [if_pos rfl] at h
    obtain ⟨q1, q2, q3⟩ : l0.length ≤ 1048576 ∧ 1 ≤ a1 ∧ (l0.length : Int) % a1 = 0 := by
      unfold vec_matrix.f at he
      split at he
      · cases he
      · split at he
        · cases he
        · split at he
          · cases he
          · split at he
            · refine ⟨by omega, by omega, by assumption⟩
            · cases he
    by_cases c2' : (l2.length : Int) = a1
    · rw [if_pos c2'] at h
      obtain ⟨r, hr, h⟩ := Option.bind_eq_some_iff.mp h
      cases h
      subst c2'
      simp only [Int.toNat_natCast] at hr
      obtain ⟨g1, g2⟩ := rowsDots_get k l0 l2 l2.length _ _ hr
      have q3' : l0.length % l2.length = 0 := by omega
      have hT : l0.length / l2.length * l2.length = l0.length := Nat.div_mul_cancel (Nat.dvd_of_mod_eq_zero q3')
      have hn : 1 ≤ l2.length := by omega
      have hrows : l0.length / l2.length ≤ l0.length := Nat.div_le_self _ _
      have key := K.times_in Fence.wide 4 trivial trivial trivial trivial trivial rfl (by omega) A0 c0 l2.length (l0.length / l2.length) l0.length hT hn hc0 (by omega) A2 c2 (fun j => r1[j.1]'(by rw [g1]; exact j.2)) w (by omega)
        (fun W hb => callsIn_wide.2 ((hm W hb).mono fun e w' ⟨he, nd, hw⟩ => ⟨he, nd, hw⟩))
        (fun j W hb => callsIn_wide.2 (by
          have hj : j.1 * l2.length + l2.length ≤ l0.length := by
            have := Nat.mul_le_mul_right l2.length (show j.1 + 1 ≤ l0.length / l2.length from j.2)
            rw [Nat.succ_mul] at this; omega
          have hl : ((l0.drop (j.1 * l2.length)).take l2.length).length = l2.length := by simp; omega
          have hC := chunk_C (Kd.C_below hr0 hb) l2.length j.1 hj
          have := vec_dot.calls k (A0.map (·.add (j.1 * l2.length))) l2.length ((l0.drop (j.1 * l2.length)).take l2.length) A2 c2 l2 _ W (by rw [hl]; exact hC) (by omega) (Kd.C_below hr2 hb) hc2 (g2 j.1 (by rw [g1]; exact j.2))
          rw [hl] at this
          exact this.mono fun e w' ⟨he, nd, hw⟩ => ⟨he, nd, hw⟩))
      refine (callsIn_wide.1 key).mono ?_
      rintro e w' ⟨v, rfl, hown, hb⟩
      refine ⟨v, rfl, Kd.R_of_own ?_ (fun _ _ => trivial), hb⟩
      have e1 : K.tt (fun j : Fin (l0.length / l2.length) => r1[j.1]'(by rw [g1]; exact j.2)) (List.finRange (l0.length / l2.length)) = r1.map (Value.int .i64) := by
        unfold K.tt
        apply List.ext_getElem
        · simp [g1]
        · intro i h1 h2
          simp
      rw [e1] at hown
      rw [g1]
      exact hown
    · rw [if_neg c2'] at h
      cases h
      have e1 : ((l2.length : Int) == a1) = false := beq_eq_false_iff_ne.mpr c2'
      have e2 : ((l2.length : Int) != a1) = true := bne_iff_ne.mpr c2'
      go_enter Try.func15, Try.ntmps15
      go_wp2_with (go_at_call 46; refine (hm _ ((Below.refl _ w).alloc (Nat.le_refl _) _)).mono ?_; rintro e' w' ⟨rfl, ⟨nd, rfl⟩⟩)
      go_ret2
      exact ⟨_, rfl, Kd.R_nil _ _ _ _ _, pw_below_drewN ((Below.refl _ w).alloc (Nat.le_refl _) _) nd⟩
  · rw [if_neg c] at h
    cases h
    have e1 : (r2 == 0) = false := beq_eq_false_iff_ne.mpr c
    have e2 : (r2 != 0) = true := bne_iff_ne.mpr c
    go_enter Try.func15, Try.ntmps15
    go_wp2_with (go_at_call 46; refine (hm _ ((Below.refl _ w).alloc (Nat.le_refl _) _)).mono ?_; rintro e' w' ⟨rfl, ⟨nd, rfl⟩⟩)
    go_ret2
    exact ⟨_, rfl, Kd.R_nil _ _ _ _ _, pw_below_drewN ((Below.refl _ w).alloc (Nat.le_refl _) _) nd⟩

end Go.Proofs.Ytigfodkakefhcaa.P
