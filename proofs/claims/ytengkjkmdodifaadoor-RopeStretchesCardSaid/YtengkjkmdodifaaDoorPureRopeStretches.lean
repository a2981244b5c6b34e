/- Every table of stretched angles is what the document's reference says, errors too; stretched by a number over itself it is the usual table; by one half the place 2 p has the usual angles of p. No condition. -/
import Derived.Test.YtengkjkmdodifaaDoorPx11
import Derived.Test.YtengkjkmdodifaaDoorLibRopeStretches
namespace Go.Proofs.YtengkjkmdodifaaDoor.Pure
open Go Go.RowKit Go.Proofs.YtengkjkmdodifaaDoor.M Go.Proofs.YtengkjkmdodifaaDoor.L Go.Proofs.YtengkjkmdodifaaDoor.P Go.Proofs.YtengkjkmdodifaaDoorW.PrintWords Go.Proofs.YtengkjkmdodifaaDoorW.PrintLast Go.Proofs.YtengkjkmdodifaaDoorW.PrintMore
set_option linter.unusedVariables false
set_option linter.unusedSimpArgs false

-- NEEDS heraldlaw10_RopeStretches.f
theorem angS_self {n : Int} (h : 0 < n) : angS n n = ang := by
  funext p i
  unfold angS ang
  exact Int.mul_ediv_mul_of_pos_left _ _ h
theorem angS_half (p i : Nat) : angS 1 2 (2 * p) i = ang p i := by
  unfold angS ang
  rw [show 64 * ((2 * p : Nat) : Int) * 1 = 64 * (p : Int) * 2 by omega]
  exact Int.mul_ediv_mul_of_pos_left _ _ (by omega)
theorem cosL_row (f : Nat → Nat → Int) {h q n : Nat} (hq : q * h + h ≤ n) : ((cosL f h n).take (q * h + h)).drop (q * h) = (List.range h).map fun t => sineS (f q t + 64) := by
  apply List.ext_getElem
  · simp [cosL_len]; omega
  · intro t h1 h2
    have ht : t < h := by simpa using h2
    simp only [cosL, List.getElem_drop, List.getElem_take, List.getElem_map, List.getElem_range]
    have e1 : (q * h + t) / h = q := Nat.div_eq_of_lt_le (by omega) (by rw [Nat.succ_mul]; omega)
    have e2 : (q * h + t) % h = t := by rw [Nat.mul_comm, Nat.mul_add_mod, Nat.mod_eq_of_lt ht]
    rw [e1, e2]
theorem sinL_row (f : Nat → Nat → Int) {h q n : Nat} (hq : q * h + h ≤ n) : ((sinL f h n).take (q * h + h)).drop (q * h) = (List.range h).map fun t => sineS (f q t) := by
  apply List.ext_getElem
  · simp [sinL_len]; omega
  · intro t h1 h2
    have ht : t < h := by simpa using h2
    simp only [sinL, List.getElem_drop, List.getElem_take, List.getElem_map, List.getElem_range]
    have e1 : (q * h + t) / h = q := Nat.div_eq_of_lt_le (by omega) (by rw [Nat.succ_mul]; omega)
    have e2 : (q * h + t) % h = t := by rw [Nat.mul_comm, Nat.mul_add_mod, Nat.mod_eq_of_lt ht]
    rw [e1, e2]
theorem RopeStretches (p h num den : Int) (q0 : (Lit.int .i64 p).wf = true) (q1 : (Lit.int .i64 h).wf = true) (q2 : (Lit.int .i64 num).wf = true) (q3 : (Lit.int .i64 den).wf = true) : ∃ k, heraldlaw10_RopeStretches.f k p h num den = some true := by
  refine Ev.rounds (g := fun k => heraldlaw10_RopeStretches.f k p h num den) ?_
  unfold heraldlaw10_RopeStretches.f
  refine Ev.bind awake_ev ?_
  simp only [if_true]
  have l0 := stretchS_len p h num den
  have l1 := tableS_len p h
  refine Ev.bind (Stretched_f p h num den) ?_
  refine Ev.bind (rStretched_f p h num den) ?_
  refine Ev.bind (same_ev _ (by omega)) ?_
  simp only [if_true]
  refine Ev.bind (same_ev _ (by omega)) ?_
  simp only [if_true, bne_self_eq_false]
  refine ev_succ ?_
  simp only [heraldlaw10_RopeStretches.j0, Bool.false_eq_true, if_false]
  refine Ev.bind (Table_f p h) ?_
  refine Ev.bind (rTable_f p h) ?_
  simp only [if_true]
  have yes : ∀ a b, Ev (fun k => heraldlaw10_RopeStretches.j1 k p h a b true num den) true := fun a b => Ev.step (fun k => by simp only [heraldlaw10_RopeStretches.j1, if_true]) (Ev.now _)
  by_cases hb : p < 1 ∨ p > 512 ∨ h < 1 ∨ h > 32
  · have e : tableS p h = ([], [], 102) := by unfold tableS; rw [if_pos hb]
    rw [e]; simp only [show ¬ (102 : Int) = 0 by decide, if_false]; exact yes _ _
  · obtain ⟨P, rfl⟩ : ∃ n : Nat, p = n := ⟨p.toNat, by omega⟩
    obtain ⟨Hn, rfl⟩ : ∃ n : Nat, h = n := ⟨h.toNat, by omega⟩
    have hg := grid_le (p := P) (h := Hn) (by omega) (by omega)
    have e : tableS P Hn = (cosL ang Hn (P * Hn), sinL ang Hn (P * Hn), 0) := by unfold tableS; rw [if_neg hb]; rfl
    rw [e]
    simp only [if_true]
    by_cases n1 : num < 1
    · simp only [n1, if_true]; exact yes _ _
    · by_cases n2 : num > 65536
      · simp only [n1, n2, if_false, decide_true]; exact yes _ _
      · simp only [n1, n2, if_false, decide_false]
        refine ev_succ ?_
        simp only [heraldlaw10_RopeStretches.j1, Bool.false_eq_true, if_false]
        have s1 : stretchS P Hn num num = (cosL ang Hn (P * Hn), sinL ang Hn (P * Hn), 0) := by
          unfold stretchS; rw [if_neg hb, if_neg (by omega), angS_self (by omega)]; rfl
        have s2 : stretchS P Hn 1 2 = (cosL (angS 1 2) Hn (P * Hn), sinL (angS 1 2) Hn (P * Hn), 0) := by
          unfold stretchS; rw [if_neg hb, if_neg (by omega)]; rfl
        refine Ev.bind (Stretched_f P Hn num num) ?_
        refine Ev.bind (Stretched_f P Hn 1 2) ?_
        rw [s1, s2]
        simp only [if_true]
        refine Ev.bind (same_ev _ (by rw [cosL_len]; omega)) ?_
        simp only [if_true]
        refine Ev.bind (same_ev _ (by rw [sinL_len]; omega)) ?_
        simp only [if_true, cosL_len, sinL_len, bne_self_eq_false]
        refine ev_succ ?_
        simp only [heraldlaw10_RopeStretches.j2, Bool.false_eq_true, if_false]
        refine ev_loop (fun k i => heraldlaw10_RopeStretches.l0 k P Hn (cosL ang Hn (P * Hn)) (sinL ang Hn (P * Hn)) (cosL (angS 1 2) Hn (P * Hn)) (sinL (angS 1 2) Hn (P * Hn)) (i : Int)) true ((P + 1) / 2) (fun _ => True) trivial (fun _ => ?_) (fun i hi _ ih => ?_)
        · refine Ev.step (f := fun _ => some true) (fun k => ?_) (Ev.now _)
          simp only [heraldlaw10_RopeStretches.l0]
          rw [wrap64_id' (x := 2 * (((P + 1) / 2 : Nat) : Int)) (by omega) (by omega), if_neg (by omega)]
        · have b1 : 2 * i * Hn + Hn ≤ P * Hn := by
            have := Nat.mul_le_mul_right Hn (show 2 * i + 1 ≤ P by omega)
            rw [Nat.succ_mul] at this; exact this
          have b2 : i * Hn + Hn ≤ P * Hn := by
            have := Nat.mul_le_mul_right Hn (show i + 1 ≤ P by omega)
            rw [Nat.succ_mul] at this; exact this
          have r1 := cosL_row (angS 1 2) b1
          have r2 := sinL_row (angS 1 2) b1
          have r3 := cosL_row ang b2
          have r4 := sinL_row ang b2
          simp only [angS_half] at r1 r2
          have m1 : 2 * i ≤ 140737488351232 := by omega
          have m2 : 2 * i * Hn ≤ 140737488351232 := by omega
          have m3 : 2 * i * Hn + Hn ≤ 140737488351232 := by omega
          have m4 : i * Hn ≤ 140737488351232 := by omega
          have m5 : i * Hn + Hn ≤ 140737488351232 := by omega
          have m6 : i ≤ 140737488351232 := by omega
          have m7 : Hn ≤ 4611686018427387904 := by omega
          have d0 : ((2 * i : Nat) : Int) < (P : Int) := by omega
          have d1 : ((2 * i * Hn + Hn : Nat) : Int) ≤ ((P * Hn : Nat) : Int) := Int.ofNat_le.mpr b1
          have d2 : ((i * Hn + Hn : Nat) : Int) ≤ ((P * Hn : Nat) : Int) := Int.ofNat_le.mpr b2
          have d3 : (0 : Int) ≤ ((2 * i * Hn : Nat) : Int) := Int.natCast_nonneg _
          have d4 : (0 : Int) ≤ ((i * Hn : Nat) : Int) := Int.natCast_nonneg _
          have d5 : ((2 * i * Hn : Nat) : Int) ≤ ((2 * i * Hn + Hn : Nat) : Int) := Int.ofNat_le.mpr (Nat.le_add_right _ _)
          have d6 : ((i * Hn : Nat) : Int) ≤ ((i * Hn + Hn : Nat) : Int) := Int.ofNat_le.mpr (Nat.le_add_right _ _)
          have c1 : ∀ f : Nat → Int, ((List.range Hn).map f).length ≤ 4611686018427387904 := fun f => by rw [List.length_map, List.length_range]; exact m7
          have w1 := wdbl m1
          have w2 := wmul m2
          have w3 := wadd m3
          have w4 := wmul m4
          have w5 := wadd m5
          have w6 := wone m6
          clear m1 m2 m3 m4 m5 m6 m7
          refine ev_succ ?_
          simp only [heraldlaw10_RopeStretches.l0, w1, w2, w3, w4, w5, w6, cosL_len, sinL_len, d0, d1, d2, d3, d4, d5, d6, Int.toNat_natCast, r1, r2, r3, r4, if_true]
          refine Ev.bind (same_ev _ (c1 _)) ?_
          simp only [if_true]
          refine Ev.bind (same_ev _ (c1 _)) ?_
          simp only [if_true]
          exact ih trivial

end Go.Proofs.YtengkjkmdodifaaDoor.Pure
