/- The usual angles: their squares sum to 4096, give or take 75; a half turn is the opposite, a whole one the same; a table begins with no turn, and one of more places begins with one of fewer; errors as the document has them. No condition. -/
import Derived.Test.YtengkjkmdodifaaDoorPx10
import Derived.Test.YtengkjkmdodifaaDoorLibRopeCircle
namespace Go.Proofs.YtengkjkmdodifaaDoor.Pure
open Go Go.RowKit Go.Proofs.YtengkjkmdodifaaDoor.M Go.Proofs.YtengkjkmdodifaaDoor.L Go.Proofs.YtengkjkmdodifaaDoor.P Go.Proofs.YtengkjkmdodifaaDoorW.PrintWords Go.Proofs.YtengkjkmdodifaaDoorW.PrintLast Go.Proofs.YtengkjkmdodifaaDoorW.PrintMore
set_option linter.unusedVariables false
set_option linter.unusedSimpArgs false

theorem circle (r : Nat) (h : r < 256) : sineS r * sineS r + sineS (r + 64) * sineS (r + 64) - 4096 ≤ 75 ∧ -75 ≤ sineS r * sineS r + sineS (r + 64) * sineS (r + 64) - 4096 ∧ sineS ((r : Int) + 128) = -sineS r ∧ sineS ((r : Int) - 256) = sineS r ∧ sineS (-(r : Int)) = -sineS r := by
  have key : ∀ r : Fin 256, sineS (r.1 : Int) * sineS (r.1 : Int) + sineS ((r.1 : Int) + 64) * sineS ((r.1 : Int) + 64) - 4096 ≤ 75 ∧ -75 ≤ sineS (r.1 : Int) * sineS (r.1 : Int) + sineS ((r.1 : Int) + 64) * sineS ((r.1 : Int) + 64) - 4096 ∧ sineS ((r.1 : Int) + 128) = -sineS (r.1 : Int) ∧ sineS ((r.1 : Int) - 256) = sineS (r.1 : Int) ∧ sineS (-(r.1 : Int)) = -sineS (r.1 : Int) := by decide +kernel
  exact key ⟨r, h⟩
theorem i8_neg (x : Int) : IntKind.i8.wrap (-(sineS x)) = -sineS x := by
  have := sineS_in x
  exact i8wrap_id ⟨by omega, by omega⟩
theorem cosL_take (f : Nat → Nat → Int) (h : Nat) {m n : Nat} (hm : m ≤ n) : (cosL f h n).take m = cosL f h m := by
  unfold cosL; rw [← List.map_take, List.take_range, Nat.min_eq_left hm]
theorem sinL_take (f : Nat → Nat → Int) (h : Nat) {m n : Nat} (hm : m ≤ n) : (sinL f h n).take m = sinL f h m := by
  unfold sinL; rw [← List.map_take, List.take_range, Nat.min_eq_left hm]
theorem circle_nums {s c : Int} (hs : -64 ≤ s ∧ s ≤ 64) (hc : -64 ≤ c ∧ c ≤ 64) : wrap64 (wrap64 (wrap64 (wrap64 s * wrap64 s) + wrap64 (wrap64 c * wrap64 c)) - 4096) = s * s + c * c - 4096 := by
  have m1 := i8_mul (x := s) (y := s) ⟨by omega, by omega⟩ ⟨by omega, by omega⟩
  have m2 := i8_mul (x := c) (y := c) ⟨by omega, by omega⟩ ⟨by omega, by omega⟩
  have e1 : wrap64 s = s := wrap64_id' (by omega) (by omega)
  have e2 : wrap64 c = c := wrap64_id' (by omega) (by omega)
  rw [e1, e2]; clear e1 e2
  generalize s * s = a at *
  generalize c * c = b at *
  have e1 : wrap64 a = a := wrap64_id' (by omega) (by omega)
  have e2 : wrap64 b = b := wrap64_id' (by omega) (by omega)
  rw [e1, e2]; clear e1 e2
  have e1 : wrap64 (a + b) = a + b := wrap64_id' (by omega) (by omega)
  rw [e1]; clear e1
  exact wrap64_id' (by omega) (by omega)
theorem circle_first (k : Nat) (p f h : Int) (i : Nat) (hi : i < 256) : heraldlaw10_RopeCircle.l0 (k + 1) p f h (i : Int) = heraldlaw10_RopeCircle.j1 k p f h (i : Int) (i : Int) false := by
  obtain ⟨g1, g2, _⟩ := circle i hi
  have h0 : (i : Int) < 256 := by omega
  have e64 : wrap64 ((i : Int) + 64) = (i : Int) + 64 := wrap64_id' (by omega) (by omega)
  simp only [heraldlaw10_RopeCircle.l0, Sine_f, Option.bind_some, h0, if_true, e64, circle_nums (sineS_in (i : Int)) (sineS_in ((i : Int) + 64))]
  generalize sineS (i : Int) * sineS (i : Int) + sineS ((i : Int) + 64) * sineS ((i : Int) + 64) - 4096 = n at g1 g2
  rw [if_neg (Int.not_lt.mpr g1), decide_eq_false (Int.not_lt.mpr g2)]
theorem circle_second (k : Nat) (p f h : Int) (i : Nat) (hi : i < 256) : heraldlaw10_RopeCircle.j1 (k + 1) p f h (i : Int) (i : Int) false = heraldlaw10_RopeCircle.l0 k p f h ((i + 1 : Nat) : Int) := by
  obtain ⟨_, _, g3, g4, g5⟩ := circle i hi
  have e1 : wrap64 ((i : Int) + 128) = (i : Int) + 128 := wrap64_id' (by omega) (by omega)
  have e2 : wrap64 ((i : Int) - 256) = (i : Int) - 256 := by clear e1; exact wrap64_id' (by omega) (by omega)
  have e3 : wrap64 (-(i : Int)) = -(i : Int) := by clear e1 e2; exact wrap64_id' (by omega) (by omega)
  have e4 : wrap64 ((i : Int) + 1) = ((i + 1 : Nat) : Int) := by clear e1 e2 e3; exact wone (by omega)
  simp only [heraldlaw10_RopeCircle.j1, Bool.false_eq_true, if_false, Sine_f, Option.bind_some, e1, e2, e3, e4, i8_neg, g3, g4, g5, if_true]
theorem circle_step (p f h : Int) (i : Nat) (hi : i < 256) (ih : Ev (fun k => heraldlaw10_RopeCircle.l0 k p f h ((i + 1 : Nat) : Int)) true) : Ev (fun k => heraldlaw10_RopeCircle.l0 k p f h (i : Int)) true :=
  Ev.step (fun k => circle_first k p f h i hi) (Ev.step (fun k => circle_second k p f h i hi) ih)
theorem RopeCircle : heraldlaw10_RopeCircle.Pure := by
  intro p f h h1 h2 h3
  refine Ev.rounds (g := fun k => heraldlaw10_RopeCircle.f k p f h) ?_
  unfold heraldlaw10_RopeCircle.f
  refine Ev.bind awake_ev ?_
  simp only [if_true]
  have hP := i64_of_wf h1
  have hF := i64_of_wf h2
  have hH := i64_of_wf h3
  refine ev_loop (fun k i => heraldlaw10_RopeCircle.l0 k p f h (i : Int)) true 256 (fun _ => True) trivial (fun _ => ?_) (fun i hi _ ih => ?_)
  · refine Ev.step (f := fun k => (rope_Table.f k p h).bind fun bt370 => ((heraldref10_Table.f k p h).bind fun bt377 => (if bt370.2.2 = bt377.2.2 then (if bt370.2.2 = 0 then (if (bt370.1.length : Int) = (wrap64 (p * h)) then (heraldlaw10_RopeCircle.j2 k p f h bt370.1 bt370.2.1 ((bt370.2.1.length : Int) != (wrap64 (p * h)))) else (heraldlaw10_RopeCircle.j2 k p f h bt370.1 bt370.2.1 true)) else (if (bt370.1.length : Int) = 0 then (if (bt370.2.1.length : Int) = 0 then (some (bt370.2.2 == 102)) else (some false)) else (some false))) else (some false)))) (fun k => ?_) ?_
    · simp only [heraldlaw10_RopeCircle.l0]; rw [if_neg (by omega)]
    · refine Ev.bind (Table_f p h) ?_
      refine Ev.bind (rTable_f p h) ?_
      simp only [if_true]
      by_cases hb : p < 1 ∨ p > 512 ∨ h < 1 ∨ h > 32
      · have e : tableS p h = ([], [], 102) := by unfold tableS; rw [if_pos hb]
        rw [e]; simp; exact Ev.now _
      · obtain ⟨P, rfl⟩ : ∃ n : Nat, p = n := ⟨p.toNat, by omega⟩
        obtain ⟨Hn, rfl⟩ : ∃ n : Nat, h = n := ⟨h.toNat, by omega⟩
        have hg := grid_le (p := P) (h := Hn) (by omega) (by omega)
        have e : tableS P Hn = (cosL ang Hn (P * Hn), sinL ang Hn (P * Hn), 0) := by unfold tableS; rw [if_neg hb]; rfl
        have hPH : Hn ≤ P * Hn := Nat.le_mul_of_pos_left Hn (by omega)
        have hg2 : P * Hn ≤ 140737488351232 := by omega
        have hg3 : P * Hn ≤ 4611686018427387904 := by omega
        rw [e]
        simp only [if_true, cosL_len, sinL_len, wmul hg2, bne_self_eq_false]
        refine ev_succ ?_
        simp only [heraldlaw10_RopeCircle.j2, Bool.false_eq_true, if_false]
        refine ev_loop (fun k i => heraldlaw10_RopeCircle.l1 k P f Hn (cosL ang Hn (P * Hn)) (sinL ang Hn (P * Hn)) Hn (i : Int)) true Hn (fun _ => True) trivial (fun _ => ?_) (fun i hi _ ih => ?_)
        · refine Ev.step (f := fun k => (rope_Table.f k f Hn).bind fun bt386 => (if f < 1 then (heraldlaw10_RopeCircle.j4 k f Hn (cosL ang Hn (P * Hn)) (sinL ang Hn (P * Hn)) bt386.2.2 bt386.1 bt386.2.1 true) else (heraldlaw10_RopeCircle.j4 k f Hn (cosL ang Hn (P * Hn)) (sinL ang Hn (P * Hn)) bt386.2.2 bt386.1 bt386.2.1 (decide (f > (P : Int)))))) (fun k => ?_) ?_
          · simp only [heraldlaw10_RopeCircle.l1]; rw [if_neg (by omega)]
          · refine Ev.bind (Table_f f Hn) ?_
            have yes : ∀ R : List Int × List Int × Int, Ev (fun k => heraldlaw10_RopeCircle.j4 k f Hn (cosL ang Hn (P * Hn)) (sinL ang Hn (P * Hn)) R.2.2 R.1 R.2.1 true) true := fun R => Ev.step (fun k => by simp only [heraldlaw10_RopeCircle.j4, if_true]) (Ev.now _)
            by_cases f1 : f < 1
            · simp only [f1, if_true]; exact yes _
            · by_cases f2 : f > (P : Int)
              · simp only [f1, f2, if_false, decide_true]; exact yes _
              · simp only [f1, f2, if_false, decide_false]
                obtain ⟨Fn, rfl⟩ : ∃ n : Nat, f = n := ⟨f.toNat, by omega⟩
                have e2 : tableS Fn Hn = (cosL ang Hn (Fn * Hn), sinL ang Hn (Fn * Hn), 0) := by unfold tableS; rw [if_neg (by omega)]; rfl
                have hle : Fn * Hn ≤ P * Hn := Nat.mul_le_mul_right Hn (by omega)
                have hl2 : Fn * Hn ≤ 140737488351232 := by omega
                have hl3 : Fn * Hn ≤ 4611686018427387904 := by omega
                rw [e2]
                refine ev_succ ?_
                have c1 : ((Fn * Hn : Nat) : Int) ≤ ((P * Hn : Nat) : Int) := Int.ofNat_le.mpr hle
                have c0 : (0 : Int) ≤ ((Fn * Hn : Nat) : Int) := Int.natCast_nonneg _
                simp only [heraldlaw10_RopeCircle.j4, Bool.false_eq_true, if_false, if_true, wmul hl2, c0, c1, cosL_len, sinL_len, Int.toNat_natCast, cosL_take ang Hn hle, sinL_take ang Hn hle]
                refine Ev.bind (same_ev _ (by rw [cosL_len]; exact hl3)) ?_
                simp only [if_true]
                exact Ev.bind (same_ev _ (by rw [sinL_len]; exact hl3)) (Ev.now _)
        · refine Ev.step (fun k => ?_) (ih trivial)
          have hi2 : i < P * Hn := by omega
          have ed : i / Hn = 0 := Nat.div_eq_of_lt hi
          have ea : ang 0 (i % Hn) = 0 := by unfold ang; simp
          have r1 : rd (cosL ang Hn (P * Hn)) (i : Int) = 64 := by
            rw [rd_at (by rw [cosL_len]; exact hi2)]
            simp only [cosL, List.getElem_map, List.getElem_range, ed, ea]
            decide +kernel
          have r2 : rd (sinL ang Hn (P * Hn)) (i : Int) = 0 := by
            rw [rd_at (by rw [sinL_len]; exact hi2)]
            simp only [sinL, List.getElem_map, List.getElem_range, ed, ea]
            decide +kernel
          have i2 : (i : Int) < ((P * Hn : Nat) : Int) := Int.ofNat_lt.mpr hi2
          simp only [heraldlaw10_RopeCircle.l1, cosL_len, sinL_len, r1, r2, i2, if_true]
          rw [if_pos (by omega), if_pos (by omega), wrap64_id' (x := (i : Int) + 1) (by omega) (by omega)]
          rfl
  · exact circle_step p f h i hi (ih trivial)

end Go.Proofs.YtengkjkmdodifaaDoor.Pure
