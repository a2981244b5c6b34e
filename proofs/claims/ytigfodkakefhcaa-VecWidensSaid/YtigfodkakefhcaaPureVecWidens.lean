/- Numbers times a power of two are what the document's reference says, errors too; rounded by the same shift and narrowed they are themselves again, but for -128. No condition but that the list can be handed in. -/
import Derived.Test.YtigfodkakefhcaaPx19
import Derived.Test.YtigfodkakefhcaaLibW
namespace Go.Proofs.Ytigfodkakefhcaa.Pure
open Go Go.RowKit Go.Proofs.Ytigfodkakefhcaa.M Go.Proofs.Ytigfodkakefhcaa.L Go.Proofs.Ytigfodkakefhcaa.P Go.Proofs.YtigfodkakefhcaaW.PrintWords Go.Proofs.YtigfodkakefhcaaW.PrintLast Go.Proofs.YtigfodkakefhcaaW.PrintMore
set_option linter.unusedVariables false
set_option linter.unusedSimpArgs false

theorem near_back {x : Int} {d : Int} (hd : 0 < d) : near (x * d) d = x := by
  unfold near
  rw [Int.mul_emod_left, Int.mul_ediv_cancel _ (by omega)]
  rw [if_neg (by omega)]
theorem back_one {x : Int} {s : Int} (h0 : 0 ≤ s) (h1 : s ≤ 55) (hx : I8 x) : narrow (roundS (x * 2 ^ s.toNat) s).1 = mx x (-127) := by
  have hp := pow_in (s := s) h0 (by omega)
  unfold roundS; rw [if_neg (by omega)]
  simp only [near_back hp.1]
  unfold I8 at hx
  unfold narrow clamp mx; repeat' split
  all_goals omega
theorem VecWidens : heraldlaw08_VecWidens.Pure := by
  intro l s h1 h2 h3 h4
  have il : ∀ x ∈ l, I8 x := fun x hx => i8_of_wf (h3 x hx)
  refine Ev.rounds (g := fun k => heraldlaw08_VecWidens.f k l s) ?_
  unfold heraldlaw08_VecWidens.f
  refine Ev.bind awake_ev ?_
  simp only [if_true]
  refine Ev.bind (Widen_f l s il) ?_
  refine Ev.bind (rWiden_f l s il) ?_
  have l1 := widenS_len l s
  refine Ev.bind (same64_ev _ (by omega)) ?_
  simp only [if_true, bne_self_eq_false]
  refine ev_succ ?_
  simp only [heraldlaw08_VecWidens.j0, Bool.false_eq_true, if_false]
  by_cases hc : l.length > 1048576
  · have e : widenS l s = ([], 81) := by unfold widenS; rw [if_pos hc]
    rw [e]; simp; exact Ev.now _
  · by_cases hs : s < 0 ∨ s > 55
    · have e : widenS l s = ([], 20) := by unfold widenS; rw [if_neg hc, if_pos hs]
      rw [e]; simp; exact Ev.now _
    · have e : widenS l s = ((List.range l.length).map fun i : Nat => rd l i * 2 ^ s.toNat, 0) := by unfold widenS; rw [if_neg hc, if_neg hs]
      have iw : ∀ x ∈ (widenS l s).1, I64 x := by
        rw [e]; intro x hx
        obtain ⟨i, _, rfl⟩ := List.mem_map.mp hx
        obtain ⟨n, rfl⟩ := Int.eq_ofNat_of_zero_le (show 0 ≤ s by omega)
        exact (shl_pow (s := n) (by omega) (rd_i8 il i)).2
      have hl : (widenS l s).1.length = l.length := by rw [e]; simp
      have e2 : shrinkS (widenS l s).1 s = ((List.range l.length).map fun i : Nat => mx (rd l i) (-127), 0) := by
        unfold shrinkS
        have e3 : scaleS (widenS l s).1 s = ((List.range (widenS l s).1.length).map fun i : Nat => (roundS (rd (widenS l s).1 i) s).1, 0) := by
          unfold scaleS; rw [if_neg (by omega), if_neg (by omega)]
        rw [e3]
        simp only [List.length_map, List.length_range, hl]
        congr 1
        apply List.map_congr_left
        intro i hi
        have hi' : i < l.length := by simpa using hi
        rw [rd_at (by simpa using hi')]
        simp only [List.getElem_map, List.getElem_range]
        rw [rd_at (l := (widenS l s).1) (by omega)]
        have e4 : (widenS l s).1[i]'(by omega) = rd l i * 2 ^ s.toNat := by
          simp only [e, List.getElem_map, List.getElem_range]
        rw [e4]
        exact back_one (by omega) (by omega) (rd_i8 il i)
      simp only [show (widenS l s).2 = 0 by rw [e], if_true]
      refine Ev.bind (Shrink_f _ s iw) ?_
      rw [e2]
      simp only [if_true, List.length_map, List.length_range, bne_self_eq_false]
      refine ev_succ ?_
      simp only [heraldlaw08_VecWidens.j1, Bool.false_eq_true, if_false]
      refine ev_loop (fun k i => heraldlaw08_VecWidens.l0 k ((List.range l.length).map fun i : Nat => mx (rd l i) (-127)) l l.length i) true l.length (fun _ => True) trivial (fun _ => ?_) (fun i hi _ ih => ?_)
      · refine Ev.step (f := fun _ => some true) (fun k => ?_) (Ev.now _)
        simp only [heraldlaw08_VecWidens.l0]; rw [if_neg (by omega)]
      · refine Ev.step (fun k => ?_) (ih trivial)
        have hr : rd ((List.range l.length).map fun i : Nat => mx (rd l i) (-127)) (i : Int) = mx (rd l i) (-127) := by
          rw [rd_at (by simpa using hi)]; simp
        simp only [heraldlaw08_VecWidens.l0]
        rw [if_pos (by omega), if_pos (by omega), if_pos (by omega), if_pos (by simp; omega), if_pos hr, wrap64_id' (x := (i : Int) + 1) (by omega) (by omega)]
        rfl

end Go.Proofs.Ytigfodkakefhcaa.Pure
