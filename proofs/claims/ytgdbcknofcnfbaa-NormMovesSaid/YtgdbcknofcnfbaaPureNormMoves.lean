/- A number of the reach added to all numbers of a row leaves the row about its mean as it is, and that row's numbers sum to no less than 0 and less than how many there are. No condition but that the lists and the number can be handed in. -/
import Derived.Test.YtgdbcknofcnfbaaPx12
import Derived.Test.YtgdbcknofcnfbaaLibC
namespace Go.Proofs.Ytgdbcknofcnfbaa.Pure
open Go Go.RowKit Go.Proofs.Ytgdbcknofcnfbaa.M Go.Proofs.Ytgdbcknofcnfbaa.L Go.Proofs.Ytgdbcknofcnfbaa.P Go.Proofs.YtgdbcknofcnfbaaW.PrintWords Go.Proofs.YtgdbcknofcnfbaaW.PrintLast Go.Proofs.YtgdbcknofcnfbaaW.PrintMore
set_option linter.unusedVariables false
set_option linter.unusedSimpArgs false

theorem ssum_map (by_ : Int) : ∀ (t : List Int) (s : Int), ssum (t.map (fun x => x + by_)) s = ssum t s + by_ * t.length
  | [], s => by simp [ssum]
  | x :: t, s => by
    simp only [List.map_cons, ssum]
    rw [ssum_map by_ t, ssum_add t (s + (x + by_)), ssum_add t (s + x)]
    simp only [List.length_cons]
    grind
theorem ssum_sub (m : Int) : ∀ (t : List Int), ssum (t.map (fun x => x - m)) 0 = ssum t 0 - m * t.length := by
  intro t
  have := ssum_map (-m) t 0
  simp only [Int.sub_eq_add_neg] at *
  rw [this]; grind
theorem mean_move (l : List Int) (by_ : Int) (h : l.length ≠ 0) : mean (l.map (fun x => x + by_)) = mean l + by_ := by
  unfold mean
  rw [ssum_map, List.length_map]
  exact Int.add_mul_ediv_right _ _ (by omega)
theorem center_ok {l : List Int} (h : (center l).2.2 = 0) : (rootS l).2 = 0 := by
  unfold center at h; split at h
  · assumption
  · exact h
theorem moves_sum (l g : List Int) (by_ : Int) (b d c : List Int) (m n : Int) (hc : c.length ≤ 64) (hin : ∀ x ∈ c, -34359738368 ≤ x ∧ x ≤ 34359738368) (hfin : Ev (fun k => (norm_Layer.f k l g d).bind fun bt388 => ((norm_Layer.f k b g d).bind fun bt392 => ((heraldlaw09_longs.f k c c).bind fun t396 => (if t396 = true then (if n = (wrap64 (m + by_)) then (if ssum c 0 ≥ 0 then (if ssum c 0 < (l.length : Int) then (if bt388.2 = bt392.2 then ((heraldlaw09_rows.f k bt388.1 bt392.1).bind fun t397 => (some t397)) else (some false)) else (some false)) else (some false)) else (some false)) else (some false))))) true) :
    ∀ (t : List Int) (i : Nat) (s : Int), c.drop i = t → i ≤ c.length → -34359738368 * i ≤ s → s ≤ 34359738368 * i → ssum t s = ssum c 0 → Ev (fun k => heraldlaw09_NormMoves.l1 k l g by_ b d c m c n s i) true := by
  intro t
  induction t with
  | nil =>
    intro i s h hi1 hs0 hs1 hs
    have hi := drop_nil h
    simp only [ssum] at hs
    subst hs
    refine Ev.step (fun k => ?_) hfin
    simp only [heraldlaw09_NormMoves.l1]
    rw [if_neg (by omega)]
  | cons x t ih =>
    intro i s h hi1 hs0 hs1 hs
    obtain ⟨hi, hg, hd⟩ := drop_cons h
    have hr := rd_of_get hg
    have hxx := hin x (List.mem_of_getElem? hg)
    refine Ev.step (fun k => ?_) (ih (i + 1) (s + x) hd (by omega) (by omega) (by omega) hs)
    simp only [heraldlaw09_NormMoves.l1, hr]
    rw [if_pos (by omega), if_pos (by omega), wrap64_id' (x := s + x) (by omega) (by omega), wrap64_id' (by omega) (by omega)]
    rfl
theorem moves_end (l g : List Int) (by_ : Int) (hb : -268435456 ≤ by_ ∧ by_ ≤ 268435456) (hg : ∀ x ∈ g, I8 x) (hgl : g.length * 1 ≤ 140737488351232) :
    Ev (fun k => (some (([] : List Int) : List Int)).bind fun y365 => (if y365.length + g.length < 140737488355328 then ((some (y365 ++ g : List Int)).bind fun y368 => ((norm_Center.f k l).bind fun bt371 => ((heraldref09_Center.f k l).bind fun bt376 => ((norm_Center.f k (l.map (fun x => x + by_))).bind fun bt381 => ((heraldlaw09_awake.f k).bind fun t386 => (if t386 = true then (heraldlaw09_NormMoves.j2 k l g by_ (l.map (fun x => x + by_)) y368 bt371.1 bt371.2.1 bt371.2.2 bt381.1 bt381.2.1 bt381.2.2 (bt371.2.2 != bt376.2.2)) else (heraldlaw09_NormMoves.j2 k l g by_ (l.map (fun x => x + by_)) y368 bt371.1 bt371.2.1 bt371.2.2 bt381.1 bt381.2.1 bt381.2.2 true))))))) else (none))) true := by
  simp only [Option.bind_some, List.nil_append, List.length_nil, Nat.zero_add, show g.length < 140737488355328 by omega, if_true]
  refine Ev.bind (Center_f l) ?_
  refine Ev.bind (rCenter_f l) ?_
  refine Ev.bind (Center_f _) ?_
  refine Ev.bind awake_ev ?_
  simp only [if_true, bne_self_eq_false]
  by_cases hc : (center l).2.2 = 0
  · by_cases hd : (center (l.map (fun x => x + by_))).2.2 = 0
    · have r1 := center_ok hc
      have r2 := center_ok hd
      obtain ⟨p0, p1, p2, p3, p4⟩ := rootS_pos (l := l) (r := (rootS l).1) (by rw [← r1])
      have hm := mean_in p2 p3 p4
      have hmm := mean_move l by_ p2
      have e1 : center l = (l.map (fun x => x - mean l), mean l, 0) := by unfold center; rw [if_pos r1]
      have e2 : center (l.map (fun x => x + by_)) = (l.map (fun x => x - mean l), mean l + by_, 0) := by
        unfold center; rw [if_pos r2, hmm, List.map_map]
        congr 1
        apply List.map_congr_left
        intro x _
        simp only [Function.comp]
        omega
      have el : layerS (l.map (fun x => x + by_)) g g = layerS l g g := by
        unfold layerS; rw [List.length_map, e1, e2]; rfl
      refine Ev.step (f := fun k => heraldlaw09_NormMoves.j3 k l g by_ (l.map (fun x => x + by_)) g (center l).1 (center l).2.1 (center (l.map (fun x => x + by_))).1 (center (l.map (fun x => x + by_))).2.1 false) (fun k => ?_) ?_
      · simp only [heraldlaw09_NormMoves.j2, Bool.false_eq_true, if_false, hc, hd, if_true, bne_self_eq_false]
      · refine Ev.step (fun k => by simp only [heraldlaw09_NormMoves.j3, Bool.false_eq_true, if_false]; rfl) ?_
        rw [e1, e2]
        dsimp only
        have hsum := ssum_sub (mean l) l
        have hq := Int.mul_ediv_add_emod (ssum l 0) (l.length : Int)
        have hq0 := Int.emod_nonneg (ssum l 0) (b := (l.length : Int)) (by omega)
        have hq1 := Int.emod_lt_of_pos (ssum l 0) (b := (l.length : Int)) (by omega)
        have hms : mean l * (l.length : Int) = (l.length : Int) * (ssum l 0 / (l.length : Int)) := by unfold mean; exact Int.mul_comm _ _
        refine moves_sum l g by_ _ g (l.map (fun x => x - mean l)) (mean l) (mean l + by_) (by simpa using p3) ?_ ?_ _ 0 0 rfl (by omega) (by omega) (by omega) rfl
        · intro y hy
          obtain ⟨x, hx, rfl⟩ := List.mem_map.mp hy
          have := p4 x hx
          omega
        · refine Ev.bind (Layer_f l g g hg hg) ?_
          refine Ev.bind (Layer_f _ g g hg hg) ?_
          refine Ev.bind (longs_same _ (by rw [List.length_map]; omega)) ?_
          rw [el]
          simp only [if_true]
          rw [wrap64_id' (x := mean l + by_) (by omega) (by omega)]
          simp only [if_true]
          simp only [show ssum (l.map (fun x => x - mean l)) 0 ≥ 0 by omega, show ssum (l.map (fun x => x - mean l)) 0 < (l.length : Int) by omega, if_true]
          have hle := layerS_len l g g
          exact Ev.bind (rows_same _ (by omega)) (Ev.now _)
    · refine Ev.step (f := fun k => heraldlaw09_NormMoves.j3 k l g by_ (l.map (fun x => x + by_)) g (center l).1 (center l).2.1 (center (l.map (fun x => x + by_))).1 (center (l.map (fun x => x + by_))).2.1 true) (fun k => ?_) ?_
      · have e : ((center (l.map (fun x => x + by_))).2.2 != 0) = true := by rw [bne_iff_ne]; exact hd
        simp only [heraldlaw09_NormMoves.j2, Bool.false_eq_true, if_false, hc, if_true, e]
      · exact Ev.step (fun k => by simp only [heraldlaw09_NormMoves.j3, if_true]) (Ev.now _)
  · refine Ev.step (f := fun k => heraldlaw09_NormMoves.j3 k l g by_ (l.map (fun x => x + by_)) g (center l).1 (center l).2.1 (center (l.map (fun x => x + by_))).1 (center (l.map (fun x => x + by_))).2.1 true) (fun k => ?_) ?_
    · simp only [heraldlaw09_NormMoves.j2, Bool.false_eq_true, if_false, hc]
    · exact Ev.step (fun k => by simp only [heraldlaw09_NormMoves.j3, if_true]) (Ev.now _)
theorem moves_l (l g : List Int) (by_ : Int) (hb : -268435456 ≤ by_ ∧ by_ ≤ 268435456) (hl : l.length * 8 ≤ 140737488351232) (hg : ∀ x ∈ g, I8 x) (hgl : g.length * 1 ≤ 140737488351232) : ∀ (t : List Int) (i : Nat) (a : List Int), l.drop i = t → a.length = i → a ++ t.map (fun x => x + by_) = l.map (fun x => x + by_) → i ≤ l.length → Ev (fun k => heraldlaw09_NormMoves.l0 k l g by_ a i) true := by
  intro t
  induction t with
  | nil =>
    intro i a h ha he hi1
    have hi := drop_nil h
    simp only [List.map_nil, List.append_nil] at he
    subst he
    refine Ev.step (fun k => ?_) (moves_end l g by_ hb hg hgl)
    simp only [heraldlaw09_NormMoves.l0]; rw [if_neg (by omega)]
  | cons x t ih =>
    intro i a h ha he hi1
    obtain ⟨hi, hgx, hd⟩ := drop_cons h
    have hr := rd_of_get hgx
    by_cases h1 : x < -268435456
    · refine Ev.step (fun k => ?_) awake_ev
      simp only [heraldlaw09_NormMoves.l0, hr]
      rw [if_pos (by omega), if_pos (by omega), if_pos h1]
      exact bind_id _
    · by_cases h2 : x > 268435456
      · refine Ev.step (fun k => ?_) awake_ev
        simp only [heraldlaw09_NormMoves.l0, hr]
        rw [if_pos (by omega), if_pos (by omega), if_neg h1, if_pos h2]
        exact bind_id _
      · refine Ev.step (fun k => ?_) (ih (i + 1) (a ++ [x + by_]) hd (by simp [ha]) (by simpa using he) (by omega))
        simp only [heraldlaw09_NormMoves.l0, hr]
        rw [if_pos (by omega), if_pos (by omega), if_neg h1, if_neg h2, if_pos (by omega), wrap64_id' (x := x + by_) (by omega) (by omega), wrap64_id' (by omega) (by omega)]; rfl
theorem NormMoves : heraldlaw09_NormMoves.Pure := by
  intro l g by_ h1 h2 h3 h4 h5 h6 h7
  have hg : ∀ x ∈ g, I8 x := fun x hx => i8_of_wf (h6 x hx)
  refine Ev.rounds (g := fun k => heraldlaw09_NormMoves.f k l g by_) ?_
  unfold heraldlaw09_NormMoves.f
  have stop : Ev (fun k => heraldlaw09_NormMoves.j0 k l g by_ true) true := by
    refine Ev.step (fun k => ?_) awake_ev
    simp only [heraldlaw09_NormMoves.j0, if_true]
    exact bind_id _
  by_cases a : by_ < -268435456
  · simp only [a, if_true]; exact stop
  · by_cases c : by_ > 268435456
    · simp only [a, c, if_false, decide_true]; exact stop
    · simp only [a, c, if_false, decide_false]
      refine Ev.step (fun k => by simp only [heraldlaw09_NormMoves.j0, Bool.false_eq_true, if_false]; rfl) ?_
      exact moves_l l g by_ ⟨by omega, by omega⟩ h2 hg h5 l 0 [] rfl rfl rfl (by omega)

end Go.Proofs.Ytgdbcknofcnfbaa.Pure
