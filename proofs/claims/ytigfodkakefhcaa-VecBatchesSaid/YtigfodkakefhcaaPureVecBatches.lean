/- Batch of a row is Times of it, a matrix below another one answers behind it, and no answer is greater than 128 times Sizes, for every two matrices and all rows. No condition but that the lists can be handed in. -/
import Derived.Test.YtigfodkakefhcaaPx10
import Derived.Test.YtigfodkakefhcaaLibVecBatches
namespace Go.Proofs.Ytigfodkakefhcaa.Pure
open Go Go.RowKit Go.Proofs.Ytigfodkakefhcaa.M Go.Proofs.Ytigfodkakefhcaa.L Go.Proofs.Ytigfodkakefhcaa.P Go.Proofs.YtigfodkakefhcaaW.PrintWords Go.Proofs.YtigfodkakefhcaaW.PrintLast Go.Proofs.YtigfodkakefhcaaW.PrintMore
set_option linter.unusedVariables false
set_option linter.unusedSimpArgs false

-- NEEDS heraldlaw08_VecBatches.f
section
variable (w : List Int) (c : Int) (xs : List (List Int)) (v : List Int) (d : Int) (ys : List (List Int))
theorem Batches_4 (iw : ∀ y ∈ w, I8 y) (iv : ∀ y ∈ v, I8 y) {x : List Int} (ix : ∀ y ∈ x, I8 y) (h0 : (timesS w c x).2 = 0) (i : Nat) (hi : i < 5864062014806) (hv : (v.length : Int) % c = 0) (hn : w.length + v.length ≤ 1048576) (res : Bool)
    (ih : Ev (fun k => heraldlaw08_VecBatches.l0 k xs xs.length ((i + 1 : Nat) : Int) w c xs v d ys) res) : Ev (fun k => heraldlaw08_VecBatches.j4 k x (timesS w c x).1 xs xs.length i false w c xs v d ys) res := by
  obtain ⟨b1, b2⟩ := timesS_below h0 hv hn
  have l1 := timesS_len w c x
  have l2 := timesS_len v c x
  refine ev_succ ?_
  simp only [heraldlaw08_VecBatches.j4, Bool.false_eq_true, if_false]
  refine Ev.bind (Times_f v c x iv ix) ?_
  simp only [Option.bind_some, List.length_nil, Nat.zero_add, List.nil_append, show w.length < 140737488355328 by omega, show w.length + v.length < 140737488355328 by omega, if_true]
  refine Ev.bind (Times_f (w ++ v) c x (fun y hy => by rcases List.mem_append.1 hy with h | h; exact iw y h; exact iv y h) ix) ?_
  rw [b2]
  simp only [b1, if_true, show (timesS w c x).1.length < 17592186044416 by omega, show (timesS w c x).1.length + (timesS v c x).1.length < 17592186044416 by omega]
  refine Ev.bind (same64_ev _ (by simp; omega)) ?_
  simp only [if_true]
  rw [wrap64_id' (x := (i : Int) + 1) (by omega) (by omega)]
  exact ih
theorem Batches_1 (iw : ∀ y ∈ w, I8 y) (iv : ∀ y ∈ v, I8 y) {x : List Int} (ix : ∀ y ∈ x, I8 y) (h0 : (timesS w c x).2 = 0) (hvl : v.length ≤ 140737488351232) (i : Nat) (hi : i < 5864062014806) (res : Bool)
    (ih : Ev (fun k => heraldlaw08_VecBatches.l0 k xs xs.length ((i + 1 : Nat) : Int) w c xs v d ys) res) : Ev (fun k => heraldlaw08_VecBatches.l1 k x (timesS w c x).1 (sizesS w c).1 xs xs.length i (timesS w c x).1.length 0 w c xs v d ys) res := by
  obtain ⟨m, hx, e⟩ := timesS_ok h0
  obtain ⟨m1, m2, m3⟩ := matrix_ok m
  have es : sizesS w c = ((List.range (w.length / c.toNat)).map fun j => K.sizeSum (rowOf w c.toNat j), 0) := by unfold sizesS; rw [if_pos m]
  have hq : w.length / c.toNat ≤ w.length := Nat.div_le_self _ _
  rw [e, es]
  simp only [List.length_map, List.length_range]
  refine ev_loop (fun k j => heraldlaw08_VecBatches.l1 k x ((List.range (w.length / c.toNat)).map fun i => dotS (rowOf w c.toNat i) x) ((List.range (w.length / c.toNat)).map fun j => K.sizeSum (rowOf w c.toNat j)) xs xs.length i ((w.length / c.toNat : Nat) : Int) j w c xs v d ys) res (w.length / c.toNat) (fun _ => True) trivial (fun _ => ?_) (fun j hj _ ih2 => ?_)
  · have e1 : ((List.range (w.length / c.toNat)).map fun i => dotS (rowOf w c.toNat i) x) = (timesS w c x).1 := by rw [e]
    rw [e1]
    refine ev_succ ?_
    simp only [heraldlaw08_VecBatches.l1, Int.lt_irrefl, if_false, show ¬ c = 0 by omega]
    have skip : Ev (fun k => heraldlaw08_VecBatches.j4 k x (timesS w c x).1 xs xs.length i true w c xs v d ys) res := by
      refine Ev.step (fun k => ?_) ih
      simp only [heraldlaw08_VecBatches.j4, if_true]
      rw [wrap64_id' (x := (i : Int) + 1) (by omega) (by omega)]; rfl
    by_cases hv : (v.length : Int) % c = 0
    · simp only [hv, if_true]
      rw [wrap64_id' (x := (w.length : Int) + v.length) (by omega) (by omega)]
      by_cases hn : (w.length : Int) + v.length > 1048576
      · simp only [hn, decide_true]; exact skip
      · simp only [hn, decide_false]
        exact Batches_4 w c xs v d ys iw iv ix h0 i hi hv (by omega) res ih
    · simp only [hv, if_false]; exact skip
  · have hr := rowOf_len (w := w) (n := c.toNat) hj
    have hlen : (rowOf w c.toNat j).length ≤ w.length := by unfold rowOf; simp; omega
    obtain ⟨d1, d2, d3, d4⟩ := dot_size (a := rowOf w c.toNat j) (b := x) (fun y hy => iw y (rowOf_mem hy)) ix (by omega)
    have r1 : rd ((List.range (w.length / c.toNat)).map fun i => dotS (rowOf w c.toNat i) x) (j : Int) = dotS (rowOf w c.toNat j) x := by rw [rd_at (by simpa using hj)]; simp
    have r2 : rd ((List.range (w.length / c.toNat)).map fun j => K.sizeSum (rowOf w c.toNat j)) (j : Int) = K.sizeSum (rowOf w c.toNat j) := by rw [rd_at (by simpa using hj)]; simp
    refine Ev.step (fun k => ?_) (ih2 trivial)
    simp only [heraldlaw08_VecBatches.l1, r1, r2, List.length_map, List.length_range]
    rw [if_pos (by omega), if_pos (by omega), if_pos (by omega), if_pos (by omega), wrap64_id' (x := 128 * K.sizeSum (rowOf w c.toNat j)) (by omega) (by omega), wrap64_id' (x := (-128) * K.sizeSum (rowOf w c.toNat j)) (by omega) (by omega), if_neg (by omega), if_neg (by omega), wrap64_id' (x := (j : Int) + 1) (by omega) (by omega)]
    rfl
theorem Batches_0 (iw : ∀ y ∈ w, I8 y) (iv : ∀ y ∈ v, I8 y) (il : ∀ y ∈ xs, ∀ z ∈ y, I8 z) (hvl : v.length ≤ 140737488351232) (hl : xs.length < 5864062014805) : Ev (fun k => heraldlaw08_VecBatches.l0 k xs xs.length 0 w c xs v d ys) true := by
  refine ev_loop (fun k i => heraldlaw08_VecBatches.l0 k xs xs.length i w c xs v d ys) true xs.length (fun _ => True) trivial (fun _ => ?_) (fun i hi _ ih => ?_)
  · exact Ev.step (fun k => by simp only [heraldlaw08_VecBatches.l0, Int.lt_irrefl, if_false]) (Ev.now _)
  · have ih := ih trivial
    have e : rd_L2 xs (i : Int) = xs[i] := by unfold rd_L2; simp [List.getD_eq_getElem?_getD, hi]
    have ix : ∀ y ∈ xs[i], I8 y := il _ (List.getElem_mem hi)
    have lt := timesS_len w c xs[i]
    refine ev_succ ?_
    simp only [heraldlaw08_VecBatches.l0, e, show (i : Int) < (xs.length : Int) by omega, show (0 : Int) ≤ (i : Int) by omega, if_true]
    refine Ev.bind (Times_f w c _ iw ix) ?_
    simp only [vec_Batch2.f]
    refine Ev.bind (Batch_f w c [xs[i], xs[i]] iw (fun y hy => by simp at hy; subst hy; exact ix) (by simp)) ?_
    rw [batchS_two]
    by_cases h0 : (timesS w c xs[i]).2 = 0
    · obtain ⟨m, hx, et⟩ := timesS_ok h0
      obtain ⟨m1, m2, m3⟩ := matrix_ok m
      have es : (sizesS w c).2 = 0 := by unfold sizesS; rw [if_pos m]
      have el : (sizesS w c).1.length = (timesS w c xs[i]).1.length := by rw [et]; unfold sizesS; rw [if_pos m]; simp
      simp only [h0, if_true, List.length_cons, List.length_nil]
      simp only [show ((0 + 1 + 1 : Nat) : Int) = 2 by omega, show (0 : Int) < 2 by omega, show (1 : Int) < 2 by omega, if_true]
      have g0 : rd_L3 [(timesS w c xs[i]).1, (timesS w c xs[i]).1] 0 = (timesS w c xs[i]).1 := rfl
      have g1 : rd_L3 [(timesS w c xs[i]).1, (timesS w c xs[i]).1] 1 = (timesS w c xs[i]).1 := rfl
      rw [g0, g1]
      refine Ev.bind (same64_ev _ (by omega)) ?_
      simp only [if_true]
      refine Ev.bind (same64_ev _ (by omega)) ?_
      refine ev_succ ?_
      simp only [heraldlaw08_VecBatches.j1, Bool.not_true, Bool.false_eq_true, if_false, if_true]
      rw [Sizes_f]
      simp only [Option.bind_some, es, if_true, el, bne_self_eq_false]
      refine ev_succ ?_
      simp only [heraldlaw08_VecBatches.j2, Bool.false_eq_true, if_false]
      exact Batches_1 w c xs v d ys iw iv ix h0 hvl i (by omega) true ih
    · simp only [h0, if_false, if_true]
      refine ev_succ ?_
      simp only [heraldlaw08_VecBatches.j1, Bool.false_eq_true, if_false, h0]
      rw [wrap64_id' (x := (i : Int) + 1) (by omega) (by omega)]
      exact ih
end
theorem VecBatches (w : List Int) (c : Int) (xs : List (List Int)) (v : List Int) (d : Int) (ys : List (List Int)) (q0 : (w.length ≤ maxLen ∧ w.length * 1 ≤ 140737488351232) ∧ ∀ y ∈ w, ((Lit.int .i8 y).wf = true)) (q1 : (Lit.int .i64 c).wf = true) (q2 : (xs.length ≤ maxLen ∧ xs.length * 24 ≤ 140737488351232) ∧ ∀ y ∈ xs, ((y.length ≤ maxLen ∧ y.length * 1 ≤ 140737488351232) ∧ ∀ z ∈ y, ((Lit.int .i8 z).wf = true)))
    (q3 : (v.length ≤ maxLen ∧ v.length * 1 ≤ 140737488351232) ∧ ∀ y ∈ v, ((Lit.int .i8 y).wf = true)) (q4 : (Lit.int .i64 d).wf = true) (q5 : (ys.length ≤ maxLen ∧ ys.length * 24 ≤ 140737488351232) ∧ ∀ y ∈ ys, ((y.length ≤ maxLen ∧ y.length * 1 ≤ 140737488351232) ∧ ∀ z ∈ y, ((Lit.int .i8 z).wf = true))) : ∃ k, heraldlaw08_VecBatches.f k w c xs v d ys = some true := by
  obtain ⟨⟨_, hw1⟩, hw⟩ := q0
  obtain ⟨⟨_, hl1⟩, hl⟩ := q2
  obtain ⟨⟨_, hv1⟩, hv⟩ := q3
  have iw : ∀ y ∈ w, I8 y := fun y hy => i8_of_wf (hw y hy)
  have iv : ∀ y ∈ v, I8 y := fun y hy => i8_of_wf (hv y hy)
  have il : ∀ y ∈ xs, ∀ z ∈ y, I8 z := fun y hy z hz => i8_of_wf ((hl y hy).2 z hz)
  refine Ev.rounds (g := fun k => heraldlaw08_VecBatches.f k w c xs v d ys) ?_
  unfold heraldlaw08_VecBatches.f
  refine Ev.bind awake_ev ?_
  simp only [if_true]
  exact Batches_0 w c xs v d ys iw iv il (by omega) (by omega)

end Go.Proofs.Ytigfodkakefhcaa.Pure
