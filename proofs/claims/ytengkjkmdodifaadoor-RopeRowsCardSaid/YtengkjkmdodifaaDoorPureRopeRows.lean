/- The angles of a place and rows turned by the angles of their places are what the document's reference says, for all rows, angles and numbers, errors too, and what is handed in stays. No condition but that the lists can be handed in. -/
import Derived.Test.YtengkjkmdodifaaDoorPx16
import Derived.Test.YtengkjkmdodifaaDoorLibRopeRows
namespace Go.Proofs.YtengkjkmdodifaaDoor.Pure
open Go Go.RowKit Go.Proofs.YtengkjkmdodifaaDoor.M Go.Proofs.YtengkjkmdodifaaDoor.L Go.Proofs.YtengkjkmdodifaaDoor.P Go.Proofs.YtengkjkmdodifaaDoorW.PrintWords Go.Proofs.YtengkjkmdodifaaDoorW.PrintLast Go.Proofs.YtengkjkmdodifaaDoorW.PrintMore
set_option linter.unusedVariables false
set_option linter.unusedSimpArgs false

-- NEEDS heraldlaw10_RopeRows.f
theorem Rows_3 (xs : List (List Int)) (hx : ∀ x ∈ xs, x.length ≤ 140737488351232) (hl : xs.length < 5864062014805) : Ev (fun k => heraldlaw10_RopeRows.l3 k xs xs xs.length 0) true := by
  refine ev_loop (fun k i => heraldlaw10_RopeRows.l3 k xs xs xs.length i) true xs.length (fun _ => True) trivial (fun _ => ?_) (fun i hi _ ih => ?_)
  · exact Ev.step (fun k => by simp only [heraldlaw10_RopeRows.l3, Int.lt_irrefl, if_false]) (Ev.now _)
  · have e : rd_L1 xs (i : Int) = xs[i] := by unfold rd_L1; simp [List.getD_eq_getElem?_getD, hi]
    have he := hx _ (List.getElem_mem hi)
    refine ev_succ ?_
    simp only [heraldlaw10_RopeRows.l3, e, show (i : Int) < (xs.length : Int) by omega, show (0 : Int) ≤ (i : Int) by omega, if_true]
    refine Ev.bind (same_ev _ (by omega)) ?_
    simp only [if_true]
    rw [wrap64_id' (x := (i : Int) + 1) (by omega) (by omega)]
    exact ih trivial
theorem Rows_2 (xs : List (List Int)) (hx : ∀ x ∈ xs, x.length ≤ 140737488351232) (hl : xs.length < 5864062014805) (l : List (List Int)) (h1 : ∀ x ∈ l, x.length ≤ 140737488351232) (h2 : l.length < 5864062014805) : Ev (fun k => heraldlaw10_RopeRows.l2 k xs xs l l l.length 0) true := by
  refine ev_loop (fun k i => heraldlaw10_RopeRows.l2 k xs xs l l l.length i) true l.length (fun _ => True) trivial (fun _ => ?_) (fun i hi _ ih => ?_)
  · refine Ev.step (fun k => ?_) (Rows_3 xs hx hl)
    simp only [heraldlaw10_RopeRows.l2, Int.lt_irrefl, if_false]
  · have e : rd_L1 l (i : Int) = l[i] := by unfold rd_L1; simp [List.getD_eq_getElem?_getD, hi]
    have he := h1 _ (List.getElem_mem hi)
    refine ev_succ ?_
    simp only [heraldlaw10_RopeRows.l2, e, show (i : Int) < (l.length : Int) by omega, show (0 : Int) ≤ (i : Int) by omega, if_true]
    refine Ev.bind (same_ev _ (by omega)) ?_
    simp only [if_true]
    rw [wrap64_id' (x := (i : Int) + 1) (by omega) (by omega)]
    exact ih trivial
theorem RopeRows (xs : List (List Int)) (c s : List Int) (n f h p : Int) (q0 : (xs.length ≤ maxLen ∧ xs.length * 24 ≤ 140737488351232) ∧ ∀ y ∈ xs, ((y.length ≤ maxLen ∧ y.length * 1 ≤ 140737488351232) ∧ ∀ z ∈ y, ((Lit.int .i8 z).wf = true))) (q1 : (c.length ≤ maxLen ∧ c.length * 1 ≤ 140737488351232) ∧ ∀ y ∈ c, ((Lit.int .i8 y).wf = true)) (q2 : (s.length ≤ maxLen ∧ s.length * 1 ≤ 140737488351232) ∧ ∀ y ∈ s, ((Lit.int .i8 y).wf = true)) (q3 : (Lit.int .i64 n).wf = true) (q4 : (Lit.int .i64 f).wf = true) (q5 : (Lit.int .i64 h).wf = true) (q6 : (Lit.int .i64 p).wf = true) : ∃ k, heraldlaw10_RopeRows.f k xs c s n f h p = some true := by
  obtain ⟨⟨_, hx1⟩, hx0⟩ := q0
  obtain ⟨⟨_, hc1⟩, hc0⟩ := q1
  obtain ⟨⟨_, hs1⟩, hs0⟩ := q2
  have hc : ∀ y ∈ c, I8 y := fun y hy => i8_of_wf (hc0 y hy)
  have hs : ∀ y ∈ s, I8 y := fun y hy => i8_of_wf (hs0 y hy)
  have hx : ∀ x ∈ xs, (∀ y ∈ x, I8 y) ∧ x.length ≤ 140737488351232 := fun x hx => ⟨fun y hy => i8_of_wf ((hx0 x hx).2 y hy), by have := (hx0 x hx).1.2; omega⟩
  have hn := i64_of_wf q3
  have hlx : xs.length < 5864062014805 := by omega
  refine Ev.rounds (g := fun k => heraldlaw10_RopeRows.f k xs c s n f h p) ?_
  unfold heraldlaw10_RopeRows.f
  refine Ev.bind awake_ev ?_
  simp only [if_true, Option.bind_some, List.length_nil, Nat.zero_add, List.nil_append, show c.length < 140737488355328 by omega, show s.length < 140737488355328 by omega]
  obtain ⟨a1, a2⟩ := atS_len c s h p
  refine Ev.bind (At_f c s h p (by omega) (by omega)) ?_
  refine Ev.bind (rAt_f c s h p (by omega) (by omega)) ?_
  refine Ev.bind (same_ev _ (by omega)) ?_
  simp only [if_true]
  refine Ev.bind (same_ev _ (by omega)) ?_
  simp only [if_true, bne_self_eq_false]
  refine ev_succ ?_
  simp only [heraldlaw10_RopeRows.j0, Bool.false_eq_true, if_false]
  obtain ⟨A, hA⟩ : ∃ A, A = (atS c s h p).1 := ⟨_, rfl⟩
  rw [← hA] at a1 ⊢
  -- the copies and what is asked of them
  have rest : Ev (fun k => heraldlaw10_RopeRows.l1 k xs c s [] xs xs.length 0 c s n f h p) true := by
    refine ev_loop (fun k i => heraldlaw10_RopeRows.l1 k xs c s (xs.take i) xs xs.length i c s n f h p) true xs.length (fun _ => True) trivial (fun _ => ?_) (fun i hi _ ih => ?_)
    · refine ev_succ ?_
      simp only [heraldlaw10_RopeRows.l1, Int.lt_irrefl, if_false, List.take_length]
      refine Ev.bind (Rows_f xs n c s f hx hc hs hn (by omega) (by omega) hlx) ?_
      refine Ev.bind (rRows_f xs n c s f hx hc hs hn (by omega) (by omega) hlx) ?_
      obtain ⟨g1, g2, g3⟩ := rowsGo_len xs n c s f _ (fun x hx' => (hx x hx').2) xs.length
      simp only [if_true]
      refine Ev.bind (same_ev _ (by omega)) ?_
      simp only [if_true]
      refine Ev.bind (same_ev _ (by omega)) ?_
      refine ev_succ ?_
      simp only [heraldlaw10_RopeRows.j3, Bool.not_true, Bool.false_eq_true, if_false]
      exact Rows_2 xs (fun x h => (hx x h).2) hlx _ g2 (by omega)
    · have e : rd_L1 xs (i : Int) = xs[i] := by unfold rd_L1; simp [List.getD_eq_getElem?_getD, hi]
      have he := (hx _ (List.getElem_mem hi)).2
      refine Ev.step (fun k => ?_) (ih trivial)
      simp only [heraldlaw10_RopeRows.l1, e, show (i : Int) < (xs.length : Int) by omega, show (0 : Int) ≤ (i : Int) by omega, if_true, Option.bind_some, List.length_nil, Nat.zero_add, List.nil_append, List.length_take]
      rw [if_pos (by omega), if_pos (by omega), wrap64_id' (x := (i : Int) + 1) (by omega) (by omega), take_one hi]; rfl
  have marks : ∀ (m : Nat) (i : Nat) (B : List Int), B.length = A.length → i + m = A.length → Ev (fun k => heraldlaw10_RopeRows.l0 k xs c s B A.length i c s n f h p) true := by
    intro m
    induction m with
    | zero =>
      intro i B hB hi
      refine Ev.step (fun k => ?_) rest
      simp only [heraldlaw10_RopeRows.l0]; rw [if_neg (by omega)]
    | succ m ih =>
      intro i B hB hi
      refine Ev.step (fun k => ?_) (ih (i + 1) (B.set i 99) (by simpa using hB) (by omega))
      simp only [heraldlaw10_RopeRows.l0]
      rw [if_pos (by omega), if_pos (by omega), if_pos (by omega), Int.toNat_natCast, wrap64_id' (x := (i : Int) + 1) (by omega) (by omega)]; rfl
  exact marks A.length 0 A rfl (by omega)

end Go.Proofs.YtengkjkmdodifaaDoor.Pure
