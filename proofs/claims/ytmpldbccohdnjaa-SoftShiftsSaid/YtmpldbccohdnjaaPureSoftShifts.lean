/- One number added to all scores leaves the weights as they are, and a greater score has no lesser weight; each weight lies from 0 to 2^30. No condition but that the list and the number can be handed in. -/
import Derived.Test.YtmpldbccohdnjaaPx12
import Derived.Test.YtmpldbccohdnjaaLibC
namespace Go.Proofs.Ytmpldbccohdnjaa.Pure
open Go Go.RowKit Go.Proofs.Ytmpldbccohdnjaa.M Go.Proofs.Ytmpldbccohdnjaa.L Go.Proofs.Ytmpldbccohdnjaa.P Go.Proofs.YtmpldbccohdnjaaW.PrintWords Go.Proofs.YtmpldbccohdnjaaW.PrintLast Go.Proofs.YtmpldbccohdnjaaW.PrintMore
set_option linter.unusedVariables false
set_option linter.unusedSimpArgs false

theorem lmaxGo_add (c : Int) : ∀ (t : List Int) (m : Int), lmaxGo (t.map (fun x => x + c)) (m + c) = lmaxGo t m + c
  | [], m => rfl
  | x :: t, m => by
    simp only [List.map_cons, lmaxGo]
    by_cases h : m < x
    · rw [if_pos h, if_pos (by omega)]; exact lmaxGo_add c t x
    · rw [if_neg h, if_neg (by omega)]; exact lmaxGo_add c t m
theorem weights_add (c : Int) (l : List Int) : weightsS (l.map (fun x => x + c)) = weightsS l := by
  unfold weightsS
  rw [List.length_map]
  by_cases h : l.length = 0 ∨ l.length > 512
  · rw [if_pos h, if_pos h]
  · rw [if_neg h, if_neg h, List.map_map]
    have e : lmax (l.map (fun x => x + c)) = lmax l + c := by
      cases l with
      | nil => simp at h
      | cons x t => rw [List.map_cons, lmax_cons, lmax_cons]; exact lmaxGo_add c t x
    rw [e]
    congr 1
    apply List.map_congr_left
    intro x _
    simp only [Function.comp]
    unfold wd
    rw [show lmax l + c - (x + c) = lmax l - x by omega]
theorem wd_mono {m s t : Int} (h : s ≤ t) : wd m s ≤ wd m t := by
  unfold wd
  apply ex_mono
  split <;> split <;> omega
theorem rd_map {l : List Int} {f : Int → Int} {i : Nat} (h : i < l.length) : rd (l.map f) (i : Int) = f (rd l (i : Int)) := by
  unfold rd
  simp only [List.getD_eq_getElem?_getD, Int.toNat_natCast, List.getElem?_map, List.getElem?_eq_getElem h, Option.map_some, Option.getD_some]
theorem shifts_2 (l : List Int) (hl : l.length ≤ 512) (i : Nat) (hi : i < l.length) (hR : Ev (fun k => heraldlaw11_SoftShifts.l1 k l (l.map (wd (lmax l))) ((i + 1 : Nat) : Int)) true) : ∀ (d j : Nat), j + d = l.length → Ev (fun k => heraldlaw11_SoftShifts.l2 k l (l.map (wd (lmax l))) i j) true := by
  have hw : wrap64 ((i : Int) + 1) = ((i + 1 : Nat) : Int) := by rw [wrap64_id' (by omega) (by omega)]; rfl
  intro d
  induction d with
  | zero =>
    intro j hj
    refine Ev.step (fun k => ?_) hR
    simp only [heraldlaw11_SoftShifts.l2, List.length_map, hw]; rw [if_neg (by omega)]
  | succ d ih =>
    intro j hj
    refine Ev.step (fun k => ?_) (ih (j + 1) (by omega))
    have hwj : wrap64 ((j : Int) + 1) = ((j + 1 : Nat) : Int) := by rw [wrap64_id' (by omega) (by omega)]; rfl
    have b := wd_in (lmax l) (rd l (i : Int))
    simp only [heraldlaw11_SoftShifts.l2, List.length_map, hwj, rd_map hi, rd_map (show j < l.length by omega)]
    rw [if_pos (by omega), if_pos (by omega), if_pos (by omega), if_pos (by omega), if_pos (by omega)]
    by_cases c : rd l (i : Int) > rd l (j : Int)
    · have hm := wd_mono (m := lmax l) (Int.le_of_lt c)
      rw [if_pos c, if_pos (by omega), if_neg (by omega), if_neg (by omega), if_neg (by omega)]
    · rw [if_neg c, if_pos (by omega), if_neg (by omega), if_neg (by omega)]
theorem shifts_1 (l : List Int) (hl : l.length ≤ 512) : ∀ (d i : Nat), i + d = l.length → Ev (fun k => heraldlaw11_SoftShifts.l1 k l (l.map (wd (lmax l))) i) true := by
  intro d
  induction d with
  | zero =>
    intro i hi
    exact Ev.step (fun k => by simp only [heraldlaw11_SoftShifts.l1, List.length_map]; rw [if_neg (by omega)]) (Ev.now _)
  | succ d ih =>
    intro i hi
    refine Ev.step (fun k => ?_) (shifts_2 l hl i (by omega) (ih (i + 1) (by omega)) l.length 0 (by omega))
    simp only [heraldlaw11_SoftShifts.l1, List.length_map]; rw [if_pos (by omega)]; rfl
theorem shifts_0 (l : List Int) (c : Int) (hl : l.length * 8 ≤ 140737488351232) (hx : ∀ x ∈ l, I64 x) (hc : -2305843009213693952 ≤ c ∧ c ≤ 2305843009213693952 ∨ True) (hup : (∀ x ∈ l, -2305843009213693952 ≤ x ∧ x ≤ 2305843009213693952 ∧ -2305843009213693952 ≤ c ∧ c ≤ 2305843009213693952) → ∀ x ∈ l.map (fun x => x + c), I64 x) : ∀ (t : List Int) (i : Nat) (a : List Int), l.drop i = t → a.length = i → a ++ t.map (fun x => x + c) = l.map (fun x => x + c) → i ≤ l.length → (∀ x ∈ l.take i, -2305843009213693952 ≤ x ∧ x ≤ 2305843009213693952 ∧ -2305843009213693952 ≤ c ∧ c ≤ 2305843009213693952) → Ev (fun k => heraldlaw11_SoftShifts.l0 k l c a i) true := by
  intro t
  induction t with
  | nil =>
    intro i a h ha he hi1 hin
    have hi := drop_nil h
    rw [List.take_of_length_le hi] at hin
    simp only [List.map_nil, List.append_nil] at he
    subst he
    have hup' := hup hin
    refine Ev.step (fun k => by simp only [heraldlaw11_SoftShifts.l0]; rw [if_neg (by omega)]) ?_
    refine Ev.bind (Weights_f l hx) ?_
    refine Ev.bind (Weights_f _ hup') ?_
    refine Ev.bind (rWeights_f l hx) ?_
    refine Ev.bind awake_ev ?_
    rw [weights_add]
    simp only [if_true]
    have hlen : (weightsS l).1.length ≤ l.length := by unfold weightsS; split <;> simp
    refine Ev.bind (longs_same _ (by omega)) ?_
    simp only [Bool.not_true]
    by_cases c0 : l.length = 0 ∨ l.length > 512
    · have e : weightsS l = ([], 1) := by unfold weightsS; rw [if_pos c0]
      rw [e]
      exact Ev.step (f := fun _ => some true) (fun k => by simp only [heraldlaw11_SoftShifts.j1, Bool.false_eq_true, if_false, Int.one_ne_zero]) (Ev.now _)
    · have e : weightsS l = (l.map (wd (lmax l)), 0) := by unfold weightsS; rw [if_neg c0]
      rw [e]
      refine Ev.step (fun k => by simp only [heraldlaw11_SoftShifts.j1, Bool.false_eq_true, if_false, if_true]; rfl) ?_
      exact shifts_1 l (by omega) l.length 0 (by omega)
  | cons x t ih =>
    intro i a h ha he hi1 hin
    obtain ⟨hi, hgx, hd⟩ := drop_cons h
    have hr := rd_of_get hgx
    by_cases h1 : x < -2305843009213693952
    · refine Ev.step (fun k => ?_) awake_ev
      simp only [heraldlaw11_SoftShifts.l0, hr]
      rw [if_pos (by omega), if_pos (by omega), if_pos h1]
      exact bind_id _
    · by_cases h2 : x > 2305843009213693952
      · refine Ev.step (fun k => ?_) awake_ev
        simp only [heraldlaw11_SoftShifts.l0, hr]
        rw [if_pos (by omega), if_pos (by omega), if_neg h1, if_pos h2]
        exact bind_id _
      · by_cases h3 : c < -2305843009213693952
        · refine Ev.step (fun k => ?_) awake_ev
          simp only [heraldlaw11_SoftShifts.l0, hr]
          rw [if_pos (by omega), if_pos (by omega), if_neg h1, if_neg h2, if_pos h3]
          exact bind_id _
        · by_cases h4 : c > 2305843009213693952
          · refine Ev.step (fun k => ?_) awake_ev
            simp only [heraldlaw11_SoftShifts.l0, hr]
            rw [if_pos (by omega), if_pos (by omega), if_neg h1, if_neg h2, if_neg h3, if_pos h4]
            exact bind_id _
          · refine Ev.step (fun k => ?_) (ih (i + 1) (a ++ [x + c]) hd (by simp [ha]) (by simpa using he) (by omega) ?_)
            · simp only [heraldlaw11_SoftShifts.l0, hr]
              rw [if_pos (by omega), if_pos (by omega), if_neg h1, if_neg h2, if_neg h3, if_neg h4, if_pos (by omega), wrap64_id' (x := x + c) (by omega) (by omega), wrap64_id' (by omega) (by omega)]; rfl
            · intro y hy
              rw [List.take_add_one, hgx] at hy
              simp only [Option.toList_some, List.mem_append, List.mem_singleton] at hy
              rcases hy with hy | rfl
              · exact hin y hy
              · omega
theorem SoftShifts : heraldlaw11_SoftShifts.Pure := by
  intro l c h1 h2 h3 h4
  have hx : ∀ x ∈ l, I64 x := fun x hx => i64_of_wf (h3 x hx)
  refine Ev.rounds (g := fun k => heraldlaw11_SoftShifts.f k l c) ?_
  unfold heraldlaw11_SoftShifts.f
  refine shifts_0 l c h2 hx (.inr trivial) ?_ l 0 [] rfl rfl rfl (by omega) (by simp)
  intro hin x hm
  obtain ⟨y, hy, rfl⟩ := List.mem_map.mp hm
  have := hin y hy
  exact ⟨by omega, by omega⟩

end Go.Proofs.Ytmpldbccohdnjaa.Pure
