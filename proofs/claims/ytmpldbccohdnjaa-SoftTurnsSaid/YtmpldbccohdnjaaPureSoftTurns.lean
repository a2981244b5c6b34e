/- The program's mean of the weights and the numbers turned round together is the mean of them as they stood, for all lists and every turn. No condition but that the lists can be handed in. -/
import Derived.Test.YtmpldbccohdnjaaPx16
import Derived.Test.YtmpldbccohdnjaaLibC
namespace Go.Proofs.Ytmpldbccohdnjaa.Pure
open Go Go.RowKit Go.Proofs.Ytmpldbccohdnjaa.M Go.Proofs.Ytmpldbccohdnjaa.L Go.Proofs.Ytmpldbccohdnjaa.P Go.Proofs.YtmpldbccohdnjaaW.PrintWords Go.Proofs.YtmpldbccohdnjaaW.PrintLast Go.Proofs.YtmpldbccohdnjaaW.PrintMore
set_option linter.unusedVariables false
set_option linter.unusedSimpArgs false

theorem tt_eq : ∀ (t : List Int) (s : Int), tt t s = if (∀ x ∈ t, 0 ≤ x ∧ x ≤ 1073741824) then some (s + t.sum) else none
  | [], s => by simp [tt]
  | x :: t, s => by
    simp only [tt]
    by_cases c : x < 0 ∨ x > 1073741824
    · rw [if_pos c, if_neg (fun h => by have := h x (by simp); omega)]
    · rw [if_neg c, tt_eq t (s + x)]
      by_cases d : ∀ y ∈ t, 0 ≤ y ∧ y ≤ 1073741824
      · rw [if_pos d, if_pos (fun y hy => by rcases List.mem_cons.mp hy with rfl | hy; omega; exact d y hy)]
        simp [Int.add_assoc]
      · rw [if_neg d, if_neg (fun h => d fun y hy => h y (by simp [hy]))]
theorem tt_swap (a b : List Int) : tt (b ++ a) 0 = tt (a ++ b) 0 := by
  rw [tt_eq, tt_eq]
  have e : (b ++ a).sum = (a ++ b).sum := by simp [Int.add_comm]
  rw [e]
  by_cases d : ∀ y ∈ a ++ b, 0 ≤ y ∧ y ≤ 1073741824
  · rw [if_pos d, if_pos (fun y hy => d y (by simp only [List.mem_append] at hy ⊢; exact hy.symm))]
  · rw [if_neg d, if_neg (fun h => d fun y hy => h y (by simp only [List.mem_append] at hy ⊢; exact hy.symm))]
theorem dotS_shift : ∀ (a c : List Int) (s : Int), dotS a c s = s + dotS a c 0
  | [], c, s => by simp [dotS]
  | x :: a, [], s => by simp [dotS]
  | x :: a, y :: c, s => by simp only [dotS]; rw [dotS_shift a c (s + x * y), dotS_shift a c (0 + x * y)]; omega
theorem dotS_append : ∀ (a c b d : List Int) (s : Int), a.length = c.length → dotS (a ++ b) (c ++ d) s = dotS b d (dotS a c s)
  | [], [], b, d, s, h => by simp [dotS]
  | x :: a, y :: c, b, d, s, h => by simp only [List.cons_append, dotS]; exact dotS_append a c b d _ (by simpa using h)
  | [], y :: c, b, d, s, h => by simp at h
  | x :: a, [], b, d, s, h => by simp at h
theorem dotS_swap (a c b d : List Int) (h : a.length = c.length) (h' : b.length = d.length) : dotS (b ++ a) (d ++ c) 0 = dotS (a ++ b) (c ++ d) 0 := by
  rw [dotS_append b d a c 0 h', dotS_append a c b d 0 h, dotS_shift a c, dotS_shift b d (dotS a c 0)]; omega
theorem totalS_swap (a b : List Int) : totalS (b ++ a) = totalS (a ++ b) := by unfold totalS; rw [tt_swap]
theorem meanS_swap (a c b d : List Int) (h : a.length = c.length) (h' : b.length = d.length) : meanS (b ++ a) (d ++ c) = meanS (a ++ b) (c ++ d) := by
  unfold meanS meanOf
  rw [totalS_swap, dotS_swap a c b d h h']
  simp only [List.length_append, h, h', Nat.add_comm d.length c.length]
theorem meanS_turn (w v : List Int) (h : w.length = v.length) (k : Nat) : meanS (w.drop k ++ w.take k) (v.drop k ++ v.take k) = meanS w v := by
  have := meanS_swap (w.take k) (v.take k) (w.drop k) (v.drop k) (by simp [h]) (by simp [h])
  rw [this, List.take_append_drop, List.take_append_drop]
theorem SoftTurns : heraldlaw11_SoftTurns.Pure := by
  intro w v n h1 h2 h3 h4 h5 h6 h7
  have hv : ∀ x ∈ v, I8 x := fun x hx => i8_of_wf (h6 x hx)
  have hn : I64 n := i64_of_wf h7
  unfold I64 at hn
  refine Ev.rounds (g := fun k => heraldlaw11_SoftTurns.f k w v n) ?_
  unfold heraldlaw11_SoftTurns.f
  have stop : Ev (fun k => heraldlaw11_SoftTurns.j0 k w v n w.length true) true := by
    refine Ev.step (fun k => by simp only [heraldlaw11_SoftTurns.j0, if_true]; rfl) ?_
    refine Ev.bind (Mean_f w v hv) ?_
    refine Ev.bind (rMean_f w v hv) ?_
    refine Ev.bind awake_ev ?_
    simp only [if_true, beq_self_eq_true]
    exact Ev.now _
  by_cases c : (w.length : Int) = (v.length : Int)
  · simp only [c, if_true]
    rw [← c]
    by_cases c0 : (w.length : Int) = 0
    · simp only [show ((w.length : Int) == 0) = true from beq_iff_eq.mpr c0]; exact stop
    · simp only [show ((w.length : Int) == 0) = false from beq_eq_false_iff_ne.mpr c0]
      have p1 := Int.tmod_lt_of_pos n (show 0 < (w.length : Int) by omega)
      have p2 : -(w.length : Int) < Int.tmod n w.length := by
        have := Int.tmod_lt_of_pos (-n) (show 0 < (w.length : Int) by omega)
        rw [Int.neg_tmod] at this; omega
      obtain ⟨z, hz, hz0, hz1⟩ : ∃ z : Nat, Int.tmod (wrap64 (Int.tmod n w.length + w.length)) w.length = (z : Int) ∧ 0 ≤ z ∧ z < w.length := by
        rw [wrap64_id' (by omega) (by omega)]
        have q0 := Int.tmod_nonneg (w.length : Int) (show 0 ≤ Int.tmod n w.length + w.length by omega)
        have q1 := Int.tmod_lt_of_pos (Int.tmod n w.length + w.length) (show 0 < (w.length : Int) by omega)
        exact ⟨(Int.tmod (Int.tmod n w.length + w.length) w.length).toNat, by omega, by omega, by omega⟩
      refine Ev.step (f := fun k => (soft_Mean.f k w v).bind fun bt274 => (soft_Mean.f k (w.drop z ++ w.take z) (v.drop z ++ v.take z)).bind fun bt298 => (heraldref11_Mean.f k w v).bind fun bt300 => (heraldlaw11_awake.f k).bind fun t302 => (if t302 = true then (if bt274.1 = bt298.1 then (if bt274.2 = bt298.2 then (some (bt274.2 == bt300.2)) else (some false)) else (some false)) else (some false))) (fun k => ?_) ?_
      · simp only [heraldlaw11_SoftTurns.j0, Bool.false_eq_true, if_false, c0, hz]
        simp only [Option.bind_some, List.nil_append, List.length_nil, Nat.zero_add, Int.toNat_natCast]
        simp only [show (0 : Int) ≤ z by omega, show (z : Int) ≤ w.length by omega, show (z : Int) ≤ v.length by omega, if_true]
        simp only [show (w.drop z).length < 17592186044416 by simp; omega, show (w.drop z).length + (w.take z).length < 17592186044416 by simp; omega, show (v.drop z).length < 140737488355328 by simp; omega, show (v.drop z).length + (v.take z).length < 140737488355328 by simp; omega, if_true]
      · refine Ev.bind (Mean_f w v hv) ?_
        refine Ev.bind (Mean_f _ _ (fun x hx => hv x (by
          rcases List.mem_append.mp hx with h | h
          · exact List.mem_of_mem_drop h
          · exact List.mem_of_mem_take h))) ?_
        rw [meanS_turn w v (by omega) z]
        refine Ev.bind (rMean_f w v hv) ?_
        refine Ev.bind awake_ev ?_
        simp only [if_true, beq_self_eq_true]
        exact Ev.now _
  · simp only [c, if_false]; exact stop

end Go.Proofs.Ytmpldbccohdnjaa.Pure
