/- Lists that came out are the caller's own: they are marked and grown, and asking again answers the same; for every guide, every vocabulary and every state, right or not. No condition but that they can be handed in. -/
import Derived.Test.YtfjpnmhbbfiaaaaZGYPx34
import Derived.Test.YtfjpnmhbbfiaaaaZGYLibGuideMemory
namespace Go.Proofs.Ytfjpnmhbbfiaaaa.Pure
open Go Go.RowKit Go.Proofs.Ytfjpnmhbbfiaaaa.M Go.Proofs.Ytfjpnmhbbfiaaaa.L Go.Proofs.Ytfjpnmhbbfiaaaa.P Go.Proofs.YtfjpnmhbbfiaaaaW.PrintWords Go.Proofs.YtfjpnmhbbfiaaaaW.PrintLast Go.Proofs.YtfjpnmhbbfiaaaaW.PrintMore
set_option linter.unusedVariables false
set_option linter.unusedSimpArgs false

-- NEEDS heraldlaw15_GuideMemory.f
theorem GuideMemory (A : List Bool) (E : List S92) (T : List ByteArray) (M : List S99) (s : Int) (q0 : (A.length ≤ maxLen ∧ A.length * 1 ≤ 140737488351232) ∧ ∀ x ∈ A, True) (q1 : (E.length ≤ maxLen ∧ E.length * 24 ≤ 140737488351232) ∧ ∀ x ∈ E, ((Lit.int .i64 x.f0).wf = true ∧ (Lit.int .u8 x.f1).wf = true ∧ (Lit.int .u8 x.f2).wf = true ∧ (Lit.int .i64 x.f3).wf = true)) (q2 : (T.length ≤ maxLen ∧ T.length * 16 ≤ 140737488351232) ∧ ∀ x ∈ T, (x.size ≤ 140737488351232)) (q3 : (M.length ≤ maxLen ∧ M.length * 24 ≤ 140737488351232) ∧ ∀ x ∈ M, ((Lit.int .i64 x.f0).wf = true ∧ (Lit.int .i64 x.f1).wf = true ∧ (Lit.int .i64 x.f2).wf = true)) (q4 : (Lit.int .i64 s).wf = true) : ∃ k, heraldlaw15_GuideMemory.f k A E T M s = some true := by
  have hA := q0.1.2
  have hE := q1.1.2
  have hT : Sz T := q2.2
  have hM : Wf M := fun m hm => ⟨(q3.2 m hm).1, (q3.2 m hm).2.1⟩
  have hlen := maskS_len A E T M s
  refine Ev.rounds (g := fun k => heraldlaw15_GuideMemory.f k A E T M s) ?_
  unfold heraldlaw15_GuideMemory.f
  refine Ev.bind (given_f A E (by omega) (by omega)) ?_
  refine Ev.bind (words_f T M q2.1.2 q3.1.2) ?_
  refine Ev.bind (rMask_f A E T M (by omega) (by omega) s) ?_
  refine Ev.bind (Mask_f A E T M hT hM s) ?_
  refine Ev.bind (Alive_f A E) ?_
  have hal : (if (checkS A E).2 = 0 then (liveL A E, (0 : Int)) else (([] : List Bool), (checkS A E).2)).1.length ≤ 1048576 := by
    split
    · rename_i h
      have := (checkS_ok h).1
      show (liveL A E).length ≤ _
      rw [liveL_len]; omega
    · simp
  refine Ev.bind (truths_ev _ (by omega)) ?_
  simp only [if_true]
  refine Ev.bind awake_ev ?_
  simp only [if_true]
  refine Ev.bind (truths_ev _ (by omega)) ?_
  rw [if_pos ⟨by omega, hal⟩]
  exact Ev.now _

end Go.Proofs.Ytfjpnmhbbfiaaaa.Pure
