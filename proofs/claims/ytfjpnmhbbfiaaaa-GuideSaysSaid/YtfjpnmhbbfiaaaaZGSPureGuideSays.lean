/- What a made guide accepts of any text is what those accept of which it was made; what is shortest is accepted; for every two guides, right or not, and every text. No condition but that they can be handed in. -/
import Derived.Test.YtfjpnmhbbfiaaaaZGSPx27
import Derived.Test.YtfjpnmhbbfiaaaaZGSLibGuideSays
import Derived.Test.YtfjpnmhbbfiaaaaZGSSaysGlue
namespace Go.Proofs.Ytfjpnmhbbfiaaaa.Pure
open Go Go.RowKit Go.Proofs.Ytfjpnmhbbfiaaaa.M Go.Proofs.Ytfjpnmhbbfiaaaa.L Go.Proofs.Ytfjpnmhbbfiaaaa.P Go.Proofs.YtfjpnmhbbfiaaaaW.PrintWords Go.Proofs.YtfjpnmhbbfiaaaaW.PrintLast Go.Proofs.YtfjpnmhbbfiaaaaW.PrintMore
set_option linter.unusedVariables false
set_option linter.unusedSimpArgs false

-- NEEDS heraldlaw15_GuideSays.f
theorem acc_ev (e : Int) (A : List Bool) (E : List S92) (t : ByteArray) (ht : t.size ≤ 4611686018427387904) : Ev (fun k => accG k e A E t) (if e = 0 then acceptsS A E t else true) := by
  unfold accG
  by_cases h : e = 0
  · simp only [if_pos h]
    exact Accepts_f A E t ht
  · simp only [if_neg h]
    exact Ev.now _
theorem GuideSays (A : List Bool) (E : List S92) (B : List Bool) (F : List S92) (t : ByteArray) (q0 : (A.length ≤ maxLen ∧ A.length * 1 ≤ 140737488351232) ∧ ∀ x ∈ A, True) (q1 : (E.length ≤ maxLen ∧ E.length * 24 ≤ 140737488351232) ∧ ∀ x ∈ E, ((Lit.int .i64 x.f0).wf = true ∧ (Lit.int .u8 x.f1).wf = true ∧ (Lit.int .u8 x.f2).wf = true ∧ (Lit.int .i64 x.f3).wf = true)) (q2 : (B.length ≤ maxLen ∧ B.length * 1 ≤ 140737488351232) ∧ ∀ x ∈ B, True) (q3 : (F.length ≤ maxLen ∧ F.length * 24 ≤ 140737488351232) ∧ ∀ x ∈ F, ((Lit.int .i64 x.f0).wf = true ∧ (Lit.int .u8 x.f1).wf = true ∧ (Lit.int .u8 x.f2).wf = true ∧ (Lit.int .i64 x.f3).wf = true)) (q4 : t.size ≤ 140737488351232) : ∃ k, heraldlaw15_GuideSays.f k A E B F t = some true := by
  have hA := q0.1.2
  have hE := q1.1.2
  have hB := q2.1.2
  have hF := q3.1.2
  have u8 : ∀ x : Int, (Lit.int .u8 x).wf = true → 0 ≤ x ∧ x ≤ 255 := fun x h => by
    have e1 : IntKind.u8.min = 0 := rfl
    have e2 : IntKind.u8.max = 255 := rfl
    simp [Lit.wf, e1, e2] at h
    omega
  have hu : U8 E := fun e he => ⟨(u8 _ (q1.2 e he).2.1).1, (u8 _ (q1.2 e he).2.2.1).2⟩
  have hv : U8 F := fun e he => ⟨(u8 _ (q3.2 e he).2.1).1, (u8 _ (q3.2 e he).2.2.1).2⟩
  refine Ev.rounds (g := fun k => heraldlaw15_GuideSays.f k A E B F t) ?_
  unfold heraldlaw15_GuideSays.f
  refine Ev.bind awake_ev ?_
  refine Ev.bind (given_f A E (by omega) (by omega)) ?_
  refine Ev.bind (rCheck_f A E) ?_
  refine Ev.bind (given_f B F (by omega) (by omega)) ?_
  refine Ev.bind (rCheck_f B F) ?_
  by_cases h : (checkS A E).2 = 0 ∧ (checkS B F).2 = 0
  · simp only [if_pos h]
    obtain ⟨h1, h2⟩ := h
    obtain ⟨w, w1, w2, _⟩ := Least_ev h1 hu
    obtain ⟨x, x1, x2, x3⟩ := of_ev (fun x y => x && y) h1 hu h2 hv
    obtain ⟨y, y1, y2, _⟩ := of_ev (fun x y => x || y) h1 hu h2 hv
    obtain ⟨z, z1, z2, z3⟩ := of_ev (fun x _ => !x) h1 hu h1 hu
    obtain ⟨s, s1, s2, s3⟩ := Short_ev h1 hu
    refine Ev.bind (Accepts_f A E t (by omega)) ?_
    refine Ev.bind (Accepts_f B F t (by omega)) ?_
    refine Ev.bind w1 ?_
    refine Ev.bind (show Ev (fun k => guide_And.f k A E B F) x from x1) ?_
    refine Ev.bind (show Ev (fun k => guide_Or.f k A E B F) y from y1) ?_
    refine Ev.bind (show Ev (fun k => guide_Not.f k A E) z from z1) ?_
    refine Ev.bind s1 ?_
    refine Ev.bind (acc_ev _ _ _ t (by omega)) ?_
    refine Ev.bind (acc_ev _ _ _ t (by omega)) ?_
    refine Ev.bind (acc_ev _ _ _ t (by omega)) ?_
    refine Ev.bind (acc_ev _ _ _ t (by omega)) ?_
    refine Ev.bind (Accepts_f A E s (by omega)) ?_
    have ea := accepts_says h1 t
    have eb := accepts_says h2 t
    have hb := bl_bytes t
    rw [if_pos]
    · exact Ev.now _
    refine ⟨trivial, fun e => ?_, fun e => ?_, fun e => ?_, fun e => ?_, by first | rfl | trivial, s3, fun e => ?_, fun e => ?_⟩
    · rw [if_pos e, accepts_says (w2 e).1, (w2 e).2 _ hb, ea]
    · rw [if_pos e, accepts_says (x2 e).1, (x2 e).2 _ hb, ea, eb]
    · rw [if_pos e, accepts_says (y2 e).1, (y2 e).2 _ hb, ea, eb]
    · rw [if_pos e, accepts_says (z2 e).1, (z2 e).2 _ hb, ea]
    · rw [ea, eb]; exact x3 e _ hb
    · have := z3 e _ hb
      rw [ea]
      cases hq : says A E (bl t)
      · rw [hq] at this; exact absurd this (by decide)
      · rfl
  · simp only [if_neg h]
    obtain ⟨x, x1, x2⟩ := of_bad (fun x y => x && y) h
    refine Ev.bind (show Ev (fun k => guide_And.f k A E B F) x from x1) ?_
    rw [if_pos ⟨trivial, x2⟩]
    exact Ev.now _

end Go.Proofs.Ytfjpnmhbbfiaaaa.Pure
