/- Sums, products and totals of the program are what the document's reference makes of them, and the list stays, up to lists far longer than the statement's bound. -/
import Derived.Test.YtbldlfmblalchaaPx15
import Derived.Test.YtbldlfmblalchaaLibC
namespace Go.Proofs.Ytbldlfmblalchaa.Pure
open Go Go.RowKit Go.Proofs.Ytbldlfmblalchaa.M Go.Proofs.Ytbldlfmblalchaa.L Go.Proofs.Ytbldlfmblalchaa.P Go.Proofs.YtbldlfmblalchaaW.PrintWords Go.Proofs.YtbldlfmblalchaaW.PrintLast Go.Proofs.YtbldlfmblalchaaW.PrintMore
set_option linter.unusedVariables false
set_option linter.unusedSimpArgs false

-- NEEDS heraldlaw02_FixedSums.f
theorem Sums_l (l : List Int) (hl : l.length ≤ 1048576) (s : Int) (b : Bool) (y : List Int) (hy : y = l ++ [77]) : ∀ (t : List Int) (i : Nat), l.drop i = t → i ≤ l.length → Ev (fun k => heraldlaw02_FixedSums.l0 k l s b s b y l l.length i) true := by
  intro t
  induction t with
  | nil =>
    intro i h hi1
    have hi := drop_nil h
    have e : rd (l ++ [77]) (l.length : Int) = 77 := by unfold rd; simp [List.getD_eq_getElem?_getD]
    refine Ev.step (f := fun _ => some true) (fun k => ?_) (Ev.now _)
    simp only [heraldlaw02_FixedSums.l0, hy, e]
    rw [if_neg (by omega)]
    simp
    omega
  | cons x t ih =>
    intro i h hi1
    obtain ⟨hi, hg, hd⟩ := drop_cons h
    have hr := rd_of_get hg
    have hr2 : rd y (i : Int) = x := by
      refine rd_of_get ?_
      rw [hy, List.getElem?_append_left hi]; exact hg
    have hyl : y.length = l.length + 1 := by rw [hy]; simp
    refine Ev.step (fun k => ?_) (ih (i + 1) hd (by omega))
    simp only [heraldlaw02_FixedSums.l0, hr, hr2]
    rw [if_pos (by omega), if_pos (by omega), if_pos (by omega), if_pos (by omega), if_pos trivial, wrap64_id' (by omega) (by omega)]; rfl
theorem FixedSums (a c : Int) (l : List Int) (ha : (Lit.int .i64 a).wf = true) (hc : (Lit.int .i64 c).wf = true) (hl : l.length ≤ 1048576) (hx : ∀ x ∈ l, (Lit.int .i64 x).wf = true) : ∃ k, heraldlaw02_FixedSums.f k a c l = some true := by
  have ha := i64_of_wf ha
  have hc := i64_of_wf hc
  have hx : ∀ x ∈ l, I64 x := fun x h => i64_of_wf (hx x h)
  suffices h : Ev (fun k => heraldlaw02_FixedSums.f k a c l) true by
    obtain ⟨k, hk⟩ := h; exact ⟨k, hk k (Nat.le_refl _)⟩
  unfold heraldlaw02_FixedSums.f
  refine Ev.bind awake_ev ?_
  simp only [if_true]
  rw [Add_f a c ha hc, rAdd_f a c ha hc]
  simp only [Option.bind_some, if_true, bne_self_eq_false]
  refine Ev.step (fun k => by simp only [heraldlaw02_FixedSums.j0, Bool.false_eq_true, if_false]; rfl) ?_
  rw [Mul_f a c ha hc]
  simp only [Option.bind_some]
  refine Ev.bind (rMul_f a c ha hc) ?_
  simp only [if_true, bne_self_eq_false]
  refine Ev.step (f := fun k => (fixed_Sum.f k l).bind fun bt237 => ((heraldref02_Sum.f k l).bind fun bt239 => (heraldlaw02_FixedSums.l0 k l bt237.1 bt237.2 bt239.1 bt239.2 (l ++ [77]) l (l.length : Int) ((0 : Nat) : Int)))) (fun k => ?_) ?_
  · simp only [heraldlaw02_FixedSums.j1, Bool.false_eq_true, if_false]
    simp only [Option.bind_some, List.nil_append, List.length_nil, Nat.zero_add, show l.length < 17592186044416 by omega, if_true, Int.toNat_natCast]
    rw [if_pos (by omega), if_pos (by simp; omega)]
    simp
  · refine Ev.bind (Sum_f l (by omega) hx) ?_
    refine Ev.bind (rSum_f l (by omega) hx) ?_
    exact Sums_l l hl _ _ _ rfl l 0 rfl (by omega)

end Go.Proofs.Ytbldlfmblalchaa.Pure
