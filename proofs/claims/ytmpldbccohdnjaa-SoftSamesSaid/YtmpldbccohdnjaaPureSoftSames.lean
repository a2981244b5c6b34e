/- A mask that lets all be, a slope of zero and a mix of weights with themselves change nothing, for all lists; what is refused is what the reference refuses. No condition but that the lists can be handed in. -/
import Derived.Test.YtmpldbccohdnjaaPx18
import Derived.Test.YtmpldbccohdnjaaLibD
namespace Go.Proofs.Ytmpldbccohdnjaa.Pure
open Go Go.RowKit Go.Proofs.Ytmpldbccohdnjaa.M Go.Proofs.Ytmpldbccohdnjaa.L Go.Proofs.Ytmpldbccohdnjaa.P Go.Proofs.YtmpldbccohdnjaaW.PrintWords Go.Proofs.YtmpldbccohdnjaaW.PrintLast Go.Proofs.YtmpldbccohdnjaaW.PrintMore
set_option linter.unusedVariables false
set_option linter.unusedSimpArgs false

theorem Sames_0 (l w : List Int) (n : Int) (hl : l.length ≤ 17592186043904) (res : Bool) (hfin : Ev (fun k => heraldlaw11_SoftSames.l0 k l w n (List.replicate l.length true) l.length) res) : ∀ (d i : Nat), i + d = l.length → Ev (fun k => heraldlaw11_SoftSames.l0 k l w n (List.replicate i true) i) res := by
  intro d
  induction d with
  | zero =>
    intro i h
    have e : i = l.length := by omega
    rw [e]; exact hfin
  | succ d ih =>
    intro i h
    refine Ev.step (fun k => ?_) (ih (i + 1) (by omega))
    simp only [heraldlaw11_SoftSames.l0]
    rw [if_pos (by omega), if_pos (by simp; omega), wrap64_id' (by omega) (by omega), List.replicate_succ']; rfl
theorem weightsS_len (l : List Int) : (weightsS l).1.length ≤ 512 := by
  unfold weightsS; split
  · simp
  · simp; omega
theorem SoftSames : heraldlaw11_SoftSames.Pure := by
  intro l w n h1 h2 h3 h4 h5 h6 h7
  have hx : ∀ x ∈ l, I64 x := fun x h => i64_of_wf (h3 x h)
  refine Ev.rounds (g := fun k => heraldlaw11_SoftSames.f k l w n) ?_
  unfold heraldlaw11_SoftSames.f
  refine Sames_0 l w n (by omega) true ?_ l.length 0 (by omega)
  refine Ev.step (f := fun k => (soft_Weights.f k l).bind fun bt529 => ((soft_Masked.f k l (List.replicate l.length true)).bind fun bt533 => ((soft_Sloped.f k l 0).bind fun bt537 => ((heraldref11_Sloped.f k l 0).bind fun bt541 => ((heraldref11_Weights.f k l).bind fun bt545 => ((soft_Mix.f k w w n).bind fun bt549 => ((heraldref11_Mix.f k w w n).bind fun bt553 => ((heraldlaw11_awake.f k).bind fun t557 => (if t557 = true then (if bt529.2 = bt545.2 then (if bt533.2 = bt529.2 then (if bt537.2 = bt541.2 then (if bt549.2 = bt553.2 then ((heraldlaw11_longs.f k bt529.1 bt533.1).bind fun t558 => (heraldlaw11_SoftSames.j1 k w bt529.1 bt537.1 bt541.2 bt549.1 bt553.2 (!t558))) else (heraldlaw11_SoftSames.j1 k w bt529.1 bt537.1 bt541.2 bt549.1 bt553.2 true)) else (heraldlaw11_SoftSames.j1 k w bt529.1 bt537.1 bt541.2 bt549.1 bt553.2 true)) else (heraldlaw11_SoftSames.j1 k w bt529.1 bt537.1 bt541.2 bt549.1 bt553.2 true)) else (heraldlaw11_SoftSames.j1 k w bt529.1 bt537.1 bt541.2 bt549.1 bt553.2 true)) else (heraldlaw11_SoftSames.j1 k w bt529.1 bt537.1 bt541.2 bt549.1 bt553.2 true)))))))))) (fun k => ?_) ?_
  · simp only [heraldlaw11_SoftSames.l0]; rw [if_neg (by omega)]
  refine Ev.bind (Weights_f l hx) ?_
  refine Ev.bind (Masked_f l hx) ?_
  refine Ev.bind (Sloped_f l 0) ?_
  refine Ev.bind (rSloped_f l 0) ?_
  refine Ev.bind (rWeights_f l hx) ?_
  refine Ev.bind (Mix_f w w n (by omega)) ?_
  refine Ev.bind (rMix_f w w n (by omega)) ?_
  refine Ev.bind awake_ev ?_
  simp only [if_true]
  refine Ev.bind (longs_same _ (by have := weightsS_len l; omega)) ?_
  simp only [Bool.not_true]
  refine Ev.step (fun k => by simp only [heraldlaw11_SoftSames.j1, Bool.false_eq_true, if_false]; rfl) ?_
  have hs : (slopedS l 0).2 = 0 → slopedS l 0 = weightsS l := by
    intro h
    unfold slopedS at h ⊢
    split
    · rename_i c; rw [if_pos c] at h; simp at h
    · rename_i c
      rw [if_neg c] at h
      cases e : slopedOf l 0 l.length l 0 [] with
      | none => rw [e] at h; simp at h
      | some a => have := slopedOf_zero l _ _ _ _ _ e; simp only [List.nil_append] at this; rw [this]
  have hm : (mixS w w n).2 = 0 → (mixS w w n).1 = w := by
    intro h
    unfold mixS at h ⊢
    split
    · rename_i c
      rw [if_pos c] at h
      split
      · rw [mixOf_same]
      · rename_i c2; rw [if_neg c2] at h; simp at h
    · rename_i c; rw [if_neg c] at h; simp at h
  have tail : Ev (fun k => if (mixS w w n).2 = 0 then ((heraldlaw11_longs.f k (mixS w w n).1 w).bind fun t560 => (some t560)) else (some true)) true := by
    by_cases c : (mixS w w n).2 = 0
    · simp only [c, if_true]
      rw [hm c]
      exact Ev.bind (longs_same w (by omega)) (Ev.now _)
    · simp only [c, if_false]; exact Ev.now _
  by_cases c : (slopedS l 0).2 = 0
  · simp only [c, if_true]
    rw [hs c]
    refine Ev.bind (longs_same _ (by have := weightsS_len l; omega)) ?_
    simp only [if_true]
    exact tail
  · simp only [c, if_false]
    exact tail

end Go.Proofs.Ytmpldbccohdnjaa.Pure
