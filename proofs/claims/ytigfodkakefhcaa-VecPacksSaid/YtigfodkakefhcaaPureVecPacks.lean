/- Numbers packed in 4 bits each are what the document's reference says, for every list and group, errors too; what is handed in stays, and what came out may be written to: packed again it is the same. No condition but that the list can be handed in. -/
import Derived.Test.YtigfodkakefhcaaPx18
import Derived.Test.YtigfodkakefhcaaLibVecPacks
namespace Go.Proofs.Ytigfodkakefhcaa.Pure
open Go Go.RowKit Go.Proofs.Ytigfodkakefhcaa.M Go.Proofs.Ytigfodkakefhcaa.L Go.Proofs.Ytigfodkakefhcaa.P Go.Proofs.YtigfodkakefhcaaW.PrintWords Go.Proofs.YtigfodkakefhcaaW.PrintLast Go.Proofs.YtigfodkakefhcaaW.PrintMore
set_option linter.unusedVariables false
set_option linter.unusedSimpArgs false

theorem packed_same (a b : Int) (s h : List Int) : heraldlaw08_packed.f a b s h a b s h = some true := by
  unfold heraldlaw08_packed.f; simp
def setGo (v : Int) (m : List Int) : Nat → List Int
  | 0 => m
  | i + 1 => (setGo v m i).set i v
theorem setGo_len (v : Int) (m : List Int) : ∀ i, (setGo v m i).length = m.length
  | 0 => rfl
  | i + 1 => by simp [setGo, setGo_len v m i]
theorem packS_len (l : List Int) (c : Int) (hl : l.length ≤ 140737488351232) : (packS l c).2.2.1.length ≤ 140737488351232 ∧ (packS l c).2.2.2.1.length ≤ 140737488351232 := by
  unfold packS
  split
  · simp
  · split
    · simp
    · simp only [shs_len, hvs_len]
      have : (l.length + c.toNat - 1) / c.toNat ≤ l.length + c.toNat - 1 := Nat.div_le_self _ _
      omega
theorem VecPacks : heraldlaw08_VecPacks.Pure := by
  intro l c h1 h2 h3 h4
  have il : ∀ x ∈ l, I8 x := fun x hx => i8_of_wf (h3 x hx)
  refine Ev.rounds (g := fun k => heraldlaw08_VecPacks.f k l c) ?_
  unfold heraldlaw08_VecPacks.f
  refine Ev.bind awake_ev ?_
  simp only [if_true, Option.bind_some, List.length_nil, Nat.zero_add, List.nil_append, show l.length < 140737488355328 by omega]
  refine Ev.bind (Pack_f l c il) ?_
  refine Ev.bind (rPack_f l c il) ?_
  simp only [packed_same, Option.bind_some, if_true]
  refine Ev.bind (same8_ev _ (by omega)) ?_
  obtain ⟨l1, l2⟩ := packS_len l c (by omega)
  generalize hR : packS l c = R at l1 l2
  obtain ⟨r1, r2, r3, r4, r5⟩ := R
  simp only at l1 l2
  refine ev_succ ?_
  simp only [heraldlaw08_VecPacks.j0, Bool.not_true, Bool.false_eq_true, if_false]
  have last : ∀ s h, Ev (fun k => heraldlaw08_VecPacks.l1 k c l r3.length r3.length r1 r2 s h r1 r2 r3 r4) true := by
    intro s h
    refine Ev.step (f := fun k => (vec_Pack.f k l c).bind fun bt => (heraldlaw08_packed.f bt.1 bt.2.1 bt.2.2.1 bt.2.2.2.1 r1 r2 r3 r4).bind fun t => some t) (fun k => ?_) ?_
    · simp only [heraldlaw08_VecPacks.l1]; rw [if_neg (by omega)]
    · refine Ev.bind (Pack_f l c il) ?_
      rw [hR]; simp only [packed_same, Option.bind_some]; exact Ev.now _
  refine ev_loop (fun k i => heraldlaw08_VecPacks.l0 k c l r4.length i r1 r2 r3 (setGo 99 r4 i) r1 r2 r3 r4) true r4.length (fun _ => True) trivial (fun _ => ?_) (fun i hi _ ih => ?_)
  · refine Ev.step (f := fun k => heraldlaw08_VecPacks.l1 k c l r3.length 0 r1 r2 r3 (setGo 99 r4 r4.length) r1 r2 r3 r4) (fun k => ?_) ?_
    · simp only [heraldlaw08_VecPacks.l0]; rw [if_neg (by omega)]
    · refine ev_loop (fun k i => heraldlaw08_VecPacks.l1 k c l r3.length i r1 r2 (setGo 98 r3 i) (setGo 99 r4 r4.length) r1 r2 r3 r4) true r3.length (fun _ => True) trivial (fun _ => last _ _) (fun i hi _ ih => ?_)
      refine Ev.step (fun k => ?_) (ih trivial)
      simp only [heraldlaw08_VecPacks.l1]
      rw [if_pos (by omega), if_pos (by omega), if_pos (by rw [setGo_len]; omega), wrap64_id' (x := (i : Int) + 1) (by omega) (by omega), Int.toNat_natCast]
      rfl
  · refine Ev.step (fun k => ?_) (ih trivial)
    simp only [heraldlaw08_VecPacks.l0]
    rw [if_pos (by omega), if_pos (by omega), if_pos (by rw [setGo_len]; omega), wrap64_id' (x := (i : Int) + 1) (by omega) (by omega), Int.toNat_natCast]
    rfl

end Go.Proofs.Ytigfodkakefhcaa.Pure
