-- Printed by xprint.py (wip): functions, contracts, rows. Lean checks it.
import Derived.Test.YtfjpnmhbbfiaaaaZGNPx0
import Derived.Test.YtfjpnmhbbfiaaaaZGNTiny
namespace Go.Proofs.Ytfjpnmhbbfiaaaa.P
open Go.RowKit Go.Proofs.YtfjpnmhbbfiaaaaW.PrintWords Go.Proofs.YtfjpnmhbbfiaaaaW.PrintLast Go.Proofs.YtfjpnmhbbfiaaaaW.PrintMore
attribute [local go_sem] max2_int min2_int max_two min_two max_three min_three max_four min_four   -- for this text's walks alone
set_option linter.unusedVariables false
set_option linter.unusedSimpArgs false

/-! ### heraldlaw15_small: function 47 -/
def heraldlaw15_small.f  : Option (List Bool × (List (S92))) := some ((([false, true] : List Bool)), (([(⟨0, 97, 97, 1⟩ : S92), (⟨1, 97, 98, 1⟩ : S92)] : List (S92))))
set_option maxHeartbeats 8000000 in
set_option maxRecDepth 100000 in
theorem heraldlaw15_small.calls  (r1 : List Bool) (r2 : List (S92)) (w : World) (h : heraldlaw15_small.f  = some (r1, r2)) :
    Calls Try.prog 47 #[] w fun e w' => ∃ v0_ v1_ : Value, e = .returned (.agg #[v0_, v1_]) ∧ Kd.R Kd.bool 4 w' w.heap.size (fun _ => True) v0_ r1 ∧ Kd.R k92 92 w' w.heap.size (fun _ => True) v1_ r2 ∧ Below w.heap.size w w' := by
 have hu25 := Try.underlying25
 have hu92 := Try.underlying92
 have HB := ym (Below.refl w.heap.size w)
 have H : (some ((([false, true] : List Bool)), (([(⟨0, 97, 97, 1⟩ : S92), (⟨1, 97, 98, 1⟩ : S92)] : List (S92))))) = some (r1, r2) := h
 clear h
 obtain ⟨y165, hy165⟩ : ∃ y_ : List Bool, y_ = (([false, true] : List Bool)) := ⟨_, rfl⟩
 replace H : (some (y165, (([(⟨0, 97, 97, 1⟩ : S92), (⟨1, 97, 98, 1⟩ : S92)] : List (S92))))) = some (r1, r2) := by first | (rw [hy165]; with_reducible exact H) | (have H2_ := (Option.bind_some _ _).symm.trans H; rw [hy165]; with_reducible exact H2_) | (have H2_ := (Option.bind_some _ _).symm.trans H; with_reducible exact H2_) | with_reducible exact H | (rw [hy165]; exact H) | exact H
 have Ny165 := ym hy165
 clear hy165
 obtain ⟨y168, hy168⟩ : ∃ y_ : List (S92), y_ = (([(⟨0, 97, 97, 1⟩ : S92), (⟨1, 97, 98, 1⟩ : S92)] : List (S92))) := ⟨_, rfl⟩
 replace H : (some (y165, y168)) = some (r1, r2) := by first | (rw [hy168]; with_reducible exact H) | (have H2_ := (Option.bind_some _ _).symm.trans H; rw [hy168]; with_reducible exact H2_) | (have H2_ := (Option.bind_some _ _).symm.trans H; with_reducible exact H2_) | with_reducible exact H | (rw [hy168]; exact H) | exact H
 have Ny168 := ym hy168
 clear hy168
 simp only [Option.some.injEq, Prod.mk.injEq] at H
 obtain ⟨rfl, rfl⟩ := H
 go_enter Try.func47, Try.ntmps47
 go_wp2_with (first | ((with_reducible refine gate_dst (N := 0) rfl ?_); refine box_event ?hg (N := 0) ?hd (cs := #[.slice none 0 0, .slice none 0 0]) (t := 25) ?hr ?_; (case hd => rfl); (case hg => rfl); (case hr => first | (go_simp; done) | (go_simp; rfl)); intro gb164 hg w1 hbox hb; have n0_ := ym (yn yb hb); have n1_ := ym (hbox); have n2_ := ym ((by rw [hg]; exact (below_size yb) : w.heap.size ≤ gb164)); have n3_ := n2_; clear HB; have HB := n0_; have BK164 := n1_; have GW164 := n2_; have GE164 := n3_; clear n0_ n1_ n2_ n3_; clear hb hbox hg) | ((with_reducible refine gate_dst (N := 1) rfl ?_); refine Kd.R_lit Kd.bool _ 4 ?hg (N := 1) ?hd (xs := ([false, true] : List Bool)) (inner := [.bool false, .bool true]) (ok := fun _ => True) (okp := fun _ => True) ?hr ?hp (fun _ hk => hk) trivial (Below.refl _ _) (Nat.le_refl _) (by simp) ?_; (case hd => rfl); (case hg => rfl); (case hr => first | (go_simp; done) | (go_simp; rfl)); (case hp => exact (Reps.one (show Kd.M Kd.bool _ _ _ false [.bool false] from rfl) (Reps.one (show Kd.M Kd.bool _ _ _ true [.bool true] from rfl) (Reps.none _ _)))); intro v166 w2 ho3 hb hg_ hnew_; clear hg_ hnew_; (first | rw [← Ny165.out] at ho3 | (simp only [Int.reduceToNat] at ho3; rw [← Ny165.out] at ho3)); have n0_ := ym (yo ho3 (below_size yb)); have n1_ := ym (yq (g := gb164) (o := .cells #[.slice none 0 0, .slice none 0 0] 25 (0, 0)) (yc BK164) hb); have n2_ := ym (yn yb hb); clear BK164; clear HB; have HO167 := n0_; have BK164 := n1_; have HB := n2_; clear n0_ n1_ n2_; clear hb ho3) | ((with_reducible refine gate_dst (N := 4) rfl ?_); refine Kd.R_lit k92 _ 92 ?hg (N := 4) ?hd (xs := ([(⟨0, 97, 97, 1⟩ : S92), (⟨1, 97, 98, 1⟩ : S92)] : List (S92))) (inner := [.int .i64 0, .int .u8 97, .int .u8 97, .int .i64 1, .int .i64 1, .int .u8 97, .int .u8 98, .int .i64 1]) (ok := fun _ => True) (okp := fun _ => True) ?hr ?hp (fun _ hk => hk) trivial (Below.refl _ _) (Nat.le_refl _) (by simp) ?_; (case hd => rfl); (case hg => rfl); (case hr => first | (go_simp; done) | (go_simp; rfl)); (case hp => exact (Reps.c4 (show Kd.M k92 _ _ _ (⟨0, 97, 97, 1⟩ : S92) [.int .i64 0, .int .u8 97, .int .u8 97, .int .i64 1] from (k92_mkM _ _ _ (⟨0, 97, 97, 1⟩ : S92) )) (Reps.c4 (show Kd.M k92 _ _ _ (⟨1, 97, 98, 1⟩ : S92) [.int .i64 1, .int .u8 97, .int .u8 98, .int .i64 1] from (k92_mkM _ _ _ (⟨1, 97, 98, 1⟩ : S92) )) (Reps.none _ _)))); intro v169 w4 ho5 hb hg_ hnew_; clear hg_ hnew_; (first | rw [← Ny168.out] at ho5 | (simp only [Int.reduceToNat] at ho5; rw [← Ny168.out] at ho5)); have n0_ := ym (yp (by (with_reducible repeat apply y2); exact HO167.out) hb); have n1_ := ym (yo ho5 (below_size yb)); have n2_ := ym (yq (g := gb164) (o := .cells #[.slice none 0 0, .slice none 0 0] 25 (0, 0)) (yc BK164) hb); have n3_ := ym (yn yb hb); clear HO167; clear BK164; clear HB; have HO167 := n0_; have HO170 := n1_; have BK164 := n2_; have HB := n3_; clear n0_ n1_ n2_ n3_; clear hb ho5; obtain ⟨Ao6, co6, eo6⟩ := Kd.R_slice HO170.out; subst eo6; obtain ⟨Ao7, co7, eo7⟩ := Kd.R_slice HO167.out; subst eo7; have hcz8_0 : w4.cell? ⟨gb164, 0, none⟩ = some (.slice none 0 0) := (yw BK164.out 0).trans rfl; have hcz8_1 : w4.cell? ⟨gb164, 1, none⟩ = some (.slice none 0 0) := (yw BK164.out 1).trans rfl; have hfz8_0 := yv BK164.out 0; have hfz8_1 := yv BK164.out 1))
 refine bodyPost_ret (results_cell_row rfl _ _ gb164 25 #[.slice Ao7 y165.length co7, .slice Ao6 y168.length co6] (0, 0) _ rfl (by (with_reducible repeat refine y4 ?_); refine yy (cs := #[.slice Ao7 y165.length co7, .slice none 0 0]) ?_ 1 _ rfl; (with_reducible repeat refine y4 ?_); refine yy (cs := #[.slice none 0 0, .slice none 0 0]) ?_ 0 _ rfl; (with_reducible repeat refine y4 ?_); exact BK164.out) Try.underlying25 rfl (by kernel_rfl)) rfl ?_
 exact ⟨_, _, by first | rfl | (simp [errW_none, errW_some] <;> rfl) | (simp [*, errW_none, errW_some] <;> rfl), by (with_reducible repeat apply y2); exact Kd.R_mono (Kd.R_far (p := ⟨gb164, 1, none⟩) (Kd.R_far (p := ⟨gb164, 0, none⟩) (Kd.R_types HO167.out BK164.out (by decide)) (fun _ hk => hk.2) (.slice Ao7 y165.length co7)) (fun _ hk => hk.2) (.slice Ao6 y168.length co6)) (fun _ hk => trivial), by (with_reducible repeat apply y2); exact Kd.R_mono (Kd.R_far (p := ⟨gb164, 1, none⟩) (Kd.R_far (p := ⟨gb164, 0, none⟩) (Kd.R_types HO170.out BK164.out (by decide)) (fun _ hk => hk.2) (.slice Ao7 y165.length co7)) (fun _ hk => hk.2) (.slice Ao6 y168.length co6)) (fun _ hk => trivial), by repeat (first | (with_reducible first | exact HB.out | apply y3 | refine ys ?_ GE164.out) | exact HB.out)⟩

end Go.Proofs.Ytfjpnmhbbfiaaaa.P
