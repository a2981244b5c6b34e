-- Printed by xprint.py (wip): functions, contracts, rows. Lean checks it.
import Derived.Test.YtmpldbccohdnjaaPx0
import Derived.Test.YtmpldbccohdnjaaPx5
namespace Go.Proofs.Ytmpldbccohdnjaa.P
open Go.RowKit Go.Proofs.YtmpldbccohdnjaaW.PrintWords Go.Proofs.YtmpldbccohdnjaaW.PrintLast Go.Proofs.YtmpldbccohdnjaaW.PrintMore
attribute [local go_sem] max2_int min2_int max_two min_two max_three min_three max_four min_four   -- for this text's walks alone
set_option linter.unusedVariables false
set_option linter.unusedSimpArgs false

/-! ### heraldref02_Exp2: function 31 -/
mutual
def heraldref02_Exp2.j0 : Nat → Int → Option (Int)
  | 0, _ => none
  | k + 1, x0 => (heraldref02_Floor.f x0 65536).bind fun bt109 => (if (wrap64 (-bt109.1)) ≥ 31 then (some 0) else (heraldref02_Exp2.l0 k (wrap64 (-bt109.1)) (wrap64 (1073741824 + (wrap64 (Int.tdiv (wrap64 ((wrap64 (747400624 + (wrap64 (Int.tdiv (wrap64 ((wrap64 (241400000 + (wrap64 (Int.tdiv (wrap64 (84941200 * bt109.2.1)) 65536)))) * bt109.2.1)) 65536)))) * bt109.2.1)) 65536)))) 0))
def heraldref02_Exp2.l0 : Nat → Int → Int → Int → Option (Int)
  | 0, _, _, _ => none
  | k + 1, x6, x9, x10 => if x10 < x6 then (heraldref02_Exp2.l0 k x6 (wrap64 (Int.tdiv x9 2)) (wrap64 (x10 + 1))) else (some x9)
end
def heraldref02_Exp2.f (k : Nat) (a0 : Int) : Option (Int) := if a0 > 0 then (heraldref02_Exp2.j0 k 0) else (heraldref02_Exp2.j0 k a0)
theorem heraldref02_Exp2.mono_l : ∀ k, (∀ y0, LeO (heraldref02_Exp2.j0 k y0) (heraldref02_Exp2.j0 (k + 1) y0)) ∧ (∀ y0 y1 y2, LeO (heraldref02_Exp2.l0 k y0 y1 y2) (heraldref02_Exp2.l0 (k + 1) y0 y1 y2))
  | 0 => ⟨fun _ r h => by simp [heraldref02_Exp2.j0] at h, fun _ _ _ r h => by simp [heraldref02_Exp2.l0] at h⟩
  | k + 1 => by
    obtain ⟨ih0, ih1⟩ := heraldref02_Exp2.mono_l k
    refine ⟨?_, ?_⟩
    · intro y0
      unfold heraldref02_Exp2.j0
      repeat' first
      | (with_reducible exact ih0 _)
      | (with_reducible exact ih1 _ _ _)
      | (with_reducible exact LeO.refl _)
      | (with_reducible exact LeO.none _)
      | (with_reducible refine LeO.ite ?_ ?_)
      | (with_reducible refine LeO.bind ?_ (fun _ => ?_))
      | exact ih0 _
      | exact ih1 _ _ _
      | exact LeO.none _
      | refine LeO.ite ?_ ?_
      | refine LeO.bind ?_ (fun _ => ?_)
    · intro y0 y1 y2
      unfold heraldref02_Exp2.l0
      repeat' first
      | (with_reducible exact ih0 _)
      | (with_reducible exact ih1 _ _ _)
      | (with_reducible exact LeO.refl _)
      | (with_reducible exact LeO.none _)
      | (with_reducible refine LeO.ite ?_ ?_)
      | (with_reducible refine LeO.bind ?_ (fun _ => ?_))
      | exact ih0 _
      | exact ih1 _ _ _
      | exact LeO.none _
      | refine LeO.ite ?_ ?_
      | refine LeO.bind ?_ (fun _ => ?_)
theorem heraldref02_Exp2.mono : ∀ a0 k, LeO (heraldref02_Exp2.f k a0) (heraldref02_Exp2.f (k + 1) a0) := by
  intro a0 k
  obtain ⟨ih0, ih1⟩ := heraldref02_Exp2.mono_l k
  unfold heraldref02_Exp2.f
  repeat' first
      | (with_reducible exact ih0 _)
      | (with_reducible exact ih1 _ _ _)
      | (with_reducible exact LeO.refl _)
      | (with_reducible exact LeO.none _)
      | (with_reducible refine LeO.ite ?_ ?_)
      | (with_reducible refine LeO.bind ?_ (fun _ => ?_))
      | exact ih0 _
      | exact ih1 _ _ _
      | exact LeO.none _
      | refine LeO.ite ?_ ?_
      | refine LeO.bind ?_ (fun _ => ?_)
set_option maxHeartbeats 8000000 in
set_option maxRecDepth 100000 in
theorem heraldref02_Exp2.calls (k : Nat) (a0 : Int) (r : Int) (w : World) (h : heraldref02_Exp2.f k a0 = some r) :
    Calls Try.prog 31 #[.int .i64 a0] w fun e w' => e = .returned (.int .i64 r) ∧ Drawn0 w w' := by
 have H : (if a0 > 0 then (heraldref02_Exp2.j0 k 0) else (heraldref02_Exp2.j0 k a0)) = some r := h
 clear h
 have HC2 := ym H
 clear H
 go_enter Try.func31, Try.ntmps31
 go_upto_if 12 with (fail)
 go_cut [0] (fun v0 wc => ∃ (kq : Nat) (x0_1 : Int), v0 = .int .i64 x0_1 ∧ Aside0 (heraldref02_Exp2.j0 kq x0_1 = some r) ∧ Aside0 (kq ≤ k) ∧ Drawn0 w wc)
 case first =>
  have H := HC2.out
  clear HC2
  by_cases c3 : a0 > 0
  ·
   rw [if_pos c3] at H
   have c3b0 : decide (0 < a0) = true := decide_eq_true c3
   clear c3
   (first | rw [c3b0] | (simp only [i64_w, i32_w]; rw [c3b0]) | skip)
   have H' := ym H
   clear H
   go_wp2
   go_meet
   case rel => exact ⟨_, (0), (by first | rfl | (simp; done) | (simp [*]; done)), H', ⟨by first | omega | exact Nat.le_refl _⟩, by repeat (first | exact Drawn0.refl _ | apply Drawn0.step)⟩
  rw [if_neg c3] at H
  have c3b0 : decide (0 < a0) = false := decide_eq_false c3
  clear c3
  (first | rw [c3b0] | (simp only [i64_w, i32_w]; rw [c3b0]) | skip)
  have H' := ym H
  clear H
  go_wp2
  go_meet
  case rel => exact ⟨_, (a0), (by first | rfl | (simp; done) | (simp [*]; done)), H', ⟨by first | omega | exact Nat.le_refl _⟩, by repeat (first | exact Drawn0.refl _ | apply Drawn0.step)⟩
 case rest =>
  clear HC2
  try clear p2
  try clear c3
  try clear c3b0
  obtain ⟨kq, x0_1, rfl, HA, HJ1, ⟨mc1, rfl⟩⟩ := hcut
  cases kq with
  | zero => exact absurd HA.out (by simp [heraldref02_Exp2.j0])
  | succ kj1 =>
   have H := HA.out
   clear HA
   simp only [heraldref02_Exp2.j0] at H
   replace H := Option.bind_eq_some_iff.mp H
   obtain ⟨⟨t109, t110, t111⟩, A40, H⟩ := H
   replace H : (if (wrap64 (-t109)) ≥ 31 then (some 0) else (heraldref02_Exp2.l0 kj1 (wrap64 (-t109)) (wrap64 (1073741824 + (wrap64 (Int.tdiv (wrap64 ((wrap64 (747400624 + (wrap64 (Int.tdiv (wrap64 ((wrap64 (241400000 + (wrap64 (Int.tdiv (wrap64 (84941200 * t110)) 65536)))) * t110)) 65536)))) * t110)) 65536)))) 0)) = some r := H
   have A4 := ym A40
   clear A40
   by_cases c5 : (wrap64 (-t109)) ≥ 31
   ·
    rw [if_pos c5] at H
    have c5b0 : decide (31 ≤ (wrap64 (-t109))) = true := decide_eq_true c5
    clear c5
    obtain rfl := Option.some.inj H
    go_wp2_with (first | ((with_reducible refine gate_callee (f := 36) rfl ?_); refine goesL_ (some 15) rfl rfl Try.func36 (by kernel_rfl) rfl #[.int .i64 x0_1, .int .i64 65536] rfl (by (try simp only [List.map_toArray, List.map_cons, List.map_nil]); first | done | rfl | (simp only [List.length_drop, List.length_take]; rfl)) ?_; (with_reducible refine (heraldref02_Floor.calls x0_1 65536 t109 t110 t111 _ A4.out).mono ?_); rintro e w' ⟨rfl, ⟨nd, rfl⟩⟩; refine ⟨_, rfl, ?_⟩))
    go_ret
    exact ⟨by first | rfl | (simp; done) | (simp [*]; done), by repeat (first | exact Drawn0.refl _ | apply Drawn0.step)⟩
   rw [if_neg c5] at H
   have c5b0 : decide (31 ≤ (wrap64 (-t109))) = false := decide_eq_false c5
   clear c5
   have H' := ym H
   clear H
   go_wp2_with (first | ((with_reducible refine gate_callee (f := 36) rfl ?_); refine goesL_ (some 15) rfl rfl Try.func36 (by kernel_rfl) rfl #[.int .i64 x0_1, .int .i64 65536] rfl (by (try simp only [List.map_toArray, List.map_cons, List.map_nil]); first | done | rfl | (simp only [List.length_drop, List.length_take]; rfl)) ?_; (with_reducible refine (heraldref02_Floor.calls x0_1 65536 t109 t110 t111 _ A4.out).mono ?_); rintro e w' ⟨rfl, ⟨nd, rfl⟩⟩; refine ⟨_, rfl, ?_⟩))
   go_loopg [9, 10] kj1 (fun kq v9 v10 w' => ∃ (x9_2 : Int) (x10_2 : Int), v9 = .int .i64 x9_2 ∧ v10 = .int .i64 x10_2 ∧ Aside0 (heraldref02_Exp2.l0 kq (wrap64 (-t109)) x9_2 x10_2 = some r) ∧ Aside0 (kq ≤ kj1) ∧ Drawn0 w w')
   case atStart => exact ⟨(wrap64 (1073741824 + (wrap64 (Int.tdiv (wrap64 ((wrap64 (747400624 + (wrap64 (Int.tdiv (wrap64 ((wrap64 (241400000 + (wrap64 (Int.tdiv (wrap64 (84941200 * t110)) 65536)))) * t110)) 65536)))) * t110)) 65536)))), (0), (by first | rfl | (simp; done) | (simp [*]; done)), (by first | rfl | (simp; done) | (simp [*]; done)), H', ⟨Nat.le_refl _⟩, by repeat (first | exact Drawn0.refl _ | apply Drawn0.step)⟩
   case round =>
    clear H'
    try clear c1
    try clear p2
    try clear c3
    try clear c3b0
    try clear c5
    try clear c5b0
    try clear p2
    obtain ⟨x9_2, x10_2, rfl, rfl, HA, HK2, ⟨m2, rfl⟩⟩ := hrel
    cases gk with
    | zero => exact absurd HA.out (by simp [heraldref02_Exp2.l0])
    | succ k2 =>
     have H := HA.out
     clear HA
     simp only [heraldref02_Exp2.l0] at H
     by_cases c6 : x10_2 < (wrap64 (-t109))
     ·
      rw [if_pos c6] at H
      have c6b0 : decide (x10_2 < (wrap64 (-t109))) = true := decide_eq_true c6
      clear c6
      have H' := ym H
      clear H
      go_wp2
      go_roundg k2
      case measure => have := HJ1.out; have := HK2.out; omega
      case rel => exact ⟨(wrap64 (Int.tdiv x9_2 2)), (wrap64 (x10_2 + 1)), (by first | rfl | (simp; done) | (simp [*]; done)), (by first | rfl | (simp; done) | (simp [*]; done)), H', ⟨by have := HJ1.out; have := HK2.out; omega⟩, by repeat (first | exact Drawn0.refl _ | apply Drawn0.step)⟩
     rw [if_neg c6] at H
     have c6b0 : decide (x10_2 < (wrap64 (-t109))) = false := decide_eq_false c6
     clear c6
     obtain rfl := Option.some.inj H
     go_wp2
     go_ret
     exact ⟨by first | rfl | (simp; done) | (simp [*]; done), by repeat (first | exact Drawn0.refl _ | apply Drawn0.step)⟩

end Go.Proofs.Ytmpldbccohdnjaa.P
