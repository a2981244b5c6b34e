/- Lemmas on the printed functions: what each answers, in plain words of Lean; on condition that the numbers are of their kinds. -/
import Derived.Test.YtgdbcknofcnfbaaPx1
import Derived.Test.YtgdbcknofcnfbaaPx2
import Derived.Test.YtgdbcknofcnfbaaPx3
import Derived.Test.YtgdbcknofcnfbaaMath
import Derived.Test.YtgdbcknofcnfbaaLibA
namespace Go.Proofs.Ytgdbcknofcnfbaa.L
open Go Go.RowKit Go.Proofs.Ytgdbcknofcnfbaa.M Go.Proofs.Ytgdbcknofcnfbaa.P Go.Proofs.YtgdbcknofcnfbaaW.PrintWords Go.Proofs.YtgdbcknofcnfbaaW.PrintLast Go.Proofs.YtgdbcknofcnfbaaW.PrintMore
set_option linter.unusedVariables false
set_option linter.unusedSimpArgs false

theorem sq_bound {x M : Int} (h0 : -M ≤ x) (h1 : x ≤ M) : 0 ≤ x * x ∧ x * x ≤ M * M := by
  have a := Int.mul_nonneg (show 0 ≤ M - x by omega) (show 0 ≤ M + x by omega)
  have e : (M - x) * (M + x) = M * M - x * x := by grind
  have z : 0 ≤ x * x := by
    by_cases h : 0 ≤ x
    · exact Int.mul_nonneg h h
    · have := Int.mul_nonneg (show 0 ≤ -x by omega) (show 0 ≤ -x by omega)
      rw [Int.neg_mul_neg] at this; exact this
  omega
/-- The sum of squares of numbers of the reach. -/
def sqs : List Int → Int → Option Int
  | [], s => some s
  | x :: t, s => if x < -268435456 ∨ x > 268435456 then none else sqs t (s + x * x)
theorem sqs_bound : ∀ (t : List Int) (s r : Int), sqs t s = some r → s ≤ r ∧ r ≤ s + 72057594037927936 * t.length
  | [], s, r, h => by simp [sqs] at h; simp; omega
  | x :: t, s, r, h => by
    simp only [sqs] at h
    split at h
    · cases h
    · rename_i hx
      have hb := sq_bound (x := x) (M := 268435456) (by omega) (by omega)
      have := sqs_bound t _ _ h
      simp; omega
theorem sqs_reach : ∀ (t : List Int) (s r : Int), sqs t s = some r → ∀ x ∈ t, -268435456 ≤ x ∧ x ≤ 268435456
  | [], s, r, h => by simp
  | x :: t, s, r, h => by
    simp only [sqs] at h
    split at h
    · cases h
    · rename_i hx
      intro y hy
      rcases List.mem_cons.mp hy with rfl | hy
      · omega
      · exact sqs_reach t _ _ h y hy
/-- The root of a row whose squares' sum is s. -/
def rt (s n : Int) : Int := if sq (s / n) = 0 then 1 else sq (s / n)
def rootS (l : List Int) : Int × Int := if l.length = 0 ∨ l.length > 64 then (0, 1) else match sqs l 0 with
  | none => (0, 90)
  | some s => (rt s l.length, 0)
theorem rt_in {s n : Int} (hs : 0 ≤ s) (hs1 : s ≤ 4611686018427387904) (hn : 0 < n) : 1 ≤ rt s n ∧ rt s n ≤ 4294967296 := by
  have h := sq_spec (x := s / n) (Int.ediv_nonneg hs (by omega))
  have hd : s / n ≤ s := Int.ediv_le_self n hs
  have hb : sq (s / n) ≤ 4294967296 := by
    by_cases hc : sq (s / n) ≤ 4294967296
    · exact hc
    · have : 4294967296 * 4294967296 ≤ sq (s / n) * sq (s / n) := Int.mul_le_mul (by omega) (by omega) (by omega) (by omega)
      omega
  unfold rt
  split <;> omega
theorem rootS_pos {l : List Int} {r : Int} (h : rootS l = (r, 0)) : 1 ≤ r ∧ r ≤ 4294967296 ∧ l.length ≠ 0 ∧ l.length ≤ 64 ∧ ∀ x ∈ l, -268435456 ≤ x ∧ x ≤ 268435456 := by
  unfold rootS at h
  split at h
  · simp at h
  · rename_i hl
    split at h
    · simp at h
    · rename_i s hs
      have hb := sqs_bound _ _ _ hs
      simp at h
      have := rt_in (s := s) (n := (l.length : Int)) (by omega) (by omega) (by omega)
      exact ⟨by omega, by omega, by omega, by omega, sqs_reach _ _ _ hs⟩
/-- A number of a row, brought to size r, with a gain. -/
def cell (r x g : Int) : Int := narrow (near (Int.tdiv (64 * x) r * g) 64)
theorem tdiv_abs {a r M : Int} (h0 : -M ≤ a) (h1 : a ≤ M) : -M ≤ Int.tdiv a r ∧ Int.tdiv a r ≤ M := by
  have h := Int.natAbs_tdiv_le_natAbs a r
  omega
theorem mul_abs {a g M : Int} (h0 : -M ≤ a) (h1 : a ≤ M) (g0 : -128 ≤ g) (g1 : g ≤ 127) : -(M * 128) ≤ a * g ∧ a * g ≤ M * 128 := by
  have hM : 0 ≤ M := by omega
  have e : (a * g).natAbs = a.natAbs * g.natAbs := Int.natAbs_mul a g
  have : a.natAbs * g.natAbs ≤ M.natAbs * 128 := Nat.mul_le_mul (by omega) (by omega)
  have e2 : ((M.natAbs * 128 : Nat) : Int) = M * 128 := by omega
  omega
theorem rowS_64 (a : Int) : roundS a 6 = (near a 64, 0) := by
  unfold roundS; rw [if_neg (by omega)]; rfl

theorem sqrtS_pos {a : Int} (h : 0 ≤ a) : sqrtS a = (sq a, 0) := by unfold sqrtS; rw [if_neg (by omega)]
theorem avg_in {s : Int} {n : Nat} (h0 : 0 ≤ s) (h1 : s ≤ 4611686018427387904) : 0 ≤ s / (n : Int) ∧ s / (n : Int) ≤ 4611686018427387904 := by
  have a := Int.ediv_nonneg h0 (show 0 ≤ (n : Int) by omega)
  have b : s / (n : Int) ≤ s := Int.ediv_le_self _ h0
  omega
/-- What is left of a row, from a sum on. -/
def rootGo (n : Int) (t : List Int) (s : Int) : Int × Int := match sqs t s with
  | none => (0, 90)
  | some s => (rt s n, 0)
theorem rootS_eq (l : List Int) : rootS l = if l.length = 0 ∨ l.length > 64 then (0, 1) else rootGo l.length l 0 := rfl

theorem root_l (l : List Int) (hl0 : l.length ≠ 0) (hl1 : l.length ≤ 64) : ∀ (t : List Int) (i : Nat) (s : Int), l.drop i = t → i ≤ l.length → 0 ≤ s → s ≤ 72057594037927936 * i → Ev (fun k => norm_root.l0 k l s l l.length i) (rootGo l.length t s) := by
  intro t
  induction t with
  | nil =>
    intro i s h hi1 hs0 hs1
    have hi := drop_nil h
    simp only [rootGo, sqs]
    have hd := avg_in (n := l.length) hs0 (by omega)
    have hq := Sqrt_f (s / (l.length : Int)) ⟨by omega, by omega⟩
    refine Ev.step (f := fun k => (fixed_Sqrt.f k (s / (l.length : Int))).bind fun bt => (some (mx 1 bt.1, 0))) (fun k => ?_) ?_
    · simp only [norm_root.l0]
      rw [if_neg (by omega), if_neg (by omega), Int.tdiv_eq_ediv_of_nonneg hs0, wrap64_id' (by omega) (by omega)]
    · refine Ev.bind hq ?_
      have := sq_spec hd.1
      have e : mx 1 (sqrtS (s / (l.length : Int))).1 = rt s l.length := by
        rw [sqrtS_pos hd.1]; dsimp only
        unfold rt mx; repeat' split
        all_goals omega
      rw [e]; exact Ev.now _
  | cons x t ih =>
    intro i s h hi1 hs0 hs1
    obtain ⟨hi, hg, hd⟩ := drop_cons h
    have hr := rd_of_get hg
    simp only [rootGo, sqs]
    by_cases h1 : x < -268435456
    · rw [if_pos (Or.inl h1)]
      refine Ev.step (f := fun _ => some (0, 90)) (fun k => ?_) (Ev.now _)
      simp only [norm_root.l0, hr]
      rw [if_pos (by omega), if_pos (by omega), if_pos (by omega), if_pos h1]
    · by_cases h2 : x > 268435456
      · rw [if_pos (Or.inr h2)]
        refine Ev.step (f := fun _ => some (0, 90)) (fun k => ?_) (Ev.now _)
        simp only [norm_root.l0, hr]
        rw [if_pos (by omega), if_pos (by omega), if_pos (by omega), if_neg h1, if_pos h2]
      · rw [if_neg (by omega)]
        have hb := sq_bound (x := x) (M := 268435456) (by omega) (by omega)
        refine Ev.step (fun k => ?_) (ih (i + 1) (s + x * x) hd (by omega) (by omega) (by omega))
        simp only [norm_root.l0, hr]
        rw [if_pos (by omega), if_pos (by omega), if_pos (by omega), if_neg h1, if_neg h2, wrap64_id' (x := x * x) (by omega) (by omega), wrap64_id' (by omega) (by omega), wrap64_id' (by omega) (by omega)]
        rfl
theorem root_f (l : List Int) : Ev (fun k => norm_root.f k l) (rootS l) := by
  rw [rootS_eq]
  unfold norm_root.f
  by_cases h : l.length = 0
  · rw [if_pos (Or.inl h)]
    simp only [show (l.length : Int) = 0 by omega, if_true]
    exact Ev.step (fun k => by simp only [norm_root.j0, if_true]) (Ev.now _)
  · by_cases h2 : l.length > 64
    · rw [if_pos (Or.inr h2)]
      simp only [show ¬ (l.length : Int) = 0 by omega, show (l.length : Int) > 64 by omega, if_false, decide_true]
      exact Ev.step (fun k => by simp only [norm_root.j0, if_true]) (Ev.now _)
    · rw [if_neg (by omega)]
      simp only [show ¬ (l.length : Int) = 0 by omega, show ¬ (l.length : Int) > 64 by omega, if_false, decide_false]
      refine Ev.step (fun k => ?_) (root_l l h (by omega) l 0 0 rfl (by omega) (by omega) (by omega))
      simp only [norm_root.j0]; rfl

theorem rRoot_l (l : List Int) (hl0 : l.length ≠ 0) (hl1 : l.length ≤ 64) : ∀ (t : List Int) (i : Nat) (s : Int), l.drop i = t → i ≤ l.length → 0 ≤ s → s ≤ 72057594037927936 * i → Ev (fun k => heraldref09_Root.l0 k l s i) (rootGo l.length t s) := by
  intro t
  induction t with
  | nil =>
    intro i s h hi1 hs0 hs1
    have hi := drop_nil h
    simp only [rootGo, sqs]
    have hd := avg_in (n := l.length) hs0 (by omega)
    have hq := rSqrt_f (s / (l.length : Int)) ⟨by omega, by omega⟩
    refine Ev.step (f := fun k => (heraldref02_Sqrt.f k (s / (l.length : Int))).bind fun bt => (if bt.1 = 0 then (some (1, 0)) else (some (bt.1, 0)))) (fun k => ?_) ?_
    · simp only [heraldref09_Root.l0]
      rw [if_neg (by omega), if_neg (by omega), Int.tdiv_eq_ediv_of_nonneg hs0, wrap64_id' (by omega) (by omega)]
    · refine Ev.bind hq ?_
      rw [sqrtS_pos hd.1]; dsimp only
      unfold rt
      split <;> exact Ev.now _
  | cons x t ih =>
    intro i s h hi1 hs0 hs1
    obtain ⟨hi, hg, hd⟩ := drop_cons h
    have hr := rd_of_get hg
    simp only [rootGo, sqs]
    by_cases h1 : x > 268435456
    · rw [if_pos (Or.inr h1)]
      refine Ev.step (f := fun _ => some (0, 90)) (fun k => ?_) (Ev.now _)
      simp only [heraldref09_Root.l0, hr]
      rw [if_pos (by omega), if_pos (by omega), if_pos h1]
    · by_cases h2 : x < -268435456
      · rw [if_pos (Or.inl h2)]
        refine Ev.step (f := fun _ => some (0, 90)) (fun k => ?_) (Ev.now _)
        simp only [heraldref09_Root.l0, hr]
        rw [if_pos (by omega), if_pos (by omega), if_neg h1, if_pos h2]
      · rw [if_neg (by omega)]
        have hb := sq_bound (x := x) (M := 268435456) (by omega) (by omega)
        refine Ev.step (fun k => ?_) (ih (i + 1) (s + x * x) hd (by omega) (by omega) (by omega))
        simp only [heraldref09_Root.l0, hr]
        rw [if_pos (by omega), if_pos (by omega), if_neg h1, if_neg h2, wrap64_id' (x := x * x) (by omega) (by omega), wrap64_id' (by omega) (by omega), wrap64_id' (by omega) (by omega)]
        rfl
theorem rRoot_f (l : List Int) : Ev (fun k => heraldref09_Root.f k l) (rootS l) := by
  rw [rootS_eq]
  unfold heraldref09_Root.f
  by_cases h : l.length = 0
  · rw [if_pos (Or.inl h)]
    simp only [show (l.length : Int) < 1 by omega, if_true]
    exact Ev.step (fun k => by simp only [heraldref09_Root.j0, if_true]) (Ev.now _)
  · by_cases h2 : l.length > 64
    · rw [if_pos (Or.inr h2)]
      simp only [show ¬ (l.length : Int) < 1 by omega, show (l.length : Int) > 64 by omega, if_false, decide_true]
      exact Ev.step (fun k => by simp only [heraldref09_Root.j0, if_true]) (Ev.now _)
    · rw [if_neg (by omega)]
      simp only [show ¬ (l.length : Int) < 1 by omega, show ¬ (l.length : Int) > 64 by omega, if_false, decide_false]
      refine Ev.step (fun k => ?_) (rRoot_l l h (by omega) l 0 0 rfl (by omega) (by omega) (by omega))
      simp only [heraldref09_Root.j0]; rfl

theorem Root_f (l : List Int) : Ev (fun k => norm_Root.f k l) (rootS l) := by
  unfold norm_Root.f
  exact Ev.bind (root_f l) (Ev.now _)

theorem set_mid {α : Type} (a : List α) (x v : α) (b : List α) (i : Int) (hi : i = a.length) : (a ++ x :: b).set i.toNat v = (a ++ [v]) ++ b := by
  subst hi; simp
/-- The rest of a row, brought to size r, with gains. -/
def cells (r : Int) : List Int → List Int → List Int
  | x :: t, g :: u => cell r x g :: cells r t u
  | _, _ => []
theorem cells_length (r : Int) : ∀ t u : List Int, t.length = u.length → (cells r t u).length = t.length
  | [], _, _ => rfl
  | x :: t, [], h => by simp at h
  | x :: t, g :: u, h => by simp only [cells, List.length_cons]; rw [cells_length r t u (by simpa using h)]
def rowS (l g : List Int) : List Int × Int := if l.length = g.length then (if (rootS l).2 = 0 then (cells (rootS l).1 l g, 0) else ([], (rootS l).2)) else ([], 1)
theorem cell_code {r x g : Int} (hr0 : 1 ≤ r) (hr1 : r ≤ 4294967296) (hx0 : -268435456 ≤ x) (hx1 : x ≤ 268435456) (hg : I8 g) :
    wrap64 ((wrap64 (Int.tdiv (wrap64 (64 * x)) r)) * (wrap64 g)) = Int.tdiv (64 * x) r * g ∧ I64 (Int.tdiv (64 * x) r * g) := by
  unfold I8 at hg
  have ht := tdiv_abs (a := 64 * x) (r := r) (M := 17179869184) (by omega) (by omega)
  have hm := mul_abs (g := g) ht.1 ht.2 hg.1 hg.2
  rw [wrap64_id' (x := 64 * x) (by omega) (by omega), wrap64_id' (x := Int.tdiv (64 * x) r) (by omega) (by omega), wrap64_id' (x := g) (by omega) (by omega), wrap64_id' (by omega) (by omega)]
  exact ⟨rfl, by omega, by omega⟩

theorem Row_l (l g : List Int) (r : Int) (hr0 : 1 ≤ r) (hr1 : r ≤ 4294967296) (hl1 : l.length ≤ 64) (hlg : l.length = g.length) (hx : ∀ x ∈ l, -268435456 ≤ x ∧ x ≤ 268435456) (hg : ∀ x ∈ g, I8 x) : ∀ (t u : List Int) (i : Nat) (a : List Int), l.drop i = t → g.drop i = u → a.length = i → i ≤ l.length → Ev (fun k => norm_Row.l0 k g r (a ++ List.replicate t.length 0) l l.length i) (a ++ cells r t u, 0) := by
  intro t
  induction t with
  | nil =>
    intro u i a h hu ha hi1
    have hi := drop_nil h
    refine Ev.step (f := fun _ => some (a, 0)) (fun k => ?_) (by simp only [cells, List.append_nil]; exact Ev.now _)
    simp only [norm_Row.l0]
    rw [if_neg (by omega)]; simp
  | cons x t ih =>
    intro u i a h hu ha hi1
    obtain ⟨hi, hgx, hd⟩ := drop_cons h
    have hrx := rd_of_get hgx
    have hxm := hx x (List.mem_of_getElem? hgx)
    cases u with
    | nil => have := drop_nil hu; omega
    | cons y u =>
      obtain ⟨hj, hgy, hd'⟩ := drop_cons hu
      have hry := rd_of_get hgy
      have hym := hg y (List.mem_of_getElem? hgy)
      obtain ⟨c1, c2⟩ := cell_code hr0 hr1 hxm.1 hxm.2 hym
      have hih := ih u (i + 1) (a ++ [cell r x y]) hd hd' (by simp [ha]) (by omega)
      refine Ev.step (f := fun k => norm_Row.l0 k g r ((a ++ [cell r x y]) ++ List.replicate t.length 0) l l.length ((i + 1 : Nat) : Int)) (fun k => ?_) (by simpa [cells] using hih)
      simp only [norm_Row.l0, hrx, hry]
      rw [if_pos (by omega), if_pos (by omega), if_pos (by omega), if_neg (by omega), if_pos (by omega), c1, Round_f _ _ c2, rowS_64]
      simp only [Option.bind_some, Narrow_f]
      rw [if_pos (by simp [ha]; omega), wrap64_id' (by omega) (by omega), List.length_cons, List.replicate_succ, set_mid _ _ _ _ _ (by omega)]
      rfl
theorem Row_f (l g : List Int) (hg : ∀ x ∈ g, I8 x) : Ev (fun k => norm_Row.f k l g) (rowS l g) := by
  unfold norm_Row.f rowS
  by_cases h : l.length = g.length
  · rw [if_pos h]
    simp only [show (l.length : Int) = (g.length : Int) by omega, if_true]
    refine Ev.bind (root_f l) ?_
    by_cases h0 : (rootS l).2 = 0
    · obtain ⟨p0, p1, p2, p3, p4⟩ := rootS_pos (l := l) (r := (rootS l).1) (by rw [← h0])
      simp only [h0, if_true, show (0 : Int) ≤ (g.length : Int) by omega, Int.toNat_natCast]
      simp only [show g.length ≤ 281474976710656 by omega, if_true]
      have := Row_l l g _ p0 p1 p3 h p4 hg l g 0 [] rfl rfl rfl (by omega)
      simpa [h] using this
    · simp only [h0, if_false]; exact Ev.now _
  · rw [if_neg h]
    simp only [show ¬ (l.length : Int) = (g.length : Int) by omega, if_false]
    exact Ev.now _

theorem rRow_l (l g : List Int) (r : Int) (hr0 : 1 ≤ r) (hr1 : r ≤ 4294967296) (hl1 : l.length ≤ 64) (hlg : l.length = g.length) (hx : ∀ x ∈ l, -268435456 ≤ x ∧ x ≤ 268435456) (hg : ∀ x ∈ g, I8 x) : ∀ (t u : List Int) (i : Nat) (a : List Int), l.drop i = t → g.drop i = u → a.length = i → i ≤ l.length → Ev (fun k => heraldref09_Row.l0 k l g r a i) (a ++ cells r t u, 0) := by
  intro t
  induction t with
  | nil =>
    intro u i a h hu ha hi1
    have hi := drop_nil h
    refine Ev.step (f := fun _ => some (a, 0)) (fun k => ?_) (by simp only [cells, List.append_nil]; exact Ev.now _)
    simp only [heraldref09_Row.l0]
    rw [if_neg (by omega)]
  | cons x t ih =>
    intro u i a h hu ha hi1
    obtain ⟨hi, hgx, hd⟩ := drop_cons h
    have hrx := rd_of_get hgx
    have hxm := hx x (List.mem_of_getElem? hgx)
    cases u with
    | nil => have := drop_nil hu; omega
    | cons y u =>
      obtain ⟨hj, hgy, hd'⟩ := drop_cons hu
      have hry := rd_of_get hgy
      have hym := hg y (List.mem_of_getElem? hgy)
      obtain ⟨c1, c2⟩ := cell_code hr0 hr1 hxm.1 hxm.2 hym
      have hih := ih u (i + 1) (a ++ [cell r x y]) hd hd' (by simp [ha]) (by omega)
      have fin : ∀ v, v = Int.tdiv (64 * x) r * y → Ev (fun k => (heraldref02_Round.f k v 6).bind fun bt => ((heraldref02_Narrow.f bt.1).bind fun t149 => (if a.length < 140737488355328 then (heraldref09_Row.l0 k l g r (a ++ [t149]) (wrap64 ((i : Int) + 1))) else (none)))) (a ++ cells r (x :: t) (y :: u), 0) := by
        rintro v rfl
        refine Ev.bind (rRound_f _ 6 c2) ?_
        have ec : narrow (near (Int.tdiv (64 * x) r * y) 64) = cell r x y := rfl
        simp only [ec, rowS_64, rNarrow_f, Option.bind_some, show a.length < 140737488355328 by omega, if_true, wrap64_id' (x := (i : Int) + 1) (by omega) (by omega)]
        simpa [cells] using hih
      unfold I8 at hym
      by_cases hneg : x < 0
      · refine Ev.step (f := fun k => heraldref09_Row.j1 k l g r a i (-x)) (fun k => ?_) ?_
        · simp only [heraldref09_Row.l0, hrx]
          rw [if_pos (by omega), if_pos (by omega), if_pos hneg, wrap64_id' (by omega) (by omega)]
        · refine Ev.step (fun k => ?_) (fin (-(Int.tdiv (64 * -x) r) * y) (by rw [Int.mul_neg, Int.neg_tdiv, Int.neg_neg]))
          have ht := tdiv_abs (a := 64 * -x) (r := r) (M := 17179869184) (by omega) (by omega)
          have hm := mul_abs (a := -(Int.tdiv (64 * -x) r)) (g := y) (M := 17179869184) (by omega) (by omega) hym.1 hym.2
          simp only [heraldref09_Row.j1, hrx, hry]
          rw [if_neg (by omega), if_pos (by omega), if_pos (by omega), if_pos hneg, if_pos (by omega), wrap64_id' (x := 64 * -x) (by omega) (by omega), wrap64_id' (x := Int.tdiv (64 * -x) r) (by omega) (by omega), wrap64_id' (x := -(Int.tdiv (64 * -x) r)) (by omega) (by omega), wrap64_id' (x := y) (by omega) (by omega), wrap64_id' (x := -(Int.tdiv (64 * -x) r) * y) (by omega) (by omega)]
      · refine Ev.step (f := fun k => heraldref09_Row.j1 k l g r a i x) (fun k => ?_) ?_
        · simp only [heraldref09_Row.l0, hrx]
          rw [if_pos (by omega), if_pos (by omega), if_neg hneg]
        · refine Ev.step (fun k => ?_) (fin _ c1)
          simp only [heraldref09_Row.j1, hrx, hry]
          rw [if_neg (by omega), if_pos (by omega), if_pos (by omega), if_neg hneg, if_pos (by omega)]
theorem rRow_f (l g : List Int) (hg : ∀ x ∈ g, I8 x) : Ev (fun k => heraldref09_Row.f k l g) (rowS l g) := by
  unfold heraldref09_Row.f rowS
  by_cases h : l.length = g.length
  · rw [if_pos h]
    simp only [show (l.length : Int) = (g.length : Int) by omega, if_true]
    refine Ev.bind (rRoot_f l) ?_
    by_cases h0 : (rootS l).2 = 0
    · obtain ⟨p0, p1, p2, p3, p4⟩ := rootS_pos (l := l) (r := (rootS l).1) (by rw [← h0])
      simp only [h0, if_true]
      exact rRow_l l g _ p0 p1 p3 h p4 hg l g 0 [] rfl rfl rfl (by omega)
    · simp only [h0, if_false]; exact Ev.now _
  · rw [if_neg h]
    simp only [show ¬ (l.length : Int) = (g.length : Int) by omega, if_false]
    exact Ev.now _

theorem rows_l (a : List Int) (ha : a.length ≤ 4611686018427387904) : ∀ (d i : Nat), i + d = a.length → Ev (fun k => heraldlaw09_rows.l0 k a a i) true := by
  intro d
  induction d with
  | zero =>
    intro i hi
    exact Ev.step (fun k => by simp only [heraldlaw09_rows.l0]; rw [if_neg (by omega)]) (Ev.now _)
  | succ d ih =>
    intro i hi
    refine Ev.step (fun k => ?_) (ih (i + 1) (by omega))
    simp only [heraldlaw09_rows.l0]
    rw [if_pos (by omega), if_pos (by omega), if_pos (by omega), if_pos trivial, wrap64_id' (by omega) (by omega)]; rfl
theorem rows_same (a : List Int) (ha : a.length ≤ 4611686018427387904) : Ev (fun k => heraldlaw09_rows.f k a a) true := by
  unfold heraldlaw09_rows.f; simp only [if_true]
  exact rows_l a ha a.length 0 (by omega)

theorem longs_l (a : List Int) (ha : a.length ≤ 4611686018427387904) : ∀ (d i : Nat), i + d = a.length → Ev (fun k => heraldlaw09_longs.l0 k a a i) true := by
  intro d
  induction d with
  | zero =>
    intro i hi
    exact Ev.step (fun k => by simp only [heraldlaw09_longs.l0]; rw [if_neg (by omega)]) (Ev.now _)
  | succ d ih =>
    intro i hi
    refine Ev.step (fun k => ?_) (ih (i + 1) (by omega))
    simp only [heraldlaw09_longs.l0]
    rw [if_pos (by omega), if_pos (by omega), if_pos (by omega), if_pos trivial, wrap64_id' (by omega) (by omega)]; rfl
theorem longs_same (a : List Int) (ha : a.length ≤ 4611686018427387904) : Ev (fun k => heraldlaw09_longs.f k a a) true := by
  unfold heraldlaw09_longs.f; simp only [if_true]
  exact longs_l a ha a.length 0 (by omega)

theorem awake_ev : Ev (fun k => heraldlaw09_awake.f k) true := Ev.of (k := 100) heraldlaw09_awake.mono (by decide +kernel)
end Go.Proofs.Ytgdbcknofcnfbaa.L
