/- Lemmas on the printed functions: what each answers, in plain words of Lean; on condition that the numbers are of their kinds. -/
import Derived.Test.YtigfodkakefhcaaPx1
import Derived.Test.YtigfodkakefhcaaPx2
import Derived.Test.YtigfodkakefhcaaPx3
import Derived.Test.YtigfodkakefhcaaMath
namespace Go.Proofs.Ytigfodkakefhcaa.L
open Go Go.RowKit Go.Proofs.Ytigfodkakefhcaa.M Go.Proofs.Ytigfodkakefhcaa.P Go.Proofs.YtigfodkakefhcaaW.PrintWords Go.Proofs.YtigfodkakefhcaaW.PrintLast Go.Proofs.YtigfodkakefhcaaW.PrintMore
set_option linter.unusedVariables false
set_option linter.unusedSimpArgs false

/-- A loop by its places: what is known at each place, and what comes of the rest. -/
theorem ev_loop {β : Type} (F : Nat → Nat → Option β) (r : β) (n : Nat) (P : Nat → Prop) (h0 : P 0) (hend : P n → Ev (fun k => F k n) r) (hstep : ∀ i, i < n → P i → (P (i + 1) → Ev (fun k => F k (i + 1)) r) → Ev (fun k => F k i) r) : Ev (fun k => F k 0) r := by
  have key : ∀ d i, i + d = n → P i → Ev (fun k => F k i) r := by
    intro d
    induction d with
    | zero => intro i hi hp; obtain rfl : i = n := by omega
              exact hend hp
    | succ d ih => intro i hi hp; exact hstep i (by omega) hp (fun hp' => ih (i + 1) (by omega) hp')
  exact key n 0 (by omega) h0
theorem ev_succ {β : Type} {g : Nat → Option β} {r : β} (h : Ev (fun k => g (k + 1)) r) : Ev g r := Ev.step (fun _ => rfl) h
theorem rd_at {l : List Int} {i : Nat} (h : i < l.length) : rd l (i : Int) = l[i] := by
  unfold rd; simp [List.getD_eq_getElem?_getD, h]
theorem rd_all {p : Int → Prop} {l : List Int} (h : ∀ x ∈ l, p x) (h0 : p 0) (i : Int) : p (rd l i) := by
  unfold rd
  rw [List.getD_eq_getElem?_getD]
  by_cases c : i.toNat < l.length
  · rw [List.getElem?_eq_getElem c]; exact h _ (List.getElem_mem c)
  · rw [List.getElem?_eq_none (by omega)]; exact h0
theorem rd_i8 {l : List Int} (h : ∀ x ∈ l, I8 x) (i : Int) : I8 (rd l i) := rd_all h ⟨by omega, by omega⟩ i
theorem take_one {α : Type} {l : List α} {i : Nat} (h : i < l.length) : l.take (i + 1) = l.take i ++ [l[i]] := by
  rw [List.take_add_one]; simp [h]
theorem rng_snoc {α : Type} (g : Nat → α) (i : Nat) : (List.range (i + 1)).map g = (List.range i).map g ++ [g i] := by
  rw [List.range_succ]; simp
theorem set_mid0 {α : Type} (a : List α) (x v : α) (b : List α) (i : Nat) (hi : i = a.length) : (a ++ x :: b).set i v = (a ++ [v]) ++ b := by
  subst hi; simp
/-- One place of a list that is filled from the left. -/
theorem rng_set {g : Nat → Int} {n i : Nat} (h : i < n) : ((List.range i).map g ++ List.replicate (n - i) 0).set i (g i) = (List.range (i + 1)).map g ++ List.replicate (n - (i + 1)) 0 := by
  rw [show n - i = (n - (i + 1)) + 1 by omega, List.replicate_succ, set_mid0 _ _ _ _ _ (by simp), rng_snoc]
theorem rng_take {l : List Int} : ∀ {i : Nat}, i ≤ l.length → (List.range i).map (fun j : Nat => rd l j) = l.take i
  | 0, _ => by simp
  | i + 1, h => by rw [rng_snoc, rng_take (by omega), take_one (by omega), rd_at (by omega)]
theorem i8_mul {x y : Int} (hx : I8 x) (hy : I8 y) : -16384 ≤ x * y ∧ x * y ≤ 16384 := by
  unfold I8 at *
  have e : (x * y).natAbs = x.natAbs * y.natAbs := Int.natAbs_mul x y
  have : x.natAbs * y.natAbs ≤ 128 * 128 := Nat.mul_le_mul (by omega) (by omega)
  omega
def dotGo (a b : List Int) : Nat → Int
  | 0 => 0
  | i + 1 => dotGo a b i + rd a i * rd b i
def dotS (a b : List Int) : Int := dotGo a b a.length
theorem dotGo_in {a b : List Int} (ha : ∀ x ∈ a, I8 x) (hb : ∀ x ∈ b, I8 x) : ∀ i : Nat, -16384 * (i : Int) ≤ dotGo a b i ∧ dotGo a b i ≤ 16384 * (i : Int)
  | 0 => by simp [dotGo]
  | i + 1 => by
    have h := dotGo_in ha hb i
    have hm := i8_mul (rd_i8 ha i) (rd_i8 hb i)
    simp only [dotGo]; omega
theorem dot_wrap {a b : List Int} (ha : ∀ x ∈ a, I8 x) (hb : ∀ x ∈ b, I8 x) {i : Nat} (hi : i ≤ 1048576) : wrap64 (dotGo a b i + wrap64 (wrap64 (rd a i) * wrap64 (rd b i))) = dotGo a b (i + 1) := by
  have h := dotGo_in ha hb i
  have hm := i8_mul (rd_i8 ha i) (rd_i8 hb i)
  rw [wrap64_id (rd_i8 ha i).i64, wrap64_id (rd_i8 hb i).i64, wrap64_id' (x := rd a i * rd b i) (by omega) (by omega), wrap64_id' (by omega) (by omega)]
  rfl
/-- What a matrix may be wrong by. -/
def matrixS (n : Nat) (c : Int) : Int := if (n : Int) > 1048576 then 81 else if c < 1 then 80 else if (n : Int) % c = 0 then 0 else 80
theorem matrix_code (n : Nat) (c : Int) : (if (n : Int) > 1048576 then (some (81 : Int)) else (if c < 1 then (some 80) else (if c = 0 then (none) else (if ((n : Int) % c) = 0 then (some 0) else (some 80))))) = some (matrixS n c) := by
  unfold matrixS; repeat' split
  all_goals first | rfl | omega
theorem matrix_ok {n : Nat} {c : Int} (h : matrixS n c = 0) : n ≤ 1048576 ∧ 1 ≤ c ∧ (n : Int) % c = 0 := by
  unfold matrixS at h; split at h
  · omega
  · split at h
    · omega
    · split at h
      · exact ⟨by omega, by omega, by assumption⟩
      · omega
/-- The rows of a matrix: how many, and each one. -/
def rowOf (w : List Int) (n i : Nat) : List Int := (w.drop (i * n)).take n
theorem rowOf_len {w : List Int} {n i : Nat} (h : i < w.length / n) : (rowOf w n i).length = n := by
  unfold rowOf
  have h1 : (i + 1) * n ≤ w.length := Nat.le_trans (Nat.mul_le_mul_right n h) (Nat.div_mul_le_self _ _)
  rw [Nat.succ_mul] at h1
  simp; omega
theorem rowOf_mem {w : List Int} {n i : Nat} {x : Int} (h : x ∈ rowOf w n i) : x ∈ w := List.mem_of_mem_drop (List.mem_of_mem_take h)
theorem rowOf_cut {w : List Int} {n i : Nat} : (w.take (i * n + n)).drop (i * n) = rowOf w n i := by
  unfold rowOf; rw [List.drop_take]; congr 1; omega
def timesS (w : List Int) (c : Int) (x : List Int) : List Int × Int := if matrixS w.length c = 0 then (if (x.length : Int) = c then ((List.range (w.length / c.toNat)).map fun i => dotS (rowOf w c.toNat i) x, 0) else ([], 80)) else ([], matrixS w.length c)
theorem timesS_len (w : List Int) (c : Int) (x : List Int) : (timesS w c x).1.length ≤ w.length := by
  unfold timesS
  split
  · split
    · simp; exact Nat.div_le_self _ _
    · simp
  · simp

theorem matrix_f (w : List Int) (c : Int) : vec_matrix.f w c = some (matrixS w.length c) := by unfold vec_matrix.f; exact matrix_code _ _

theorem rMatrix_f (w : List Int) (c : Int) : heraldref08_Matrix.f w c = some (matrixS w.length c) := by unfold heraldref08_Matrix.f; exact matrix_code _ _

theorem dot_f (a b : List Int) (ha : ∀ x ∈ a, I8 x) (hb : ∀ x ∈ b, I8 x) (hn : a.length ≤ 1048576) (hab : a.length ≤ b.length) : Ev (fun k => vec_dot.f k a b) (dotS a b) := by
  unfold vec_dot.f
  refine ev_loop (fun k i => vec_dot.l0 k b (dotGo a b i) a a.length i) _ a.length (fun _ => True) trivial (fun _ => ?_) (fun i hi _ ih => ?_)
  · exact Ev.step (f := fun _ => some (dotS a b)) (fun k => by simp only [vec_dot.l0]; rw [if_neg (by omega)]; rfl) (Ev.now _)
  · refine Ev.step (fun k => ?_) (ih trivial)
    simp only [vec_dot.l0]
    rw [if_pos (by omega), if_pos (by omega), if_pos (by omega), if_pos (by omega), dot_wrap ha hb (by omega), wrap64_id' (x := (i : Int) + 1) (by omega) (by omega)]
    rfl

theorem rDot_f (a b : List Int) (ha : ∀ x ∈ a, I8 x) (hb : ∀ x ∈ b, I8 x) : Ev (fun k => heraldref08_Dot.f k a b) (if a.length > 1048576 ∨ b.length > 1048576 then (0, 81) else if a.length = b.length then (dotS a b, 0) else (0, 80)) := by
  unfold heraldref08_Dot.f
  by_cases h1 : a.length > 1048576
  · simp only [show (a.length : Int) > 1048576 by omega, h1, true_or, if_true]
    exact Ev.step (fun k => by simp only [heraldref08_Dot.j0, if_true]) (Ev.now _)
  · by_cases h2 : b.length > 1048576
    · simp only [show ¬ (a.length : Int) > 1048576 by omega, show (b.length : Int) > 1048576 by omega, h2, or_true, if_true, if_false, decide_true]
      exact Ev.step (fun k => by simp only [heraldref08_Dot.j0, if_true]) (Ev.now _)
    · simp only [show ¬ (a.length : Int) > 1048576 by omega, show ¬ (b.length : Int) > 1048576 by omega, h1, h2, or_self, if_false, decide_false]
      by_cases h3 : a.length = b.length
      · rw [if_pos h3]
        refine Ev.step (f := fun k => heraldref08_Dot.l0 k a b 0 a.length 0) (fun k => by simp only [heraldref08_Dot.j0, Bool.false_eq_true, if_false]; rw [if_pos (by omega)]) ?_
        refine ev_loop (fun k i => heraldref08_Dot.l0 k a b (dotGo a b i) a.length i) _ a.length (fun _ => True) trivial (fun _ => ?_) (fun i hi _ ih => ?_)
        · exact Ev.step (f := fun _ => some (dotS a b, 0)) (fun k => by simp only [heraldref08_Dot.l0]; rw [if_neg (by omega)]; rfl) (Ev.now _)
        · refine Ev.step (fun k => ?_) (ih trivial)
          simp only [heraldref08_Dot.l0]
          rw [if_pos (by omega), if_pos (by omega), if_pos (by omega), if_pos (by omega), dot_wrap ha hb (by omega), wrap64_id' (x := (i : Int) + 1) (by omega) (by omega)]
          rfl
      · rw [if_neg h3]
        exact Ev.step (f := fun _ => some (0, 80)) (fun k => by simp only [heraldref08_Dot.j0, Bool.false_eq_true, if_false]; rw [if_neg (by omega)]) (Ev.now _)

theorem rowsDots_f (w x : List Int) (n : Nat) (hw : ∀ x ∈ w, I8 x) (hx : ∀ y ∈ x, I8 y) (hn : x.length = n) (hl : w.length ≤ 1048576) : ∀ j : Nat, j ≤ w.length / n → Ev (fun k => rowsDots k w x n j) ((List.range j).map fun i => dotS (rowOf w n i) x)
  | 0, _ => by simp only [rowsDots]; exact Ev.now _
  | j + 1, h => by
    simp only [rowsDots]
    refine Ev.bind (rowsDots_f w x n hw hx hn hl j (by omega)) ?_
    have hr := rowOf_len (w := w) (n := n) (i := j) (by omega)
    have hlen : (rowOf w n j).length ≤ w.length := by unfold rowOf; simp; omega
    refine Ev.bind (dot_f (rowOf w n j) x (fun y hy => hw y (rowOf_mem hy)) hx (by omega) (by omega)) ?_
    rw [rng_snoc]; exact Ev.now _
theorem Times_f (w : List Int) (c : Int) (x : List Int) (hw : ∀ x ∈ w, I8 x) (hx : ∀ y ∈ x, I8 y) : Ev (fun k => vec_Times.f k w c x) (timesS w c x) := by
  unfold vec_Times.f timesS
  rw [matrix_f]; simp only [Option.bind_some]
  by_cases h : matrixS w.length c = 0
  · obtain ⟨h1, h2, h3⟩ := matrix_ok h
    rw [if_pos h]; simp only [h, if_true]
    by_cases h4 : (x.length : Int) = c
    · simp only [h4, if_true]
      exact Ev.bind (rowsDots_f w x c.toNat hw hx (by omega) h1 _ (Nat.le_refl _)) (Ev.now _)
    · simp only [h4, if_false]; exact Ev.now _
  · rw [if_neg h]; simp only [h, if_false]; exact Ev.now _

theorem rTimes_f (w : List Int) (c : Int) (x : List Int) (hw : ∀ x ∈ w, I8 x) (hx : ∀ y ∈ x, I8 y) : Ev (fun k => heraldref08_Times.f k w c x) (timesS w c x) := by
  unfold heraldref08_Times.f timesS
  rw [rMatrix_f]; simp only [Option.bind_some]
  by_cases h : matrixS w.length c = 0
  · obtain ⟨h1, h2, h3⟩ := matrix_ok h
    rw [if_pos h]; simp only [h, if_true]
    by_cases h4 : (x.length : Int) = c
    · simp only [h4, if_true]
      obtain ⟨n, rfl⟩ : ∃ n : Nat, c = n := ⟨c.toNat, by omega⟩
      simp only [Int.toNat_natCast]
      have hT : w.length / n * n = w.length := Nat.div_mul_cancel (Nat.dvd_of_mod_eq_zero (by omega))
      have hq : w.length / n ≤ w.length := Nat.div_le_self _ _
      have := ev_loop (fun k i => heraldref08_Times.l0 k w n x ((List.range i).map fun i => dotS (rowOf w n i) x) ((i * n : Nat) : Int)) ((List.range (w.length / n)).map fun i => dotS (rowOf w n i) x, 0) (w.length / n) (fun _ => True) trivial (fun _ => ?_) (fun i hi _ ih => ?_)
      · simpa using this
      · refine Ev.step (f := fun _ => some _) (fun k => ?_) (Ev.now _)
        simp only [heraldref08_Times.l0]; rw [if_neg (by omega)]
      · have hlt : (i + 1) * n ≤ w.length := by rw [← hT]; exact Nat.mul_le_mul_right n hi
        have e : (i + 1) * n = i * n + n := Nat.succ_mul i n
        have hr := rowOf_len (w := w) (n := n) hi
        refine Ev.step (f := fun k => (heraldref08_Dot.f k (rowOf w n i) x).bind fun bt => heraldref08_Times.l0 k w n x (((List.range i).map fun i => dotS (rowOf w n i) x) ++ [bt.1]) (((i + 1) * n : Nat) : Int)) (fun k => ?_) ?_
        · simp only [heraldref08_Times.l0]
          rw [if_pos (by omega), if_pos (by omega), wrap64_id' (x := ((i * n : Nat) : Int) + (n : Int)) (by omega) (by omega), if_pos (by omega), if_pos (by omega)]
          rw [show (((i * n : Nat) : Int) + (n : Int)).toNat = i * n + n by omega, Int.toNat_natCast, rowOf_cut]
          simp only [List.length_map, List.length_range, show i < 17592186044416 by omega, if_true]
          rw [show ((i * n : Nat) : Int) + (n : Int) = (((i + 1) * n : Nat) : Int) by omega]
        · refine Ev.bind (rDot_f (rowOf w n i) x (fun y hy => hw y (rowOf_mem hy)) hx) ?_
          rw [if_neg (by omega), if_pos (by omega)]
          have := ih trivial
          rw [rng_snoc] at this; exact this
    · simp only [h4, if_false]; exact Ev.now _
  · rw [if_neg h]; simp only [h, if_false]; exact Ev.now _

theorem same64_ev (a : List Int) (ha : a.length ≤ 4611686018427387904) : Ev (fun k => heraldlaw08_same_int64.f k a a) true := by
  unfold heraldlaw08_same_int64.f; simp only [if_true]
  refine ev_loop (fun k i => heraldlaw08_same_int64.l0 k a a a.length i) _ a.length (fun _ => True) trivial (fun _ => ?_) (fun i hi _ ih => ?_)
  · exact Ev.step (fun k => by simp only [heraldlaw08_same_int64.l0]; rw [if_neg (by omega)]) (Ev.now _)
  · refine Ev.step (fun k => ?_) (ih trivial)
    simp only [heraldlaw08_same_int64.l0]
    rw [if_pos (by omega), if_pos (by omega), if_pos (by omega), if_pos (by omega), if_pos trivial, wrap64_id' (by omega) (by omega)]; rfl

theorem same8_ev (a : List Int) (ha : a.length ≤ 4611686018427387904) : Ev (fun k => heraldlaw08_same_int8.f k a a) true := by
  unfold heraldlaw08_same_int8.f; simp only [if_true]
  refine ev_loop (fun k i => heraldlaw08_same_int8.l0 k a a a.length i) _ a.length (fun _ => True) trivial (fun _ => ?_) (fun i hi _ ih => ?_)
  · exact Ev.step (fun k => by simp only [heraldlaw08_same_int8.l0]; rw [if_neg (by omega)]) (Ev.now _)
  · refine Ev.step (fun k => ?_) (ih trivial)
    simp only [heraldlaw08_same_int8.l0]
    rw [if_pos (by omega), if_pos (by omega), if_pos (by omega), if_pos (by omega), if_pos trivial, wrap64_id' (by omega) (by omega)]; rfl

theorem rows64_ev (a : List (List Int)) (ha : a.length ≤ 4611686018427387904) (he : ∀ x ∈ a, x.length ≤ 4611686018427387904) : Ev (fun k => heraldlaw08_rows_int64.f k a a) true := by
  unfold heraldlaw08_rows_int64.f; simp only [if_true]
  refine ev_loop (fun k i => heraldlaw08_rows_int64.l0 k a a a.length i) _ a.length (fun _ => True) trivial (fun _ => ?_) (fun i hi _ ih => ?_)
  · exact Ev.step (fun k => by simp only [heraldlaw08_rows_int64.l0]; rw [if_neg (by omega)]) (Ev.now _)
  · refine Ev.step (f := fun k => (heraldlaw08_same_int64.f k (rd_L3 a i) (rd_L3 a i)).bind fun t => if t = true then heraldlaw08_rows_int64.l0 k a a a.length ((i + 1 : Nat) : Int) else some false) (fun k => ?_) ?_
    · simp only [heraldlaw08_rows_int64.l0]
      rw [if_pos (by omega), if_pos (by omega), if_pos (by omega), if_pos (by omega), wrap64_id' (by omega) (by omega)]; rfl
    · refine Ev.bind (same64_ev _ ?_) ?_
      · have e : rd_L3 a (i : Int) = a[i] := by unfold rd_L3; simp [List.getD_eq_getElem?_getD, hi]
        rw [e]; exact he _ (List.getElem_mem hi)
      · simp only [if_true]; exact ih trivial

theorem rows8_ev (a : List (List Int)) (ha : a.length ≤ 4611686018427387904) (he : ∀ x ∈ a, x.length ≤ 4611686018427387904) : Ev (fun k => heraldlaw08_rows_int8.f k a a) true := by
  unfold heraldlaw08_rows_int8.f; simp only [if_true]
  refine ev_loop (fun k i => heraldlaw08_rows_int8.l0 k a a a.length i) _ a.length (fun _ => True) trivial (fun _ => ?_) (fun i hi _ ih => ?_)
  · exact Ev.step (fun k => by simp only [heraldlaw08_rows_int8.l0]; rw [if_neg (by omega)]) (Ev.now _)
  · refine Ev.step (f := fun k => (heraldlaw08_same_int8.f k (rd_L1 a i) (rd_L1 a i)).bind fun t => if t = true then heraldlaw08_rows_int8.l0 k a a a.length ((i + 1 : Nat) : Int) else some false) (fun k => ?_) ?_
    · simp only [heraldlaw08_rows_int8.l0]
      rw [if_pos (by omega), if_pos (by omega), if_pos (by omega), if_pos (by omega), wrap64_id' (by omega) (by omega)]; rfl
    · refine Ev.bind (same8_ev _ ?_) ?_
      · have e : rd_L1 a (i : Int) = a[i] := by unfold rd_L1; simp [List.getD_eq_getElem?_getD, hi]
        rw [e]; exact he _ (List.getElem_mem hi)
      · simp only [if_true]; exact ih trivial

theorem awake_ev : Ev (fun k => heraldlaw08_awake.f k) true := Ev.of (k := 100) heraldlaw08_awake.mono (by decide +kernel)

theorem copied_ev (l : List (List Int)) (hl : l.length < 5864062014805) (he : ∀ x ∈ l, x.length ≤ 140737488351232) : Ev (fun k => heraldlaw08_copied.f k l) l := by
  unfold heraldlaw08_copied.f
  have := ev_loop (fun k i => heraldlaw08_copied.l0 k (l.take i) l l.length i) l l.length (fun _ => True) trivial (fun _ => ?_) (fun i hi _ ih => ?_)
  · simpa using this
  · exact Ev.step (f := fun _ => some l) (fun k => by simp only [heraldlaw08_copied.l0]; rw [if_neg (by omega), List.take_length]) (Ev.now _)
  · refine Ev.step (fun k => ?_) (ih trivial)
    have e : rd_L1 l (i : Int) = l[i] := by unfold rd_L1; simp [List.getD_eq_getElem?_getD, hi]
    have := he _ (List.getElem_mem hi)
    simp only [heraldlaw08_copied.l0]
    rw [if_pos (by omega), if_pos (by omega), if_pos (by omega)]
    simp only [Option.bind_some, e, List.length_nil, Nat.zero_add, List.nil_append, List.length_take]
    rw [if_pos (by omega), if_pos (by omega), wrap64_id' (by omega) (by omega), ← take_one hi]; rfl

/-- Times of each row from place i on, collected; or the first one's error. -/
def batchGo (w : List Int) (c : Int) (xs : List (List Int)) : Nat → List (List Int) × Int
  | 0 => ([], 0)
  | i + 1 => if (batchGo w c xs i).2 = 0 then (if (timesS w c (xs.getD i [])).2 = 0 then ((batchGo w c xs i).1 ++ [(timesS w c (xs.getD i [])).1], 0) else ([], (timesS w c (xs.getD i [])).2)) else batchGo w c xs i
def batchS (w : List Int) (c : Int) (xs : List (List Int)) : List (List Int) × Int := if matrixS w.length c = 0 then batchGo w c xs xs.length else ([], matrixS w.length c)
theorem batchGo_len (w : List Int) (c : Int) (xs : List (List Int)) : ∀ i, (batchGo w c xs i).1.length ≤ i ∧ ∀ x ∈ (batchGo w c xs i).1, x.length ≤ w.length
  | 0 => by simp [batchGo]
  | i + 1 => by
    obtain ⟨h1, h2⟩ := batchGo_len w c xs i
    simp only [batchGo]
    split
    · split
      · refine ⟨by simp; omega, fun x hx => ?_⟩
        rcases List.mem_append.mp hx with h | h
        · exact h2 x h
        · simp at h; subst h; exact timesS_len _ _ _
      · simp
    · exact ⟨by omega, h2⟩
theorem batchGo_bad (w : List Int) (c : Int) (xs : List (List Int)) {i : Nat} (h : (batchGo w c xs i).2 ≠ 0) : ∀ d, batchGo w c xs (i + d) = batchGo w c xs i
  | 0 => rfl
  | d + 1 => by rw [← Nat.add_assoc, batchGo, batchGo_bad w c xs h d, if_neg h]
theorem batchS_len (w : List Int) (c : Int) (xs : List (List Int)) : (batchS w c xs).1.length ≤ xs.length ∧ ∀ x ∈ (batchS w c xs).1, x.length ≤ w.length := by
  unfold batchS; split
  · exact batchGo_len w c xs _
  · simp

theorem Batch_f (w : List Int) (c : Int) (xs : List (List Int)) (hw : ∀ x ∈ w, I8 x) (hx : ∀ x ∈ xs, ∀ y ∈ x, I8 y) (hl : xs.length < 5864062014805) : Ev (fun k => vec_Batch.f k w c xs) (batchS w c xs) := by
  unfold vec_Batch.f batchS
  rw [matrix_f]; simp only [Option.bind_some]
  by_cases h : matrixS w.length c = 0
  · rw [if_pos h]; simp only [h, if_true]
    refine ev_loop (fun k i => vec_Batch.l0 k w c (batchGo w c xs i).1 xs xs.length i) _ xs.length (fun i => (batchGo w c xs i).2 = 0) rfl (fun hp => ?_) (fun i hi hp ih => ?_)
    · refine Ev.step (f := fun _ => some (batchGo w c xs xs.length)) (fun k => ?_) (Ev.now _)
      simp only [vec_Batch.l0]; rw [if_neg (by omega), ← hp]
    · have e : rd_L1 xs (i : Int) = xs.getD i [] := by unfold rd_L1; simp
      have hm : ∀ y ∈ xs.getD i [], I8 y := by
        rw [List.getD_eq_getElem?_getD, List.getElem?_eq_getElem hi]; exact hx _ (List.getElem_mem hi)
      have hlen := (batchGo_len w c xs i).1
      refine Ev.step (f := fun k => (vec_Times.f k w c (xs.getD i [])).bind fun bt => if bt.2 = 0 then vec_Batch.l0 k w c ((batchGo w c xs i).1 ++ [bt.1]) xs xs.length ((i + 1 : Nat) : Int) else some (([] : List (List Int)), bt.2)) (fun k => ?_) ?_
      · simp only [vec_Batch.l0, e]
        rw [if_pos (by omega), if_pos (by omega), if_pos (by omega), wrap64_id' (by omega) (by omega)]
        simp only [show (batchGo w c xs i).1.length < 5864062014805 by omega, if_true]; rfl
      · refine Ev.bind (Times_f _ _ _ hw hm) ?_
        by_cases h0 : (timesS w c (xs.getD i [])).2 = 0
        · have e2 : batchGo w c xs (i + 1) = ((batchGo w c xs i).1 ++ [(timesS w c (xs.getD i [])).1], 0) := by simp only [batchGo]; rw [if_pos hp, if_pos h0]
          simp only [h0, if_true]
          have := ih (by rw [e2])
          rw [e2] at this; exact this
        · have e2 : batchGo w c xs (i + 1) = ([], (timesS w c (xs.getD i [])).2) := by simp only [batchGo]; rw [if_pos hp, if_neg h0]
          have e3 := batchGo_bad w c xs (i := i + 1) (by rw [e2]; exact h0) (xs.length - (i + 1))
          rw [show i + 1 + (xs.length - (i + 1)) = xs.length by omega] at e3
          simp only [h0, if_false]; rw [e3, e2]; exact Ev.now _
  · rw [if_neg h]; simp only [h, if_false]; exact Ev.now _

theorem rBatch_f (w : List Int) (c : Int) (xs : List (List Int)) (hw : ∀ x ∈ w, I8 x) (hx : ∀ x ∈ xs, ∀ y ∈ x, I8 y) (hl : xs.length < 5864062014805) : Ev (fun k => heraldref08_Batch.f k w c xs) (batchS w c xs) := by
  unfold heraldref08_Batch.f batchS
  rw [rMatrix_f]; simp only [Option.bind_some]
  by_cases h : matrixS w.length c = 0
  · rw [if_pos h]; simp only [h, if_true]
    refine ev_loop (fun k i => heraldref08_Batch.l0 k w c (batchGo w c xs i).1 xs xs.length i) _ xs.length (fun i => (batchGo w c xs i).2 = 0) rfl (fun hp => ?_) (fun i hi hp ih => ?_)
    · refine Ev.step (f := fun _ => some (batchGo w c xs xs.length)) (fun k => ?_) (Ev.now _)
      simp only [heraldref08_Batch.l0]; rw [if_neg (by omega), ← hp]
    · have e : rd_L1 xs (i : Int) = xs.getD i [] := by unfold rd_L1; simp
      have hm : ∀ y ∈ xs.getD i [], I8 y := by
        rw [List.getD_eq_getElem?_getD, List.getElem?_eq_getElem hi]; exact hx _ (List.getElem_mem hi)
      have hlen := (batchGo_len w c xs i).1
      refine Ev.step (f := fun k => (heraldref08_Times.f k w c (xs.getD i [])).bind fun bt => if bt.2 = 0 then heraldref08_Batch.l0 k w c ((batchGo w c xs i).1 ++ [bt.1]) xs xs.length ((i + 1 : Nat) : Int) else some (([] : List (List Int)), bt.2)) (fun k => ?_) ?_
      · simp only [heraldref08_Batch.l0, e]
        rw [if_pos (by omega), if_pos (by omega), if_pos (by omega), wrap64_id' (by omega) (by omega)]
        simp only [show (batchGo w c xs i).1.length < 5864062014805 by omega, if_true]; rfl
      · refine Ev.bind (rTimes_f _ _ _ hw hm) ?_
        by_cases h0 : (timesS w c (xs.getD i [])).2 = 0
        · have e2 : batchGo w c xs (i + 1) = ((batchGo w c xs i).1 ++ [(timesS w c (xs.getD i [])).1], 0) := by simp only [batchGo]; rw [if_pos hp, if_pos h0]
          simp only [h0, if_true]
          have := ih (by rw [e2])
          rw [e2] at this; exact this
        · have e2 : batchGo w c xs (i + 1) = ([], (timesS w c (xs.getD i [])).2) := by simp only [batchGo]; rw [if_pos hp, if_neg h0]
          have e3 := batchGo_bad w c xs (i := i + 1) (by rw [e2]; exact h0) (xs.length - (i + 1))
          rw [show i + 1 + (xs.length - (i + 1)) = xs.length by omega] at e3
          simp only [h0, if_false]; rw [e3, e2]; exact Ev.now _
  · rw [if_neg h]; simp only [h, if_false]; exact Ev.now _
end Go.Proofs.Ytigfodkakefhcaa.L
