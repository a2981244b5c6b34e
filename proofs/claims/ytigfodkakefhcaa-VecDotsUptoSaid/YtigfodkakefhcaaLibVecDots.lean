/- Lemmas on the printed functions: what each answers, in plain words of Lean; on condition that the numbers are of their kinds. -/
import Derived.Test.YtigfodkakefhcaaPx1
import Derived.Test.YtigfodkakefhcaaPx3
import Derived.Test.YtigfodkakefhcaaPx4
import Derived.Test.YtigfodkakefhcaaPx5
import Derived.Test.YtigfodkakefhcaaPx6
import Derived.Test.YtigfodkakefhcaaPx7
import Derived.Test.YtigfodkakefhcaaPx8
import Derived.Test.YtigfodkakefhcaaMath
namespace Go.Proofs.Ytigfodkakefhcaa.L
open Go Go.RowKit Go.Proofs.Ytigfodkakefhcaa.M Go.Proofs.Ytigfodkakefhcaa.P Go.Proofs.YtigfodkakefhcaaW.PrintWords Go.Proofs.YtigfodkakefhcaaW.PrintLast Go.Proofs.YtigfodkakefhcaaW.PrintMore
set_option linter.unusedVariables false
set_option linter.unusedSimpArgs false

def clamp (x lo hi : Int) : Int := if x < lo then lo else if x > hi then hi else x
def narrow (x : Int) : Int := clamp x (-127) 127
theorem narrow_in (x : Int) : -127 ≤ narrow x ∧ narrow x ≤ 127 := by
  unfold narrow clamp; repeat' split
  all_goals omega
theorem narrow_i8 (x : Int) : IntKind.i8.wrap (clamp x (-127) 127) = narrow x := by
  have h := narrow_in x
  exact i8wrap_id ⟨by unfold narrow at h; omega, by unfold narrow at h; omega⟩

theorem uwrap (n : Int) : IntKind.u64.wrap n = n % 18446744073709551616 := by
  have e2 : IntKind.bits .u64 = 64 := rfl
  have e3 : IntKind.signed .u64 = false := rfl
  simp only [IntKind.wrap, e2, e3, Bool.false_and, Bool.false_eq_true, if_false]
  rfl
theorem wrap64_def (n : Int) : wrap64 n = (n + 9223372036854775808) % 18446744073709551616 - 9223372036854775808 := by unfold wrap64; rfl
def addS (a b : Int) : Int × Bool := if -9223372036854775808 ≤ a + b ∧ a + b ≤ 9223372036854775807 then (a + b, true) else (0, false)
def mulS (a b : Int) : Int × Bool := if -9223372036854775808 ≤ a * b ∧ a * b ≤ 9223372036854775807 then (a * b, true) else (0, false)
theorem mulS_in {a b : Int} : I64 (mulS a b).1 := by
  unfold mulS; split
  · assumption
  · exact ⟨by decide, by decide⟩

def tot : List Int → Int → Int
  | [], s => s
  | x :: t, s => tot t (s + x)
def sumS (l : List Int) : Int × Bool := if -9223372036854775808 ≤ tot l 0 ∧ tot l 0 ≤ 9223372036854775807 then (tot l 0, true) else (0, false)
theorem and_mask (x : Int) : bits .and .i64 x 4294967295 = x % 4294967296 := by
  simp only [bits]
  have h : (BitVec.ofInt 64 x &&& BitVec.ofInt 64 4294967295).toNat = (x % 4294967296).toNat := by
    rw [BitVec.toNat_and]
    have e : (BitVec.ofInt 64 4294967295).toNat = 2 ^ 32 - 1 := rfl
    rw [e, Nat.and_two_pow_sub_one_eq_mod, BitVec.toNat_ofInt]
    omega
  show IntKind.i64.wrap ↑((BitVec.ofInt 64 x &&& BitVec.ofInt 64 4294967295).toNat) = x % 4294967296
  rw [h, IntKind.wrap_i64]; omega

/-- A number times x, so often. -/
def powGo (x : Int) : Nat → Int → Int × Bool
  | 0, out => (out, true)
  | m + 1, out => if -9223372036854775808 ≤ out * x ∧ out * x ≤ 9223372036854775807 then powGo x m (out * x) else (0, false)
def powS (x n : Int) : Int × Bool := if n < 0 then (0, false) else (if -1 ≤ x ∧ x ≤ 1 then (if n = 0 ∨ x = -1 ∧ n % 2 = 0 then (1, true) else (x, true)) else powGo x n.toNat 1)
theorem even_tmod (n : Int) : Int.tmod n 2 = 0 ↔ n % 2 = 0 := by
  have h := tmod_pos (a := n) (d := 2) (by omega)
  split at h <;> omega

def gcdS (a c : Int) : Int × Bool := if (Nat.gcd a.natAbs c.natAbs : Int) > 9223372036854775807 then (0, false) else ((Nat.gcd a.natAbs c.natAbs : Int), true)

/-- A loop by its places: what is known at each place, and what comes of the rest. -/
theorem ev_loop {β : Type} (F : Nat → Nat → Option β) (r : β) (n : Nat) (P : Nat → Prop) (h0 : P 0) (hend : P n → Ev (fun k => F k n) r) (hstep : ∀ i, i < n → P i → (P (i + 1) → Ev (fun k => F k (i + 1)) r) → Ev (fun k => F k i) r) : Ev (fun k => F k 0) r := by
  have key : ∀ d i, i + d = n → P i → Ev (fun k => F k i) r := by
    intro d
    induction d with
    | zero => intro i hi hp; obtain rfl : i = n := by omega
              exact hend hp
    | succ d ih => intro i hi hp; exact hstep i (by omega) hp (fun hp' => ih (i + 1) (by omega) hp')
  exact key n 0 (by omega) h0
theorem ev_succ {β : Type} {g : Nat → Option β} {r : β} (h : Ev (fun k => g (k + 1)) r) : Ev g r := Ev.step (fun _ => rfl) h
theorem rd_at {l : List Int} {i : Nat} (h : i < l.length) : rd l (i : Int) = l[i] := by
  unfold rd; simp [List.getD_eq_getElem?_getD, h]
theorem rd_all {p : Int → Prop} {l : List Int} (h : ∀ x ∈ l, p x) (h0 : p 0) (i : Int) : p (rd l i) := by
  unfold rd
  rw [List.getD_eq_getElem?_getD]
  by_cases c : i.toNat < l.length
  · rw [List.getElem?_eq_getElem c]; exact h _ (List.getElem_mem c)
  · rw [List.getElem?_eq_none (by omega)]; exact h0
theorem rd_i8 {l : List Int} (h : ∀ x ∈ l, I8 x) (i : Int) : I8 (rd l i) := rd_all h ⟨by omega, by omega⟩ i
theorem take_one {α : Type} {l : List α} {i : Nat} (h : i < l.length) : l.take (i + 1) = l.take i ++ [l[i]] := by
  rw [List.take_add_one]; simp [h]
theorem rng_snoc {α : Type} (g : Nat → α) (i : Nat) : (List.range (i + 1)).map g = (List.range i).map g ++ [g i] := by
  rw [List.range_succ]; simp
theorem set_mid0 {α : Type} (a : List α) (x v : α) (b : List α) (i : Nat) (hi : i = a.length) : (a ++ x :: b).set i v = (a ++ [v]) ++ b := by
  subst hi; simp
/-- One place of a list that is filled from the left. -/
theorem rng_set {g : Nat → Int} {n i : Nat} (h : i < n) : ((List.range i).map g ++ List.replicate (n - i) 0).set i (g i) = (List.range (i + 1)).map g ++ List.replicate (n - (i + 1)) 0 := by
  rw [show n - i = (n - (i + 1)) + 1 by omega, List.replicate_succ, set_mid0 _ _ _ _ _ (by simp), rng_snoc]
theorem rng_take {l : List Int} : ∀ {i : Nat}, i ≤ l.length → (List.range i).map (fun j : Nat => rd l j) = l.take i
  | 0, _ => by simp
  | i + 1, h => by rw [rng_snoc, rng_take (by omega), take_one (by omega), rd_at (by omega)]
theorem wone {a : Nat} (h : a ≤ 140737488351232) : wrap64 ((a : Int) + 1) = ((a + 1 : Nat) : Int) := by
  rw [wrap64_id' (by omega) (by omega)]; omega
theorem i8_mul {x y : Int} (hx : I8 x) (hy : I8 y) : -16384 ≤ x * y ∧ x * y ≤ 16384 := by
  unfold I8 at *
  have e : (x * y).natAbs = x.natAbs * y.natAbs := Int.natAbs_mul x y
  have : x.natAbs * y.natAbs ≤ 128 * 128 := Nat.mul_le_mul (by omega) (by omega)
  omega

def dotGo (a b : List Int) : Nat → Int
  | 0 => 0
  | i + 1 => dotGo a b i + rd a i * rd b i
def dotS (a b : List Int) : Int := dotGo a b a.length
theorem dotGo_in {a b : List Int} (ha : ∀ x ∈ a, I8 x) (hb : ∀ x ∈ b, I8 x) : ∀ i : Nat, -16384 * (i : Int) ≤ dotGo a b i ∧ dotGo a b i ≤ 16384 * (i : Int)
  | 0 => by simp [dotGo]
  | i + 1 => by
    have h := dotGo_in ha hb i
    have hm := i8_mul (rd_i8 ha i) (rd_i8 hb i)
    simp only [dotGo]; omega
theorem dot_wrap {a b : List Int} (ha : ∀ x ∈ a, I8 x) (hb : ∀ x ∈ b, I8 x) {i : Nat} (hi : i ≤ 1048576) : wrap64 (dotGo a b i + wrap64 (wrap64 (rd a i) * wrap64 (rd b i))) = dotGo a b (i + 1) := by
  have h := dotGo_in ha hb i
  have hm := i8_mul (rd_i8 ha i) (rd_i8 hb i)
  rw [wrap64_id (rd_i8 ha i).i64, wrap64_id (rd_i8 hb i).i64, wrap64_id' (x := rd a i * rd b i) (by omega) (by omega), wrap64_id' (by omega) (by omega)]
  rfl
/-- What a matrix may be wrong by. -/
def matrixS (n : Nat) (c : Int) : Int := if (n : Int) > 1048576 then 81 else if c < 1 then 80 else if (n : Int) % c = 0 then 0 else 80
theorem matrix_code (n : Nat) (c : Int) : (if (n : Int) > 1048576 then (some (81 : Int)) else (if c < 1 then (some 80) else (if c = 0 then (none) else (if ((n : Int) % c) = 0 then (some 0) else (some 80))))) = some (matrixS n c) := by
  unfold matrixS; repeat' split
  all_goals first | rfl | omega
theorem matrix_ok {n : Nat} {c : Int} (h : matrixS n c = 0) : n ≤ 1048576 ∧ 1 ≤ c ∧ (n : Int) % c = 0 := by
  unfold matrixS at h; split at h
  · omega
  · split at h
    · omega
    · split at h
      · exact ⟨by omega, by omega, by assumption⟩
      · omega
/-- The rows of a matrix: how many, and each one. -/
def rowOf (w : List Int) (n i : Nat) : List Int := (w.drop (i * n)).take n
theorem rowOf_len {w : List Int} {n i : Nat} (h : i < w.length / n) : (rowOf w n i).length = n := by
  unfold rowOf
  have h1 : (i + 1) * n ≤ w.length := Nat.le_trans (Nat.mul_le_mul_right n h) (Nat.div_mul_le_self _ _)
  rw [Nat.succ_mul] at h1
  simp; omega
theorem rowOf_mem {w : List Int} {n i : Nat} {x : Int} (h : x ∈ rowOf w n i) : x ∈ w := List.mem_of_mem_drop (List.mem_of_mem_take h)
theorem rowOf_cut {w : List Int} {n i : Nat} : (w.take (i * n + n)).drop (i * n) = rowOf w n i := by
  unfold rowOf; rw [List.drop_take]; congr 1; omega
def timesS (w : List Int) (c : Int) (x : List Int) : List Int × Int := if matrixS w.length c = 0 then (if (x.length : Int) = c then ((List.range (w.length / c.toNat)).map fun i => dotS (rowOf w c.toNat i) x, 0) else ([], 80)) else ([], matrixS w.length c)
theorem timesS_len (w : List Int) (c : Int) (x : List Int) : (timesS w c x).1.length ≤ w.length := by
  unfold timesS
  split
  · split
    · simp; exact Nat.div_le_self _ _
    · simp
  · simp

theorem matrix_f (w : List Int) (c : Int) : vec_matrix.f w c = some (matrixS w.length c) := by unfold vec_matrix.f; exact matrix_code _ _

theorem dot_f (a b : List Int) (ha : ∀ x ∈ a, I8 x) (hb : ∀ x ∈ b, I8 x) (hn : a.length ≤ 1048576) (hab : a.length ≤ b.length) : Ev (fun k => vec_dot.f k a b) (dotS a b) := by
  unfold vec_dot.f
  refine ev_loop (fun k i => vec_dot.l0 k b (dotGo a b i) a a.length i) _ a.length (fun _ => True) trivial (fun _ => ?_) (fun i hi _ ih => ?_)
  · exact Ev.step (f := fun _ => some (dotS a b)) (fun k => by simp only [vec_dot.l0]; rw [if_neg (by omega)]; rfl) (Ev.now _)
  · refine Ev.step (fun k => ?_) (ih trivial)
    simp only [vec_dot.l0]
    rw [if_pos (by omega), if_pos (by omega), if_pos (by omega), if_pos (by omega), dot_wrap ha hb (by omega), wrap64_id' (x := (i : Int) + 1) (by omega) (by omega)]
    rfl

theorem rDot_f (a b : List Int) (ha : ∀ x ∈ a, I8 x) (hb : ∀ x ∈ b, I8 x) : Ev (fun k => heraldref08_Dot.f k a b) (if a.length > 1048576 ∨ b.length > 1048576 then (0, 81) else if a.length = b.length then (dotS a b, 0) else (0, 80)) := by
  unfold heraldref08_Dot.f
  by_cases h1 : a.length > 1048576
  · simp only [show (a.length : Int) > 1048576 by omega, h1, true_or, if_true]
    exact Ev.step (fun k => by simp only [heraldref08_Dot.j0, if_true]) (Ev.now _)
  · by_cases h2 : b.length > 1048576
    · simp only [show ¬ (a.length : Int) > 1048576 by omega, show (b.length : Int) > 1048576 by omega, h2, or_true, if_true, if_false, decide_true]
      exact Ev.step (fun k => by simp only [heraldref08_Dot.j0, if_true]) (Ev.now _)
    · simp only [show ¬ (a.length : Int) > 1048576 by omega, show ¬ (b.length : Int) > 1048576 by omega, h1, h2, or_self, if_false, decide_false]
      by_cases h3 : a.length = b.length
      · rw [if_pos h3]
        refine Ev.step (f := fun k => heraldref08_Dot.l0 k a b 0 a.length 0) (fun k => by simp only [heraldref08_Dot.j0, Bool.false_eq_true, if_false]; rw [if_pos (by omega)]) ?_
        refine ev_loop (fun k i => heraldref08_Dot.l0 k a b (dotGo a b i) a.length i) _ a.length (fun _ => True) trivial (fun _ => ?_) (fun i hi _ ih => ?_)
        · exact Ev.step (f := fun _ => some (dotS a b, 0)) (fun k => by simp only [heraldref08_Dot.l0]; rw [if_neg (by omega)]; rfl) (Ev.now _)
        · refine Ev.step (fun k => ?_) (ih trivial)
          simp only [heraldref08_Dot.l0]
          rw [if_pos (by omega), if_pos (by omega), if_pos (by omega), if_pos (by omega), dot_wrap ha hb (by omega), wrap64_id' (x := (i : Int) + 1) (by omega) (by omega)]
          rfl
      · rw [if_neg h3]
        exact Ev.step (f := fun _ => some (0, 80)) (fun k => by simp only [heraldref08_Dot.j0, Bool.false_eq_true, if_false]; rw [if_neg (by omega)]) (Ev.now _)

theorem rowsDots_f (w x : List Int) (n : Nat) (hw : ∀ x ∈ w, I8 x) (hx : ∀ y ∈ x, I8 y) (hn : x.length = n) (hl : w.length ≤ 1048576) : ∀ j : Nat, j ≤ w.length / n → Ev (fun k => rowsDots k w x n j) ((List.range j).map fun i => dotS (rowOf w n i) x)
  | 0, _ => by simp only [rowsDots]; exact Ev.now _
  | j + 1, h => by
    simp only [rowsDots]
    refine Ev.bind (rowsDots_f w x n hw hx hn hl j (by omega)) ?_
    have hr := rowOf_len (w := w) (n := n) (i := j) (by omega)
    have hlen : (rowOf w n j).length ≤ w.length := by unfold rowOf; simp; omega
    refine Ev.bind (dot_f (rowOf w n j) x (fun y hy => hw y (rowOf_mem hy)) hx (by omega) (by omega)) ?_
    rw [rng_snoc]; exact Ev.now _
theorem Times_f (w : List Int) (c : Int) (x : List Int) (hw : ∀ x ∈ w, I8 x) (hx : ∀ y ∈ x, I8 y) : Ev (fun k => vec_Times.f k w c x) (timesS w c x) := by
  unfold vec_Times.f timesS
  rw [matrix_f]; simp only [Option.bind_some]
  by_cases h : matrixS w.length c = 0
  · obtain ⟨h1, h2, h3⟩ := matrix_ok h
    rw [if_pos h]; simp only [h, if_true]
    by_cases h4 : (x.length : Int) = c
    · simp only [h4, if_true]
      exact Ev.bind (rowsDots_f w x c.toNat hw hx (by omega) h1 _ (Nat.le_refl _)) (Ev.now _)
    · simp only [h4, if_false]; exact Ev.now _
  · rw [if_neg h]; simp only [h, if_false]; exact Ev.now _

theorem awake_ev : Ev (fun k => heraldlaw08_awake.f k) true := Ev.of (k := 100) heraldlaw08_awake.mono (by decide +kernel)

/-- Times of each row from place i on, collected; or the first one's error. -/
def batchGo (w : List Int) (c : Int) (xs : List (List Int)) : Nat → List (List Int) × Int
  | 0 => ([], 0)
  | i + 1 => if (batchGo w c xs i).2 = 0 then (if (timesS w c (xs.getD i [])).2 = 0 then ((batchGo w c xs i).1 ++ [(timesS w c (xs.getD i [])).1], 0) else ([], (timesS w c (xs.getD i [])).2)) else batchGo w c xs i
def batchS (w : List Int) (c : Int) (xs : List (List Int)) : List (List Int) × Int := if matrixS w.length c = 0 then batchGo w c xs xs.length else ([], matrixS w.length c)
theorem batchGo_len (w : List Int) (c : Int) (xs : List (List Int)) : ∀ i, (batchGo w c xs i).1.length ≤ i ∧ ∀ x ∈ (batchGo w c xs i).1, x.length ≤ w.length
  | 0 => by simp [batchGo]
  | i + 1 => by
    obtain ⟨h1, h2⟩ := batchGo_len w c xs i
    simp only [batchGo]
    split
    · split
      · refine ⟨by simp; omega, fun x hx => ?_⟩
        rcases List.mem_append.mp hx with h | h
        · exact h2 x h
        · simp at h; subst h; exact timesS_len _ _ _
      · simp
    · exact ⟨by omega, h2⟩
theorem batchGo_bad (w : List Int) (c : Int) (xs : List (List Int)) {i : Nat} (h : (batchGo w c xs i).2 ≠ 0) : ∀ d, batchGo w c xs (i + d) = batchGo w c xs i
  | 0 => rfl
  | d + 1 => by rw [← Nat.add_assoc, batchGo, batchGo_bad w c xs h d, if_neg h]
theorem batchS_len (w : List Int) (c : Int) (xs : List (List Int)) : (batchS w c xs).1.length ≤ xs.length ∧ ∀ x ∈ (batchS w c xs).1, x.length ≤ w.length := by
  unfold batchS; split
  · exact batchGo_len w c xs _
  · simp

def dotR (a b : List Int) : Int × Int := if a.length > 1048576 ∨ b.length > 1048576 then (0, 81) else if a.length = b.length then (dotS a b, 0) else (0, 80)
theorem dotGo_comm (a b : List Int) : ∀ i, dotGo a b i = dotGo b a i
  | 0 => rfl
  | i + 1 => by simp only [dotGo]; rw [dotGo_comm a b i, Int.mul_comm]
theorem dotR_comm (a b : List Int) : dotR b a = dotR a b := by
  unfold dotR dotS
  by_cases c1 : a.length > 1048576 ∨ b.length > 1048576
  · rw [if_pos c1, if_pos c1.symm]
  · rw [if_neg c1, if_neg (fun h => c1 h.symm)]
    by_cases c2 : a.length = b.length
    · rw [if_pos c2, if_pos c2.symm, dotGo_comm a b, c2]
    · rw [if_neg c2, if_neg (fun h => c2 h.symm)]
theorem rd_left {a c : List Int} {i : Nat} (h : i < a.length) : rd (a ++ c) i = rd a i := by
  rw [rd_at h, rd_at (by simp; omega), List.getElem_append_left h]
theorem rd_right (a c : List Int) (i : Nat) : rd (a ++ c) ((a.length + i : Nat) : Int) = rd c i := by
  unfold rd
  rw [List.getD_eq_getElem?_getD, List.getD_eq_getElem?_getD]
  simp only [Int.toNat_natCast]
  rw [List.getElem?_append_right (by omega), Nat.add_sub_cancel_left]
theorem dotGo_left (a b c d : List Int) (h : a.length = b.length) : ∀ i, i ≤ a.length → dotGo (a ++ c) (b ++ d) i = dotGo a b i
  | 0, _ => rfl
  | i + 1, hi => by
    simp only [dotGo]
    rw [dotGo_left a b c d h i (by omega), rd_left (by omega), rd_left (by omega)]
theorem dotGo_right (a b c d : List Int) (h : a.length = b.length) : ∀ i, dotGo (a ++ c) (b ++ d) (a.length + i) = dotGo a b a.length + dotGo c d i
  | 0 => by simp only [Nat.add_zero, dotGo, Int.add_zero]; exact dotGo_left a b c d h _ (Nat.le_refl _)
  | i + 1 => by
    show dotGo (a ++ c) (b ++ d) ((a.length + i) + 1) = _
    simp only [dotGo]
    rw [dotGo_right a b c d h i, rd_right a c i, h, rd_right b d i]
    omega
theorem dotS_app (a b c d : List Int) (h : a.length = b.length) : dotS (a ++ c) (b ++ d) = dotS a b + dotS c d := by
  unfold dotS
  rw [List.length_append, dotGo_right a b c d h]

def fitS (a b : List Int) : Int := if a.length > 1048576 ∨ b.length > 1048576 then 81 else if a.length = b.length then 0 else 80
theorem fit_ev (a b : List Int) : Ev (fun k => vec_fit_int8.f k [a, b]) (fitS a b) := by
  have e0 : rd_L1 [a, b] 0 = a := rfl
  have e1 : rd_L1 [a, b] 1 = b := rfl
  have w1 : wrap64 (0 + 1) = 1 := wrap64_id' (by decide) (by decide)
  have w2 : wrap64 (1 + 1) = 2 := wrap64_id' (by decide) (by decide)
  have l2 : (([a, b] : List (List Int)).length : Int) = 2 := rfl
  have p0 : (0 : Int) < 2 := by decide
  have p1 : (1 : Int) < 2 := by decide
  have p2 : ¬ (2 : Int) < 2 := by decide
  have p3 : (0 : Int) ≤ 0 := by decide
  have p4 : (0 : Int) ≤ 1 := by decide
  unfold vec_fit_int8.f fitS
  simp only [l2]
  refine ev_succ ?_
  simp only [vec_fit_int8.l0, e0, w1, l2, if_pos p0, if_pos p3]
  by_cases ca : a.length > 1048576
  · rw [if_pos (.inl ca)]
    simp only [if_pos (show (a.length : Int) > 1048576 by omega)]
    exact Ev.now _
  simp only [if_neg (show ¬ (a.length : Int) > 1048576 by omega)]
  refine ev_succ ?_
  simp only [vec_fit_int8.l0, e1, w2, l2, if_pos p1, if_pos p4]
  by_cases cb : b.length > 1048576
  · rw [if_pos (.inr cb)]
    simp only [if_pos (show (b.length : Int) > 1048576 by omega)]
    exact Ev.now _
  simp only [if_neg (show ¬ (b.length : Int) > 1048576 by omega)]
  rw [if_neg (fun h => h.elim ca cb)]
  refine ev_succ ?_
  simp only [vec_fit_int8.l0, if_neg p2, l2]
  refine ev_succ ?_
  simp only [vec_fit_int8.l1, e0, w1, l2, if_pos p0, if_pos p3, if_true]
  refine ev_succ ?_
  simp only [vec_fit_int8.l1, e0, e1, w2, l2, if_pos p0, if_pos p1, if_pos p4]
  by_cases c : a.length = b.length
  · rw [if_pos c]
    simp only [if_pos (show (b.length : Int) = a.length by omega)]
    refine ev_succ ?_
    simp only [vec_fit_int8.l1, if_neg p2]
    exact Ev.now _
  · rw [if_neg c]
    simp only [if_neg (show ¬ (b.length : Int) = a.length by omega)]
    exact Ev.now _

theorem Dot_f (a b : List Int) (ha : ∀ x ∈ a, I8 x) (hb : ∀ x ∈ b, I8 x) : Ev (fun k => vec_Dot.f k a b) (dotR a b) := by
  unfold vec_Dot.f
  refine Ev.bind (fit_ev a b) ?_
  unfold fitS dotR
  by_cases c1 : a.length > 1048576 ∨ b.length > 1048576
  · simp only [if_pos c1, if_neg (show ¬ (81 : Int) = 0 by decide)]
    exact Ev.now _
  · simp only [if_neg c1]
    by_cases c2 : a.length = b.length
    · simp only [if_pos c2, if_true]
      exact Ev.bind (dot_f a b ha hb (by omega) (by omega)) (Ev.now _)
    · simp only [if_neg c2, if_neg (show ¬ (80 : Int) = 0 by decide)]
      exact Ev.now _
end Go.Proofs.Ytigfodkakefhcaa.L
