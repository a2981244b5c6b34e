/- Lemmas on the printed functions: what each answers, in plain words of Lean; on condition that the numbers are of their kinds. -/
import Derived.Test.YtigfodkakefhcaaPx1
import Derived.Test.YtigfodkakefhcaaPx3
import Derived.Test.YtigfodkakefhcaaPx4
import Derived.Test.YtigfodkakefhcaaPx5
import Derived.Test.YtigfodkakefhcaaPx6
import Derived.Test.YtigfodkakefhcaaPx7
import Derived.Test.YtigfodkakefhcaaPx8
import Derived.Test.YtigfodkakefhcaaMath
namespace Go.Proofs.Ytigfodkakefhcaa.L
open Go Go.RowKit Go.Proofs.Ytigfodkakefhcaa.M Go.Proofs.Ytigfodkakefhcaa.P Go.Proofs.YtigfodkakefhcaaW.PrintWords Go.Proofs.YtigfodkakefhcaaW.PrintLast Go.Proofs.YtigfodkakefhcaaW.PrintMore
set_option linter.unusedVariables false
set_option linter.unusedSimpArgs false

/-- A loop by its places: what is known at each place, and what comes of the rest. -/
theorem ev_loop {β : Type} (F : Nat → Nat → Option β) (r : β) (n : Nat) (P : Nat → Prop) (h0 : P 0) (hend : P n → Ev (fun k => F k n) r) (hstep : ∀ i, i < n → P i → (P (i + 1) → Ev (fun k => F k (i + 1)) r) → Ev (fun k => F k i) r) : Ev (fun k => F k 0) r := by
  have key : ∀ d i, i + d = n → P i → Ev (fun k => F k i) r := by
    intro d
    induction d with
    | zero => intro i hi hp; obtain rfl : i = n := by omega
              exact hend hp
    | succ d ih => intro i hi hp; exact hstep i (by omega) hp (fun hp' => ih (i + 1) (by omega) hp')
  exact key n 0 (by omega) h0
theorem ev_succ {β : Type} {g : Nat → Option β} {r : β} (h : Ev (fun k => g (k + 1)) r) : Ev g r := Ev.step (fun _ => rfl) h
theorem rd_at {l : List Int} {i : Nat} (h : i < l.length) : rd l (i : Int) = l[i] := by
  unfold rd; simp [List.getD_eq_getElem?_getD, h]
theorem rd_all {p : Int → Prop} {l : List Int} (h : ∀ x ∈ l, p x) (h0 : p 0) (i : Int) : p (rd l i) := by
  unfold rd
  rw [List.getD_eq_getElem?_getD]
  by_cases c : i.toNat < l.length
  · rw [List.getElem?_eq_getElem c]; exact h _ (List.getElem_mem c)
  · rw [List.getElem?_eq_none (by omega)]; exact h0
theorem rd_i8 {l : List Int} (h : ∀ x ∈ l, I8 x) (i : Int) : I8 (rd l i) := rd_all h ⟨by omega, by omega⟩ i
theorem take_one {α : Type} {l : List α} {i : Nat} (h : i < l.length) : l.take (i + 1) = l.take i ++ [l[i]] := by
  rw [List.take_add_one]; simp [h]
theorem rng_snoc {α : Type} (g : Nat → α) (i : Nat) : (List.range (i + 1)).map g = (List.range i).map g ++ [g i] := by
  rw [List.range_succ]; simp
theorem set_mid0 {α : Type} (a : List α) (x v : α) (b : List α) (i : Nat) (hi : i = a.length) : (a ++ x :: b).set i v = (a ++ [v]) ++ b := by
  subst hi; simp
/-- One place of a list that is filled from the left. -/
theorem rng_set {g : Nat → Int} {n i : Nat} (h : i < n) : ((List.range i).map g ++ List.replicate (n - i) 0).set i (g i) = (List.range (i + 1)).map g ++ List.replicate (n - (i + 1)) 0 := by
  rw [show n - i = (n - (i + 1)) + 1 by omega, List.replicate_succ, set_mid0 _ _ _ _ _ (by simp), rng_snoc]
theorem rng_take {l : List Int} : ∀ {i : Nat}, i ≤ l.length → (List.range i).map (fun j : Nat => rd l j) = l.take i
  | 0, _ => by simp
  | i + 1, h => by rw [rng_snoc, rng_take (by omega), take_one (by omega), rd_at (by omega)]
theorem wone {a : Nat} (h : a ≤ 140737488351232) : wrap64 ((a : Int) + 1) = ((a + 1 : Nat) : Int) := by
  rw [wrap64_id' (by omega) (by omega)]; omega
theorem i8_mul {x y : Int} (hx : I8 x) (hy : I8 y) : -16384 ≤ x * y ∧ x * y ≤ 16384 := by
  unfold I8 at *
  have e : (x * y).natAbs = x.natAbs * y.natAbs := Int.natAbs_mul x y
  have : x.natAbs * y.natAbs ≤ 128 * 128 := Nat.mul_le_mul (by omega) (by omega)
  omega

def clamp (x lo hi : Int) : Int := if x < lo then lo else if x > hi then hi else x
def narrow (x : Int) : Int := clamp x (-127) 127
theorem narrow_in (x : Int) : -127 ≤ narrow x ∧ narrow x ≤ 127 := by
  unfold narrow clamp; repeat' split
  all_goals omega
theorem narrow_i8 (x : Int) : IntKind.i8.wrap (clamp x (-127) 127) = narrow x := by
  have h := narrow_in x
  exact i8wrap_id ⟨by unfold narrow at h; omega, by unfold narrow at h; omega⟩

theorem uwrap (n : Int) : IntKind.u64.wrap n = n % 18446744073709551616 := by
  have e2 : IntKind.bits .u64 = 64 := rfl
  have e3 : IntKind.signed .u64 = false := rfl
  simp only [IntKind.wrap, e2, e3, Bool.false_and, Bool.false_eq_true, if_false]
  rfl
theorem wrap64_def (n : Int) : wrap64 n = (n + 9223372036854775808) % 18446744073709551616 - 9223372036854775808 := by unfold wrap64; rfl
def addS (a b : Int) : Int × Bool := if -9223372036854775808 ≤ a + b ∧ a + b ≤ 9223372036854775807 then (a + b, true) else (0, false)
def mulS (a b : Int) : Int × Bool := if -9223372036854775808 ≤ a * b ∧ a * b ≤ 9223372036854775807 then (a * b, true) else (0, false)
theorem mulS_in {a b : Int} : I64 (mulS a b).1 := by
  unfold mulS; split
  · assumption
  · exact ⟨by decide, by decide⟩

def tot : List Int → Int → Int
  | [], s => s
  | x :: t, s => tot t (s + x)
def sumS (l : List Int) : Int × Bool := if -9223372036854775808 ≤ tot l 0 ∧ tot l 0 ≤ 9223372036854775807 then (tot l 0, true) else (0, false)
theorem and_mask (x : Int) : bits .and .i64 x 4294967295 = x % 4294967296 := by
  simp only [bits]
  have h : (BitVec.ofInt 64 x &&& BitVec.ofInt 64 4294967295).toNat = (x % 4294967296).toNat := by
    rw [BitVec.toNat_and]
    have e : (BitVec.ofInt 64 4294967295).toNat = 2 ^ 32 - 1 := rfl
    rw [e, Nat.and_two_pow_sub_one_eq_mod, BitVec.toNat_ofInt]
    omega
  show IntKind.i64.wrap ↑((BitVec.ofInt 64 x &&& BitVec.ofInt 64 4294967295).toNat) = x % 4294967296
  rw [h, IntKind.wrap_i64]; omega

/-- A number times x, so often. -/
def powGo (x : Int) : Nat → Int → Int × Bool
  | 0, out => (out, true)
  | m + 1, out => if -9223372036854775808 ≤ out * x ∧ out * x ≤ 9223372036854775807 then powGo x m (out * x) else (0, false)
def powS (x n : Int) : Int × Bool := if n < 0 then (0, false) else (if -1 ≤ x ∧ x ≤ 1 then (if n = 0 ∨ x = -1 ∧ n % 2 = 0 then (1, true) else (x, true)) else powGo x n.toNat 1)
theorem even_tmod (n : Int) : Int.tmod n 2 = 0 ↔ n % 2 = 0 := by
  have h := tmod_pos (a := n) (d := 2) (by omega)
  split at h <;> omega

def gcdS (a c : Int) : Int × Bool := if (Nat.gcd a.natAbs c.natAbs : Int) > 9223372036854775807 then (0, false) else ((Nat.gcd a.natAbs c.natAbs : Int), true)

def dotGo (a b : List Int) : Nat → Int
  | 0 => 0
  | i + 1 => dotGo a b i + rd a i * rd b i
def dotS (a b : List Int) : Int := dotGo a b a.length
theorem dotGo_in {a b : List Int} (ha : ∀ x ∈ a, I8 x) (hb : ∀ x ∈ b, I8 x) : ∀ i : Nat, -16384 * (i : Int) ≤ dotGo a b i ∧ dotGo a b i ≤ 16384 * (i : Int)
  | 0 => by simp [dotGo]
  | i + 1 => by
    have h := dotGo_in ha hb i
    have hm := i8_mul (rd_i8 ha i) (rd_i8 hb i)
    simp only [dotGo]; omega
theorem dot_wrap {a b : List Int} (ha : ∀ x ∈ a, I8 x) (hb : ∀ x ∈ b, I8 x) {i : Nat} (hi : i ≤ 1048576) : wrap64 (dotGo a b i + wrap64 (wrap64 (rd a i) * wrap64 (rd b i))) = dotGo a b (i + 1) := by
  have h := dotGo_in ha hb i
  have hm := i8_mul (rd_i8 ha i) (rd_i8 hb i)
  rw [wrap64_id (rd_i8 ha i).i64, wrap64_id (rd_i8 hb i).i64, wrap64_id' (x := rd a i * rd b i) (by omega) (by omega), wrap64_id' (by omega) (by omega)]
  rfl
/-- What a matrix may be wrong by. -/
def matrixS (n : Nat) (c : Int) : Int := if (n : Int) > 1048576 then 81 else if c < 1 then 80 else if (n : Int) % c = 0 then 0 else 80
theorem matrix_code (n : Nat) (c : Int) : (if (n : Int) > 1048576 then (some (81 : Int)) else (if c < 1 then (some 80) else (if c = 0 then (none) else (if ((n : Int) % c) = 0 then (some 0) else (some 80))))) = some (matrixS n c) := by
  unfold matrixS; repeat' split
  all_goals first | rfl | omega
theorem matrix_ok {n : Nat} {c : Int} (h : matrixS n c = 0) : n ≤ 1048576 ∧ 1 ≤ c ∧ (n : Int) % c = 0 := by
  unfold matrixS at h; split at h
  · omega
  · split at h
    · omega
    · split at h
      · exact ⟨by omega, by omega, by assumption⟩
      · omega
/-- The rows of a matrix: how many, and each one. -/
def rowOf (w : List Int) (n i : Nat) : List Int := (w.drop (i * n)).take n
theorem rowOf_len {w : List Int} {n i : Nat} (h : i < w.length / n) : (rowOf w n i).length = n := by
  unfold rowOf
  have h1 : (i + 1) * n ≤ w.length := Nat.le_trans (Nat.mul_le_mul_right n h) (Nat.div_mul_le_self _ _)
  rw [Nat.succ_mul] at h1
  simp; omega
theorem rowOf_mem {w : List Int} {n i : Nat} {x : Int} (h : x ∈ rowOf w n i) : x ∈ w := List.mem_of_mem_drop (List.mem_of_mem_take h)
theorem rowOf_cut {w : List Int} {n i : Nat} : (w.take (i * n + n)).drop (i * n) = rowOf w n i := by
  unfold rowOf; rw [List.drop_take]; congr 1; omega
def timesS (w : List Int) (c : Int) (x : List Int) : List Int × Int := if matrixS w.length c = 0 then (if (x.length : Int) = c then ((List.range (w.length / c.toNat)).map fun i => dotS (rowOf w c.toNat i) x, 0) else ([], 80)) else ([], matrixS w.length c)
theorem timesS_len (w : List Int) (c : Int) (x : List Int) : (timesS w c x).1.length ≤ w.length := by
  unfold timesS
  split
  · split
    · simp; exact Nat.div_le_self _ _
    · simp
  · simp

theorem matrix_f (w : List Int) (c : Int) : vec_matrix.f w c = some (matrixS w.length c) := by unfold vec_matrix.f; exact matrix_code _ _

theorem dot_f (a b : List Int) (ha : ∀ x ∈ a, I8 x) (hb : ∀ x ∈ b, I8 x) (hn : a.length ≤ 1048576) (hab : a.length ≤ b.length) : Ev (fun k => vec_dot.f k a b) (dotS a b) := by
  unfold vec_dot.f
  refine ev_loop (fun k i => vec_dot.l0 k b (dotGo a b i) a a.length i) _ a.length (fun _ => True) trivial (fun _ => ?_) (fun i hi _ ih => ?_)
  · exact Ev.step (f := fun _ => some (dotS a b)) (fun k => by simp only [vec_dot.l0]; rw [if_neg (by omega)]; rfl) (Ev.now _)
  · refine Ev.step (fun k => ?_) (ih trivial)
    simp only [vec_dot.l0]
    rw [if_pos (by omega), if_pos (by omega), if_pos (by omega), if_pos (by omega), dot_wrap ha hb (by omega), wrap64_id' (x := (i : Int) + 1) (by omega) (by omega)]
    rfl

theorem rowsDots_f (w x : List Int) (n : Nat) (hw : ∀ x ∈ w, I8 x) (hx : ∀ y ∈ x, I8 y) (hn : x.length = n) (hl : w.length ≤ 1048576) : ∀ j : Nat, j ≤ w.length / n → Ev (fun k => rowsDots k w x n j) ((List.range j).map fun i => dotS (rowOf w n i) x)
  | 0, _ => by simp only [rowsDots]; exact Ev.now _
  | j + 1, h => by
    simp only [rowsDots]
    refine Ev.bind (rowsDots_f w x n hw hx hn hl j (by omega)) ?_
    have hr := rowOf_len (w := w) (n := n) (i := j) (by omega)
    have hlen : (rowOf w n j).length ≤ w.length := by unfold rowOf; simp; omega
    refine Ev.bind (dot_f (rowOf w n j) x (fun y hy => hw y (rowOf_mem hy)) hx (by omega) (by omega)) ?_
    rw [rng_snoc]; exact Ev.now _
theorem Times_f (w : List Int) (c : Int) (x : List Int) (hw : ∀ x ∈ w, I8 x) (hx : ∀ y ∈ x, I8 y) : Ev (fun k => vec_Times.f k w c x) (timesS w c x) := by
  unfold vec_Times.f timesS
  rw [matrix_f]; simp only [Option.bind_some]
  by_cases h : matrixS w.length c = 0
  · obtain ⟨h1, h2, h3⟩ := matrix_ok h
    rw [if_pos h]; simp only [h, if_true]
    by_cases h4 : (x.length : Int) = c
    · simp only [h4, if_true]
      exact Ev.bind (rowsDots_f w x c.toNat hw hx (by omega) h1 _ (Nat.le_refl _)) (Ev.now _)
    · simp only [h4, if_false]; exact Ev.now _
  · rw [if_neg h]; simp only [h, if_false]; exact Ev.now _

theorem same64_ev (a : List Int) (ha : a.length ≤ 4611686018427387904) : Ev (fun k => heraldlaw08_same_int64.f k a a) true := by
  unfold heraldlaw08_same_int64.f; simp only [if_true]
  refine ev_loop (fun k i => heraldlaw08_same_int64.l0 k a a a.length i) _ a.length (fun _ => True) trivial (fun _ => ?_) (fun i hi _ ih => ?_)
  · exact Ev.step (fun k => by simp only [heraldlaw08_same_int64.l0]; rw [if_neg (by omega)]) (Ev.now _)
  · refine Ev.step (fun k => ?_) (ih trivial)
    simp only [heraldlaw08_same_int64.l0]
    rw [if_pos (by omega), if_pos (by omega), if_pos (by omega), if_pos (by omega), if_pos trivial, wrap64_id' (by omega) (by omega)]; rfl

theorem awake_ev : Ev (fun k => heraldlaw08_awake.f k) true := Ev.of (k := 100) heraldlaw08_awake.mono (by decide +kernel)

/-- Times of each row from place i on, collected; or the first one's error. -/
def batchGo (w : List Int) (c : Int) (xs : List (List Int)) : Nat → List (List Int) × Int
  | 0 => ([], 0)
  | i + 1 => if (batchGo w c xs i).2 = 0 then (if (timesS w c (xs.getD i [])).2 = 0 then ((batchGo w c xs i).1 ++ [(timesS w c (xs.getD i [])).1], 0) else ([], (timesS w c (xs.getD i [])).2)) else batchGo w c xs i
def batchS (w : List Int) (c : Int) (xs : List (List Int)) : List (List Int) × Int := if matrixS w.length c = 0 then batchGo w c xs xs.length else ([], matrixS w.length c)
theorem batchGo_len (w : List Int) (c : Int) (xs : List (List Int)) : ∀ i, (batchGo w c xs i).1.length ≤ i ∧ ∀ x ∈ (batchGo w c xs i).1, x.length ≤ w.length
  | 0 => by simp [batchGo]
  | i + 1 => by
    obtain ⟨h1, h2⟩ := batchGo_len w c xs i
    simp only [batchGo]
    split
    · split
      · refine ⟨by simp; omega, fun x hx => ?_⟩
        rcases List.mem_append.mp hx with h | h
        · exact h2 x h
        · simp at h; subst h; exact timesS_len _ _ _
      · simp
    · exact ⟨by omega, h2⟩
theorem batchGo_bad (w : List Int) (c : Int) (xs : List (List Int)) {i : Nat} (h : (batchGo w c xs i).2 ≠ 0) : ∀ d, batchGo w c xs (i + d) = batchGo w c xs i
  | 0 => rfl
  | d + 1 => by rw [← Nat.add_assoc, batchGo, batchGo_bad w c xs h d, if_neg h]
theorem batchS_len (w : List Int) (c : Int) (xs : List (List Int)) : (batchS w c xs).1.length ≤ xs.length ∧ ∀ x ∈ (batchS w c xs).1, x.length ≤ w.length := by
  unfold batchS; split
  · exact batchGo_len w c xs _
  · simp

theorem Batch_f (w : List Int) (c : Int) (xs : List (List Int)) (hw : ∀ x ∈ w, I8 x) (hx : ∀ x ∈ xs, ∀ y ∈ x, I8 y) (hl : xs.length < 5864062014805) : Ev (fun k => vec_Batch.f k w c xs) (batchS w c xs) := by
  unfold vec_Batch.f batchS
  rw [matrix_f]; simp only [Option.bind_some]
  by_cases h : matrixS w.length c = 0
  · rw [if_pos h]; simp only [h, if_true]
    refine ev_loop (fun k i => vec_Batch.l0 k w c (batchGo w c xs i).1 xs xs.length i) _ xs.length (fun i => (batchGo w c xs i).2 = 0) rfl (fun hp => ?_) (fun i hi hp ih => ?_)
    · refine Ev.step (f := fun _ => some (batchGo w c xs xs.length)) (fun k => ?_) (Ev.now _)
      simp only [vec_Batch.l0]; rw [if_neg (by omega), ← hp]
    · have e : rd_L2 xs (i : Int) = xs.getD i [] := by unfold rd_L2; simp
      have hm : ∀ y ∈ xs.getD i [], I8 y := by
        rw [List.getD_eq_getElem?_getD, List.getElem?_eq_getElem hi]; exact hx _ (List.getElem_mem hi)
      have hlen := (batchGo_len w c xs i).1
      refine Ev.step (f := fun k => (vec_Times.f k w c (xs.getD i [])).bind fun bt => if bt.2 = 0 then vec_Batch.l0 k w c ((batchGo w c xs i).1 ++ [bt.1]) xs xs.length ((i + 1 : Nat) : Int) else some (([] : List (List Int)), bt.2)) (fun k => ?_) ?_
      · simp only [vec_Batch.l0, e]
        rw [if_pos (by omega), if_pos (by omega), if_pos (by omega), wrap64_id' (by omega) (by omega)]
        simp only [show (batchGo w c xs i).1.length < 5864062014805 by omega, if_true]; rfl
      · refine Ev.bind (Times_f _ _ _ hw hm) ?_
        by_cases h0 : (timesS w c (xs.getD i [])).2 = 0
        · have e2 : batchGo w c xs (i + 1) = ((batchGo w c xs i).1 ++ [(timesS w c (xs.getD i [])).1], 0) := by simp only [batchGo]; rw [if_pos hp, if_pos h0]
          simp only [h0, if_true]
          have := ih (by rw [e2])
          rw [e2] at this; exact this
        · have e2 : batchGo w c xs (i + 1) = ([], (timesS w c (xs.getD i [])).2) := by simp only [batchGo]; rw [if_pos hp, if_neg h0]
          have e3 := batchGo_bad w c xs (i := i + 1) (by rw [e2]; exact h0) (xs.length - (i + 1))
          rw [show i + 1 + (xs.length - (i + 1)) = xs.length by omega] at e3
          simp only [h0, if_false]; rw [e3, e2]; exact Ev.now _
  · rw [if_neg h]; simp only [h, if_false]; exact Ev.now _

theorem shl_pow {x : Int} {s : Nat} (hs : s ≤ 55) (hx : I8 x) : shl .i64 x s = x * 2 ^ s ∧ I64 (x * 2 ^ s) := by
  have hp : (2 : Nat) ^ s ≤ 2 ^ 55 := Nat.pow_le_pow_right (by decide) hs
  have hp' : ((2 ^ s : Nat) : Int) ≤ ((2 ^ 55 : Nat) : Int) := by exact_mod_cast hp
  have h0 : (0 : Int) < 2 ^ s := Int.pow_pos (by omega)
  simp only [Int.natCast_pow, Int.cast_ofNat_Int] at hp'
  have e : (x * 2 ^ s).natAbs = x.natAbs * ((2 : Int) ^ s).natAbs := Int.natAbs_mul _ _
  unfold I8 at hx
  have hm : x.natAbs * ((2 : Int) ^ s).natAbs ≤ 128 * 36028797018963968 := Nat.mul_le_mul (by omega) (by omega)
  have hI : I64 (x * 2 ^ s) := ⟨by omega, by omega⟩
  refine ⟨?_, hI⟩
  have e0 : IntKind.bits .i64 = 64 := rfl
  have e1 : min (s : Int).toNat (IntKind.bits .i64) = s := by rw [e0]; simp; omega
  unfold shl
  rw [e1, i64wrap_eq, wrap64_id hI]
theorem u64_id {x : Int} (h0 : 0 ≤ x) (h1 : x < 18446744073709551616) : IntKind.u64.wrap x = x := by
  simp only [IntKind.wrap, IntKind.bits, IntKind.signed]; simp; omega
def widenS (l : List Int) (s : Int) : List Int × Int := if l.length > 1048576 then ([], 81) else if s < 0 ∨ s > 55 then ([], 20) else ((List.range l.length).map fun i : Nat => rd l i * 2 ^ s.toNat, 0)
def scaleS (l : List Int) (s : Int) : List Int × Int := if l.length > 1048576 then ([], 81) else if s < 0 ∨ s > 62 then ([], 20) else ((List.range l.length).map fun i : Nat => (roundS (rd l i) s).1, 0)
def shrinkS (l : List Int) (s : Int) : List Int × Int := ((List.range (scaleS l s).1.length).map fun i : Nat => narrow (rd (scaleS l s).1 i), (scaleS l s).2)
theorem widenS_len (l : List Int) (s : Int) : (widenS l s).1.length ≤ l.length := by
  unfold widenS; repeat' split
  all_goals simp
theorem scaleS_len (l : List Int) (s : Int) : (scaleS l s).1.length ≤ l.length ∧ (scaleS l s).1.length ≤ 1048576 := by
  unfold scaleS; repeat' split
  all_goals (simp; try omega)
theorem shrinkS_len (l : List Int) (s : Int) : (shrinkS l s).1.length ≤ l.length ∧ (shrinkS l s).1.length ≤ 1048576 := by
  unfold shrinkS; have := scaleS_len l s; simp; omega
theorem rd_i64 {l : List Int} (h : ∀ x ∈ l, I64 x) (i : Int) : I64 (rd l i) := rd_all h ⟨by omega, by omega⟩ i

/-! ### the shift of a group -/
def fit1 (s : Nat) (x : Int) : Bool := decide (-7 ≤ near x (2 ^ s) ∧ near x (2 ^ s) ≤ 7)
def fitB (l : List Int) (s : Nat) : Bool := l.all (fit1 s)
def shiftS (l : List Int) : Nat := if fitB l 0 then 0 else if fitB l 1 then 1 else if fitB l 2 then 2 else if fitB l 3 then 3 else if fitB l 4 then 4 else 5
theorem shiftS_le (l : List Int) : shiftS l ≤ 5 := by unfold shiftS; repeat' split
                                                      all_goals omega
/-- Everything on numbers of 8 bits that is looked at one by one. -/
theorem every {p : Int → Prop} [DecidablePred p] (h : ∀ x : Fin 256, p ((x.1 : Int) - 128)) {x : Int} (hx : I8 x) : p x := by
  unfold I8 at hx
  have := h ⟨(x + 128).toNat, by omega⟩
  have e : (((x + 128).toNat : Nat) : Int) - 128 = x := by omega
  rwa [e] at this
theorem fit1_five {x : Int} (hx : I8 x) : fit1 5 x = true := every (p := fun x => fit1 5 x = true) (by decide +kernel) hx
theorem fitB_five {l : List Int} (hl : ∀ x ∈ l, I8 x) : fitB l 5 = true := by
  unfold fitB; rw [List.all_eq_true]; exact fun x hx => fit1_five (hl x hx)
theorem shiftS_fits {l : List Int} (hl : ∀ x ∈ l, I8 x) : fitB l (shiftS l) = true := by
  unfold shiftS; repeat' split
  all_goals first | assumption | exact fitB_five hl
theorem shiftS_least {l : List Int} {s : Nat} (hs : s ≤ 5) (h : fitB l s = true) : shiftS l ≤ s := by
  unfold shiftS
  by_cases h0 : fitB l 0 = true
  · rw [if_pos h0]; omega
  · rw [if_neg h0]
    by_cases h1 : fitB l 1 = true
    · rw [if_pos h1]
      by_cases e : s = 0
      · subst e; exact absurd h h0
      · omega
    · rw [if_neg h1]
      by_cases h2 : fitB l 2 = true
      · rw [if_pos h2]
        by_cases e : s ≤ 1
        · rcases (show s = 0 ∨ s = 1 by omega) with e | e
          · subst e; exact absurd h h0
          · subst e; exact absurd h h1
        · omega
      · rw [if_neg h2]
        by_cases h3 : fitB l 3 = true
        · rw [if_pos h3]
          by_cases e : s ≤ 2
          · rcases (show s = 0 ∨ s = 1 ∨ s = 2 by omega) with e | e | e
            · subst e; exact absurd h h0
            · subst e; exact absurd h h1
            · subst e; exact absurd h h2
          · omega
        · rw [if_neg h3]
          by_cases h4 : fitB l 4 = true
          · rw [if_pos h4]
            by_cases e : s ≤ 3
            · rcases (show s = 0 ∨ s = 1 ∨ s = 2 ∨ s = 3 by omega) with e | e | e | e
              · subst e; exact absurd h h0
              · subst e; exact absurd h h1
              · subst e; exact absurd h h2
              · subst e; exact absurd h h3
            · omega
          · rw [if_neg h4]
            by_cases e : s ≤ 4
            · rcases (show s = 0 ∨ s = 1 ∨ s = 2 ∨ s = 3 ∨ s = 4 by omega) with e | e | e | e | e
              · subst e; exact absurd h h0
              · subst e; exact absurd h h1
              · subst e; exact absurd h h2
              · subst e; exact absurd h h3
              · subst e; exact absurd h h4
            · omega
theorem shiftS_eq {l : List Int} {s : Nat} (hl : ∀ x ∈ l, I8 x) (hs : s ≤ 5) (hn : ∀ t, t < s → fitB l t = false) (h : fitB l s = true) : shiftS l = s := by
  have h1 := shiftS_least hs h
  have h2 := shiftS_fits hl
  by_cases c : shiftS l < s
  · rw [hn _ c] at h2; cases h2
  · omega
theorem none_next {l : List Int} {s : Nat} (hn : ∀ t, t < s → fitB l t = false) (h : ¬ fitB l s = true) : ∀ t, t < s + 1 → fitB l t = false := by
  intro t ht
  by_cases e : t = s
  · subst e; simpa using h
  · exact hn t (by omega)
theorem flag_code {α : Type} (F : Bool → α) (b : Bool) (n : Int) : (if b = true then (if n ≥ (-7) then F (decide (n ≤ 7)) else F false) else F false) = F (b && decide (-7 ≤ n ∧ n ≤ 7)) := by
  cases b
  · simp
  · by_cases h : n ≥ -7
    · have h' : (-7 : Int) ≤ n := h
      simp [h, h']
    · have h' : ¬ (-7 : Int) ≤ n := h
      simp [h']
theorem fitB_take {l : List Int} {i s : Nat} (h : i < l.length) : fitB (l.take (i + 1)) s = (fitB (l.take i) s && fit1 s l[i]) := by
  unfold fitB; rw [take_one h, List.all_append]; simp
theorem roundS_small {x : Int} {s : Nat} (hs : s ≤ 62) : roundS x s = (near x (2 ^ s), 0) := by
  unfold roundS; rw [if_neg (by omega), Int.toNat_natCast]

/-! ### numbers in 4 bits each -/
def nibS (l : List Int) (g i : Nat) : Int := near (rd l i) (2 ^ shiftS (rowOf l g (i / g))) % 16
def hv (l : List Int) (g i h : Nat) : Int := (if 2 * h < i then nibS l g (2 * h) else 0) + 16 * (if 2 * h + 1 < i then nibS l g (2 * h + 1) else 0)
def shs (l : List Int) (g j : Nat) : List Int := (List.range j).map fun i => (shiftS (rowOf l g i) : Int)
def hvs (l : List Int) (g H i : Nat) : List Int := (List.range H).map (hv l g i)
theorem nibS_in (l : List Int) (g i : Nat) : 0 ≤ nibS l g i ∧ nibS l g i < 16 := by unfold nibS; omega
theorem hvs_len (l : List Int) (g H i : Nat) : (hvs l g H i).length = H := by simp [hvs]
theorem shs_len (l : List Int) (g j : Nat) : (shs l g j).length = j := by simp [shs]
theorem hvs_rd {l : List Int} {g H i h : Nat} (hh : h < H) : rd (hvs l g H i) (h : Int) = hv l g i h := by
  rw [rd_at (by simpa [hvs] using hh)]; simp [hvs]
theorem shs_rd {l : List Int} {g m j : Nat} (hj : j < m) : rd (shs l g m) (j : Int) = (shiftS (rowOf l g j) : Int) := by
  rw [rd_at (by simpa [shs] using hj)]; simp [shs]
theorem hvs_set {l : List Int} {g H i : Nat} {v : Int} (hv1 : v = hv l g (i + 1) (i / 2)) : (hvs l g H i).set (i / 2) v = hvs l g H (i + 1) := by
  subst hv1
  apply List.ext_getElem
  · simp [hvs]
  · intro h h1 h2
    rw [List.getElem_set]
    split
    · rename_i e; subst e; simp [hvs]
    · rename_i e
      simp only [hvs, List.getElem_map, List.getElem_range, hv]
      have e1 : (2 * h < i + 1) = (2 * h < i) := propext ⟨fun _ => by omega, fun _ => by omega⟩
      have e2 : (2 * h + 1 < i + 1) = (2 * h + 1 < i) := propext ⟨fun _ => by omega, fun _ => by omega⟩
      simp only [e1, e2]
theorem shs_snoc (l : List Int) (g j : Nat) : shs l g (j + 1) = shs l g j ++ [(shiftS (rowOf l g j) : Int)] := rng_snoc _ _
theorem hvs_zero (l : List Int) (g H : Nat) : hvs l g H 0 = List.replicate H 0 := by
  apply List.ext_getElem
  · simp [hvs]
  · intro h h1 h2; simp [hvs, hv]
theorem and15 (q : Int) : bits .and .i64 q 15 = q % 16 := by
  simp only [bits]
  have h : (BitVec.ofInt 64 q &&& BitVec.ofInt 64 15).toNat = (q % 16).toNat := by
    rw [BitVec.toNat_and]
    have e : (BitVec.ofInt 64 15).toNat = 2 ^ 4 - 1 := rfl
    rw [e, Nat.and_two_pow_sub_one_eq_mod, BitVec.toNat_ofInt]
    omega
  show IntKind.i64.wrap ↑((BitVec.ofInt 64 q &&& BitVec.ofInt 64 15).toNat) = q % 16
  rw [h, IntKind.wrap_i64]; omega
theorem or16 {a m : Int} (ha : 0 ≤ a ∧ a < 16) (hm : 0 ≤ m ∧ m < 16) : bits .or .u8 a (16 * m) = a + 16 * m := by
  have key : ∀ a m : Fin 16, bits .or .u8 (a.1 : Int) (16 * (m.1 : Int)) = (a.1 : Int) + 16 * (m.1 : Int) := by decide +kernel
  have := key ⟨a.toNat, by omega⟩ ⟨m.toNat, by omega⟩
  rwa [show ((a.toNat : Nat) : Int) = a by omega, show ((m.toNat : Nat) : Int) = m by omega] at this
theorem or0 {m : Int} (hm : 0 ≤ m ∧ m < 16) : bits .or .u8 0 m = m := by
  have key : ∀ m : Fin 16, bits .or .u8 0 (m.1 : Int) = (m.1 : Int) := by decide +kernel
  have := key ⟨m.toNat, by omega⟩
  rwa [show ((m.toNat : Nat) : Int) = m by omega] at this
theorem half_i (i : Nat) (hi : i ≤ 1048577) : wrap64 (Int.tdiv (i : Int) 2) = ((i / 2 : Nat) : Int) := by
  rw [Int.tdiv_eq_ediv_of_nonneg (by omega), wrap64_id' (by omega) (by omega)]; omega
theorem four_i (i : Nat) (hi : i ≤ 1048577) : wrap64 (4 * Int.tmod (i : Int) 2) = 4 * ((i % 2 : Nat) : Int) := by
  rw [Int.tmod_eq_emod_of_nonneg (by omega), wrap64_id' (by omega) (by omega)]; omega
theorem shl_nib {n : Int} (hn : 0 ≤ n ∧ n < 16) (i : Nat) : shl .u8 (n % 256) (4 * ((i % 2 : Nat) : Int)) = if i % 2 = 0 then n else 16 * n := by
  unfold shl
  have e0 : IntKind.bits .u8 = 8 := rfl
  rw [e0]
  by_cases h : i % 2 = 0
  · rw [if_pos h, h]; simp [IntKind.wrap, IntKind.bits, IntKind.signed]; omega
  · have h1 : i % 2 = 1 := by omega
    rw [if_neg h, h1]; simp [IntKind.wrap, IntKind.bits, IntKind.signed]; omega
/-- One number put into its half. -/
theorem hv_put (l : List Int) (g i : Nat) : bits .or .u8 (hv l g i (i / 2)) (if i % 2 = 0 then nibS l g i else 16 * nibS l g i) = hv l g (i + 1) (i / 2) := by
  unfold hv
  by_cases h : i % 2 = 0
  · have e : 2 * (i / 2) = i := by omega
    simp only [e, h, if_true, Nat.lt_irrefl, if_false, show ¬ i + 1 < i by omega, show i < i + 1 by omega, show ¬ i + 1 < i + 1 by omega]
    have := or0 (nibS_in l g i)
    simpa using this
  · have e : 2 * (i / 2) + 1 = i := by omega
    simp only [e, h, if_false, Nat.lt_irrefl, show 2 * (i / 2) < i by omega, show 2 * (i / 2) < i + 1 by omega, show i < i + 1 by omega, if_true]
    have := or16 (nibS_in l g (2 * (i / 2))) (nibS_in l g i)
    simpa using this
def packS (l : List Int) (c : Int) : Int × Int × List Int × List Int × Int := if l.length > 1048576 then (0, 0, [], [], 81) else if c < 1 ∨ c > 256 then (0, 0, [], [], 83) else (l.length, c, shs l c.toNat ((l.length + c.toNat - 1) / c.toNat), hvs l c.toNat ((l.length + 1) / 2) l.length, 0)
theorem rowOf_i8 {l : List Int} (hl : ∀ x ∈ l, I8 x) (g j : Nat) : ∀ x ∈ rowOf l g j, I8 x := fun x hx => hl x (rowOf_mem hx)
theorem rowOf_le (l : List Int) (g j : Nat) : (rowOf l g j).length ≤ l.length := by unfold rowOf; simp; omega
theorem rowOf_cut' {l : List Int} {g j tt : Nat} (h : tt = min (j * g + g) l.length) : (l.take tt).drop (j * g) = rowOf l g j := by
  subst h
  rw [← rowOf_cut]; congr 1
  by_cases c : j * g + g ≤ l.length
  · rw [Nat.min_eq_left c]
  · rw [Nat.min_eq_right (by omega), List.take_length, List.take_of_length_le (by omega)]

theorem ceil_le {n g : Nat} (hg : 1 ≤ g) : n ≤ (n + g - 1) / g * g := by
  have h := Nat.div_add_mod (n + g - 1) g
  have h2 := Nat.mod_lt (n + g - 1) (show 0 < g by omega)
  rw [Nat.mul_comm] at h; omega
theorem ceil_lt {n g j : Nat} (hg : 1 ≤ g) (h : j < (n + g - 1) / g) : j * g < n := by
  have h1 : (j + 1) * g ≤ n + g - 1 := (Nat.le_div_iff_mul_le (by omega)).mp h
  rw [Nat.succ_mul] at h1; omega
theorem mn_nat {a b : Nat} : mn (a : Int) (b : Int) = ((min a b : Nat) : Int) := by unfold mn; omega
theorem rowOf_has {l : List Int} {g i : Nat} (hg : 1 ≤ g) (hi : i < l.length) : l[i] ∈ rowOf l g (i / g) := by
  have h1 := Nat.div_add_mod i g
  rw [Nat.mul_comm] at h1
  have h2 := Nat.mod_lt i (show 0 < g by omega)
  refine List.mem_of_getElem? (i := i % g) ?_
  unfold rowOf
  rw [List.getElem?_take_of_lt h2, List.getElem?_drop, h1, List.getElem?_eq_getElem hi]
theorem near_fits {l : List Int} {g i : Nat} (hl : ∀ x ∈ l, I8 x) (hg : 1 ≤ g) (hi : i < l.length) : -7 ≤ near (rd l i) (2 ^ shiftS (rowOf l g (i / g))) ∧ near (rd l i) (2 ^ shiftS (rowOf l g (i / g))) ≤ 7 := by
  have h := shiftS_fits (rowOf_i8 hl g (i / g))
  unfold fitB at h
  rw [List.all_eq_true] at h
  have := h _ (rowOf_has hg hi)
  unfold fit1 at this
  rw [rd_at hi]; exact of_decide_eq_true this
theorem hvs_more {l : List Int} {g H i : Nat} (h : ∀ h, h < H → 2 * h + 1 < i) : hvs l g H (i + 1) = hvs l g H i := by
  unfold hvs
  apply List.map_congr_left
  intro x hx
  have := h x (by simpa using hx)
  unfold hv
  rw [if_pos (by omega), if_pos (by omega), if_pos (by omega), if_pos (by omega)]
theorem hv_even {l : List Int} {g i : Nat} (h : i % 2 = 0) : hvs l g ((i + 1) / 2) i ++ [nibS l g i] = hvs l g ((i + 2) / 2) (i + 1) := by
  have e : (i + 2) / 2 = (i + 1) / 2 + 1 := by omega
  have e2 : 2 * ((i + 1) / 2) = i := by omega
  rw [e]
  have h1 : hvs l g ((i + 1) / 2 + 1) (i + 1) = hvs l g ((i + 1) / 2) (i + 1) ++ [hv l g (i + 1) ((i + 1) / 2)] := rng_snoc _ _
  rw [h1, hvs_more (fun h hh => by omega)]
  unfold hv
  rw [e2, if_pos (by omega), if_neg (by omega)]; simp
theorem hv_odd {l : List Int} {g i : Nat} (h : i % 2 = 1) : hv l g i (i / 2) = nibS l g (i - 1) ∧ hv l g (i + 1) (i / 2) = nibS l g (i - 1) + 16 * nibS l g i := by
  have e1 : 2 * (i / 2) = i - 1 := by omega
  have e2 : 2 * (i / 2) + 1 = i := by omega
  unfold hv
  rw [e2, e1, if_pos (by omega), if_neg (by omega), if_pos (by omega), if_pos (by omega)]; simp

/-! ### what packed numbers say -/
def U8 (x : Int) : Prop := 0 ≤ x ∧ x ≤ 255
theorem u8_of_wf {x : Int} (h : (Lit.int .u8 x).wf = true) : U8 x := by
  simp [Lit.wf, IntKind.signed, IntKind.bits] at h; exact h
theorem rd_u8 {l : List Int} (h : ∀ x ∈ l, U8 x) (i : Int) : U8 (rd l i) := rd_all h ⟨by omega, by omega⟩ i
def okHalf (c : Int) (h : List Int) (j : Nat) : Prop := rd h j % 16 ≠ 8 ∧ rd h j / 16 ≠ 8 ∧ (2 * (j : Int) + 1 = c → rd h j / 16 = 0)
def RightP (c g : Int) (s h : List Int) : Prop := (0 ≤ c ∧ c ≤ 1048576 ∧ 1 ≤ g ∧ g ≤ 256) ∧ ((s.length : Int) = (c + g - 1) / g ∧ (h.length : Int) = (c + 1) / 2) ∧ (∀ j, j < s.length → rd s j ≤ 5) ∧ ∀ j, j < h.length → okHalf c h j
open Classical in
noncomputable def rightS (c g : Int) (s h : List Int) : Bool := decide (RightP c g s h)
theorem rightS_true {c g : Int} {s h : List Int} : rightS c g s h = true ↔ RightP c g s h := by unfold rightS; simp
theorem rightS_false {c g : Int} {s h : List Int} (H : ¬ RightP c g s h) : rightS c g s h = false := by unfold rightS; simp [H]
theorem and15u {x : Int} (hx : U8 x) : bits .and .u8 x 15 = x % 16 := by
  unfold U8 at hx
  have key : ∀ x : Fin 256, bits .and .u8 (x.1 : Int) 15 = (x.1 : Int) % 16 := by decide +kernel
  have := key ⟨x.toNat, by omega⟩
  rwa [show ((x.toNat : Nat) : Int) = x by omega] at this
theorem need_code {c g : Int} (h0 : 0 ≤ c) (h1 : c ≤ 1048576) (g0 : 1 ≤ g) (g1 : g ≤ 256) : wrap64 (Int.tdiv (wrap64 (wrap64 (c + g) - 1)) g) = (c + g - 1) / g ∧ wrap64 (Int.tdiv (wrap64 (c + 1)) 2) = (c + 1) / 2 := by
  have hd : 0 ≤ (c + g - 1) / g := Int.ediv_nonneg (by omega) (by omega)
  have hd2 : (c + g - 1) / g ≤ c + g - 1 := Int.ediv_le_self _ (by omega)
  constructor
  · rw [wrap64_id' (x := c + g) (by omega) (by omega), wrap64_id' (x := c + g - 1) (by omega) (by omega), Int.tdiv_eq_ediv_of_nonneg (by omega), wrap64_id' (by omega) (by omega)]
  · rw [wrap64_id' (x := c + 1) (by omega) (by omega), Int.tdiv_eq_ediv_of_nonneg (by omega), wrap64_id' (by omega) (by omega)]

/-- The i-th number that packed ones say. -/
def nibH (h : List Int) (i : Nat) : Int := if i % 2 = 1 then rd h ((i / 2 : Nat) : Int) / 16 else rd h ((i / 2 : Nat) : Int) % 16
def sgn (n : Int) : Int := if n > 7 then n - 16 else n
def unpS (g : Int) (s h : List Int) (i : Nat) : Int := narrow (sgn (nibH h i) * 2 ^ (rd s ((i / g.toNat : Nat) : Int)).toNat)
noncomputable def unpackS (c g : Int) (s h : List Int) : List Int × Int := if rightS c g s h = true then ((List.range c.toNat).map (unpS g s h), 0) else ([], 84)
theorem nibH_in {h : List Int} (hh : ∀ x ∈ h, U8 x) (i : Nat) : 0 ≤ nibH h i ∧ nibH h i < 16 := by
  have := rd_u8 hh ((i / 2 : Nat) : Int)
  unfold U8 at this
  unfold nibH; split <;> omega
theorem sgn_in {n : Int} (h : 0 ≤ n ∧ n < 16) : I8 (sgn n) := by unfold sgn I8; split <;> omega
theorem nib_code {h : List Int} (hh : ∀ x ∈ h, U8 x) (i : Nat) : wrap64 (bits .and .u8 (shr .u8 (rd h ((i / 2 : Nat) : Int)) (4 * ((i % 2 : Nat) : Int))) 15) = nibH h i := by
  have hb := rd_u8 hh ((i / 2 : Nat) : Int)
  have hn := nibH_in hh i
  have e0 : IntKind.bits .u8 = 8 := rfl
  unfold shr; rw [e0]
  unfold U8 at hb
  by_cases h1 : i % 2 = 1
  · have e : rd h ((i / 2 : Nat) : Int) / 2 ^ min (4 * ((i % 2 : Nat) : Int)).toNat 8 = rd h ((i / 2 : Nat) : Int) / 16 := by rw [h1]; rfl
    rw [e, and15u ⟨by omega, by omega⟩]
    unfold nibH at hn ⊢; rw [if_pos h1] at hn ⊢
    rw [wrap64_id' (by omega) (by omega)]; omega
  · have h0 : i % 2 = 0 := by omega
    have e : rd h ((i / 2 : Nat) : Int) / 2 ^ min (4 * ((i % 2 : Nat) : Int)).toNat 8 = rd h ((i / 2 : Nat) : Int) := by rw [h0]; simp
    rw [e, and15u ⟨by omega, by omega⟩]
    unfold nibH at hn ⊢; rw [if_neg h1] at hn ⊢
    rw [wrap64_id' (by omega) (by omega)]
theorem div_nat {i n : Nat} (hi : i ≤ 1048577) : wrap64 (Int.tdiv (i : Int) (n : Int)) = ((i / n : Nat) : Int) := by
  have h1 : i / n ≤ i := Nat.div_le_self _ _
  have h2 : (0 : Int) ≤ ((i / n : Nat) : Int) := Int.natCast_nonneg _
  have h3 : ((i / n : Nat) : Int) ≤ (i : Int) := Int.ofNat_le.mpr h1
  rw [Int.tdiv_eq_ediv_of_nonneg (by omega), ← Int.natCast_ediv, wrap64_id' (by omega) (by omega)]
theorem right_at {c : Int} {n : Nat} {s h : List Int} (R : RightP c n s h) {i : Nat} (hi : (i : Int) < c) : i / n < s.length ∧ i / 2 < h.length ∧ rd s ((i / n : Nat) : Int) ≤ 5 := by
  obtain ⟨⟨a1, a2, a3, a4⟩, ⟨b1, b2⟩, d, _⟩ := R
  have hq : i / n < s.length := by
    obtain ⟨m, rfl⟩ : ∃ m : Nat, c = m := ⟨c.toNat, by omega⟩
    have hm := ceil_le (n := m) (g := n) (by omega)
    have e : (s.length : Int) = (((m + n - 1) / n : Nat) : Int) := by
      rw [b1, Int.natCast_ediv]; congr 1; omega
    have e' : s.length = (m + n - 1) / n := Int.ofNat_inj.mp e
    rw [e']
    exact (Nat.div_lt_iff_lt_mul (by omega)).mpr (by omega)
  exact ⟨hq, by omega, d _ hq⟩
theorem shl_pow' {x s : Int} (h0 : 0 ≤ s) (h1 : s ≤ 55) (hx : I8 x) : shl .i64 x s = x * 2 ^ s.toNat ∧ I64 (x * 2 ^ s.toNat) := by
  obtain ⟨n, rfl⟩ := Int.eq_ofNat_of_zero_le h0
  exact shl_pow (s := n) (by omega) hx
theorem unpackS_len (c g : Int) (s h : List Int) : (unpackS c g s h).1.length ≤ 1048576 ∧ ∀ x ∈ (unpackS c g s h).1, I8 x := by
  unfold unpackS
  split
  · rename_i H
    have := (rightS_true.mp H).1
    refine ⟨by simp; omega, fun x hx => ?_⟩
    obtain ⟨i, _, rfl⟩ := List.mem_map.mp hx
    have := narrow_in (sgn (nibH h i) * 2 ^ (rd s ((i / g.toNat : Nat) : Int)).toNat)
    unfold unpS; exact ⟨by omega, by omega⟩
  · simp

def rowS (w : List Int) (c i : Int) : List Int × Int := if matrixS w.length c = 0 then (if i < 0 then ([], 1) else if i ≥ (w.length : Int) / c then ([], 1) else (rowOf w c.toNat i.toNat, 0)) else ([], matrixS w.length c)
theorem rowS_len (w : List Int) (c i : Int) : (rowS w c i).1.length ≤ w.length := by
  unfold rowS
  split
  · split
    · simp
    · split
      · simp
      · simp only [rowOf, List.length_take, List.length_drop]; omega
  · simp
/-- Where a row lies. -/
theorem row_at {l : List Int} {c i : Int} (h1 : 1 ≤ c) (h2 : 0 ≤ i) (h3 : i < (l.length : Int) / c) : 0 ≤ i * c ∧ i * c + c ≤ l.length ∧ (i * c).toNat = i.toNat * c.toNat ∧ (i * c + c).toNat = i.toNat * c.toNat + c.toNat := by
  have p0 : 0 ≤ i * c := Int.mul_nonneg h2 (by omega)
  have p1 : (i + 1) * c ≤ (l.length : Int) / c * c := Int.mul_le_mul_of_nonneg_right (by omega) (by omega)
  have p2 : (l.length : Int) / c * c ≤ l.length := Int.ediv_mul_le _ (by omega)
  rw [Int.add_mul, Int.one_mul] at p1
  have e : (i * c).toNat = i.toNat * c.toNat := Int.toNat_mul h2 (by omega)
  refine ⟨p0, by omega, e, ?_⟩
  rw [← e]; omega
def sizesS (w : List Int) (c : Int) : List Int × Int := if matrixS w.length c = 0 then ((List.range (w.length / c.toNat)).map fun j => K.sizeSum (rowOf w c.toNat j), 0) else ([], matrixS w.length c)
theorem sizesS_len (w : List Int) (c : Int) : (sizesS w c).1.length ≤ w.length := by
  unfold sizesS
  split
  · simp; exact Nat.div_le_self _ _
  · simp

theorem sizeStep_i8 {s x : Int} (hx : I8 x) : K.sizeStep s x = if x < 0 then wrap64 (s - wrap64 x) else wrap64 (s + wrap64 x) := by
  unfold K.sizeStep
  unfold I8 at hx
  rw [wrap64_id' (x := x) (by omega) (by omega), wrap64_id' (x := -x) (by omega) (by omega)]
  unfold mx
  split <;> split <;> first | rfl | (congr 1; omega) | omega

theorem Sizes_f (w : List Int) (c : Int) : vec_Sizes.f w c = some (sizesS w c) := by
  unfold vec_Sizes.f sizesS
  rw [matrix_f]; simp only [Option.bind_some]
  by_cases h : matrixS w.length c = 0
  · rw [if_pos h, if_pos h]; rfl
  · rw [if_neg h, if_neg h]

theorem batchS_two (w : List Int) (c : Int) (x : List Int) : batchS w c [x, x] = if (timesS w c x).2 = 0 then ([(timesS w c x).1, (timesS w c x).1], 0) else ([], (timesS w c x).2) := by
  unfold batchS
  by_cases h : matrixS w.length c = 0
  · rw [if_pos h]
    show batchGo w c [x, x] 2 = _
    simp only [batchGo, List.getD_cons_zero, List.getD_cons_succ, if_true]
    by_cases e : (timesS w c x).2 = 0
    · simp [e]
    · simp only [e, if_false]
  · have e : timesS w c x = ([], matrixS w.length c) := by unfold timesS; rw [if_neg h]
    rw [if_neg h, e]; simp only [h, if_false]
theorem timesS_ok {w : List Int} {c : Int} {x : List Int} (h : (timesS w c x).2 = 0) : matrixS w.length c = 0 ∧ (x.length : Int) = c ∧ timesS w c x = ((List.range (w.length / c.toNat)).map fun i => dotS (rowOf w c.toNat i) x, 0) := by
  unfold timesS at h ⊢
  by_cases h1 : matrixS w.length c = 0
  · by_cases h2 : (x.length : Int) = c
    · exact ⟨h1, h2, by rw [if_pos h1, if_pos h2]⟩
    · rw [if_pos h1, if_neg h2] at h; simp at h
  · rw [if_neg h1] at h; exact absurd h h1
def absS (l : List Int) : Nat → Int
  | 0 => 0
  | i + 1 => absS l i + (if rd l (i : Int) < 0 then -rd l (i : Int) else rd l (i : Int))
theorem absS_in {l : List Int} (h : ∀ x ∈ l, I8 x) : ∀ i : Nat, 0 ≤ absS l i ∧ absS l i ≤ 128 * (i : Int)
  | 0 => by simp [absS]
  | i + 1 => by
    have ih := absS_in h i
    have hx := rd_i8 h (i : Int)
    unfold I8 at hx
    simp only [absS]
    split <;> omega
theorem sizeSum_abs {l : List Int} (h : ∀ x ∈ l, I8 x) : ∀ i : Nat, i ≤ l.length → i ≤ 1048576 → K.sizeSum (l.take i) = absS l i
  | 0, _, _ => by simp [K.sizeSum, absS]
  | i + 1, hi, hm => by
    have ih := sizeSum_abs h i (by omega) (by omega)
    have hb := absS_in h i
    have hx := rd_i8 h (i : Int)
    rw [take_one (by omega), K.sizeSum_snoc, ih, ← rd_at (by omega), sizeStep_i8 hx]
    unfold I8 at hx
    simp only [absS]
    split
    · rw [wrap64_id' (x := rd l (i : Int)) (by omega) (by omega), wrap64_id' (by omega) (by omega)]; omega
    · rw [wrap64_id' (x := rd l (i : Int)) (by omega) (by omega), wrap64_id' (by omega) (by omega)]
theorem dotGo_abs {a b : List Int} (ha : ∀ x ∈ a, I8 x) (hb : ∀ x ∈ b, I8 x) : ∀ i : Nat, -(128 * absS a i) ≤ dotGo a b i ∧ dotGo a b i ≤ 128 * absS a i
  | 0 => by simp [dotGo, absS]
  | i + 1 => by
    have ih := dotGo_abs ha hb i
    have hx := rd_i8 ha (i : Int)
    have hy := rd_i8 hb (i : Int)
    obtain ⟨x, ex⟩ : ∃ x, x = rd a (i : Int) := ⟨_, rfl⟩
    obtain ⟨y, ey⟩ : ∃ y, y = rd b (i : Int) := ⟨_, rfl⟩
    simp only [dotGo, absS, ← ex, ← ey]
    rw [← ex] at hx; rw [← ey] at hy
    have e : (x * y).natAbs = x.natAbs * y.natAbs := Int.natAbs_mul x y
    have hm : x.natAbs * y.natAbs ≤ x.natAbs * 128 := Nat.mul_le_mul_left _ (by unfold I8 at hy; omega)
    split <;> omega
/-- What a product of rows is at most. -/
theorem dot_size {a b : List Int} (ha : ∀ x ∈ a, I8 x) (hb : ∀ x ∈ b, I8 x) (hn : a.length ≤ 1048576) : -128 * K.sizeSum a ≤ dotS a b ∧ dotS a b ≤ 128 * K.sizeSum a ∧ 0 ≤ K.sizeSum a ∧ K.sizeSum a ≤ 134217728 := by
  have h1 := sizeSum_abs ha a.length (Nat.le_refl _) hn
  rw [List.take_of_length_le (Nat.le_refl _)] at h1
  have h2 := dotGo_abs ha hb a.length
  have h3 := absS_in ha a.length
  unfold dotS
  rw [h1]
  omega
theorem rng_add {α : Type} (g : Nat → α) (n : Nat) : ∀ m, (List.range (n + m)).map g = (List.range n).map g ++ (List.range m).map fun j => g (n + j)
  | 0 => by simp
  | m + 1 => by rw [← Nat.add_assoc, rng_snoc, rng_add g n m, rng_snoc, List.append_assoc]
theorem timesS_below {w v x : List Int} {c : Int} (hw : (timesS w c x).2 = 0) (hv : (v.length : Int) % c = 0) (hn : w.length + v.length ≤ 1048576) : (timesS v c x).2 = 0 ∧ timesS (w ++ v) c x = ((timesS w c x).1 ++ (timesS v c x).1, 0) := by
  obtain ⟨m, hx, e⟩ := timesS_ok hw
  obtain ⟨m1, m2, m3⟩ := matrix_ok m
  obtain ⟨n, rfl⟩ : ∃ n : Nat, c = n := ⟨c.toNat, by omega⟩
  have mv : matrixS v.length n = 0 := by unfold matrixS; rw [if_neg (by omega), if_neg (by omega), if_pos hv]
  have hd : ((w ++ v).length : Int) % n = 0 := by
    rw [List.length_append]
    have : ((w.length + v.length : Nat) : Int) = (w.length : Int) + v.length := by omega
    rw [this, Int.add_emod, m3, hv]; simp
  have mb : matrixS (w ++ v).length n = 0 := by
    have hl : (w ++ v).length = w.length + v.length := List.length_append
    unfold matrixS; rw [if_neg (by omega), if_neg (by omega), if_pos hd]
  have ev : timesS v n x = ((List.range (v.length / n)).map fun i => dotS (rowOf v n i) x, 0) := by unfold timesS; rw [if_pos mv, if_pos hx]; simp
  have eb : timesS (w ++ v) n x = ((List.range ((w ++ v).length / n)).map fun i => dotS (rowOf (w ++ v) n i) x, 0) := by unfold timesS; rw [if_pos mb, if_pos hx]; simp
  refine ⟨by rw [ev], ?_⟩
  have hT : w.length / n * n = w.length := Nat.div_mul_cancel (Nat.dvd_of_mod_eq_zero (by omega))
  have hq : (w ++ v).length / n = w.length / n + v.length / n := by
    rw [List.length_append, Nat.add_comm w.length]
    conv => lhs; rw [← hT]
    rw [Nat.add_mul_div_right _ _ (by omega), Nat.add_comm]
  rw [eb, e, ev, hq, rng_add]
  simp only [Int.toNat_natCast]
  congr 2
  · apply List.map_congr_left
    intro i hi
    have hi' : i < w.length / n := List.mem_range.1 hi
    have hlt : (i + 1) * n ≤ w.length := by rw [← hT]; exact Nat.mul_le_mul_right n hi'
    rw [Nat.succ_mul] at hlt
    congr 1
    unfold rowOf
    rw [List.drop_append_of_le_length (by omega), List.take_append_of_le_length (by simp; omega)]
  · apply List.map_congr_left
    intro j hj
    congr 1
    unfold rowOf
    rw [Nat.add_mul, hT, List.drop_append, List.drop_of_length_le (by omega)]
    simp
end Go.Proofs.Ytigfodkakefhcaa.L
