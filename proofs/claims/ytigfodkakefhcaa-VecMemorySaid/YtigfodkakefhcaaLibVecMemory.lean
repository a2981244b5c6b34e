/- Lemmas on the printed functions: what each answers, in plain words of Lean; on condition that the numbers are of their kinds. -/
import Derived.Test.YtigfodkakefhcaaPx1
import Derived.Test.YtigfodkakefhcaaPx10
import Derived.Test.YtigfodkakefhcaaPx11
import Derived.Test.YtigfodkakefhcaaPx12
import Derived.Test.YtigfodkakefhcaaPx13
import Derived.Test.YtigfodkakefhcaaPx14
import Derived.Test.YtigfodkakefhcaaPx15
import Derived.Test.YtigfodkakefhcaaPx16
import Derived.Test.YtigfodkakefhcaaPx17
import Derived.Test.YtigfodkakefhcaaPx18
import Derived.Test.YtigfodkakefhcaaPx19
import Derived.Test.YtigfodkakefhcaaPx2
import Derived.Test.YtigfodkakefhcaaPx20
import Derived.Test.YtigfodkakefhcaaPx21
import Derived.Test.YtigfodkakefhcaaPx3
import Derived.Test.YtigfodkakefhcaaPx4
import Derived.Test.YtigfodkakefhcaaPx5
import Derived.Test.YtigfodkakefhcaaPx6
import Derived.Test.YtigfodkakefhcaaPx7
import Derived.Test.YtigfodkakefhcaaPx8
import Derived.Test.YtigfodkakefhcaaPx9
import Derived.Test.YtigfodkakefhcaaMath
namespace Go.Proofs.Ytigfodkakefhcaa.L
open Go Go.RowKit Go.Proofs.Ytigfodkakefhcaa.M Go.Proofs.Ytigfodkakefhcaa.P Go.Proofs.YtigfodkakefhcaaW.PrintWords Go.Proofs.YtigfodkakefhcaaW.PrintLast Go.Proofs.YtigfodkakefhcaaW.PrintMore
set_option linter.unusedVariables false
set_option linter.unusedSimpArgs false

/-- A loop by its places: what is known at each place, and what comes of the rest. -/
theorem ev_loop {β : Type} (F : Nat → Nat → Option β) (r : β) (n : Nat) (P : Nat → Prop) (h0 : P 0) (hend : P n → Ev (fun k => F k n) r) (hstep : ∀ i, i < n → P i → (P (i + 1) → Ev (fun k => F k (i + 1)) r) → Ev (fun k => F k i) r) : Ev (fun k => F k 0) r := by
  have key : ∀ d i, i + d = n → P i → Ev (fun k => F k i) r := by
    intro d
    induction d with
    | zero => intro i hi hp; obtain rfl : i = n := by omega
              exact hend hp
    | succ d ih => intro i hi hp; exact hstep i (by omega) hp (fun hp' => ih (i + 1) (by omega) hp')
  exact key n 0 (by omega) h0
theorem ev_succ {β : Type} {g : Nat → Option β} {r : β} (h : Ev (fun k => g (k + 1)) r) : Ev g r := Ev.step (fun _ => rfl) h
theorem rd_at {l : List Int} {i : Nat} (h : i < l.length) : rd l (i : Int) = l[i] := by
  unfold rd; simp [List.getD_eq_getElem?_getD, h]
theorem rd_all {p : Int → Prop} {l : List Int} (h : ∀ x ∈ l, p x) (h0 : p 0) (i : Int) : p (rd l i) := by
  unfold rd
  rw [List.getD_eq_getElem?_getD]
  by_cases c : i.toNat < l.length
  · rw [List.getElem?_eq_getElem c]; exact h _ (List.getElem_mem c)
  · rw [List.getElem?_eq_none (by omega)]; exact h0
theorem rd_i8 {l : List Int} (h : ∀ x ∈ l, I8 x) (i : Int) : I8 (rd l i) := rd_all h ⟨by omega, by omega⟩ i
theorem take_one {α : Type} {l : List α} {i : Nat} (h : i < l.length) : l.take (i + 1) = l.take i ++ [l[i]] := by
  rw [List.take_add_one]; simp [h]
theorem rng_snoc {α : Type} (g : Nat → α) (i : Nat) : (List.range (i + 1)).map g = (List.range i).map g ++ [g i] := by
  rw [List.range_succ]; simp
theorem set_mid0 {α : Type} (a : List α) (x v : α) (b : List α) (i : Nat) (hi : i = a.length) : (a ++ x :: b).set i v = (a ++ [v]) ++ b := by
  subst hi; simp
/-- One place of a list that is filled from the left. -/
theorem rng_set {g : Nat → Int} {n i : Nat} (h : i < n) : ((List.range i).map g ++ List.replicate (n - i) 0).set i (g i) = (List.range (i + 1)).map g ++ List.replicate (n - (i + 1)) 0 := by
  rw [show n - i = (n - (i + 1)) + 1 by omega, List.replicate_succ, set_mid0 _ _ _ _ _ (by simp), rng_snoc]
theorem rng_take {l : List Int} : ∀ {i : Nat}, i ≤ l.length → (List.range i).map (fun j : Nat => rd l j) = l.take i
  | 0, _ => by simp
  | i + 1, h => by rw [rng_snoc, rng_take (by omega), take_one (by omega), rd_at (by omega)]
theorem wone {a : Nat} (h : a ≤ 140737488351232) : wrap64 ((a : Int) + 1) = ((a + 1 : Nat) : Int) := by
  rw [wrap64_id' (by omega) (by omega)]; omega
theorem i8_mul {x y : Int} (hx : I8 x) (hy : I8 y) : -16384 ≤ x * y ∧ x * y ≤ 16384 := by
  unfold I8 at *
  have e : (x * y).natAbs = x.natAbs * y.natAbs := Int.natAbs_mul x y
  have : x.natAbs * y.natAbs ≤ 128 * 128 := Nat.mul_le_mul (by omega) (by omega)
  omega

theorem Floor_f (a d : Int) (ha : I64 a) (hd : I64 d) : fixed_Floor.f a d = some (floorS a d) := by
  unfold fixed_Floor.f; exact floor_code a d ha hd

theorem rFloor_f (a d : Int) (ha : I64 a) (hd : I64 d) : heraldref02_Floor.f a d = some (floorS a d) := by
  unfold heraldref02_Floor.f; exact floor_code a d ha hd

theorem Near_f (a d : Int) (ha : I64 a) (hd : I64 d) : fixed_Near.f a d = some (nearS a d) := by
  unfold fixed_Near.f nearS; rw [Floor_f a d ha hd]; simp only [Option.bind_some, floorS]
  by_cases h : d < 1
  · rw [if_pos h, if_pos h]; rfl
  · rw [if_neg h, if_neg h]; simp only [if_true]; exact near_code a d ha hd (by omega)

theorem rNear_f (a d : Int) (ha : I64 a) (hd : I64 d) : heraldref02_Near.f a d = some (nearS a d) := by
  unfold heraldref02_Near.f nearS; rw [rFloor_f a d ha hd]; simp only [Option.bind_some, floorS]
  by_cases h : d < 1
  · rw [if_pos h, if_pos h]; rfl
  · rw [if_neg h, if_neg h]; simp only [if_true]; exact near_code' a d ha hd (by omega)

theorem Round_f (a s : Int) (ha : I64 a) : fixed_Round.f a s = some (roundS a s) := by
  unfold fixed_Round.f roundS
  by_cases h : s < 0
  · rw [if_pos h, if_pos (Or.inl h)]
  · by_cases h' : s > 62
    · rw [if_neg h, if_pos h', if_pos (Or.inr h')]
    · rw [if_neg h, if_neg h', if_pos (by omega), if_neg (by omega), shl_one (by omega) (by omega)]
      have hp := pow_in (s := s) (by omega) (by omega)
      rw [Near_f a _ ha ⟨by omega, by omega⟩]
      unfold nearS; rw [if_neg (by omega)]; rfl

theorem rRound_l (a : Int) (ha : I64 a) (s : Nat) (hs : s ≤ 62) : ∀ (d i : Nat), i + d = s → Ev (fun k => heraldref02_Round.l0 k a s (2 ^ i) i) (near a (2 ^ s), 0) := by
  intro d
  induction d with
  | zero =>
    intro i hi
    obtain rfl : i = s := by omega
    have hp := pow_in (s := (i : Int)) (by omega) (by omega)
    simp only [Int.toNat_natCast] at hp
    refine Ev.step (f := fun _ => some (near a (2 ^ i), 0)) (fun k => ?_) (Ev.now _)
    simp only [heraldref02_Round.l0]
    rw [if_neg (by omega), rNear_f a _ ha ⟨by omega, by omega⟩]
    unfold nearS; rw [if_neg (by omega)]; rfl
  | succ d ih =>
    intro i hi
    refine Ev.step (fun k => ?_) (ih (i + 1) (by omega))
    have hp := pow_in (s := ((i + 1 : Nat) : Int)) (by omega) (by omega)
    simp only [Int.toNat_natCast] at hp
    simp only [heraldref02_Round.l0]
    rw [if_pos (by omega), ← Int.pow_succ, wrap64_id' (by omega) (by omega), wrap64_id' (by omega) (by omega)]
    rfl
theorem rRound_f (a s : Int) (ha : I64 a) : Ev (fun k => heraldref02_Round.f k a s) (roundS a s) := by
  unfold heraldref02_Round.f roundS
  by_cases h : s < 0
  · simp only [h, true_or, if_true]
    exact Ev.step (fun k => by simp only [heraldref02_Round.j0, if_true]) (Ev.now _)
  · by_cases h' : s > 62
    · simp only [h, h', decide_true, or_true, if_true, if_false]
      exact Ev.step (fun k => by simp only [heraldref02_Round.j0, if_true]) (Ev.now _)
    · obtain ⟨n, rfl⟩ := Int.eq_ofNat_of_zero_le (show 0 ≤ s by omega)
      simp only [h, h', decide_false, or_self, if_false]
      refine Ev.step (fun k => ?_) (rRound_l a ha n (by omega) n 0 (by omega))
      simp only [heraldref02_Round.j0]; rfl

def clamp (x lo hi : Int) : Int := if x < lo then lo else if x > hi then hi else x
def narrow (x : Int) : Int := clamp x (-127) 127
theorem narrow_in (x : Int) : -127 ≤ narrow x ∧ narrow x ≤ 127 := by
  unfold narrow clamp; repeat' split
  all_goals omega
theorem narrow_i8 (x : Int) : IntKind.i8.wrap (clamp x (-127) 127) = narrow x := by
  have h := narrow_in x
  exact i8wrap_id ⟨by unfold narrow at h; omega, by unfold narrow at h; omega⟩

theorem Clamp_f (x lo hi : Int) : fixed_Clamp.f x lo hi = some (clamp x lo hi) := by
  unfold fixed_Clamp.f clamp; repeat' split
  all_goals rfl

theorem Narrow_f (x : Int) : fixed_Narrow.f x = some (narrow x) := by
  unfold fixed_Narrow.f; rw [Clamp_f]; simp only [Option.bind_some, narrow_i8]

theorem rClamp_f (x lo hi : Int) : heraldref02_Clamp.f x lo hi = some (clamp x lo hi) := by
  unfold heraldref02_Clamp.f clamp; repeat' split
  all_goals rfl

theorem rNarrow_f (x : Int) : heraldref02_Narrow.f x = some (narrow x) := by
  unfold heraldref02_Narrow.f; rw [rClamp_f]; simp only [Option.bind_some, narrow_i8]

theorem uwrap (n : Int) : IntKind.u64.wrap n = n % 18446744073709551616 := by
  have e2 : IntKind.bits .u64 = 64 := rfl
  have e3 : IntKind.signed .u64 = false := rfl
  simp only [IntKind.wrap, e2, e3, Bool.false_and, Bool.false_eq_true, if_false]
  rfl
theorem wrap64_def (n : Int) : wrap64 n = (n + 9223372036854775808) % 18446744073709551616 - 9223372036854775808 := by unfold wrap64; rfl
def addS (a b : Int) : Int × Bool := if -9223372036854775808 ≤ a + b ∧ a + b ≤ 9223372036854775807 then (a + b, true) else (0, false)
def mulS (a b : Int) : Int × Bool := if -9223372036854775808 ≤ a * b ∧ a * b ≤ 9223372036854775807 then (a * b, true) else (0, false)
theorem mulS_in {a b : Int} : I64 (mulS a b).1 := by
  unfold mulS; split
  · assumption
  · exact ⟨by decide, by decide⟩

def tot : List Int → Int → Int
  | [], s => s
  | x :: t, s => tot t (s + x)
def sumS (l : List Int) : Int × Bool := if -9223372036854775808 ≤ tot l 0 ∧ tot l 0 ≤ 9223372036854775807 then (tot l 0, true) else (0, false)
theorem and_mask (x : Int) : bits .and .i64 x 4294967295 = x % 4294967296 := by
  simp only [bits]
  have h : (BitVec.ofInt 64 x &&& BitVec.ofInt 64 4294967295).toNat = (x % 4294967296).toNat := by
    rw [BitVec.toNat_and]
    have e : (BitVec.ofInt 64 4294967295).toNat = 2 ^ 32 - 1 := rfl
    rw [e, Nat.and_two_pow_sub_one_eq_mod, BitVec.toNat_ofInt]
    omega
  show IntKind.i64.wrap ↑((BitVec.ofInt 64 x &&& BitVec.ofInt 64 4294967295).toNat) = x % 4294967296
  rw [h, IntKind.wrap_i64]; omega

/-- A number times x, so often. -/
def powGo (x : Int) : Nat → Int → Int × Bool
  | 0, out => (out, true)
  | m + 1, out => if -9223372036854775808 ≤ out * x ∧ out * x ≤ 9223372036854775807 then powGo x m (out * x) else (0, false)
def powS (x n : Int) : Int × Bool := if n < 0 then (0, false) else (if -1 ≤ x ∧ x ≤ 1 then (if n = 0 ∨ x = -1 ∧ n % 2 = 0 then (1, true) else (x, true)) else powGo x n.toNat 1)
theorem even_tmod (n : Int) : Int.tmod n 2 = 0 ↔ n % 2 = 0 := by
  have h := tmod_pos (a := n) (d := 2) (by omega)
  split at h <;> omega

def gcdS (a c : Int) : Int × Bool := if (Nat.gcd a.natAbs c.natAbs : Int) > 9223372036854775807 then (0, false) else ((Nat.gcd a.natAbs c.natAbs : Int), true)

def dotGo (a b : List Int) : Nat → Int
  | 0 => 0
  | i + 1 => dotGo a b i + rd a i * rd b i
def dotS (a b : List Int) : Int := dotGo a b a.length
theorem dotGo_in {a b : List Int} (ha : ∀ x ∈ a, I8 x) (hb : ∀ x ∈ b, I8 x) : ∀ i : Nat, -16384 * (i : Int) ≤ dotGo a b i ∧ dotGo a b i ≤ 16384 * (i : Int)
  | 0 => by simp [dotGo]
  | i + 1 => by
    have h := dotGo_in ha hb i
    have hm := i8_mul (rd_i8 ha i) (rd_i8 hb i)
    simp only [dotGo]; omega
theorem dot_wrap {a b : List Int} (ha : ∀ x ∈ a, I8 x) (hb : ∀ x ∈ b, I8 x) {i : Nat} (hi : i ≤ 1048576) : wrap64 (dotGo a b i + wrap64 (wrap64 (rd a i) * wrap64 (rd b i))) = dotGo a b (i + 1) := by
  have h := dotGo_in ha hb i
  have hm := i8_mul (rd_i8 ha i) (rd_i8 hb i)
  rw [wrap64_id (rd_i8 ha i).i64, wrap64_id (rd_i8 hb i).i64, wrap64_id' (x := rd a i * rd b i) (by omega) (by omega), wrap64_id' (by omega) (by omega)]
  rfl
/-- What a matrix may be wrong by. -/
def matrixS (n : Nat) (c : Int) : Int := if (n : Int) > 1048576 then 81 else if c < 1 then 80 else if (n : Int) % c = 0 then 0 else 80
theorem matrix_code (n : Nat) (c : Int) : (if (n : Int) > 1048576 then (some (81 : Int)) else (if c < 1 then (some 80) else (if c = 0 then (none) else (if ((n : Int) % c) = 0 then (some 0) else (some 80))))) = some (matrixS n c) := by
  unfold matrixS; repeat' split
  all_goals first | rfl | omega
theorem matrix_ok {n : Nat} {c : Int} (h : matrixS n c = 0) : n ≤ 1048576 ∧ 1 ≤ c ∧ (n : Int) % c = 0 := by
  unfold matrixS at h; split at h
  · omega
  · split at h
    · omega
    · split at h
      · exact ⟨by omega, by omega, by assumption⟩
      · omega
/-- The rows of a matrix: how many, and each one. -/
def rowOf (w : List Int) (n i : Nat) : List Int := (w.drop (i * n)).take n
theorem rowOf_len {w : List Int} {n i : Nat} (h : i < w.length / n) : (rowOf w n i).length = n := by
  unfold rowOf
  have h1 : (i + 1) * n ≤ w.length := Nat.le_trans (Nat.mul_le_mul_right n h) (Nat.div_mul_le_self _ _)
  rw [Nat.succ_mul] at h1
  simp; omega
theorem rowOf_mem {w : List Int} {n i : Nat} {x : Int} (h : x ∈ rowOf w n i) : x ∈ w := List.mem_of_mem_drop (List.mem_of_mem_take h)
theorem rowOf_cut {w : List Int} {n i : Nat} : (w.take (i * n + n)).drop (i * n) = rowOf w n i := by
  unfold rowOf; rw [List.drop_take]; congr 1; omega
def timesS (w : List Int) (c : Int) (x : List Int) : List Int × Int := if matrixS w.length c = 0 then (if (x.length : Int) = c then ((List.range (w.length / c.toNat)).map fun i => dotS (rowOf w c.toNat i) x, 0) else ([], 80)) else ([], matrixS w.length c)
theorem timesS_len (w : List Int) (c : Int) (x : List Int) : (timesS w c x).1.length ≤ w.length := by
  unfold timesS
  split
  · split
    · simp; exact Nat.div_le_self _ _
    · simp
  · simp

theorem matrix_f (w : List Int) (c : Int) : vec_matrix.f w c = some (matrixS w.length c) := by unfold vec_matrix.f; exact matrix_code _ _

theorem rMatrix_f (w : List Int) (c : Int) : heraldref08_Matrix.f w c = some (matrixS w.length c) := by unfold heraldref08_Matrix.f; exact matrix_code _ _

theorem dot_f (a b : List Int) (ha : ∀ x ∈ a, I8 x) (hb : ∀ x ∈ b, I8 x) (hn : a.length ≤ 1048576) (hab : a.length ≤ b.length) : Ev (fun k => vec_dot.f k a b) (dotS a b) := by
  unfold vec_dot.f
  refine ev_loop (fun k i => vec_dot.l0 k b (dotGo a b i) a a.length i) _ a.length (fun _ => True) trivial (fun _ => ?_) (fun i hi _ ih => ?_)
  · exact Ev.step (f := fun _ => some (dotS a b)) (fun k => by simp only [vec_dot.l0]; rw [if_neg (by omega)]; rfl) (Ev.now _)
  · refine Ev.step (fun k => ?_) (ih trivial)
    simp only [vec_dot.l0]
    rw [if_pos (by omega), if_pos (by omega), if_pos (by omega), if_pos (by omega), dot_wrap ha hb (by omega), wrap64_id' (x := (i : Int) + 1) (by omega) (by omega)]
    rfl

theorem rDot_f (a b : List Int) (ha : ∀ x ∈ a, I8 x) (hb : ∀ x ∈ b, I8 x) : Ev (fun k => heraldref08_Dot.f k a b) (if a.length > 1048576 ∨ b.length > 1048576 then (0, 81) else if a.length = b.length then (dotS a b, 0) else (0, 80)) := by
  unfold heraldref08_Dot.f
  by_cases h1 : a.length > 1048576
  · simp only [show (a.length : Int) > 1048576 by omega, h1, true_or, if_true]
    exact Ev.step (fun k => by simp only [heraldref08_Dot.j0, if_true]) (Ev.now _)
  · by_cases h2 : b.length > 1048576
    · simp only [show ¬ (a.length : Int) > 1048576 by omega, show (b.length : Int) > 1048576 by omega, h2, or_true, if_true, if_false, decide_true]
      exact Ev.step (fun k => by simp only [heraldref08_Dot.j0, if_true]) (Ev.now _)
    · simp only [show ¬ (a.length : Int) > 1048576 by omega, show ¬ (b.length : Int) > 1048576 by omega, h1, h2, or_self, if_false, decide_false]
      by_cases h3 : a.length = b.length
      · rw [if_pos h3]
        refine Ev.step (f := fun k => heraldref08_Dot.l0 k a b 0 a.length 0) (fun k => by simp only [heraldref08_Dot.j0, Bool.false_eq_true, if_false]; rw [if_pos (by omega)]) ?_
        refine ev_loop (fun k i => heraldref08_Dot.l0 k a b (dotGo a b i) a.length i) _ a.length (fun _ => True) trivial (fun _ => ?_) (fun i hi _ ih => ?_)
        · exact Ev.step (f := fun _ => some (dotS a b, 0)) (fun k => by simp only [heraldref08_Dot.l0]; rw [if_neg (by omega)]; rfl) (Ev.now _)
        · refine Ev.step (fun k => ?_) (ih trivial)
          simp only [heraldref08_Dot.l0]
          rw [if_pos (by omega), if_pos (by omega), if_pos (by omega), if_pos (by omega), dot_wrap ha hb (by omega), wrap64_id' (x := (i : Int) + 1) (by omega) (by omega)]
          rfl
      · rw [if_neg h3]
        exact Ev.step (f := fun _ => some (0, 80)) (fun k => by simp only [heraldref08_Dot.j0, Bool.false_eq_true, if_false]; rw [if_neg (by omega)]) (Ev.now _)

theorem rowsDots_f (w x : List Int) (n : Nat) (hw : ∀ x ∈ w, I8 x) (hx : ∀ y ∈ x, I8 y) (hn : x.length = n) (hl : w.length ≤ 1048576) : ∀ j : Nat, j ≤ w.length / n → Ev (fun k => rowsDots k w x n j) ((List.range j).map fun i => dotS (rowOf w n i) x)
  | 0, _ => by simp only [rowsDots]; exact Ev.now _
  | j + 1, h => by
    simp only [rowsDots]
    refine Ev.bind (rowsDots_f w x n hw hx hn hl j (by omega)) ?_
    have hr := rowOf_len (w := w) (n := n) (i := j) (by omega)
    have hlen : (rowOf w n j).length ≤ w.length := by unfold rowOf; simp; omega
    refine Ev.bind (dot_f (rowOf w n j) x (fun y hy => hw y (rowOf_mem hy)) hx (by omega) (by omega)) ?_
    rw [rng_snoc]; exact Ev.now _
theorem Times_f (w : List Int) (c : Int) (x : List Int) (hw : ∀ x ∈ w, I8 x) (hx : ∀ y ∈ x, I8 y) : Ev (fun k => vec_Times.f k w c x) (timesS w c x) := by
  unfold vec_Times.f timesS
  rw [matrix_f]; simp only [Option.bind_some]
  by_cases h : matrixS w.length c = 0
  · obtain ⟨h1, h2, h3⟩ := matrix_ok h
    rw [if_pos h]; simp only [h, if_true]
    by_cases h4 : (x.length : Int) = c
    · simp only [h4, if_true]
      exact Ev.bind (rowsDots_f w x c.toNat hw hx (by omega) h1 _ (Nat.le_refl _)) (Ev.now _)
    · simp only [h4, if_false]; exact Ev.now _
  · rw [if_neg h]; simp only [h, if_false]; exact Ev.now _

theorem rTimes_f (w : List Int) (c : Int) (x : List Int) (hw : ∀ x ∈ w, I8 x) (hx : ∀ y ∈ x, I8 y) : Ev (fun k => heraldref08_Times.f k w c x) (timesS w c x) := by
  unfold heraldref08_Times.f timesS
  rw [rMatrix_f]; simp only [Option.bind_some]
  by_cases h : matrixS w.length c = 0
  · obtain ⟨h1, h2, h3⟩ := matrix_ok h
    rw [if_pos h]; simp only [h, if_true]
    by_cases h4 : (x.length : Int) = c
    · simp only [h4, if_true]
      obtain ⟨n, rfl⟩ : ∃ n : Nat, c = n := ⟨c.toNat, by omega⟩
      simp only [Int.toNat_natCast]
      have hT : w.length / n * n = w.length := Nat.div_mul_cancel (Nat.dvd_of_mod_eq_zero (by omega))
      have hq : w.length / n ≤ w.length := Nat.div_le_self _ _
      have := ev_loop (fun k i => heraldref08_Times.l0 k w n x ((List.range i).map fun i => dotS (rowOf w n i) x) ((i * n : Nat) : Int)) ((List.range (w.length / n)).map fun i => dotS (rowOf w n i) x, 0) (w.length / n) (fun _ => True) trivial (fun _ => ?_) (fun i hi _ ih => ?_)
      · simpa using this
      · refine Ev.step (f := fun _ => some _) (fun k => ?_) (Ev.now _)
        simp only [heraldref08_Times.l0]; rw [if_neg (by omega)]
      · have hlt : (i + 1) * n ≤ w.length := by rw [← hT]; exact Nat.mul_le_mul_right n hi
        have e : (i + 1) * n = i * n + n := Nat.succ_mul i n
        have hr := rowOf_len (w := w) (n := n) hi
        refine Ev.step (f := fun k => (heraldref08_Dot.f k (rowOf w n i) x).bind fun bt => heraldref08_Times.l0 k w n x (((List.range i).map fun i => dotS (rowOf w n i) x) ++ [bt.1]) (((i + 1) * n : Nat) : Int)) (fun k => ?_) ?_
        · simp only [heraldref08_Times.l0]
          rw [if_pos (by omega), if_pos (by omega), wrap64_id' (x := ((i * n : Nat) : Int) + (n : Int)) (by omega) (by omega), if_pos (by omega), if_pos (by omega)]
          rw [show (((i * n : Nat) : Int) + (n : Int)).toNat = i * n + n by omega, Int.toNat_natCast, rowOf_cut]
          simp only [List.length_map, List.length_range, show i < 17592186044416 by omega, if_true]
          rw [show ((i * n : Nat) : Int) + (n : Int) = (((i + 1) * n : Nat) : Int) by omega]
        · refine Ev.bind (rDot_f (rowOf w n i) x (fun y hy => hw y (rowOf_mem hy)) hx) ?_
          rw [if_neg (by omega), if_pos (by omega)]
          have := ih trivial
          rw [rng_snoc] at this; exact this
    · simp only [h4, if_false]; exact Ev.now _
  · rw [if_neg h]; simp only [h, if_false]; exact Ev.now _

theorem same64_ev (a : List Int) (ha : a.length ≤ 4611686018427387904) : Ev (fun k => heraldlaw08_same_int64.f k a a) true := by
  unfold heraldlaw08_same_int64.f; simp only [if_true]
  refine ev_loop (fun k i => heraldlaw08_same_int64.l0 k a a a.length i) _ a.length (fun _ => True) trivial (fun _ => ?_) (fun i hi _ ih => ?_)
  · exact Ev.step (fun k => by simp only [heraldlaw08_same_int64.l0]; rw [if_neg (by omega)]) (Ev.now _)
  · refine Ev.step (fun k => ?_) (ih trivial)
    simp only [heraldlaw08_same_int64.l0]
    rw [if_pos (by omega), if_pos (by omega), if_pos (by omega), if_pos (by omega), if_pos trivial, wrap64_id' (by omega) (by omega)]; rfl

theorem same8_ev (a : List Int) (ha : a.length ≤ 4611686018427387904) : Ev (fun k => heraldlaw08_same_int8.f k a a) true := by
  unfold heraldlaw08_same_int8.f; simp only [if_true]
  refine ev_loop (fun k i => heraldlaw08_same_int8.l0 k a a a.length i) _ a.length (fun _ => True) trivial (fun _ => ?_) (fun i hi _ ih => ?_)
  · exact Ev.step (fun k => by simp only [heraldlaw08_same_int8.l0]; rw [if_neg (by omega)]) (Ev.now _)
  · refine Ev.step (fun k => ?_) (ih trivial)
    simp only [heraldlaw08_same_int8.l0]
    rw [if_pos (by omega), if_pos (by omega), if_pos (by omega), if_pos (by omega), if_pos trivial, wrap64_id' (by omega) (by omega)]; rfl

theorem rows64_ev (a : List (List Int)) (ha : a.length ≤ 4611686018427387904) (he : ∀ x ∈ a, x.length ≤ 4611686018427387904) : Ev (fun k => heraldlaw08_rows_int64.f k a a) true := by
  unfold heraldlaw08_rows_int64.f; simp only [if_true]
  refine ev_loop (fun k i => heraldlaw08_rows_int64.l0 k a a a.length i) _ a.length (fun _ => True) trivial (fun _ => ?_) (fun i hi _ ih => ?_)
  · exact Ev.step (fun k => by simp only [heraldlaw08_rows_int64.l0]; rw [if_neg (by omega)]) (Ev.now _)
  · refine Ev.step (f := fun k => (heraldlaw08_same_int64.f k (rd_L3 a i) (rd_L3 a i)).bind fun t => if t = true then heraldlaw08_rows_int64.l0 k a a a.length ((i + 1 : Nat) : Int) else some false) (fun k => ?_) ?_
    · simp only [heraldlaw08_rows_int64.l0]
      rw [if_pos (by omega), if_pos (by omega), if_pos (by omega), if_pos (by omega), wrap64_id' (by omega) (by omega)]; rfl
    · refine Ev.bind (same64_ev _ ?_) ?_
      · have e : rd_L3 a (i : Int) = a[i] := by unfold rd_L3; simp [List.getD_eq_getElem?_getD, hi]
        rw [e]; exact he _ (List.getElem_mem hi)
      · simp only [if_true]; exact ih trivial

theorem awake_ev : Ev (fun k => heraldlaw08_awake.f k) true := Ev.of (k := 100) heraldlaw08_awake.mono (by decide +kernel)

/-- Times of each row from place i on, collected; or the first one's error. -/
def batchGo (w : List Int) (c : Int) (xs : List (List Int)) : Nat → List (List Int) × Int
  | 0 => ([], 0)
  | i + 1 => if (batchGo w c xs i).2 = 0 then (if (timesS w c (xs.getD i [])).2 = 0 then ((batchGo w c xs i).1 ++ [(timesS w c (xs.getD i [])).1], 0) else ([], (timesS w c (xs.getD i [])).2)) else batchGo w c xs i
def batchS (w : List Int) (c : Int) (xs : List (List Int)) : List (List Int) × Int := if matrixS w.length c = 0 then batchGo w c xs xs.length else ([], matrixS w.length c)
theorem batchGo_len (w : List Int) (c : Int) (xs : List (List Int)) : ∀ i, (batchGo w c xs i).1.length ≤ i ∧ ∀ x ∈ (batchGo w c xs i).1, x.length ≤ w.length
  | 0 => by simp [batchGo]
  | i + 1 => by
    obtain ⟨h1, h2⟩ := batchGo_len w c xs i
    simp only [batchGo]
    split
    · split
      · refine ⟨by simp; omega, fun x hx => ?_⟩
        rcases List.mem_append.mp hx with h | h
        · exact h2 x h
        · simp at h; subst h; exact timesS_len _ _ _
      · simp
    · exact ⟨by omega, h2⟩
theorem batchGo_bad (w : List Int) (c : Int) (xs : List (List Int)) {i : Nat} (h : (batchGo w c xs i).2 ≠ 0) : ∀ d, batchGo w c xs (i + d) = batchGo w c xs i
  | 0 => rfl
  | d + 1 => by rw [← Nat.add_assoc, batchGo, batchGo_bad w c xs h d, if_neg h]
theorem batchS_len (w : List Int) (c : Int) (xs : List (List Int)) : (batchS w c xs).1.length ≤ xs.length ∧ ∀ x ∈ (batchS w c xs).1, x.length ≤ w.length := by
  unfold batchS; split
  · exact batchGo_len w c xs _
  · simp

theorem Batch_f (w : List Int) (c : Int) (xs : List (List Int)) (hw : ∀ x ∈ w, I8 x) (hx : ∀ x ∈ xs, ∀ y ∈ x, I8 y) (hl : xs.length < 5864062014805) : Ev (fun k => vec_Batch.f k w c xs) (batchS w c xs) := by
  unfold vec_Batch.f batchS
  rw [matrix_f]; simp only [Option.bind_some]
  by_cases h : matrixS w.length c = 0
  · rw [if_pos h]; simp only [h, if_true]
    refine ev_loop (fun k i => vec_Batch.l0 k w c (batchGo w c xs i).1 xs xs.length i) _ xs.length (fun i => (batchGo w c xs i).2 = 0) rfl (fun hp => ?_) (fun i hi hp ih => ?_)
    · refine Ev.step (f := fun _ => some (batchGo w c xs xs.length)) (fun k => ?_) (Ev.now _)
      simp only [vec_Batch.l0]; rw [if_neg (by omega), ← hp]
    · have e : rd_L1 xs (i : Int) = xs.getD i [] := by unfold rd_L1; simp
      have hm : ∀ y ∈ xs.getD i [], I8 y := by
        rw [List.getD_eq_getElem?_getD, List.getElem?_eq_getElem hi]; exact hx _ (List.getElem_mem hi)
      have hlen := (batchGo_len w c xs i).1
      refine Ev.step (f := fun k => (vec_Times.f k w c (xs.getD i [])).bind fun bt => if bt.2 = 0 then vec_Batch.l0 k w c ((batchGo w c xs i).1 ++ [bt.1]) xs xs.length ((i + 1 : Nat) : Int) else some (([] : List (List Int)), bt.2)) (fun k => ?_) ?_
      · simp only [vec_Batch.l0, e]
        rw [if_pos (by omega), if_pos (by omega), if_pos (by omega), wrap64_id' (by omega) (by omega)]
        simp only [show (batchGo w c xs i).1.length < 5864062014805 by omega, if_true]; rfl
      · refine Ev.bind (Times_f _ _ _ hw hm) ?_
        by_cases h0 : (timesS w c (xs.getD i [])).2 = 0
        · have e2 : batchGo w c xs (i + 1) = ((batchGo w c xs i).1 ++ [(timesS w c (xs.getD i [])).1], 0) := by simp only [batchGo]; rw [if_pos hp, if_pos h0]
          simp only [h0, if_true]
          have := ih (by rw [e2])
          rw [e2] at this; exact this
        · have e2 : batchGo w c xs (i + 1) = ([], (timesS w c (xs.getD i [])).2) := by simp only [batchGo]; rw [if_pos hp, if_neg h0]
          have e3 := batchGo_bad w c xs (i := i + 1) (by rw [e2]; exact h0) (xs.length - (i + 1))
          rw [show i + 1 + (xs.length - (i + 1)) = xs.length by omega] at e3
          simp only [h0, if_false]; rw [e3, e2]; exact Ev.now _
  · rw [if_neg h]; simp only [h, if_false]; exact Ev.now _

theorem rBatch_f (w : List Int) (c : Int) (xs : List (List Int)) (hw : ∀ x ∈ w, I8 x) (hx : ∀ x ∈ xs, ∀ y ∈ x, I8 y) (hl : xs.length < 5864062014805) : Ev (fun k => heraldref08_Batch.f k w c xs) (batchS w c xs) := by
  unfold heraldref08_Batch.f batchS
  rw [rMatrix_f]; simp only [Option.bind_some]
  by_cases h : matrixS w.length c = 0
  · rw [if_pos h]; simp only [h, if_true]
    refine ev_loop (fun k i => heraldref08_Batch.l0 k w c (batchGo w c xs i).1 xs xs.length i) _ xs.length (fun i => (batchGo w c xs i).2 = 0) rfl (fun hp => ?_) (fun i hi hp ih => ?_)
    · refine Ev.step (f := fun _ => some (batchGo w c xs xs.length)) (fun k => ?_) (Ev.now _)
      simp only [heraldref08_Batch.l0]; rw [if_neg (by omega), ← hp]
    · have e : rd_L1 xs (i : Int) = xs.getD i [] := by unfold rd_L1; simp
      have hm : ∀ y ∈ xs.getD i [], I8 y := by
        rw [List.getD_eq_getElem?_getD, List.getElem?_eq_getElem hi]; exact hx _ (List.getElem_mem hi)
      have hlen := (batchGo_len w c xs i).1
      refine Ev.step (f := fun k => (heraldref08_Times.f k w c (xs.getD i [])).bind fun bt => if bt.2 = 0 then heraldref08_Batch.l0 k w c ((batchGo w c xs i).1 ++ [bt.1]) xs xs.length ((i + 1 : Nat) : Int) else some (([] : List (List Int)), bt.2)) (fun k => ?_) ?_
      · simp only [heraldref08_Batch.l0, e]
        rw [if_pos (by omega), if_pos (by omega), if_pos (by omega), wrap64_id' (by omega) (by omega)]
        simp only [show (batchGo w c xs i).1.length < 5864062014805 by omega, if_true]; rfl
      · refine Ev.bind (rTimes_f _ _ _ hw hm) ?_
        by_cases h0 : (timesS w c (xs.getD i [])).2 = 0
        · have e2 : batchGo w c xs (i + 1) = ((batchGo w c xs i).1 ++ [(timesS w c (xs.getD i [])).1], 0) := by simp only [batchGo]; rw [if_pos hp, if_pos h0]
          simp only [h0, if_true]
          have := ih (by rw [e2])
          rw [e2] at this; exact this
        · have e2 : batchGo w c xs (i + 1) = ([], (timesS w c (xs.getD i [])).2) := by simp only [batchGo]; rw [if_pos hp, if_neg h0]
          have e3 := batchGo_bad w c xs (i := i + 1) (by rw [e2]; exact h0) (xs.length - (i + 1))
          rw [show i + 1 + (xs.length - (i + 1)) = xs.length by omega] at e3
          simp only [h0, if_false]; rw [e3, e2]; exact Ev.now _
  · rw [if_neg h]; simp only [h, if_false]; exact Ev.now _

theorem fit64_one (l : List Int) : Ev (fun k => vec_fit_int64.f k [l]) (if l.length > 1048576 then 81 else 0) := by
  have w1 : wrap64 1 = 1 := by unfold wrap64; rfl
  unfold vec_fit_int64.f
  by_cases h : l.length > 1048576
  · rw [if_pos h]
    refine Ev.step (f := fun _ => some 81) (fun k => ?_) (Ev.now _)
    have h' : (1048576 : Int) < l.length := by omega
    simp [vec_fit_int64.l0, rd_L3, h']
  · rw [if_neg h]
    refine Ev.step (f := fun k => vec_fit_int64.l0 k [l] [l] 1 1) (fun k => ?_) ?_
    · have h' : ¬ (1048576 : Int) < l.length := by omega
      simp [vec_fit_int64.l0, rd_L3, w1, h']
    · refine Ev.step (f := fun k => vec_fit_int64.l1 k [l] [l] 1 0) (fun k => ?_) ?_
      · simp [vec_fit_int64.l0]
      · refine Ev.step (f := fun k => vec_fit_int64.l1 k [l] [l] 1 1) (fun k => ?_) ?_
        · simp [vec_fit_int64.l1, rd_L3, w1]
        · exact Ev.step (f := fun _ => some 0) (fun k => by simp [vec_fit_int64.l1]) (Ev.now _)
theorem fit64_two (l m : List Int) : Ev (fun k => vec_fit_int64.f k [l, m]) (if l.length > 1048576 ∨ m.length > 1048576 then 81 else if l.length = m.length then 0 else 80) := by
  have w1 : wrap64 1 = 1 := by unfold wrap64; rfl
  have w2 : wrap64 2 = 2 := by unfold wrap64; rfl
  unfold vec_fit_int64.f
  by_cases h : l.length > 1048576
  · rw [if_pos (Or.inl h)]
    refine Ev.step (f := fun _ => some 81) (fun k => ?_) (Ev.now _)
    have h' : (1048576 : Int) < l.length := by omega
    simp [vec_fit_int64.l0, rd_L3, h']
  · refine Ev.step (f := fun k => vec_fit_int64.l0 k [l, m] [l, m] 2 1) (fun k => ?_) ?_
    · have h' : ¬ (1048576 : Int) < l.length := by omega
      simp [vec_fit_int64.l0, rd_L3, w1, h']
    · by_cases h2 : m.length > 1048576
      · rw [if_pos (Or.inr h2)]
        refine Ev.step (f := fun _ => some 81) (fun k => ?_) (Ev.now _)
        have h' : (1048576 : Int) < m.length := by omega
        simp [vec_fit_int64.l0, rd_L3, h']
      · rw [if_neg (by omega)]
        refine Ev.step (f := fun k => vec_fit_int64.l0 k [l, m] [l, m] 2 2) (fun k => ?_) ?_
        · have h' : ¬ (1048576 : Int) < m.length := by omega
          simp [vec_fit_int64.l0, rd_L3, w2, h']
        · refine Ev.step (f := fun k => vec_fit_int64.l1 k [l, m] [l, m] 2 0) (fun k => ?_) ?_
          · simp [vec_fit_int64.l0]
          · refine Ev.step (f := fun k => vec_fit_int64.l1 k [l, m] [l, m] 2 1) (fun k => ?_) ?_
            · simp [vec_fit_int64.l1, rd_L3, w1]
            · by_cases h3 : l.length = m.length
              · rw [if_pos h3]
                refine Ev.step (f := fun k => vec_fit_int64.l1 k [l, m] [l, m] 2 2) (fun k => ?_) ?_
                · simp [vec_fit_int64.l1, rd_L3, w2, h3]
                · exact Ev.step (f := fun _ => some 0) (fun k => by simp [vec_fit_int64.l1]) (Ev.now _)
              · rw [if_neg h3]
                refine Ev.step (f := fun _ => some 80) (fun k => ?_) (Ev.now _)
                have h4 : ¬ (m.length : Int) = (l.length : Int) := by omega
                have h5 : ¬ m.length = l.length := by omega
                simp [vec_fit_int64.l1, rd_L3, h4, h5]

theorem shl_pow {x : Int} {s : Nat} (hs : s ≤ 55) (hx : I8 x) : shl .i64 x s = x * 2 ^ s ∧ I64 (x * 2 ^ s) := by
  have hp : (2 : Nat) ^ s ≤ 2 ^ 55 := Nat.pow_le_pow_right (by decide) hs
  have hp' : ((2 ^ s : Nat) : Int) ≤ ((2 ^ 55 : Nat) : Int) := by exact_mod_cast hp
  have h0 : (0 : Int) < 2 ^ s := Int.pow_pos (by omega)
  simp only [Int.natCast_pow, Int.cast_ofNat_Int] at hp'
  have e : (x * 2 ^ s).natAbs = x.natAbs * ((2 : Int) ^ s).natAbs := Int.natAbs_mul _ _
  unfold I8 at hx
  have hm : x.natAbs * ((2 : Int) ^ s).natAbs ≤ 128 * 36028797018963968 := Nat.mul_le_mul (by omega) (by omega)
  have hI : I64 (x * 2 ^ s) := ⟨by omega, by omega⟩
  refine ⟨?_, hI⟩
  have e0 : IntKind.bits .i64 = 64 := rfl
  have e1 : min (s : Int).toNat (IntKind.bits .i64) = s := by rw [e0]; simp; omega
  unfold shl
  rw [e1, i64wrap_eq, wrap64_id hI]
theorem u64_id {x : Int} (h0 : 0 ≤ x) (h1 : x < 18446744073709551616) : IntKind.u64.wrap x = x := by
  simp only [IntKind.wrap, IntKind.bits, IntKind.signed]; simp; omega
def widenS (l : List Int) (s : Int) : List Int × Int := if l.length > 1048576 then ([], 81) else if s < 0 ∨ s > 55 then ([], 20) else ((List.range l.length).map fun i : Nat => rd l i * 2 ^ s.toNat, 0)
def scaleS (l : List Int) (s : Int) : List Int × Int := if l.length > 1048576 then ([], 81) else if s < 0 ∨ s > 62 then ([], 20) else ((List.range l.length).map fun i : Nat => (roundS (rd l i) s).1, 0)
def shrinkS (l : List Int) (s : Int) : List Int × Int := ((List.range (scaleS l s).1.length).map fun i : Nat => narrow (rd (scaleS l s).1 i), (scaleS l s).2)
theorem widenS_len (l : List Int) (s : Int) : (widenS l s).1.length ≤ l.length := by
  unfold widenS; repeat' split
  all_goals simp
theorem scaleS_len (l : List Int) (s : Int) : (scaleS l s).1.length ≤ l.length ∧ (scaleS l s).1.length ≤ 1048576 := by
  unfold scaleS; repeat' split
  all_goals (simp; try omega)
theorem shrinkS_len (l : List Int) (s : Int) : (shrinkS l s).1.length ≤ l.length ∧ (shrinkS l s).1.length ≤ 1048576 := by
  unfold shrinkS; have := scaleS_len l s; simp; omega
theorem rd_i64 {l : List Int} (h : ∀ x ∈ l, I64 x) (i : Int) : I64 (rd l i) := rd_all h ⟨by omega, by omega⟩ i

theorem Scale_f (l : List Int) (s : Int) (hl : ∀ x ∈ l, I64 x) : Ev (fun k => vec_Scale.f k l s) (scaleS l s) := by
  unfold vec_Scale.f scaleS
  refine Ev.bind (fit64_one l) ?_
  by_cases h : l.length > 1048576
  · simp only [h, if_true]; exact Ev.now _
  · simp only [h, if_false, if_true, Round_f 0 s ⟨by omega, by omega⟩, Option.bind_some]
    by_cases h0 : s < 0 ∨ s > 62
    · simp only [roundS, h0, if_true]; exact Ev.now _
    · have hr : (roundS 0 s).2 = 0 := by unfold roundS; rw [if_neg h0]
      simp only [hr, h0, if_false, if_true, show (0 : Int) ≤ (l.length : Int) by omega, Int.toNat_natCast, show l.length ≤ 35184372088832 by omega]
      have := ev_loop (fun k i => vec_Scale.l0 k s ((List.range i).map (fun i : Nat => (roundS (rd l i) s).1) ++ List.replicate (l.length - i) 0) l l.length i) ((List.range l.length).map (fun i : Nat => (roundS (rd l i) s).1), 0) l.length (fun _ => True) trivial (fun _ => ?_) (fun i hi _ ih => ?_)
      · simpa using this
      · refine Ev.step (f := fun _ => some _) (fun k => ?_) (Ev.now _)
        simp only [vec_Scale.l0]; rw [if_neg (by omega)]; simp
      · refine Ev.step (fun k => ?_) (ih trivial)
        simp only [vec_Scale.l0]
        rw [if_pos (by omega), if_pos (by omega), if_pos (by omega), Round_f _ _ (rd_i64 hl i)]
        simp only [Option.bind_some]
        rw [if_pos (by simp; omega), wrap64_id' (x := (i : Int) + 1) (by omega) (by omega), Int.toNat_natCast, rng_set (g := fun i : Nat => (roundS (rd l i) s).1) hi]
        rfl

theorem Shrink_f (l : List Int) (s : Int) (hl : ∀ x ∈ l, I64 x) : Ev (fun k => vec_Shrink.f k l s) (shrinkS l s) := by
  unfold vec_Shrink.f
  refine Ev.bind (Scale_f l s hl) ?_
  have hn := scaleS_len l s
  by_cases h : (scaleS l s).2 = 0
  · simp only [h, if_true, show (0 : Int) ≤ ((scaleS l s).1.length : Int) by omega, Int.toNat_natCast, show (scaleS l s).1.length ≤ 281474976710656 by omega]
    unfold shrinkS
    rw [h]
    generalize (scaleS l s).1 = m at *
    have := ev_loop (fun k i => vec_Shrink.l0 k ((List.range i).map (fun i : Nat => narrow (rd m i)) ++ List.replicate (m.length - i) 0) m m.length i) ((List.range m.length).map (fun i : Nat => narrow (rd m i)), 0) m.length (fun _ => True) trivial (fun _ => ?_) (fun i hi _ ih => ?_)
    · simpa using this
    · refine Ev.step (f := fun _ => some _) (fun k => ?_) (Ev.now _)
      simp only [vec_Shrink.l0]; rw [if_neg (by omega)]; simp
    · refine Ev.step (fun k => ?_) (ih trivial)
      simp only [vec_Shrink.l0]
      rw [if_pos (by omega), if_pos (by omega), if_pos (by omega), Narrow_f]
      simp only [Option.bind_some]
      rw [if_pos (by simp; omega), wrap64_id' (x := (i : Int) + 1) (by omega) (by omega), Int.toNat_natCast, rng_set (g := fun i : Nat => narrow (rd m i)) hi]
      rfl
  · simp only [h, if_false]
    have e : (scaleS l s).1 = [] := by
      unfold scaleS at h ⊢; repeat' split
      · rfl
      · rfl
      · rename_i h1 h2; rw [if_neg h1, if_neg h2] at h; exact absurd rfl h
    unfold shrinkS; rw [e]; exact Ev.now _

/-! ### the shift of a group -/
def fit1 (s : Nat) (x : Int) : Bool := decide (-7 ≤ near x (2 ^ s) ∧ near x (2 ^ s) ≤ 7)
def fitB (l : List Int) (s : Nat) : Bool := l.all (fit1 s)
def shiftS (l : List Int) : Nat := if fitB l 0 then 0 else if fitB l 1 then 1 else if fitB l 2 then 2 else if fitB l 3 then 3 else if fitB l 4 then 4 else 5
theorem shiftS_le (l : List Int) : shiftS l ≤ 5 := by unfold shiftS; repeat' split
                                                      all_goals omega
/-- Everything on numbers of 8 bits that is looked at one by one. -/
theorem every {p : Int → Prop} [DecidablePred p] (h : ∀ x : Fin 256, p ((x.1 : Int) - 128)) {x : Int} (hx : I8 x) : p x := by
  unfold I8 at hx
  have := h ⟨(x + 128).toNat, by omega⟩
  have e : (((x + 128).toNat : Nat) : Int) - 128 = x := by omega
  rwa [e] at this
theorem fit1_five {x : Int} (hx : I8 x) : fit1 5 x = true := every (p := fun x => fit1 5 x = true) (by decide +kernel) hx
theorem fitB_five {l : List Int} (hl : ∀ x ∈ l, I8 x) : fitB l 5 = true := by
  unfold fitB; rw [List.all_eq_true]; exact fun x hx => fit1_five (hl x hx)
theorem shiftS_fits {l : List Int} (hl : ∀ x ∈ l, I8 x) : fitB l (shiftS l) = true := by
  unfold shiftS; repeat' split
  all_goals first | assumption | exact fitB_five hl
theorem shiftS_least {l : List Int} {s : Nat} (hs : s ≤ 5) (h : fitB l s = true) : shiftS l ≤ s := by
  unfold shiftS
  by_cases h0 : fitB l 0 = true
  · rw [if_pos h0]; omega
  · rw [if_neg h0]
    by_cases h1 : fitB l 1 = true
    · rw [if_pos h1]
      by_cases e : s = 0
      · subst e; exact absurd h h0
      · omega
    · rw [if_neg h1]
      by_cases h2 : fitB l 2 = true
      · rw [if_pos h2]
        by_cases e : s ≤ 1
        · rcases (show s = 0 ∨ s = 1 by omega) with e | e
          · subst e; exact absurd h h0
          · subst e; exact absurd h h1
        · omega
      · rw [if_neg h2]
        by_cases h3 : fitB l 3 = true
        · rw [if_pos h3]
          by_cases e : s ≤ 2
          · rcases (show s = 0 ∨ s = 1 ∨ s = 2 by omega) with e | e | e
            · subst e; exact absurd h h0
            · subst e; exact absurd h h1
            · subst e; exact absurd h h2
          · omega
        · rw [if_neg h3]
          by_cases h4 : fitB l 4 = true
          · rw [if_pos h4]
            by_cases e : s ≤ 3
            · rcases (show s = 0 ∨ s = 1 ∨ s = 2 ∨ s = 3 by omega) with e | e | e | e
              · subst e; exact absurd h h0
              · subst e; exact absurd h h1
              · subst e; exact absurd h h2
              · subst e; exact absurd h h3
            · omega
          · rw [if_neg h4]
            by_cases e : s ≤ 4
            · rcases (show s = 0 ∨ s = 1 ∨ s = 2 ∨ s = 3 ∨ s = 4 by omega) with e | e | e | e | e
              · subst e; exact absurd h h0
              · subst e; exact absurd h h1
              · subst e; exact absurd h h2
              · subst e; exact absurd h h3
              · subst e; exact absurd h h4
            · omega
theorem shiftS_eq {l : List Int} {s : Nat} (hl : ∀ x ∈ l, I8 x) (hs : s ≤ 5) (hn : ∀ t, t < s → fitB l t = false) (h : fitB l s = true) : shiftS l = s := by
  have h1 := shiftS_least hs h
  have h2 := shiftS_fits hl
  by_cases c : shiftS l < s
  · rw [hn _ c] at h2; cases h2
  · omega
theorem none_next {l : List Int} {s : Nat} (hn : ∀ t, t < s → fitB l t = false) (h : ¬ fitB l s = true) : ∀ t, t < s + 1 → fitB l t = false := by
  intro t ht
  by_cases e : t = s
  · subst e; simpa using h
  · exact hn t (by omega)
theorem flag_code {α : Type} (F : Bool → α) (b : Bool) (n : Int) : (if b = true then (if n ≥ (-7) then F (decide (n ≤ 7)) else F false) else F false) = F (b && decide (-7 ≤ n ∧ n ≤ 7)) := by
  cases b
  · simp
  · by_cases h : n ≥ -7
    · have h' : (-7 : Int) ≤ n := h
      simp [h, h']
    · have h' : ¬ (-7 : Int) ≤ n := h
      simp [h']
theorem fitB_take {l : List Int} {i s : Nat} (h : i < l.length) : fitB (l.take (i + 1)) s = (fitB (l.take i) s && fit1 s l[i]) := by
  unfold fitB; rw [take_one h, List.all_append]; simp
theorem roundS_small {x : Int} {s : Nat} (hs : s ≤ 62) : roundS x s = (near x (2 ^ s), 0) := by
  unfold roundS; rw [if_neg (by omega), Int.toNat_natCast]

/-! ### numbers in 4 bits each -/
def nibS (l : List Int) (g i : Nat) : Int := near (rd l i) (2 ^ shiftS (rowOf l g (i / g))) % 16
def hv (l : List Int) (g i h : Nat) : Int := (if 2 * h < i then nibS l g (2 * h) else 0) + 16 * (if 2 * h + 1 < i then nibS l g (2 * h + 1) else 0)
def shs (l : List Int) (g j : Nat) : List Int := (List.range j).map fun i => (shiftS (rowOf l g i) : Int)
def hvs (l : List Int) (g H i : Nat) : List Int := (List.range H).map (hv l g i)
theorem nibS_in (l : List Int) (g i : Nat) : 0 ≤ nibS l g i ∧ nibS l g i < 16 := by unfold nibS; omega
theorem hvs_len (l : List Int) (g H i : Nat) : (hvs l g H i).length = H := by simp [hvs]
theorem shs_len (l : List Int) (g j : Nat) : (shs l g j).length = j := by simp [shs]
theorem hvs_rd {l : List Int} {g H i h : Nat} (hh : h < H) : rd (hvs l g H i) (h : Int) = hv l g i h := by
  rw [rd_at (by simpa [hvs] using hh)]; simp [hvs]
theorem shs_rd {l : List Int} {g m j : Nat} (hj : j < m) : rd (shs l g m) (j : Int) = (shiftS (rowOf l g j) : Int) := by
  rw [rd_at (by simpa [shs] using hj)]; simp [shs]
theorem hvs_set {l : List Int} {g H i : Nat} {v : Int} (hv1 : v = hv l g (i + 1) (i / 2)) : (hvs l g H i).set (i / 2) v = hvs l g H (i + 1) := by
  subst hv1
  apply List.ext_getElem
  · simp [hvs]
  · intro h h1 h2
    rw [List.getElem_set]
    split
    · rename_i e; subst e; simp [hvs]
    · rename_i e
      simp only [hvs, List.getElem_map, List.getElem_range, hv]
      have e1 : (2 * h < i + 1) = (2 * h < i) := propext ⟨fun _ => by omega, fun _ => by omega⟩
      have e2 : (2 * h + 1 < i + 1) = (2 * h + 1 < i) := propext ⟨fun _ => by omega, fun _ => by omega⟩
      simp only [e1, e2]
theorem shs_snoc (l : List Int) (g j : Nat) : shs l g (j + 1) = shs l g j ++ [(shiftS (rowOf l g j) : Int)] := rng_snoc _ _
theorem hvs_zero (l : List Int) (g H : Nat) : hvs l g H 0 = List.replicate H 0 := by
  apply List.ext_getElem
  · simp [hvs]
  · intro h h1 h2; simp [hvs, hv]
theorem and15 (q : Int) : bits .and .i64 q 15 = q % 16 := by
  simp only [bits]
  have h : (BitVec.ofInt 64 q &&& BitVec.ofInt 64 15).toNat = (q % 16).toNat := by
    rw [BitVec.toNat_and]
    have e : (BitVec.ofInt 64 15).toNat = 2 ^ 4 - 1 := rfl
    rw [e, Nat.and_two_pow_sub_one_eq_mod, BitVec.toNat_ofInt]
    omega
  show IntKind.i64.wrap ↑((BitVec.ofInt 64 q &&& BitVec.ofInt 64 15).toNat) = q % 16
  rw [h, IntKind.wrap_i64]; omega
theorem or16 {a m : Int} (ha : 0 ≤ a ∧ a < 16) (hm : 0 ≤ m ∧ m < 16) : bits .or .u8 a (16 * m) = a + 16 * m := by
  have key : ∀ a m : Fin 16, bits .or .u8 (a.1 : Int) (16 * (m.1 : Int)) = (a.1 : Int) + 16 * (m.1 : Int) := by decide +kernel
  have := key ⟨a.toNat, by omega⟩ ⟨m.toNat, by omega⟩
  rwa [show ((a.toNat : Nat) : Int) = a by omega, show ((m.toNat : Nat) : Int) = m by omega] at this
theorem or0 {m : Int} (hm : 0 ≤ m ∧ m < 16) : bits .or .u8 0 m = m := by
  have key : ∀ m : Fin 16, bits .or .u8 0 (m.1 : Int) = (m.1 : Int) := by decide +kernel
  have := key ⟨m.toNat, by omega⟩
  rwa [show ((m.toNat : Nat) : Int) = m by omega] at this
theorem half_i (i : Nat) (hi : i ≤ 1048577) : wrap64 (Int.tdiv (i : Int) 2) = ((i / 2 : Nat) : Int) := by
  rw [Int.tdiv_eq_ediv_of_nonneg (by omega), wrap64_id' (by omega) (by omega)]; omega
theorem four_i (i : Nat) (hi : i ≤ 1048577) : wrap64 (4 * Int.tmod (i : Int) 2) = 4 * ((i % 2 : Nat) : Int) := by
  rw [Int.tmod_eq_emod_of_nonneg (by omega), wrap64_id' (by omega) (by omega)]; omega
theorem shl_nib {n : Int} (hn : 0 ≤ n ∧ n < 16) (i : Nat) : shl .u8 (n % 256) (4 * ((i % 2 : Nat) : Int)) = if i % 2 = 0 then n else 16 * n := by
  unfold shl
  have e0 : IntKind.bits .u8 = 8 := rfl
  rw [e0]
  by_cases h : i % 2 = 0
  · rw [if_pos h, h]; simp [IntKind.wrap, IntKind.bits, IntKind.signed]; omega
  · have h1 : i % 2 = 1 := by omega
    rw [if_neg h, h1]; simp [IntKind.wrap, IntKind.bits, IntKind.signed]; omega
/-- One number put into its half. -/
theorem hv_put (l : List Int) (g i : Nat) : bits .or .u8 (hv l g i (i / 2)) (if i % 2 = 0 then nibS l g i else 16 * nibS l g i) = hv l g (i + 1) (i / 2) := by
  unfold hv
  by_cases h : i % 2 = 0
  · have e : 2 * (i / 2) = i := by omega
    simp only [e, h, if_true, Nat.lt_irrefl, if_false, show ¬ i + 1 < i by omega, show i < i + 1 by omega, show ¬ i + 1 < i + 1 by omega]
    have := or0 (nibS_in l g i)
    simpa using this
  · have e : 2 * (i / 2) + 1 = i := by omega
    simp only [e, h, if_false, Nat.lt_irrefl, show 2 * (i / 2) < i by omega, show 2 * (i / 2) < i + 1 by omega, show i < i + 1 by omega, if_true]
    have := or16 (nibS_in l g (2 * (i / 2))) (nibS_in l g i)
    simpa using this
def packS (l : List Int) (c : Int) : Int × Int × List Int × List Int × Int := if l.length > 1048576 then (0, 0, [], [], 81) else if c < 1 ∨ c > 256 then (0, 0, [], [], 83) else (l.length, c, shs l c.toNat ((l.length + c.toNat - 1) / c.toNat), hvs l c.toNat ((l.length + 1) / 2) l.length, 0)
theorem rowOf_i8 {l : List Int} (hl : ∀ x ∈ l, I8 x) (g j : Nat) : ∀ x ∈ rowOf l g j, I8 x := fun x hx => hl x (rowOf_mem hx)
theorem rowOf_le (l : List Int) (g j : Nat) : (rowOf l g j).length ≤ l.length := by unfold rowOf; simp; omega
theorem rowOf_cut' {l : List Int} {g j tt : Nat} (h : tt = min (j * g + g) l.length) : (l.take tt).drop (j * g) = rowOf l g j := by
  subst h
  rw [← rowOf_cut]; congr 1
  by_cases c : j * g + g ≤ l.length
  · rw [Nat.min_eq_left c]
  · rw [Nat.min_eq_right (by omega), List.take_length, List.take_of_length_le (by omega)]

theorem ceil_le {n g : Nat} (hg : 1 ≤ g) : n ≤ (n + g - 1) / g * g := by
  have h := Nat.div_add_mod (n + g - 1) g
  have h2 := Nat.mod_lt (n + g - 1) (show 0 < g by omega)
  rw [Nat.mul_comm] at h; omega
theorem ceil_lt {n g j : Nat} (hg : 1 ≤ g) (h : j < (n + g - 1) / g) : j * g < n := by
  have h1 : (j + 1) * g ≤ n + g - 1 := (Nat.le_div_iff_mul_le (by omega)).mp h
  rw [Nat.succ_mul] at h1; omega
theorem mn_nat {a b : Nat} : mn (a : Int) (b : Int) = ((min a b : Nat) : Int) := by unfold mn; omega
theorem rowOf_has {l : List Int} {g i : Nat} (hg : 1 ≤ g) (hi : i < l.length) : l[i] ∈ rowOf l g (i / g) := by
  have h1 := Nat.div_add_mod i g
  rw [Nat.mul_comm] at h1
  have h2 := Nat.mod_lt i (show 0 < g by omega)
  refine List.mem_of_getElem? (i := i % g) ?_
  unfold rowOf
  rw [List.getElem?_take_of_lt h2, List.getElem?_drop, h1, List.getElem?_eq_getElem hi]
theorem near_fits {l : List Int} {g i : Nat} (hl : ∀ x ∈ l, I8 x) (hg : 1 ≤ g) (hi : i < l.length) : -7 ≤ near (rd l i) (2 ^ shiftS (rowOf l g (i / g))) ∧ near (rd l i) (2 ^ shiftS (rowOf l g (i / g))) ≤ 7 := by
  have h := shiftS_fits (rowOf_i8 hl g (i / g))
  unfold fitB at h
  rw [List.all_eq_true] at h
  have := h _ (rowOf_has hg hi)
  unfold fit1 at this
  rw [rd_at hi]; exact of_decide_eq_true this
theorem hvs_more {l : List Int} {g H i : Nat} (h : ∀ h, h < H → 2 * h + 1 < i) : hvs l g H (i + 1) = hvs l g H i := by
  unfold hvs
  apply List.map_congr_left
  intro x hx
  have := h x (by simpa using hx)
  unfold hv
  rw [if_pos (by omega), if_pos (by omega), if_pos (by omega), if_pos (by omega)]
theorem hv_even {l : List Int} {g i : Nat} (h : i % 2 = 0) : hvs l g ((i + 1) / 2) i ++ [nibS l g i] = hvs l g ((i + 2) / 2) (i + 1) := by
  have e : (i + 2) / 2 = (i + 1) / 2 + 1 := by omega
  have e2 : 2 * ((i + 1) / 2) = i := by omega
  rw [e]
  have h1 : hvs l g ((i + 1) / 2 + 1) (i + 1) = hvs l g ((i + 1) / 2) (i + 1) ++ [hv l g (i + 1) ((i + 1) / 2)] := rng_snoc _ _
  rw [h1, hvs_more (fun h hh => by omega)]
  unfold hv
  rw [e2, if_pos (by omega), if_neg (by omega)]; simp
theorem hv_odd {l : List Int} {g i : Nat} (h : i % 2 = 1) : hv l g i (i / 2) = nibS l g (i - 1) ∧ hv l g (i + 1) (i / 2) = nibS l g (i - 1) + 16 * nibS l g i := by
  have e1 : 2 * (i / 2) = i - 1 := by omega
  have e2 : 2 * (i / 2) + 1 = i := by omega
  unfold hv
  rw [e2, e1, if_pos (by omega), if_neg (by omega), if_pos (by omega), if_pos (by omega)]; simp

/-! ### what packed numbers say -/
def U8 (x : Int) : Prop := 0 ≤ x ∧ x ≤ 255
theorem u8_of_wf {x : Int} (h : (Lit.int .u8 x).wf = true) : U8 x := by
  simp [Lit.wf, IntKind.signed, IntKind.bits] at h; exact h
theorem rd_u8 {l : List Int} (h : ∀ x ∈ l, U8 x) (i : Int) : U8 (rd l i) := rd_all h ⟨by omega, by omega⟩ i
def okHalf (c : Int) (h : List Int) (j : Nat) : Prop := rd h j % 16 ≠ 8 ∧ rd h j / 16 ≠ 8 ∧ (2 * (j : Int) + 1 = c → rd h j / 16 = 0)
def RightP (c g : Int) (s h : List Int) : Prop := (0 ≤ c ∧ c ≤ 1048576 ∧ 1 ≤ g ∧ g ≤ 256) ∧ ((s.length : Int) = (c + g - 1) / g ∧ (h.length : Int) = (c + 1) / 2) ∧ (∀ j, j < s.length → rd s j ≤ 5) ∧ ∀ j, j < h.length → okHalf c h j
open Classical in
noncomputable def rightS (c g : Int) (s h : List Int) : Bool := decide (RightP c g s h)
theorem rightS_true {c g : Int} {s h : List Int} : rightS c g s h = true ↔ RightP c g s h := by unfold rightS; simp
theorem rightS_false {c g : Int} {s h : List Int} (H : ¬ RightP c g s h) : rightS c g s h = false := by unfold rightS; simp [H]
theorem and15u {x : Int} (hx : U8 x) : bits .and .u8 x 15 = x % 16 := by
  unfold U8 at hx
  have key : ∀ x : Fin 256, bits .and .u8 (x.1 : Int) 15 = (x.1 : Int) % 16 := by decide +kernel
  have := key ⟨x.toNat, by omega⟩
  rwa [show ((x.toNat : Nat) : Int) = x by omega] at this
theorem need_code {c g : Int} (h0 : 0 ≤ c) (h1 : c ≤ 1048576) (g0 : 1 ≤ g) (g1 : g ≤ 256) : wrap64 (Int.tdiv (wrap64 (wrap64 (c + g) - 1)) g) = (c + g - 1) / g ∧ wrap64 (Int.tdiv (wrap64 (c + 1)) 2) = (c + 1) / 2 := by
  have hd : 0 ≤ (c + g - 1) / g := Int.ediv_nonneg (by omega) (by omega)
  have hd2 : (c + g - 1) / g ≤ c + g - 1 := Int.ediv_le_self _ (by omega)
  constructor
  · rw [wrap64_id' (x := c + g) (by omega) (by omega), wrap64_id' (x := c + g - 1) (by omega) (by omega), Int.tdiv_eq_ediv_of_nonneg (by omega), wrap64_id' (by omega) (by omega)]
  · rw [wrap64_id' (x := c + 1) (by omega) (by omega), Int.tdiv_eq_ediv_of_nonneg (by omega), wrap64_id' (by omega) (by omega)]

/-- The i-th number that packed ones say. -/
def nibH (h : List Int) (i : Nat) : Int := if i % 2 = 1 then rd h ((i / 2 : Nat) : Int) / 16 else rd h ((i / 2 : Nat) : Int) % 16
def sgn (n : Int) : Int := if n > 7 then n - 16 else n
def unpS (g : Int) (s h : List Int) (i : Nat) : Int := narrow (sgn (nibH h i) * 2 ^ (rd s ((i / g.toNat : Nat) : Int)).toNat)
noncomputable def unpackS (c g : Int) (s h : List Int) : List Int × Int := if rightS c g s h = true then ((List.range c.toNat).map (unpS g s h), 0) else ([], 84)
theorem nibH_in {h : List Int} (hh : ∀ x ∈ h, U8 x) (i : Nat) : 0 ≤ nibH h i ∧ nibH h i < 16 := by
  have := rd_u8 hh ((i / 2 : Nat) : Int)
  unfold U8 at this
  unfold nibH; split <;> omega
theorem sgn_in {n : Int} (h : 0 ≤ n ∧ n < 16) : I8 (sgn n) := by unfold sgn I8; split <;> omega
theorem nib_code {h : List Int} (hh : ∀ x ∈ h, U8 x) (i : Nat) : wrap64 (bits .and .u8 (shr .u8 (rd h ((i / 2 : Nat) : Int)) (4 * ((i % 2 : Nat) : Int))) 15) = nibH h i := by
  have hb := rd_u8 hh ((i / 2 : Nat) : Int)
  have hn := nibH_in hh i
  have e0 : IntKind.bits .u8 = 8 := rfl
  unfold shr; rw [e0]
  unfold U8 at hb
  by_cases h1 : i % 2 = 1
  · have e : rd h ((i / 2 : Nat) : Int) / 2 ^ min (4 * ((i % 2 : Nat) : Int)).toNat 8 = rd h ((i / 2 : Nat) : Int) / 16 := by rw [h1]; rfl
    rw [e, and15u ⟨by omega, by omega⟩]
    unfold nibH at hn ⊢; rw [if_pos h1] at hn ⊢
    rw [wrap64_id' (by omega) (by omega)]; omega
  · have h0 : i % 2 = 0 := by omega
    have e : rd h ((i / 2 : Nat) : Int) / 2 ^ min (4 * ((i % 2 : Nat) : Int)).toNat 8 = rd h ((i / 2 : Nat) : Int) := by rw [h0]; simp
    rw [e, and15u ⟨by omega, by omega⟩]
    unfold nibH at hn ⊢; rw [if_neg h1] at hn ⊢
    rw [wrap64_id' (by omega) (by omega)]
theorem div_nat {i n : Nat} (hi : i ≤ 1048577) : wrap64 (Int.tdiv (i : Int) (n : Int)) = ((i / n : Nat) : Int) := by
  have h1 : i / n ≤ i := Nat.div_le_self _ _
  have h2 : (0 : Int) ≤ ((i / n : Nat) : Int) := Int.natCast_nonneg _
  have h3 : ((i / n : Nat) : Int) ≤ (i : Int) := Int.ofNat_le.mpr h1
  rw [Int.tdiv_eq_ediv_of_nonneg (by omega), ← Int.natCast_ediv, wrap64_id' (by omega) (by omega)]
theorem right_at {c : Int} {n : Nat} {s h : List Int} (R : RightP c n s h) {i : Nat} (hi : (i : Int) < c) : i / n < s.length ∧ i / 2 < h.length ∧ rd s ((i / n : Nat) : Int) ≤ 5 := by
  obtain ⟨⟨a1, a2, a3, a4⟩, ⟨b1, b2⟩, d, _⟩ := R
  have hq : i / n < s.length := by
    obtain ⟨m, rfl⟩ : ∃ m : Nat, c = m := ⟨c.toNat, by omega⟩
    have hm := ceil_le (n := m) (g := n) (by omega)
    have e : (s.length : Int) = (((m + n - 1) / n : Nat) : Int) := by
      rw [b1, Int.natCast_ediv]; congr 1; omega
    have e' : s.length = (m + n - 1) / n := Int.ofNat_inj.mp e
    rw [e']
    exact (Nat.div_lt_iff_lt_mul (by omega)).mpr (by omega)
  exact ⟨hq, by omega, d _ hq⟩
theorem shl_pow' {x s : Int} (h0 : 0 ≤ s) (h1 : s ≤ 55) (hx : I8 x) : shl .i64 x s = x * 2 ^ s.toNat ∧ I64 (x * 2 ^ s.toNat) := by
  obtain ⟨n, rfl⟩ := Int.eq_ofNat_of_zero_le h0
  exact shl_pow (s := n) (by omega) hx
theorem unpackS_len (c g : Int) (s h : List Int) : (unpackS c g s h).1.length ≤ 1048576 ∧ ∀ x ∈ (unpackS c g s h).1, I8 x := by
  unfold unpackS
  split
  · rename_i H
    have := (rightS_true.mp H).1
    refine ⟨by simp; omega, fun x hx => ?_⟩
    obtain ⟨i, _, rfl⟩ := List.mem_map.mp hx
    have := narrow_in (sgn (nibH h i) * 2 ^ (rd s ((i / g.toNat : Nat) : Int)).toNat)
    unfold unpS; exact ⟨by omega, by omega⟩
  · simp

def rowS (w : List Int) (c i : Int) : List Int × Int := if matrixS w.length c = 0 then (if i < 0 then ([], 1) else if i ≥ (w.length : Int) / c then ([], 1) else (rowOf w c.toNat i.toNat, 0)) else ([], matrixS w.length c)
theorem rowS_len (w : List Int) (c i : Int) : (rowS w c i).1.length ≤ w.length := by
  unfold rowS
  split
  · split
    · simp
    · split
      · simp
      · simp only [rowOf, List.length_take, List.length_drop]; omega
  · simp
/-- Where a row lies. -/
theorem row_at {l : List Int} {c i : Int} (h1 : 1 ≤ c) (h2 : 0 ≤ i) (h3 : i < (l.length : Int) / c) : 0 ≤ i * c ∧ i * c + c ≤ l.length ∧ (i * c).toNat = i.toNat * c.toNat ∧ (i * c + c).toNat = i.toNat * c.toNat + c.toNat := by
  have p0 : 0 ≤ i * c := Int.mul_nonneg h2 (by omega)
  have p1 : (i + 1) * c ≤ (l.length : Int) / c * c := Int.mul_le_mul_of_nonneg_right (by omega) (by omega)
  have p2 : (l.length : Int) / c * c ≤ l.length := Int.ediv_mul_le _ (by omega)
  rw [Int.add_mul, Int.one_mul] at p1
  have e : (i * c).toNat = i.toNat * c.toNat := Int.toNat_mul h2 (by omega)
  refine ⟨p0, by omega, e, ?_⟩
  rw [← e]; omega

theorem Row_f (w : List Int) (c i : Int) : vec_Row.f w c i = some (rowS w c i) := by
  unfold vec_Row.f rowS
  rw [matrix_f]; simp only [Option.bind_some]
  by_cases h : matrixS w.length c = 0
  · obtain ⟨h1, h2, h3⟩ := matrix_ok h
    rw [if_pos h]; simp only [h, if_true]
    by_cases a : i < 0
    · rw [if_pos a, if_pos a]
    · rw [if_neg a, if_neg a, if_neg (by omega)]
      have e1 : (w.length : Int) / c ≤ w.length := Int.ediv_le_self _ (by omega)
      have e2 : 0 ≤ (w.length : Int) / c := Int.ediv_nonneg (by omega) (by omega)
      rw [wrap64_id' (x := (w.length : Int) / c) (by omega) (by omega)]
      by_cases b : i ≥ (w.length : Int) / c
      · rw [if_pos b, if_pos b]
      · rw [if_neg b, if_neg b]
        obtain ⟨p0, p1, p2, p3⟩ := row_at (l := w) h2 (by omega) (by omega : i < (w.length : Int) / c)
        have e3 : wrap64 (i * c) = i * c := wrap64_id' (by omega) (by omega)
        have e4 : wrap64 ((wrap64 (i + 1)) * c) = i * c + c := by
          rw [wrap64_id' (x := i + 1) (by omega) (by omega), Int.add_mul, Int.one_mul]; exact wrap64_id' (by omega) (by omega)
        rw [e3, e4, if_pos p0, if_pos (by omega), if_pos p1, p2, p3, rowOf_cut]
        unfold slices_Clone_int8_int8.f
        rw [if_pos (by simp only [rowOf, List.length_take, List.length_drop]; omega)]
        rfl
  · rw [if_neg h]; simp only [h, if_false]

theorem rRow_f (w : List Int) (c i : Int) : heraldref08_Row.f w c i = some (rowS w c i) := by
  unfold heraldref08_Row.f rowS
  rw [rMatrix_f]; simp only [Option.bind_some]
  by_cases h : matrixS w.length c = 0
  · obtain ⟨h1, h2, h3⟩ := matrix_ok h
    rw [if_pos h]; simp only [h, if_true]
    by_cases a : i < 0
    · rw [if_pos a, if_pos a]
    · rw [if_neg a, if_neg a]
      by_cases b : i ≥ (w.length : Int) / c
      · rw [if_pos b, if_pos b]
      · rw [if_neg b, if_neg b]
        obtain ⟨p0, p1, p2, p3⟩ := row_at (l := w) h2 (by omega) (by omega : i < (w.length : Int) / c)
        rw [p2, p3, rowOf_cut]
  · rw [if_neg h]; simp only [h, if_false]
end Go.Proofs.Ytigfodkakefhcaa.L
