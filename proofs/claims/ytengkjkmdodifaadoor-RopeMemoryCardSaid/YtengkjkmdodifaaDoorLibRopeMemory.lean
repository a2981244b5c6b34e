/- Lemmas on the printed functions: what each answers, in plain words of Lean; on condition that the numbers are of their kinds. -/
import Derived.Test.YtengkjkmdodifaaDoorPx1
import Derived.Test.YtengkjkmdodifaaDoorPx2
import Derived.Test.YtengkjkmdodifaaDoorPx3
import Derived.Test.YtengkjkmdodifaaDoorPx4
import Derived.Test.YtengkjkmdodifaaDoorPx5
import Derived.Test.YtengkjkmdodifaaDoorPx6
import Derived.Test.YtengkjkmdodifaaDoorPx7
import Derived.Test.YtengkjkmdodifaaDoorPx8
import Derived.Test.YtengkjkmdodifaaDoorPx9
import Derived.Test.YtengkjkmdodifaaDoorMath
namespace Go.Proofs.YtengkjkmdodifaaDoor.L
open Go Go.RowKit Go.Proofs.YtengkjkmdodifaaDoor.M Go.Proofs.YtengkjkmdodifaaDoor.P Go.Proofs.YtengkjkmdodifaaDoorW.PrintWords Go.Proofs.YtengkjkmdodifaaDoorW.PrintLast Go.Proofs.YtengkjkmdodifaaDoorW.PrintMore
set_option linter.unusedVariables false
set_option linter.unusedSimpArgs false

theorem Floor_f (a d : Int) (ha : I64 a) (hd : I64 d) : fixed_Floor.f a d = some (floorS a d) := by
  unfold fixed_Floor.f; exact floor_code a d ha hd

theorem Near_f (a d : Int) (ha : I64 a) (hd : I64 d) : fixed_Near.f a d = some (nearS a d) := by
  unfold fixed_Near.f nearS; rw [Floor_f a d ha hd]; simp only [Option.bind_some, floorS]
  by_cases h : d < 1
  · rw [if_pos h, if_pos h]; rfl
  · rw [if_neg h, if_neg h]; simp only [if_true]; exact near_code a d ha hd (by omega)

theorem Round_f (a s : Int) (ha : I64 a) : fixed_Round.f a s = some (roundS a s) := by
  unfold fixed_Round.f roundS
  by_cases h : s < 0
  · rw [if_pos h, if_pos (Or.inl h)]
  · by_cases h' : s > 62
    · rw [if_neg h, if_pos h', if_pos (Or.inr h')]
    · rw [if_neg h, if_neg h', if_pos (by omega), if_neg (by omega), shl_one (by omega) (by omega)]
      have hp := pow_in (s := s) (by omega) (by omega)
      rw [Near_f a _ ha ⟨by omega, by omega⟩]
      unfold nearS; rw [if_neg (by omega)]; rfl

def clamp (x lo hi : Int) : Int := if x < lo then lo else if x > hi then hi else x
def narrow (x : Int) : Int := clamp x (-127) 127
theorem narrow_in (x : Int) : -127 ≤ narrow x ∧ narrow x ≤ 127 := by
  unfold narrow clamp; repeat' split
  all_goals omega
theorem narrow_i8 (x : Int) : IntKind.i8.wrap (clamp x (-127) 127) = narrow x := by
  have h := narrow_in x
  exact i8wrap_id ⟨by unfold narrow at h; omega, by unfold narrow at h; omega⟩

theorem Clamp_f (x lo hi : Int) : fixed_Clamp.f x lo hi = some (clamp x lo hi) := by
  unfold fixed_Clamp.f clamp; repeat' split
  all_goals rfl

theorem Narrow_f (x : Int) : fixed_Narrow.f x = some (narrow x) := by
  unfold fixed_Narrow.f; rw [Clamp_f]; simp only [Option.bind_some, narrow_i8]

/-- A loop by its places: what is known at each place, and what comes of the rest. -/
theorem ev_loop {β : Type} (F : Nat → Nat → Option β) (r : β) (n : Nat) (P : Nat → Prop) (h0 : P 0) (hend : P n → Ev (fun k => F k n) r) (hstep : ∀ i, i < n → P i → (P (i + 1) → Ev (fun k => F k (i + 1)) r) → Ev (fun k => F k i) r) : Ev (fun k => F k 0) r := by
  have key : ∀ d i, i + d = n → P i → Ev (fun k => F k i) r := by
    intro d
    induction d with
    | zero => intro i hi hp; obtain rfl : i = n := by omega
              exact hend hp
    | succ d ih => intro i hi hp; exact hstep i (by omega) hp (fun hp' => ih (i + 1) (by omega) hp')
  exact key n 0 (by omega) h0
theorem ev_succ {β : Type} {g : Nat → Option β} {r : β} (h : Ev (fun k => g (k + 1)) r) : Ev g r := Ev.step (fun _ => rfl) h
theorem rd_at {l : List Int} {i : Nat} (h : i < l.length) : rd l (i : Int) = l[i] := by
  unfold rd; simp [List.getD_eq_getElem?_getD, h]
theorem rd_all {p : Int → Prop} {l : List Int} (h : ∀ x ∈ l, p x) (h0 : p 0) (i : Int) : p (rd l i) := by
  unfold rd
  rw [List.getD_eq_getElem?_getD]
  by_cases c : i.toNat < l.length
  · rw [List.getElem?_eq_getElem c]; exact h _ (List.getElem_mem c)
  · rw [List.getElem?_eq_none (by omega)]; exact h0
theorem rd_i8 {l : List Int} (h : ∀ x ∈ l, I8 x) (i : Int) : I8 (rd l i) := rd_all h ⟨by omega, by omega⟩ i
theorem take_one {α : Type} {l : List α} {i : Nat} (h : i < l.length) : l.take (i + 1) = l.take i ++ [l[i]] := by
  rw [List.take_add_one]; simp [h]
theorem rng_snoc {α : Type} (g : Nat → α) (i : Nat) : (List.range (i + 1)).map g = (List.range i).map g ++ [g i] := by
  rw [List.range_succ]; simp
theorem set_mid0 {α : Type} (a : List α) (x v : α) (b : List α) (i : Nat) (hi : i = a.length) : (a ++ x :: b).set i v = (a ++ [v]) ++ b := by
  subst hi; simp
/-- One place of a list that is filled from the left. -/
theorem rng_set {g : Nat → Int} {n i : Nat} (h : i < n) : ((List.range i).map g ++ List.replicate (n - i) 0).set i (g i) = (List.range (i + 1)).map g ++ List.replicate (n - (i + 1)) 0 := by
  rw [show n - i = (n - (i + 1)) + 1 by omega, List.replicate_succ, set_mid0 _ _ _ _ _ (by simp), rng_snoc]
theorem rng_take {l : List Int} : ∀ {i : Nat}, i ≤ l.length → (List.range i).map (fun j : Nat => rd l j) = l.take i
  | 0, _ => by simp
  | i + 1, h => by rw [rng_snoc, rng_take (by omega), take_one (by omega), rd_at (by omega)]
theorem wone {a : Nat} (h : a ≤ 140737488351232) : wrap64 ((a : Int) + 1) = ((a + 1 : Nat) : Int) := by
  rw [wrap64_id' (by omega) (by omega)]; omega
theorem i8_mul {x y : Int} (hx : I8 x) (hy : I8 y) : -16384 ≤ x * y ∧ x * y ≤ 16384 := by
  unfold I8 at *
  have e : (x * y).natAbs = x.natAbs * y.natAbs := Int.natAbs_mul x y
  have : x.natAbs * y.natAbs ≤ 128 * 128 := Nat.mul_le_mul (by omega) (by omega)
  omega

/-- The sine of an angle. -/
def sineS (x : Int) : Int := if x % 256 < 128 then tabL.getD (min (x % 128).toNat (128 - x % 128).toNat) 0 else -(tabL.getD (min (x % 128).toNat (128 - x % 128).toNat) 0)
theorem Sine_f (x : Int) : rope_Sine.f x = some (sineS x) := by
  unfold rope_Sine.f sineS; split <;> rfl
theorem sineS_mod (x : Int) : sineS (x % 256) = sineS x := by
  unfold sineS
  rw [show x % 256 % 256 = x % 256 by omega, show x % 256 % 128 = x % 128 by omega]
theorem sineS_eq {x y : Int} (h : x % 256 = y % 256) : sineS x = sineS y := by rw [← sineS_mod x, h, sineS_mod]
theorem sineS_in (x : Int) : -64 ≤ sineS x ∧ sineS x ≤ 64 := by
  have := tabL_in (min (x % 128).toNat (128 - x % 128).toNat)
  unfold sineS; split <;> omega
theorem sineS_i8 (x : Int) : I8 (sineS x) := by have := sineS_in x; exact ⟨by omega, by omega⟩

theorem rSine_f (x : Int) (h : I64 x) : Ev (fun k => heraldref10_Sine.f k x) (sineS x) := by
  have key : ∀ r : Fin 256, heraldref10_Sine.j0 1 tabL (r.1 : Int) = some (sineS (r.1 : Int)) := by decide +kernel
  have one : ∀ r : Int, r = x % 256 → Ev (fun k => heraldref10_Sine.j0 k tabL r) (sineS x) := by
    rintro r rfl
    refine Ev.step (f := fun _ => some (sineS x)) (fun k => ?_) (Ev.now _)
    have h1 := key ⟨(x % 256).toNat, by omega⟩
    rw [show (((x % 256).toNat : Nat) : Int) = x % 256 by omega, sineS_mod] at h1
    rw [← h1]; simp only [heraldref10_Sine.j0]
  unfold heraldref10_Sine.f
  simp only [Option.bind_some]
  have ht := tmod_pos (a := x) (d := 256) (by omega)
  by_cases hn : Int.tmod x 256 < 0
  · simp only [hn, if_true]
    exact one _ (by split at ht <;> (rw [wrap64_id' (by omega) (by omega)]; omega))
  · simp only [hn, if_false]
    exact one _ (by split at ht <;> omega)

theorem rowS_64 (a : Int) : roundS a 6 = (near a 64, 0) := by
  unfold roundS; rw [if_neg (by omega)]; rfl
/-- One number of a row that is turned: of an even place, or of the one behind it. -/
def cellT (σ : Int) (x : List Int) (n : Nat) (c s : List Int) (i : Nat) : Int := if i % 2 = 0 then narrow (near (rd x (i : Int) * rd c ((i % n / 2 : Nat) : Int) + rd x ((i + 1 : Nat) : Int) * (σ * rd s ((i % n / 2 : Nat) : Int))) 64) else narrow (near (rd x (i : Int) * rd c (((i - 1) % n / 2 : Nat) : Int) - rd x ((i - 1 : Nat) : Int) * (σ * rd s (((i - 1) % n / 2 : Nat) : Int))) 64)
def turnS (σ : Int) (x : List Int) (size : Int) (c s : List Int) : List Int × Int := if size < 2 ∨ size % 2 ≠ 0 ∨ (x.length : Int) % size ≠ 0 then ([], 100) else if (c.length : Int) ≠ size / 2 ∨ (s.length : Int) ≠ size / 2 then ([], 101) else ((List.range x.length).map (cellT σ x size.toNat c s), 0)
theorem turnS_len (σ : Int) (x : List Int) (size : Int) (c s : List Int) : (turnS σ x size c s).1.length ≤ x.length := by
  unfold turnS; split
  · simp
  · split <;> simp
theorem cellT_i8 (σ : Int) (x : List Int) (n : Nat) (c s : List Int) (i : Nat) : I8 (cellT σ x n c s i) := by
  unfold cellT; split
  · have := narrow_in (near (rd x (i : Int) * rd c ((i % n / 2 : Nat) : Int) + rd x ((i + 1 : Nat) : Int) * (σ * rd s ((i % n / 2 : Nat) : Int))) 64)
    exact ⟨by omega, by omega⟩
  · have := narrow_in (near (rd x (i : Int) * rd c (((i - 1) % n / 2 : Nat) : Int) - rd x ((i - 1 : Nat) : Int) * (σ * rd s (((i - 1) % n / 2 : Nat) : Int))) 64)
    exact ⟨by omega, by omega⟩
theorem cellT_even (σ : Int) (x : List Int) (n : Nat) (c s : List Int) (j : Nat) : cellT σ x n c s (2 * j) = narrow (near (rd x ((2 * j : Nat) : Int) * rd c ((2 * j % n / 2 : Nat) : Int) + rd x ((2 * j + 1 : Nat) : Int) * (σ * rd s ((2 * j % n / 2 : Nat) : Int))) 64) := by
  unfold cellT; rw [if_pos (by omega)]
theorem cellT_odd (σ : Int) (x : List Int) (n : Nat) (c s : List Int) (j : Nat) : cellT σ x n c s (2 * j + 1) = narrow (near (rd x ((2 * j + 1 : Nat) : Int) * rd c ((2 * j % n / 2 : Nat) : Int) - rd x ((2 * j : Nat) : Int) * (σ * rd s ((2 * j % n / 2 : Nat) : Int))) 64) := by
  unfold cellT; rw [if_neg (by omega), show 2 * j + 1 - 1 = 2 * j by omega]
theorem rng_two {α : Type} (g : Nat → α) (j : Nat) : (List.range (2 * (j + 1))).map g = (List.range (2 * j)).map g ++ [g (2 * j), g (2 * j + 1)] := by
  rw [show 2 * (j + 1) = 2 * j + 1 + 1 by omega, rng_snoc, rng_snoc]; simp
theorem half_of {n j L : Nat} (h2 : n % 2 = 0) (hn : 1 ≤ n) (hL : L ≤ 140737488351232) (hj : 2 * j < L) : wrap64 (Int.tdiv (Int.tmod ((2 * j : Nat) : Int) (n : Int)) 2) = ((2 * j % n / 2 : Nat) : Int) ∧ 2 * j % n / 2 < n / 2 := by
  have h1 : 2 * j % n ≤ 2 * j := Nat.mod_le _ _
  have h3 : 2 * j % n < n := Nat.mod_lt _ (by omega)
  have e : Int.tmod ((2 * j : Nat) : Int) (n : Int) = ((2 * j % n : Nat) : Int) := by
    rw [Int.tmod_eq_emod_of_nonneg (by omega), ← Int.natCast_emod]
  rw [e]
  generalize 2 * j % n = m at h1 h3
  rw [Int.tdiv_eq_ediv_of_nonneg (by omega), wrap64_id' (by omega) (by omega)]
  omega

theorem narrow_f (x : Int) (h : I64 x) : rope_narrow.f x = some (narrow (near x 64)) := by
  unfold rope_narrow.f; rw [Round_f _ _ h, rowS_64]; simp only [Option.bind_some, Narrow_f]

theorem Turn_one {a b c s : Int} (ha : I8 a) (hb : I8 b) (hc : I8 c) (hs : I8 s) : rope_Turn_1.f a b c s = some (a * c + b * ((-1) * s), b * c - a * ((-1) * s)) ∧ I64 (a * c + b * ((-1) * s)) ∧ I64 (b * c - a * ((-1) * s)) := by
  have m1 := i8_mul ha hc
  have m2 := i8_mul hb hs
  have m3 := i8_mul ha hs
  have m4 := i8_mul hb hc
  have e1 : b * ((-1) * s) = (-1) * (b * s) := by grind
  have e2 : a * ((-1) * s) = (-1) * (a * s) := by grind
  rw [e1, e2]
  refine ⟨?_, ⟨by omega, by omega⟩, ⟨by omega, by omega⟩⟩
  unfold rope_Turn_1.f
  rw [wrap64_id' (x := a * c) (by omega) (by omega), wrap64_id' (x := b * s) (by omega) (by omega), wrap64_id' (x := a * s) (by omega) (by omega), wrap64_id' (x := b * c) (by omega) (by omega), wrap64_id' (by omega) (by omega), wrap64_id' (by omega) (by omega)]
  refine congrArg some (Prod.ext ?_ ?_) <;> dsimp only <;> omega

theorem pairs_Turn (x : List Int) (size : Int) (c s : List Int) (hx : ∀ y ∈ x, I8 y) (hc : ∀ y ∈ c, I8 y) (hs : ∀ y ∈ s, I8 y) (hS : I64 size) (hl : x.length ≤ 140737488351232) : Ev (fun k => rope_pairs_Turn_1.f k x size c s 0) (turnS (-1) x size c s) := by
  unfold rope_pairs_Turn_1.f turnS
  have no : Ev (fun k => rope_pairs_Turn_1.j0 k x size c s true) ([], 100) := Ev.step (fun k => by simp only [rope_pairs_Turn_1.j0, if_true]) (Ev.now _)
  have no1 : Ev (fun k => rope_pairs_Turn_1.j1 k x size c s true) ([], 101) := Ev.step (fun k => by simp only [rope_pairs_Turn_1.j1, if_true]) (Ev.now _)
  by_cases h1 : size < 2
  · simp only [h1, true_or, if_true]; exact no
  · have et : Int.tmod size 2 = size % 2 := Int.tmod_eq_emod_of_nonneg (by omega)
    simp only [h1, if_false, et, false_or]
    by_cases h2 : size % 2 = 0
    · simp only [h2, if_true, show ¬ size = 0 by omega, if_false, ne_eq, not_true_eq_false, false_or]
      by_cases h3 : (x.length : Int) % size = 0
      · simp only [h3, bne_self_eq_false, not_true_eq_false, if_false]
        refine ev_succ ?_
        have e2 : wrap64 (Int.tdiv size 2) = size / 2 := by
          unfold I64 at hS; rw [Int.tdiv_eq_ediv_of_nonneg (by omega), wrap64_id' (by omega) (by omega)]
        simp only [rope_pairs_Turn_1.j0, Bool.false_eq_true, if_false, e2]
        by_cases h4 : (c.length : Int) = size / 2
        · simp only [h4, if_true, not_true_eq_false, false_or]
          by_cases h5 : (s.length : Int) = size / 2
          · simp only [h5, bne_self_eq_false, not_true_eq_false, if_false]
            refine ev_succ ?_
            simp only [rope_pairs_Turn_1.j1, Bool.false_eq_true, if_false, show (0 : Int) ≤ (x.length : Int) by omega, Int.toNat_natCast, show x.length ≤ 281474976710656 by omega, if_true]
            obtain ⟨n, rfl⟩ : ∃ n : Nat, size = n := ⟨size.toNat, by omega⟩
            have hn2 : n % 2 = 0 := by omega
            have hd : x.length % 2 = 0 := by
              have d1 : n ∣ x.length := Nat.dvd_of_mod_eq_zero (by omega)
              have d2 : 2 ∣ n := Nat.dvd_of_mod_eq_zero hn2
              exact Nat.mod_eq_zero_of_dvd (Nat.dvd_trans d2 d1)
            simp only [Int.toNat_natCast]
            have := ev_loop (fun k j => rope_pairs_Turn_1.l0 k x n c s ((List.range (2 * j)).map (cellT (-1) x n c s) ++ List.replicate (x.length - 2 * j) 0) ((2 * j : Nat) : Int)) ((List.range x.length).map (cellT (-1) x n c s), 0) (x.length / 2) (fun _ => True) trivial (fun _ => ?_) (fun j hj _ ih => ?_)
            · simpa using this
            · refine Ev.step (f := fun _ => some _) (fun k => ?_) (Ev.now _)
              simp only [rope_pairs_Turn_1.l0]
              rw [if_neg (by omega), show 2 * (x.length / 2) = x.length by omega]; simp
            · obtain ⟨k1, k2⟩ := half_of (n := n) (j := j) hn2 (by omega) hl (by omega)
              have i1 : ((2 * j % n / 2 : Nat) : Int) < (c.length : Int) := by omega
              have i2 : ((2 * j % n / 2 : Nat) : Int) < (s.length : Int) := by omega
              have i0 : (0 : Int) ≤ ((2 * j % n / 2 : Nat) : Int) := Int.natCast_nonneg _
              have hce := cellT_even (-1) x n c s j
              have hco := cellT_odd (-1) x n c s j
              have w1 : wrap64 (((2 * j : Nat) : Int) + 1) = ((2 * j + 1 : Nat) : Int) := by rw [wrap64_id' (by omega) (by omega)]; omega
              have w2 : wrap64 (((2 * j : Nat) : Int) + 2) = ((2 * (j + 1) : Nat) : Int) := by rw [wrap64_id' (by omega) (by omega)]; omega
              generalize 2 * j % n / 2 = q at *
              have ra := rd_i8 hx ((2 * j : Nat) : Int)
              have rb := rd_i8 hx ((2 * j + 1 : Nat) : Int)
              have rc := rd_i8 hc (q : Int)
              have rs := rd_i8 hs (q : Int)
              refine Ev.step (fun k => ?_) (ih trivial)
              obtain ⟨o1, o2, o3⟩ := Turn_one ra rb rc rs
              simp only [rope_pairs_Turn_1.l0, k1, w1, w2]
              rw [if_pos (by omega), if_neg (by omega), if_pos (by omega), if_pos (by omega), if_pos (by omega), if_pos i0, if_pos i1, if_pos i2, wrap64_id ra.i64, wrap64_id rb.i64, wrap64_id rc.i64, wrap64_id rs.i64, o1]
              simp only [Option.bind_some, narrow_f _ o2, narrow_f _ o3, Int.toNat_natCast]
              rw [← hce, ← hco, if_pos (by simp; omega), if_pos (by simp; omega), rng_set (g := cellT (-1) x n c s) (i := 2 * j) (by omega), rng_set (g := cellT (-1) x n c s) (i := 2 * j + 1) (by omega)]
              rfl
          · have hb : ((s.length : Int) != size / 2) = true := by simpa using h5
            simp only [hb, h5, not_false_eq_true, if_true]; exact no1
        · simp only [h4, if_false, not_false_eq_true, true_or, if_true]; exact no1
      · have hb : ((x.length : Int) % size != 0) = true := by simpa using h3
        simp only [hb, h3, not_false_eq_true, if_true]; exact no
    · simp only [h2, if_false, ne_eq, not_false_eq_true, true_or, if_true]; exact no

theorem Turn_f (x : List Int) (size : Int) (c s : List Int) (hx : ∀ y ∈ x, I8 y) (hc : ∀ y ∈ c, I8 y) (hs : ∀ y ∈ s, I8 y) (hS : I64 size) (hl : x.length ≤ 140737488351232) : Ev (fun k => rope_Turn.f k x size c s) (turnS (-1) x size c s) := by
  unfold rope_Turn.f
  exact Ev.bind (pairs_Turn x size c s hx hc hs hS hl) (Ev.now _)

theorem same_ev (a : List Int) (ha : a.length ≤ 4611686018427387904) : Ev (fun k => heraldlaw10_same.f k a a) true := by
  unfold heraldlaw10_same.f; simp only [if_true]
  refine ev_loop (fun k i => heraldlaw10_same.l0 k a a a.length i) _ a.length (fun _ => True) trivial (fun _ => ?_) (fun i hi _ ih => ?_)
  · exact Ev.step (fun k => by simp only [heraldlaw10_same.l0]; rw [if_neg (by omega)]) (Ev.now _)
  · refine Ev.step (fun k => ?_) (ih trivial)
    simp only [heraldlaw10_same.l0]
    rw [if_pos (by omega), if_pos (by omega), if_pos (by omega), if_pos (by omega), if_pos trivial, wrap64_id' (by omega) (by omega)]; rfl

theorem awake_ev : Ev (fun k => heraldlaw10_awake.f k) true := Ev.of (k := 100) heraldlaw10_awake.mono (by decide +kernel)

/-! ### tables of angles -/
def cosL (f : Nat → Nat → Int) (h n : Nat) : List Int := (List.range n).map fun t => sineS (f (t / h) (t % h) + 64)
def sinL (f : Nat → Nat → Int) (h n : Nat) : List Int := (List.range n).map fun t => sineS (f (t / h) (t % h))
def ang (p i : Nat) : Int := 64 * (p : Int) / 2 ^ i
def angS (num den : Int) (p i : Nat) : Int := 64 * (p : Int) * num / (2 ^ i * den)
def tableS (p h : Int) : List Int × List Int × Int := if p < 1 ∨ p > 512 ∨ h < 1 ∨ h > 32 then ([], [], 102) else (cosL ang h.toNat (p.toNat * h.toNat), sinL ang h.toNat (p.toNat * h.toNat), 0)
def stretchS (p h num den : Int) : List Int × List Int × Int := if p < 1 ∨ p > 512 ∨ h < 1 ∨ h > 32 then ([], [], 102) else if num < 1 ∨ num > 65536 ∨ den < 1 ∨ den > 65536 then ([], [], 1) else (cosL (angS num den) h.toNat (p.toNat * h.toNat), sinL (angS num den) h.toNat (p.toNat * h.toNat), 0)
theorem wmul {a c : Nat} (h : a * c ≤ 140737488351232) : wrap64 ((a : Int) * (c : Int)) = ((a * c : Nat) : Int) := by
  rw [← Int.natCast_mul, wrap64_id' (by omega) (by omega)]
theorem wadd {a c : Nat} (h : a + c ≤ 140737488351232) : wrap64 ((a : Int) + (c : Int)) = ((a + c : Nat) : Int) := by
  rw [← Int.natCast_add, wrap64_id' (by omega) (by omega)]
theorem wdbl {a : Nat} (h : 2 * a ≤ 140737488351232) : wrap64 (2 * (a : Int)) = ((2 * a : Nat) : Int) := by
  rw [wrap64_id' (by omega) (by omega)]; omega
theorem grid_le {p h : Nat} (hp : p ≤ 512) (hh : h ≤ 32) : p * h ≤ 16384 := Nat.mul_le_mul hp hh
theorem cosL_snoc (f : Nat → Nat → Int) {h p i : Nat} (hi : i < h) : cosL f h (p * h + (i + 1)) = cosL f h (p * h + i) ++ [sineS (f p i + 64)] := by
  unfold cosL
  rw [← Nat.add_assoc, rng_snoc]
  have e1 : (p * h + i) / h = p := Nat.div_eq_of_lt_le (by omega) (by rw [Nat.succ_mul]; omega)
  have e2 : (p * h + i) % h = i := by rw [Nat.mul_comm, Nat.mul_add_mod, Nat.mod_eq_of_lt hi]
  rw [e1, e2]
theorem sinL_snoc (f : Nat → Nat → Int) {h p i : Nat} (hi : i < h) : sinL f h (p * h + (i + 1)) = sinL f h (p * h + i) ++ [sineS (f p i)] := by
  unfold sinL
  rw [← Nat.add_assoc, rng_snoc]
  have e1 : (p * h + i) / h = p := Nat.div_eq_of_lt_le (by omega) (by rw [Nat.succ_mul]; omega)
  have e2 : (p * h + i) % h = i := by rw [Nat.mul_comm, Nat.mul_add_mod, Nat.mod_eq_of_lt hi]
  rw [e1, e2]
theorem cosL_len (f : Nat → Nat → Int) (h n : Nat) : (cosL f h n).length = n := by simp [cosL]
theorem sinL_len (f : Nat → Nat → Int) (h n : Nat) : (sinL f h n).length = n := by simp [sinL]
theorem cosL_i8 (f : Nat → Nat → Int) (h n : Nat) : ∀ x ∈ cosL f h n, I8 x := by
  intro x hx; obtain ⟨i, _, rfl⟩ := List.mem_map.mp hx; exact sineS_i8 _
theorem sinL_i8 (f : Nat → Nat → Int) (h n : Nat) : ∀ x ∈ sinL f h n, I8 x := by
  intro x hx; obtain ⟨i, _, rfl⟩ := List.mem_map.mp hx; exact sineS_i8 _
theorem pow2_32 {i : Nat} (h : i ≤ 32) : 0 < (2 : Int) ^ i ∧ (2 : Int) ^ i ≤ 4294967296 := by
  have a : (0 : Int) < 2 ^ i := Int.pow_pos (by omega)
  have b : (2 : Nat) ^ i ≤ 2 ^ 32 := Nat.pow_le_pow_right (by decide) h
  have c : ((2 ^ i : Nat) : Int) ≤ ((2 ^ 32 : Nat) : Int) := by exact_mod_cast b
  simp at c
  exact ⟨a, by omega⟩
theorem div_in {a d : Int} (h0 : 0 ≤ a) (hd : 0 < d) : 0 ≤ a / d ∧ a / d ≤ a := ⟨Int.ediv_nonneg h0 (by omega), Int.ediv_le_self _ h0⟩
theorem tableS_len (p h : Int) : (tableS p h).1.length ≤ 16384 ∧ (tableS p h).2.1.length ≤ 16384 := by
  unfold tableS; split
  · simp
  · have := grid_le (p := p.toNat) (h := h.toNat) (by omega) (by omega)
    simp only [cosL_len, sinL_len]; exact ⟨this, this⟩
theorem stretchS_len (p h num den : Int) : (stretchS p h num den).1.length ≤ 16384 ∧ (stretchS p h num den).2.1.length ≤ 16384 := by
  unfold stretchS; split
  · simp
  · split
    · simp
    · have := grid_le (p := p.toNat) (h := h.toNat) (by omega) (by omega)
      simp only [cosL_len, sinL_len]; exact ⟨this, this⟩

theorem Table_f (a0 a1 : Int) : Ev (fun k => rope_Table.f k a0 a1) (tableS a0 a1) := by
  unfold rope_Table.f tableS
  have no : Ev (fun k => rope_Table.j0 k a0 a1 true) ([], [], 102) := Ev.step (fun k => by simp only [rope_Table.j0, if_true]) (Ev.now _)
  by_cases h1 : a0 < 1
  · simp only [h1, true_or, if_true]; exact no
  · by_cases h2 : a0 > 512
    · simp only [h1, h2, true_or, or_true, if_true, if_false]; exact no
    · by_cases h3 : a1 < 1
      · simp only [h1, h2, h3, true_or, or_true, if_true, if_false]; exact no
      · by_cases h4 : a1 > 32
        · simp only [h1, h2, h3, h4, or_true, if_true, if_false, decide_true]; exact no
        · simp only [h1, h2, h3, h4, or_self, if_false, decide_false]
          obtain ⟨p, rfl⟩ : ∃ p : Nat, a0 = p := ⟨a0.toNat, by omega⟩
          obtain ⟨h, rfl⟩ : ∃ h : Nat, a1 = h := ⟨a1.toNat, by omega⟩
          simp only [Int.toNat_natCast]
          refine ev_succ ?_
          simp only [rope_Table.j0, Bool.false_eq_true, if_false]
          have := ev_loop (fun k i => rope_Table.l0 k h (cosL ang h (i * h)) (sinL ang h (i * h)) p i) (cosL ang h (p * h), sinL ang h (p * h), 0) p (fun _ => True) trivial (fun _ => ?_) (fun q hq _ ih => ?_)
          · simpa [cosL, sinL] using this
          · refine Ev.step (f := fun _ => some _) (fun k => ?_) (Ev.now _)
            simp only [rope_Table.l0]; rw [if_neg (by omega)]
          · refine Ev.step (f := fun k => rope_Table.l1 k h (cosL ang h (q * h)) (sinL ang h (q * h)) q p q h 0) (fun k => ?_) ?_
            · simp only [rope_Table.l0]; rw [if_pos (by omega)]
            · have hg := grid_le (p := q) (h := h) (by omega) (by omega)
              refine ev_loop (fun k i => rope_Table.l1 k h (cosL ang h (q * h + i)) (sinL ang h (q * h + i)) q p q h i) _ h (fun _ => True) trivial (fun _ => ?_) (fun i hi _ ih2 => ?_)
              · refine Ev.step (fun k => ?_) (ih trivial)
                simp only [rope_Table.l1]
                rw [if_neg (by omega), wrap64_id' (by omega) (by omega), Nat.succ_mul]; rfl
              · refine Ev.step (fun k => ?_) (ih2 trivial)
                have hp := pow2_32 (i := i) (by omega)
                have hd := div_in (a := 64 * (q : Int)) (d := 2 ^ i) (by omega) hp.1
                have es : shr .i64 (wrap64 (64 * (q : Int))) (i : Int) = ang q i := by
                  unfold shr ang
                  have e0 : IntKind.bits .i64 = 64 := rfl
                  rw [e0, Int.toNat_natCast, Nat.min_eq_left (by omega), wrap64_id' (by omega) (by omega)]
                have ha : 0 ≤ ang q i ∧ ang q i ≤ 64 * (q : Int) := hd
                simp only [rope_Table.l1, es, Sine_f, Option.bind_some, cosL_len, sinL_len]
                rw [if_pos (by omega), if_pos (by omega), if_pos (by omega), if_pos (by omega), Int.tmod_eq_emod_of_nonneg ha.1, wrap64_id' (x := ang q i % 256 + 64) (by omega) (by omega), wrap64_id' (x := (i : Int) + 1) (by omega) (by omega), sineS_eq (x := ang q i % 256 + 64) (y := ang q i + 64) (by omega), ← cosL_snoc ang hi, ← sinL_snoc ang hi]
                rfl

theorem rTable_f (a0 a1 : Int) : Ev (fun k => heraldref10_Table.f k a0 a1) (tableS a0 a1) := by
  unfold heraldref10_Table.f tableS
  have no : Ev (fun k => heraldref10_Table.j0 k a0 a1 true) ([], [], 102) := Ev.step (fun k => by simp only [heraldref10_Table.j0, if_true]) (Ev.now _)
  by_cases h1 : a0 < 1
  · simp only [h1, true_or, if_true]; exact no
  · by_cases h2 : a0 > 512
    · simp only [h1, h2, true_or, or_true, if_true, if_false]; exact no
    · by_cases h3 : a1 < 1
      · simp only [h1, h2, h3, true_or, or_true, if_true, if_false]; exact no
      · by_cases h4 : a1 > 32
        · simp only [h1, h2, h3, h4, or_true, if_true, if_false, decide_true]; exact no
        · simp only [h1, h2, h3, h4, or_self, if_false, decide_false]
          obtain ⟨p, rfl⟩ : ∃ p : Nat, a0 = p := ⟨a0.toNat, by omega⟩
          obtain ⟨h, rfl⟩ : ∃ h : Nat, a1 = h := ⟨a1.toNat, by omega⟩
          simp only [Int.toNat_natCast]
          refine ev_succ ?_
          simp only [heraldref10_Table.j0, Bool.false_eq_true, if_false]
          have := ev_loop (fun k i => heraldref10_Table.l0 k p h (cosL ang h (i * h)) (sinL ang h (i * h)) i) (cosL ang h (p * h), sinL ang h (p * h), 0) p (fun _ => True) trivial (fun _ => ?_) (fun q hq _ ih => ?_)
          · simpa [cosL, sinL] using this
          · refine Ev.step (f := fun _ => some _) (fun k => ?_) (Ev.now _)
            simp only [heraldref10_Table.l0]; rw [if_neg (by omega)]
          · refine Ev.step (f := fun k => heraldref10_Table.l1 k p h (cosL ang h (q * h)) (sinL ang h (q * h)) q 1 0) (fun k => ?_) ?_
            · simp only [heraldref10_Table.l0]; rw [if_pos (by omega)]
            · have hg := grid_le (p := q) (h := h) (by omega) (by omega)
              refine ev_loop (fun k i => heraldref10_Table.l1 k p h (cosL ang h (q * h + i)) (sinL ang h (q * h + i)) q (2 ^ i) i) _ h (fun _ => True) trivial (fun _ => ?_) (fun i hi _ ih2 => ?_)
              · refine Ev.step (fun k => ?_) (ih trivial)
                simp only [heraldref10_Table.l1]
                rw [if_neg (by omega), wrap64_id' (by omega) (by omega), Nat.succ_mul]; rfl
              · have hp := pow2_32 (i := i) (by omega)
                have hd := div_in (a := 64 * (q : Int)) (d := 2 ^ i) (by omega) hp.1
                have es : wrap64 (Int.tdiv (wrap64 (64 * (q : Int))) (2 ^ i)) = ang q i := by
                  unfold ang
                  rw [wrap64_id' (x := 64 * (q : Int)) (by omega) (by omega), Int.tdiv_eq_ediv_of_nonneg (by omega), wrap64_id' (by omega) (by omega)]
                have ha : 0 ≤ ang q i ∧ ang q i ≤ 64 * (q : Int) := hd
                refine Ev.step (f := fun k => (heraldref10_Sine.f k (ang q i + 64)).bind fun t => (heraldref10_Sine.f k (ang q i)).bind fun u => heraldref10_Table.l1 k p h (cosL ang h (q * h + i) ++ [t]) (sinL ang h (q * h + i) ++ [u]) q (2 ^ (i + 1)) ((i + 1 : Nat) : Int)) (fun k => ?_) ?_
                · simp only [heraldref10_Table.l1, es, cosL_len, sinL_len]
                  rw [if_pos (by omega), if_neg (by omega), wrap64_id' (x := ang q i + 64) (by omega) (by omega), wrap64_id' (x := (i : Int) + 1) (by omega) (by omega), wrap64_id' (x := (2 : Int) ^ i * 2) (by omega) (by omega), ← Int.pow_succ]
                  simp only [show q * h + i < 140737488355328 by omega, if_true]; rfl
                · refine Ev.bind (rSine_f _ ⟨by omega, by omega⟩) ?_
                  refine Ev.bind (rSine_f _ ⟨by omega, by omega⟩) ?_
                  rw [← cosL_snoc ang hi, ← sinL_snoc ang hi]; exact ih2 trivial

theorem angS_in {q i : Nat} {num den : Int} (hq : q < 512) (hi : i < 32) (n0 : 1 ≤ num) (n1 : num ≤ 65536) (d0 : 1 ≤ den) (d1 : den ≤ 65536) : (0 ≤ 64 * (q : Int) * num ∧ 64 * (q : Int) * num ≤ 2147483648) ∧ (1 ≤ 2 ^ i * den ∧ 2 ^ i * den ≤ 281474976710656) ∧ 0 ≤ 64 * (q : Int) * num / (2 ^ i * den) ∧ 64 * (q : Int) * num / (2 ^ i * den) ≤ 2147483648 := by
  have hp := pow2_32 (i := i) (by omega)
  have h1 : 0 ≤ 64 * (q : Int) * num := Int.mul_nonneg (by omega) (by omega)
  have h2 : 64 * (q : Int) * num ≤ 32768 * 65536 := Int.mul_le_mul (by omega) n1 (by omega) (by omega)
  have h3 : 1 * 1 ≤ 2 ^ i * den := Int.mul_le_mul (by omega) d0 (by omega) (by omega)
  have h4 : 2 ^ i * den ≤ 4294967296 * 65536 := Int.mul_le_mul (by omega) d1 (by omega) (by omega)
  have h5 := div_in (a := 64 * (q : Int) * num) (d := 2 ^ i * den) h1 (by omega)
  exact ⟨⟨h1, by omega⟩, ⟨by omega, by omega⟩, h5.1, by omega⟩
theorem shl_den {den : Int} {i : Nat} (hi : i < 32) (d0 : 1 ≤ den) (d1 : den ≤ 65536) : shl .i64 den (i : Int) = 2 ^ i * den := by
  have hp := pow2_32 (i := i) (by omega)
  have h4 : 2 ^ i * den ≤ 4294967296 * 65536 := Int.mul_le_mul (by omega) d1 (by omega) (by omega)
  have h3 : 1 * 1 ≤ 2 ^ i * den := Int.mul_le_mul (by omega) d0 (by omega) (by omega)
  unfold shl
  have e0 : IntKind.bits .i64 = 64 := rfl
  rw [e0, Int.toNat_natCast, Nat.min_eq_left (by omega), i64wrap_eq, Int.mul_comm, wrap64_id' (by omega) (by omega)]
end Go.Proofs.YtengkjkmdodifaaDoor.L
