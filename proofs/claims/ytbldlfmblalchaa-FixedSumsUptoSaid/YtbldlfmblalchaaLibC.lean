/- Lemmas on the printed functions: what each answers, in plain words of Lean; on condition that the numbers are of their kinds. -/
import Derived.Test.YtbldlfmblalchaaPx3
import Derived.Test.YtbldlfmblalchaaPx4
import Derived.Test.YtbldlfmblalchaaPx5
import Derived.Test.YtbldlfmblalchaaMath
import Derived.Test.YtbldlfmblalchaaLibB
namespace Go.Proofs.Ytbldlfmblalchaa.L
open Go Go.RowKit Go.Proofs.Ytbldlfmblalchaa.M Go.Proofs.Ytbldlfmblalchaa.P Go.Proofs.YtbldlfmblalchaaW.PrintWords Go.Proofs.YtbldlfmblalchaaW.PrintLast Go.Proofs.YtbldlfmblalchaaW.PrintMore
set_option linter.unusedVariables false
set_option linter.unusedSimpArgs false

theorem uwrap (n : Int) : IntKind.u64.wrap n = n % 18446744073709551616 := by
  have e2 : IntKind.bits .u64 = 64 := rfl
  have e3 : IntKind.signed .u64 = false := rfl
  simp only [IntKind.wrap, e2, e3, Bool.false_and, Bool.false_eq_true, if_false]
  rfl
theorem wrap64_def (n : Int) : wrap64 n = (n + 9223372036854775808) % 18446744073709551616 - 9223372036854775808 := by unfold wrap64; rfl
def addS (a b : Int) : Int × Bool := if -9223372036854775808 ≤ a + b ∧ a + b ≤ 9223372036854775807 then (a + b, true) else (0, false)
def mulS (a b : Int) : Int × Bool := if -9223372036854775808 ≤ a * b ∧ a * b ≤ 9223372036854775807 then (a * b, true) else (0, false)
theorem mulS_in {a b : Int} : I64 (mulS a b).1 := by
  unfold mulS; split
  · assumption
  · exact ⟨by decide, by decide⟩

theorem size_f (a : Int) (h : I64 a) : fixed_size.f a = some (a.natAbs : Int) := by
  unfold fixed_size.f; unfold I64 at h
  simp only [uwrap]
  split <;> congr 1 <;> omega

theorem rsize_f (a : Int) (h : I64 a) : heraldref02_size.f a = some (a.natAbs : Int) := by
  unfold heraldref02_size.f; unfold I64 at h
  split
  · rw [wrap64_id' (x := a + 1) (by omega) (by omega), wrap64_id' (by omega) (by omega)]
    simp only [uwrap]; congr 1; omega
  · simp only [uwrap]; congr 1; omega

theorem Add_f (a b : Int) (ha : I64 a) (hb : I64 b) : fixed_Add.f a b = some (addS a b) := by
  unfold fixed_Add.f addS; unfold I64 at ha hb
  have hw := wrap64_def (a + b)
  by_cases c1 : a < 0
  · by_cases c2 : b < 0
    · simp only [c1, c2, decide_true, beq_self_eq_true, if_true]
      by_cases c3 : wrap64 (a + b) < 0
      · simp only [c3, decide_true, bne_self_eq_false, Bool.false_eq_true, if_false]
        rw [if_pos (by omega)]; congr 2; omega
      · simp only [c3, decide_false, Bool.false_bne, if_true]
        rw [if_neg (by omega)]
    · simp only [c1, c2, decide_true, decide_false, Bool.true_beq, Bool.false_eq_true, if_false]
      rw [if_pos (by omega)]; congr 2; omega
  · by_cases c2 : b < 0
    · simp only [c1, c2, decide_true, decide_false, Bool.false_beq, Bool.not_true, Bool.false_eq_true, if_false]
      rw [if_pos (by omega)]; congr 2; omega
    · simp only [c1, c2, decide_false, beq_self_eq_true, if_true]
      by_cases c3 : wrap64 (a + b) < 0
      · simp only [c3, decide_true, Bool.true_bne, Bool.not_false, if_true]
        rw [if_neg (by omega)]
      · simp only [c3, decide_false, bne_self_eq_false, Bool.false_eq_true, if_false]
        rw [if_pos (by omega)]; congr 2; omega

theorem rAdd_f (a b : Int) (ha : I64 a) (hb : I64 b) : heraldref02_Add.f a b = some (addS a b) := by
  unfold heraldref02_Add.f addS; unfold I64 at ha hb
  by_cases c1 : b > 0
  · rw [if_pos c1, wrap64_id' (x := 9223372036854775807 - b) (by omega) (by omega)]
    by_cases c2 : a > 9223372036854775807 - b
    · rw [if_pos c2, if_neg (by omega)]
    · rw [if_neg c2, if_neg (by omega), if_pos (by omega), wrap64_id' (by omega) (by omega)]
  · rw [if_neg c1]
    by_cases c2 : b < 0
    · rw [if_pos c2, wrap64_id' (x := -9223372036854775808 - b) (by omega) (by omega)]
      by_cases c3 : a < -9223372036854775808 - b
      · rw [if_pos c3, if_neg (by omega)]
      · rw [if_neg c3, if_pos (by omega), wrap64_id' (by omega) (by omega)]
    · rw [if_neg c2, if_pos (by omega), wrap64_id' (by omega) (by omega)]

theorem Mul_f (a b : Int) (ha : I64 a) (hb : I64 b) : fixed_Mul.f a b = some (mulS a b) := by
  unfold fixed_Mul.f
  rw [size_f a ha, size_f b hb]
  unfold I64 at ha hb
  have hP0 : 0 ≤ (a.natAbs : Int) * (b.natAbs : Int) := Int.mul_nonneg (by omega) (by omega)
  have hm : bits_Mul64.f (a.natAbs : Int) (b.natAbs : Int) = some ((a.natAbs : Int) * (b.natAbs : Int) / 18446744073709551616, (a.natAbs : Int) * (b.natAbs : Int) % 18446744073709551616) := by
    unfold bits_Mul64.f; exact if_pos ⟨by omega, by omega, by omega, by omega⟩
  simp only [Option.bind_some, hm]
  congr 1
  have key : a * b = if (decide (a < 0) != decide (b < 0)) = true then -((a.natAbs : Int) * (b.natAbs : Int)) else (a.natAbs : Int) * (b.natAbs : Int) := by
    by_cases c1 : a < 0
    · have e1 : (a.natAbs : Int) = -a := by omega
      by_cases c2 : b < 0
      · have e2 : (b.natAbs : Int) = -b := by omega
        simp only [c1, c2, decide_true, bne_self_eq_false, Bool.false_eq_true, if_false]
        rw [e1, e2, Int.neg_mul_neg]
      · have e2 : (b.natAbs : Int) = b := by omega
        simp only [c1, c2, decide_true, decide_false, Bool.true_bne, Bool.not_false, if_true]
        rw [e1, e2, Int.neg_mul, Int.neg_neg]
    · have e1 : (a.natAbs : Int) = a := by omega
      by_cases c2 : b < 0
      · have e2 : (b.natAbs : Int) = -b := by omega
        simp only [c1, c2, decide_true, decide_false, Bool.false_bne, if_true]
        rw [e1, e2, Int.mul_neg, Int.neg_neg]
      · have e2 : (b.natAbs : Int) = b := by omega
        simp only [c1, c2, decide_false, bne_self_eq_false, Bool.false_eq_true, if_false]
        rw [e1, e2]
  generalize (a.natAbs : Int) * (b.natAbs : Int) = P at *
  generalize (decide (a < 0) != decide (b < 0)) = s at *
  unfold mulRes mulS
  have hw := wrap64_def
  simp only [hw]
  cases s
  · simp only [Bool.false_eq_true, if_false] at key ⊢
    rw [key]
    repeat' split
    all_goals first | rfl | (exfalso; omega) | (congr 1; omega)
  · simp only [if_true] at key ⊢
    rw [key]
    repeat' split
    all_goals first | rfl | (exfalso; omega) | (congr 1; omega)

theorem rMul_f (a b : Int) (ha : I64 a) (hb : I64 b) : Ev (fun k => heraldref02_Mul.f k a b) (mulS a b) := by
  unfold I64 at ha hb
  have zero : (a = 0 ∨ b = 0) → mulS a b = (0, true) := by
    intro h
    have e : a * b = 0 := by rcases h with h | h <;> simp [h]
    unfold mulS; rw [e]; rfl
  have one : Ev (fun k => heraldref02_Mul.j0 k a b true) (0, true) := Ev.step (fun k => by simp only [heraldref02_Mul.j0, if_true]) (Ev.now _)
  unfold heraldref02_Mul.f
  by_cases c1 : a = 0
  · simp only [c1, if_true]; rw [← c1, zero (.inl c1)]; exact one
  · by_cases c2 : b = 0
    · simp only [c1, if_false]
      rw [zero (.inr c2), show (b == 0) = true from beq_iff_eq.mpr c2]; exact one
    · simp only [c1, if_false, show (b == 0) = false from beq_eq_false_iff_ne.mpr c2]
      by_cases c3 : a = -9223372036854775808 ∨ b = -9223372036854775808
      · refine Ev.step (f := fun k => heraldref02_Mul.j1 k a b true) (fun k => ?_) ?_
        · simp only [heraldref02_Mul.j0, Bool.false_eq_true, if_false]
          by_cases c4 : a = -9223372036854775808
          · rw [if_pos c4]
          · rw [if_neg c4, show (b == -9223372036854775808) = true from beq_iff_eq.mpr (by omega)]
        · by_cases c5 : a = 1 ∨ b = 1
          · have e : mulS a b = (-9223372036854775808, true) := by
              have : a * b = -9223372036854775808 := by rcases c5 with h | h <;> rcases c3 with h' | h' <;> simp [h, h'] <;> omega
              unfold mulS; rw [this]; rfl
            rw [e]
            refine Ev.step (f := fun k => heraldref02_Mul.j2 k true) (fun k => ?_) (Ev.step (fun k => by simp only [heraldref02_Mul.j2, if_true]) (Ev.now _))
            simp only [heraldref02_Mul.j1, if_true]
            by_cases c6 : a = 1
            · rw [if_pos c6]
            · rw [if_neg c6, show (b == 1) = true from beq_iff_eq.mpr (by omega)]
          · have e : mulS a b = (0, false) := by
              unfold mulS
              rcases c3 with h | h
              · subst h; rw [if_neg (by omega)]
              · subst h; rw [if_neg (by omega)]
            rw [e]
            refine Ev.step (f := fun k => heraldref02_Mul.j2 k false) (fun k => ?_) (Ev.step (fun k => by simp only [heraldref02_Mul.j2, Bool.false_eq_true, if_false]) (Ev.now _))
            simp only [heraldref02_Mul.j1, if_true]
            rw [if_neg (by omega), show (b == 1) = false from beq_eq_false_iff_ne.mpr (by omega)]
      · refine Ev.step (f := fun k => heraldref02_Mul.j1 k a b false) (fun k => ?_) ?_
        · simp only [heraldref02_Mul.j0, Bool.false_eq_true, if_false]
          rw [if_neg (by omega), show (b == -9223372036854775808) = false from beq_eq_false_iff_ne.mpr (by omega)]
        · refine Ev.step (f := fun _ => some (mulS a b)) (fun k => ?_) (Ev.now _)
          simp only [heraldref02_Mul.j1, Bool.false_eq_true, if_false]
          rw [if_neg c1]
          unfold mulS
          by_cases c4 : -9223372036854775808 ≤ a * b ∧ a * b ≤ 9223372036854775807
          · rw [if_pos c4, wrap64_id' (x := a * b) c4.1 c4.2, Int.mul_tdiv_cancel_left _ c1, wrap64_id' (by omega) (by omega), if_pos rfl, Int.mul_tmod_right, if_pos rfl]
          · rw [if_neg c4]
            have hc : wrap64 (a * b) ≠ a * b := by unfold wrap64; omega
            have hcr : -9223372036854775808 ≤ wrap64 (a * b) ∧ wrap64 (a * b) ≤ 9223372036854775807 := by unfold wrap64; omega
            generalize wrap64 (a * b) = c at *
            have hd := Int.mul_tdiv_add_tmod c a
            have hn := Int.natAbs_tdiv_le_natAbs c a
            by_cases c5 : wrap64 (Int.tdiv c a) = b
            · rw [if_pos c5]
              by_cases c6 : Int.tmod c a = 0
              · exfalso
                have : Int.tdiv c a = b := by
                  unfold wrap64 at c5; omega
                rw [this, c6] at hd
                omega
              · rw [if_neg c6]
            · rw [if_neg c5]

def tot : List Int → Int → Int
  | [], s => s
  | x :: t, s => tot t (s + x)
def sumS (l : List Int) : Int × Bool := if -9223372036854775808 ≤ tot l 0 ∧ tot l 0 ≤ 9223372036854775807 then (tot l 0, true) else (0, false)
theorem and_mask (x : Int) : bits .and .i64 x 4294967295 = x % 4294967296 := by
  simp only [bits]
  have h : (BitVec.ofInt 64 x &&& BitVec.ofInt 64 4294967295).toNat = (x % 4294967296).toNat := by
    rw [BitVec.toNat_and]
    have e : (BitVec.ofInt 64 4294967295).toNat = 2 ^ 32 - 1 := rfl
    rw [e, Nat.and_two_pow_sub_one_eq_mod, BitVec.toNat_ofInt]
    omega
  show IntKind.i64.wrap ↑((BitVec.ofInt 64 x &&& BitVec.ofInt 64 4294967295).toNat) = x % 4294967296
  rw [h, IntKind.wrap_i64]; omega

theorem Sum_l (l : List Int) (hl : l.length ≤ 4294967296) (hx : ∀ x ∈ l, I64 x) : ∀ (t : List Int) (i : Nat) (h lo : Int), l.drop i = t → i ≤ l.length → 0 ≤ lo → lo < 18446744073709551616 → -i ≤ h → h ≤ i → tot t (h * 18446744073709551616 + lo) = tot l 0 → Ev (fun k => fixed_Sum.l0 k h lo l l.length i) (sumS l) := by
  intro t
  induction t with
  | nil =>
    intro i h lo hd hi1 h0 h1 h2 h3 ht
    have hi := drop_nil hd
    simp only [tot] at ht
    refine Ev.step (f := fun _ => some (sumS l)) (fun k => ?_) (Ev.now _)
    simp only [fixed_Sum.l0]
    rw [if_neg (by omega)]
    have hw := wrap64_def lo
    unfold sumS
    rw [hw, ← ht]
    repeat' split
    all_goals first | rfl | (exfalso; omega) | (congr 2; omega)
  | cons x t ih =>
    intro i h lo hd hi1 h0 h1 h2 h3 ht
    obtain ⟨hi, hg, hd'⟩ := drop_cons hd
    have hr := rd_of_get hg
    have hxx := hx x (List.mem_of_getElem? hg)
    unfold I64 at hxx
    have ha : bits_Add64.f lo (IntKind.u64.wrap x) 0 = some ((lo + x % 18446744073709551616) % 18446744073709551616, (lo + x % 18446744073709551616) / 18446744073709551616) := by
      rw [uwrap]; unfold bits_Add64.f
      rw [if_pos ⟨h0, by omega, by omega⟩, Int.add_zero]
    refine Ev.step (fun k => ?_) (ih (i + 1) (h + (x / 9223372036854775808 + (lo + x % 18446744073709551616) / 18446744073709551616)) ((lo + x % 18446744073709551616) % 18446744073709551616) hd' (by omega) (by omega) (by omega) (by omega) (by omega) ?_)
    · simp only [fixed_Sum.l0, hr, ha, Option.bind_some]
      rw [if_pos (by omega), if_pos (by omega), if_pos (by omega), wrap64_id' (x := (lo + x % 18446744073709551616) / 18446744073709551616) (by omega) (by omega), wrap64_id' (x := x / 9223372036854775808 + (lo + x % 18446744073709551616) / 18446744073709551616) (by omega) (by omega), wrap64_id' (x := h + (x / 9223372036854775808 + (lo + x % 18446744073709551616) / 18446744073709551616)) (by omega) (by omega), wrap64_id' (by omega) (by omega)]
      rfl
    · rw [← ht]; simp only [tot]; congr 1; omega
theorem Sum_f (l : List Int) (hl : l.length ≤ 4294967296) (hx : ∀ x ∈ l, I64 x) : Ev (fun k => fixed_Sum.f k l) (sumS l) := by
  unfold fixed_Sum.f
  exact Sum_l l hl hx l 0 0 0 rfl (by omega) (by omega) (by omega) (by omega) (by omega) rfl

theorem rSum_l (l : List Int) (hl : l.length ≤ 1073741824) (hx : ∀ x ∈ l, I64 x) : ∀ (t : List Int) (i : Nat) (h lo : Int), l.drop i = t → i ≤ l.length → 0 ≤ lo → lo ≤ 4294967295 * i → -2147483648 * i ≤ h → h ≤ 2147483648 * i → tot t (h * 4294967296 + lo) = tot l 0 → Ev (fun k => heraldref02_Sum.l0 k h lo l l.length i) (sumS l) := by
  intro t
  induction t with
  | nil =>
    intro i h lo hd hi1 h0 h1 h2 h3 ht
    have hi := drop_nil hd
    simp only [tot] at ht
    refine Ev.step (f := fun _ => some (sumS l)) (fun k => ?_) (Ev.now _)
    simp only [heraldref02_Sum.l0, and_mask]
    rw [if_neg (by omega)]
    rw [wrap64_id' (x := h + lo / 4294967296) (by omega) (by omega)]
    unfold sumS
    rw [← ht]
    by_cases c1 : h + lo / 4294967296 < -2147483648
    · rw [if_pos c1, if_neg (by omega)]
    · rw [if_neg c1]
      by_cases c2 : h + lo / 4294967296 > 2147483647
      · rw [if_pos c2, if_neg (by omega)]
      · rw [if_neg c2, if_pos (by omega), wrap64_id' (x := (h + lo / 4294967296) * 4294967296) (by omega) (by omega), wrap64_id' (by omega) (by omega)]
        congr 2; omega
  | cons x t ih =>
    intro i h lo hd hi1 h0 h1 h2 h3 ht
    obtain ⟨hi, hg, hd'⟩ := drop_cons hd
    have hr := rd_of_get hg
    have hxx := hx x (List.mem_of_getElem? hg)
    unfold I64 at hxx
    refine Ev.step (fun k => ?_) (ih (i + 1) (h + x / 4294967296) (lo + x % 4294967296) hd' (by omega) (by omega) (by omega) (by omega) (by omega) ?_)
    · simp only [heraldref02_Sum.l0, hr, and_mask]
      rw [if_pos (by omega), if_pos (by omega), if_pos (by omega), wrap64_id' (x := h + x / 4294967296) (by omega) (by omega), wrap64_id' (x := lo + x % 4294967296) (by omega) (by omega), wrap64_id' (by omega) (by omega)]
      rfl
    · rw [← ht]; simp only [tot]; congr 1; omega
theorem rSum_f (l : List Int) (hl : l.length ≤ 1073741824) (hx : ∀ x ∈ l, I64 x) : Ev (fun k => heraldref02_Sum.f k l) (sumS l) := by
  unfold heraldref02_Sum.f
  exact rSum_l l (by omega) hx l 0 0 0 rfl (by omega) (by omega) (by omega) (by omega) (by omega) rfl

/-- A number times x, so often. -/
def powGo (x : Int) : Nat → Int → Int × Bool
  | 0, out => (out, true)
  | m + 1, out => if -9223372036854775808 ≤ out * x ∧ out * x ≤ 9223372036854775807 then powGo x m (out * x) else (0, false)
def powS (x n : Int) : Int × Bool := if n < 0 then (0, false) else (if -1 ≤ x ∧ x ≤ 1 then (if n = 0 ∨ x = -1 ∧ n % 2 = 0 then (1, true) else (x, true)) else powGo x n.toNat 1)
theorem even_tmod (n : Int) : Int.tmod n 2 = 0 ↔ n % 2 = 0 := by
  have h := tmod_pos (a := n) (d := 2) (by omega)
  split at h <;> omega

theorem Power_l (x : Int) (hx : I64 x) (n : Nat) (hn : n ≤ 9223372036854775807) : ∀ (d i : Nat) (out : Int), i + d = n → I64 out → Ev (fun k => fixed_Power.l0 k x out n i) (powGo x d out) := by
  intro d
  induction d with
  | zero =>
    intro i out hi ho
    exact Ev.step (fun k => by simp only [fixed_Power.l0]; rw [if_neg (by omega)]; rfl) (Ev.now _)
  | succ d ih =>
    intro i out hi ho
    have hm := Mul_f out x ho hx
    simp only [powGo]
    by_cases c : -9223372036854775808 ≤ out * x ∧ out * x ≤ 9223372036854775807
    · rw [if_pos c]
      refine Ev.step (fun k => ?_) (ih (i + 1) (out * x) (by omega) c)
      have e : mulS out x = (out * x, true) := by unfold mulS; rw [if_pos c]
      simp only [fixed_Power.l0, hm, e, Option.bind_some, if_true]
      rw [if_pos (by omega), wrap64_id' (by omega) (by omega)]; rfl
    · rw [if_neg c]
      refine Ev.step (f := fun _ => some (0, false)) (fun k => ?_) (Ev.now _)
      have e : mulS out x = (0, false) := by unfold mulS; rw [if_neg c]
      simp only [fixed_Power.l0, hm, e, Option.bind_some, Bool.false_eq_true, if_false]
      rw [if_pos (by omega)]
theorem Power_f (x n : Int) (hx : I64 x) (hn : I64 n) : Ev (fun k => fixed_Power.f k x n) (powS x n) := by
  have hn' := hn
  unfold I64 at hn
  unfold fixed_Power.f powS
  by_cases c1 : n < 0
  · simp only [c1, if_true]; exact Ev.now _
  · simp only [c1, if_false]
    by_cases c2 : -1 ≤ x ∧ x ≤ 1
    · rw [if_pos c2]
      simp only [show x ≥ -1 from c2.1, if_true, decide_eq_true c2.2]
      refine Ev.step (f := fun _ => some (if n = 0 ∨ x = -1 ∧ n % 2 = 0 then (1, true) else (x, true))) (fun k => ?_) (Ev.now _)
      simp only [fixed_Power.j0, if_true]
      by_cases c3 : n = 0
      · rw [if_pos c3, if_pos (.inl c3)]
      · rw [if_neg c3]
        by_cases c4 : x = -1
        · rw [if_pos c4]
          by_cases c5 : n % 2 = 0
          · rw [if_pos ((even_tmod n).mpr c5), if_pos (.inr ⟨c4, c5⟩)]
          · rw [if_neg (fun h => c5 ((even_tmod n).mp h)), if_neg (by omega)]
        · rw [if_neg c4, if_neg (by omega)]
    · rw [if_neg c2]
      have hl := Power_l x hx n.toNat (by omega) n.toNat 0 1 (by omega) ⟨by omega, by omega⟩
      rw [show ((n.toNat : Nat) : Int) = n by omega] at hl
      have hj : Ev (fun k => fixed_Power.j0 k x n false) (powGo x n.toNat 1) := Ev.step (fun k => by simp only [fixed_Power.j0, Bool.false_eq_true, if_false]; rfl) hl
      by_cases c3 : x ≥ -1
      · simp only [c3, if_true, show decide (x ≤ 1) = false from decide_eq_false (by omega)]; exact hj
      · simp only [c3, if_false]; exact hj

theorem rPower_l (x : Int) (hx : I64 x) (n : Nat) (hn : n ≤ 9223372036854775807) : ∀ (d i : Nat) (out : Int), i + d = n → I64 out → Ev (fun k => heraldref02_Power.l0 k x n out true i) (powGo x d out) := by
  intro d
  induction d with
  | zero =>
    intro i out hi ho
    exact Ev.step (fun k => by simp only [heraldref02_Power.l0]; rw [if_neg (by omega)]; rfl) (Ev.now _)
  | succ d ih =>
    intro i out hi ho
    have hm := rMul_f out x ho hx
    refine Ev.step (f := fun k => (heraldref02_Mul.f k out x).bind fun bt => heraldref02_Power.l0 k x n bt.1 bt.2 ((i + 1 : Nat) : Int)) (fun k => ?_) (Ev.bind hm ?_)
    · simp only [heraldref02_Power.l0, if_true]
      rw [if_pos (by omega), wrap64_id' (by omega) (by omega)]; rfl
    · simp only [powGo]
      by_cases c : -9223372036854775808 ≤ out * x ∧ out * x ≤ 9223372036854775807
      · rw [if_pos c]
        have e : mulS out x = (out * x, true) := by unfold mulS; rw [if_pos c]
        rw [e]; exact ih (i + 1) (out * x) (by omega) c
      · rw [if_neg c]
        have e : mulS out x = (0, false) := by unfold mulS; rw [if_neg c]
        rw [e]
        refine Ev.step (f := fun _ => some (0, false)) (fun k => ?_) (Ev.now _)
        simp only [heraldref02_Power.l0, Bool.false_eq_true, if_false, ite_self]
theorem rPower_f (x n : Int) (hx : I64 x) (hn : I64 n) : Ev (fun k => heraldref02_Power.f k x n) (powS x n) := by
  have hn' := hn
  unfold I64 at hn
  unfold heraldref02_Power.f powS
  by_cases c1 : n < 0
  · simp only [c1, if_true]; exact Ev.now _
  · simp only [c1, if_false]
    by_cases c3 : n = 0
    · simp only [c3, true_or, if_true]
      by_cases c2 : -1 ≤ x ∧ x ≤ 1
      · rw [if_pos c2]; exact Ev.now _
      · rw [if_neg c2]; exact Ev.now _
    · simp only [c3, if_false, false_or]
      by_cases c2 : -1 ≤ x ∧ x ≤ 1
      · rw [if_pos c2]
        have hj : Ev (fun k => heraldref02_Power.j0 k x n true) (if x = -1 ∧ n % 2 = 0 then (1, true) else (x, true)) := by
          refine Ev.step (f := fun _ => some (if x = -1 ∧ n % 2 = 0 then (1, true) else (x, true))) (fun k => ?_) (Ev.now _)
          simp only [heraldref02_Power.j0, if_true]
          by_cases c4 : x = -1
          · rw [if_pos c4]
            by_cases c5 : n % 2 = 0
            · rw [if_pos ((even_tmod n).mpr c5), if_pos ⟨c4, c5⟩]
            · rw [if_neg (fun h => c5 ((even_tmod n).mp h)), if_neg (by omega)]
          · rw [if_neg c4, if_neg (by omega)]
        refine Ev.congr (fun k => ?_) hj
        by_cases c4 : x = 0
        · rw [if_pos c4]
        · by_cases c5 : x = 1
          · rw [if_neg c4, if_pos c5]
          · rw [if_neg c4, if_neg c5, show (x == -1) = true from beq_iff_eq.mpr (by omega)]
      · rw [if_neg c2]
        have hl := rPower_l x hx n.toNat (by omega) n.toNat 0 1 (by omega) ⟨by omega, by omega⟩
        rw [show ((n.toNat : Nat) : Int) = n by omega] at hl
        have hj : Ev (fun k => heraldref02_Power.j0 k x n false) (powGo x n.toNat 1) := Ev.step (fun k => by simp only [heraldref02_Power.j0, Bool.false_eq_true, if_false]; rfl) hl
        simp only [show ¬ x = 0 by omega, show ¬ x = 1 by omega, if_false, show (x == -1) = false from beq_eq_false_iff_ne.mpr (by omega)]
        exact hj

def gcdS (a c : Int) : Int × Bool := if (Nat.gcd a.natAbs c.natAbs : Int) > 9223372036854775807 then (0, false) else ((Nat.gcd a.natAbs c.natAbs : Int), true)

theorem Gcd_l : ∀ (y x : Nat), x ≤ 9223372036854775808 → y ≤ 9223372036854775808 → Ev (fun k => fixed_Gcd.l0 k (x : Int) (y : Int)) (if (Nat.gcd x y : Int) > 9223372036854775807 then (0, false) else ((Nat.gcd x y : Int), true)) := by
  intro y
  induction y using Nat.strongRecOn with
  | _ y ih =>
    intro x hx hy
    by_cases h : y = 0
    · subst h
      rw [Nat.gcd_zero_right]
      refine Ev.step (f := fun _ => some (if (x : Int) > 9223372036854775807 then (0, false) else ((x : Int), true))) (fun k => ?_) (Ev.now _)
      simp only [fixed_Gcd.l0]
      rw [if_neg (by omega)]
      by_cases c : (x : Int) > 9223372036854775807
      · rw [if_pos c, if_pos c]
      · rw [if_neg c, if_neg c, wrap64_id' (by omega) (by omega)]
    · have hlt := Nat.mod_lt x (show y > 0 by omega)
      have e : Nat.gcd x y = Nat.gcd y (x % y) := by rw [Nat.gcd_comm x y, Nat.gcd_rec y x, Nat.gcd_comm]
      rw [e]
      refine Ev.step (fun k => ?_) (ih (x % y) hlt y hy (by omega))
      simp only [fixed_Gcd.l0]
      rw [if_pos (by omega), if_neg (by omega), Int.tmod_eq_emod_of_nonneg (by omega)]
      rfl
theorem Gcd_f (a c : Int) (ha : I64 a) (hc : I64 c) : Ev (fun k => fixed_Gcd.f k a c) (gcdS a c) := by
  unfold fixed_Gcd.f gcdS
  rw [size_f a ha, size_f c hc]
  unfold I64 at ha hc
  simp only [Option.bind_some]
  exact Gcd_l c.natAbs a.natAbs (by omega) (by omega)

theorem rGcd_l : ∀ (y x : Nat), x ≤ 9223372036854775808 → y ≤ 9223372036854775808 → Ev (fun k => heraldref02_Gcd.l0 k (x : Int) (y : Int)) (if (Nat.gcd x y : Int) > 9223372036854775807 then (0, false) else ((Nat.gcd x y : Int), true)) := by
  intro y
  induction y using Nat.strongRecOn with
  | _ y ih =>
    intro x hx hy
    by_cases h : y = 0
    · subst h
      rw [Nat.gcd_zero_right]
      refine Ev.step (f := fun _ => some (if (x : Int) > 9223372036854775807 then (0, false) else ((x : Int), true))) (fun k => ?_) (Ev.now _)
      simp only [heraldref02_Gcd.l0]
      rw [if_neg (by omega)]
      by_cases c : (x : Int) > 9223372036854775807
      · rw [if_pos c, if_pos c]
      · rw [if_neg c, if_neg c, wrap64_id' (by omega) (by omega)]
    · have hlt := Nat.mod_lt x (show y > 0 by omega)
      have e : Nat.gcd x y = Nat.gcd y (x % y) := by rw [Nat.gcd_comm x y, Nat.gcd_rec y x, Nat.gcd_comm]
      rw [e]
      refine Ev.step (fun k => ?_) (ih (x % y) hlt y hy (by omega))
      simp only [heraldref02_Gcd.l0]
      rw [if_pos (by omega), if_neg (by omega), Int.tmod_eq_emod_of_nonneg (by omega)]
      rfl
theorem rGcd_f (a c : Int) (ha : I64 a) (hc : I64 c) : Ev (fun k => heraldref02_Gcd.f k a c) (gcdS a c) := by
  unfold heraldref02_Gcd.f gcdS
  rw [rsize_f a ha, rsize_f c hc]
  unfold I64 at ha hc
  simp only [Option.bind_some]
  exact rGcd_l c.natAbs a.natAbs (by omega) (by omega)
end Go.Proofs.Ytbldlfmblalchaa.L
