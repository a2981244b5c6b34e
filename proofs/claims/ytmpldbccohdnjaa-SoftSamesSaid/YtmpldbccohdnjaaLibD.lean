/- Lemmas on the printed functions: what each answers, in plain words of Lean; on condition that the numbers are of their kinds. -/
import Derived.Test.YtmpldbccohdnjaaPx1
import Derived.Test.YtmpldbccohdnjaaPx2
import Derived.Test.YtmpldbccohdnjaaPx7
import Derived.Test.YtmpldbccohdnjaaPx8
import Derived.Test.YtmpldbccohdnjaaPx9
import Derived.Test.YtmpldbccohdnjaaMath
import Derived.Test.YtmpldbccohdnjaaLibC
namespace Go.Proofs.Ytmpldbccohdnjaa.L
open Go Go.RowKit Go.Proofs.Ytmpldbccohdnjaa.M Go.Proofs.Ytmpldbccohdnjaa.P Go.Proofs.YtmpldbccohdnjaaW.PrintWords Go.Proofs.YtmpldbccohdnjaaW.PrintLast Go.Proofs.YtmpldbccohdnjaaW.PrintMore
set_option linter.unusedVariables false
set_option linter.unusedSimpArgs false

/-- The weights of a list that may be too long for Weights. -/
def slopedOf (l : List Int) (m : Int) (n : Nat) : List Int → Nat → List Int → Option (List Int)
  | [], _, a => some a
  | x :: t, i, a => if x < -1099511627776 ∨ x > 1099511627776 then none else slopedOf l m n t (i + 1) (a ++ [x - m * ((n : Int) - 1 - i)])
def slopedS (l : List Int) (m : Int) : List Int × Int := if l.length = 0 ∨ l.length > 512 ∨ m < 0 ∨ m > 1048576 then ([], 1) else (match slopedOf l m l.length l 0 [] with
  | none => ([], 1)
  | some a => weightsS a)
theorem slopedOf_zero (l : List Int) (n : Nat) : ∀ (t : List Int) (i : Nat) (a r : List Int), slopedOf l 0 n t i a = some r → r = a ++ t
  | [], i, a, r, h => by simp [slopedOf] at h; simp [h]
  | x :: t, i, a, r, h => by
    simp only [slopedOf] at h
    split at h
    · cases h
    · have := slopedOf_zero l n t _ _ _ h
      rw [this]; simp
theorem slope_in {x m : Int} {n i : Nat} (h0 : -1099511627776 ≤ x) (h1 : x ≤ 1099511627776) (m0 : 0 ≤ m) (m1 : m ≤ 1048576) (hn : n ≤ 512) (hi : i < n) : 0 ≤ m * ((n : Int) - 1 - i) ∧ m * ((n : Int) - 1 - i) ≤ 536870912 := by
  have a := Int.mul_nonneg m0 (show 0 ≤ (n : Int) - 1 - i by omega)
  have c := Int.mul_le_mul m1 (show (n : Int) - 1 - i ≤ 512 by omega) (by omega) (by omega)
  omega

theorem Sloped_l (l : List Int) (m : Int) (m0 : 0 ≤ m) (m1 : m ≤ 1048576) (hn : l.length ≤ 512) : ∀ (t : List Int) (i : Nat) (a : List Int), l.drop i = t → a.length = i → i ≤ l.length → (∀ x ∈ a, I64 x) → Ev (fun k => soft_Sloped.l0 k l m a l l.length i) (match slopedOf l m l.length t i a with
  | none => ([], 1)
  | some a => weightsS a) := by
  intro t
  induction t with
  | nil =>
    intro i a h ha hi1 hax
    have hi := drop_nil h
    refine Ev.step (f := fun k => (soft_Weights.f k a).bind fun bt => some (bt.1, bt.2)) (fun k => ?_) ?_
    · simp only [soft_Sloped.l0]; rw [if_neg (by omega)]
    · simp only [slopedOf]
      exact Ev.bind (Weights_f a hax) (Ev.now _)
  | cons x t ih =>
    intro i a h ha hi1 hax
    obtain ⟨hi, hg, hd⟩ := drop_cons h
    have hr := rd_of_get hg
    simp only [slopedOf]
    by_cases c1 : x < -1099511627776
    · rw [if_pos (.inl c1)]
      refine Ev.step (f := fun _ => some ([], 1)) (fun k => ?_) (Ev.now _)
      simp only [soft_Sloped.l0, hr]
      rw [if_pos (by omega), if_pos (by omega), if_pos (by omega), if_pos c1]
    · by_cases c2 : x > 1099511627776
      · rw [if_pos (.inr c2)]
        refine Ev.step (f := fun _ => some ([], 1)) (fun k => ?_) (Ev.now _)
        simp only [soft_Sloped.l0, hr]
        rw [if_pos (by omega), if_pos (by omega), if_pos (by omega), if_neg c1, if_pos c2]
      · rw [if_neg (by omega)]
        have hs := slope_in (x := x) (m := m) (n := l.length) (i := i) (by omega) (by omega) m0 m1 hn hi
        have hv : I64 (x - m * ((l.length : Int) - 1 - i)) := by unfold I64; omega
        refine Ev.step (fun k => ?_) (ih (i + 1) (a ++ [x - m * ((l.length : Int) - 1 - i)]) hd (by simp [ha]) (by omega) (fun y hy => by
          rcases List.mem_append.mp hy with hy | hy
          · exact hax y hy
          · simp at hy; rw [hy]; exact hv))
        simp only [soft_Sloped.l0, hr]
        rw [if_pos (by omega), if_pos (by omega), if_pos (by omega), if_neg c1, if_neg c2, if_pos (by omega), wrap64_id' (x := (l.length : Int) - 1) (by omega) (by omega), wrap64_id' (x := (l.length : Int) - 1 - i) (by omega) (by omega), wrap64_id' (x := m * ((l.length : Int) - 1 - i)) (by omega) (by omega), wrap64_id' (x := x - m * ((l.length : Int) - 1 - i)) (by omega) (by omega), wrap64_id' (x := (i : Int) + 1) (by omega) (by omega)]; rfl
theorem Sloped_f (l : List Int) (m : Int) : Ev (fun k => soft_Sloped.f k l m) (slopedS l m) := by
  unfold soft_Sloped.f slopedS
  have stop : Ev (fun k => soft_Sloped.j0 k l m true) ([], 1) := Ev.step (fun k => by simp only [soft_Sloped.j0, if_true]) (Ev.now _)
  by_cases h : l.length = 0
  · rw [if_pos (.inl h)]
    simp only [show (l.length : Int) = 0 by omega, if_true]; exact stop
  · by_cases h2 : l.length > 512
    · rw [if_pos (.inr (.inl h2))]
      simp only [show ¬ (l.length : Int) = 0 by omega, if_false, show (l.length : Int) > 512 by omega, if_true]; exact stop
    · by_cases h3 : m < 0
      · rw [if_pos (.inr (.inr (.inl h3)))]
        simp only [show ¬ (l.length : Int) = 0 by omega, show ¬ (l.length : Int) > 512 by omega, if_false, h3, if_true]; exact stop
      · by_cases h4 : m > 1048576
        · rw [if_pos (.inr (.inr (.inr h4)))]
          simp only [show ¬ (l.length : Int) = 0 by omega, show ¬ (l.length : Int) > 512 by omega, if_false, h3, h4, decide_true]; exact stop
        · rw [if_neg (by omega)]
          simp only [show ¬ (l.length : Int) = 0 by omega, show ¬ (l.length : Int) > 512 by omega, if_false, h3, h4, decide_false]
          refine Ev.step (fun k => by simp only [soft_Sloped.j0, Bool.false_eq_true, if_false]; rfl) ?_
          exact Sloped_l l m (by omega) (by omega) (by omega) l 0 [] rfl rfl (by omega) (by simp)

theorem rSloped_l (l : List Int) (m : Int) (m0 : 0 ≤ m) (m1 : m ≤ 1048576) (hn : l.length ≤ 512) : ∀ (t : List Int) (i : Nat) (a : List Int), l.drop i = t → a.length = i → i ≤ l.length → (∀ x ∈ a, I64 x) → Ev (fun k => heraldref11_Sloped.l0 k l m a i) (match slopedOf l m l.length t i a with
  | none => ([], 1)
  | some a => weightsS a) := by
  intro t
  induction t with
  | nil =>
    intro i a h ha hi1 hax
    have hi := drop_nil h
    refine Ev.step (f := fun k => (heraldref11_Weights.f k a).bind fun bt => some (bt.1, bt.2)) (fun k => ?_) ?_
    · simp only [heraldref11_Sloped.l0]; rw [if_neg (by omega)]
    · simp only [slopedOf]
      exact Ev.bind (rWeights_f a hax) (Ev.now _)
  | cons x t ih =>
    intro i a h ha hi1 hax
    obtain ⟨hi, hg, hd⟩ := drop_cons h
    have hr := rd_of_get hg
    simp only [slopedOf]
    by_cases c1 : x < -1099511627776
    · rw [if_pos (.inl c1)]
      refine Ev.step (f := fun _ => some ([], 1)) (fun k => ?_) (Ev.now _)
      simp only [heraldref11_Sloped.l0, hr]
      rw [if_pos (by omega), if_pos (by omega), if_pos c1]
    · by_cases c2 : x > 1099511627776
      · rw [if_pos (.inr c2)]
        refine Ev.step (f := fun _ => some ([], 1)) (fun k => ?_) (Ev.now _)
        simp only [heraldref11_Sloped.l0, hr]
        rw [if_pos (by omega), if_pos (by omega), if_neg c1, if_pos c2]
      · rw [if_neg (by omega)]
        have hs := slope_in (x := x) (m := m) (n := l.length) (i := i) (by omega) (by omega) m0 m1 hn hi
        have hv : I64 (x - m * ((l.length : Int) - 1 - i)) := by unfold I64; omega
        refine Ev.step (fun k => ?_) (ih (i + 1) (a ++ [x - m * ((l.length : Int) - 1 - i)]) hd (by simp [ha]) (by omega) (fun y hy => by
          rcases List.mem_append.mp hy with hy | hy
          · exact hax y hy
          · simp at hy; rw [hy]; exact hv))
        simp only [heraldref11_Sloped.l0, hr]
        rw [if_pos (by omega), if_pos (by omega), if_neg c1, if_neg c2, if_pos (by omega), wrap64_id' (x := (l.length : Int) - 1) (by omega) (by omega), wrap64_id' (x := (l.length : Int) - 1 - i) (by omega) (by omega), wrap64_id' (x := m * ((l.length : Int) - 1 - i)) (by omega) (by omega), wrap64_id' (x := x - m * ((l.length : Int) - 1 - i)) (by omega) (by omega), wrap64_id' (x := (i : Int) + 1) (by omega) (by omega)]; rfl
theorem rSloped_f (l : List Int) (m : Int) : Ev (fun k => heraldref11_Sloped.f k l m) (slopedS l m) := by
  unfold heraldref11_Sloped.f slopedS
  have stop : Ev (fun k => heraldref11_Sloped.j0 k l m true) ([], 1) := Ev.step (fun k => by simp only [heraldref11_Sloped.j0, if_true]) (Ev.now _)
  by_cases h : l.length = 0
  · rw [if_pos (.inl h)]
    simp only [show (l.length : Int) < 1 by omega, if_true]; exact stop
  · by_cases h2 : l.length > 512
    · rw [if_pos (.inr (.inl h2))]
      simp only [show ¬ (l.length : Int) < 1 by omega, if_false, show (l.length : Int) > 512 by omega, if_true]; exact stop
    · by_cases h3 : m < 0
      · rw [if_pos (.inr (.inr (.inl h3)))]
        simp only [show ¬ (l.length : Int) < 1 by omega, show ¬ (l.length : Int) > 512 by omega, if_false, h3, if_true]; exact stop
      · by_cases h4 : m > 1048576
        · rw [if_pos (.inr (.inr (.inr h4)))]
          simp only [show ¬ (l.length : Int) < 1 by omega, show ¬ (l.length : Int) > 512 by omega, if_false, h3, h4, decide_true]; exact stop
        · rw [if_neg (by omega)]
          simp only [show ¬ (l.length : Int) < 1 by omega, show ¬ (l.length : Int) > 512 by omega, if_false, h3, h4, decide_false]
          refine Ev.step (fun k => by simp only [heraldref11_Sloped.j0, Bool.false_eq_true, if_false]; rfl) ?_
          exact rSloped_l l m (by omega) (by omega) (by omega) l 0 [] rfl rfl (by omega) (by simp)

def okW (l : List Int) : Bool := l.all fun x => decide (0 ≤ x ∧ x ≤ 1073741824)
theorem okW_mem {l : List Int} (h : okW l = true) : ∀ x ∈ l, 0 ≤ x ∧ x ≤ 1073741824 := fun x hx => by
  have := List.all_eq_true.mp h x hx
  exact of_decide_eq_true this
def mixOf (m : Int) : List Int → List Int → List Int
  | x :: t, y :: u => ((65536 - m) * x + m * y) / 65536 :: mixOf m t u
  | _, _ => []
def mixS (v w : List Int) (m : Int) : List Int × Int := if v.length = w.length ∧ v.length ≤ 512 ∧ 0 ≤ m ∧ m ≤ 65536 then (if okW v = true ∧ okW w = true then (mixOf m v w, 0) else ([], 110)) else ([], 1)
theorem mixOf_same (m : Int) : ∀ l : List Int, mixOf m l l = l
  | [] => rfl
  | x :: t => by
    simp only [mixOf, mixOf_same m t]
    have e : (65536 - m) * x + m * x = x * 65536 := by rw [Int.sub_mul]; omega
    rw [e, Int.mul_ediv_cancel _ (by omega)]
theorem mix_in {x y m : Int} (x0 : 0 ≤ x) (x1 : x ≤ 1073741824) (y0 : 0 ≤ y) (y1 : y ≤ 1073741824) (m0 : 0 ≤ m) (m1 : m ≤ 65536) : 0 ≤ (65536 - m) * x ∧ (65536 - m) * x ≤ 70368744177664 ∧ 0 ≤ m * y ∧ m * y ≤ 70368744177664 := by
  have a := Int.mul_nonneg (show 0 ≤ 65536 - m by omega) x0
  have b := Int.mul_nonneg m0 y0
  have c := Int.mul_le_mul (show 65536 - m ≤ 65536 by omega) x1 x0 (by omega)
  have d := Int.mul_le_mul m1 y1 y0 (by omega)
  omega

theorem right_l (w : List Int) (h1 : w.length ≤ 4611686018427387904) : ∀ (t : List Int) (i : Nat), w.drop i = t → i ≤ w.length → Ev (fun k => soft_right.l0 k w w.length i) (okW t) := by
  intro t
  induction t with
  | nil =>
    intro i h hi1
    have hi := drop_nil h
    refine Ev.step (f := fun _ => some true) (fun k => ?_) (Ev.now _)
    simp only [soft_right.l0]; rw [if_neg (by omega)]
  | cons x t ih =>
    intro i h hi1
    obtain ⟨hi, hg, hd⟩ := drop_cons h
    have hr := rd_of_get hg
    by_cases c1 : x < 0
    · have e : okW (x :: t) = false := by simp [okW]; omega
      rw [e]
      refine Ev.step (f := fun _ => some false) (fun k => ?_) (Ev.now _)
      simp only [soft_right.l0, hr]
      rw [if_pos (by omega), if_pos (by omega), if_pos (by omega), if_pos c1]
    · by_cases c2 : x > 1073741824
      · have e : okW (x :: t) = false := by simp [okW]; omega
        rw [e]
        refine Ev.step (f := fun _ => some false) (fun k => ?_) (Ev.now _)
        simp only [soft_right.l0, hr]
        rw [if_pos (by omega), if_pos (by omega), if_pos (by omega), if_neg c1, if_pos c2]
      · have e : okW (x :: t) = okW t := by
          have : decide (0 ≤ x ∧ x ≤ 1073741824) = true := decide_eq_true (by omega)
          simp only [okW, List.all_cons, this, Bool.true_and]
        rw [e]
        refine Ev.step (fun k => ?_) (ih (i + 1) hd (by omega))
        simp only [soft_right.l0, hr]
        rw [if_pos (by omega), if_pos (by omega), if_pos (by omega), if_neg c1, if_neg c2, wrap64_id' (by omega) (by omega)]; rfl
theorem right_f (w : List Int) (h1 : w.length ≤ 4611686018427387904) : Ev (fun k => soft_right.f k w) (okW w) := by
  unfold soft_right.f
  exact right_l w h1 w 0 rfl (by omega)

theorem weighs_l (w : List Int) (h1 : w.length ≤ 4611686018427387904) : ∀ (t : List Int) (i : Nat), w.drop i = t → i ≤ w.length → Ev (fun k => heraldref11_weighs.l0 k w i) (okW t) := by
  intro t
  induction t with
  | nil =>
    intro i h hi1
    have hi := drop_nil h
    refine Ev.step (f := fun _ => some true) (fun k => ?_) (Ev.now _)
    simp only [heraldref11_weighs.l0]; rw [if_neg (by omega)]
  | cons x t ih =>
    intro i h hi1
    obtain ⟨hi, hg, hd⟩ := drop_cons h
    have hr := rd_of_get hg
    by_cases c1 : x < 0
    · have e : okW (x :: t) = false := by simp [okW]; omega
      rw [e]
      refine Ev.step (f := fun _ => some false) (fun k => ?_) (Ev.now _)
      simp only [heraldref11_weighs.l0, hr]
      rw [if_pos (by omega), if_pos (by omega), if_pos c1]
    · by_cases c2 : x > 1073741824
      · have e : okW (x :: t) = false := by simp [okW]; omega
        rw [e]
        refine Ev.step (f := fun _ => some false) (fun k => ?_) (Ev.now _)
        simp only [heraldref11_weighs.l0, hr]
        rw [if_pos (by omega), if_pos (by omega), if_neg c1, if_pos c2]
      · have e : okW (x :: t) = okW t := by
          have : decide (0 ≤ x ∧ x ≤ 1073741824) = true := decide_eq_true (by omega)
          simp only [okW, List.all_cons, this, Bool.true_and]
        rw [e]
        refine Ev.step (fun k => ?_) (ih (i + 1) hd (by omega))
        simp only [heraldref11_weighs.l0, hr]
        rw [if_pos (by omega), if_pos (by omega), if_neg c1, if_neg c2, wrap64_id' (by omega) (by omega)]; rfl
theorem weighs_f (w : List Int) (h1 : w.length ≤ 4611686018427387904) : Ev (fun k => heraldref11_weighs.f k w) (okW w) := by
  unfold heraldref11_weighs.f
  exact weighs_l w h1 w 0 rfl (by omega)

theorem Mix_l (v w : List Int) (m : Int) (m0 : 0 ≤ m) (m1 : m ≤ 65536) (hl : v.length = w.length) (hn : v.length ≤ 512) (hv : okW v = true) (hw : okW w = true) : ∀ (t u : List Int) (i : Nat) (a : List Int), v.drop i = t → w.drop i = u → a.length = i → i ≤ v.length → Ev (fun k => soft_Mix.l0 k w m a v v.length i) (a ++ mixOf m t u, 0) := by
  intro t
  induction t with
  | nil =>
    intro u i a h hu ha hi1
    have hi := drop_nil h
    refine Ev.step (f := fun _ => some (a, 0)) (fun k => ?_) (by cases u <;> simp only [mixOf, List.append_nil] <;> exact Ev.now _)
    simp only [soft_Mix.l0]; rw [if_neg (by omega)]
  | cons x t ih =>
    intro u i a h hu ha hi1
    obtain ⟨hi, hg, hd⟩ := drop_cons h
    have hr := rd_of_get hg
    have hxx := okW_mem hv x (List.mem_of_getElem? hg)
    cases u with
    | nil => have := drop_nil hu; omega
    | cons y u =>
      obtain ⟨hj, hgy, hd'⟩ := drop_cons hu
      have hry := rd_of_get hgy
      have hyy := okW_mem hw y (List.mem_of_getElem? hgy)
      have hm := mix_in hxx.1 hxx.2 hyy.1 hyy.2 m0 m1
      refine Ev.step (fun k => ?_) (by simpa [mixOf] using ih u (i + 1) (a ++ [((65536 - m) * x + m * y) / 65536]) hd hd' (by simp [ha]) (by omega))
      simp only [soft_Mix.l0, hr, hry]
      rw [if_pos (by omega), if_pos (by omega), if_pos (by omega), if_pos (by omega), wrap64_id' (x := 65536 - m) (by omega) (by omega), wrap64_id' (x := (65536 - m) * x) (by omega) (by omega), wrap64_id' (x := m * y) (by omega) (by omega), wrap64_id' (x := (65536 - m) * x + m * y) (by omega) (by omega), Floor_f _ _ ⟨by omega, by omega⟩ ⟨by omega, by omega⟩]
      unfold floorS
      rw [if_neg (by omega), wrap64_id' (by omega) (by omega)]
      simp only [Option.bind_some, show a.length < 17592186044416 by omega, if_true]

theorem Mix_f (v w : List Int) (m : Int) (h1 : v.length ≤ 4611686018427387904) : Ev (fun k => soft_Mix.f k v w m) (mixS v w m) := by
  unfold soft_Mix.f mixS
  have stop : Ev (fun k => soft_Mix.j0 k v w m true) ([], 1) := Ev.step (fun k => by simp only [soft_Mix.j0, if_true]) (Ev.now _)
  by_cases h : (v.length : Int) = (w.length : Int)
  · simp only [h, if_true]
    by_cases h2 : (w.length : Int) > 512
    · rw [if_neg (by omega)]; simp only [h2, if_true]; exact stop
    · by_cases h3 : m < 0
      · rw [if_neg (by omega)]; simp only [h2, if_false, h3, if_true]; exact stop
      · by_cases h4 : m > 65536
        · rw [if_neg (by omega)]; simp only [h2, if_false, h3, h4, decide_true]; exact stop
        · rw [if_pos (by omega)]; simp only [h2, if_false, h3, h4, decide_false]
          refine Ev.step (fun k => by simp only [soft_Mix.j0, Bool.false_eq_true, if_false]; rfl) ?_
          refine Ev.bind (right_f v h1) ?_
          by_cases c1 : okW v = true
          · simp only [c1, if_true, true_and]
            refine Ev.bind (right_f w (by omega)) ?_
            by_cases c2 : okW w = true
            · simp only [c2, if_true]
              exact Mix_l v w m (by omega) (by omega) (by omega) (by omega) c1 c2 v w 0 [] rfl rfl rfl (by omega)
            · simp only [c2, if_false]; exact Ev.now _
          · simp only [c1, if_false, false_and]; exact Ev.now _
  · rw [if_neg (by omega)]; simp only [h, if_false]; exact stop

theorem rMix_l (v w : List Int) (m : Int) (m0 : 0 ≤ m) (m1 : m ≤ 65536) (hl : v.length = w.length) (hn : v.length ≤ 512) (hv : okW v = true) (hw : okW w = true) : ∀ (t u : List Int) (i : Nat) (a : List Int), v.drop i = t → w.drop i = u → a.length = i → i ≤ v.length → Ev (fun k => heraldref11_Mix.l0 k v w m a i) (a ++ mixOf m t u, 0) := by
  intro t
  induction t with
  | nil =>
    intro u i a h hu ha hi1
    have hi := drop_nil h
    refine Ev.step (f := fun _ => some (a, 0)) (fun k => ?_) (by cases u <;> simp only [mixOf, List.append_nil] <;> exact Ev.now _)
    simp only [heraldref11_Mix.l0]; rw [if_neg (by omega)]
  | cons x t ih =>
    intro u i a h hu ha hi1
    obtain ⟨hi, hg, hd⟩ := drop_cons h
    have hr := rd_of_get hg
    have hxx := okW_mem hv x (List.mem_of_getElem? hg)
    cases u with
    | nil => have := drop_nil hu; omega
    | cons y u =>
      obtain ⟨hj, hgy, hd'⟩ := drop_cons hu
      have hry := rd_of_get hgy
      have hyy := okW_mem hw y (List.mem_of_getElem? hgy)
      have hm := mix_in hxx.1 hxx.2 hyy.1 hyy.2 m0 m1
      refine Ev.step (fun k => ?_) (by simpa [mixOf] using ih u (i + 1) (a ++ [((65536 - m) * x + m * y) / 65536]) hd hd' (by simp [ha]) (by omega))
      simp only [heraldref11_Mix.l0, hr, hry]
      rw [if_pos (by omega), if_pos (by omega), if_pos (by omega), wrap64_id' (x := 65536 - m) (by omega) (by omega), wrap64_id' (x := (65536 - m) * x) (by omega) (by omega), wrap64_id' (x := m * y) (by omega) (by omega), wrap64_id' (x := (65536 - m) * x + m * y) (by omega) (by omega), rFloor_f _ _ ⟨by omega, by omega⟩ ⟨by omega, by omega⟩]
      unfold floorS
      rw [if_neg (by omega), wrap64_id' (by omega) (by omega)]
      simp only [Option.bind_some, show a.length < 17592186044416 by omega, if_true]

theorem rMix_f (v w : List Int) (m : Int) (h1 : v.length ≤ 4611686018427387904) : Ev (fun k => heraldref11_Mix.f k v w m) (mixS v w m) := by
  unfold heraldref11_Mix.f mixS
  have stop : Ev (fun k => heraldref11_Mix.j0 k v w m true) ([], 1) := Ev.step (fun k => by simp only [heraldref11_Mix.j0, if_true]) (Ev.now _)
  have no : Ev (fun k => heraldref11_Mix.j1 k v w m true) ([], 110) := Ev.step (fun k => by simp only [heraldref11_Mix.j1, if_true]) (Ev.now _)
  by_cases h : (v.length : Int) = (w.length : Int)
  · simp only [h, if_true]
    by_cases h2 : (w.length : Int) > 512
    · rw [if_neg (by omega)]; simp only [h2, if_true]; exact stop
    · by_cases h3 : m < 0
      · rw [if_neg (by omega)]; simp only [h2, if_false, h3, if_true]; exact stop
      · by_cases h4 : m > 65536
        · rw [if_neg (by omega)]; simp only [h2, if_false, h3, h4, decide_true]; exact stop
        · rw [if_pos (by omega)]; simp only [h2, if_false, h3, h4, decide_false]
          refine Ev.step (fun k => by simp only [heraldref11_Mix.j0, Bool.false_eq_true, if_false]; rfl) ?_
          refine Ev.bind (weighs_f v h1) ?_
          by_cases c1 : okW v = true
          · simp only [c1, if_true, true_and]
            refine Ev.bind (weighs_f w (by omega)) ?_
            by_cases c2 : okW w = true
            · simp only [c2, if_true, Bool.not_true]
              refine Ev.step (fun k => by simp only [heraldref11_Mix.j1, Bool.false_eq_true, if_false]; rfl) ?_
              exact rMix_l v w m (by omega) (by omega) (by omega) (by omega) c1 c2 v w 0 [] rfl rfl rfl (by omega)
            · simp only [c2, if_false, Bool.not_false]; exact no
          · simp only [c1, if_false, false_and]; exact no
  · rw [if_neg (by omega)]; simp only [h, if_false]; exact stop

theorem rdOf_true (n i : Nat) (h : i < n) : rdOf false (List.replicate n true) (i : Int) = true := by
  unfold rdOf; simp [List.getD_eq_getElem?_getD, h]
theorem Masked_1 (m : List Bool) (n : Nat) (hm : m = List.replicate n true) (hn : n ≤ 512) : ∀ (r p : List Int), p.length + r.length = n → Ev (fun k => soft_Masked.l1 k r (p ++ List.replicate r.length 0) m n p.length) (p ++ r, 0) := by
  intro r
  induction r with
  | nil =>
    intro p h
    refine Ev.step (f := fun _ => some (p, 0)) (fun k => ?_) (by simpa using Ev.now _)
    simp only [soft_Masked.l1, List.length_nil, List.replicate_zero, List.append_nil] at h ⊢
    rw [if_neg (by omega)]
  | cons y r ih =>
    intro p h
    simp only [List.length_cons] at h
    have hml : m.length = n := by rw [hm]; simp
    have hr : rdOf false m (p.length : Int) = true := by rw [hm]; exact rdOf_true n _ (by omega)
    have hs : (p ++ List.replicate (r.length + 1) (0 : Int)).set p.length y = (p ++ [y]) ++ List.replicate r.length 0 := by
      rw [List.set_append_right _ _ (Nat.le_refl _)]; simp [List.replicate_succ]
    have hgo := ih (p ++ [y]) (by simp; omega)
    refine Ev.step (f := fun k => soft_Masked.l1 k r ((p ++ [y]) ++ List.replicate r.length 0) m n (((p ++ [y]).length : Nat) : Int)) (fun k => ?_) (by simpa using hgo)
    simp only [soft_Masked.l1, hr, if_true, List.length_cons]
    rw [if_pos (by omega), if_pos (by omega), if_pos (by omega), if_pos (by omega), if_pos (by omega), if_pos (by simp; omega), wrap64_id' (by omega) (by omega)]
    have e0 : rd (y :: r) 0 = y := rfl
    have e1 : ((p.length : Int)).toNat = p.length := Int.toNat_natCast _
    have e2 : (y :: r).drop (1 : Int).toNat = r := rfl
    rw [e0, e1, e2, hs]
    simp
theorem Masked_0 (l : List Int) (hx : ∀ x ∈ l, I64 x) (m : List Bool) (hm : m = List.replicate l.length true) (hn : l.length ≤ 512) (h0 : l.length ≠ 0) : ∀ (t : List Int) (i : Nat) (a : List Int), l.drop i = t → a = l.take i → i ≤ l.length → Ev (fun k => soft_Masked.l0 k l m a m l.length i) (weightsS l) := by
  intro t
  have hml : m.length = l.length := by rw [hm]; simp
  induction t with
  | nil =>
    intro i a h ha hi1
    have hi := drop_nil h
    have e : a = l := by rw [ha, List.take_of_length_le hi]
    subst e
    refine Ev.step (f := fun k => (soft_Weights.f k a).bind fun bt => soft_Masked.l1 k bt.1 (List.replicate a.length 0) m a.length ((0 : Nat) : Int)) (fun k => ?_) ?_
    · simp only [soft_Masked.l0]
      rw [if_neg (by omega), if_neg (by omega)]
      simp only [Int.toNat_natCast, show (0 : Int) ≤ (a.length : Int) by omega, if_true, show a.length ≤ 35184372088832 by omega, hml]
      rfl
    · refine Ev.bind (Weights_f a hx) ?_
      have e : weightsS a = (a.map (wd (lmax a)), 0) := by unfold weightsS; rw [if_neg (by omega)]
      rw [e]
      have := Masked_1 m a.length hm hn (a.map (wd (lmax a))) [] (by simp)
      simpa using this
  | cons x t ih =>
    intro i a h ha hi1
    obtain ⟨hi, hg, hd⟩ := drop_cons h
    have hr := rd_of_get hg
    have hrm : rdOf false m (i : Int) = true := by rw [hm]; exact rdOf_true _ _ hi
    have hal : a.length = i := by rw [ha]; simp; omega
    have e : a ++ [x] = l.take (i + 1) := by rw [List.take_add_one, hg, ha]; rfl
    refine Ev.step (fun k => ?_) (ih (i + 1) (a ++ [x]) hd e (by omega))
    simp only [soft_Masked.l0, hr, hrm, if_true]
    rw [if_pos (by omega), if_pos (by omega), if_pos (by omega), if_pos (by omega), if_pos (by omega), wrap64_id' (by omega) (by omega)]; rfl
theorem Masked_f (l : List Int) (hx : ∀ x ∈ l, I64 x) : Ev (fun k => soft_Masked.f k l (List.replicate l.length true)) (weightsS l) := by
  unfold soft_Masked.f
  have stop : Ev (fun k => soft_Masked.j0 k l (List.replicate l.length true) true) ([], 1) := Ev.step (fun k => by simp only [soft_Masked.j0, if_true]) (Ev.now _)
  by_cases h : l.length = 0
  · simp only [show (l.length : Int) = 0 by omega, if_true, weightsS, h, true_or]; exact (by simpa [h] using stop)
  · by_cases h2 : l.length > 512
    · simp only [show ¬ (l.length : Int) = 0 by omega, if_false, show (l.length : Int) > 512 by omega, if_true, weightsS, h, h2, or_true]; exact stop
    · simp only [show ¬ (l.length : Int) = 0 by omega, if_false, show ¬ (l.length : Int) > 512 by omega, List.length_replicate, bne_self_eq_false]
      refine Ev.step (f := fun k => soft_Masked.l0 k l (List.replicate l.length true) [] (List.replicate l.length true) l.length ((0 : Nat) : Int)) (fun k => by simp only [soft_Masked.j0, Bool.false_eq_true, if_false, List.length_replicate]; rfl) ?_
      exact Masked_0 l hx _ rfl (by omega) h l 0 [] rfl (by simp) (by omega)
end Go.Proofs.Ytmpldbccohdnjaa.L
