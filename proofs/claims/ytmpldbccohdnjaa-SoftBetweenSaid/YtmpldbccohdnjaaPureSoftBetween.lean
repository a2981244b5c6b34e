/- A mean by weights is not below the least and not above the greatest of the numbers that weigh something, and it is the nearest whole number, halves up; what is refused is what the reference refuses. No condition but that the lists can be handed in. -/
import Derived.Test.YtmpldbccohdnjaaPx13
import Derived.Test.YtmpldbccohdnjaaLibC
namespace Go.Proofs.Ytmpldbccohdnjaa.Pure
open Go Go.RowKit Go.Proofs.Ytmpldbccohdnjaa.M Go.Proofs.Ytmpldbccohdnjaa.L Go.Proofs.Ytmpldbccohdnjaa.P Go.Proofs.YtmpldbccohdnjaaW.PrintWords Go.Proofs.YtmpldbccohdnjaaW.PrintLast Go.Proofs.YtmpldbccohdnjaaW.PrintMore
set_option linter.unusedVariables false
set_option linter.unusedSimpArgs false

/-- The least and the greatest that weigh something, the sum of weights and that of products. -/
def spn : List Int → List Int → Int → Int → Int → Int → Int × Int × Int × Int
  | x :: t, y :: u, lo, hi, s, n => spn t u (if x > 0 ∧ y < lo then y else lo) (if x > 0 ∧ y > hi then y else hi) (s + x) (n + x * y)
  | _, _, lo, hi, s, n => (lo, hi, s, n)
theorem spn_tot : ∀ (t u : List Int) (lo hi s n r : Int), t.length = u.length → tt t s = some r → (spn t u lo hi s n).2.2.1 = r ∧ (spn t u lo hi s n).2.2.2 = dotS t u n
  | [], [], lo, hi, s, n, r, hl, h => by simp [tt] at h; simp [spn, dotS, h]
  | [], y :: u, lo, hi, s, n, r, hl, h => by simp at hl
  | x :: t, [], lo, hi, s, n, r, hl, h => by simp at hl
  | x :: t, y :: u, lo, hi, s, n, r, hl, h => by
    simp only [tt] at h
    split at h
    · cases h
    · exact spn_tot t u _ _ _ _ r (by simpa using hl) h
/-- The products lie between: no less than the least so often, no more than the greatest so often. -/
theorem spn_between : ∀ (t u : List Int) (lo hi s n r : Int), t.length = u.length → tt t s = some r → 0 ≤ s → (0 < s → lo * s ≤ n ∧ n ≤ hi * s) → (s = 0 → n = 0) → (0 < r → (spn t u lo hi s n).1 * r ≤ dotS t u n ∧ dotS t u n ≤ (spn t u lo hi s n).2.1 * r)
  | [], [], lo, hi, s, n, r, hl, h, h0, hb, hz => by
    simp [tt] at h; subst h
    intro hp; simpa [spn, dotS] using hb hp
  | [], y :: u, lo, hi, s, n, r, hl, h, h0, hb, hz => by simp at hl
  | x :: t, [], lo, hi, s, n, r, hl, h, h0, hb, hz => by simp at hl
  | x :: t, y :: u, lo, hi, s, n, r, hl, h, h0, hb, hz => by
    simp only [tt] at h
    split at h
    · cases h
    · rename_i hx
      have hx0 : 0 ≤ x := by omega
      simp only [spn, dotS]
      refine spn_between t u _ _ _ _ r (by simpa using hl) h (by omega) ?_ ?_
      · intro hp
        by_cases hxz : x = 0
        · subst hxz
          have := hb (by omega)
          simp only [gt_iff_lt, Int.lt_irrefl, false_and, if_false, Int.zero_mul, Int.add_zero]
          exact this
        · have hxp : 0 < x := by omega
          have lo' : (if x > 0 ∧ y < lo then y else lo) ≤ lo ∧ (if x > 0 ∧ y < lo then y else lo) ≤ y := by split <;> omega
          have hi' : hi ≤ (if x > 0 ∧ y > hi then y else hi) ∧ y ≤ (if x > 0 ∧ y > hi then y else hi) := by split <;> omega
          generalize (if x > 0 ∧ y < lo then y else lo) = L at *
          generalize (if x > 0 ∧ y > hi then y else hi) = H at *
          have a1 : L * x ≤ y * x := Int.mul_le_mul_of_nonneg_right lo'.2 hx0
          have a2 : y * x ≤ H * x := Int.mul_le_mul_of_nonneg_right hi'.2 hx0
          have e : x * y = y * x := Int.mul_comm _ _
          have eL : L * (s + x) = L * s + L * x := Int.mul_add _ _ _
          have eH : H * (s + x) = H * s + H * x := Int.mul_add _ _ _
          by_cases hs : s = 0
          · have := hz hs; subst hs
            simp only [Int.mul_zero] at eL eH
            omega
          · have b := hb (by omega)
            have c1 : L * s ≤ lo * s := Int.mul_le_mul_of_nonneg_right lo'.1 h0
            have c2 : hi * s ≤ H * s := Int.mul_le_mul_of_nonneg_right hi'.1 h0
            omega
      · intro hs
        have : s = 0 := by omega
        have hxz : x = 0 := by omega
        rw [hz this, hxz]; simp
theorem dot_bound : ∀ (t u : List Int) (n : Int), (∀ x ∈ t, 0 ≤ x ∧ x ≤ 1073741824) → (∀ y ∈ u, I8 y) → n - 137438953472 * t.length ≤ dotS t u n ∧ dotS t u n ≤ n + 137438953472 * t.length
  | [], u, n, h, g => by cases u <;> simp [dotS]
  | x :: t, [], n, h, g => by simp only [dotS, List.length_cons]; omega
  | x :: t, y :: u, n, h, g => by
    have hx := h x (by simp)
    have hp := prod_in hx.1 hx.2 (g y (by simp))
    have := dot_bound t u (n + x * y) (fun z hz => h z (by simp [hz])) (fun z hz => g z (by simp [hz]))
    simp only [dotS, List.length_cons]; omega
theorem between_l (w v : List Int) (m : Int) (hl : w.length = v.length) (h1 : w.length ≤ 512) (hw : ∀ x ∈ w, 0 ≤ x ∧ x ≤ 1073741824) (hv : ∀ x ∈ v, I8 x) (res : Bool) : ∀ (t u : List Int) (i : Nat) (lo hi s n : Int), w.drop i = t → v.drop i = u → i ≤ w.length → 0 ≤ s → s ≤ 1073741824 * i → -(137438953472 * i) ≤ n → n ≤ 137438953472 * i →
    Ev (fun k => heraldlaw11_SoftBetween.l0 k w v m (spn t u lo hi s n).1 (spn t u lo hi s n).2.1 (spn t u lo hi s n).2.2.1 (spn t u lo hi s n).2.2.2 w.length) res → Ev (fun k => heraldlaw11_SoftBetween.l0 k w v m lo hi s n i) res := by
  intro t
  induction t with
  | nil =>
    intro u i lo hi s n h hu hi1 h0 h2 h3 h4 hR
    have hi' := drop_nil h
    obtain rfl : i = w.length := by omega
    cases u <;> exact hR
  | cons x t ih =>
    intro u i lo hi s n h hu hi1 h0 h2 h3 h4 hR
    obtain ⟨hil, hg, hd⟩ := drop_cons h
    have hr := rd_of_get hg
    have hxx := hw x (List.mem_of_getElem? hg)
    cases u with
    | nil => have := drop_nil hu; omega
    | cons y u =>
      obtain ⟨hj, hgy, hd'⟩ := drop_cons hu
      have hry := rd_of_get hgy
      have hyy := hv y (List.mem_of_getElem? hgy)
      have p0 : (i : Int) < (w.length : Int) := by omega
      have p1 : (i : Int) < (v.length : Int) := by omega
      have p2 : (0 : Int) ≤ (i : Int) := by omega
      have hp := prod_in hxx.1 hxx.2 hyy
      unfold I8 at hyy
      simp only [spn] at hR
      have hn := ih u (i + 1) _ _ (s + x) (n + x * y) hd hd' (by omega) (by omega) (by omega) (by omega) (by omega) hR
      have w1 : wrap64 (s + x) = s + x := wrap64_id' (by omega) (by omega)
      have w2 : wrap64 (n + (wrap64 (x * (wrap64 y)))) = n + x * y := by rw [wrap64_id' (x := y) (by omega) (by omega), wrap64_id' (x := x * y) (by omega) (by omega), wrap64_id' (by omega) (by omega)]
      have w3 : wrap64 ((i : Int) + 1) = ((i + 1 : Nat) : Int) := by rw [wrap64_id' (by omega) (by omega)]; rfl
      refine Ev.step (f := fun k => heraldlaw11_SoftBetween.j2 k w v m lo hi s n i (decide (x > 0 ∧ y < lo))) (fun k => ?_) (Ev.step (fun k => ?_) hn)
      · simp only [heraldlaw11_SoftBetween.l0, hr, hry, p0, p1, p2, if_true]
        by_cases c : x > 0
        · simp only [c, if_true, true_and]
        · simp only [c, if_false, false_and, decide_false]
      · simp only [heraldlaw11_SoftBetween.j2, hr, hry, p0, p1, p2, if_true, w1, w2, w3]
        by_cases c : x > 0
        · by_cases c2 : y < lo <;> by_cases c3 : y > hi <;> simp only [c, c2, c3, if_true, if_false, true_and, decide_true, decide_false, Bool.false_eq_true]
        · simp only [c, if_false, false_and, decide_false, Bool.false_eq_true]
theorem SoftBetween : heraldlaw11_SoftBetween.Pure := by
  intro w v h1 h2 h3 h4 h5 h6
  have hv : ∀ x ∈ v, I8 x := fun x hx => i8_of_wf (h6 x hx)
  refine Ev.rounds (g := fun k => heraldlaw11_SoftBetween.f k w v) ?_
  unfold heraldlaw11_SoftBetween.f
  refine Ev.bind (Mean_f w v hv) ?_
  refine Ev.bind (rMean_f w v hv) ?_
  refine Ev.bind awake_ev ?_
  simp only [if_true, bne_self_eq_false]
  have no : ∀ e, e ≠ 0 → Ev (fun k => heraldlaw11_SoftBetween.j0 k w v 0 e false) true := by
    intro e he
    exact Ev.step (f := fun _ => some true) (fun k => by simp only [heraldlaw11_SoftBetween.j0, Bool.false_eq_true, if_false, he, beq_self_eq_true]) (Ev.now _)
  unfold meanS
  by_cases hlen : w.length = v.length ∧ w.length ≤ 512
  · rw [if_pos hlen]
    unfold meanOf
    by_cases c : (totalS w).2 = 0
    · obtain ⟨q1, q2, q3, q4⟩ := totalS_ok (w := w) (s := (totalS w).1) (by rw [← c])
      rw [if_pos c]
      dsimp only
      generalize (totalS w).1 = s at *
      have hs : s ≤ 549755813888 := by omega
      have hd := dot_bound w v 0 q4 hv
      have hst := spn_tot w v 127 (-128) 0 0 s hlen.1 q1
      have hbt := spn_between w v 127 (-128) 0 0 s hlen.1 q1 (by omega) (by omega) (by omega) q2
      -- what the least and the greatest may be
      have hlow : ∀ (t u : List Int) (lo hi s n : Int), (∀ y ∈ u, I8 y) → -128 ≤ lo → lo ≤ 127 → -128 ≤ hi → hi ≤ 127 → -128 ≤ (spn t u lo hi s n).1 ∧ (spn t u lo hi s n).1 ≤ 127 ∧ -128 ≤ (spn t u lo hi s n).2.1 ∧ (spn t u lo hi s n).2.1 ≤ 127 := by
        intro t
        induction t with
        | nil => intro u lo hi s n hu a b c d; cases u <;> exact ⟨a, b, c, d⟩
        | cons x t ih =>
          intro u lo hi s n hu a b c d
          cases u with
          | nil => exact ⟨a, b, c, d⟩
          | cons y u =>
            have hy := hu y (by simp)
            unfold I8 at hy
            simp only [spn]
            refine ih u _ _ _ _ (fun z hz => hu z (by simp [hz])) ?_ ?_ ?_ ?_
            all_goals split <;> omega
      have hlh := hlow w v 127 (-128) 0 0 hv (by omega) (by omega) (by omega) (by omega)
      generalize hn : dotS w v 0 = n at *
      generalize hlo : (spn w v 127 (-128) 0 0).1 = lo at *
      generalize hhi : (spn w v 127 (-128) 0 0).2.1 = hi at *
      -- the nearest whole number
      obtain ⟨q, hq⟩ : ∃ q, q = (2 * n + s) / (2 * s) := ⟨_, rfl⟩
      rw [← hq]
      have hm := Int.mul_ediv_add_emod (2 * n + s) (2 * s)
      have hm0 := Int.emod_nonneg (2 * n + s) (b := 2 * s) (by omega)
      have hm1 := Int.emod_lt_of_pos (2 * n + s) (b := 2 * s) (by omega)
      rw [← hq] at hm
      have e2 : 2 * s * q = 2 * (q * s) := by grind
      rw [e2] at hm
      have hge : lo ≤ q := by
        have : ¬ q < lo := by
          intro hlt
          have : (q + 1) * s ≤ lo * s := Int.mul_le_mul_of_nonneg_right (by omega) (by omega)
          have e : (q + 1) * s = q * s + s := by grind
          omega
        omega
      have hle : q ≤ hi := by
        have : ¬ hi < q := by
          intro hlt
          have : (hi + 1) * s ≤ q * s := Int.mul_le_mul_of_nonneg_right (by omega) (by omega)
          have e : (hi + 1) * s = hi * s + s := by grind
          omega
        omega
      rw [i8wrap_id ⟨by omega, by omega⟩]
      have hqs : -(128 * s) ≤ q * s ∧ q * s ≤ 128 * s := by
        have a : -128 * s ≤ q * s := Int.mul_le_mul_of_nonneg_right (by omega) (by omega)
        have b : q * s ≤ 128 * s := Int.mul_le_mul_of_nonneg_right (by omega) (by omega)
        omega
      refine Ev.step (f := fun k => heraldlaw11_SoftBetween.l0 k w v q 127 (-128) 0 0 0) (fun k => ?_) ?_
      · simp only [heraldlaw11_SoftBetween.j0, Bool.false_eq_true, if_false, if_true]
      · refine between_l w v q hlen.1 hlen.2 q4 hv true w v 0 127 (-128) 0 0 rfl rfl (by omega) (by omega) (by omega) (by omega) (by omega) ?_
        rw [hst.1, hst.2, hlo, hhi]
        refine Ev.step (f := fun _ => some true) (fun k => ?_) (Ev.now _)
        simp only [heraldlaw11_SoftBetween.l0, Int.lt_irrefl, if_false]
        rw [if_pos hge, if_pos hle, wrap64_id' (x := q) (by omega) (by omega), wrap64_id' (x := q * s) (by omega) (by omega), wrap64_id' (x := n - q * s) (by omega) (by omega), wrap64_id' (x := 2 * (n - q * s)) (by omega) (by omega), wrap64_id' (x := -s) (by omega) (by omega), if_pos (by omega), decide_eq_true (by omega)]
    · have e := totalS_no c
      rw [if_neg c, e]
      exact no 110 (by omega)
  · rw [if_neg hlen]
    exact no 1 (by omega)

end Go.Proofs.Ytmpldbccohdnjaa.Pure
