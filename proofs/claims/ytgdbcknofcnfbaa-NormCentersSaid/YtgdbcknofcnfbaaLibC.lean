/- Lemmas on the printed functions: what each answers, in plain words of Lean; on condition that the numbers are of their kinds. -/
import Derived.Test.YtgdbcknofcnfbaaPx1
import Derived.Test.YtgdbcknofcnfbaaPx2
import Derived.Test.YtgdbcknofcnfbaaPx4
import Derived.Test.YtgdbcknofcnfbaaPx5
import Derived.Test.YtgdbcknofcnfbaaPx6
import Derived.Test.YtgdbcknofcnfbaaMath
import Derived.Test.YtgdbcknofcnfbaaLibB
namespace Go.Proofs.Ytgdbcknofcnfbaa.L
open Go Go.RowKit Go.Proofs.Ytgdbcknofcnfbaa.M Go.Proofs.Ytgdbcknofcnfbaa.P Go.Proofs.YtgdbcknofcnfbaaW.PrintWords Go.Proofs.YtgdbcknofcnfbaaW.PrintLast Go.Proofs.YtgdbcknofcnfbaaW.PrintMore
set_option linter.unusedVariables false
set_option linter.unusedSimpArgs false

def ssum : List Int → Int → Int
  | [], s => s
  | x :: t, s => ssum t (s + x)
theorem ssum_add : ∀ (t : List Int) (s : Int), ssum t s = s + ssum t 0
  | [], s => by simp [ssum]
  | x :: t, s => by simp only [ssum]; rw [ssum_add t (s + x), ssum_add t (0 + x)]; omega
theorem ssum_bound : ∀ (t : List Int) (s M : Int), 0 ≤ M → (∀ x ∈ t, -M ≤ x ∧ x ≤ M) → s - M * t.length ≤ ssum t s ∧ ssum t s ≤ s + M * t.length
  | [], s, M, hM, h => by simp [ssum]
  | x :: t, s, M, hM, h => by
    have hx := h x (by simp)
    have := ssum_bound t (s + x) M hM (fun y hy => h y (by simp [hy]))
    have e : M * ((x :: t).length : Int) = M * t.length + M := by simp; grind
    simp only [ssum]; omega
theorem ediv_abs {s n M : Int} (hn : 0 < n) (h0 : -M ≤ s) (h1 : s ≤ M) : -M ≤ s / n ∧ s / n ≤ M := by
  have hM : 0 ≤ M := by omega
  constructor
  · rw [Int.le_ediv_iff_mul_le hn]
    have : M * 1 ≤ M * n := Int.mul_le_mul_of_nonneg_left (by omega) hM
    have e : -M * n = -(M * n) := Int.neg_mul M n
    omega
  · have : s / n < M + 1 := by
      rw [Int.ediv_lt_iff_lt_mul hn]
      have : (M + 1) * 1 ≤ (M + 1) * n := Int.mul_le_mul_of_nonneg_left (by omega) (by omega)
      omega
    omega
def mean (l : List Int) : Int := ssum l 0 / l.length
def center (l : List Int) : List Int × Int × Int := if (rootS l).2 = 0 then (l.map (fun x => x - mean l), mean l, 0) else ([], 0, (rootS l).2)
theorem mean_in {l : List Int} (h0 : l.length ≠ 0) (h1 : l.length ≤ 64) (hx : ∀ x ∈ l, -268435456 ≤ x ∧ x ≤ 268435456) : -17179869184 ≤ mean l ∧ mean l ≤ 17179869184 := by
  have := ssum_bound l 0 268435456 (by omega) hx
  exact ediv_abs (by omega) (by omega) (by omega)

theorem Center_s (l : List Int) (h0 : l.length ≠ 0) (h1 : l.length ≤ 64) (hx : ∀ x ∈ l, -268435456 ≤ x ∧ x ≤ 268435456) (res : List Int × Int × Int) (hfin : Ev (fun k => norm_Center.l1 k (mean l) [] l l.length 0) res) : ∀ (t : List Int) (i : Nat) (s : Int), l.drop i = t → i ≤ l.length → -268435456 * i ≤ s → s ≤ 268435456 * i → ssum t s = ssum l 0 → Ev (fun k => norm_Center.l0 k l s l l.length i) res := by
  intro t
  induction t with
  | nil =>
    intro i s h hi1 hs0 hs1 hs
    have hi := drop_nil h
    simp only [ssum] at hs
    refine Ev.step (fun k => ?_) hfin
    simp only [norm_Center.l0]
    rw [if_neg (by omega), Floor_f s _ ⟨by omega, by omega⟩ ⟨by omega, by omega⟩]
    unfold floorS mean
    rw [if_neg (by omega), hs]
    rfl
  | cons x t ih =>
    intro i s h hi1 hs0 hs1 hs
    obtain ⟨hi, hg, hd⟩ := drop_cons h
    have hr := rd_of_get hg
    have hxx := hx x (List.mem_of_getElem? hg)
    refine Ev.step (fun k => ?_) (ih (i + 1) (s + x) hd (by omega) (by omega) (by omega) hs)
    simp only [norm_Center.l0, hr]
    rw [if_pos (by omega), if_pos (by omega), if_pos (by omega), wrap64_id' (x := s + x) (by omega) (by omega), wrap64_id' (by omega) (by omega)]
    rfl
theorem Center_c (l : List Int) (h0 : l.length ≠ 0) (h1 : l.length ≤ 64) (hx : ∀ x ∈ l, -268435456 ≤ x ∧ x ≤ 268435456) : ∀ (t : List Int) (i : Nat) (a : List Int), l.drop i = t → a.length = i → i ≤ l.length → Ev (fun k => norm_Center.l1 k (mean l) a l l.length i) (a ++ t.map (fun x => x - mean l), mean l, 0) := by
  have hm := mean_in h0 h1 hx
  intro t
  induction t with
  | nil =>
    intro i a h ha hi1
    have hi := drop_nil h
    refine Ev.step (f := fun _ => some (a, mean l, 0)) (fun k => ?_) (by simpa using Ev.now _)
    simp only [norm_Center.l1]
    rw [if_neg (by omega)]
  | cons x t ih =>
    intro i a h ha hi1
    obtain ⟨hi, hg, hd⟩ := drop_cons h
    have hr := rd_of_get hg
    have hxx := hx x (List.mem_of_getElem? hg)
    refine Ev.step (fun k => ?_) (by simpa using ih (i + 1) (a ++ [x - mean l]) hd (by simp [ha]) (by omega))
    simp only [norm_Center.l1, hr]
    rw [if_pos (by omega), if_pos (by omega), if_pos (by omega), if_pos (by omega), wrap64_id' (x := x - mean l) (by omega) (by omega), wrap64_id' (by omega) (by omega)]
theorem Center_f (l : List Int) : Ev (fun k => norm_Center.f k l) (center l) := by
  unfold norm_Center.f center
  refine Ev.bind (root_f l) ?_
  by_cases h0 : (rootS l).2 = 0
  · obtain ⟨p0, p1, p2, p3, p4⟩ := rootS_pos (l := l) (r := (rootS l).1) (by rw [← h0])
    simp only [h0, if_true]
    exact Center_s l p2 p3 p4 _ (Center_c l p2 p3 p4 l 0 [] rfl rfl (by omega)) l 0 0 rfl (by omega) (by omega) (by omega) rfl
  · simp only [h0, if_false]; exact Ev.now _

theorem rCenter_s (l : List Int) (h0 : l.length ≠ 0) (h1 : l.length ≤ 64) (hx : ∀ x ∈ l, -268435456 ≤ x ∧ x ≤ 268435456) (res : List Int × Int × Int) (hfin : Ev (fun k => heraldref09_Center.l1 k l (mean l) [] 0) res) : ∀ (t : List Int) (i : Nat) (s : Int), l.drop i = t → i ≤ l.length → -268435456 * i ≤ s → s ≤ 268435456 * i → ssum t s = ssum l 0 → Ev (fun k => heraldref09_Center.l0 k l s i) res := by
  intro t
  induction t with
  | nil =>
    intro i s h hi1 hs0 hs1 hs
    have hi := drop_nil h
    simp only [ssum] at hs
    refine Ev.step (fun k => ?_) hfin
    simp only [heraldref09_Center.l0]
    rw [if_neg (by omega), rFloor_f s _ ⟨by omega, by omega⟩ ⟨by omega, by omega⟩]
    unfold floorS mean
    rw [if_neg (by omega), hs]
    rfl
  | cons x t ih =>
    intro i s h hi1 hs0 hs1 hs
    obtain ⟨hi, hg, hd⟩ := drop_cons h
    have hr := rd_of_get hg
    have hxx := hx x (List.mem_of_getElem? hg)
    refine Ev.step (fun k => ?_) (ih (i + 1) (s + x) hd (by omega) (by omega) (by omega) hs)
    simp only [heraldref09_Center.l0, hr]
    rw [if_pos (by omega), if_pos (by omega), wrap64_id' (x := s + x) (by omega) (by omega), wrap64_id' (by omega) (by omega)]
    rfl
theorem rCenter_c (l : List Int) (h0 : l.length ≠ 0) (h1 : l.length ≤ 64) (hx : ∀ x ∈ l, -268435456 ≤ x ∧ x ≤ 268435456) : ∀ (t : List Int) (i : Nat) (a : List Int), l.drop i = t → a.length = i → i ≤ l.length → Ev (fun k => heraldref09_Center.l1 k l (mean l) a i) (a ++ t.map (fun x => x - mean l), mean l, 0) := by
  have hm := mean_in h0 h1 hx
  intro t
  induction t with
  | nil =>
    intro i a h ha hi1
    have hi := drop_nil h
    refine Ev.step (f := fun _ => some (a, mean l, 0)) (fun k => ?_) (by simpa using Ev.now _)
    simp only [heraldref09_Center.l1]
    rw [if_neg (by omega)]
  | cons x t ih =>
    intro i a h ha hi1
    obtain ⟨hi, hg, hd⟩ := drop_cons h
    have hr := rd_of_get hg
    have hxx := hx x (List.mem_of_getElem? hg)
    refine Ev.step (fun k => ?_) (by simpa using ih (i + 1) (a ++ [x - mean l]) hd (by simp [ha]) (by omega))
    simp only [heraldref09_Center.l1, hr]
    rw [if_pos (by omega), if_pos (by omega), if_pos (by omega), wrap64_id' (x := x - mean l) (by omega) (by omega), wrap64_id' (by omega) (by omega)]
theorem rCenter_f (l : List Int) : Ev (fun k => heraldref09_Center.f k l) (center l) := by
  unfold heraldref09_Center.f center
  refine Ev.bind (rRoot_f l) ?_
  by_cases h0 : (rootS l).2 = 0
  · obtain ⟨p0, p1, p2, p3, p4⟩ := rootS_pos (l := l) (r := (rootS l).1) (by rw [← h0])
    simp only [h0, if_true]
    exact rCenter_s l p2 p3 p4 _ (rCenter_c l p2 p3 p4 l 0 [] rfl rfl (by omega)) l 0 0 rfl (by omega) (by omega) (by omega) rfl
  · simp only [h0, if_false]; exact Ev.now _

def cell2 (r x g c : Int) : Int := narrow (near (Int.tdiv (64 * x) r * g) 64 + c)
def cells2 (r : Int) : List Int → List Int → List Int → List Int
  | x :: t, g :: u, c :: v => cell2 r x g c :: cells2 r t u v
  | _, _, _ => []
theorem cells2_le (r : Int) : ∀ t u v : List Int, (cells2 r t u v).length ≤ t.length
  | [], _, _ => by simp [cells2]
  | x :: t, [], _ => by simp [cells2]
  | x :: t, g :: u, [] => by simp [cells2]
  | x :: t, g :: u, c :: v => by have := cells2_le r t u v; simp only [cells2, List.length_cons]; omega
def layerOf (c : List Int × Int × Int) (g d : List Int) : List Int × Int := if c.2.2 = 0 then (if (rootS c.1).2 = 0 then (cells2 (rootS c.1).1 c.1 g d, 0) else ([], (rootS c.1).2)) else ([], c.2.2)
def layerS (l g d : List Int) : List Int × Int := if l.length = g.length ∧ l.length = d.length then layerOf (center l) g d else ([], 1)
theorem near_small {a M : Int} (h0 : -M ≤ a) (h1 : a ≤ M) : -M ≤ near a 64 ∧ near a 64 ≤ M := by
  unfold near; split <;> omega
theorem cell_small {r x g : Int} (hx0 : -268435456 ≤ x) (hx1 : x ≤ 268435456) (hg : I8 g) : -2199023255552 ≤ near (Int.tdiv (64 * x) r * g) 64 ∧ near (Int.tdiv (64 * x) r * g) 64 ≤ 2199023255552 := by
  unfold I8 at hg
  have ht := tdiv_abs (a := 64 * x) (r := r) (M := 17179869184) (by omega) (by omega)
  have hm := mul_abs (g := g) ht.1 ht.2 hg.1 hg.2
  exact near_small (by omega) (by omega)
theorem center_length (l : List Int) (h : (center l).2.2 = 0) : (center l).1.length = l.length := by
  unfold center at *
  split
  · simp
  · rename_i hc; rw [if_neg hc] at h; exact absurd h hc

theorem layerS_len (l g d : List Int) : (layerS l g d).1.length ≤ l.length := by
  have hc : (center l).1.length ≤ l.length := by
    unfold center; split <;> simp
  unfold layerS; split
  · unfold layerOf; split
    · split
      · exact Nat.le_trans (cells2_le _ _ _ _) hc
      · simp
    · simp
  · simp

theorem Layer_l (l g d : List Int) (r : Int) (hr0 : 1 ≤ r) (hr1 : r ≤ 4294967296) (hl1 : l.length ≤ 64) (hlg : l.length = g.length) (hld : l.length = d.length) (hx : ∀ x ∈ l, -268435456 ≤ x ∧ x ≤ 268435456) (hg : ∀ x ∈ g, I8 x) (hdd : ∀ x ∈ d, I8 x) : ∀ (t u v : List Int) (i : Nat) (a : List Int), l.drop i = t → g.drop i = u → d.drop i = v → a.length = i → i ≤ l.length → Ev (fun k => norm_Layer.l0 k g d r (a ++ List.replicate t.length 0) l l.length i) (a ++ cells2 r t u v, 0) := by
  intro t
  induction t with
  | nil =>
    intro u v i a h hu hv ha hi1
    have hi := drop_nil h
    refine Ev.step (f := fun _ => some (a, 0)) (fun k => ?_) (by simp only [cells2, List.append_nil]; exact Ev.now _)
    simp only [norm_Layer.l0]
    rw [if_neg (by omega)]; simp
  | cons x t ih =>
    intro u v i a h hu hv ha hi1
    obtain ⟨hi, hgx, hd⟩ := drop_cons h
    have hrx := rd_of_get hgx
    have hxm := hx x (List.mem_of_getElem? hgx)
    cases u with
    | nil => have := drop_nil hu; omega
    | cons y u =>
      cases v with
      | nil => have := drop_nil hv; omega
      | cons z v =>
        obtain ⟨hj, hgy, hd'⟩ := drop_cons hu
        obtain ⟨hj2, hgz, hd2⟩ := drop_cons hv
        have hry := rd_of_get hgy
        have hrz := rd_of_get hgz
        have hym := hg y (List.mem_of_getElem? hgy)
        have hzm := hdd z (List.mem_of_getElem? hgz)
        obtain ⟨c1, c2⟩ := cell_code hr0 hr1 hxm.1 hxm.2 hym
        have c3 := cell_small (r := r) hxm.1 hxm.2 hym
        unfold I8 at hzm
        have hih := ih u v (i + 1) (a ++ [cell2 r x y z]) hd hd' hd2 (by simp [ha]) (by omega)
        refine Ev.step (f := fun k => norm_Layer.l0 k g d r ((a ++ [cell2 r x y z]) ++ List.replicate t.length 0) l l.length ((i + 1 : Nat) : Int)) (fun k => ?_) (by simpa [cells2] using hih)
        simp only [norm_Layer.l0, hrx, hry, hrz]
        rw [if_pos (by omega), if_pos (by omega), if_pos (by omega), if_neg (by omega), if_pos (by omega), c1, Round_f _ _ c2, rowS_64]
        simp only [Option.bind_some, Narrow_f]
        rw [if_pos (by omega), if_pos (by simp [ha]; omega), wrap64_id' (x := z) (by omega) (by omega), wrap64_id' (x := near (Int.tdiv (64 * x) r * y) 64 + z) (by omega) (by omega), wrap64_id' (by omega) (by omega), List.length_cons, List.replicate_succ, set_mid _ _ _ _ _ (by omega)]
        rfl
theorem Layer_f (l g d : List Int) (hg : ∀ x ∈ g, I8 x) (hdd : ∀ x ∈ d, I8 x) : Ev (fun k => norm_Layer.f k l g d) (layerS l g d) := by
  unfold norm_Layer.f layerS
  by_cases h : l.length = g.length ∧ l.length = d.length
  · rw [if_pos h]
    obtain ⟨h1, h2⟩ := h
    simp only [show (l.length : Int) = (g.length : Int) by omega, if_true, show ((g.length : Int) != (d.length : Int)) = false by rw [bne_eq_false_iff_eq]; omega]
    refine Ev.step (fun k => by simp only [norm_Layer.j0, Bool.false_eq_true, if_false]; rfl) ?_
    refine Ev.bind (Center_f l) ?_
    unfold layerOf
    by_cases hc : (center l).2.2 = 0
    · have hlen := center_length l hc
      simp only [hc, if_true]
      refine Ev.bind (root_f (center l).1) ?_
      by_cases h0 : (rootS (center l).1).2 = 0
      · obtain ⟨p0, p1, p2, p3, p4⟩ := rootS_pos (l := (center l).1) (r := (rootS (center l).1).1) (by rw [← h0])
        simp only [h0, if_true, show (0 : Int) ≤ (l.length : Int) by omega, Int.toNat_natCast]
        simp only [show l.length ≤ 281474976710656 by omega, if_true]
        have := Layer_l (center l).1 g d _ p0 p1 p3 (by omega) (by omega) p4 hg hdd (center l).1 g d 0 [] rfl rfl rfl rfl (by omega)
        simpa [hlen] using this
      · simp only [h0, if_false]; exact Ev.now _
    · simp only [hc, if_false]; exact Ev.now _
  · rw [if_neg h]
    have stop : Ev (fun k => norm_Layer.j0 k l g d true) ([], 1) := Ev.step (fun k => by simp only [norm_Layer.j0, if_true]) (Ev.now _)
    by_cases h1 : (l.length : Int) = (g.length : Int)
    · have e : ((l.length : Int) != (d.length : Int)) = true := by rw [bne_iff_ne]; omega
      simp only [e, ite_self]
      exact stop
    · simp only [h1, if_false]
      exact stop

theorem rLayer_l (l g d : List Int) (r : Int) (hr0 : 1 ≤ r) (hr1 : r ≤ 4294967296) (hl1 : l.length ≤ 64) (hlg : l.length = g.length) (hld : l.length = d.length) (hx : ∀ x ∈ l, -268435456 ≤ x ∧ x ≤ 268435456) (hg : ∀ x ∈ g, I8 x) (hdd : ∀ x ∈ d, I8 x) : ∀ (t u v : List Int) (i : Nat) (a : List Int), l.drop i = t → g.drop i = u → d.drop i = v → a.length = i → i ≤ l.length → Ev (fun k => heraldref09_Layer.l0 k g d l r a i) (a ++ cells2 r t u v, 0) := by
  intro t
  induction t with
  | nil =>
    intro u v i a h hu hv ha hi1
    have hi := drop_nil h
    refine Ev.step (f := fun _ => some (a, 0)) (fun k => ?_) (by simp only [cells2, List.append_nil]; exact Ev.now _)
    simp only [heraldref09_Layer.l0]
    rw [if_neg (by omega)]
  | cons x t ih =>
    intro u v i a h hu hv ha hi1
    obtain ⟨hi, hgx, hd⟩ := drop_cons h
    have hrx := rd_of_get hgx
    have hxm := hx x (List.mem_of_getElem? hgx)
    cases u with
    | nil => have := drop_nil hu; omega
    | cons y u =>
      cases v with
      | nil => have := drop_nil hv; omega
      | cons z v =>
        obtain ⟨hj, hgy, hd'⟩ := drop_cons hu
        obtain ⟨hj2, hgz, hd2⟩ := drop_cons hv
        have hry := rd_of_get hgy
        have hrz := rd_of_get hgz
        have hym := hg y (List.mem_of_getElem? hgy)
        have hzm := hdd z (List.mem_of_getElem? hgz)
        obtain ⟨c1, c2⟩ := cell_code hr0 hr1 hxm.1 hxm.2 hym
        have c3 := cell_small (r := r) hxm.1 hxm.2 hym
        unfold I8 at hzm
        have hih := ih u v (i + 1) (a ++ [cell2 r x y z]) hd hd' hd2 (by simp [ha]) (by omega)
        have fin : ∀ w, w = Int.tdiv (64 * x) r * y → Ev (fun k => (heraldref02_Round.f k w 6).bind fun bt => (if (i : Int) < (d.length : Int) then ((heraldref02_Narrow.f (wrap64 (bt.1 + (wrap64 z)))).bind fun t149 => (if a.length < 140737488355328 then (heraldref09_Layer.l0 k g d l r (a ++ [t149]) (wrap64 ((i : Int) + 1))) else (none))) else (none))) (a ++ cells2 r (x :: t) (y :: u) (z :: v), 0) := by
          rintro w rfl
          refine Ev.bind (rRound_f _ 6 c2) ?_
          have ec : narrow (near (Int.tdiv (64 * x) r * y) 64 + z) = cell2 r x y z := rfl
          simp only [rowS_64, rNarrow_f, Option.bind_some, show a.length < 140737488355328 by omega, show (i : Int) < (d.length : Int) by omega, if_true, wrap64_id' (x := (i : Int) + 1) (by omega) (by omega), wrap64_id' (x := z) (by omega) (by omega), wrap64_id' (x := near (Int.tdiv (64 * x) r * y) 64 + z) (by omega) (by omega), ec]
          simpa [cells2] using hih
        unfold I8 at hym
        by_cases hneg : x < 0
        · refine Ev.step (f := fun k => heraldref09_Layer.j2 k g d l r a i (-x)) (fun k => ?_) ?_
          · simp only [heraldref09_Layer.l0, hrx]
            rw [if_pos (by omega), if_pos (by omega), if_pos hneg, wrap64_id' (by omega) (by omega)]
          · refine Ev.step (fun k => ?_) (fin (-(Int.tdiv (64 * -x) r) * y) (by rw [Int.mul_neg, Int.neg_tdiv, Int.neg_neg]))
            have ht := tdiv_abs (a := 64 * -x) (r := r) (M := 17179869184) (by omega) (by omega)
            have hm := mul_abs (a := -(Int.tdiv (64 * -x) r)) (g := y) (M := 17179869184) (by omega) (by omega) hym.1 hym.2
            simp only [heraldref09_Layer.j2, hrx, hry, hrz]
            rw [if_neg (by omega), if_pos (by omega), if_pos (by omega), if_pos hneg, if_pos (by omega), wrap64_id' (x := 64 * -x) (by omega) (by omega), wrap64_id' (x := Int.tdiv (64 * -x) r) (by omega) (by omega), wrap64_id' (x := -(Int.tdiv (64 * -x) r)) (by omega) (by omega), wrap64_id' (x := y) (by omega) (by omega), wrap64_id' (x := -(Int.tdiv (64 * -x) r) * y) (by omega) (by omega)]
        · refine Ev.step (f := fun k => heraldref09_Layer.j2 k g d l r a i x) (fun k => ?_) ?_
          · simp only [heraldref09_Layer.l0, hrx]
            rw [if_pos (by omega), if_pos (by omega), if_neg hneg]
          · refine Ev.step (fun k => ?_) (fin _ c1)
            simp only [heraldref09_Layer.j2, hrx, hry, hrz]
            rw [if_neg (by omega), if_pos (by omega), if_pos (by omega), if_neg hneg, if_pos (by omega)]
theorem rLayer_f (l g d : List Int) (hg : ∀ x ∈ g, I8 x) (hdd : ∀ x ∈ d, I8 x) : Ev (fun k => heraldref09_Layer.f k l g d) (layerS l g d) := by
  unfold heraldref09_Layer.f layerS
  by_cases h : l.length = g.length ∧ l.length = d.length
  · rw [if_pos h]
    obtain ⟨h1, h2⟩ := h
    simp only [show (l.length : Int) = (g.length : Int) by omega, if_true, show ((g.length : Int) != (d.length : Int)) = false by rw [bne_eq_false_iff_eq]; omega]
    refine Ev.step (fun k => by simp only [heraldref09_Layer.j0, Bool.false_eq_true, if_false]; rfl) ?_
    refine Ev.bind (rCenter_f l) ?_
    unfold layerOf
    by_cases hc : (center l).2.2 = 0
    · have hlen := center_length l hc
      simp only [hc, if_true]
      refine Ev.bind (rRoot_f (center l).1) ?_
      by_cases h0 : (rootS (center l).1).2 = 0
      · obtain ⟨p0, p1, p2, p3, p4⟩ := rootS_pos (l := (center l).1) (r := (rootS (center l).1).1) (by rw [← h0])
        simp only [h0, if_true]
        exact rLayer_l (center l).1 g d _ p0 p1 p3 (by omega) (by omega) p4 hg hdd (center l).1 g d 0 [] rfl rfl rfl rfl (by omega)
      · simp only [h0, if_false]; exact Ev.now _
    · simp only [hc, if_false]; exact Ev.now _
  · rw [if_neg h]
    have stop : Ev (fun k => heraldref09_Layer.j0 k l g d true) ([], 1) := Ev.step (fun k => by simp only [heraldref09_Layer.j0, if_true]) (Ev.now _)
    by_cases h1 : (l.length : Int) = (g.length : Int)
    · have e : ((l.length : Int) != (d.length : Int)) = true := by rw [bne_iff_ne]; omega
      simp only [e, ite_self]
      exact stop
    · simp only [h1, if_false]
      exact stop

def size (x : Int) : Int := if x < 0 then -x else x
def larg : List Int → Int → Int → Int → Int × Int × Int
  | [], m, at_, i => (m, at_, 0)
  | x :: t, m, at_, i => if size x > m then larg t (size x) i (i + 1) else larg t m at_ (i + 1)
def largS (l : List Int) : Int × Int × Int := if (rootS l).2 = 0 then larg l (-1) 0 0 else (0, 0, (rootS l).2)
theorem mx_size {x : Int} (h0 : -268435456 ≤ x) (h1 : x ≤ 268435456) : mx x (wrap64 (-x)) = size x := by
  rw [wrap64_id' (by omega) (by omega)]
  unfold mx size; repeat' split
  all_goals omega

theorem Largest_l (l : List Int) (h1 : l.length ≤ 64) (hx : ∀ x ∈ l, -268435456 ≤ x ∧ x ≤ 268435456) : ∀ (t : List Int) (i : Nat) (m a : Int), l.drop i = t → i ≤ l.length → Ev (fun k => norm_Largest.l0 k m a l l.length i) (larg t m a i) := by
  intro t
  induction t with
  | nil =>
    intro i m a h hi1
    have hi := drop_nil h
    exact Ev.step (fun k => by simp only [norm_Largest.l0]; rw [if_neg (by omega)]; rfl) (Ev.now _)
  | cons x t ih =>
    intro i m a h hi1
    obtain ⟨hi, hg, hd⟩ := drop_cons h
    have hr := rd_of_get hg
    have hxx := hx x (List.mem_of_getElem? hg)
    simp only [larg]
    have hw : wrap64 ((i : Int) + 1) = ((i + 1 : Nat) : Int) := by rw [wrap64_id' (by omega) (by omega)]; rfl
    by_cases hc : size x > m
    · rw [if_pos hc]
      refine Ev.step (fun k => ?_) (ih (i + 1) (size x) i hd (by omega))
      simp only [norm_Largest.l0, hr, mx_size hxx.1 hxx.2, hw]
      rw [if_pos (by omega), if_pos (by omega), if_pos (by omega), if_pos hc]
    · rw [if_neg hc]
      refine Ev.step (fun k => ?_) (ih (i + 1) m a hd (by omega))
      simp only [norm_Largest.l0, hr, mx_size hxx.1 hxx.2, hw]
      rw [if_pos (by omega), if_pos (by omega), if_pos (by omega), if_neg hc]
theorem Largest_f (l : List Int) : Ev (fun k => norm_Largest.f k l) (largS l) := by
  unfold norm_Largest.f largS
  refine Ev.bind (root_f l) ?_
  by_cases h0 : (rootS l).2 = 0
  · obtain ⟨p0, p1, p2, p3, p4⟩ := rootS_pos (l := l) (r := (rootS l).1) (by rw [← h0])
    simp only [h0, if_true]
    exact Largest_l l p3 p4 l 0 (-1) 0 rfl (by omega)
  · simp only [h0, if_false]; exact Ev.now _

theorem rLargest_l (l : List Int) (h1 : l.length ≤ 64) (hx : ∀ x ∈ l, -268435456 ≤ x ∧ x ≤ 268435456) : ∀ (t : List Int) (i : Nat) (m a : Int), l.drop i = t → i ≤ l.length → Ev (fun k => heraldref09_Largest.l0 k l m a i) (larg t m a i) := by
  intro t
  induction t with
  | nil =>
    intro i m a h hi1
    have hi := drop_nil h
    exact Ev.step (fun k => by simp only [heraldref09_Largest.l0]; rw [if_neg (by omega)]; rfl) (Ev.now _)
  | cons x t ih =>
    intro i m a h hi1
    obtain ⟨hi, hg, hd⟩ := drop_cons h
    have hr := rd_of_get hg
    have hxx := hx x (List.mem_of_getElem? hg)
    have hw : wrap64 ((i : Int) + 1) = ((i + 1 : Nat) : Int) := by rw [wrap64_id' (by omega) (by omega)]; rfl
    have hn : wrap64 (-x) = -x := wrap64_id' (by omega) (by omega)
    simp only [larg]
    unfold size
    by_cases hs : x < 0
    · simp only [hs, if_true]
      by_cases hc : -x > m
      · rw [if_pos hc]
        refine Ev.step (fun k => ?_) (ih (i + 1) (-x) i hd (by omega))
        simp only [heraldref09_Largest.l0, hr, hn, hw]
        rw [if_pos (by omega), if_pos (by omega), if_pos hs, if_pos hc]
      · rw [if_neg hc]
        refine Ev.step (fun k => ?_) (ih (i + 1) m a hd (by omega))
        simp only [heraldref09_Largest.l0, hr, hn, hw]
        rw [if_pos (by omega), if_pos (by omega), if_pos hs, if_neg hc]
    · simp only [hs, if_false]
      by_cases hc : x > m
      · rw [if_pos hc]
        refine Ev.step (fun k => ?_) (ih (i + 1) x i hd (by omega))
        simp only [heraldref09_Largest.l0, hr, hn, hw]
        rw [if_pos (by omega), if_pos (by omega), if_neg hs, if_pos hc]
      · rw [if_neg hc]
        refine Ev.step (fun k => ?_) (ih (i + 1) m a hd (by omega))
        simp only [heraldref09_Largest.l0, hr, hn, hw]
        rw [if_pos (by omega), if_pos (by omega), if_neg hs, if_neg hc]
theorem rLargest_f (l : List Int) : Ev (fun k => heraldref09_Largest.f k l) (largS l) := by
  unfold heraldref09_Largest.f largS
  refine Ev.bind (rRoot_f l) ?_
  by_cases h0 : (rootS l).2 = 0
  · obtain ⟨p0, p1, p2, p3, p4⟩ := rootS_pos (l := l) (r := (rootS l).1) (by rw [← h0])
    simp only [h0, if_true]
    exact rLargest_l l p3 p4 l 0 (-1) 0 rfl (by omega)
  · simp only [h0, if_false]; exact Ev.now _
end Go.Proofs.Ytgdbcknofcnfbaa.L
