/- The law of weights and means that came out of the program as the caller's own, for all lists: each time they are asked for they are what the document's reference makes of them, and the lists that were kept, marked and grown stay apart. No condition but that the lists can be handed in. -/
import Derived.Test.YtmpldbccohdnjaaPx18
import Derived.Test.YtmpldbccohdnjaaLibSoftMemory
namespace Go.Proofs.Ytmpldbccohdnjaa.Pure
open Go Go.RowKit Go.Proofs.Ytmpldbccohdnjaa.M Go.Proofs.Ytmpldbccohdnjaa.L Go.Proofs.Ytmpldbccohdnjaa.P Go.Proofs.YtmpldbccohdnjaaW.PrintWords Go.Proofs.YtmpldbccohdnjaaW.PrintLast Go.Proofs.YtmpldbccohdnjaaW.PrintMore
set_option linter.unusedVariables false
set_option linter.unusedSimpArgs false

-- NEEDS heraldlaw11_SoftMemory.f
def uni (n : Nat) : List (List Int) → Bool
  | [] => true
  | x :: t => if x.length = n then uni n t else false
theorem uni_mem {n : Nat} : ∀ {l : List (List Int)}, uni n l = true → ∀ x ∈ l, x.length = n
  | [], _, x, hx => by simp at hx
  | y :: t, h, x, hx => by
    simp only [uni] at h
    split at h
    · rcases List.mem_cons.mp hx with rfl | hx
      · assumption
      · exact uni_mem h x hx
    · cases h
def colL (l : List (List Int)) (c : Nat) : List Int := l.map fun x => rd x (c : Int)
def colsM (w : List Int) (l : List (List Int)) : Nat → Nat → List Int → List Int
  | 0, _, a => a
  | d + 1, c, a => colsM w l d (c + 1) (a ++ [(meanS w (colL l c)).1])
theorem colsM_len (w : List Int) (l : List (List Int)) : ∀ (d c : Nat) (a : List Int), (colsM w l d c a).length = a.length + d
  | 0, _, a => by simp [colsM]
  | d + 1, c, a => by simp only [colsM]; rw [colsM_len]; simp; omega
def width (l : List (List Int)) : Nat := (rd_L2 l 0).length
def meansOf (w : List Int) (l : List (List Int)) : List Int × Int := if uni (width l) l = true then (if (totalS w).2 = 0 then (colsM w l (width l) 0 [], 0) else ([], (totalS w).2)) else ([], 1)
def meansS (w : List Int) (l : List (List Int)) : List Int × Int := if w.length = l.length ∧ w.length ≤ 512 then meansOf w l else ([], 1)
theorem rd2_of_get {l : List (List Int)} {i : Nat} {x : List Int} (h : l[i]? = some x) : rd_L2 l (i : Int) = x := by
  unfold rd_L2; simp [List.getD_eq_getElem?_getD, h]
section
variable (w : List Int) (l : List (List Int)) (hl : l.length ≤ 512) (hx : ∀ x ∈ l, ∀ y ∈ x, I8 y) (hw : width l ≤ 140737488351232)
include hl
omit hl in
theorem col_i8 (hx : ∀ x ∈ l, ∀ y ∈ x, I8 y) (hu : uni (width l) l = true) (c : Nat) (hc : c < width l) : ∀ y ∈ colL l c, I8 y := by
  intro y hy
  obtain ⟨x, hxl, rfl⟩ := List.mem_map.mp hy
  exact hx x hxl _ (rd_mem (by omega) (by have := uni_mem hu x hxl; omega))
theorem Means_2 (hu : uni (width l) l = true) (c : Nat) (hc : c < width l) (a : List Int) (res : List Int × Int) (hfin : Ev (fun k => (soft_Mean.f k w (colL l c)).bind fun bt => if a.length < 140737488355328 then soft_Means.l1 k w l (a ++ [bt.1]) (width l) (wrap64 ((c : Int) + 1)) else none) res) : ∀ (t : List (List Int)) (i : Nat) (b : List Int), l.drop i = t → b.length = i → i ≤ l.length → b ++ t.map (fun x => rd x (c : Int)) = colL l c → Ev (fun k => soft_Means.l2 k w l a c b (width l) c l l.length i) res := by
  intro t
  induction t with
  | nil =>
    intro i b h hb hi1 he
    have hi := drop_nil h
    refine Ev.step (fun k => ?_) hfin
    simp only [List.map_nil, List.append_nil] at he
    simp only [soft_Means.l2]
    rw [if_neg (by omega), he]
  | cons x t ih =>
    intro i b h hb hi1 he
    obtain ⟨hi, hgx, hd⟩ := drop_cons h
    have hrx := rd2_of_get hgx
    have hlx := uni_mem hu x (List.mem_of_getElem? hgx)
    refine Ev.step (fun k => ?_) (ih (i + 1) (b ++ [rd x c]) hd (by simp [hb]) (by omega) (by simpa using he))
    simp only [soft_Means.l2, hrx]
    rw [if_pos (by omega), if_pos (by omega), if_pos (by omega), if_pos (by omega), if_pos (by omega), if_pos (by omega), wrap64_id' (x := (i : Int) + 1) (by omega) (by omega)]
    rfl
theorem Means_1 (hx : ∀ x ∈ l, ∀ y ∈ x, I8 y) (hw : width l ≤ 140737488351232) (hu : uni (width l) l = true) : ∀ (d c : Nat) (a : List Int), c + d = width l → a.length = c → Ev (fun k => soft_Means.l1 k w l a (width l) c) (colsM w l d c a, 0) := by
  intro d
  induction d with
  | zero =>
    intro c a h ha
    refine Ev.step (f := fun _ => some (a, 0)) (fun k => ?_) (by simp only [colsM]; exact Ev.now _)
    simp only [soft_Means.l1]; rw [if_neg (by omega)]
  | succ d ih =>
    intro c a h ha
    refine Ev.step (f := fun k => soft_Means.l2 k w l a c [] (width l) c l l.length ((0 : Nat) : Int)) (fun k => ?_) ?_
    · simp only [soft_Means.l1]; rw [if_pos (by omega)]; rfl
    · refine Means_2 w l hl hu c (by omega) a _ ?_ l 0 [] rfl rfl (by omega) (by simp [colL])
      refine Ev.bind (Mean_f w (colL l c) (col_i8 l hx hu c (by omega))) ?_
      simp only [show a.length < 140737488355328 by omega, if_true, colsM]
      rw [wrap64_id' (by omega) (by omega)]
      exact ih (c + 1) _ (by omega) (by simp [ha])
theorem Means_0 (hx : ∀ x ∈ l, ∀ y ∈ x, I8 y) (hw : width l ≤ 140737488351232) (hwl : w.length = l.length) : ∀ (t : List (List Int)) (i : Nat), l.drop i = t → i ≤ l.length → uni (width l) t = uni (width l) l → Ev (fun k => soft_Means.l0 k w l l l.length i) (meansOf w l) := by
  intro t
  induction t with
  | nil =>
    intro i h hi1 he
    have hi := drop_nil h
    simp only [uni] at he
    have hu := he.symm
    refine Ev.step (f := fun k => (soft_total.f k w).bind fun bt305 => (if bt305.2 = 0 then (if 0 < (l.length : Int) then (soft_Means.l1 k w l ([] : List Int) (width l : Int) 0) else (none)) else (some (([] : List Int), bt305.2)))) (fun k => ?_) ?_
    · simp only [soft_Means.l0]; rw [if_neg (by omega)]; rfl
    · refine Ev.bind (total_f w (by omega)) ?_
      unfold meansOf
      rw [if_pos hu]
      by_cases c : (totalS w).2 = 0
      · have h0 : 0 < l.length := by
          rw [← hwl]
          obtain ⟨q1, q2, q3, q4⟩ := totalS_ok (w := w) (s := (totalS w).1) (by rw [← c])
          omega
        simp only [c, if_true, show 0 < (l.length : Int) by omega]
        exact Means_1 w l hl hx hw hu (width l) 0 [] (by omega) rfl
      · simp only [c, if_false]; exact Ev.now _
  | cons x t ih =>
    intro i h hi1 he
    obtain ⟨hi, hgx, hd⟩ := drop_cons h
    have hrx := rd2_of_get hgx
    simp only [uni] at he
    by_cases c : x.length = width l
    · rw [if_pos c] at he
      refine Ev.step (fun k => ?_) (ih (i + 1) hd (by omega) he)
      simp only [soft_Means.l0, hrx]
      rw [if_pos (by omega), if_pos (by omega), if_pos (by omega), if_pos (by omega), if_pos (by unfold width at c; omega), wrap64_id' (by omega) (by omega)]; rfl
    · rw [if_neg c] at he
      unfold meansOf
      rw [if_neg (by rw [← he]; simp)]
      refine Ev.step (f := fun _ => some ([], 1)) (fun k => ?_) (Ev.now _)
      simp only [soft_Means.l0, hrx]
      rw [if_pos (by omega), if_pos (by omega), if_pos (by omega), if_pos (by omega), if_neg (by unfold width at c; omega)]
theorem rMeans_2 (hu : uni (width l) l = true) (c : Nat) (hc : c < width l) (a : List Int) (res : List Int × Int) (hfin : Ev (fun k => (heraldref11_Mean.f k w (colL l c)).bind fun bt => if a.length < 140737488355328 then heraldref11_Means.l1 k w l (a ++ [bt.1]) (wrap64 ((c : Int) + 1)) else none) res) : ∀ (t : List (List Int)) (i : Nat) (b : List Int), l.drop i = t → b.length = i → i ≤ l.length → b ++ t.map (fun x => rd x (c : Int)) = colL l c → Ev (fun k => heraldref11_Means.l2 k w l a c b i) res := by
  intro t
  induction t with
  | nil =>
    intro i b h hb hi1 he
    have hi := drop_nil h
    refine Ev.step (fun k => ?_) hfin
    simp only [List.map_nil, List.append_nil] at he
    simp only [heraldref11_Means.l2]
    rw [if_neg (by omega), he]
  | cons x t ih =>
    intro i b h hb hi1 he
    obtain ⟨hi, hgx, hd⟩ := drop_cons h
    have hrx := rd2_of_get hgx
    have hlx := uni_mem hu x (List.mem_of_getElem? hgx)
    refine Ev.step (fun k => ?_) (ih (i + 1) (b ++ [rd x c]) hd (by simp [hb]) (by omega) (by simpa using he))
    simp only [heraldref11_Means.l2, hrx]
    rw [if_pos (by omega), if_pos (by omega), if_pos (by omega), if_pos (by omega), if_pos (by omega), wrap64_id' (x := (i : Int) + 1) (by omega) (by omega)]
    rfl
theorem rMeans_1 (hx : ∀ x ∈ l, ∀ y ∈ x, I8 y) (hw : width l ≤ 140737488351232) (h0 : 0 < l.length) (hu : uni (width l) l = true) : ∀ (d c : Nat) (a : List Int), c + d = width l → a.length = c → Ev (fun k => heraldref11_Means.l1 k w l a c) (colsM w l d c a, 0) := by
  intro d
  induction d with
  | zero =>
    intro c a h ha
    refine Ev.step (f := fun _ => some (a, 0)) (fun k => ?_) (by simp only [colsM]; exact Ev.now _)
    simp only [heraldref11_Means.l1]; rw [if_pos (by omega), if_neg (by unfold width at h; omega)]
  | succ d ih =>
    intro c a h ha
    refine Ev.step (f := fun k => heraldref11_Means.l2 k w l a c [] ((0 : Nat) : Int)) (fun k => ?_) ?_
    · simp only [heraldref11_Means.l1]; rw [if_pos (by omega), if_pos (by unfold width at h; omega)]; rfl
    · refine rMeans_2 w l hl hu c (by omega) a _ ?_ l 0 [] rfl rfl (by omega) (by simp [colL])
      refine Ev.bind (rMean_f w (colL l c) (col_i8 l hx hu c (by omega))) ?_
      simp only [show a.length < 140737488355328 by omega, if_true, colsM]
      rw [wrap64_id' (by omega) (by omega)]
      exact ih (c + 1) _ (by omega) (by simp [ha])
theorem rMeans_0 (hx : ∀ x ∈ l, ∀ y ∈ x, I8 y) (hw : width l ≤ 140737488351232) (hwl : w.length = l.length) : ∀ (t : List (List Int)) (i : Nat), l.drop i = t → i ≤ l.length → uni (width l) t = uni (width l) l → Ev (fun k => heraldref11_Means.l0 k w l i) (meansOf w l) := by
  intro t
  induction t with
  | nil =>
    intro i h hi1 he
    have hi := drop_nil h
    simp only [uni] at he
    have hu := he.symm
    refine Ev.step (f := fun k => (heraldref11_good.f k w).bind fun bt326 => (if bt326.2 = true then (heraldref11_Means.l1 k w l ([] : List Int) 0) else (some ([], 110)))) (fun k => ?_) ?_
    · simp only [heraldref11_Means.l0]; rw [if_neg (by omega)]
    · refine Ev.bind (good_f w (by omega)) ?_
      obtain ⟨g1, g2⟩ := goodS_eq w
      unfold meansOf
      rw [if_pos hu, g1]
      by_cases c : (totalS w).2 = 0
      · have h0 : 0 < l.length := by
          rw [← hwl]
          obtain ⟨q1, q2, q3, q4⟩ := totalS_ok (w := w) (s := (totalS w).1) (by rw [← c])
          omega
        simp only [c, decide_true, if_true]
        exact rMeans_1 w l hl hx hw h0 hu (width l) 0 [] (by omega) rfl
      · have e := totalS_no c
        simp only [c, decide_false, Bool.false_eq_true, if_false]
        rw [e]; exact Ev.now _
  | cons x t ih =>
    intro i h hi1 he
    obtain ⟨hi, hgx, hd⟩ := drop_cons h
    have hrx := rd2_of_get hgx
    simp only [uni] at he
    by_cases c : x.length = width l
    · rw [if_pos c] at he
      refine Ev.step (fun k => ?_) (ih (i + 1) hd (by omega) he)
      simp only [heraldref11_Means.l0, hrx]
      rw [if_pos (by omega), if_pos (by omega), if_pos (by omega), if_pos (by unfold width at c; omega), wrap64_id' (by omega) (by omega)]; rfl
    · rw [if_neg c] at he
      unfold meansOf
      rw [if_neg (by rw [← he]; simp)]
      refine Ev.step (f := fun _ => some ([], 1)) (fun k => ?_) (Ev.now _)
      simp only [heraldref11_Means.l0, hrx]
      rw [if_pos (by omega), if_pos (by omega), if_pos (by omega), if_neg (by unfold width at c; omega)]
end
theorem Means_f (w : List Int) (l : List (List Int)) (hx : ∀ x ∈ l, ∀ y ∈ x, I8 y) (hw : width l ≤ 140737488351232) : Ev (fun k => soft_Means.f k w l) (meansS w l) := by
  unfold soft_Means.f meansS
  have stop : Ev (fun k => soft_Means.j0 k w l true) ([], 1) := Ev.step (fun k => by simp only [soft_Means.j0, if_true]) (Ev.now _)
  by_cases h : w.length = l.length ∧ w.length ≤ 512
  · rw [if_pos h]
    obtain ⟨h1, h2⟩ := h
    simp only [show (w.length : Int) = (l.length : Int) by omega, if_true, show decide ((l.length : Int) > 512) = false from decide_eq_false (by omega)]
    refine Ev.step (f := fun k => soft_Means.l0 k w l l l.length ((0 : Nat) : Int)) (fun k => by simp only [soft_Means.j0, Bool.false_eq_true, if_false]; rfl) ?_
    exact Means_0 w l (by omega) hx hw h1 l 0 rfl (by omega) rfl
  · rw [if_neg h]
    by_cases h1 : (w.length : Int) = (l.length : Int)
    · simp only [h1, if_true, show decide ((l.length : Int) > 512) = true from decide_eq_true (by omega)]; exact stop
    · simp only [h1, if_false]; exact stop
theorem rMeans_f (w : List Int) (l : List (List Int)) (hx : ∀ x ∈ l, ∀ y ∈ x, I8 y) (hw : width l ≤ 140737488351232) : Ev (fun k => heraldref11_Means.f k w l) (meansS w l) := by
  unfold heraldref11_Means.f meansS
  have stop : Ev (fun k => heraldref11_Means.j0 k w l true) ([], 1) := Ev.step (fun k => by simp only [heraldref11_Means.j0, if_true]) (Ev.now _)
  by_cases h : w.length = l.length ∧ w.length ≤ 512
  · rw [if_pos h]
    obtain ⟨h1, h2⟩ := h
    simp only [show (w.length : Int) = (l.length : Int) by omega, if_true, show decide ((l.length : Int) > 512) = false from decide_eq_false (by omega)]
    refine Ev.step (f := fun k => heraldref11_Means.l0 k w l ((0 : Nat) : Int)) (fun k => by simp only [heraldref11_Means.j0, Bool.false_eq_true, if_false]; rfl) ?_
    exact rMeans_0 w l (by omega) hx hw h1 l 0 rfl (by omega) rfl
  · rw [if_neg h]
    by_cases h1 : (w.length : Int) = (l.length : Int)
    · simp only [h1, if_true, show decide ((l.length : Int) > 512) = true from decide_eq_true (by omega)]; exact stop
    · simp only [h1, if_false]; exact stop
theorem meansS_len (w : List Int) (l : List (List Int)) (hw : width l ≤ 140737488351232) : (meansS w l).1.length ≤ 140737488351232 := by
  unfold meansS meansOf
  split
  · split
    · split
      · rw [colsM_len]; simpa using hw
      · simp
    · simp
  · simp
theorem weightsS_len (l : List Int) : (weightsS l).1.length ≤ 512 := by
  unfold weightsS
  split
  · simp
  · simp only [List.length_map]; omega
theorem SoftMemory (w : List Int) (l : List (List Int)) (q0 : (w.length ≤ maxLen ∧ w.length * 8 ≤ 140737488351232) ∧ ∀ n ∈ w, (Lit.int .i64 n).wf = true) (q1 : (l.length ≤ maxLen ∧ l.length * 24 ≤ 140737488351232) ∧ ∀ x ∈ l, (x.length ≤ maxLen ∧ x.length * 1 ≤ 140737488351232) ∧ ∀ n ∈ x, (Lit.int .i8 n).wf = true) : ∃ k, heraldlaw11_SoftMemory.f k w l = some true := by
  have hx : ∀ x ∈ l, ∀ y ∈ x, I8 y := fun x hx y hy => i8_of_wf ((q1.2 x hx).2 y hy)
  have h64 : ∀ x ∈ w, I64 x := fun x hx => i64_of_wf (q0.2 x hx)
  have hw : width l ≤ 140737488351232 := by
    unfold width rd_L2
    cases l with
    | nil => simp
    | cons x t => have := (q1.2 x (by simp)).1.2; simpa using this
  suffices h : Ev (fun k => heraldlaw11_SoftMemory.f k w l) true by
    obtain ⟨k, hk⟩ := h; exact ⟨k, hk k (Nat.le_refl _)⟩
  have hlw := weightsS_len w
  have hlm := meansS_len ((soft_wl (weightsS w).1 l.length).take l.length) l hw
  unfold heraldlaw11_SoftMemory.f
  refine Ev.bind (rWeights_f w h64) ?_
  refine Ev.bind (rMeans_f _ l hx hw) ?_
  refine Ev.bind (Weights_f w h64) ?_
  refine Ev.bind (Means_f _ l hx hw) ?_
  refine Ev.bind (longs_same _ (by omega)) ?_
  refine Ev.bind (rows_same _ (by omega)) ?_
  refine Ev.bind awake_ev ?_
  refine Ev.step (f := fun _ => some true) (fun k => ?_) (Ev.now _)
  rw [if_pos]
  exact ⟨rfl, rfl, rfl, by omega, by omega, by omega, by omega, by omega⟩

end Go.Proofs.Ytmpldbccohdnjaa.Pure
