/- Heads are turned for themselves; back is the turn by the opposite sines; by 64 and 0 nothing turns; a quarter changes places and a sign, four are none; for all rows. On condition that the lists are together no longer than 1,048,576 (the narrowed form). -/
import Derived.Test.YtengkjkmdodifaaDoorPx16
import Derived.Test.YtengkjkmdodifaaDoorLibRopeHeads
namespace Go.Proofs.YtengkjkmdodifaaDoor.Pure
open Go Go.RowKit Go.Proofs.YtengkjkmdodifaaDoor.M Go.Proofs.YtengkjkmdodifaaDoor.L Go.Proofs.YtengkjkmdodifaaDoor.P Go.Proofs.YtengkjkmdodifaaDoorW.PrintWords Go.Proofs.YtengkjkmdodifaaDoorW.PrintLast Go.Proofs.YtengkjkmdodifaaDoorW.PrintMore
set_option linter.unusedVariables false
set_option linter.unusedSimpArgs false

-- NEEDS heraldlaw10_RopeHeads.f
theorem heads_true (x y : List Int) (h : Int) (c s : List Int) : Ev (fun k => heraldlaw10_RopeHeads.j0 k x y h true c s) true := by
  refine ev_succ ?_
  simp only [heraldlaw10_RopeHeads.j0, if_true]
  exact Ev.now _
def turnQ (h : Nat) (l : List Int) : List Int := (List.range l.length).map (cellT (-1) l (2 * h) (List.replicate h 0) (List.replicate h 64))
theorem turnQ_len (h : Nat) (l : List Int) : (turnQ h l).length = l.length := by simp [turnQ]
def Small (l : List Int) : Prop := ∀ i : Nat, i < l.length → -127 ≤ rd l (i : Int) ∧ rd l (i : Int) ≤ 127
theorem turnQ_at {h : Nat} {l : List Int} (hh : 1 ≤ h) (hs : Small l) {j : Nat} (hj : 2 * j + 1 < l.length) : rd (turnQ h l) ((2 * j : Nat) : Int) = -rd l ((2 * j + 1 : Nat) : Int) ∧ rd (turnQ h l) ((2 * j + 1 : Nat) : Int) = rd l ((2 * j : Nat) : Int) := by
  have := cellT_quarter l h j hh hs hj
  unfold turnQ
  rw [rd_rng _ (by omega), rd_rng _ hj]
  exact this
theorem turnQ_small {h : Nat} {l : List Int} (hh : 1 ≤ h) (he : l.length % 2 = 0) (hs : Small l) : Small (turnQ h l) := by
  intro i hi
  rw [turnQ_len] at hi
  by_cases c : i % 2 = 0
  · have e : i = 2 * (i / 2) := by omega
    have := (turnQ_at hh hs (j := i / 2) (by omega)).1
    rw [← e] at this
    rw [this]
    have := hs (i + 1) (by omega)
    omega
  · have e : i = 2 * (i / 2) + 1 := by omega
    have := (turnQ_at hh hs (j := i / 2) (by omega)).2
    rw [← e] at this
    rw [this]
    exact hs _ (by omega)
theorem list_eq {a b : List Int} (hl : a.length = b.length) (h : ∀ i : Nat, i < a.length → rd a (i : Int) = rd b (i : Int)) : a = b := by
  apply List.ext_getElem hl
  intro i h1 h2
  have := h i h1
  rwa [rd_at h1, rd_at h2] at this
theorem turnQ_four {h : Nat} {l : List Int} (hh : 1 ≤ h) (he : l.length % 2 = 0) (hs : Small l) : turnQ h (turnQ h (turnQ h (turnQ h l))) = l := by
  have s1 := turnQ_small hh he hs
  have l1 := turnQ_len h l
  have s2 := turnQ_small hh (by rw [l1]; exact he) s1
  have l2 := turnQ_len h (turnQ h l)
  have s3 := turnQ_small hh (by rw [l2, l1]; exact he) s2
  have l3 := turnQ_len h (turnQ h (turnQ h l))
  have l4 := turnQ_len h (turnQ h (turnQ h (turnQ h l)))
  apply list_eq (by omega)
  intro i hi
  have hj : 2 * (i / 2) + 1 < l.length := by omega
  have a1 := turnQ_at hh hs hj
  have a2 := turnQ_at hh s1 (j := i / 2) (by omega)
  have a3 := turnQ_at hh s2 (j := i / 2) (by omega)
  have a4 := turnQ_at hh s3 (j := i / 2) (by omega)
  by_cases c : i % 2 = 0
  · rw [show i = 2 * (i / 2) by omega, a4.1, a3.2, a2.1, a1.2]; omega
  · rw [show i = 2 * (i / 2) + 1 by omega, a4.2, a3.1, a2.2, a1.1]; omega
theorem turnQ_i8 {l : List Int} (hs : Small l) : ∀ y ∈ l, I8 y := by
  intro y hy
  obtain ⟨i, hi, rfl⟩ := List.mem_iff_getElem.mp hy
  have := hs i hi
  rw [rd_at hi] at this
  exact ⟨by omega, by omega⟩
theorem rep_i8 {n : Nat} {v : Int} (h : I8 v) : ∀ y ∈ List.replicate n v, I8 y := fun y hy => by rw [List.eq_of_mem_replicate hy]; exact h
theorem wrap8_neg {x : Int} (h : -127 ≤ x) (h' : x ≤ 127) : IntKind.i8.wrap (-x) = -x := by
  simp [IntKind.wrap, IntKind.bits, IntKind.signed]; omega
theorem wrap8_opp {x : Int} (h : -127 ≤ x) (h' : x ≤ 127) : IntKind.i8.wrap (-x) = -x := wrap8_neg h h'
/-- One quarter more. -/
theorem heads_round (h : Nat) (L l : List Int) (m : Nat) (hm : m < 4) (hh : 1 ≤ h) (h2 : h ≤ 1048576) (hl : l.length ≤ 1048576) (hd : l.length % (2 * h) = 0) (hs : Small l)
    (hnext : Ev (fun k => heraldlaw10_RopeHeads.l2 k h (List.replicate h 64) (List.replicate h 0) L (turnQ h l) ((m + 1 : Nat) : Int)) true) :
    Ev (fun k => heraldlaw10_RopeHeads.l2 k h (List.replicate h 64) (List.replicate h 0) L l (m : Int)) true := by
  refine ev_succ ?_
  simp only [heraldlaw10_RopeHeads.l2, if_pos (show (m : Int) < 4 by omega), wdbl (a := h) (by omega)]
  refine Ev.bind (Turn_f l ((2 * h : Nat) : Int) (List.replicate h 0) (List.replicate h 64) (turnQ_i8 hs) (rep_i8 ⟨by omega, by omega⟩) (rep_i8 ⟨by omega, by omega⟩) ⟨by omega, by omega⟩ (by omega)) ?_
  rw [turnS_ok _ _ _ _ h hh hd (by simp) (by simp)]
  have e : (List.range l.length).map (cellT (-1) l (2 * h) (List.replicate h 0) (List.replicate h 64)) = turnQ h l := rfl
  simp only [e, if_true, turnQ_len, bne_self_eq_false]
  refine ev_succ ?_
  simp only [heraldlaw10_RopeHeads.j7, Bool.false_eq_true, if_false]
  have he := even_of hd
  refine ev_loop (fun k j => heraldlaw10_RopeHeads.l3 k h (List.replicate h 64) (List.replicate h 0) L l (turnQ h l) ((2 * j : Nat) : Int) (m : Int)) _ (l.length / 2) (fun _ => True) trivial (fun _ => ?_) (fun j hj _ ih => ?_)
  · refine ev_succ ?_
    simp only [heraldlaw10_RopeHeads.l3, wone (a := 2 * (l.length / 2)) (by omega), turnQ_len, wone (a := m) (by omega)]
    simp only [if_neg (show ¬ ((2 * (l.length / 2) + 1 : Nat) : Int) < (l.length : Int) by omega)]
    exact hnext
  · refine ev_succ ?_
    have a := turnQ_at hh hs (j := j) (by omega)
    have b := hs (2 * j + 1) (by omega)
    have w2 : wrap64 (((2 * j : Nat) : Int) + 2) = ((2 * (j + 1) : Nat) : Int) := by rw [wrap64_id' (by omega) (by omega)]; omega
    simp only [heraldlaw10_RopeHeads.l3, wone (a := 2 * j) (by omega), w2, turnQ_len, a.1, a.2, wrap8_neg b.1 b.2, if_true]
    simp only [if_pos (show ((2 * j + 1 : Nat) : Int) < (l.length : Int) by omega), if_pos (show (0 : Int) ≤ ((2 * j : Nat) : Int) by omega), if_pos (show ((2 * j : Nat) : Int) < (l.length : Int) by omega), if_pos (show (0 : Int) ≤ ((2 * j + 1 : Nat) : Int) by omega)]
    exact ih trivial
theorem heads_end (h : Nat) (L : List Int) (hh : 1 ≤ h) (h2 : h ≤ 1048576) (hl : L.length ≤ 1048576) (hd : L.length % (2 * h) = 0) (hs : Small L) : Ev (fun k => heraldlaw10_RopeHeads.l2 k h (List.replicate h 64) (List.replicate h 0) L L 0) true := by
  have he := even_of hd
  have base : Ev (fun k => heraldlaw10_RopeHeads.l2 k h (List.replicate h 64) (List.replicate h 0) L L ((4 : Nat) : Int)) true := by
    refine ev_succ ?_
    simp only [heraldlaw10_RopeHeads.l2, if_neg (show ¬ ((4 : Nat) : Int) < 4 by decide)]
    exact Ev.bind (same_ev L (by omega)) (Ev.now _)
  have l1 := turnQ_len h L
  have l2 := turnQ_len h (turnQ h L)
  have l3 := turnQ_len h (turnQ h (turnQ h L))
  have s1 := turnQ_small hh he hs
  have s2 := turnQ_small hh (by rw [l1]; exact he) s1
  have s3 := turnQ_small hh (by rw [l2, l1]; exact he) s2
  have r3 := heads_round h L (turnQ h (turnQ h (turnQ h L))) 3 (by omega) hh h2 (by omega) (by rw [l3, l2, l1]; exact hd) s3 (by rw [turnQ_four hh he hs]; exact base)
  have r2 := heads_round h L (turnQ h (turnQ h L)) 2 (by omega) hh h2 (by omega) (by rw [l2, l1]; exact hd) s2 r3
  have r1 := heads_round h L (turnQ h L) 1 (by omega) hh h2 (by omega) (by rw [l1]; exact hd) s1 r2
  exact heads_round h L L 0 (by omega) hh h2 hl hd hs r1
theorem mx_in {x : Int} (h : I8 x) : -127 ≤ mx x (-127) ∧ mx x (-127) ≤ 127 := by
  unfold I8 at h
  unfold mx; repeat (first | split | omega)
theorem heads_rest (x : List Int) (h : Nat) (hx : ∀ y ∈ x, I8 y) (hh : 1 ≤ h) (h2 : h ≤ 1048576) (hl : x.length ≤ 1048576) (hd : x.length % (2 * h) = 0) : Ev (fun k => heraldlaw10_RopeHeads.j3 k x h (List.replicate h 64) (List.replicate h 0) (List.replicate h 0) false) true := by
  refine ev_succ ?_
  simp only [heraldlaw10_RopeHeads.j3, Bool.false_eq_true, if_false, wdbl (a := h) (by omega)]
  refine Ev.bind (Turn_f x ((2 * h : Nat) : Int) (List.replicate h 64) (List.replicate h 0) hx (rep_i8 ⟨by omega, by omega⟩) (rep_i8 ⟨by omega, by omega⟩) ⟨by omega, by omega⟩ (by omega)) ?_
  rw [turnS_ok _ _ _ _ h hh hd (by simp) (by simp)]
  have hat : ∀ i : Nat, i < x.length → rd ((List.range x.length).map (cellT (-1) x (2 * h) (List.replicate h 64) (List.replicate h 0))) (i : Int) = mx (rd x (i : Int)) (-127) := fun i hi => by
    rw [rd_rng _ hi]; exact cellT_unit (-1) x h i hh hx hi
  have hlen : ((List.range x.length).map (cellT (-1) x (2 * h) (List.replicate h 64) (List.replicate h 0))).length = x.length := by simp
  generalize (List.range x.length).map (cellT (-1) x (2 * h) (List.replicate h 64) (List.replicate h 0)) = L at hat hlen
  simp only [if_true, hlen, bne_self_eq_false]
  refine ev_succ ?_
  simp only [heraldlaw10_RopeHeads.j4, Bool.false_eq_true, if_false]
  have hs : Small L := fun i hi => by
    rw [hat i (by omega)]
    exact mx_in (by rw [rd_at (by omega)]; exact hx _ (List.getElem_mem (by omega)))
  refine ev_loop (fun k i => heraldlaw10_RopeHeads.l1 k x h (List.replicate h 64) (List.replicate h 0) L (x.length : Int) ((i : Nat) : Int)) _ x.length (fun _ => True) trivial (fun _ => ?_) (fun i hi _ ih => ?_)
  · refine ev_succ ?_
    simp only [heraldlaw10_RopeHeads.l1, if_neg (show ¬ (x.length : Int) < (x.length : Int) by omega)]
    exact heads_end h L hh h2 (by omega) (by rw [hlen]; exact hd) hs
  · refine ev_succ ?_
    simp only [heraldlaw10_RopeHeads.l1, hlen, hat i hi, wone (a := i) (by omega), if_true]
    simp only [if_pos (show (i : Int) < (x.length : Int) by omega), if_pos (show (0 : Int) ≤ (i : Int) by omega)]
    exact ih trivial
def fitsS (s : List Int) : Nat → Bool
  | 0 => true
  | i + 1 => if fitsS s i = true then (rd s (i : Int) != (-128)) else false
theorem fitsS_all {s : List Int} : ∀ {n : Nat}, fitsS s n = true → ∀ j : Nat, j < n → rd s (j : Int) ≠ -128
  | 0, _, j, hj => absurd hj (by omega)
  | n + 1, h, j, hj => by
    unfold fitsS at h
    split at h
    · rename_i h1
      by_cases c : j = n
      · subst c; simpa using h
      · exact fitsS_all h1 j (by omega)
    · simp at h
def oppL (s : List Int) (n : Nat) : List Int := (List.range n).map fun i : Nat => IntKind.i8.wrap (-(rd s (i : Int)))
theorem i8_wrap8 (x : Int) : I8 (IntKind.i8.wrap x) := by
  unfold I8
  simp [IntKind.wrap, IntKind.bits, IntKind.signed]; omega
theorem rng_const (h : Nat) (v : Int) : (List.range h).map (fun _ => v) = List.replicate h v := by
  apply List.ext_getElem <;> simp
/-- The heads' second half: back, the opposite sines, and all that follows. -/
theorem heads_back (x c s : List Int) (h : Nat) (hx : ∀ y ∈ x, I8 y) (hc : ∀ y ∈ c, I8 y) (hs : ∀ y ∈ s, I8 y) (hh : 1 ≤ h) (h2 : h ≤ 1048576) (hl : x.length ≤ 1048576) (hd : x.length % (2 * h) = 0) (ec : c.length = h) (es : s.length = h) : Ev (fun k => heraldlaw10_RopeHeads.j1 k x h false c s) true := by
  refine ev_succ ?_
  simp only [heraldlaw10_RopeHeads.j1, Bool.false_eq_true, if_false, Int.toNat_natCast, Option.bind_some, List.length_replicate]
  simp only [if_pos (show (0 : Int) ≤ (h : Int) by omega), if_pos (show h ≤ 281474976710656 by omega)]
  have go : Ev (fun k => heraldlaw10_RopeHeads.l0 k x h ((List.range 0).map (fun _ => (64 : Int)) ++ List.replicate (h - 0) 0) (List.replicate h 0) (List.replicate h 0) ((List.range 0).map (fun i : Nat => IntKind.i8.wrap (-(rd s (i : Int)))) ++ List.replicate (h - 0) 0) (fitsS s 0) (h : Int) ((0 : Nat) : Int) c s) true := by
    refine ev_loop (fun k i => heraldlaw10_RopeHeads.l0 k x h ((List.range i).map (fun _ => (64 : Int)) ++ List.replicate (h - i) 0) (List.replicate h 0) (List.replicate h 0) ((List.range i).map (fun i : Nat => IntKind.i8.wrap (-(rd s (i : Int)))) ++ List.replicate (h - i) 0) (fitsS s i) (h : Int) ((i : Nat) : Int) c s) _ h (fun _ => True) trivial (fun _ => ?_) (fun i hi _ ih => ?_)
    · refine ev_succ ?_
      simp only [heraldlaw10_RopeHeads.l0, if_neg (show ¬ (h : Int) < (h : Int) by omega), wdbl (a := h) (by omega), Nat.sub_self, List.replicate_zero, List.append_nil, rng_const]
      refine Ev.bind (Back_f x ((2 * h : Nat) : Int) c s hx hc hs ⟨by omega, by omega⟩ (by omega)) ?_
      refine Ev.bind (Turn_f x ((2 * h : Nat) : Int) c (oppL s h) hx hc (fun y hy => by obtain ⟨i, _, rfl⟩ := List.mem_map.mp hy; exact i8_wrap8 _) ⟨by omega, by omega⟩ (by omega)) ?_
      rw [turnS_ok _ _ _ _ h hh hd ec es, turnS_ok _ _ _ _ h hh hd ec (by simp [oppL])]
      simp only [if_true]
      by_cases f : fitsS s h = true
      · have e : (List.range x.length).map (cellT (-1) x (2 * h) c (oppL s h)) = (List.range x.length).map (cellT 1 x (2 * h) c s) := List.map_congr_left fun i _ => cellT_opp x c s (oppL s h) h i hh (fun j hj => by
          have h1 := fitsS_all f j hj
          have h3 : I8 (rd s (j : Int)) := by rw [rd_at (by omega)]; exact hs _ (List.getElem_mem (by omega))
          unfold oppL
          rw [rd_rng _ hj]
          unfold I8 at h3
          exact wrap8_opp (by omega) (by omega))
        simp only [if_pos f, e]
        refine Ev.bind (same_ev _ (by simp; omega)) ?_
        exact heads_rest x h hx hh h2 hl hd
      · simp only [if_neg f]
        exact heads_rest x h hx hh h2 hl hd
    · refine ev_succ ?_
      simp only [heraldlaw10_RopeHeads.l0, Int.toNat_natCast, Option.bind_some, rng_set hi, wone (a := i) (by omega), List.length_append, List.length_map, List.length_range, List.length_replicate, es]
      simp only [if_pos (show (i : Int) < (h : Int) by omega), if_pos (show (0 : Int) ≤ (i : Int) by omega), if_pos (show (i : Int) < ((i + (h - i) : Nat) : Int) by omega)]
      have ih' := ih trivial
      unfold fitsS at ih'
      by_cases f : fitsS s i = true
      · simp only [if_pos f] at ih' ⊢; exact ih'
      · simp only [if_neg f] at ih' ⊢; exact ih'
  simpa [fitsS] using go
theorem RopeHeads (x y c s : List Int) (q0 : (x.length ≤ maxLen ∧ x.length * 1 ≤ 140737488351232) ∧ ∀ y ∈ x, ((Lit.int .i8 y).wf = true)) (q1 : (y.length ≤ maxLen ∧ y.length * 1 ≤ 140737488351232) ∧ ∀ z ∈ y, ((Lit.int .i8 z).wf = true)) (q2 : (c.length ≤ maxLen ∧ c.length * 1 ≤ 140737488351232) ∧ ∀ y ∈ c, ((Lit.int .i8 y).wf = true)) (q3 : (s.length ≤ maxLen ∧ s.length * 1 ≤ 140737488351232) ∧ ∀ y ∈ s, ((Lit.int .i8 y).wf = true))
    (hk : x.length + y.length + c.length + s.length ≤ 1048576) : ∃ k, heraldlaw10_RopeHeads.f k x y c s = some true := by
  have ix : ∀ z ∈ x, I8 z := fun z hz => i8_of_wf (q0.2 z hz)
  have iy : ∀ z ∈ y, I8 z := fun z hz => i8_of_wf (q1.2 z hz)
  have ic : ∀ z ∈ c, I8 z := fun z hz => i8_of_wf (q2.2 z hz)
  have is : ∀ z ∈ s, I8 z := fun z hz => i8_of_wf (q3.2 z hz)
  have ixy : ∀ z ∈ x ++ y, I8 z := fun z hz => (List.mem_append.mp hz).elim (ix z) (iy z)
  refine Ev.rounds (g := fun k => heraldlaw10_RopeHeads.f k x y c s) ?_
  unfold heraldlaw10_RopeHeads.f
  refine Ev.bind awake_ev ?_
  simp only [if_true]
  by_cases c0 : (c.length : Int) = 0
  · simp only [if_pos c0]; exact heads_true _ _ _ _ _
  simp only [if_neg c0]
  by_cases c1 : (s.length : Int) = (c.length : Int)
  case neg => simp only [if_neg c1]; exact heads_true _ _ _ _ _
  simp only [if_pos c1, wdbl (a := c.length) (by omega)]
  simp only [if_neg (show ¬ ((2 * c.length : Nat) : Int) = 0 by omega), ← Int.natCast_emod]
  by_cases c2 : ((x.length % (2 * c.length) : Nat) : Int) = 0
  case neg => simp only [if_neg c2]; exact heads_true _ _ _ _ _
  simp only [if_pos c2]
  by_cases c3 : ((y.length % (2 * c.length) : Nat) : Int) = 0
  case neg =>
    rw [show (((y.length % (2 * c.length) : Nat) : Int) != 0) = true by simpa using c3]
    exact heads_true _ _ _ _ _
  rw [c3]
  have dx : x.length % (2 * c.length) = 0 := by omega
  have dy : y.length % (2 * c.length) = 0 := by omega
  have dxy : (x ++ y).length % (2 * c.length) = 0 := by rw [List.length_append, Nat.add_mod, dx, dy]; simp
  have hh : 1 ≤ c.length := by omega
  have es : s.length = c.length := by omega
  simp only [bne_self_eq_false]
  refine ev_succ ?_
  simp only [heraldlaw10_RopeHeads.j0, Bool.false_eq_true, if_false, wdbl (a := c.length) (by omega)]
  have b2 : I64 ((2 * c.length : Nat) : Int) := ⟨by omega, by omega⟩
  refine Ev.bind (Turn_f x _ c s ix ic is b2 (by omega)) ?_
  refine Ev.bind (Turn_f y _ c s iy ic is b2 (by omega)) ?_
  simp only [Option.bind_some, List.length_nil, Nat.zero_add, List.nil_append, if_pos (show x.length < 140737488355328 by omega), if_pos (show x.length + y.length < 140737488355328 by omega)]
  refine Ev.bind (Turn_f (x ++ y) _ c s ixy ic is b2 (by simp only [List.length_append]; omega)) ?_
  rw [turnS_ok _ _ _ _ _ hh dx rfl es, turnS_ok _ _ _ _ _ hh dy rfl es, turnS_ok _ _ _ _ _ hh dxy rfl es, cells_app _ _ _ _ _ _ (even_of dx) dx]
  simp only [if_true, List.length_map, List.length_range, if_pos (show x.length < 140737488355328 by omega), if_pos (show x.length + y.length < 140737488355328 by omega)]
  refine Ev.bind (same_ev _ (by simp only [List.length_append, List.length_map, List.length_range]; omega)) ?_
  exact heads_back x c s c.length ix ic is hh (by omega) (by omega) dx rfl es

end Go.Proofs.YtengkjkmdodifaaDoor.Pure
