/- Packed numbers, unpacked, lie within half of their group's power of two; small numbers stay; packed again they are the same. For every list and group. No condition but that the list can be handed in. -/
import Derived.Test.YtigfodkakefhcaaPx21
import Derived.Test.YtigfodkakefhcaaLibVecNears
namespace Go.Proofs.Ytigfodkakefhcaa.Pure
open Go Go.RowKit Go.Proofs.Ytigfodkakefhcaa.M Go.Proofs.Ytigfodkakefhcaa.L Go.Proofs.Ytigfodkakefhcaa.P Go.Proofs.YtigfodkakefhcaaW.PrintWords Go.Proofs.YtigfodkakefhcaaW.PrintLast Go.Proofs.YtigfodkakefhcaaW.PrintMore
set_option linter.unusedVariables false
set_option linter.unusedSimpArgs false

/-- What is left of a number, packed by a shift. -/
def kept (x : Int) (s : Nat) : Int := narrow (near x (2 ^ s) * 2 ^ s)
theorem kept_ok {x : Int} (hx : I8 x) {s : Nat} (hs : s ≤ 5) (h : fit1 s x = true) : 2 * (x - kept x s) ≤ 2 ^ s ∧ -(2 ^ s) ≤ 2 * (x - kept x s) ∧ (s = 0 → x - kept x s = 0) ∧ fit1 s (kept x s) = true := by
  have key : ∀ x : Fin 256, ∀ s : Fin 6, fit1 s.1 ((x.1 : Int) - 128) = true → 2 * (((x.1 : Int) - 128) - kept ((x.1 : Int) - 128) s.1) ≤ 2 ^ s.1 ∧ -(2 ^ s.1) ≤ 2 * (((x.1 : Int) - 128) - kept ((x.1 : Int) - 128) s.1) ∧ (s.1 = 0 → ((x.1 : Int) - 128) - kept ((x.1 : Int) - 128) s.1 = 0) ∧ fit1 s.1 (kept ((x.1 : Int) - 128) s.1) = true := by decide +kernel
  unfold I8 at hx
  have e : (((x + 128).toNat : Nat) : Int) - 128 = x := by omega
  have := key ⟨(x + 128).toNat, by omega⟩ ⟨s, by omega⟩
  simp only [e] at this
  exact this h
theorem kept_again {x : Int} (hx : I8 x) {s t : Nat} (hs : s ≤ 5) (ht : t ≤ s) (h : fit1 s x = true) (h' : fit1 t (kept x s) = true) : kept (kept x s) t = kept x s := by
  have key : ∀ x : Fin 256, ∀ s : Fin 6, ∀ t : Fin 6, t.1 ≤ s.1 → fit1 s.1 ((x.1 : Int) - 128) = true → fit1 t.1 (kept ((x.1 : Int) - 128) s.1) = true → kept (kept ((x.1 : Int) - 128) s.1) t.1 = kept ((x.1 : Int) - 128) s.1 := by decide +kernel
  unfold I8 at hx
  have e : (((x + 128).toNat : Nat) : Int) - 128 = x := by omega
  have := key ⟨(x + 128).toNat, by omega⟩ ⟨s, by omega⟩ ⟨t, by omega⟩
  simp only [e] at this
  exact this ht h h'
theorem kept_i8 (x : Int) (s : Nat) : I8 (kept x s) := by
  have := narrow_in (near x (2 ^ s) * 2 ^ s)
  unfold kept; exact ⟨by omega, by omega⟩
theorem fits_at {l : List Int} {g i : Nat} (hl : ∀ x ∈ l, I8 x) (hg : 1 ≤ g) (hi : i < l.length) : fit1 (shiftS (rowOf l g (i / g))) (rd l i) = true := by
  unfold fit1; exact decide_eq_true (near_fits hl hg hi)
def sh (l : List Int) (g i : Nat) : Nat := shiftS (rowOf l g (i / g))
theorem nib_ne {l : List Int} {g i : Nat} (hl : ∀ x ∈ l, I8 x) (hg : 1 ≤ g) (hi : i < l.length) : nibS l g i ≠ 8 ∧ sgn (nibS l g i) = near (rd l i) (2 ^ sh l g i) := by
  have := near_fits hl hg hi
  unfold nibS sgn sh
  refine ⟨by omega, ?_⟩
  split <;> omega
theorem hv_in {l : List Int} (g i h : Nat) : 0 ≤ hv l g i h ∧ hv l g i h ≤ 255 := by
  have h1 := nibS_in l g (2 * h)
  have h2 := nibS_in l g (2 * h + 1)
  unfold hv; split <;> split <;> omega
theorem hvs_u8 (l : List Int) (g H i : Nat) : ∀ x ∈ hvs l g H i, U8 x := by
  intro x hx
  obtain ⟨h, _, rfl⟩ := List.mem_map.mp hx
  exact hv_in g i h
theorem shs_u8 (l : List Int) (g j : Nat) : ∀ x ∈ shs l g j, U8 x := by
  intro x hx
  obtain ⟨h, _, rfl⟩ := List.mem_map.mp hx
  have := shiftS_le (rowOf l g h)
  exact ⟨by omega, by omega⟩
theorem pack_right {l : List Int} {g : Nat} (hl : ∀ x ∈ l, I8 x) (hn : l.length ≤ 1048576) (hg : 1 ≤ g) (hg2 : g ≤ 256) : RightP l.length g (shs l g ((l.length + g - 1) / g)) (hvs l g ((l.length + 1) / 2) l.length) := by
  refine ⟨⟨by omega, by omega, by omega, by omega⟩, ⟨?_, ?_⟩, ?_, ?_⟩
  · rw [shs_len, Int.natCast_ediv]; congr 1; omega
  · rw [hvs_len]; omega
  · intro j hj
    rw [shs_len] at hj
    rw [shs_rd hj]
    have := shiftS_le (rowOf l g j); omega
  · intro j hj
    rw [hvs_len] at hj
    unfold okHalf
    rw [hvs_rd hj]
    have h1 := nibS_in l g (2 * j)
    have h2 := nibS_in l g (2 * j + 1)
    have h3 := (nib_ne (i := 2 * j) hl hg (by omega)).1
    unfold hv
    rw [if_pos (by omega)]
    by_cases c : 2 * j + 1 < l.length
    · have h4 := (nib_ne (i := 2 * j + 1) hl hg c).1
      rw [if_pos c]
      refine ⟨by omega, by omega, fun e => by omega⟩
    · rw [if_neg c]
      refine ⟨by omega, by omega, fun e => by omega⟩
theorem unpack_pack {l : List Int} {g : Nat} (hl : ∀ x ∈ l, I8 x) (hn : l.length ≤ 1048576) (hg : 1 ≤ g) (hg2 : g ≤ 256) : unpackS l.length g (shs l g ((l.length + g - 1) / g)) (hvs l g ((l.length + 1) / 2) l.length) = ((List.range l.length).map fun i : Nat => kept (rd l i) (sh l g i), 0) := by
  have R := pack_right hl hn hg hg2
  unfold unpackS
  rw [if_pos (rightS_true.mpr R), Int.toNat_natCast]
  congr 1
  apply List.map_congr_left
  intro i hi
  have hi' : i < l.length := by simpa using hi
  have hq : i / g < (l.length + g - 1) / g := by
    have hm := ceil_le (n := l.length) hg
    exact (Nat.div_lt_iff_lt_mul (by omega)).mpr (by omega)
  unfold unpS kept
  rw [Int.toNat_natCast, shs_rd hq, Int.toNat_natCast]
  have e : nibH (hvs l g ((l.length + 1) / 2) l.length) i = nibS l g i := by
    unfold nibH
    rw [hvs_rd (by omega)]
    have h1 := nibS_in l g (2 * (i / 2))
    have h2 := nibS_in l g (2 * (i / 2) + 1)
    unfold hv
    rw [if_pos (show 2 * (i / 2) < l.length by omega)]
    by_cases c : i % 2 = 1
    · have e1 : 2 * (i / 2) + 1 = i := by omega
      rw [if_pos c, if_pos (by omega)]
      rw [e1] at h2 ⊢; omega
    · have e1 : 2 * (i / 2) = i := by omega
      rw [if_neg c]
      rw [e1] at h1 ⊢
      split <;> omega
  rw [e, (nib_ne hl hg hi').2]; rfl
/-- What is unpacked, as a list. -/
def again (l : List Int) (g : Nat) : List Int := (List.range l.length).map fun i : Nat => kept (rd l i) (sh l g i)
theorem again_len (l : List Int) (g : Nat) : (again l g).length = l.length := by simp [again]
theorem again_i8 (l : List Int) (g : Nat) : ∀ x ∈ again l g, I8 x := by
  intro x hx
  obtain ⟨i, _, rfl⟩ := List.mem_map.mp hx
  exact kept_i8 _ _
theorem again_rd {l : List Int} {g i : Nat} (hi : i < l.length) : rd (again l g) i = kept (rd l i) (sh l g i) := by
  rw [rd_at (by rw [again_len]; exact hi)]; simp [again]
theorem again_shift {l : List Int} {g j : Nat} (hl : ∀ x ∈ l, I8 x) (hg : 1 ≤ g) : shiftS (rowOf (again l g) g j) ≤ shiftS (rowOf l g j) := by
  refine shiftS_least (shiftS_le _) ?_
  unfold fitB
  rw [List.all_eq_true]
  intro x hx
  obtain ⟨t, ht, rfl⟩ := List.mem_iff_getElem.mp hx
  have ht1 : t < g := by unfold rowOf at ht; simp at ht; omega
  have ht2 : j * g + t < l.length := by unfold rowOf at ht; simp [again_len] at ht; omega
  have e : (rowOf (again l g) g j)[t] = rd (again l g) ((j * g + t : Nat) : Int) := by
    rw [rd_at (by rw [again_len]; exact ht2)]
    simp [rowOf]
  have hd : (j * g + t) / g = j := Nat.div_eq_of_lt_le (by omega) (by rw [Nat.succ_mul]; omega)
  rw [e, again_rd ht2]
  have hf := fits_at (i := j * g + t) hl hg ht2
  unfold sh
  rw [hd] at hf ⊢
  exact (kept_ok (rd_i8 hl _) (shiftS_le _) hf).2.2.2
theorem again_again {l : List Int} {g : Nat} (hl : ∀ x ∈ l, I8 x) (hg : 1 ≤ g) : again (again l g) g = again l g := by
  unfold again
  rw [show ((List.range l.length).map fun i : Nat => kept (rd l i) (sh l g i)) = again l g from rfl, again_len]
  apply List.map_congr_left
  intro i hi
  have hi' : i < l.length := by simpa using hi
  have h1 := fits_at (i := i) hl hg hi'
  have h2 := fits_at (l := again l g) (i := i) (again_i8 l g) hg (by rw [again_len]; exact hi')
  have h3 := again_shift (l := l) (g := g) (j := i / g) hl hg
  rw [again_rd hi'] at h2 ⊢
  exact kept_again (rd_i8 hl _) (shiftS_le _) h3 h1 h2
theorem VecNears : heraldlaw08_VecNears.Pure := by
  intro l c h1 h2 h3 h4
  have il : ∀ x ∈ l, I8 x := fun x hx => i8_of_wf (h3 x hx)
  refine Ev.rounds (g := fun k => heraldlaw08_VecNears.f k l c) ?_
  unfold heraldlaw08_VecNears.f
  refine Ev.bind awake_ev ?_
  simp only [if_true]
  refine Ev.bind (Pack_f l c il) ?_
  have bad : (packS l c).2.2.2.2 ≠ 0 → (packS l c).1 = 0 → Ev (fun k => heraldlaw08_VecNears.j0 k l c (packS l c).2.2.2.2 true (packS l c).1 (packS l c).2.1 (packS l c).2.2.1 (packS l c).2.2.2.1) true := by
    intro e1 e2
    refine Ev.step (f := fun _ => some true) (fun k => ?_) (Ev.now _)
    simp only [heraldlaw08_VecNears.j0, if_true, e1, e2, if_false]; rfl
  by_cases c1 : c < 1
  · have hb := bad (by unfold packS; split <;> simp [c1]) (by unfold packS; split <;> simp [c1])
    simp only [c1, if_true]; exact hb
  · by_cases c2 : c > 256
    · have hb := bad (by unfold packS; split <;> simp [c2]) (by unfold packS; split <;> simp [c2])
      simp only [c1, c2, if_true, if_false]; exact hb
    · by_cases c3 : l.length > 1048576
      · have hb := bad (by unfold packS; rw [if_pos c3]; simp) (by unfold packS; rw [if_pos c3])
        simp only [c1, c2, if_false, show (l.length : Int) > 1048576 by omega, decide_true]; exact hb
      · simp only [c1, c2, if_false, show ¬ (l.length : Int) > 1048576 by omega, decide_false]
        obtain ⟨g, rfl⟩ : ∃ g : Nat, c = g := ⟨c.toNat, by omega⟩
        have hg : 1 ≤ g := by omega
        have hg2 : g ≤ 256 := by omega
        have hP : ∀ m : List Int, m.length = l.length → packS m g = ((m.length : Int), (g : Int), shs m g ((m.length + g - 1) / g), hvs m g ((m.length + 1) / 2) m.length, (0 : Int)) := by
          intro m hm; unfold packS; rw [if_neg (by omega), if_neg (by omega), Int.toNat_natCast]
        have hU := unpack_pack il (by omega) hg hg2
        rw [hP l rfl]
        refine ev_succ ?_
        simp only [heraldlaw08_VecNears.j0, Bool.false_eq_true, if_false]
        have hsl : (shs l g ((l.length + g - 1) / g)).length ≤ 140737488351232 := by
          rw [shs_len]; have := Nat.div_le_self (l.length + g - 1) g; omega
        have hhl : (hvs l g ((l.length + 1) / 2) l.length).length ≤ 140737488351232 := by rw [hvs_len]; omega
        refine Ev.bind (Unpack_f _ _ _ _ (shs_u8 _ _ _) (hvs_u8 _ _ _ _) hsl hhl) ?_
        rw [hU]
        have hA : ((List.range l.length).map fun i : Nat => kept (rd l i) (sh l g i)) = again l g := rfl
        have R := pack_right il (by omega) hg hg2
        obtain ⟨n1, _⟩ := need_code (c := (l.length : Int)) (g := (g : Int)) (by omega) (by omega) (by omega) (by omega)
        simp only [hA, again_len, if_true, show ¬ (g : Int) = 0 by omega, if_false, n1, R.2.1.1, bne_self_eq_false]
        refine ev_succ ?_
        simp only [heraldlaw08_VecNears.j1, Bool.false_eq_true, if_false]
        refine ev_loop (fun k i => heraldlaw08_VecNears.l0 k g (again l g) l l.length i l.length g (shs l g ((l.length + g - 1) / g)) (hvs l g ((l.length + 1) / 2) l.length)) true l.length (fun _ => True) trivial (fun _ => ?_) (fun i hi _ ih => ?_)
        · have hU2 := unpack_pack (l := again l g) (again_i8 l g) (by rw [again_len]; omega) hg hg2
          rw [show ((List.range (again l g).length).map fun i : Nat => kept (rd (again l g) i) (sh (again l g) g i)) = again l g from again_again il hg] at hU2
          refine Ev.step (f := fun k => (vec_Pack.f k (again l g) g).bind fun bt621 => ((vec_Unpack.f k bt621.1 bt621.2.1 bt621.2.2.1 bt621.2.2.2.1).bind fun bt631 => (if bt621.2.2.2.2 = 0 then (if bt631.2 = 0 then ((heraldlaw08_same_int8.f k bt631.1 (again l g)).bind fun t635 => (some t635)) else (some false)) else (some false)))) (fun k => ?_) ?_
          · simp only [heraldlaw08_VecNears.l0]; rw [if_neg (by omega)]
          · refine Ev.bind (Pack_f _ _ (again_i8 l g)) ?_
            rw [hP _ (again_len l g)]
            simp only [if_true]
            have hsl2 : (shs (again l g) g (((again l g).length + g - 1) / g)).length ≤ 140737488351232 := by
              rw [shs_len]; have := Nat.div_le_self ((again l g).length + g - 1) g; rw [again_len] at *; omega
            have hhl2 : (hvs (again l g) g (((again l g).length + 1) / 2) (again l g).length).length ≤ 140737488351232 := by rw [hvs_len, again_len]; omega
            refine Ev.bind (Unpack_f _ _ _ _ (shs_u8 _ _ _) (hvs_u8 _ _ _ _) hsl2 hhl2) ?_
            rw [hU2]
            simp only [if_true]
            exact Ev.bind (same8_ev _ (by rw [again_len]; omega)) (Ev.now _)
        · refine Ev.step (fun k => ?_) (ih trivial)
          obtain ⟨p1, p2, p3⟩ := right_at R (i := i) (by omega)
          rw [shs_len] at p1
          have hq0 : (0 : Int) ≤ ((i / g : Nat) : Int) := Int.natCast_nonneg _
          have hq1 : ((i / g : Nat) : Int) < (((l.length + g - 1) / g : Nat) : Int) := Int.ofNat_lt.mpr p1
          have hx := rd_i8 il (i : Int)
          have hk := kept_i8 (rd l i) (sh l g i)
          have hsl := shiftS_le (rowOf l g (i / g))
          obtain ⟨k1, k2, k3, _⟩ := kept_ok hx hsl (fits_at il hg hi)
          have s1 := (shl_pow (x := 1) (s := shiftS (rowOf l g (i / g))) (by omega) ⟨by omega, by omega⟩).1
          have s2 := (shl_pow (x := -1) (s := shiftS (rowOf l g (i / g))) (by omega) ⟨by omega, by omega⟩).1
          have hsh : sh l g i = shiftS (rowOf l g (i / g)) := rfl
          rw [← hsh] at k1 k2 k3 s1 s2
          simp only [heraldlaw08_VecNears.l0, div_nat (n := g) (show i ≤ 1048577 by omega), shs_len, shs_rd p1, again_len, again_rd hi, hq0, hq1, if_true, show ¬ (g : Int) = 0 by omega, if_false, ← hsh, s1, s2]
          have hI := hx.i64
          have hKI := hk.i64
          unfold I8 at hx hk
          rw [if_pos (by omega), if_pos (by omega), if_pos (by omega), if_pos (by omega), if_neg (by omega), if_pos (by omega), wrap64_id hI, wrap64_id hKI, wrap64_id' (x := rd l i - kept (rd l i) (sh l g i)) (by omega) (by omega), wrap64_id' (x := 2 * (rd l i - kept (rd l i) (sh l g i))) (by omega) (by omega), if_neg (by omega), if_neg (by omega), wrap64_id' (x := (i : Int) + 1) (by omega) (by omega)]
          by_cases hz : ((sh l g i : Nat) : Int) = 0
          · rw [if_pos hz, if_pos (k3 (by omega))]; rfl
          · rw [if_neg hz]; rfl

end Go.Proofs.Ytigfodkakefhcaa.Pure
