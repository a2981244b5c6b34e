-- Printed by xprint.py (wip): functions, contracts, rows. Lean checks it.
import Derived.Test.YtigfodkakefhcaaPx0
import Derived.Test.YtigfodkakefhcaaPx3
import Derived.Test.YtigfodkakefhcaaPx4
import Derived.Test.YtigfodkakefhcaaPx8
import Derived.Test.YtigfodkakefhcaaPx10
import Derived.Test.YtigfodkakefhcaaPx11
import Derived.Test.YtigfodkakefhcaaPx12
import Derived.Test.YtigfodkakefhcaaPx13
import Derived.Test.YtigfodkakefhcaaPx18
import Derived.Test.YtigfodkakefhcaaPx20
import Derived.Test.YtigfodkakefhcaaPx21
namespace Go.Proofs.Ytigfodkakefhcaa.P
open Go.RowKit Go.Proofs.YtigfodkakefhcaaW.PrintWords Go.Proofs.YtigfodkakefhcaaW.PrintLast Go.Proofs.YtigfodkakefhcaaW.PrintMore
attribute [local go_sem] max2_int min2_int max_two min_two max_three min_three max_four min_four   -- for this text's walks alone
set_option linter.unusedVariables false
set_option linter.unusedSimpArgs false

/-! ### heraldlaw08_VecMemory: function 12 -/
def heraldlaw08_VecMemory.f (k : Nat) (l0 : List Int) (a1 : Int) (l2 : List (List Int)) (ai : Int) (sh : Int) : Option Bool :=
  (heraldlaw08_awake.f k).bind fun t0 => (vec_Row.f l0 a1 ai).bind fun t1 => (heraldref08_Row.f l0 a1 ai).bind fun t2 => (vec_Batch.f k l0 a1 l2).bind fun t3 => (heraldref08_Batch.f k l0 a1 l2).bind fun t4 =>
  (heraldlaw08_same_int8.f k t1.1 t2.1).bind fun t5 => (heraldlaw08_rows_int64.f k t3.1 t4.1).bind fun t6 => (heraldref02_Round.f k 300 sh).bind fun t7 => (vec_Shrink.f k [300] sh).bind fun t8 => (heraldref02_Narrow.f t7.1).bind fun t9 => (heraldlaw08_same_int8.f k l0 l0).bind fun t10 =>
  if t0 = true ∧ t1.2 = t2.2 ∧ t3.2 = t4.2 ∧ t5 = true ∧ t6 = true ∧ t10 = true ∧ (t8.2 = 0 → t8.1 = [t9]) ∧ l0.length ≤ 140737488355000 ∧ t1.1.length ≤ 140737488355000 ∧ t3.1.length ≤ 5864062014800 ∧ ∀ x ∈ t3.1, x.length ≤ 1048576 then some true else none
def vmarkB (m : Nat) : Int := 1000 + (m : Int)
/-- A row that was marked and grown by nine. -/
def VDone (q : Nat) (xs : List Int) : Prop := ∃ n, xs.length = n + 9 ∧ n ≤ 1048576 ∧ ∀ i x, xs[i]? = some x → x = if i < n then 1000 + (q : Int) else 2000 + (q : Int)
def VRaw (q : Nat) (xs : List Int) : Prop := xs.length ≤ 1048576 ∧ ∀ x ∈ xs, x = 1000 + (q : Int)
def VPart (j : Nat) (xss : List (List Int)) : Prop := ∀ q xs, xss[q]? = some xs → (q < j → VDone q xs) ∧ (j ≤ q → VRaw q xs)
theorem vpart_zero {xss : List (List Int)} {n : Nat} (hn : xss.length = n) (hM : Pool.Marked vmarkB xss n) (hX : ∀ x ∈ xss, x.length ≤ 1048576) : VPart 0 xss := fun q xs h => ⟨fun hq => by omega, fun _ => ⟨hX xs (List.mem_of_getElem? h), fun x hx => by
  obtain ⟨j, hj, rfl⟩ := List.mem_iff_getElem.1 hx
  have hq : q < xss.length := (List.getElem?_eq_some_iff.1 h).1
  exact hM.at_ (by omega) h (List.getElem?_eq_getElem hj)⟩⟩
theorem vpart_next {j : Nat} {xss : List (List Int)} {y0 : List Int} (h : VPart j xss) (hy : xss[j]? = some y0) : VPart (j + 1) (xss.set j (y0 ++ List.replicate 9 (2000 + (j : Int)))) := fun q xs hq => by
  have hj : j < xss.length := (List.getElem?_eq_some_iff.1 hy).1
  by_cases e : q = j
  · subst e
    rw [List.getElem?_set_self hj] at hq
    cases Option.some.inj hq
    refine ⟨fun _ => ?_, fun h2 => by omega⟩
    obtain ⟨r1, r2⟩ := (h q y0 hy).2 (Nat.le_refl _)
    refine ⟨y0.length, by simp, r1, fun i x hi => ?_⟩
    by_cases c : i < y0.length
    · rw [List.getElem?_append_left c] at hi
      rw [if_pos c]
      exact r2 x (List.mem_of_getElem? hi)
    · rw [List.getElem?_append_right (by omega)] at hi
      rw [if_neg c]
      exact List.eq_of_mem_replicate (List.mem_of_getElem? hi)
  · rw [List.getElem?_set_ne (Ne.symm e)] at hq
    obtain ⟨r1, r2⟩ := h q xs hq
    exact ⟨fun h2 => r1 (by omega), fun h2 => r2 (by omega)⟩
theorem set_app {β : Type} (a b : List β) (i : Nat) (v : β) (h : i < a.length) : (a ++ b).set i v = a.set i v ++ b := List.set_append_left _ _ h
theorem get_app {β : Type} {a b : List β} {i : Nat} {v : β} (h : a[i]? = some v) : (a ++ b)[i]? = some v := by
  rw [List.getElem?_append_left (List.getElem?_eq_some_iff.1 h).1]; exact h
theorem vsetInner {w : World} {base ei i : Nat} {us rest : List Value} {xss yss : List (List Int)} {v : Value} {ys : List Int} (h : Pool.Inner ei (Value.int .i64) w base ((us ++ rest).set i v) ((xss ++ yss).set i ys)) (hi : i < us.length) (hx : i < xss.length) : Pool.Inner ei (Value.int .i64) w base (us.set i v ++ rest) (xss.set i ys ++ yss) := by
  rw [set_app _ _ _ _ hi, set_app _ _ _ _ hx] at h
  exact h
theorem vcells {w : World} {gb t : Nat} {mc : Array Value} {a b c : Value} (h : w.heap[gb]? = some (.cells mc t (0, 0))) (hm : mc = #[a, b, c]) : w.cell? ⟨gb, 0, none⟩ = some a ∧ w.cell? ⟨gb, 1, none⟩ = some b ∧ w.cell? ⟨gb, 2, none⟩ = some c := by
  subst hm
  exact ⟨(blk_cell h 0).trans rfl, (blk_cell h 1).trans rfl, (blk_cell h 2).trans rfl⟩
theorem vread {w : World} {base eo ei n c i : Nat} {A : Option Addr} {ys28 us pre post : List Value} {xs28 : List (List Value)} {pre' tk post' : List (List Int)} (p28 : Pool.Inner eo (fun v : Value => v) w base ys28 xs28) (h1 : ys28[i]? = some (.slice A n c)) (h2 : xs28[i]? = some us) (p64 : Pool.Inner ei (Value.int .i64) w base (pre ++ (us ++ post)) (pre' ++ (tk ++ post'))) (hp : pre.length = pre'.length) (hl : us.length = tk.length) : Kd.C (Kd.slice ei (Kd.int .i64)) w A n tk ∧ n ≤ c := by
  have ho := p28.own i _ us h1 h2
  obtain ⟨A', c', he⟩ := own_slice ho
  cases he
  rw [List.map_id'] at ho
  refine Pool.C_of_outer (base := base) (h1 := fun _ => rfl) ho hl (fun j u xs hu hx => ?_)
  refine p64.own (pre.length + j) u xs ?_ ?_
  · rw [List.getElem?_append_right (by omega), Nat.add_sub_cancel_left]; exact get_app hu
  · rw [hp, List.getElem?_append_right (by omega), Nat.add_sub_cancel_left]; exact get_app hx
theorem vform {α : Type} {ei base i n c : Nat} {enc : α → Value} {w : World} {vs : List Value} {xss : List (List α)} {A : Option Addr} {xs : List α} (h : Pool.Inner ei enc w base vs xss) (hu : vs[i]? = some (.slice A n c)) (hx : xss[i]? = some xs) : xs.length = n ∧ (0 < n → ∃ g, A = some ⟨g, 0, none⟩) := by
  have ho := h.own i _ xs hu hx
  rcases ho.2 with ⟨he, h0⟩ | ⟨g, cap, cur, he, _⟩
  · injection he with e1 e2 e3
    exact ⟨by omega, fun hp => by omega⟩
  · injection he with e1 e2 e3
    exact ⟨e2.symm, fun _ => ⟨g, e1⟩⟩
theorem vcell {α : Type} {ei base i g n c : Nat} {enc : α → Value} {w : World} {vs : List Value} {xss : List (List α)} {xs : List α} (h : Pool.Inner ei enc w base vs xss) (hu : vs[i]? = some (.slice (some ⟨g, 0, none⟩) n c)) (hx : xss[i]? = some xs) {j : Nat} {x : α} (hj : xs[j]? = some x) : w.cell? ⟨g, j, none⟩ = some (enc x) ∧ w.frozen? ⟨g, j, none⟩ = false := by
  obtain ⟨hn, _⟩ := vform h hu hx
  subst hn
  exact h.cell hx hu hj
theorem vcell28 {ei base i g n c : Nat} {w : World} {vs : List Value} {xss : List (List Value)} {xs : List Value} (h : Pool.Inner ei (fun v : Value => v) w base vs xss) (hu : vs[i]? = some (.slice (some ⟨g, 0, none⟩) n c)) (hx : xss[i]? = some xs) {j : Nat} {x : Value} (hj : xs[j]? = some x) : w.cell? ⟨g, j, none⟩ = some x ∧ w.frozen? ⟨g, j, none⟩ = false := vcell h hu hx hj
theorem set_self {β : Type} {l : List β} {i : Nat} {v : β} (h : l[i]? = some v) : l.set i v = l := by
  obtain ⟨hi, rfl⟩ := List.getElem?_eq_some_iff.1 h
  exact List.set_getElem_self hi
theorem vlit (w : World) : Kd.C (Kd.int .i64) (w.alloc (.cells #[.int .i64 300] 2)) (some ⟨w.heap.size, 0, none⟩) [(300 : Int)].length [300] :=
  (Pool.reads_of (h1 := fun _ => rfl) (enc := Value.int .i64) (xs := [300]) (c := 1) (n := 1) (World.ownsRow_lit (size := 1) w #[.int .i64 300] 1 (Nat.le_refl _) (by unfold maxLen; omega) rfl)).2.2
theorem vone {w : World} {base eo n : Nat} {v : Value} {us : List Value} (h : w.ownsRow base eo 1 v n us) (hn : us.length = n) : Pool.Inner eo (fun v : Value => v) w base [v] [us] := Pool.Inner.one (enc := fun v : Value => v) (by rw [hn, List.map_id']; exact h)
set_option maxRecDepth 100000 in
set_option maxHeartbeats 16000000 in
theorem heraldlaw08_VecMemory.calls (k : Nat) (A0 : Option Addr) (c0 : Nat) (l0 : List Int) (a1 : Int) (A2 : Option Addr) (c2 : Nat) (l2 : List (List Int)) (ai : Int) (sh : Int) (r : Bool) (w : World) (hr0 : Kd.C (Kd.int .i8) w A0 l0.length l0) (hc0 : l0.length ≤ c0) (hr2 : Kd.C (Kd.slice 42 (Kd.int .i8)) w A2 l2.length l2) (hc2 : l2.length ≤ c2) (h : heraldlaw08_VecMemory.f k l0 a1 l2 ai sh = some r) :
    Calls Try.prog 12 #[.agg #[.slice A0 l0.length c0, .int .i64 a1, .slice A2 l2.length c2], .int .i64 ai, .int .i64 sh] w fun e w' => e = .returned (.bool r) ∧ Below w.heap.size w w' := by
  have hu := Try.underlying25
  have HR0 := Aside0.mk hr0
  have HC0 := Aside0.mk hc0
  have HR2 := Aside0.mk hr2
  have HC2 := Aside0.mk hc2
  clear hr0 hc0 hr2 hc2
  unfold heraldlaw08_VecMemory.f at h
  obtain ⟨t0, g0, h0⟩ := Option.bind_eq_some_iff.mp h
  obtain ⟨⟨ra, ea⟩, g1, h1⟩ := Option.bind_eq_some_iff.mp h0
  obtain ⟨⟨rw_, ew⟩, g2, h2⟩ := Option.bind_eq_some_iff.mp h1
  obtain ⟨⟨tk, ek⟩, g3, h3⟩ := Option.bind_eq_some_iff.mp h2
  obtain ⟨⟨tr, er⟩, g4, h4⟩ := Option.bind_eq_some_iff.mp h3
  obtain ⟨t5, g5, h5⟩ := Option.bind_eq_some_iff.mp h4
  obtain ⟨t6, g6, h6⟩ := Option.bind_eq_some_iff.mp h5
  obtain ⟨⟨ro, eo⟩, g7, h7⟩ := Option.bind_eq_some_iff.mp h6
  obtain ⟨⟨rh, eh⟩, g8, h8⟩ := Option.bind_eq_some_iff.mp h7
  obtain ⟨rn, g9, h9⟩ := Option.bind_eq_some_iff.mp h8
  obtain ⟨t10, g10, h10⟩ := Option.bind_eq_some_iff.mp h9
  clear h h0 h1 h2 h3 h4 h5 h6 h7 h8 h9
  split at h10
  · rename_i hh
    obtain ⟨rfl, rfl, rfl, rfl, rfl, rfl, hsh, hl0, hla, hlk, hlx⟩ := hh
    obtain rfl := Option.some.inj h10
    clear h10
    have G0 := Aside0.mk g0
    have G1 := Aside0.mk g1
    have G2 := Aside0.mk g2
    have G3 := Aside0.mk g3
    have G4 := Aside0.mk g4
    have G5 := Aside0.mk g5
    have G6 := Aside0.mk g6
    have G7 := Aside0.mk g7
    have G8 := Aside0.mk g8
    have G9 := Aside0.mk g9
    have G10 := Aside0.mk g10
    clear g0 g1 g2 g3 g4 g5 g6 g7 g8 g9 g10
    have HSH := Aside0.mk hsh
    have HLX := Aside0.mk hlx
    clear hsh hlx
    have n1 : (ea != ea) = false := by simp
    have n2 : (ek != ek) = false := by simp
    obtain ⟨mc, hmc⟩ : ∃ mc : Array Value, mc = #[.slice A0 l0.length c0, .int .i64 a1, .slice A2 l2.length c2] := ⟨_, rfl⟩
    have HMC := Aside0.mk hmc
    clear hmc
    go_enter Try.func12, Try.ntmps12
    go_wp2_with (first | ((with_reducible refine gate_dst (N := 3) rfl ?_); refine box_event ?hg (N := 3) ?hd (cs := mc) (t := 25) ?hr ?_; (case hd => rfl); (case hg => rfl); (case hr => rw [HMC.out]; first | (go_simp; done) | (go_simp; rfl)); intro gb hg w1 hbox hb; have BK1 := Aside0.mk hbox; have HB1 := Aside0.mk hb; obtain ⟨s0, s1, s2⟩ := vcells BK1.out HMC.out; clear hbox hb hg) | (go_at_call 13; refine (heraldlaw08_awake.calls k true _ G0.out).mono ?_; rintro e w2 ⟨rfl, hb⟩; have BK2 := Aside0.mk (blk_below BK1.out hb); have HB2 := Aside0.mk (below_step HB1.out hb); (try clear s0 s1 s2); obtain ⟨s0, s1, s2⟩ := vcells BK2.out HMC.out; clear hb) | ((with_reducible refine gate_dst (N := 36) rfl ?_); refine Kd.R_lit (Kd.int .i8) _ 42 ?hg (N := 36) ?hd (xs := ([] : List Int)) (inner := []) (ok := fun _ => True) (okp := fun _ => True) ?hr ?hp (fun _ hk => hk) trivial (Below.refl _ _) (Nat.le_refl _) (by simp) ?_; (case hd => rfl); (case hg => rfl); (case hr => first | (go_simp; done) | (go_simp; rfl)); (case hp => exact (Reps.none _ _)); intro v3 w3 ho hb hg_ hnew_; clear hg_ hnew_; have HO3 := Aside0.mk (Kd.R_lower ho HB2.out.size); have BK3 := Aside0.mk (blk_below BK2.out hb); have HB3 := Aside0.mk (below_step HB2.out hb); (try clear s0 s1 s2); obtain ⟨s0, s1, s2⟩ := vcells BK3.out HMC.out; clear ho hb) | ((with_reducible refine gate_builtin (b := .append) (xs := #[.tmp 36, .tmp 38]) rfl ?_); at_builtin; refine Kd.R_append_rows (Kd.int .i8) (w0 := w) w.heap.size rfl (.tmp 36) (.tmp 38) 22 42 (.int .i8 0) 1 rfl Try.underlying22 info42 rfl (by decide) (by omega) v3 [] l0 _ _ _ (fun _ => True) (fun _ => False) rfl rfl HO3.out (Kd.C_below HR0.out HB3.out) (fun _ _ h => h) (fun _ h => h.elim) (fun _ _ => trivial) HB3.out HB3.out.size (by simp; omega) ?_; intro v4 w4 ho hb hg4 hat4; obtain ⟨Aw, cw, rfl⟩ := Kd.R_slice ho; have P8_4 := Aside0.mk (Pool.Inner.one (enc := Value.int .i8) (xs := l0) (Kd.own_of_R ho)); have BK4 := Aside0.mk (Pool.blk_ty BK3.out (Pool.ty_grown hg4 (Pool.ty_own (Kd.own_of_R HO3.out))) (by decide)); have HB4 := Aside0.mk hb; (try clear s0 s1 s2); obtain ⟨s0, s1, s2⟩ := vcells BK4.out HMC.out; clear ho hb hg4 hat4) | (go_at_call 26; refine (vec_Row.calls _ _ l0 a1 ai ra ea _ (Kd.R_reads' (Kd.R_of_own (h1 := fun _ => rfl) (ok := fun _ => True) (P8_4.out.own 0 _ l0 rfl rfl) (fun _ _ => trivial))).2.2 (Kd.R_reads' (Kd.R_of_own (h1 := fun _ => rfl) (ok := fun _ => True) (P8_4.out.own 0 _ l0 rfl rfl) (fun _ _ => trivial))).2.1 G1.out).mono ?_; rintro e w5 ⟨v5, rfl, ho, hb⟩; obtain ⟨Aa, ca, rfl⟩ := Kd.R_slice ho; have P8_5 := Aside0.mk (P8_4.out.join hb HB4.out.size (Pool.Inner.one (enc := Value.int .i8) (Kd.own_of_R ho))); have BK5 := Aside0.mk (blk_below BK4.out hb); have HB5 := Aside0.mk (below_step HB4.out hb); (try clear s0 s1 s2); obtain ⟨s0, s1, s2⟩ := vcells BK5.out HMC.out; clear ho hb) | (go_at_call 26; refine (vec_Row.calls _ _ l0 a1 ai ra ea _ (Kd.R_reads' (Kd.R_of_own (h1 := fun _ => rfl) (ok := fun _ => True) (P8_5.out.own 0 _ l0 rfl rfl) (fun _ _ => trivial))).2.2 (Kd.R_reads' (Kd.R_of_own (h1 := fun _ => rfl) (ok := fun _ => True) (P8_5.out.own 0 _ l0 rfl rfl) (fun _ _ => trivial))).2.1 G1.out).mono ?_; rintro e w6 ⟨v6, rfl, ho, hb⟩; obtain ⟨Ab, cb, rfl⟩ := Kd.R_slice ho; have P8_6 := Aside0.mk (P8_5.out.join hb HB5.out.size (Pool.Inner.one (enc := Value.int .i8) (Kd.own_of_R ho))); have BK6 := Aside0.mk (blk_below BK5.out hb); have HB6 := Aside0.mk (below_step HB5.out hb); (try clear s0 s1 s2); obtain ⟨s0, s1, s2⟩ := vcells BK6.out HMC.out; clear ho hb) | (go_at_call 27; refine (heraldref08_Row.calls _ _ l0 a1 ai rw_ ea _ (Kd.C_below HR0.out HB6.out) HC0.out G2.out).mono ?_; rintro e w7 ⟨⟨Ax, cx, rfl, hcx, hCx⟩, hd⟩; have hb := hd.below; have HCX := Aside0.mk hcx; have HX := Aside0.mk hCx; have P8_7 := Aside0.mk (P8_6.out.below hb); have BK7 := Aside0.mk (blk_below BK6.out hb); have HB7 := Aside0.mk (below_step HB6.out hb); (try clear s0 s1 s2); obtain ⟨s0, s1, s2⟩ := vcells BK7.out HMC.out; clear hcx hCx hd hb) | (go_at_call 18; refine (vec_Batch.calls k _ _ l0 a1 _ _ l2 tk ek _ (Kd.R_reads' (Kd.R_of_own (h1 := fun _ => rfl) (ok := fun _ => True) (P8_7.out.own 0 _ l0 rfl rfl) (fun _ _ => trivial))).2.2 (Kd.R_reads' (Kd.R_of_own (h1 := fun _ => rfl) (ok := fun _ => True) (P8_7.out.own 0 _ l0 rfl rfl) (fun _ _ => trivial))).2.1 (Kd.C_below HR2.out HB7.out) HC2.out G3.out).mono ?_; rintro e w8 ⟨v8, rfl, ho, hb⟩; obtain ⟨us, hL, hID, _⟩ := Pool.of_S ho; have HLU := Aside0.mk hID.len; rw [hID.len] at hL; obtain ⟨Al, cl, rfl⟩ := own_slice hL; have P28_8 := Aside0.mk ((vone hL hID.len).lower HB7.out.size); have P64_8 := Aside0.mk (hID.lower HB7.out.size); have P8_8 := Aside0.mk (P8_7.out.below hb); have BK8 := Aside0.mk (blk_below BK7.out hb); have HB8 := Aside0.mk (below_step HB7.out hb); (try clear s0 s1 s2); obtain ⟨s0, s1, s2⟩ := vcells BK8.out HMC.out; clear ho hb hL hID) | (go_at_call 18; refine (vec_Batch.calls k _ _ l0 a1 _ _ l2 tk ek _ (Kd.R_reads' (Kd.R_of_own (h1 := fun _ => rfl) (ok := fun _ => True) (P8_8.out.own 0 _ l0 rfl rfl) (fun _ _ => trivial))).2.2 (Kd.R_reads' (Kd.R_of_own (h1 := fun _ => rfl) (ok := fun _ => True) (P8_8.out.own 0 _ l0 rfl rfl) (fun _ _ => trivial))).2.1 (Kd.C_below HR2.out HB8.out) HC2.out G3.out).mono ?_; rintro e w9 ⟨v9, rfl, ho, hb⟩; obtain ⟨ks, hL, hID, _⟩ := Pool.of_S ho; have HLV := Aside0.mk hID.len; rw [hID.len] at hL; obtain ⟨Ak, ck, rfl⟩ := own_slice hL; have P28_9 := Aside0.mk (P28_8.out.join hb HB8.out.size (vone hL hID.len)); have P64_9 := Aside0.mk (P64_8.out.join hb HB8.out.size hID); have P8_9 := Aside0.mk (P8_8.out.below hb); have BK9 := Aside0.mk (blk_below BK8.out hb); have HB9 := Aside0.mk (below_step HB8.out hb); (try clear s0 s1 s2); obtain ⟨s0, s1, s2⟩ := vcells BK9.out HMC.out; clear ho hb hL hID) | (go_at_call 19; refine (heraldref08_Batch.calls k _ _ l0 a1 _ _ l2 tr ek _ (Kd.C_below HR0.out HB9.out) HC0.out (Kd.C_below HR2.out HB9.out) HC2.out G4.out).mono ?_; rintro e w10 ⟨v10, rfl, ho, hb⟩; obtain ⟨rs, hL, hID, _⟩ := Pool.of_S ho; have HLR := Aside0.mk hID.len; rw [hID.len] at hL; obtain ⟨Ar, cr, rfl⟩ := own_slice hL; have P28_10 := Aside0.mk (P28_9.out.join hb HB9.out.size (vone hL hID.len)); have P64_10 := Aside0.mk (P64_9.out.join hb HB9.out.size hID); have P8_10 := Aside0.mk (P8_9.out.below hb); have BK10 := Aside0.mk (blk_below BK9.out hb); have HB10 := Aside0.mk (below_step HB9.out hb); (try clear s0 s1 s2); obtain ⟨s0, s1, s2⟩ := vcells BK10.out HMC.out; clear ho hb hL hID) | (go_at_call 21; refine (heraldlaw08_same_int8.calls k _ _ ra _ _ rw_ true _ (Kd.R_reads' (Kd.R_of_own (h1 := fun _ => rfl) (ok := fun _ => True) (P8_10.out.own 1 _ ra rfl rfl) (fun _ _ => trivial))).2.2 (Kd.R_reads' (Kd.R_of_own (h1 := fun _ => rfl) (ok := fun _ => True) (P8_10.out.own 1 _ ra rfl rfl) (fun _ _ => trivial))).2.1 (HX.out _ (Kd.C_below HR0.out HB10.out)) HCX.out G5.out).mono ?_; rintro e w11 ⟨rfl, hd⟩; have hb := hd.below; have P8_11 := Aside0.mk (P8_10.out.below hb); have P64_11 := Aside0.mk (P64_10.out.below hb); have P28_11 := Aside0.mk (P28_10.out.below hb); have BK11 := Aside0.mk (blk_below BK10.out hb); have HB11 := Aside0.mk (below_step HB10.out hb); (try clear s0 s1 s2); obtain ⟨s0, s1, s2⟩ := vcells BK11.out HMC.out; clear hd hb) | (go_at_call 20; have PL := vread (i := 0) (us := us) (pre := []) (post := ks ++ rs) (pre' := []) (tk := tk) (post' := tk ++ tr) P28_11.out rfl rfl (by simpa using P64_11.out) rfl HLU.out; have PR := vread (i := 2) (us := rs) (pre := us ++ ks) (post := []) (pre' := tk ++ tk) (tk := tr) (post' := []) P28_11.out rfl rfl (by simpa using P64_11.out) (by simp [HLU.out, HLV.out]) HLR.out; refine (heraldlaw08_rows_int64.calls k _ _ tk _ _ tr true _ PL.1 PL.2 PR.1 PR.2 G6.out).mono ?_; rintro e w12 ⟨rfl, hd⟩; have hb := hd.below; have P8_12 := Aside0.mk (P8_11.out.below hb); have P64_12 : Aside0 (Pool.Inner 2 (Value.int .i64) w12 w.heap.size (us ++ (ks ++ rs)) (tk ++ (tk ++ tr))) := Aside0.mk (by simpa using P64_11.out.below hb); have P28_12 := Aside0.mk (P28_11.out.below hb); have BK12 := Aside0.mk (blk_below BK11.out hb); have HB12 := Aside0.mk (below_step HB11.out hb); (try clear s0 s1 s2); obtain ⟨s0, s1, s2⟩ := vcells BK12.out HMC.out; clear hd hb PL PR))
    clear s0 s1 s2
    clear P8_4 P8_5 P8_6 P8_7 P8_8 P8_9 P8_10 P8_11 P64_8 P64_9 P64_10 P64_11 P28_8 P28_9 P28_10 P28_11 BK1 BK2 BK3 BK4 BK5 BK6 BK7 BK8 BK9 BK10 BK11 HB1 HB2 HB3 HB4 HB5 HB6 HB7 HB8 HB9 HB10 HB11 HO3
    go_loopw [115] (fun v wr => ∃ (j : Nat) (xa : List Int), v = .int .i64 j ∧ j ≤ ra.length ∧ Aside0 (Pool.Inner 42 (Value.int .i8) wr w.heap.size [.slice Aw l0.length cw, .slice Aa ra.length ca, .slice Ab ra.length cb] [l0, xa, ra]) ∧ Aside0 (Pool.Inner 2 (Value.int .i64) wr w.heap.size (us ++ (ks ++ rs)) (tk ++ (tk ++ tr))) ∧ Aside0 (Pool.Inner 28 (fun v : Value => v) wr w.heap.size [.slice Al tk.length cl, .slice Ak tk.length ck, .slice Ar tr.length cr] [us, ks, rs]) ∧ Aside0 (wr.heap[gb]? = some (.cells mc 25 (0, 0))) ∧ Aside0 (Below w.heap.size w wr)) (fun v _ => ra.length - (intOf v).toNat)
    case atStart => exact ⟨0, ra, rfl, Nat.zero_le _, P8_12, P64_12, P28_12, BK12, HB12⟩
    case round =>
      clear P8_12 P64_12 P28_12 BK12 HB12
      obtain ⟨j, xa, rfl, hj, P8, P64, P28, BK, HB⟩ := hrel
      obtain ⟨hxa, hA⟩ := vform P8.out (i := 1) rfl rfl
      by_cases hlj : j < ra.length
      · obtain ⟨g, rfl⟩ := hA (by omega)
        obtain ⟨hcj, hfj⟩ := vcell P8.out (i := 1) rfl rfl (List.getElem?_eq_getElem (show j < xa.length by omega))
        have HT := Aside0.mk (Pool.ty_store (P8.out.own 1 _ xa rfl rfl) j (.int .i8 99))
        go_wp2
        go_roundw
        case measure => simp only [intOf]; omega
        case rel => exact ⟨j + 1, xa.set j 99, by simp, by omega, ⟨P8.out.store (i := 1) rfl rfl j 99⟩, ⟨P64.out.ty HT.out (by decide)⟩, ⟨P28.out.ty HT.out (by decide)⟩, ⟨Pool.blk_ty BK.out HT.out (by decide)⟩, ⟨ys HB.out (P8.out.lt (i := 1) rfl rfl).1⟩⟩
      · obtain ⟨jz, rfl⟩ : ∃ z, z = j := ⟨_, rfl⟩
        clear hA
        obtain ⟨wz, rfl⟩ : ∃ wo, wo = wr := ⟨_, rfl⟩
        go_wp2
        clear hlj hj
        go_loopw [124] (fun v wr => ∃ (j : Nat) (xss : List (List Int)), v = .int .i64 j ∧ j ≤ tk.length ∧ Aside0 (Pool.Inner 42 (Value.int .i8) wr w.heap.size [.slice Aw l0.length cw, .slice Aa ra.length ca, .slice Ab ra.length cb] [l0, xa, ra]) ∧ Aside0 (Pool.Inner 2 (Value.int .i64) wr w.heap.size (us ++ (ks ++ rs)) (xss ++ (tk ++ tr))) ∧ Aside0 (Pool.Inner 28 (fun v : Value => v) wr w.heap.size [.slice Al tk.length cl, .slice Ak tk.length ck, .slice Ar tr.length cr] [us, ks, rs]) ∧ Aside0 (wr.heap[gb]? = some (.cells mc 25 (0, 0))) ∧ Aside0 (Below w.heap.size w wr) ∧ Aside0 (∀ x ∈ xss, x.length ≤ 1048576) ∧ Aside0 (Pool.Marked vmarkB xss j) ∧ xss.length = tk.length) (fun v _ => tk.length - (intOf v).toNat)
        case atStart => exact ⟨0, tk, rfl, Nat.zero_le _, P8, P64, P28, BK, HB, HLX, ⟨Pool.Marked.zero _ _⟩, rfl⟩
        case round =>
          clear P8 P64 P28 BK HB
          obtain ⟨j, xss, rfl, hj, P8, P64, P28, BK, HB, HXX, HM, hxl⟩ := hrel
          by_cases hlt : j < tk.length
          · obtain ⟨wo, rfl⟩ : ∃ wo, wo = wr := ⟨_, rfl⟩
            obtain ⟨uj, hu⟩ : ∃ u, us[j]? = some u := ⟨_, List.getElem?_eq_getElem (by have := HLU.out; omega)⟩
            have hum : (us ++ (ks ++ rs))[j]? = some uj := get_app hu
            obtain ⟨xm, hxm⟩ : ∃ x, xss[j]? = some x := ⟨_, List.getElem?_eq_getElem (by omega)⟩
            obtain ⟨Au, cu, rfl⟩ := P64.out.form hum (get_app hxm)
            have hL20 : xm.length ≤ 1048576 := HXX.out xm (List.mem_of_getElem? hxm)
            obtain ⟨L, hL⟩ : ∃ L, L = xm.length := ⟨_, rfl⟩
            rw [← hL] at hu hum hL20
            clear hL hxm xm
            obtain ⟨_, hAl⟩ := vform P28.out (i := 0) rfl rfl
            obtain ⟨gl, rfl⟩ := hAl (by omega)
            have hcell := (vcell28 P28.out (i := 0) rfl rfl hu).1
            clear hAl
            go_wp2
            go_loopw [131] (fun v wr => ∃ (q : Nat) (xss : List (List Int)), v = .int .i64 q ∧ q ≤ L ∧ Aside0 (Pool.Inner 42 (Value.int .i8) wr w.heap.size [.slice Aw l0.length cw, .slice Aa ra.length ca, .slice Ab ra.length cb] [l0, xa, ra]) ∧ Aside0 (Pool.Inner 2 (Value.int .i64) wr w.heap.size (us ++ (ks ++ rs)) (xss ++ (tk ++ tr))) ∧ Aside0 (Pool.Inner 28 (fun v : Value => v) wr w.heap.size [.slice (some ⟨gl, 0, none⟩) tk.length cl, .slice Ak tk.length ck, .slice Ar tr.length cr] [us, ks, rs]) ∧ Aside0 (wr.heap[gb]? = some (.cells mc 25 (0, 0))) ∧ Aside0 (Below w.heap.size w wr) ∧ Aside0 (∀ x ∈ xss, x.length ≤ 1048576) ∧ Aside0 (Pool.Marked vmarkB xss j) ∧ Aside0 (Pool.Part vmarkB xss j q) ∧ xss.length = tk.length) (fun v _ => L - (intOf v).toNat)
            case atStart => exact ⟨0, xss, rfl, Nat.zero_le _, P8, P64, P28, BK, HB, HXX, HM, ⟨Pool.Part.zero _ _ _⟩, hxl⟩
            case round =>
              clear P8 P64 P28 BK HB HXX HM hcell hxl xss
              obtain ⟨q, xss, rfl, hq, P8, P64, P28, BK, HB, HXX, HM, HQ, hxl⟩ := hrel
              obtain ⟨xm, hxm⟩ : ∃ x, xss[j]? = some x := ⟨_, List.getElem?_eq_getElem (by omega)⟩
              obtain ⟨hxL, hAu⟩ := vform P64.out hum (get_app hxm)
              by_cases hlq : q < L
              · obtain ⟨g, rfl⟩ := hAu (by omega)
                obtain ⟨hcj, hfj⟩ := vcell P64.out hum (get_app hxm) (List.getElem?_eq_getElem (show q < xm.length by omega))
                have HT := Aside0.mk (Pool.ty_store (P64.out.own _ _ xm hum (get_app hxm)) q (.int .i64 (vmarkB j)))
                have HP := Aside0.mk (P64.out.store (get_app hxm) hum q (vmarkB j))
                go_wp2
                go_roundw
                case measure => simp only [intOf]; omega
                case rel => exact ⟨q + 1, xss.set j (xm.set q (vmarkB j)), by simp, by omega, ⟨P8.out.ty HT.out (by decide)⟩, ⟨by have e := HP.out; rw [set_app _ _ _ _ (by omega)] at e; exact e⟩, ⟨P28.out.ty HT.out (by decide)⟩, ⟨Pool.blk_ty BK.out HT.out (by decide)⟩, ⟨ys HB.out (P64.out.lt hum rfl).1⟩, ⟨by intro z hz; rcases List.mem_or_eq_of_mem_set hz with hz | rfl; exact HXX.out z hz; rw [List.length_set]; omega⟩, ⟨HM.out.store _⟩, ⟨HQ.out.store hxm⟩, by rw [List.length_set]; exact hxl⟩
              · have HPq : Pool.Part vmarkB xss j xm.length := by rw [hxL, show L = q by omega]; exact HQ.out
                go_wp2
                go_roundw
                case measure => simp only [intOf]; omega
                case rel => exact ⟨j + 1, xss, by simp, by omega, P8, P64, P28, BK, HB, HXX, ⟨HM.out.next hxm HPq⟩, hxl⟩
          · obtain ⟨jy, rfl⟩ : ∃ z, z = j := ⟨_, rfl⟩
            have HMz : Pool.Marked vmarkB xss tk.length := by rw [show tk.length = jy by omega]; exact HM.out
            have HV0 := Aside0.mk (vpart_zero hxl HMz HXX.out)
            clear HMz
            obtain ⟨wy, rfl⟩ : ∃ wo, wo = wr := ⟨_, rfl⟩
            have HG := Aside0.mk (Pool.Ghost.start P8.out (i := 1) (xs := xa) rfl rfl)
            go_wp2
            clear hlt hj
            go_loopw [24, 142] (fun gv v wr => ∃ (q : Nat), v = .int .i64 q ∧ q ≤ 9 ∧ Aside0 (Pool.Ghost 42 wr w.heap.size [.slice Aw l0.length cw, .slice Aa ra.length ca, .slice Ab ra.length cb] 1 gv (xa.length + q)) ∧ Aside0 (Pool.Inner 42 (Value.int .i8) wr w.heap.size [.slice Aw l0.length cw, .slice Aa ra.length ca, .slice Ab ra.length cb] [l0, xa, ra]) ∧ Aside0 (Pool.Inner 2 (Value.int .i64) wr w.heap.size (us ++ (ks ++ rs)) (xss ++ (tk ++ tr))) ∧ Aside0 (Pool.Inner 28 (fun v : Value => v) wr w.heap.size [.slice Al tk.length cl, .slice Ak tk.length ck, .slice Ar tr.length cr] [us, ks, rs]) ∧ Aside0 (wr.heap[gb]? = some (.cells mc 25 (0, 0))) ∧ Aside0 (Below w.heap.size w wr)) (fun _ v _ => 9 - (intOf v).toNat)
            case atStart => exact ⟨0, rfl, Nat.zero_le _, HG, P8, P64, P28, BK, HB⟩
            case round =>
              clear P8 P64 P28 BK HB HG
              obtain ⟨q, rfl, hq, HG, P8, P64, P28, BK, HB⟩ := hrel
              by_cases hlq : q < 9
              · obtain ⟨Ag, cg, rfl⟩ := HG.out.form
                go_wp2_with (first | ((with_reducible refine gate_builtin (b := .append) (xs := #[.tmp 144, .tmp 145]) rfl ?_); at_builtin; refine Pool.wpList_append_ghostT (W0 := w) (eo := 22) (base' := 0) rfl (.tmp 144) (.tmp 145) 22 rfl (.int .i8 0) 1 Try.underlying22 info42 rfl (by omega) (fun _ => rfl) P8.out (.slice none 0 0) 0 [] ⟨rfl, .inl ⟨rfl, rfl⟩⟩ (by decide) 1 _ _ HG.out 77 rfl rfl HB.out HB.out.size (by omega) ?_; intro ve we hi _ hg hb hs ht; have P8e := Aside0.mk hi; have HGe := Aside0.mk hg; have HBe := Aside0.mk hb; have P64e := Aside0.mk (P64.out.ty ht (by decide)); have P28e := Aside0.mk (P28.out.ty ht (by decide)); have BKe := Aside0.mk (Pool.blk_ty BK.out ht (by decide)); clear hi hg hb hs ht))
                go_roundw
                case measure => simp only [intOf]; omega
                case rel => exact ⟨q + 1, by simp, by omega, ⟨by simpa only [Nat.add_assoc] using HGe.out⟩, P8e, P64e, P28e, BKe, HBe⟩
              · obtain ⟨wx, rfl⟩ : ∃ wo, wo = wr := ⟨_, rfl⟩
                go_wp2
                clear hlq hq
                go_loopw [150] (fun v wr => ∃ (j : Nat) (us : List Value) (xss : List (List Int)), v = .int .i64 j ∧ j ≤ tk.length ∧ Aside0 (Pool.Inner 42 (Value.int .i8) wr w.heap.size [.slice Aw l0.length cw, .slice Aa ra.length ca, .slice Ab ra.length cb] [l0, xa, ra]) ∧ Aside0 (Pool.Inner 2 (Value.int .i64) wr w.heap.size (us ++ (ks ++ rs)) (xss ++ (tk ++ tr))) ∧ Aside0 (Pool.Inner 28 (fun v : Value => v) wr w.heap.size [.slice Al tk.length cl, .slice Ak tk.length ck, .slice Ar tr.length cr] [us, ks, rs]) ∧ Aside0 (wr.heap[gb]? = some (.cells mc 25 (0, 0))) ∧ Aside0 (Below w.heap.size w wr) ∧ Aside0 (VPart j xss) ∧ xss.length = tk.length ∧ us.length = tk.length) (fun v _ => tk.length - (intOf v).toNat)
                case atStart => exact ⟨0, us, xss, rfl, Nat.zero_le _, P8, P64, P28, BK, HB, HV0, hxl, HLU.out⟩
                case round =>
                  clear P8 P64 P28 BK HB HV0 HXX HM HLU hxl
                  obtain ⟨j, us, xss, rfl, hj, P8, P64, P28, BK, HB, HV, hxl, hul⟩ := hrel
                  by_cases hlt : j < tk.length
                  · obtain ⟨wo, rfl⟩ : ∃ wo, wo = wr := ⟨_, rfl⟩
                    obtain ⟨uj, hu⟩ : ∃ u, us[j]? = some u := ⟨_, List.getElem?_eq_getElem (by omega)⟩
                    obtain ⟨y0, hy0⟩ : ∃ x, xss[j]? = some x := ⟨_, List.getElem?_eq_getElem (by omega)⟩
                    obtain ⟨Au, cu, rfl⟩ := P64.out.form (get_app hu) (get_app hy0)
                    have hL20 : y0.length ≤ 1048576 := ((HV.out j y0 hy0).2 (Nat.le_refl _)).1
                    obtain ⟨_, hAl⟩ := vform P28.out (i := 0) rfl rfl
                    obtain ⟨gl, rfl⟩ := hAl (by omega)
                    have hcell := (vcell28 P28.out (i := 0) rfl rfl hu).1
                    clear hAl
                    go_wp2
                    go_loopw [26, 155] (fun xv v wr => ∃ (q : Nat), v = .int .i64 q ∧ q ≤ 9 ∧ Aside0 (Pool.Inner 42 (Value.int .i8) wr w.heap.size [.slice Aw l0.length cw, .slice Aa ra.length ca, .slice Ab ra.length cb] [l0, xa, ra]) ∧ Aside0 (Pool.Inner 2 (Value.int .i64) wr w.heap.size (us.set j xv ++ (ks ++ rs)) (xss.set j (y0 ++ List.replicate q (2000 + (j : Int))) ++ (tk ++ tr))) ∧ Aside0 (Pool.Inner 28 (fun v : Value => v) wr w.heap.size [.slice (some ⟨gl, 0, none⟩) tk.length cl, .slice Ak tk.length ck, .slice Ar tr.length cr] [us, ks, rs]) ∧ Aside0 (wr.heap[gb]? = some (.cells mc 25 (0, 0))) ∧ Aside0 (Below w.heap.size w wr)) (fun _ v _ => 9 - (intOf v).toNat)
                    case atStart => exact ⟨0, rfl, Nat.zero_le _, P8, ⟨by rw [List.replicate_zero, List.append_nil, set_self hu, set_self hy0]; exact P64.out⟩, P28, BK, HB⟩
                    case round =>
                      clear P8 P64 P28 BK HB hcell
                      obtain ⟨q, rfl, hq, P8, P64, P28, BK, HB⟩ := hrel
                      have hvX := fun v : Value => get_app (b := ks ++ rs) (List.getElem?_set_self (show j < us.length by omega) (a := v))
                      have hxX := get_app (b := tk ++ tr) (List.getElem?_set_self (show j < xss.length by omega) (a := y0 ++ List.replicate q (2000 + (j : Int))))
                      obtain ⟨Ax, cx', e⟩ := P64.out.form (hvX _) hxX
                      rw [List.length_append, List.length_replicate] at e
                      subst e
                      have HvX := Aside0.mk (hvX (.slice Ax (y0.length + q) cx'))
                      have HxX := Aside0.mk hxX
                      clear hvX hxX
                      by_cases hlq : q < 9
                      · go_wp2_with (first | ((with_reducible refine gate_builtin (b := .append) (xs := #[.tmp 157, .tmp 160]) rfl ?_); at_builtin; refine Pool.wpList_append_row (W0 := w) rfl (.tmp 157) (.tmp 160) 28 rfl (.int .i64 0) 8 Try.underlying28 info2 rfl (by omega) (fun _ => rfl) P64.out j _ _ _ HvX.out HxX.out (by rw [List.length_append, List.length_replicate]) (2000 + (j : Int)) rfl rfl HB.out HB.out.size (by omega) ?_; intro ve we hi hb hs ht; have P64e := Aside0.mk hi; have HBe := Aside0.mk hb; have P8e := Aside0.mk (P8.out.ty ht (by decide)); have P28e := Aside0.mk (P28.out.ty ht (by decide)); have BKe := Aside0.mk (Pool.blk_ty BK.out ht (by decide)); clear hi hb hs ht))
                        go_roundw
                        case measure => simp only [intOf]; omega
                        case rel => exact ⟨q + 1, by simp, by omega, P8e, ⟨by have e := vsetInner P64e.out (by rw [List.length_set]; omega) (by rw [List.length_set]; omega); rw [List.set_set, List.set_set, List.append_assoc, ← List.replicate_succ'] at e; exact e⟩, P28e, BKe, HBe⟩
                      · have hq9 : q = 9 := by omega
                        have P64n : Aside0 (Pool.Inner 2 (Value.int .i64) wr w.heap.size (us.set j (.slice Ax (y0.length + q) cx') ++ (ks ++ rs)) (xss.set j (y0 ++ List.replicate 9 (2000 + (j : Int))) ++ (tk ++ tr))) := ⟨by rw [← hq9]; exact P64.out⟩
                        clear hq9
                        obtain ⟨hcj, hfj⟩ := vcell28 P28.out (i := 0) rfl rfl hu
                        have HT := Aside0.mk (Pool.ty_store (P28.out.own 0 _ us rfl rfl) j (.slice Ax (y0.length + q) cx'))
                        go_wp2
                        go_roundw
                        case measure => simp only [intOf]; omega
                        case rel => exact ⟨j + 1, us.set j (.slice Ax (y0.length + q) cx'), xss.set j (y0 ++ List.replicate 9 (2000 + (j : Int))), by simp, by omega, ⟨P8.out.ty HT.out (by decide)⟩, ⟨P64n.out.ty HT.out (by decide)⟩, ⟨P28.out.store (i := 0) rfl rfl j _⟩, ⟨Pool.blk_ty BK.out HT.out (by decide)⟩, ⟨ys HB.out (P28.out.lt (i := 0) rfl rfl).1⟩, ⟨vpart_next HV.out hy0⟩, by rw [List.length_set]; exact hxl, by rw [List.length_set]; exact hul⟩
                  · have HVn : Aside0 (VPart tk.length xss) := ⟨by rw [show tk.length = j by omega]; exact HV.out⟩
                    obtain ⟨jw, rfl⟩ : ∃ z, z = j := ⟨_, rfl⟩
                    obtain ⟨wv, rfl⟩ : ∃ wo, wo = wr := ⟨_, rfl⟩
                    clear HV
                    go_wp2
                    clear hlt hj
                    go_loopw [170] (fun v wr => ∃ (j : Nat), v = .int .i64 j ∧ j ≤ tk.length ∧ Aside0 (Pool.Inner 42 (Value.int .i8) wr w.heap.size [.slice Aw l0.length cw, .slice Aa ra.length ca, .slice Ab ra.length cb] [l0, xa, ra]) ∧ Aside0 (Pool.Inner 2 (Value.int .i64) wr w.heap.size (us ++ (ks ++ rs)) (xss ++ (tk ++ tr))) ∧ Aside0 (Pool.Inner 28 (fun v : Value => v) wr w.heap.size [.slice Al tk.length cl, .slice Ak tk.length ck, .slice Ar tr.length cr] [us, ks, rs]) ∧ Aside0 (wr.heap[gb]? = some (.cells mc 25 (0, 0))) ∧ Aside0 (Below w.heap.size w wr)) (fun v _ => tk.length - (intOf v).toNat)
                    case atStart => exact ⟨0, rfl, Nat.zero_le _, P8, P64, P28, BK, HB⟩
                    case round =>
                      clear P8 P64 P28 BK HB
                      obtain ⟨j, rfl, hj, P8, P64, P28, BK, HB⟩ := hrel
                      by_cases hlt : j < tk.length
                      · obtain ⟨wo, rfl⟩ : ∃ wo, wo = wr := ⟨_, rfl⟩
                        obtain ⟨uj, hu⟩ : ∃ u, us[j]? = some u := ⟨_, List.getElem?_eq_getElem (by omega)⟩
                        obtain ⟨xm, hxm⟩ : ∃ x, xss[j]? = some x := ⟨_, List.getElem?_eq_getElem (by omega)⟩
                        obtain ⟨m9, hlen, hm9, hcon⟩ := (HVn.out j xm hxm).1 hlt
                        obtain ⟨Au, cu, rfl⟩ := P64.out.form (get_app hu) (get_app hxm)
                        rw [hlen] at hu
                        have HCON := Aside0.mk hcon
                        clear hcon
                        obtain ⟨_, hAl⟩ := vform P28.out (i := 0) rfl rfl
                        obtain ⟨gl, rfl⟩ := hAl (by omega)
                        have hcell := (vcell28 P28.out (i := 0) rfl rfl hu).1
                        clear hAl
                        go_wp2
                        go_loopw [177] (fun v wr => ∃ (q : Nat), v = .int .i64 q ∧ q ≤ m9 + 9 ∧ Aside0 (Pool.Inner 42 (Value.int .i8) wr w.heap.size [.slice Aw l0.length cw, .slice Aa ra.length ca, .slice Ab ra.length cb] [l0, xa, ra]) ∧ Aside0 (Pool.Inner 2 (Value.int .i64) wr w.heap.size (us ++ (ks ++ rs)) (xss ++ (tk ++ tr))) ∧ Aside0 (Pool.Inner 28 (fun v : Value => v) wr w.heap.size [.slice (some ⟨gl, 0, none⟩) tk.length cl, .slice Ak tk.length ck, .slice Ar tr.length cr] [us, ks, rs]) ∧ Aside0 (wr.heap[gb]? = some (.cells mc 25 (0, 0))) ∧ Aside0 (Below w.heap.size w wr)) (fun v _ => m9 + 9 - (intOf v).toNat)
                        case atStart => exact ⟨0, rfl, Nat.zero_le _, P8, P64, P28, BK, HB⟩
                        case round =>
                          clear P8 P64 P28 BK HB hcell
                          obtain ⟨q, rfl, hq, P8, P64, P28, BK, HB⟩ := hrel
                          by_cases hlq : q < m9 + 9
                          · obtain ⟨_, hAu⟩ := vform P64.out (get_app hu) (get_app hxm)
                            obtain ⟨g, rfl⟩ := hAu (by omega)
                            have hg := List.getElem?_eq_getElem (show q < xm.length by omega)
                            have hval := HCON.out q _ hg
                            obtain ⟨hcj, hfj⟩ := vcell P64.out (get_app hu) (get_app hxm) hg
                            rw [hval] at hcj
                            clear hval hg hAu
                            by_cases hc9 : q < m9
                            · rw [if_pos hc9] at hcj
                              go_wp2
                              go_roundw
                              case measure => simp only [intOf]; omega
                              case rel => exact ⟨q + 1, by simp, by omega, P8, P64, P28, BK, HB⟩
                            · rw [if_neg hc9] at hcj
                              go_wp2
                              go_roundw
                              case measure => simp only [intOf]; omega
                              case rel => exact ⟨q + 1, by simp, by omega, P8, P64, P28, BK, HB⟩
                          · go_wp2
                            go_roundw
                            case measure => simp only [intOf]; omega
                            case rel => exact ⟨j + 1, by simp, by omega, P8, P64, P28, BK, HB⟩
                      · obtain ⟨jv, rfl⟩ : ∃ z, z = j := ⟨_, rfl⟩
                        obtain ⟨s0, s1, s2⟩ := vcells BK.out HMC.out
                        go_wp2_with (first | (go_at_call 44; refine (heraldref02_Round.calls k 300 sh ro eo _ G7.out).mono ?_; rintro e wA ⟨rfl, hd⟩; have hb := hd.below; have P8a := Aside0.mk (P8.out.below hb); have P64a := Aside0.mk (P64.out.below hb); have P28a := Aside0.mk (P28.out.below hb); have BKa := Aside0.mk (blk_below BK.out hb); have HBa := Aside0.mk (below_step HB.out hb); (try clear s0 s1 s2); obtain ⟨s0, s1, s2⟩ := vcells BKa.out HMC.out; clear hd hb) | (go_at_call 38; refine (vec_Shrink.calls k _ _ [300] sh rh eh _ (vlit wA) (by simp) G8.out).mono ?_; rintro e wB ⟨vB, rfl, ho, hb0⟩; obtain ⟨AB, cB, rfl⟩ := Kd.R_slice ho; have hb := below_step (below_alloc (Below.refl wA.heap.size wA) _) hb0; have HRB := Aside0.mk ho; have P8b := Aside0.mk (P8a.out.below hb); have P64b := Aside0.mk (P64a.out.below hb); have P28b := Aside0.mk (P28a.out.below hb); have BKb := Aside0.mk (blk_below BKa.out hb); have HBb := Aside0.mk (below_step HBa.out hb); (try clear s0 s1 s2); obtain ⟨s0, s1, s2⟩ := vcells BKb.out HMC.out; clear ho hb hb0))
                        by_cases heh : eh = 0
                        · subst heh
                          obtain rfl := HSH.out rfl
                          obtain ⟨_, hA⟩ := vform (Pool.Inner.one (Kd.own_of_R HRB.out)) (i := 0) rfl rfl
                          obtain ⟨gB, rfl⟩ := hA (by simp)
                          have hcB := (vcell (Pool.Inner.one (Kd.own_of_R HRB.out)) (i := 0) rfl rfl (j := 0) (x := rn) rfl).1
                          clear hA
                          go_quiet (first | (go_at_call 45; refine (heraldref02_Narrow.calls ro rn _ G9.out).mono ?_; rintro e w' ⟨rfl, ⟨nd, rfl⟩⟩; (first | exact ⟨rfl, _, World.drewN_drewN _ _ _⟩ | exact ⟨rfl, _, Eq.trans (World.drewN_drewN _ _ _) (congrArg (World.drewN _) (Nat.add_assoc _ _ _))⟩)))
                          generalize hwz : World.drewN wB _ = wZ
                          have hb : Below wB.heap.size wB wZ := by rw [← hwz]; exact pw_below_drewN (Below.refl _ _) _
                          have P8z := Aside0.mk (P8b.out.below hb); have P64z := Aside0.mk (P64b.out.below hb); have P28z := Aside0.mk (P28b.out.below hb); have BKz := Aside0.mk (blk_below BKb.out hb); have HBz := Aside0.mk (below_step HBb.out hb); (try clear s0 s1 s2); obtain ⟨s0, s1, s2⟩ := vcells BKz.out HMC.out
                          clear hwz hb
                          go_wp2_with (first | (go_at_call_of 21 (Value.slice Ab ra.length cb); refine (heraldlaw08_same_int8.calls k _ _ ra _ _ rw_ true _ (Kd.R_reads' (Kd.R_of_own (h1 := fun _ => rfl) (ok := fun _ => True) (P8z.out.own 2 _ ra rfl rfl) (fun _ _ => trivial))).2.2 (Kd.R_reads' (Kd.R_of_own (h1 := fun _ => rfl) (ok := fun _ => True) (P8z.out.own 2 _ ra rfl rfl) (fun _ _ => trivial))).2.1 (HX.out _ (Kd.C_below HR0.out HBz.out)) HCX.out G5.out).mono ?_; rintro e wD ⟨rfl, hd⟩; have hb := hd.below; have P8d := Aside0.mk (P8z.out.below hb); have P64d := Aside0.mk (P64z.out.below hb); have P28d := Aside0.mk (P28z.out.below hb); have BKd := Aside0.mk (blk_below BKz.out hb); have HBd := Aside0.mk (below_step HBz.out hb); (try clear s0 s1 s2); obtain ⟨s0, s1, s2⟩ := vcells BKd.out HMC.out; clear hd hb) | (go_at_call 20; have PK := vread (i := 1) (us := ks) (pre := us) (post := rs) (pre' := xss) (tk := tk) (post' := tr) P28d.out rfl rfl P64d.out (by omega) HLV.out; have PR := vread (i := 2) (us := rs) (pre := us ++ ks) (post := []) (pre' := xss ++ tk) (tk := tr) (post' := []) P28d.out rfl rfl (by simpa using P64d.out) (by have := HLV.out; simp; omega) HLR.out; refine (heraldlaw08_rows_int64.calls k _ _ tk _ _ tr true _ PK.1 PK.2 PR.1 PR.2 G6.out).mono ?_; rintro e wE ⟨rfl, hd⟩; have hb := hd.below; have P8e := Aside0.mk (P8d.out.below hb); have P64e := Aside0.mk (P64d.out.below hb); have P28e := Aside0.mk (P28d.out.below hb); have BKe := Aside0.mk (blk_below BKd.out hb); have HBe := Aside0.mk (below_step HBd.out hb); (try clear s0 s1 s2); obtain ⟨s0, s1, s2⟩ := vcells BKe.out HMC.out; clear hd hb PK PR) | (go_at_call_of 21 (Value.slice Aw l0.length cw); refine (heraldlaw08_same_int8.calls k _ _ l0 _ _ l0 true _ (Kd.R_reads' (Kd.R_of_own (h1 := fun _ => rfl) (ok := fun _ => True) (P8e.out.own 0 _ l0 rfl rfl) (fun _ _ => trivial))).2.2 (Kd.R_reads' (Kd.R_of_own (h1 := fun _ => rfl) (ok := fun _ => True) (P8e.out.own 0 _ l0 rfl rfl) (fun _ _ => trivial))).2.1 (Kd.C_below HR0.out HBe.out) HC0.out G10.out).mono ?_; rintro e wF ⟨rfl, hd⟩; have HBf := Aside0.mk (below_step HBe.out hd.below); clear hd))
                          go_ret
                          exact ⟨rfl, HBf.out⟩
                        · have hne : (eh == 0) = false := by simpa using heh
                          go_quiet (fail)
                          generalize hwz : World.drewN wB _ = wZ
                          have hb : Below wB.heap.size wB wZ := by rw [← hwz]; exact pw_below_drewN (Below.refl _ _) _
                          have P8z := Aside0.mk (P8b.out.below hb); have P64z := Aside0.mk (P64b.out.below hb); have P28z := Aside0.mk (P28b.out.below hb); have BKz := Aside0.mk (blk_below BKb.out hb); have HBz := Aside0.mk (below_step HBb.out hb); (try clear s0 s1 s2); obtain ⟨s0, s1, s2⟩ := vcells BKz.out HMC.out
                          clear hwz hb
                          go_wp2_with (first | (go_at_call_of 21 (Value.slice Ab ra.length cb); refine (heraldlaw08_same_int8.calls k _ _ ra _ _ rw_ true _ (Kd.R_reads' (Kd.R_of_own (h1 := fun _ => rfl) (ok := fun _ => True) (P8z.out.own 2 _ ra rfl rfl) (fun _ _ => trivial))).2.2 (Kd.R_reads' (Kd.R_of_own (h1 := fun _ => rfl) (ok := fun _ => True) (P8z.out.own 2 _ ra rfl rfl) (fun _ _ => trivial))).2.1 (HX.out _ (Kd.C_below HR0.out HBz.out)) HCX.out G5.out).mono ?_; rintro e wD ⟨rfl, hd⟩; have hb := hd.below; have P8d := Aside0.mk (P8z.out.below hb); have P64d := Aside0.mk (P64z.out.below hb); have P28d := Aside0.mk (P28z.out.below hb); have BKd := Aside0.mk (blk_below BKz.out hb); have HBd := Aside0.mk (below_step HBz.out hb); (try clear s0 s1 s2); obtain ⟨s0, s1, s2⟩ := vcells BKd.out HMC.out; clear hd hb) | (go_at_call 20; have PK := vread (i := 1) (us := ks) (pre := us) (post := rs) (pre' := xss) (tk := tk) (post' := tr) P28d.out rfl rfl P64d.out (by omega) HLV.out; have PR := vread (i := 2) (us := rs) (pre := us ++ ks) (post := []) (pre' := xss ++ tk) (tk := tr) (post' := []) P28d.out rfl rfl (by simpa using P64d.out) (by have := HLV.out; simp; omega) HLR.out; refine (heraldlaw08_rows_int64.calls k _ _ tk _ _ tr true _ PK.1 PK.2 PR.1 PR.2 G6.out).mono ?_; rintro e wE ⟨rfl, hd⟩; have hb := hd.below; have P8e := Aside0.mk (P8d.out.below hb); have P64e := Aside0.mk (P64d.out.below hb); have P28e := Aside0.mk (P28d.out.below hb); have BKe := Aside0.mk (blk_below BKd.out hb); have HBe := Aside0.mk (below_step HBd.out hb); (try clear s0 s1 s2); obtain ⟨s0, s1, s2⟩ := vcells BKe.out HMC.out; clear hd hb PK PR) | (go_at_call_of 21 (Value.slice Aw l0.length cw); refine (heraldlaw08_same_int8.calls k _ _ l0 _ _ l0 true _ (Kd.R_reads' (Kd.R_of_own (h1 := fun _ => rfl) (ok := fun _ => True) (P8e.out.own 0 _ l0 rfl rfl) (fun _ _ => trivial))).2.2 (Kd.R_reads' (Kd.R_of_own (h1 := fun _ => rfl) (ok := fun _ => True) (P8e.out.own 0 _ l0 rfl rfl) (fun _ _ => trivial))).2.1 (Kd.C_below HR0.out HBe.out) HC0.out G10.out).mono ?_; rintro e wF ⟨rfl, hd⟩; have HBf := Aside0.mk (below_step HBe.out hd.below); clear hd))
                          go_ret
                          exact ⟨rfl, HBf.out⟩
  · cases h10

end Go.Proofs.Ytigfodkakefhcaa.P
