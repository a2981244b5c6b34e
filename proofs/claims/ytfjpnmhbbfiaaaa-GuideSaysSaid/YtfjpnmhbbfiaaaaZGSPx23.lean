-- Printed by xprint.py (wip): functions, contracts, rows. Lean checks it.
import Derived.Test.YtfjpnmhbbfiaaaaZGSMlst
import Derived.Test.YtfjpnmhbbfiaaaaZGSMbo
import Derived.Test.YtfjpnmhbbfiaaaaZGSPx0
import Derived.Test.YtfjpnmhbbfiaaaaZGSPx4
import Derived.Test.YtfjpnmhbbfiaaaaZGSPx18
namespace Go.Proofs.Ytfjpnmhbbfiaaaa.P
open Go Go.RowKit Go.Proofs.YtfjpnmhbbfiaaaaW.PrintWords Go.Proofs.YtfjpnmhbbfiaaaaW.PrintLast Go.Proofs.YtfjpnmhbbfiaaaaW.PrintMore Go.Proofs.Ytfjpnmhbbfiaaaa
attribute [local go_sem] max2_int min2_int max_two min_two max_three min_three max_four min_four   -- for this text's walks alone
set_option linter.unusedVariables false
set_option linter.unusedSimpArgs false

/-! ### guide_And: function 33 -/
def of_.T8 : Bool × List (List Nat × List Nat) := (true, [([], []), ([0], [0]), ([], []), ([2, 1], [2]), ([], []), ([1, 3, 4, 3], [1, 3, 4]), ([5, 5], [5]), ([6], [6]), ([6], [6]), ([7, 6, 0, 1, 2, 3, 4, 5, 6, 7, 8], [7]), ([8, 9, 0, 1, 2, 3, 4, 5, 6, 7, 8, 9], [8])])
def of_.B8 : List Nat := [0, 1, 0, 7, 0, 31, 63, 127, 127, 511, 1023]
theorem of_.tab8 : rtab .any (opsOf Try.f58 8) = of_.T8 := by kernel_rfl
theorem of_.bits8 : waitsOk of_.T8.2 of_.B8 = true := by kernel_rfl
section
variable {P : Program} {ops : Array Oper} {o : Oper} {a : Act} {Q : Exit → Act → World → Prop} {Kc : Act → World → Prop}
theorem storeRow_step {W : World} (hw : Region.wanted o (yielded ops a.tmps) = true) (ty : TypeId) (x y : Operand) (ho : o.op = .store ty x y)
    (g : Nat) (cells : Array Value) (hx : a.eval x = .pointer (some ⟨g, 0, none⟩)) (hy : a.eval y = .agg cells)
    (t : TypeId) (old : Array Value) (hg : W.heap[g]? = some (.cells old t (0, 0))) (hi : (P.info? ty).map (·.size) = some cells.size)
    (hold : old.size = cells.size) (h1 : cells.all (·.oneCell') = true) (h : Kc (a.put o.dst undef) (W.setRow g cells)) : if Region.wanted o (yielded ops a.tmps) = true then Oper.wp P o a W Kc Q else Kc (a.put o.dst undef) W := by
  rw [if_pos hw]
  exact wp_store_row ty x y ho g cells hx hy t old hg hi hold h1 h
end
noncomputable def ofG (k : Nat) (is : Bool → Bool → Bool) (l0_0 : List Bool) (l0_1 : List (S92)) (l1_0 : List Bool) (l1_1 : List (S92)) : Option (List Bool × (List (S92)) × Int) := (guide_Check.f k l0_0 l0_1).bind fun c => if c.2 = 0 then (guide_Check.f k l1_0 l1_1).bind fun d => if d.2 = 0 then (mofG l0_0 l0_1).bind fun m => (mofG l1_0 l1_1).bind fun n => (Mach.bothG k m.1 m.2 n.1 n.2 is).bind fun b => Mach.leastG k b.1 b.2 else some ([], [], d.2) else some ([], [], c.2)
theorem ofG_mono (k : Nat) (is : Bool → Bool → Bool) (l0_0 : List Bool) (l0_1 : List (S92)) (l1_0 : List Bool) (l1_1 : List (S92)) : LeO (ofG k is l0_0 l0_1 l1_0 l1_1) (ofG (k + 1) is l0_0 l0_1 l1_0 l1_1) := by
  unfold ofG
  refine LeO.bind (guide_Check.mono _ _ k) (fun c => LeO.ite (LeO.bind (guide_Check.mono _ _ k) (fun d => LeO.ite (LeO.bind (LeO.refl _) (fun m => LeO.bind (LeO.refl _) (fun n => LeO.bind (fun r h => Mach.bothG_mono h) (fun b r h => Mach.leastG_mono h)))) (LeO.refl _))) (LeO.refl _))
set_option maxHeartbeats 8000000 in
set_option maxRecDepth 100000 in
theorem of_good (k : Nat) (fi : FuncId) {fn : Func} (hfi : Try.prog.funcs[fi]? = some fn) (hnm : (fn.name == "runtime.NumGoroutine") = false) (hbd : fn.body.isSome = true) (is : Bool → Bool → Bool) (hIs : ∀ (x y : Bool) (W : World), Calls Try.prog fi #[.bool x, .bool y] W fun e w' => e = .returned (.bool (is x y)) ∧ w' = W)
    (A0_0 : Option Addr) (c0_0 : Nat) (l0_0 : List Bool) (A0_1 : Option Addr) (c0_1 : Nat) (l0_1 : List (S92)) (A1_0 : Option Addr) (c1_0 : Nat) (l1_0 : List Bool) (A1_1 : Option Addr) (c1_1 : Nat) (l1_1 : List (S92)) (r1 : List Bool) (r2 : List (S92)) (r3 : Int) (w : World)
    (hr0_0 : Kd.C Kd.bool w A0_0 l0_0.length l0_0) (hc0_0 : l0_0.length ≤ c0_0) (hr0_1 : Kd.C k92 w A0_1 l0_1.length l0_1) (hc0_1 : l0_1.length ≤ c0_1) (hr1_0 : Kd.C Kd.bool w A1_0 l1_0.length l1_0) (hc1_0 : l1_0.length ≤ c1_0) (hr1_1 : Kd.C k92 w A1_1 l1_1.length l1_1) (hc1_1 : l1_1.length ≤ c1_1) (d1 f1 : Int) (b : List (List Int) × List Bool) (hd : guide_Check.f k l0_0 l0_1 = some (d1, 0)) (hd2 : guide_Check.f k l1_0 l1_1 = some (f1, 0)) (hok1 : l0_0.length ≤ 64 ∧ l0_1.length ≤ 1024 ∧ ∀ e ∈ l0_1, Mach.EdOk l0_0.length e) (hok2 : l1_0.length ≤ 64 ∧ l1_1.length ≤ 1024 ∧ ∀ e ∈ l1_1, Mach.EdOk l1_0.length e) (hb : Mach.bothG k (Mach.mrows l0_0 l0_1).1 (Mach.mrows l0_0 l0_1).2 (Mach.mrows l1_0 l1_1).1 (Mach.mrows l1_0 l1_1).2 is = some b) (hL : Mach.leastG k b.1 b.2 = some (r1, r2, r3)) :
    Calls Try.prog 58 #[.agg #[.slice A0_0 l0_0.length c0_0, .slice A0_1 l0_1.length c0_1], .agg #[.slice A1_0 l1_0.length c1_0, .slice A1_1 l1_1.length c1_1], .func (.func fi) #[] #[]] w fun e w' => ∃ v0_ v1_ : Value, e = .returned (.tuple #[.agg #[v0_, v1_], .int .i64 r3]) ∧ Kd.R Kd.bool 4 w' w.heap.size (fun _ => True) v0_ r1 ∧ Kd.R k92 92 w' w.heap.size (fun _ => True) v1_ r2 ∧ Below w.heap.size w w' := by
  have hu25 := Try.underlying25
  have HR0 := ym hr0_0
  have HC0 := ym hc0_0
  have HR1 := ym hr0_1
  have HC1 := ym hc0_1
  have HR2 := ym hr1_0
  have HC2 := ym hc1_0
  have HR3 := ym hr1_1
  have HC3 := ym hc1_1
  have HFI := ym hfi
  have HNM := ym hnm
  have HBD := ym hbd
  have HIS := ym hIs
  have HB := ym (Below.refl w.heap.size w)
  have HD := ym hd
  have HD2 := ym hd2
  have HOK1 := ym hok1
  have HOK2 := ym hok2
  have HBB := ym hb
  have HL := ym hL
  clear hr0_0 hc0_0 hr0_1 hc0_1 hr1_0 hc1_0 hr1_1 hc1_1 hd hd2 hok1 hok2 hb hL hfi hnm hbd hIs
  go_enter Try.func58, Try.ntmps58
  go_wp2_with (first | ((with_reducible refine gate_dst (N := 3) rfl ?_); go_loud (refine zb (N := 3) (cs := #[.slice A0_0 l0_0.length c0_0, .slice A0_1 l0_1.length c0_1]) (t := 25) ?_); go_loud (intro g1 hg1 w1 hbox hb1; have BG1 := ym hbox; replace HB := yN hb1; clear hg1 hbox hb1)) | ((with_reducible refine gate_dst (N := 4) rfl ?_); go_loud (refine zb (N := 4) (cs := #[.slice A1_0 l1_0.length c1_0, .slice A1_1 l1_1.length c1_1]) (t := 25) ?_); go_loud (intro g2 hg2 w2 hbox hb2; have BG2 := ym hbox; replace BG1 := yQ BG1 hb2; replace HB := yN hb2; clear hg2 hbox hb2)) | ((with_reducible refine gate_dst (N := 6) rfl ?_); go_loud (refine zb (N := 6) (cs := #[.slice none 0 0, .slice none 0 0]) (t := 25) ?_); go_loud (intro g6 hg6 w6 hbox hb6; have BG6 := ym hbox; have GE6 := yE hg6; replace BG1 := yQ BG1 hb6; replace BG2 := yQ BG2 hb6; replace HB := yN hb6; clear hg6 hbox hb6; have c10 := yW BG1 0; have c11 := yW BG1 1; have c20 := yW BG2 0; have c21 := yW BG2 1)) | ((with_reducible refine gate_dst (N := 14) rfl ?_); go_loud (refine zl (N := 14) (cs := #[.slice A0_0 l0_0.length c0_0, .slice A0_1 l0_1.length c0_1, .slice A1_0 l1_0.length c1_0, .slice A1_1 l1_1.length c1_1]) (t := 25) (n := 2) ?_); go_loud (intro g7 hg7 w7 hbox hb7; have BG7 := ym hbox; replace BG1 := yQ BG1 hb7; replace BG2 := yQ BG2 hb7; replace BG6 := yQ BG6 hb7; replace HB := yN hb7; clear hg7 hbox hb7 c10 c11 c20 c21)))
  have s7_0 := yW BG7 0
  have s7_1 := yW BG7 1
  have s7_2 := yW BG7 2
  have s7_3 := yW BG7 3
  refine wp_loop_rounds 3 ?_
  rw [rounds_succ]
  go_wp2_with (first | ((with_reducible refine gate_dst (N := 9) rfl ?_); go_loud (refine zb (N := 9) (cs := #[.slice none 0 0, .slice none 0 0]) (t := 25) ?_); go_loud (intro g9p hg9 wpa hbox hb9; have BG9p := ym hbox; have GE9p := yE hg9; have NEpBG1 := yF hg9 BG1; have NEpBG2 := yF hg9 BG2; have NEpBG6 := yF hg9 BG6; have NEpBG7 := yF hg9 BG7; replace BG1 := yQ BG1 hb9; replace BG2 := yQ BG2 hb9; replace BG6 := yQ BG6 hb9; replace BG7 := yQ BG7 hb9; replace HB := yN hb9; clear hg9 hbox hb9 s7_0 s7_1 s7_2 s7_3)) | ((with_reducible refine gate_store (t := 25) (p := 9) rfl ?_); go_loud (refine Arr.wpList_store_row rfl 25 _ _ rfl g9p #[.slice A0_0 l0_0.length c0_0, .slice A0_1 l0_1.length c0_1] rfl rfl 25 _ BG9p.out (by kernel_rfl) rfl (by simp [Value.oneCell']) ?_); go_loud (obtain ⟨wpb, hw8⟩ : ∃ w8, w8 = wpa.setRow g9p #[.slice A0_0 l0_0.length c0_0, .slice A0_1 l0_1.length c0_1] := ⟨_, rfl⟩; rw [← hw8]; have hg8 : wpa.grownBy wpb (some g9p) := (by rw [hw8]; exact grown_setRow _ _ _); have hb8 : wpb.heap[g9p]? = some (.cells #[.slice A0_0 l0_0.length c0_0, .slice A0_1 l0_1.length c0_1] 25 (0, 0)) := (by rw [hw8]; exact setRow_heap _ _ _ _ _ _ BG9p.out); replace BG1 := ym (blk_grown BG1.out hg8 (by intro e_; injection e_ with e_; exact NEpBG1.out e_)); replace BG2 := ym (blk_grown BG2.out hg8 (by intro e_; injection e_ with e_; exact NEpBG2.out e_)); replace BG6 := ym (blk_grown BG6.out hg8 (by intro e_; injection e_ with e_; exact NEpBG6.out e_)); replace BG7 := ym (blk_grown BG7.out hg8 (by intro e_; injection e_ with e_; exact NEpBG7.out e_)); replace HB := ym (pw_below_grown HB.out (some g9p) (below_size HB.out) hg8 (fun k hk => by cases hk; exact GE9p.out)); replace BG9p := ym hb8; clear hw8 hg8 hb8; have kp0 := yW BG9p 0; have kp1 := yW BG9p 1)) | (go_at_call 19; go_loud (refine (guide_Check.calls k _ _ l0_0 _ _ l0_1 d1 0 _ (Kd.C_below HR0.out HB.out) HC0.out (Kd.C_below HR1.out HB.out) HC1.out HD.out).mono ?_); rintro e wpc ⟨rfl, hb3⟩; replace BG1 := yQ BG1 hb3; replace BG2 := yQ BG2 hb3; replace BG6 := yQ BG6 hb3; replace BG7 := yQ BG7 hb3; replace HB := yN hb3; clear hb3 kp0 kp1))
  have s7_0 := yW BG7 0
  have s7_1 := yW BG7 1
  have s7_2 := yW BG7 2
  have s7_3 := yW BG7 3
  rw [rounds_succ]
  go_wp2_with (first | ((with_reducible refine gate_dst (N := 9) rfl ?_); go_loud (refine zb (N := 9) (cs := #[.slice none 0 0, .slice none 0 0]) (t := 25) ?_); go_loud (intro g9q hg9 wqa hbox hb9; have BG9q := ym hbox; have GE9q := yE hg9; have NEqBG1 := yF hg9 BG1; have NEqBG2 := yF hg9 BG2; have NEqBG6 := yF hg9 BG6; have NEqBG7 := yF hg9 BG7; replace BG1 := yQ BG1 hb9; replace BG2 := yQ BG2 hb9; replace BG6 := yQ BG6 hb9; replace BG7 := yQ BG7 hb9; replace HB := yN hb9; clear hg9 hbox hb9 s7_0 s7_1 s7_2 s7_3)) | ((with_reducible refine gate_store (t := 25) (p := 9) rfl ?_); go_loud (refine Arr.wpList_store_row rfl 25 _ _ rfl g9q #[.slice A1_0 l1_0.length c1_0, .slice A1_1 l1_1.length c1_1] rfl rfl 25 _ BG9q.out (by kernel_rfl) rfl (by simp [Value.oneCell']) ?_); go_loud (obtain ⟨wqb, hw8⟩ : ∃ w8, w8 = wqa.setRow g9q #[.slice A1_0 l1_0.length c1_0, .slice A1_1 l1_1.length c1_1] := ⟨_, rfl⟩; rw [← hw8]; have hg8 : wqa.grownBy wqb (some g9q) := (by rw [hw8]; exact grown_setRow _ _ _); have hb8 : wqb.heap[g9q]? = some (.cells #[.slice A1_0 l1_0.length c1_0, .slice A1_1 l1_1.length c1_1] 25 (0, 0)) := (by rw [hw8]; exact setRow_heap _ _ _ _ _ _ BG9q.out); replace BG1 := ym (blk_grown BG1.out hg8 (by intro e_; injection e_ with e_; exact NEqBG1.out e_)); replace BG2 := ym (blk_grown BG2.out hg8 (by intro e_; injection e_ with e_; exact NEqBG2.out e_)); replace BG6 := ym (blk_grown BG6.out hg8 (by intro e_; injection e_ with e_; exact NEqBG6.out e_)); replace BG7 := ym (blk_grown BG7.out hg8 (by intro e_; injection e_ with e_; exact NEqBG7.out e_)); replace HB := ym (pw_below_grown HB.out (some g9q) (below_size HB.out) hg8 (fun k hk => by cases hk; exact GE9q.out)); replace BG9q := ym hb8; clear hw8 hg8 hb8; have kq0 := yW BG9q 0; have kq1 := yW BG9q 1)) | (go_at_call 19; go_loud (refine (guide_Check.calls k _ _ l1_0 _ _ l1_1 f1 0 _ (Kd.C_below HR2.out HB.out) HC2.out (Kd.C_below HR3.out HB.out) HC3.out HD2.out).mono ?_); rintro e wqc ⟨rfl, hb3⟩; replace BG1 := yQ BG1 hb3; replace BG2 := yQ BG2 hb3; replace BG6 := yQ BG6 hb3; replace BG7 := yQ BG7 hb3; replace HB := yN hb3; clear hb3 kq0 kq1))
  rw [rounds_succ]
  go_wp2
  refine start_ (n := 11) (S := fun w' => w'.heap[g1]? = some (.cells #[.slice A0_0 l0_0.length c0_0, .slice A0_1 l0_1.length c0_1] 25 (0, 0)) ∧ w'.heap[g2]? = some (.cells #[.slice A1_0 l1_0.length c1_0, .slice A1_1 l1_1.length c1_1] 25 (0, 0))) (ds := [9]) #[false, false, false, false, false, false, false, false, false, false, false] (by kernel_rfl) rfl rfl ⟨BG1.out, BG2.out⟩ (fun hHeld => ?_)
  refine with_tabW of_.tab8 of_.bits8 (fun HT_ HW_ => ?_)
  replace BG1 := ym (yt BG1.out)
  replace BG2 := ym (yt BG2.out)
  replace BG6 := ym (yt BG6.out)
  replace HB := ym (ye HB.out)
  clear BG7 BG9p BG9q
  generalize wqc.drew = wd at BG1 BG2 BG6 HB hHeld ⊢
  refine zt (i := 4) (N := some 34) HT_ ?_
  refine zw (i := 0) (N := some 30) HT_ HW_ hHeld ?_ (hv := (by rintro w' ⟨s0, s1⟩; exact exec_load_row 25 _ rfl g1 rfl 25 _ (0, 0) _ s0 Try.underlying25 rfl (by kernel_rfl)))
  refine zw (i := 2) (N := some 32) HT_ HW_ hHeld ?_ (hv := (by rintro w' ⟨s0, s1⟩; exact exec_load_row 25 _ rfl g2 rfl 25 _ (0, 0) _ s1 Try.underlying25 rfl (by kernel_rfl)))
  refine one_ (i := 1) (N := some 31) #[i_, i_, i_, o_, i_, o_, o_, o_, o_, o_, o_] rfl rfl (one_of HT_.out (by kernel_rfl)) (by decide) (fun K hK => ?_)
  refine goes_ (f := 56) Try.func56 (by kernel_rfl) rfl #[.agg #[.slice A0_0 l0_0.length c0_0, .slice A0_1 l0_1.length c0_1]] (by rfl) rfl rfl (by simp only [List.map_toArray, List.map_cons, List.map_nil]; rfl) ?_
  refine (machineOf_calls _ _ _ l0_0 _ _ l0_1 (Kd.C_below HR0.out HB.out) HC0.out (Kd.C_below HR1.out HB.out) HC1.out HOK1.out.1 HOK1.out.2.1 HOK1.out.2.2).mono ?_
  rintro e w1a ⟨ga, rfl, hM1, hb1a⟩
  refine ⟨_, rfl, ?_⟩
  have HM1 := ym hM1
  replace BG1 := yQ BG1 hb1a
  replace BG2 := yQ BG2 hb1a
  replace BG6 := yQ BG6 hb1a
  replace HB := yN hb1a
  refine hK.out _ _ ⟨BG1.out, BG2.out⟩ (fun hHeld => ?_)
  clear hK K hM1 hb1a
  refine norm_ (a' := ?_) ?_ ?_
  rotate_left
  · show Act.put _ (some 31) _ = _
    simp only [Act.put, y0, y1]
    rfl
  refine one_ (i := 3) (N := some 33) #[i_, i_, i_, i_, i_, o_, o_, o_, o_, o_, o_] rfl rfl (one_of HT_.out (by kernel_rfl)) (by decide) (fun K hK => ?_)
  refine goes_ (f := 56) Try.func56 (by kernel_rfl) rfl #[.agg #[.slice A1_0 l1_0.length c1_0, .slice A1_1 l1_1.length c1_1]] (by rfl) rfl rfl (by simp only [List.map_toArray, List.map_cons, List.map_nil]; rfl) ?_
  refine (machineOf_calls _ _ _ l1_0 _ _ l1_1 (Kd.C_below HR2.out HB.out) HC2.out (Kd.C_below HR3.out HB.out) HC3.out HOK2.out.1 HOK2.out.2.1 HOK2.out.2.2).mono ?_
  rintro e w1b ⟨gb, rfl, hM2, hb1b⟩
  refine ⟨_, rfl, ?_⟩
  have HM2 := ym hM2
  replace HM1 := ym (HM1.out.below hb1b)
  replace BG1 := yQ BG1 hb1b
  replace BG2 := yQ BG2 hb1b
  replace BG6 := yQ BG6 hb1b
  replace HB := yN hb1b
  refine hK.out _ _ ⟨BG1.out, BG2.out⟩ (fun hHeld => ?_)
  clear hK K hM2 hb1b
  refine norm_ (a' := ?_) ?_ ?_
  rotate_left
  · show Act.put _ (some 33) _ = _
    simp only [Act.put, y0, y1]
    rfl
  refine one_ (i := 5) (N := some 35) #[i_, i_, i_, i_, i_, i_, o_, o_, o_, o_, o_] rfl rfl (one_of HT_.out (by kernel_rfl)) (by decide) (fun K hK => ?_)
  refine goes_ (f := 77) Try.func77 (by kernel_rfl) rfl #[.pointer (some ⟨ga, 0, none⟩), .pointer (some ⟨gb, 0, none⟩), .func (.func fi) #[] #[]] (by rfl) rfl rfl (by simp only [List.map_toArray, List.map_cons, List.map_nil]; rfl) ?_
  refine (both_calls k _ HM1.out HM2.out fi HFI.out HNM.out HBD.out is HIS.out b HBB.out).mono ?_
  rintro e w1c ⟨gc, rfl, hM3, hb1c⟩
  refine ⟨_, rfl, ?_⟩
  have HM3 := ym hM3
  replace BG1 := yQ BG1 hb1c
  replace BG2 := yQ BG2 hb1c
  replace BG6 := yQ BG6 hb1c
  replace HB := yN hb1c
  refine hK.out _ _ ⟨BG1.out, BG2.out⟩ (fun hHeld => ?_)
  clear hK K hM3 hb1c HM1 HM2
  refine norm_ (a' := ?_) ?_ ?_
  rotate_left
  · show Act.put _ (some 35) _ = _
    simp only [Act.put, y0, y1]
    rfl
  refine one_ (i := 6) (N := some 36) #[i_, i_, i_, i_, i_, i_, i_, o_, o_, o_, o_] rfl rfl (one_of HT_.out (by kernel_rfl)) (by decide) (fun K hK => ?_)
  refine goes_ (f := 57) Try.func57 (by kernel_rfl) rfl #[.pointer (some ⟨gc, 0, none⟩)] (by rfl) rfl rfl (by simp only [List.map_toArray, List.map_cons, List.map_nil]; rfl) ?_
  refine (least_calls k _ HM3.out (r1, r2, r3) HL.out).mono ?_
  rintro e w1d ⟨v0, v1, rfl, h0, h1, hb1d⟩
  refine ⟨_, rfl, ?_⟩
  have H0 := ym h0
  have H1 := ym h1
  replace BG1 := yQ BG1 hb1d
  replace BG2 := yQ BG2 hb1d
  replace BG6 := yQ BG6 hb1d
  have HBo := HB
  replace HB := yN hb1d
  refine hK.out _ _ ⟨BG1.out, BG2.out⟩ (fun hHeld => ?_)
  clear hK K h0 h1 hb1d HM3
  refine norm_ (a' := ?_) ?_ ?_
  rotate_left
  · show Act.put _ (some 36) _ = _
    simp only [Act.put, y0, y1]
    rfl
  refine zt (i := 7) (N := some 37) HT_ ?_
  refine zt (i := 8) (N := some 38) HT_ ?_
  refine last_ (i := 9) (N := none) #[i_, i_, i_, i_, i_, i_, i_, i_, i_, i_, o_] rfl rfl (one_of HT_.out (by kernel_rfl)) (by decide) (fun K hK => ?_)
  refine storeRow_step (by rfl) 25 _ _ rfl g6 #[v0, v1] rfl rfl 25 _ BG6.out (by kernel_rfl) rfl (one2 H0.out H1.out) ?_
  have hg8 := grown_setRow w1d g6 #[v0, v1]
  have hb8 : (w1d.setRow g6 #[v0, v1]).heap[g6]? = some (.cells #[v0, v1] 25 (0, 0)) := setRow_heap _ _ _ _ _ _ BG6.out
  generalize w1d.setRow g6 #[v0, v1] = w8 at hg8 hb8 ⊢
  have BG8 := ym hb8
  have hT := rowt_blk BG6.out
  replace H0 := ym (R_row H0.out hg8 hT (by decide))
  replace H1 := ym (R_row H1.out hg8 hT (by decide))
  have HB8 := ym (pw_below_grown HB.out (some g6) (below_size HB.out) hg8 (fun k hk => by cases hk; exact GE6.out))
  refine hK.out _ _ ?_
  clear hK K hg8 hb8 hT BG6 BG1 BG2
  refine norm_ (a' := ?_) ?_ ?_
  rotate_left
  · show Act.put _ none _ = _
    rfl
  refine zt (i := 10) (N := some 7) HT_ ?_
  refine done_ (done_of HT_.out (by kernel_rfl)) ?_
  clear HT_ HW_ hHeld
  go_wp2
  refine bodyPost_ret (results_ct rfl _ _ g6 25 #[v0, v1] (0, 0) _ rfl BG8.out Try.underlying25 rfl (by kernel_rfl)) rfl ?_
  exact ⟨v0, v1, rfl, Kd.R_lower H0.out (below_size HBo.out), Kd.R_lower H1.out (below_size HBo.out), HB8.out⟩
set_option maxHeartbeats 8000000 in
set_option maxRecDepth 100000 in
theorem of_calls (k : Nat) (fi : FuncId) {fn : Func} (hfi : Try.prog.funcs[fi]? = some fn) (hnm : (fn.name == "runtime.NumGoroutine") = false) (hbd : fn.body.isSome = true) (is : Bool → Bool → Bool) (hIs : ∀ (x y : Bool) (W : World), Calls Try.prog fi #[.bool x, .bool y] W fun e w' => e = .returned (.bool (is x y)) ∧ w' = W)
    (A0_0 : Option Addr) (c0_0 : Nat) (l0_0 : List Bool) (A0_1 : Option Addr) (c0_1 : Nat) (l0_1 : List (S92)) (A1_0 : Option Addr) (c1_0 : Nat) (l1_0 : List Bool) (A1_1 : Option Addr) (c1_1 : Nat) (l1_1 : List (S92)) (r1 : List Bool) (r2 : List (S92)) (r3 : Int) (w : World)
    (hr0_0 : Kd.C Kd.bool w A0_0 l0_0.length l0_0) (hc0_0 : l0_0.length ≤ c0_0) (hr0_1 : Kd.C k92 w A0_1 l0_1.length l0_1) (hc0_1 : l0_1.length ≤ c0_1) (hr1_0 : Kd.C Kd.bool w A1_0 l1_0.length l1_0) (hc1_0 : l1_0.length ≤ c1_0) (hr1_1 : Kd.C k92 w A1_1 l1_1.length l1_1) (hc1_1 : l1_1.length ≤ c1_1) (h : ofG k is l0_0 l0_1 l1_0 l1_1 = some (r1, r2, r3)) :
    Calls Try.prog 58 #[.agg #[.slice A0_0 l0_0.length c0_0, .slice A0_1 l0_1.length c0_1], .agg #[.slice A1_0 l1_0.length c1_0, .slice A1_1 l1_1.length c1_1], .func (.func fi) #[] #[]] w fun e w' => ∃ v0_ v1_ : Value, e = .returned (.tuple #[.agg #[v0_, v1_], .int .i64 r3]) ∧ Kd.R Kd.bool 4 w' w.heap.size (fun _ => True) v0_ r1 ∧ Kd.R k92 92 w' w.heap.size (fun _ => True) v1_ r2 ∧ Below w.heap.size w w' := by
  have hu25 := Try.underlying25
  have HR0 := ym hr0_0
  have HC0 := ym hc0_0
  have HR1 := ym hr0_1
  have HC1 := ym hc0_1
  have HR2 := ym hr1_0
  have HC2 := ym hc1_0
  have HR3 := ym hr1_1
  have HC3 := ym hc1_1
  have HFI := ym hfi
  have HNM := ym hnm
  have HBD := ym hbd
  have HIS := ym hIs
  have HB := ym (Below.refl w.heap.size w)
  unfold ofG at h
  obtain ⟨⟨d1, d2⟩, hd, hF⟩ := Option.bind_eq_some_iff.1 h
  have HD := ym hd
  clear h hr0_0 hc0_0 hr0_1 hc0_1 hr1_0 hc1_0 hr1_1 hc1_1 hd hfi hnm hbd hIs
  by_cases e0 : d2 = 0
  · rw [if_pos e0] at hF
    subst e0
    obtain ⟨⟨f1, f2⟩, hd2, hG⟩ := Option.bind_eq_some_iff.1 hF
    have HD2 := ym hd2
    clear hF hd2
    by_cases e1 : f2 = 0
    · rw [if_pos e1] at hG
      subst e1
      obtain ⟨m, hm, hG1⟩ := Option.bind_eq_some_iff.1 hG
      obtain ⟨n, hn, hG2⟩ := Option.bind_eq_some_iff.1 hG1
      obtain ⟨b, hb, hL⟩ := Option.bind_eq_some_iff.1 hG2
      unfold mofG at hm hn
      split at hm
      · rename_i hok1
        split at hn
        · rename_i hok2
          have em := Option.some.inj hm
          subst em
          have en := Option.some.inj hn
          subst en
          have HOK1 := ym hok1
          have HOK2 := ym hok2
          have HBB := ym hb
          have HL := ym hL
          clear hG hG1 hG2 hm hn hb hL hok1 hok2
          exact of_good k fi HFI.out HNM.out HBD.out is HIS.out A0_0 c0_0 l0_0 A0_1 c0_1 l0_1 A1_0 c1_0 l1_0 A1_1 c1_1 l1_1 r1 r2 r3 w HR0.out HC0.out HR1.out HC1.out HR2.out HC2.out HR3.out HC3.out d1 f1 b HD.out HD2.out HOK1.out HOK2.out HBB.out HL.out
        · cases hn
      · cases hm
    · rw [if_neg e1] at hG
      have e2 := Option.some.inj hG
      cases e2
      have b1 : (f2 != 0) = true := bne_iff_ne.mpr e1
      clear hG e1
      go_enter Try.func58, Try.ntmps58
      go_wp2_with (first | ((with_reducible refine gate_dst (N := 3) rfl ?_); go_loud (refine zb (N := 3) (cs := #[.slice A0_0 l0_0.length c0_0, .slice A0_1 l0_1.length c0_1]) (t := 25) ?_); go_loud (intro g1 hg1 w1 hbox hb1; have BG1 := ym hbox; replace HB := yN hb1; clear hg1 hbox hb1)) | ((with_reducible refine gate_dst (N := 4) rfl ?_); go_loud (refine zb (N := 4) (cs := #[.slice A1_0 l1_0.length c1_0, .slice A1_1 l1_1.length c1_1]) (t := 25) ?_); go_loud (intro g2 hg2 w2 hbox hb2; have BG2 := ym hbox; replace BG1 := yQ BG1 hb2; replace HB := yN hb2; clear hg2 hbox hb2)) | ((with_reducible refine gate_dst (N := 6) rfl ?_); go_loud (refine zb (N := 6) (cs := #[.slice none 0 0, .slice none 0 0]) (t := 25) ?_); go_loud (intro g6 hg6 w6 hbox hb6; have BG6 := ym hbox; have GE6 := yE hg6; replace BG1 := yQ BG1 hb6; replace BG2 := yQ BG2 hb6; replace HB := yN hb6; clear hg6 hbox hb6; have c10 := yW BG1 0; have c11 := yW BG1 1; have c20 := yW BG2 0; have c21 := yW BG2 1)) | ((with_reducible refine gate_dst (N := 14) rfl ?_); go_loud (refine zl (N := 14) (cs := #[.slice A0_0 l0_0.length c0_0, .slice A0_1 l0_1.length c0_1, .slice A1_0 l1_0.length c1_0, .slice A1_1 l1_1.length c1_1]) (t := 25) (n := 2) ?_); go_loud (intro g7 hg7 w7 hbox hb7; have BG7 := ym hbox; replace BG1 := yQ BG1 hb7; replace BG2 := yQ BG2 hb7; replace BG6 := yQ BG6 hb7; replace HB := yN hb7; clear hg7 hbox hb7 c10 c11 c20 c21)))
      have s7_0 := yW BG7 0
      have s7_1 := yW BG7 1
      have s7_2 := yW BG7 2
      have s7_3 := yW BG7 3
      refine wp_loop_rounds 3 ?_
      rw [rounds_succ]
      go_wp2_with (first | ((with_reducible refine gate_dst (N := 9) rfl ?_); go_loud (refine zb (N := 9) (cs := #[.slice none 0 0, .slice none 0 0]) (t := 25) ?_); go_loud (intro g9p hg9 wpa hbox hb9; have BG9p := ym hbox; have GE9p := yE hg9; have NEpBG1 := yF hg9 BG1; have NEpBG2 := yF hg9 BG2; have NEpBG6 := yF hg9 BG6; have NEpBG7 := yF hg9 BG7; replace BG1 := yQ BG1 hb9; replace BG2 := yQ BG2 hb9; replace BG6 := yQ BG6 hb9; replace BG7 := yQ BG7 hb9; replace HB := yN hb9; clear hg9 hbox hb9 s7_0 s7_1 s7_2 s7_3)) | ((with_reducible refine gate_store (t := 25) (p := 9) rfl ?_); go_loud (refine Arr.wpList_store_row rfl 25 _ _ rfl g9p #[.slice A0_0 l0_0.length c0_0, .slice A0_1 l0_1.length c0_1] rfl rfl 25 _ BG9p.out (by kernel_rfl) rfl (by simp [Value.oneCell']) ?_); go_loud (obtain ⟨wpb, hw8⟩ : ∃ w8, w8 = wpa.setRow g9p #[.slice A0_0 l0_0.length c0_0, .slice A0_1 l0_1.length c0_1] := ⟨_, rfl⟩; rw [← hw8]; have hg8 : wpa.grownBy wpb (some g9p) := (by rw [hw8]; exact grown_setRow _ _ _); have hb8 : wpb.heap[g9p]? = some (.cells #[.slice A0_0 l0_0.length c0_0, .slice A0_1 l0_1.length c0_1] 25 (0, 0)) := (by rw [hw8]; exact setRow_heap _ _ _ _ _ _ BG9p.out); replace BG1 := ym (blk_grown BG1.out hg8 (by intro e_; injection e_ with e_; exact NEpBG1.out e_)); replace BG2 := ym (blk_grown BG2.out hg8 (by intro e_; injection e_ with e_; exact NEpBG2.out e_)); replace BG6 := ym (blk_grown BG6.out hg8 (by intro e_; injection e_ with e_; exact NEpBG6.out e_)); replace BG7 := ym (blk_grown BG7.out hg8 (by intro e_; injection e_ with e_; exact NEpBG7.out e_)); replace HB := ym (pw_below_grown HB.out (some g9p) (below_size HB.out) hg8 (fun k hk => by cases hk; exact GE9p.out)); replace BG9p := ym hb8; clear hw8 hg8 hb8; have kp0 := yW BG9p 0; have kp1 := yW BG9p 1)) | (go_at_call 19; go_loud (refine (guide_Check.calls k _ _ l0_0 _ _ l0_1 d1 0 _ (Kd.C_below HR0.out HB.out) HC0.out (Kd.C_below HR1.out HB.out) HC1.out HD.out).mono ?_); rintro e wpc ⟨rfl, hb3⟩; replace BG1 := yQ BG1 hb3; replace BG2 := yQ BG2 hb3; replace BG6 := yQ BG6 hb3; replace BG7 := yQ BG7 hb3; replace HB := yN hb3; clear hb3 kp0 kp1))
      have s7_0 := yW BG7 0
      have s7_1 := yW BG7 1
      have s7_2 := yW BG7 2
      have s7_3 := yW BG7 3
      rw [rounds_succ]
      go_wp2_with (first | ((with_reducible refine gate_dst (N := 9) rfl ?_); go_loud (refine zb (N := 9) (cs := #[.slice none 0 0, .slice none 0 0]) (t := 25) ?_); go_loud (intro g9q hg9 wqa hbox hb9; have BG9q := ym hbox; have GE9q := yE hg9; have NEqBG1 := yF hg9 BG1; have NEqBG2 := yF hg9 BG2; have NEqBG6 := yF hg9 BG6; have NEqBG7 := yF hg9 BG7; replace BG1 := yQ BG1 hb9; replace BG2 := yQ BG2 hb9; replace BG6 := yQ BG6 hb9; replace BG7 := yQ BG7 hb9; replace HB := yN hb9; clear hg9 hbox hb9 s7_0 s7_1 s7_2 s7_3)) | ((with_reducible refine gate_store (t := 25) (p := 9) rfl ?_); go_loud (refine Arr.wpList_store_row rfl 25 _ _ rfl g9q #[.slice A1_0 l1_0.length c1_0, .slice A1_1 l1_1.length c1_1] rfl rfl 25 _ BG9q.out (by kernel_rfl) rfl (by simp [Value.oneCell']) ?_); go_loud (obtain ⟨wqb, hw8⟩ : ∃ w8, w8 = wqa.setRow g9q #[.slice A1_0 l1_0.length c1_0, .slice A1_1 l1_1.length c1_1] := ⟨_, rfl⟩; rw [← hw8]; have hg8 : wqa.grownBy wqb (some g9q) := (by rw [hw8]; exact grown_setRow _ _ _); have hb8 : wqb.heap[g9q]? = some (.cells #[.slice A1_0 l1_0.length c1_0, .slice A1_1 l1_1.length c1_1] 25 (0, 0)) := (by rw [hw8]; exact setRow_heap _ _ _ _ _ _ BG9q.out); replace BG1 := ym (blk_grown BG1.out hg8 (by intro e_; injection e_ with e_; exact NEqBG1.out e_)); replace BG2 := ym (blk_grown BG2.out hg8 (by intro e_; injection e_ with e_; exact NEqBG2.out e_)); replace BG6 := ym (blk_grown BG6.out hg8 (by intro e_; injection e_ with e_; exact NEqBG6.out e_)); replace BG7 := ym (blk_grown BG7.out hg8 (by intro e_; injection e_ with e_; exact NEqBG7.out e_)); replace HB := ym (pw_below_grown HB.out (some g9q) (below_size HB.out) hg8 (fun k hk => by cases hk; exact GE9q.out)); replace BG9q := ym hb8; clear hw8 hg8 hb8; have kq0 := yW BG9q 0; have kq1 := yW BG9q 1)) | (go_at_call 19; go_loud (refine (guide_Check.calls k _ _ l1_0 _ _ l1_1 f1 f2 _ (Kd.C_below HR2.out HB.out) HC2.out (Kd.C_below HR3.out HB.out) HC3.out HD2.out).mono ?_); rintro e wqc ⟨rfl, hb3⟩; replace BG1 := yQ BG1 hb3; replace BG2 := yQ BG2 hb3; replace BG6 := yQ BG6 hb3; replace BG7 := yQ BG7 hb3; replace HB := yN hb3; clear hb3 kq0 kq1) | ((with_reducible refine gate_store (t := 25) (p := 6) rfl ?_); go_loud (refine Arr.wpList_store_row rfl 25 _ _ rfl g6 #[.slice none 0 0, .slice none 0 0] rfl rfl 25 _ BG6.out (by kernel_rfl) rfl (by simp [Value.oneCell']) ?_); go_loud (obtain ⟨w8, hw8⟩ : ∃ w8, w8 = wqc.setRow g6 #[.slice none 0 0, .slice none 0 0] := ⟨_, rfl⟩; rw [← hw8]; have hg8 : wqc.grownBy w8 (some g6) := (by rw [hw8]; exact grown_setRow _ _ _); have BG8 := ym (by rw [hw8]; exact setRow_heap _ _ _ _ _ _ BG6.out : w8.heap[g6]? = some (.cells #[.slice none 0 0, .slice none 0 0] 25 (0, 0))); have HB8 := ym (pw_below_grown HB.out (some g6) (below_size HB.out) hg8 (fun k hk => by cases hk; exact GE6.out)); clear hw8 hg8 BG6)))
      refine bodyPost_ret (results_ct rfl _ _ g6 25 #[.slice none 0 0, .slice none 0 0] (0, 0) _ rfl BG8.out Try.underlying25 rfl (by kernel_rfl)) rfl ?_
      exact ⟨_, _, rfl, Kd.R_nil _ _ _ _ _, Kd.R_nil _ _ _ _ _, HB8.out⟩
  · rw [if_neg e0] at hF
    have e1 := Option.some.inj hF
    cases e1
    have b0 : (d2 != 0) = true := bne_iff_ne.mpr e0
    clear hF e0
    go_enter Try.func58, Try.ntmps58
    go_wp2_with (first | ((with_reducible refine gate_dst (N := 3) rfl ?_); go_loud (refine zb (N := 3) (cs := #[.slice A0_0 l0_0.length c0_0, .slice A0_1 l0_1.length c0_1]) (t := 25) ?_); go_loud (intro g1 hg1 w1 hbox hb1; have BG1 := ym hbox; replace HB := yN hb1; clear hg1 hbox hb1)) | ((with_reducible refine gate_dst (N := 4) rfl ?_); go_loud (refine zb (N := 4) (cs := #[.slice A1_0 l1_0.length c1_0, .slice A1_1 l1_1.length c1_1]) (t := 25) ?_); go_loud (intro g2 hg2 w2 hbox hb2; have BG2 := ym hbox; replace BG1 := yQ BG1 hb2; replace HB := yN hb2; clear hg2 hbox hb2)) | ((with_reducible refine gate_dst (N := 6) rfl ?_); go_loud (refine zb (N := 6) (cs := #[.slice none 0 0, .slice none 0 0]) (t := 25) ?_); go_loud (intro g6 hg6 w6 hbox hb6; have BG6 := ym hbox; have GE6 := yE hg6; replace BG1 := yQ BG1 hb6; replace BG2 := yQ BG2 hb6; replace HB := yN hb6; clear hg6 hbox hb6; have c10 := yW BG1 0; have c11 := yW BG1 1; have c20 := yW BG2 0; have c21 := yW BG2 1)) | ((with_reducible refine gate_dst (N := 14) rfl ?_); go_loud (refine zl (N := 14) (cs := #[.slice A0_0 l0_0.length c0_0, .slice A0_1 l0_1.length c0_1, .slice A1_0 l1_0.length c1_0, .slice A1_1 l1_1.length c1_1]) (t := 25) (n := 2) ?_); go_loud (intro g7 hg7 w7 hbox hb7; have BG7 := ym hbox; replace BG1 := yQ BG1 hb7; replace BG2 := yQ BG2 hb7; replace BG6 := yQ BG6 hb7; replace HB := yN hb7; clear hg7 hbox hb7 c10 c11 c20 c21)))
    have s7_0 := yW BG7 0
    have s7_1 := yW BG7 1
    have s7_2 := yW BG7 2
    have s7_3 := yW BG7 3
    refine wp_loop_rounds 3 ?_
    rw [rounds_succ]
    go_wp2_with (first | ((with_reducible refine gate_dst (N := 9) rfl ?_); go_loud (refine zb (N := 9) (cs := #[.slice none 0 0, .slice none 0 0]) (t := 25) ?_); go_loud (intro g9p hg9 wpa hbox hb9; have BG9p := ym hbox; have GE9p := yE hg9; have NEpBG1 := yF hg9 BG1; have NEpBG2 := yF hg9 BG2; have NEpBG6 := yF hg9 BG6; have NEpBG7 := yF hg9 BG7; replace BG1 := yQ BG1 hb9; replace BG2 := yQ BG2 hb9; replace BG6 := yQ BG6 hb9; replace BG7 := yQ BG7 hb9; replace HB := yN hb9; clear hg9 hbox hb9 s7_0 s7_1 s7_2 s7_3)) | ((with_reducible refine gate_store (t := 25) (p := 9) rfl ?_); go_loud (refine Arr.wpList_store_row rfl 25 _ _ rfl g9p #[.slice A0_0 l0_0.length c0_0, .slice A0_1 l0_1.length c0_1] rfl rfl 25 _ BG9p.out (by kernel_rfl) rfl (by simp [Value.oneCell']) ?_); go_loud (obtain ⟨wpb, hw8⟩ : ∃ w8, w8 = wpa.setRow g9p #[.slice A0_0 l0_0.length c0_0, .slice A0_1 l0_1.length c0_1] := ⟨_, rfl⟩; rw [← hw8]; have hg8 : wpa.grownBy wpb (some g9p) := (by rw [hw8]; exact grown_setRow _ _ _); have hb8 : wpb.heap[g9p]? = some (.cells #[.slice A0_0 l0_0.length c0_0, .slice A0_1 l0_1.length c0_1] 25 (0, 0)) := (by rw [hw8]; exact setRow_heap _ _ _ _ _ _ BG9p.out); replace BG1 := ym (blk_grown BG1.out hg8 (by intro e_; injection e_ with e_; exact NEpBG1.out e_)); replace BG2 := ym (blk_grown BG2.out hg8 (by intro e_; injection e_ with e_; exact NEpBG2.out e_)); replace BG6 := ym (blk_grown BG6.out hg8 (by intro e_; injection e_ with e_; exact NEpBG6.out e_)); replace BG7 := ym (blk_grown BG7.out hg8 (by intro e_; injection e_ with e_; exact NEpBG7.out e_)); replace HB := ym (pw_below_grown HB.out (some g9p) (below_size HB.out) hg8 (fun k hk => by cases hk; exact GE9p.out)); replace BG9p := ym hb8; clear hw8 hg8 hb8; have kp0 := yW BG9p 0; have kp1 := yW BG9p 1)) | (go_at_call 19; go_loud (refine (guide_Check.calls k _ _ l0_0 _ _ l0_1 d1 d2 _ (Kd.C_below HR0.out HB.out) HC0.out (Kd.C_below HR1.out HB.out) HC1.out HD.out).mono ?_); rintro e wpc ⟨rfl, hb3⟩; replace BG1 := yQ BG1 hb3; replace BG2 := yQ BG2 hb3; replace BG6 := yQ BG6 hb3; replace BG7 := yQ BG7 hb3; replace HB := yN hb3; clear hb3 kp0 kp1) | ((with_reducible refine gate_store (t := 25) (p := 6) rfl ?_); go_loud (refine Arr.wpList_store_row rfl 25 _ _ rfl g6 #[.slice none 0 0, .slice none 0 0] rfl rfl 25 _ BG6.out (by kernel_rfl) rfl (by simp [Value.oneCell']) ?_); go_loud (obtain ⟨w8, hw8⟩ : ∃ w8, w8 = wpc.setRow g6 #[.slice none 0 0, .slice none 0 0] := ⟨_, rfl⟩; rw [← hw8]; have hg8 : wpc.grownBy w8 (some g6) := (by rw [hw8]; exact grown_setRow _ _ _); have BG8 := ym (by rw [hw8]; exact setRow_heap _ _ _ _ _ _ BG6.out : w8.heap[g6]? = some (.cells #[.slice none 0 0, .slice none 0 0] 25 (0, 0))); have HB8 := ym (pw_below_grown HB.out (some g6) (below_size HB.out) hg8 (fun k hk => by cases hk; exact GE6.out)); clear hw8 hg8 BG6)))
    refine bodyPost_ret (results_ct rfl _ _ g6 25 #[.slice none 0 0, .slice none 0 0] (0, 0) _ rfl BG8.out Try.underlying25 rfl (by kernel_rfl)) rfl ?_
    exact ⟨_, _, rfl, Kd.R_nil _ _ _ _ _, Kd.R_nil _ _ _ _ _, HB8.out⟩

theorem and_is (x y : Bool) (W : World) : Calls Try.prog 59 #[.bool x, .bool y] W fun e w' => e = .returned (.bool (x && y)) ∧ w' = W := by
  cases x
  · go_enter Try.func59, Try.ntmps59
    go_wp2
    go_ret
    exact ⟨by simp, rfl⟩
  · go_enter Try.func59, Try.ntmps59
    go_wp2
    go_ret
    exact ⟨by simp, rfl⟩
theorem or_is (x y : Bool) (W : World) : Calls Try.prog 60 #[.bool x, .bool y] W fun e w' => e = .returned (.bool (x || y)) ∧ w' = W := by
  cases x
  · go_enter Try.func60, Try.ntmps60
    go_wp2
    go_ret
    exact ⟨by simp, rfl⟩
  · go_enter Try.func60, Try.ntmps60
    go_wp2
    go_ret
    exact ⟨by simp, rfl⟩
theorem not_is (x y : Bool) (W : World) : Calls Try.prog 61 #[.bool x, .bool y] W fun e w' => e = .returned (.bool (!x)) ∧ w' = W := by
  cases x
  · go_enter Try.func61, Try.ntmps61
    go_wp2
    go_ret
    exact ⟨by simp, rfl⟩
  · go_enter Try.func61, Try.ntmps61
    go_wp2
    go_ret
    exact ⟨by simp, rfl⟩
noncomputable def guide_And.f (k : Nat) (l0_0 : List Bool) (l0_1 : List (S92)) (l1_0 : List Bool) (l1_1 : List (S92)) : Option (List Bool × (List (S92)) × Int) := ofG k (fun x y => x && y) l0_0 l0_1 l1_0 l1_1
theorem guide_And.mono : ∀ a0 a1 a2 a3 k, LeO (guide_And.f k a0 a1 a2 a3) (guide_And.f (k + 1) a0 a1 a2 a3) := fun a0 a1 a2 a3 k => ofG_mono k _ a0 a1 a2 a3
set_option maxHeartbeats 8000000 in
set_option maxRecDepth 100000 in
theorem guide_And.calls (k : Nat) (A0_0 : Option Addr) (c0_0 : Nat) (l0_0 : List Bool) (A0_1 : Option Addr) (c0_1 : Nat) (l0_1 : List (S92)) (A1_0 : Option Addr) (c1_0 : Nat) (l1_0 : List Bool) (A1_1 : Option Addr) (c1_1 : Nat) (l1_1 : List (S92)) (r1 : List Bool) (r2 : List (S92)) (r3 : Int) (w : World) (hr0_0 : Kd.C Kd.bool w A0_0 l0_0.length l0_0) (hc0_0 : l0_0.length ≤ c0_0) (hr0_1 : Kd.C k92 w A0_1 l0_1.length l0_1) (hc0_1 : l0_1.length ≤ c0_1) (hr1_0 : Kd.C Kd.bool w A1_0 l1_0.length l1_0) (hc1_0 : l1_0.length ≤ c1_0) (hr1_1 : Kd.C k92 w A1_1 l1_1.length l1_1) (hc1_1 : l1_1.length ≤ c1_1) (h : guide_And.f k l0_0 l0_1 l1_0 l1_1 = some (r1, r2, r3)) :
    Calls Try.prog 33 #[.agg #[.slice A0_0 l0_0.length c0_0, .slice A0_1 l0_1.length c0_1], .agg #[.slice A1_0 l1_0.length c1_0, .slice A1_1 l1_1.length c1_1]] w fun e w' => ∃ v0_ v1_ : Value, e = .returned (.tuple #[.agg #[v0_, v1_], .int .i64 r3]) ∧ Kd.R Kd.bool 4 w' w.heap.size (fun _ => True) v0_ r1 ∧ Kd.R k92 92 w' w.heap.size (fun _ => True) v1_ r2 ∧ Below w.heap.size w w' := by
  have hu25 := Try.underlying25
  have HR0 := ym hr0_0
  have HC0 := ym hc0_0
  have HR1 := ym hr0_1
  have HC1 := ym hc0_1
  have HR2 := ym hr1_0
  have HC2 := ym hc1_0
  have HR3 := ym hr1_1
  have HC3 := ym hc1_1
  have HB := ym (Below.refl w.heap.size w)
  have H : ofG k (fun x y => x && y) l0_0 l0_1 l1_0 l1_1 = some (r1, r2, r3) := h
  have HF := ym H
  clear h H hr0_0 hc0_0 hr0_1 hc0_1 hr1_0 hc1_0 hr1_1 hc1_1
  go_enter Try.func33, Try.ntmps33
  go_wp2_with (first | ((with_reducible refine gate_dst (N := 2) rfl ?_); go_loud (refine zb (N := 2) (cs := #[.slice A0_0 l0_0.length c0_0, .slice A0_1 l0_1.length c0_1]) (t := 25) ?_); go_loud (intro g1 hg1 w1 hbox hb1; have BG1 := ym hbox; replace HB := yN hb1; clear hg1 hbox hb1)) | ((with_reducible refine gate_dst (N := 3) rfl ?_); go_loud (refine zb (N := 3) (cs := #[.slice A1_0 l1_0.length c1_0, .slice A1_1 l1_1.length c1_1]) (t := 25) ?_); go_loud (intro g2 hg2 w2 hbox hb2; have BG2 := ym hbox; replace BG1 := yQ BG1 hb2; replace HB := yN hb2; clear hg2 hbox hb2)) | ((with_reducible refine gate_dst (N := 4) rfl ?_); go_loud (refine zb (N := 4) (cs := #[.slice none 0 0, .slice none 0 0]) (t := 25) ?_); go_loud (intro g6 hg6 w3 hbox hb3; have BG6 := ym hbox; have GE6 := yE hg6; replace BG1 := yQ BG1 hb3; replace BG2 := yQ BG2 hb3; replace HB := yN hb3; clear hg6 hbox hb3; have c10 := yW BG1 0; have c11 := yW BG1 1; have c20 := yW BG2 0; have c21 := yW BG2 1)) | (go_at_call 58; go_loud (refine (of_calls k 59 Try.func59 (by kernel_rfl) rfl (fun x y => x && y) and_is _ _ l0_0 _ _ l0_1 _ _ l1_0 _ _ l1_1 r1 r2 r3 _ (Kd.C_below HR0.out HB.out) HC0.out (Kd.C_below HR1.out HB.out) HC1.out (Kd.C_below HR2.out HB.out) HC2.out (Kd.C_below HR3.out HB.out) HC3.out HF.out).mono ?_); rintro e w5 ⟨v0, v1, rfl, h0, h1, hb5⟩; have H0 := ym h0; have H1 := ym h1; replace BG6 := yQ BG6 hb5; have HBo := HB; replace HB := yN hb5; clear h0 h1 hb5 c10 c11 c20 c21) | ((with_reducible refine gate_store (t := 25) (p := 4) rfl ?_); go_loud (refine Arr.wpList_store_row rfl 25 _ _ rfl g6 #[v0, v1] rfl rfl 25 _ BG6.out (by kernel_rfl) rfl (one2 H0.out H1.out) ?_); go_loud (obtain ⟨w8, hw8⟩ : ∃ w8, w8 = w5.setRow g6 #[v0, v1] := ⟨_, rfl⟩; rw [← hw8]; have hg8 : w5.grownBy w8 (some g6) := (by rw [hw8]; exact grown_setRow _ _ _); have BG8 := ym (by rw [hw8]; exact setRow_heap _ _ _ _ _ _ BG6.out : w8.heap[g6]? = some (.cells #[v0, v1] 25 (0, 0))); have hT := rowt_blk BG6.out; replace H0 := ym (R_row H0.out hg8 hT (by decide)); replace H1 := ym (R_row H1.out hg8 hT (by decide)); have HB8 := ym (pw_below_grown HB.out (some g6) (below_size HB.out) hg8 (fun k hk => by cases hk; exact GE6.out)); clear hw8 hg8 hT BG6)))
  refine bodyPost_ret (results_ct rfl _ _ g6 25 #[v0, v1] (0, 0) _ rfl BG8.out Try.underlying25 rfl (by kernel_rfl)) rfl ?_
  exact ⟨v0, v1, rfl, Kd.R_lower H0.out (below_size HBo.out), Kd.R_lower H1.out (below_size HBo.out), HB8.out⟩

end Go.Proofs.Ytfjpnmhbbfiaaaa.P
