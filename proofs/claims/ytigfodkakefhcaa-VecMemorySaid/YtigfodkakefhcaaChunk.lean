/- A range over slices.Chunk: the iterator's contract, and what the program makes of each chunk, collected; on condition that the chunks are whole and within the form's reach. -/
import Derived.RangeFuncBox
import Derived.RangeFuncLeaves
import Derived.RangeFuncCalls
import Derived.RangeFuncBound
import Derived.Shelf.Abstract
import Derived.Shelf.RegionOpen
import Derived.WalkKit
import Derived.OwnWalkIn
import Derived.TacticsInMore
import Derived.LoopNIn
import Derived.LoopIn
import Derived.Maps.AppendAt
import Derived.Test.YtigfodkakefhcaaProg
import Derived.Test.YtigfodkakefhcaaWWords
namespace Go.Proofs.Ytigfodkakefhcaa.K
open Go.RowKit Go.Shelf
open Go.Proofs.YtigfodkakefhcaaW.PrintWords (cut_from Aside0)
set_option linter.unusedVariables false
set_option linter.unusedSimpArgs false
attribute [local go_sem] Oper.semAt_some
theorem w_id {x : Int} (h0 : -9223372036854775808 ≤ x) (h1 : x ≤ 9223372036854775807) : wrap64 x = x := by unfold wrap64; omega
theorem meas {T i0 n : Nat} {s1 : Int} (h : i0 + n ≤ T) (hn : 1 ≤ n) (hs : s1 = ((i0 + n : Nat) : Int)) : T - s1.toNat < T - ((i0 : Int)).toNat := by omega
/-- What has come when k rounds are over. -/
def upto {α : Type} (f : Nat → α) (k : Nat) : List α := (List.range k).map f
theorem upto_succ {α : Type} (f : Nat → α) (k : Nat) : upto f (k + 1) = upto f k ++ [f k] := by simp [upto, List.range_succ]
theorem upto_length {α : Type} (f : Nat → α) (k : Nat) : (upto f k).length = k := by simp [upto]
/-- The chunk of that number. -/
def chunk (A : Option Addr) (n j : Nat) : Value := .slice (A.map (·.add (j * n))) n n
/-- Two blocks lie as they lay. -/
def Two (Bs Bn : Nat) (W W' : World) : Prop := ∀ k, k = Bs ∨ k = Bn → W'.heap[k]? = W.heap[k]?
theorem Two.trans {Bs Bn : Nat} {A B C : World} (h : Two Bs Bn A B) (k : Two Bs Bn B C) : Two Bs Bn A C := fun i hi => (k i hi).trans (h i hi)
theorem Two.boxed {Bs Bn : Nat} {A B : World} (h : Two Bs Bn A B) {t : TypeId} {v : Value} : (Boxed A Bs t v → Boxed B Bs t v) ∧ (Boxed A Bn t v → Boxed B Bn t v) :=
  ⟨fun hb => (h Bs (.inl rfl)).trans hb, fun hb => (h Bn (.inr rfl)).trans hb⟩
theorem two_drew (Bs Bn : Nat) (W : World) : Two Bs Bn W W.drew := fun _ _ => rfl
theorem two_putObj {Bs Bn : Nat} {w : World} (h1 : Bs < w.heap.size) (h2 : Bn < w.heap.size) (W : World) (l : Nat) (o o' : Obj) (hl : w.heap.size ≤ l) (h : W.heap[l]? = some o) (_ : o.isCells = false) (_ : o.isWalk = false) : Two Bs Bn W (W.putObj l o') :=
  fun k hk => World.putObj_heap_other (by rcases hk with rfl | rfl <;> omega)
set_option maxRecDepth 100000 in
set_option maxHeartbeats 4000000 in
/-- slices.Chunk's closure, for every loop body that keeps its two boxes. -/
theorem chunk1_in (F : Fence) (m : Nat) (h63 : F.fn 63) (hro : F.round = none) (hm : 1 ≤ m) (l Bs Bn : Nat) (A : Option Addr) (n rows cap T : Nat) (hT : rows * n = T) (hn : 1 ≤ n) (hcap : T ≤ cap) (hreach : T ≤ 140737488351232)
    (J Jx : Nat → World → Prop) (hJd : ∀ k W, J k W → J k W.drew)
    (hY : ∀ k W, k < rows → J k W → YieldAt F (m - 1) Try.prog l #[chunk A n k] W fun e W' =>
      (e = .returned (.bool true) ∧ J (k + 1) W' ∧ Two Bs Bn W W') ∨ (e = .returned (.bool false) ∧ Jx (k + 1) W'))
    (W : World) (hBs : Boxed W Bs 22 (.slice A T cap)) (hBn : Boxed W Bn 3 (.int .i64 n)) (h0 : J 0 W) :
    CallsIn F m Try.prog 63 #[.func (.yield l) #[] #[], .pointer (some ⟨Bs, 0, none⟩), .pointer (some ⟨Bn, 0, none⟩)] W fun e W' => (∃ v, e = .returned v) ∧
      (J rows W' ∨ (∃ k, k ≤ rows ∧ Jx k W')) := by
  have hinfo : (Try.prog.info? 42).map (fun i => (i.zero, i.size, i.bytes)) = some (some (.int .i8 0), 1, 1) := by kernel_rfl
  refine callsIn_of_wp Try.func63 rfl h63 ?_ hro
  simp only [Try.ntmps63, List.size_toArray, List.length_cons, List.length_nil, Nat.reduceAdd, Nat.reduceSub, Array.replicate_succ, Array.replicate_zero, List.push_toArray, List.append_toArray, List.nil_append, List.cons_append]
  gi_wp2
  gi_loopw [4] (fun i wr => ∃ k i0 : Nat, k ≤ rows ∧ k * n = i0 ∧ i = .int .i64 (i0 : Int) ∧ J k wr ∧ Two Bs Bn W wr)
    (fun i _ => T - (intOf i).toNat)
  case atStart => exact ⟨0, 0, Nat.zero_le _, by simp, rfl, h0, fun _ _ => rfl⟩
  case round =>
    obtain ⟨k, i0, hk, hi0, rfl, hJs, hnx⟩ := hrel
    obtain ⟨inf, hinf, _, hsz, _⟩ := info_parts hinfo
    have bs := hnx.boxed.1 hBs
    have bn := hnx.boxed.2 hBn
    have cs := bs.cell
    have cn := bn.cell
    by_cases hlt : k < rows
    · have hkn : i0 + n ≤ T := by
        have := Nat.mul_le_mul_right n (show k + 1 ≤ rows from hlt)
        rw [Nat.succ_mul] at this; omega
      obtain ⟨fn, tmps, assign, body, hy, hR⟩ := hY k wr.drew hlt (hJd _ _ hJs)
      unfold chunk at hy
      rw [hi0] at hy
      have cs' : wr.drew.cell? ⟨Bs, 0, none⟩ = some (.slice A T cap) := cs
      have cn' : wr.drew.cell? ⟨Bn, 0, none⟩ = some (.int .i64 n) := cn
      have i_lt : (i0 : Int) < (T : Int) := by omega
      have hcut := cut_from (P := Try.prog) 22 42 .i64 Try.underlying22 hinf 1 hsz A T cap i0 (by omega) (by omega)
      obtain ⟨A1, hA1⟩ : ∃ A1, A1 = (if cap = (i0 : Int).toNat then A else A.map (·.add ((i0 : Int).toNat * 1))) := ⟨_, rfl⟩
      rw [← hA1] at hcut
      clear hA1
      have hl16 : T - (i0 : Int).toNat = T - i0 := by omega
      rw [hl16] at hcut
      obtain ⟨L, hL⟩ : ∃ L, L = T - i0 := ⟨_, rfl⟩
      rw [← hL] at hcut
      have hLn : ¬ L < n := by omega
      obtain ⟨s1, hs1⟩ : ∃ s1 : Int, s1 = (i0 : Int) + n := ⟨_, rfl⟩
      have hcut3 : ∀ W : World, (Instr.slice 22 (.slice A T cap) (some (.int .i64 i0)) (some (.int .i64 s1)) (some (.int .i64 s1))).run Try.prog W = .ok (.slice (A.map (·.add i0)) n n) W := by
        intro W
        have hel : Try.prog.elem 22 = 42 := by simp [Program.elem, Try.underlying22]
        have hu : Try.prog.underlying 22 = some (.slice (Try.prog.elem 22)) := by rw [hel]; exact Try.underlying22
        rw [hs1, run_slice_lhm W 22 A T cap hu .i64 .i64 .i64 i0 ((i0 : Int) + n) ((i0 : Int) + n) (by omega) (by omega) (by omega) (by omega), hel]
        have e1 : ((i0 : Int) + n).toNat = i0 + n := by omega
        have e2 : ¬ n = 0 := by omega
        simp [sizeOf, typeInfo, hinf, hsz, sliced, Result.andThen, e1, e2]
      have hw : wrap64 ((i0 : Int) + n) = s1 := by rw [hs1]; exact w_id (by omega) (by omega)
      have HS := Aside0.mk (show s1 = ((i0 + n : Nat) : Int) by rw [hs1]; rfl)
      have HK := Aside0.mk hkn
      have HN := Aside0.mk (show 1 ≤ n from hn)
      have HR := Aside0.mk hlt
      have HI := Aside0.mk hi0
      have HT := Aside0.mk hT
      clear hL hs1 hn hreach hcap hkn hl16 hlt hi0 hT
      gi_wp2
      gi_region
      all_goals
        gi_wp2
        refine hR.mono ?_
        rintro e W3 (⟨rfl, hJ3, hk3⟩ | ⟨rfl, hJx3⟩)
        · have cn3 : W3.cell? ⟨Bn, 0, none⟩ = some (.int .i64 n) := (hk3.boxed.2 (show Boxed wr.drew Bn 3 (.int .i64 n) from bn)).cell
          gi_wp2
          rw [hw]
          go_roundw
          case rel => exact ⟨k + 1, i0 + n, HR.out, by rw [Nat.succ_mul, HI.out], by rw [HS.out], hJ3, hnx.trans ((two_drew Bs Bn wr).trans hk3)⟩
          case measure => exact meas HK.out HN.out HS.out
        · gi_wp2
          refine bodyPost_ret (results_none rfl _ _ _) rfl ?_
          exact ⟨⟨_, rfl⟩, .inr ⟨k + 1, HR.out, hJx3⟩⟩
    · obtain rfl : k = rows := by omega
      obtain rfl : i0 = T := by omega
      gi_wp2
      go_end0
      exact ⟨⟨_, rfl⟩, .inl hJs⟩
theorem two_grown {Bs Bn : Nat} {W W' : World} (h : W.heap = W'.heap) : Two Bs Bn W W' := fun _ _ => by rw [h]
set_option maxHeartbeats 1000000 in
/-- slices.Chunk itself: both arguments are boxed; the function value captures the boxes. -/
theorem chunk_in (F : Fence) (m : Nat) (h47 : F.fn 47) (hro : F.round = none) (A : Option Addr) (len cap n : Nat) (hn : 1 ≤ n) (w : World) :
    CallsIn F m Try.prog 47 #[.slice A len cap, .int .i64 n] w fun e w' => e = .returned (.func (.func 63) #[] #[.pointer (some ⟨w.heap.size, 0, none⟩), .pointer (some ⟨w.heap.size + 1, 0, none⟩)]) ∧ w' = (w.alloc (.cells #[.slice A len cap] 22)).alloc (.cells #[.int .i64 n] 3) := by
  have hn1 : (1 : Int) ≤ (n : Int) := by omega
  have hn2 : ¬ (n : Int) < 1 := by omega
  refine callsIn_of_wp Try.func47 rfl h47 ?_ hro
  simp only [Try.ntmps47, List.size_toArray, List.length_cons, List.length_nil, Nat.reduceAdd, Nat.reduceSub, Array.replicate_succ, Array.replicate_zero, List.push_toArray, List.append_toArray, List.nil_append, List.cons_append]
  gi_wp2
  go_ret
  exact ⟨rfl, rfl⟩
/-- It hands back a value that tells the chunks' numbers, in order. -/
theorem chunk_stops (F : Fence) (m : Nat) (h63 : F.fn 63) (hro : F.round = none) (hm : 1 ≤ m) (Bs Bn : Nat) (A : Option Addr) (n rows cap T : Nat) (hT : rows * n = T) (hn : 1 ≤ n) (hcap : T ≤ cap) (hreach : T ≤ 140737488351232) (w : World)
    (hBs : Boxed w Bs 22 (.slice A T cap)) (hBn : Boxed w Bn 3 (.int .i64 n)) :
    SeqStopsK F m Try.prog 63 #[.pointer (some ⟨Bs, 0, none⟩), .pointer (some ⟨Bn, 0, none⟩)] (fun x : Fin rows => #[chunk A n x.1]) (Two Bs Bn) (fun ys => ys = List.finRange rows) (fun pre => ∃ k, k ≤ rows ∧ pre = (List.finRange rows).take k) rows w := fun l J Jx W hW hJ _ hY h0 => by
  have htake : ∀ k (h : k < rows), (List.finRange rows).take (k + 1) = (List.finRange rows).take k ++ [⟨k, h⟩] := by
    intro k h
    rw [List.take_add_one, List.getElem?_eq_getElem (by simpa using h)]
    simp
  refine (chunk1_in F m h63 hro hm l Bs Bn A n rows cap T hT hn hcap hreach (fun k => J ((List.finRange rows).take k)) (fun k => Jx ((List.finRange rows).take k)) (fun k W h => hJ _ W W.drew none h ⟨rfl, rfl, rfl, Nat.le_refl _, fun _ _ _ => rfl⟩ (fun r e => by cases e))
    (fun k W1 hk h1 => ?_) W ((hW.block Bs hBs.lt).trans hBs) ((hW.block Bn hBn.lt).trans hBn) (by simpa using h0)).mono ?_
  · rw [htake k hk]
    exact hY _ ⟨k, hk⟩ W1 h1 (by simp; omega)
  · rintro e W' ⟨hv, h | ⟨k, hk, h⟩⟩
    · exact ⟨hv, .inl ⟨_, rfl, by rwa [List.take_of_length_le (by simp)] at h⟩⟩
    · exact ⟨hv, .inr ⟨_, ⟨k, hk, rfl⟩, h⟩⟩
end Go.Proofs.Ytigfodkakefhcaa.K
