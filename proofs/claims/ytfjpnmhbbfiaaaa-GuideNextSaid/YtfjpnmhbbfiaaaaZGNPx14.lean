-- Printed by xprint.py (wip): functions, contracts, rows. Lean checks it.
import Derived.Test.YtfjpnmhbbfiaaaaZGNPx0
import Derived.Test.YtfjpnmhbbfiaaaaZGNPx11
import Derived.Test.YtfjpnmhbbfiaaaaZGNTiny
namespace Go.Proofs.Ytfjpnmhbbfiaaaa.P
open Go.RowKit Go.Proofs.YtfjpnmhbbfiaaaaW.PrintWords Go.Proofs.YtfjpnmhbbfiaaaaW.PrintLast Go.Proofs.YtfjpnmhbbfiaaaaW.PrintMore
attribute [local go_sem] max2_int min2_int max_two min_two max_three min_three max_four min_four   -- for this text's walks alone
set_option linter.unusedVariables false
set_option linter.unusedSimpArgs false

/-! ### vocab_Check: function 53 -/
/-- Has the i-th text been told ahead of its place? -/
def vocab_SeenText.f (l : List ByteArray) (i : Int) : Option Bool := if (rdOf ByteArray.empty l i).size ≤ 9223372036854775807 then some (decide ((rdOf ByteArray.empty l i).data ∈ (l.take i.toNat).map ByteArray.data)) else none
/-- Has the i-th merge's pair been told ahead of its place? -/
def vocab_SeenMerge.f (l : List (S99)) (i : Int) : Option Bool := if (Lit.int .i64 (rd_T99 l i).f0).wf = true ∧ (Lit.int .i64 (rd_T99 l i).f1).wf = true then some (decide (((rd_T99 l i).f0, (rd_T99 l i).f1) ∈ (l.take i.toNat).map (fun m => (m.f0, m.f1)))) else none
def vkm (m : S99) : Value := .agg #[.int .i64 m.f0, .int .i64 m.f1]
theorem vk_string : Maps.Keyed Try.prog 9 := Maps.string_keyed Try.underlying9
theorem vk_arr : WideMaps.ArrKey Try.prog 140 3 2 := ⟨Try.underlying140, by kernel_rfl, by kernel_rfl, by kernel_rfl⟩
theorem vk_pair : Maps.Keyed Try.prog 140 := Maps.Keyed.of_law vk_arr.law
theorem vk_zero (w : World) : (zeroValue 3).run Try.prog w = .ok (.int .i64 0) w := by kernel_rfl
theorem vk_some : ∃ m, Try.prog.types.size = m + 1 := ⟨Try.prog.types.size - 1, by kernel_rfl⟩
theorem vocab_SeenText.size {l : List ByteArray} {i : Int} {r : Bool} (h : vocab_SeenText.f l i = some r) : (rdOf ByteArray.empty l i).size ≤ maxLen := by
  unfold vocab_SeenText.f at h
  split at h
  · assumption
  · cases h
theorem vk_mem {l : List ByteArray} {s : ByteArray} : s.data ∈ l.map ByteArray.data ↔ Value.string s ∈ l.map Value.string := by
  rw [List.mem_map, List.mem_map]
  refine ⟨fun ⟨x, hx, e⟩ => ⟨x, hx, ?_⟩, fun ⟨x, hx, e⟩ => ⟨x, hx, by injection e with e; rw [e]⟩⟩
  cases x
  cases s
  exact congrArg (fun d => Value.string ⟨d⟩) e
theorem vocab_SeenText.mem {l : List ByteArray} {i : Int} {r : Bool} (h : vocab_SeenText.f l i = some r) : r = true ↔ Value.string (rdOf ByteArray.empty l i) ∈ (l.take i.toNat).map Value.string := by
  unfold vocab_SeenText.f at h
  split at h
  · rw [← Option.some.inj h, decide_eq_true_iff, vk_mem]
  · cases h
theorem vocab_SeenMerge.key {l : List (S99)} {i : Int} {r : Bool} (h : vocab_SeenMerge.f l i = some r) : ∃ kl, keyOf Try.prog 140 (.agg #[.int .i64 (rd_T99 l i).f0, .int .i64 (rd_T99 l i).f1]) = some kl := by
  unfold vocab_SeenMerge.f at h
  split at h
  · rename_i hw
    exact Seen.pair_key vk_arr Try.underlying3 vk_some hw.1 hw.2
  · cases h
theorem vocab_SeenMerge.mem {l : List (S99)} {i : Int} {r : Bool} (h : vocab_SeenMerge.f l i = some r) : r = true ↔ Value.agg #[.int .i64 (rd_T99 l i).f0, .int .i64 (rd_T99 l i).f1] ∈ (l.take i.toNat).map vkm := by
  unfold vocab_SeenMerge.f at h
  split at h
  · rw [← Option.some.inj h, decide_eq_true_iff, List.mem_map, List.mem_map]
    constructor
    · rintro ⟨m, hm, e⟩
      injection e with e1 e2
      exact ⟨m, hm, by unfold vkm; rw [e1, e2]⟩
    · rintro ⟨m, hm, e⟩
      unfold vkm at e
      simp only [Value.agg.injEq, Array.mk.injEq, List.cons.injEq, Value.int.injEq, true_and, and_true] at e
      exact ⟨m, hm, by rw [e.1, e.2]⟩
  · cases h
theorem vk_wf {i : Int} {n : Nat} (h : 0 ≤ i ∧ i ≤ (n : Int)) (hn : n ≤ 9223372036854775807) : (Lit.int .i64 i).wf = true := WalkArith.wf_i64 (by omega)
theorem vk_next {i : Int} {n : Nat} (h : 0 ≤ i ∧ i ≤ (n : Int)) (hn : n ≤ 9223372036854775807) (hl : i < (n : Int)) : wrap64 (i + 1) = i + 1 ∧ i < (n : Int) := ⟨by unfold wrap64; omega, hl⟩
theorem vk_lt {l : List ByteArray} {i : Int} (hn : l.length ≤ 9223372036854775807) (h : wrap64 (i + 1) = i + 1 ∧ i < (l.length : Int)) : ((l.take i.toNat).map Value.string).length < maxLen := by
  rw [List.length_map, List.length_take]; unfold maxLen; omega
theorem vk_lt2 {l : List (S99)} {i : Int} (hn : l.length ≤ 9223372036854775807) (h : wrap64 (i + 1) = i + 1 ∧ i < (l.length : Int)) : ((l.take i.toNat).map vkm).length < maxLen := by
  rw [List.length_map, List.length_take]; unfold maxLen; omega
theorem vk_take {α : Type} {l : List α} {d : α} {i : Int} (h0 : 0 ≤ i) (h1 : i < (l.length : Int)) : l.take (i + 1).toNat = l.take i.toNat ++ [l.getD i.toNat d] := by
  obtain ⟨m, rfl⟩ := Int.eq_ofNat_of_zero_le h0
  have hm : m < l.length := by omega
  rw [show ((m : Int) + 1).toNat = m + 1 by omega, Int.toNat_natCast, List.take_add_one, List.getD_eq_getElem?_getD, List.getElem?_eq_getElem hm]
  rfl
theorem vk_step {l : List ByteArray} {i : Int} {w : World} {b : Nat} (hx : 0 ≤ i ∧ i ≤ (l.length : Int)) (h : wrap64 (i + 1) = i + 1 ∧ i < (l.length : Int)) (hs : Seen.Seen Try.prog 9 3 w b ((l.take i.toNat).map Value.string ++ [.string (rdOf ByteArray.empty l i)])) : Seen.Seen Try.prog 9 3 w b ((l.take (wrap64 (i + 1)).toNat).map Value.string) := by
  rw [h.1, vk_take (d := ByteArray.empty) hx.1 h.2, List.map_append]; exact hs
theorem vk_step2 {l : List (S99)} {i : Int} {w : World} {b : Nat} (hx : 0 ≤ i ∧ i ≤ (l.length : Int)) (h : wrap64 (i + 1) = i + 1 ∧ i < (l.length : Int)) (hs : Seen.Seen Try.prog 140 3 w b ((l.take i.toNat).map vkm ++ [.agg #[.int .i64 (rd_T99 l i).f0, .int .i64 (rd_T99 l i).f1]])) : Seen.Seen Try.prog 140 3 w b ((l.take (wrap64 (i + 1)).toNat).map vkm) := by
  rw [h.1, vk_take (d := z99) hx.1 h.2, List.map_append]; exact hs
mutual
def vocab_Check.l0 : Nat → List ByteArray → Int → Int → List ByteArray → List (S99) → Option (Int × Int)
  | 0, _, _, _, _, _ => none
  | k + 1, x21, x22, x23, x216000, x216001 => if x23 < x22 then (if 0 ≤ x23 then (if x23 < (x21.length : Int) then ((vocab_SeenText.f x21 x23).bind fun t217 => (if t217 = true then (some (x23, 130)) else (if (((rdOf ByteArray.empty x21 x23).toList == ([] : List UInt8)) != (x23 == 0)) = true then (some (x23, 130)) else (if ((rdOf ByteArray.empty x21 x23).size : Int) > 64 then (some (x23, 130)) else (vocab_Check.l0 k x21 x22 (wrap64 (x23 + 1)) x216000 x216001))))) else (none)) else (none)) else (if (x216000.length : Int) < 2 then (some ((x216000.length : Int), 130)) else (if (x216001.length : Int) > 1024 then (some (1024, 131)) else (vocab_Check.l1 k x216001 (x216001.length : Int) 0 x216000 x216001)))
def vocab_Check.l1 : Nat → List (S99) → Int → Int → List ByteArray → List (S99) → Option (Int × Int)
  | 0, _, _, _, _, _ => none
  | k + 1, x67, x68, x69, x216000, x216001 => if x69 < x68 then (if 0 ≤ x69 then (if x69 < (x67.length : Int) then ((vocab_SeenMerge.f x67 x69).bind fun t221 => (if t221 = true then (some (x69, 131)) else ((vocab_says.f x216000 x216001 ((rd_T99 x67 x69).f0)).bind fun t222 => (if t222 = true then ((vocab_says.f x216000 x216001 ((rd_T99 x67 x69).f1)).bind fun t223 => (if t223 = true then ((vocab_says.f x216000 x216001 ((rd_T99 x67 x69).f2)).bind fun t224 => (if t224 = true then (if 0 ≤ ((rd_T99 x67 x69).f2) then (if ((rd_T99 x67 x69).f2) < (x216000.length : Int) then (if 0 ≤ ((rd_T99 x67 x69).f0) then (if ((rd_T99 x67 x69).f0) < (x216000.length : Int) then (if 0 ≤ ((rd_T99 x67 x69).f1) then (if ((rd_T99 x67 x69).f1) < (x216000.length : Int) then (if (rdOf ByteArray.empty x216000 ((rd_T99 x67 x69).f0)).size + (rdOf ByteArray.empty x216000 ((rd_T99 x67 x69).f1)).size ≤ 9223372036854775807 then (if (rdOf ByteArray.empty x216000 ((rd_T99 x67 x69).f2)).toList = ((rdOf ByteArray.empty x216000 ((rd_T99 x67 x69).f0)) ++ (rdOf ByteArray.empty x216000 ((rd_T99 x67 x69).f1))).toList then (vocab_Check.l1 k x67 x68 (wrap64 (x69 + 1)) x216000 x216001) else (some (x69, 131))) else (none)) else (none)) else (none)) else (none)) else (none)) else (none)) else (none)) else (some (x69, 131)))) else (some (x69, 131)))) else (some (x69, 131)))))) else (none)) else (none)) else (some (0, 0))
end
def vocab_Check.f (k : Nat) (l0_0 : List ByteArray) (l0_1 : List (S99)) : Option (Int × Int) := if (l0_0.length : Int) > 512 then (some (512, 130)) else (vocab_Check.l0 k l0_0 (l0_0.length : Int) 0 l0_0 l0_1)
theorem vocab_Check.mono_l : ∀ k, (∀ y0 y1 y2 y3 y4, LeO (vocab_Check.l0 k y0 y1 y2 y3 y4) (vocab_Check.l0 (k + 1) y0 y1 y2 y3 y4)) ∧ (∀ y0 y1 y2 y3 y4, LeO (vocab_Check.l1 k y0 y1 y2 y3 y4) (vocab_Check.l1 (k + 1) y0 y1 y2 y3 y4))
  | 0 => ⟨fun _ _ _ _ _ r h => by simp [vocab_Check.l0] at h, fun _ _ _ _ _ r h => by simp [vocab_Check.l1] at h⟩
  | k + 1 => by
    obtain ⟨ih0, ih1⟩ := vocab_Check.mono_l k
    refine ⟨?_, ?_⟩
    · intro y0 y1 y2 y3 y4
      unfold vocab_Check.l0
      repeat' first
      | (with_reducible exact ih0 _ _ _ _ _)
      | (with_reducible exact ih1 _ _ _ _ _)
      | (with_reducible exact LeO.refl _)
      | (with_reducible exact LeO.none _)
      | (with_reducible refine LeO.ite ?_ ?_)
      | (with_reducible refine LeO.bind ?_ (fun _ => ?_))
      | exact ih0 _ _ _ _ _
      | exact ih1 _ _ _ _ _
      | exact LeO.none _
      | refine LeO.ite ?_ ?_
      | refine LeO.bind ?_ (fun _ => ?_)
    · intro y0 y1 y2 y3 y4
      unfold vocab_Check.l1
      repeat' first
      | (with_reducible exact ih0 _ _ _ _ _)
      | (with_reducible exact ih1 _ _ _ _ _)
      | (with_reducible exact LeO.refl _)
      | (with_reducible exact LeO.none _)
      | (with_reducible refine LeO.ite ?_ ?_)
      | (with_reducible refine LeO.bind ?_ (fun _ => ?_))
      | exact ih0 _ _ _ _ _
      | exact ih1 _ _ _ _ _
      | exact LeO.none _
      | refine LeO.ite ?_ ?_
      | refine LeO.bind ?_ (fun _ => ?_)
theorem vocab_Check.mono : ∀ a0 a1 k, LeO (vocab_Check.f k a0 a1) (vocab_Check.f (k + 1) a0 a1) := by
  intro a0 a1 k
  obtain ⟨ih0, ih1⟩ := vocab_Check.mono_l k
  unfold vocab_Check.f
  repeat' first
      | (with_reducible exact ih0 _ _ _ _ _)
      | (with_reducible exact ih1 _ _ _ _ _)
      | (with_reducible exact LeO.refl _)
      | (with_reducible exact LeO.none _)
      | (with_reducible refine LeO.ite ?_ ?_)
      | (with_reducible refine LeO.bind ?_ (fun _ => ?_))
      | exact ih0 _ _ _ _ _
      | exact ih1 _ _ _ _ _
      | exact LeO.none _
      | refine LeO.ite ?_ ?_
      | refine LeO.bind ?_ (fun _ => ?_)
def vocab_Check.T22 : Bool × List (List Nat × List Nat) := (true, [([], []), ([0], [0]), ([1], [1]), ([1], [1]), ([3, 1], [1, 3]), ([2, 4, 1, 1], [1, 2, 4]), ([5, 1], [1, 5]), ([1, 6], [1, 6]), ([7, 5], [7]), ([8], [8]), ([8], [8]), ([10, 8], [8, 10]), ([9, 11, 8, 8], [8, 9, 11]), ([12, 8], [8, 12]), ([8, 13], [8, 13]), ([14, 12], [14]), ([15], [15]), ([15], [15]), ([17, 15], [15, 17]), ([16, 18, 15, 15], [15, 16, 18]), ([19, 15], [15, 19]), ([15, 20], [15, 20]), ([21, 19], [21]), ([22], [22]), ([23, 22], [22, 23]), ([22], [22]), ([25, 22], [22, 25]), ([24, 26, 22], [22, 24, 26]), ([27, 22], [22, 27]), ([22], [22]), ([29, 22], [22, 29]), ([22], [22]), ([31, 22], [22, 31]), ([30, 32, 22], [22, 30, 32]), ([33, 22], [22, 33]), ([22], [22]), ([35, 22], [22, 35]), ([22], [22]), ([37, 22], [22, 37]), ([36, 38, 22], [22, 36, 38]), ([39, 22], [22, 39]), ([34, 40, 22], [22, 34, 40]), ([28, 41, 22], [22, 28, 41]), ([22, 42], [22, 42])])
def vocab_Check.B22 : List Nat := [0, 1, 3, 3, 11, 31, 63, 127, 255, 511, 511, 1535, 4095, 8191, 16383, 32767, 65535, 65535, 196607, 524287, 1048575, 2097151, 4194303, 8388607, 16777215, 8388607, 41943039, 134217727, 268435455, 8388607, 545259519, 8388607, 2155872255, 8061452287, 16651386879, 8388607, 34368126975, 8388607, 137447342079, 515404464127, 1065160278015, 2198494773247, 4398046511103, 8796093022207]
theorem vocab_Check.tab22 : rtab .any (opsOf Try.f53 22) = vocab_Check.T22 := by kernel_rfl
theorem vocab_Check.bits22 : waitsOk vocab_Check.T22.2 vocab_Check.B22 = true := by kernel_rfl
set_option maxHeartbeats 8000000 in
set_option maxRecDepth 100000 in
theorem vocab_Check.calls (k : Nat) (A0_0 : Option Addr) (c0_0 : Nat) (l0_0 : List ByteArray) (A0_1 : Option Addr) (c0_1 : Nat) (l0_1 : List (S99)) (r1 : Int) (r2 : Int) (w : World) (hr0_0 : Kd.C Kd.string w A0_0 l0_0.length l0_0) (hc0_0 : l0_0.length ≤ c0_0) (hr0_1 : Kd.C k99 w A0_1 l0_1.length l0_1) (hc0_1 : l0_1.length ≤ c0_1) (h : vocab_Check.f k l0_0 l0_1 = some (r1, r2)) :
    Calls Try.prog 53 #[.agg #[.slice A0_0 l0_0.length c0_0, .slice A0_1 l0_1.length c0_1]] w fun e w' => e = .returned (.tuple #[.int .i64 r1, .int .i64 r2]) ∧ Below w.heap.size w w' := by
 have hu52 := Try.underlying52
 have hu99 := Try.underlying99
 have hu140 := Try.underlying140
 have HR0_0 := ym hr0_0
 have HC0_0 := ym hc0_0
 clear hr0_0 hc0_0
 have HR0_1 := ym hr0_1
 have HC0_1 := ym hc0_1
 clear hr0_1 hc0_1
 have HB := ym (Below.refl w.heap.size w)
 have H : (if (l0_0.length : Int) > 512 then (some (512, 130)) else (vocab_Check.l0 k l0_0 (l0_0.length : Int) 0 l0_0 l0_1)) = some (r1, r2) := h
 clear h
 by_cases c2 : (l0_0.length : Int) > 512
 ·
  rw [if_pos c2] at H
  have c2b0 : decide (512 < (l0_0.length : Int)) = true := decide_eq_true c2
  have c2b1 : decide (512 < l0_0.length) = true := decide_eq_true (by omega)
  clear c2
  simp only [Option.some.injEq, Prod.mk.injEq] at H
  obtain ⟨rfl, rfl⟩ := H
  go_enter Try.func53, Try.ntmps53
  go_wp2_with (first | ((with_reducible refine gate_dst (N := 1) rfl ?_); refine box_event ?hg (N := 1) ?hd (cs := #[.slice A0_0 l0_0.length c0_0, .slice A0_1 l0_1.length c0_1]) (t := 52) ?hr ?_; (case hd => rfl); (case hg => rfl); (case hr => first | (go_simp; done) | (go_simp; rfl)); intro gb215 hg w3 hbox hb; have n0_ := ym (yn yb hb); have n1_ := ym (hbox); have n2_ := ym ((by rw [hg]; exact (below_size yb) : w.heap.size ≤ gb215)); have n3_ := n2_; clear HB; have HB := n0_; have BK215 := n1_; have GW215 := n2_; have GE215 := n3_; clear n0_ n1_ n2_ n3_; clear hb hbox hg; have hcz4_0 : w3.cell? ⟨gb215, 0, none⟩ = some (.slice A0_0 l0_0.length c0_0) := (yw BK215.out 0).trans rfl; have hcz4_1 : w3.cell? ⟨gb215, 1, none⟩ = some (.slice A0_1 l0_1.length c0_1) := (yw BK215.out 1).trans rfl; have hfz4_0 := yv BK215.out 0; have hfz4_1 := yv BK215.out 1))
  go_ret2
  exact ⟨by first | rfl | (simp [errW_none, errW_some] <;> rfl) | (simp [*, errW_none, errW_some] <;> rfl), by repeat (first | (with_reducible first | exact HB.out | apply y3 | refine ys ?_ GE215.out) | exact HB.out)⟩
 rw [if_neg c2] at H
 have c2b0 : decide (512 < (l0_0.length : Int)) = false := decide_eq_false c2
 have c2b1 : decide (512 < l0_0.length) = false := decide_eq_false (by omega)
 clear c2
 have H' := ym H
 clear H
 go_enter Try.func53, Try.ntmps53
 go_wp2_with (first | ((with_reducible refine gate_dst (N := 1) rfl ?_); refine box_event ?hg (N := 1) ?hd (cs := #[.slice A0_0 l0_0.length c0_0, .slice A0_1 l0_1.length c0_1]) (t := 52) ?hr ?_; (case hd => rfl); (case hg => rfl); (case hr => first | (go_simp; done) | (go_simp; rfl)); intro gb215 hg w5 hbox hb; have n0_ := ym (yn yb hb); have n1_ := ym (hbox); have n2_ := ym ((by rw [hg]; exact (below_size yb) : w.heap.size ≤ gb215)); have n3_ := n2_; clear HB; have HB := n0_; have BK215 := n1_; have GW215 := n2_; have GE215 := n3_; clear n0_ n1_ n2_ n3_; clear hb hbox hg; have hcz6_0 : w5.cell? ⟨gb215, 0, none⟩ = some (.slice A0_0 l0_0.length c0_0) := (yw BK215.out 0).trans rfl; have hcz6_1 : w5.cell? ⟨gb215, 1, none⟩ = some (.slice A0_1 l0_1.length c0_1) := (yw BK215.out 1).trans rfl; have hfz6_0 := yv BK215.out 0; have hfz6_1 := yv BK215.out 1) | ((with_reducible refine gate_dst (N := 19) rfl ?_); refine Seen.map_event 137 9 3 ?hg ?ho ?_; (case hg => rfl); (case ho => rfl); intro gmT hgm wq hS hb; have n0_ := ym (yq BK215.out hb); have n1_ := ym (below_then HB.out (below_size HB.out) hb); have HGgmT := ym (by rw [hgm]; exact blk_lt BK215.out : gb215 < gmT); have HZgmT := ym (by rw [hgm]; exact below_size HB.out : w.heap.size ≤ gmT); (try clear SM); have SM := ym hS; clear BK215 HB hb hgm hS; have BK215 := n0_; have HB := n1_; clear n0_ n1_; have hczq_0 := (yw BK215.out 0).trans rfl; have hczq_1 := (yw BK215.out 1).trans rfl; have hfzq_0 := yv BK215.out 0; have hfzq_1 := yv BK215.out 1))
 clear hczq_0 hczq_1 hfzq_0 hfzq_1
 go_loopg [23] k (fun kq v23 w' => ∃ (x23_1 : Int), v23 = .int .i64 x23_1 ∧ Aside0 (vocab_Check.l0 kq l0_0 (l0_0.length : Int) x23_1 l0_0 l0_1 = some (r1, r2)) ∧ Aside0 (kq ≤ k) ∧ Aside0 (w'.heap[gb215]? = some (.cells #[(.slice A0_0 l0_0.length c0_0), (.slice A0_1 l0_1.length c0_1)] 52 (0, 0))) ∧ Aside0 (Below w.heap.size w w') ∧ Aside0 (0 ≤ x23_1 ∧ x23_1 ≤ (l0_0.length : Int)) ∧ Aside0 (Seen.Seen Try.prog 9 3 w' gmT ((l0_0.take x23_1.toNat).map Value.string)))
 case atStart => exact ⟨(0), y7, H', ⟨Nat.le_refl _⟩, ⟨by (with_reducible repeat refine y4 ?_); exact BK215.out⟩, ⟨by repeat (first | (with_reducible first | exact HB.out | apply y3 | refine ys ?_ GE215.out) | exact HB.out)⟩, ⟨⟨by omega, by omega⟩⟩, ⟨by simpa using SM.out⟩⟩
 case round =>
  clear H'
  try clear c2
  try clear c2b0
  try clear c2b1
  try clear p2
  try clear c5
  try clear hcz4_0
  try clear hcz4_1
  try clear hcz6_0
  try clear hcz6_1
  try clear hfz4_0
  try clear hfz4_1
  try clear hfz6_0
  try clear hfz6_1
  obtain ⟨x23_1, rfl, HA, HK1, BK215, HB, HX, SM⟩ := hrel
  cases gk with
  | zero => exact absurd HA.out (by simp [vocab_Check.l0])
  | succ k1 =>
   have H := HA.out
   clear HA
   simp only [vocab_Check.l0] at H
   by_cases c7 : x23_1 < (l0_0.length : Int)
   ·
    rw [if_pos c7] at H
    have c7b0 : decide (x23_1 < (l0_0.length : Int)) = true := decide_eq_true c7
    clear c7
    by_cases c8 : 0 ≤ x23_1
    ·
     rw [if_pos c8] at H
     have c8b0 : decide (0 ≤ x23_1) = true := decide_eq_true c8
     clear c8
     by_cases c9 : x23_1 < (l0_0.length : Int)
     ·
      rw [if_pos c9] at H
      have c9b0 : decide (x23_1 < (l0_0.length : Int)) = true := decide_eq_true c9
      clear c9
      replace H := Option.bind_eq_some_iff.mp H
      obtain ⟨t217, A100, H⟩ := H
      replace H : (if t217 = true then (some (x23_1, 130)) else (if (((rdOf ByteArray.empty l0_0 x23_1).toList == ([] : List UInt8)) != (x23_1 == 0)) = true then (some (x23_1, 130)) else (if ((rdOf ByteArray.empty l0_0 x23_1).size : Int) > 64 then (some (x23_1, 130)) else (vocab_Check.l0 k1 l0_0 (l0_0.length : Int) (wrap64 (x23_1 + 1)) l0_0 l0_1)))) = some (r1, r2) := H
      have A10 := ym A100
      clear A100
      by_cases c11 : t217 = true
      ·
       subst c11
       have H1 : (some (x23_1, 130)) = some (r1, r2) := by rw [if_pos rfl] at H; exact H
       clear H
       have H := H1
       clear H1
       simp only [Option.some.injEq, Prod.mk.injEq] at H
       obtain ⟨rfl, rfl⟩ := H
       have p216 : 0 ≤ (x23_1 : Int) := of_decide_eq_true y5
       have q216 : x23_1 < (l0_0.length : Int) := of_decide_eq_true y5
       obtain ⟨ad216, e216, hx216_0⟩ := Kd.at_string HR0_0.out x23_1 p216 q216
       cases e216
       replace hx216_0 := (HB.out.cell (World.block_lt_of_cell? w _ hx216_0)).trans hx216_0
       replace p216 := eq_true p216
       replace q216 := eq_true q216
       have KS := ym (vocab_SeenText.size A10.out)
       have KR := ym (vocab_SeenText.mem A10.out)
       go_wp2_with (first | (at_lookup; refine Seen.look SM.out vk_string _ _ 137 rfl rfl Try.underlying137 Try.underlying3 vk_zero rfl _ rfl _ (WideMaps.keyOf_string_mk Try.underlying9 KS.out) true KR.out ?_; intro c_))
       go_ret2
       exact ⟨by first | rfl | (simp [errW_none, errW_some] <;> rfl) | (simp [*, errW_none, errW_some] <;> rfl), by repeat (first | (with_reducible first | exact HB.out | apply y3 | refine ys ?_ GE215.out) | exact HB.out)⟩
      replace c11 := Bool.eq_false_iff.mpr c11
      subst c11
      have H1 : (if (((rdOf ByteArray.empty l0_0 x23_1).toList == ([] : List UInt8)) != (x23_1 == 0)) = true then (some (x23_1, 130)) else (if ((rdOf ByteArray.empty l0_0 x23_1).size : Int) > 64 then (some (x23_1, 130)) else (vocab_Check.l0 k1 l0_0 (l0_0.length : Int) (wrap64 (x23_1 + 1)) l0_0 l0_1))) = some (r1, r2) := by rw [if_neg (show ¬ (false = true) by decide)] at H; exact H
      clear H
      have H := H1
      clear H1
      by_cases c12 : (((rdOf ByteArray.empty l0_0 x23_1).toList == ([] : List UInt8)) != (x23_1 == 0)) = true
      ·
       rw [if_pos c12] at H
       have c12b0 : (((rdOf ByteArray.empty l0_0 x23_1).toList == ([] : List UInt8)) != (x23_1 == 0)) = true := c12
       have c12e : (rdOf ByteArray.empty l0_0 x23_1).toList.isEmpty = (!(x23_1 == 0)) := Seen.test_ne c12b0
       (try (have c12b1 : decide (((rdOf ByteArray.empty l0_0 x23_1).toList == ([] : List UInt8)) = (x23_1 == 0)) = false := by simpa using c12))
       (try (have c12b2 : (((rdOf ByteArray.empty l0_0 x23_1).toList == ([] : List UInt8)) == (x23_1 == 0)) = false := by simpa using c12))
       (try (have c12b3 : ¬ (((rdOf ByteArray.empty l0_0 x23_1).toList == ([] : List UInt8)) = (x23_1 == 0)) := by simpa using c12))
       clear c12
       simp only [Option.some.injEq, Prod.mk.injEq] at H
       obtain ⟨rfl, rfl⟩ := H
       have p216 : 0 ≤ (x23_1 : Int) := of_decide_eq_true y5
       have q216 : x23_1 < (l0_0.length : Int) := of_decide_eq_true y5
       obtain ⟨ad216, e216, hx216_0⟩ := Kd.at_string HR0_0.out x23_1 p216 q216
       cases e216
       replace hx216_0 := (HB.out.cell (World.block_lt_of_cell? w _ hx216_0)).trans hx216_0
       replace p216 := eq_true p216
       replace q216 := eq_true q216
       have KS := ym (vocab_SeenText.size A10.out)
       have KR := ym (vocab_SeenText.mem A10.out)
       go_wp2_with (first | (at_lookup; refine Seen.look SM.out vk_string _ _ 137 rfl rfl Try.underlying137 Try.underlying3 vk_zero rfl _ rfl _ (WideMaps.keyOf_string_mk Try.underlying9 KS.out) false KR.out ?_; intro c_))
       go_ret2
       exact ⟨by first | rfl | (simp [errW_none, errW_some] <;> rfl) | (simp [*, errW_none, errW_some] <;> rfl), by repeat (first | (with_reducible first | exact HB.out | apply y3 | refine ys ?_ GE215.out) | exact HB.out)⟩
      rw [if_neg c12] at H
      have c12b0 : (((rdOf ByteArray.empty l0_0 x23_1).toList == ([] : List UInt8)) != (x23_1 == 0)) = false := by simpa using c12
      have c12e : (rdOf ByteArray.empty l0_0 x23_1).toList.isEmpty = ((x23_1 == 0)) := Seen.test_ne0 c12b0
      (try (have c12b1 : decide (((rdOf ByteArray.empty l0_0 x23_1).toList == ([] : List UInt8)) = (x23_1 == 0)) = true := by simpa using c12))
      (try (have c12b2 : (((rdOf ByteArray.empty l0_0 x23_1).toList == ([] : List UInt8)) == (x23_1 == 0)) = true := by simpa using c12))
      clear c12
      by_cases c13 : ((rdOf ByteArray.empty l0_0 x23_1).size : Int) > 64
      ·
       rw [if_pos c13] at H
       have c13b0 : decide (64 < ((rdOf ByteArray.empty l0_0 x23_1).size : Int)) = true := decide_eq_true c13
       have c13b1 : decide (64 < (rdOf ByteArray.empty l0_0 x23_1).size) = true := decide_eq_true (by omega)
       clear c13
       simp only [Option.some.injEq, Prod.mk.injEq] at H
       obtain ⟨rfl, rfl⟩ := H
       have p216 : 0 ≤ (x23_1 : Int) := of_decide_eq_true y5
       have q216 : x23_1 < (l0_0.length : Int) := of_decide_eq_true y5
       obtain ⟨ad216, e216, hx216_0⟩ := Kd.at_string HR0_0.out x23_1 p216 q216
       cases e216
       replace hx216_0 := (HB.out.cell (World.block_lt_of_cell? w _ hx216_0)).trans hx216_0
       replace p216 := eq_true p216
       replace q216 := eq_true q216
       have KS := ym (vocab_SeenText.size A10.out)
       have KR := ym (vocab_SeenText.mem A10.out)
       go_wp2_with (first | (at_lookup; refine Seen.look SM.out vk_string _ _ 137 rfl rfl Try.underlying137 Try.underlying3 vk_zero rfl _ rfl _ (WideMaps.keyOf_string_mk Try.underlying9 KS.out) false KR.out ?_; intro c_))
       go_ret2
       exact ⟨by first | rfl | (simp [errW_none, errW_some] <;> rfl) | (simp [*, errW_none, errW_some] <;> rfl), by repeat (first | (with_reducible first | exact HB.out | apply y3 | refine ys ?_ GE215.out) | exact HB.out)⟩
      rw [if_neg c13] at H
      have c13b0 : decide (64 < ((rdOf ByteArray.empty l0_0 x23_1).size : Int)) = false := decide_eq_false c13
      have c13b1 : decide (64 < (rdOf ByteArray.empty l0_0 x23_1).size) = false := decide_eq_false (by omega)
      clear c13
      have H' := ym H
      clear H
      have p216 : 0 ≤ (x23_1 : Int) := of_decide_eq_true y5
      have q216 : x23_1 < (l0_0.length : Int) := of_decide_eq_true y5
      obtain ⟨ad216, e216, hx216_0⟩ := Kd.at_string HR0_0.out x23_1 p216 q216
      cases e216
      replace hx216_0 := (HB.out.cell (World.block_lt_of_cell? w _ hx216_0)).trans hx216_0
      replace p216 := eq_true p216
      replace q216 := eq_true q216
      have KS := ym (vocab_SeenText.size A10.out)
      have KR := ym (vocab_SeenText.mem A10.out)
      have WX := ym (vk_wf HX.out HR0_0.out.2.1)
      have WN := ym (vk_next HX.out HR0_0.out.2.1 (of_decide_eq_true (by with_reducible assumption : decide (x23_1 < (l0_0.length : Int)) = true)))
      go_wp2_with (first | (at_lookup; refine Seen.look SM.out vk_string _ _ 137 rfl rfl Try.underlying137 Try.underlying3 vk_zero rfl _ rfl _ (WideMaps.keyOf_string_mk Try.underlying9 KS.out) false KR.out ?_; intro c_) | (at_mapUpdate; refine Seen.put SM.out vk_string _ _ _ 137 rfl rfl Try.underlying137 Try.underlying3 ?hlen rfl _ rfl _ (WideMaps.keyOf_string_mk Try.underlying9 KS.out) x23_1 rfl WX.out ?_; (case hlen => exact vk_lt HR0_0.out.2.1 WN.out); intro wq hS hgq; clear SM; have SM := ym hS; have nb_ := ym (blk_grown BK215.out hgq (by intro e_; have := HGgmT.out; injection e_ with e_; omega)); have nh_ := ym (pw_below_grown HB.out _ (below_size HB.out) hgq (by intro k_ e_; injection e_ with e_; have := HZgmT.out; omega)); clear BK215 HB hgq hS; have BK215 := nb_; have HB := nh_; clear nb_ nh_))
      go_roundg k1
      case measure => have := HK1.out; omega
      case rel => exact ⟨(wrap64 (x23_1 + 1)), y7, H', ⟨by have := HK1.out; omega⟩, ⟨by (with_reducible repeat refine y4 ?_); exact BK215.out⟩, ⟨by repeat (first | (with_reducible first | exact HB.out | apply y3 | refine ys ?_ GE215.out) | exact HB.out)⟩, ⟨⟨by have := HX.out; rw [WN.out.1]; omega, by have := WN.out.2; rw [WN.out.1]; omega⟩⟩, ⟨vk_step HX.out WN.out SM.out⟩⟩
     rw [if_neg c9] at H
     exact absurd H (by simp)
    rw [if_neg c8] at H
    exact absurd H (by simp)
   rw [if_neg c7] at H
   have c7b0 : decide (x23_1 < (l0_0.length : Int)) = false := decide_eq_false c7
   clear c7
   by_cases c14 : (l0_0.length : Int) < 2
   ·
    rw [if_pos c14] at H
    have c14b0 : decide ((l0_0.length : Int) < 2) = true := decide_eq_true c14
    have c14b1 : decide (l0_0.length < 2) = true := decide_eq_true (by omega)
    clear c14
    simp only [Option.some.injEq, Prod.mk.injEq] at H
    obtain ⟨rfl, rfl⟩ := H
    have hcz15_0 : wr.cell? ⟨gb215, 0, none⟩ = some (.slice A0_0 l0_0.length c0_0) := (yw BK215.out 0).trans rfl
    have hcz15_1 : wr.cell? ⟨gb215, 1, none⟩ = some (.slice A0_1 l0_1.length c0_1) := (yw BK215.out 1).trans rfl
    have hfz15_0 := yv BK215.out 0
    have hfz15_1 := yv BK215.out 1
    go_wp2
    go_ret2
    exact ⟨by first | rfl | (simp [errW_none, errW_some] <;> rfl) | (simp [*, errW_none, errW_some] <;> rfl), by repeat (first | (with_reducible first | exact HB.out | apply y3 | refine ys ?_ GE215.out) | exact HB.out)⟩
   rw [if_neg c14] at H
   have c14b0 : decide ((l0_0.length : Int) < 2) = false := decide_eq_false c14
   have c14b1 : decide (l0_0.length < 2) = false := decide_eq_false (by omega)
   clear c14
   by_cases c16 : (l0_1.length : Int) > 1024
   ·
    rw [if_pos c16] at H
    have c16b0 : decide (1024 < (l0_1.length : Int)) = true := decide_eq_true c16
    have c16b1 : decide (1024 < l0_1.length) = true := decide_eq_true (by omega)
    clear c16
    simp only [Option.some.injEq, Prod.mk.injEq] at H
    obtain ⟨rfl, rfl⟩ := H
    have hcz17_0 : wr.cell? ⟨gb215, 0, none⟩ = some (.slice A0_0 l0_0.length c0_0) := (yw BK215.out 0).trans rfl
    have hcz17_1 : wr.cell? ⟨gb215, 1, none⟩ = some (.slice A0_1 l0_1.length c0_1) := (yw BK215.out 1).trans rfl
    have hfz17_0 := yv BK215.out 0
    have hfz17_1 := yv BK215.out 1
    go_wp2
    go_ret2
    exact ⟨by first | rfl | (simp [errW_none, errW_some] <;> rfl) | (simp [*, errW_none, errW_some] <;> rfl), by repeat (first | (with_reducible first | exact HB.out | apply y3 | refine ys ?_ GE215.out) | exact HB.out)⟩
   rw [if_neg c16] at H
   have c16b0 : decide (1024 < (l0_1.length : Int)) = false := decide_eq_false c16
   have c16b1 : decide (1024 < l0_1.length) = false := decide_eq_false (by omega)
   clear c16
   have H' := ym H
   clear H
   have hcz18_0 : wr.cell? ⟨gb215, 0, none⟩ = some (.slice A0_0 l0_0.length c0_0) := (yw BK215.out 0).trans rfl
   have hcz18_1 : wr.cell? ⟨gb215, 1, none⟩ = some (.slice A0_1 l0_1.length c0_1) := (yw BK215.out 1).trans rfl
   have hfz18_0 := yv BK215.out 0
   have hfz18_1 := yv BK215.out 1
   go_wp2_with (first | ((with_reducible refine gate_dst (N := 65) rfl ?_); refine Seen.map_event 139 140 3 ?hg ?ho ?_; (case hg => rfl); (case ho => rfl); intro gmM hgm wq hS hb; have n0_ := ym (yq BK215.out hb); have n1_ := ym (below_then HB.out (below_size HB.out) hb); have HGgmM := ym (by rw [hgm]; exact blk_lt BK215.out : gb215 < gmM); have HZgmM := ym (by rw [hgm]; exact below_size HB.out : w.heap.size ≤ gmM); (try clear SM); have SM := ym hS; clear BK215 HB hb hgm hS; have BK215 := n0_; have HB := n1_; clear n0_ n1_; have hczq_0 := (yw BK215.out 0).trans rfl; have hczq_1 := (yw BK215.out 1).trans rfl; have hfzq_0 := yv BK215.out 0; have hfzq_1 := yv BK215.out 1))
   clear hczq_0 hczq_1 hfzq_0 hfzq_1 HX
   go_loopg [69] k1 (fun kq v69 w' => ∃ (x69_2 : Int), v69 = .int .i64 x69_2 ∧ Aside0 (vocab_Check.l1 kq l0_1 (l0_1.length : Int) x69_2 l0_0 l0_1 = some (r1, r2)) ∧ Aside0 (kq ≤ k1) ∧ Aside0 (w'.heap[gb215]? = some (.cells #[(.slice A0_0 l0_0.length c0_0), (.slice A0_1 l0_1.length c0_1)] 52 (0, 0))) ∧ Aside0 (Below w.heap.size w w') ∧ Aside0 (0 ≤ x69_2 ∧ x69_2 ≤ (l0_1.length : Int)) ∧ Aside0 (Seen.Seen Try.prog 140 3 w' gmM ((l0_1.take x69_2.toNat).map vkm)))
   case atStart => exact ⟨(0), y7, H', ⟨Nat.le_refl _⟩, ⟨by (with_reducible repeat refine y4 ?_); exact BK215.out⟩, ⟨by repeat (first | (with_reducible first | exact HB.out | apply y3 | refine ys ?_ GE215.out) | exact HB.out)⟩, ⟨⟨by omega, by omega⟩⟩, ⟨by simpa using SM.out⟩⟩
   case round =>
    clear H'
    try clear c1
    try clear c2
    try clear c2b0
    try clear c2b1
    try clear p2
    try clear q2
    try clear hx2
    try clear c5
    try clear p6
    try clear c7
    try clear c7b0
    try clear c8
    try clear c8b0
    try clear c9
    try clear c9b0
    try clear c11
    try clear c12
    try clear c12b0
    try clear c12b1
    try clear c12b2
    try clear c13
    try clear c13b0
    try clear c13b1
    try clear c14
    try clear c14b0
    try clear c14b1
    try clear c16
    try clear c16b0
    try clear c16b1
    try clear hcz15_0
    try clear hcz15_1
    try clear hcz17_0
    try clear hcz17_1
    try clear hcz18_0
    try clear hcz18_1
    try clear hcz4_0
    try clear hcz4_1
    try clear hcz6_0
    try clear hcz6_1
    try clear hfz15_0
    try clear hfz15_1
    try clear hfz17_0
    try clear hfz17_1
    try clear hfz18_0
    try clear hfz18_1
    try clear hfz4_0
    try clear hfz4_1
    try clear hfz6_0
    try clear hfz6_1
    try clear hx216_0
    try clear p2
    try clear p216
    try clear q216
    obtain ⟨x69_2, rfl, HA, HK2, BK215, HB, HX, SM⟩ := hrel
    have HBW := HB
    clear HB
    have HB := ym (Below.refl wr.heap.size wr)
    have nr0_ := ym (Kd.C_below HR0_0.out HBW.out)
    have nr1_ := ym (Kd.C_below HR0_1.out HBW.out)
    clear HR0_0 HR0_1
    have HR0_0 := nr0_
    have HR0_1 := nr1_
    clear nr0_ nr1_
    have ZW := ym (below_size HBW.out)
    cases gk with
    | zero => exact absurd HA.out (by simp [vocab_Check.l1])
    | succ k2 =>
     have H := HA.out
     clear HA
     simp only [vocab_Check.l1] at H
     by_cases c19 : x69_2 < (l0_1.length : Int)
     ·
      rw [if_pos c19] at H
      have c19b0 : decide (x69_2 < (l0_1.length : Int)) = true := decide_eq_true c19
      clear c19
      by_cases c20 : 0 ≤ x69_2
      ·
       rw [if_pos c20] at H
       have c20b0 : decide (0 ≤ x69_2) = true := decide_eq_true c20
       clear c20
       by_cases c21 : x69_2 < (l0_1.length : Int)
       ·
        rw [if_pos c21] at H
        have c21b0 : decide (x69_2 < (l0_1.length : Int)) = true := decide_eq_true c21
        clear c21
        replace H := Option.bind_eq_some_iff.mp H
        obtain ⟨t221, A220, H⟩ := H
        replace H : (if t221 = true then (some (x69_2, 131)) else ((vocab_says.f l0_0 l0_1 ((rd_T99 l0_1 x69_2).f0)).bind fun t222 => (if t222 = true then ((vocab_says.f l0_0 l0_1 ((rd_T99 l0_1 x69_2).f1)).bind fun t223 => (if t223 = true then ((vocab_says.f l0_0 l0_1 ((rd_T99 l0_1 x69_2).f2)).bind fun t224 => (if t224 = true then (if 0 ≤ ((rd_T99 l0_1 x69_2).f2) then (if ((rd_T99 l0_1 x69_2).f2) < (l0_0.length : Int) then (if 0 ≤ ((rd_T99 l0_1 x69_2).f0) then (if ((rd_T99 l0_1 x69_2).f0) < (l0_0.length : Int) then (if 0 ≤ ((rd_T99 l0_1 x69_2).f1) then (if ((rd_T99 l0_1 x69_2).f1) < (l0_0.length : Int) then (if (rdOf ByteArray.empty l0_0 ((rd_T99 l0_1 x69_2).f0)).size + (rdOf ByteArray.empty l0_0 ((rd_T99 l0_1 x69_2).f1)).size ≤ 9223372036854775807 then (if (rdOf ByteArray.empty l0_0 ((rd_T99 l0_1 x69_2).f2)).toList = ((rdOf ByteArray.empty l0_0 ((rd_T99 l0_1 x69_2).f0)) ++ (rdOf ByteArray.empty l0_0 ((rd_T99 l0_1 x69_2).f1))).toList then (vocab_Check.l1 k2 l0_1 (l0_1.length : Int) (wrap64 (x69_2 + 1)) l0_0 l0_1) else (some (x69_2, 131))) else (none)) else (none)) else (none)) else (none)) else (none)) else (none)) else (none)) else (some (x69_2, 131)))) else (some (x69_2, 131)))) else (some (x69_2, 131))))) = some (r1, r2) := H
        have A22 := ym A220
        clear A220
        by_cases c23 : t221 = true
        ·
         subst c23
         have H1 : (some (x69_2, 131)) = some (r1, r2) := by rw [if_pos rfl] at H; exact H
         clear H
         have H := H1
         clear H1
         simp only [Option.some.injEq, Prod.mk.injEq] at H
         obtain ⟨rfl, rfl⟩ := H
         have p218 : 0 ≤ (x69_2 : Int) := of_decide_eq_true y5
         have q218 : x69_2 < (l0_1.length : Int) := of_decide_eq_true y5
         obtain ⟨ad218, e218, hx218_0, hx218_1, hx218_2⟩ := at_T99 HR0_1.out x69_2 p218 q218
         cases e218
         replace hx218_0 := (HB.out.cell (World.block_lt_of_cell? wr _ hx218_0)).trans hx218_0
         replace hx218_1 := (HB.out.cell (World.block_lt_of_cell? wr _ hx218_1)).trans hx218_1
         replace hx218_2 := (HB.out.cell (World.block_lt_of_cell? wr _ hx218_2)).trans hx218_2
         replace p218 := eq_true p218
         replace q218 := eq_true q218
         obtain ⟨kl_, hkl_⟩ := vocab_SeenMerge.key A22.out
         have KS := ym hkl_
         clear hkl_
         have KR := ym (vocab_SeenMerge.mem A22.out)
         try go_wp2_with (first | ((with_reducible refine gate_dst (N := 11) rfl ?_); refine box_event ?hg (N := 11) ?hd (cs := #[.int .i64 0, .int .i64 0, .int .i64 0]) (t := 99) ?hr ?_; (case hd => rfl); (case hg => rfl); (case hr => first | (go_simp; done) | (go_simp; rfl)); intro gb219 hg w24 hbox hb; have n0_ := ym (yq (g := gb215) (o := .cells #[.slice A0_0 l0_0.length c0_0, .slice (some ad218) l0_1.length c0_1] 52 (0, 0)) (yc BK215) hb); have n1_ := ym (yn yb hb); have n2_ := ym (hbox); have n3_ := ym ((by rw [hg]; exact (below_size yb) : wr.heap.size ≤ gb219)); have n4_ := n3_; have n5_ := ym ((by rw [hg]; exact Nat.ne_of_lt (blk_lt (g := gb215) (o := .cells #[.slice A0_0 l0_0.length c0_0, .slice (some ad218) l0_1.length c0_1] 52 (0, 0)) (yc BK215)) : gb215 ≠ gb219)); have n6_ := ym ((by rw [hg]; exact Nat.ne_of_gt (blk_lt (g := gb215) (o := .cells #[.slice A0_0 l0_0.length c0_0, .slice (some ad218) l0_1.length c0_1] 52 (0, 0)) (yc BK215)) : gb219 ≠ gb215)); clear BK215; clear HB; have BK215 := n0_; have HB := n1_; have BK219 := n2_; have GW219 := n3_; have GE219 := n4_; have NB215_219 := n5_; have NB219_215 := n6_; clear n0_ n1_ n2_ n3_ n4_ n5_ n6_; clear hb hbox hg; have hnb25 := NB219_215.out; have hnc25 := NB215_219.out; have hcz26_0 : w24.cell? ⟨gb219, 0, none⟩ = some (.int .i64 0) := (yw BK219.out 0).trans rfl; have hcz26_1 : w24.cell? ⟨gb219, 1, none⟩ = some (.int .i64 0) := (yw BK219.out 1).trans rfl; have hcz26_2 : w24.cell? ⟨gb219, 2, none⟩ = some (.int .i64 0) := (yw BK219.out 2).trans rfl; have hfz26_0 := yv BK219.out 0; have hfz26_1 := yv BK219.out 1; have hfz26_2 := yv BK219.out 2) | ((with_reducible refine gate_dst (N := 12) rfl ?_); refine box_event ?hg (N := 12) ?hd (cs := #[.int .i64 0, .int .i64 0]) (t := 140) ?hr ?_; (case hd => rfl); (case hg => rfl); (case hr => first | (go_simp; done) | (go_simp; rfl)); intro gb220 hg w27 hbox hb; have n0_ := ym (yq (g := gb215) (o := .cells #[.slice A0_0 l0_0.length c0_0, .slice (some ad218) l0_1.length c0_1] 52 (0, 0)) (by (with_reducible repeat refine y4 ?_); refine yx ?_ NB215_219.out _; (with_reducible repeat refine y4 ?_); refine yx ?_ NB215_219.out _; (with_reducible repeat refine y4 ?_); refine yx ?_ NB215_219.out _; (with_reducible repeat refine y4 ?_); exact BK215.out) hb); have n1_ := ym (yq (g := gb219) (o := .cells #[.int .i64 ((rd_T99 l0_1 x69_2).f0), .int .i64 ((rd_T99 l0_1 x69_2).f1), .int .i64 ((rd_T99 l0_1 x69_2).f2)] 99 (0, 0)) (by (with_reducible repeat refine y4 ?_); refine yy (cs := #[.int .i64 ((rd_T99 l0_1 x69_2).f0), .int .i64 ((rd_T99 l0_1 x69_2).f1), .int .i64 0]) ?_ 2 _ rfl; (with_reducible repeat refine y4 ?_); refine yy (cs := #[.int .i64 ((rd_T99 l0_1 x69_2).f0), .int .i64 0, .int .i64 0]) ?_ 1 _ rfl; (with_reducible repeat refine y4 ?_); refine yy (cs := #[.int .i64 0, .int .i64 0, .int .i64 0]) ?_ 0 _ rfl; (with_reducible repeat refine y4 ?_); exact BK219.out) hb); have n2_ := ym (yn yb hb); have n3_ := ym (hbox); have n4_ := ym ((by rw [hg]; exact (below_size yb) : wr.heap.size ≤ gb220)); have n5_ := n4_; have n6_ := ym ((by rw [hg]; exact Nat.ne_of_lt (blk_lt (g := gb215) (o := .cells #[.slice A0_0 l0_0.length c0_0, .slice (some ad218) l0_1.length c0_1] 52 (0, 0)) (by (with_reducible repeat refine y4 ?_); refine yx ?_ NB215_219.out _; (with_reducible repeat refine y4 ?_); refine yx ?_ NB215_219.out _; (with_reducible repeat refine y4 ?_); refine yx ?_ NB215_219.out _; (with_reducible repeat refine y4 ?_); exact BK215.out)) : gb215 ≠ gb220)); have n7_ := ym ((by rw [hg]; exact Nat.ne_of_gt (blk_lt (g := gb215) (o := .cells #[.slice A0_0 l0_0.length c0_0, .slice (some ad218) l0_1.length c0_1] 52 (0, 0)) (by (with_reducible repeat refine y4 ?_); refine yx ?_ NB215_219.out _; (with_reducible repeat refine y4 ?_); refine yx ?_ NB215_219.out _; (with_reducible repeat refine y4 ?_); refine yx ?_ NB215_219.out _; (with_reducible repeat refine y4 ?_); exact BK215.out)) : gb220 ≠ gb215)); have n8_ := ym ((by rw [hg]; exact Nat.ne_of_lt (blk_lt (g := gb219) (o := .cells #[.int .i64 ((rd_T99 l0_1 x69_2).f0), .int .i64 ((rd_T99 l0_1 x69_2).f1), .int .i64 ((rd_T99 l0_1 x69_2).f2)] 99 (0, 0)) (by (with_reducible repeat refine y4 ?_); refine yy (cs := #[.int .i64 ((rd_T99 l0_1 x69_2).f0), .int .i64 ((rd_T99 l0_1 x69_2).f1), .int .i64 0]) ?_ 2 _ rfl; (with_reducible repeat refine y4 ?_); refine yy (cs := #[.int .i64 ((rd_T99 l0_1 x69_2).f0), .int .i64 0, .int .i64 0]) ?_ 1 _ rfl; (with_reducible repeat refine y4 ?_); refine yy (cs := #[.int .i64 0, .int .i64 0, .int .i64 0]) ?_ 0 _ rfl; (with_reducible repeat refine y4 ?_); exact BK219.out)) : gb219 ≠ gb220)); have n9_ := ym ((by rw [hg]; exact Nat.ne_of_gt (blk_lt (g := gb219) (o := .cells #[.int .i64 ((rd_T99 l0_1 x69_2).f0), .int .i64 ((rd_T99 l0_1 x69_2).f1), .int .i64 ((rd_T99 l0_1 x69_2).f2)] 99 (0, 0)) (by (with_reducible repeat refine y4 ?_); refine yy (cs := #[.int .i64 ((rd_T99 l0_1 x69_2).f0), .int .i64 ((rd_T99 l0_1 x69_2).f1), .int .i64 0]) ?_ 2 _ rfl; (with_reducible repeat refine y4 ?_); refine yy (cs := #[.int .i64 ((rd_T99 l0_1 x69_2).f0), .int .i64 0, .int .i64 0]) ?_ 1 _ rfl; (with_reducible repeat refine y4 ?_); refine yy (cs := #[.int .i64 0, .int .i64 0, .int .i64 0]) ?_ 0 _ rfl; (with_reducible repeat refine y4 ?_); exact BK219.out)) : gb220 ≠ gb219)); clear BK215; clear BK219; clear HB; have BK215 := n0_; have BK219 := n1_; have HB := n2_; have BK220 := n3_; have GW220 := n4_; have GE220 := n5_; have NB215_220 := n6_; have NB220_215 := n7_; have NB219_220 := n8_; have NB220_219 := n9_; clear n0_ n1_ n2_ n3_ n4_ n5_ n6_ n7_ n8_ n9_; clear hb hbox hg; have hnb28 := NB220_215.out; have hnc28 := NB215_220.out; have hnb29 := NB220_219.out; have hnc29 := NB219_220.out; have hcz30_0 : w27.cell? ⟨gb220, 0, none⟩ = some (.int .i64 0) := (yw BK220.out 0).trans rfl; have hcz30_1 : w27.cell? ⟨gb220, 1, none⟩ = some (.int .i64 0) := (yw BK220.out 1).trans rfl; have hfz30_0 := yv BK220.out 0; have hfz30_1 := yv BK220.out 1) | (at_lookup; refine Seen.look (SM.out.below ?hb) vk_pair _ _ 139 rfl rfl Try.underlying139 Try.underlying3 vk_zero rfl _ rfl _ KS.out true KR.out ?_; (case hb => repeat (first | exact HB.out | apply ya | refine ys ?_ GE219.out | refine ys ?_ GE220.out)); intro c_))
         have n0_ : Aside0 (((w27.setCell ⟨gb220, 0, none⟩ (.int .i64 ((rd_T99 l0_1 x69_2).f0))).setCell ⟨gb220, 1, none⟩ (.int .i64 ((rd_T99 l0_1 x69_2).f1))).heap[gb215]? = some (.cells #[.slice A0_0 l0_0.length c0_0, .slice (some ad218) l0_1.length c0_1] 52 (0, 0))) := ⟨by (with_reducible repeat refine y4 ?_); refine yx ?_ NB215_220.out _; (with_reducible repeat refine y4 ?_); refine yx ?_ NB215_220.out _; (with_reducible repeat refine y4 ?_); exact BK215.out⟩
         have n1_ : Aside0 (((w27.setCell ⟨gb220, 0, none⟩ (.int .i64 ((rd_T99 l0_1 x69_2).f0))).setCell ⟨gb220, 1, none⟩ (.int .i64 ((rd_T99 l0_1 x69_2).f1))).heap[gb219]? = some (.cells #[.int .i64 ((rd_T99 l0_1 x69_2).f0), .int .i64 ((rd_T99 l0_1 x69_2).f1), .int .i64 ((rd_T99 l0_1 x69_2).f2)] 99 (0, 0))) := ⟨by (with_reducible repeat refine y4 ?_); refine yx ?_ NB219_220.out _; (with_reducible repeat refine y4 ?_); refine yx ?_ NB219_220.out _; (with_reducible repeat refine y4 ?_); exact BK219.out⟩
         have n2_ : Aside0 (((w27.setCell ⟨gb220, 0, none⟩ (.int .i64 ((rd_T99 l0_1 x69_2).f0))).setCell ⟨gb220, 1, none⟩ (.int .i64 ((rd_T99 l0_1 x69_2).f1))).heap[gb220]? = some (.cells #[.int .i64 ((rd_T99 l0_1 x69_2).f0), .int .i64 ((rd_T99 l0_1 x69_2).f1)] 140 (0, 0))) := ⟨by (with_reducible repeat refine y4 ?_); refine yy (cs := #[.int .i64 ((rd_T99 l0_1 x69_2).f0), .int .i64 0]) ?_ 1 _ rfl; (with_reducible repeat refine y4 ?_); refine yy (cs := #[.int .i64 0, .int .i64 0]) ?_ 0 _ rfl; (with_reducible repeat refine y4 ?_); exact BK220.out⟩
         have n3_ : Aside0 (Below wr.heap.size wr ((w27.setCell ⟨gb220, 0, none⟩ (.int .i64 ((rd_T99 l0_1 x69_2).f0))).setCell ⟨gb220, 1, none⟩ (.int .i64 ((rd_T99 l0_1 x69_2).f1)))) := ⟨by repeat (first | (with_reducible first | exact HB.out | apply y3 | refine ys ?_ GE215.out | refine ys ?_ GE219.out | refine ys ?_ GE220.out) | exact HB.out)⟩
         (try clear BK215)
         (try clear BK219)
         (try clear BK220)
         (try clear HB)
         generalize ((w27.setCell ⟨gb220, 0, none⟩ (.int .i64 ((rd_T99 l0_1 x69_2).f0))).setCell ⟨gb220, 1, none⟩ (.int .i64 ((rd_T99 l0_1 x69_2).f1))) = w31 at n0_ n1_ n2_ n3_ ⊢
         have BK215 := n0_
         have BK219 := n1_
         have BK220 := n2_
         have HB := n3_
         clear n0_ n1_ n2_ n3_
         (try (rw [drewN_self w31]; generalize hq_ : World.drewN w31 _ = w31; have n0_ : Aside0 (w31.heap[gb215]? = some (.cells #[.slice A0_0 l0_0.length c0_0, .slice (some ad218) l0_1.length c0_1] 52 (0, 0))) := ⟨by rw [← hq_]; exact (yc BK215)⟩; have n1_ : Aside0 (w31.heap[gb219]? = some (.cells #[.int .i64 ((rd_T99 l0_1 x69_2).f0), .int .i64 ((rd_T99 l0_1 x69_2).f1), .int .i64 ((rd_T99 l0_1 x69_2).f2)] 99 (0, 0))) := ⟨by rw [← hq_]; exact (yc BK219)⟩; have n2_ : Aside0 (w31.heap[gb220]? = some (.cells #[.int .i64 ((rd_T99 l0_1 x69_2).f0), .int .i64 ((rd_T99 l0_1 x69_2).f1)] 140 (0, 0))) := ⟨by rw [← hq_]; exact (yc BK220)⟩; have n3_ : Aside0 (Below wr.heap.size wr w31) := ⟨by rw [← hq_]; exact yb⟩; clear BK215 BK219 BK220 HB hq_; have BK215 := n0_; have BK219 := n1_; have BK220 := n2_; have HB := n3_; clear n0_ n1_ n2_ n3_))
         have n0_ := ym (yt BK215.out)
         have n1_ := ym (yt BK219.out)
         have n2_ := ym (yt BK220.out)
         have n3_ := ym (ye HB.out)
         clear BK215
         clear BK219
         clear BK220
         clear HB
         have BK215 := n0_
         have BK219 := n1_
         have BK220 := n2_
         have HB := n3_
         clear n0_ n1_ n2_ n3_
         refine start_ (n := 44) (S := fun w' => True) (ds := []) #[o_, o_, o_, o_, o_, o_, o_, o_, o_, o_, o_, o_, o_, o_, o_, o_, o_, o_, o_, o_, o_, o_, o_, o_, o_, o_, o_, o_, o_, o_, o_, o_, o_, o_, o_, o_, o_, o_, o_, o_, o_, o_, o_, o_] (by kernel_rfl) rfl rfl trivial (fun hHeld => ?_); refine with_tabW vocab_Check.tab22 vocab_Check.bits22 (fun HT_ HW_ => ?_)
         generalize w31.drew = w32 at BK215 BK219 BK220 HB hHeld ⊢
         refine zt (i := 0) (N := some 85) HT_ ?_
         refine zt (i := 1) (N := some 86) HT_ ?_
         refine zk (i := 2) (N := some 87) HT_ ?_
         refine zk (i := 3) (N := some 88) HT_ ?_
         refine zk (i := 4) (N := some 89) HT_ ?_
         refine zk (i := 5) (N := some 90) HT_ ?_
         refine zk (i := 6) (N := some 91) HT_ ?_
         refine zt (i := 7) (N := some 92) HT_ ?_
         refine zt (i := 8) (N := some 93) HT_ ?_
         refine zk (i := 9) (N := some 94) HT_ ?_
         refine zk (i := 10) (N := some 95) HT_ ?_
         refine zk (i := 11) (N := some 96) HT_ ?_
         refine zk (i := 12) (N := some 97) HT_ ?_
         refine zk (i := 13) (N := some 98) HT_ ?_
         refine zt (i := 14) (N := some 99) HT_ ?_
         refine zt (i := 15) (N := some 100) HT_ ?_
         refine zk (i := 16) (N := some 101) HT_ ?_
         refine zk (i := 17) (N := some 102) HT_ ?_
         refine zk (i := 18) (N := some 103) HT_ ?_
         refine zk (i := 19) (N := some 104) HT_ ?_
         refine zk (i := 20) (N := some 105) HT_ ?_
         refine zt (i := 21) (N := some 106) HT_ ?_
         refine zt (i := 22) (N := some 107) HT_ ?_
         refine zk (i := 23) (N := some 108) HT_ ?_
         refine zk (i := 24) (N := some 109) HT_ ?_
         refine zk (i := 25) (N := some 110) HT_ ?_
         refine zk (i := 26) (N := some 111) HT_ ?_
         refine zk (i := 27) (N := some 112) HT_ ?_
         refine zk (i := 28) (N := some 113) HT_ ?_
         refine zk (i := 29) (N := some 114) HT_ ?_
         refine zk (i := 30) (N := some 115) HT_ ?_
         refine zk (i := 31) (N := some 116) HT_ ?_
         refine zk (i := 32) (N := some 117) HT_ ?_
         refine zk (i := 33) (N := some 118) HT_ ?_
         refine zk (i := 34) (N := some 119) HT_ ?_
         refine zk (i := 35) (N := some 120) HT_ ?_
         refine zk (i := 36) (N := some 121) HT_ ?_
         refine zk (i := 37) (N := some 122) HT_ ?_
         refine zk (i := 38) (N := some 123) HT_ ?_
         refine zk (i := 39) (N := some 124) HT_ ?_
         refine zk (i := 40) (N := some 125) HT_ ?_
         refine zk (i := 41) (N := some 126) HT_ ?_
         refine zk (i := 42) (N := some 127) HT_ ?_
         refine zt (i := 43) (N := some 128) HT_ ?_
         refine done_ (done_of HT_.out (by kernel_rfl)) ?_
         try go_wp2
         go_ret2
         exact ⟨by first | rfl | (simp [errW_none, errW_some] <;> rfl) | (simp [*, errW_none, errW_some] <;> rfl), below_then HBW.out ZW.out yb⟩
        replace c23 := Bool.eq_false_iff.mpr c23
        subst c23
        have H1 : ((vocab_says.f l0_0 l0_1 ((rd_T99 l0_1 x69_2).f0)).bind fun t222 => (if t222 = true then ((vocab_says.f l0_0 l0_1 ((rd_T99 l0_1 x69_2).f1)).bind fun t223 => (if t223 = true then ((vocab_says.f l0_0 l0_1 ((rd_T99 l0_1 x69_2).f2)).bind fun t224 => (if t224 = true then (if 0 ≤ ((rd_T99 l0_1 x69_2).f2) then (if ((rd_T99 l0_1 x69_2).f2) < (l0_0.length : Int) then (if 0 ≤ ((rd_T99 l0_1 x69_2).f0) then (if ((rd_T99 l0_1 x69_2).f0) < (l0_0.length : Int) then (if 0 ≤ ((rd_T99 l0_1 x69_2).f1) then (if ((rd_T99 l0_1 x69_2).f1) < (l0_0.length : Int) then (if (rdOf ByteArray.empty l0_0 ((rd_T99 l0_1 x69_2).f0)).size + (rdOf ByteArray.empty l0_0 ((rd_T99 l0_1 x69_2).f1)).size ≤ 9223372036854775807 then (if (rdOf ByteArray.empty l0_0 ((rd_T99 l0_1 x69_2).f2)).toList = ((rdOf ByteArray.empty l0_0 ((rd_T99 l0_1 x69_2).f0)) ++ (rdOf ByteArray.empty l0_0 ((rd_T99 l0_1 x69_2).f1))).toList then (vocab_Check.l1 k2 l0_1 (l0_1.length : Int) (wrap64 (x69_2 + 1)) l0_0 l0_1) else (some (x69_2, 131))) else (none)) else (none)) else (none)) else (none)) else (none)) else (none)) else (none)) else (some (x69_2, 131)))) else (some (x69_2, 131)))) else (some (x69_2, 131)))) = some (r1, r2) := by rw [if_neg (show ¬ (false = true) by decide)] at H; exact H
        clear H
        have H := H1
        clear H1
        replace H := Option.bind_eq_some_iff.mp H
        obtain ⟨t222, A330, H⟩ := H
        replace H : (if t222 = true then ((vocab_says.f l0_0 l0_1 ((rd_T99 l0_1 x69_2).f1)).bind fun t223 => (if t223 = true then ((vocab_says.f l0_0 l0_1 ((rd_T99 l0_1 x69_2).f2)).bind fun t224 => (if t224 = true then (if 0 ≤ ((rd_T99 l0_1 x69_2).f2) then (if ((rd_T99 l0_1 x69_2).f2) < (l0_0.length : Int) then (if 0 ≤ ((rd_T99 l0_1 x69_2).f0) then (if ((rd_T99 l0_1 x69_2).f0) < (l0_0.length : Int) then (if 0 ≤ ((rd_T99 l0_1 x69_2).f1) then (if ((rd_T99 l0_1 x69_2).f1) < (l0_0.length : Int) then (if (rdOf ByteArray.empty l0_0 ((rd_T99 l0_1 x69_2).f0)).size + (rdOf ByteArray.empty l0_0 ((rd_T99 l0_1 x69_2).f1)).size ≤ 9223372036854775807 then (if (rdOf ByteArray.empty l0_0 ((rd_T99 l0_1 x69_2).f2)).toList = ((rdOf ByteArray.empty l0_0 ((rd_T99 l0_1 x69_2).f0)) ++ (rdOf ByteArray.empty l0_0 ((rd_T99 l0_1 x69_2).f1))).toList then (vocab_Check.l1 k2 l0_1 (l0_1.length : Int) (wrap64 (x69_2 + 1)) l0_0 l0_1) else (some (x69_2, 131))) else (none)) else (none)) else (none)) else (none)) else (none)) else (none)) else (none)) else (some (x69_2, 131)))) else (some (x69_2, 131)))) else (some (x69_2, 131))) = some (r1, r2) := H
        have A33 := ym A330
        clear A330
        by_cases c34 : t222 = true
        ·
         subst c34
         have H1 : ((vocab_says.f l0_0 l0_1 ((rd_T99 l0_1 x69_2).f1)).bind fun t223 => (if t223 = true then ((vocab_says.f l0_0 l0_1 ((rd_T99 l0_1 x69_2).f2)).bind fun t224 => (if t224 = true then (if 0 ≤ ((rd_T99 l0_1 x69_2).f2) then (if ((rd_T99 l0_1 x69_2).f2) < (l0_0.length : Int) then (if 0 ≤ ((rd_T99 l0_1 x69_2).f0) then (if ((rd_T99 l0_1 x69_2).f0) < (l0_0.length : Int) then (if 0 ≤ ((rd_T99 l0_1 x69_2).f1) then (if ((rd_T99 l0_1 x69_2).f1) < (l0_0.length : Int) then (if (rdOf ByteArray.empty l0_0 ((rd_T99 l0_1 x69_2).f0)).size + (rdOf ByteArray.empty l0_0 ((rd_T99 l0_1 x69_2).f1)).size ≤ 9223372036854775807 then (if (rdOf ByteArray.empty l0_0 ((rd_T99 l0_1 x69_2).f2)).toList = ((rdOf ByteArray.empty l0_0 ((rd_T99 l0_1 x69_2).f0)) ++ (rdOf ByteArray.empty l0_0 ((rd_T99 l0_1 x69_2).f1))).toList then (vocab_Check.l1 k2 l0_1 (l0_1.length : Int) (wrap64 (x69_2 + 1)) l0_0 l0_1) else (some (x69_2, 131))) else (none)) else (none)) else (none)) else (none)) else (none)) else (none)) else (none)) else (some (x69_2, 131)))) else (some (x69_2, 131)))) = some (r1, r2) := by rw [if_pos rfl] at H; exact H
         clear H
         have H := H1
         clear H1
         replace H := Option.bind_eq_some_iff.mp H
         obtain ⟨t223, A350, H⟩ := H
         replace H : (if t223 = true then ((vocab_says.f l0_0 l0_1 ((rd_T99 l0_1 x69_2).f2)).bind fun t224 => (if t224 = true then (if 0 ≤ ((rd_T99 l0_1 x69_2).f2) then (if ((rd_T99 l0_1 x69_2).f2) < (l0_0.length : Int) then (if 0 ≤ ((rd_T99 l0_1 x69_2).f0) then (if ((rd_T99 l0_1 x69_2).f0) < (l0_0.length : Int) then (if 0 ≤ ((rd_T99 l0_1 x69_2).f1) then (if ((rd_T99 l0_1 x69_2).f1) < (l0_0.length : Int) then (if (rdOf ByteArray.empty l0_0 ((rd_T99 l0_1 x69_2).f0)).size + (rdOf ByteArray.empty l0_0 ((rd_T99 l0_1 x69_2).f1)).size ≤ 9223372036854775807 then (if (rdOf ByteArray.empty l0_0 ((rd_T99 l0_1 x69_2).f2)).toList = ((rdOf ByteArray.empty l0_0 ((rd_T99 l0_1 x69_2).f0)) ++ (rdOf ByteArray.empty l0_0 ((rd_T99 l0_1 x69_2).f1))).toList then (vocab_Check.l1 k2 l0_1 (l0_1.length : Int) (wrap64 (x69_2 + 1)) l0_0 l0_1) else (some (x69_2, 131))) else (none)) else (none)) else (none)) else (none)) else (none)) else (none)) else (none)) else (some (x69_2, 131)))) else (some (x69_2, 131))) = some (r1, r2) := H
         have A35 := ym A350
         clear A350
         by_cases c36 : t223 = true
         ·
          subst c36
          have H1 : ((vocab_says.f l0_0 l0_1 ((rd_T99 l0_1 x69_2).f2)).bind fun t224 => (if t224 = true then (if 0 ≤ ((rd_T99 l0_1 x69_2).f2) then (if ((rd_T99 l0_1 x69_2).f2) < (l0_0.length : Int) then (if 0 ≤ ((rd_T99 l0_1 x69_2).f0) then (if ((rd_T99 l0_1 x69_2).f0) < (l0_0.length : Int) then (if 0 ≤ ((rd_T99 l0_1 x69_2).f1) then (if ((rd_T99 l0_1 x69_2).f1) < (l0_0.length : Int) then (if (rdOf ByteArray.empty l0_0 ((rd_T99 l0_1 x69_2).f0)).size + (rdOf ByteArray.empty l0_0 ((rd_T99 l0_1 x69_2).f1)).size ≤ 9223372036854775807 then (if (rdOf ByteArray.empty l0_0 ((rd_T99 l0_1 x69_2).f2)).toList = ((rdOf ByteArray.empty l0_0 ((rd_T99 l0_1 x69_2).f0)) ++ (rdOf ByteArray.empty l0_0 ((rd_T99 l0_1 x69_2).f1))).toList then (vocab_Check.l1 k2 l0_1 (l0_1.length : Int) (wrap64 (x69_2 + 1)) l0_0 l0_1) else (some (x69_2, 131))) else (none)) else (none)) else (none)) else (none)) else (none)) else (none)) else (none)) else (some (x69_2, 131)))) = some (r1, r2) := by rw [if_pos rfl] at H; exact H
          clear H
          have H := H1
          clear H1
          replace H := Option.bind_eq_some_iff.mp H
          obtain ⟨t224, A370, H⟩ := H
          replace H : (if t224 = true then (if 0 ≤ ((rd_T99 l0_1 x69_2).f2) then (if ((rd_T99 l0_1 x69_2).f2) < (l0_0.length : Int) then (if 0 ≤ ((rd_T99 l0_1 x69_2).f0) then (if ((rd_T99 l0_1 x69_2).f0) < (l0_0.length : Int) then (if 0 ≤ ((rd_T99 l0_1 x69_2).f1) then (if ((rd_T99 l0_1 x69_2).f1) < (l0_0.length : Int) then (if (rdOf ByteArray.empty l0_0 ((rd_T99 l0_1 x69_2).f0)).size + (rdOf ByteArray.empty l0_0 ((rd_T99 l0_1 x69_2).f1)).size ≤ 9223372036854775807 then (if (rdOf ByteArray.empty l0_0 ((rd_T99 l0_1 x69_2).f2)).toList = ((rdOf ByteArray.empty l0_0 ((rd_T99 l0_1 x69_2).f0)) ++ (rdOf ByteArray.empty l0_0 ((rd_T99 l0_1 x69_2).f1))).toList then (vocab_Check.l1 k2 l0_1 (l0_1.length : Int) (wrap64 (x69_2 + 1)) l0_0 l0_1) else (some (x69_2, 131))) else (none)) else (none)) else (none)) else (none)) else (none)) else (none)) else (none)) else (some (x69_2, 131))) = some (r1, r2) := H
          have A37 := ym A370
          clear A370
          by_cases c38 : t224 = true
          ·
           subst c38
           have H1 : (if 0 ≤ ((rd_T99 l0_1 x69_2).f2) then (if ((rd_T99 l0_1 x69_2).f2) < (l0_0.length : Int) then (if 0 ≤ ((rd_T99 l0_1 x69_2).f0) then (if ((rd_T99 l0_1 x69_2).f0) < (l0_0.length : Int) then (if 0 ≤ ((rd_T99 l0_1 x69_2).f1) then (if ((rd_T99 l0_1 x69_2).f1) < (l0_0.length : Int) then (if (rdOf ByteArray.empty l0_0 ((rd_T99 l0_1 x69_2).f0)).size + (rdOf ByteArray.empty l0_0 ((rd_T99 l0_1 x69_2).f1)).size ≤ 9223372036854775807 then (if (rdOf ByteArray.empty l0_0 ((rd_T99 l0_1 x69_2).f2)).toList = ((rdOf ByteArray.empty l0_0 ((rd_T99 l0_1 x69_2).f0)) ++ (rdOf ByteArray.empty l0_0 ((rd_T99 l0_1 x69_2).f1))).toList then (vocab_Check.l1 k2 l0_1 (l0_1.length : Int) (wrap64 (x69_2 + 1)) l0_0 l0_1) else (some (x69_2, 131))) else (none)) else (none)) else (none)) else (none)) else (none)) else (none)) else (none)) = some (r1, r2) := by rw [if_pos rfl] at H; exact H
           clear H
           have H := H1
           clear H1
           by_cases c39 : 0 ≤ ((rd_T99 l0_1 x69_2).f2)
           ·
            rw [if_pos c39] at H
            have c39b0 : decide (0 ≤ ((rd_T99 l0_1 x69_2).f2)) = true := decide_eq_true c39
            clear c39
            by_cases c40 : ((rd_T99 l0_1 x69_2).f2) < (l0_0.length : Int)
            ·
             rw [if_pos c40] at H
             have c40b0 : decide (((rd_T99 l0_1 x69_2).f2) < (l0_0.length : Int)) = true := decide_eq_true c40
             clear c40
             by_cases c41 : 0 ≤ ((rd_T99 l0_1 x69_2).f0)
             ·
              rw [if_pos c41] at H
              have c41b0 : decide (0 ≤ ((rd_T99 l0_1 x69_2).f0)) = true := decide_eq_true c41
              clear c41
              by_cases c42 : ((rd_T99 l0_1 x69_2).f0) < (l0_0.length : Int)
              ·
               rw [if_pos c42] at H
               have c42b0 : decide (((rd_T99 l0_1 x69_2).f0) < (l0_0.length : Int)) = true := decide_eq_true c42
               clear c42
               by_cases c43 : 0 ≤ ((rd_T99 l0_1 x69_2).f1)
               ·
                rw [if_pos c43] at H
                have c43b0 : decide (0 ≤ ((rd_T99 l0_1 x69_2).f1)) = true := decide_eq_true c43
                clear c43
                by_cases c44 : ((rd_T99 l0_1 x69_2).f1) < (l0_0.length : Int)
                ·
                 rw [if_pos c44] at H
                 have c44b0 : decide (((rd_T99 l0_1 x69_2).f1) < (l0_0.length : Int)) = true := decide_eq_true c44
                 clear c44
                 by_cases c45 : (rdOf ByteArray.empty l0_0 ((rd_T99 l0_1 x69_2).f0)).size + (rdOf ByteArray.empty l0_0 ((rd_T99 l0_1 x69_2).f1)).size ≤ 9223372036854775807
                 ·
                  rw [if_pos c45] at H
                  have c45b0 := eq_true c45
                  have c45b1 : decide ((rdOf ByteArray.empty l0_0 ((rd_T99 l0_1 x69_2).f0)).size + (rdOf ByteArray.empty l0_0 ((rd_T99 l0_1 x69_2).f1)).size ≤ 9223372036854775807) = true := decide_eq_true c45
                  try have c45b2 : (9223372036854775807 < (rdOf ByteArray.empty l0_0 ((rd_T99 l0_1 x69_2).f0)).size + (rdOf ByteArray.empty l0_0 ((rd_T99 l0_1 x69_2).f1)).size) = False := eq_false (Nat.not_lt.2 c45)
                  by_cases c46 : (rdOf ByteArray.empty l0_0 ((rd_T99 l0_1 x69_2).f2)).toList = ((rdOf ByteArray.empty l0_0 ((rd_T99 l0_1 x69_2).f0)) ++ (rdOf ByteArray.empty l0_0 ((rd_T99 l0_1 x69_2).f1))).toList
                  ·
                   rw [if_pos c46] at H
                   have c46b0 : ((rdOf ByteArray.empty l0_0 ((rd_T99 l0_1 x69_2).f2)).toList == ((rdOf ByteArray.empty l0_0 ((rd_T99 l0_1 x69_2).f0)) ++ (rdOf ByteArray.empty l0_0 ((rd_T99 l0_1 x69_2).f1))).toList) = true := beq_iff_eq.mpr c46
                   have c46b1 : ((rdOf ByteArray.empty l0_0 ((rd_T99 l0_1 x69_2).f2)).toList != ((rdOf ByteArray.empty l0_0 ((rd_T99 l0_1 x69_2).f0)) ++ (rdOf ByteArray.empty l0_0 ((rd_T99 l0_1 x69_2).f1))).toList) = false := bne_eq_false_iff_eq.mpr c46
                   clear c46
                   have H' := ym H
                   clear H
                   have p218 : 0 ≤ (x69_2 : Int) := of_decide_eq_true y5
                   have q218 : x69_2 < (l0_1.length : Int) := of_decide_eq_true y5
                   obtain ⟨ad218, e218, hx218_0, hx218_1, hx218_2⟩ := at_T99 HR0_1.out x69_2 p218 q218
                   cases e218
                   replace hx218_0 := (HB.out.cell (World.block_lt_of_cell? wr _ hx218_0)).trans hx218_0
                   replace hx218_1 := (HB.out.cell (World.block_lt_of_cell? wr _ hx218_1)).trans hx218_1
                   replace hx218_2 := (HB.out.cell (World.block_lt_of_cell? wr _ hx218_2)).trans hx218_2
                   replace p218 := eq_true p218
                   replace q218 := eq_true q218
                   obtain ⟨kl_, hkl_⟩ := vocab_SeenMerge.key A22.out
                   have KS := ym hkl_
                   clear hkl_
                   have KR := ym (vocab_SeenMerge.mem A22.out)
                   try go_wp2_with (first | ((with_reducible refine gate_dst (N := 11) rfl ?_); refine box_event ?hg (N := 11) ?hd (cs := #[.int .i64 0, .int .i64 0, .int .i64 0]) (t := 99) ?hr ?_; (case hd => rfl); (case hg => rfl); (case hr => first | (go_simp; done) | (go_simp; rfl)); intro gb219 hg w47 hbox hb; have n0_ := ym (yq (g := gb215) (o := .cells #[.slice A0_0 l0_0.length c0_0, .slice (some ad218) l0_1.length c0_1] 52 (0, 0)) (yc BK215) hb); have n1_ := ym (yn yb hb); have n2_ := ym (hbox); have n3_ := ym ((by rw [hg]; exact (below_size yb) : wr.heap.size ≤ gb219)); have n4_ := n3_; have n5_ := ym ((by rw [hg]; exact Nat.ne_of_lt (blk_lt (g := gb215) (o := .cells #[.slice A0_0 l0_0.length c0_0, .slice (some ad218) l0_1.length c0_1] 52 (0, 0)) (yc BK215)) : gb215 ≠ gb219)); have n6_ := ym ((by rw [hg]; exact Nat.ne_of_gt (blk_lt (g := gb215) (o := .cells #[.slice A0_0 l0_0.length c0_0, .slice (some ad218) l0_1.length c0_1] 52 (0, 0)) (yc BK215)) : gb219 ≠ gb215)); clear BK215; clear HB; have BK215 := n0_; have HB := n1_; have BK219 := n2_; have GW219 := n3_; have GE219 := n4_; have NB215_219 := n5_; have NB219_215 := n6_; clear n0_ n1_ n2_ n3_ n4_ n5_ n6_; clear hb hbox hg; have hnb48 := NB219_215.out; have hnc48 := NB215_219.out; have hcz49_0 : w47.cell? ⟨gb219, 0, none⟩ = some (.int .i64 0) := (yw BK219.out 0).trans rfl; have hcz49_1 : w47.cell? ⟨gb219, 1, none⟩ = some (.int .i64 0) := (yw BK219.out 1).trans rfl; have hcz49_2 : w47.cell? ⟨gb219, 2, none⟩ = some (.int .i64 0) := (yw BK219.out 2).trans rfl; have hfz49_0 := yv BK219.out 0; have hfz49_1 := yv BK219.out 1; have hfz49_2 := yv BK219.out 2) | ((with_reducible refine gate_dst (N := 12) rfl ?_); refine box_event ?hg (N := 12) ?hd (cs := #[.int .i64 0, .int .i64 0]) (t := 140) ?hr ?_; (case hd => rfl); (case hg => rfl); (case hr => first | (go_simp; done) | (go_simp; rfl)); intro gb220 hg w50 hbox hb; have n0_ := ym (yq (g := gb215) (o := .cells #[.slice A0_0 l0_0.length c0_0, .slice (some ad218) l0_1.length c0_1] 52 (0, 0)) (by (with_reducible repeat refine y4 ?_); refine yx ?_ NB215_219.out _; (with_reducible repeat refine y4 ?_); refine yx ?_ NB215_219.out _; (with_reducible repeat refine y4 ?_); refine yx ?_ NB215_219.out _; (with_reducible repeat refine y4 ?_); exact BK215.out) hb); have n1_ := ym (yq (g := gb219) (o := .cells #[.int .i64 ((rd_T99 l0_1 x69_2).f0), .int .i64 ((rd_T99 l0_1 x69_2).f1), .int .i64 ((rd_T99 l0_1 x69_2).f2)] 99 (0, 0)) (by (with_reducible repeat refine y4 ?_); refine yy (cs := #[.int .i64 ((rd_T99 l0_1 x69_2).f0), .int .i64 ((rd_T99 l0_1 x69_2).f1), .int .i64 0]) ?_ 2 _ rfl; (with_reducible repeat refine y4 ?_); refine yy (cs := #[.int .i64 ((rd_T99 l0_1 x69_2).f0), .int .i64 0, .int .i64 0]) ?_ 1 _ rfl; (with_reducible repeat refine y4 ?_); refine yy (cs := #[.int .i64 0, .int .i64 0, .int .i64 0]) ?_ 0 _ rfl; (with_reducible repeat refine y4 ?_); exact BK219.out) hb); have n2_ := ym (yn yb hb); have n3_ := ym (hbox); have n4_ := ym ((by rw [hg]; exact (below_size yb) : wr.heap.size ≤ gb220)); have n5_ := n4_; have n6_ := ym ((by rw [hg]; exact Nat.ne_of_lt (blk_lt (g := gb215) (o := .cells #[.slice A0_0 l0_0.length c0_0, .slice (some ad218) l0_1.length c0_1] 52 (0, 0)) (by (with_reducible repeat refine y4 ?_); refine yx ?_ NB215_219.out _; (with_reducible repeat refine y4 ?_); refine yx ?_ NB215_219.out _; (with_reducible repeat refine y4 ?_); refine yx ?_ NB215_219.out _; (with_reducible repeat refine y4 ?_); exact BK215.out)) : gb215 ≠ gb220)); have n7_ := ym ((by rw [hg]; exact Nat.ne_of_gt (blk_lt (g := gb215) (o := .cells #[.slice A0_0 l0_0.length c0_0, .slice (some ad218) l0_1.length c0_1] 52 (0, 0)) (by (with_reducible repeat refine y4 ?_); refine yx ?_ NB215_219.out _; (with_reducible repeat refine y4 ?_); refine yx ?_ NB215_219.out _; (with_reducible repeat refine y4 ?_); refine yx ?_ NB215_219.out _; (with_reducible repeat refine y4 ?_); exact BK215.out)) : gb220 ≠ gb215)); have n8_ := ym ((by rw [hg]; exact Nat.ne_of_lt (blk_lt (g := gb219) (o := .cells #[.int .i64 ((rd_T99 l0_1 x69_2).f0), .int .i64 ((rd_T99 l0_1 x69_2).f1), .int .i64 ((rd_T99 l0_1 x69_2).f2)] 99 (0, 0)) (by (with_reducible repeat refine y4 ?_); refine yy (cs := #[.int .i64 ((rd_T99 l0_1 x69_2).f0), .int .i64 ((rd_T99 l0_1 x69_2).f1), .int .i64 0]) ?_ 2 _ rfl; (with_reducible repeat refine y4 ?_); refine yy (cs := #[.int .i64 ((rd_T99 l0_1 x69_2).f0), .int .i64 0, .int .i64 0]) ?_ 1 _ rfl; (with_reducible repeat refine y4 ?_); refine yy (cs := #[.int .i64 0, .int .i64 0, .int .i64 0]) ?_ 0 _ rfl; (with_reducible repeat refine y4 ?_); exact BK219.out)) : gb219 ≠ gb220)); have n9_ := ym ((by rw [hg]; exact Nat.ne_of_gt (blk_lt (g := gb219) (o := .cells #[.int .i64 ((rd_T99 l0_1 x69_2).f0), .int .i64 ((rd_T99 l0_1 x69_2).f1), .int .i64 ((rd_T99 l0_1 x69_2).f2)] 99 (0, 0)) (by (with_reducible repeat refine y4 ?_); refine yy (cs := #[.int .i64 ((rd_T99 l0_1 x69_2).f0), .int .i64 ((rd_T99 l0_1 x69_2).f1), .int .i64 0]) ?_ 2 _ rfl; (with_reducible repeat refine y4 ?_); refine yy (cs := #[.int .i64 ((rd_T99 l0_1 x69_2).f0), .int .i64 0, .int .i64 0]) ?_ 1 _ rfl; (with_reducible repeat refine y4 ?_); refine yy (cs := #[.int .i64 0, .int .i64 0, .int .i64 0]) ?_ 0 _ rfl; (with_reducible repeat refine y4 ?_); exact BK219.out)) : gb220 ≠ gb219)); clear BK215; clear BK219; clear HB; have BK215 := n0_; have BK219 := n1_; have HB := n2_; have BK220 := n3_; have GW220 := n4_; have GE220 := n5_; have NB215_220 := n6_; have NB220_215 := n7_; have NB219_220 := n8_; have NB220_219 := n9_; clear n0_ n1_ n2_ n3_ n4_ n5_ n6_ n7_ n8_ n9_; clear hb hbox hg; have hnb51 := NB220_215.out; have hnc51 := NB215_220.out; have hnb52 := NB220_219.out; have hnc52 := NB219_220.out; have hcz53_0 : w50.cell? ⟨gb220, 0, none⟩ = some (.int .i64 0) := (yw BK220.out 0).trans rfl; have hcz53_1 : w50.cell? ⟨gb220, 1, none⟩ = some (.int .i64 0) := (yw BK220.out 1).trans rfl; have hfz53_0 := yv BK220.out 0; have hfz53_1 := yv BK220.out 1) | (at_lookup; refine Seen.look (SM.out.below ?hb) vk_pair _ _ 139 rfl rfl Try.underlying139 Try.underlying3 vk_zero rfl _ rfl _ KS.out false KR.out ?_; (case hb => repeat (first | exact HB.out | apply ya | refine ys ?_ GE219.out | refine ys ?_ GE220.out)); intro c_))
                   have n0_ : Aside0 (((w50.setCell ⟨gb220, 0, none⟩ (.int .i64 ((rd_T99 l0_1 x69_2).f0))).setCell ⟨gb220, 1, none⟩ (.int .i64 ((rd_T99 l0_1 x69_2).f1))).heap[gb215]? = some (.cells #[.slice A0_0 l0_0.length c0_0, .slice (some ad218) l0_1.length c0_1] 52 (0, 0))) := ⟨by (with_reducible repeat refine y4 ?_); refine yx ?_ NB215_220.out _; (with_reducible repeat refine y4 ?_); refine yx ?_ NB215_220.out _; (with_reducible repeat refine y4 ?_); exact BK215.out⟩
                   have n1_ : Aside0 (((w50.setCell ⟨gb220, 0, none⟩ (.int .i64 ((rd_T99 l0_1 x69_2).f0))).setCell ⟨gb220, 1, none⟩ (.int .i64 ((rd_T99 l0_1 x69_2).f1))).heap[gb219]? = some (.cells #[.int .i64 ((rd_T99 l0_1 x69_2).f0), .int .i64 ((rd_T99 l0_1 x69_2).f1), .int .i64 ((rd_T99 l0_1 x69_2).f2)] 99 (0, 0))) := ⟨by (with_reducible repeat refine y4 ?_); refine yx ?_ NB219_220.out _; (with_reducible repeat refine y4 ?_); refine yx ?_ NB219_220.out _; (with_reducible repeat refine y4 ?_); exact BK219.out⟩
                   have n2_ : Aside0 (((w50.setCell ⟨gb220, 0, none⟩ (.int .i64 ((rd_T99 l0_1 x69_2).f0))).setCell ⟨gb220, 1, none⟩ (.int .i64 ((rd_T99 l0_1 x69_2).f1))).heap[gb220]? = some (.cells #[.int .i64 ((rd_T99 l0_1 x69_2).f0), .int .i64 ((rd_T99 l0_1 x69_2).f1)] 140 (0, 0))) := ⟨by (with_reducible repeat refine y4 ?_); refine yy (cs := #[.int .i64 ((rd_T99 l0_1 x69_2).f0), .int .i64 0]) ?_ 1 _ rfl; (with_reducible repeat refine y4 ?_); refine yy (cs := #[.int .i64 0, .int .i64 0]) ?_ 0 _ rfl; (with_reducible repeat refine y4 ?_); exact BK220.out⟩
                   have n3_ : Aside0 (Below wr.heap.size wr ((w50.setCell ⟨gb220, 0, none⟩ (.int .i64 ((rd_T99 l0_1 x69_2).f0))).setCell ⟨gb220, 1, none⟩ (.int .i64 ((rd_T99 l0_1 x69_2).f1)))) := ⟨by repeat (first | (with_reducible first | exact HB.out | apply y3 | refine ys ?_ GE215.out | refine ys ?_ GE219.out | refine ys ?_ GE220.out) | exact HB.out)⟩
                   (try clear BK215)
                   (try clear BK219)
                   (try clear BK220)
                   (try clear HB)
                   generalize ((w50.setCell ⟨gb220, 0, none⟩ (.int .i64 ((rd_T99 l0_1 x69_2).f0))).setCell ⟨gb220, 1, none⟩ (.int .i64 ((rd_T99 l0_1 x69_2).f1))) = w54 at n0_ n1_ n2_ n3_ ⊢
                   have BK215 := n0_
                   have BK219 := n1_
                   have BK220 := n2_
                   have HB := n3_
                   clear n0_ n1_ n2_ n3_
                   (try (rw [drewN_self w54]; generalize hq_ : World.drewN w54 _ = w54; have n0_ : Aside0 (w54.heap[gb215]? = some (.cells #[.slice A0_0 l0_0.length c0_0, .slice (some ad218) l0_1.length c0_1] 52 (0, 0))) := ⟨by rw [← hq_]; exact (yc BK215)⟩; have n1_ : Aside0 (w54.heap[gb219]? = some (.cells #[.int .i64 ((rd_T99 l0_1 x69_2).f0), .int .i64 ((rd_T99 l0_1 x69_2).f1), .int .i64 ((rd_T99 l0_1 x69_2).f2)] 99 (0, 0))) := ⟨by rw [← hq_]; exact (yc BK219)⟩; have n2_ : Aside0 (w54.heap[gb220]? = some (.cells #[.int .i64 ((rd_T99 l0_1 x69_2).f0), .int .i64 ((rd_T99 l0_1 x69_2).f1)] 140 (0, 0))) := ⟨by rw [← hq_]; exact (yc BK220)⟩; have n3_ : Aside0 (Below wr.heap.size wr w54) := ⟨by rw [← hq_]; exact yb⟩; clear BK215 BK219 BK220 HB hq_; have BK215 := n0_; have BK219 := n1_; have BK220 := n2_; have HB := n3_; clear n0_ n1_ n2_ n3_))
                   have n0_ := ym (yt BK215.out)
                   have n1_ := ym (yt BK219.out)
                   have n2_ := ym (yt BK220.out)
                   have n3_ := ym (ye HB.out)
                   clear BK215
                   clear BK219
                   clear BK220
                   clear HB
                   have BK215 := n0_
                   have BK219 := n1_
                   have BK220 := n2_
                   have HB := n3_
                   clear n0_ n1_ n2_ n3_
                   have p225 : 0 ≤ (((rd_T99 l0_1 x69_2).f2) : Int) := of_decide_eq_true y5
                   have q225 : ((rd_T99 l0_1 x69_2).f2) < (l0_0.length : Int) := of_decide_eq_true y5
                   obtain ⟨ad225, e225, hx225_0⟩ := Kd.at_string HR0_0.out ((rd_T99 l0_1 x69_2).f2) p225 q225
                   have hw225_0 := hx225_0
                   cases e225
                   replace hx225_0 := (HB.out.cell (World.block_lt_of_cell? wr _ hx225_0)).trans hx225_0
                   replace p225 := eq_true p225
                   replace q225 := eq_true q225
                   have p226 : 0 ≤ (((rd_T99 l0_1 x69_2).f0) : Int) := of_decide_eq_true y5
                   have q226 : ((rd_T99 l0_1 x69_2).f0) < (l0_0.length : Int) := of_decide_eq_true y5
                   obtain ⟨ad226, e226, hx226_0⟩ := Kd.at_string HR0_0.out ((rd_T99 l0_1 x69_2).f0) p226 q226
                   have hw226_0 := hx226_0
                   obtain rfl : ad225 = ad226 := (by injection e226)
                   replace hx226_0 := (HB.out.cell (World.block_lt_of_cell? wr _ hx226_0)).trans hx226_0
                   replace p226 := eq_true p226
                   replace q226 := eq_true q226
                   have p227 : 0 ≤ (((rd_T99 l0_1 x69_2).f1) : Int) := of_decide_eq_true y5
                   have q227 : ((rd_T99 l0_1 x69_2).f1) < (l0_0.length : Int) := of_decide_eq_true y5
                   obtain ⟨ad227, e227, hx227_0⟩ := Kd.at_string HR0_0.out ((rd_T99 l0_1 x69_2).f1) p227 q227
                   have hw227_0 := hx227_0
                   obtain rfl : ad225 = ad227 := (by injection e227)
                   replace hx227_0 := (HB.out.cell (World.block_lt_of_cell? wr _ hx227_0)).trans hx227_0
                   replace p227 := eq_true p227
                   replace q227 := eq_true q227
                   refine start_ (n := 44) (S := fun w' => w'.cell? ⟨gb215, 0, none⟩ = some (.slice (some ad225) l0_0.length c0_0) ∧ w'.cell? ⟨gb215, 1, none⟩ = some (.slice (some ad218) l0_1.length c0_1) ∧ w'.cell? ⟨gb219, 0, none⟩ = some (.int .i64 ((rd_T99 l0_1 x69_2).f0)) ∧ w'.cell? ⟨gb219, 1, none⟩ = some (.int .i64 ((rd_T99 l0_1 x69_2).f1)) ∧ w'.cell? ⟨gb219, 2, none⟩ = some (.int .i64 ((rd_T99 l0_1 x69_2).f2)) ∧ w'.cell? (ad225.add (((rd_T99 l0_1 x69_2).f2)).toNat) = some (.string (rdOf ByteArray.empty l0_0 ((rd_T99 l0_1 x69_2).f2))) ∧ w'.cell? (ad225.add (((rd_T99 l0_1 x69_2).f0)).toNat) = some (.string (rdOf ByteArray.empty l0_0 ((rd_T99 l0_1 x69_2).f0))) ∧ w'.cell? (ad225.add (((rd_T99 l0_1 x69_2).f1)).toNat) = some (.string (rdOf ByteArray.empty l0_0 ((rd_T99 l0_1 x69_2).f1)))) (ds := []) #[o_, o_, o_, o_, o_, o_, o_, o_, o_, o_, o_, o_, o_, o_, o_, o_, o_, o_, o_, o_, o_, o_, o_, o_, o_, o_, o_, o_, o_, o_, o_, o_, o_, o_, o_, o_, o_, o_, o_, o_, o_, o_, o_, o_] (by kernel_rfl) rfl rfl ⟨(yw BK215.out 0).trans rfl, (yw BK215.out 1).trans rfl, (yw BK219.out 0).trans rfl, (yw BK219.out 1).trans rfl, (yw BK219.out 2).trans rfl, ((HB.out.cell (World.block_lt_of_cell? wr _ hw225_0)).trans hw225_0), ((HB.out.cell (World.block_lt_of_cell? wr _ hw226_0)).trans hw226_0), ((HB.out.cell (World.block_lt_of_cell? wr _ hw227_0)).trans hw227_0)⟩ (fun hHeld => ?_); refine with_tabW vocab_Check.tab22 vocab_Check.bits22 (fun HT_ HW_ => ?_)
                   generalize w54.drew = w55 at BK215 BK219 BK220 HB hx225_0 hx226_0 hx227_0 hHeld ⊢
                   refine zt (i := 0) (N := some 85) HT_ ?_
                   refine zt (i := 1) (N := some 86) HT_ ?_
                   refine zt (i := 3) (N := some 88) HT_ ?_
                   refine zw (i := 2) (N := some 87) HT_ HW_ hHeld ?_ (hv := (by rintro w' ⟨s0, s1, s2, s3, s4, s5, s6, s7⟩; go_simp; with_reducible rfl))
                   refine zw (i := 4) (N := some 89) HT_ HW_ hHeld ?_ (hv := (by rintro w' ⟨s0, s1, s2, s3, s4, s5, s6, s7⟩; go_simp; with_reducible rfl))
                   refine one_ (i := 5) (N := some 90) #[i_, i_, i_, i_, i_, i_, o_, o_, o_, o_, o_, o_, o_, o_, o_, o_, o_, o_, o_, o_, o_, o_, o_, o_, o_, o_, o_, o_, o_, o_, o_, o_, o_, o_, o_, o_, o_, o_, o_, o_, o_, o_, o_, o_] rfl rfl (one_of HT_.out (by kernel_rfl)) (by decide) (fun K hK => ?_)
                   refine goes_ Try.func74 (by kernel_rfl) rfl #[.agg #[.slice (some ad225) l0_0.length c0_0, .slice (some ad218) l0_1.length c0_1], .int .i64 ((rd_T99 l0_1 x69_2).f0)] (by rfl) rfl rfl y6 ?_
                   with_reducible refine (vocab_says.calls _ _ l0_0 _ _ l0_1 ((rd_T99 l0_1 x69_2).f0) true _ ?side1 ?side2 ?side3 ?side4 A33.out).mono ?_
                   (case side1 => exact y9 HR0_0)
                   (case side2 => exact HC0_0.out)
                   (case side3 => exact y9 HR0_1)
                   (case side4 => exact HC0_1.out)
                   rintro e w56 ⟨rfl, hb⟩
                   refine ⟨_, rfl, ?_⟩
                   have n0_ := ym (yq (g := gb215) (o := .cells #[.slice (some ad225) l0_0.length c0_0, .slice (some ad218) l0_1.length c0_1] 52 (0, 0)) (yc BK215) hb)
                   have n1_ := ym (yq (g := gb219) (o := .cells #[.int .i64 ((rd_T99 l0_1 x69_2).f0), .int .i64 ((rd_T99 l0_1 x69_2).f1), .int .i64 ((rd_T99 l0_1 x69_2).f2)] 99 (0, 0)) (yc BK219) hb)
                   have n2_ := ym (yq (g := gb220) (o := .cells #[.int .i64 ((rd_T99 l0_1 x69_2).f0), .int .i64 ((rd_T99 l0_1 x69_2).f1)] 140 (0, 0)) (yc BK220) hb)
                   have n3_ := ym (yn yb hb)
                   clear BK215
                   clear BK219
                   clear BK220
                   clear HB
                   have BK215 := n0_
                   have BK219 := n1_
                   have BK220 := n2_
                   have HB := n3_
                   clear n0_ n1_ n2_ n3_
                   (try clear hb)
                   (try clear hb2)
                   (try clear hk)
                   (try clear hi)
                   refine hK.out _ _ ⟨(yw BK215.out 0).trans rfl, (yw BK215.out 1).trans rfl, (yw BK219.out 0).trans rfl, (yw BK219.out 1).trans rfl, (yw BK219.out 2).trans rfl, ((HB.out.cell (World.block_lt_of_cell? wr _ hw225_0)).trans hw225_0), ((HB.out.cell (World.block_lt_of_cell? wr _ hw226_0)).trans hw226_0), ((HB.out.cell (World.block_lt_of_cell? wr _ hw227_0)).trans hw227_0)⟩ (fun hHeld => ?_)
                   clear hK K
                   refine norm_ (a' := ?_) ?_ ?_
                   rotate_left
                   ·
                    show Act.put _ (some 90) _ = _
                    simp only [Act.put, y0, y1]
                    rfl
                   refine zt (i := 6) (N := some 91) HT_ ?_
                   refine zt (i := 7) (N := some 92) HT_ ?_
                   refine zt (i := 8) (N := some 93) HT_ ?_
                   refine zt (i := 10) (N := some 95) HT_ ?_
                   refine zw (i := 9) (N := some 94) HT_ HW_ hHeld ?_ (hv := (by rintro w' ⟨s0, s1, s2, s3, s4, s5, s6, s7⟩; go_simp; with_reducible rfl))
                   refine zw (i := 11) (N := some 96) HT_ HW_ hHeld ?_ (hv := (by rintro w' ⟨s0, s1, s2, s3, s4, s5, s6, s7⟩; go_simp; with_reducible rfl))
                   refine one_ (i := 12) (N := some 97) #[i_, i_, i_, i_, i_, i_, i_, i_, i_, i_, i_, i_, i_, o_, o_, o_, o_, o_, o_, o_, o_, o_, o_, o_, o_, o_, o_, o_, o_, o_, o_, o_, o_, o_, o_, o_, o_, o_, o_, o_, o_, o_, o_, o_] rfl rfl (one_of HT_.out (by kernel_rfl)) (by decide) (fun K hK => ?_)
                   refine goes_ Try.func74 (by kernel_rfl) rfl #[.agg #[.slice (some ad225) l0_0.length c0_0, .slice (some ad218) l0_1.length c0_1], .int .i64 ((rd_T99 l0_1 x69_2).f1)] (by rfl) rfl rfl y6 ?_
                   with_reducible refine (vocab_says.calls _ _ l0_0 _ _ l0_1 ((rd_T99 l0_1 x69_2).f1) true _ ?side1 ?side2 ?side3 ?side4 A35.out).mono ?_
                   (case side1 => exact y9 HR0_0)
                   (case side2 => exact HC0_0.out)
                   (case side3 => exact y9 HR0_1)
                   (case side4 => exact HC0_1.out)
                   rintro e w57 ⟨rfl, hb⟩
                   refine ⟨_, rfl, ?_⟩
                   have n0_ := ym (yq (g := gb215) (o := .cells #[.slice (some ad225) l0_0.length c0_0, .slice (some ad218) l0_1.length c0_1] 52 (0, 0)) (yc BK215) hb)
                   have n1_ := ym (yq (g := gb219) (o := .cells #[.int .i64 ((rd_T99 l0_1 x69_2).f0), .int .i64 ((rd_T99 l0_1 x69_2).f1), .int .i64 ((rd_T99 l0_1 x69_2).f2)] 99 (0, 0)) (yc BK219) hb)
                   have n2_ := ym (yq (g := gb220) (o := .cells #[.int .i64 ((rd_T99 l0_1 x69_2).f0), .int .i64 ((rd_T99 l0_1 x69_2).f1)] 140 (0, 0)) (yc BK220) hb)
                   have n3_ := ym (yn yb hb)
                   clear BK215
                   clear BK219
                   clear BK220
                   clear HB
                   have BK215 := n0_
                   have BK219 := n1_
                   have BK220 := n2_
                   have HB := n3_
                   clear n0_ n1_ n2_ n3_
                   (try clear hb)
                   (try clear hb2)
                   (try clear hk)
                   (try clear hi)
                   refine hK.out _ _ ⟨(yw BK215.out 0).trans rfl, (yw BK215.out 1).trans rfl, (yw BK219.out 0).trans rfl, (yw BK219.out 1).trans rfl, (yw BK219.out 2).trans rfl, ((HB.out.cell (World.block_lt_of_cell? wr _ hw225_0)).trans hw225_0), ((HB.out.cell (World.block_lt_of_cell? wr _ hw226_0)).trans hw226_0), ((HB.out.cell (World.block_lt_of_cell? wr _ hw227_0)).trans hw227_0)⟩ (fun hHeld => ?_)
                   clear hK K
                   refine norm_ (a' := ?_) ?_ ?_
                   rotate_left
                   ·
                    show Act.put _ (some 97) _ = _
                    simp only [Act.put, y0, y1]
                    rfl
                   refine zt (i := 13) (N := some 98) HT_ ?_
                   refine zt (i := 14) (N := some 99) HT_ ?_
                   refine zt (i := 15) (N := some 100) HT_ ?_
                   refine zt (i := 17) (N := some 102) HT_ ?_
                   refine zw (i := 16) (N := some 101) HT_ HW_ hHeld ?_ (hv := (by rintro w' ⟨s0, s1, s2, s3, s4, s5, s6, s7⟩; go_simp; with_reducible rfl))
                   refine zw (i := 18) (N := some 103) HT_ HW_ hHeld ?_ (hv := (by rintro w' ⟨s0, s1, s2, s3, s4, s5, s6, s7⟩; go_simp; with_reducible rfl))
                   refine one_ (i := 19) (N := some 104) #[i_, i_, i_, i_, i_, i_, i_, i_, i_, i_, i_, i_, i_, i_, i_, i_, i_, i_, i_, i_, o_, o_, o_, o_, o_, o_, o_, o_, o_, o_, o_, o_, o_, o_, o_, o_, o_, o_, o_, o_, o_, o_, o_, o_] rfl rfl (one_of HT_.out (by kernel_rfl)) (by decide) (fun K hK => ?_)
                   refine goes_ Try.func74 (by kernel_rfl) rfl #[.agg #[.slice (some ad225) l0_0.length c0_0, .slice (some ad218) l0_1.length c0_1], .int .i64 ((rd_T99 l0_1 x69_2).f2)] (by rfl) rfl rfl y6 ?_
                   with_reducible refine (vocab_says.calls _ _ l0_0 _ _ l0_1 ((rd_T99 l0_1 x69_2).f2) true _ ?side1 ?side2 ?side3 ?side4 A37.out).mono ?_
                   (case side1 => exact y9 HR0_0)
                   (case side2 => exact HC0_0.out)
                   (case side3 => exact y9 HR0_1)
                   (case side4 => exact HC0_1.out)
                   rintro e w58 ⟨rfl, hb⟩
                   refine ⟨_, rfl, ?_⟩
                   have n0_ := ym (yq (g := gb215) (o := .cells #[.slice (some ad225) l0_0.length c0_0, .slice (some ad218) l0_1.length c0_1] 52 (0, 0)) (yc BK215) hb)
                   have n1_ := ym (yq (g := gb219) (o := .cells #[.int .i64 ((rd_T99 l0_1 x69_2).f0), .int .i64 ((rd_T99 l0_1 x69_2).f1), .int .i64 ((rd_T99 l0_1 x69_2).f2)] 99 (0, 0)) (yc BK219) hb)
                   have n2_ := ym (yq (g := gb220) (o := .cells #[.int .i64 ((rd_T99 l0_1 x69_2).f0), .int .i64 ((rd_T99 l0_1 x69_2).f1)] 140 (0, 0)) (yc BK220) hb)
                   have n3_ := ym (yn yb hb)
                   clear BK215
                   clear BK219
                   clear BK220
                   clear HB
                   have BK215 := n0_
                   have BK219 := n1_
                   have BK220 := n2_
                   have HB := n3_
                   clear n0_ n1_ n2_ n3_
                   (try clear hb)
                   (try clear hb2)
                   (try clear hk)
                   (try clear hi)
                   refine hK.out _ _ ⟨(yw BK215.out 0).trans rfl, (yw BK215.out 1).trans rfl, (yw BK219.out 0).trans rfl, (yw BK219.out 1).trans rfl, (yw BK219.out 2).trans rfl, ((HB.out.cell (World.block_lt_of_cell? wr _ hw225_0)).trans hw225_0), ((HB.out.cell (World.block_lt_of_cell? wr _ hw226_0)).trans hw226_0), ((HB.out.cell (World.block_lt_of_cell? wr _ hw227_0)).trans hw227_0)⟩ (fun hHeld => ?_)
                   clear hK K
                   refine norm_ (a' := ?_) ?_ ?_
                   rotate_left
                   ·
                    show Act.put _ (some 104) _ = _
                    simp only [Act.put, y0, y1]
                    rfl
                   refine zt (i := 20) (N := some 105) HT_ ?_
                   refine zt (i := 21) (N := some 106) HT_ ?_
                   refine zt (i := 22) (N := some 107) HT_ ?_
                   refine zt (i := 23) (N := some 108) HT_ ?_
                   refine zt (i := 25) (N := some 110) HT_ ?_
                   refine zt (i := 29) (N := some 114) HT_ ?_
                   refine zt (i := 31) (N := some 116) HT_ ?_
                   refine zt (i := 35) (N := some 120) HT_ ?_
                   refine zt (i := 37) (N := some 122) HT_ ?_
                   refine zw (i := 24) (N := some 109) HT_ HW_ hHeld ?_ (hv := (by rintro w' ⟨s0, s1, s2, s3, s4, s5, s6, s7⟩; go_simp; with_reducible rfl))
                   refine zw (i := 26) (N := some 111) HT_ HW_ hHeld ?_ (hv := (by rintro w' ⟨s0, s1, s2, s3, s4, s5, s6, s7⟩; go_simp; with_reducible rfl))
                   refine zt (i := 27) (N := some 112) HT_ ?_
                   refine zw (i := 28) (N := some 113) HT_ HW_ hHeld ?_ (hv := (by rintro w' ⟨s0, s1, s2, s3, s4, s5, s6, s7⟩; go_simp; with_reducible rfl))
                   refine zw (i := 30) (N := some 115) HT_ HW_ hHeld ?_ (hv := (by rintro w' ⟨s0, s1, s2, s3, s4, s5, s6, s7⟩; go_simp; with_reducible rfl))
                   refine zw (i := 32) (N := some 117) HT_ HW_ hHeld ?_ (hv := (by rintro w' ⟨s0, s1, s2, s3, s4, s5, s6, s7⟩; go_simp; with_reducible rfl))
                   refine zt (i := 33) (N := some 118) HT_ ?_
                   refine zw (i := 34) (N := some 119) HT_ HW_ hHeld ?_ (hv := (by rintro w' ⟨s0, s1, s2, s3, s4, s5, s6, s7⟩; go_simp; with_reducible rfl))
                   refine zw (i := 36) (N := some 121) HT_ HW_ hHeld ?_ (hv := (by rintro w' ⟨s0, s1, s2, s3, s4, s5, s6, s7⟩; go_simp; with_reducible rfl))
                   refine zw (i := 38) (N := some 123) HT_ HW_ hHeld ?_ (hv := (by rintro w' ⟨s0, s1, s2, s3, s4, s5, s6, s7⟩; go_simp; with_reducible rfl))
                   refine zt (i := 39) (N := some 124) HT_ ?_
                   refine zw (i := 40) (N := some 125) HT_ HW_ hHeld ?_ (hv := (by rintro w' ⟨s0, s1, s2, s3, s4, s5, s6, s7⟩; go_simp; with_reducible rfl))
                   refine zt (i := 41) (N := some 126) HT_ ?_
                   refine zt (i := 42) (N := some 127) HT_ ?_
                   refine zt (i := 43) (N := some 128) HT_ ?_
                   refine done_ (done_of HT_.out (by kernel_rfl)) ?_
                   have hp_0 := (yw BK220.out 0).trans rfl
                   have hp_1 := (yw BK220.out 1).trans rfl
                   have WX := ym (vk_wf HX.out HR0_1.out.2.1)
                   have WN := ym (vk_next HX.out HR0_1.out.2.1 (of_decide_eq_true (by with_reducible assumption : decide (x69_2 < (l0_1.length : Int)) = true)))
                   go_wp2_with (first | (at_mapUpdate; refine Seen.put (SM.out.below ?hb) vk_pair _ _ _ 139 rfl rfl Try.underlying139 Try.underlying3 ?hlen rfl _ rfl _ KS.out x69_2 rfl WX.out ?_; (case hlen => exact vk_lt2 HR0_1.out.2.1 WN.out); (case hb => repeat (first | exact HB.out | apply y3)); intro wq hS hgq; clear SM; have SM := ym hS; have nb_ := ym (blk_grown BK215.out hgq (by intro e_; have := HGgmM.out; injection e_ with e_; omega)); have nh_ := ym (pw_below_grown (below_then HBW.out ZW.out HB.out) _ (below_size (below_then HBW.out ZW.out HB.out)) hgq (by intro k_ e_; injection e_ with e_; have := HZgmM.out; omega)); clear BK215 HB hgq hS; have BK215 := nb_; have HB := nh_; clear nb_ nh_))
                   go_roundg k2
                   case measure => have := HK1.out; have := HK2.out; omega
                   case rel => exact ⟨(wrap64 (x69_2 + 1)), y7, H', ⟨by have := HK1.out; have := HK2.out; omega⟩, ⟨by (with_reducible repeat refine y4 ?_); exact BK215.out⟩, ⟨by repeat (first | (with_reducible first | exact HB.out | apply y3 | refine ys ?_ GE215.out | refine ys ?_ GE219.out | refine ys ?_ GE220.out) | exact HB.out)⟩, ⟨⟨by have := HX.out; rw [WN.out.1]; omega, by have := WN.out.2; rw [WN.out.1]; omega⟩⟩, ⟨vk_step2 HX.out WN.out SM.out⟩⟩
                  rw [if_neg c46] at H
                  have c46b0 : ((rdOf ByteArray.empty l0_0 ((rd_T99 l0_1 x69_2).f2)).toList == ((rdOf ByteArray.empty l0_0 ((rd_T99 l0_1 x69_2).f0)) ++ (rdOf ByteArray.empty l0_0 ((rd_T99 l0_1 x69_2).f1))).toList) = false := beq_eq_false_iff_ne.mpr c46
                  have c46b1 : ((rdOf ByteArray.empty l0_0 ((rd_T99 l0_1 x69_2).f2)).toList != ((rdOf ByteArray.empty l0_0 ((rd_T99 l0_1 x69_2).f0)) ++ (rdOf ByteArray.empty l0_0 ((rd_T99 l0_1 x69_2).f1))).toList) = true := bne_iff_ne.mpr c46
                  simp only [Option.some.injEq, Prod.mk.injEq] at H
                  obtain ⟨rfl, rfl⟩ := H
                  have p218 : 0 ≤ (x69_2 : Int) := of_decide_eq_true y5
                  have q218 : x69_2 < (l0_1.length : Int) := of_decide_eq_true y5
                  obtain ⟨ad218, e218, hx218_0, hx218_1, hx218_2⟩ := at_T99 HR0_1.out x69_2 p218 q218
                  cases e218
                  replace hx218_0 := (HB.out.cell (World.block_lt_of_cell? wr _ hx218_0)).trans hx218_0
                  replace hx218_1 := (HB.out.cell (World.block_lt_of_cell? wr _ hx218_1)).trans hx218_1
                  replace hx218_2 := (HB.out.cell (World.block_lt_of_cell? wr _ hx218_2)).trans hx218_2
                  replace p218 := eq_true p218
                  replace q218 := eq_true q218
                  obtain ⟨kl_, hkl_⟩ := vocab_SeenMerge.key A22.out
                  have KS := ym hkl_
                  clear hkl_
                  have KR := ym (vocab_SeenMerge.mem A22.out)
                  try go_wp2_with (first | ((with_reducible refine gate_dst (N := 11) rfl ?_); refine box_event ?hg (N := 11) ?hd (cs := #[.int .i64 0, .int .i64 0, .int .i64 0]) (t := 99) ?hr ?_; (case hd => rfl); (case hg => rfl); (case hr => first | (go_simp; done) | (go_simp; rfl)); intro gb219 hg w59 hbox hb; have n0_ := ym (yq (g := gb215) (o := .cells #[.slice A0_0 l0_0.length c0_0, .slice (some ad218) l0_1.length c0_1] 52 (0, 0)) (yc BK215) hb); have n1_ := ym (yn yb hb); have n2_ := ym (hbox); have n3_ := ym ((by rw [hg]; exact (below_size yb) : wr.heap.size ≤ gb219)); have n4_ := n3_; have n5_ := ym ((by rw [hg]; exact Nat.ne_of_lt (blk_lt (g := gb215) (o := .cells #[.slice A0_0 l0_0.length c0_0, .slice (some ad218) l0_1.length c0_1] 52 (0, 0)) (yc BK215)) : gb215 ≠ gb219)); have n6_ := ym ((by rw [hg]; exact Nat.ne_of_gt (blk_lt (g := gb215) (o := .cells #[.slice A0_0 l0_0.length c0_0, .slice (some ad218) l0_1.length c0_1] 52 (0, 0)) (yc BK215)) : gb219 ≠ gb215)); clear BK215; clear HB; have BK215 := n0_; have HB := n1_; have BK219 := n2_; have GW219 := n3_; have GE219 := n4_; have NB215_219 := n5_; have NB219_215 := n6_; clear n0_ n1_ n2_ n3_ n4_ n5_ n6_; clear hb hbox hg; have hnb60 := NB219_215.out; have hnc60 := NB215_219.out; have hcz61_0 : w59.cell? ⟨gb219, 0, none⟩ = some (.int .i64 0) := (yw BK219.out 0).trans rfl; have hcz61_1 : w59.cell? ⟨gb219, 1, none⟩ = some (.int .i64 0) := (yw BK219.out 1).trans rfl; have hcz61_2 : w59.cell? ⟨gb219, 2, none⟩ = some (.int .i64 0) := (yw BK219.out 2).trans rfl; have hfz61_0 := yv BK219.out 0; have hfz61_1 := yv BK219.out 1; have hfz61_2 := yv BK219.out 2) | ((with_reducible refine gate_dst (N := 12) rfl ?_); refine box_event ?hg (N := 12) ?hd (cs := #[.int .i64 0, .int .i64 0]) (t := 140) ?hr ?_; (case hd => rfl); (case hg => rfl); (case hr => first | (go_simp; done) | (go_simp; rfl)); intro gb220 hg w62 hbox hb; have n0_ := ym (yq (g := gb215) (o := .cells #[.slice A0_0 l0_0.length c0_0, .slice (some ad218) l0_1.length c0_1] 52 (0, 0)) (by (with_reducible repeat refine y4 ?_); refine yx ?_ NB215_219.out _; (with_reducible repeat refine y4 ?_); refine yx ?_ NB215_219.out _; (with_reducible repeat refine y4 ?_); refine yx ?_ NB215_219.out _; (with_reducible repeat refine y4 ?_); exact BK215.out) hb); have n1_ := ym (yq (g := gb219) (o := .cells #[.int .i64 ((rd_T99 l0_1 x69_2).f0), .int .i64 ((rd_T99 l0_1 x69_2).f1), .int .i64 ((rd_T99 l0_1 x69_2).f2)] 99 (0, 0)) (by (with_reducible repeat refine y4 ?_); refine yy (cs := #[.int .i64 ((rd_T99 l0_1 x69_2).f0), .int .i64 ((rd_T99 l0_1 x69_2).f1), .int .i64 0]) ?_ 2 _ rfl; (with_reducible repeat refine y4 ?_); refine yy (cs := #[.int .i64 ((rd_T99 l0_1 x69_2).f0), .int .i64 0, .int .i64 0]) ?_ 1 _ rfl; (with_reducible repeat refine y4 ?_); refine yy (cs := #[.int .i64 0, .int .i64 0, .int .i64 0]) ?_ 0 _ rfl; (with_reducible repeat refine y4 ?_); exact BK219.out) hb); have n2_ := ym (yn yb hb); have n3_ := ym (hbox); have n4_ := ym ((by rw [hg]; exact (below_size yb) : wr.heap.size ≤ gb220)); have n5_ := n4_; have n6_ := ym ((by rw [hg]; exact Nat.ne_of_lt (blk_lt (g := gb215) (o := .cells #[.slice A0_0 l0_0.length c0_0, .slice (some ad218) l0_1.length c0_1] 52 (0, 0)) (by (with_reducible repeat refine y4 ?_); refine yx ?_ NB215_219.out _; (with_reducible repeat refine y4 ?_); refine yx ?_ NB215_219.out _; (with_reducible repeat refine y4 ?_); refine yx ?_ NB215_219.out _; (with_reducible repeat refine y4 ?_); exact BK215.out)) : gb215 ≠ gb220)); have n7_ := ym ((by rw [hg]; exact Nat.ne_of_gt (blk_lt (g := gb215) (o := .cells #[.slice A0_0 l0_0.length c0_0, .slice (some ad218) l0_1.length c0_1] 52 (0, 0)) (by (with_reducible repeat refine y4 ?_); refine yx ?_ NB215_219.out _; (with_reducible repeat refine y4 ?_); refine yx ?_ NB215_219.out _; (with_reducible repeat refine y4 ?_); refine yx ?_ NB215_219.out _; (with_reducible repeat refine y4 ?_); exact BK215.out)) : gb220 ≠ gb215)); have n8_ := ym ((by rw [hg]; exact Nat.ne_of_lt (blk_lt (g := gb219) (o := .cells #[.int .i64 ((rd_T99 l0_1 x69_2).f0), .int .i64 ((rd_T99 l0_1 x69_2).f1), .int .i64 ((rd_T99 l0_1 x69_2).f2)] 99 (0, 0)) (by (with_reducible repeat refine y4 ?_); refine yy (cs := #[.int .i64 ((rd_T99 l0_1 x69_2).f0), .int .i64 ((rd_T99 l0_1 x69_2).f1), .int .i64 0]) ?_ 2 _ rfl; (with_reducible repeat refine y4 ?_); refine yy (cs := #[.int .i64 ((rd_T99 l0_1 x69_2).f0), .int .i64 0, .int .i64 0]) ?_ 1 _ rfl; (with_reducible repeat refine y4 ?_); refine yy (cs := #[.int .i64 0, .int .i64 0, .int .i64 0]) ?_ 0 _ rfl; (with_reducible repeat refine y4 ?_); exact BK219.out)) : gb219 ≠ gb220)); have n9_ := ym ((by rw [hg]; exact Nat.ne_of_gt (blk_lt (g := gb219) (o := .cells #[.int .i64 ((rd_T99 l0_1 x69_2).f0), .int .i64 ((rd_T99 l0_1 x69_2).f1), .int .i64 ((rd_T99 l0_1 x69_2).f2)] 99 (0, 0)) (by (with_reducible repeat refine y4 ?_); refine yy (cs := #[.int .i64 ((rd_T99 l0_1 x69_2).f0), .int .i64 ((rd_T99 l0_1 x69_2).f1), .int .i64 0]) ?_ 2 _ rfl; (with_reducible repeat refine y4 ?_); refine yy (cs := #[.int .i64 ((rd_T99 l0_1 x69_2).f0), .int .i64 0, .int .i64 0]) ?_ 1 _ rfl; (with_reducible repeat refine y4 ?_); refine yy (cs := #[.int .i64 0, .int .i64 0, .int .i64 0]) ?_ 0 _ rfl; (with_reducible repeat refine y4 ?_); exact BK219.out)) : gb220 ≠ gb219)); clear BK215; clear BK219; clear HB; have BK215 := n0_; have BK219 := n1_; have HB := n2_; have BK220 := n3_; have GW220 := n4_; have GE220 := n5_; have NB215_220 := n6_; have NB220_215 := n7_; have NB219_220 := n8_; have NB220_219 := n9_; clear n0_ n1_ n2_ n3_ n4_ n5_ n6_ n7_ n8_ n9_; clear hb hbox hg; have hnb63 := NB220_215.out; have hnc63 := NB215_220.out; have hnb64 := NB220_219.out; have hnc64 := NB219_220.out; have hcz65_0 : w62.cell? ⟨gb220, 0, none⟩ = some (.int .i64 0) := (yw BK220.out 0).trans rfl; have hcz65_1 : w62.cell? ⟨gb220, 1, none⟩ = some (.int .i64 0) := (yw BK220.out 1).trans rfl; have hfz65_0 := yv BK220.out 0; have hfz65_1 := yv BK220.out 1) | (at_lookup; refine Seen.look (SM.out.below ?hb) vk_pair _ _ 139 rfl rfl Try.underlying139 Try.underlying3 vk_zero rfl _ rfl _ KS.out false KR.out ?_; (case hb => repeat (first | exact HB.out | apply ya | refine ys ?_ GE219.out | refine ys ?_ GE220.out)); intro c_))
                  have n0_ : Aside0 (((w62.setCell ⟨gb220, 0, none⟩ (.int .i64 ((rd_T99 l0_1 x69_2).f0))).setCell ⟨gb220, 1, none⟩ (.int .i64 ((rd_T99 l0_1 x69_2).f1))).heap[gb215]? = some (.cells #[.slice A0_0 l0_0.length c0_0, .slice (some ad218) l0_1.length c0_1] 52 (0, 0))) := ⟨by (with_reducible repeat refine y4 ?_); refine yx ?_ NB215_220.out _; (with_reducible repeat refine y4 ?_); refine yx ?_ NB215_220.out _; (with_reducible repeat refine y4 ?_); exact BK215.out⟩
                  have n1_ : Aside0 (((w62.setCell ⟨gb220, 0, none⟩ (.int .i64 ((rd_T99 l0_1 x69_2).f0))).setCell ⟨gb220, 1, none⟩ (.int .i64 ((rd_T99 l0_1 x69_2).f1))).heap[gb219]? = some (.cells #[.int .i64 ((rd_T99 l0_1 x69_2).f0), .int .i64 ((rd_T99 l0_1 x69_2).f1), .int .i64 ((rd_T99 l0_1 x69_2).f2)] 99 (0, 0))) := ⟨by (with_reducible repeat refine y4 ?_); refine yx ?_ NB219_220.out _; (with_reducible repeat refine y4 ?_); refine yx ?_ NB219_220.out _; (with_reducible repeat refine y4 ?_); exact BK219.out⟩
                  have n2_ : Aside0 (((w62.setCell ⟨gb220, 0, none⟩ (.int .i64 ((rd_T99 l0_1 x69_2).f0))).setCell ⟨gb220, 1, none⟩ (.int .i64 ((rd_T99 l0_1 x69_2).f1))).heap[gb220]? = some (.cells #[.int .i64 ((rd_T99 l0_1 x69_2).f0), .int .i64 ((rd_T99 l0_1 x69_2).f1)] 140 (0, 0))) := ⟨by (with_reducible repeat refine y4 ?_); refine yy (cs := #[.int .i64 ((rd_T99 l0_1 x69_2).f0), .int .i64 0]) ?_ 1 _ rfl; (with_reducible repeat refine y4 ?_); refine yy (cs := #[.int .i64 0, .int .i64 0]) ?_ 0 _ rfl; (with_reducible repeat refine y4 ?_); exact BK220.out⟩
                  have n3_ : Aside0 (Below wr.heap.size wr ((w62.setCell ⟨gb220, 0, none⟩ (.int .i64 ((rd_T99 l0_1 x69_2).f0))).setCell ⟨gb220, 1, none⟩ (.int .i64 ((rd_T99 l0_1 x69_2).f1)))) := ⟨by repeat (first | (with_reducible first | exact HB.out | apply y3 | refine ys ?_ GE215.out | refine ys ?_ GE219.out | refine ys ?_ GE220.out) | exact HB.out)⟩
                  (try clear BK215)
                  (try clear BK219)
                  (try clear BK220)
                  (try clear HB)
                  generalize ((w62.setCell ⟨gb220, 0, none⟩ (.int .i64 ((rd_T99 l0_1 x69_2).f0))).setCell ⟨gb220, 1, none⟩ (.int .i64 ((rd_T99 l0_1 x69_2).f1))) = w66 at n0_ n1_ n2_ n3_ ⊢
                  have BK215 := n0_
                  have BK219 := n1_
                  have BK220 := n2_
                  have HB := n3_
                  clear n0_ n1_ n2_ n3_
                  (try (rw [drewN_self w66]; generalize hq_ : World.drewN w66 _ = w66; have n0_ : Aside0 (w66.heap[gb215]? = some (.cells #[.slice A0_0 l0_0.length c0_0, .slice (some ad218) l0_1.length c0_1] 52 (0, 0))) := ⟨by rw [← hq_]; exact (yc BK215)⟩; have n1_ : Aside0 (w66.heap[gb219]? = some (.cells #[.int .i64 ((rd_T99 l0_1 x69_2).f0), .int .i64 ((rd_T99 l0_1 x69_2).f1), .int .i64 ((rd_T99 l0_1 x69_2).f2)] 99 (0, 0))) := ⟨by rw [← hq_]; exact (yc BK219)⟩; have n2_ : Aside0 (w66.heap[gb220]? = some (.cells #[.int .i64 ((rd_T99 l0_1 x69_2).f0), .int .i64 ((rd_T99 l0_1 x69_2).f1)] 140 (0, 0))) := ⟨by rw [← hq_]; exact (yc BK220)⟩; have n3_ : Aside0 (Below wr.heap.size wr w66) := ⟨by rw [← hq_]; exact yb⟩; clear BK215 BK219 BK220 HB hq_; have BK215 := n0_; have BK219 := n1_; have BK220 := n2_; have HB := n3_; clear n0_ n1_ n2_ n3_))
                  have n0_ := ym (yt BK215.out)
                  have n1_ := ym (yt BK219.out)
                  have n2_ := ym (yt BK220.out)
                  have n3_ := ym (ye HB.out)
                  clear BK215
                  clear BK219
                  clear BK220
                  clear HB
                  have BK215 := n0_
                  have BK219 := n1_
                  have BK220 := n2_
                  have HB := n3_
                  clear n0_ n1_ n2_ n3_
                  have p225 : 0 ≤ (((rd_T99 l0_1 x69_2).f2) : Int) := of_decide_eq_true y5
                  have q225 : ((rd_T99 l0_1 x69_2).f2) < (l0_0.length : Int) := of_decide_eq_true y5
                  obtain ⟨ad225, e225, hx225_0⟩ := Kd.at_string HR0_0.out ((rd_T99 l0_1 x69_2).f2) p225 q225
                  have hw225_0 := hx225_0
                  cases e225
                  replace hx225_0 := (HB.out.cell (World.block_lt_of_cell? wr _ hx225_0)).trans hx225_0
                  replace p225 := eq_true p225
                  replace q225 := eq_true q225
                  have p226 : 0 ≤ (((rd_T99 l0_1 x69_2).f0) : Int) := of_decide_eq_true y5
                  have q226 : ((rd_T99 l0_1 x69_2).f0) < (l0_0.length : Int) := of_decide_eq_true y5
                  obtain ⟨ad226, e226, hx226_0⟩ := Kd.at_string HR0_0.out ((rd_T99 l0_1 x69_2).f0) p226 q226
                  have hw226_0 := hx226_0
                  obtain rfl : ad225 = ad226 := (by injection e226)
                  replace hx226_0 := (HB.out.cell (World.block_lt_of_cell? wr _ hx226_0)).trans hx226_0
                  replace p226 := eq_true p226
                  replace q226 := eq_true q226
                  have p227 : 0 ≤ (((rd_T99 l0_1 x69_2).f1) : Int) := of_decide_eq_true y5
                  have q227 : ((rd_T99 l0_1 x69_2).f1) < (l0_0.length : Int) := of_decide_eq_true y5
                  obtain ⟨ad227, e227, hx227_0⟩ := Kd.at_string HR0_0.out ((rd_T99 l0_1 x69_2).f1) p227 q227
                  have hw227_0 := hx227_0
                  obtain rfl : ad225 = ad227 := (by injection e227)
                  replace hx227_0 := (HB.out.cell (World.block_lt_of_cell? wr _ hx227_0)).trans hx227_0
                  replace p227 := eq_true p227
                  replace q227 := eq_true q227
                  refine start_ (n := 44) (S := fun w' => w'.cell? ⟨gb215, 0, none⟩ = some (.slice (some ad225) l0_0.length c0_0) ∧ w'.cell? ⟨gb215, 1, none⟩ = some (.slice (some ad218) l0_1.length c0_1) ∧ w'.cell? ⟨gb219, 0, none⟩ = some (.int .i64 ((rd_T99 l0_1 x69_2).f0)) ∧ w'.cell? ⟨gb219, 1, none⟩ = some (.int .i64 ((rd_T99 l0_1 x69_2).f1)) ∧ w'.cell? ⟨gb219, 2, none⟩ = some (.int .i64 ((rd_T99 l0_1 x69_2).f2)) ∧ w'.cell? (ad225.add (((rd_T99 l0_1 x69_2).f2)).toNat) = some (.string (rdOf ByteArray.empty l0_0 ((rd_T99 l0_1 x69_2).f2))) ∧ w'.cell? (ad225.add (((rd_T99 l0_1 x69_2).f0)).toNat) = some (.string (rdOf ByteArray.empty l0_0 ((rd_T99 l0_1 x69_2).f0))) ∧ w'.cell? (ad225.add (((rd_T99 l0_1 x69_2).f1)).toNat) = some (.string (rdOf ByteArray.empty l0_0 ((rd_T99 l0_1 x69_2).f1)))) (ds := []) #[o_, o_, o_, o_, o_, o_, o_, o_, o_, o_, o_, o_, o_, o_, o_, o_, o_, o_, o_, o_, o_, o_, o_, o_, o_, o_, o_, o_, o_, o_, o_, o_, o_, o_, o_, o_, o_, o_, o_, o_, o_, o_, o_, o_] (by kernel_rfl) rfl rfl ⟨(yw BK215.out 0).trans rfl, (yw BK215.out 1).trans rfl, (yw BK219.out 0).trans rfl, (yw BK219.out 1).trans rfl, (yw BK219.out 2).trans rfl, ((HB.out.cell (World.block_lt_of_cell? wr _ hw225_0)).trans hw225_0), ((HB.out.cell (World.block_lt_of_cell? wr _ hw226_0)).trans hw226_0), ((HB.out.cell (World.block_lt_of_cell? wr _ hw227_0)).trans hw227_0)⟩ (fun hHeld => ?_); refine with_tabW vocab_Check.tab22 vocab_Check.bits22 (fun HT_ HW_ => ?_)
                  generalize w66.drew = w67 at BK215 BK219 BK220 HB hx225_0 hx226_0 hx227_0 hHeld ⊢
                  refine zt (i := 0) (N := some 85) HT_ ?_
                  refine zt (i := 1) (N := some 86) HT_ ?_
                  refine zt (i := 3) (N := some 88) HT_ ?_
                  refine zw (i := 2) (N := some 87) HT_ HW_ hHeld ?_ (hv := (by rintro w' ⟨s0, s1, s2, s3, s4, s5, s6, s7⟩; go_simp; with_reducible rfl))
                  refine zw (i := 4) (N := some 89) HT_ HW_ hHeld ?_ (hv := (by rintro w' ⟨s0, s1, s2, s3, s4, s5, s6, s7⟩; go_simp; with_reducible rfl))
                  refine one_ (i := 5) (N := some 90) #[i_, i_, i_, i_, i_, i_, o_, o_, o_, o_, o_, o_, o_, o_, o_, o_, o_, o_, o_, o_, o_, o_, o_, o_, o_, o_, o_, o_, o_, o_, o_, o_, o_, o_, o_, o_, o_, o_, o_, o_, o_, o_, o_, o_] rfl rfl (one_of HT_.out (by kernel_rfl)) (by decide) (fun K hK => ?_)
                  refine goes_ Try.func74 (by kernel_rfl) rfl #[.agg #[.slice (some ad225) l0_0.length c0_0, .slice (some ad218) l0_1.length c0_1], .int .i64 ((rd_T99 l0_1 x69_2).f0)] (by rfl) rfl rfl y6 ?_
                  with_reducible refine (vocab_says.calls _ _ l0_0 _ _ l0_1 ((rd_T99 l0_1 x69_2).f0) true _ ?side1 ?side2 ?side3 ?side4 A33.out).mono ?_
                  (case side1 => exact y9 HR0_0)
                  (case side2 => exact HC0_0.out)
                  (case side3 => exact y9 HR0_1)
                  (case side4 => exact HC0_1.out)
                  rintro e w68 ⟨rfl, hb⟩
                  refine ⟨_, rfl, ?_⟩
                  have n0_ := ym (yq (g := gb215) (o := .cells #[.slice (some ad225) l0_0.length c0_0, .slice (some ad218) l0_1.length c0_1] 52 (0, 0)) (yc BK215) hb)
                  have n1_ := ym (yq (g := gb219) (o := .cells #[.int .i64 ((rd_T99 l0_1 x69_2).f0), .int .i64 ((rd_T99 l0_1 x69_2).f1), .int .i64 ((rd_T99 l0_1 x69_2).f2)] 99 (0, 0)) (yc BK219) hb)
                  have n2_ := ym (yq (g := gb220) (o := .cells #[.int .i64 ((rd_T99 l0_1 x69_2).f0), .int .i64 ((rd_T99 l0_1 x69_2).f1)] 140 (0, 0)) (yc BK220) hb)
                  have n3_ := ym (yn yb hb)
                  clear BK215
                  clear BK219
                  clear BK220
                  clear HB
                  have BK215 := n0_
                  have BK219 := n1_
                  have BK220 := n2_
                  have HB := n3_
                  clear n0_ n1_ n2_ n3_
                  (try clear hb)
                  (try clear hb2)
                  (try clear hk)
                  (try clear hi)
                  refine hK.out _ _ ⟨(yw BK215.out 0).trans rfl, (yw BK215.out 1).trans rfl, (yw BK219.out 0).trans rfl, (yw BK219.out 1).trans rfl, (yw BK219.out 2).trans rfl, ((HB.out.cell (World.block_lt_of_cell? wr _ hw225_0)).trans hw225_0), ((HB.out.cell (World.block_lt_of_cell? wr _ hw226_0)).trans hw226_0), ((HB.out.cell (World.block_lt_of_cell? wr _ hw227_0)).trans hw227_0)⟩ (fun hHeld => ?_)
                  clear hK K
                  refine norm_ (a' := ?_) ?_ ?_
                  rotate_left
                  ·
                   show Act.put _ (some 90) _ = _
                   simp only [Act.put, y0, y1]
                   rfl
                  refine zt (i := 6) (N := some 91) HT_ ?_
                  refine zt (i := 7) (N := some 92) HT_ ?_
                  refine zt (i := 8) (N := some 93) HT_ ?_
                  refine zt (i := 10) (N := some 95) HT_ ?_
                  refine zw (i := 9) (N := some 94) HT_ HW_ hHeld ?_ (hv := (by rintro w' ⟨s0, s1, s2, s3, s4, s5, s6, s7⟩; go_simp; with_reducible rfl))
                  refine zw (i := 11) (N := some 96) HT_ HW_ hHeld ?_ (hv := (by rintro w' ⟨s0, s1, s2, s3, s4, s5, s6, s7⟩; go_simp; with_reducible rfl))
                  refine one_ (i := 12) (N := some 97) #[i_, i_, i_, i_, i_, i_, i_, i_, i_, i_, i_, i_, i_, o_, o_, o_, o_, o_, o_, o_, o_, o_, o_, o_, o_, o_, o_, o_, o_, o_, o_, o_, o_, o_, o_, o_, o_, o_, o_, o_, o_, o_, o_, o_] rfl rfl (one_of HT_.out (by kernel_rfl)) (by decide) (fun K hK => ?_)
                  refine goes_ Try.func74 (by kernel_rfl) rfl #[.agg #[.slice (some ad225) l0_0.length c0_0, .slice (some ad218) l0_1.length c0_1], .int .i64 ((rd_T99 l0_1 x69_2).f1)] (by rfl) rfl rfl y6 ?_
                  with_reducible refine (vocab_says.calls _ _ l0_0 _ _ l0_1 ((rd_T99 l0_1 x69_2).f1) true _ ?side1 ?side2 ?side3 ?side4 A35.out).mono ?_
                  (case side1 => exact y9 HR0_0)
                  (case side2 => exact HC0_0.out)
                  (case side3 => exact y9 HR0_1)
                  (case side4 => exact HC0_1.out)
                  rintro e w69 ⟨rfl, hb⟩
                  refine ⟨_, rfl, ?_⟩
                  have n0_ := ym (yq (g := gb215) (o := .cells #[.slice (some ad225) l0_0.length c0_0, .slice (some ad218) l0_1.length c0_1] 52 (0, 0)) (yc BK215) hb)
                  have n1_ := ym (yq (g := gb219) (o := .cells #[.int .i64 ((rd_T99 l0_1 x69_2).f0), .int .i64 ((rd_T99 l0_1 x69_2).f1), .int .i64 ((rd_T99 l0_1 x69_2).f2)] 99 (0, 0)) (yc BK219) hb)
                  have n2_ := ym (yq (g := gb220) (o := .cells #[.int .i64 ((rd_T99 l0_1 x69_2).f0), .int .i64 ((rd_T99 l0_1 x69_2).f1)] 140 (0, 0)) (yc BK220) hb)
                  have n3_ := ym (yn yb hb)
                  clear BK215
                  clear BK219
                  clear BK220
                  clear HB
                  have BK215 := n0_
                  have BK219 := n1_
                  have BK220 := n2_
                  have HB := n3_
                  clear n0_ n1_ n2_ n3_
                  (try clear hb)
                  (try clear hb2)
                  (try clear hk)
                  (try clear hi)
                  refine hK.out _ _ ⟨(yw BK215.out 0).trans rfl, (yw BK215.out 1).trans rfl, (yw BK219.out 0).trans rfl, (yw BK219.out 1).trans rfl, (yw BK219.out 2).trans rfl, ((HB.out.cell (World.block_lt_of_cell? wr _ hw225_0)).trans hw225_0), ((HB.out.cell (World.block_lt_of_cell? wr _ hw226_0)).trans hw226_0), ((HB.out.cell (World.block_lt_of_cell? wr _ hw227_0)).trans hw227_0)⟩ (fun hHeld => ?_)
                  clear hK K
                  refine norm_ (a' := ?_) ?_ ?_
                  rotate_left
                  ·
                   show Act.put _ (some 97) _ = _
                   simp only [Act.put, y0, y1]
                   rfl
                  refine zt (i := 13) (N := some 98) HT_ ?_
                  refine zt (i := 14) (N := some 99) HT_ ?_
                  refine zt (i := 15) (N := some 100) HT_ ?_
                  refine zt (i := 17) (N := some 102) HT_ ?_
                  refine zw (i := 16) (N := some 101) HT_ HW_ hHeld ?_ (hv := (by rintro w' ⟨s0, s1, s2, s3, s4, s5, s6, s7⟩; go_simp; with_reducible rfl))
                  refine zw (i := 18) (N := some 103) HT_ HW_ hHeld ?_ (hv := (by rintro w' ⟨s0, s1, s2, s3, s4, s5, s6, s7⟩; go_simp; with_reducible rfl))
                  refine one_ (i := 19) (N := some 104) #[i_, i_, i_, i_, i_, i_, i_, i_, i_, i_, i_, i_, i_, i_, i_, i_, i_, i_, i_, i_, o_, o_, o_, o_, o_, o_, o_, o_, o_, o_, o_, o_, o_, o_, o_, o_, o_, o_, o_, o_, o_, o_, o_, o_] rfl rfl (one_of HT_.out (by kernel_rfl)) (by decide) (fun K hK => ?_)
                  refine goes_ Try.func74 (by kernel_rfl) rfl #[.agg #[.slice (some ad225) l0_0.length c0_0, .slice (some ad218) l0_1.length c0_1], .int .i64 ((rd_T99 l0_1 x69_2).f2)] (by rfl) rfl rfl y6 ?_
                  with_reducible refine (vocab_says.calls _ _ l0_0 _ _ l0_1 ((rd_T99 l0_1 x69_2).f2) true _ ?side1 ?side2 ?side3 ?side4 A37.out).mono ?_
                  (case side1 => exact y9 HR0_0)
                  (case side2 => exact HC0_0.out)
                  (case side3 => exact y9 HR0_1)
                  (case side4 => exact HC0_1.out)
                  rintro e w70 ⟨rfl, hb⟩
                  refine ⟨_, rfl, ?_⟩
                  have n0_ := ym (yq (g := gb215) (o := .cells #[.slice (some ad225) l0_0.length c0_0, .slice (some ad218) l0_1.length c0_1] 52 (0, 0)) (yc BK215) hb)
                  have n1_ := ym (yq (g := gb219) (o := .cells #[.int .i64 ((rd_T99 l0_1 x69_2).f0), .int .i64 ((rd_T99 l0_1 x69_2).f1), .int .i64 ((rd_T99 l0_1 x69_2).f2)] 99 (0, 0)) (yc BK219) hb)
                  have n2_ := ym (yq (g := gb220) (o := .cells #[.int .i64 ((rd_T99 l0_1 x69_2).f0), .int .i64 ((rd_T99 l0_1 x69_2).f1)] 140 (0, 0)) (yc BK220) hb)
                  have n3_ := ym (yn yb hb)
                  clear BK215
                  clear BK219
                  clear BK220
                  clear HB
                  have BK215 := n0_
                  have BK219 := n1_
                  have BK220 := n2_
                  have HB := n3_
                  clear n0_ n1_ n2_ n3_
                  (try clear hb)
                  (try clear hb2)
                  (try clear hk)
                  (try clear hi)
                  refine hK.out _ _ ⟨(yw BK215.out 0).trans rfl, (yw BK215.out 1).trans rfl, (yw BK219.out 0).trans rfl, (yw BK219.out 1).trans rfl, (yw BK219.out 2).trans rfl, ((HB.out.cell (World.block_lt_of_cell? wr _ hw225_0)).trans hw225_0), ((HB.out.cell (World.block_lt_of_cell? wr _ hw226_0)).trans hw226_0), ((HB.out.cell (World.block_lt_of_cell? wr _ hw227_0)).trans hw227_0)⟩ (fun hHeld => ?_)
                  clear hK K
                  refine norm_ (a' := ?_) ?_ ?_
                  rotate_left
                  ·
                   show Act.put _ (some 104) _ = _
                   simp only [Act.put, y0, y1]
                   rfl
                  refine zt (i := 20) (N := some 105) HT_ ?_
                  refine zt (i := 21) (N := some 106) HT_ ?_
                  refine zt (i := 22) (N := some 107) HT_ ?_
                  refine zt (i := 23) (N := some 108) HT_ ?_
                  refine zt (i := 25) (N := some 110) HT_ ?_
                  refine zt (i := 29) (N := some 114) HT_ ?_
                  refine zt (i := 31) (N := some 116) HT_ ?_
                  refine zt (i := 35) (N := some 120) HT_ ?_
                  refine zt (i := 37) (N := some 122) HT_ ?_
                  refine zw (i := 24) (N := some 109) HT_ HW_ hHeld ?_ (hv := (by rintro w' ⟨s0, s1, s2, s3, s4, s5, s6, s7⟩; go_simp; with_reducible rfl))
                  refine zw (i := 26) (N := some 111) HT_ HW_ hHeld ?_ (hv := (by rintro w' ⟨s0, s1, s2, s3, s4, s5, s6, s7⟩; go_simp; with_reducible rfl))
                  refine zt (i := 27) (N := some 112) HT_ ?_
                  refine zw (i := 28) (N := some 113) HT_ HW_ hHeld ?_ (hv := (by rintro w' ⟨s0, s1, s2, s3, s4, s5, s6, s7⟩; go_simp; with_reducible rfl))
                  refine zw (i := 30) (N := some 115) HT_ HW_ hHeld ?_ (hv := (by rintro w' ⟨s0, s1, s2, s3, s4, s5, s6, s7⟩; go_simp; with_reducible rfl))
                  refine zw (i := 32) (N := some 117) HT_ HW_ hHeld ?_ (hv := (by rintro w' ⟨s0, s1, s2, s3, s4, s5, s6, s7⟩; go_simp; with_reducible rfl))
                  refine zt (i := 33) (N := some 118) HT_ ?_
                  refine zw (i := 34) (N := some 119) HT_ HW_ hHeld ?_ (hv := (by rintro w' ⟨s0, s1, s2, s3, s4, s5, s6, s7⟩; go_simp; with_reducible rfl))
                  refine zw (i := 36) (N := some 121) HT_ HW_ hHeld ?_ (hv := (by rintro w' ⟨s0, s1, s2, s3, s4, s5, s6, s7⟩; go_simp; with_reducible rfl))
                  refine zw (i := 38) (N := some 123) HT_ HW_ hHeld ?_ (hv := (by rintro w' ⟨s0, s1, s2, s3, s4, s5, s6, s7⟩; go_simp; with_reducible rfl))
                  refine zt (i := 39) (N := some 124) HT_ ?_
                  refine zw (i := 40) (N := some 125) HT_ HW_ hHeld ?_ (hv := (by rintro w' ⟨s0, s1, s2, s3, s4, s5, s6, s7⟩; go_simp; with_reducible rfl))
                  refine zt (i := 41) (N := some 126) HT_ ?_
                  refine zt (i := 42) (N := some 127) HT_ ?_
                  refine zt (i := 43) (N := some 128) HT_ ?_
                  refine done_ (done_of HT_.out (by kernel_rfl)) ?_
                  try go_wp2
                  go_ret2
                  exact ⟨by first | rfl | (simp [errW_none, errW_some] <;> rfl) | (simp [*, errW_none, errW_some] <;> rfl), below_then HBW.out ZW.out yb⟩
                 rw [if_neg c45] at H
                 exact absurd H (by simp)
                rw [if_neg c44] at H
                exact absurd H (by simp)
               rw [if_neg c43] at H
               exact absurd H (by simp)
              rw [if_neg c42] at H
              exact absurd H (by simp)
             rw [if_neg c41] at H
             exact absurd H (by simp)
            rw [if_neg c40] at H
            exact absurd H (by simp)
           rw [if_neg c39] at H
           exact absurd H (by simp)
          replace c38 := Bool.eq_false_iff.mpr c38
          subst c38
          have H1 : (some (x69_2, 131)) = some (r1, r2) := by rw [if_neg (show ¬ (false = true) by decide)] at H; exact H
          clear H
          have H := H1
          clear H1
          simp only [Option.some.injEq, Prod.mk.injEq] at H
          obtain ⟨rfl, rfl⟩ := H
          have p218 : 0 ≤ (x69_2 : Int) := of_decide_eq_true y5
          have q218 : x69_2 < (l0_1.length : Int) := of_decide_eq_true y5
          obtain ⟨ad218, e218, hx218_0, hx218_1, hx218_2⟩ := at_T99 HR0_1.out x69_2 p218 q218
          cases e218
          replace hx218_0 := (HB.out.cell (World.block_lt_of_cell? wr _ hx218_0)).trans hx218_0
          replace hx218_1 := (HB.out.cell (World.block_lt_of_cell? wr _ hx218_1)).trans hx218_1
          replace hx218_2 := (HB.out.cell (World.block_lt_of_cell? wr _ hx218_2)).trans hx218_2
          replace p218 := eq_true p218
          replace q218 := eq_true q218
          obtain ⟨kl_, hkl_⟩ := vocab_SeenMerge.key A22.out
          have KS := ym hkl_
          clear hkl_
          have KR := ym (vocab_SeenMerge.mem A22.out)
          try go_wp2_with (first | ((with_reducible refine gate_dst (N := 11) rfl ?_); refine box_event ?hg (N := 11) ?hd (cs := #[.int .i64 0, .int .i64 0, .int .i64 0]) (t := 99) ?hr ?_; (case hd => rfl); (case hg => rfl); (case hr => first | (go_simp; done) | (go_simp; rfl)); intro gb219 hg w71 hbox hb; have n0_ := ym (yq (g := gb215) (o := .cells #[.slice A0_0 l0_0.length c0_0, .slice (some ad218) l0_1.length c0_1] 52 (0, 0)) (yc BK215) hb); have n1_ := ym (yn yb hb); have n2_ := ym (hbox); have n3_ := ym ((by rw [hg]; exact (below_size yb) : wr.heap.size ≤ gb219)); have n4_ := n3_; have n5_ := ym ((by rw [hg]; exact Nat.ne_of_lt (blk_lt (g := gb215) (o := .cells #[.slice A0_0 l0_0.length c0_0, .slice (some ad218) l0_1.length c0_1] 52 (0, 0)) (yc BK215)) : gb215 ≠ gb219)); have n6_ := ym ((by rw [hg]; exact Nat.ne_of_gt (blk_lt (g := gb215) (o := .cells #[.slice A0_0 l0_0.length c0_0, .slice (some ad218) l0_1.length c0_1] 52 (0, 0)) (yc BK215)) : gb219 ≠ gb215)); clear BK215; clear HB; have BK215 := n0_; have HB := n1_; have BK219 := n2_; have GW219 := n3_; have GE219 := n4_; have NB215_219 := n5_; have NB219_215 := n6_; clear n0_ n1_ n2_ n3_ n4_ n5_ n6_; clear hb hbox hg; have hnb72 := NB219_215.out; have hnc72 := NB215_219.out; have hcz73_0 : w71.cell? ⟨gb219, 0, none⟩ = some (.int .i64 0) := (yw BK219.out 0).trans rfl; have hcz73_1 : w71.cell? ⟨gb219, 1, none⟩ = some (.int .i64 0) := (yw BK219.out 1).trans rfl; have hcz73_2 : w71.cell? ⟨gb219, 2, none⟩ = some (.int .i64 0) := (yw BK219.out 2).trans rfl; have hfz73_0 := yv BK219.out 0; have hfz73_1 := yv BK219.out 1; have hfz73_2 := yv BK219.out 2) | ((with_reducible refine gate_dst (N := 12) rfl ?_); refine box_event ?hg (N := 12) ?hd (cs := #[.int .i64 0, .int .i64 0]) (t := 140) ?hr ?_; (case hd => rfl); (case hg => rfl); (case hr => first | (go_simp; done) | (go_simp; rfl)); intro gb220 hg w74 hbox hb; have n0_ := ym (yq (g := gb215) (o := .cells #[.slice A0_0 l0_0.length c0_0, .slice (some ad218) l0_1.length c0_1] 52 (0, 0)) (by (with_reducible repeat refine y4 ?_); refine yx ?_ NB215_219.out _; (with_reducible repeat refine y4 ?_); refine yx ?_ NB215_219.out _; (with_reducible repeat refine y4 ?_); refine yx ?_ NB215_219.out _; (with_reducible repeat refine y4 ?_); exact BK215.out) hb); have n1_ := ym (yq (g := gb219) (o := .cells #[.int .i64 ((rd_T99 l0_1 x69_2).f0), .int .i64 ((rd_T99 l0_1 x69_2).f1), .int .i64 ((rd_T99 l0_1 x69_2).f2)] 99 (0, 0)) (by (with_reducible repeat refine y4 ?_); refine yy (cs := #[.int .i64 ((rd_T99 l0_1 x69_2).f0), .int .i64 ((rd_T99 l0_1 x69_2).f1), .int .i64 0]) ?_ 2 _ rfl; (with_reducible repeat refine y4 ?_); refine yy (cs := #[.int .i64 ((rd_T99 l0_1 x69_2).f0), .int .i64 0, .int .i64 0]) ?_ 1 _ rfl; (with_reducible repeat refine y4 ?_); refine yy (cs := #[.int .i64 0, .int .i64 0, .int .i64 0]) ?_ 0 _ rfl; (with_reducible repeat refine y4 ?_); exact BK219.out) hb); have n2_ := ym (yn yb hb); have n3_ := ym (hbox); have n4_ := ym ((by rw [hg]; exact (below_size yb) : wr.heap.size ≤ gb220)); have n5_ := n4_; have n6_ := ym ((by rw [hg]; exact Nat.ne_of_lt (blk_lt (g := gb215) (o := .cells #[.slice A0_0 l0_0.length c0_0, .slice (some ad218) l0_1.length c0_1] 52 (0, 0)) (by (with_reducible repeat refine y4 ?_); refine yx ?_ NB215_219.out _; (with_reducible repeat refine y4 ?_); refine yx ?_ NB215_219.out _; (with_reducible repeat refine y4 ?_); refine yx ?_ NB215_219.out _; (with_reducible repeat refine y4 ?_); exact BK215.out)) : gb215 ≠ gb220)); have n7_ := ym ((by rw [hg]; exact Nat.ne_of_gt (blk_lt (g := gb215) (o := .cells #[.slice A0_0 l0_0.length c0_0, .slice (some ad218) l0_1.length c0_1] 52 (0, 0)) (by (with_reducible repeat refine y4 ?_); refine yx ?_ NB215_219.out _; (with_reducible repeat refine y4 ?_); refine yx ?_ NB215_219.out _; (with_reducible repeat refine y4 ?_); refine yx ?_ NB215_219.out _; (with_reducible repeat refine y4 ?_); exact BK215.out)) : gb220 ≠ gb215)); have n8_ := ym ((by rw [hg]; exact Nat.ne_of_lt (blk_lt (g := gb219) (o := .cells #[.int .i64 ((rd_T99 l0_1 x69_2).f0), .int .i64 ((rd_T99 l0_1 x69_2).f1), .int .i64 ((rd_T99 l0_1 x69_2).f2)] 99 (0, 0)) (by (with_reducible repeat refine y4 ?_); refine yy (cs := #[.int .i64 ((rd_T99 l0_1 x69_2).f0), .int .i64 ((rd_T99 l0_1 x69_2).f1), .int .i64 0]) ?_ 2 _ rfl; (with_reducible repeat refine y4 ?_); refine yy (cs := #[.int .i64 ((rd_T99 l0_1 x69_2).f0), .int .i64 0, .int .i64 0]) ?_ 1 _ rfl; (with_reducible repeat refine y4 ?_); refine yy (cs := #[.int .i64 0, .int .i64 0, .int .i64 0]) ?_ 0 _ rfl; (with_reducible repeat refine y4 ?_); exact BK219.out)) : gb219 ≠ gb220)); have n9_ := ym ((by rw [hg]; exact Nat.ne_of_gt (blk_lt (g := gb219) (o := .cells #[.int .i64 ((rd_T99 l0_1 x69_2).f0), .int .i64 ((rd_T99 l0_1 x69_2).f1), .int .i64 ((rd_T99 l0_1 x69_2).f2)] 99 (0, 0)) (by (with_reducible repeat refine y4 ?_); refine yy (cs := #[.int .i64 ((rd_T99 l0_1 x69_2).f0), .int .i64 ((rd_T99 l0_1 x69_2).f1), .int .i64 0]) ?_ 2 _ rfl; (with_reducible repeat refine y4 ?_); refine yy (cs := #[.int .i64 ((rd_T99 l0_1 x69_2).f0), .int .i64 0, .int .i64 0]) ?_ 1 _ rfl; (with_reducible repeat refine y4 ?_); refine yy (cs := #[.int .i64 0, .int .i64 0, .int .i64 0]) ?_ 0 _ rfl; (with_reducible repeat refine y4 ?_); exact BK219.out)) : gb220 ≠ gb219)); clear BK215; clear BK219; clear HB; have BK215 := n0_; have BK219 := n1_; have HB := n2_; have BK220 := n3_; have GW220 := n4_; have GE220 := n5_; have NB215_220 := n6_; have NB220_215 := n7_; have NB219_220 := n8_; have NB220_219 := n9_; clear n0_ n1_ n2_ n3_ n4_ n5_ n6_ n7_ n8_ n9_; clear hb hbox hg; have hnb75 := NB220_215.out; have hnc75 := NB215_220.out; have hnb76 := NB220_219.out; have hnc76 := NB219_220.out; have hcz77_0 : w74.cell? ⟨gb220, 0, none⟩ = some (.int .i64 0) := (yw BK220.out 0).trans rfl; have hcz77_1 : w74.cell? ⟨gb220, 1, none⟩ = some (.int .i64 0) := (yw BK220.out 1).trans rfl; have hfz77_0 := yv BK220.out 0; have hfz77_1 := yv BK220.out 1) | (at_lookup; refine Seen.look (SM.out.below ?hb) vk_pair _ _ 139 rfl rfl Try.underlying139 Try.underlying3 vk_zero rfl _ rfl _ KS.out false KR.out ?_; (case hb => repeat (first | exact HB.out | apply ya | refine ys ?_ GE219.out | refine ys ?_ GE220.out)); intro c_))
          have n0_ : Aside0 (((w74.setCell ⟨gb220, 0, none⟩ (.int .i64 ((rd_T99 l0_1 x69_2).f0))).setCell ⟨gb220, 1, none⟩ (.int .i64 ((rd_T99 l0_1 x69_2).f1))).heap[gb215]? = some (.cells #[.slice A0_0 l0_0.length c0_0, .slice (some ad218) l0_1.length c0_1] 52 (0, 0))) := ⟨by (with_reducible repeat refine y4 ?_); refine yx ?_ NB215_220.out _; (with_reducible repeat refine y4 ?_); refine yx ?_ NB215_220.out _; (with_reducible repeat refine y4 ?_); exact BK215.out⟩
          have n1_ : Aside0 (((w74.setCell ⟨gb220, 0, none⟩ (.int .i64 ((rd_T99 l0_1 x69_2).f0))).setCell ⟨gb220, 1, none⟩ (.int .i64 ((rd_T99 l0_1 x69_2).f1))).heap[gb219]? = some (.cells #[.int .i64 ((rd_T99 l0_1 x69_2).f0), .int .i64 ((rd_T99 l0_1 x69_2).f1), .int .i64 ((rd_T99 l0_1 x69_2).f2)] 99 (0, 0))) := ⟨by (with_reducible repeat refine y4 ?_); refine yx ?_ NB219_220.out _; (with_reducible repeat refine y4 ?_); refine yx ?_ NB219_220.out _; (with_reducible repeat refine y4 ?_); exact BK219.out⟩
          have n2_ : Aside0 (((w74.setCell ⟨gb220, 0, none⟩ (.int .i64 ((rd_T99 l0_1 x69_2).f0))).setCell ⟨gb220, 1, none⟩ (.int .i64 ((rd_T99 l0_1 x69_2).f1))).heap[gb220]? = some (.cells #[.int .i64 ((rd_T99 l0_1 x69_2).f0), .int .i64 ((rd_T99 l0_1 x69_2).f1)] 140 (0, 0))) := ⟨by (with_reducible repeat refine y4 ?_); refine yy (cs := #[.int .i64 ((rd_T99 l0_1 x69_2).f0), .int .i64 0]) ?_ 1 _ rfl; (with_reducible repeat refine y4 ?_); refine yy (cs := #[.int .i64 0, .int .i64 0]) ?_ 0 _ rfl; (with_reducible repeat refine y4 ?_); exact BK220.out⟩
          have n3_ : Aside0 (Below wr.heap.size wr ((w74.setCell ⟨gb220, 0, none⟩ (.int .i64 ((rd_T99 l0_1 x69_2).f0))).setCell ⟨gb220, 1, none⟩ (.int .i64 ((rd_T99 l0_1 x69_2).f1)))) := ⟨by repeat (first | (with_reducible first | exact HB.out | apply y3 | refine ys ?_ GE215.out | refine ys ?_ GE219.out | refine ys ?_ GE220.out) | exact HB.out)⟩
          (try clear BK215)
          (try clear BK219)
          (try clear BK220)
          (try clear HB)
          generalize ((w74.setCell ⟨gb220, 0, none⟩ (.int .i64 ((rd_T99 l0_1 x69_2).f0))).setCell ⟨gb220, 1, none⟩ (.int .i64 ((rd_T99 l0_1 x69_2).f1))) = w78 at n0_ n1_ n2_ n3_ ⊢
          have BK215 := n0_
          have BK219 := n1_
          have BK220 := n2_
          have HB := n3_
          clear n0_ n1_ n2_ n3_
          (try (rw [drewN_self w78]; generalize hq_ : World.drewN w78 _ = w78; have n0_ : Aside0 (w78.heap[gb215]? = some (.cells #[.slice A0_0 l0_0.length c0_0, .slice (some ad218) l0_1.length c0_1] 52 (0, 0))) := ⟨by rw [← hq_]; exact (yc BK215)⟩; have n1_ : Aside0 (w78.heap[gb219]? = some (.cells #[.int .i64 ((rd_T99 l0_1 x69_2).f0), .int .i64 ((rd_T99 l0_1 x69_2).f1), .int .i64 ((rd_T99 l0_1 x69_2).f2)] 99 (0, 0))) := ⟨by rw [← hq_]; exact (yc BK219)⟩; have n2_ : Aside0 (w78.heap[gb220]? = some (.cells #[.int .i64 ((rd_T99 l0_1 x69_2).f0), .int .i64 ((rd_T99 l0_1 x69_2).f1)] 140 (0, 0))) := ⟨by rw [← hq_]; exact (yc BK220)⟩; have n3_ : Aside0 (Below wr.heap.size wr w78) := ⟨by rw [← hq_]; exact yb⟩; clear BK215 BK219 BK220 HB hq_; have BK215 := n0_; have BK219 := n1_; have BK220 := n2_; have HB := n3_; clear n0_ n1_ n2_ n3_))
          have n0_ := ym (yt BK215.out)
          have n1_ := ym (yt BK219.out)
          have n2_ := ym (yt BK220.out)
          have n3_ := ym (ye HB.out)
          clear BK215
          clear BK219
          clear BK220
          clear HB
          have BK215 := n0_
          have BK219 := n1_
          have BK220 := n2_
          have HB := n3_
          clear n0_ n1_ n2_ n3_
          refine start_ (n := 44) (S := fun w' => w'.cell? ⟨gb215, 0, none⟩ = some (.slice A0_0 l0_0.length c0_0) ∧ w'.cell? ⟨gb215, 1, none⟩ = some (.slice (some ad218) l0_1.length c0_1) ∧ w'.cell? ⟨gb219, 0, none⟩ = some (.int .i64 ((rd_T99 l0_1 x69_2).f0)) ∧ w'.cell? ⟨gb219, 1, none⟩ = some (.int .i64 ((rd_T99 l0_1 x69_2).f1)) ∧ w'.cell? ⟨gb219, 2, none⟩ = some (.int .i64 ((rd_T99 l0_1 x69_2).f2))) (ds := []) #[o_, o_, o_, o_, o_, o_, o_, o_, o_, o_, o_, o_, o_, o_, o_, o_, o_, o_, o_, o_, o_, o_, o_, o_, o_, o_, o_, o_, o_, o_, o_, o_, o_, o_, o_, o_, o_, o_, o_, o_, o_, o_, o_, o_] (by kernel_rfl) rfl rfl ⟨(yw BK215.out 0).trans rfl, (yw BK215.out 1).trans rfl, (yw BK219.out 0).trans rfl, (yw BK219.out 1).trans rfl, (yw BK219.out 2).trans rfl⟩ (fun hHeld => ?_); refine with_tabW vocab_Check.tab22 vocab_Check.bits22 (fun HT_ HW_ => ?_)
          generalize w78.drew = w79 at BK215 BK219 BK220 HB hHeld ⊢
          refine zt (i := 0) (N := some 85) HT_ ?_
          refine zt (i := 1) (N := some 86) HT_ ?_
          refine zt (i := 3) (N := some 88) HT_ ?_
          refine zw (i := 2) (N := some 87) HT_ HW_ hHeld ?_ (hv := (by rintro w' ⟨s0, s1, s2, s3, s4⟩; go_simp; with_reducible rfl))
          refine zw (i := 4) (N := some 89) HT_ HW_ hHeld ?_ (hv := (by rintro w' ⟨s0, s1, s2, s3, s4⟩; go_simp; with_reducible rfl))
          refine one_ (i := 5) (N := some 90) #[i_, i_, i_, i_, i_, i_, o_, o_, o_, o_, o_, o_, o_, o_, o_, o_, o_, o_, o_, o_, o_, o_, o_, o_, o_, o_, o_, o_, o_, o_, o_, o_, o_, o_, o_, o_, o_, o_, o_, o_, o_, o_, o_, o_] rfl rfl (one_of HT_.out (by kernel_rfl)) (by decide) (fun K hK => ?_)
          refine goes_ Try.func74 (by kernel_rfl) rfl #[.agg #[.slice A0_0 l0_0.length c0_0, .slice (some ad218) l0_1.length c0_1], .int .i64 ((rd_T99 l0_1 x69_2).f0)] (by rfl) rfl rfl y6 ?_
          with_reducible refine (vocab_says.calls _ _ l0_0 _ _ l0_1 ((rd_T99 l0_1 x69_2).f0) true _ ?side1 ?side2 ?side3 ?side4 A33.out).mono ?_
          (case side1 => exact y9 HR0_0)
          (case side2 => exact HC0_0.out)
          (case side3 => exact y9 HR0_1)
          (case side4 => exact HC0_1.out)
          rintro e w80 ⟨rfl, hb⟩
          refine ⟨_, rfl, ?_⟩
          have n0_ := ym (yq (g := gb215) (o := .cells #[.slice A0_0 l0_0.length c0_0, .slice (some ad218) l0_1.length c0_1] 52 (0, 0)) (yc BK215) hb)
          have n1_ := ym (yq (g := gb219) (o := .cells #[.int .i64 ((rd_T99 l0_1 x69_2).f0), .int .i64 ((rd_T99 l0_1 x69_2).f1), .int .i64 ((rd_T99 l0_1 x69_2).f2)] 99 (0, 0)) (yc BK219) hb)
          have n2_ := ym (yq (g := gb220) (o := .cells #[.int .i64 ((rd_T99 l0_1 x69_2).f0), .int .i64 ((rd_T99 l0_1 x69_2).f1)] 140 (0, 0)) (yc BK220) hb)
          have n3_ := ym (yn yb hb)
          clear BK215
          clear BK219
          clear BK220
          clear HB
          have BK215 := n0_
          have BK219 := n1_
          have BK220 := n2_
          have HB := n3_
          clear n0_ n1_ n2_ n3_
          (try clear hb)
          (try clear hb2)
          (try clear hk)
          (try clear hi)
          refine hK.out _ _ ⟨(yw BK215.out 0).trans rfl, (yw BK215.out 1).trans rfl, (yw BK219.out 0).trans rfl, (yw BK219.out 1).trans rfl, (yw BK219.out 2).trans rfl⟩ (fun hHeld => ?_)
          clear hK K
          refine norm_ (a' := ?_) ?_ ?_
          rotate_left
          ·
           show Act.put _ (some 90) _ = _
           simp only [Act.put, y0, y1]
           rfl
          refine zt (i := 6) (N := some 91) HT_ ?_
          refine zt (i := 7) (N := some 92) HT_ ?_
          refine zt (i := 8) (N := some 93) HT_ ?_
          refine zt (i := 10) (N := some 95) HT_ ?_
          refine zw (i := 9) (N := some 94) HT_ HW_ hHeld ?_ (hv := (by rintro w' ⟨s0, s1, s2, s3, s4⟩; go_simp; with_reducible rfl))
          refine zw (i := 11) (N := some 96) HT_ HW_ hHeld ?_ (hv := (by rintro w' ⟨s0, s1, s2, s3, s4⟩; go_simp; with_reducible rfl))
          refine one_ (i := 12) (N := some 97) #[i_, i_, i_, i_, i_, i_, i_, i_, i_, i_, i_, i_, i_, o_, o_, o_, o_, o_, o_, o_, o_, o_, o_, o_, o_, o_, o_, o_, o_, o_, o_, o_, o_, o_, o_, o_, o_, o_, o_, o_, o_, o_, o_, o_] rfl rfl (one_of HT_.out (by kernel_rfl)) (by decide) (fun K hK => ?_)
          refine goes_ Try.func74 (by kernel_rfl) rfl #[.agg #[.slice A0_0 l0_0.length c0_0, .slice (some ad218) l0_1.length c0_1], .int .i64 ((rd_T99 l0_1 x69_2).f1)] (by rfl) rfl rfl y6 ?_
          with_reducible refine (vocab_says.calls _ _ l0_0 _ _ l0_1 ((rd_T99 l0_1 x69_2).f1) true _ ?side1 ?side2 ?side3 ?side4 A35.out).mono ?_
          (case side1 => exact y9 HR0_0)
          (case side2 => exact HC0_0.out)
          (case side3 => exact y9 HR0_1)
          (case side4 => exact HC0_1.out)
          rintro e w81 ⟨rfl, hb⟩
          refine ⟨_, rfl, ?_⟩
          have n0_ := ym (yq (g := gb215) (o := .cells #[.slice A0_0 l0_0.length c0_0, .slice (some ad218) l0_1.length c0_1] 52 (0, 0)) (yc BK215) hb)
          have n1_ := ym (yq (g := gb219) (o := .cells #[.int .i64 ((rd_T99 l0_1 x69_2).f0), .int .i64 ((rd_T99 l0_1 x69_2).f1), .int .i64 ((rd_T99 l0_1 x69_2).f2)] 99 (0, 0)) (yc BK219) hb)
          have n2_ := ym (yq (g := gb220) (o := .cells #[.int .i64 ((rd_T99 l0_1 x69_2).f0), .int .i64 ((rd_T99 l0_1 x69_2).f1)] 140 (0, 0)) (yc BK220) hb)
          have n3_ := ym (yn yb hb)
          clear BK215
          clear BK219
          clear BK220
          clear HB
          have BK215 := n0_
          have BK219 := n1_
          have BK220 := n2_
          have HB := n3_
          clear n0_ n1_ n2_ n3_
          (try clear hb)
          (try clear hb2)
          (try clear hk)
          (try clear hi)
          refine hK.out _ _ ⟨(yw BK215.out 0).trans rfl, (yw BK215.out 1).trans rfl, (yw BK219.out 0).trans rfl, (yw BK219.out 1).trans rfl, (yw BK219.out 2).trans rfl⟩ (fun hHeld => ?_)
          clear hK K
          refine norm_ (a' := ?_) ?_ ?_
          rotate_left
          ·
           show Act.put _ (some 97) _ = _
           simp only [Act.put, y0, y1]
           rfl
          refine zt (i := 13) (N := some 98) HT_ ?_
          refine zt (i := 14) (N := some 99) HT_ ?_
          refine zt (i := 15) (N := some 100) HT_ ?_
          refine zt (i := 17) (N := some 102) HT_ ?_
          refine zw (i := 16) (N := some 101) HT_ HW_ hHeld ?_ (hv := (by rintro w' ⟨s0, s1, s2, s3, s4⟩; go_simp; with_reducible rfl))
          refine zw (i := 18) (N := some 103) HT_ HW_ hHeld ?_ (hv := (by rintro w' ⟨s0, s1, s2, s3, s4⟩; go_simp; with_reducible rfl))
          refine one_ (i := 19) (N := some 104) #[i_, i_, i_, i_, i_, i_, i_, i_, i_, i_, i_, i_, i_, i_, i_, i_, i_, i_, i_, i_, o_, o_, o_, o_, o_, o_, o_, o_, o_, o_, o_, o_, o_, o_, o_, o_, o_, o_, o_, o_, o_, o_, o_, o_] rfl rfl (one_of HT_.out (by kernel_rfl)) (by decide) (fun K hK => ?_)
          refine goes_ Try.func74 (by kernel_rfl) rfl #[.agg #[.slice A0_0 l0_0.length c0_0, .slice (some ad218) l0_1.length c0_1], .int .i64 ((rd_T99 l0_1 x69_2).f2)] (by rfl) rfl rfl y6 ?_
          with_reducible refine (vocab_says.calls _ _ l0_0 _ _ l0_1 ((rd_T99 l0_1 x69_2).f2) false _ ?side1 ?side2 ?side3 ?side4 A37.out).mono ?_
          (case side1 => exact y9 HR0_0)
          (case side2 => exact HC0_0.out)
          (case side3 => exact y9 HR0_1)
          (case side4 => exact HC0_1.out)
          rintro e w82 ⟨rfl, hb⟩
          refine ⟨_, rfl, ?_⟩
          have n0_ := ym (yq (g := gb215) (o := .cells #[.slice A0_0 l0_0.length c0_0, .slice (some ad218) l0_1.length c0_1] 52 (0, 0)) (yc BK215) hb)
          have n1_ := ym (yq (g := gb219) (o := .cells #[.int .i64 ((rd_T99 l0_1 x69_2).f0), .int .i64 ((rd_T99 l0_1 x69_2).f1), .int .i64 ((rd_T99 l0_1 x69_2).f2)] 99 (0, 0)) (yc BK219) hb)
          have n2_ := ym (yq (g := gb220) (o := .cells #[.int .i64 ((rd_T99 l0_1 x69_2).f0), .int .i64 ((rd_T99 l0_1 x69_2).f1)] 140 (0, 0)) (yc BK220) hb)
          have n3_ := ym (yn yb hb)
          clear BK215
          clear BK219
          clear BK220
          clear HB
          have BK215 := n0_
          have BK219 := n1_
          have BK220 := n2_
          have HB := n3_
          clear n0_ n1_ n2_ n3_
          (try clear hb)
          (try clear hb2)
          (try clear hk)
          (try clear hi)
          refine hK.out _ _ ⟨(yw BK215.out 0).trans rfl, (yw BK215.out 1).trans rfl, (yw BK219.out 0).trans rfl, (yw BK219.out 1).trans rfl, (yw BK219.out 2).trans rfl⟩ (fun hHeld => ?_)
          clear hK K
          refine norm_ (a' := ?_) ?_ ?_
          rotate_left
          ·
           show Act.put _ (some 104) _ = _
           simp only [Act.put, y0, y1]
           rfl
          refine zt (i := 20) (N := some 105) HT_ ?_
          refine zt (i := 21) (N := some 106) HT_ ?_
          refine zt (i := 22) (N := some 107) HT_ ?_
          refine zk (i := 23) (N := some 108) HT_ ?_
          refine zk (i := 24) (N := some 109) HT_ ?_
          refine zk (i := 25) (N := some 110) HT_ ?_
          refine zk (i := 26) (N := some 111) HT_ ?_
          refine zk (i := 27) (N := some 112) HT_ ?_
          refine zk (i := 28) (N := some 113) HT_ ?_
          refine zk (i := 29) (N := some 114) HT_ ?_
          refine zk (i := 30) (N := some 115) HT_ ?_
          refine zk (i := 31) (N := some 116) HT_ ?_
          refine zk (i := 32) (N := some 117) HT_ ?_
          refine zk (i := 33) (N := some 118) HT_ ?_
          refine zk (i := 34) (N := some 119) HT_ ?_
          refine zk (i := 35) (N := some 120) HT_ ?_
          refine zk (i := 36) (N := some 121) HT_ ?_
          refine zk (i := 37) (N := some 122) HT_ ?_
          refine zk (i := 38) (N := some 123) HT_ ?_
          refine zk (i := 39) (N := some 124) HT_ ?_
          refine zk (i := 40) (N := some 125) HT_ ?_
          refine zk (i := 41) (N := some 126) HT_ ?_
          refine zk (i := 42) (N := some 127) HT_ ?_
          refine zt (i := 43) (N := some 128) HT_ ?_
          refine done_ (done_of HT_.out (by kernel_rfl)) ?_
          try go_wp2
          go_ret2
          exact ⟨by first | rfl | (simp [errW_none, errW_some] <;> rfl) | (simp [*, errW_none, errW_some] <;> rfl), below_then HBW.out ZW.out yb⟩
         replace c36 := Bool.eq_false_iff.mpr c36
         subst c36
         have H1 : (some (x69_2, 131)) = some (r1, r2) := by rw [if_neg (show ¬ (false = true) by decide)] at H; exact H
         clear H
         have H := H1
         clear H1
         simp only [Option.some.injEq, Prod.mk.injEq] at H
         obtain ⟨rfl, rfl⟩ := H
         have p218 : 0 ≤ (x69_2 : Int) := of_decide_eq_true y5
         have q218 : x69_2 < (l0_1.length : Int) := of_decide_eq_true y5
         obtain ⟨ad218, e218, hx218_0, hx218_1, hx218_2⟩ := at_T99 HR0_1.out x69_2 p218 q218
         cases e218
         replace hx218_0 := (HB.out.cell (World.block_lt_of_cell? wr _ hx218_0)).trans hx218_0
         replace hx218_1 := (HB.out.cell (World.block_lt_of_cell? wr _ hx218_1)).trans hx218_1
         replace hx218_2 := (HB.out.cell (World.block_lt_of_cell? wr _ hx218_2)).trans hx218_2
         replace p218 := eq_true p218
         replace q218 := eq_true q218
         obtain ⟨kl_, hkl_⟩ := vocab_SeenMerge.key A22.out
         have KS := ym hkl_
         clear hkl_
         have KR := ym (vocab_SeenMerge.mem A22.out)
         try go_wp2_with (first | ((with_reducible refine gate_dst (N := 11) rfl ?_); refine box_event ?hg (N := 11) ?hd (cs := #[.int .i64 0, .int .i64 0, .int .i64 0]) (t := 99) ?hr ?_; (case hd => rfl); (case hg => rfl); (case hr => first | (go_simp; done) | (go_simp; rfl)); intro gb219 hg w83 hbox hb; have n0_ := ym (yq (g := gb215) (o := .cells #[.slice A0_0 l0_0.length c0_0, .slice (some ad218) l0_1.length c0_1] 52 (0, 0)) (yc BK215) hb); have n1_ := ym (yn yb hb); have n2_ := ym (hbox); have n3_ := ym ((by rw [hg]; exact (below_size yb) : wr.heap.size ≤ gb219)); have n4_ := n3_; have n5_ := ym ((by rw [hg]; exact Nat.ne_of_lt (blk_lt (g := gb215) (o := .cells #[.slice A0_0 l0_0.length c0_0, .slice (some ad218) l0_1.length c0_1] 52 (0, 0)) (yc BK215)) : gb215 ≠ gb219)); have n6_ := ym ((by rw [hg]; exact Nat.ne_of_gt (blk_lt (g := gb215) (o := .cells #[.slice A0_0 l0_0.length c0_0, .slice (some ad218) l0_1.length c0_1] 52 (0, 0)) (yc BK215)) : gb219 ≠ gb215)); clear BK215; clear HB; have BK215 := n0_; have HB := n1_; have BK219 := n2_; have GW219 := n3_; have GE219 := n4_; have NB215_219 := n5_; have NB219_215 := n6_; clear n0_ n1_ n2_ n3_ n4_ n5_ n6_; clear hb hbox hg; have hnb84 := NB219_215.out; have hnc84 := NB215_219.out; have hcz85_0 : w83.cell? ⟨gb219, 0, none⟩ = some (.int .i64 0) := (yw BK219.out 0).trans rfl; have hcz85_1 : w83.cell? ⟨gb219, 1, none⟩ = some (.int .i64 0) := (yw BK219.out 1).trans rfl; have hcz85_2 : w83.cell? ⟨gb219, 2, none⟩ = some (.int .i64 0) := (yw BK219.out 2).trans rfl; have hfz85_0 := yv BK219.out 0; have hfz85_1 := yv BK219.out 1; have hfz85_2 := yv BK219.out 2) | ((with_reducible refine gate_dst (N := 12) rfl ?_); refine box_event ?hg (N := 12) ?hd (cs := #[.int .i64 0, .int .i64 0]) (t := 140) ?hr ?_; (case hd => rfl); (case hg => rfl); (case hr => first | (go_simp; done) | (go_simp; rfl)); intro gb220 hg w86 hbox hb; have n0_ := ym (yq (g := gb215) (o := .cells #[.slice A0_0 l0_0.length c0_0, .slice (some ad218) l0_1.length c0_1] 52 (0, 0)) (by (with_reducible repeat refine y4 ?_); refine yx ?_ NB215_219.out _; (with_reducible repeat refine y4 ?_); refine yx ?_ NB215_219.out _; (with_reducible repeat refine y4 ?_); refine yx ?_ NB215_219.out _; (with_reducible repeat refine y4 ?_); exact BK215.out) hb); have n1_ := ym (yq (g := gb219) (o := .cells #[.int .i64 ((rd_T99 l0_1 x69_2).f0), .int .i64 ((rd_T99 l0_1 x69_2).f1), .int .i64 ((rd_T99 l0_1 x69_2).f2)] 99 (0, 0)) (by (with_reducible repeat refine y4 ?_); refine yy (cs := #[.int .i64 ((rd_T99 l0_1 x69_2).f0), .int .i64 ((rd_T99 l0_1 x69_2).f1), .int .i64 0]) ?_ 2 _ rfl; (with_reducible repeat refine y4 ?_); refine yy (cs := #[.int .i64 ((rd_T99 l0_1 x69_2).f0), .int .i64 0, .int .i64 0]) ?_ 1 _ rfl; (with_reducible repeat refine y4 ?_); refine yy (cs := #[.int .i64 0, .int .i64 0, .int .i64 0]) ?_ 0 _ rfl; (with_reducible repeat refine y4 ?_); exact BK219.out) hb); have n2_ := ym (yn yb hb); have n3_ := ym (hbox); have n4_ := ym ((by rw [hg]; exact (below_size yb) : wr.heap.size ≤ gb220)); have n5_ := n4_; have n6_ := ym ((by rw [hg]; exact Nat.ne_of_lt (blk_lt (g := gb215) (o := .cells #[.slice A0_0 l0_0.length c0_0, .slice (some ad218) l0_1.length c0_1] 52 (0, 0)) (by (with_reducible repeat refine y4 ?_); refine yx ?_ NB215_219.out _; (with_reducible repeat refine y4 ?_); refine yx ?_ NB215_219.out _; (with_reducible repeat refine y4 ?_); refine yx ?_ NB215_219.out _; (with_reducible repeat refine y4 ?_); exact BK215.out)) : gb215 ≠ gb220)); have n7_ := ym ((by rw [hg]; exact Nat.ne_of_gt (blk_lt (g := gb215) (o := .cells #[.slice A0_0 l0_0.length c0_0, .slice (some ad218) l0_1.length c0_1] 52 (0, 0)) (by (with_reducible repeat refine y4 ?_); refine yx ?_ NB215_219.out _; (with_reducible repeat refine y4 ?_); refine yx ?_ NB215_219.out _; (with_reducible repeat refine y4 ?_); refine yx ?_ NB215_219.out _; (with_reducible repeat refine y4 ?_); exact BK215.out)) : gb220 ≠ gb215)); have n8_ := ym ((by rw [hg]; exact Nat.ne_of_lt (blk_lt (g := gb219) (o := .cells #[.int .i64 ((rd_T99 l0_1 x69_2).f0), .int .i64 ((rd_T99 l0_1 x69_2).f1), .int .i64 ((rd_T99 l0_1 x69_2).f2)] 99 (0, 0)) (by (with_reducible repeat refine y4 ?_); refine yy (cs := #[.int .i64 ((rd_T99 l0_1 x69_2).f0), .int .i64 ((rd_T99 l0_1 x69_2).f1), .int .i64 0]) ?_ 2 _ rfl; (with_reducible repeat refine y4 ?_); refine yy (cs := #[.int .i64 ((rd_T99 l0_1 x69_2).f0), .int .i64 0, .int .i64 0]) ?_ 1 _ rfl; (with_reducible repeat refine y4 ?_); refine yy (cs := #[.int .i64 0, .int .i64 0, .int .i64 0]) ?_ 0 _ rfl; (with_reducible repeat refine y4 ?_); exact BK219.out)) : gb219 ≠ gb220)); have n9_ := ym ((by rw [hg]; exact Nat.ne_of_gt (blk_lt (g := gb219) (o := .cells #[.int .i64 ((rd_T99 l0_1 x69_2).f0), .int .i64 ((rd_T99 l0_1 x69_2).f1), .int .i64 ((rd_T99 l0_1 x69_2).f2)] 99 (0, 0)) (by (with_reducible repeat refine y4 ?_); refine yy (cs := #[.int .i64 ((rd_T99 l0_1 x69_2).f0), .int .i64 ((rd_T99 l0_1 x69_2).f1), .int .i64 0]) ?_ 2 _ rfl; (with_reducible repeat refine y4 ?_); refine yy (cs := #[.int .i64 ((rd_T99 l0_1 x69_2).f0), .int .i64 0, .int .i64 0]) ?_ 1 _ rfl; (with_reducible repeat refine y4 ?_); refine yy (cs := #[.int .i64 0, .int .i64 0, .int .i64 0]) ?_ 0 _ rfl; (with_reducible repeat refine y4 ?_); exact BK219.out)) : gb220 ≠ gb219)); clear BK215; clear BK219; clear HB; have BK215 := n0_; have BK219 := n1_; have HB := n2_; have BK220 := n3_; have GW220 := n4_; have GE220 := n5_; have NB215_220 := n6_; have NB220_215 := n7_; have NB219_220 := n8_; have NB220_219 := n9_; clear n0_ n1_ n2_ n3_ n4_ n5_ n6_ n7_ n8_ n9_; clear hb hbox hg; have hnb87 := NB220_215.out; have hnc87 := NB215_220.out; have hnb88 := NB220_219.out; have hnc88 := NB219_220.out; have hcz89_0 : w86.cell? ⟨gb220, 0, none⟩ = some (.int .i64 0) := (yw BK220.out 0).trans rfl; have hcz89_1 : w86.cell? ⟨gb220, 1, none⟩ = some (.int .i64 0) := (yw BK220.out 1).trans rfl; have hfz89_0 := yv BK220.out 0; have hfz89_1 := yv BK220.out 1) | (at_lookup; refine Seen.look (SM.out.below ?hb) vk_pair _ _ 139 rfl rfl Try.underlying139 Try.underlying3 vk_zero rfl _ rfl _ KS.out false KR.out ?_; (case hb => repeat (first | exact HB.out | apply ya | refine ys ?_ GE219.out | refine ys ?_ GE220.out)); intro c_))
         have n0_ : Aside0 (((w86.setCell ⟨gb220, 0, none⟩ (.int .i64 ((rd_T99 l0_1 x69_2).f0))).setCell ⟨gb220, 1, none⟩ (.int .i64 ((rd_T99 l0_1 x69_2).f1))).heap[gb215]? = some (.cells #[.slice A0_0 l0_0.length c0_0, .slice (some ad218) l0_1.length c0_1] 52 (0, 0))) := ⟨by (with_reducible repeat refine y4 ?_); refine yx ?_ NB215_220.out _; (with_reducible repeat refine y4 ?_); refine yx ?_ NB215_220.out _; (with_reducible repeat refine y4 ?_); exact BK215.out⟩
         have n1_ : Aside0 (((w86.setCell ⟨gb220, 0, none⟩ (.int .i64 ((rd_T99 l0_1 x69_2).f0))).setCell ⟨gb220, 1, none⟩ (.int .i64 ((rd_T99 l0_1 x69_2).f1))).heap[gb219]? = some (.cells #[.int .i64 ((rd_T99 l0_1 x69_2).f0), .int .i64 ((rd_T99 l0_1 x69_2).f1), .int .i64 ((rd_T99 l0_1 x69_2).f2)] 99 (0, 0))) := ⟨by (with_reducible repeat refine y4 ?_); refine yx ?_ NB219_220.out _; (with_reducible repeat refine y4 ?_); refine yx ?_ NB219_220.out _; (with_reducible repeat refine y4 ?_); exact BK219.out⟩
         have n2_ : Aside0 (((w86.setCell ⟨gb220, 0, none⟩ (.int .i64 ((rd_T99 l0_1 x69_2).f0))).setCell ⟨gb220, 1, none⟩ (.int .i64 ((rd_T99 l0_1 x69_2).f1))).heap[gb220]? = some (.cells #[.int .i64 ((rd_T99 l0_1 x69_2).f0), .int .i64 ((rd_T99 l0_1 x69_2).f1)] 140 (0, 0))) := ⟨by (with_reducible repeat refine y4 ?_); refine yy (cs := #[.int .i64 ((rd_T99 l0_1 x69_2).f0), .int .i64 0]) ?_ 1 _ rfl; (with_reducible repeat refine y4 ?_); refine yy (cs := #[.int .i64 0, .int .i64 0]) ?_ 0 _ rfl; (with_reducible repeat refine y4 ?_); exact BK220.out⟩
         have n3_ : Aside0 (Below wr.heap.size wr ((w86.setCell ⟨gb220, 0, none⟩ (.int .i64 ((rd_T99 l0_1 x69_2).f0))).setCell ⟨gb220, 1, none⟩ (.int .i64 ((rd_T99 l0_1 x69_2).f1)))) := ⟨by repeat (first | (with_reducible first | exact HB.out | apply y3 | refine ys ?_ GE215.out | refine ys ?_ GE219.out | refine ys ?_ GE220.out) | exact HB.out)⟩
         (try clear BK215)
         (try clear BK219)
         (try clear BK220)
         (try clear HB)
         generalize ((w86.setCell ⟨gb220, 0, none⟩ (.int .i64 ((rd_T99 l0_1 x69_2).f0))).setCell ⟨gb220, 1, none⟩ (.int .i64 ((rd_T99 l0_1 x69_2).f1))) = w90 at n0_ n1_ n2_ n3_ ⊢
         have BK215 := n0_
         have BK219 := n1_
         have BK220 := n2_
         have HB := n3_
         clear n0_ n1_ n2_ n3_
         (try (rw [drewN_self w90]; generalize hq_ : World.drewN w90 _ = w90; have n0_ : Aside0 (w90.heap[gb215]? = some (.cells #[.slice A0_0 l0_0.length c0_0, .slice (some ad218) l0_1.length c0_1] 52 (0, 0))) := ⟨by rw [← hq_]; exact (yc BK215)⟩; have n1_ : Aside0 (w90.heap[gb219]? = some (.cells #[.int .i64 ((rd_T99 l0_1 x69_2).f0), .int .i64 ((rd_T99 l0_1 x69_2).f1), .int .i64 ((rd_T99 l0_1 x69_2).f2)] 99 (0, 0))) := ⟨by rw [← hq_]; exact (yc BK219)⟩; have n2_ : Aside0 (w90.heap[gb220]? = some (.cells #[.int .i64 ((rd_T99 l0_1 x69_2).f0), .int .i64 ((rd_T99 l0_1 x69_2).f1)] 140 (0, 0))) := ⟨by rw [← hq_]; exact (yc BK220)⟩; have n3_ : Aside0 (Below wr.heap.size wr w90) := ⟨by rw [← hq_]; exact yb⟩; clear BK215 BK219 BK220 HB hq_; have BK215 := n0_; have BK219 := n1_; have BK220 := n2_; have HB := n3_; clear n0_ n1_ n2_ n3_))
         have n0_ := ym (yt BK215.out)
         have n1_ := ym (yt BK219.out)
         have n2_ := ym (yt BK220.out)
         have n3_ := ym (ye HB.out)
         clear BK215
         clear BK219
         clear BK220
         clear HB
         have BK215 := n0_
         have BK219 := n1_
         have BK220 := n2_
         have HB := n3_
         clear n0_ n1_ n2_ n3_
         refine start_ (n := 44) (S := fun w' => w'.cell? ⟨gb215, 0, none⟩ = some (.slice A0_0 l0_0.length c0_0) ∧ w'.cell? ⟨gb215, 1, none⟩ = some (.slice (some ad218) l0_1.length c0_1) ∧ w'.cell? ⟨gb219, 0, none⟩ = some (.int .i64 ((rd_T99 l0_1 x69_2).f0)) ∧ w'.cell? ⟨gb219, 1, none⟩ = some (.int .i64 ((rd_T99 l0_1 x69_2).f1)) ∧ w'.cell? ⟨gb219, 2, none⟩ = some (.int .i64 ((rd_T99 l0_1 x69_2).f2))) (ds := []) #[o_, o_, o_, o_, o_, o_, o_, o_, o_, o_, o_, o_, o_, o_, o_, o_, o_, o_, o_, o_, o_, o_, o_, o_, o_, o_, o_, o_, o_, o_, o_, o_, o_, o_, o_, o_, o_, o_, o_, o_, o_, o_, o_, o_] (by kernel_rfl) rfl rfl ⟨(yw BK215.out 0).trans rfl, (yw BK215.out 1).trans rfl, (yw BK219.out 0).trans rfl, (yw BK219.out 1).trans rfl, (yw BK219.out 2).trans rfl⟩ (fun hHeld => ?_); refine with_tabW vocab_Check.tab22 vocab_Check.bits22 (fun HT_ HW_ => ?_)
         generalize w90.drew = w91 at BK215 BK219 BK220 HB hHeld ⊢
         refine zt (i := 0) (N := some 85) HT_ ?_
         refine zt (i := 1) (N := some 86) HT_ ?_
         refine zt (i := 3) (N := some 88) HT_ ?_
         refine zw (i := 2) (N := some 87) HT_ HW_ hHeld ?_ (hv := (by rintro w' ⟨s0, s1, s2, s3, s4⟩; go_simp; with_reducible rfl))
         refine zw (i := 4) (N := some 89) HT_ HW_ hHeld ?_ (hv := (by rintro w' ⟨s0, s1, s2, s3, s4⟩; go_simp; with_reducible rfl))
         refine one_ (i := 5) (N := some 90) #[i_, i_, i_, i_, i_, i_, o_, o_, o_, o_, o_, o_, o_, o_, o_, o_, o_, o_, o_, o_, o_, o_, o_, o_, o_, o_, o_, o_, o_, o_, o_, o_, o_, o_, o_, o_, o_, o_, o_, o_, o_, o_, o_, o_] rfl rfl (one_of HT_.out (by kernel_rfl)) (by decide) (fun K hK => ?_)
         refine goes_ Try.func74 (by kernel_rfl) rfl #[.agg #[.slice A0_0 l0_0.length c0_0, .slice (some ad218) l0_1.length c0_1], .int .i64 ((rd_T99 l0_1 x69_2).f0)] (by rfl) rfl rfl y6 ?_
         with_reducible refine (vocab_says.calls _ _ l0_0 _ _ l0_1 ((rd_T99 l0_1 x69_2).f0) true _ ?side1 ?side2 ?side3 ?side4 A33.out).mono ?_
         (case side1 => exact y9 HR0_0)
         (case side2 => exact HC0_0.out)
         (case side3 => exact y9 HR0_1)
         (case side4 => exact HC0_1.out)
         rintro e w92 ⟨rfl, hb⟩
         refine ⟨_, rfl, ?_⟩
         have n0_ := ym (yq (g := gb215) (o := .cells #[.slice A0_0 l0_0.length c0_0, .slice (some ad218) l0_1.length c0_1] 52 (0, 0)) (yc BK215) hb)
         have n1_ := ym (yq (g := gb219) (o := .cells #[.int .i64 ((rd_T99 l0_1 x69_2).f0), .int .i64 ((rd_T99 l0_1 x69_2).f1), .int .i64 ((rd_T99 l0_1 x69_2).f2)] 99 (0, 0)) (yc BK219) hb)
         have n2_ := ym (yq (g := gb220) (o := .cells #[.int .i64 ((rd_T99 l0_1 x69_2).f0), .int .i64 ((rd_T99 l0_1 x69_2).f1)] 140 (0, 0)) (yc BK220) hb)
         have n3_ := ym (yn yb hb)
         clear BK215
         clear BK219
         clear BK220
         clear HB
         have BK215 := n0_
         have BK219 := n1_
         have BK220 := n2_
         have HB := n3_
         clear n0_ n1_ n2_ n3_
         (try clear hb)
         (try clear hb2)
         (try clear hk)
         (try clear hi)
         refine hK.out _ _ ⟨(yw BK215.out 0).trans rfl, (yw BK215.out 1).trans rfl, (yw BK219.out 0).trans rfl, (yw BK219.out 1).trans rfl, (yw BK219.out 2).trans rfl⟩ (fun hHeld => ?_)
         clear hK K
         refine norm_ (a' := ?_) ?_ ?_
         rotate_left
         ·
          show Act.put _ (some 90) _ = _
          simp only [Act.put, y0, y1]
          rfl
         refine zt (i := 6) (N := some 91) HT_ ?_
         refine zt (i := 7) (N := some 92) HT_ ?_
         refine zt (i := 8) (N := some 93) HT_ ?_
         refine zt (i := 10) (N := some 95) HT_ ?_
         refine zw (i := 9) (N := some 94) HT_ HW_ hHeld ?_ (hv := (by rintro w' ⟨s0, s1, s2, s3, s4⟩; go_simp; with_reducible rfl))
         refine zw (i := 11) (N := some 96) HT_ HW_ hHeld ?_ (hv := (by rintro w' ⟨s0, s1, s2, s3, s4⟩; go_simp; with_reducible rfl))
         refine one_ (i := 12) (N := some 97) #[i_, i_, i_, i_, i_, i_, i_, i_, i_, i_, i_, i_, i_, o_, o_, o_, o_, o_, o_, o_, o_, o_, o_, o_, o_, o_, o_, o_, o_, o_, o_, o_, o_, o_, o_, o_, o_, o_, o_, o_, o_, o_, o_, o_] rfl rfl (one_of HT_.out (by kernel_rfl)) (by decide) (fun K hK => ?_)
         refine goes_ Try.func74 (by kernel_rfl) rfl #[.agg #[.slice A0_0 l0_0.length c0_0, .slice (some ad218) l0_1.length c0_1], .int .i64 ((rd_T99 l0_1 x69_2).f1)] (by rfl) rfl rfl y6 ?_
         with_reducible refine (vocab_says.calls _ _ l0_0 _ _ l0_1 ((rd_T99 l0_1 x69_2).f1) false _ ?side1 ?side2 ?side3 ?side4 A35.out).mono ?_
         (case side1 => exact y9 HR0_0)
         (case side2 => exact HC0_0.out)
         (case side3 => exact y9 HR0_1)
         (case side4 => exact HC0_1.out)
         rintro e w93 ⟨rfl, hb⟩
         refine ⟨_, rfl, ?_⟩
         have n0_ := ym (yq (g := gb215) (o := .cells #[.slice A0_0 l0_0.length c0_0, .slice (some ad218) l0_1.length c0_1] 52 (0, 0)) (yc BK215) hb)
         have n1_ := ym (yq (g := gb219) (o := .cells #[.int .i64 ((rd_T99 l0_1 x69_2).f0), .int .i64 ((rd_T99 l0_1 x69_2).f1), .int .i64 ((rd_T99 l0_1 x69_2).f2)] 99 (0, 0)) (yc BK219) hb)
         have n2_ := ym (yq (g := gb220) (o := .cells #[.int .i64 ((rd_T99 l0_1 x69_2).f0), .int .i64 ((rd_T99 l0_1 x69_2).f1)] 140 (0, 0)) (yc BK220) hb)
         have n3_ := ym (yn yb hb)
         clear BK215
         clear BK219
         clear BK220
         clear HB
         have BK215 := n0_
         have BK219 := n1_
         have BK220 := n2_
         have HB := n3_
         clear n0_ n1_ n2_ n3_
         (try clear hb)
         (try clear hb2)
         (try clear hk)
         (try clear hi)
         refine hK.out _ _ ⟨(yw BK215.out 0).trans rfl, (yw BK215.out 1).trans rfl, (yw BK219.out 0).trans rfl, (yw BK219.out 1).trans rfl, (yw BK219.out 2).trans rfl⟩ (fun hHeld => ?_)
         clear hK K
         refine norm_ (a' := ?_) ?_ ?_
         rotate_left
         ·
          show Act.put _ (some 97) _ = _
          simp only [Act.put, y0, y1]
          rfl
         refine zt (i := 13) (N := some 98) HT_ ?_
         refine zt (i := 14) (N := some 99) HT_ ?_
         refine zt (i := 15) (N := some 100) HT_ ?_
         refine zk (i := 16) (N := some 101) HT_ ?_
         refine zk (i := 17) (N := some 102) HT_ ?_
         refine zk (i := 18) (N := some 103) HT_ ?_
         refine zk (i := 19) (N := some 104) HT_ ?_
         refine zk (i := 20) (N := some 105) HT_ ?_
         refine zt (i := 21) (N := some 106) HT_ ?_
         refine zt (i := 22) (N := some 107) HT_ ?_
         refine zk (i := 23) (N := some 108) HT_ ?_
         refine zk (i := 24) (N := some 109) HT_ ?_
         refine zk (i := 25) (N := some 110) HT_ ?_
         refine zk (i := 26) (N := some 111) HT_ ?_
         refine zk (i := 27) (N := some 112) HT_ ?_
         refine zk (i := 28) (N := some 113) HT_ ?_
         refine zk (i := 29) (N := some 114) HT_ ?_
         refine zk (i := 30) (N := some 115) HT_ ?_
         refine zk (i := 31) (N := some 116) HT_ ?_
         refine zk (i := 32) (N := some 117) HT_ ?_
         refine zk (i := 33) (N := some 118) HT_ ?_
         refine zk (i := 34) (N := some 119) HT_ ?_
         refine zk (i := 35) (N := some 120) HT_ ?_
         refine zk (i := 36) (N := some 121) HT_ ?_
         refine zk (i := 37) (N := some 122) HT_ ?_
         refine zk (i := 38) (N := some 123) HT_ ?_
         refine zk (i := 39) (N := some 124) HT_ ?_
         refine zk (i := 40) (N := some 125) HT_ ?_
         refine zk (i := 41) (N := some 126) HT_ ?_
         refine zk (i := 42) (N := some 127) HT_ ?_
         refine zt (i := 43) (N := some 128) HT_ ?_
         refine done_ (done_of HT_.out (by kernel_rfl)) ?_
         try go_wp2
         go_ret2
         exact ⟨by first | rfl | (simp [errW_none, errW_some] <;> rfl) | (simp [*, errW_none, errW_some] <;> rfl), below_then HBW.out ZW.out yb⟩
        replace c34 := Bool.eq_false_iff.mpr c34
        subst c34
        have H1 : (some (x69_2, 131)) = some (r1, r2) := by rw [if_neg (show ¬ (false = true) by decide)] at H; exact H
        clear H
        have H := H1
        clear H1
        simp only [Option.some.injEq, Prod.mk.injEq] at H
        obtain ⟨rfl, rfl⟩ := H
        have p218 : 0 ≤ (x69_2 : Int) := of_decide_eq_true y5
        have q218 : x69_2 < (l0_1.length : Int) := of_decide_eq_true y5
        obtain ⟨ad218, e218, hx218_0, hx218_1, hx218_2⟩ := at_T99 HR0_1.out x69_2 p218 q218
        cases e218
        replace hx218_0 := (HB.out.cell (World.block_lt_of_cell? wr _ hx218_0)).trans hx218_0
        replace hx218_1 := (HB.out.cell (World.block_lt_of_cell? wr _ hx218_1)).trans hx218_1
        replace hx218_2 := (HB.out.cell (World.block_lt_of_cell? wr _ hx218_2)).trans hx218_2
        replace p218 := eq_true p218
        replace q218 := eq_true q218
        obtain ⟨kl_, hkl_⟩ := vocab_SeenMerge.key A22.out
        have KS := ym hkl_
        clear hkl_
        have KR := ym (vocab_SeenMerge.mem A22.out)
        try go_wp2_with (first | ((with_reducible refine gate_dst (N := 11) rfl ?_); refine box_event ?hg (N := 11) ?hd (cs := #[.int .i64 0, .int .i64 0, .int .i64 0]) (t := 99) ?hr ?_; (case hd => rfl); (case hg => rfl); (case hr => first | (go_simp; done) | (go_simp; rfl)); intro gb219 hg w94 hbox hb; have n0_ := ym (yq (g := gb215) (o := .cells #[.slice A0_0 l0_0.length c0_0, .slice (some ad218) l0_1.length c0_1] 52 (0, 0)) (yc BK215) hb); have n1_ := ym (yn yb hb); have n2_ := ym (hbox); have n3_ := ym ((by rw [hg]; exact (below_size yb) : wr.heap.size ≤ gb219)); have n4_ := n3_; have n5_ := ym ((by rw [hg]; exact Nat.ne_of_lt (blk_lt (g := gb215) (o := .cells #[.slice A0_0 l0_0.length c0_0, .slice (some ad218) l0_1.length c0_1] 52 (0, 0)) (yc BK215)) : gb215 ≠ gb219)); have n6_ := ym ((by rw [hg]; exact Nat.ne_of_gt (blk_lt (g := gb215) (o := .cells #[.slice A0_0 l0_0.length c0_0, .slice (some ad218) l0_1.length c0_1] 52 (0, 0)) (yc BK215)) : gb219 ≠ gb215)); clear BK215; clear HB; have BK215 := n0_; have HB := n1_; have BK219 := n2_; have GW219 := n3_; have GE219 := n4_; have NB215_219 := n5_; have NB219_215 := n6_; clear n0_ n1_ n2_ n3_ n4_ n5_ n6_; clear hb hbox hg; have hnb95 := NB219_215.out; have hnc95 := NB215_219.out; have hcz96_0 : w94.cell? ⟨gb219, 0, none⟩ = some (.int .i64 0) := (yw BK219.out 0).trans rfl; have hcz96_1 : w94.cell? ⟨gb219, 1, none⟩ = some (.int .i64 0) := (yw BK219.out 1).trans rfl; have hcz96_2 : w94.cell? ⟨gb219, 2, none⟩ = some (.int .i64 0) := (yw BK219.out 2).trans rfl; have hfz96_0 := yv BK219.out 0; have hfz96_1 := yv BK219.out 1; have hfz96_2 := yv BK219.out 2) | ((with_reducible refine gate_dst (N := 12) rfl ?_); refine box_event ?hg (N := 12) ?hd (cs := #[.int .i64 0, .int .i64 0]) (t := 140) ?hr ?_; (case hd => rfl); (case hg => rfl); (case hr => first | (go_simp; done) | (go_simp; rfl)); intro gb220 hg w97 hbox hb; have n0_ := ym (yq (g := gb215) (o := .cells #[.slice A0_0 l0_0.length c0_0, .slice (some ad218) l0_1.length c0_1] 52 (0, 0)) (by (with_reducible repeat refine y4 ?_); refine yx ?_ NB215_219.out _; (with_reducible repeat refine y4 ?_); refine yx ?_ NB215_219.out _; (with_reducible repeat refine y4 ?_); refine yx ?_ NB215_219.out _; (with_reducible repeat refine y4 ?_); exact BK215.out) hb); have n1_ := ym (yq (g := gb219) (o := .cells #[.int .i64 ((rd_T99 l0_1 x69_2).f0), .int .i64 ((rd_T99 l0_1 x69_2).f1), .int .i64 ((rd_T99 l0_1 x69_2).f2)] 99 (0, 0)) (by (with_reducible repeat refine y4 ?_); refine yy (cs := #[.int .i64 ((rd_T99 l0_1 x69_2).f0), .int .i64 ((rd_T99 l0_1 x69_2).f1), .int .i64 0]) ?_ 2 _ rfl; (with_reducible repeat refine y4 ?_); refine yy (cs := #[.int .i64 ((rd_T99 l0_1 x69_2).f0), .int .i64 0, .int .i64 0]) ?_ 1 _ rfl; (with_reducible repeat refine y4 ?_); refine yy (cs := #[.int .i64 0, .int .i64 0, .int .i64 0]) ?_ 0 _ rfl; (with_reducible repeat refine y4 ?_); exact BK219.out) hb); have n2_ := ym (yn yb hb); have n3_ := ym (hbox); have n4_ := ym ((by rw [hg]; exact (below_size yb) : wr.heap.size ≤ gb220)); have n5_ := n4_; have n6_ := ym ((by rw [hg]; exact Nat.ne_of_lt (blk_lt (g := gb215) (o := .cells #[.slice A0_0 l0_0.length c0_0, .slice (some ad218) l0_1.length c0_1] 52 (0, 0)) (by (with_reducible repeat refine y4 ?_); refine yx ?_ NB215_219.out _; (with_reducible repeat refine y4 ?_); refine yx ?_ NB215_219.out _; (with_reducible repeat refine y4 ?_); refine yx ?_ NB215_219.out _; (with_reducible repeat refine y4 ?_); exact BK215.out)) : gb215 ≠ gb220)); have n7_ := ym ((by rw [hg]; exact Nat.ne_of_gt (blk_lt (g := gb215) (o := .cells #[.slice A0_0 l0_0.length c0_0, .slice (some ad218) l0_1.length c0_1] 52 (0, 0)) (by (with_reducible repeat refine y4 ?_); refine yx ?_ NB215_219.out _; (with_reducible repeat refine y4 ?_); refine yx ?_ NB215_219.out _; (with_reducible repeat refine y4 ?_); refine yx ?_ NB215_219.out _; (with_reducible repeat refine y4 ?_); exact BK215.out)) : gb220 ≠ gb215)); have n8_ := ym ((by rw [hg]; exact Nat.ne_of_lt (blk_lt (g := gb219) (o := .cells #[.int .i64 ((rd_T99 l0_1 x69_2).f0), .int .i64 ((rd_T99 l0_1 x69_2).f1), .int .i64 ((rd_T99 l0_1 x69_2).f2)] 99 (0, 0)) (by (with_reducible repeat refine y4 ?_); refine yy (cs := #[.int .i64 ((rd_T99 l0_1 x69_2).f0), .int .i64 ((rd_T99 l0_1 x69_2).f1), .int .i64 0]) ?_ 2 _ rfl; (with_reducible repeat refine y4 ?_); refine yy (cs := #[.int .i64 ((rd_T99 l0_1 x69_2).f0), .int .i64 0, .int .i64 0]) ?_ 1 _ rfl; (with_reducible repeat refine y4 ?_); refine yy (cs := #[.int .i64 0, .int .i64 0, .int .i64 0]) ?_ 0 _ rfl; (with_reducible repeat refine y4 ?_); exact BK219.out)) : gb219 ≠ gb220)); have n9_ := ym ((by rw [hg]; exact Nat.ne_of_gt (blk_lt (g := gb219) (o := .cells #[.int .i64 ((rd_T99 l0_1 x69_2).f0), .int .i64 ((rd_T99 l0_1 x69_2).f1), .int .i64 ((rd_T99 l0_1 x69_2).f2)] 99 (0, 0)) (by (with_reducible repeat refine y4 ?_); refine yy (cs := #[.int .i64 ((rd_T99 l0_1 x69_2).f0), .int .i64 ((rd_T99 l0_1 x69_2).f1), .int .i64 0]) ?_ 2 _ rfl; (with_reducible repeat refine y4 ?_); refine yy (cs := #[.int .i64 ((rd_T99 l0_1 x69_2).f0), .int .i64 0, .int .i64 0]) ?_ 1 _ rfl; (with_reducible repeat refine y4 ?_); refine yy (cs := #[.int .i64 0, .int .i64 0, .int .i64 0]) ?_ 0 _ rfl; (with_reducible repeat refine y4 ?_); exact BK219.out)) : gb220 ≠ gb219)); clear BK215; clear BK219; clear HB; have BK215 := n0_; have BK219 := n1_; have HB := n2_; have BK220 := n3_; have GW220 := n4_; have GE220 := n5_; have NB215_220 := n6_; have NB220_215 := n7_; have NB219_220 := n8_; have NB220_219 := n9_; clear n0_ n1_ n2_ n3_ n4_ n5_ n6_ n7_ n8_ n9_; clear hb hbox hg; have hnb98 := NB220_215.out; have hnc98 := NB215_220.out; have hnb99 := NB220_219.out; have hnc99 := NB219_220.out; have hcz100_0 : w97.cell? ⟨gb220, 0, none⟩ = some (.int .i64 0) := (yw BK220.out 0).trans rfl; have hcz100_1 : w97.cell? ⟨gb220, 1, none⟩ = some (.int .i64 0) := (yw BK220.out 1).trans rfl; have hfz100_0 := yv BK220.out 0; have hfz100_1 := yv BK220.out 1) | (at_lookup; refine Seen.look (SM.out.below ?hb) vk_pair _ _ 139 rfl rfl Try.underlying139 Try.underlying3 vk_zero rfl _ rfl _ KS.out false KR.out ?_; (case hb => repeat (first | exact HB.out | apply ya | refine ys ?_ GE219.out | refine ys ?_ GE220.out)); intro c_))
        have n0_ : Aside0 (((w97.setCell ⟨gb220, 0, none⟩ (.int .i64 ((rd_T99 l0_1 x69_2).f0))).setCell ⟨gb220, 1, none⟩ (.int .i64 ((rd_T99 l0_1 x69_2).f1))).heap[gb215]? = some (.cells #[.slice A0_0 l0_0.length c0_0, .slice (some ad218) l0_1.length c0_1] 52 (0, 0))) := ⟨by (with_reducible repeat refine y4 ?_); refine yx ?_ NB215_220.out _; (with_reducible repeat refine y4 ?_); refine yx ?_ NB215_220.out _; (with_reducible repeat refine y4 ?_); exact BK215.out⟩
        have n1_ : Aside0 (((w97.setCell ⟨gb220, 0, none⟩ (.int .i64 ((rd_T99 l0_1 x69_2).f0))).setCell ⟨gb220, 1, none⟩ (.int .i64 ((rd_T99 l0_1 x69_2).f1))).heap[gb219]? = some (.cells #[.int .i64 ((rd_T99 l0_1 x69_2).f0), .int .i64 ((rd_T99 l0_1 x69_2).f1), .int .i64 ((rd_T99 l0_1 x69_2).f2)] 99 (0, 0))) := ⟨by (with_reducible repeat refine y4 ?_); refine yx ?_ NB219_220.out _; (with_reducible repeat refine y4 ?_); refine yx ?_ NB219_220.out _; (with_reducible repeat refine y4 ?_); exact BK219.out⟩
        have n2_ : Aside0 (((w97.setCell ⟨gb220, 0, none⟩ (.int .i64 ((rd_T99 l0_1 x69_2).f0))).setCell ⟨gb220, 1, none⟩ (.int .i64 ((rd_T99 l0_1 x69_2).f1))).heap[gb220]? = some (.cells #[.int .i64 ((rd_T99 l0_1 x69_2).f0), .int .i64 ((rd_T99 l0_1 x69_2).f1)] 140 (0, 0))) := ⟨by (with_reducible repeat refine y4 ?_); refine yy (cs := #[.int .i64 ((rd_T99 l0_1 x69_2).f0), .int .i64 0]) ?_ 1 _ rfl; (with_reducible repeat refine y4 ?_); refine yy (cs := #[.int .i64 0, .int .i64 0]) ?_ 0 _ rfl; (with_reducible repeat refine y4 ?_); exact BK220.out⟩
        have n3_ : Aside0 (Below wr.heap.size wr ((w97.setCell ⟨gb220, 0, none⟩ (.int .i64 ((rd_T99 l0_1 x69_2).f0))).setCell ⟨gb220, 1, none⟩ (.int .i64 ((rd_T99 l0_1 x69_2).f1)))) := ⟨by repeat (first | (with_reducible first | exact HB.out | apply y3 | refine ys ?_ GE215.out | refine ys ?_ GE219.out | refine ys ?_ GE220.out) | exact HB.out)⟩
        (try clear BK215)
        (try clear BK219)
        (try clear BK220)
        (try clear HB)
        generalize ((w97.setCell ⟨gb220, 0, none⟩ (.int .i64 ((rd_T99 l0_1 x69_2).f0))).setCell ⟨gb220, 1, none⟩ (.int .i64 ((rd_T99 l0_1 x69_2).f1))) = w101 at n0_ n1_ n2_ n3_ ⊢
        have BK215 := n0_
        have BK219 := n1_
        have BK220 := n2_
        have HB := n3_
        clear n0_ n1_ n2_ n3_
        (try (rw [drewN_self w101]; generalize hq_ : World.drewN w101 _ = w101; have n0_ : Aside0 (w101.heap[gb215]? = some (.cells #[.slice A0_0 l0_0.length c0_0, .slice (some ad218) l0_1.length c0_1] 52 (0, 0))) := ⟨by rw [← hq_]; exact (yc BK215)⟩; have n1_ : Aside0 (w101.heap[gb219]? = some (.cells #[.int .i64 ((rd_T99 l0_1 x69_2).f0), .int .i64 ((rd_T99 l0_1 x69_2).f1), .int .i64 ((rd_T99 l0_1 x69_2).f2)] 99 (0, 0))) := ⟨by rw [← hq_]; exact (yc BK219)⟩; have n2_ : Aside0 (w101.heap[gb220]? = some (.cells #[.int .i64 ((rd_T99 l0_1 x69_2).f0), .int .i64 ((rd_T99 l0_1 x69_2).f1)] 140 (0, 0))) := ⟨by rw [← hq_]; exact (yc BK220)⟩; have n3_ : Aside0 (Below wr.heap.size wr w101) := ⟨by rw [← hq_]; exact yb⟩; clear BK215 BK219 BK220 HB hq_; have BK215 := n0_; have BK219 := n1_; have BK220 := n2_; have HB := n3_; clear n0_ n1_ n2_ n3_))
        have n0_ := ym (yt BK215.out)
        have n1_ := ym (yt BK219.out)
        have n2_ := ym (yt BK220.out)
        have n3_ := ym (ye HB.out)
        clear BK215
        clear BK219
        clear BK220
        clear HB
        have BK215 := n0_
        have BK219 := n1_
        have BK220 := n2_
        have HB := n3_
        clear n0_ n1_ n2_ n3_
        refine start_ (n := 44) (S := fun w' => w'.cell? ⟨gb215, 0, none⟩ = some (.slice A0_0 l0_0.length c0_0) ∧ w'.cell? ⟨gb215, 1, none⟩ = some (.slice (some ad218) l0_1.length c0_1) ∧ w'.cell? ⟨gb219, 0, none⟩ = some (.int .i64 ((rd_T99 l0_1 x69_2).f0)) ∧ w'.cell? ⟨gb219, 1, none⟩ = some (.int .i64 ((rd_T99 l0_1 x69_2).f1)) ∧ w'.cell? ⟨gb219, 2, none⟩ = some (.int .i64 ((rd_T99 l0_1 x69_2).f2))) (ds := []) #[o_, o_, o_, o_, o_, o_, o_, o_, o_, o_, o_, o_, o_, o_, o_, o_, o_, o_, o_, o_, o_, o_, o_, o_, o_, o_, o_, o_, o_, o_, o_, o_, o_, o_, o_, o_, o_, o_, o_, o_, o_, o_, o_, o_] (by kernel_rfl) rfl rfl ⟨(yw BK215.out 0).trans rfl, (yw BK215.out 1).trans rfl, (yw BK219.out 0).trans rfl, (yw BK219.out 1).trans rfl, (yw BK219.out 2).trans rfl⟩ (fun hHeld => ?_); refine with_tabW vocab_Check.tab22 vocab_Check.bits22 (fun HT_ HW_ => ?_)
        generalize w101.drew = w102 at BK215 BK219 BK220 HB hHeld ⊢
        refine zt (i := 0) (N := some 85) HT_ ?_
        refine zt (i := 1) (N := some 86) HT_ ?_
        refine zt (i := 3) (N := some 88) HT_ ?_
        refine zw (i := 2) (N := some 87) HT_ HW_ hHeld ?_ (hv := (by rintro w' ⟨s0, s1, s2, s3, s4⟩; go_simp; with_reducible rfl))
        refine zw (i := 4) (N := some 89) HT_ HW_ hHeld ?_ (hv := (by rintro w' ⟨s0, s1, s2, s3, s4⟩; go_simp; with_reducible rfl))
        refine one_ (i := 5) (N := some 90) #[i_, i_, i_, i_, i_, i_, o_, o_, o_, o_, o_, o_, o_, o_, o_, o_, o_, o_, o_, o_, o_, o_, o_, o_, o_, o_, o_, o_, o_, o_, o_, o_, o_, o_, o_, o_, o_, o_, o_, o_, o_, o_, o_, o_] rfl rfl (one_of HT_.out (by kernel_rfl)) (by decide) (fun K hK => ?_)
        refine goes_ Try.func74 (by kernel_rfl) rfl #[.agg #[.slice A0_0 l0_0.length c0_0, .slice (some ad218) l0_1.length c0_1], .int .i64 ((rd_T99 l0_1 x69_2).f0)] (by rfl) rfl rfl y6 ?_
        with_reducible refine (vocab_says.calls _ _ l0_0 _ _ l0_1 ((rd_T99 l0_1 x69_2).f0) false _ ?side1 ?side2 ?side3 ?side4 A33.out).mono ?_
        (case side1 => exact y9 HR0_0)
        (case side2 => exact HC0_0.out)
        (case side3 => exact y9 HR0_1)
        (case side4 => exact HC0_1.out)
        rintro e w103 ⟨rfl, hb⟩
        refine ⟨_, rfl, ?_⟩
        have n0_ := ym (yq (g := gb215) (o := .cells #[.slice A0_0 l0_0.length c0_0, .slice (some ad218) l0_1.length c0_1] 52 (0, 0)) (yc BK215) hb)
        have n1_ := ym (yq (g := gb219) (o := .cells #[.int .i64 ((rd_T99 l0_1 x69_2).f0), .int .i64 ((rd_T99 l0_1 x69_2).f1), .int .i64 ((rd_T99 l0_1 x69_2).f2)] 99 (0, 0)) (yc BK219) hb)
        have n2_ := ym (yq (g := gb220) (o := .cells #[.int .i64 ((rd_T99 l0_1 x69_2).f0), .int .i64 ((rd_T99 l0_1 x69_2).f1)] 140 (0, 0)) (yc BK220) hb)
        have n3_ := ym (yn yb hb)
        clear BK215
        clear BK219
        clear BK220
        clear HB
        have BK215 := n0_
        have BK219 := n1_
        have BK220 := n2_
        have HB := n3_
        clear n0_ n1_ n2_ n3_
        (try clear hb)
        (try clear hb2)
        (try clear hk)
        (try clear hi)
        refine hK.out _ _ ⟨(yw BK215.out 0).trans rfl, (yw BK215.out 1).trans rfl, (yw BK219.out 0).trans rfl, (yw BK219.out 1).trans rfl, (yw BK219.out 2).trans rfl⟩ (fun hHeld => ?_)
        clear hK K
        refine norm_ (a' := ?_) ?_ ?_
        rotate_left
        ·
         show Act.put _ (some 90) _ = _
         simp only [Act.put, y0, y1]
         rfl
        refine zt (i := 6) (N := some 91) HT_ ?_
        refine zt (i := 7) (N := some 92) HT_ ?_
        refine zt (i := 8) (N := some 93) HT_ ?_
        refine zk (i := 9) (N := some 94) HT_ ?_
        refine zk (i := 10) (N := some 95) HT_ ?_
        refine zk (i := 11) (N := some 96) HT_ ?_
        refine zk (i := 12) (N := some 97) HT_ ?_
        refine zk (i := 13) (N := some 98) HT_ ?_
        refine zt (i := 14) (N := some 99) HT_ ?_
        refine zt (i := 15) (N := some 100) HT_ ?_
        refine zk (i := 16) (N := some 101) HT_ ?_
        refine zk (i := 17) (N := some 102) HT_ ?_
        refine zk (i := 18) (N := some 103) HT_ ?_
        refine zk (i := 19) (N := some 104) HT_ ?_
        refine zk (i := 20) (N := some 105) HT_ ?_
        refine zt (i := 21) (N := some 106) HT_ ?_
        refine zt (i := 22) (N := some 107) HT_ ?_
        refine zk (i := 23) (N := some 108) HT_ ?_
        refine zk (i := 24) (N := some 109) HT_ ?_
        refine zk (i := 25) (N := some 110) HT_ ?_
        refine zk (i := 26) (N := some 111) HT_ ?_
        refine zk (i := 27) (N := some 112) HT_ ?_
        refine zk (i := 28) (N := some 113) HT_ ?_
        refine zk (i := 29) (N := some 114) HT_ ?_
        refine zk (i := 30) (N := some 115) HT_ ?_
        refine zk (i := 31) (N := some 116) HT_ ?_
        refine zk (i := 32) (N := some 117) HT_ ?_
        refine zk (i := 33) (N := some 118) HT_ ?_
        refine zk (i := 34) (N := some 119) HT_ ?_
        refine zk (i := 35) (N := some 120) HT_ ?_
        refine zk (i := 36) (N := some 121) HT_ ?_
        refine zk (i := 37) (N := some 122) HT_ ?_
        refine zk (i := 38) (N := some 123) HT_ ?_
        refine zk (i := 39) (N := some 124) HT_ ?_
        refine zk (i := 40) (N := some 125) HT_ ?_
        refine zk (i := 41) (N := some 126) HT_ ?_
        refine zk (i := 42) (N := some 127) HT_ ?_
        refine zt (i := 43) (N := some 128) HT_ ?_
        refine done_ (done_of HT_.out (by kernel_rfl)) ?_
        try go_wp2
        go_ret2
        exact ⟨by first | rfl | (simp [errW_none, errW_some] <;> rfl) | (simp [*, errW_none, errW_some] <;> rfl), below_then HBW.out ZW.out yb⟩
       rw [if_neg c21] at H
       exact absurd H (by simp)
      rw [if_neg c20] at H
      exact absurd H (by simp)
     rw [if_neg c19] at H
     have c19b0 : decide (x69_2 < (l0_1.length : Int)) = false := decide_eq_false c19
     clear c19
     simp only [Option.some.injEq, Prod.mk.injEq] at H
     obtain ⟨rfl, rfl⟩ := H
     go_wp2
     go_ret2
     exact ⟨by first | rfl | (simp [errW_none, errW_some] <;> rfl) | (simp [*, errW_none, errW_some] <;> rfl), below_then HBW.out ZW.out yb⟩

end Go.Proofs.Ytfjpnmhbbfiaaaa.P
