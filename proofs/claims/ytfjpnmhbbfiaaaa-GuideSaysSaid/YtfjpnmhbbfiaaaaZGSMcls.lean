/- Which states are alike: the walk through 'classes'. On condition that the rows are in place and lead to states. -/
import Derived.Test.YtfjpnmhbbfiaaaaZGSMof
import Derived.Test.YtfjpnmhbbfiaaaaZGSKept
import Derived.Test.YtfjpnmhbbfiaaaaZGSKeys
namespace Go.Proofs.Ytfjpnmhbbfiaaaa.P
open Go Go.RowKit Go.Proofs.YtfjpnmhbbfiaaaaW.PrintWords Go.Proofs.YtfjpnmhbbfiaaaaW.PrintLast Go.Proofs.YtfjpnmhbbfiaaaaW.PrintMore Go.Proofs.Ytfjpnmhbbfiaaaa
set_option linter.unusedVariables false
set_option linter.unusedSimpArgs false
theorem c0_take {L A : List Bool} {i : Nat} (hi : i < L.length) (v : Int) (hv : v = if Mach.la L i = true then (if Mach.la A i = true then 1 else 0) else -1) : ((Mach.c0 L A).take i ++ List.replicate (L.length - i) 0).set i v = (Mach.c0 L A).take (i + 1) ++ List.replicate (L.length - (i + 1)) 0 := by
  obtain ⟨d, hd⟩ : ∃ d, L.length - i = d + 1 := ⟨L.length - i - 1, by omega⟩
  have hd2 : L.length - (i + 1) = d := by omega
  have hl : (Mach.c0 L A).length = L.length := by simp [Mach.c0]
  have hg : (Mach.c0 L A)[i]'(by omega) = v := by
    rw [hv]
    unfold Mach.c0
    rw [List.getElem_map, List.getElem_range]
  have ht : ((Mach.c0 L A).take i).length = i := by rw [List.length_take, hl]; omega
  rw [hd, hd2, List.replicate_succ, List.set_append_right _ _ (by omega), ht, Nat.sub_self, List.set_cons_zero, List.take_add_one, List.getElem?_eq_getElem (by omega), hg]
  simp
theorem c0_zero {L A : List Bool} {i : Nat} (hi : i < L.length) : ((Mach.c0 L A).take i ++ List.replicate (L.length - i) 0).set i 0 = (Mach.c0 L A).take i ++ List.replicate (L.length - i) 0 := by
  obtain ⟨d, hd⟩ : ∃ d, L.length - i = d + 1 := ⟨L.length - i - 1, by omega⟩
  have hl : (Mach.c0 L A).length = L.length := by simp [Mach.c0]
  have ht : ((Mach.c0 L A).take i).length = i := by rw [List.length_take, hl]; omega
  rw [hd, List.replicate_succ, List.set_append_right _ _ (by omega), ht, Nat.sub_self, List.set_cons_zero]
theorem laid : laidOutB Try.prog = true := by kernel_rfl
theorem keyed151 : Go.Maps.Keyed Try.prog 151 := Go.Maps.Keyed.of_law (deep_law_laid laid (m := 3) (by omega) (of_decide_eq_true (by kernel_rfl)) (by kernel_rfl) (by rw [Try.underlying151]))
theorem key151 {c : Int} {xs : List Int} (hc : -1 ≤ c ∧ c ≤ 8192) (hl : xs.length = 256) (hx : ∀ x ∈ xs, -1 ≤ x ∧ x ≤ 8192) : ∃ kl, keyOf Try.prog 151 (.agg (.int .i32 c :: xs.map (Value.int .i32)).toArray) = some kl := by
  have hw : ∀ x : Int, -1 ≤ x ∧ x ≤ 8192 → (Lit.int .i32 x).wf = true := fun x h => by
    have h1 := h.1
    have h2 := h.2
    have e1 : IntKind.i32.min = -2147483648 := rfl
    have e2 : IntKind.i32.max = 2147483647 := rfl
    simp [Lit.wf, e1, e2]
    omega
  exact ⟨_, Keys.key_look (n := 256) (m := Try.prog.types.size - 2) Try.underlying151 rfl rfl (by decide) rfl rfl (by decide) Try.underlying149 Try.underlying21 (by kernel_rfl) (by kernel_rfl) (by kernel_rfl) (by kernel_rfl) (by kernel_rfl) (hw _ hc) hl (fun x h => hw _ (hx x h))⟩
/-- A look as a key: the class, and the classes behind each byte. -/
def keyV (k : Int × List Int) : Value := .agg (.int .i32 k.1 :: k.2.map (Value.int .i32)).toArray
def keyed (seen : List (Int × List Int)) : List (Value × Int) := seen.zipIdx.map fun p => (keyV p.1, (p.2 : Int))
theorem keyV_inj {a b : Int × List Int} (h : keyV a = keyV b) : a = b := by
  unfold keyV at h
  injection h with h
  have h2 := congrArg Array.toList h
  simp only [List.toList_toArray] at h2
  injection h2 with h3 h4
  injection h3 with _ h3
  have h5 : a.2 = b.2 := List.map_inj_right (fun x y e => by injection e) |>.1 h4
  exact Prod.ext h3 h5
theorem keyed_mem {seen : List (Int × List Int)} {k : Int × List Int} {j : Int} : (keyV k, j) ∈ keyed seen ↔ ∃ n : Nat, j = (n : Int) ∧ seen[n]? = some k := by
  unfold keyed
  rw [List.mem_map]
  constructor
  · rintro ⟨⟨k', n⟩, hm, he⟩
    injection he with h1 h2
    obtain rfl := keyV_inj h1
    exact ⟨n, h2.symm, List.mem_zipIdx_iff_getElem?.1 hm⟩
  · rintro ⟨n, rfl, hn⟩
    exact ⟨(k, n), List.mem_zipIdx_iff_getElem?.2 hn, rfl⟩
theorem keyed_snoc (seen : List (Int × List Int)) (k : Int × List Int) : keyed (seen ++ [k]) = keyed seen ++ [(keyV k, (seen.length : Int))] := by
  unfold keyed
  rw [List.zipIdx_append, List.map_append]
  simp
theorem R_block {α : Type} {d : Kd α} {e base g n c : Nat} {ok : Nat → Prop} {w : World} {xs : List α} (h : d.R e w base ok (.slice (some ⟨g, 0, none⟩) n c) xs) : ∀ k, (Value.slice (some ⟨g, 0, none⟩) 0 0).ownBlock = some k → ∃ cells, w.heap[k]? = some (.cells cells e (0, 0)) := fun k hk => by
  obtain ⟨_, inner, ho, _⟩ := h
  exact own_typed ho k hk
def keyA (a : Int) (l : List Int) : Array Value := (Value.int .i32 a :: l.map (Value.int .i32)).toArray
theorem keyV_A (k : Int × List Int) : keyV k = .agg (keyA k.1 k.2) := rfl
theorem keyA_zero : Try.zeroCells151 = keyA 0 (List.replicate 256 0) := by kernel_rfl
theorem keyA_size (a : Int) (l : List Int) : (keyA a l).size = l.length + 1 := by simp [keyA]
theorem keyA_all (a : Int) (l : List Int) : (keyA a l).all (·.oneCell') = true := by
  unfold keyA
  rw [List.all_toArray, List.all_eq_true]
  intro x hx
  rcases List.mem_cons.1 hx with rfl | hx
  · rfl
  · obtain ⟨_, _, rfl⟩ := List.mem_map.1 hx; rfl
theorem keyA_at {a : Int} {l : List Int} {x : Nat} (h : x < l.length) : (keyA a l)[1 + x]? = some (.int .i32 (l.getD x 0)) := by
  unfold keyA
  rw [List.getElem?_toArray, Nat.add_comm, List.getElem?_cons_succ, List.getElem?_map, List.getElem?_eq_getElem h, List.getD_eq_getElem?_getD, List.getElem?_eq_getElem h]
  rfl
theorem keyA_set (a : Int) (l : List Int) (x : Nat) (v : Int) : (keyA a l).setIfInBounds (1 + x) (.int .i32 v) = keyA a (l.set x v) := by
  unfold keyA
  rw [List.setIfInBounds_toArray, Nat.add_comm, List.set_cons_succ, List.map_set]
theorem take_set {l : List Int} {n i : Nat} (hl : l.length = n) (hi : i < n) (v : Int) (hv : l[i]? = some v) : (l.take i ++ List.replicate (n - i) 0).set i v = l.take (i + 1) ++ List.replicate (n - (i + 1)) 0 := by
  obtain ⟨d, hd⟩ : ∃ d, n - i = d + 1 := ⟨n - i - 1, by omega⟩
  have hd2 : n - (i + 1) = d := by omega
  have ht : (l.take i).length = i := by rw [List.length_take]; omega
  rw [hd, hd2, List.replicate_succ, List.set_append_right _ _ (by omega), ht, Nat.sub_self, List.set_cons_zero, List.take_add_one, hv]
  simp
theorem idx_lt {k : Int × List Int} : ∀ {l : List (Int × List Int)}, k ∈ l → Mach.idx k l < l.length
  | [], h => by simp at h
  | a :: l, h => by
    simp only [Mach.idx, List.length_cons]
    split
    · omega
    · rename_i hne
      rcases List.mem_cons.1 h with rfl | h
      · exact absurd rfl hne
      · have := idx_lt h; omega
theorem seen_says {seen : List (Int × List Int)} {k : Int × List Int} {c : Int} {r : Bool} (h1 : r = true ↔ ∃ i, (keyV k, i) ∈ keyed seen) (h2 : ∀ i, (keyV k, i) ∈ keyed seen → c = i) :
    (r = true → c = (Mach.idx k seen : Int) ∧ Mach.idx k seen < seen.length) ∧ (r = false → Mach.idx k seen = seen.length ∧ ∀ i, (keyV k, i) ∉ keyed seen) := by
  have hle := Mach.idx_le k seen
  constructor
  · intro hr
    have hlt : Mach.idx k seen < seen.length := by
      obtain ⟨i, hi⟩ := h1.1 hr
      obtain ⟨n, _, hn⟩ := keyed_mem.1 hi
      exact idx_lt (List.mem_of_getElem? hn)
    exact ⟨h2 _ (keyed_mem.2 ⟨_, rfl, Mach.idx_at hlt⟩), hlt⟩
  · intro hr
    have hno : ∀ i, (keyV k, i) ∉ keyed seen := fun i hi => by
      have := h1.2 ⟨i, hi⟩
      rw [hr] at this; exact absurd this (by decide)
    refine ⟨?_, hno⟩
    by_cases hlt : Mach.idx k seen < seen.length
    · exact absurd (keyed_mem.2 ⟨_, rfl, Mach.idx_at hlt⟩) (hno _)
    · omega
set_option maxHeartbeats 8000000 in
set_option maxRecDepth 100000 in
theorem classes_calls (k : Nat) (w : World) {g : Nat} {R : List (List Int)} {A : List Bool} (hM : Mac w g R A) (hA : A.length = R.length) (hR : Mach.Rows R) (hp : 0 < R.length) (hn : R.length ≤ 8192) (r : List Int) (h : Mach.classesF k R A = some r) :
    Calls Try.prog 76 #[.pointer (some ⟨g, 0, none⟩)] w fun e w' => ∃ v, e = .returned v ∧ Kd.R (Kd.int .i64) 3 w' w.heap.size (fun _ => True) v r ∧ r.length = R.length ∧ (∀ x ∈ r, -1 ≤ x ∧ x ≤ 8192) ∧ Below w.heap.size w w' := by
  have hu118 := Try.underlying118
  have hu129 := Try.underlying129
  obtain ⟨L, hL, hC⟩ := Option.bind_eq_some_iff.1 h
  have HM := ym hM
  have hLl : L.length = R.length := (Mach.livF_len k A L hL).trans hA
  have HLL := ym hLl
  clear hLl
  have HL := ym hL
  have H := ym hC
  have HA := ym hA
  obtain ⟨An, cn, Aa, ca, hb, hCn, hcn, hCA, hca⟩ := hM
  obtain ⟨adn, rfl, _⟩ := k129_cell hCn (s := 0) (x := 0) (by omega) (by omega) ⟨by omega, by omega⟩
  obtain ⟨ada, rfl, _⟩ := flag_cell hCA (s := 0) (by omega) (by omega)
  have BK := ym hb
  have HC := ym hCn
  have HCA := ym hCA
  have HB := ym (Below.refl w.heap.size w)
  have c1 := yW BK 1
  have f1 := yv BK.out 1
  clear hb hCn hCA h hL hC hA
  go_enter Try.func76, Try.ntmps76
  go_wp2_with (first
    | (go_at_call 79; go_loud (refine (living_calls k w HM.out HA.out hR hp hn L HL.out).mono ?_); rintro e w1 ⟨v3, rfl, ho1, hb1⟩; obtain ⟨g3, c3, rfl, hg3, hg3b, hc3, HG3⟩ := Kd.R_form ho1 (by rw [HLL.out]; exact hp); have HO3 := ym ho1; replace HB := ym hb1; have HCA1 := ym (Kd.C_below HCA.out HB.out); have BK1 := ym (blk_below BK.out HB.out); have c11 := yW BK1 1; have f11 := yv BK1.out 1; clear ho1 hb1 HG3 hc3 hg3b c1 f1)
    | (at_make; go_loud (refine Kd.R_make (Kd.int .i64) (w0 := w) w.heap.size 3 rfl (N := 23) rfl 53 _ _ rfl (R.length : Int) rfl rfl Try.underlying53 (.int .i64 0) 8 info3 rfl (by decide) (by omega) 0 (ok := fun _ => True) (okp := fun _ => True) rfl (fun _ hk => hk) trivial (by omega) (by omega) HB.out (below_size HB.out) ?_); intro v4 w2 ho hb2 hg2 hn2; rw [Int.toNat_natCast] at ho; obtain ⟨g4, c4, rfl, hg4, hg4b, hc4, HG4⟩ := Kd.R_form ho (by rw [List.length_replicate]; exact hp); rw [List.length_replicate] at ho; (try simp only [List.length_replicate]); replace HO3 := ym (Kd.R_grown HO3.out hg2 (fun k _ => by simp)); have HO4 := ym ho; replace HB := ym hb2; clear ho hb2 hg2 hn2 hg4b hc4 HG4 BK1 c11 f11 HCA1))
  go_loopw [26] (fun v26 w' => ∃ (i : Nat), v26 = .int .i64 i ∧ Aside0 (i ≤ R.length) ∧ Aside0 (Kd.R (Kd.int .i64) 3 w' w.heap.size (fun _ => True) (.slice (some ⟨g4, 0, none⟩) R.length c4) ((Mach.c0 L A).take i ++ List.replicate (L.length - i) 0)) ∧ Aside0 (Kd.R Kd.bool 4 w' w.heap.size (fun _ => True) (.slice (some ⟨g3, 0, none⟩) L.length c3) L) ∧ Aside0 (Below w.heap.size w w')) (fun v26 w' => R.length - (intOf v26).toNat)
  case atStart => exact ⟨0, rfl, ⟨Nat.zero_le _⟩, ⟨by rw [HLL.out]; simpa using HO4.out⟩, HO3, HB⟩
  case round =>
    clear HO4 HO3 HB
    obtain ⟨i, rfl, HI, HO4, HO3, HB⟩ := hrel
    obtain ⟨wa, rfl⟩ : ∃ wa, wa = wr := ⟨_, rfl⟩
    by_cases hi : i < R.length
    · have p1 : ((i : Int) < (R.length : Int)) = True := eq_true (by omega)
      have p0 : ((0 : Int) ≤ (i : Int)) = True := eq_true (by omega)
      have HI2 := ym hi
      have hc3 := Kd.R_celln false HO3.out (i : Int) (by omega) (by have := HLL.out; omega)
      rw [Int.toNat_natCast] at hc3
      obtain ⟨h3c, h3f⟩ := hc3
      have ela : rdOf false L (i : Int) = Mach.la L (i : Int) := rfl
      rw [ela] at h3c
      have pL : ((i : Int) < (L.length : Int)) = True := eq_true (by have := HLL.out; omega)
      have hc4 := Kd.R_celln (0 : Int) HO4.out (i : Int) (by omega) (by omega)
      rw [Int.toNat_natCast] at hc4
      obtain ⟨h4c, h4f⟩ := hc4
      have hput : ∀ v : Int, Kd.R (Kd.int .i64) 3 (wa.setCell ⟨g4, i, none⟩ (.int .i64 v)) w.heap.size (fun _ => True) (.slice (some ⟨g4, 0, none⟩) R.length c4) (((Mach.c0 L A).take i ++ List.replicate (L.length - i) 0).set i v) ∧ wa.grownBy (wa.setCell ⟨g4, i, none⟩ (.int .i64 v)) (some g4) := fun v => by
        have := Kd.R_putg HO4.out (i : Int) v
        rw [Int.toNat_natCast] at this
        exact this
      have HPUT := ym hput
      have hset := fun v hv => c0_take (L := L) (A := A) (i := i) (by have := HLL.out; omega) v hv
      have HSET := ym hset
      clear hput hset ela
      cases hlL : Mach.la L (i : Int) with
      | false =>
        rw [hlL] at h3c
        go_wp2_with (first
          | ((with_reducible refine gate_store (t := 3) (p := 37) rfl ?_); go_loud (refine store_event (t := 3) (p := 37) (v := ?vo) (w1 := (wa.setCell ⟨g4, i, none⟩ (.int .i64 (-1)))) ?hg ?ho ?hn ?hr ?_); (case ho => rfl); (case hg => rfl); (case hn => rfl); (case hr => first | (go_simp; done) | (go_simp; rfl)); intro w8 hw8; have hP := HPUT.out (-1); rw [← hw8] at hP; obtain ⟨hp1, hg8⟩ := hP; have HO8 := ym hp1; replace HO3 := ym (Kd.R_over' (v := .slice (some ⟨g4, 0, none⟩) 0 0) HO3.out (R_block HO4.out) (by decide) hg8); replace HB := ym (pw_below_grown HB.out (some g4) (below_size HB.out) hg8 (fun k hk => by cases hk; exact hg4)); clear hw8 hg8 hp1))
        go_roundw
        case measure => first | exact mdec' HI2.out | exact mdec HI2.out hn
        case rel => exact ⟨i + 1, by first | rfl | (rw [wlt HI2.out hn]; rfl), ⟨HI2.out⟩, ⟨by have h8 := HO8.out; rw [HSET.out (-1) (by rw [hlL]; rfl)] at h8; exact h8⟩, HO3, HB⟩
      | true =>
        rw [hlL] at h3c
        have BKr := ym (blk_below BK.out HB.out)
        have HCAr := ym (Kd.C_below HCA.out HB.out)
        obtain ⟨ad', e', hca'⟩ := flag_cell HCAr.out (s := (i : Int)) (by omega) (by have := HA.out; omega)
        cases e'
        rw [Int.toNat_natCast] at hca'
        have k2 := yW BKr 2
        have l2 := yv BKr.out 2
        have pA : ((i : Int) < (A.length : Int)) = True := eq_true (by have := HA.out; omega)
        cases hlA : Mach.la A (i : Int) with
        | true =>
          rw [hlA] at hca'
          go_wp2
          go_roundw
          case measure => first | exact mdec' HI2.out | exact mdec HI2.out hn
          case rel => exact ⟨i + 1, by first | rfl | (rw [wlt HI2.out hn]; rfl), ⟨HI2.out⟩, ⟨by have h8 := (HPUT.out 1).1; rw [HSET.out 1 (by rw [hlL, hlA]; rfl)] at h8; exact h8⟩, ⟨Kd.R_over' (v := .slice (some ⟨g4, 0, none⟩) 0 0) HO3.out (R_block HO4.out) (by decide) (HPUT.out 1).2⟩, ⟨pw_below_grown HB.out (some g4) (below_size HB.out) (HPUT.out 1).2 (fun k hk => by cases hk; exact hg4)⟩⟩
        | false =>
          rw [hlA] at hca'
          go_wp2
          go_roundw
          case measure => first | exact mdec' HI2.out | exact mdec HI2.out hn
          case rel => exact ⟨i + 1, by first | rfl | (rw [wlt HI2.out hn]; rfl), ⟨HI2.out⟩, ⟨by rw [← HSET.out 0 (by rw [hlL, hlA]; rfl), c0_zero (by have := HLL.out; have := HI2.out; omega)]; exact HO4.out⟩, HO3, HB⟩
    · have ei : i = R.length := by have := HI.out; omega
      have h4 := HO4.out
      have hl0 : (Mach.c0 L A).length = L.length := by simp [Mach.c0]
      rw [ei, ← HLL.out, Nat.sub_self, List.replicate_zero, List.append_nil, List.take_of_length_le (by omega)] at h4
      rw [HLL.out] at h4
      have H4 := ym h4
      have p1 : ((i : Int) < (R.length : Int)) = False := eq_false (by omega)
      clear h4 hl0 HO4 HI ei hi
      go_wp2
      have hc0b : ∀ x ∈ Mach.c0 L A, -1 ≤ x ∧ x ≤ 8192 := fun x hx => by
        unfold Mach.c0 at hx
        obtain ⟨q, _, rfl⟩ := List.mem_map.1 hx
        split
        · split <;> omega
        · omega
      have HC0B := ym hc0b
      have hcl0 : (Mach.c0 L A).length = R.length := by simp [Mach.c0]; exact HLL.out
      have HCL0 := ym hcl0
      clear hc0b hcl0
      go_loopg [4, 6] k (fun kq v4 v6 w' => ∃ (g5 c5 m : Nat) (c : List Int), v4 = .slice (some ⟨g5, 0, none⟩) R.length c5 ∧ v6 = .int .i64 m ∧ Aside0 (Mach.clsF (Mach.dR R) kq m c = some r) ∧ Aside0 (kq ≤ k) ∧ Aside0 (c.length = R.length ∧ (∀ x ∈ c, -1 ≤ x ∧ x ≤ 8192) ∧ m ≤ R.length ∧ w.heap.size ≤ g5) ∧ Aside0 (Kd.R (Kd.int .i64) 3 w' w.heap.size (fun _ => True) (.slice (some ⟨g5, 0, none⟩) R.length c5) c) ∧ Aside0 (Below w.heap.size w w'))
      case atStart => exact ⟨g4, c4, 0, Mach.c0 L A, rfl, rfl, H, ⟨Nat.le_refl _⟩, ⟨HCL0.out, HC0B.out, Nat.zero_le _, hg4⟩, H4, HB⟩
      case round =>
        clear H4 HB H HC0B HCL0 HO3
        obtain ⟨g5, c5, m, c, rfl, rfl, HF, HK, HCC, HO, HB⟩ := hrel
        cases gk with
        | zero => exact absurd HF.out (by simp [Mach.clsF])
        | succ k1 =>
          have HF' := HF.out
          rw [Mach.clsF] at HF'
          obtain ⟨st, hst⟩ : ∃ st, st = Mach.clsR (Mach.dR R) c c.length 0 ([], []) := ⟨_, rfl⟩
          rw [← hst] at HF'
          have HF2 := ym HF'
          have HST := ym hst.symm
          clear HF HF' hst
          have BKr := ym (blk_below BK.out HB.out)
          have k1' := yW BKr 1
          have l1' := yv BKr.out 1
          obtain ⟨wa, rfl⟩ : ∃ wa, wa = wr := ⟨_, rfl⟩
          go_wp2_with (first
            | ((with_reducible refine gate_dst (N := 50) rfl ?_); go_loud (refine Kept.map_event 148 151 3 ?hg ?ho ?_); (case hg => rfl); (case ho => rfl); intro gm hgm w1 hS hb1; have SM := ym hS; have GEM := yE hgm; have NM5 := ym (show g5 ≠ gm from fun e => by have h1 := Kd.R_lt HO.out g5 rfl; omega); replace HO := ym (Kd.R_below HO.out hb1); replace HB := yN hb1; clear hgm hS hb1 BKr k1' l1')
            | (at_make; go_loud (refine Kd.R_make (Kd.int .i64) (w0 := w) w.heap.size 3 rfl (N := 53) rfl 53 _ _ rfl (R.length : Int) rfl rfl Try.underlying53 (.int .i64 0) 8 info3 rfl (by decide) (by omega) 0 (ok := fun _ => True) (okp := fun _ => True) rfl (fun _ hk => hk) trivial (by omega) (by omega) HB.out (below_size HB.out) ?_); intro v8 w2 ho hb2 hg2 hn2; rw [Int.toNat_natCast] at ho; obtain ⟨g8, c8, rfl, hg8, hg8b, hc8, HG8⟩ := Kd.R_form ho (by rw [List.length_replicate]; exact hp); rw [List.length_replicate] at ho; (try simp only [List.length_replicate]); have NM8 := ym (show g8 ≠ gm from fun e => by obtain ⟨b, e2, hle⟩ := hn2; have e3 : g8 = b := Option.some.inj e2; have h1 := SM.out.lt; omega); have N58 := ym (show g5 ≠ g8 from fun e => by obtain ⟨b, e2, hle⟩ := hn2; have e3 : g8 = b := Option.some.inj e2; have h1 := Kd.R_lt HO.out g5 rfl; omega); replace HO := ym (Kd.R_grown HO.out hg2 (fun k _ => by simp)); replace SM := ym (SM.out.kept hg2 (by simp)); have HO8 := ym ho; replace HB := ym hb2; have BKr := ym (blk_below BK.out HB.out); have k1' := yW BKr 1; have l1' := yv BKr.out 1; clear ho hb2 hg2 hn2 hg8b hc8 HG8))
          have HO5 := ym (Kd.R_of_own (h1 := fun _ => rfl) (ok := fun k => k = g5) (Kd.own_of_R HO.out) (fun k hk => by cases hk; rfl))
          have HO9 := ym (Kd.R_of_own (h1 := fun _ => rfl) (ok := fun k => k = g8) (Kd.own_of_R HO8.out) (fun k hk => by cases hk; rfl))
          clear HO HO8 BKr k1' l1'
          obtain ⟨N0, hN0⟩ : ∃ N0, N0 = R.length := ⟨_, rfl⟩
          go_loopw [59] (fun v59 w' => ∃ (i : Nat) (now : List Int) (seen : List (Int × List Int)), v59 = .int .i64 i ∧ Aside0 (i ≤ R.length ∧ now.length = i ∧ seen.length ≤ i ∧ (∀ x ∈ now, -1 ≤ x ∧ x ≤ 8192)) ∧ Aside0 (Mach.clsR (Mach.dR R) c (R.length - i) i (now, seen) = st) ∧ Aside0 (Kept.Kept Try.prog 151 3 w' gm (keyed seen)) ∧ Aside0 (Kd.R (Kd.int .i64) 3 w' w.heap.size (fun k => k = g8) (.slice (some ⟨g8, 0, none⟩) R.length c8) (now ++ List.replicate (R.length - i) 0)) ∧ Aside0 (Kd.R (Kd.int .i64) 3 w' w.heap.size (fun k => k = g5) (.slice (some ⟨g5, 0, none⟩) R.length c5) c) ∧ Aside0 (Below w.heap.size w w')) (fun v59 w' => R.length - (intOf v59).toNat)
          case atStart => exact ⟨0, [], [], rfl, ⟨Nat.zero_le _, rfl, Nat.le_refl _, fun x hx => by simp at hx⟩, ⟨by have h := HST.out; rw [HCC.out.1] at h; exact h⟩, SM, ⟨by rw [List.nil_append, Nat.sub_zero]; exact HO9.out⟩, HO5, HB⟩
          case round =>
            clear HST SM HO9 HO5 HB
            obtain ⟨i, now, seen, rfl, HI, HST, SM, HO9, HO5, HB⟩ := hrel
            obtain ⟨wb, rfl⟩ : ∃ wb, wb = wr := ⟨_, rfl⟩
            by_cases hi : i < R.length
            · have p1 : ((i : Int) < (R.length : Int)) = True := eq_true (by omega)
              have p0 : ((0 : Int) ≤ (i : Int)) = True := eq_true (by omega)
              have HI2 := ym hi
              have HCr := ym (Kd.C_below HC.out HB.out)
              obtain ⟨row, hrow⟩ : ∃ row, row = R.getD i [] := ⟨_, rfl⟩
              have hrl : row.length = 256 := by
                rw [hrow, List.getD_eq_getElem?_getD, List.getElem?_eq_getElem hi]
                exact hR.wide _ (List.getElem_mem hi)
              have hload : ∀ j u, (encs (Value.int .i64) row)[j]? = some u → wb.cell? ((adn.add (i * 256)).add j) = some u := fun j u hu => by
                obtain ⟨ad', c', e1, hc', hK, hcell⟩ := Kd.C_get HCr.out ([] : List Int) (i : Int) (by omega) (by omega)
                cases e1
                obtain ⟨_, rfl⟩ := k129_cells hK
                rw [Int.toNat_natCast, ← hrow] at hcell
                rw [add_two]
                exact hcell j u hu
              have HLD := ym hload
              have HROW := ym hrow
              have es : (encs (Value.int .i64) row).toArray.size = 256 := by rw [List.size_toArray, encs_length, hrl]
              have ea : (encs (Value.int .i64) row).toArray.all (·.oneCell') = true := by
                simp only [encs, List.all_toArray, List.all_map]
                rw [List.all_eq_true]
                intro x _
                rfl
              have ES := ym es
              have EA := ym ea
              have HRL := ym hrl
              have hc5 := Kd.R_celln (0 : Int) HO5.out (i : Int) (by omega) (by omega)
              rw [Int.toNat_natCast] at hc5
              have e5 : rdOf (0 : Int) c (i : Int) = Mach.at_ c (i : Int) := by
                unfold rdOf Mach.at_
                rw [Int.toNat_natCast, List.getD_eq_getElem?_getD, List.getD_eq_getElem?_getD, List.getElem?_eq_getElem (by rw [HCC.out.1]; exact hi)]; rfl
              have HRD := ym e5
              clear hload hrow es ea hrl e5 hc5 HCr
              have hRow : ∀ v : Int, ∀ W : World, Kd.R (Kd.int .i64) 3 W w.heap.size (fun k => k = g8) (.slice (some ⟨g8, 0, none⟩) R.length c8) (now ++ List.replicate (R.length - i) 0) → Kd.R (Kd.int .i64) 3 (W.setCell ⟨g8, i, none⟩ (.int .i64 v)) w.heap.size (fun k => k = g8) (.slice (some ⟨g8, 0, none⟩) R.length c8) ((now ++ [v]) ++ List.replicate (R.length - (i + 1)) 0) ∧ W.grownBy (W.setCell ⟨g8, i, none⟩ (.int .i64 v)) (some g8) := fun v W hW => by
                have := Kd.R_putg hW (i : Int) v
                rw [Int.toNat_natCast] at this
                obtain ⟨d, hd⟩ : ∃ d, R.length - i = d + 1 := ⟨R.length - i - 1, by omega⟩
                have hd2 : R.length - (i + 1) = d := by omega
                have hl := HI.out.2.1
                rw [hd, List.replicate_succ, List.set_append_right _ _ (by omega), hl, Nat.sub_self, List.set_cons_zero] at this
                rw [hd2]
                have e : now ++ v :: List.replicate d 0 = now ++ [v] ++ List.replicate d 0 := by simp
                rw [← e]
                exact this
              have HPUT := ym hRow
              clear hRow
              by_cases hd : Mach.at_ c (i : Int) = -1
              · have HD := ym hd
                clear hd
                go_wp2_with (first
                  | ((with_reducible refine gate_dst (N := 63) rfl ?_); go_loud (refine Arr.wpList_load_at rfl 129 _ rfl (adn.add (i * 256)) rfl (encs (Value.int .i64) row) _ HLD.out Try.underlying129 rfl (by rw [encs_length, HRL.out]; kernel_rfl) ?_))
                  | ((with_reducible refine gate_dst (N := 10) rfl ?_); go_loud (refine zb (N := 10) (cs := Try.zeroCells129) (t := 129) ?_); go_loud (intro g6 hg6 w6 hbox hb6; have N6 := ym (show g6 ≠ gm from fun e => by have := SM.out.lt; omega); have BG6 := ym hbox; have GE6 := yE hg6; replace HB := yN hb6; replace HO9 := ym (Kd.R_below HO9.out hb6); replace HO5 := ym (Kd.R_below HO5.out hb6); replace SM := ym (SM.out.below hb6); clear hg6 hbox hb6))
                  | ((with_reducible refine gate_store (t := 129) (p := 10) rfl ?_); go_loud (refine Arr.wpList_store_row rfl 129 _ _ rfl g6 (encs (Value.int .i64) row).toArray rfl rfl 129 Try.zeroCells129 BG6.out (by rw [ES.out]; kernel_rfl) (by rw [ES.out]; kernel_rfl) EA.out ?_); go_loud (obtain ⟨w7, hw7⟩ : ∃ w7, w7 = w6.setRow g6 (encs (Value.int .i64) row).toArray := ⟨_, rfl⟩; rw [← hw7]; have hg7 : w6.grownBy w7 (some g6) := (by rw [hw7]; exact grown_setRow _ _ _); have BG7 := ym (by rw [hw7]; exact setRow_heap _ _ _ _ _ _ BG6.out : w7.heap[g6]? = some (.cells (encs (Value.int .i64) row).toArray 129 (0, 0))); replace HO9 := ym (Kd.R_over' (v := .slice (some ⟨g6, 0, none⟩) 0 0) HO9.out (fun k hk => by cases hk; exact ⟨_, BG6.out⟩) (by decide) hg7); replace HO5 := ym (Kd.R_over' (v := .slice (some ⟨g6, 0, none⟩) 0 0) HO5.out (fun k hk => by cases hk; exact ⟨_, BG6.out⟩) (by decide) hg7); replace HB := ym (pw_below_grown HB.out (some g6) (below_size HB.out) hg7 (fun k hk => by cases hk; exact GE6.out)); replace SM := ym (SM.out.kept hg7 (by have := N6.out; intro q; injection q with q; exact this q)); have hx5 := Kd.R_celln (0 : Int) HO5.out (i : Int) (by omega) (by omega); rw [Int.toNat_natCast] at hx5; obtain ⟨h5c, h5f⟩ := hx5; rw [HRD.out, HD.out] at h5c; have hx9 := Kd.R_celln (0 : Int) HO9.out (i : Int) (by omega) (by omega); rw [Int.toNat_natCast] at hx9; obtain ⟨h9c, h9f⟩ := hx9; clear hw7 hg7 BG6)))
                go_roundw
                case measure => first | exact mdec' HI2.out | exact mdec HI2.out hn
                case rel =>
                  have hq := HPUT.out (-1) w7 HO9.out
                  exact ⟨i + 1, now ++ [-1], seen, by first | rfl | (rw [wlt HI2.out hn]; rfl), ⟨HI2.out, by rw [List.length_append, HI.out.2.1]; rfl, by have := HI.out.2.2.1; omega, fun x hx => by
                    rcases List.mem_append.1 hx with hx | hx
                    · exact HI.out.2.2.2 x hx
                    · obtain rfl := List.mem_singleton.1 hx; omega⟩, ⟨by
                    have h := HST.out
                    obtain ⟨d, hd⟩ : ∃ d, R.length - i = d + 1 := ⟨R.length - i - 1, by have := HI2.out; omega⟩
                    rw [hd, Mach.clsR, Mach.clsB, if_pos HD.out] at h
                    rw [show R.length - (i + 1) = d by omega]
                    exact h⟩, ⟨SM.out.kept hq.2 (by intro q; injection q with q; exact NM8.out q)⟩, ⟨hq.1⟩, ⟨Kd.R_grown HO5.out hq.2 (fun k hk => by cases hk; intro q; injection q with q; exact N58.out (by first | exact q | exact q.symm))⟩, ⟨pw_below_grown HB.out (some g8) (below_size HB.out) hq.2 (fun k hk => by cases hk; exact hg8)⟩⟩
              · have hcb : -1 ≤ Mach.at_ c (i : Int) ∧ Mach.at_ c (i : Int) ≤ 8192 := HCC.out.2.1 _ (by
                  unfold Mach.at_
                  rw [Int.toNat_natCast, List.getD_eq_getElem?_getD, List.getElem?_eq_getElem (by rw [HCC.out.1]; exact hi)]
                  exact List.getElem_mem _)
                obtain ⟨ci, hci⟩ : ∃ ci, ci = Mach.at_ c (i : Int) := ⟨_, rfl⟩
                rw [← hci] at hcb hd
                have HCI := ym hci
                have HCB := ym hcb
                have b1 : (ci == -1) = false := beq_eq_false_iff_ne.mpr hd
                have hw32 : wrap32 ci = ci := by unfold wrap32; omega
                have HD := ym hd
                obtain ⟨tos, htos⟩ : ∃ tos, tos = (Mach.key (Mach.dR R) c (i : Int)).2 := ⟨_, rfl⟩
                have HTOS := ym htos
                clear hd hci hcb htos
                go_wp2_with (first
                  | ((with_reducible refine gate_dst (N := 63) rfl ?_); go_loud (refine Arr.wpList_load_at rfl 129 _ rfl (adn.add (i * 256)) rfl (encs (Value.int .i64) row) _ HLD.out Try.underlying129 rfl (by rw [encs_length, HRL.out]; kernel_rfl) ?_))
                  | ((with_reducible refine gate_dst (N := 10) rfl ?_); go_loud (refine zb (N := 10) (cs := Try.zeroCells129) (t := 129) ?_); go_loud (intro g6 hg6 w6 hbox hb6; have N6 := ym (show g6 ≠ gm from fun e => by have := SM.out.lt; omega); have BG6 := ym hbox; have GE6 := yE hg6; replace HB := yN hb6; replace HO9 := ym (Kd.R_below HO9.out hb6); replace HO5 := ym (Kd.R_below HO5.out hb6); replace SM := ym (SM.out.below hb6); clear hg6 hbox hb6))
                  | ((with_reducible refine gate_store (t := 129) (p := 10) rfl ?_); go_loud (refine Arr.wpList_store_row rfl 129 _ _ rfl g6 (encs (Value.int .i64) row).toArray rfl rfl 129 Try.zeroCells129 BG6.out (by rw [ES.out]; kernel_rfl) (by rw [ES.out]; kernel_rfl) EA.out ?_); go_loud (obtain ⟨w7, hw7⟩ : ∃ w7, w7 = w6.setRow g6 (encs (Value.int .i64) row).toArray := ⟨_, rfl⟩; rw [← hw7]; have hg7 : w6.grownBy w7 (some g6) := (by rw [hw7]; exact grown_setRow _ _ _); have BG7 := ym (by rw [hw7]; exact setRow_heap _ _ _ _ _ _ BG6.out : w7.heap[g6]? = some (.cells (encs (Value.int .i64) row).toArray 129 (0, 0))); replace HO9 := ym (Kd.R_over' (v := .slice (some ⟨g6, 0, none⟩) 0 0) HO9.out (fun k hk => by cases hk; exact ⟨_, BG6.out⟩) (by decide) hg7); replace HO5 := ym (Kd.R_over' (v := .slice (some ⟨g6, 0, none⟩) 0 0) HO5.out (fun k hk => by cases hk; exact ⟨_, BG6.out⟩) (by decide) hg7); replace HB := ym (pw_below_grown HB.out (some g6) (below_size HB.out) hg7 (fun k hk => by cases hk; exact GE6.out)); replace SM := ym (SM.out.kept hg7 (by have := N6.out; intro q; injection q with q; exact this q)); have hx5 := Kd.R_celln (0 : Int) HO5.out (i : Int) (by omega) (by omega); rw [Int.toNat_natCast] at hx5; obtain ⟨h5c, h5f⟩ := hx5; rw [HRD.out, ← HCI.out] at h5c; clear hw7 hg7 BG6))
                  | ((with_reducible refine gate_dst (N := 11) rfl ?_); go_loud (refine zb (N := 11) (cs := Try.zeroCells151) (t := 151) ?_); go_loud (intro g11 hg11 w11 hbox hb11; have N11 := ym (show g11 ≠ gm from fun e => by have := SM.out.lt; omega); have NG11 := yF hg11 BG7; have M58 := ym (show g11 ≠ g5 from fun e => by have h1 := Kd.R_lt HO5.out g5 rfl; omega); have M98 := ym (show g11 ≠ g8 from fun e => by have h1 := Kd.R_lt HO9.out g8 rfl; omega); have BG11 := ym hbox; have GE11 := yE hg11; replace BG7 := yQ BG7 hb11; replace HB := yN hb11; replace HO9 := ym (Kd.R_below HO9.out hb11); replace HO5 := ym (Kd.R_below HO5.out hb11); replace SM := ym (SM.out.below hb11); clear hg11 hbox hb11))
                  | ((with_reducible refine gate_store (t := 151) (p := 11) rfl ?_); go_loud (refine Arr.wpList_store_row rfl 151 _ _ rfl g11 (keyA ci (List.replicate 256 0)) rfl rfl 151 Try.zeroCells151 BG11.out (by rw [keyA_size, List.length_replicate]; kernel_rfl) (by rw [keyA_zero, keyA_size, keyA_size]) (keyA_all _ _) ?_); go_loud (obtain ⟨w12, hw12⟩ : ∃ w12, w12 = w11.setRow g11 (keyA ci (List.replicate 256 0)) := ⟨_, rfl⟩; rw [← hw12]; have hg12 : w11.grownBy w12 (some g11) := (by rw [hw12]; exact grown_setRow _ _ _); have BG12 := ym (by rw [hw12]; exact setRow_heap _ _ _ _ _ _ BG11.out : w12.heap[g11]? = some (.cells (keyA ci (List.replicate 256 0)) 151 (0, 0))); replace BG7 := ym (blk_grown BG7.out hg12 (by have := NG11.out; intro q; injection q with q; first | exact this q | exact this q.symm)); replace HO9 := ym (Kd.R_over' (v := .slice (some ⟨g11, 0, none⟩) 0 0) HO9.out (fun k hk => by cases hk; exact ⟨_, BG11.out⟩) (by decide) hg12); replace HO5 := ym (Kd.R_over' (v := .slice (some ⟨g11, 0, none⟩) 0 0) HO5.out (fun k hk => by cases hk; exact ⟨_, BG11.out⟩) (by decide) hg12); replace HB := ym (pw_below_grown HB.out (some g11) (below_size HB.out) hg12 (fun k hk => by cases hk; exact GE11.out)); replace SM := ym (SM.out.kept hg12 (by have := N11.out; intro q; injection q with q; exact this q)); clear hw12 hg12 BG11))
                  | ((with_reducible refine gate_dst (N := 78) rfl ?_); go_loud (refine wpList_load_row rfl 129 _ rfl g6 rfl 129 (encs (Value.int .i64) row).toArray (0, 0) _ BG7.out Try.underlying129 rfl (by rw [ES.out]; kernel_rfl) ?_)))
                have htl : tos.length = 256 := by rw [HTOS.out]; simp [Mach.key]
                have htx : ∀ x : Nat, x < 256 → tos[x]? = some (Mach.CN (Mach.at_ c) (Mach.dR R (i : Int) (x : Int))) := fun x hx => by
                  rw [HTOS.out]
                  unfold Mach.key
                  rw [List.getElem?_map, List.getElem?_range hx]; rfl
                have HTL := ym htl
                have HTX := ym htx
                clear htl htx HLD EA ES h5c h5f
                obtain ⟨N, hN⟩ : ∃ N : Nat, N = 256 := ⟨256, rfl⟩
                have HN := ym hN
                clear hN
                go_loopw [79] (fun v79 w' => ∃ (x : Nat), v79 = .int .i64 x ∧ Aside0 (x ≤ 256) ∧ Aside0 (w'.heap[g11]? = some (.cells (keyA ci (tos.take x ++ List.replicate (256 - x) 0)) 151 (0, 0))) ∧ Aside0 (Kept.Kept Try.prog 151 3 w' gm (keyed seen)) ∧ Aside0 (Kd.R (Kd.int .i64) 3 w' w.heap.size (fun k => k = g8) (.slice (some ⟨g8, 0, none⟩) R.length c8) (now ++ List.replicate (R.length - i) 0)) ∧ Aside0 (Kd.R (Kd.int .i64) 3 w' w.heap.size (fun k => k = g5) (.slice (some ⟨g5, 0, none⟩) R.length c5) c) ∧ Aside0 (Below w.heap.size w w')) (fun v79 w' => N - (intOf v79).toNat)
                case atStart => exact ⟨0, rfl, ⟨Nat.zero_le _⟩, ⟨by rw [List.take_zero, List.nil_append, Nat.sub_zero]; exact BG12.out⟩, SM, HO9, HO5, HB⟩
                case round =>
                  clear SM HO9 HO5 HB BG12 BG7
                  obtain ⟨x, rfl, HX, BG12, SM, HO9, HO5, HB⟩ := hrel
                  obtain ⟨wc, rfl⟩ : ∃ wc, wc = wr := ⟨_, rfl⟩
                  have hx256 := HX.out
                  by_cases hx : x < 256
                  · have q1 : ((x : Int) < 256) = True := eq_true (by omega)
                    have q0 : ((0 : Int) ≤ (x : Int)) = True := eq_true (by omega)
                    obtain ⟨t, ht⟩ : ∃ t, t = Mach.dR R (i : Int) (x : Int) := ⟨_, rfl⟩
                    have hix : ∀ W, (Instr.index 129 (.agg (encs (Value.int .i64) row).toArray) (.int .i64 (x : Int))).run Try.prog W = .ok (.int .i64 t) W := fun W => by
                      refine Arr.run_index_agg 129 3 256 _ .i64 (x : Int) W Try.underlying129 Try.underlying3 rfl (by kernel_rfl) (by omega) (by omega) _ ?_
                      rw [List.getElem?_toArray, Int.toNat_natCast, encs_get (d := (-1 : Int)) _ _ (by rw [HRL.out]; exact hx), ht, HROW.out]
                      unfold Mach.dR Mach.at_
                      rw [if_neg (by omega), Int.toNat_natCast, Int.toNat_natCast]
                    have hst : Mach.St R.length t := by rw [ht]; exact (hR.ok A).to_ _ _ ⟨by omega, by have := HI2.out; omega⟩ ⟨by omega, by omega⟩
                    have htx := HTX.out x hx
                    rw [← ht] at htx
                    obtain ⟨L0, hL0⟩ : ∃ L0, L0 = tos.take x ++ List.replicate (256 - x) 0 := ⟨_, rfl⟩
                    rw [← hL0] at BG12
                    have hll : L0.length = 256 := by rw [hL0, List.length_append, List.length_take, List.length_replicate, HTL.out]; omega
                    have hnext : L0.set x (Mach.CN (Mach.at_ c) t) = tos.take (x + 1) ++ List.replicate (256 - (x + 1)) 0 := by rw [hL0]; exact take_set HTL.out hx _ htx
                    have k0 := (blk_cell BG12.out (1 + x)).trans (keyA_at (by rw [hll]; exact hx))
                    have kf0 := blk_frozen BG12.out (1 + x)
                    have hput : ∀ (W : World) (l : List Int) (v : Int), W.heap[g11]? = some (.cells (keyA ci l) 151 (0, 0)) → Kept.Kept Try.prog 151 3 W gm (keyed seen) → Kd.R (Kd.int .i64) 3 W w.heap.size (fun k => k = g8) (.slice (some ⟨g8, 0, none⟩) R.length c8) (now ++ List.replicate (R.length - i) 0) → Kd.R (Kd.int .i64) 3 W w.heap.size (fun k => k = g5) (.slice (some ⟨g5, 0, none⟩) R.length c5) c → Below w.heap.size w W →
                        let W1 := W.setCell ⟨g11, 1 + x, none⟩ (.int .i32 v)
                        W1.heap[g11]? = some (.cells (keyA ci (l.set x v)) 151 (0, 0)) ∧ Kept.Kept Try.prog 151 3 W1 gm (keyed seen) ∧ Kd.R (Kd.int .i64) 3 W1 w.heap.size (fun k => k = g8) (.slice (some ⟨g8, 0, none⟩) R.length c8) (now ++ List.replicate (R.length - i) 0) ∧ Kd.R (Kd.int .i64) 3 W1 w.heap.size (fun k => k = g5) (.slice (some ⟨g5, 0, none⟩) R.length c5) c ∧ Below w.heap.size w W1 := fun W l v hb hs h9 h5 hB => by
                      obtain ⟨w8, hw8⟩ : ∃ w8, w8 = W.setCell ⟨g11, 1 + x, none⟩ (.int .i32 v) := ⟨_, rfl⟩
                      have hg8 : W.grownBy w8 (some g11) := (by rw [hw8]; exact ⟨rfl, rfl, rfl, by simp [World.setCell], fun q hq hr => Below.heap_setCell _ _ _ _ (fun e => hr (by rw [e]))⟩)
                      show _
                      rw [← hw8]
                      exact ⟨by rw [hw8, ← keyA_set]; exact blk_set hb _ _, hs.kept hg8 (by have := N11.out; intro q; injection q with q; exact this q), Kd.R_over' (v := .slice (some ⟨g11, 0, none⟩) 0 0) h9 (fun k hk => by cases hk; exact ⟨_, hb⟩) (by decide) hg8, Kd.R_over' (v := .slice (some ⟨g11, 0, none⟩) 0 0) h5 (fun k hk => by cases hk; exact ⟨_, hb⟩) (by decide) hg8, pw_below_grown hB (some g11) (below_size hB) hg8 (fun k hk => by cases hk; exact GE11.out)⟩
                    have P1 := ym (hput wc L0 (-1) BG12.out SM.out HO9.out HO5.out HB.out)
                    have HPUT2 := ym hput
                    clear hput
                    have HX1 := ym hx
                    have HST3 := ym hst
                    have HNX := ym hnext
                    have HLL0 := ym hll
                    clear hst ht htx hL0 hnext hll
                    by_cases ht1 : t = -1
                    · subst ht1
                      have e9 : Mach.CN (Mach.at_ c) (-1) = -1 := if_pos rfl
                      rw [e9] at HNX
                      clear e9
                      go_wp2
                      go_roundw
                      case measure => exact mdec' (Nat.lt_of_lt_of_eq HX1.out HN.out.symm)
                      case rel =>
                        obtain ⟨p1, p2, p3, p4, p5⟩ := P1.out
                        exact ⟨x + 1, rfl, ⟨by have := HX1.out; omega⟩, ⟨by rw [← HNX.out]; exact p1⟩, ⟨p2⟩, ⟨p3⟩, ⟨p4⟩, ⟨p5⟩⟩
                    · have hin : Mach.In R.length t := by rcases HST3.out with e | e; exact absurd e ht1; exact e
                      have b2 : (t != -1) = true := bne_iff_ne.mpr ht1
                      have t0 := eq_true hin.1
                      have t1 := eq_true hin.2
                      have e9 : Mach.CN (Mach.at_ c) t = Mach.at_ c t := if_neg ht1
                      rw [e9] at HNX
                      obtain ⟨ct, hct⟩ : ∃ ct, ct = Mach.at_ c t := ⟨_, rfl⟩
                      have hcb : -1 ≤ ct ∧ ct ≤ 8192 := HCC.out.2.1 _ (by
                        rw [hct]
                        unfold Mach.at_
                        rw [List.getD_eq_getElem?_getD, List.getElem?_eq_getElem (by rw [HCC.out.1]; have h1 := hin.1; have h2 := hin.2; omega)]
                        exact List.getElem_mem _)
                      have hw32 : wrap32 ct = ct := by unfold wrap32; omega
                      obtain ⟨w8, hw8⟩ : ∃ w8, w8 = wc.setCell ⟨g11, 1 + x, none⟩ (.int .i32 (-1)) := ⟨_, rfl⟩
                      have P1' := P1.out
                      rw [← hw8] at P1'
                      obtain ⟨p1, p2, p3, p4, p5⟩ := P1'
                      have P2 := ym (HPUT2.out w8 _ ct p1 p2 p3 p4 p5)
                      have k1 := (blk_cell p1 (1 + x)).trans (keyA_at (by rw [List.length_set]; have := HLL0.out; have := HX1.out; omega))
                      have kf1 := blk_frozen p1 (1 + x)
                      have k2 := (Kd.R_celln (0 : Int) p4 t hin.1 hin.2).1
                      have e8 : rdOf (0 : Int) c t = ct := by
                        rw [hct]
                        unfold rdOf Mach.at_
                        rw [List.getD_eq_getElem?_getD, List.getD_eq_getElem?_getD, List.getElem?_eq_getElem (by rw [HCC.out.1]; have h1 := hin.1; have h2 := hin.2; omega)]; rfl
                      rw [e8] at k2
                      rw [← hct] at HNX
                      rw [List.set_set] at P2
                      rw [hw8] at k1 kf1 k2 P2
                      clear e8 e9 hct hcb hin p1 p2 p3 p4 p5 hw8 P1 w8
                      go_wp2
                      go_roundw
                      case measure => exact mdec' (Nat.lt_of_lt_of_eq HX1.out HN.out.symm)
                      case rel =>
                        obtain ⟨p1, p2, p3, p4, p5⟩ := P2.out
                        exact ⟨x + 1, rfl, ⟨by have := HX1.out; omega⟩, ⟨by rw [← HNX.out]; exact p1⟩, ⟨p2⟩, ⟨p3⟩, ⟨p4⟩, ⟨p5⟩⟩
                  · obtain rfl : x = 256 := by omega
                    have hb := BG12.out
                    rw [Nat.sub_self, List.replicate_zero, List.append_nil, List.take_of_length_le (by rw [HTL.out]; omega)] at hb
                    replace BG12 := ym hb
                    obtain ⟨kl, hkl⟩ := key151 HCB.out HTL.out (fun y hy => by
                      obtain ⟨q, hq, hq2⟩ := List.getElem_of_mem hy
                      have h1 := HTX.out q (by have := HTL.out; omega)
                      rw [List.getElem?_eq_getElem hq, hq2] at h1
                      have h2 := Option.some.inj h1
                      rw [h2]
                      unfold Mach.CN
                      split
                      · omega
                      · rename_i hne
                        unfold Mach.at_
                        have hst : Mach.St R.length (Mach.dR R (i : Int) (q : Int)) := (hR.ok A).to_ _ _ ⟨by omega, by have := HI2.out; omega⟩ ⟨by omega, by have := HTL.out; omega⟩
                        rcases hst with e | e
                        · exact absurd e hne
                        · have e1 := e.1
                          have e2 := e.2
                          rw [List.getD_eq_getElem?_getD, List.getElem?_eq_getElem (by rw [HCC.out.1]; omega)]
                          exact HCC.out.2.1 _ (List.getElem_mem _))
                    obtain ⟨key, hkey⟩ : ∃ key, key = Mach.key (Mach.dR R) c (i : Int) := ⟨_, rfl⟩
                    have hk1 : key.1 = ci := by rw [hkey, HCI.out]; rfl
                    have hk2 : key.2 = tos := by rw [hkey, HTOS.out]
                    have hkv : Value.agg (keyA ci tos) = keyV key := by rw [keyV_A, hk1, hk2]
                    have hkl' : keyOf Try.prog 151 (keyV key) = some kl := by rw [← hkv]; exact hkl
                    have HKL := ym hkl'
                    have HKV := ym hkv
                    have HKEY := ym hkey
                    clear hb hx hx256 HX HTX hkl hk1 hk2 hkv hkl' hkey
                    have kln : (keyed seen).length = seen.length := by simp [keyed]
                    have KLN := ym kln
                    clear kln
                    by_cases hlt : Mach.idx key seen < seen.length
                    · have HLT := ym hlt
                      have hx9 := Kd.R_celln (0 : Int) HO9.out (i : Int) (by omega) (by omega)
                      rw [Int.toNat_natCast] at hx9
                      obtain ⟨h9c, h9f⟩ := hx9
                      clear hlt
                      go_wp2_with (first
                        | ((with_reducible refine gate_dst (N := 99) rfl ?_); go_loud (refine wpList_load_row rfl 151 _ rfl g11 rfl 151 (keyA ci tos) (0, 0) _ BG12.out Try.underlying151 rfl (by rw [keyA_size, HTL.out]; kernel_rfl) ?_); go_loud (rw [HKV.out]))
                        | ((with_reducible refine gate_dst (N := 100) rfl ?_); go_loud (refine Kept.look SM.out keyed151 _ _ 148 rfl rfl Try.underlying148 Try.underlying3 (fun _ => rfl) rfl (keyV key) rfl kl HKL.out ?_); go_loud (intro nn rr h1 h2; have hs := seen_says h1 h2; have hrr : rr = true := (by cases rr with | true => rfl | false => exact absurd (hs.2 rfl).1 (by have := HLT.out; omega)); subst hrr; have hnn := (hs.1 rfl).1; subst hnn; clear h1 h2 hs)))
                      go_roundw
                      case measure => first | exact mdec' HI2.out | exact mdec HI2.out hn
                      case rel =>
                        have hq := HPUT.out ((Mach.idx key seen : Int)) wc HO9.out
                        exact ⟨i + 1, now ++ [(Mach.idx key seen : Int)], seen, by first | rfl | (rw [wlt HI2.out hn]; rfl), ⟨HI2.out, by rw [List.length_append, HI.out.2.1]; rfl, by have := HI.out.2.2.1; omega, fun x hx => by
                          rcases List.mem_append.1 hx with hx | hx
                          · exact HI.out.2.2.2 x hx
                          · obtain rfl := List.mem_singleton.1 hx
                            have h1 := HI.out.2.2.1
                            have h2 := HI2.out
                            have h3 := HLT.out
                            omega⟩, ⟨by
                          have h := HST.out
                          obtain ⟨d, hd⟩ : ∃ d, R.length - i = d + 1 := ⟨R.length - i - 1, by have := HI2.out; omega⟩
                          rw [hd, Mach.clsR, Mach.clsB, if_neg (by rw [← HCI.out]; exact HD.out), ← HKEY.out] at h
                          rw [show R.length - (i + 1) = d by omega]
                          rw [if_neg (show ¬ Mach.idx key seen = seen.length by have := HLT.out; omega)] at h
                          exact h⟩, ⟨SM.out.kept hq.2 (by intro q; injection q with q; exact NM8.out q)⟩, ⟨hq.1⟩, ⟨Kd.R_grown HO5.out hq.2 (fun k hk => by cases hk; intro q; injection q with q; exact N58.out (by first | exact q | exact q.symm))⟩, ⟨pw_below_grown HB.out (some g8) (below_size HB.out) hq.2 (fun k hk => by cases hk; exact hg8)⟩⟩
                    · have heq : Mach.idx key seen = seen.length := by have := Mach.idx_le key seen; omega
                      have HEQ := ym heq
                      have HNL := ym hlt
                      clear hlt heq
                      go_wp2_with (first
                        | ((with_reducible refine gate_dst (N := 99) rfl ?_); go_loud (refine wpList_load_row rfl 151 _ rfl g11 rfl 151 (keyA ci tos) (0, 0) _ BG12.out Try.underlying151 rfl (by rw [keyA_size, HTL.out]; kernel_rfl) ?_); go_loud (rw [HKV.out]))
                        | ((with_reducible refine gate_dst (N := 108) rfl ?_); go_loud (refine wpList_load_row rfl 151 _ rfl g11 rfl 151 (keyA ci tos) (0, 0) _ BG12.out Try.underlying151 rfl (by rw [keyA_size, HTL.out]; kernel_rfl) ?_); go_loud (rw [HKV.out]))
                        | ((with_reducible refine gate_dst (N := 100) rfl ?_); go_loud (refine Kept.look SM.out keyed151 _ _ 148 rfl rfl Try.underlying148 Try.underlying3 (fun _ => rfl) rfl (keyV key) rfl kl HKL.out ?_); go_loud (intro nn rr h1 h2; have hs := seen_says h1 h2; have hrr : rr = false := (by cases rr with | false => rfl | true => exact absurd (hs.1 rfl).2 HNL.out); subst hrr; have HNO := ym (hs.2 rfl).2; clear h1 h2 hs))
                        | ((with_reducible refine gate_dst (N := 106) rfl ?_); go_loud (refine Kept.len SM.out _ 148 rfl rfl Try.underlying148 rfl ?_); go_loud (rw [KLN.out]))
                        | (go_loud (refine Kept.put SM.out keyed151 _ _ _ 148 rfl rfl Try.underlying148 Try.underlying3 (by rw [KLN.out]; have := HI.out.2.2.1; have := HI2.out; unfold maxLen; omega) rfl (keyV key) rfl kl HKL.out HNO.out (seen.length : Int) rfl (by have := HI.out.2.2.1; have := HI2.out; have e1 : IntKind.i64.min = -9223372036854775808 := rfl; have e2 : IntKind.i64.max = 9223372036854775807 := rfl; simp [Lit.wf, e1, e2]; omega) ?_); go_loud (intro w13 hS13 hg13; rw [← keyed_snoc] at hS13; have SM13 := ym hS13; replace HO9 := ym (Kd.R_grown HO9.out hg13 (fun k hk => by cases hk; intro q; injection q with q; first | exact NM8.out q | exact NM8.out q.symm)); replace HO5 := ym (Kd.R_grown HO5.out hg13 (fun k hk => by cases hk; intro q; injection q with q; first | exact NM5.out q | exact NM5.out q.symm)); replace HB := ym (pw_below_grown HB.out (some gm) (below_size HB.out) hg13 (fun k hk => by cases hk; exact GEM.out)); have hx9 := Kd.R_celln (0 : Int) HO9.out (i : Int) (by omega) (by omega); rw [Int.toNat_natCast] at hx9; obtain ⟨h9c, h9f⟩ := hx9; clear hS13 hg13)))
                      go_roundw
                      case measure => first | exact mdec' HI2.out | exact mdec HI2.out hn
                      case rel =>
                        have hq := HPUT.out ((seen.length : Int)) w13 HO9.out
                        exact ⟨i + 1, now ++ [(seen.length : Int)], seen ++ [key], by first | rfl | (rw [wlt HI2.out hn]; rfl), ⟨HI2.out, by rw [List.length_append, HI.out.2.1]; rfl, by rw [List.length_append]; have := HI.out.2.2.1; simp; omega, fun x hx => by
                          rcases List.mem_append.1 hx with hx | hx
                          · exact HI.out.2.2.2 x hx
                          · obtain rfl := List.mem_singleton.1 hx
                            have h1 := HI.out.2.2.1
                            have h2 := HI2.out
                            skip
                            omega⟩, ⟨by
                          have h := HST.out
                          obtain ⟨d, hd⟩ : ∃ d, R.length - i = d + 1 := ⟨R.length - i - 1, by have := HI2.out; omega⟩
                          rw [hd, Mach.clsR, Mach.clsB, if_neg (by rw [← HCI.out]; exact HD.out), ← HKEY.out] at h
                          rw [show R.length - (i + 1) = d by omega]
                          rw [if_pos HEQ.out, HEQ.out] at h
                          exact h⟩, ⟨SM13.out.kept hq.2 (by intro q; injection q with q; exact NM8.out q)⟩, ⟨hq.1⟩, ⟨Kd.R_grown HO5.out hq.2 (fun k hk => by cases hk; intro q; injection q with q; exact N58.out (by first | exact q | exact q.symm))⟩, ⟨pw_below_grown HB.out (some g8) (below_size HB.out) hq.2 (fun k hk => by cases hk; exact hg8)⟩⟩
            · have ei : i = R.length := by have := HI.out.1; omega
              have e := HST.out
              rw [ei, Nat.sub_self] at e
              have E2 := ym (show (now, seen) = st from e)
              have h9 := HO9.out
              rw [ei, Nat.sub_self, List.replicate_zero, List.append_nil] at h9
              replace HO9 := ym (Kd.R_of_own (h1 := fun _ => rfl) (ok := fun _ => True) (Kd.own_of_R h9) (fun _ _ => trivial))
              have hnl : now.length = R.length := HI.out.2.1.trans ei
              have hsl : seen.length ≤ R.length := by have := HI.out.2.2.1; omega
              have hnb := HI.out.2.2.2
              have HNL := ym hnl
              have HSL := ym hsl
              have HNB := ym hnb
              have p1 : ((i : Int) < (R.length : Int)) = False := eq_false (by omega)
              have kln : (keyed seen).length = seen.length := by simp [keyed]
              have KLN := ym kln
              clear e HST ei hi h9 HI hnl hsl hnb kln
              by_cases hm : seen.length = m
              · have bm : ((seen.length : Int) == (m : Int)) = true := beq_iff_eq.mpr (by omega)
                have HM2 := ym hm
                clear hm
                go_wp2_with (first
                  | ((with_reducible refine gate_dst (N := 117) rfl ?_); go_loud (refine Kept.len SM.out _ 148 rfl rfl Try.underlying148 rfl ?_); go_loud (rw [KLN.out])))
                go_ret
                have h1 := HF2.out
                rw [← E2.out] at h1
                rw [if_pos HM2.out] at h1
                cases h1
                exact ⟨_, rfl, HO9.out, HNL.out, HNB.out, HB.out⟩
              · have bm : ((seen.length : Int) == (m : Int)) = false := beq_eq_false_iff_ne.mpr (by omega)
                have HM2 := ym hm
                clear hm
                go_wp2_with (first
                  | ((with_reducible refine gate_dst (N := 117) rfl ?_); go_loud (refine Kept.len SM.out _ 148 rfl rfl Try.underlying148 rfl ?_); go_loud (rw [KLN.out]))
                  | ((with_reducible refine gate_dst (N := 122) rfl ?_); go_loud (refine Kept.len SM.out _ 148 rfl rfl Try.underlying148 rfl ?_); go_loud (rw [KLN.out])))
                go_roundg k1
                case measure => have := HK.out; omega
                case rel => exact ⟨g8, c8, seen.length, now, rfl, rfl, ⟨by
                  have h1 := HF2.out
                  rw [← E2.out] at h1
                  rw [if_neg HM2.out] at h1
                  exact h1⟩, ⟨by have := HK.out; omega⟩, ⟨HNL.out, HNB.out, HSL.out, hg8⟩, HO9, HB⟩
end Go.Proofs.Ytfjpnmhbbfiaaaa.P
