/- vec.Sizes by its contract: the sum of the sizes of each chunk's numbers, collected; on condition that the matrix is one and fits. -/
import Derived.Test.YtigfodkakefhcaaTimes
import Derived.Test.YtigfodkakefhcaaWLast
import Derived.Test.YtigfodkakefhcaaWMore
namespace Go.Proofs.Ytigfodkakefhcaa.K
open Go.RowKit Go.Shelf
open Go.Proofs.YtigfodkakefhcaaW.PrintWords Go.Proofs.YtigfodkakefhcaaW.PrintLast Go.Proofs.YtigfodkakefhcaaW.PrintMore
set_option linter.unusedVariables false
set_option linter.unusedSimpArgs false
attribute [local go_sem] Oper.semAt_some
attribute [local go_sem] max2_int min2_int max_two min_two
/-- A number's size, added. -/
def sizeStep (s x : Int) : Int := wrap64 (s + mx (wrap64 x) (wrap64 (-(wrap64 x))))
def sizeSum (l : List Int) : Int := l.foldl sizeStep 0
theorem sizeSum_snoc (l : List Int) (x : Int) : sizeSum (l ++ [x]) = sizeStep (sizeSum l) x := by simp [sizeSum]
def rowOf (l : List Int) (n j : Nat) : List Int := (l.drop (j * n)).take n
theorem rowOf_take {l : List Int} {n j k : Nat} (h : j * n + k < l.length) (hk : k < n) : (rowOf l n j).take (k + 1) = (rowOf l n j).take k ++ [l.getD (j * n + k) 0] := by
  unfold rowOf
  rw [List.take_take, List.take_take, Nat.min_eq_left (by omega), Nat.min_eq_left (by omega), List.take_add_one, List.getElem?_drop, List.getElem?_eq_getElem h, List.getD_eq_getElem?_getD, List.getElem?_eq_getElem h]
  simp
set_option maxRecDepth 100000 in
set_option maxHeartbeats 4000000 in
theorem sizes_in (F : Fence) (m : Nat) (h25 : F.fn 25) (h46 : F.fn 46) (h47 : F.fn 47) (h63 : F.fn 63) (hro : F.round = none) (hm : 4 ≤ m) (A0 : Option Addr) (c0 n rows T : Nat) (hT : rows * n = T) (hn : 1 ≤ n) (hcap : T ≤ c0) (hreach : T ≤ 140737488351232)
    (l : List Int) (hl : l.length = T) (w : World) (hrows : rows * 8 ≤ 140737488355328)
    (hC : ∀ W, Below w.heap.size w W → ∀ j, j < T → ∃ ad, A0 = some ad ∧ W.cell? (ad.add j) = some (.int .i8 (l.getD j 0)))
    (hmat : ∀ W, Below w.heap.size w W → CallsIn F (m - 1) Try.prog 46 #[.slice A0 T c0, .int .i64 n] W fun e w' => e = .returned (.int .i64 0) ∧ ∃ nd, w' = W.drewN nd) :
    CallsIn F m Try.prog 25 #[.slice A0 T c0, .int .i64 n] w fun e w' => ∃ v, e = .returned (.tuple #[v, .int .i64 0]) ∧ w'.ownsRow w.heap.size 2 1 v rows (tt (fun j : Fin rows => sizeSum (rowOf l n j.1)) (List.finRange rows)) ∧ Below w.heap.size w w' := by
  have h1 : 1 ≤ m := by omega
  obtain ⟨inf, hinf, hz0, hz1, hz2⟩ := info_parts info2
  have HM : CallsIn F (m - 1) Try.prog 46 #[.slice A0 T c0, .int .i64 n] w fun e w' => e = .returned (.int .i64 0) ∧ Below w.heap.size w w' ∧ w'.heap.size = w.heap.size := by
    refine (hmat _ (Below.refl _ w)).mono ?_
    rintro e w' ⟨he, nd, rfl⟩
    exact ⟨he, pw_below_drewN (Below.refl _ w) nd, rfl⟩
  refine callsIn_of_wp_marks Try.func25 rfl h25 ?_ hro
  simp only [Try.ntmps25, List.size_toArray, List.length_cons, List.length_nil, Nat.reduceAdd, Nat.reduceSub, Array.replicate_succ, Array.replicate_zero, List.push_toArray, List.append_toArray, List.nil_append, List.cons_append]
  gi_wp2_with (first | (gi_at_call 46; refine HM.mono ?_; rintro e W1 ⟨rfl, hB1, hsz⟩) | (gi_at_call 47; refine (chunk_in F (m - 1) h47 hro _ _ _ _ hn _).mono ?_; rintro e w' ⟨rfl, rfl⟩))
  have bO := Boxed.new W1 28 (.slice none 0 0)
  have bS := Boxed.new (W1.alloc (.cells #[.slice none 0 0] 28)) 22 (.slice A0 T c0)
  have bN := Boxed.new ((W1.alloc (.cells #[.slice none 0 0] 28)).alloc (.cells #[.slice A0 T c0] 22)) 3 (.int .i64 n)
  simp only [World.size_alloc, hsz] at bO bS bN
  have hB2 : Below w.heap.size w (((W1.alloc (.cells #[.slice none 0 0] 28)).alloc (.cells #[.slice A0 T c0] 22)).alloc (.cells #[.int .i64 n] 3)) := ((hB1.alloc (by omega) _).alloc (by simp; omega) _).alloc (by simp; omega) _
  obtain ⟨W2, hW2⟩ : ∃ W2, ((W1.alloc (.cells #[.slice none 0 0] 28)).alloc (.cells #[.slice A0 T c0] 22)).alloc (.cells #[.int .i64 n] 3) = W2 := ⟨_, rfl⟩
  have hs2 : W2.heap.size = w.heap.size + 3 := by rw [← hW2]; simp [hsz]
  have bO2 : Boxed W2 w.heap.size 28 (.slice none 0 0) := by rw [← hW2]; exact (bO.alloc _).alloc _
  have bS2 : Boxed W2 (w.heap.size + 1) 22 (.slice A0 T c0) := by rw [← hW2]; exact bS.alloc _
  have bN2 : Boxed W2 (w.heap.size + 1 + 1) 3 (.int .i64 n) := by rw [← hW2]; exact bN
  rw [hW2] at hB2 ⊢
  clear bO bS bN hW2
  refine wpIn_rangeFunc_ownG hro h1 (gf := 63) (lb := #[.pointer (some ⟨w.heap.size + 1, 0, none⟩), .pointer (some ⟨w.heap.size + 1 + 1, 0, none⟩)]) rfl h63 (enters_of Try.func63 (by kernel_rfl) rfl)
    (chunk_stops F (m - 1) h63 hro (by omega) (w.heap.size + 1) (w.heap.size + 1 + 1) A0 n rows c0 T hT hn hcap hreach W2 bS2 bN2) (fun h k => h.trans k) (two_putObj (by omega) (by omega)) (Below.refl _ _) (fun _ => rfl)
    (fun pre W => ((∃ v, Boxed W w.heap.size 28 v ∧ W.ownsRow w.heap.size 2 1 v pre.length (tt (fun j : Fin rows => sizeSum (rowOf l n j.1)) pre) ∧ True) ∧ (Boxed W (w.heap.size + 1) 22 (.slice A0 T c0) ∧ Boxed W (w.heap.size + 1 + 1) 3 (.int .i64 n))) ∧ Below w.heap.size w W)
    (fun _ _ _ => False)
    (OwnFrom.and (OwnFrom.and (Own.from (holdsRow_own w.heap.size w.heap.size 28 2 1 (fun pre => pre.length) (fun pre => tt (fun j : Fin rows => sizeSum (rowOf l n j.1)) pre) (fun _ _ => True)) _) (OwnFrom.and (Own.from (boxed_own _ _ _) _) (Own.from (boxed_own _ _ _) _))) (ownFrom_below (Nat.le_refl _) (by omega)))
    (fun _ _ _ _ _ hs _ _ => hs)
    ⟨⟨⟨_, bO2, World.ownsRow_nil _ _ _ _, trivial⟩, bS2, bN2⟩, hB2⟩
    (fun x => { tmps := #[.slice A0 T c0, .int .i64 n, undef, undef, .slice none 0 0, .int .i64 0, .int .i64 0, .pointer (some ⟨w.heap.size, 0, none⟩), chunk A0 n x.1, undef, undef, undef,
      .slice A0 T c0, .int .i64 n, .int .i64 0, .int .i64 0, .bool false, undef, .slice A0 T c0, .int .i64 n,
      .func (.func 63) #[] #[.pointer (some ⟨w.heap.size + 1, 0, none⟩), .pointer (some ⟨w.heap.size + 1 + 1, 0, none⟩)], chunk A0 n x.1, undef, undef, undef, undef, undef, undef, undef, undef, undef, undef, undef, undef, undef, undef, undef, undef, undef, undef, undef, undef], defers := [] }) ?assign ?body ?done ?stop
  case assign =>
    intro l x W K hK
    gi_wp2
    exact hK
  case body =>
    rintro lo pre x W ⟨⟨⟨v, hv, hrow, _⟩, bs, bn⟩, hB⟩ hlt
    have hc := hv.cell
    have hxn : x.1 * n + n ≤ T := by
      have := Nat.mul_le_mul_right n (show x.1 + 1 ≤ rows from x.2)
      rw [Nat.succ_mul] at this; omega
    obtain ⟨ad, rfl, _⟩ := hC W hB (x.1 * n) (by omega)
    obtain ⟨aj, haj⟩ : ∃ aj, aj = ad.add (x.1 * n) := ⟨_, rfl⟩
    have hch : chunk (some ad) n x.1 = .slice (some aj) n n := by simp [chunk, haj]
    have hcell : ∀ k, k < n → W.cell? (aj.add k) = some (.int .i8 (l.getD (x.1 * n + k) 0)) := by
      intro k hk
      obtain ⟨ad', e1, e2⟩ := hC W hB (x.1 * n + k) (by omega)
      cases e1
      rw [haj, show ∀ (p : Addr) (a b : Nat), (p.add a).add b = p.add (a + b) from fun p a b => by unfold Addr.add; by_cases ha : a = 0 <;> by_cases hb : b = 0 <;> simp [ha, hb, Nat.add_assoc]]
      exact e2
    have hlen : n ≤ 9223372036854775807 := by omega
    obtain ⟨R, hR⟩ : ∃ R : List Int, R = rowOf l n x.1 := ⟨_, rfl⟩
    have HS := Aside0.mk (fun k (hk : k < n) => show sizeSum (R.take (k + 1)) = sizeStep (sizeSum (R.take k)) (l.getD (x.1 * n + k) 0) by rw [hR, rowOf_take (by omega) hk, sizeSum_snoc])
    have HRn := Aside0.mk (show R.take n = R by rw [hR]; unfold rowOf; rw [List.take_take, Nat.min_self])
    have HCell := Aside0.mk hcell
    have HR := Aside0.mk hR
    have hpl : pre.length + 1 ≤ rows := hlt
    have hml : pre.length + 1 ≤ maxLen := by unfold maxLen; omega
    rw [hch]
    clear hcell hR hxn hch haj
    gi_wp2
    gi_loop [9, 24] (fun s i => ∃ k : Nat, k ≤ n ∧ i = .int .i64 k ∧ s = .int .i64 (sizeSum (R.take k))) (fun _ i => n - (intOf i).toNat)
    case atStart => exact ⟨0, Nat.zero_le _, rfl, rfl⟩
    case round =>
      obtain ⟨k, hk, rfl, rfl⟩ := hrel
      by_cases hkn : k < n
      · have hx := HCell.out k hkn
        have hs := Aside0.mk (HS.out k hkn)
        gi_wp2
        go_round
        case rel => exact ⟨k + 1, by omega, by go_num, by rw [hs.out]; rfl⟩
        case measure => simp [intOf]; omega
      · obtain rfl : k = n := by omega
        gi_wp2_with (gi_at_builtin; refine wpListIn_append_own _ rfl _ _ 28 rfl w.heap.size 2 inf (.int .i64 0) 1 8 Try.underlying28 hinf hz0 hz1 hz2 rfl (by decide) v pre.length (tt (fun j : Fin rows => sizeSum (rowOf l k j.1)) pre) rfl (hrow.alloc _) ⟨W.heap.size, 0, none⟩ 1 1 [.int .i64 (sizeSum (R.take k))] rfl rfl (cell_one_new _ _ _) (by simp [Value.oneCell']) hml (by omega) (Nat.le_trans hB.size (by simp)) ?_; intro v' w1 hown' hgrow _; obtain ⟨g', cap', rfl⟩ := ownsRow_succ hown'; obtain ⟨hv1, hv2, hr2, hk2, hb2⟩ := hv.appended (by decide) hrow hB.size (by omega) hown' hgrow; have hc1 := hv1.cell; have hf1 := hv1.frozen; have bs4 := ((bs.alloc (.cells #[.int .i64 (sizeSum (R.take k))] 2)).kept hgrow (Boxed.not_row bs (by decide) hrow)).other (B' := w.heap.size) (by omega) (.slice (some ⟨g', 0, none⟩) (pre.length + 1) cap'); have bn4 := ((bn.alloc (.cells #[.int .i64 (sizeSum (R.take k))] 2)).kept hgrow (Boxed.not_row bn (by decide) hrow)).other (B' := w.heap.size) (by omega) (.slice (some ⟨g', 0, none⟩) (pre.length + 1) cap'))
        exact ⟨(hk2.from _), (fun q hq => by rcases hq with rfl | rfl; exact bs4.trans bs.symm; exact bn4.trans bn.symm), ⟨⟨_, hv2, by rw [HRn.out, HR.out] at hr2; simpa [tt] using hr2⟩, bs4, bn4⟩, hB.trans hb2⟩
  case done =>
    rintro D ys W hD rfl ⟨⟨⟨v, hv, hrow, _⟩, bs, bn⟩, hB⟩ hK
    have hc := hv.cell
    gi_wp2
    refine ⟨by simp, .inl ⟨_, _, rfl, run_takeDeferred hK, ?_⟩⟩
    exact ⟨_, results_tmp2 rfl _ _ _, v, rfl, by have := ownsRow_putObj hrow (.deferred none) hK rfl; rwa [List.length_finRange] at this, hB.trans (belowK_b (w := w) (Nat.le_refl _) W D _ _ (by omega) hK rfl rfl)⟩
  case stop =>
    rintro D c pre W _ _ h _
    exact h.elim
end Go.Proofs.Ytigfodkakefhcaa.K
