/- vec.Times by its contract: what 'dot' answers at each chunk, collected; on condition that the matrix is one and fits. -/
import Derived.RangeFuncNested
import Derived.Test.YtigfodkakefhcaaChunk
namespace Go.Proofs.Ytigfodkakefhcaa.K
open Go.RowKit Go.Shelf
open Go.Proofs.YtigfodkakefhcaaW.PrintWords (cut_from Aside0 pw_below_drewN)
set_option linter.unusedVariables false
set_option linter.unusedSimpArgs false
attribute [local go_sem] Oper.semAt_some
theorem info2 : (Try.prog.info? 2).map (fun i => (i.zero, i.size, i.bytes)) = some (some (.int .i64 0), 1, 8) := by kernel_rfl
def tt {r : Nat} (F : Fin r → Int) (pre : List (Fin r)) : List Value := (pre.map F).map (Value.int .i64)
theorem ev_tmp (a : Act) (t : Nat) : a.eval (.tmp t) = a.tmps.getD t undef := rfl
theorem wp_append_in {F : Fence} {n : Nat} {P : Program} {o : Oper} {a : Act} {w : World} {K : Act → World → Prop} {Q : Exit → Act → World → Prop} (s x : Operand) (t : TypeId) (hop : o.op = Op.call { callee := Callee.builtin Builtin.append, args := #[s, x], argTypes := #[t, t] })
    {v xv v' : Value} {w' : World} (hs : a.eval s = v) (hx : a.eval x = xv) (hrun : (Builtin.append_ #[t, t] o.type #[v, xv]).run P w = .ok v' w') (hK : K (a.put o.dst v') w') : Oper.wpIn F n P o a w K Q := by
  unfold Oper.wpIn
  refine ⟨?_, ?_⟩
  · simp [Oper.about, hop, resolve, Target.leads, Sem.run_pure]
  · rw [Oper.semAt_plain F _ _ (by rw [hop]; intro c hc'; cases hc')]
    simp [execOp, hop, resolve, invoke, builtin, hs, hx, hrun, Result.andThen]
    exact hK
set_option maxRecDepth 100000 in
set_option maxHeartbeats 4000000 in
theorem times_in (F : Fence) (m : Nat) (h15 : F.fn 15) (h46 : F.fn 46) (h47 : F.fn 47) (h48 : F.fn 48) (h63 : F.fn 63) (hro : F.round = none) (hm : 4 ≤ m) (A0 : Option Addr) (c0 n rows T : Nat) (hT : rows * n = T) (hn : 1 ≤ n) (hcap : T ≤ c0) (hreach : T ≤ 140737488351232)
    (A2 : Option Addr) (c2 : Nat) (dots : Fin rows → Int) (w : World) (hrows : rows * 8 ≤ 140737488355328)
    (hmat : ∀ W, Below w.heap.size w W → CallsIn F (m - 1) Try.prog 46 #[.slice A0 T c0, .int .i64 n] W fun e w' => e = .returned (.int .i64 0) ∧ ∃ nd, w' = W.drewN nd)
    (hdot : ∀ (j : Fin rows) W, Below w.heap.size w W → CallsIn F (m - 1 - 1 - 1) Try.prog 48 #[chunk A0 n j.1, .slice A2 n c2] W fun e w' => e = .returned (.int .i64 (dots j)) ∧ ∃ nd, w' = W.drewN nd) :
    CallsIn F m Try.prog 15 #[.slice A0 T c0, .int .i64 n, .slice A2 n c2] w fun e w' => ∃ v, e = .returned (.tuple #[v, .int .i64 0]) ∧ w'.ownsRow w.heap.size 2 1 v rows (tt dots (List.finRange rows)) ∧ Below w.heap.size w w' := by
  have h1 : 1 ≤ m := by omega
  obtain ⟨inf, hinf, hz0, hz1, hz2⟩ := info_parts info2
  have HM : CallsIn F (m - 1) Try.prog 46 #[.slice A0 T c0, .int .i64 n] (w.alloc (.cells #[.slice A2 n c2] 22)) fun e w' => e = .returned (.int .i64 0) ∧ Below w.heap.size w w' ∧ Boxed w' w.heap.size 22 (.slice A2 n c2) ∧ w'.heap.size = w.heap.size + 1 := by
    refine (hmat _ ((Below.refl _ w).alloc (Nat.le_refl _) _)).mono ?_
    rintro e w' ⟨he, nd, rfl⟩
    exact ⟨he, pw_below_drewN ((Below.refl _ w).alloc (Nat.le_refl _) _) nd, Boxed.new w 22 (.slice A2 n c2), by show (w.alloc (.cells #[.slice A2 n c2] 22)).heap.size = _; simp⟩
  refine callsIn_of_wp_marks Try.func15 rfl h15 ?_ hro
  simp only [Try.ntmps15, List.size_toArray, List.length_cons, List.length_nil, Nat.reduceAdd, Nat.reduceSub, Array.replicate_succ, Array.replicate_zero, List.push_toArray, List.append_toArray, List.nil_append, List.cons_append]
  gi_wp2_with (first | (gi_at_call 46; refine HM.mono ?_; rintro e W1 ⟨rfl, hB1, bx, hsz⟩; have cx := bx.cell) | (gi_at_call 47; refine (chunk_in F (m - 1) h47 hro _ _ _ _ hn _).mono ?_; rintro e w' ⟨rfl, rfl⟩))
  have bO := Boxed.new W1 28 (.slice none 0 0)
  have bS := Boxed.new (W1.alloc (.cells #[.slice none 0 0] 28)) 22 (.slice A0 T c0)
  have bN := Boxed.new ((W1.alloc (.cells #[.slice none 0 0] 28)).alloc (.cells #[.slice A0 T c0] 22)) 3 (.int .i64 n)
  simp only [World.size_alloc, hsz] at bO bS bN
  have hB2 : Below w.heap.size w (((W1.alloc (.cells #[.slice none 0 0] 28)).alloc (.cells #[.slice A0 T c0] 22)).alloc (.cells #[.int .i64 n] 3)) := ((hB1.alloc (by omega) _).alloc (by simp; omega) _).alloc (by simp; omega) _
  obtain ⟨W2, hW2⟩ : ∃ W2, ((W1.alloc (.cells #[.slice none 0 0] 28)).alloc (.cells #[.slice A0 T c0] 22)).alloc (.cells #[.int .i64 n] 3) = W2 := ⟨_, rfl⟩
  have hs2 : W2.heap.size = w.heap.size + 4 := by rw [← hW2]; simp [hsz]
  have bx2 : Boxed W2 w.heap.size 22 (.slice A2 n c2) := by rw [← hW2]; exact ((bx.alloc _).alloc _).alloc _
  have bO2 : Boxed W2 (w.heap.size + 1) 28 (.slice none 0 0) := by rw [← hW2]; exact (bO.alloc _).alloc _
  have bS2 : Boxed W2 (w.heap.size + 1 + 1) 22 (.slice A0 T c0) := by rw [← hW2]; exact bS.alloc _
  have bN2 : Boxed W2 (w.heap.size + 1 + 1 + 1) 3 (.int .i64 n) := by rw [← hW2]; exact bN
  rw [hW2] at hB2 ⊢
  clear bO bS bN hW2
  refine wpIn_rangeFunc_ownG hro h1 (gf := 63) (lb := #[.pointer (some ⟨w.heap.size + 1 + 1, 0, none⟩), .pointer (some ⟨w.heap.size + 1 + 1 + 1, 0, none⟩)]) rfl h63 (enters_of Try.func63 (by kernel_rfl) rfl)
    (chunk_stops F (m - 1) h63 hro (by omega) (w.heap.size + 1 + 1) (w.heap.size + 1 + 1 + 1) A0 n rows c0 T hT hn hcap hreach W2 bS2 bN2) (fun h k => h.trans k) (two_putObj (by omega) (by omega)) (Below.refl _ _) (fun _ => rfl)
    (fun pre W => (((∃ v, Boxed W (w.heap.size + 1) 28 v ∧ W.ownsRow w.heap.size 2 1 v pre.length (tt dots pre) ∧ True) ∧ Boxed W w.heap.size 22 (.slice A2 n c2)) ∧ (Boxed W (w.heap.size + 1 + 1) 22 (.slice A0 T c0) ∧ Boxed W (w.heap.size + 1 + 1 + 1) 3 (.int .i64 n))) ∧ Below w.heap.size w W)
    (fun _ _ _ => False)
    (OwnFrom.and (OwnFrom.and (OwnFrom.and (Own.from (holdsRow_own w.heap.size (w.heap.size + 1) 28 2 1 (fun pre => pre.length) (fun pre => tt dots pre) (fun _ _ => True)) _) (Own.from (boxed_own _ _ _) _)) (OwnFrom.and (Own.from (boxed_own _ _ _) _) (Own.from (boxed_own _ _ _) _))) (ownFrom_below (Nat.le_refl _) (by omega)))
    (fun _ _ _ _ _ hs _ _ => hs)
    ⟨⟨⟨⟨_, bO2, World.ownsRow_nil _ _ _ _, trivial⟩, bx2⟩, bS2, bN2⟩, hB2⟩
    (fun x => { tmps := #[.slice A0 T c0, .int .i64 n, .slice A2 n c2, undef, undef, .pointer (some ⟨w.heap.size, 0, none⟩), .slice none 0 0, .int .i64 0, .int .i64 0, .pointer (some ⟨w.heap.size + 1, 0, none⟩), chunk A0 n x.1,
      .slice A0 T c0, .int .i64 n, .int .i64 0, .int .i64 0, .bool false, undef, .slice A2 n c2, .int .i64 n, .int .i64 n, .bool false, .slice A0 T c0, .int .i64 n,
      .func (.func 63) #[] #[.pointer (some ⟨w.heap.size + 1 + 1, 0, none⟩), .pointer (some ⟨w.heap.size + 1 + 1 + 1, 0, none⟩)], chunk A0 n x.1, undef, undef, undef, undef, undef, undef, undef], defers := [] }) ?assign ?body ?done ?stop
  case assign =>
    intro l x W K hK
    gi_wp2
    exact hK
  case body =>
    rintro l pre x W ⟨⟨⟨⟨v, hv, hrow, _⟩, bx⟩, bs, bn⟩, hB⟩ hlt
    have hc := hv.cell
    have cx := bx.cell
    have hd : 1 ≤ m - 1 - 1 := by omega
    have hmx : Try.prog.follows .mixedOrders = true := by kernel_rfl
    have hD := (hdot x W.drew (pw_below_drewN hB 1)).mono (R' := fun e w' => e = .returned (.int .i64 (dots x)) ∧ Below w.heap.size w w' ∧ Two (w.heap.size + 1 + 1) (w.heap.size + 1 + 1 + 1) W w' ∧ KeepsFrom W2.heap.size W w' ∧ Boxed w' (w.heap.size + 1) 28 v ∧ w'.ownsRow w.heap.size 2 1 v pre.length (tt dots pre) ∧ Boxed w' w.heap.size 22 (.slice A2 n c2) ∧ Boxed w' (w.heap.size + 1 + 1) 22 (.slice A0 T c0) ∧ Boxed w' (w.heap.size + 1 + 1 + 1) 3 (.int .i64 n) ∧ w'.heap.size = W.heap.size) (by
      rintro e w' ⟨he, nd, rfl⟩
      have hg : W.grownBy (W.drew.drewN nd) none := ⟨rfl, rfl, rfl, Nat.le_refl _, fun _ _ _ => rfl⟩
      exact ⟨he, pw_below_drewN (pw_below_drewN hB 1) nd, fun _ _ => rfl, KeepsFrom.of_grownBy hg (fun j e => by cases e), hv, hrow.kept hg (by cases v.ownBlock <;> simp), bx, bs, bn, rfl⟩)
    have hpl : pre.length + 1 ≤ rows := hlt
    have hml : pre.length + 1 ≤ maxLen := by unfold maxLen; omega
    gi_wp2
    refine wpIn_region_any (by assumption) ?_
    (try (change wpAnyIn _ _ _ _ _ _ _ _ _ (World.drew _)))
    refine wpAnyIn_ready (rs := [0, 1, 2]) (by kernel_rfl) (by simp) ?_
    refine AllReadyIn.cons rfl (fun K hK => ?_) ?_
    ·
      go_simp
      refine hK _ _ ?_
      clear hK K
      refine wpAnyIn_ready (rs := [1, 2]) (by kernel_rfl) (by simp) ?_
      refine AllReadyIn.cons rfl (fun K hK => ?_) ?_
      ·
        go_simp
        refine hK _ _ ?_
        clear hK K
        refine wpAnyIn_ready (rs := [2]) (by kernel_rfl) (by simp) ?_
        refine AllReadyIn.cons rfl (fun K hK => ?_) ?_
        ·
          go_simp
          refine hK _ _ ?_
          clear hK K
          refine wpAnyIn_ready (rs := [3]) (by kernel_rfl) (by simp) ?_
          refine AllReadyIn.cons rfl (fun K hK => ?_) ?_
          ·
            go_simp
            refine (CallsIn.inRound l hD).mono ?_
            rintro e W3 ⟨rfl, hB3, ht3, hk3, hv3, hrow3, bx3, bs3, bn3, hsz3⟩
            clear hsz3
            have hc3 := hv3.cell
            have cx3 := bx3.cell
            obtain ⟨v', w1, hrun, hown', hgrow, _⟩ := run_append_own (P := Try.prog) (W3.alloc (.cells #[.int .i64 (dots x)] 2)) w.heap.size 28 28 2 inf (.int .i64 0) 1 8 Try.underlying28 hinf hz0 hz1 hz2 rfl (by decide) v pre.length (tt dots pre) (hrow3.alloc _) ⟨W3.heap.size, 0, none⟩ 1 1 [.int .i64 (dots x)] rfl (cell_one_new _ _ _) (by simp [Value.oneCell']) hml (by omega) (Nat.le_trans hB3.size (by simp))
            obtain ⟨g', cap', rfl⟩ := ownsRow_succ hown'
            obtain ⟨hv1, hv2, hr2, hk2, hb2⟩ := hv3.appended (by decide) hrow3 hB3.size (by omega) hown' hgrow
            have hc1 := hv1.cell
            have hf1 := hv1.frozen
            have hc4 := (hv3.alloc (.cells #[.int .i64 (dots x)] 2)).cell
            have bs4 := ((bs3.alloc (.cells #[.int .i64 (dots x)] 2)).kept hgrow (Boxed.not_row bs3 (by decide) hrow3)).other (B' := w.heap.size + 1) (by omega) (.slice (some ⟨g', 0, none⟩) (pre.length + 1) cap')
            have bn4 := ((bn3.alloc (.cells #[.int .i64 (dots x)] 2)).kept hgrow (Boxed.not_row bn3 (by decide) hrow3)).other (B' := w.heap.size + 1) (by omega) (.slice (some ⟨g', 0, none⟩) (pre.length + 1) cap')
            have bx4 := ((bx3.alloc (.cells #[.int .i64 (dots x)] 2)).kept hgrow (Boxed.not_row bx3 (by decide) hrow3)).other (B' := w.heap.size + 1) (by omega) (.slice (some ⟨g', 0, none⟩) (pre.length + 1) cap')
            refine hK _ _ ?_
            clear hK K
            refine wpAnyIn_ready (rs := [4]) (by kernel_rfl) (by simp) ?_
            refine AllReadyIn.cons rfl (fun K hK => ?_) ?_
            ·
              go_simp
              refine hK _ _ ?_
              clear hK K
              refine wpAnyIn_ready (rs := [5]) (by kernel_rfl) (by simp) ?_
              refine AllReadyIn.cons rfl (fun K hK => ?_) ?_
              ·
                rw [if_pos (by kernel_rfl)]
                (try simp only [Act.put, List.setIfInBounds_toArray, List.set_cons_zero, List.set_cons_succ])
                refine wp_append_in (.tmp 25) (.tmp 29) 28 rfl (v := v) (xv := .slice (some ⟨W3.heap.size, 0, none⟩) 1 1) (by simp only [ev_tmp]; rfl) (by simp only [ev_tmp]; rfl) hrun ?_
                (try simp only [Act.put, List.setIfInBounds_toArray, List.set_cons_zero, List.set_cons_succ])
                refine hK _ _ ?_
                clear hK K
                refine wpAnyIn_ready (rs := [6]) (by kernel_rfl) (by simp) ?_
                refine AllReadyIn.cons rfl (fun K hK => ?_) ?_
                ·
                  go_simp
                  refine hK _ _ ?_
                  clear hK K
                  refine wpAnyIn_done (by kernel_rfl) ?_ _
                  gi_wp2
                  exact ⟨hk3.trans (hk2.from _), ht3.trans (fun k hk => by rcases hk with rfl | rfl; exact bs4.trans bs3.symm; exact bn4.trans bn3.symm), ⟨⟨⟨_, hv2, by simpa [tt] using hr2, trivial⟩, bx4⟩, bs4, bn4⟩, hB3.trans hb2⟩
                exact AllReadyIn.nil
              exact AllReadyIn.nil
            exact AllReadyIn.nil
          exact AllReadyIn.nil
        exact AllReadyIn.nil
      refine AllReadyIn.cons rfl (fun K hK => ?_) ?_
      ·
        go_simp
        refine hK _ _ ?_
        clear hK K
        refine wpAnyIn_ready (rs := [1]) (by kernel_rfl) (by simp) ?_
        refine AllReadyIn.cons rfl (fun K hK => ?_) ?_
        ·
          go_simp
          refine hK _ _ ?_
          clear hK K
          refine wpAnyIn_ready (rs := [3]) (by kernel_rfl) (by simp) ?_
          refine AllReadyIn.cons rfl (fun K hK => ?_) ?_
          ·
            go_simp
            refine (CallsIn.inRound l hD).mono ?_
            rintro e W3 ⟨rfl, hB3, ht3, hk3, hv3, hrow3, bx3, bs3, bn3, hsz3⟩
            clear hsz3
            have hc3 := hv3.cell
            have cx3 := bx3.cell
            obtain ⟨v', w1, hrun, hown', hgrow, _⟩ := run_append_own (P := Try.prog) (W3.alloc (.cells #[.int .i64 (dots x)] 2)) w.heap.size 28 28 2 inf (.int .i64 0) 1 8 Try.underlying28 hinf hz0 hz1 hz2 rfl (by decide) v pre.length (tt dots pre) (hrow3.alloc _) ⟨W3.heap.size, 0, none⟩ 1 1 [.int .i64 (dots x)] rfl (cell_one_new _ _ _) (by simp [Value.oneCell']) hml (by omega) (Nat.le_trans hB3.size (by simp))
            obtain ⟨g', cap', rfl⟩ := ownsRow_succ hown'
            obtain ⟨hv1, hv2, hr2, hk2, hb2⟩ := hv3.appended (by decide) hrow3 hB3.size (by omega) hown' hgrow
            have hc1 := hv1.cell
            have hf1 := hv1.frozen
            have hc4 := (hv3.alloc (.cells #[.int .i64 (dots x)] 2)).cell
            have bs4 := ((bs3.alloc (.cells #[.int .i64 (dots x)] 2)).kept hgrow (Boxed.not_row bs3 (by decide) hrow3)).other (B' := w.heap.size + 1) (by omega) (.slice (some ⟨g', 0, none⟩) (pre.length + 1) cap')
            have bn4 := ((bn3.alloc (.cells #[.int .i64 (dots x)] 2)).kept hgrow (Boxed.not_row bn3 (by decide) hrow3)).other (B' := w.heap.size + 1) (by omega) (.slice (some ⟨g', 0, none⟩) (pre.length + 1) cap')
            have bx4 := ((bx3.alloc (.cells #[.int .i64 (dots x)] 2)).kept hgrow (Boxed.not_row bx3 (by decide) hrow3)).other (B' := w.heap.size + 1) (by omega) (.slice (some ⟨g', 0, none⟩) (pre.length + 1) cap')
            refine hK _ _ ?_
            clear hK K
            refine wpAnyIn_ready (rs := [4]) (by kernel_rfl) (by simp) ?_
            refine AllReadyIn.cons rfl (fun K hK => ?_) ?_
            ·
              go_simp
              refine hK _ _ ?_
              clear hK K
              refine wpAnyIn_ready (rs := [5]) (by kernel_rfl) (by simp) ?_
              refine AllReadyIn.cons rfl (fun K hK => ?_) ?_
              ·
                rw [if_pos (by kernel_rfl)]
                (try simp only [Act.put, List.setIfInBounds_toArray, List.set_cons_zero, List.set_cons_succ])
                refine wp_append_in (.tmp 25) (.tmp 29) 28 rfl (v := v) (xv := .slice (some ⟨W3.heap.size, 0, none⟩) 1 1) (by simp only [ev_tmp]; rfl) (by simp only [ev_tmp]; rfl) hrun ?_
                (try simp only [Act.put, List.setIfInBounds_toArray, List.set_cons_zero, List.set_cons_succ])
                refine hK _ _ ?_
                clear hK K
                refine wpAnyIn_ready (rs := [6]) (by kernel_rfl) (by simp) ?_
                refine AllReadyIn.cons rfl (fun K hK => ?_) ?_
                ·
                  go_simp
                  refine hK _ _ ?_
                  clear hK K
                  refine wpAnyIn_done (by kernel_rfl) ?_ _
                  gi_wp2
                  exact ⟨hk3.trans (hk2.from _), ht3.trans (fun k hk => by rcases hk with rfl | rfl; exact bs4.trans bs3.symm; exact bn4.trans bn3.symm), ⟨⟨⟨_, hv2, by simpa [tt] using hr2, trivial⟩, bx4⟩, bs4, bn4⟩, hB3.trans hb2⟩
                exact AllReadyIn.nil
              exact AllReadyIn.nil
            exact AllReadyIn.nil
          exact AllReadyIn.nil
        exact AllReadyIn.nil
      exact AllReadyIn.nil
    refine AllReadyIn.cons rfl (fun K hK => ?_) ?_
    ·
      go_simp
      refine hK _ _ ?_
      clear hK K
      refine wpAnyIn_ready (rs := [0, 2]) (by kernel_rfl) (by simp) ?_
      refine AllReadyIn.cons rfl (fun K hK => ?_) ?_
      ·
        go_simp
        refine hK _ _ ?_
        clear hK K
        refine wpAnyIn_ready (rs := [2]) (by kernel_rfl) (by simp) ?_
        refine AllReadyIn.cons rfl (fun K hK => ?_) ?_
        ·
          go_simp
          refine hK _ _ ?_
          clear hK K
          refine wpAnyIn_ready (rs := [3]) (by kernel_rfl) (by simp) ?_
          refine AllReadyIn.cons rfl (fun K hK => ?_) ?_
          ·
            go_simp
            refine (CallsIn.inRound l hD).mono ?_
            rintro e W3 ⟨rfl, hB3, ht3, hk3, hv3, hrow3, bx3, bs3, bn3, hsz3⟩
            clear hsz3
            have hc3 := hv3.cell
            have cx3 := bx3.cell
            obtain ⟨v', w1, hrun, hown', hgrow, _⟩ := run_append_own (P := Try.prog) (W3.alloc (.cells #[.int .i64 (dots x)] 2)) w.heap.size 28 28 2 inf (.int .i64 0) 1 8 Try.underlying28 hinf hz0 hz1 hz2 rfl (by decide) v pre.length (tt dots pre) (hrow3.alloc _) ⟨W3.heap.size, 0, none⟩ 1 1 [.int .i64 (dots x)] rfl (cell_one_new _ _ _) (by simp [Value.oneCell']) hml (by omega) (Nat.le_trans hB3.size (by simp))
            obtain ⟨g', cap', rfl⟩ := ownsRow_succ hown'
            obtain ⟨hv1, hv2, hr2, hk2, hb2⟩ := hv3.appended (by decide) hrow3 hB3.size (by omega) hown' hgrow
            have hc1 := hv1.cell
            have hf1 := hv1.frozen
            have hc4 := (hv3.alloc (.cells #[.int .i64 (dots x)] 2)).cell
            have bs4 := ((bs3.alloc (.cells #[.int .i64 (dots x)] 2)).kept hgrow (Boxed.not_row bs3 (by decide) hrow3)).other (B' := w.heap.size + 1) (by omega) (.slice (some ⟨g', 0, none⟩) (pre.length + 1) cap')
            have bn4 := ((bn3.alloc (.cells #[.int .i64 (dots x)] 2)).kept hgrow (Boxed.not_row bn3 (by decide) hrow3)).other (B' := w.heap.size + 1) (by omega) (.slice (some ⟨g', 0, none⟩) (pre.length + 1) cap')
            have bx4 := ((bx3.alloc (.cells #[.int .i64 (dots x)] 2)).kept hgrow (Boxed.not_row bx3 (by decide) hrow3)).other (B' := w.heap.size + 1) (by omega) (.slice (some ⟨g', 0, none⟩) (pre.length + 1) cap')
            refine hK _ _ ?_
            clear hK K
            refine wpAnyIn_ready (rs := [4]) (by kernel_rfl) (by simp) ?_
            refine AllReadyIn.cons rfl (fun K hK => ?_) ?_
            ·
              go_simp
              refine hK _ _ ?_
              clear hK K
              refine wpAnyIn_ready (rs := [5]) (by kernel_rfl) (by simp) ?_
              refine AllReadyIn.cons rfl (fun K hK => ?_) ?_
              ·
                rw [if_pos (by kernel_rfl)]
                (try simp only [Act.put, List.setIfInBounds_toArray, List.set_cons_zero, List.set_cons_succ])
                refine wp_append_in (.tmp 25) (.tmp 29) 28 rfl (v := v) (xv := .slice (some ⟨W3.heap.size, 0, none⟩) 1 1) (by simp only [ev_tmp]; rfl) (by simp only [ev_tmp]; rfl) hrun ?_
                (try simp only [Act.put, List.setIfInBounds_toArray, List.set_cons_zero, List.set_cons_succ])
                refine hK _ _ ?_
                clear hK K
                refine wpAnyIn_ready (rs := [6]) (by kernel_rfl) (by simp) ?_
                refine AllReadyIn.cons rfl (fun K hK => ?_) ?_
                ·
                  go_simp
                  refine hK _ _ ?_
                  clear hK K
                  refine wpAnyIn_done (by kernel_rfl) ?_ _
                  gi_wp2
                  exact ⟨hk3.trans (hk2.from _), ht3.trans (fun k hk => by rcases hk with rfl | rfl; exact bs4.trans bs3.symm; exact bn4.trans bn3.symm), ⟨⟨⟨_, hv2, by simpa [tt] using hr2, trivial⟩, bx4⟩, bs4, bn4⟩, hB3.trans hb2⟩
                exact AllReadyIn.nil
              exact AllReadyIn.nil
            exact AllReadyIn.nil
          exact AllReadyIn.nil
        exact AllReadyIn.nil
      refine AllReadyIn.cons rfl (fun K hK => ?_) ?_
      ·
        go_simp
        refine hK _ _ ?_
        clear hK K
        refine wpAnyIn_ready (rs := [0, 3]) (by kernel_rfl) (by simp) ?_
        refine AllReadyIn.cons rfl (fun K hK => ?_) ?_
        ·
          go_simp
          refine hK _ _ ?_
          clear hK K
          refine wpAnyIn_ready (rs := [3]) (by kernel_rfl) (by simp) ?_
          refine AllReadyIn.cons rfl (fun K hK => ?_) ?_
          ·
            go_simp
            refine (CallsIn.inRound l hD).mono ?_
            rintro e W3 ⟨rfl, hB3, ht3, hk3, hv3, hrow3, bx3, bs3, bn3, hsz3⟩
            clear hsz3
            have hc3 := hv3.cell
            have cx3 := bx3.cell
            obtain ⟨v', w1, hrun, hown', hgrow, _⟩ := run_append_own (P := Try.prog) (W3.alloc (.cells #[.int .i64 (dots x)] 2)) w.heap.size 28 28 2 inf (.int .i64 0) 1 8 Try.underlying28 hinf hz0 hz1 hz2 rfl (by decide) v pre.length (tt dots pre) (hrow3.alloc _) ⟨W3.heap.size, 0, none⟩ 1 1 [.int .i64 (dots x)] rfl (cell_one_new _ _ _) (by simp [Value.oneCell']) hml (by omega) (Nat.le_trans hB3.size (by simp))
            obtain ⟨g', cap', rfl⟩ := ownsRow_succ hown'
            obtain ⟨hv1, hv2, hr2, hk2, hb2⟩ := hv3.appended (by decide) hrow3 hB3.size (by omega) hown' hgrow
            have hc1 := hv1.cell
            have hf1 := hv1.frozen
            have hc4 := (hv3.alloc (.cells #[.int .i64 (dots x)] 2)).cell
            have bs4 := ((bs3.alloc (.cells #[.int .i64 (dots x)] 2)).kept hgrow (Boxed.not_row bs3 (by decide) hrow3)).other (B' := w.heap.size + 1) (by omega) (.slice (some ⟨g', 0, none⟩) (pre.length + 1) cap')
            have bn4 := ((bn3.alloc (.cells #[.int .i64 (dots x)] 2)).kept hgrow (Boxed.not_row bn3 (by decide) hrow3)).other (B' := w.heap.size + 1) (by omega) (.slice (some ⟨g', 0, none⟩) (pre.length + 1) cap')
            have bx4 := ((bx3.alloc (.cells #[.int .i64 (dots x)] 2)).kept hgrow (Boxed.not_row bx3 (by decide) hrow3)).other (B' := w.heap.size + 1) (by omega) (.slice (some ⟨g', 0, none⟩) (pre.length + 1) cap')
            refine hK _ _ ?_
            clear hK K
            refine wpAnyIn_ready (rs := [4]) (by kernel_rfl) (by simp) ?_
            refine AllReadyIn.cons rfl (fun K hK => ?_) ?_
            ·
              go_simp
              refine hK _ _ ?_
              clear hK K
              refine wpAnyIn_ready (rs := [5]) (by kernel_rfl) (by simp) ?_
              refine AllReadyIn.cons rfl (fun K hK => ?_) ?_
              ·
                rw [if_pos (by kernel_rfl)]
                (try simp only [Act.put, List.setIfInBounds_toArray, List.set_cons_zero, List.set_cons_succ])
                refine wp_append_in (.tmp 25) (.tmp 29) 28 rfl (v := v) (xv := .slice (some ⟨W3.heap.size, 0, none⟩) 1 1) (by simp only [ev_tmp]; rfl) (by simp only [ev_tmp]; rfl) hrun ?_
                (try simp only [Act.put, List.setIfInBounds_toArray, List.set_cons_zero, List.set_cons_succ])
                refine hK _ _ ?_
                clear hK K
                refine wpAnyIn_ready (rs := [6]) (by kernel_rfl) (by simp) ?_
                refine AllReadyIn.cons rfl (fun K hK => ?_) ?_
                ·
                  go_simp
                  refine hK _ _ ?_
                  clear hK K
                  refine wpAnyIn_done (by kernel_rfl) ?_ _
                  gi_wp2
                  exact ⟨hk3.trans (hk2.from _), ht3.trans (fun k hk => by rcases hk with rfl | rfl; exact bs4.trans bs3.symm; exact bn4.trans bn3.symm), ⟨⟨⟨_, hv2, by simpa [tt] using hr2, trivial⟩, bx4⟩, bs4, bn4⟩, hB3.trans hb2⟩
                exact AllReadyIn.nil
              exact AllReadyIn.nil
            exact AllReadyIn.nil
          exact AllReadyIn.nil
        refine AllReadyIn.cons rfl (fun K hK => ?_) ?_
        ·
          go_simp
          refine (CallsIn.inRound l hD).mono ?_
          rintro e W3 ⟨rfl, hB3, ht3, hk3, hv3, hrow3, bx3, bs3, bn3, hsz3⟩
          clear hsz3
          have hc3 := hv3.cell
          have cx3 := bx3.cell
          obtain ⟨v', w1, hrun, hown', hgrow, _⟩ := run_append_own (P := Try.prog) (W3.alloc (.cells #[.int .i64 (dots x)] 2)) w.heap.size 28 28 2 inf (.int .i64 0) 1 8 Try.underlying28 hinf hz0 hz1 hz2 rfl (by decide) v pre.length (tt dots pre) (hrow3.alloc _) ⟨W3.heap.size, 0, none⟩ 1 1 [.int .i64 (dots x)] rfl (cell_one_new _ _ _) (by simp [Value.oneCell']) hml (by omega) (Nat.le_trans hB3.size (by simp))
          obtain ⟨g', cap', rfl⟩ := ownsRow_succ hown'
          obtain ⟨hv1, hv2, hr2, hk2, hb2⟩ := hv3.appended (by decide) hrow3 hB3.size (by omega) hown' hgrow
          have hc1 := hv1.cell
          have hf1 := hv1.frozen
          have hc4 := (hv3.alloc (.cells #[.int .i64 (dots x)] 2)).cell
          have bs4 := ((bs3.alloc (.cells #[.int .i64 (dots x)] 2)).kept hgrow (Boxed.not_row bs3 (by decide) hrow3)).other (B' := w.heap.size + 1) (by omega) (.slice (some ⟨g', 0, none⟩) (pre.length + 1) cap')
          have bn4 := ((bn3.alloc (.cells #[.int .i64 (dots x)] 2)).kept hgrow (Boxed.not_row bn3 (by decide) hrow3)).other (B' := w.heap.size + 1) (by omega) (.slice (some ⟨g', 0, none⟩) (pre.length + 1) cap')
          have bx4 := ((bx3.alloc (.cells #[.int .i64 (dots x)] 2)).kept hgrow (Boxed.not_row bx3 (by decide) hrow3)).other (B' := w.heap.size + 1) (by omega) (.slice (some ⟨g', 0, none⟩) (pre.length + 1) cap')
          refine hK _ _ ?_
          clear hK K
          refine wpAnyIn_ready (rs := [0, 4]) (by kernel_rfl) (by simp) ?_
          refine AllReadyIn.cons rfl (fun K hK => ?_) ?_
          ·
            go_simp
            refine hK _ _ ?_
            clear hK K
            refine wpAnyIn_ready (rs := [4]) (by kernel_rfl) (by simp) ?_
            refine AllReadyIn.cons rfl (fun K hK => ?_) ?_
            ·
              go_simp
              refine hK _ _ ?_
              clear hK K
              refine wpAnyIn_ready (rs := [5]) (by kernel_rfl) (by simp) ?_
              refine AllReadyIn.cons rfl (fun K hK => ?_) ?_
              ·
                rw [if_pos (by kernel_rfl)]
                (try simp only [Act.put, List.setIfInBounds_toArray, List.set_cons_zero, List.set_cons_succ])
                refine wp_append_in (.tmp 25) (.tmp 29) 28 rfl (v := v) (xv := .slice (some ⟨W3.heap.size, 0, none⟩) 1 1) (by simp only [ev_tmp]; rfl) (by simp only [ev_tmp]; rfl) hrun ?_
                (try simp only [Act.put, List.setIfInBounds_toArray, List.set_cons_zero, List.set_cons_succ])
                refine hK _ _ ?_
                clear hK K
                refine wpAnyIn_ready (rs := [6]) (by kernel_rfl) (by simp) ?_
                refine AllReadyIn.cons rfl (fun K hK => ?_) ?_
                ·
                  go_simp
                  refine hK _ _ ?_
                  clear hK K
                  refine wpAnyIn_done (by kernel_rfl) ?_ _
                  gi_wp2
                  exact ⟨hk3.trans (hk2.from _), ht3.trans (fun k hk => by rcases hk with rfl | rfl; exact bs4.trans bs3.symm; exact bn4.trans bn3.symm), ⟨⟨⟨_, hv2, by simpa [tt] using hr2, trivial⟩, bx4⟩, bs4, bn4⟩, hB3.trans hb2⟩
                exact AllReadyIn.nil
              exact AllReadyIn.nil
            exact AllReadyIn.nil
          refine AllReadyIn.cons rfl (fun K hK => ?_) ?_
          ·
            go_simp
            refine hK _ _ ?_
            clear hK K
            refine wpAnyIn_ready (rs := [0]) (by kernel_rfl) (by simp) ?_
            refine AllReadyIn.cons rfl (fun K hK => ?_) ?_
            ·
              go_simp
              refine hK _ _ ?_
              clear hK K
              refine wpAnyIn_ready (rs := [5]) (by kernel_rfl) (by simp) ?_
              refine AllReadyIn.cons rfl (fun K hK => ?_) ?_
              ·
                rw [if_pos (by kernel_rfl)]
                (try simp only [Act.put, List.setIfInBounds_toArray, List.set_cons_zero, List.set_cons_succ])
                refine wp_append_in (.tmp 25) (.tmp 29) 28 rfl (v := v) (xv := .slice (some ⟨W3.heap.size, 0, none⟩) 1 1) (by simp only [ev_tmp]; rfl) (by simp only [ev_tmp]; rfl) hrun ?_
                (try simp only [Act.put, List.setIfInBounds_toArray, List.set_cons_zero, List.set_cons_succ])
                refine hK _ _ ?_
                clear hK K
                refine wpAnyIn_ready (rs := [6]) (by kernel_rfl) (by simp) ?_
                refine AllReadyIn.cons rfl (fun K hK => ?_) ?_
                ·
                  go_simp
                  refine hK _ _ ?_
                  clear hK K
                  refine wpAnyIn_done (by kernel_rfl) ?_ _
                  gi_wp2
                  exact ⟨hk3.trans (hk2.from _), ht3.trans (fun k hk => by rcases hk with rfl | rfl; exact bs4.trans bs3.symm; exact bn4.trans bn3.symm), ⟨⟨⟨_, hv2, by simpa [tt] using hr2, trivial⟩, bx4⟩, bs4, bn4⟩, hB3.trans hb2⟩
                exact AllReadyIn.nil
              exact AllReadyIn.nil
            exact AllReadyIn.nil
          exact AllReadyIn.nil
        exact AllReadyIn.nil
      exact AllReadyIn.nil
    refine AllReadyIn.cons rfl (fun K hK => ?_) ?_
    ·
      go_simp
      refine hK _ _ ?_
      clear hK K
      refine wpAnyIn_ready (rs := [0, 1]) (by kernel_rfl) (by simp) ?_
      refine AllReadyIn.cons rfl (fun K hK => ?_) ?_
      ·
        go_simp
        refine hK _ _ ?_
        clear hK K
        refine wpAnyIn_ready (rs := [1]) (by kernel_rfl) (by simp) ?_
        refine AllReadyIn.cons rfl (fun K hK => ?_) ?_
        ·
          go_simp
          refine hK _ _ ?_
          clear hK K
          refine wpAnyIn_ready (rs := [3]) (by kernel_rfl) (by simp) ?_
          refine AllReadyIn.cons rfl (fun K hK => ?_) ?_
          ·
            go_simp
            refine (CallsIn.inRound l hD).mono ?_
            rintro e W3 ⟨rfl, hB3, ht3, hk3, hv3, hrow3, bx3, bs3, bn3, hsz3⟩
            clear hsz3
            have hc3 := hv3.cell
            have cx3 := bx3.cell
            obtain ⟨v', w1, hrun, hown', hgrow, _⟩ := run_append_own (P := Try.prog) (W3.alloc (.cells #[.int .i64 (dots x)] 2)) w.heap.size 28 28 2 inf (.int .i64 0) 1 8 Try.underlying28 hinf hz0 hz1 hz2 rfl (by decide) v pre.length (tt dots pre) (hrow3.alloc _) ⟨W3.heap.size, 0, none⟩ 1 1 [.int .i64 (dots x)] rfl (cell_one_new _ _ _) (by simp [Value.oneCell']) hml (by omega) (Nat.le_trans hB3.size (by simp))
            obtain ⟨g', cap', rfl⟩ := ownsRow_succ hown'
            obtain ⟨hv1, hv2, hr2, hk2, hb2⟩ := hv3.appended (by decide) hrow3 hB3.size (by omega) hown' hgrow
            have hc1 := hv1.cell
            have hf1 := hv1.frozen
            have hc4 := (hv3.alloc (.cells #[.int .i64 (dots x)] 2)).cell
            have bs4 := ((bs3.alloc (.cells #[.int .i64 (dots x)] 2)).kept hgrow (Boxed.not_row bs3 (by decide) hrow3)).other (B' := w.heap.size + 1) (by omega) (.slice (some ⟨g', 0, none⟩) (pre.length + 1) cap')
            have bn4 := ((bn3.alloc (.cells #[.int .i64 (dots x)] 2)).kept hgrow (Boxed.not_row bn3 (by decide) hrow3)).other (B' := w.heap.size + 1) (by omega) (.slice (some ⟨g', 0, none⟩) (pre.length + 1) cap')
            have bx4 := ((bx3.alloc (.cells #[.int .i64 (dots x)] 2)).kept hgrow (Boxed.not_row bx3 (by decide) hrow3)).other (B' := w.heap.size + 1) (by omega) (.slice (some ⟨g', 0, none⟩) (pre.length + 1) cap')
            refine hK _ _ ?_
            clear hK K
            refine wpAnyIn_ready (rs := [4]) (by kernel_rfl) (by simp) ?_
            refine AllReadyIn.cons rfl (fun K hK => ?_) ?_
            ·
              go_simp
              refine hK _ _ ?_
              clear hK K
              refine wpAnyIn_ready (rs := [5]) (by kernel_rfl) (by simp) ?_
              refine AllReadyIn.cons rfl (fun K hK => ?_) ?_
              ·
                rw [if_pos (by kernel_rfl)]
                (try simp only [Act.put, List.setIfInBounds_toArray, List.set_cons_zero, List.set_cons_succ])
                refine wp_append_in (.tmp 25) (.tmp 29) 28 rfl (v := v) (xv := .slice (some ⟨W3.heap.size, 0, none⟩) 1 1) (by simp only [ev_tmp]; rfl) (by simp only [ev_tmp]; rfl) hrun ?_
                (try simp only [Act.put, List.setIfInBounds_toArray, List.set_cons_zero, List.set_cons_succ])
                refine hK _ _ ?_
                clear hK K
                refine wpAnyIn_ready (rs := [6]) (by kernel_rfl) (by simp) ?_
                refine AllReadyIn.cons rfl (fun K hK => ?_) ?_
                ·
                  go_simp
                  refine hK _ _ ?_
                  clear hK K
                  refine wpAnyIn_done (by kernel_rfl) ?_ _
                  gi_wp2
                  exact ⟨hk3.trans (hk2.from _), ht3.trans (fun k hk => by rcases hk with rfl | rfl; exact bs4.trans bs3.symm; exact bn4.trans bn3.symm), ⟨⟨⟨_, hv2, by simpa [tt] using hr2, trivial⟩, bx4⟩, bs4, bn4⟩, hB3.trans hb2⟩
                exact AllReadyIn.nil
              exact AllReadyIn.nil
            exact AllReadyIn.nil
          exact AllReadyIn.nil
        exact AllReadyIn.nil
      refine AllReadyIn.cons rfl (fun K hK => ?_) ?_
      ·
        go_simp
        refine hK _ _ ?_
        clear hK K
        refine wpAnyIn_ready (rs := [0, 3]) (by kernel_rfl) (by simp) ?_
        refine AllReadyIn.cons rfl (fun K hK => ?_) ?_
        ·
          go_simp
          refine hK _ _ ?_
          clear hK K
          refine wpAnyIn_ready (rs := [3]) (by kernel_rfl) (by simp) ?_
          refine AllReadyIn.cons rfl (fun K hK => ?_) ?_
          ·
            go_simp
            refine (CallsIn.inRound l hD).mono ?_
            rintro e W3 ⟨rfl, hB3, ht3, hk3, hv3, hrow3, bx3, bs3, bn3, hsz3⟩
            clear hsz3
            have hc3 := hv3.cell
            have cx3 := bx3.cell
            obtain ⟨v', w1, hrun, hown', hgrow, _⟩ := run_append_own (P := Try.prog) (W3.alloc (.cells #[.int .i64 (dots x)] 2)) w.heap.size 28 28 2 inf (.int .i64 0) 1 8 Try.underlying28 hinf hz0 hz1 hz2 rfl (by decide) v pre.length (tt dots pre) (hrow3.alloc _) ⟨W3.heap.size, 0, none⟩ 1 1 [.int .i64 (dots x)] rfl (cell_one_new _ _ _) (by simp [Value.oneCell']) hml (by omega) (Nat.le_trans hB3.size (by simp))
            obtain ⟨g', cap', rfl⟩ := ownsRow_succ hown'
            obtain ⟨hv1, hv2, hr2, hk2, hb2⟩ := hv3.appended (by decide) hrow3 hB3.size (by omega) hown' hgrow
            have hc1 := hv1.cell
            have hf1 := hv1.frozen
            have hc4 := (hv3.alloc (.cells #[.int .i64 (dots x)] 2)).cell
            have bs4 := ((bs3.alloc (.cells #[.int .i64 (dots x)] 2)).kept hgrow (Boxed.not_row bs3 (by decide) hrow3)).other (B' := w.heap.size + 1) (by omega) (.slice (some ⟨g', 0, none⟩) (pre.length + 1) cap')
            have bn4 := ((bn3.alloc (.cells #[.int .i64 (dots x)] 2)).kept hgrow (Boxed.not_row bn3 (by decide) hrow3)).other (B' := w.heap.size + 1) (by omega) (.slice (some ⟨g', 0, none⟩) (pre.length + 1) cap')
            have bx4 := ((bx3.alloc (.cells #[.int .i64 (dots x)] 2)).kept hgrow (Boxed.not_row bx3 (by decide) hrow3)).other (B' := w.heap.size + 1) (by omega) (.slice (some ⟨g', 0, none⟩) (pre.length + 1) cap')
            refine hK _ _ ?_
            clear hK K
            refine wpAnyIn_ready (rs := [4]) (by kernel_rfl) (by simp) ?_
            refine AllReadyIn.cons rfl (fun K hK => ?_) ?_
            ·
              go_simp
              refine hK _ _ ?_
              clear hK K
              refine wpAnyIn_ready (rs := [5]) (by kernel_rfl) (by simp) ?_
              refine AllReadyIn.cons rfl (fun K hK => ?_) ?_
              ·
                rw [if_pos (by kernel_rfl)]
                (try simp only [Act.put, List.setIfInBounds_toArray, List.set_cons_zero, List.set_cons_succ])
                refine wp_append_in (.tmp 25) (.tmp 29) 28 rfl (v := v) (xv := .slice (some ⟨W3.heap.size, 0, none⟩) 1 1) (by simp only [ev_tmp]; rfl) (by simp only [ev_tmp]; rfl) hrun ?_
                (try simp only [Act.put, List.setIfInBounds_toArray, List.set_cons_zero, List.set_cons_succ])
                refine hK _ _ ?_
                clear hK K
                refine wpAnyIn_ready (rs := [6]) (by kernel_rfl) (by simp) ?_
                refine AllReadyIn.cons rfl (fun K hK => ?_) ?_
                ·
                  go_simp
                  refine hK _ _ ?_
                  clear hK K
                  refine wpAnyIn_done (by kernel_rfl) ?_ _
                  gi_wp2
                  exact ⟨hk3.trans (hk2.from _), ht3.trans (fun k hk => by rcases hk with rfl | rfl; exact bs4.trans bs3.symm; exact bn4.trans bn3.symm), ⟨⟨⟨_, hv2, by simpa [tt] using hr2, trivial⟩, bx4⟩, bs4, bn4⟩, hB3.trans hb2⟩
                exact AllReadyIn.nil
              exact AllReadyIn.nil
            exact AllReadyIn.nil
          exact AllReadyIn.nil
        refine AllReadyIn.cons rfl (fun K hK => ?_) ?_
        ·
          go_simp
          refine (CallsIn.inRound l hD).mono ?_
          rintro e W3 ⟨rfl, hB3, ht3, hk3, hv3, hrow3, bx3, bs3, bn3, hsz3⟩
          clear hsz3
          have hc3 := hv3.cell
          have cx3 := bx3.cell
          obtain ⟨v', w1, hrun, hown', hgrow, _⟩ := run_append_own (P := Try.prog) (W3.alloc (.cells #[.int .i64 (dots x)] 2)) w.heap.size 28 28 2 inf (.int .i64 0) 1 8 Try.underlying28 hinf hz0 hz1 hz2 rfl (by decide) v pre.length (tt dots pre) (hrow3.alloc _) ⟨W3.heap.size, 0, none⟩ 1 1 [.int .i64 (dots x)] rfl (cell_one_new _ _ _) (by simp [Value.oneCell']) hml (by omega) (Nat.le_trans hB3.size (by simp))
          obtain ⟨g', cap', rfl⟩ := ownsRow_succ hown'
          obtain ⟨hv1, hv2, hr2, hk2, hb2⟩ := hv3.appended (by decide) hrow3 hB3.size (by omega) hown' hgrow
          have hc1 := hv1.cell
          have hf1 := hv1.frozen
          have hc4 := (hv3.alloc (.cells #[.int .i64 (dots x)] 2)).cell
          have bs4 := ((bs3.alloc (.cells #[.int .i64 (dots x)] 2)).kept hgrow (Boxed.not_row bs3 (by decide) hrow3)).other (B' := w.heap.size + 1) (by omega) (.slice (some ⟨g', 0, none⟩) (pre.length + 1) cap')
          have bn4 := ((bn3.alloc (.cells #[.int .i64 (dots x)] 2)).kept hgrow (Boxed.not_row bn3 (by decide) hrow3)).other (B' := w.heap.size + 1) (by omega) (.slice (some ⟨g', 0, none⟩) (pre.length + 1) cap')
          have bx4 := ((bx3.alloc (.cells #[.int .i64 (dots x)] 2)).kept hgrow (Boxed.not_row bx3 (by decide) hrow3)).other (B' := w.heap.size + 1) (by omega) (.slice (some ⟨g', 0, none⟩) (pre.length + 1) cap')
          refine hK _ _ ?_
          clear hK K
          refine wpAnyIn_ready (rs := [0, 4]) (by kernel_rfl) (by simp) ?_
          refine AllReadyIn.cons rfl (fun K hK => ?_) ?_
          ·
            go_simp
            refine hK _ _ ?_
            clear hK K
            refine wpAnyIn_ready (rs := [4]) (by kernel_rfl) (by simp) ?_
            refine AllReadyIn.cons rfl (fun K hK => ?_) ?_
            ·
              go_simp
              refine hK _ _ ?_
              clear hK K
              refine wpAnyIn_ready (rs := [5]) (by kernel_rfl) (by simp) ?_
              refine AllReadyIn.cons rfl (fun K hK => ?_) ?_
              ·
                rw [if_pos (by kernel_rfl)]
                (try simp only [Act.put, List.setIfInBounds_toArray, List.set_cons_zero, List.set_cons_succ])
                refine wp_append_in (.tmp 25) (.tmp 29) 28 rfl (v := v) (xv := .slice (some ⟨W3.heap.size, 0, none⟩) 1 1) (by simp only [ev_tmp]; rfl) (by simp only [ev_tmp]; rfl) hrun ?_
                (try simp only [Act.put, List.setIfInBounds_toArray, List.set_cons_zero, List.set_cons_succ])
                refine hK _ _ ?_
                clear hK K
                refine wpAnyIn_ready (rs := [6]) (by kernel_rfl) (by simp) ?_
                refine AllReadyIn.cons rfl (fun K hK => ?_) ?_
                ·
                  go_simp
                  refine hK _ _ ?_
                  clear hK K
                  refine wpAnyIn_done (by kernel_rfl) ?_ _
                  gi_wp2
                  exact ⟨hk3.trans (hk2.from _), ht3.trans (fun k hk => by rcases hk with rfl | rfl; exact bs4.trans bs3.symm; exact bn4.trans bn3.symm), ⟨⟨⟨_, hv2, by simpa [tt] using hr2, trivial⟩, bx4⟩, bs4, bn4⟩, hB3.trans hb2⟩
                exact AllReadyIn.nil
              exact AllReadyIn.nil
            exact AllReadyIn.nil
          refine AllReadyIn.cons rfl (fun K hK => ?_) ?_
          ·
            go_simp
            refine hK _ _ ?_
            clear hK K
            refine wpAnyIn_ready (rs := [0]) (by kernel_rfl) (by simp) ?_
            refine AllReadyIn.cons rfl (fun K hK => ?_) ?_
            ·
              go_simp
              refine hK _ _ ?_
              clear hK K
              refine wpAnyIn_ready (rs := [5]) (by kernel_rfl) (by simp) ?_
              refine AllReadyIn.cons rfl (fun K hK => ?_) ?_
              ·
                rw [if_pos (by kernel_rfl)]
                (try simp only [Act.put, List.setIfInBounds_toArray, List.set_cons_zero, List.set_cons_succ])
                refine wp_append_in (.tmp 25) (.tmp 29) 28 rfl (v := v) (xv := .slice (some ⟨W3.heap.size, 0, none⟩) 1 1) (by simp only [ev_tmp]; rfl) (by simp only [ev_tmp]; rfl) hrun ?_
                (try simp only [Act.put, List.setIfInBounds_toArray, List.set_cons_zero, List.set_cons_succ])
                refine hK _ _ ?_
                clear hK K
                refine wpAnyIn_ready (rs := [6]) (by kernel_rfl) (by simp) ?_
                refine AllReadyIn.cons rfl (fun K hK => ?_) ?_
                ·
                  go_simp
                  refine hK _ _ ?_
                  clear hK K
                  refine wpAnyIn_done (by kernel_rfl) ?_ _
                  gi_wp2
                  exact ⟨hk3.trans (hk2.from _), ht3.trans (fun k hk => by rcases hk with rfl | rfl; exact bs4.trans bs3.symm; exact bn4.trans bn3.symm), ⟨⟨⟨_, hv2, by simpa [tt] using hr2, trivial⟩, bx4⟩, bs4, bn4⟩, hB3.trans hb2⟩
                exact AllReadyIn.nil
              exact AllReadyIn.nil
            exact AllReadyIn.nil
          exact AllReadyIn.nil
        exact AllReadyIn.nil
      exact AllReadyIn.nil
    exact AllReadyIn.nil
  case done =>
    rintro D ys W hD rfl ⟨⟨⟨⟨v, hv, hrow, _⟩, bx⟩, bs, bn⟩, hB⟩ hK
    have hc := hv.cell
    gi_wp2
    refine ⟨by simp, .inl ⟨_, _, rfl, run_takeDeferred hK, ?_⟩⟩
    exact ⟨_, results_tmp2 rfl _ _ _, v, rfl, by have := ownsRow_putObj hrow (.deferred none) hK rfl; rwa [List.length_finRange] at this, hB.trans (belowK_b (w := w) (Nat.le_refl _) W D _ _ (by omega) hK rfl rfl)⟩
  case stop =>
    rintro D c pre W _ _ h _
    exact h.elim
end Go.Proofs.Ytigfodkakefhcaa.K
