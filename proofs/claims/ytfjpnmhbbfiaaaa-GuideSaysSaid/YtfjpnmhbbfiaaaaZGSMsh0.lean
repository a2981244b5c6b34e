/- A shortest text: what lies in memory while it is sought, and how each step turns it. Each law names its conditions. -/
import Derived.Test.YtfjpnmhbbfiaaaaZGSMoved
import Derived.Test.YtfjpnmhbbfiaaaaZGSKeptS
namespace Go.Proofs.Ytfjpnmhbbfiaaaa.P
open Go Go.RowKit Go.Proofs.YtfjpnmhbbfiaaaaW.PrintWords Go.Proofs.YtfjpnmhbbfiaaaaW.PrintLast Go.Proofs.YtfjpnmhbbfiaaaaW.PrintMore Go.Proofs.Ytfjpnmhbbfiaaaa
set_option linter.unusedVariables false
set_option linter.unusedSimpArgs false
/-- States with their texts, as keys and strings. -/
def sk (F : List (Int × List Int)) : List (Value × ByteArray) := F.map fun p => (.int .i64 p.1, strOfNums p.2)
theorem sk_len (F : List (Int × List Int)) : (sk F).length = F.length := by simp [sk]
theorem sk_snoc (F : List (Int × List Int)) (s : Int) (t : List Int) : sk (F ++ [(s, t)]) = sk F ++ [(.int .i64 s, strOfNums t)] := by simp [sk]
theorem sk_says {F : List (Int × List Int)} {s : Int} : (∃ i, (Value.int .i64 s, i) ∈ sk F) ↔ Mach.fnd F s = true := by
  rw [Mach.fnd_iff]
  unfold sk
  constructor
  · rintro ⟨i, hi⟩
    obtain ⟨p, hp, he⟩ := List.mem_map.1 hi
    injection he with h1 h2
    injection h1 with _ h1
    exact ⟨p, hp, h1⟩
  · rintro ⟨p, hp, rfl⟩
    exact ⟨_, List.mem_map.2 ⟨p, hp, rfl⟩⟩
theorem strOfNums_snoc (l : List Int) (x : Int) : strOfNums l ++ strOfNums [x] = strOfNums (l ++ [x]) := by
  unfold strOfNums
  apply ByteArray.ext
  simp [ByteArray.data_append]
theorem strOfNums_size (l : List Int) : (strOfNums l).size = l.length := by
  unfold strOfNums
  simp [ByteArray.size]
structure SH (w1 W : World) (gm : Nat) (vo : Value) (a : Nat) (F : List (Int × List Int)) (f : List (Value × ByteArray)) : Prop where
  que : Kd.Q (Kd.int .i64) 3 W w1.heap.size (fun _ => True) vo ((F.map Prod.fst).drop a)
  map : KeptS.KeptS Try.prog 3 9 W gm f
  bel : Below w1.heap.size w1 W
  hm : w1.heap.size ≤ gm
theorem keptS_map {P : Program} {k e : TypeId} {w : World} {b : Nat} {f : List (Value × ByteArray)} (h : KeptS.KeptS P k e w b f) : ∃ ob, w.heap[b]? = some ob ∧ tgOf ob = none := by
  obtain ⟨D, ho, _⟩ := h
  unfold World.ownsMap at ho
  obtain ⟨es, clock, hb, _⟩ := ho
  exact ⟨_, hb, rfl⟩
theorem rowt_Q {α : Type} {d : Kd α} {e base : Nat} {ok : Nat → Prop} {W : World} {v : Value} {xs : List α} (h : d.Q e W base ok v xs) : RowT W v.ownBlock (some e) := fun k hk => by
  obtain ⟨cs, hc⟩ := Kd.Q_typed h k hk
  exact ⟨_, hc, rfl⟩
theorem Q_row {α : Type} {d : Kd α} {e base : Nat} {ok : Nat → Prop} {W W' : World} {v : Value} {xs : List α} {row T : Option Nat} (h : d.Q e W base ok v xs) (hg : W.grownBy W' row) (hT : RowT W row T) (ht : ∀ q, q ∈ e :: d.E → T ≠ some q) : d.Q e W' base ok v xs := by
  refine Kd.Q_mono (Kd.Q_move (Kd.Q_bound h) (fun k hk => hg.block k hk.2.2.1 (fun he => ?_))) (fun _ hk => hk.1)
  obtain ⟨_, _, _, q, hq, cells, hc⟩ := hk
  obtain ⟨ob, h1, h2⟩ := hT k he.symm
  rw [hc] at h1
  cases h1
  exact ht q hq h2.symm
section
variable {w1 W W' : World} {gm a : Nat} {vo : Value} {F : List (Int × List Int)} {f : List (Value × ByteArray)}
theorem SH.below (h : SH w1 W gm vo a F f) (hb : Below W.heap.size W W') : SH w1 W' gm vo a F f := ⟨Kd.Q_below h.que hb, h.map.below hb, below_then h.bel h.bel.size hb, h.hm⟩
theorem SH.put {f' : List (Value × ByteArray)} (h : SH w1 W gm vo a F f) (hS : KeptS.KeptS Try.prog 3 9 W' gm f') (hg : W.grownBy W' (some gm)) : SH w1 W' gm vo a F f' :=
  have hT : RowT W (some gm) none := fun k hk => by cases hk; exact keptS_map h.map
  ⟨Q_row h.que hg hT (by decide), hS, pw_below_grown h.bel _ h.bel.size hg (fun k hk => by cases hk; exact h.hm), h.hm⟩
variable {ops : Array Oper} {rest : List Oper} {oi : Oper} {ac : Act} {Q : Exit → Act → World → Prop}
/-- A state put behind the queue. -/
theorem SH.app (h : SH w1 W gm vo a F f) (hgd : oi.guard = none) (s x : Operand) (ho : oi.op = .call { callee := .builtin .append, args := #[s, x], argTypes := #[53, 53] }) {t : Int} (p : List Int) (hs : ac.eval s = vo) (hx : ac.eval x = .slice (some ⟨W.heap.size, 0, none⟩) 1 1) (hl : F.length ≤ 100000) (ha : a ≤ F.length)
    (k : ∀ v w2, SH w1 w2 gm v a (F ++ [(t, p)]) f → wpList Try.prog ops Q rest (ac.put oi.dst v) w2) : wpList Try.prog ops Q (oi :: rest) ac (W.alloc (.cells #[.int .i64 t] 3 (0, 0))) :=
  Kd.Q_append (Kd.int .i64) (w0 := w1) w1.heap.size hgd s x 53 3 (.int .i64 0) 8 ho Try.underlying53 info3 rfl (by decide) (by omega) vo ((F.map Prod.fst).drop a) t [.int .i64 t] (fun _ => True) (fun _ => False) hs hx rfl (fun _ hk => hk.elim) (fun _ _ => trivial) h.que h.bel h.bel.size (by rw [List.length_drop, List.length_map]; omega) (fun v w2 hR hB hg _ => k v w2 ⟨by
      rw [List.map_append, List.drop_append_of_le_length (by rw [List.length_map]; exact ha)]; exact hR, h.map.kept hg (fun e => by
      obtain ⟨ob, h1, h2⟩ := rowt_Q h.que gm e
      obtain ⟨ob', h3, h4⟩ := keptS_map h.map
      rw [h1] at h3
      cases h3
      rw [h2] at h4
      cases h4), hB, h.hm⟩)
theorem conv_event {g : Nat} {x : Int} (hgd : oi.guard = none) (xo : Operand) (ho : oi.op = .convert 123 9 xo) (hx : ac.eval xo = .slice (some ⟨g, 0, none⟩) 1 1) (hc : W.heap[g]? = some (.cells #[.int .u8 x] 5 (0, 0)))
    (h : wpList Try.prog ops Q rest (ac.put oi.dst (.string (strOfNums [x]))) W) : wpList Try.prog ops Q (oi :: rest) ac W := by
  have hR : Kd.R (Kd.int .u8) 5 W 0 (fun _ => True) (.slice (some ⟨g, 0, none⟩) 1 1) [x] := Kd.R_of_own ⟨rfl, .inr ⟨g, 1, _, rfl, Nat.zero_le _, hc, Nat.le_refl _, by decide, rfl, rfl⟩⟩ (fun _ _ => trivial)
  refine Kd.event_run hgd ?_ h
  have hr := Kd.C_string (P := Try.prog) (w := W) (src := 123) (dst := 9) (e := 5) (c := 1) Try.underlying123 Try.underlying5 Try.underlying9 (Kd.R_reads' hR).2.2
  unfold execOp
  simp only [ho, hx]
  simp [Sem.run_bind, Result.andThen]
  erw [hr]
theorem add_event {s t : ByteArray} (hgd : oi.guard = none) (x y : Operand) (ho : oi.op = .binOp .add 9 x y 9) (hx : ac.eval x = .string s) (hy : ac.eval y = .string t) (hl : s.size + t.size ≤ 9223372036854775807)
    (h : wpList Try.prog ops Q rest (ac.put oi.dst (.string (s ++ t))) W) : wpList Try.prog ops Q (oi :: rest) ac W := by
  refine Kd.event_run hgd ?_ h
  have hr := run_string_add_sum (P := Try.prog) W s t hl
  unfold execOp
  simp only [ho, hx, hy]
  simp [binOp, eqGuard, Sem.run_bind, Result.andThen]
  rw [hr]
end
end Go.Proofs.Ytfjpnmhbbfiaaaa.P
