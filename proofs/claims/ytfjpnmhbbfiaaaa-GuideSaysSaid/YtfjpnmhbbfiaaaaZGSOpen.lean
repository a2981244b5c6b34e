/- Arguments of whatever plain shape, opened as lists: slices of slices, slices of structs, structs; on condition that they read as data within the form's reach. -/
import Derived.Test.YtfjpnmhbbfiaaaaZGSWWords
import Derived.SizedLaws
import Derived.Deep.Slices
import Derived.Lib.SmallJoins
namespace Go.Proofs.Ytfjpnmhbbfiaaaa.O
open Go.ChangeShapes Go.WideShapes Go.Deep Go.Joins Go.Proofs.YtfjpnmhbbfiaaaaW.PrintWords
set_option linter.unusedVariables false
set_option linter.unusedSimpArgs false
/-- What reads as data of a type is a value of a kind, and something holds of it. -/
def Opens {α : Type} (P : Program) (d : Kd α) (t : TypeId) (Q : α → Prop) : Prop :=
  ∀ {H : Type} {enc : TypeId × Value → H} {w : World} {base : Nat} {held : Bool} {fuel : Nat} {cs : List Value} {x : DataW H × List MemPlace},
    DataW.trod enc P w base (fun _ => true) held fuel t cs = some x → (∀ n ∈ x.1.weights P t, n ≤ reachBytes) → ∃ a : α, d.K w a cs ∧ Q a
section
variable {P : Program}
theorem opens_int {t : TypeId} {k : IntKind} (ht : P.underlying t = some (.int k)) : Opens P (Kd.int k) t (fun n => (Lit.int k n).wf = true) := by
  intro H enc w base held fuel cs x h hw
  obtain ⟨n, rfl, rfl, wf⟩ := DataW.trod_int ht h
  exact ⟨n, rfl, wf⟩
theorem opens_bool {t : TypeId} (ht : P.underlying t = some .bool) : Opens P Kd.bool t (fun _ => True) := by
  intro H enc w base held fuel cs x h hw
  obtain ⟨b, rfl, rfl⟩ := DataW.trod_bool ht h
  exact ⟨b, rfl, trivial⟩
theorem weights_mem {H : Type} {e : TypeId} {D : DataW H} : ∀ {l : List (DataW H)}, D ∈ l → ∀ n ∈ D.weights P e, n ∈ DataW.weightsAll P e l
  | [], h, n, hn => by simp at h
  | d :: l, h, n, hn => by
    simp only [DataW.weightsAll, List.mem_append]
    rcases List.mem_cons.mp h with rfl | h
    · exact .inl hn
    · exact .inr (weights_mem h n hn)
theorem opens_slice {α : Type} [Inhabited α] {d : Kd α} {t e B : Nat} {Q : α → Prop} (ht : P.underlying t = some (.slice e)) (hc : P.cellsOf e = d.sz) (hB : P.bytesOf e = B) (he : Opens P d e Q) :
    Opens P (Kd.slice e d) t (fun xs => (xs.length ≤ maxLen ∧ xs.length * B ≤ 140737488351232) ∧ ∀ x ∈ xs, Q x) := by
  intro H enc w base held fuel cs x h hw
  rcases open_slice ht h with ⟨rfl, rfl⟩ | ⟨a, len, cap, m, n, D, Pl, rfl, hb, hl, hm, hmm, rfl, hx⟩
  · exact ⟨[], ⟨none, 0, rfl, Nat.le_refl _, Kd.C_nil _ _⟩, ⟨by simp, by simp⟩, by simp⟩
  · simp only [if_true] at hmm
    subst hmm
    simp only [DataW.weights, ht, hB, List.mem_cons, List.mem_append] at hw
    have each : ∀ i, i < len → ∃ y : α × List Value, w.cells? base (a.add (i * P.cellsOf e)) (P.cellsOf e) = some y.2 ∧ d.K w y.1 y.2 ∧ Q y.1 := by
      intro i hi
      obtain ⟨cs', h1, h2⟩ := hx i (by omega)
      obtain ⟨v, hv, hq⟩ := he h2 (fun n hn => hw n (.inr (.inl (weights_mem (List.mem_map.mpr ⟨i, List.mem_range.mpr hi, rfl⟩) n hn))))
      exact ⟨(v, cs'), h1, hv, hq⟩
    obtain ⟨y, hy⟩ := choose_lt each
    have hlen : ((List.range len).map fun i => (y i).1).length = len := by simp
    refine ⟨(List.range len).map fun i => (y i).1, ⟨some a, m, by rw [hlen], by rw [hlen]; exact hl, ?_⟩, ⟨by rw [hlen]; omega, ?_⟩, ?_⟩
    · refine ⟨rfl, ?_, fun hpos => ⟨a, rfl, ?_⟩⟩
      · rw [hlen]; unfold maxLen at hm; omega
      · intro j p hp
        rw [List.getElem?_map] at hp
        obtain ⟨i, hi, rfl⟩ := Option.map_eq_some_iff.mp hp
        rw [List.getElem?_eq_some_iff] at hi
        obtain ⟨hj, hi⟩ := hi
        simp at hj hi
        subst hi
        obtain ⟨g1, g2, g3⟩ := hy j hj
        obtain ⟨_, c2, c3⟩ := World.cells?_some g1
        refine ⟨(y j).2, by rw [c2, hc], g2, ?_⟩
        intro i u hu
        have hi : i < (y j).2.length := (List.getElem?_eq_some_iff.mp hu).1
        rw [← hc, ← Deep.add_add, c3 i (by omega), hu]
    · rw [hlen]
      have := hw _ (.inl rfl)
      simp only [List.length_map, List.length_range] at this
      have e : len + (m - len) = m := by omega
      rw [e] at this
      exact Nat.le_trans (Nat.mul_le_mul_right B hl) this
    · intro v hv
      obtain ⟨i, hi, rfl⟩ := List.mem_map.mp hv
      exact (hy i (List.mem_range.mp hi)).2.2
theorem weights_each {H : Type} : ∀ {ts : List TypeId} {ds : List (DataW H)} {j : Nat} {t : TypeId} {d : DataW H}, ts[j]? = some t → ds[j]? = some d → ∀ n ∈ d.weights P t, n ∈ DataW.weightsEach P ts ds := fun h1 h2 => DataW.weights_mem_each h1 h2
/-- The weights of one argument. -/
theorem arg_weights {H : Type} {ts : List TypeId} {ds : List (DataW H)} {j : Nat} {t : TypeId} {d : DataW H} (h : (DataW.weightsEach P ts ds).all (· ≤ reachBytes) = true) (ht : ts[j]? = some t) (hd : ds[j]? = some d) : ∀ n ∈ d.weights P t, n ≤ reachBytes := by
  intro n hn
  have := List.all_eq_true.mp h n (weights_each ht hd n hn)
  simpa using this
theorem part_weights {H : Type} {t : TypeId} {fs : Array Field} {parts : List (DataW H)} (hs : P.underlying t = some (.struct fs)) (h : ∀ n ∈ (DataW.agg parts).weights P t, n ≤ reachBytes) {j : Nat} {ft : TypeId} {d : DataW H} (hf : (fs.toList.map (·.type))[j]? = some ft) (hd : parts[j]? = some d) : ∀ n ∈ d.weights P ft, n ≤ reachBytes := by
  intro n hn
  apply h
  simp only [DataW.weights, hs]
  exact weights_each hf hd n hn
/-- A field that is a slice. -/
theorem cell_slice {α : Type} {d : Kd α} {t e : Nat} {Q : List α → Prop} (ho : Opens P (Kd.slice e d) t Q) {H : Type} {enc : TypeId × Value → H} {w : World} {base : Nat} {held : Bool} {n : Nat} {v : Value} {x : DataW H × List MemPlace}
    (h : DataW.trod enc P w base (fun _ => true) held n t [v] = some x) (hw : ∀ n ∈ x.1.weights P t, n ≤ reachBytes) :
    ∃ (A : Option Addr) (c : Nat) (xs : List α), v = .slice A xs.length c ∧ xs.length ≤ c ∧ d.C w A xs.length xs ∧ Q xs := by
  obtain ⟨xs, ⟨A, c, hcs, hle, hC⟩, hq⟩ := ho h hw
  exact ⟨A, c, xs, (List.cons.inj hcs).1, hle, hC, hq⟩
theorem opens_struct4 {α β γ δ σ : Type} {a : Kd α} {b : Kd β} {c : Kd γ} {d : Kd δ} {f : σ → α × β × γ × δ} {t : TypeId} {f0 f1 f2 f3 : Field} {Qa : α → Prop} {Qb : β → Prop} {Qc : γ → Prop} {Qd : δ → Prop}
    (ht : P.underlying t = some (.struct #[f0, f1, f2, f3])) (hsz : P.cellsOf t = a.sz + b.sz + c.sz + d.sz) (o0 : f0.offset = 0) (o1 : f1.offset = a.sz) (o2 : f2.offset = a.sz + b.sz) (o3 : f3.offset = a.sz + b.sz + c.sz)
    (c0 : P.cellsOf f0.type = a.sz) (c1 : P.cellsOf f1.type = b.sz) (c2 : P.cellsOf f2.type = c.sz) (c3 : P.cellsOf f3.type = d.sz)
    (ha : Opens P a f0.type Qa) (hb : Opens P b f1.type Qb) (hc : Opens P c f2.type Qc) (hd : Opens P d f3.type Qd) (g : α → β → γ → δ → σ) (hg : ∀ x y z u, f (g x y z u) = (x, y, z, u)) :
    Opens P (Kd.iso (Kd.pair a (Kd.pair b (Kd.pair c d))) f) t (fun s => Qa (f s).1 ∧ Qb (f s).2.1 ∧ Qc (f s).2.2.1 ∧ Qd (f s).2.2.2) := by
  intro H enc w base held fuel cs x h hw
  obtain ⟨xs, n, _, rfl, hl, hlen, hf⟩ := DataW.trod_struct ht h
  match xs, hlen with
  | [y0, y1, y2, y3], _ =>
    have h0 := hf 0 f0 rfl
    have h1 := hf 1 f1 rfl
    have h2 := hf 2 f2 rfl
    have h3 := hf 3 f3 rfl
    simp only [List.getElem?_cons_zero, List.getElem?_cons_succ] at h0 h1 h2 h3
    have wp := fun j ft d => part_weights (P := P) (t := t) (parts := [y0.1, y1.1, y2.1, y3.1]) ht (by simpa using hw) (j := j) (ft := ft) (d := d)
    obtain ⟨v0, k0, q0⟩ := ha h0 (wp 0 _ _ rfl rfl)
    obtain ⟨v1, k1, q1⟩ := hb h1 (wp 1 _ _ rfl rfl)
    obtain ⟨v2, k2, q2⟩ := hc h2 (wp 2 _ _ rfl rfl)
    obtain ⟨v3, k3, q3⟩ := hd h3 (wp 3 _ _ rfl rfl)
    refine ⟨g v0 v1 v2 v3, ?_, by show Qa (f (g v0 v1 v2 v3)).1 ∧ Qb (f (g v0 v1 v2 v3)).2.1 ∧ Qc (f (g v0 v1 v2 v3)).2.2.1 ∧ Qd (f (g v0 v1 v2 v3)).2.2.2; rw [hg]; exact ⟨q0, q1, q2, q3⟩⟩
    show (Kd.pair a (Kd.pair b (Kd.pair c d))).K w (f (g v0 v1 v2 v3)) cs
    rw [hg]
    rw [o0, c0, List.drop_zero] at k0
    rw [o1, c1] at k1
    rw [o2, c2] at k2
    rw [o3, c3] at k3
    refine ⟨cs.take a.sz, cs.drop a.sz, (List.take_append_drop _ _).symm, k0, (cs.drop a.sz).take b.sz, (cs.drop a.sz).drop b.sz, (List.take_append_drop _ _).symm, k1, ((cs.drop a.sz).drop b.sz).take c.sz, ((cs.drop a.sz).drop b.sz).drop c.sz, (List.take_append_drop _ _).symm, ?_, ?_⟩
    · rw [List.drop_drop]; exact k2
    · rw [List.drop_drop, List.drop_drop]
      have e : (cs.drop (a.sz + b.sz + c.sz)).take d.sz = cs.drop (a.sz + b.sz + c.sz) := List.take_of_length_le (by simp; omega)
      rw [e, Nat.add_assoc] at k3
      first | exact k3 | (rw [Nat.add_assoc]; exact k3) | (simpa [Nat.add_assoc] using k3)
end
end Go.Proofs.Ytfjpnmhbbfiaaaa.O
