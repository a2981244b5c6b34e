/- What stays where another block is written: by the types of the blocks alone; keys with their places as numbers. Each law names its conditions. -/
import Derived.Test.YtfjpnmhbbfiaaaaZGSMcls
namespace Go.Proofs.Ytfjpnmhbbfiaaaa.P
open Go Go.RowKit Go.Proofs.YtfjpnmhbbfiaaaaW.PrintWords Go.Proofs.YtfjpnmhbbfiaaaaW.PrintLast Go.Proofs.YtfjpnmhbbfiaaaaW.PrintMore Go.Proofs.Ytfjpnmhbbfiaaaa
set_option linter.unusedVariables false
set_option linter.unusedSimpArgs false
/-- The type of what a block holds; none: no cells of one's own. -/
def tgOf : Obj → Option Nat
  | .cells _ t (0, 0) => some t
  | _ => none
/-- The block that is written (if one is) holds what is of type T. -/
def RowT (W : World) (row : Option Nat) (T : Option Nat) : Prop := ∀ k, row = some k → ∃ ob, W.heap[k]? = some ob ∧ tgOf ob = T
theorem rowt_R {α : Type} {d : Kd α} {e base : Nat} {ok : Nat → Prop} {W : World} {v : Value} {xs : List α} (h : d.R e W base ok v xs) : RowT W v.ownBlock (some e) := fun k hk => by
  obtain ⟨cs, hc⟩ := Kd.R_typed h k hk
  exact ⟨_, hc, rfl⟩
theorem rowt_blk {W : World} {g t : Nat} {cs : Array Value} (h : W.heap[g]? = some (.cells cs t (0, 0))) : RowT W (some g) (some t) := fun k hk => by
  cases hk; exact ⟨_, h, rfl⟩
theorem kept_map {P : Program} {k e : TypeId} {w : World} {b : Nat} {f : List (Value × Int)} (h : Kept.Kept P k e w b f) : ∃ ob, w.heap[b]? = some ob ∧ tgOf ob = none := by
  obtain ⟨D, ho, _⟩ := h
  unfold World.ownsMap at ho
  obtain ⟨es, clock, hb, _⟩ := ho
  exact ⟨_, hb, rfl⟩
theorem rowt_map {P : Program} {k e : TypeId} {w : World} {b : Nat} {f : List (Value × Int)} (h : Kept.Kept P k e w b f) : RowT w (some b) none := fun k hk => by
  cases hk; exact kept_map h
theorem R_row {α : Type} {d : Kd α} {e base : Nat} {ok : Nat → Prop} {W W' : World} {v : Value} {xs : List α} {row T : Option Nat} (h : d.R e W base ok v xs) (hg : W.grownBy W' row) (hT : RowT W row T) (ht : ∀ q, q ∈ e :: d.E → T ≠ some q) : d.R e W' base ok v xs := by
  refine Kd.R_mono (Kd.R_move (Kd.R_bound h) (fun k hk => hg.block k hk.2.2.1 (fun he => ?_))) (fun _ hk => hk.1)
  obtain ⟨_, _, _, q, hq, cells, hc⟩ := hk
  obtain ⟨ob, h1, h2⟩ := hT k he.symm
  rw [hc] at h1
  cases h1
  exact ht q hq h2.symm
theorem blk_row {W W' : World} {g t : Nat} {cs : Array Value} {row T : Option Nat} (h : W.heap[g]? = some (.cells cs t (0, 0))) (hg : W.grownBy W' row) (hT : RowT W row T) (ht : T ≠ some t) : W'.heap[g]? = some (.cells cs t (0, 0)) :=
  blk_grown h hg fun he => by
    obtain ⟨ob, h1, h2⟩ := hT g he.symm
    rw [h] at h1
    cases h1
    exact ht h2.symm
theorem kept_row {P : Program} {k e : TypeId} {W W' : World} {b : Nat} {f : List (Value × Int)} {row T : Option Nat} (h : Kept.Kept P k e W b f) (hg : W.grownBy W' row) (hT : RowT W row T) (ht : T ≠ none) : Kept.Kept P k e W' b f :=
  h.kept hg fun he => by
    obtain ⟨ob, h1, h2⟩ := hT b he
    obtain ⟨ob', h3, h4⟩ := kept_map h
    rw [h1] at h3
    cases h3
    exact ht (h2.symm.trans h4)
theorem grown_set (W : World) (g i : Nat) (v : Value) : W.grownBy (W.setCell ⟨g, i, none⟩ v) (some g) :=
  ⟨rfl, rfl, rfl, by simp [World.setCell], fun q hq hr => Below.heap_setCell _ _ _ _ (fun e => hr (by rw [e]))⟩
/-! keys with their places -/
def nk (ks : List Value) : List (Value × Int) := ks.zipIdx.map fun p => (p.1, (p.2 : Int))
theorem nk_len (ks : List Value) : (nk ks).length = ks.length := by simp [nk]
theorem nk_mem {ks : List Value} {v : Value} {j : Int} : (v, j) ∈ nk ks ↔ ∃ n : Nat, j = (n : Int) ∧ ks[n]? = some v := by
  unfold nk
  rw [List.mem_map]
  constructor
  · rintro ⟨⟨k', n⟩, hm, he⟩
    injection he with h1 h2
    subst h1
    exact ⟨n, h2.symm, List.mem_zipIdx_iff_getElem?.1 hm⟩
  · rintro ⟨n, rfl, hn⟩
    exact ⟨(v, n), List.mem_zipIdx_iff_getElem?.2 hn, rfl⟩
theorem nk_snoc (ks : List Value) (k : Value) : nk (ks ++ [k]) = nk ks ++ [(k, (ks.length : Int))] := by
  unfold nk
  rw [List.zipIdx_append, List.map_append]
  simp
/-- The classes of a row of states. -/
def plk (cl : Int → Int) (o : List Int) : List Value := o.map fun s => Value.int .i64 (cl s)
theorem plk_len (cl : Int → Int) (o : List Int) : (plk cl o).length = o.length := by simp [plk]
theorem plk_snoc (cl : Int → Int) (o : List Int) (s : Int) : plk cl (o ++ [s]) = plk cl o ++ [.int .i64 (cl s)] := by simp [plk]
theorem plk_says {cl : Int → Int} {o : List Int} {t c : Int} {r : Bool} (h1 : r = true ↔ ∃ i, (Value.int .i64 t, i) ∈ nk (plk cl o)) (h2 : ∀ i, (Value.int .i64 t, i) ∈ nk (plk cl o) → c = i) :
    (r = true → c = (Mach.posOf cl t o : Int) ∧ Mach.posOf cl t o < o.length) ∧ (r = false → Mach.posOf cl t o = o.length ∧ ∀ i, (Value.int .i64 t, i) ∉ nk (plk cl o)) := by
  have hle := Mach.posOf_le cl t o
  have hin : Mach.posOf cl t o < o.length → (Value.int .i64 t, (Mach.posOf cl t o : Int)) ∈ nk (plk cl o) := fun hlt => by
    refine nk_mem.2 ⟨_, rfl, ?_⟩
    have h3 := Mach.posOf_at hlt
    rw [List.getD_eq_getElem?_getD, List.getElem?_eq_getElem hlt] at h3
    have h4 : cl o[Mach.posOf cl t o] = t := h3
    unfold plk
    rw [List.getElem?_map, List.getElem?_eq_getElem hlt, Option.map_some, h4]
  constructor
  · intro hr
    have hlt : Mach.posOf cl t o < o.length := by
      by_cases hlt : Mach.posOf cl t o < o.length
      · exact hlt
      · exfalso
        obtain ⟨i, hi⟩ := h1.1 hr
        obtain ⟨n, _, hn⟩ := nk_mem.1 hi
        unfold plk at hn
        rw [List.getElem?_map] at hn
        obtain ⟨s, hs, hs2⟩ := Option.map_eq_some_iff.1 hn
        injection hs2 with _ hs2
        exact Mach.posOf_no (by omega) s (List.mem_of_getElem? hs) hs2
    exact ⟨h2 _ (hin hlt), hlt⟩
  · intro hr
    have hno : ∀ i, (Value.int .i64 t, i) ∉ nk (plk cl o) := fun i hi => by
      have := h1.2 ⟨i, hi⟩
      rw [hr] at this; exact absurd this (by decide)
    refine ⟨?_, hno⟩
    by_cases hlt : Mach.posOf cl t o < o.length
    · exact absurd (hin hlt) (hno _)
    · omega
theorem keyed3 : Go.Maps.Keyed Try.prog 3 := Go.Maps.int_keyed Try.underlying3
theorem lit64 {x : Int} (h0 : -1 ≤ x) (h1 : x ≤ 140737488355328) : (Lit.int .i64 x).wf = true := by
  have e1 : IntKind.i64.min = -9223372036854775808 := rfl
  have e2 : IntKind.i64.max = 9223372036854775807 := rfl
  simp [Lit.wf, e1, e2]
  omega
theorem key3 {x : Int} (h0 : -1 ≤ x) (h1 : x ≤ 140737488355328) : keyOf Try.prog 3 (.int .i64 x) = some (.int .i64 x) := Go.Maps.keyOf_int_mk Try.underlying3 (lit64 h0 h1)
end Go.Proofs.Ytfjpnmhbbfiaaaa.P
