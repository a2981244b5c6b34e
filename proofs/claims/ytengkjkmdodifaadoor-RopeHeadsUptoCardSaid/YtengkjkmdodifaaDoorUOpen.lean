/- Fields that are slices, with what the narrowed form's bound says of them: a list is no longer than its bulk. -/
import Derived.Test.YtengkjkmdodifaaDoorRows
import Derived.Test.YtengkjkmdodifaaDoorOpen
namespace Go.Proofs.YtengkjkmdodifaaDoor.O
open Go.ChangeShapes Go.WideShapes Go.Deep Go.Joins Go.Proofs.YtengkjkmdodifaaDoorW.PrintWords
set_option linter.unusedVariables false
theorem bulk_one {H : Type} (d : DataW H) : 1 ≤ Rows.uptoBulk d := by
  cases d with
  | lit l => cases l <;> simp [Rows.uptoBulk]
  | nil => simp [Rows.uptoBulk]
  | ptr d => simp [Rows.uptoBulk]
  | slice elems spare => simp [Rows.uptoBulk]
  | agg parts => simp [Rows.uptoBulk]
  | iface t d => simp [Rows.uptoBulk]
  | map entries => simp [Rows.uptoBulk]
  | held h => simp [Rows.uptoBulk]
theorem bulk_length {H : Type} : ∀ (l : List (DataW H)), l.length ≤ Rows.uptoBulkAll l
  | [] => by simp [Rows.uptoBulkAll]
  | x :: r => by
    have h1 := bulk_one x
    have h2 := bulk_length r
    simp only [Rows.uptoBulkAll, List.length_cons]; omega
theorem cell_slice_b {P : Program} {α : Type} {d : Kd α} {t e : Nat} {Q : List α → Prop} (ht : P.underlying t = some (.slice e)) (ho : Opens P (Kd.slice e d) t Q) {H : Type} {enc : TypeId × Value → H} {w : World} {base : Nat} {held : Bool} {n : Nat} {v : Value} {x : DataW H × List MemPlace}
    (h : DataW.trod enc P w base (fun _ => true) held n t [v] = some x) (hw : ∀ n ∈ x.1.weights P t, n ≤ reachBytes) :
    ∃ (A : Option Addr) (c : Nat) (xs : List α), v = .slice A xs.length c ∧ xs.length ≤ c ∧ d.C w A xs.length xs ∧ Q xs ∧ xs.length ≤ Rows.uptoBulk x.1 := by
  obtain ⟨A, c, xs, rfl, hle, hC, hq⟩ := cell_slice ho h hw
  refine ⟨A, c, xs, rfl, hle, hC, hq, ?_⟩
  rcases open_slice ht h with ⟨hcs, _⟩ | ⟨a, len, cap, m, n, D, Pl, hcs, hb, hl, hm, hmm, rfl, hx⟩
  · have : Value.slice A xs.length c = .slice none 0 0 := by simpa [Value.cells] using hcs
    have := (Value.slice.inj this).2.1
    omega
  · have : Value.slice A xs.length c = .slice (some a) len cap := by simpa [Value.cells] using hcs
    have h1 := (Value.slice.inj this).2.1
    simp only [Rows.uptoBulk]
    rw [h1]
    have h2 := fun l : List (DataW H) => bulk_length l
    refine Nat.le_trans ?_ (Nat.le_trans (Nat.le_add_right _ _) (Nat.le_add_right _ _))
    refine Nat.le_trans ?_ (h2 _)
    simp
theorem arg_slice_b {P : Program} {α : Type} {d : Kd α} {t e : Nat} {Q : List α → Prop} (ht : P.underlying t = some (.slice e)) (ho : Opens P (Kd.slice e d) t Q) {H : Type} {enc : TypeId × Value → H} {w : World} {base b0 : Nat} {held : Bool} {r : Reach} {v : Value} {D : DataW H} {ps : List MemPlace}
    (hv : Value.okWide P w r b0 t v) (h : DataW.Trod enc P w base (fun _ => true) held t v D ps) (hw : ∀ n ∈ D.weights P t, n ≤ reachBytes) :
    ∃ (A : Option Addr) (c : Nat) (xs : List α), v = .slice A xs.length c ∧ xs.length ≤ c ∧ d.C w A xs.length xs ∧ Q xs ∧ xs.length ≤ Rows.uptoBulk D := by
  obtain ⟨a, len, cap, rfl⟩ := okWide_slice ht hv
  obtain ⟨fuel, hf⟩ := h
  have hf' : DataW.trod enc P w base (fun _ => true) held fuel t [Value.slice a len cap] = some (D, ps) := by simpa [Value.cells] using hf
  exact cell_slice_b ht ho hf' hw
end Go.Proofs.YtengkjkmdodifaaDoor.O
