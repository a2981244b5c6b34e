-- Printed by xprint.py (wip): functions, contracts, rows. Lean checks it.
import Derived.Test.YtengkjkmdodifaaDoorPx0
import Derived.Test.YtengkjkmdodifaaDoorPx3
import Derived.Test.YtengkjkmdodifaaDoorPx5
namespace Go.Proofs.YtengkjkmdodifaaDoor.P
open Go.RowKit Go.Proofs.YtengkjkmdodifaaDoorW.PrintWords Go.Proofs.YtengkjkmdodifaaDoorW.PrintLast Go.Proofs.YtengkjkmdodifaaDoorW.PrintMore
attribute [local go_sem] max2_int min2_int max_two min_two max_three min_three max_four min_four   -- for this text's walks alone
set_option linter.unusedVariables false
set_option linter.unusedSimpArgs false

/-! ### rope_narrow: function 31 -/
def rope_narrow.f (a0 : Int) : Option (Int) := (fixed_Round.f a0 6).bind fun bt107 => ((fixed_Narrow.f bt107.1).bind fun t109 => (some t109))
set_option maxHeartbeats 8000000 in
set_option maxRecDepth 100000 in
theorem rope_narrow.calls (a0 : Int) (r : Int) (w : World) (h : rope_narrow.f a0 = some r) :
    Calls Tryd.prog 31 #[.int .i64 a0] w fun e w' => e = .returned (.int .i8 r) ∧ Drawn0 w w' := by
 have H : ((fixed_Round.f a0 6).bind fun bt107 => ((fixed_Narrow.f bt107.1).bind fun t109 => (some t109))) = some r := h
 clear h
 replace H := Option.bind_eq_some_iff.mp H
 obtain ⟨⟨t107, t108⟩, A20, H⟩ := H
 replace H : ((fixed_Narrow.f t107).bind fun t109 => (some t109)) = some r := H
 have A2 := ym A20
 clear A20
 replace H := Option.bind_eq_some_iff.mp H
 obtain ⟨t109, A30, H⟩ := H
 replace H : (some t109) = some r := H
 have A3 := ym A30
 clear A30
 obtain rfl := Option.some.inj H
 go_enter Tryd.func31, Tryd.ntmps31
 go_wp2_with (first | ((with_reducible refine gate_callee (f := 33) rfl ?_); refine goesL_ (some 7) rfl rfl Tryd.func33 (by kernel_rfl) rfl #[.int .i64 a0, .int .i64 6] rfl (by (try simp only [List.map_toArray, List.map_cons, List.map_nil]); first | done | rfl | (simp only [List.length_drop, List.length_take]; rfl)) ?_; (with_reducible refine (fixed_Round.calls a0 6 t107 t108 _ A2.out).mono ?_); rintro e w' ⟨rfl, ⟨nd, rfl⟩⟩; refine ⟨_, rfl, ?_⟩) | ((with_reducible refine gate_callee (f := 34) rfl ?_); refine goesL_ (some 11) rfl rfl Tryd.func34 (by kernel_rfl) rfl #[.int .i64 t107] rfl (by (try simp only [List.map_toArray, List.map_cons, List.map_nil]); first | done | rfl | (simp only [List.length_drop, List.length_take]; rfl)) ?_; (with_reducible refine (fixed_Narrow.calls t107 t109 _ A3.out).mono ?_); rintro e w' ⟨rfl, ⟨nd, rfl⟩⟩; refine ⟨_, rfl, ?_⟩))
 go_ret
 exact ⟨by first | rfl | (simp; done) | (simp [*]; done), by repeat (first | exact Drawn0.refl _ | apply Drawn0.step)⟩

end Go.Proofs.YtengkjkmdodifaaDoor.P
