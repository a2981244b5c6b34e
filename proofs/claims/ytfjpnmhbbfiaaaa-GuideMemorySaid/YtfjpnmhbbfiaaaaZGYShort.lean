/- Short names for words of the walks: a file of a claim holds 300,000 bytes at most. No conditions. -/
import Derived.Test.YtfjpnmhbbfiaaaaZGYWWords
import Derived.Test.YtfjpnmhbbfiaaaaZGYWLast
import Derived.Test.YtfjpnmhbbfiaaaaZGYWMore
namespace Go.Proofs.Ytfjpnmhbbfiaaaa.P
open Go.RowKit Go.Proofs.YtfjpnmhbbfiaaaaW.PrintWords Go.Proofs.YtfjpnmhbbfiaaaaW.PrintLast Go.Proofs.YtfjpnmhbbfiaaaaW.PrintMore
set_option linter.unusedVariables false
theorem ya : type_of% @below_alloc := @below_alloc
theorem ye : type_of% @below_drew1 := @below_drew1
theorem ys : type_of% @below_set := @below_set
theorem yh : type_of% @Kd.R_drew := @Kd.R_drew
theorem yi : type_of% @Kd.C_alloc := @Kd.C_alloc
theorem yj : type_of% @Kd.C_drewN := @Kd.C_drewN
theorem yk : type_of% @Kd.C_drew := @Kd.C_drew
theorem yn : type_of% @below_step := @below_step
theorem yo : type_of% @Kd.R_lower := @Kd.R_lower
theorem yp : type_of% @Kd.R_below := @Kd.R_below
theorem yq : type_of% @blk_below := @blk_below
theorem yt : type_of% @blk_drew := @blk_drew
theorem yv : type_of% @blk_frozen := @blk_frozen
theorem yw : type_of% @blk_cell := @blk_cell
theorem yx : type_of% @blk_far := @blk_far
theorem yy : type_of% @blk_put := @blk_put
theorem y0.{u} : (type_of% @List.setIfInBounds_toArray.{u}) ∧ (type_of% @List.set_cons_zero.{u}) ∧ (type_of% @List.set_cons_succ.{u}) := ⟨@List.setIfInBounds_toArray.{u}, @List.set_cons_zero.{u}, @List.set_cons_succ.{u}⟩
abbrev o_ : Bool := false
abbrev i_ : Bool := true
theorem y1 : (type_of% @i64_w) ∧ (type_of% @i32_w) := ⟨@i64_w, @i32_w⟩
/-- One step of a world that keeps all that was. -/
class Nx (w : outParam Go.World) (w' : Go.World) : Prop where
  b : Below w.heap.size w w'
instance (w : Go.World) (o : Go.Obj) : Nx w (w.alloc o) := ⟨below_alloc (Below.refl _ _) o⟩
instance (w : Go.World) : Nx w w.drew := ⟨below_drew (Below.refl _ _)⟩
instance (w : Go.World) (m : Nat) : Nx w (w.drewN m) := ⟨pw_below_drewN (Below.refl _ _) m⟩
theorem y2 {α : Type} [Inhabited α] {d : Kd α} {e base : Nat} {ok : Nat → Prop} {v : Go.Value} {xs : List α} {w w' : Go.World} [h : Nx w w'] (H : Kd.R d e w base ok v xs) : Kd.R d e w' base ok v xs := Kd.R_below H h.b
theorem y3 {w W W' : Go.World} [h : Nx W W'] (H : Below w.heap.size w W) : Below w.heap.size w W' := below_step H h.b
theorem y4 {g : Nat} {o : Go.Obj} {w w' : Go.World} [h : Nx w w'] (H : w.heap[g]? = some o) : w'.heap[g]? = some o := blk_below H h.b
theorem ym {p : Prop} (h : p) : Aside0 p := ⟨h⟩
end Go.Proofs.Ytfjpnmhbbfiaaaa.P
