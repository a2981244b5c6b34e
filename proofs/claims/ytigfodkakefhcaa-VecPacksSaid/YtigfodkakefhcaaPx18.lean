-- Printed by xprint.py (wip): functions, contracts, rows. Lean checks it.
import Derived.Test.YtigfodkakefhcaaPx0
import Derived.Test.YtigfodkakefhcaaPx1
import Derived.Test.YtigfodkakefhcaaPx3
import Derived.Test.YtigfodkakefhcaaPx9
import Derived.Test.YtigfodkakefhcaaPx10
import Derived.Test.YtigfodkakefhcaaPx12
namespace Go.Proofs.Ytigfodkakefhcaa.P
open Go.RowKit Go.Proofs.YtigfodkakefhcaaW.PrintWords Go.Proofs.YtigfodkakefhcaaW.PrintLast Go.Proofs.YtigfodkakefhcaaW.PrintMore
attribute [local go_sem] max2_int min2_int max_two min_two max_three min_three max_four min_four   -- for this text's walks alone
set_option linter.unusedVariables false
set_option linter.unusedSimpArgs false

/-! ### heraldlaw08_VecPacks: function 8 -/
mutual
def heraldlaw08_VecPacks.j0 : Nat → Int → List Int → Bool → Int → Int → List Int → List Int → Int → Int → List Int → List Int → Option (Bool)
  | 0, _, _, _, _, _, _, _, _, _, _, _ => none
  | k + 1, x1, x5, x45, x435000, x435001, x435002, x435003, x445000, x445001, x445002, x445003 => if x45 = true then (some false) else (heraldlaw08_VecPacks.l0 k x1 x5 (x435003.length : Int) 0 x435000 x435001 x435002 x435003 x445000 x445001 x445002 x445003)
def heraldlaw08_VecPacks.l0 : Nat → Int → List Int → Int → Int → Int → Int → List Int → List Int → Int → Int → List Int → List Int → Option (Bool)
  | 0, _, _, _, _, _, _, _, _, _, _, _, _ => none
  | k + 1, x1, x5, x48, x49, x435000, x435001, x435002, x435003, x445000, x445001, x445002, x445003 => if x49 < x48 then (if 0 ≤ x49 then (if x49 < (x435003.length : Int) then (heraldlaw08_VecPacks.l0 k x1 x5 x48 (wrap64 (x49 + 1)) x435000 x435001 x435002 (x435003.set (x49 : Int).toNat 99) x445000 x445001 x445002 x445003) else (none)) else (none)) else (heraldlaw08_VecPacks.l1 k x1 x5 (x435002.length : Int) 0 x435000 x435001 x435002 x435003 x445000 x445001 x445002 x445003)
def heraldlaw08_VecPacks.l1 : Nat → Int → List Int → Int → Int → Int → Int → List Int → List Int → Int → Int → List Int → List Int → Option (Bool)
  | 0, _, _, _, _, _, _, _, _, _, _, _, _ => none
  | k + 1, x1, x5, x59, x60, x435000, x435001, x435002, x435003, x445000, x445001, x445002, x445003 => if x60 < x59 then (if 0 ≤ x60 then (if x60 < (x435002.length : Int) then (heraldlaw08_VecPacks.l1 k x1 x5 x59 (wrap64 (x60 + 1)) x435000 x435001 (x435002.set (x60 : Int).toNat 98) x435003 x445000 x445001 x445002 x445003) else (none)) else (none)) else ((vec_Pack.f k x5 x1).bind fun bt449 => ((heraldlaw08_packed.f bt449.1 bt449.2.1 bt449.2.2.1 bt449.2.2.2.1 x445000 x445001 x445002 x445003).bind fun t459 => (some t459)))
end
def heraldlaw08_VecPacks.f (k : Nat) (l0 : List Int) (a1 : Int) : Option (Bool) := (heraldlaw08_awake.f k).bind fun t418 => (if t418 = true then ((some (([] : List Int) : List Int)).bind fun y419 => (if y419.length + l0.length < 140737488355328 then ((some (y419 ++ l0 : List Int)).bind fun y422 => ((vec_Pack.f k y422 a1).bind fun bt425 => ((heraldref08_Pack.f k l0 a1).bind fun bt435 => ((heraldlaw08_packed.f bt425.1 bt425.2.1 bt425.2.2.1 bt425.2.2.2.1 bt435.1 bt435.2.1 bt435.2.2.1 bt435.2.2.2.1).bind fun t445 => (if t445 = true then (if bt425.2.2.2.2 = bt435.2.2.2.2 then ((heraldlaw08_same_int8.f k y422 l0).bind fun t446 => (heraldlaw08_VecPacks.j0 k a1 y422 (!t446) bt425.1 bt425.2.1 bt425.2.2.1 bt425.2.2.2.1 bt435.1 bt435.2.1 bt435.2.2.1 bt435.2.2.2.1)) else (heraldlaw08_VecPacks.j0 k a1 y422 true bt425.1 bt425.2.1 bt425.2.2.1 bt425.2.2.2.1 bt435.1 bt435.2.1 bt435.2.2.1 bt435.2.2.2.1)) else (heraldlaw08_VecPacks.j0 k a1 y422 true bt425.1 bt425.2.1 bt425.2.2.1 bt425.2.2.2.1 bt435.1 bt435.2.1 bt435.2.2.1 bt435.2.2.2.1)))))) else (none))) else (some false))
theorem heraldlaw08_VecPacks.mono_l : ∀ k, (∀ y0 y1 y2 y3 y4 y5 y6 y7 y8 y9 y10, LeO (heraldlaw08_VecPacks.j0 k y0 y1 y2 y3 y4 y5 y6 y7 y8 y9 y10) (heraldlaw08_VecPacks.j0 (k + 1) y0 y1 y2 y3 y4 y5 y6 y7 y8 y9 y10)) ∧ (∀ y0 y1 y2 y3 y4 y5 y6 y7 y8 y9 y10 y11, LeO (heraldlaw08_VecPacks.l0 k y0 y1 y2 y3 y4 y5 y6 y7 y8 y9 y10 y11) (heraldlaw08_VecPacks.l0 (k + 1) y0 y1 y2 y3 y4 y5 y6 y7 y8 y9 y10 y11)) ∧ (∀ y0 y1 y2 y3 y4 y5 y6 y7 y8 y9 y10 y11, LeO (heraldlaw08_VecPacks.l1 k y0 y1 y2 y3 y4 y5 y6 y7 y8 y9 y10 y11) (heraldlaw08_VecPacks.l1 (k + 1) y0 y1 y2 y3 y4 y5 y6 y7 y8 y9 y10 y11))
  | 0 => ⟨fun _ _ _ _ _ _ _ _ _ _ _ r h => by simp [heraldlaw08_VecPacks.j0] at h, fun _ _ _ _ _ _ _ _ _ _ _ _ r h => by simp [heraldlaw08_VecPacks.l0] at h, fun _ _ _ _ _ _ _ _ _ _ _ _ r h => by simp [heraldlaw08_VecPacks.l1] at h⟩
  | k + 1 => by
    obtain ⟨ih0, ih1, ih2⟩ := heraldlaw08_VecPacks.mono_l k
    refine ⟨?_, ?_, ?_⟩
    · intro y0 y1 y2 y3 y4 y5 y6 y7 y8 y9 y10
      unfold heraldlaw08_VecPacks.j0
      repeat' first
      | (with_reducible exact ih0 _ _ _ _ _ _ _ _ _ _ _)
      | (with_reducible exact ih1 _ _ _ _ _ _ _ _ _ _ _ _)
      | (with_reducible exact ih2 _ _ _ _ _ _ _ _ _ _ _ _)
      | (with_reducible exact heraldlaw08_awake.mono _)
      | (with_reducible exact heraldlaw08_same_int8.mono _ _ _)
      | (with_reducible exact heraldref08_Pack.mono _ _ _)
      | (with_reducible exact vec_Pack.mono _ _ _)
      | (with_reducible exact LeO.refl _)
      | (with_reducible exact LeO.none _)
      | (with_reducible refine LeO.ite ?_ ?_)
      | (with_reducible refine LeO.bind ?_ (fun _ => ?_))
      | exact ih0 _ _ _ _ _ _ _ _ _ _ _
      | exact ih1 _ _ _ _ _ _ _ _ _ _ _ _
      | exact ih2 _ _ _ _ _ _ _ _ _ _ _ _
      | exact heraldlaw08_awake.mono _
      | exact heraldlaw08_same_int8.mono _ _ _
      | exact heraldref08_Pack.mono _ _ _
      | exact vec_Pack.mono _ _ _
      | exact LeO.none _
      | refine LeO.ite ?_ ?_
      | refine LeO.bind ?_ (fun _ => ?_)
    · intro y0 y1 y2 y3 y4 y5 y6 y7 y8 y9 y10 y11
      unfold heraldlaw08_VecPacks.l0
      repeat' first
      | (with_reducible exact ih0 _ _ _ _ _ _ _ _ _ _ _)
      | (with_reducible exact ih1 _ _ _ _ _ _ _ _ _ _ _ _)
      | (with_reducible exact ih2 _ _ _ _ _ _ _ _ _ _ _ _)
      | (with_reducible exact heraldlaw08_awake.mono _)
      | (with_reducible exact heraldlaw08_same_int8.mono _ _ _)
      | (with_reducible exact heraldref08_Pack.mono _ _ _)
      | (with_reducible exact vec_Pack.mono _ _ _)
      | (with_reducible exact LeO.refl _)
      | (with_reducible exact LeO.none _)
      | (with_reducible refine LeO.ite ?_ ?_)
      | (with_reducible refine LeO.bind ?_ (fun _ => ?_))
      | exact ih0 _ _ _ _ _ _ _ _ _ _ _
      | exact ih1 _ _ _ _ _ _ _ _ _ _ _ _
      | exact ih2 _ _ _ _ _ _ _ _ _ _ _ _
      | exact heraldlaw08_awake.mono _
      | exact heraldlaw08_same_int8.mono _ _ _
      | exact heraldref08_Pack.mono _ _ _
      | exact vec_Pack.mono _ _ _
      | exact LeO.none _
      | refine LeO.ite ?_ ?_
      | refine LeO.bind ?_ (fun _ => ?_)
    · intro y0 y1 y2 y3 y4 y5 y6 y7 y8 y9 y10 y11
      unfold heraldlaw08_VecPacks.l1
      repeat' first
      | (with_reducible exact ih0 _ _ _ _ _ _ _ _ _ _ _)
      | (with_reducible exact ih1 _ _ _ _ _ _ _ _ _ _ _ _)
      | (with_reducible exact ih2 _ _ _ _ _ _ _ _ _ _ _ _)
      | (with_reducible exact heraldlaw08_awake.mono _)
      | (with_reducible exact heraldlaw08_same_int8.mono _ _ _)
      | (with_reducible exact heraldref08_Pack.mono _ _ _)
      | (with_reducible exact vec_Pack.mono _ _ _)
      | (with_reducible exact LeO.refl _)
      | (with_reducible exact LeO.none _)
      | (with_reducible refine LeO.ite ?_ ?_)
      | (with_reducible refine LeO.bind ?_ (fun _ => ?_))
      | exact ih0 _ _ _ _ _ _ _ _ _ _ _
      | exact ih1 _ _ _ _ _ _ _ _ _ _ _ _
      | exact ih2 _ _ _ _ _ _ _ _ _ _ _ _
      | exact heraldlaw08_awake.mono _
      | exact heraldlaw08_same_int8.mono _ _ _
      | exact heraldref08_Pack.mono _ _ _
      | exact vec_Pack.mono _ _ _
      | exact LeO.none _
      | refine LeO.ite ?_ ?_
      | refine LeO.bind ?_ (fun _ => ?_)
theorem heraldlaw08_VecPacks.mono : ∀ a0 a1 k, LeO (heraldlaw08_VecPacks.f k a0 a1) (heraldlaw08_VecPacks.f (k + 1) a0 a1) := by
  intro a0 a1 k
  obtain ⟨ih0, ih1, ih2⟩ := heraldlaw08_VecPacks.mono_l k
  unfold heraldlaw08_VecPacks.f
  repeat' first
      | (with_reducible exact ih0 _ _ _ _ _ _ _ _ _ _ _)
      | (with_reducible exact ih1 _ _ _ _ _ _ _ _ _ _ _ _)
      | (with_reducible exact ih2 _ _ _ _ _ _ _ _ _ _ _ _)
      | (with_reducible exact heraldlaw08_awake.mono _)
      | (with_reducible exact heraldlaw08_same_int8.mono _ _ _)
      | (with_reducible exact heraldref08_Pack.mono _ _ _)
      | (with_reducible exact vec_Pack.mono _ _ _)
      | (with_reducible exact LeO.refl _)
      | (with_reducible exact LeO.none _)
      | (with_reducible refine LeO.ite ?_ ?_)
      | (with_reducible refine LeO.bind ?_ (fun _ => ?_))
      | exact ih0 _ _ _ _ _ _ _ _ _ _ _
      | exact ih1 _ _ _ _ _ _ _ _ _ _ _ _
      | exact ih2 _ _ _ _ _ _ _ _ _ _ _ _
      | exact heraldlaw08_awake.mono _
      | exact heraldlaw08_same_int8.mono _ _ _
      | exact heraldref08_Pack.mono _ _ _
      | exact vec_Pack.mono _ _ _
      | exact LeO.none _
      | refine LeO.ite ?_ ?_
      | refine LeO.bind ?_ (fun _ => ?_)
set_option maxHeartbeats 8000000 in
set_option maxRecDepth 100000 in
theorem heraldlaw08_VecPacks.calls (k : Nat) (A0 : Option Addr) (c0 : Nat) (l0 : List Int) (a1 : Int) (r : Bool) (w : World) (hr0 : Kd.C (Kd.int .i8) w A0 l0.length l0) (hc0 : l0.length ≤ c0) (h : heraldlaw08_VecPacks.f k l0 a1 = some r) :
    Calls Try.prog 8 #[.slice A0 l0.length c0, .int .i64 a1] w fun e w' => e = .returned (.bool r) ∧ Below w.heap.size w w' := by
 have hu62 := Try.underlying62
 have hu63 := Try.underlying63
 have HR0 := Aside0.mk hr0
 have HC0 := Aside0.mk hc0
 clear hr0 hc0
 have HB := Aside0.mk (Below.refl w.heap.size w)
 have H : ((heraldlaw08_awake.f k).bind fun t418 => (if t418 = true then ((some (([] : List Int) : List Int)).bind fun y419 => (if y419.length + l0.length < 140737488355328 then ((some (y419 ++ l0 : List Int)).bind fun y422 => ((vec_Pack.f k y422 a1).bind fun bt425 => ((heraldref08_Pack.f k l0 a1).bind fun bt435 => ((heraldlaw08_packed.f bt425.1 bt425.2.1 bt425.2.2.1 bt425.2.2.2.1 bt435.1 bt435.2.1 bt435.2.2.1 bt435.2.2.2.1).bind fun t445 => (if t445 = true then (if bt425.2.2.2.2 = bt435.2.2.2.2 then ((heraldlaw08_same_int8.f k y422 l0).bind fun t446 => (heraldlaw08_VecPacks.j0 k a1 y422 (!t446) bt425.1 bt425.2.1 bt425.2.2.1 bt425.2.2.2.1 bt435.1 bt435.2.1 bt435.2.2.1 bt435.2.2.2.1)) else (heraldlaw08_VecPacks.j0 k a1 y422 true bt425.1 bt425.2.1 bt425.2.2.1 bt425.2.2.2.1 bt435.1 bt435.2.1 bt435.2.2.1 bt435.2.2.2.1)) else (heraldlaw08_VecPacks.j0 k a1 y422 true bt425.1 bt425.2.1 bt425.2.2.1 bt425.2.2.2.1 bt435.1 bt435.2.1 bt435.2.2.1 bt435.2.2.2.1)))))) else (none))) else (some false))) = some r := h
 clear h
 replace H := Option.bind_eq_some_iff.mp H
 obtain ⟨t418, A30, H⟩ := H
 replace H : (if t418 = true then ((some (([] : List Int) : List Int)).bind fun y419 => (if y419.length + l0.length < 140737488355328 then ((some (y419 ++ l0 : List Int)).bind fun y422 => ((vec_Pack.f k y422 a1).bind fun bt425 => ((heraldref08_Pack.f k l0 a1).bind fun bt435 => ((heraldlaw08_packed.f bt425.1 bt425.2.1 bt425.2.2.1 bt425.2.2.2.1 bt435.1 bt435.2.1 bt435.2.2.1 bt435.2.2.2.1).bind fun t445 => (if t445 = true then (if bt425.2.2.2.2 = bt435.2.2.2.2 then ((heraldlaw08_same_int8.f k y422 l0).bind fun t446 => (heraldlaw08_VecPacks.j0 k a1 y422 (!t446) bt425.1 bt425.2.1 bt425.2.2.1 bt425.2.2.2.1 bt435.1 bt435.2.1 bt435.2.2.1 bt435.2.2.2.1)) else (heraldlaw08_VecPacks.j0 k a1 y422 true bt425.1 bt425.2.1 bt425.2.2.1 bt425.2.2.2.1 bt435.1 bt435.2.1 bt435.2.2.1 bt435.2.2.2.1)) else (heraldlaw08_VecPacks.j0 k a1 y422 true bt425.1 bt425.2.1 bt425.2.2.1 bt425.2.2.2.1 bt435.1 bt435.2.1 bt435.2.2.1 bt435.2.2.2.1)))))) else (none))) else (some false)) = some r := H
 have A3 := Aside0.mk A30
 clear A30
 by_cases c4 : t418 = true
 ·
  subst c4
  have H1 : ((some (([] : List Int) : List Int)).bind fun y419 => (if y419.length + l0.length < 140737488355328 then ((some (y419 ++ l0 : List Int)).bind fun y422 => ((vec_Pack.f k y422 a1).bind fun bt425 => ((heraldref08_Pack.f k l0 a1).bind fun bt435 => ((heraldlaw08_packed.f bt425.1 bt425.2.1 bt425.2.2.1 bt425.2.2.2.1 bt435.1 bt435.2.1 bt435.2.2.1 bt435.2.2.2.1).bind fun t445 => (if t445 = true then (if bt425.2.2.2.2 = bt435.2.2.2.2 then ((heraldlaw08_same_int8.f k y422 l0).bind fun t446 => (heraldlaw08_VecPacks.j0 k a1 y422 (!t446) bt425.1 bt425.2.1 bt425.2.2.1 bt425.2.2.2.1 bt435.1 bt435.2.1 bt435.2.2.1 bt435.2.2.2.1)) else (heraldlaw08_VecPacks.j0 k a1 y422 true bt425.1 bt425.2.1 bt425.2.2.1 bt425.2.2.2.1 bt435.1 bt435.2.1 bt435.2.2.1 bt435.2.2.2.1)) else (heraldlaw08_VecPacks.j0 k a1 y422 true bt425.1 bt425.2.1 bt425.2.2.1 bt425.2.2.2.1 bt435.1 bt435.2.1 bt435.2.2.1 bt435.2.2.2.1)))))) else (none))) = some r := by rw [if_pos rfl] at H; exact H
  clear H
  have H := H1
  clear H1
  obtain ⟨y419, hy419⟩ : ∃ y_ : List Int, y_ = (([] : List Int)) := ⟨_, rfl⟩
  replace H : (if y419.length + l0.length < 140737488355328 then ((some (y419 ++ l0 : List Int)).bind fun y422 => ((vec_Pack.f k y422 a1).bind fun bt425 => ((heraldref08_Pack.f k l0 a1).bind fun bt435 => ((heraldlaw08_packed.f bt425.1 bt425.2.1 bt425.2.2.1 bt425.2.2.2.1 bt435.1 bt435.2.1 bt435.2.2.1 bt435.2.2.2.1).bind fun t445 => (if t445 = true then (if bt425.2.2.2.2 = bt435.2.2.2.2 then ((heraldlaw08_same_int8.f k y422 l0).bind fun t446 => (heraldlaw08_VecPacks.j0 k a1 y422 (!t446) bt425.1 bt425.2.1 bt425.2.2.1 bt425.2.2.2.1 bt435.1 bt435.2.1 bt435.2.2.1 bt435.2.2.2.1)) else (heraldlaw08_VecPacks.j0 k a1 y422 true bt425.1 bt425.2.1 bt425.2.2.1 bt425.2.2.2.1 bt435.1 bt435.2.1 bt435.2.2.1 bt435.2.2.2.1)) else (heraldlaw08_VecPacks.j0 k a1 y422 true bt425.1 bt425.2.1 bt425.2.2.1 bt425.2.2.2.1 bt435.1 bt435.2.1 bt435.2.2.1 bt435.2.2.2.1)))))) else (none)) = some r := by first | (rw [hy419]; with_reducible exact H) | (have H2_ := (Option.bind_some _ _).symm.trans H; rw [hy419]; with_reducible exact H2_) | (have H2_ := (Option.bind_some _ _).symm.trans H; with_reducible exact H2_) | with_reducible exact H | (rw [hy419]; exact H) | exact H
  have Ny419 := Aside0.mk hy419
  clear hy419
  by_cases c5 : y419.length + l0.length < 140737488355328
  ·
   rw [if_pos c5] at H
   have LMc5 := Aside0.mk c5
   clear c5
   obtain ⟨y422, hy422⟩ : ∃ y_ : List Int, y_ = (y419 ++ l0) := ⟨_, rfl⟩
   replace H : ((vec_Pack.f k y422 a1).bind fun bt425 => ((heraldref08_Pack.f k l0 a1).bind fun bt435 => ((heraldlaw08_packed.f bt425.1 bt425.2.1 bt425.2.2.1 bt425.2.2.2.1 bt435.1 bt435.2.1 bt435.2.2.1 bt435.2.2.2.1).bind fun t445 => (if t445 = true then (if bt425.2.2.2.2 = bt435.2.2.2.2 then ((heraldlaw08_same_int8.f k y422 l0).bind fun t446 => (heraldlaw08_VecPacks.j0 k a1 y422 (!t446) bt425.1 bt425.2.1 bt425.2.2.1 bt425.2.2.2.1 bt435.1 bt435.2.1 bt435.2.2.1 bt435.2.2.2.1)) else (heraldlaw08_VecPacks.j0 k a1 y422 true bt425.1 bt425.2.1 bt425.2.2.1 bt425.2.2.2.1 bt435.1 bt435.2.1 bt435.2.2.1 bt435.2.2.2.1)) else (heraldlaw08_VecPacks.j0 k a1 y422 true bt425.1 bt425.2.1 bt425.2.2.1 bt425.2.2.2.1 bt435.1 bt435.2.1 bt435.2.2.1 bt435.2.2.2.1))))) = some r := by first | (rw [hy422]; with_reducible exact H) | (have H2_ := (Option.bind_some _ _).symm.trans H; rw [hy422]; with_reducible exact H2_) | (have H2_ := (Option.bind_some _ _).symm.trans H; with_reducible exact H2_) | with_reducible exact H | (rw [hy422]; exact H) | exact H
   have Ny422 := Aside0.mk hy422
   clear hy422
   replace H := Option.bind_eq_some_iff.mp H
   obtain ⟨⟨t425, t426, t427, t430, t433⟩, A60, H⟩ := H
   replace H : ((heraldref08_Pack.f k l0 a1).bind fun bt435 => ((heraldlaw08_packed.f t425 t426 t427 t430 bt435.1 bt435.2.1 bt435.2.2.1 bt435.2.2.2.1).bind fun t445 => (if t445 = true then (if t433 = bt435.2.2.2.2 then ((heraldlaw08_same_int8.f k y422 l0).bind fun t446 => (heraldlaw08_VecPacks.j0 k a1 y422 (!t446) t425 t426 t427 t430 bt435.1 bt435.2.1 bt435.2.2.1 bt435.2.2.2.1)) else (heraldlaw08_VecPacks.j0 k a1 y422 true t425 t426 t427 t430 bt435.1 bt435.2.1 bt435.2.2.1 bt435.2.2.2.1)) else (heraldlaw08_VecPacks.j0 k a1 y422 true t425 t426 t427 t430 bt435.1 bt435.2.1 bt435.2.2.1 bt435.2.2.2.1)))) = some r := H
   have A6 := Aside0.mk A60
   clear A60
   replace H := Option.bind_eq_some_iff.mp H
   obtain ⟨⟨t435, t436, t437, t440, t443⟩, A70, H⟩ := H
   replace H : ((heraldlaw08_packed.f t425 t426 t427 t430 t435 t436 t437 t440).bind fun t445 => (if t445 = true then (if t433 = t443 then ((heraldlaw08_same_int8.f k y422 l0).bind fun t446 => (heraldlaw08_VecPacks.j0 k a1 y422 (!t446) t425 t426 t427 t430 t435 t436 t437 t440)) else (heraldlaw08_VecPacks.j0 k a1 y422 true t425 t426 t427 t430 t435 t436 t437 t440)) else (heraldlaw08_VecPacks.j0 k a1 y422 true t425 t426 t427 t430 t435 t436 t437 t440))) = some r := H
   have A7 := Aside0.mk A70
   clear A70
   have HC8 := Aside0.mk H
   clear H
   go_enter Try.func8, Try.ntmps8
   go_upto_region 6 with (first | ((with_reducible refine gate_callee (f := 13) rfl ?_); refine goesL_ (some 14) rfl rfl Try.func13 (by kernel_rfl) rfl #[] rfl (by (try simp only [List.map_toArray, List.map_cons, List.map_nil]); first | done | rfl | (simp only [List.length_drop, List.length_take]; rfl)) ?_; (with_reducible refine (heraldlaw08_awake.calls k  true _ A3.out).mono ?_); rintro e w9 ⟨rfl, hb⟩; refine ⟨_, rfl, ?_⟩; have n0_ := Aside0.mk (below_step (by repeat (first | (with_reducible first | exact HB.out | apply below_alloc | apply pw_below_drewN | apply below_drew1) | exact HB.out)) hb); clear HB; have HB := n0_; clear n0_; (try clear hb); (try clear hb2); (try clear hk); (try clear hi)) | ((with_reducible refine gate_dst (N := 16) rfl ?_); refine Kd.R_lit (Kd.int .i8) _ 42 ?hg (N := 16) ?hd (xs := ([] : List Int)) (inner := []) (ok := fun _ => True) (okp := fun _ => True) ?hr ?hp (fun _ hk => hk) trivial (Below.refl _ _) (Nat.le_refl _) (by simp) ?_; (case hd => rfl); (case hg => rfl); (case hr => first | (go_simp; done) | (go_simp; rfl)); (case hp => exact (Reps.none _ _)); intro v420 w10 ho11 hb hg_ hnew_; clear hg_ hnew_; (first | rw [← Ny419.out] at ho11 | (simp only [Int.reduceToNat] at ho11; rw [← Ny419.out] at ho11)); have n0_ := Aside0.mk (Kd.R_lower ho11 (below_size (by repeat (first | (with_reducible first | exact HB.out | apply below_alloc | apply pw_below_drewN | apply below_drew1) | exact HB.out)))); have n1_ := Aside0.mk (below_step (by repeat (first | (with_reducible first | exact HB.out | apply below_alloc | apply pw_below_drewN | apply below_drew1) | exact HB.out)) hb); clear HB; have HO421 := n0_; have HB := n1_; clear n0_ n1_; clear hb ho11) | ((with_reducible refine gate_builtin (b := .append) (xs := #[.tmp 16, .tmp 17]) rfl ?_); at_builtin; refine Kd.R_append_rows (Kd.int .i8) (w0 := w) w.heap.size rfl (.tmp 16) (.tmp 17) 22 42 (.int .i8 0) 1 rfl Try.underlying22 info42 rfl (by decide) (by omega) v420 y419 l0 _ _ _ (fun _ => True) (fun _ => False) rfl rfl ?aO ?aR (fun _ _ h => h) (fun _ h => h.elim) ?aF ?aB ?aS ?aL ?_; (case aR => repeat (first | exact (Kd.C_below HR0.out HB.out) | (with_reducible refine Kd.C_alloc ?_ _) | (with_reducible refine Kd.C_drewN ?_ _) | (with_reducible refine Kd.C_drew ?_))); (case aB => exact (by repeat (first | (with_reducible first | exact HB.out | apply below_alloc | apply pw_below_drewN | apply below_drew1) | exact HB.out))); (case aF => exact (fun _ _ => trivial)); (case aO => exact (by (with_reducible repeat (first | apply Kd.R_alloc | apply Kd.R_drewN | apply Kd.R_drew)); exact HO421.out)); (case aS => exact (below_size (by repeat (first | (with_reducible first | exact HB.out | apply below_alloc | apply pw_below_drewN | apply below_drew1) | exact HB.out)))); (case aL => have := LMc5.out; omega); intro v423 w12 ho hb hg hat; rw [← Ny422.out] at ho; have n0_ := Aside0.mk (hb); have n1_ := Aside0.mk (ho); clear HB; clear HO421; have HB := n0_; have HO424 := n1_; clear n0_ n1_; clear ho hb hg hat; obtain ⟨Ao13, co13, eo13⟩ := Kd.R_slice HO424.out; subst eo13) | ((with_reducible refine gate_callee (f := 34) rfl ?_); refine goesL_ (some 22) rfl rfl Try.func34 (by kernel_rfl) rfl #[.slice Ao13 y422.length co13, .int .i64 a1] rfl (by (try simp only [List.map_toArray, List.map_cons, List.map_nil]); first | done | rfl | (simp only [List.length_drop, List.length_take]; rfl)) ?_; (with_reducible refine (vec_Pack.calls k _ _ y422 a1 t425 t426 t427 t430 t433 _ ?side1 ?side2 A6.out).mono ?_); (case side1 => repeat (first | exact (Kd.R_reads' HO424.out).2.2 | (with_reducible refine Kd.C_alloc ?_ _) | (with_reducible refine Kd.C_drewN ?_ _) | (with_reducible refine Kd.C_drew ?_))); (case side2 => exact (Kd.R_reads' HO424.out).2.1); rintro e w14 ⟨v428, v431, rfl, ho0, ho1, hb⟩; refine ⟨_, rfl, ?_⟩; have n0_ := Aside0.mk (Kd.R_below (by (with_reducible repeat (first | apply Kd.R_alloc | apply Kd.R_drewN | apply Kd.R_drew)); exact HO424.out) hb); have n1_ := Aside0.mk (Kd.R_lower ho0 (below_size (by repeat (first | (with_reducible first | exact HB.out | apply below_alloc | apply pw_below_drewN | apply below_drew1) | exact HB.out)))); have n2_ := Aside0.mk (Kd.R_lower ho1 (below_size (by repeat (first | (with_reducible first | exact HB.out | apply below_alloc | apply pw_below_drewN | apply below_drew1) | exact HB.out)))); have n3_ := Aside0.mk (below_step (by repeat (first | (with_reducible first | exact HB.out | apply below_alloc | apply pw_below_drewN | apply below_drew1) | exact HB.out)) hb); clear HO424; clear HB; have HO424 := n0_; have HO429 := n1_; have HO432 := n2_; have HB := n3_; clear n0_ n1_ n2_ n3_; (try clear hb); (try clear hb2); (try clear hk); (try clear hi); (try clear ho0); (try clear ho1)) | ((with_reducible refine gate_dst (N := 6) rfl ?_); refine box_event ?hg (N := 6) ?hd (cs := #[.int .i64 0, .int .i64 0, .slice none 0 0, .slice none 0 0]) (t := 62) ?hr ?_; (case hd => rfl); (case hg => rfl); (case hr => first | (go_simp; done) | (go_simp; rfl)); intro gb434 hg w15 hbox hb; have n0_ := Aside0.mk (Kd.R_below (by (with_reducible repeat (first | apply Kd.R_alloc | apply Kd.R_drewN | apply Kd.R_drew)); exact HO424.out) hb); have n1_ := Aside0.mk (Kd.R_below (by (with_reducible repeat (first | apply Kd.R_alloc | apply Kd.R_drewN | apply Kd.R_drew)); exact HO429.out) hb); have n2_ := Aside0.mk (Kd.R_below (by (with_reducible repeat (first | apply Kd.R_alloc | apply Kd.R_drewN | apply Kd.R_drew)); exact HO432.out) hb); have n3_ := Aside0.mk (below_step (by repeat (first | (with_reducible first | exact HB.out | apply below_alloc | apply pw_below_drewN | apply below_drew1) | exact HB.out)) hb); have n4_ := Aside0.mk (hbox); have n5_ := Aside0.mk ((by rw [hg]; exact (below_size (by repeat (first | (with_reducible first | exact HB.out | apply below_alloc | apply pw_below_drewN | apply below_drew1) | exact HB.out))) : w.heap.size ≤ gb434)); have n6_ := Aside0.mk ((by rw [hg]; exact (below_size (by repeat (first | (with_reducible first | exact HB.out | apply below_alloc | apply pw_below_drewN | apply below_drew1) | exact HB.out))) : w.heap.size ≤ gb434)); clear HO424; clear HO429; clear HO432; clear HB; have HO424 := n0_; have HO429 := n1_; have HO432 := n2_; have HB := n3_; have BK434 := n4_; have GW434 := n5_; have GE434 := n6_; clear n0_ n1_ n2_ n3_ n4_ n5_ n6_; clear hb hbox hg; have hcz16_0 : w15.cell? ⟨gb434, 0, none⟩ = some (.int .i64 0) := (blk_cell BK434.out 0).trans rfl; have hcz16_1 : w15.cell? ⟨gb434, 1, none⟩ = some (.int .i64 0) := (blk_cell BK434.out 1).trans rfl; have hcz16_2 : w15.cell? ⟨gb434, 2, none⟩ = some (.slice none 0 0) := (blk_cell BK434.out 2).trans rfl; have hcz16_3 : w15.cell? ⟨gb434, 3, none⟩ = some (.slice none 0 0) := (blk_cell BK434.out 3).trans rfl; have hfz16_0 := blk_frozen BK434.out 0; have hfz16_1 := blk_frozen BK434.out 1; have hfz16_2 := blk_frozen BK434.out 2; have hfz16_3 := blk_frozen BK434.out 3; obtain ⟨Ao17, co17, eo17⟩ := Kd.R_slice HO429.out; subst eo17; obtain ⟨Ao18, co18, eo18⟩ := Kd.R_slice HO432.out; subst eo18) | ((with_reducible refine gate_callee (f := 35) rfl ?_); refine goesL_ (some 28) rfl rfl Try.func35 (by kernel_rfl) rfl #[.slice A0 l0.length c0, .int .i64 a1] rfl (by (try simp only [List.map_toArray, List.map_cons, List.map_nil]); first | done | rfl | (simp only [List.length_drop, List.length_take]; rfl)) ?_; (with_reducible refine (heraldref08_Pack.calls k _ _ l0 a1 t435 t436 t437 t440 t443 _ ?side1 ?side2 A7.out).mono ?_); (case side1 => exact Kd.C_below HR0.out (by repeat (first | (with_reducible first | exact HB.out | apply below_alloc | apply pw_below_drewN | apply below_drew1 | refine below_set ?_ GE434.out) | exact HB.out))); (case side2 => exact HC0.out); rintro e w19 ⟨v438, v441, rfl, ho0, ho1, hb⟩; refine ⟨_, rfl, ?_⟩; have n0_ := Aside0.mk (Kd.R_below (by (with_reducible repeat (first | apply Kd.R_alloc | apply Kd.R_drewN | apply Kd.R_drew)); exact (Kd.R_mono (Kd.R_far (p := ⟨gb434, 3, none⟩) (Kd.R_far (p := ⟨gb434, 2, none⟩) (Kd.R_far (p := ⟨gb434, 1, none⟩) (Kd.R_far (p := ⟨gb434, 0, none⟩) (Kd.R_types HO424.out BK434.out (by decide)) (fun _ hk => hk.2) (.int .i64 t425)) (fun _ hk => hk.2) (.int .i64 t426)) (fun _ hk => hk.2) (.slice Ao17 t427.length co17)) (fun _ hk => hk.2) (.slice Ao18 t430.length co18)) (fun _ h_ => h_.1))) hb); have n1_ := Aside0.mk (Kd.R_mono (Kd.R_told (Kd.R_told (Kd.R_old (by (with_reducible repeat (first | apply Kd.R_alloc | apply Kd.R_drewN | apply Kd.R_drew)); exact (Kd.R_mono (Kd.R_far (p := ⟨gb434, 3, none⟩) (Kd.R_far (p := ⟨gb434, 2, none⟩) (Kd.R_far (p := ⟨gb434, 1, none⟩) (Kd.R_far (p := ⟨gb434, 0, none⟩) (Kd.R_types HO429.out BK434.out (by decide)) (fun _ hk => hk.2) (.int .i64 t425)) (fun _ hk => hk.2) (.int .i64 t426)) (fun _ hk => hk.2) (.slice Ao17 t427.length co17)) (fun _ hk => hk.2) (.slice Ao18 t430.length co18)) (fun _ h_ => h_.1))) hb) (Kd.R_base ho0)) (Kd.R_base ho1)) (fun _ h_ => h_.1)); have n2_ := Aside0.mk (Kd.R_mono (Kd.R_told (Kd.R_told (Kd.R_old (by (with_reducible repeat (first | apply Kd.R_alloc | apply Kd.R_drewN | apply Kd.R_drew)); exact (Kd.R_mono (Kd.R_far (p := ⟨gb434, 3, none⟩) (Kd.R_far (p := ⟨gb434, 2, none⟩) (Kd.R_far (p := ⟨gb434, 1, none⟩) (Kd.R_far (p := ⟨gb434, 0, none⟩) (Kd.R_types HO432.out BK434.out (by decide)) (fun _ hk => hk.2) (.int .i64 t425)) (fun _ hk => hk.2) (.int .i64 t426)) (fun _ hk => hk.2) (.slice Ao17 t427.length co17)) (fun _ hk => hk.2) (.slice Ao18 t430.length co18)) (fun _ h_ => h_.1))) hb) (Kd.R_base ho0)) (Kd.R_base ho1)) (fun _ h_ => h_.1)); have n3_ := Aside0.mk (Kd.R_lower (Kd.R_new' (Kd.R_new' ho0 (Kd.R_lt (by (with_reducible repeat (first | apply Kd.R_alloc | apply Kd.R_drewN | apply Kd.R_drew)); exact (Kd.R_mono (Kd.R_far (p := ⟨gb434, 3, none⟩) (Kd.R_far (p := ⟨gb434, 2, none⟩) (Kd.R_far (p := ⟨gb434, 1, none⟩) (Kd.R_far (p := ⟨gb434, 0, none⟩) (Kd.R_types HO429.out BK434.out (by decide)) (fun _ hk => hk.2) (.int .i64 t425)) (fun _ hk => hk.2) (.int .i64 t426)) (fun _ hk => hk.2) (.slice Ao17 t427.length co17)) (fun _ hk => hk.2) (.slice Ao18 t430.length co18)) (fun _ h_ => h_.1))))) (Kd.R_lt (by (with_reducible repeat (first | apply Kd.R_alloc | apply Kd.R_drewN | apply Kd.R_drew)); exact (Kd.R_mono (Kd.R_far (p := ⟨gb434, 3, none⟩) (Kd.R_far (p := ⟨gb434, 2, none⟩) (Kd.R_far (p := ⟨gb434, 1, none⟩) (Kd.R_far (p := ⟨gb434, 0, none⟩) (Kd.R_types HO432.out BK434.out (by decide)) (fun _ hk => hk.2) (.int .i64 t425)) (fun _ hk => hk.2) (.int .i64 t426)) (fun _ hk => hk.2) (.slice Ao17 t427.length co17)) (fun _ hk => hk.2) (.slice Ao18 t430.length co18)) (fun _ h_ => h_.1))))) (below_size (by repeat (first | (with_reducible first | exact HB.out | apply below_alloc | apply pw_below_drewN | apply below_drew1 | refine below_set ?_ GE434.out) | exact HB.out)))); have n4_ := Aside0.mk (Kd.R_lower (Kd.R_new' (Kd.R_new' ho1 (Kd.R_lt (by (with_reducible repeat (first | apply Kd.R_alloc | apply Kd.R_drewN | apply Kd.R_drew)); exact (Kd.R_mono (Kd.R_far (p := ⟨gb434, 3, none⟩) (Kd.R_far (p := ⟨gb434, 2, none⟩) (Kd.R_far (p := ⟨gb434, 1, none⟩) (Kd.R_far (p := ⟨gb434, 0, none⟩) (Kd.R_types HO429.out BK434.out (by decide)) (fun _ hk => hk.2) (.int .i64 t425)) (fun _ hk => hk.2) (.int .i64 t426)) (fun _ hk => hk.2) (.slice Ao17 t427.length co17)) (fun _ hk => hk.2) (.slice Ao18 t430.length co18)) (fun _ h_ => h_.1))))) (Kd.R_lt (by (with_reducible repeat (first | apply Kd.R_alloc | apply Kd.R_drewN | apply Kd.R_drew)); exact (Kd.R_mono (Kd.R_far (p := ⟨gb434, 3, none⟩) (Kd.R_far (p := ⟨gb434, 2, none⟩) (Kd.R_far (p := ⟨gb434, 1, none⟩) (Kd.R_far (p := ⟨gb434, 0, none⟩) (Kd.R_types HO432.out BK434.out (by decide)) (fun _ hk => hk.2) (.int .i64 t425)) (fun _ hk => hk.2) (.int .i64 t426)) (fun _ hk => hk.2) (.slice Ao17 t427.length co17)) (fun _ hk => hk.2) (.slice Ao18 t430.length co18)) (fun _ h_ => h_.1))))) (below_size (by repeat (first | (with_reducible first | exact HB.out | apply below_alloc | apply pw_below_drewN | apply below_drew1 | refine below_set ?_ GE434.out) | exact HB.out)))); have n5_ := Aside0.mk (blk_below (g := gb434) (o := .cells #[.int .i64 t425, .int .i64 t426, .slice Ao17 t427.length co17, .slice Ao18 t430.length co18] 62 (0, 0)) (by (with_reducible repeat (first | refine blk_drewN ?_ _ | refine blk_drew ?_ | refine blk_alloc ?_ _)); refine blk_put (cs := #[.int .i64 t425, .int .i64 t426, .slice Ao17 t427.length co17, .slice none 0 0]) ?_ 3 _ rfl; (with_reducible repeat (first | refine blk_drewN ?_ _ | refine blk_drew ?_ | refine blk_alloc ?_ _)); refine blk_put (cs := #[.int .i64 t425, .int .i64 t426, .slice none 0 0, .slice none 0 0]) ?_ 2 _ rfl; (with_reducible repeat (first | refine blk_drewN ?_ _ | refine blk_drew ?_ | refine blk_alloc ?_ _)); refine blk_put (cs := #[.int .i64 t425, .int .i64 0, .slice none 0 0, .slice none 0 0]) ?_ 1 _ rfl; (with_reducible repeat (first | refine blk_drewN ?_ _ | refine blk_drew ?_ | refine blk_alloc ?_ _)); refine blk_put (cs := #[.int .i64 0, .int .i64 0, .slice none 0 0, .slice none 0 0]) ?_ 0 _ rfl; (with_reducible repeat (first | refine blk_drewN ?_ _ | refine blk_drew ?_ | refine blk_alloc ?_ _)); exact BK434.out) hb); have n6_ := Aside0.mk (below_step (by repeat (first | (with_reducible first | exact HB.out | apply below_alloc | apply pw_below_drewN | apply below_drew1 | refine below_set ?_ GE434.out) | exact HB.out)) hb); clear HO424; clear HO429; clear HO432; clear BK434; clear HB; have HO424 := n0_; have HO429 := n1_; have HO432 := n2_; have HO439 := n3_; have HO442 := n4_; have BK434 := n5_; have HB := n6_; clear n0_ n1_ n2_ n3_ n4_ n5_ n6_; (try clear hb); (try clear hb2); (try clear hk); (try clear hi); (try clear ho0); (try clear ho1)) | ((with_reducible refine gate_dst (N := 8) rfl ?_); refine box_event ?hg (N := 8) ?hd (cs := #[.int .i64 0, .int .i64 0, .slice none 0 0, .slice none 0 0]) (t := 63) ?hr ?_; (case hd => rfl); (case hg => rfl); (case hr => first | (go_simp; done) | (go_simp; rfl)); intro gb444 hg w20 hbox hb; have n0_ := Aside0.mk (Kd.R_below (by (with_reducible repeat (first | apply Kd.R_alloc | apply Kd.R_drewN | apply Kd.R_drew)); exact HO424.out) hb); have n1_ := Aside0.mk (Kd.R_below (by (with_reducible repeat (first | apply Kd.R_alloc | apply Kd.R_drewN | apply Kd.R_drew)); exact HO429.out) hb); have n2_ := Aside0.mk (Kd.R_below (by (with_reducible repeat (first | apply Kd.R_alloc | apply Kd.R_drewN | apply Kd.R_drew)); exact HO432.out) hb); have n3_ := Aside0.mk (Kd.R_below (by (with_reducible repeat (first | apply Kd.R_alloc | apply Kd.R_drewN | apply Kd.R_drew)); exact HO439.out) hb); have n4_ := Aside0.mk (Kd.R_below (by (with_reducible repeat (first | apply Kd.R_alloc | apply Kd.R_drewN | apply Kd.R_drew)); exact HO442.out) hb); have n5_ := Aside0.mk (blk_below (g := gb434) (o := .cells #[.int .i64 t425, .int .i64 t426, .slice Ao17 t427.length co17, .slice Ao18 t430.length co18] 62 (0, 0)) (by (with_reducible repeat (first | refine blk_drewN ?_ _ | refine blk_drew ?_ | refine blk_alloc ?_ _)); exact BK434.out) hb); have n6_ := Aside0.mk (below_step (by repeat (first | (with_reducible first | exact HB.out | apply below_alloc | apply pw_below_drewN | apply below_drew1 | refine below_set ?_ GE434.out) | exact HB.out)) hb); have n7_ := Aside0.mk (hbox); have n8_ := Aside0.mk ((by rw [hg]; exact (below_size (by repeat (first | (with_reducible first | exact HB.out | apply below_alloc | apply pw_below_drewN | apply below_drew1 | refine below_set ?_ GE434.out) | exact HB.out))) : w.heap.size ≤ gb444)); have n9_ := Aside0.mk ((by rw [hg]; exact (below_size (by repeat (first | (with_reducible first | exact HB.out | apply below_alloc | apply pw_below_drewN | apply below_drew1 | refine below_set ?_ GE434.out) | exact HB.out))) : w.heap.size ≤ gb444)); have n10_ := Aside0.mk ((by rw [hg]; exact Nat.ne_of_lt (blk_lt (g := gb434) (o := .cells #[.int .i64 t425, .int .i64 t426, .slice Ao17 t427.length co17, .slice Ao18 t430.length co18] 62 (0, 0)) (by (with_reducible repeat (first | refine blk_drewN ?_ _ | refine blk_drew ?_ | refine blk_alloc ?_ _)); exact BK434.out)) : gb434 ≠ gb444)); have n11_ := Aside0.mk ((by rw [hg]; exact Nat.ne_of_gt (blk_lt (g := gb434) (o := .cells #[.int .i64 t425, .int .i64 t426, .slice Ao17 t427.length co17, .slice Ao18 t430.length co18] 62 (0, 0)) (by (with_reducible repeat (first | refine blk_drewN ?_ _ | refine blk_drew ?_ | refine blk_alloc ?_ _)); exact BK434.out)) : gb444 ≠ gb434)); clear HO424; clear HO429; clear HO432; clear HO439; clear HO442; clear BK434; clear HB; have HO424 := n0_; have HO429 := n1_; have HO432 := n2_; have HO439 := n3_; have HO442 := n4_; have BK434 := n5_; have HB := n6_; have BK444 := n7_; have GW444 := n8_; have GE444 := n9_; have NB434_444 := n10_; have NB444_434 := n11_; clear n0_ n1_ n2_ n3_ n4_ n5_ n6_ n7_ n8_ n9_ n10_ n11_; clear hb hbox hg; have hnb21 := NB444_434.out; have hnc21 := NB434_444.out; have hcz22_0 : w20.cell? ⟨gb444, 0, none⟩ = some (.int .i64 0) := (blk_cell BK444.out 0).trans rfl; have hcz22_1 : w20.cell? ⟨gb444, 1, none⟩ = some (.int .i64 0) := (blk_cell BK444.out 1).trans rfl; have hcz22_2 : w20.cell? ⟨gb444, 2, none⟩ = some (.slice none 0 0) := (blk_cell BK444.out 2).trans rfl; have hcz22_3 : w20.cell? ⟨gb444, 3, none⟩ = some (.slice none 0 0) := (blk_cell BK444.out 3).trans rfl; have hfz22_0 := blk_frozen BK444.out 0; have hfz22_1 := blk_frozen BK444.out 1; have hfz22_2 := blk_frozen BK444.out 2; have hfz22_3 := blk_frozen BK444.out 3; obtain ⟨Ao23, co23, eo23⟩ := Kd.R_slice HO439.out; subst eo23; obtain ⟨Ao24, co24, eo24⟩ := Kd.R_slice HO442.out; subst eo24))
   (try simp only [Act.put, List.setIfInBounds_toArray, List.set_cons_zero, List.set_cons_succ])
   go_cut [45] (fun v45 wc => ∃ (kq : Nat) (x45_7 : Bool), v45 = .bool x45_7 ∧ Aside0 (heraldlaw08_VecPacks.j0 kq a1 y422 x45_7 t425 t426 t427 t430 t435 t436 t437 t440 = some r) ∧ Aside0 (kq ≤ k) ∧ Aside0 (Kd.R (Kd.int .i8) 42 wc w.heap.size (fun _ => True) (.slice Ao13 y422.length co13) y422) ∧ Aside0 (Kd.R (Kd.int .u8) 5 wc w.heap.size (fun k_ => some k_ ≠ ((.slice Ao18 t430.length co18) : Value).ownBlock ∧ some k_ ≠ ((.slice Ao23 t437.length co23) : Value).ownBlock ∧ some k_ ≠ ((.slice Ao24 t440.length co24) : Value).ownBlock) (.slice Ao17 t427.length co17) t427) ∧ Aside0 (Kd.R (Kd.int .u8) 5 wc w.heap.size (fun k_ => some k_ ≠ ((.slice Ao17 t427.length co17) : Value).ownBlock ∧ some k_ ≠ ((.slice Ao23 t437.length co23) : Value).ownBlock ∧ some k_ ≠ ((.slice Ao24 t440.length co24) : Value).ownBlock) (.slice Ao18 t430.length co18) t430) ∧ Aside0 (Kd.R (Kd.int .u8) 5 wc w.heap.size (fun k_ => some k_ ≠ ((.slice Ao17 t427.length co17) : Value).ownBlock ∧ some k_ ≠ ((.slice Ao18 t430.length co18) : Value).ownBlock ∧ some k_ ≠ ((.slice Ao24 t440.length co24) : Value).ownBlock) (.slice Ao23 t437.length co23) t437) ∧ Aside0 (Kd.R (Kd.int .u8) 5 wc w.heap.size (fun k_ => some k_ ≠ ((.slice Ao17 t427.length co17) : Value).ownBlock ∧ some k_ ≠ ((.slice Ao18 t430.length co18) : Value).ownBlock ∧ some k_ ≠ ((.slice Ao23 t437.length co23) : Value).ownBlock) (.slice Ao24 t440.length co24) t440) ∧ Aside0 (wc.heap[gb434]? = some (.cells #[.int .i64 t425, .int .i64 t426, (.slice Ao17 t427.length co17), (.slice Ao18 t430.length co18)] 62 (0, 0))) ∧ Aside0 (wc.heap[gb444]? = some (.cells #[.int .i64 t435, .int .i64 t436, (.slice Ao23 t437.length co23), (.slice Ao24 t440.length co24)] 63 (0, 0))) ∧ Aside0 (Below w.heap.size w wc))
   case first =>
    have H := HC8.out
    clear HC8
    replace H := Option.bind_eq_some_iff.mp H
    obtain ⟨t445, A250, H⟩ := H
    replace H : (if t445 = true then (if t433 = t443 then ((heraldlaw08_same_int8.f k y422 l0).bind fun t446 => (heraldlaw08_VecPacks.j0 k a1 y422 (!t446) t425 t426 t427 t430 t435 t436 t437 t440)) else (heraldlaw08_VecPacks.j0 k a1 y422 true t425 t426 t427 t430 t435 t436 t437 t440)) else (heraldlaw08_VecPacks.j0 k a1 y422 true t425 t426 t427 t430 t435 t436 t437 t440)) = some r := H
    have A25 := Aside0.mk A250
    clear A250
    by_cases c26 : t445 = true
    ·
     subst c26
     have H1 : (if t433 = t443 then ((heraldlaw08_same_int8.f k y422 l0).bind fun t446 => (heraldlaw08_VecPacks.j0 k a1 y422 (!t446) t425 t426 t427 t430 t435 t436 t437 t440)) else (heraldlaw08_VecPacks.j0 k a1 y422 true t425 t426 t427 t430 t435 t436 t437 t440)) = some r := by rw [if_pos rfl] at H; exact H
     clear H
     have H := H1
     clear H1
     by_cases c27 : t433 = t443
     ·
      rw [if_pos c27] at H
      have c27b0 : (t433 == t443) = true := beq_iff_eq.mpr c27
      have c27b1 : (t433 != t443) = false := bne_eq_false_iff_eq.mpr c27
      clear c27
      (first | rw [c27b0] | (simp only [i64_w, i32_w]; rw [c27b0]) | skip)
      replace H := Option.bind_eq_some_iff.mp H
      obtain ⟨t446, A280, H⟩ := H
      replace H : (heraldlaw08_VecPacks.j0 k a1 y422 (!t446) t425 t426 t427 t430 t435 t436 t437 t440) = some r := H
      have A28 := Aside0.mk A280
      clear A280
      have H' := Aside0.mk H
      clear H
      have hnb29 := NB434_444.out
      have hnc29 := NB444_434.out
      have hcz30_0 : w20.cell? ⟨gb434, 0, none⟩ = some (.int .i64 t425) := (blk_cell BK434.out 0).trans rfl
      have hcz30_1 : w20.cell? ⟨gb434, 1, none⟩ = some (.int .i64 t426) := (blk_cell BK434.out 1).trans rfl
      have hcz30_2 : w20.cell? ⟨gb434, 2, none⟩ = some (.slice Ao17 t427.length co17) := (blk_cell BK434.out 2).trans rfl
      have hcz30_3 : w20.cell? ⟨gb434, 3, none⟩ = some (.slice Ao18 t430.length co18) := (blk_cell BK434.out 3).trans rfl
      have hfz30_0 := blk_frozen BK434.out 0
      have hfz30_1 := blk_frozen BK434.out 1
      have hfz30_2 := blk_frozen BK434.out 2
      have hfz30_3 := blk_frozen BK434.out 3
      have hcz31_0 : w20.cell? ⟨gb444, 0, none⟩ = some (.int .i64 0) := (blk_cell BK444.out 0).trans rfl
      have hcz31_1 : w20.cell? ⟨gb444, 1, none⟩ = some (.int .i64 0) := (blk_cell BK444.out 1).trans rfl
      have hcz31_2 : w20.cell? ⟨gb444, 2, none⟩ = some (.slice none 0 0) := (blk_cell BK444.out 2).trans rfl
      have hcz31_3 : w20.cell? ⟨gb444, 3, none⟩ = some (.slice none 0 0) := (blk_cell BK444.out 3).trans rfl
      have hfz31_0 := blk_frozen BK444.out 0
      have hfz31_1 := blk_frozen BK444.out 1
      have hfz31_2 := blk_frozen BK444.out 2
      have hfz31_3 := blk_frozen BK444.out 3
      go_wp2_with (first | ((with_reducible refine gate_callee (f := 33) rfl ?_); refine goesL_ (some 33) rfl rfl Try.func33 (by kernel_rfl) rfl #[.agg #[.int .i64 t425, .int .i64 t426, .slice Ao17 t427.length co17, .slice Ao18 t430.length co18], .agg #[.int .i64 t435, .int .i64 t436, .slice Ao23 t437.length co23, .slice Ao24 t440.length co24]] rfl (by (try simp only [List.map_toArray, List.map_cons, List.map_nil]); first | done | rfl | (simp only [List.length_drop, List.length_take]; rfl)) ?_; (with_reducible refine (heraldlaw08_packed.calls t425 t426 _ _ t427 _ _ t430 t435 t436 _ _ t437 _ _ t440 true _ ?side1 ?side2 ?side3 ?side4 ?side5 ?side6 ?side7 ?side8 A25.out).mono ?_); (case side1 => refine (Kd.R_reads' (e := 5) (base := w.heap.size) (ok := fun k_ => ((some k_ ≠ (.slice Ao18 t430.length co18 : Value).ownBlock ∧ some k_ ≠ (.slice Ao23 t437.length co23 : Value).ownBlock) ∧ some k_ ≠ (.slice Ao24 t440.length co24 : Value).ownBlock)) (n := t427.length) (c := co17) ?_).2.2; exact (by (with_reducible repeat (first | apply Kd.R_alloc | apply Kd.R_drewN | apply Kd.R_drew)); exact (Kd.R_mono (Kd.R_far (p := ⟨gb444, 3, none⟩) (Kd.R_far (p := ⟨gb444, 2, none⟩) (Kd.R_far (p := ⟨gb444, 1, none⟩) (Kd.R_far (p := ⟨gb444, 0, none⟩) (Kd.R_types HO429.out BK444.out (by decide)) (fun _ hk => hk.2) (.int .i64 t435)) (fun _ hk => hk.2) (.int .i64 t436)) (fun _ hk => hk.2) (.slice Ao23 t437.length co23)) (fun _ hk => hk.2) (.slice Ao24 t440.length co24)) (fun _ h_ => h_.1)))); (case side2 => exact (Kd.R_reads' HO429.out).2.1); (case side3 => refine (Kd.R_reads' (e := 5) (base := w.heap.size) (ok := fun k_ => ((some k_ ≠ (.slice Ao17 t427.length co17 : Value).ownBlock ∧ some k_ ≠ (.slice Ao23 t437.length co23 : Value).ownBlock) ∧ some k_ ≠ (.slice Ao24 t440.length co24 : Value).ownBlock)) (n := t430.length) (c := co18) ?_).2.2; exact (by (with_reducible repeat (first | apply Kd.R_alloc | apply Kd.R_drewN | apply Kd.R_drew)); exact (Kd.R_mono (Kd.R_far (p := ⟨gb444, 3, none⟩) (Kd.R_far (p := ⟨gb444, 2, none⟩) (Kd.R_far (p := ⟨gb444, 1, none⟩) (Kd.R_far (p := ⟨gb444, 0, none⟩) (Kd.R_types HO432.out BK444.out (by decide)) (fun _ hk => hk.2) (.int .i64 t435)) (fun _ hk => hk.2) (.int .i64 t436)) (fun _ hk => hk.2) (.slice Ao23 t437.length co23)) (fun _ hk => hk.2) (.slice Ao24 t440.length co24)) (fun _ h_ => h_.1)))); (case side4 => exact (Kd.R_reads' HO432.out).2.1); (case side5 => refine (Kd.R_reads' (e := 5) (base := w.heap.size) (ok := fun k_ => ((some k_ ≠ (.slice Ao24 t440.length co24 : Value).ownBlock ∧ some k_ ≠ (.slice Ao17 t427.length co17 : Value).ownBlock) ∧ some k_ ≠ (.slice Ao18 t430.length co18 : Value).ownBlock)) (n := t437.length) (c := co23) ?_).2.2; exact (by (with_reducible repeat (first | apply Kd.R_alloc | apply Kd.R_drewN | apply Kd.R_drew)); exact (Kd.R_mono (Kd.R_far (p := ⟨gb444, 3, none⟩) (Kd.R_far (p := ⟨gb444, 2, none⟩) (Kd.R_far (p := ⟨gb444, 1, none⟩) (Kd.R_far (p := ⟨gb444, 0, none⟩) (Kd.R_types HO439.out BK444.out (by decide)) (fun _ hk => hk.2) (.int .i64 t435)) (fun _ hk => hk.2) (.int .i64 t436)) (fun _ hk => hk.2) (.slice Ao23 t437.length co23)) (fun _ hk => hk.2) (.slice Ao24 t440.length co24)) (fun _ h_ => h_.1)))); (case side6 => exact (Kd.R_reads' HO439.out).2.1); (case side7 => refine (Kd.R_reads' (e := 5) (base := w.heap.size) (ok := fun k_ => ((some k_ ≠ (.slice Ao23 t437.length co23 : Value).ownBlock ∧ some k_ ≠ (.slice Ao17 t427.length co17 : Value).ownBlock) ∧ some k_ ≠ (.slice Ao18 t430.length co18 : Value).ownBlock)) (n := t440.length) (c := co24) ?_).2.2; exact (by (with_reducible repeat (first | apply Kd.R_alloc | apply Kd.R_drewN | apply Kd.R_drew)); exact (Kd.R_mono (Kd.R_far (p := ⟨gb444, 3, none⟩) (Kd.R_far (p := ⟨gb444, 2, none⟩) (Kd.R_far (p := ⟨gb444, 1, none⟩) (Kd.R_far (p := ⟨gb444, 0, none⟩) (Kd.R_types HO442.out BK444.out (by decide)) (fun _ hk => hk.2) (.int .i64 t435)) (fun _ hk => hk.2) (.int .i64 t436)) (fun _ hk => hk.2) (.slice Ao23 t437.length co23)) (fun _ hk => hk.2) (.slice Ao24 t440.length co24)) (fun _ h_ => h_.1)))); (case side8 => exact (Kd.R_reads' HO442.out).2.1); rintro e w32 ⟨rfl, hb⟩; refine ⟨_, rfl, ?_⟩; have n0_ := Aside0.mk (Kd.R_below (by (with_reducible repeat (first | apply Kd.R_alloc | apply Kd.R_drewN | apply Kd.R_drew)); exact (Kd.R_mono (Kd.R_far (p := ⟨gb444, 3, none⟩) (Kd.R_far (p := ⟨gb444, 2, none⟩) (Kd.R_far (p := ⟨gb444, 1, none⟩) (Kd.R_far (p := ⟨gb444, 0, none⟩) (Kd.R_types HO424.out BK444.out (by decide)) (fun _ hk => hk.2) (.int .i64 t435)) (fun _ hk => hk.2) (.int .i64 t436)) (fun _ hk => hk.2) (.slice Ao23 t437.length co23)) (fun _ hk => hk.2) (.slice Ao24 t440.length co24)) (fun _ h_ => h_.1))) hb); have n1_ := Aside0.mk (Kd.R_below (by (with_reducible repeat (first | apply Kd.R_alloc | apply Kd.R_drewN | apply Kd.R_drew)); exact (Kd.R_mono (Kd.R_far (p := ⟨gb444, 3, none⟩) (Kd.R_far (p := ⟨gb444, 2, none⟩) (Kd.R_far (p := ⟨gb444, 1, none⟩) (Kd.R_far (p := ⟨gb444, 0, none⟩) (Kd.R_types HO429.out BK444.out (by decide)) (fun _ hk => hk.2) (.int .i64 t435)) (fun _ hk => hk.2) (.int .i64 t436)) (fun _ hk => hk.2) (.slice Ao23 t437.length co23)) (fun _ hk => hk.2) (.slice Ao24 t440.length co24)) (fun _ h_ => h_.1))) hb); have n2_ := Aside0.mk (Kd.R_below (by (with_reducible repeat (first | apply Kd.R_alloc | apply Kd.R_drewN | apply Kd.R_drew)); exact (Kd.R_mono (Kd.R_far (p := ⟨gb444, 3, none⟩) (Kd.R_far (p := ⟨gb444, 2, none⟩) (Kd.R_far (p := ⟨gb444, 1, none⟩) (Kd.R_far (p := ⟨gb444, 0, none⟩) (Kd.R_types HO432.out BK444.out (by decide)) (fun _ hk => hk.2) (.int .i64 t435)) (fun _ hk => hk.2) (.int .i64 t436)) (fun _ hk => hk.2) (.slice Ao23 t437.length co23)) (fun _ hk => hk.2) (.slice Ao24 t440.length co24)) (fun _ h_ => h_.1))) hb); have n3_ := Aside0.mk (Kd.R_below (by (with_reducible repeat (first | apply Kd.R_alloc | apply Kd.R_drewN | apply Kd.R_drew)); exact (Kd.R_mono (Kd.R_far (p := ⟨gb444, 3, none⟩) (Kd.R_far (p := ⟨gb444, 2, none⟩) (Kd.R_far (p := ⟨gb444, 1, none⟩) (Kd.R_far (p := ⟨gb444, 0, none⟩) (Kd.R_types HO439.out BK444.out (by decide)) (fun _ hk => hk.2) (.int .i64 t435)) (fun _ hk => hk.2) (.int .i64 t436)) (fun _ hk => hk.2) (.slice Ao23 t437.length co23)) (fun _ hk => hk.2) (.slice Ao24 t440.length co24)) (fun _ h_ => h_.1))) hb); have n4_ := Aside0.mk (Kd.R_below (by (with_reducible repeat (first | apply Kd.R_alloc | apply Kd.R_drewN | apply Kd.R_drew)); exact (Kd.R_mono (Kd.R_far (p := ⟨gb444, 3, none⟩) (Kd.R_far (p := ⟨gb444, 2, none⟩) (Kd.R_far (p := ⟨gb444, 1, none⟩) (Kd.R_far (p := ⟨gb444, 0, none⟩) (Kd.R_types HO442.out BK444.out (by decide)) (fun _ hk => hk.2) (.int .i64 t435)) (fun _ hk => hk.2) (.int .i64 t436)) (fun _ hk => hk.2) (.slice Ao23 t437.length co23)) (fun _ hk => hk.2) (.slice Ao24 t440.length co24)) (fun _ h_ => h_.1))) hb); have n5_ := Aside0.mk (blk_below (g := gb434) (o := .cells #[.int .i64 t425, .int .i64 t426, .slice Ao17 t427.length co17, .slice Ao18 t430.length co18] 62 (0, 0)) (by (with_reducible repeat (first | refine blk_drewN ?_ _ | refine blk_drew ?_ | refine blk_alloc ?_ _)); refine blk_far ?_ NB434_444.out _; (with_reducible repeat (first | refine blk_drewN ?_ _ | refine blk_drew ?_ | refine blk_alloc ?_ _)); refine blk_far ?_ NB434_444.out _; (with_reducible repeat (first | refine blk_drewN ?_ _ | refine blk_drew ?_ | refine blk_alloc ?_ _)); refine blk_far ?_ NB434_444.out _; (with_reducible repeat (first | refine blk_drewN ?_ _ | refine blk_drew ?_ | refine blk_alloc ?_ _)); refine blk_far ?_ NB434_444.out _; (with_reducible repeat (first | refine blk_drewN ?_ _ | refine blk_drew ?_ | refine blk_alloc ?_ _)); exact BK434.out) hb); have n6_ := Aside0.mk (blk_below (g := gb444) (o := .cells #[.int .i64 t435, .int .i64 t436, .slice Ao23 t437.length co23, .slice Ao24 t440.length co24] 63 (0, 0)) (by (with_reducible repeat (first | refine blk_drewN ?_ _ | refine blk_drew ?_ | refine blk_alloc ?_ _)); refine blk_put (cs := #[.int .i64 t435, .int .i64 t436, .slice Ao23 t437.length co23, .slice none 0 0]) ?_ 3 _ rfl; (with_reducible repeat (first | refine blk_drewN ?_ _ | refine blk_drew ?_ | refine blk_alloc ?_ _)); refine blk_put (cs := #[.int .i64 t435, .int .i64 t436, .slice none 0 0, .slice none 0 0]) ?_ 2 _ rfl; (with_reducible repeat (first | refine blk_drewN ?_ _ | refine blk_drew ?_ | refine blk_alloc ?_ _)); refine blk_put (cs := #[.int .i64 t435, .int .i64 0, .slice none 0 0, .slice none 0 0]) ?_ 1 _ rfl; (with_reducible repeat (first | refine blk_drewN ?_ _ | refine blk_drew ?_ | refine blk_alloc ?_ _)); refine blk_put (cs := #[.int .i64 0, .int .i64 0, .slice none 0 0, .slice none 0 0]) ?_ 0 _ rfl; (with_reducible repeat (first | refine blk_drewN ?_ _ | refine blk_drew ?_ | refine blk_alloc ?_ _)); exact BK444.out) hb); have n7_ := Aside0.mk (below_step (by repeat (first | (with_reducible first | exact HB.out | apply below_alloc | apply pw_below_drewN | apply below_drew1 | refine below_set ?_ GE434.out | refine below_set ?_ GE444.out) | exact HB.out)) hb); clear HO424; clear HO429; clear HO432; clear HO439; clear HO442; clear BK434; clear BK444; clear HB; have HO424 := n0_; have HO429 := n1_; have HO432 := n2_; have HO439 := n3_; have HO442 := n4_; have BK434 := n5_; have BK444 := n6_; have HB := n7_; clear n0_ n1_ n2_ n3_ n4_ n5_ n6_ n7_; (try clear hb); (try clear hb2); (try clear hk); (try clear hi)) | (go_at_call 21; (with_reducible refine (heraldlaw08_same_int8.calls k _ _ y422 _ _ l0 t446 _ ?side1 ?side2 ?side3 ?side4 A28.out).mono ?_); (case side1 => repeat (first | exact (Kd.R_reads' HO424.out).2.2 | (with_reducible refine Kd.C_alloc ?_ _) | (with_reducible refine Kd.C_drewN ?_ _) | (with_reducible refine Kd.C_drew ?_))); (case side2 => exact (Kd.R_reads' HO424.out).2.1); (case side3 => repeat (first | exact (Kd.C_below HR0.out HB.out) | (with_reducible refine Kd.C_alloc ?_ _) | (with_reducible refine Kd.C_drewN ?_ _) | (with_reducible refine Kd.C_drew ?_))); (case side4 => exact HC0.out); rintro e w' ⟨rfl, ⟨nd, rfl⟩⟩))
      go_meet
      case rel => exact ⟨_, (!t446), (by first | rfl | (simp; done) | (simp [*]; done)), H', ⟨by first | omega | exact Nat.le_refl _⟩, ⟨by (with_reducible repeat (first | apply Kd.R_alloc | apply Kd.R_drewN | apply Kd.R_drew)); exact HO424.out⟩, ⟨by (with_reducible repeat (first | apply Kd.R_alloc | apply Kd.R_drewN | apply Kd.R_drew)); exact Kd.R_mono HO429.out (fun _ hk => ⟨hk.1.1, ⟨hk.1.2, hk.2⟩⟩)⟩, ⟨by (with_reducible repeat (first | apply Kd.R_alloc | apply Kd.R_drewN | apply Kd.R_drew)); exact Kd.R_mono HO432.out (fun _ hk => ⟨hk.1.1, ⟨hk.1.2, hk.2⟩⟩)⟩, ⟨by (with_reducible repeat (first | apply Kd.R_alloc | apply Kd.R_drewN | apply Kd.R_drew)); exact Kd.R_mono HO439.out (fun _ hk => ⟨hk.1.2, ⟨hk.2, hk.1.1⟩⟩)⟩, ⟨by (with_reducible repeat (first | apply Kd.R_alloc | apply Kd.R_drewN | apply Kd.R_drew)); exact Kd.R_mono HO442.out (fun _ hk => ⟨hk.1.2, ⟨hk.2, hk.1.1⟩⟩)⟩, ⟨by (with_reducible repeat (first | refine blk_drewN ?_ _ | refine blk_drew ?_ | refine blk_alloc ?_ _)); exact BK434.out⟩, ⟨by (with_reducible repeat (first | refine blk_drewN ?_ _ | refine blk_drew ?_ | refine blk_alloc ?_ _)); exact BK444.out⟩, ⟨by repeat (first | (with_reducible first | exact HB.out | apply below_alloc | apply pw_below_drewN | apply below_drew1 | refine below_set ?_ GE434.out | refine below_set ?_ GE444.out) | exact HB.out)⟩⟩
     ·
      rw [if_neg c27] at H
      have c27b0 : (t433 == t443) = false := beq_eq_false_iff_ne.mpr c27
      have c27b1 : (t433 != t443) = true := bne_iff_ne.mpr c27
      (first | rw [c27b0] | (simp only [i64_w, i32_w]; rw [c27b0]) | skip)
      have H' := Aside0.mk H
      clear H
      have hnb33 := NB434_444.out
      have hnc33 := NB444_434.out
      have hcz34_0 : w20.cell? ⟨gb434, 0, none⟩ = some (.int .i64 t425) := (blk_cell BK434.out 0).trans rfl
      have hcz34_1 : w20.cell? ⟨gb434, 1, none⟩ = some (.int .i64 t426) := (blk_cell BK434.out 1).trans rfl
      have hcz34_2 : w20.cell? ⟨gb434, 2, none⟩ = some (.slice Ao17 t427.length co17) := (blk_cell BK434.out 2).trans rfl
      have hcz34_3 : w20.cell? ⟨gb434, 3, none⟩ = some (.slice Ao18 t430.length co18) := (blk_cell BK434.out 3).trans rfl
      have hfz34_0 := blk_frozen BK434.out 0
      have hfz34_1 := blk_frozen BK434.out 1
      have hfz34_2 := blk_frozen BK434.out 2
      have hfz34_3 := blk_frozen BK434.out 3
      have hcz35_0 : w20.cell? ⟨gb444, 0, none⟩ = some (.int .i64 0) := (blk_cell BK444.out 0).trans rfl
      have hcz35_1 : w20.cell? ⟨gb444, 1, none⟩ = some (.int .i64 0) := (blk_cell BK444.out 1).trans rfl
      have hcz35_2 : w20.cell? ⟨gb444, 2, none⟩ = some (.slice none 0 0) := (blk_cell BK444.out 2).trans rfl
      have hcz35_3 : w20.cell? ⟨gb444, 3, none⟩ = some (.slice none 0 0) := (blk_cell BK444.out 3).trans rfl
      have hfz35_0 := blk_frozen BK444.out 0
      have hfz35_1 := blk_frozen BK444.out 1
      have hfz35_2 := blk_frozen BK444.out 2
      have hfz35_3 := blk_frozen BK444.out 3
      go_wp2_with (first | ((with_reducible refine gate_callee (f := 33) rfl ?_); refine goesL_ (some 33) rfl rfl Try.func33 (by kernel_rfl) rfl #[.agg #[.int .i64 t425, .int .i64 t426, .slice Ao17 t427.length co17, .slice Ao18 t430.length co18], .agg #[.int .i64 t435, .int .i64 t436, .slice Ao23 t437.length co23, .slice Ao24 t440.length co24]] rfl (by (try simp only [List.map_toArray, List.map_cons, List.map_nil]); first | done | rfl | (simp only [List.length_drop, List.length_take]; rfl)) ?_; (with_reducible refine (heraldlaw08_packed.calls t425 t426 _ _ t427 _ _ t430 t435 t436 _ _ t437 _ _ t440 true _ ?side1 ?side2 ?side3 ?side4 ?side5 ?side6 ?side7 ?side8 A25.out).mono ?_); (case side1 => refine (Kd.R_reads' (e := 5) (base := w.heap.size) (ok := fun k_ => ((some k_ ≠ (.slice Ao18 t430.length co18 : Value).ownBlock ∧ some k_ ≠ (.slice Ao23 t437.length co23 : Value).ownBlock) ∧ some k_ ≠ (.slice Ao24 t440.length co24 : Value).ownBlock)) (n := t427.length) (c := co17) ?_).2.2; exact (by (with_reducible repeat (first | apply Kd.R_alloc | apply Kd.R_drewN | apply Kd.R_drew)); exact (Kd.R_mono (Kd.R_far (p := ⟨gb444, 3, none⟩) (Kd.R_far (p := ⟨gb444, 2, none⟩) (Kd.R_far (p := ⟨gb444, 1, none⟩) (Kd.R_far (p := ⟨gb444, 0, none⟩) (Kd.R_types HO429.out BK444.out (by decide)) (fun _ hk => hk.2) (.int .i64 t435)) (fun _ hk => hk.2) (.int .i64 t436)) (fun _ hk => hk.2) (.slice Ao23 t437.length co23)) (fun _ hk => hk.2) (.slice Ao24 t440.length co24)) (fun _ h_ => h_.1)))); (case side2 => exact (Kd.R_reads' HO429.out).2.1); (case side3 => refine (Kd.R_reads' (e := 5) (base := w.heap.size) (ok := fun k_ => ((some k_ ≠ (.slice Ao17 t427.length co17 : Value).ownBlock ∧ some k_ ≠ (.slice Ao23 t437.length co23 : Value).ownBlock) ∧ some k_ ≠ (.slice Ao24 t440.length co24 : Value).ownBlock)) (n := t430.length) (c := co18) ?_).2.2; exact (by (with_reducible repeat (first | apply Kd.R_alloc | apply Kd.R_drewN | apply Kd.R_drew)); exact (Kd.R_mono (Kd.R_far (p := ⟨gb444, 3, none⟩) (Kd.R_far (p := ⟨gb444, 2, none⟩) (Kd.R_far (p := ⟨gb444, 1, none⟩) (Kd.R_far (p := ⟨gb444, 0, none⟩) (Kd.R_types HO432.out BK444.out (by decide)) (fun _ hk => hk.2) (.int .i64 t435)) (fun _ hk => hk.2) (.int .i64 t436)) (fun _ hk => hk.2) (.slice Ao23 t437.length co23)) (fun _ hk => hk.2) (.slice Ao24 t440.length co24)) (fun _ h_ => h_.1)))); (case side4 => exact (Kd.R_reads' HO432.out).2.1); (case side5 => refine (Kd.R_reads' (e := 5) (base := w.heap.size) (ok := fun k_ => ((some k_ ≠ (.slice Ao24 t440.length co24 : Value).ownBlock ∧ some k_ ≠ (.slice Ao17 t427.length co17 : Value).ownBlock) ∧ some k_ ≠ (.slice Ao18 t430.length co18 : Value).ownBlock)) (n := t437.length) (c := co23) ?_).2.2; exact (by (with_reducible repeat (first | apply Kd.R_alloc | apply Kd.R_drewN | apply Kd.R_drew)); exact (Kd.R_mono (Kd.R_far (p := ⟨gb444, 3, none⟩) (Kd.R_far (p := ⟨gb444, 2, none⟩) (Kd.R_far (p := ⟨gb444, 1, none⟩) (Kd.R_far (p := ⟨gb444, 0, none⟩) (Kd.R_types HO439.out BK444.out (by decide)) (fun _ hk => hk.2) (.int .i64 t435)) (fun _ hk => hk.2) (.int .i64 t436)) (fun _ hk => hk.2) (.slice Ao23 t437.length co23)) (fun _ hk => hk.2) (.slice Ao24 t440.length co24)) (fun _ h_ => h_.1)))); (case side6 => exact (Kd.R_reads' HO439.out).2.1); (case side7 => refine (Kd.R_reads' (e := 5) (base := w.heap.size) (ok := fun k_ => ((some k_ ≠ (.slice Ao23 t437.length co23 : Value).ownBlock ∧ some k_ ≠ (.slice Ao17 t427.length co17 : Value).ownBlock) ∧ some k_ ≠ (.slice Ao18 t430.length co18 : Value).ownBlock)) (n := t440.length) (c := co24) ?_).2.2; exact (by (with_reducible repeat (first | apply Kd.R_alloc | apply Kd.R_drewN | apply Kd.R_drew)); exact (Kd.R_mono (Kd.R_far (p := ⟨gb444, 3, none⟩) (Kd.R_far (p := ⟨gb444, 2, none⟩) (Kd.R_far (p := ⟨gb444, 1, none⟩) (Kd.R_far (p := ⟨gb444, 0, none⟩) (Kd.R_types HO442.out BK444.out (by decide)) (fun _ hk => hk.2) (.int .i64 t435)) (fun _ hk => hk.2) (.int .i64 t436)) (fun _ hk => hk.2) (.slice Ao23 t437.length co23)) (fun _ hk => hk.2) (.slice Ao24 t440.length co24)) (fun _ h_ => h_.1)))); (case side8 => exact (Kd.R_reads' HO442.out).2.1); rintro e w36 ⟨rfl, hb⟩; refine ⟨_, rfl, ?_⟩; have n0_ := Aside0.mk (Kd.R_below (by (with_reducible repeat (first | apply Kd.R_alloc | apply Kd.R_drewN | apply Kd.R_drew)); exact (Kd.R_mono (Kd.R_far (p := ⟨gb444, 3, none⟩) (Kd.R_far (p := ⟨gb444, 2, none⟩) (Kd.R_far (p := ⟨gb444, 1, none⟩) (Kd.R_far (p := ⟨gb444, 0, none⟩) (Kd.R_types HO424.out BK444.out (by decide)) (fun _ hk => hk.2) (.int .i64 t435)) (fun _ hk => hk.2) (.int .i64 t436)) (fun _ hk => hk.2) (.slice Ao23 t437.length co23)) (fun _ hk => hk.2) (.slice Ao24 t440.length co24)) (fun _ h_ => h_.1))) hb); have n1_ := Aside0.mk (Kd.R_below (by (with_reducible repeat (first | apply Kd.R_alloc | apply Kd.R_drewN | apply Kd.R_drew)); exact (Kd.R_mono (Kd.R_far (p := ⟨gb444, 3, none⟩) (Kd.R_far (p := ⟨gb444, 2, none⟩) (Kd.R_far (p := ⟨gb444, 1, none⟩) (Kd.R_far (p := ⟨gb444, 0, none⟩) (Kd.R_types HO429.out BK444.out (by decide)) (fun _ hk => hk.2) (.int .i64 t435)) (fun _ hk => hk.2) (.int .i64 t436)) (fun _ hk => hk.2) (.slice Ao23 t437.length co23)) (fun _ hk => hk.2) (.slice Ao24 t440.length co24)) (fun _ h_ => h_.1))) hb); have n2_ := Aside0.mk (Kd.R_below (by (with_reducible repeat (first | apply Kd.R_alloc | apply Kd.R_drewN | apply Kd.R_drew)); exact (Kd.R_mono (Kd.R_far (p := ⟨gb444, 3, none⟩) (Kd.R_far (p := ⟨gb444, 2, none⟩) (Kd.R_far (p := ⟨gb444, 1, none⟩) (Kd.R_far (p := ⟨gb444, 0, none⟩) (Kd.R_types HO432.out BK444.out (by decide)) (fun _ hk => hk.2) (.int .i64 t435)) (fun _ hk => hk.2) (.int .i64 t436)) (fun _ hk => hk.2) (.slice Ao23 t437.length co23)) (fun _ hk => hk.2) (.slice Ao24 t440.length co24)) (fun _ h_ => h_.1))) hb); have n3_ := Aside0.mk (Kd.R_below (by (with_reducible repeat (first | apply Kd.R_alloc | apply Kd.R_drewN | apply Kd.R_drew)); exact (Kd.R_mono (Kd.R_far (p := ⟨gb444, 3, none⟩) (Kd.R_far (p := ⟨gb444, 2, none⟩) (Kd.R_far (p := ⟨gb444, 1, none⟩) (Kd.R_far (p := ⟨gb444, 0, none⟩) (Kd.R_types HO439.out BK444.out (by decide)) (fun _ hk => hk.2) (.int .i64 t435)) (fun _ hk => hk.2) (.int .i64 t436)) (fun _ hk => hk.2) (.slice Ao23 t437.length co23)) (fun _ hk => hk.2) (.slice Ao24 t440.length co24)) (fun _ h_ => h_.1))) hb); have n4_ := Aside0.mk (Kd.R_below (by (with_reducible repeat (first | apply Kd.R_alloc | apply Kd.R_drewN | apply Kd.R_drew)); exact (Kd.R_mono (Kd.R_far (p := ⟨gb444, 3, none⟩) (Kd.R_far (p := ⟨gb444, 2, none⟩) (Kd.R_far (p := ⟨gb444, 1, none⟩) (Kd.R_far (p := ⟨gb444, 0, none⟩) (Kd.R_types HO442.out BK444.out (by decide)) (fun _ hk => hk.2) (.int .i64 t435)) (fun _ hk => hk.2) (.int .i64 t436)) (fun _ hk => hk.2) (.slice Ao23 t437.length co23)) (fun _ hk => hk.2) (.slice Ao24 t440.length co24)) (fun _ h_ => h_.1))) hb); have n5_ := Aside0.mk (blk_below (g := gb434) (o := .cells #[.int .i64 t425, .int .i64 t426, .slice Ao17 t427.length co17, .slice Ao18 t430.length co18] 62 (0, 0)) (by (with_reducible repeat (first | refine blk_drewN ?_ _ | refine blk_drew ?_ | refine blk_alloc ?_ _)); refine blk_far ?_ NB434_444.out _; (with_reducible repeat (first | refine blk_drewN ?_ _ | refine blk_drew ?_ | refine blk_alloc ?_ _)); refine blk_far ?_ NB434_444.out _; (with_reducible repeat (first | refine blk_drewN ?_ _ | refine blk_drew ?_ | refine blk_alloc ?_ _)); refine blk_far ?_ NB434_444.out _; (with_reducible repeat (first | refine blk_drewN ?_ _ | refine blk_drew ?_ | refine blk_alloc ?_ _)); refine blk_far ?_ NB434_444.out _; (with_reducible repeat (first | refine blk_drewN ?_ _ | refine blk_drew ?_ | refine blk_alloc ?_ _)); exact BK434.out) hb); have n6_ := Aside0.mk (blk_below (g := gb444) (o := .cells #[.int .i64 t435, .int .i64 t436, .slice Ao23 t437.length co23, .slice Ao24 t440.length co24] 63 (0, 0)) (by (with_reducible repeat (first | refine blk_drewN ?_ _ | refine blk_drew ?_ | refine blk_alloc ?_ _)); refine blk_put (cs := #[.int .i64 t435, .int .i64 t436, .slice Ao23 t437.length co23, .slice none 0 0]) ?_ 3 _ rfl; (with_reducible repeat (first | refine blk_drewN ?_ _ | refine blk_drew ?_ | refine blk_alloc ?_ _)); refine blk_put (cs := #[.int .i64 t435, .int .i64 t436, .slice none 0 0, .slice none 0 0]) ?_ 2 _ rfl; (with_reducible repeat (first | refine blk_drewN ?_ _ | refine blk_drew ?_ | refine blk_alloc ?_ _)); refine blk_put (cs := #[.int .i64 t435, .int .i64 0, .slice none 0 0, .slice none 0 0]) ?_ 1 _ rfl; (with_reducible repeat (first | refine blk_drewN ?_ _ | refine blk_drew ?_ | refine blk_alloc ?_ _)); refine blk_put (cs := #[.int .i64 0, .int .i64 0, .slice none 0 0, .slice none 0 0]) ?_ 0 _ rfl; (with_reducible repeat (first | refine blk_drewN ?_ _ | refine blk_drew ?_ | refine blk_alloc ?_ _)); exact BK444.out) hb); have n7_ := Aside0.mk (below_step (by repeat (first | (with_reducible first | exact HB.out | apply below_alloc | apply pw_below_drewN | apply below_drew1 | refine below_set ?_ GE434.out | refine below_set ?_ GE444.out) | exact HB.out)) hb); clear HO424; clear HO429; clear HO432; clear HO439; clear HO442; clear BK434; clear BK444; clear HB; have HO424 := n0_; have HO429 := n1_; have HO432 := n2_; have HO439 := n3_; have HO442 := n4_; have BK434 := n5_; have BK444 := n6_; have HB := n7_; clear n0_ n1_ n2_ n3_ n4_ n5_ n6_ n7_; (try clear hb); (try clear hb2); (try clear hk); (try clear hi)))
      go_meet
      case rel => exact ⟨_, (true), (by first | rfl | (simp; done) | (simp [*]; done)), H', ⟨by first | omega | exact Nat.le_refl _⟩, ⟨by (with_reducible repeat (first | apply Kd.R_alloc | apply Kd.R_drewN | apply Kd.R_drew)); exact HO424.out⟩, ⟨by (with_reducible repeat (first | apply Kd.R_alloc | apply Kd.R_drewN | apply Kd.R_drew)); exact Kd.R_mono HO429.out (fun _ hk => ⟨hk.1.1, ⟨hk.1.2, hk.2⟩⟩)⟩, ⟨by (with_reducible repeat (first | apply Kd.R_alloc | apply Kd.R_drewN | apply Kd.R_drew)); exact Kd.R_mono HO432.out (fun _ hk => ⟨hk.1.1, ⟨hk.1.2, hk.2⟩⟩)⟩, ⟨by (with_reducible repeat (first | apply Kd.R_alloc | apply Kd.R_drewN | apply Kd.R_drew)); exact Kd.R_mono HO439.out (fun _ hk => ⟨hk.1.2, ⟨hk.2, hk.1.1⟩⟩)⟩, ⟨by (with_reducible repeat (first | apply Kd.R_alloc | apply Kd.R_drewN | apply Kd.R_drew)); exact Kd.R_mono HO442.out (fun _ hk => ⟨hk.1.2, ⟨hk.2, hk.1.1⟩⟩)⟩, ⟨by (with_reducible repeat (first | refine blk_drewN ?_ _ | refine blk_drew ?_ | refine blk_alloc ?_ _)); exact BK434.out⟩, ⟨by (with_reducible repeat (first | refine blk_drewN ?_ _ | refine blk_drew ?_ | refine blk_alloc ?_ _)); exact BK444.out⟩, ⟨by repeat (first | (with_reducible first | exact HB.out | apply below_alloc | apply pw_below_drewN | apply below_drew1 | refine below_set ?_ GE434.out | refine below_set ?_ GE444.out) | exact HB.out)⟩⟩
    ·
     replace c26 := Bool.eq_false_iff.mpr c26
     subst c26
     have H1 : (heraldlaw08_VecPacks.j0 k a1 y422 true t425 t426 t427 t430 t435 t436 t437 t440) = some r := by rw [if_neg (show ¬ (false = true) by decide)] at H; exact H
     clear H
     have H := H1
     clear H1
     have H' := Aside0.mk H
     clear H
     have hnb37 := NB434_444.out
     have hnc37 := NB444_434.out
     have hcz38_0 : w20.cell? ⟨gb434, 0, none⟩ = some (.int .i64 t425) := (blk_cell BK434.out 0).trans rfl
     have hcz38_1 : w20.cell? ⟨gb434, 1, none⟩ = some (.int .i64 t426) := (blk_cell BK434.out 1).trans rfl
     have hcz38_2 : w20.cell? ⟨gb434, 2, none⟩ = some (.slice Ao17 t427.length co17) := (blk_cell BK434.out 2).trans rfl
     have hcz38_3 : w20.cell? ⟨gb434, 3, none⟩ = some (.slice Ao18 t430.length co18) := (blk_cell BK434.out 3).trans rfl
     have hfz38_0 := blk_frozen BK434.out 0
     have hfz38_1 := blk_frozen BK434.out 1
     have hfz38_2 := blk_frozen BK434.out 2
     have hfz38_3 := blk_frozen BK434.out 3
     have hcz39_0 : w20.cell? ⟨gb444, 0, none⟩ = some (.int .i64 0) := (blk_cell BK444.out 0).trans rfl
     have hcz39_1 : w20.cell? ⟨gb444, 1, none⟩ = some (.int .i64 0) := (blk_cell BK444.out 1).trans rfl
     have hcz39_2 : w20.cell? ⟨gb444, 2, none⟩ = some (.slice none 0 0) := (blk_cell BK444.out 2).trans rfl
     have hcz39_3 : w20.cell? ⟨gb444, 3, none⟩ = some (.slice none 0 0) := (blk_cell BK444.out 3).trans rfl
     have hfz39_0 := blk_frozen BK444.out 0
     have hfz39_1 := blk_frozen BK444.out 1
     have hfz39_2 := blk_frozen BK444.out 2
     have hfz39_3 := blk_frozen BK444.out 3
     go_wp2_with (first | ((with_reducible refine gate_callee (f := 33) rfl ?_); refine goesL_ (some 33) rfl rfl Try.func33 (by kernel_rfl) rfl #[.agg #[.int .i64 t425, .int .i64 t426, .slice Ao17 t427.length co17, .slice Ao18 t430.length co18], .agg #[.int .i64 t435, .int .i64 t436, .slice Ao23 t437.length co23, .slice Ao24 t440.length co24]] rfl (by (try simp only [List.map_toArray, List.map_cons, List.map_nil]); first | done | rfl | (simp only [List.length_drop, List.length_take]; rfl)) ?_; (with_reducible refine (heraldlaw08_packed.calls t425 t426 _ _ t427 _ _ t430 t435 t436 _ _ t437 _ _ t440 false _ ?side1 ?side2 ?side3 ?side4 ?side5 ?side6 ?side7 ?side8 A25.out).mono ?_); (case side1 => refine (Kd.R_reads' (e := 5) (base := w.heap.size) (ok := fun k_ => ((some k_ ≠ (.slice Ao18 t430.length co18 : Value).ownBlock ∧ some k_ ≠ (.slice Ao23 t437.length co23 : Value).ownBlock) ∧ some k_ ≠ (.slice Ao24 t440.length co24 : Value).ownBlock)) (n := t427.length) (c := co17) ?_).2.2; exact (by (with_reducible repeat (first | apply Kd.R_alloc | apply Kd.R_drewN | apply Kd.R_drew)); exact (Kd.R_mono (Kd.R_far (p := ⟨gb444, 3, none⟩) (Kd.R_far (p := ⟨gb444, 2, none⟩) (Kd.R_far (p := ⟨gb444, 1, none⟩) (Kd.R_far (p := ⟨gb444, 0, none⟩) (Kd.R_types HO429.out BK444.out (by decide)) (fun _ hk => hk.2) (.int .i64 t435)) (fun _ hk => hk.2) (.int .i64 t436)) (fun _ hk => hk.2) (.slice Ao23 t437.length co23)) (fun _ hk => hk.2) (.slice Ao24 t440.length co24)) (fun _ h_ => h_.1)))); (case side2 => exact (Kd.R_reads' HO429.out).2.1); (case side3 => refine (Kd.R_reads' (e := 5) (base := w.heap.size) (ok := fun k_ => ((some k_ ≠ (.slice Ao17 t427.length co17 : Value).ownBlock ∧ some k_ ≠ (.slice Ao23 t437.length co23 : Value).ownBlock) ∧ some k_ ≠ (.slice Ao24 t440.length co24 : Value).ownBlock)) (n := t430.length) (c := co18) ?_).2.2; exact (by (with_reducible repeat (first | apply Kd.R_alloc | apply Kd.R_drewN | apply Kd.R_drew)); exact (Kd.R_mono (Kd.R_far (p := ⟨gb444, 3, none⟩) (Kd.R_far (p := ⟨gb444, 2, none⟩) (Kd.R_far (p := ⟨gb444, 1, none⟩) (Kd.R_far (p := ⟨gb444, 0, none⟩) (Kd.R_types HO432.out BK444.out (by decide)) (fun _ hk => hk.2) (.int .i64 t435)) (fun _ hk => hk.2) (.int .i64 t436)) (fun _ hk => hk.2) (.slice Ao23 t437.length co23)) (fun _ hk => hk.2) (.slice Ao24 t440.length co24)) (fun _ h_ => h_.1)))); (case side4 => exact (Kd.R_reads' HO432.out).2.1); (case side5 => refine (Kd.R_reads' (e := 5) (base := w.heap.size) (ok := fun k_ => ((some k_ ≠ (.slice Ao24 t440.length co24 : Value).ownBlock ∧ some k_ ≠ (.slice Ao17 t427.length co17 : Value).ownBlock) ∧ some k_ ≠ (.slice Ao18 t430.length co18 : Value).ownBlock)) (n := t437.length) (c := co23) ?_).2.2; exact (by (with_reducible repeat (first | apply Kd.R_alloc | apply Kd.R_drewN | apply Kd.R_drew)); exact (Kd.R_mono (Kd.R_far (p := ⟨gb444, 3, none⟩) (Kd.R_far (p := ⟨gb444, 2, none⟩) (Kd.R_far (p := ⟨gb444, 1, none⟩) (Kd.R_far (p := ⟨gb444, 0, none⟩) (Kd.R_types HO439.out BK444.out (by decide)) (fun _ hk => hk.2) (.int .i64 t435)) (fun _ hk => hk.2) (.int .i64 t436)) (fun _ hk => hk.2) (.slice Ao23 t437.length co23)) (fun _ hk => hk.2) (.slice Ao24 t440.length co24)) (fun _ h_ => h_.1)))); (case side6 => exact (Kd.R_reads' HO439.out).2.1); (case side7 => refine (Kd.R_reads' (e := 5) (base := w.heap.size) (ok := fun k_ => ((some k_ ≠ (.slice Ao23 t437.length co23 : Value).ownBlock ∧ some k_ ≠ (.slice Ao17 t427.length co17 : Value).ownBlock) ∧ some k_ ≠ (.slice Ao18 t430.length co18 : Value).ownBlock)) (n := t440.length) (c := co24) ?_).2.2; exact (by (with_reducible repeat (first | apply Kd.R_alloc | apply Kd.R_drewN | apply Kd.R_drew)); exact (Kd.R_mono (Kd.R_far (p := ⟨gb444, 3, none⟩) (Kd.R_far (p := ⟨gb444, 2, none⟩) (Kd.R_far (p := ⟨gb444, 1, none⟩) (Kd.R_far (p := ⟨gb444, 0, none⟩) (Kd.R_types HO442.out BK444.out (by decide)) (fun _ hk => hk.2) (.int .i64 t435)) (fun _ hk => hk.2) (.int .i64 t436)) (fun _ hk => hk.2) (.slice Ao23 t437.length co23)) (fun _ hk => hk.2) (.slice Ao24 t440.length co24)) (fun _ h_ => h_.1)))); (case side8 => exact (Kd.R_reads' HO442.out).2.1); rintro e w40 ⟨rfl, hb⟩; refine ⟨_, rfl, ?_⟩; have n0_ := Aside0.mk (Kd.R_below (by (with_reducible repeat (first | apply Kd.R_alloc | apply Kd.R_drewN | apply Kd.R_drew)); exact (Kd.R_mono (Kd.R_far (p := ⟨gb444, 3, none⟩) (Kd.R_far (p := ⟨gb444, 2, none⟩) (Kd.R_far (p := ⟨gb444, 1, none⟩) (Kd.R_far (p := ⟨gb444, 0, none⟩) (Kd.R_types HO424.out BK444.out (by decide)) (fun _ hk => hk.2) (.int .i64 t435)) (fun _ hk => hk.2) (.int .i64 t436)) (fun _ hk => hk.2) (.slice Ao23 t437.length co23)) (fun _ hk => hk.2) (.slice Ao24 t440.length co24)) (fun _ h_ => h_.1))) hb); have n1_ := Aside0.mk (Kd.R_below (by (with_reducible repeat (first | apply Kd.R_alloc | apply Kd.R_drewN | apply Kd.R_drew)); exact (Kd.R_mono (Kd.R_far (p := ⟨gb444, 3, none⟩) (Kd.R_far (p := ⟨gb444, 2, none⟩) (Kd.R_far (p := ⟨gb444, 1, none⟩) (Kd.R_far (p := ⟨gb444, 0, none⟩) (Kd.R_types HO429.out BK444.out (by decide)) (fun _ hk => hk.2) (.int .i64 t435)) (fun _ hk => hk.2) (.int .i64 t436)) (fun _ hk => hk.2) (.slice Ao23 t437.length co23)) (fun _ hk => hk.2) (.slice Ao24 t440.length co24)) (fun _ h_ => h_.1))) hb); have n2_ := Aside0.mk (Kd.R_below (by (with_reducible repeat (first | apply Kd.R_alloc | apply Kd.R_drewN | apply Kd.R_drew)); exact (Kd.R_mono (Kd.R_far (p := ⟨gb444, 3, none⟩) (Kd.R_far (p := ⟨gb444, 2, none⟩) (Kd.R_far (p := ⟨gb444, 1, none⟩) (Kd.R_far (p := ⟨gb444, 0, none⟩) (Kd.R_types HO432.out BK444.out (by decide)) (fun _ hk => hk.2) (.int .i64 t435)) (fun _ hk => hk.2) (.int .i64 t436)) (fun _ hk => hk.2) (.slice Ao23 t437.length co23)) (fun _ hk => hk.2) (.slice Ao24 t440.length co24)) (fun _ h_ => h_.1))) hb); have n3_ := Aside0.mk (Kd.R_below (by (with_reducible repeat (first | apply Kd.R_alloc | apply Kd.R_drewN | apply Kd.R_drew)); exact (Kd.R_mono (Kd.R_far (p := ⟨gb444, 3, none⟩) (Kd.R_far (p := ⟨gb444, 2, none⟩) (Kd.R_far (p := ⟨gb444, 1, none⟩) (Kd.R_far (p := ⟨gb444, 0, none⟩) (Kd.R_types HO439.out BK444.out (by decide)) (fun _ hk => hk.2) (.int .i64 t435)) (fun _ hk => hk.2) (.int .i64 t436)) (fun _ hk => hk.2) (.slice Ao23 t437.length co23)) (fun _ hk => hk.2) (.slice Ao24 t440.length co24)) (fun _ h_ => h_.1))) hb); have n4_ := Aside0.mk (Kd.R_below (by (with_reducible repeat (first | apply Kd.R_alloc | apply Kd.R_drewN | apply Kd.R_drew)); exact (Kd.R_mono (Kd.R_far (p := ⟨gb444, 3, none⟩) (Kd.R_far (p := ⟨gb444, 2, none⟩) (Kd.R_far (p := ⟨gb444, 1, none⟩) (Kd.R_far (p := ⟨gb444, 0, none⟩) (Kd.R_types HO442.out BK444.out (by decide)) (fun _ hk => hk.2) (.int .i64 t435)) (fun _ hk => hk.2) (.int .i64 t436)) (fun _ hk => hk.2) (.slice Ao23 t437.length co23)) (fun _ hk => hk.2) (.slice Ao24 t440.length co24)) (fun _ h_ => h_.1))) hb); have n5_ := Aside0.mk (blk_below (g := gb434) (o := .cells #[.int .i64 t425, .int .i64 t426, .slice Ao17 t427.length co17, .slice Ao18 t430.length co18] 62 (0, 0)) (by (with_reducible repeat (first | refine blk_drewN ?_ _ | refine blk_drew ?_ | refine blk_alloc ?_ _)); refine blk_far ?_ NB434_444.out _; (with_reducible repeat (first | refine blk_drewN ?_ _ | refine blk_drew ?_ | refine blk_alloc ?_ _)); refine blk_far ?_ NB434_444.out _; (with_reducible repeat (first | refine blk_drewN ?_ _ | refine blk_drew ?_ | refine blk_alloc ?_ _)); refine blk_far ?_ NB434_444.out _; (with_reducible repeat (first | refine blk_drewN ?_ _ | refine blk_drew ?_ | refine blk_alloc ?_ _)); refine blk_far ?_ NB434_444.out _; (with_reducible repeat (first | refine blk_drewN ?_ _ | refine blk_drew ?_ | refine blk_alloc ?_ _)); exact BK434.out) hb); have n6_ := Aside0.mk (blk_below (g := gb444) (o := .cells #[.int .i64 t435, .int .i64 t436, .slice Ao23 t437.length co23, .slice Ao24 t440.length co24] 63 (0, 0)) (by (with_reducible repeat (first | refine blk_drewN ?_ _ | refine blk_drew ?_ | refine blk_alloc ?_ _)); refine blk_put (cs := #[.int .i64 t435, .int .i64 t436, .slice Ao23 t437.length co23, .slice none 0 0]) ?_ 3 _ rfl; (with_reducible repeat (first | refine blk_drewN ?_ _ | refine blk_drew ?_ | refine blk_alloc ?_ _)); refine blk_put (cs := #[.int .i64 t435, .int .i64 t436, .slice none 0 0, .slice none 0 0]) ?_ 2 _ rfl; (with_reducible repeat (first | refine blk_drewN ?_ _ | refine blk_drew ?_ | refine blk_alloc ?_ _)); refine blk_put (cs := #[.int .i64 t435, .int .i64 0, .slice none 0 0, .slice none 0 0]) ?_ 1 _ rfl; (with_reducible repeat (first | refine blk_drewN ?_ _ | refine blk_drew ?_ | refine blk_alloc ?_ _)); refine blk_put (cs := #[.int .i64 0, .int .i64 0, .slice none 0 0, .slice none 0 0]) ?_ 0 _ rfl; (with_reducible repeat (first | refine blk_drewN ?_ _ | refine blk_drew ?_ | refine blk_alloc ?_ _)); exact BK444.out) hb); have n7_ := Aside0.mk (below_step (by repeat (first | (with_reducible first | exact HB.out | apply below_alloc | apply pw_below_drewN | apply below_drew1 | refine below_set ?_ GE434.out | refine below_set ?_ GE444.out) | exact HB.out)) hb); clear HO424; clear HO429; clear HO432; clear HO439; clear HO442; clear BK434; clear BK444; clear HB; have HO424 := n0_; have HO429 := n1_; have HO432 := n2_; have HO439 := n3_; have HO442 := n4_; have BK434 := n5_; have BK444 := n6_; have HB := n7_; clear n0_ n1_ n2_ n3_ n4_ n5_ n6_ n7_; (try clear hb); (try clear hb2); (try clear hk); (try clear hi)))
     go_meet
     case rel => exact ⟨_, (true), (by first | rfl | (simp; done) | (simp [*]; done)), H', ⟨by first | omega | exact Nat.le_refl _⟩, ⟨by (with_reducible repeat (first | apply Kd.R_alloc | apply Kd.R_drewN | apply Kd.R_drew)); exact HO424.out⟩, ⟨by (with_reducible repeat (first | apply Kd.R_alloc | apply Kd.R_drewN | apply Kd.R_drew)); exact Kd.R_mono HO429.out (fun _ hk => ⟨hk.1.1, ⟨hk.1.2, hk.2⟩⟩)⟩, ⟨by (with_reducible repeat (first | apply Kd.R_alloc | apply Kd.R_drewN | apply Kd.R_drew)); exact Kd.R_mono HO432.out (fun _ hk => ⟨hk.1.1, ⟨hk.1.2, hk.2⟩⟩)⟩, ⟨by (with_reducible repeat (first | apply Kd.R_alloc | apply Kd.R_drewN | apply Kd.R_drew)); exact Kd.R_mono HO439.out (fun _ hk => ⟨hk.1.2, ⟨hk.2, hk.1.1⟩⟩)⟩, ⟨by (with_reducible repeat (first | apply Kd.R_alloc | apply Kd.R_drewN | apply Kd.R_drew)); exact Kd.R_mono HO442.out (fun _ hk => ⟨hk.1.2, ⟨hk.2, hk.1.1⟩⟩)⟩, ⟨by (with_reducible repeat (first | refine blk_drewN ?_ _ | refine blk_drew ?_ | refine blk_alloc ?_ _)); exact BK434.out⟩, ⟨by (with_reducible repeat (first | refine blk_drewN ?_ _ | refine blk_drew ?_ | refine blk_alloc ?_ _)); exact BK444.out⟩, ⟨by repeat (first | (with_reducible first | exact HB.out | apply below_alloc | apply pw_below_drewN | apply below_drew1 | refine below_set ?_ GE434.out | refine below_set ?_ GE444.out) | exact HB.out)⟩⟩
   case rest =>
    clear HC8
    try clear c1
    try clear c2
    try clear p2
    try clear c3
    try clear c4
    try clear c5
    try clear c8
    try clear c13
    try clear c21
    try clear c26
    try clear c27
    try clear c27b0
    try clear c27b1
    try clear c29
    try clear c33
    try clear c34
    try clear c35
    try clear c37
    try clear hcz16_0
    try clear hcz16_1
    try clear hcz16_2
    try clear hcz16_3
    try clear hcz22_0
    try clear hcz22_1
    try clear hcz22_2
    try clear hcz22_3
    try clear hcz30_0
    try clear hcz30_1
    try clear hcz30_2
    try clear hcz30_3
    try clear hcz31_0
    try clear hcz31_1
    try clear hcz31_2
    try clear hcz31_3
    try clear hcz34_0
    try clear hcz34_1
    try clear hcz34_2
    try clear hcz34_3
    try clear hcz35_0
    try clear hcz35_1
    try clear hcz35_2
    try clear hcz35_3
    try clear hcz38_0
    try clear hcz38_1
    try clear hcz38_2
    try clear hcz38_3
    try clear hcz39_0
    try clear hcz39_1
    try clear hcz39_2
    try clear hcz39_3
    try clear hfz16_0
    try clear hfz16_1
    try clear hfz16_2
    try clear hfz16_3
    try clear hfz22_0
    try clear hfz22_1
    try clear hfz22_2
    try clear hfz22_3
    try clear hfz30_0
    try clear hfz30_1
    try clear hfz30_2
    try clear hfz30_3
    try clear hfz31_0
    try clear hfz31_1
    try clear hfz31_2
    try clear hfz31_3
    try clear hfz34_0
    try clear hfz34_1
    try clear hfz34_2
    try clear hfz34_3
    try clear hfz35_0
    try clear hfz35_1
    try clear hfz35_2
    try clear hfz35_3
    try clear hfz38_0
    try clear hfz38_1
    try clear hfz38_2
    try clear hfz38_3
    try clear hfz39_0
    try clear hfz39_1
    try clear hfz39_2
    try clear hfz39_3
    obtain ⟨kq, x45_7, rfl, HA, HJ7, HO_5, HO_435002, HO_435003, HO_445002, HO_445003, BK434, BK444, HB⟩ := hcut
    cases kq with
    | zero => exact absurd HA.out (by simp [heraldlaw08_VecPacks.j0])
    | succ kj7 =>
     have H := HA.out
     clear HA
     simp only [heraldlaw08_VecPacks.j0] at H
     by_cases c41 : x45_7 = true
     ·
      subst c41
      have H1 : (some false) = some r := by rw [if_pos rfl] at H; exact H
      clear H
      have H := H1
      clear H1
      obtain rfl := Option.some.inj H
      go_wp2
      go_ret
      exact ⟨by first | rfl | (simp [errW_none, errW_some] <;> rfl) | (simp [*, errW_none, errW_some] <;> rfl), by repeat (first | (with_reducible first | exact HB.out | apply below_alloc | apply pw_below_drewN | apply below_drew1 | refine below_set ?_ GE434.out | refine below_set ?_ GE444.out) | exact HB.out)⟩
     ·
      replace c41 := Bool.eq_false_iff.mpr c41
      subst c41
      have H1 : (heraldlaw08_VecPacks.l0 kj7 a1 y422 (t430.length : Int) 0 t425 t426 t427 t430 t435 t436 t437 t440) = some r := by rw [if_neg (show ¬ (false = true) by decide)] at H; exact H
      clear H
      have H := H1
      clear H1
      have H' := Aside0.mk H
      clear H
      have hnb42 := NB434_444.out
      have hnc42 := NB444_434.out
      have hcz43_0 : wc.cell? ⟨gb434, 0, none⟩ = some (.int .i64 t425) := (blk_cell BK434.out 0).trans rfl
      have hcz43_1 : wc.cell? ⟨gb434, 1, none⟩ = some (.int .i64 t426) := (blk_cell BK434.out 1).trans rfl
      have hcz43_2 : wc.cell? ⟨gb434, 2, none⟩ = some (.slice Ao17 t427.length co17) := (blk_cell BK434.out 2).trans rfl
      have hcz43_3 : wc.cell? ⟨gb434, 3, none⟩ = some (.slice Ao18 t430.length co18) := (blk_cell BK434.out 3).trans rfl
      have hfz43_0 := blk_frozen BK434.out 0
      have hfz43_1 := blk_frozen BK434.out 1
      have hfz43_2 := blk_frozen BK434.out 2
      have hfz43_3 := blk_frozen BK434.out 3
      go_wp2
      go_loopg [49] kj7 (fun kq v49 w' => ∃ (x49_2 : Int) (x435002_2 : List Int) (x435003_2 : List Int) (x445002_2 : List Int) (x445003_2 : List Int) (u435002 : Value) (u435003 : Value) (u445002 : Value) (u445003 : Value), v49 = .int .i64 x49_2 ∧ Aside0 (heraldlaw08_VecPacks.l0 kq a1 y422 (t430.length : Int) x49_2 t425 t426 x435002_2 x435003_2 t435 t436 x445002_2 x445003_2 = some r) ∧ Aside0 (kq ≤ kj7) ∧ Aside0 (Kd.R (Kd.int .i8) 42 w' w.heap.size (fun _ => True) (.slice Ao13 y422.length co13) y422) ∧ Aside0 (Kd.R (Kd.int .u8) 5 w' w.heap.size (fun k_ => some k_ ≠ (u435003 : Value).ownBlock ∧ some k_ ≠ (u445002 : Value).ownBlock ∧ some k_ ≠ (u445003 : Value).ownBlock) u435002 x435002_2) ∧ Aside0 (Kd.R (Kd.int .u8) 5 w' w.heap.size (fun k_ => some k_ ≠ (u435002 : Value).ownBlock ∧ some k_ ≠ (u445002 : Value).ownBlock ∧ some k_ ≠ (u445003 : Value).ownBlock) u435003 x435003_2) ∧ Aside0 (Kd.R (Kd.int .u8) 5 w' w.heap.size (fun k_ => some k_ ≠ (u435002 : Value).ownBlock ∧ some k_ ≠ (u435003 : Value).ownBlock ∧ some k_ ≠ (u445003 : Value).ownBlock) u445002 x445002_2) ∧ Aside0 (Kd.R (Kd.int .u8) 5 w' w.heap.size (fun k_ => some k_ ≠ (u435002 : Value).ownBlock ∧ some k_ ≠ (u435003 : Value).ownBlock ∧ some k_ ≠ (u445002 : Value).ownBlock) u445003 x445003_2) ∧ Aside0 (w'.heap[gb434]? = some (.cells #[.int .i64 t425, .int .i64 t426, u435002, u435003] 62 (0, 0))) ∧ Aside0 (w'.heap[gb444]? = some (.cells #[.int .i64 t435, .int .i64 t436, u445002, u445003] 63 (0, 0))) ∧ Aside0 (Below w.heap.size w w'))
      case atStart => exact ⟨(0), (t427), (t430), (t437), (t440), (.slice Ao17 t427.length co17), (.slice Ao18 t430.length co18), (.slice Ao23 t437.length co23), (.slice Ao24 t440.length co24), (by first | rfl | (simp; done) | (simp [*]; done)), H', ⟨Nat.le_refl _⟩, ⟨by (with_reducible repeat (first | apply Kd.R_alloc | apply Kd.R_drewN | apply Kd.R_drew)); exact HO_5.out⟩, ⟨by (with_reducible repeat (first | apply Kd.R_alloc | apply Kd.R_drewN | apply Kd.R_drew)); exact HO_435002.out⟩, ⟨by (with_reducible repeat (first | apply Kd.R_alloc | apply Kd.R_drewN | apply Kd.R_drew)); exact HO_435003.out⟩, ⟨by (with_reducible repeat (first | apply Kd.R_alloc | apply Kd.R_drewN | apply Kd.R_drew)); exact HO_445002.out⟩, ⟨by (with_reducible repeat (first | apply Kd.R_alloc | apply Kd.R_drewN | apply Kd.R_drew)); exact HO_445003.out⟩, ⟨by (with_reducible repeat (first | refine blk_drewN ?_ _ | refine blk_drew ?_ | refine blk_alloc ?_ _)); exact BK434.out⟩, ⟨by (with_reducible repeat (first | refine blk_drewN ?_ _ | refine blk_drew ?_ | refine blk_alloc ?_ _)); exact BK444.out⟩, ⟨by repeat (first | (with_reducible first | exact HB.out | apply below_alloc | apply pw_below_drewN | apply below_drew1 | refine below_set ?_ GE434.out | refine below_set ?_ GE444.out) | exact HB.out)⟩⟩
      case round =>
       clear H'
       try clear c1
       try clear c2
       try clear p2
       try clear c3
       try clear c4
       try clear c5
       try clear c8
       try clear c13
       try clear c21
       try clear c26
       try clear c27
       try clear c27b0
       try clear c27b1
       try clear c29
       try clear c33
       try clear c34
       try clear c35
       try clear c37
       try clear c41
       try clear c42
       try clear hcz16_0
       try clear hcz16_1
       try clear hcz16_2
       try clear hcz16_3
       try clear hcz22_0
       try clear hcz22_1
       try clear hcz22_2
       try clear hcz22_3
       try clear hcz30_0
       try clear hcz30_1
       try clear hcz30_2
       try clear hcz30_3
       try clear hcz31_0
       try clear hcz31_1
       try clear hcz31_2
       try clear hcz31_3
       try clear hcz34_0
       try clear hcz34_1
       try clear hcz34_2
       try clear hcz34_3
       try clear hcz35_0
       try clear hcz35_1
       try clear hcz35_2
       try clear hcz35_3
       try clear hcz38_0
       try clear hcz38_1
       try clear hcz38_2
       try clear hcz38_3
       try clear hcz39_0
       try clear hcz39_1
       try clear hcz39_2
       try clear hcz39_3
       try clear hcz43_0
       try clear hcz43_1
       try clear hcz43_2
       try clear hcz43_3
       try clear hfz16_0
       try clear hfz16_1
       try clear hfz16_2
       try clear hfz16_3
       try clear hfz22_0
       try clear hfz22_1
       try clear hfz22_2
       try clear hfz22_3
       try clear hfz30_0
       try clear hfz30_1
       try clear hfz30_2
       try clear hfz30_3
       try clear hfz31_0
       try clear hfz31_1
       try clear hfz31_2
       try clear hfz31_3
       try clear hfz34_0
       try clear hfz34_1
       try clear hfz34_2
       try clear hfz34_3
       try clear hfz35_0
       try clear hfz35_1
       try clear hfz35_2
       try clear hfz35_3
       try clear hfz38_0
       try clear hfz38_1
       try clear hfz38_2
       try clear hfz38_3
       try clear hfz39_0
       try clear hfz39_1
       try clear hfz39_2
       try clear hfz39_3
       try clear hfz43_0
       try clear hfz43_1
       try clear hfz43_2
       try clear hfz43_3
       try clear p2
       obtain ⟨x49_2, x435002_2, x435003_2, x445002_2, x445003_2, u435002, u435003, u445002, u445003, rfl, HA, HK2, HO_5, HO_435002, HO_435003, HO_445002, HO_445003, BK434, BK444, HB⟩ := hrel
       cases gk with
       | zero => exact absurd HA.out (by simp [heraldlaw08_VecPacks.l0])
       | succ k2 =>
        have H := HA.out
        clear HA
        simp only [heraldlaw08_VecPacks.l0] at H
        by_cases c44 : x49_2 < (t430.length : Int)
        ·
         rw [if_pos c44] at H
         have c44b0 : decide (x49_2 < (t430.length : Int)) = true := decide_eq_true c44
         clear c44
         by_cases c45 : 0 ≤ x49_2
         ·
          rw [if_pos c45] at H
          have c45b0 : decide (0 ≤ x49_2) = true := decide_eq_true c45
          clear c45
          by_cases c46 : x49_2 < (x435003_2.length : Int)
          ·
           rw [if_pos c46] at H
           have c46b0 : decide (x49_2 < (x435003_2.length : Int)) = true := decide_eq_true c46
           clear c46
           obtain ⟨y447, hy447⟩ : ∃ y_ : List Int, y_ = (x435003_2.set (x49_2 : Int).toNat 99) := ⟨_, rfl⟩
           replace H : (heraldlaw08_VecPacks.l0 k2 a1 y422 (t430.length : Int) (wrap64 (x49_2 + 1)) t425 t426 x435002_2 y447 t435 t436 x445002_2 x445003_2) = some r := by first | (rw [hy447]; with_reducible exact H) | (have H2_ := (Option.bind_some _ _).symm.trans H; rw [hy447]; with_reducible exact H2_) | (have H2_ := (Option.bind_some _ _).symm.trans H; with_reducible exact H2_) | with_reducible exact H | (rw [hy447]; exact H) | exact H
           have Ny447 := Aside0.mk hy447
           clear hy447
           have H' := Aside0.mk H
           clear H
           have hnb48 := NB434_444.out
           have hnc48 := NB444_434.out
           have hcz49_0 : wr.cell? ⟨gb434, 0, none⟩ = some (.int .i64 t425) := (blk_cell BK434.out 0).trans rfl
           have hcz49_1 : wr.cell? ⟨gb434, 1, none⟩ = some (.int .i64 t426) := (blk_cell BK434.out 1).trans rfl
           have hcz49_2 : wr.cell? ⟨gb434, 2, none⟩ = some (u435002) := (blk_cell BK434.out 2).trans rfl
           have hcz49_3 : wr.cell? ⟨gb434, 3, none⟩ = some (u435003) := (blk_cell BK434.out 3).trans rfl
           have hfz49_0 := blk_frozen BK434.out 0
           have hfz49_1 := blk_frozen BK434.out 1
           have hfz49_2 := blk_frozen BK434.out 2
           have hfz49_3 := blk_frozen BK434.out 3
           have p47 : 0 ≤ (x49_2 : Int) := of_decide_eq_true (by first | (with_reducible assumption) | assumption)
           have q47 : (x49_2 : Int) < ((x435003_2.length : Int) : Int) := of_decide_eq_true (by first | (with_reducible assumption) | assumption)
           obtain ⟨go47, co47, eo47, gb47, gl47, cl47, HG47⟩ := Kd.R_form HO_435003.out (by omega)
           (first | cases eo47 | (injection eo47 with ea_ en_ ec_; (first | subst ea_ | (injection ea_ with ea_; subst ea_)); subst ec_; clear en_))
           have GB47 := Aside0.mk gb47
           have GG47 := Aside0.mk HG47
           clear gb47 gl47 HG47
           obtain ⟨hx47_0, hf47_0⟩ := Kd.R_celln 0 HO_435003.out (x49_2 : Int) p47 q47
           replace p47 := eq_true p47
           replace q47 := eq_true q47
           have HP50 := Kd.R_putg HO_435003.out (x49_2 : Int) 99
           go_wp2_with (first | ((with_reducible refine gate_store (t := 5) (p := 55) rfl ?_); refine store_event (t := 5) (p := 55) (v := ?vo_w51) (w1 := (wr.setCell ⟨go47, (x49_2 : Int).toNat, none⟩ (.int .u8 99))) ?hg ?ho ?hn ?hr ?_; (case ho => rfl); (case hg => rfl); (case hn => rfl); (case hr => first | (go_simp; done) | (go_simp; rfl)); intro w51 hw; have hg : wr.grownBy w51 (some go47) := (by rw [hw]; exact HP50.2); have hp_ : Kd.R (Kd.int .u8) 5 w51 w.heap.size (fun k_ => some k_ ≠ (u435002 : Value).ownBlock ∧ some k_ ≠ (u445002 : Value).ownBlock ∧ some k_ ≠ (u445003 : Value).ownBlock) (.slice (some ⟨go47, 0, none⟩) x435003_2.length co47) y447 := (by rw [hw, Ny447.out]; exact HP50.1); clear HP50; have n0_ := Aside0.mk (Kd.R_over' (v := (.slice (some ⟨go47, 0, none⟩) x435003_2.length co47)) (by (with_reducible repeat (first | apply Kd.R_alloc | apply Kd.R_drewN | apply Kd.R_drew)); exact HO_5.out) (Kd.R_typed HO_435003.out) (by decide) hg); have n1_ := Aside0.mk (Kd.R_after (v := (.slice (some ⟨go47, 0, none⟩) x435003_2.length co47)) (v1 := (.slice (some ⟨go47, 0, none⟩) x435003_2.length co47)) (ok := (fun k_ => some k_ ≠ (u445002 : Value).ownBlock ∧ some k_ ≠ (u445003 : Value).ownBlock)) (by (with_reducible repeat (first | apply Kd.R_alloc | apply Kd.R_drewN | apply Kd.R_drew)); exact Kd.R_mono HO_435002.out (fun _ hk => ⟨⟨hk.2.1, hk.2.2⟩, hk.1⟩)) hg (.inl rfl)); have n2_ := Aside0.mk (hp_); have n3_ := Aside0.mk (Kd.R_after (v := (.slice (some ⟨go47, 0, none⟩) x435003_2.length co47)) (v1 := (.slice (some ⟨go47, 0, none⟩) x435003_2.length co47)) (ok := (fun k_ => some k_ ≠ (u435002 : Value).ownBlock ∧ some k_ ≠ (u445003 : Value).ownBlock)) (by (with_reducible repeat (first | apply Kd.R_alloc | apply Kd.R_drewN | apply Kd.R_drew)); exact Kd.R_mono HO_445002.out (fun _ hk => ⟨⟨hk.1, hk.2.2⟩, hk.2.1⟩)) hg (.inl rfl)); have n4_ := Aside0.mk (Kd.R_after (v := (.slice (some ⟨go47, 0, none⟩) x435003_2.length co47)) (v1 := (.slice (some ⟨go47, 0, none⟩) x435003_2.length co47)) (ok := (fun k_ => some k_ ≠ (u435002 : Value).ownBlock ∧ some k_ ≠ (u445002 : Value).ownBlock)) (by (with_reducible repeat (first | apply Kd.R_alloc | apply Kd.R_drewN | apply Kd.R_drew)); exact Kd.R_mono HO_445003.out (fun _ hk => ⟨⟨hk.1, hk.2.2⟩, hk.2.1⟩)) hg (.inl rfl)); have n5_ := Aside0.mk (blk_grown (g := gb434) (o := .cells #[.int .i64 t425, .int .i64 t426, u435002, .slice (some ⟨go47, 0, none⟩) x435003_2.length co47] 62 (0, 0)) (by (with_reducible repeat (first | refine blk_drewN ?_ _ | refine blk_drew ?_ | refine blk_alloc ?_ _)); exact BK434.out) hg (Kd.R_ne HO_435003.out BK434.out (by decide))); have n6_ := Aside0.mk (blk_grown (g := gb444) (o := .cells #[.int .i64 t435, .int .i64 t436, u445002, u445003] 63 (0, 0)) (by (with_reducible repeat (first | refine blk_drewN ?_ _ | refine blk_drew ?_ | refine blk_alloc ?_ _)); exact BK444.out) hg (Kd.R_ne HO_435003.out BK444.out (by decide))); have n7_ := Aside0.mk ((by rw [hw]; exact below_set (HB.out) GB47.out : Below w.heap.size w w51)); clear HO_5; clear HO_435002; clear HO_435003; clear HO_445002; clear HO_445003; clear BK434; clear BK444; clear HB; have HO_5 := n0_; have HO_435002 := n1_; have HO_435003 := n2_; have HO_445002 := n3_; have HO_445003 := n4_; have BK434 := n5_; have BK444 := n6_; have HB := n7_; clear n0_ n1_ n2_ n3_ n4_ n5_ n6_ n7_; clear hg hw hp_))
           go_roundg k2
           case measure => have := HJ7.out; have := HK2.out; omega
           case rel => exact ⟨(wrap64 (x49_2 + 1)), (x435002_2), (y447), (x445002_2), (x445003_2), (u435002), (.slice (some ⟨go47, 0, none⟩) x435003_2.length co47), (u445002), (u445003), (by first | rfl | (simp; done) | (simp [*]; done)), H', ⟨by have := HJ7.out; have := HK2.out; omega⟩, ⟨by (with_reducible repeat (first | apply Kd.R_alloc | apply Kd.R_drewN | apply Kd.R_drew)); exact HO_5.out⟩, ⟨by (with_reducible repeat (first | apply Kd.R_alloc | apply Kd.R_drewN | apply Kd.R_drew)); exact Kd.R_mono HO_435002.out (fun _ hk => ⟨hk.2, ⟨hk.1.1, hk.1.2⟩⟩)⟩, ⟨by (with_reducible repeat (first | apply Kd.R_alloc | apply Kd.R_drewN | apply Kd.R_drew)); exact HO_435003.out⟩, ⟨by (with_reducible repeat (first | apply Kd.R_alloc | apply Kd.R_drewN | apply Kd.R_drew)); exact Kd.R_mono HO_445002.out (fun _ hk => ⟨hk.1.1, ⟨hk.2, hk.1.2⟩⟩)⟩, ⟨by (with_reducible repeat (first | apply Kd.R_alloc | apply Kd.R_drewN | apply Kd.R_drew)); exact Kd.R_mono HO_445003.out (fun _ hk => ⟨hk.1.1, ⟨hk.2, hk.1.2⟩⟩)⟩, ⟨by (with_reducible repeat (first | refine blk_drewN ?_ _ | refine blk_drew ?_ | refine blk_alloc ?_ _)); exact BK434.out⟩, ⟨by (with_reducible repeat (first | refine blk_drewN ?_ _ | refine blk_drew ?_ | refine blk_alloc ?_ _)); exact BK444.out⟩, ⟨by repeat (first | (with_reducible first | exact HB.out | apply below_alloc | apply pw_below_drewN | apply below_drew1 | refine below_set ?_ GE434.out | refine below_set ?_ GE444.out) | exact HB.out)⟩⟩
          ·
           rw [if_neg c46] at H
           exact absurd H (by simp)
         ·
          rw [if_neg c45] at H
          exact absurd H (by simp)
        ·
         rw [if_neg c44] at H
         have c44b0 : decide (x49_2 < (t430.length : Int)) = false := decide_eq_false c44
         clear c44
         have H' := Aside0.mk H
         clear H
         have hnb52 := NB434_444.out
         have hnc52 := NB444_434.out
         have hcz53_0 : wr.cell? ⟨gb434, 0, none⟩ = some (.int .i64 t425) := (blk_cell BK434.out 0).trans rfl
         have hcz53_1 : wr.cell? ⟨gb434, 1, none⟩ = some (.int .i64 t426) := (blk_cell BK434.out 1).trans rfl
         have hcz53_2 : wr.cell? ⟨gb434, 2, none⟩ = some (u435002) := (blk_cell BK434.out 2).trans rfl
         have hcz53_3 : wr.cell? ⟨gb434, 3, none⟩ = some (u435003) := (blk_cell BK434.out 3).trans rfl
         have hfz53_0 := blk_frozen BK434.out 0
         have hfz53_1 := blk_frozen BK434.out 1
         have hfz53_2 := blk_frozen BK434.out 2
         have hfz53_3 := blk_frozen BK434.out 3
         obtain ⟨Ao54, co54, eo54⟩ := Kd.R_slice HO_435002.out
         subst eo54
         go_wp2
         go_loopg [60] k2 (fun kq v60 w' => ∃ (x60_3 : Int) (x435002_3 : List Int) (x435003_3 : List Int) (x445002_3 : List Int) (x445003_3 : List Int) (u435002 : Value) (u435003 : Value) (u445002 : Value) (u445003 : Value), v60 = .int .i64 x60_3 ∧ Aside0 (heraldlaw08_VecPacks.l1 kq a1 y422 (x435002_2.length : Int) x60_3 t425 t426 x435002_3 x435003_3 t435 t436 x445002_3 x445003_3 = some r) ∧ Aside0 (kq ≤ k2) ∧ Aside0 (Kd.R (Kd.int .i8) 42 w' w.heap.size (fun _ => True) (.slice Ao13 y422.length co13) y422) ∧ Aside0 (Kd.R (Kd.int .u8) 5 w' w.heap.size (fun k_ => some k_ ≠ (u435003 : Value).ownBlock ∧ some k_ ≠ (u445002 : Value).ownBlock ∧ some k_ ≠ (u445003 : Value).ownBlock) u435002 x435002_3) ∧ Aside0 (Kd.R (Kd.int .u8) 5 w' w.heap.size (fun k_ => some k_ ≠ (u435002 : Value).ownBlock ∧ some k_ ≠ (u445002 : Value).ownBlock ∧ some k_ ≠ (u445003 : Value).ownBlock) u435003 x435003_3) ∧ Aside0 (Kd.R (Kd.int .u8) 5 w' w.heap.size (fun k_ => some k_ ≠ (u435002 : Value).ownBlock ∧ some k_ ≠ (u435003 : Value).ownBlock ∧ some k_ ≠ (u445003 : Value).ownBlock) u445002 x445002_3) ∧ Aside0 (Kd.R (Kd.int .u8) 5 w' w.heap.size (fun k_ => some k_ ≠ (u435002 : Value).ownBlock ∧ some k_ ≠ (u435003 : Value).ownBlock ∧ some k_ ≠ (u445002 : Value).ownBlock) u445003 x445003_3) ∧ Aside0 (w'.heap[gb434]? = some (.cells #[.int .i64 t425, .int .i64 t426, u435002, u435003] 62 (0, 0))) ∧ Aside0 (w'.heap[gb444]? = some (.cells #[.int .i64 t435, .int .i64 t436, u445002, u445003] 63 (0, 0))) ∧ Aside0 (Below w.heap.size w w'))
         case atStart => exact ⟨(0), (x435002_2), (x435003_2), (x445002_2), (x445003_2), (.slice Ao54 x435002_2.length co54), (u435003), (u445002), (u445003), (by first | rfl | (simp; done) | (simp [*]; done)), H', ⟨Nat.le_refl _⟩, ⟨by (with_reducible repeat (first | apply Kd.R_alloc | apply Kd.R_drewN | apply Kd.R_drew)); exact HO_5.out⟩, ⟨by (with_reducible repeat (first | apply Kd.R_alloc | apply Kd.R_drewN | apply Kd.R_drew)); exact HO_435002.out⟩, ⟨by (with_reducible repeat (first | apply Kd.R_alloc | apply Kd.R_drewN | apply Kd.R_drew)); exact HO_435003.out⟩, ⟨by (with_reducible repeat (first | apply Kd.R_alloc | apply Kd.R_drewN | apply Kd.R_drew)); exact HO_445002.out⟩, ⟨by (with_reducible repeat (first | apply Kd.R_alloc | apply Kd.R_drewN | apply Kd.R_drew)); exact HO_445003.out⟩, ⟨by (with_reducible repeat (first | refine blk_drewN ?_ _ | refine blk_drew ?_ | refine blk_alloc ?_ _)); exact BK434.out⟩, ⟨by (with_reducible repeat (first | refine blk_drewN ?_ _ | refine blk_drew ?_ | refine blk_alloc ?_ _)); exact BK444.out⟩, ⟨by repeat (first | (with_reducible first | exact HB.out | apply below_alloc | apply pw_below_drewN | apply below_drew1 | refine below_set ?_ GE434.out | refine below_set ?_ GE444.out) | exact HB.out)⟩⟩
         case round =>
          clear H'
          try clear c1
          try clear c2
          try clear p2
          try clear c3
          try clear c4
          try clear p4
          try clear q4
          try clear hx4
          try clear hf4
          try clear c5
          try clear p6
          try clear c8
          try clear c13
          try clear c21
          try clear c26
          try clear c27
          try clear c27b0
          try clear c27b1
          try clear c29
          try clear c33
          try clear c34
          try clear c35
          try clear c37
          try clear c41
          try clear c42
          try clear c44
          try clear c44b0
          try clear c45
          try clear c45b0
          try clear c46
          try clear c46b0
          try clear p47
          try clear q47
          try clear hx47
          try clear hf47
          try clear c48
          try clear c52
          try clear hcz16_0
          try clear hcz16_1
          try clear hcz16_2
          try clear hcz16_3
          try clear hcz22_0
          try clear hcz22_1
          try clear hcz22_2
          try clear hcz22_3
          try clear hcz30_0
          try clear hcz30_1
          try clear hcz30_2
          try clear hcz30_3
          try clear hcz31_0
          try clear hcz31_1
          try clear hcz31_2
          try clear hcz31_3
          try clear hcz34_0
          try clear hcz34_1
          try clear hcz34_2
          try clear hcz34_3
          try clear hcz35_0
          try clear hcz35_1
          try clear hcz35_2
          try clear hcz35_3
          try clear hcz38_0
          try clear hcz38_1
          try clear hcz38_2
          try clear hcz38_3
          try clear hcz39_0
          try clear hcz39_1
          try clear hcz39_2
          try clear hcz39_3
          try clear hcz43_0
          try clear hcz43_1
          try clear hcz43_2
          try clear hcz43_3
          try clear hcz49_0
          try clear hcz49_1
          try clear hcz49_2
          try clear hcz49_3
          try clear hcz53_0
          try clear hcz53_1
          try clear hcz53_2
          try clear hcz53_3
          try clear hfz16_0
          try clear hfz16_1
          try clear hfz16_2
          try clear hfz16_3
          try clear hfz22_0
          try clear hfz22_1
          try clear hfz22_2
          try clear hfz22_3
          try clear hfz30_0
          try clear hfz30_1
          try clear hfz30_2
          try clear hfz30_3
          try clear hfz31_0
          try clear hfz31_1
          try clear hfz31_2
          try clear hfz31_3
          try clear hfz34_0
          try clear hfz34_1
          try clear hfz34_2
          try clear hfz34_3
          try clear hfz35_0
          try clear hfz35_1
          try clear hfz35_2
          try clear hfz35_3
          try clear hfz38_0
          try clear hfz38_1
          try clear hfz38_2
          try clear hfz38_3
          try clear hfz39_0
          try clear hfz39_1
          try clear hfz39_2
          try clear hfz39_3
          try clear hfz43_0
          try clear hfz43_1
          try clear hfz43_2
          try clear hfz43_3
          try clear hfz49_0
          try clear hfz49_1
          try clear hfz49_2
          try clear hfz49_3
          try clear hfz53_0
          try clear hfz53_1
          try clear hfz53_2
          try clear hfz53_3
          try clear hx47_0
          try clear p2
          try clear p47
          try clear q47
          obtain ⟨x60_3, x435002_3, x435003_3, x445002_3, x445003_3, u435002, u435003, u445002, u445003, rfl, HA, HK3, HO_5, HO_435002, HO_435003, HO_445002, HO_445003, BK434, BK444, HB⟩ := hrel
          cases gk with
          | zero => exact absurd HA.out (by simp [heraldlaw08_VecPacks.l1])
          | succ k3 =>
           have H := HA.out
           clear HA
           simp only [heraldlaw08_VecPacks.l1] at H
           by_cases c55 : x60_3 < (x435002_2.length : Int)
           ·
            rw [if_pos c55] at H
            have c55b0 : decide (x60_3 < (x435002_2.length : Int)) = true := decide_eq_true c55
            clear c55
            by_cases c56 : 0 ≤ x60_3
            ·
             rw [if_pos c56] at H
             have c56b0 : decide (0 ≤ x60_3) = true := decide_eq_true c56
             clear c56
             by_cases c57 : x60_3 < (x435002_3.length : Int)
             ·
              rw [if_pos c57] at H
              have c57b0 : decide (x60_3 < (x435002_3.length : Int)) = true := decide_eq_true c57
              clear c57
              obtain ⟨y448, hy448⟩ : ∃ y_ : List Int, y_ = (x435002_3.set (x60_3 : Int).toNat 98) := ⟨_, rfl⟩
              replace H : (heraldlaw08_VecPacks.l1 k3 a1 y422 (x435002_2.length : Int) (wrap64 (x60_3 + 1)) t425 t426 y448 x435003_3 t435 t436 x445002_3 x445003_3) = some r := by first | (rw [hy448]; with_reducible exact H) | (have H2_ := (Option.bind_some _ _).symm.trans H; rw [hy448]; with_reducible exact H2_) | (have H2_ := (Option.bind_some _ _).symm.trans H; with_reducible exact H2_) | with_reducible exact H | (rw [hy448]; exact H) | exact H
              have Ny448 := Aside0.mk hy448
              clear hy448
              have H' := Aside0.mk H
              clear H
              have hnb59 := NB434_444.out
              have hnc59 := NB444_434.out
              have hcz60_0 : wr.cell? ⟨gb434, 0, none⟩ = some (.int .i64 t425) := (blk_cell BK434.out 0).trans rfl
              have hcz60_1 : wr.cell? ⟨gb434, 1, none⟩ = some (.int .i64 t426) := (blk_cell BK434.out 1).trans rfl
              have hcz60_2 : wr.cell? ⟨gb434, 2, none⟩ = some (u435002) := (blk_cell BK434.out 2).trans rfl
              have hcz60_3 : wr.cell? ⟨gb434, 3, none⟩ = some (u435003) := (blk_cell BK434.out 3).trans rfl
              have hfz60_0 := blk_frozen BK434.out 0
              have hfz60_1 := blk_frozen BK434.out 1
              have hfz60_2 := blk_frozen BK434.out 2
              have hfz60_3 := blk_frozen BK434.out 3
              have p58 : 0 ≤ (x60_3 : Int) := of_decide_eq_true (by first | (with_reducible assumption) | assumption)
              have q58 : (x60_3 : Int) < ((x435002_3.length : Int) : Int) := of_decide_eq_true (by first | (with_reducible assumption) | assumption)
              obtain ⟨go58, co58, eo58, gb58, gl58, cl58, HG58⟩ := Kd.R_form HO_435002.out (by omega)
              (first | cases eo58 | (injection eo58 with ea_ en_ ec_; (first | subst ea_ | (injection ea_ with ea_; subst ea_)); subst ec_; clear en_))
              have GB58 := Aside0.mk gb58
              have GG58 := Aside0.mk HG58
              clear gb58 gl58 HG58
              obtain ⟨hx58_0, hf58_0⟩ := Kd.R_celln 0 HO_435002.out (x60_3 : Int) p58 q58
              replace p58 := eq_true p58
              replace q58 := eq_true q58
              have HP61 := Kd.R_putg HO_435002.out (x60_3 : Int) 98
              go_wp2_with (first | ((with_reducible refine gate_store (t := 5) (p := 66) rfl ?_); refine store_event (t := 5) (p := 66) (v := ?vo_w62) (w1 := (wr.setCell ⟨go58, (x60_3 : Int).toNat, none⟩ (.int .u8 98))) ?hg ?ho ?hn ?hr ?_; (case ho => rfl); (case hg => rfl); (case hn => rfl); (case hr => first | (go_simp; done) | (go_simp; rfl)); intro w62 hw; have hg : wr.grownBy w62 (some go58) := (by rw [hw]; exact HP61.2); have hp_ : Kd.R (Kd.int .u8) 5 w62 w.heap.size (fun k_ => some k_ ≠ (u435003 : Value).ownBlock ∧ some k_ ≠ (u445002 : Value).ownBlock ∧ some k_ ≠ (u445003 : Value).ownBlock) (.slice (some ⟨go58, 0, none⟩) x435002_3.length co58) y448 := (by rw [hw, Ny448.out]; exact HP61.1); clear HP61; have n0_ := Aside0.mk (Kd.R_over' (v := (.slice (some ⟨go58, 0, none⟩) x435002_3.length co58)) (by (with_reducible repeat (first | apply Kd.R_alloc | apply Kd.R_drewN | apply Kd.R_drew)); exact HO_5.out) (Kd.R_typed HO_435002.out) (by decide) hg); have n1_ := Aside0.mk (hp_); have n2_ := Aside0.mk (Kd.R_after (v := (.slice (some ⟨go58, 0, none⟩) x435002_3.length co58)) (v1 := (.slice (some ⟨go58, 0, none⟩) x435002_3.length co58)) (ok := (fun k_ => some k_ ≠ (u445002 : Value).ownBlock ∧ some k_ ≠ (u445003 : Value).ownBlock)) (by (with_reducible repeat (first | apply Kd.R_alloc | apply Kd.R_drewN | apply Kd.R_drew)); exact Kd.R_mono HO_435003.out (fun _ hk => ⟨⟨hk.2.1, hk.2.2⟩, hk.1⟩)) hg (.inl rfl)); have n3_ := Aside0.mk (Kd.R_after (v := (.slice (some ⟨go58, 0, none⟩) x435002_3.length co58)) (v1 := (.slice (some ⟨go58, 0, none⟩) x435002_3.length co58)) (ok := (fun k_ => some k_ ≠ (u435003 : Value).ownBlock ∧ some k_ ≠ (u445003 : Value).ownBlock)) (by (with_reducible repeat (first | apply Kd.R_alloc | apply Kd.R_drewN | apply Kd.R_drew)); exact Kd.R_mono HO_445002.out (fun _ hk => ⟨⟨hk.2.1, hk.2.2⟩, hk.1⟩)) hg (.inl rfl)); have n4_ := Aside0.mk (Kd.R_after (v := (.slice (some ⟨go58, 0, none⟩) x435002_3.length co58)) (v1 := (.slice (some ⟨go58, 0, none⟩) x435002_3.length co58)) (ok := (fun k_ => some k_ ≠ (u435003 : Value).ownBlock ∧ some k_ ≠ (u445002 : Value).ownBlock)) (by (with_reducible repeat (first | apply Kd.R_alloc | apply Kd.R_drewN | apply Kd.R_drew)); exact Kd.R_mono HO_445003.out (fun _ hk => ⟨⟨hk.2.1, hk.2.2⟩, hk.1⟩)) hg (.inl rfl)); have n5_ := Aside0.mk (blk_grown (g := gb434) (o := .cells #[.int .i64 t425, .int .i64 t426, .slice (some ⟨go58, 0, none⟩) x435002_3.length co58, u435003] 62 (0, 0)) (by (with_reducible repeat (first | refine blk_drewN ?_ _ | refine blk_drew ?_ | refine blk_alloc ?_ _)); exact BK434.out) hg (Kd.R_ne HO_435002.out BK434.out (by decide))); have n6_ := Aside0.mk (blk_grown (g := gb444) (o := .cells #[.int .i64 t435, .int .i64 t436, u445002, u445003] 63 (0, 0)) (by (with_reducible repeat (first | refine blk_drewN ?_ _ | refine blk_drew ?_ | refine blk_alloc ?_ _)); exact BK444.out) hg (Kd.R_ne HO_435002.out BK444.out (by decide))); have n7_ := Aside0.mk ((by rw [hw]; exact below_set (HB.out) GB58.out : Below w.heap.size w w62)); clear HO_5; clear HO_435002; clear HO_435003; clear HO_445002; clear HO_445003; clear BK434; clear BK444; clear HB; have HO_5 := n0_; have HO_435002 := n1_; have HO_435003 := n2_; have HO_445002 := n3_; have HO_445003 := n4_; have BK434 := n5_; have BK444 := n6_; have HB := n7_; clear n0_ n1_ n2_ n3_ n4_ n5_ n6_ n7_; clear hg hw hp_))
              go_roundg k3
              case measure => have := HJ7.out; have := HK2.out; have := HK3.out; omega
              case rel => exact ⟨(wrap64 (x60_3 + 1)), (y448), (x435003_3), (x445002_3), (x445003_3), (.slice (some ⟨go58, 0, none⟩) x435002_3.length co58), (u435003), (u445002), (u445003), (by first | rfl | (simp; done) | (simp [*]; done)), H', ⟨by have := HJ7.out; have := HK2.out; have := HK3.out; omega⟩, ⟨by (with_reducible repeat (first | apply Kd.R_alloc | apply Kd.R_drewN | apply Kd.R_drew)); exact HO_5.out⟩, ⟨by (with_reducible repeat (first | apply Kd.R_alloc | apply Kd.R_drewN | apply Kd.R_drew)); exact HO_435002.out⟩, ⟨by (with_reducible repeat (first | apply Kd.R_alloc | apply Kd.R_drewN | apply Kd.R_drew)); exact Kd.R_mono HO_435003.out (fun _ hk => ⟨hk.2, ⟨hk.1.1, hk.1.2⟩⟩)⟩, ⟨by (with_reducible repeat (first | apply Kd.R_alloc | apply Kd.R_drewN | apply Kd.R_drew)); exact Kd.R_mono HO_445002.out (fun _ hk => ⟨hk.2, ⟨hk.1.1, hk.1.2⟩⟩)⟩, ⟨by (with_reducible repeat (first | apply Kd.R_alloc | apply Kd.R_drewN | apply Kd.R_drew)); exact Kd.R_mono HO_445003.out (fun _ hk => ⟨hk.2, ⟨hk.1.1, hk.1.2⟩⟩)⟩, ⟨by (with_reducible repeat (first | refine blk_drewN ?_ _ | refine blk_drew ?_ | refine blk_alloc ?_ _)); exact BK434.out⟩, ⟨by (with_reducible repeat (first | refine blk_drewN ?_ _ | refine blk_drew ?_ | refine blk_alloc ?_ _)); exact BK444.out⟩, ⟨by repeat (first | (with_reducible first | exact HB.out | apply below_alloc | apply pw_below_drewN | apply below_drew1 | refine below_set ?_ GE434.out | refine below_set ?_ GE444.out) | exact HB.out)⟩⟩
             ·
              rw [if_neg c57] at H
              exact absurd H (by simp)
            ·
             rw [if_neg c56] at H
             exact absurd H (by simp)
           ·
            rw [if_neg c55] at H
            have c55b0 : decide (x60_3 < (x435002_2.length : Int)) = false := decide_eq_false c55
            clear c55
            replace H := Option.bind_eq_some_iff.mp H
            obtain ⟨⟨t449, t450, t451, t454, t457⟩, A630, H⟩ := H
            replace H : ((heraldlaw08_packed.f t449 t450 t451 t454 t435 t436 x445002_3 x445003_3).bind fun t459 => (some t459)) = some r := H
            have A63 := Aside0.mk A630
            clear A630
            replace H := Option.bind_eq_some_iff.mp H
            obtain ⟨t459, A640, H⟩ := H
            replace H : (some t459) = some r := H
            have A64 := Aside0.mk A640
            clear A640
            obtain rfl := Option.some.inj H
            go_wp2_with (first | ((with_reducible refine gate_callee (f := 34) rfl ?_); refine goesL_ (some 71) rfl rfl Try.func34 (by kernel_rfl) rfl #[.slice Ao13 y422.length co13, .int .i64 a1] rfl (by (try simp only [List.map_toArray, List.map_cons, List.map_nil]); first | done | rfl | (simp only [List.length_drop, List.length_take]; rfl)) ?_; (with_reducible refine (vec_Pack.calls k3 _ _ y422 a1 t449 t450 t451 t454 t457 _ ?side1 ?side2 A63.out).mono ?_); (case side1 => repeat (first | exact (Kd.R_reads' HO_5.out).2.2 | (with_reducible refine Kd.C_alloc ?_ _) | (with_reducible refine Kd.C_drewN ?_ _) | (with_reducible refine Kd.C_drew ?_))); (case side2 => exact (Kd.R_reads' HO_5.out).2.1); rintro e w65 ⟨v452, v455, rfl, ho0, ho1, hb⟩; refine ⟨_, rfl, ?_⟩; have n0_ := Aside0.mk (Kd.R_below (by (with_reducible repeat (first | apply Kd.R_alloc | apply Kd.R_drewN | apply Kd.R_drew)); exact HO_5.out) hb); have n1_ := Aside0.mk (Kd.R_mono (Kd.R_told (Kd.R_told (Kd.R_old (by (with_reducible repeat (first | apply Kd.R_alloc | apply Kd.R_drewN | apply Kd.R_drew)); exact HO_435002.out) hb) (Kd.R_base ho0)) (Kd.R_base ho1)) (fun _ h_ => h_.1)); have n2_ := Aside0.mk (Kd.R_mono (Kd.R_told (Kd.R_told (Kd.R_old (by (with_reducible repeat (first | apply Kd.R_alloc | apply Kd.R_drewN | apply Kd.R_drew)); exact HO_435003.out) hb) (Kd.R_base ho0)) (Kd.R_base ho1)) (fun _ h_ => h_.1)); have n3_ := Aside0.mk (Kd.R_mono (Kd.R_told (Kd.R_told (Kd.R_old (by (with_reducible repeat (first | apply Kd.R_alloc | apply Kd.R_drewN | apply Kd.R_drew)); exact HO_445002.out) hb) (Kd.R_base ho0)) (Kd.R_base ho1)) (fun _ h_ => h_.1)); have n4_ := Aside0.mk (Kd.R_mono (Kd.R_told (Kd.R_told (Kd.R_old (by (with_reducible repeat (first | apply Kd.R_alloc | apply Kd.R_drewN | apply Kd.R_drew)); exact HO_445003.out) hb) (Kd.R_base ho0)) (Kd.R_base ho1)) (fun _ h_ => h_.1)); have n5_ := Aside0.mk (Kd.R_lower (Kd.R_new' (Kd.R_new' (Kd.R_new' (Kd.R_new' ho0 (Kd.R_lt (by (with_reducible repeat (first | apply Kd.R_alloc | apply Kd.R_drewN | apply Kd.R_drew)); exact HO_435002.out))) (Kd.R_lt (by (with_reducible repeat (first | apply Kd.R_alloc | apply Kd.R_drewN | apply Kd.R_drew)); exact HO_435003.out))) (Kd.R_lt (by (with_reducible repeat (first | apply Kd.R_alloc | apply Kd.R_drewN | apply Kd.R_drew)); exact HO_445002.out))) (Kd.R_lt (by (with_reducible repeat (first | apply Kd.R_alloc | apply Kd.R_drewN | apply Kd.R_drew)); exact HO_445003.out))) (below_size (by repeat (first | (with_reducible first | exact HB.out | apply below_alloc | apply pw_below_drewN | apply below_drew1 | refine below_set ?_ GE434.out | refine below_set ?_ GE444.out) | exact HB.out)))); have n6_ := Aside0.mk (Kd.R_lower (Kd.R_new' (Kd.R_new' (Kd.R_new' (Kd.R_new' ho1 (Kd.R_lt (by (with_reducible repeat (first | apply Kd.R_alloc | apply Kd.R_drewN | apply Kd.R_drew)); exact HO_435002.out))) (Kd.R_lt (by (with_reducible repeat (first | apply Kd.R_alloc | apply Kd.R_drewN | apply Kd.R_drew)); exact HO_435003.out))) (Kd.R_lt (by (with_reducible repeat (first | apply Kd.R_alloc | apply Kd.R_drewN | apply Kd.R_drew)); exact HO_445002.out))) (Kd.R_lt (by (with_reducible repeat (first | apply Kd.R_alloc | apply Kd.R_drewN | apply Kd.R_drew)); exact HO_445003.out))) (below_size (by repeat (first | (with_reducible first | exact HB.out | apply below_alloc | apply pw_below_drewN | apply below_drew1 | refine below_set ?_ GE434.out | refine below_set ?_ GE444.out) | exact HB.out)))); have n7_ := Aside0.mk (blk_below (g := gb434) (o := .cells #[.int .i64 t425, .int .i64 t426, u435002, u435003] 62 (0, 0)) (by (with_reducible repeat (first | refine blk_drewN ?_ _ | refine blk_drew ?_ | refine blk_alloc ?_ _)); exact BK434.out) hb); have n8_ := Aside0.mk (blk_below (g := gb444) (o := .cells #[.int .i64 t435, .int .i64 t436, u445002, u445003] 63 (0, 0)) (by (with_reducible repeat (first | refine blk_drewN ?_ _ | refine blk_drew ?_ | refine blk_alloc ?_ _)); exact BK444.out) hb); have n9_ := Aside0.mk (below_step (by repeat (first | (with_reducible first | exact HB.out | apply below_alloc | apply pw_below_drewN | apply below_drew1 | refine below_set ?_ GE434.out | refine below_set ?_ GE444.out) | exact HB.out)) hb); clear HO_5; clear HO_435002; clear HO_435003; clear HO_445002; clear HO_445003; clear BK434; clear BK444; clear HB; have HO_5 := n0_; have HO_435002 := n1_; have HO_435003 := n2_; have HO_445002 := n3_; have HO_445003 := n4_; have HO453 := n5_; have HO456 := n6_; have BK434 := n7_; have BK444 := n8_; have HB := n9_; clear n0_ n1_ n2_ n3_ n4_ n5_ n6_ n7_ n8_ n9_; (try clear hb); (try clear hb2); (try clear hk); (try clear hi); (try clear ho0); (try clear ho1)) | ((with_reducible refine gate_dst (N := 12) rfl ?_); refine box_event ?hg (N := 12) ?hd (cs := #[.int .i64 0, .int .i64 0, .slice none 0 0, .slice none 0 0]) (t := 62) ?hr ?_; (case hd => rfl); (case hg => rfl); (case hr => first | (go_simp; done) | (go_simp; rfl)); intro gb458 hg w66 hbox hb; have n0_ := Aside0.mk (Kd.R_below (by (with_reducible repeat (first | apply Kd.R_alloc | apply Kd.R_drewN | apply Kd.R_drew)); exact HO_5.out) hb); have n1_ := Aside0.mk (Kd.R_below (by (with_reducible repeat (first | apply Kd.R_alloc | apply Kd.R_drewN | apply Kd.R_drew)); exact HO_435002.out) hb); have n2_ := Aside0.mk (Kd.R_below (by (with_reducible repeat (first | apply Kd.R_alloc | apply Kd.R_drewN | apply Kd.R_drew)); exact HO_435003.out) hb); have n3_ := Aside0.mk (Kd.R_below (by (with_reducible repeat (first | apply Kd.R_alloc | apply Kd.R_drewN | apply Kd.R_drew)); exact HO_445002.out) hb); have n4_ := Aside0.mk (Kd.R_below (by (with_reducible repeat (first | apply Kd.R_alloc | apply Kd.R_drewN | apply Kd.R_drew)); exact HO_445003.out) hb); have n5_ := Aside0.mk (Kd.R_below (by (with_reducible repeat (first | apply Kd.R_alloc | apply Kd.R_drewN | apply Kd.R_drew)); exact HO453.out) hb); have n6_ := Aside0.mk (Kd.R_below (by (with_reducible repeat (first | apply Kd.R_alloc | apply Kd.R_drewN | apply Kd.R_drew)); exact HO456.out) hb); have n7_ := Aside0.mk (blk_below (g := gb434) (o := .cells #[.int .i64 t425, .int .i64 t426, u435002, u435003] 62 (0, 0)) (by (with_reducible repeat (first | refine blk_drewN ?_ _ | refine blk_drew ?_ | refine blk_alloc ?_ _)); exact BK434.out) hb); have n8_ := Aside0.mk (blk_below (g := gb444) (o := .cells #[.int .i64 t435, .int .i64 t436, u445002, u445003] 63 (0, 0)) (by (with_reducible repeat (first | refine blk_drewN ?_ _ | refine blk_drew ?_ | refine blk_alloc ?_ _)); exact BK444.out) hb); have n9_ := Aside0.mk (below_step (by repeat (first | (with_reducible first | exact HB.out | apply below_alloc | apply pw_below_drewN | apply below_drew1 | refine below_set ?_ GE434.out | refine below_set ?_ GE444.out) | exact HB.out)) hb); have n10_ := Aside0.mk (hbox); have n11_ := Aside0.mk ((by rw [hg]; exact (below_size (by repeat (first | (with_reducible first | exact HB.out | apply below_alloc | apply pw_below_drewN | apply below_drew1 | refine below_set ?_ GE434.out | refine below_set ?_ GE444.out) | exact HB.out))) : w.heap.size ≤ gb458)); have n12_ := Aside0.mk ((by rw [hg]; exact (below_size (by repeat (first | (with_reducible first | exact HB.out | apply below_alloc | apply pw_below_drewN | apply below_drew1 | refine below_set ?_ GE434.out | refine below_set ?_ GE444.out) | exact HB.out))) : w.heap.size ≤ gb458)); have n13_ := Aside0.mk ((by rw [hg]; exact Nat.ne_of_lt (blk_lt (g := gb434) (o := .cells #[.int .i64 t425, .int .i64 t426, u435002, u435003] 62 (0, 0)) (by (with_reducible repeat (first | refine blk_drewN ?_ _ | refine blk_drew ?_ | refine blk_alloc ?_ _)); exact BK434.out)) : gb434 ≠ gb458)); have n14_ := Aside0.mk ((by rw [hg]; exact Nat.ne_of_gt (blk_lt (g := gb434) (o := .cells #[.int .i64 t425, .int .i64 t426, u435002, u435003] 62 (0, 0)) (by (with_reducible repeat (first | refine blk_drewN ?_ _ | refine blk_drew ?_ | refine blk_alloc ?_ _)); exact BK434.out)) : gb458 ≠ gb434)); have n15_ := Aside0.mk ((by rw [hg]; exact Nat.ne_of_lt (blk_lt (g := gb444) (o := .cells #[.int .i64 t435, .int .i64 t436, u445002, u445003] 63 (0, 0)) (by (with_reducible repeat (first | refine blk_drewN ?_ _ | refine blk_drew ?_ | refine blk_alloc ?_ _)); exact BK444.out)) : gb444 ≠ gb458)); have n16_ := Aside0.mk ((by rw [hg]; exact Nat.ne_of_gt (blk_lt (g := gb444) (o := .cells #[.int .i64 t435, .int .i64 t436, u445002, u445003] 63 (0, 0)) (by (with_reducible repeat (first | refine blk_drewN ?_ _ | refine blk_drew ?_ | refine blk_alloc ?_ _)); exact BK444.out)) : gb458 ≠ gb444)); clear HO_5; clear HO_435002; clear HO_435003; clear HO_445002; clear HO_445003; clear HO453; clear HO456; clear BK434; clear BK444; clear HB; have HO_5 := n0_; have HO_435002 := n1_; have HO_435003 := n2_; have HO_445002 := n3_; have HO_445003 := n4_; have HO453 := n5_; have HO456 := n6_; have BK434 := n7_; have BK444 := n8_; have HB := n9_; have BK458 := n10_; have GW458 := n11_; have GE458 := n12_; have NB434_458 := n13_; have NB458_434 := n14_; have NB444_458 := n15_; have NB458_444 := n16_; clear n0_ n1_ n2_ n3_ n4_ n5_ n6_ n7_ n8_ n9_ n10_ n11_ n12_ n13_ n14_ n15_ n16_; clear hb hbox hg; have hnb67 := NB458_434.out; have hnc67 := NB434_458.out; have hnb68 := NB458_444.out; have hnc68 := NB444_458.out; have hcz69_0 : w66.cell? ⟨gb458, 0, none⟩ = some (.int .i64 0) := (blk_cell BK458.out 0).trans rfl; have hcz69_1 : w66.cell? ⟨gb458, 1, none⟩ = some (.int .i64 0) := (blk_cell BK458.out 1).trans rfl; have hcz69_2 : w66.cell? ⟨gb458, 2, none⟩ = some (.slice none 0 0) := (blk_cell BK458.out 2).trans rfl; have hcz69_3 : w66.cell? ⟨gb458, 3, none⟩ = some (.slice none 0 0) := (blk_cell BK458.out 3).trans rfl; have hfz69_0 := blk_frozen BK458.out 0; have hfz69_1 := blk_frozen BK458.out 1; have hfz69_2 := blk_frozen BK458.out 2; have hfz69_3 := blk_frozen BK458.out 3; obtain ⟨Ao70, co70, eo70⟩ := Kd.R_slice HO453.out; subst eo70; obtain ⟨Ao71, co71, eo71⟩ := Kd.R_slice HO456.out; subst eo71; have hnb72 := NB444_434.out; have hnc72 := NB434_444.out; have hcz73_0 : w66.cell? ⟨gb444, 0, none⟩ = some (.int .i64 t435) := (blk_cell BK444.out 0).trans rfl; have hcz73_1 : w66.cell? ⟨gb444, 1, none⟩ = some (.int .i64 t436) := (blk_cell BK444.out 1).trans rfl; have hcz73_2 : w66.cell? ⟨gb444, 2, none⟩ = some (u445002) := (blk_cell BK444.out 2).trans rfl; have hcz73_3 : w66.cell? ⟨gb444, 3, none⟩ = some (u445003) := (blk_cell BK444.out 3).trans rfl; have hfz73_0 := blk_frozen BK444.out 0; have hfz73_1 := blk_frozen BK444.out 1; have hfz73_2 := blk_frozen BK444.out 2; have hfz73_3 := blk_frozen BK444.out 3; obtain ⟨Ao74, co74, eo74⟩ := Kd.R_slice HO_445002.out; subst eo74; obtain ⟨Ao75, co75, eo75⟩ := Kd.R_slice HO_445003.out; subst eo75) | ((with_reducible refine gate_callee (f := 33) rfl ?_); refine goesL_ (some 76) rfl rfl Try.func33 (by kernel_rfl) rfl #[.agg #[.int .i64 t449, .int .i64 t450, .slice Ao70 t451.length co70, .slice Ao71 t454.length co71], .agg #[.int .i64 t435, .int .i64 t436, .slice Ao74 x445002_3.length co74, .slice Ao75 x445003_3.length co75]] rfl (by (try simp only [List.map_toArray, List.map_cons, List.map_nil]); first | done | rfl | (simp only [List.length_drop, List.length_take]; rfl)) ?_; (with_reducible refine (heraldlaw08_packed.calls t449 t450 _ _ t451 _ _ t454 t435 t436 _ _ x445002_3 _ _ x445003_3 t459 _ ?side1 ?side2 ?side3 ?side4 ?side5 ?side6 ?side7 ?side8 A64.out).mono ?_); (case side1 => refine (Kd.R_reads' (e := 5) (base := w.heap.size) (ok := fun k_ => ((((some k_ ≠ (.slice Ao71 t454.length co71 : Value).ownBlock ∧ some k_ ≠ (u435002 : Value).ownBlock) ∧ some k_ ≠ (u435003 : Value).ownBlock) ∧ some k_ ≠ (.slice Ao74 x445002_3.length co74 : Value).ownBlock) ∧ some k_ ≠ (.slice Ao75 x445003_3.length co75 : Value).ownBlock)) (n := t451.length) (c := co70) ?_).2.2; exact (by (with_reducible repeat (first | apply Kd.R_alloc | apply Kd.R_drewN | apply Kd.R_drew)); exact (Kd.R_mono (Kd.R_far (p := ⟨gb458, 3, none⟩) (Kd.R_far (p := ⟨gb458, 2, none⟩) (Kd.R_far (p := ⟨gb458, 1, none⟩) (Kd.R_far (p := ⟨gb458, 0, none⟩) (Kd.R_types HO453.out BK458.out (by decide)) (fun _ hk => hk.2) (.int .i64 t449)) (fun _ hk => hk.2) (.int .i64 t450)) (fun _ hk => hk.2) (.slice Ao70 t451.length co70)) (fun _ hk => hk.2) (.slice Ao71 t454.length co71)) (fun _ h_ => h_.1)))); (case side2 => exact (Kd.R_reads' HO453.out).2.1); (case side3 => refine (Kd.R_reads' (e := 5) (base := w.heap.size) (ok := fun k_ => ((((some k_ ≠ (.slice Ao70 t451.length co70 : Value).ownBlock ∧ some k_ ≠ (u435002 : Value).ownBlock) ∧ some k_ ≠ (u435003 : Value).ownBlock) ∧ some k_ ≠ (.slice Ao74 x445002_3.length co74 : Value).ownBlock) ∧ some k_ ≠ (.slice Ao75 x445003_3.length co75 : Value).ownBlock)) (n := t454.length) (c := co71) ?_).2.2; exact (by (with_reducible repeat (first | apply Kd.R_alloc | apply Kd.R_drewN | apply Kd.R_drew)); exact (Kd.R_mono (Kd.R_far (p := ⟨gb458, 3, none⟩) (Kd.R_far (p := ⟨gb458, 2, none⟩) (Kd.R_far (p := ⟨gb458, 1, none⟩) (Kd.R_far (p := ⟨gb458, 0, none⟩) (Kd.R_types HO456.out BK458.out (by decide)) (fun _ hk => hk.2) (.int .i64 t449)) (fun _ hk => hk.2) (.int .i64 t450)) (fun _ hk => hk.2) (.slice Ao70 t451.length co70)) (fun _ hk => hk.2) (.slice Ao71 t454.length co71)) (fun _ h_ => h_.1)))); (case side4 => exact (Kd.R_reads' HO456.out).2.1); (case side5 => refine (Kd.R_reads' (e := 5) (base := w.heap.size) (ok := fun k_ => (((some k_ ≠ (u435002 : Value).ownBlock ∧ (some k_ ≠ (u435003 : Value).ownBlock ∧ some k_ ≠ (.slice Ao75 x445003_3.length co75 : Value).ownBlock)) ∧ some k_ ≠ (.slice Ao70 t451.length co70 : Value).ownBlock) ∧ some k_ ≠ (.slice Ao71 t454.length co71 : Value).ownBlock)) (n := x445002_3.length) (c := co74) ?_).2.2; exact (by (with_reducible repeat (first | apply Kd.R_alloc | apply Kd.R_drewN | apply Kd.R_drew)); exact (Kd.R_mono (Kd.R_far (p := ⟨gb458, 3, none⟩) (Kd.R_far (p := ⟨gb458, 2, none⟩) (Kd.R_far (p := ⟨gb458, 1, none⟩) (Kd.R_far (p := ⟨gb458, 0, none⟩) (Kd.R_types HO_445002.out BK458.out (by decide)) (fun _ hk => hk.2) (.int .i64 t449)) (fun _ hk => hk.2) (.int .i64 t450)) (fun _ hk => hk.2) (.slice Ao70 t451.length co70)) (fun _ hk => hk.2) (.slice Ao71 t454.length co71)) (fun _ h_ => h_.1)))); (case side6 => exact (Kd.R_reads' HO_445002.out).2.1); (case side7 => refine (Kd.R_reads' (e := 5) (base := w.heap.size) (ok := fun k_ => (((some k_ ≠ (u435002 : Value).ownBlock ∧ (some k_ ≠ (u435003 : Value).ownBlock ∧ some k_ ≠ (.slice Ao74 x445002_3.length co74 : Value).ownBlock)) ∧ some k_ ≠ (.slice Ao70 t451.length co70 : Value).ownBlock) ∧ some k_ ≠ (.slice Ao71 t454.length co71 : Value).ownBlock)) (n := x445003_3.length) (c := co75) ?_).2.2; exact (by (with_reducible repeat (first | apply Kd.R_alloc | apply Kd.R_drewN | apply Kd.R_drew)); exact (Kd.R_mono (Kd.R_far (p := ⟨gb458, 3, none⟩) (Kd.R_far (p := ⟨gb458, 2, none⟩) (Kd.R_far (p := ⟨gb458, 1, none⟩) (Kd.R_far (p := ⟨gb458, 0, none⟩) (Kd.R_types HO_445003.out BK458.out (by decide)) (fun _ hk => hk.2) (.int .i64 t449)) (fun _ hk => hk.2) (.int .i64 t450)) (fun _ hk => hk.2) (.slice Ao70 t451.length co70)) (fun _ hk => hk.2) (.slice Ao71 t454.length co71)) (fun _ h_ => h_.1)))); (case side8 => exact (Kd.R_reads' HO_445003.out).2.1); rintro e w76 ⟨rfl, hb⟩; refine ⟨_, rfl, ?_⟩; have n0_ := Aside0.mk (Kd.R_below (by (with_reducible repeat (first | apply Kd.R_alloc | apply Kd.R_drewN | apply Kd.R_drew)); exact (Kd.R_mono (Kd.R_far (p := ⟨gb458, 3, none⟩) (Kd.R_far (p := ⟨gb458, 2, none⟩) (Kd.R_far (p := ⟨gb458, 1, none⟩) (Kd.R_far (p := ⟨gb458, 0, none⟩) (Kd.R_types HO_5.out BK458.out (by decide)) (fun _ hk => hk.2) (.int .i64 t449)) (fun _ hk => hk.2) (.int .i64 t450)) (fun _ hk => hk.2) (.slice Ao70 t451.length co70)) (fun _ hk => hk.2) (.slice Ao71 t454.length co71)) (fun _ h_ => h_.1))) hb); have n1_ := Aside0.mk (Kd.R_below (by (with_reducible repeat (first | apply Kd.R_alloc | apply Kd.R_drewN | apply Kd.R_drew)); exact (Kd.R_mono (Kd.R_far (p := ⟨gb458, 3, none⟩) (Kd.R_far (p := ⟨gb458, 2, none⟩) (Kd.R_far (p := ⟨gb458, 1, none⟩) (Kd.R_far (p := ⟨gb458, 0, none⟩) (Kd.R_types HO_435002.out BK458.out (by decide)) (fun _ hk => hk.2) (.int .i64 t449)) (fun _ hk => hk.2) (.int .i64 t450)) (fun _ hk => hk.2) (.slice Ao70 t451.length co70)) (fun _ hk => hk.2) (.slice Ao71 t454.length co71)) (fun _ h_ => h_.1))) hb); have n2_ := Aside0.mk (Kd.R_below (by (with_reducible repeat (first | apply Kd.R_alloc | apply Kd.R_drewN | apply Kd.R_drew)); exact (Kd.R_mono (Kd.R_far (p := ⟨gb458, 3, none⟩) (Kd.R_far (p := ⟨gb458, 2, none⟩) (Kd.R_far (p := ⟨gb458, 1, none⟩) (Kd.R_far (p := ⟨gb458, 0, none⟩) (Kd.R_types HO_435003.out BK458.out (by decide)) (fun _ hk => hk.2) (.int .i64 t449)) (fun _ hk => hk.2) (.int .i64 t450)) (fun _ hk => hk.2) (.slice Ao70 t451.length co70)) (fun _ hk => hk.2) (.slice Ao71 t454.length co71)) (fun _ h_ => h_.1))) hb); have n3_ := Aside0.mk (Kd.R_below (by (with_reducible repeat (first | apply Kd.R_alloc | apply Kd.R_drewN | apply Kd.R_drew)); exact (Kd.R_mono (Kd.R_far (p := ⟨gb458, 3, none⟩) (Kd.R_far (p := ⟨gb458, 2, none⟩) (Kd.R_far (p := ⟨gb458, 1, none⟩) (Kd.R_far (p := ⟨gb458, 0, none⟩) (Kd.R_types HO_445002.out BK458.out (by decide)) (fun _ hk => hk.2) (.int .i64 t449)) (fun _ hk => hk.2) (.int .i64 t450)) (fun _ hk => hk.2) (.slice Ao70 t451.length co70)) (fun _ hk => hk.2) (.slice Ao71 t454.length co71)) (fun _ h_ => h_.1))) hb); have n4_ := Aside0.mk (Kd.R_below (by (with_reducible repeat (first | apply Kd.R_alloc | apply Kd.R_drewN | apply Kd.R_drew)); exact (Kd.R_mono (Kd.R_far (p := ⟨gb458, 3, none⟩) (Kd.R_far (p := ⟨gb458, 2, none⟩) (Kd.R_far (p := ⟨gb458, 1, none⟩) (Kd.R_far (p := ⟨gb458, 0, none⟩) (Kd.R_types HO_445003.out BK458.out (by decide)) (fun _ hk => hk.2) (.int .i64 t449)) (fun _ hk => hk.2) (.int .i64 t450)) (fun _ hk => hk.2) (.slice Ao70 t451.length co70)) (fun _ hk => hk.2) (.slice Ao71 t454.length co71)) (fun _ h_ => h_.1))) hb); have n5_ := Aside0.mk (Kd.R_below (by (with_reducible repeat (first | apply Kd.R_alloc | apply Kd.R_drewN | apply Kd.R_drew)); exact (Kd.R_mono (Kd.R_far (p := ⟨gb458, 3, none⟩) (Kd.R_far (p := ⟨gb458, 2, none⟩) (Kd.R_far (p := ⟨gb458, 1, none⟩) (Kd.R_far (p := ⟨gb458, 0, none⟩) (Kd.R_types HO453.out BK458.out (by decide)) (fun _ hk => hk.2) (.int .i64 t449)) (fun _ hk => hk.2) (.int .i64 t450)) (fun _ hk => hk.2) (.slice Ao70 t451.length co70)) (fun _ hk => hk.2) (.slice Ao71 t454.length co71)) (fun _ h_ => h_.1))) hb); have n6_ := Aside0.mk (Kd.R_below (by (with_reducible repeat (first | apply Kd.R_alloc | apply Kd.R_drewN | apply Kd.R_drew)); exact (Kd.R_mono (Kd.R_far (p := ⟨gb458, 3, none⟩) (Kd.R_far (p := ⟨gb458, 2, none⟩) (Kd.R_far (p := ⟨gb458, 1, none⟩) (Kd.R_far (p := ⟨gb458, 0, none⟩) (Kd.R_types HO456.out BK458.out (by decide)) (fun _ hk => hk.2) (.int .i64 t449)) (fun _ hk => hk.2) (.int .i64 t450)) (fun _ hk => hk.2) (.slice Ao70 t451.length co70)) (fun _ hk => hk.2) (.slice Ao71 t454.length co71)) (fun _ h_ => h_.1))) hb); have n7_ := Aside0.mk (blk_below (g := gb434) (o := .cells #[.int .i64 t425, .int .i64 t426, u435002, u435003] 62 (0, 0)) (by (with_reducible repeat (first | refine blk_drewN ?_ _ | refine blk_drew ?_ | refine blk_alloc ?_ _)); refine blk_far ?_ NB434_458.out _; (with_reducible repeat (first | refine blk_drewN ?_ _ | refine blk_drew ?_ | refine blk_alloc ?_ _)); refine blk_far ?_ NB434_458.out _; (with_reducible repeat (first | refine blk_drewN ?_ _ | refine blk_drew ?_ | refine blk_alloc ?_ _)); refine blk_far ?_ NB434_458.out _; (with_reducible repeat (first | refine blk_drewN ?_ _ | refine blk_drew ?_ | refine blk_alloc ?_ _)); refine blk_far ?_ NB434_458.out _; (with_reducible repeat (first | refine blk_drewN ?_ _ | refine blk_drew ?_ | refine blk_alloc ?_ _)); exact BK434.out) hb); have n8_ := Aside0.mk (blk_below (g := gb444) (o := .cells #[.int .i64 t435, .int .i64 t436, .slice Ao74 x445002_3.length co74, .slice Ao75 x445003_3.length co75] 63 (0, 0)) (by (with_reducible repeat (first | refine blk_drewN ?_ _ | refine blk_drew ?_ | refine blk_alloc ?_ _)); refine blk_far ?_ NB444_458.out _; (with_reducible repeat (first | refine blk_drewN ?_ _ | refine blk_drew ?_ | refine blk_alloc ?_ _)); refine blk_far ?_ NB444_458.out _; (with_reducible repeat (first | refine blk_drewN ?_ _ | refine blk_drew ?_ | refine blk_alloc ?_ _)); refine blk_far ?_ NB444_458.out _; (with_reducible repeat (first | refine blk_drewN ?_ _ | refine blk_drew ?_ | refine blk_alloc ?_ _)); refine blk_far ?_ NB444_458.out _; (with_reducible repeat (first | refine blk_drewN ?_ _ | refine blk_drew ?_ | refine blk_alloc ?_ _)); exact BK444.out) hb); have n9_ := Aside0.mk (blk_below (g := gb458) (o := .cells #[.int .i64 t449, .int .i64 t450, .slice Ao70 t451.length co70, .slice Ao71 t454.length co71] 62 (0, 0)) (by (with_reducible repeat (first | refine blk_drewN ?_ _ | refine blk_drew ?_ | refine blk_alloc ?_ _)); refine blk_put (cs := #[.int .i64 t449, .int .i64 t450, .slice Ao70 t451.length co70, .slice none 0 0]) ?_ 3 _ rfl; (with_reducible repeat (first | refine blk_drewN ?_ _ | refine blk_drew ?_ | refine blk_alloc ?_ _)); refine blk_put (cs := #[.int .i64 t449, .int .i64 t450, .slice none 0 0, .slice none 0 0]) ?_ 2 _ rfl; (with_reducible repeat (first | refine blk_drewN ?_ _ | refine blk_drew ?_ | refine blk_alloc ?_ _)); refine blk_put (cs := #[.int .i64 t449, .int .i64 0, .slice none 0 0, .slice none 0 0]) ?_ 1 _ rfl; (with_reducible repeat (first | refine blk_drewN ?_ _ | refine blk_drew ?_ | refine blk_alloc ?_ _)); refine blk_put (cs := #[.int .i64 0, .int .i64 0, .slice none 0 0, .slice none 0 0]) ?_ 0 _ rfl; (with_reducible repeat (first | refine blk_drewN ?_ _ | refine blk_drew ?_ | refine blk_alloc ?_ _)); exact BK458.out) hb); have n10_ := Aside0.mk (below_step (by repeat (first | (with_reducible first | exact HB.out | apply below_alloc | apply pw_below_drewN | apply below_drew1 | refine below_set ?_ GE434.out | refine below_set ?_ GE444.out | refine below_set ?_ GE458.out) | exact HB.out)) hb); clear HO_5; clear HO_435002; clear HO_435003; clear HO_445002; clear HO_445003; clear HO453; clear HO456; clear BK434; clear BK444; clear BK458; clear HB; have HO_5 := n0_; have HO_435002 := n1_; have HO_435003 := n2_; have HO_445002 := n3_; have HO_445003 := n4_; have HO453 := n5_; have HO456 := n6_; have BK434 := n7_; have BK444 := n8_; have BK458 := n9_; have HB := n10_; clear n0_ n1_ n2_ n3_ n4_ n5_ n6_ n7_ n8_ n9_ n10_; (try clear hb); (try clear hb2); (try clear hk); (try clear hi)))
            go_ret
            exact ⟨by first | rfl | (simp [errW_none, errW_some] <;> rfl) | (simp [*, errW_none, errW_some] <;> rfl), by repeat (first | (with_reducible first | exact HB.out | apply below_alloc | apply pw_below_drewN | apply below_drew1 | refine below_set ?_ GE434.out | refine below_set ?_ GE444.out | refine below_set ?_ GE458.out) | exact HB.out)⟩
  ·
   rw [if_neg c5] at H
   exact absurd H (by simp)
 ·
  replace c4 := Bool.eq_false_iff.mpr c4
  subst c4
  have H1 : (some false) = some r := by rw [if_neg (show ¬ (false = true) by decide)] at H; exact H
  clear H
  have H := H1
  clear H1
  obtain rfl := Option.some.inj H
  go_enter Try.func8, Try.ntmps8
  go_wp2_with (first | ((with_reducible refine gate_callee (f := 13) rfl ?_); refine goesL_ (some 14) rfl rfl Try.func13 (by kernel_rfl) rfl #[] rfl (by (try simp only [List.map_toArray, List.map_cons, List.map_nil]); first | done | rfl | (simp only [List.length_drop, List.length_take]; rfl)) ?_; (with_reducible refine (heraldlaw08_awake.calls k  false _ A3.out).mono ?_); rintro e w77 ⟨rfl, hb⟩; refine ⟨_, rfl, ?_⟩; have n0_ := Aside0.mk (below_step (by repeat (first | (with_reducible first | exact HB.out | apply below_alloc | apply pw_below_drewN | apply below_drew1) | exact HB.out)) hb); clear HB; have HB := n0_; clear n0_; (try clear hb); (try clear hb2); (try clear hk); (try clear hi)))
  go_ret
  exact ⟨by first | rfl | (simp [errW_none, errW_some] <;> rfl) | (simp [*, errW_none, errW_some] <;> rfl), by repeat (first | (with_reducible first | exact HB.out | apply below_alloc | apply pw_below_drewN | apply below_drew1) | exact HB.out)⟩

/-- THE ONE PURE STATEMENT of heraldlaw08_VecPacks: yours. -/
def heraldlaw08_VecPacks.Pure : Prop := ∀ (l0 : List Int) (a1 : Int), l0.length ≤ maxLen → l0.length * 1 ≤ 140737488351232 → (∀ x ∈ l0, (Lit.int .i8 x).wf = true) → (Lit.int .i64 a1).wf = true → ∃ k, heraldlaw08_VecPacks.f k l0 a1 = some true
theorem heraldlaw08_VecPacks.walk (P : heraldlaw08_VecPacks.Pure) (a0 : Option Addr) (len0 cap0 : Nat) (z0 : List Int) (a1 : Int) (w : World) (w0 : (a0 = none ∧ len0 = 0 ∧ cap0 = 0 ∧ z0 = []) ∨ ∃ x, a0 = some x ∧ len0 ≤ cap0 ∧ cap0 ≤ maxLen ∧ z0.length = cap0 ∧ (∀ i, i < z0.length → w.cell? (x.add i) = some (.int .i8 (z0.getD i 0))) ∧ ∀ n ∈ z0, (Lit.int .i8 n).wf = true) (y0 : len0 * 1 ≤ 140737488351232) (w1 : (Lit.int .i64 a1).wf = true) :
    Calls Try.prog 8 #[.slice a0 len0 cap0, .int .i64 a1] w fun e w' => e = .returned (.bool true) ∧ Below w.heap.size w w' := by
 obtain ⟨l0, rfl, hr0, hm0, hw0, hc0⟩ := ReadsInt.ofRowC w0
 obtain ⟨k, h⟩ := P l0 a1 hm0 y0 hw0 w1
 refine (heraldlaw08_VecPacks.calls k _ _ l0 a1 true w (Kd.C_of_reads (d := (0 : Int)) (h1 := fun _ => rfl) hr0) hc0 h).mono ?_
 rintro e w' ⟨rfl, hd⟩
 exact ⟨rfl, hd⟩

end Go.Proofs.Ytigfodkakefhcaa.P
