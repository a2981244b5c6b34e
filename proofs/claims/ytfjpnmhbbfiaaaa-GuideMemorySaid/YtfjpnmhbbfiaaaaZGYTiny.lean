/- What a walk's steps prove alike, told once: the proofs lie in the premises' own words. No conditions. -/
import Derived.Test.YtfjpnmhbbfiaaaaZGYShort
import Derived.Test.YtfjpnmhbbfiaaaaZGYSteps
import Derived.Test.YtfjpnmhbbfiaaaaZGYWTab
namespace Go.Proofs.Ytfjpnmhbbfiaaaa.P
open Go Go.RowKit Go.Proofs.YtfjpnmhbbfiaaaaW.PrintWords Go.Proofs.YtfjpnmhbbfiaaaaW.PrintLast Go.Proofs.YtfjpnmhbbfiaaaaW.PrintMore
set_option linter.unusedVariables false
theorem yb {p : Prop} (h : p := by repeat (first | (with_reducible first | exact HB.out | apply y3 | refine ys ?_ (Aside0.out (by assumption))) | exact HB.out)) : p := h
theorem yc {q p : Prop} (B : Aside0 q) (h : q → p := by intro hq_; (with_reducible repeat refine y4 ?_); exact hq_) : p := h B.out
theorem y5 {p : Prop} (h : p := by first | (with_reducible assumption) | assumption) : p := h
theorem y6 {p : Prop} (h : p := by (try simp only [List.map_toArray, List.map_cons, List.map_nil]); first | done | rfl | (simp only [List.length_drop, List.length_take]; rfl)) : p := h
theorem y7 {p : Prop} (h : p := by first | rfl | (simp; done) | (simp [*]; done)) : p := h
theorem y9 {q p : Prop} (H : Aside0 q) (h : Aside0 q → p := by intro HR_; repeat (first | exact (Kd.C_below HR_.out HB.out) | (with_reducible refine yi ?_ _) | (with_reducible refine yj ?_ _) | (with_reducible refine yk ?_))) : p := h H
theorem y8 {p : Prop} (h : p := by kernel_rfl) : p := h
variable {P : Program} {ops : Array Oper} {Q : Exit → Act → World → Prop} {md : Region.Mode} {S : World → Prop} {ds : List Nat} {T : Bool × List (List Nat × List Nat)} {B : List Nat}
theorem zk {i : Nat} {N : Option Tmp} {oi : Oper} {fuel : Nat} {l l' : Array Bool} {a : Act} {w : World} {a' : Act} (HT : Aside0 (rtab md ops = T)) (h : wpAnyLast P md ops Q S ds fuel l' a' w) (hi : ops[i]? = some oi := by exact rfl) (hN : oi.dst = N := by exact rfl) (hl : l.setIfInBounds i true = l' := by simp only [y0]; rfl) (hc : anyT T l.toList l'.toList i = true := by kernel_rfl)
    (hQ : ∀ c a w, Q (.panic c) (a.put oi.dst undef) w → Q (.panic c) a w := by exact fun _ _ _ h => h) (hw : Region.wanted oi (yielded ops a.tmps) = false := by rfl) (ha : a.put N undef = a' := by simp only [Act.put, y0, y1]; rfl) : wpAnyLast P md ops Q S ds (fuel + 1) l a w := sk_ HT hi hN hl hc hQ hw ha h
theorem zt {i : Nat} {N : Option Tmp} {oi : Oper} {v : Value} {fuel : Nat} {l l' : Array Bool} {a : Act} {w : World} {a' : Act} (HT : Aside0 (rtab md ops = T)) (h : wpAnyLast P md ops Q S ds fuel l' a' w) (hi : ops[i]? = some oi := by exact rfl) (hN : oi.dst = N := by exact rfl) (hl : l.setIfInBounds i true = l' := by simp only [y0]; rfl) (hc : anyT T l.toList l'.toList i = true := by kernel_rfl)
    (hQ : ∀ c a w, Q (.panic c) (a.put oi.dst v) w → Q (.panic c) a w := by exact fun _ _ _ h => h) (hw : Region.wanted oi (yielded ops a.tmps) = true := by rfl) (hv : ∀ w, (execOp a.eval oi).run P w = .ok (.value v) w := by intro w'; go_simp; with_reducible rfl) (ha : a.put N v = a' := by simp only [Act.put, y0, y1]; rfl) : wpAnyLast P md ops Q S ds (fuel + 1) l a w := st_ HT hi hN hl hc hQ hw hv ha h
theorem zw {i : Nat} {N : Option Tmp} {oi : Oper} {v : Value} {fuel : Nat} {l l' : Array Bool} {a : Act} {w : World} {a' : Act} (HT : Aside0 (rtab md ops = T)) (HW : Aside0 (waitsOk T.2 B = true)) (hS : S w) (h : wpAnyLast P md ops Q S ds fuel l' a' w) (hi : ops[i]? = some oi := by exact rfl) (hN : oi.dst = N := by exact rfl) (hl : l.setIfInBounds i true = l' := by simp only [y0]; rfl) (hc : takeW T B ds l.toList l'.toList i = true := by kernel_rfl)
    (hQ : ∀ c a w, Q (.panic c) (a.put oi.dst v) w → Q (.panic c) a w := by exact fun _ _ _ h => h) (hw : Region.wanted oi (yielded ops a.tmps) = true := by rfl) (hv : ∀ w, S w → (execOp a.eval oi).run P w = .ok (.value v) w) (ha : a.put N v = a' := by simp only [Act.put, y0, y1]; rfl) : wpAnyLast P md ops Q S ds (fuel + 1) l a w := tk_ HT HW hi hN hl hc hQ hS hw hv ha h
end Go.Proofs.Ytfjpnmhbbfiaaaa.P
