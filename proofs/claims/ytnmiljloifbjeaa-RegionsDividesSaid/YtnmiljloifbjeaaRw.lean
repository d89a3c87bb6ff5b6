/-
  Structs that hold a struct are compared. No program is named here.
-/
import Derived.Test.YtnmiljloifbjeaaPb
namespace Go.Bs
open Go.RowKit Go.Eng
section
variable {P : Program} {N : Sz} {X : List Nat} {w0 : World} {L : List (Nat × Value)} {H : List Blk} {o : Oper}
def EqRun (P : Program) (d : Nat) (xs ys : Array Value) : List Field → List Bool → Prop
  | [], [] => True
  | f :: fs, b :: bs => f.name ≠ "_" ∧ (∃ u v, (∀ W, (Go.part f.type xs f.offset).run P W = .ok u W) ∧ (∀ W, (Go.part f.type ys f.offset).run P W = .ok v W) ∧ ∀ W, (Op.equalIn (d + 1) f.type u v).run P W = .ok b W) ∧ EqRun P d xs ys fs bs
  | _, _ => False
theorem eqF_runs {d : Nat} {xs ys : Array Value} {W : World} : ∀ {fs : List Field} {bs : List Bool}, EqRun P d xs ys fs bs → (Op.eqFields (d + 1) xs ys fs).run P W = .ok (bs.all id) W
  | [], [], _ => rfl
  | f :: fs, b :: bs, h => by
    obtain ⟨h1, ⟨u, v, h2, h3, h4⟩, h5⟩ := h
    have ih := eqF_runs (W := W) h5
    unfold Op.eqFields
    rw [if_pos h1]
    simp only [Sem.run_bind, h2, h3, Result.andThen_ok, h4]
    cases b <;> simp [ih]
theorem eo_neA2 {t t2 : TypeId} {x y : Operand} {xs ys : Array Value} {bs : List Bool} (ho : o.op = .binOp .neq t x y t2) (hx : ev L x = some (.agg xs)) (hy : ev L y = some (.agg ys)) (hs : StEq P t) (he : EqRun P 9998 xs ys (P.fieldsOf t).toList bs) : EO P N X w0 o L H (.bool (!(bs.all id))) :=
  eo_val fun a W hF _ => by
    simp only [execOp, ho, hF.eval hx, hF.eval hy, Sem.run_bind, run_eqGuard_agg _ _ _ _ _ _ _ hs.g, Result.andThen_ok, run_neq_struct, run_equalIn_agg _ 9999 _ _ _ hs.u hs.h, eqF_runs he, Sem.run_pure]
theorem eq_inner {t : TypeId} {xs ys : Array Value} {as bs : List Int} (hs : StEq P t) (he : EqOk P xs ys (P.fieldsOf t).toList as bs) (W : World) : (Op.equalIn 9999 t (.agg xs) (.agg ys)).run P W = .ok (as == bs) W := by
  rw [run_equalIn_agg _ 9998 _ _ _ hs.u hs.h]
  exact eqF_ints he
end
end Go.Bs
