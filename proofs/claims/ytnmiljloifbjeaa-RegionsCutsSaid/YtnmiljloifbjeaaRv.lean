/-
  For the walks of the document's division of a page. No program is named here.
-/
import Derived.Test.YtnmiljloifbjeaaRu
namespace Go.Bs
open Go.RowKit Go.Eng
section
variable {P : Program} {N : Sz} {X : List Nat} {w0 : World} {o : Oper} {L : List (Nat × Value)} {H : List Blk}
/-- append of a list that a call made to one that an earlier call made -/
theorem xo_joinA {t e : TypeId} {z : Value} {sz bytes : Nat} {x y : Operand} {s s2 : AS} {n m n' : Nat} {xs news ys : List Value} (F : List Blk) (hH : H = ([] ++ s2.blks e news) ++ (F ++ ([] ++ s.blks e xs)))
    (ho : o.op = .call { callee := .builtin .append, args := #[x, y], argTypes := #[t, t] }) (ht : P.underlying t = some (.slice e)) (he : TyEN P e z sz bytes)
    (hx : ev L x = some (s.val n)) (hs : s.Ok sz n xs) (hy : ev L y = some (s2.val m)) (hs2 : s2.Ok sz m news) (h1 : ∀ u ∈ news, u.oneCell' = true)
    (hn : n + m = n') (hys : xs ++ news = ys) (h63 : n' ≤ maxLen) (hb : n' * bytes ≤ 140737488355328) : XO P N X w0 o L H (RApp (s2.blks e news ++ F) e sz n' ys) := by
  have hH2 : H = (s2.blks e news ++ F) ++ s.blks e xs := by rw [hH]; simp
  refine xo_appT (s2.blks e news ++ F) hH2 ho ht he hx hs (hy.trans (congrArg some (AS.val_eq hs2))) hs2.len (fun W hO => ?_) h1 hn hys h63 hb
  rw [hH2, List.append_assoc] at hO
  exact AS.reads (F := []) hs2 (own_app hO).1
end
section
variable {f : Nat → Bool} {W H gx gy : Int} {k : Nat} {b p q : Bx}
theorem div_join (hnz : bxS f W b ≠ 0) (sq : Sq f W H gx gy k (redB f W b) p q) : divL f W gx gy (k + 1) b = divL f W gx gy k p ++ divL f W gx gy k q := by
  rw [div_some hnz, sq.cut, div_some (hasD_no sq.sp.pin sq.sp.pd), div_some (hasD_no sq.sp.qin sq.sp.qd)]
  rfl
theorem div_one (hnz : bxS f W b ≠ 0) (h : isLf f W gx gy (redB f W b)) : divL f W gx gy (k + 1) b = [redB f W b] := by
  rw [div_some hnz, div_leaf h]
  rfl
theorem div_zero (h : BIn W H b) (hk : b.W + b.H ≤ 0) : bxS f W b = 0 := by
  have := bxS_bd (f := f) h
  have w0 := h.w0
  have h0 := h.h0
  rw [show b.W = 0 by omega, Int.zero_mul] at this
  omega
end
end Go.Bs
