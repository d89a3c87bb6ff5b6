/-
  A loop of few rounds, walked round by round. No program is named here.
-/
import Derived.Test.YtcdhbikginpogaaRgm
import Derived.LoopN
namespace Go.Eng
open Go.RowKit
section
variable {P : Program} {N : Sz} {X : List Nat} {w0 : World} {Q : Exit → Act → World → Prop} {L : List (Nat × Value)} {H : List Blk}
/-- what is asked at the head of one of the last n rounds -/
def GRo (P : Program) (N : Sz) (X : List Nat) (w0 : World) (Q : Exit → Act → World → Prop) (c : Code) (n : Nat) (L : List (Nat × Value)) (H : List Blk) : Prop :=
  ∀ a W, Fit N a L → Ow X w0 W H → Code.rounds P c Q n a W
theorem gc_loopN {c : Code} (n : Nat) (h : GRo P N X w0 Q c n L H) : GC P N X w0 Q (.loop c) L H := fun a W hF hO => wp_loop_rounds n (h a W hF hO)
theorem gr_succ {c : Code} {n : Nat} (h : GC P N X w0 (Exit.then (Code.rounds P c Q n) Q) c L H) : GRo P N X w0 Q c (n + 1) L H := fun a W hF hO => h a W hF hO
theorem gq_rounds {c : Code} {n : Nat} (h : GRo P N X w0 Q c n L H) : GQ N X w0 (Exit.then (Code.rounds P c Q n) Q) .normal L H := fun a W hF hO => h a W hF hO
end
end Go.Eng
