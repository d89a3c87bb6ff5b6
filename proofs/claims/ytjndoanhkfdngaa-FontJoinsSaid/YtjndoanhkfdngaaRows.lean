/-
  No cell of these rows narrows 'for every input' (looked for: loops, veiled, ifaces, maps, wideKeys, modest, calm, conditions, laid).
  DERIVED. THE GIVEN ROWS OF THIS SEAT. 4 by the template 'for every input the law returns true; each argument reads behind the call as it read before'; 0 by the template 'total and deterministic' (their statements: YtjndoanhkfdngaaTotals.lean).
  GIVEN WITH THE SEED: the statements are not yours to turn. If you find one false, say at which input.
  Laid BY PROGRAM, IN A SANDBOX (cutbox-rows.mjs): the forced cells as the released guide's own fill.sh prints them over the translation 52063b49757f9338… (all of the seat's roots in one cut). By AI agents, Wed Nov 11 2026. No macro, syntax, notation, axiom, sorry.
-/
import Derived.Test.YtjndoanhkfdngaaChecked
import GoSem.Claim
import GoSem.ClaimJoined
import GoSem.ClaimMapViews
import Derived.JoinedTies
import Derived.KernelRfl
namespace Go.Proofs.Ytjndoanhkfdngaa
/- THE CELL 'sum', in the pinned program and in every row, IS THE sha256 OF THE DUMP (.gsa) THAT YtjndoanhkfdngaaProg.lean LOADS. Nothing in Lean hashes anything: it is a label: what it is worth is what the hold of that sum in a sandbox is worth. -/
noncomputable def Try.pinned : Pinned := { name := "ytjndoanhkfdngaa", sum := "52063b49757f93384deebb10c4c91fb11fe736e863e3439b1de231d82e441164", checked := Try.checked }
namespace Rows
def none {H : Type} : Left H := { results := [], args := [] }

/-- 'barscanlaw47.FontDraws': WHATEVER THE INPUT: true; the input reads as it did. -/
def fontDrawsSpec : ChangeSpec := { name := "fontDraws", fn := fun _ => fun
  | [d1, d2] => { results := [.lit (.bool true)], args := [d1, d2] }
  | _ => none }
def fontDrawsRow : OpenClaim := { program := "ytjndoanhkfdngaa", sum := "52063b49757f93384deebb10c4c91fb11fe736e863e3439b1de231d82e441164", func := "barscan/barscanlaw47.FontDraws", spec := "fontDraws", apart := false }
def FontDrawsSaid : Prop := fontDrawsRow.holds Try.pinned (OpenSpec.ofChange fontDrawsSpec)

/-- ITS FALSE NEIGHBOUR: 'it returns false'. Refute it at one input. -/
def fontDrawsWrong : ChangeSpec := { name := "fontDraws", fn := fun _ => fun
  | [d1, d2] => { results := [.lit (.bool false)], args := [d1, d2] }
  | _ => none }
def FontDrawsWrongFalsely : Prop := fontDrawsRow.holds Try.pinned (OpenSpec.ofChange fontDrawsWrong)

/-- 'barscanlaw47.FontGlyphs': WHATEVER THE INPUT: true; the input reads as it did. -/
def fontGlyphsSpec : ChangeSpec := { name := "fontGlyphs", fn := fun _ => fun
  | [d1, d2] => { results := [.lit (.bool true)], args := [d1, d2] }
  | _ => none }
def fontGlyphsRow : OpenClaim := { program := "ytjndoanhkfdngaa", sum := "52063b49757f93384deebb10c4c91fb11fe736e863e3439b1de231d82e441164", func := "barscan/barscanlaw47.FontGlyphs", spec := "fontGlyphs", apart := false }
def FontGlyphsSaid : Prop := fontGlyphsRow.holds Try.pinned (OpenSpec.ofChange fontGlyphsSpec)

/-- ITS FALSE NEIGHBOUR: 'it returns false'. Refute it at one input. -/
def fontGlyphsWrong : ChangeSpec := { name := "fontGlyphs", fn := fun _ => fun
  | [d1, d2] => { results := [.lit (.bool false)], args := [d1, d2] }
  | _ => none }
def FontGlyphsWrongFalsely : Prop := fontGlyphsRow.holds Try.pinned (OpenSpec.ofChange fontGlyphsWrong)

/-- 'barscanlaw47.FontShapes': WHATEVER THE INPUT: true; the input reads as it did. -/
def fontShapesSpec : ChangeSpec := { name := "fontShapes", fn := fun _ => fun
  | [d1, d2] => { results := [.lit (.bool true)], args := [d1, d2] }
  | _ => none }
def fontShapesRow : OpenClaim := { program := "ytjndoanhkfdngaa", sum := "52063b49757f93384deebb10c4c91fb11fe736e863e3439b1de231d82e441164", func := "barscan/barscanlaw47.FontShapes", spec := "fontShapes", apart := false }
def FontShapesSaid : Prop := fontShapesRow.holds Try.pinned (OpenSpec.ofChange fontShapesSpec)

/-- ITS FALSE NEIGHBOUR: 'it returns false'. Refute it at one input. -/
def fontShapesWrong : ChangeSpec := { name := "fontShapes", fn := fun _ => fun
  | [d1, d2] => { results := [.lit (.bool false)], args := [d1, d2] }
  | _ => none }
def FontShapesWrongFalsely : Prop := fontShapesRow.holds Try.pinned (OpenSpec.ofChange fontShapesWrong)

/-- 'barscanlaw47.FontJoins': WHATEVER THE INPUT: true; the input reads as it did. -/
def fontJoinsSpec : ChangeSpec := { name := "fontJoins", fn := fun _ => fun
  | [d1, d2, d3] => { results := [.lit (.bool true)], args := [d1, d2, d3] }
  | _ => none }
def fontJoinsRow : OpenClaim := { program := "ytjndoanhkfdngaa", sum := "52063b49757f93384deebb10c4c91fb11fe736e863e3439b1de231d82e441164", func := "barscan/barscanlaw47.FontJoins", spec := "fontJoins", apart := false }
def FontJoinsSaid : Prop := fontJoinsRow.holds Try.pinned (OpenSpec.ofChange fontJoinsSpec)

/-- ITS FALSE NEIGHBOUR: 'it returns false'. Refute it at one input. -/
def fontJoinsWrong : ChangeSpec := { name := "fontJoins", fn := fun _ => fun
  | [d1, d2, d3] => { results := [.lit (.bool false)], args := [d1, d2, d3] }
  | _ => none }
def FontJoinsWrongFalsely : Prop := fontJoinsRow.holds Try.pinned (OpenSpec.ofChange fontJoinsWrong)

/- THE SECOND FORM. 'bulk': how many values and letters a reading holds, each counted each time it is reached (what is shared counts as often as it is met; a slice's spare places count too). A statement '..UptoSaid' is the law's where the arguments, and the package variables that the reading takes, are together of bulk at most 1048576: NARROWER than '..Said'. Prove '..Said' where nothing that the law and all that it calls make is longer than what came in: it says more and counts as full. Else prove '..UptoSaid'. A law counts once. -/
mutual
def uptoBulk {H : Type} : DataW H → Nat
  | .lit (.string bytes) => bytes.length + 1
  | .lit _ => 1
  | .nil => 1
  | .ptr d => uptoBulk d + 1
  | .slice elems spare => uptoBulkAll elems + uptoBulkAll spare + 1
  | .agg parts => uptoBulkAll parts + 1
  | .iface _ d => uptoBulk d + 1
  | .map entries => uptoBulkEntries entries + 1
  | .held _ => 1
def uptoBulkAll {H : Type} : List (DataW H) → Nat
  | [] => 0
  | d :: r => uptoBulk d + uptoBulkAll r
def uptoBulkEntries {H : Type} : List (Lit × DataW H) → Nat
  | [] => 0
  | x :: r => uptoBulkEntry x + uptoBulkEntries r
def uptoBulkEntry {H : Type} : Lit × DataW H → Nat
  | (.string bytes, d) => bytes.length + uptoBulk d + 1
  | (_, d) => uptoBulk d + 1
 end
def uptoSmall : (H : Type) → List (DataW H) → Bool := fun _ ds => decide (uptoBulkAll ds ≤ 1048576)
def OpenSpec.upto (s : _root_.Go.ChangeSpec) : _root_.Go.OpenSpec := { _root_.Go.OpenSpec.ofChange s with cond := some uptoSmall }

/-- 'barscanlaw47.FontDraws', WHERE WHAT IT READS IS OF BULK AT MOST 1048576: true; the input reads as it did. -/
def fontDrawsUptoRow : OpenClaim := { program := "ytjndoanhkfdngaa", sum := "52063b49757f93384deebb10c4c91fb11fe736e863e3439b1de231d82e441164", func := "barscan/barscanlaw47.FontDraws", spec := "fontDraws", apart := false, narrowed := true }
def FontDrawsUptoSaid : Prop := fontDrawsUptoRow.holds Try.pinned (OpenSpec.upto fontDrawsSpec)

/-- 'barscanlaw47.FontGlyphs', WHERE WHAT IT READS IS OF BULK AT MOST 1048576: true; the input reads as it did. -/
def fontGlyphsUptoRow : OpenClaim := { program := "ytjndoanhkfdngaa", sum := "52063b49757f93384deebb10c4c91fb11fe736e863e3439b1de231d82e441164", func := "barscan/barscanlaw47.FontGlyphs", spec := "fontGlyphs", apart := false, narrowed := true }
def FontGlyphsUptoSaid : Prop := fontGlyphsUptoRow.holds Try.pinned (OpenSpec.upto fontGlyphsSpec)

/-- 'barscanlaw47.FontShapes', WHERE WHAT IT READS IS OF BULK AT MOST 1048576: true; the input reads as it did. -/
def fontShapesUptoRow : OpenClaim := { program := "ytjndoanhkfdngaa", sum := "52063b49757f93384deebb10c4c91fb11fe736e863e3439b1de231d82e441164", func := "barscan/barscanlaw47.FontShapes", spec := "fontShapes", apart := false, narrowed := true }
def FontShapesUptoSaid : Prop := fontShapesUptoRow.holds Try.pinned (OpenSpec.upto fontShapesSpec)

/-- 'barscanlaw47.FontJoins', WHERE WHAT IT READS IS OF BULK AT MOST 1048576: true; the input reads as it did. -/
def fontJoinsUptoRow : OpenClaim := { program := "ytjndoanhkfdngaa", sum := "52063b49757f93384deebb10c4c91fb11fe736e863e3439b1de231d82e441164", func := "barscan/barscanlaw47.FontJoins", spec := "fontJoins", apart := false, narrowed := true }
def FontJoinsUptoSaid : Prop := fontJoinsUptoRow.holds Try.pinned (OpenSpec.upto fontJoinsSpec)

end Rows
end Go.Proofs.Ytjndoanhkfdngaa
