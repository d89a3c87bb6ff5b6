/-
  No cell of these rows narrows 'for every input' (looked for: loops, veiled, ifaces, maps, wideKeys, modest, calm, conditions, laid).
  DERIVED. THE GIVEN ROWS OF THIS SEAT. 5 by the template 'for every input the law returns true; each argument reads behind the call as it read before'; 0 by the template 'total and deterministic' (their statements: YtnmiljloifbjeaaTotals.lean).
  GIVEN WITH THE SEED: the statements are not yours to turn. If you find one false, say at which input.
  Laid BY PROGRAM, IN A SANDBOX (cutbox-rows.mjs): the forced cells as the released guide's own fill.sh prints them over the translation 9a76a289dd6c3f0e… (all of the seat's roots in one cut). By AI agents, Wed Nov 11 2026. No macro, syntax, notation, axiom, sorry.
-/
import Derived.Test.YtnmiljloifbjeaaChecked
import GoSem.Claim
import GoSem.ClaimJoined
import GoSem.ClaimMapViews
import Derived.JoinedTies
import Derived.KernelRfl
namespace Go.Proofs.Ytnmiljloifbjeaa
/- THE CELL 'sum', in the pinned program and in every row, IS THE sha256 OF THE DUMP (.gsa) THAT YtnmiljloifbjeaaProg.lean LOADS. Nothing in Lean hashes anything: it is a label: what it is worth is what the hold of that sum in a sandbox is worth. -/
noncomputable def Try.pinned : Pinned := { name := "ytnmiljloifbjeaa", sum := "9a76a289dd6c3f0ed21b2ce2fc1580a5e03113a66b53ea9ec3a79951ccf0f5fb", checked := Try.checked }
namespace Rows
def none {H : Type} : Left H := { results := [], args := [] }

/-- 'barscanlaw46.RegionsDivides': WHATEVER THE INPUT: true; the input reads as it did. -/
def regionsDividesSpec : ChangeSpec := { name := "regionsDivides", fn := fun _ => fun
  | [d1, d2, d3] => { results := [.lit (.bool true)], args := [d1, d2, d3] }
  | _ => none }
def regionsDividesRow : OpenClaim := { program := "ytnmiljloifbjeaa", sum := "9a76a289dd6c3f0ed21b2ce2fc1580a5e03113a66b53ea9ec3a79951ccf0f5fb", func := "barscan/barscanlaw46.RegionsDivides", spec := "regionsDivides", unfollowed := true, recurses := true, apart := false }
def RegionsDividesSaid : Prop := regionsDividesRow.holds Try.pinned (OpenSpec.ofChange regionsDividesSpec)

/-- ITS FALSE NEIGHBOUR: 'it returns false'. Refute it at one input. -/
def regionsDividesWrong : ChangeSpec := { name := "regionsDivides", fn := fun _ => fun
  | [d1, d2, d3] => { results := [.lit (.bool false)], args := [d1, d2, d3] }
  | _ => none }
def RegionsDividesWrongFalsely : Prop := regionsDividesRow.holds Try.pinned (OpenSpec.ofChange regionsDividesWrong)

/-- 'barscanlaw46.RegionsSmoothed': WHATEVER THE INPUT: true; the input reads as it did. -/
def regionsSmoothedSpec : ChangeSpec := { name := "regionsSmoothed", fn := fun _ => fun
  | [d1, d2] => { results := [.lit (.bool true)], args := [d1, d2] }
  | _ => none }
def regionsSmoothedRow : OpenClaim := { program := "ytnmiljloifbjeaa", sum := "9a76a289dd6c3f0ed21b2ce2fc1580a5e03113a66b53ea9ec3a79951ccf0f5fb", func := "barscan/barscanlaw46.RegionsSmoothed", spec := "regionsSmoothed", unfollowed := true, recurses := true, apart := false }
def RegionsSmoothedSaid : Prop := regionsSmoothedRow.holds Try.pinned (OpenSpec.ofChange regionsSmoothedSpec)

/-- ITS FALSE NEIGHBOUR: 'it returns false'. Refute it at one input. -/
def regionsSmoothedWrong : ChangeSpec := { name := "regionsSmoothed", fn := fun _ => fun
  | [d1, d2] => { results := [.lit (.bool false)], args := [d1, d2] }
  | _ => none }
def RegionsSmoothedWrongFalsely : Prop := regionsSmoothedRow.holds Try.pinned (OpenSpec.ofChange regionsSmoothedWrong)

/-- 'barscanlaw46.RegionsSmooths': WHATEVER THE INPUT: true; the input reads as it did. -/
def regionsSmoothsSpec : ChangeSpec := { name := "regionsSmooths", fn := fun _ => fun
  | [d1, d2] => { results := [.lit (.bool true)], args := [d1, d2] }
  | _ => none }
def regionsSmoothsRow : OpenClaim := { program := "ytnmiljloifbjeaa", sum := "9a76a289dd6c3f0ed21b2ce2fc1580a5e03113a66b53ea9ec3a79951ccf0f5fb", func := "barscan/barscanlaw46.RegionsSmooths", spec := "regionsSmooths", unfollowed := true, recurses := true, apart := false }
def RegionsSmoothsSaid : Prop := regionsSmoothsRow.holds Try.pinned (OpenSpec.ofChange regionsSmoothsSpec)

/-- ITS FALSE NEIGHBOUR: 'it returns false'. Refute it at one input. -/
def regionsSmoothsWrong : ChangeSpec := { name := "regionsSmooths", fn := fun _ => fun
  | [d1, d2] => { results := [.lit (.bool false)], args := [d1, d2] }
  | _ => none }
def RegionsSmoothsWrongFalsely : Prop := regionsSmoothsRow.holds Try.pinned (OpenSpec.ofChange regionsSmoothsWrong)

/-- 'barscanlaw46.RegionsGaps': WHATEVER THE INPUT: true; the input reads as it did. -/
def regionsGapsSpec : ChangeSpec := { name := "regionsGaps", fn := fun _ => fun
  | [d1, d2, d3] => { results := [.lit (.bool true)], args := [d1, d2, d3] }
  | _ => none }
def regionsGapsRow : OpenClaim := { program := "ytnmiljloifbjeaa", sum := "9a76a289dd6c3f0ed21b2ce2fc1580a5e03113a66b53ea9ec3a79951ccf0f5fb", func := "barscan/barscanlaw46.RegionsGaps", spec := "regionsGaps", unfollowed := true, recurses := true, apart := false }
def RegionsGapsSaid : Prop := regionsGapsRow.holds Try.pinned (OpenSpec.ofChange regionsGapsSpec)

/-- ITS FALSE NEIGHBOUR: 'it returns false'. Refute it at one input. -/
def regionsGapsWrong : ChangeSpec := { name := "regionsGaps", fn := fun _ => fun
  | [d1, d2, d3] => { results := [.lit (.bool false)], args := [d1, d2, d3] }
  | _ => none }
def RegionsGapsWrongFalsely : Prop := regionsGapsRow.holds Try.pinned (OpenSpec.ofChange regionsGapsWrong)

/-- 'barscanlaw46.RegionsCuts': WHATEVER THE INPUT: true; the input reads as it did. -/
def regionsCutsSpec : ChangeSpec := { name := "regionsCuts", fn := fun _ => fun
  | [d1, d2, d3] => { results := [.lit (.bool true)], args := [d1, d2, d3] }
  | _ => none }
def regionsCutsRow : OpenClaim := { program := "ytnmiljloifbjeaa", sum := "9a76a289dd6c3f0ed21b2ce2fc1580a5e03113a66b53ea9ec3a79951ccf0f5fb", func := "barscan/barscanlaw46.RegionsCuts", spec := "regionsCuts", unfollowed := true, recurses := true, apart := false }
def RegionsCutsSaid : Prop := regionsCutsRow.holds Try.pinned (OpenSpec.ofChange regionsCutsSpec)

/-- ITS FALSE NEIGHBOUR: 'it returns false'. Refute it at one input. -/
def regionsCutsWrong : ChangeSpec := { name := "regionsCuts", fn := fun _ => fun
  | [d1, d2, d3] => { results := [.lit (.bool false)], args := [d1, d2, d3] }
  | _ => none }
def RegionsCutsWrongFalsely : Prop := regionsCutsRow.holds Try.pinned (OpenSpec.ofChange regionsCutsWrong)

/- THE SECOND FORM. 'bulk': how many values and letters a reading holds, each counted each time it is reached (what is shared counts as often as it is met; a slice's spare places count too). A statement '..UptoSaid' is the law's where the arguments, and the package variables that the reading takes, are together of bulk at most 1048576: NARROWER than '..Said'. Prove '..Said' where nothing that the law and all that it calls make is longer than what came in: it says more and counts as full. Else prove '..UptoSaid'. A law counts once. -/
mutual
def uptoBulk {H : Type} : DataW H → Nat
  | .lit (.string bytes) => bytes.length + 1
  | .lit _ => 1
  | .nil => 1
  | .ptr d => uptoBulk d + 1
  | .slice elems spare => uptoBulkAll elems + uptoBulkAll spare + 1
  | .agg parts => uptoBulkAll parts + 1
  | .iface _ d => uptoBulk d + 1
  | .map entries => uptoBulkEntries entries + 1
  | .held _ => 1
def uptoBulkAll {H : Type} : List (DataW H) → Nat
  | [] => 0
  | d :: r => uptoBulk d + uptoBulkAll r
def uptoBulkEntries {H : Type} : List (Lit × DataW H) → Nat
  | [] => 0
  | x :: r => uptoBulkEntry x + uptoBulkEntries r
def uptoBulkEntry {H : Type} : Lit × DataW H → Nat
  | (.string bytes, d) => bytes.length + uptoBulk d + 1
  | (_, d) => uptoBulk d + 1
 end
def uptoSmall : (H : Type) → List (DataW H) → Bool := fun _ ds => decide (uptoBulkAll ds ≤ 1048576)
def OpenSpec.upto (s : _root_.Go.ChangeSpec) : _root_.Go.OpenSpec := { _root_.Go.OpenSpec.ofChange s with cond := some uptoSmall }

/-- 'barscanlaw46.RegionsDivides', WHERE WHAT IT READS IS OF BULK AT MOST 1048576: true; the input reads as it did. -/
def regionsDividesUptoRow : OpenClaim := { program := "ytnmiljloifbjeaa", sum := "9a76a289dd6c3f0ed21b2ce2fc1580a5e03113a66b53ea9ec3a79951ccf0f5fb", func := "barscan/barscanlaw46.RegionsDivides", spec := "regionsDivides", unfollowed := true, recurses := true, apart := false, narrowed := true }
def RegionsDividesUptoSaid : Prop := regionsDividesUptoRow.holds Try.pinned (OpenSpec.upto regionsDividesSpec)

/-- 'barscanlaw46.RegionsSmoothed', WHERE WHAT IT READS IS OF BULK AT MOST 1048576: true; the input reads as it did. -/
def regionsSmoothedUptoRow : OpenClaim := { program := "ytnmiljloifbjeaa", sum := "9a76a289dd6c3f0ed21b2ce2fc1580a5e03113a66b53ea9ec3a79951ccf0f5fb", func := "barscan/barscanlaw46.RegionsSmoothed", spec := "regionsSmoothed", unfollowed := true, recurses := true, apart := false, narrowed := true }
def RegionsSmoothedUptoSaid : Prop := regionsSmoothedUptoRow.holds Try.pinned (OpenSpec.upto regionsSmoothedSpec)

/-- 'barscanlaw46.RegionsSmooths', WHERE WHAT IT READS IS OF BULK AT MOST 1048576: true; the input reads as it did. -/
def regionsSmoothsUptoRow : OpenClaim := { program := "ytnmiljloifbjeaa", sum := "9a76a289dd6c3f0ed21b2ce2fc1580a5e03113a66b53ea9ec3a79951ccf0f5fb", func := "barscan/barscanlaw46.RegionsSmooths", spec := "regionsSmooths", unfollowed := true, recurses := true, apart := false, narrowed := true }
def RegionsSmoothsUptoSaid : Prop := regionsSmoothsUptoRow.holds Try.pinned (OpenSpec.upto regionsSmoothsSpec)

/-- 'barscanlaw46.RegionsGaps', WHERE WHAT IT READS IS OF BULK AT MOST 1048576: true; the input reads as it did. -/
def regionsGapsUptoRow : OpenClaim := { program := "ytnmiljloifbjeaa", sum := "9a76a289dd6c3f0ed21b2ce2fc1580a5e03113a66b53ea9ec3a79951ccf0f5fb", func := "barscan/barscanlaw46.RegionsGaps", spec := "regionsGaps", unfollowed := true, recurses := true, apart := false, narrowed := true }
def RegionsGapsUptoSaid : Prop := regionsGapsUptoRow.holds Try.pinned (OpenSpec.upto regionsGapsSpec)

/-- 'barscanlaw46.RegionsCuts', WHERE WHAT IT READS IS OF BULK AT MOST 1048576: true; the input reads as it did. -/
def regionsCutsUptoRow : OpenClaim := { program := "ytnmiljloifbjeaa", sum := "9a76a289dd6c3f0ed21b2ce2fc1580a5e03113a66b53ea9ec3a79951ccf0f5fb", func := "barscan/barscanlaw46.RegionsCuts", spec := "regionsCuts", unfollowed := true, recurses := true, apart := false, narrowed := true }
def RegionsCutsUptoSaid : Prop := regionsCutsUptoRow.holds Try.pinned (OpenSpec.upto regionsCutsSpec)

end Rows
end Go.Proofs.Ytnmiljloifbjeaa
