/-
  No cell of these rows narrows 'for every input' (looked for: loops, veiled, ifaces, maps, wideKeys, modest, calm, conditions, laid).
  DERIVED. THE GIVEN ROWS OF THIS SEAT. 6 by the template 'for every input the law returns true; each argument reads behind the call as it read before'; 0 by the template 'total and deterministic' (their statements: YtcdhbikginpogaaTotals.lean).
  GIVEN WITH THE SEED: the statements are not yours to turn. If you find one false, say at which input.
  Laid BY PROGRAM, IN A SANDBOX (cutbox-rows.mjs): the forced cells as the released guide's own fill.sh prints them over the translation 197735e84f636c00… (all of the seat's roots in one cut). By AI agents, Wed Nov 11 2026. No macro, syntax, notation, axiom, sorry.
-/
import Derived.Test.YtcdhbikginpogaaChecked
import GoSem.Claim
import GoSem.ClaimJoined
import GoSem.ClaimMapViews
import Derived.JoinedTies
import Derived.KernelRfl
namespace Go.Proofs.Ytcdhbikginpogaa
/- THE CELL 'sum', in the pinned program and in every row, IS THE sha256 OF THE DUMP (.gsa) THAT YtcdhbikginpogaaProg.lean LOADS. Nothing in Lean hashes anything: it is a label: what it is worth is what the hold of that sum in a sandbox is worth. -/
noncomputable def Try.pinned : Pinned := { name := "ytcdhbikginpogaa", sum := "197735e84f636c006971cf756fa722c22aa56a2e312b3aade8e97b514db7ddd7", checked := Try.checked }
namespace Rows
def none {H : Type} : Left H := { results := [], args := [] }

/-- 'barscanlaw36.ThresholdCounts': WHATEVER THE INPUT: true; the input reads as it did. -/
def thresholdCountsSpec : ChangeSpec := { name := "thresholdCounts", fn := fun _ => fun
  | [d] => { results := [.lit (.bool true)], args := [d] }
  | _ => none }
def thresholdCountsRow : OpenClaim := { program := "ytcdhbikginpogaa", sum := "197735e84f636c006971cf756fa722c22aa56a2e312b3aade8e97b514db7ddd7", func := "barscan/barscanlaw36.ThresholdCounts", spec := "thresholdCounts", apart := false }
def ThresholdCountsSaid : Prop := thresholdCountsRow.holds Try.pinned (OpenSpec.ofChange thresholdCountsSpec)

/-- ITS FALSE NEIGHBOUR: 'it returns false'. Refute it at one input. -/
def thresholdCountsWrong : ChangeSpec := { name := "thresholdCounts", fn := fun _ => fun
  | [d] => { results := [.lit (.bool false)], args := [d] }
  | _ => none }
def ThresholdCountsWrongFalsely : Prop := thresholdCountsRow.holds Try.pinned (OpenSpec.ofChange thresholdCountsWrong)

/-- 'barscanlaw36.ThresholdGlobal': WHATEVER THE INPUT: true; the input reads as it did. -/
def thresholdGlobalSpec : ChangeSpec := { name := "thresholdGlobal", fn := fun _ => fun
  | [d1, d2] => { results := [.lit (.bool true)], args := [d1, d2] }
  | _ => none }
def thresholdGlobalRow : OpenClaim := { program := "ytcdhbikginpogaa", sum := "197735e84f636c006971cf756fa722c22aa56a2e312b3aade8e97b514db7ddd7", func := "barscan/barscanlaw36.ThresholdGlobal", spec := "thresholdGlobal", apart := false }
def ThresholdGlobalSaid : Prop := thresholdGlobalRow.holds Try.pinned (OpenSpec.ofChange thresholdGlobalSpec)

/-- ITS FALSE NEIGHBOUR: 'it returns false'. Refute it at one input. -/
def thresholdGlobalWrong : ChangeSpec := { name := "thresholdGlobal", fn := fun _ => fun
  | [d1, d2] => { results := [.lit (.bool false)], args := [d1, d2] }
  | _ => none }
def ThresholdGlobalWrongFalsely : Prop := thresholdGlobalRow.holds Try.pinned (OpenSpec.ofChange thresholdGlobalWrong)

/-- 'barscanlaw36.ThresholdLocal': WHATEVER THE INPUT: true; the input reads as it did. -/
def thresholdLocalSpec : ChangeSpec := { name := "thresholdLocal", fn := fun _ => fun
  | [d1, d2, d3] => { results := [.lit (.bool true)], args := [d1, d2, d3] }
  | _ => none }
def thresholdLocalRow : OpenClaim := { program := "ytcdhbikginpogaa", sum := "197735e84f636c006971cf756fa722c22aa56a2e312b3aade8e97b514db7ddd7", func := "barscan/barscanlaw36.ThresholdLocal", spec := "thresholdLocal", apart := false }
def ThresholdLocalSaid : Prop := thresholdLocalRow.holds Try.pinned (OpenSpec.ofChange thresholdLocalSpec)

/-- ITS FALSE NEIGHBOUR: 'it returns false'. Refute it at one input. -/
def thresholdLocalWrong : ChangeSpec := { name := "thresholdLocal", fn := fun _ => fun
  | [d1, d2, d3] => { results := [.lit (.bool false)], args := [d1, d2, d3] }
  | _ => none }
def ThresholdLocalWrongFalsely : Prop := thresholdLocalRow.holds Try.pinned (OpenSpec.ofChange thresholdLocalWrong)

/-- 'barscanlaw36.ThresholdOptimal': WHATEVER THE INPUT: true; the input reads as it did. -/
def thresholdOptimalSpec : ChangeSpec := { name := "thresholdOptimal", fn := fun _ => fun
  | [d1, d2] => { results := [.lit (.bool true)], args := [d1, d2] }
  | _ => none }
def thresholdOptimalRow : OpenClaim := { program := "ytcdhbikginpogaa", sum := "197735e84f636c006971cf756fa722c22aa56a2e312b3aade8e97b514db7ddd7", func := "barscan/barscanlaw36.ThresholdOptimal", spec := "thresholdOptimal", apart := false }
def ThresholdOptimalSaid : Prop := thresholdOptimalRow.holds Try.pinned (OpenSpec.ofChange thresholdOptimalSpec)

/-- ITS FALSE NEIGHBOUR: 'it returns false'. Refute it at one input. -/
def thresholdOptimalWrong : ChangeSpec := { name := "thresholdOptimal", fn := fun _ => fun
  | [d1, d2] => { results := [.lit (.bool false)], args := [d1, d2] }
  | _ => none }
def ThresholdOptimalWrongFalsely : Prop := thresholdOptimalRow.holds Try.pinned (OpenSpec.ofChange thresholdOptimalWrong)

/-- 'barscanlaw36.ThresholdTwo': WHATEVER THE INPUT: true; the input reads as it did. -/
def thresholdTwoSpec : ChangeSpec := { name := "thresholdTwo", fn := fun _ => fun
  | [d1, d2, d3] => { results := [.lit (.bool true)], args := [d1, d2, d3] }
  | _ => none }
def thresholdTwoRow : OpenClaim := { program := "ytcdhbikginpogaa", sum := "197735e84f636c006971cf756fa722c22aa56a2e312b3aade8e97b514db7ddd7", func := "barscan/barscanlaw36.ThresholdTwo", spec := "thresholdTwo", apart := false }
def ThresholdTwoSaid : Prop := thresholdTwoRow.holds Try.pinned (OpenSpec.ofChange thresholdTwoSpec)

/-- ITS FALSE NEIGHBOUR: 'it returns false'. Refute it at one input. -/
def thresholdTwoWrong : ChangeSpec := { name := "thresholdTwo", fn := fun _ => fun
  | [d1, d2, d3] => { results := [.lit (.bool false)], args := [d1, d2, d3] }
  | _ => none }
def ThresholdTwoWrongFalsely : Prop := thresholdTwoRow.holds Try.pinned (OpenSpec.ofChange thresholdTwoWrong)

/-- 'barscanlaw36.ThresholdGrows': WHATEVER THE INPUT: true; the input reads as it did. -/
def thresholdGrowsSpec : ChangeSpec := { name := "thresholdGrows", fn := fun _ => fun
  | [d1, d2, d3] => { results := [.lit (.bool true)], args := [d1, d2, d3] }
  | _ => none }
def thresholdGrowsRow : OpenClaim := { program := "ytcdhbikginpogaa", sum := "197735e84f636c006971cf756fa722c22aa56a2e312b3aade8e97b514db7ddd7", func := "barscan/barscanlaw36.ThresholdGrows", spec := "thresholdGrows", apart := false }
def ThresholdGrowsSaid : Prop := thresholdGrowsRow.holds Try.pinned (OpenSpec.ofChange thresholdGrowsSpec)

/-- ITS FALSE NEIGHBOUR: 'it returns false'. Refute it at one input. -/
def thresholdGrowsWrong : ChangeSpec := { name := "thresholdGrows", fn := fun _ => fun
  | [d1, d2, d3] => { results := [.lit (.bool false)], args := [d1, d2, d3] }
  | _ => none }
def ThresholdGrowsWrongFalsely : Prop := thresholdGrowsRow.holds Try.pinned (OpenSpec.ofChange thresholdGrowsWrong)

/- THE SECOND FORM. 'bulk': how many values and letters a reading holds, each counted each time it is reached (what is shared counts as often as it is met; a slice's spare places count too). A statement '..UptoSaid' is the law's where the arguments, and the package variables that the reading takes, are together of bulk at most 1048576: NARROWER than '..Said'. Prove '..Said' where nothing that the law and all that it calls make is longer than what came in: it says more and counts as full. Else prove '..UptoSaid'. A law counts once. -/
mutual
def uptoBulk {H : Type} : DataW H → Nat
  | .lit (.string bytes) => bytes.length + 1
  | .lit _ => 1
  | .nil => 1
  | .ptr d => uptoBulk d + 1
  | .slice elems spare => uptoBulkAll elems + uptoBulkAll spare + 1
  | .agg parts => uptoBulkAll parts + 1
  | .iface _ d => uptoBulk d + 1
  | .map entries => uptoBulkEntries entries + 1
  | .held _ => 1
def uptoBulkAll {H : Type} : List (DataW H) → Nat
  | [] => 0
  | d :: r => uptoBulk d + uptoBulkAll r
def uptoBulkEntries {H : Type} : List (Lit × DataW H) → Nat
  | [] => 0
  | x :: r => uptoBulkEntry x + uptoBulkEntries r
def uptoBulkEntry {H : Type} : Lit × DataW H → Nat
  | (.string bytes, d) => bytes.length + uptoBulk d + 1
  | (_, d) => uptoBulk d + 1
 end
def uptoSmall : (H : Type) → List (DataW H) → Bool := fun _ ds => decide (uptoBulkAll ds ≤ 1048576)
def OpenSpec.upto (s : _root_.Go.ChangeSpec) : _root_.Go.OpenSpec := { _root_.Go.OpenSpec.ofChange s with cond := some uptoSmall }

/-- 'barscanlaw36.ThresholdCounts', WHERE WHAT IT READS IS OF BULK AT MOST 1048576: true; the input reads as it did. -/
def thresholdCountsUptoRow : OpenClaim := { program := "ytcdhbikginpogaa", sum := "197735e84f636c006971cf756fa722c22aa56a2e312b3aade8e97b514db7ddd7", func := "barscan/barscanlaw36.ThresholdCounts", spec := "thresholdCounts", apart := false, narrowed := true }
def ThresholdCountsUptoSaid : Prop := thresholdCountsUptoRow.holds Try.pinned (OpenSpec.upto thresholdCountsSpec)

/-- 'barscanlaw36.ThresholdGlobal', WHERE WHAT IT READS IS OF BULK AT MOST 1048576: true; the input reads as it did. -/
def thresholdGlobalUptoRow : OpenClaim := { program := "ytcdhbikginpogaa", sum := "197735e84f636c006971cf756fa722c22aa56a2e312b3aade8e97b514db7ddd7", func := "barscan/barscanlaw36.ThresholdGlobal", spec := "thresholdGlobal", apart := false, narrowed := true }
def ThresholdGlobalUptoSaid : Prop := thresholdGlobalUptoRow.holds Try.pinned (OpenSpec.upto thresholdGlobalSpec)

/-- 'barscanlaw36.ThresholdLocal', WHERE WHAT IT READS IS OF BULK AT MOST 1048576: true; the input reads as it did. -/
def thresholdLocalUptoRow : OpenClaim := { program := "ytcdhbikginpogaa", sum := "197735e84f636c006971cf756fa722c22aa56a2e312b3aade8e97b514db7ddd7", func := "barscan/barscanlaw36.ThresholdLocal", spec := "thresholdLocal", apart := false, narrowed := true }
def ThresholdLocalUptoSaid : Prop := thresholdLocalUptoRow.holds Try.pinned (OpenSpec.upto thresholdLocalSpec)

/-- 'barscanlaw36.ThresholdOptimal', WHERE WHAT IT READS IS OF BULK AT MOST 1048576: true; the input reads as it did. -/
def thresholdOptimalUptoRow : OpenClaim := { program := "ytcdhbikginpogaa", sum := "197735e84f636c006971cf756fa722c22aa56a2e312b3aade8e97b514db7ddd7", func := "barscan/barscanlaw36.ThresholdOptimal", spec := "thresholdOptimal", apart := false, narrowed := true }
def ThresholdOptimalUptoSaid : Prop := thresholdOptimalUptoRow.holds Try.pinned (OpenSpec.upto thresholdOptimalSpec)

/-- 'barscanlaw36.ThresholdTwo', WHERE WHAT IT READS IS OF BULK AT MOST 1048576: true; the input reads as it did. -/
def thresholdTwoUptoRow : OpenClaim := { program := "ytcdhbikginpogaa", sum := "197735e84f636c006971cf756fa722c22aa56a2e312b3aade8e97b514db7ddd7", func := "barscan/barscanlaw36.ThresholdTwo", spec := "thresholdTwo", apart := false, narrowed := true }
def ThresholdTwoUptoSaid : Prop := thresholdTwoUptoRow.holds Try.pinned (OpenSpec.upto thresholdTwoSpec)

/-- 'barscanlaw36.ThresholdGrows', WHERE WHAT IT READS IS OF BULK AT MOST 1048576: true; the input reads as it did. -/
def thresholdGrowsUptoRow : OpenClaim := { program := "ytcdhbikginpogaa", sum := "197735e84f636c006971cf756fa722c22aa56a2e312b3aade8e97b514db7ddd7", func := "barscan/barscanlaw36.ThresholdGrows", spec := "thresholdGrows", apart := false, narrowed := true }
def ThresholdGrowsUptoSaid : Prop := thresholdGrowsUptoRow.holds Try.pinned (OpenSpec.upto thresholdGrowsSpec)

end Rows
end Go.Proofs.Ytcdhbikginpogaa
