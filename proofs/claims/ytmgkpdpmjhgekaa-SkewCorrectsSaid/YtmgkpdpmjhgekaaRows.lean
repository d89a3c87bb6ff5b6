/-
  No cell of these rows narrows 'for every input' (looked for: loops, veiled, ifaces, maps, wideKeys, modest, calm, conditions, laid).
  DERIVED. THE GIVEN ROWS OF THIS SEAT. 8 by the template 'for every input the law returns true; each argument reads behind the call as it read before'; 0 by the template 'total and deterministic' (their statements: YtmgkpdpmjhgekaaTotals.lean).
  GIVEN WITH THE SEED: the statements are not yours to turn. If you find one false, say at which input.
  Laid BY PROGRAM, IN A SANDBOX (cutbox-rows.mjs): the forced cells as the released guide's own fill.sh prints them over the translation debb58a2bc586571… (all of the seat's roots in one cut). By AI agents, Wed Nov 11 2026. No macro, syntax, notation, axiom, sorry.
-/
import Derived.Test.YtmgkpdpmjhgekaaChecked
import GoSem.Claim
import GoSem.ClaimJoined
import GoSem.ClaimMapViews
import Derived.JoinedTies
import Derived.KernelRfl
namespace Go.Proofs.Ytmgkpdpmjhgekaa
/- THE CELL 'sum', in the pinned program and in every row, IS THE sha256 OF THE DUMP (.gsa) THAT YtmgkpdpmjhgekaaProg.lean LOADS. Nothing in Lean hashes anything: it is a label: what it is worth is what the hold of that sum in a sandbox is worth. -/
noncomputable def Try.pinned : Pinned := { name := "ytmgkpdpmjhgekaa", sum := "debb58a2bc586571ea88205b7198d339f4279f5b3d154829e95f9aa78c09dd8d", checked := Try.checked }
namespace Rows
def none {H : Type} : Left H := { results := [], args := [] }

/-- 'barscanlaw45.SkewShears': WHATEVER THE INPUT: true; the input reads as it did. -/
def skewShearsSpec : ChangeSpec := { name := "skewShears", fn := fun _ => fun
  | [d1, d2, d3] => { results := [.lit (.bool true)], args := [d1, d2, d3] }
  | _ => none }
def skewShearsRow : OpenClaim := { program := "ytmgkpdpmjhgekaa", sum := "debb58a2bc586571ea88205b7198d339f4279f5b3d154829e95f9aa78c09dd8d", func := "barscan/barscanlaw45.SkewShears", spec := "skewShears", apart := false }
def SkewShearsSaid : Prop := skewShearsRow.holds Try.pinned (OpenSpec.ofChange skewShearsSpec)

/-- ITS FALSE NEIGHBOUR: 'it returns false'. Refute it at one input. -/
def skewShearsWrong : ChangeSpec := { name := "skewShears", fn := fun _ => fun
  | [d1, d2, d3] => { results := [.lit (.bool false)], args := [d1, d2, d3] }
  | _ => none }
def SkewShearsWrongFalsely : Prop := skewShearsRow.holds Try.pinned (OpenSpec.ofChange skewShearsWrong)

/-- 'barscanlaw45.SkewEnergies': WHATEVER THE INPUT: true; the input reads as it did. -/
def skewEnergiesSpec : ChangeSpec := { name := "skewEnergies", fn := fun _ => fun
  | [d1, d2, d3] => { results := [.lit (.bool true)], args := [d1, d2, d3] }
  | _ => none }
def skewEnergiesRow : OpenClaim := { program := "ytmgkpdpmjhgekaa", sum := "debb58a2bc586571ea88205b7198d339f4279f5b3d154829e95f9aa78c09dd8d", func := "barscan/barscanlaw45.SkewEnergies", spec := "skewEnergies", apart := false }
def SkewEnergiesSaid : Prop := skewEnergiesRow.holds Try.pinned (OpenSpec.ofChange skewEnergiesSpec)

/-- ITS FALSE NEIGHBOUR: 'it returns false'. Refute it at one input. -/
def skewEnergiesWrong : ChangeSpec := { name := "skewEnergies", fn := fun _ => fun
  | [d1, d2, d3] => { results := [.lit (.bool false)], args := [d1, d2, d3] }
  | _ => none }
def SkewEnergiesWrongFalsely : Prop := skewEnergiesRow.holds Try.pinned (OpenSpec.ofChange skewEnergiesWrong)

/-- 'barscanlaw45.SkewEstimates': WHATEVER THE INPUT: true; the input reads as it did. -/
def skewEstimatesSpec : ChangeSpec := { name := "skewEstimates", fn := fun _ => fun
  | [d1, d2, d3] => { results := [.lit (.bool true)], args := [d1, d2, d3] }
  | _ => none }
def skewEstimatesRow : OpenClaim := { program := "ytmgkpdpmjhgekaa", sum := "debb58a2bc586571ea88205b7198d339f4279f5b3d154829e95f9aa78c09dd8d", func := "barscan/barscanlaw45.SkewEstimates", spec := "skewEstimates", apart := false }
def SkewEstimatesSaid : Prop := skewEstimatesRow.holds Try.pinned (OpenSpec.ofChange skewEstimatesSpec)

/-- ITS FALSE NEIGHBOUR: 'it returns false'. Refute it at one input. -/
def skewEstimatesWrong : ChangeSpec := { name := "skewEstimates", fn := fun _ => fun
  | [d1, d2, d3] => { results := [.lit (.bool false)], args := [d1, d2, d3] }
  | _ => none }
def SkewEstimatesWrongFalsely : Prop := skewEstimatesRow.holds Try.pinned (OpenSpec.ofChange skewEstimatesWrong)

/-- 'barscanlaw45.SkewDeskews': WHATEVER THE INPUT: true; the input reads as it did. -/
def skewDeskewsSpec : ChangeSpec := { name := "skewDeskews", fn := fun _ => fun
  | [d1, d2, d3] => { results := [.lit (.bool true)], args := [d1, d2, d3] }
  | _ => none }
def skewDeskewsRow : OpenClaim := { program := "ytmgkpdpmjhgekaa", sum := "debb58a2bc586571ea88205b7198d339f4279f5b3d154829e95f9aa78c09dd8d", func := "barscan/barscanlaw45.SkewDeskews", spec := "skewDeskews", apart := false }
def SkewDeskewsSaid : Prop := skewDeskewsRow.holds Try.pinned (OpenSpec.ofChange skewDeskewsSpec)

/-- ITS FALSE NEIGHBOUR: 'it returns false'. Refute it at one input. -/
def skewDeskewsWrong : ChangeSpec := { name := "skewDeskews", fn := fun _ => fun
  | [d1, d2, d3] => { results := [.lit (.bool false)], args := [d1, d2, d3] }
  | _ => none }
def SkewDeskewsWrongFalsely : Prop := skewDeskewsRow.holds Try.pinned (OpenSpec.ofChange skewDeskewsWrong)

/-- 'barscanlaw45.SkewCorrects': WHATEVER THE INPUT: true; the input reads as it did. -/
def skewCorrectsSpec : ChangeSpec := { name := "skewCorrects", fn := fun _ => fun
  | [d1, d2, d3, d4] => { results := [.lit (.bool true)], args := [d1, d2, d3, d4] }
  | _ => none }
def skewCorrectsRow : OpenClaim := { program := "ytmgkpdpmjhgekaa", sum := "debb58a2bc586571ea88205b7198d339f4279f5b3d154829e95f9aa78c09dd8d", func := "barscan/barscanlaw45.SkewCorrects", spec := "skewCorrects", apart := false }
def SkewCorrectsSaid : Prop := skewCorrectsRow.holds Try.pinned (OpenSpec.ofChange skewCorrectsSpec)

/-- ITS FALSE NEIGHBOUR: 'it returns false'. Refute it at one input. -/
def skewCorrectsWrong : ChangeSpec := { name := "skewCorrects", fn := fun _ => fun
  | [d1, d2, d3, d4] => { results := [.lit (.bool false)], args := [d1, d2, d3, d4] }
  | _ => none }
def SkewCorrectsWrongFalsely : Prop := skewCorrectsRow.holds Try.pinned (OpenSpec.ofChange skewCorrectsWrong)

/-- 'barscanlaw45.SkewMaximal': WHATEVER THE INPUT: true; the input reads as it did. -/
def skewMaximalSpec : ChangeSpec := { name := "skewMaximal", fn := fun _ => fun
  | [d1, d2, d3, d4] => { results := [.lit (.bool true)], args := [d1, d2, d3, d4] }
  | _ => none }
def skewMaximalRow : OpenClaim := { program := "ytmgkpdpmjhgekaa", sum := "debb58a2bc586571ea88205b7198d339f4279f5b3d154829e95f9aa78c09dd8d", func := "barscan/barscanlaw45.SkewMaximal", spec := "skewMaximal", apart := false }
def SkewMaximalSaid : Prop := skewMaximalRow.holds Try.pinned (OpenSpec.ofChange skewMaximalSpec)

/-- ITS FALSE NEIGHBOUR: 'it returns false'. Refute it at one input. -/
def skewMaximalWrong : ChangeSpec := { name := "skewMaximal", fn := fun _ => fun
  | [d1, d2, d3, d4] => { results := [.lit (.bool false)], args := [d1, d2, d3, d4] }
  | _ => none }
def SkewMaximalWrongFalsely : Prop := skewMaximalRow.holds Try.pinned (OpenSpec.ofChange skewMaximalWrong)

/-- 'barscanlaw45.SkewProfiles': WHATEVER THE INPUT: true; the input reads as it did. -/
def skewProfilesSpec : ChangeSpec := { name := "skewProfiles", fn := fun _ => fun
  | [d] => { results := [.lit (.bool true)], args := [d] }
  | _ => none }
def skewProfilesRow : OpenClaim := { program := "ytmgkpdpmjhgekaa", sum := "debb58a2bc586571ea88205b7198d339f4279f5b3d154829e95f9aa78c09dd8d", func := "barscan/barscanlaw45.SkewProfiles", spec := "skewProfiles", apart := false }
def SkewProfilesSaid : Prop := skewProfilesRow.holds Try.pinned (OpenSpec.ofChange skewProfilesSpec)

/-- ITS FALSE NEIGHBOUR: 'it returns false'. Refute it at one input. -/
def skewProfilesWrong : ChangeSpec := { name := "skewProfiles", fn := fun _ => fun
  | [d] => { results := [.lit (.bool false)], args := [d] }
  | _ => none }
def SkewProfilesWrongFalsely : Prop := skewProfilesRow.holds Try.pinned (OpenSpec.ofChange skewProfilesWrong)

/-- 'barscanlaw45.SkewKeeps': WHATEVER THE INPUT: true; the input reads as it did. -/
def skewKeepsSpec : ChangeSpec := { name := "skewKeeps", fn := fun _ => fun
  | [d1, d2, d3] => { results := [.lit (.bool true)], args := [d1, d2, d3] }
  | _ => none }
def skewKeepsRow : OpenClaim := { program := "ytmgkpdpmjhgekaa", sum := "debb58a2bc586571ea88205b7198d339f4279f5b3d154829e95f9aa78c09dd8d", func := "barscan/barscanlaw45.SkewKeeps", spec := "skewKeeps", apart := false }
def SkewKeepsSaid : Prop := skewKeepsRow.holds Try.pinned (OpenSpec.ofChange skewKeepsSpec)

/-- ITS FALSE NEIGHBOUR: 'it returns false'. Refute it at one input. -/
def skewKeepsWrong : ChangeSpec := { name := "skewKeeps", fn := fun _ => fun
  | [d1, d2, d3] => { results := [.lit (.bool false)], args := [d1, d2, d3] }
  | _ => none }
def SkewKeepsWrongFalsely : Prop := skewKeepsRow.holds Try.pinned (OpenSpec.ofChange skewKeepsWrong)

/- THE SECOND FORM. 'bulk': how many values and letters a reading holds, each counted each time it is reached (what is shared counts as often as it is met; a slice's spare places count too). A statement '..UptoSaid' is the law's where the arguments, and the package variables that the reading takes, are together of bulk at most 1048576: NARROWER than '..Said'. Prove '..Said' where nothing that the law and all that it calls make is longer than what came in: it says more and counts as full. Else prove '..UptoSaid'. A law counts once. -/
mutual
def uptoBulk {H : Type} : DataW H → Nat
  | .lit (.string bytes) => bytes.length + 1
  | .lit _ => 1
  | .nil => 1
  | .ptr d => uptoBulk d + 1
  | .slice elems spare => uptoBulkAll elems + uptoBulkAll spare + 1
  | .agg parts => uptoBulkAll parts + 1
  | .iface _ d => uptoBulk d + 1
  | .map entries => uptoBulkEntries entries + 1
  | .held _ => 1
def uptoBulkAll {H : Type} : List (DataW H) → Nat
  | [] => 0
  | d :: r => uptoBulk d + uptoBulkAll r
def uptoBulkEntries {H : Type} : List (Lit × DataW H) → Nat
  | [] => 0
  | x :: r => uptoBulkEntry x + uptoBulkEntries r
def uptoBulkEntry {H : Type} : Lit × DataW H → Nat
  | (.string bytes, d) => bytes.length + uptoBulk d + 1
  | (_, d) => uptoBulk d + 1
 end
def uptoSmall : (H : Type) → List (DataW H) → Bool := fun _ ds => decide (uptoBulkAll ds ≤ 1048576)
def OpenSpec.upto (s : _root_.Go.ChangeSpec) : _root_.Go.OpenSpec := { _root_.Go.OpenSpec.ofChange s with cond := some uptoSmall }

/-- 'barscanlaw45.SkewShears', WHERE WHAT IT READS IS OF BULK AT MOST 1048576: true; the input reads as it did. -/
def skewShearsUptoRow : OpenClaim := { program := "ytmgkpdpmjhgekaa", sum := "debb58a2bc586571ea88205b7198d339f4279f5b3d154829e95f9aa78c09dd8d", func := "barscan/barscanlaw45.SkewShears", spec := "skewShears", apart := false, narrowed := true }
def SkewShearsUptoSaid : Prop := skewShearsUptoRow.holds Try.pinned (OpenSpec.upto skewShearsSpec)

/-- 'barscanlaw45.SkewEnergies', WHERE WHAT IT READS IS OF BULK AT MOST 1048576: true; the input reads as it did. -/
def skewEnergiesUptoRow : OpenClaim := { program := "ytmgkpdpmjhgekaa", sum := "debb58a2bc586571ea88205b7198d339f4279f5b3d154829e95f9aa78c09dd8d", func := "barscan/barscanlaw45.SkewEnergies", spec := "skewEnergies", apart := false, narrowed := true }
def SkewEnergiesUptoSaid : Prop := skewEnergiesUptoRow.holds Try.pinned (OpenSpec.upto skewEnergiesSpec)

/-- 'barscanlaw45.SkewEstimates', WHERE WHAT IT READS IS OF BULK AT MOST 1048576: true; the input reads as it did. -/
def skewEstimatesUptoRow : OpenClaim := { program := "ytmgkpdpmjhgekaa", sum := "debb58a2bc586571ea88205b7198d339f4279f5b3d154829e95f9aa78c09dd8d", func := "barscan/barscanlaw45.SkewEstimates", spec := "skewEstimates", apart := false, narrowed := true }
def SkewEstimatesUptoSaid : Prop := skewEstimatesUptoRow.holds Try.pinned (OpenSpec.upto skewEstimatesSpec)

/-- 'barscanlaw45.SkewDeskews', WHERE WHAT IT READS IS OF BULK AT MOST 1048576: true; the input reads as it did. -/
def skewDeskewsUptoRow : OpenClaim := { program := "ytmgkpdpmjhgekaa", sum := "debb58a2bc586571ea88205b7198d339f4279f5b3d154829e95f9aa78c09dd8d", func := "barscan/barscanlaw45.SkewDeskews", spec := "skewDeskews", apart := false, narrowed := true }
def SkewDeskewsUptoSaid : Prop := skewDeskewsUptoRow.holds Try.pinned (OpenSpec.upto skewDeskewsSpec)

/-- 'barscanlaw45.SkewCorrects', WHERE WHAT IT READS IS OF BULK AT MOST 1048576: true; the input reads as it did. -/
def skewCorrectsUptoRow : OpenClaim := { program := "ytmgkpdpmjhgekaa", sum := "debb58a2bc586571ea88205b7198d339f4279f5b3d154829e95f9aa78c09dd8d", func := "barscan/barscanlaw45.SkewCorrects", spec := "skewCorrects", apart := false, narrowed := true }
def SkewCorrectsUptoSaid : Prop := skewCorrectsUptoRow.holds Try.pinned (OpenSpec.upto skewCorrectsSpec)

/-- 'barscanlaw45.SkewMaximal', WHERE WHAT IT READS IS OF BULK AT MOST 1048576: true; the input reads as it did. -/
def skewMaximalUptoRow : OpenClaim := { program := "ytmgkpdpmjhgekaa", sum := "debb58a2bc586571ea88205b7198d339f4279f5b3d154829e95f9aa78c09dd8d", func := "barscan/barscanlaw45.SkewMaximal", spec := "skewMaximal", apart := false, narrowed := true }
def SkewMaximalUptoSaid : Prop := skewMaximalUptoRow.holds Try.pinned (OpenSpec.upto skewMaximalSpec)

/-- 'barscanlaw45.SkewProfiles', WHERE WHAT IT READS IS OF BULK AT MOST 1048576: true; the input reads as it did. -/
def skewProfilesUptoRow : OpenClaim := { program := "ytmgkpdpmjhgekaa", sum := "debb58a2bc586571ea88205b7198d339f4279f5b3d154829e95f9aa78c09dd8d", func := "barscan/barscanlaw45.SkewProfiles", spec := "skewProfiles", apart := false, narrowed := true }
def SkewProfilesUptoSaid : Prop := skewProfilesUptoRow.holds Try.pinned (OpenSpec.upto skewProfilesSpec)

/-- 'barscanlaw45.SkewKeeps', WHERE WHAT IT READS IS OF BULK AT MOST 1048576: true; the input reads as it did. -/
def skewKeepsUptoRow : OpenClaim := { program := "ytmgkpdpmjhgekaa", sum := "debb58a2bc586571ea88205b7198d339f4279f5b3d154829e95f9aa78c09dd8d", func := "barscan/barscanlaw45.SkewKeeps", spec := "skewKeeps", apart := false, narrowed := true }
def SkewKeepsUptoSaid : Prop := skewKeepsUptoRow.holds Try.pinned (OpenSpec.upto skewKeepsSpec)

end Rows
end Go.Proofs.Ytmgkpdpmjhgekaa
