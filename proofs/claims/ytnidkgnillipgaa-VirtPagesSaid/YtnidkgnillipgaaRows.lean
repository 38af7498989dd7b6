/-
  No cell of these rows narrows 'for every input' (looked for: loops, veiled, ifaces, maps, wideKeys, modest, calm, conditions, laid).
  DERIVED. THE GIVEN ROWS OF THIS SEAT. 10 by the template 'for every input the law returns true; each argument reads behind the call as it read before'; 0 by the template 'total and deterministic' (their statements: YtnidkgnillipgaaTotals.lean).
  GIVEN WITH THE SEED: the statements are not yours to turn. If you find one false, say at which input.
  Laid BY PROGRAM, IN A SANDBOX (cutbox-rows.mjs): the forced cells as the released guide's own fill.sh prints them over the translation ee5ad642524b370c… (all of the seat's roots in one cut). By AI agents, Wed Nov 11 2026. No macro, syntax, notation, axiom, sorry.
-/
import Derived.Test.YtnidkgnillipgaaChecked
import GoSem.Claim
import GoSem.ClaimJoined
import GoSem.ClaimMapViews
import Derived.JoinedTies
import Derived.KernelRfl
namespace Go.Proofs.Ytnidkgnillipgaa
/- THE CELL 'sum', in the pinned program and in every row, IS THE sha256 OF THE DUMP (.gsa) THAT YtnidkgnillipgaaProg.lean LOADS. Nothing in Lean hashes anything: it is a label: what it is worth is what the hold of that sum in a sandbox is worth. -/
noncomputable def Try.pinned : Pinned := { name := "ytnidkgnillipgaa", sum := "ee5ad642524b370c04aa30318d99dbbf13ffabfd43e489e1b67be5cb21a842f1", checked := Try.checked }
namespace Rows
def none {H : Type} : Left H := { results := [], args := [] }

/-- 'portreevelaw01.FieldGets': WHATEVER THE INPUT: true; the input reads as it did. -/
def fieldGetsSpec : ChangeSpec := { name := "fieldGets", fn := fun _ => fun
  | [d1, d2] => { results := [.lit (.bool true)], args := [d1, d2] }
  | _ => none }
def fieldGetsRow : OpenClaim := { program := "ytnidkgnillipgaa", sum := "ee5ad642524b370c04aa30318d99dbbf13ffabfd43e489e1b67be5cb21a842f1", func := "portreeve/portreevelaw01.FieldGets", spec := "fieldGets", apart := false }
def FieldGetsSaid : Prop := fieldGetsRow.holds Try.pinned (OpenSpec.ofChange fieldGetsSpec)

/-- ITS FALSE NEIGHBOUR: 'it returns false'. Refute it at one input. -/
def fieldGetsWrong : ChangeSpec := { name := "fieldGets", fn := fun _ => fun
  | [d1, d2] => { results := [.lit (.bool false)], args := [d1, d2] }
  | _ => none }
def FieldGetsWrongFalsely : Prop := fieldGetsRow.holds Try.pinned (OpenSpec.ofChange fieldGetsWrong)

/-- 'portreevelaw01.FieldPuts': WHATEVER THE INPUT: true; the input reads as it did. -/
def fieldPutsSpec : ChangeSpec := { name := "fieldPuts", fn := fun _ => fun
  | [d1, d2, d3] => { results := [.lit (.bool true)], args := [d1, d2, d3] }
  | _ => none }
def fieldPutsRow : OpenClaim := { program := "ytnidkgnillipgaa", sum := "ee5ad642524b370c04aa30318d99dbbf13ffabfd43e489e1b67be5cb21a842f1", func := "portreeve/portreevelaw01.FieldPuts", spec := "fieldPuts", apart := false }
def FieldPutsSaid : Prop := fieldPutsRow.holds Try.pinned (OpenSpec.ofChange fieldPutsSpec)

/-- ITS FALSE NEIGHBOUR: 'it returns false'. Refute it at one input. -/
def fieldPutsWrong : ChangeSpec := { name := "fieldPuts", fn := fun _ => fun
  | [d1, d2, d3] => { results := [.lit (.bool false)], args := [d1, d2, d3] }
  | _ => none }
def FieldPutsWrongFalsely : Prop := fieldPutsRow.holds Try.pinned (OpenSpec.ofChange fieldPutsWrong)

/-- 'portreevelaw01.FieldAligns': WHATEVER THE INPUT: true; the input reads as it did. -/
def fieldAlignsSpec : ChangeSpec := { name := "fieldAligns", fn := fun _ => fun
  | [d1, d2] => { results := [.lit (.bool true)], args := [d1, d2] }
  | _ => none }
def fieldAlignsRow : OpenClaim := { program := "ytnidkgnillipgaa", sum := "ee5ad642524b370c04aa30318d99dbbf13ffabfd43e489e1b67be5cb21a842f1", func := "portreeve/portreevelaw01.FieldAligns", spec := "fieldAligns", apart := false }
def FieldAlignsSaid : Prop := fieldAlignsRow.holds Try.pinned (OpenSpec.ofChange fieldAlignsSpec)

/-- ITS FALSE NEIGHBOUR: 'it returns false'. Refute it at one input. -/
def fieldAlignsWrong : ChangeSpec := { name := "fieldAligns", fn := fun _ => fun
  | [d1, d2] => { results := [.lit (.bool false)], args := [d1, d2] }
  | _ => none }
def FieldAlignsWrongFalsely : Prop := fieldAlignsRow.holds Try.pinned (OpenSpec.ofChange fieldAlignsWrong)

/-- 'portreevelaw05.VirtParts': WHATEVER THE INPUT: true; the input reads as it did. -/
def virtPartsSpec : ChangeSpec := { name := "virtParts", fn := fun _ => fun
  | [d1, d2] => { results := [.lit (.bool true)], args := [d1, d2] }
  | _ => none }
def virtPartsRow : OpenClaim := { program := "ytnidkgnillipgaa", sum := "ee5ad642524b370c04aa30318d99dbbf13ffabfd43e489e1b67be5cb21a842f1", func := "portreeve/portreevelaw05.VirtParts", spec := "virtParts", apart := false }
def VirtPartsSaid : Prop := virtPartsRow.holds Try.pinned (OpenSpec.ofChange virtPartsSpec)

/-- ITS FALSE NEIGHBOUR: 'it returns false'. Refute it at one input. -/
def virtPartsWrong : ChangeSpec := { name := "virtParts", fn := fun _ => fun
  | [d1, d2] => { results := [.lit (.bool false)], args := [d1, d2] }
  | _ => none }
def VirtPartsWrongFalsely : Prop := virtPartsRow.holds Try.pinned (OpenSpec.ofChange virtPartsWrong)

/-- 'portreevelaw05.VirtIndexes': WHATEVER THE INPUT: true; the input reads as it did. -/
def virtIndexesSpec : ChangeSpec := { name := "virtIndexes", fn := fun _ => fun
  | [d1, d2, d3] => { results := [.lit (.bool true)], args := [d1, d2, d3] }
  | _ => none }
def virtIndexesRow : OpenClaim := { program := "ytnidkgnillipgaa", sum := "ee5ad642524b370c04aa30318d99dbbf13ffabfd43e489e1b67be5cb21a842f1", func := "portreeve/portreevelaw05.VirtIndexes", spec := "virtIndexes", apart := false }
def VirtIndexesSaid : Prop := virtIndexesRow.holds Try.pinned (OpenSpec.ofChange virtIndexesSpec)

/-- ITS FALSE NEIGHBOUR: 'it returns false'. Refute it at one input. -/
def virtIndexesWrong : ChangeSpec := { name := "virtIndexes", fn := fun _ => fun
  | [d1, d2, d3] => { results := [.lit (.bool false)], args := [d1, d2, d3] }
  | _ => none }
def VirtIndexesWrongFalsely : Prop := virtIndexesRow.holds Try.pinned (OpenSpec.ofChange virtIndexesWrong)

/-- 'portreevelaw05.VirtLevels': WHATEVER THE INPUT: true; the input reads as it did. -/
def virtLevelsSpec : ChangeSpec := { name := "virtLevels", fn := fun _ => fun
  | [d] => { results := [.lit (.bool true)], args := [d] }
  | _ => none }
def virtLevelsRow : OpenClaim := { program := "ytnidkgnillipgaa", sum := "ee5ad642524b370c04aa30318d99dbbf13ffabfd43e489e1b67be5cb21a842f1", func := "portreeve/portreevelaw05.VirtLevels", spec := "virtLevels", apart := false }
def VirtLevelsSaid : Prop := virtLevelsRow.holds Try.pinned (OpenSpec.ofChange virtLevelsSpec)

/-- ITS FALSE NEIGHBOUR: 'it returns false'. Refute it at one input. -/
def virtLevelsWrong : ChangeSpec := { name := "virtLevels", fn := fun _ => fun
  | [d] => { results := [.lit (.bool false)], args := [d] }
  | _ => none }
def VirtLevelsWrongFalsely : Prop := virtLevelsRow.holds Try.pinned (OpenSpec.ofChange virtLevelsWrong)

/-- 'portreevelaw05.VirtLets': WHATEVER THE INPUT: true; the input reads as it did. -/
def virtLetsSpec : ChangeSpec := { name := "virtLets", fn := fun _ => fun
  | [d1, d2, d3] => { results := [.lit (.bool true)], args := [d1, d2, d3] }
  | _ => none }
def virtLetsRow : OpenClaim := { program := "ytnidkgnillipgaa", sum := "ee5ad642524b370c04aa30318d99dbbf13ffabfd43e489e1b67be5cb21a842f1", func := "portreeve/portreevelaw05.VirtLets", spec := "virtLets", apart := false }
def VirtLetsSaid : Prop := virtLetsRow.holds Try.pinned (OpenSpec.ofChange virtLetsSpec)

/-- ITS FALSE NEIGHBOUR: 'it returns false'. Refute it at one input. -/
def virtLetsWrong : ChangeSpec := { name := "virtLets", fn := fun _ => fun
  | [d1, d2, d3] => { results := [.lit (.bool false)], args := [d1, d2, d3] }
  | _ => none }
def VirtLetsWrongFalsely : Prop := virtLetsRow.holds Try.pinned (OpenSpec.ofChange virtLetsWrong)

/-- 'portreevelaw01.FieldMeets': WHATEVER THE INPUT: true; the input reads as it did. -/
def fieldMeetsSpec : ChangeSpec := { name := "fieldMeets", fn := fun _ => fun
  | [d1, d2, d3, d4] => { results := [.lit (.bool true)], args := [d1, d2, d3, d4] }
  | _ => none }
def fieldMeetsRow : OpenClaim := { program := "ytnidkgnillipgaa", sum := "ee5ad642524b370c04aa30318d99dbbf13ffabfd43e489e1b67be5cb21a842f1", func := "portreeve/portreevelaw01.FieldMeets", spec := "fieldMeets", apart := false }
def FieldMeetsSaid : Prop := fieldMeetsRow.holds Try.pinned (OpenSpec.ofChange fieldMeetsSpec)

/-- ITS FALSE NEIGHBOUR: 'it returns false'. Refute it at one input. -/
def fieldMeetsWrong : ChangeSpec := { name := "fieldMeets", fn := fun _ => fun
  | [d1, d2, d3, d4] => { results := [.lit (.bool false)], args := [d1, d2, d3, d4] }
  | _ => none }
def FieldMeetsWrongFalsely : Prop := fieldMeetsRow.holds Try.pinned (OpenSpec.ofChange fieldMeetsWrong)

/-- 'portreevelaw05.VirtFaults': WHATEVER THE INPUT: true; the input reads as it did. -/
def virtFaultsSpec : ChangeSpec := { name := "virtFaults", fn := fun _ => fun
  | [d1, d2] => { results := [.lit (.bool true)], args := [d1, d2] }
  | _ => none }
def virtFaultsRow : OpenClaim := { program := "ytnidkgnillipgaa", sum := "ee5ad642524b370c04aa30318d99dbbf13ffabfd43e489e1b67be5cb21a842f1", func := "portreeve/portreevelaw05.VirtFaults", spec := "virtFaults", apart := false }
def VirtFaultsSaid : Prop := virtFaultsRow.holds Try.pinned (OpenSpec.ofChange virtFaultsSpec)

/-- ITS FALSE NEIGHBOUR: 'it returns false'. Refute it at one input. -/
def virtFaultsWrong : ChangeSpec := { name := "virtFaults", fn := fun _ => fun
  | [d1, d2] => { results := [.lit (.bool false)], args := [d1, d2] }
  | _ => none }
def VirtFaultsWrongFalsely : Prop := virtFaultsRow.holds Try.pinned (OpenSpec.ofChange virtFaultsWrong)

/-- 'portreevelaw05.VirtPages': WHATEVER THE INPUT: true; the input reads as it did. -/
def virtPagesSpec : ChangeSpec := { name := "virtPages", fn := fun _ => fun
  | [d1, d2, d3] => { results := [.lit (.bool true)], args := [d1, d2, d3] }
  | _ => none }
def virtPagesRow : OpenClaim := { program := "ytnidkgnillipgaa", sum := "ee5ad642524b370c04aa30318d99dbbf13ffabfd43e489e1b67be5cb21a842f1", func := "portreeve/portreevelaw05.VirtPages", spec := "virtPages", apart := false }
def VirtPagesSaid : Prop := virtPagesRow.holds Try.pinned (OpenSpec.ofChange virtPagesSpec)

/-- ITS FALSE NEIGHBOUR: 'it returns false'. Refute it at one input. -/
def virtPagesWrong : ChangeSpec := { name := "virtPages", fn := fun _ => fun
  | [d1, d2, d3] => { results := [.lit (.bool false)], args := [d1, d2, d3] }
  | _ => none }
def VirtPagesWrongFalsely : Prop := virtPagesRow.holds Try.pinned (OpenSpec.ofChange virtPagesWrong)

/- THE SECOND FORM. 'bulk': how many values and letters a reading holds, each counted each time it is reached (what is shared counts as often as it is met; a slice's spare places count too). A statement '..UptoSaid' is the law's where the arguments, and the package variables that the reading takes, are together of bulk at most 1048576: NARROWER than '..Said'. Prove '..Said' where nothing that the law and all that it calls make is longer than what came in: it says more and counts as full. Else prove '..UptoSaid'. A law counts once. -/
mutual
def uptoBulk {H : Type} : DataW H → Nat
  | .lit (.string bytes) => bytes.length + 1
  | .lit _ => 1
  | .nil => 1
  | .ptr d => uptoBulk d + 1
  | .slice elems spare => uptoBulkAll elems + uptoBulkAll spare + 1
  | .agg parts => uptoBulkAll parts + 1
  | .iface _ d => uptoBulk d + 1
  | .map entries => uptoBulkEntries entries + 1
  | .held _ => 1
def uptoBulkAll {H : Type} : List (DataW H) → Nat
  | [] => 0
  | d :: r => uptoBulk d + uptoBulkAll r
def uptoBulkEntries {H : Type} : List (Lit × DataW H) → Nat
  | [] => 0
  | x :: r => uptoBulkEntry x + uptoBulkEntries r
def uptoBulkEntry {H : Type} : Lit × DataW H → Nat
  | (.string bytes, d) => bytes.length + uptoBulk d + 1
  | (_, d) => uptoBulk d + 1
 end
def uptoSmall : (H : Type) → List (DataW H) → Bool := fun _ ds => decide (uptoBulkAll ds ≤ 1048576)
def OpenSpec.upto (s : _root_.Go.ChangeSpec) : _root_.Go.OpenSpec := { _root_.Go.OpenSpec.ofChange s with cond := some uptoSmall }

/-- 'portreevelaw01.FieldGets', WHERE WHAT IT READS IS OF BULK AT MOST 1048576: true; the input reads as it did. -/
def fieldGetsUptoRow : OpenClaim := { program := "ytnidkgnillipgaa", sum := "ee5ad642524b370c04aa30318d99dbbf13ffabfd43e489e1b67be5cb21a842f1", func := "portreeve/portreevelaw01.FieldGets", spec := "fieldGets", apart := false, narrowed := true }
def FieldGetsUptoSaid : Prop := fieldGetsUptoRow.holds Try.pinned (OpenSpec.upto fieldGetsSpec)

/-- 'portreevelaw01.FieldPuts', WHERE WHAT IT READS IS OF BULK AT MOST 1048576: true; the input reads as it did. -/
def fieldPutsUptoRow : OpenClaim := { program := "ytnidkgnillipgaa", sum := "ee5ad642524b370c04aa30318d99dbbf13ffabfd43e489e1b67be5cb21a842f1", func := "portreeve/portreevelaw01.FieldPuts", spec := "fieldPuts", apart := false, narrowed := true }
def FieldPutsUptoSaid : Prop := fieldPutsUptoRow.holds Try.pinned (OpenSpec.upto fieldPutsSpec)

/-- 'portreevelaw01.FieldAligns', WHERE WHAT IT READS IS OF BULK AT MOST 1048576: true; the input reads as it did. -/
def fieldAlignsUptoRow : OpenClaim := { program := "ytnidkgnillipgaa", sum := "ee5ad642524b370c04aa30318d99dbbf13ffabfd43e489e1b67be5cb21a842f1", func := "portreeve/portreevelaw01.FieldAligns", spec := "fieldAligns", apart := false, narrowed := true }
def FieldAlignsUptoSaid : Prop := fieldAlignsUptoRow.holds Try.pinned (OpenSpec.upto fieldAlignsSpec)

/-- 'portreevelaw05.VirtParts', WHERE WHAT IT READS IS OF BULK AT MOST 1048576: true; the input reads as it did. -/
def virtPartsUptoRow : OpenClaim := { program := "ytnidkgnillipgaa", sum := "ee5ad642524b370c04aa30318d99dbbf13ffabfd43e489e1b67be5cb21a842f1", func := "portreeve/portreevelaw05.VirtParts", spec := "virtParts", apart := false, narrowed := true }
def VirtPartsUptoSaid : Prop := virtPartsUptoRow.holds Try.pinned (OpenSpec.upto virtPartsSpec)

/-- 'portreevelaw05.VirtIndexes', WHERE WHAT IT READS IS OF BULK AT MOST 1048576: true; the input reads as it did. -/
def virtIndexesUptoRow : OpenClaim := { program := "ytnidkgnillipgaa", sum := "ee5ad642524b370c04aa30318d99dbbf13ffabfd43e489e1b67be5cb21a842f1", func := "portreeve/portreevelaw05.VirtIndexes", spec := "virtIndexes", apart := false, narrowed := true }
def VirtIndexesUptoSaid : Prop := virtIndexesUptoRow.holds Try.pinned (OpenSpec.upto virtIndexesSpec)

/-- 'portreevelaw05.VirtLevels', WHERE WHAT IT READS IS OF BULK AT MOST 1048576: true; the input reads as it did. -/
def virtLevelsUptoRow : OpenClaim := { program := "ytnidkgnillipgaa", sum := "ee5ad642524b370c04aa30318d99dbbf13ffabfd43e489e1b67be5cb21a842f1", func := "portreeve/portreevelaw05.VirtLevels", spec := "virtLevels", apart := false, narrowed := true }
def VirtLevelsUptoSaid : Prop := virtLevelsUptoRow.holds Try.pinned (OpenSpec.upto virtLevelsSpec)

/-- 'portreevelaw05.VirtLets', WHERE WHAT IT READS IS OF BULK AT MOST 1048576: true; the input reads as it did. -/
def virtLetsUptoRow : OpenClaim := { program := "ytnidkgnillipgaa", sum := "ee5ad642524b370c04aa30318d99dbbf13ffabfd43e489e1b67be5cb21a842f1", func := "portreeve/portreevelaw05.VirtLets", spec := "virtLets", apart := false, narrowed := true }
def VirtLetsUptoSaid : Prop := virtLetsUptoRow.holds Try.pinned (OpenSpec.upto virtLetsSpec)

/-- 'portreevelaw01.FieldMeets', WHERE WHAT IT READS IS OF BULK AT MOST 1048576: true; the input reads as it did. -/
def fieldMeetsUptoRow : OpenClaim := { program := "ytnidkgnillipgaa", sum := "ee5ad642524b370c04aa30318d99dbbf13ffabfd43e489e1b67be5cb21a842f1", func := "portreeve/portreevelaw01.FieldMeets", spec := "fieldMeets", apart := false, narrowed := true }
def FieldMeetsUptoSaid : Prop := fieldMeetsUptoRow.holds Try.pinned (OpenSpec.upto fieldMeetsSpec)

/-- 'portreevelaw05.VirtFaults', WHERE WHAT IT READS IS OF BULK AT MOST 1048576: true; the input reads as it did. -/
def virtFaultsUptoRow : OpenClaim := { program := "ytnidkgnillipgaa", sum := "ee5ad642524b370c04aa30318d99dbbf13ffabfd43e489e1b67be5cb21a842f1", func := "portreeve/portreevelaw05.VirtFaults", spec := "virtFaults", apart := false, narrowed := true }
def VirtFaultsUptoSaid : Prop := virtFaultsUptoRow.holds Try.pinned (OpenSpec.upto virtFaultsSpec)

/-- 'portreevelaw05.VirtPages', WHERE WHAT IT READS IS OF BULK AT MOST 1048576: true; the input reads as it did. -/
def virtPagesUptoRow : OpenClaim := { program := "ytnidkgnillipgaa", sum := "ee5ad642524b370c04aa30318d99dbbf13ffabfd43e489e1b67be5cb21a842f1", func := "portreeve/portreevelaw05.VirtPages", spec := "virtPages", apart := false, narrowed := true }
def VirtPagesUptoSaid : Prop := virtPagesUptoRow.holds Try.pinned (OpenSpec.upto virtPagesSpec)

end Rows
end Go.Proofs.Ytnidkgnillipgaa
