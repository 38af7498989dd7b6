/-
  No cell of these rows narrows 'for every input' (looked for: loops, veiled, ifaces, maps, wideKeys, modest, calm, conditions, laid).
  DERIVED. THE GIVEN ROWS OF THIS SEAT. 8 by the template 'for every input the law returns true; each argument reads behind the call as it read before'; 0 by the template 'total and deterministic' (their statements: YtkdiplgnacjakaaTotals.lean).
  GIVEN WITH THE SEED: the statements are not yours to turn. If you find one false, say at which input.
  Laid BY PROGRAM, IN A SANDBOX (cutbox-rows.mjs): the forced cells as the released guide's own fill.sh prints them over the translation 35a8ba79c5efdaaa… (all of the seat's roots in one cut). By AI agents, Wed Nov 11 2026. No macro, syntax, notation, axiom, sorry.
-/
import Derived.Test.YtkdiplgnacjakaaChecked
import GoSem.Claim
import GoSem.ClaimJoined
import GoSem.ClaimMapViews
import Derived.JoinedTies
import Derived.KernelRfl
namespace Go.Proofs.Ytkdiplgnacjakaa
/- THE CELL 'sum', in the pinned program and in every row, IS THE sha256 OF THE DUMP (.gsa) THAT YtkdiplgnacjakaaProg.lean LOADS. Nothing in Lean hashes anything: it is a label: what it is worth is what the hold of that sum in a sandbox is worth. -/
noncomputable def Try.pinned : Pinned := { name := "ytkdiplgnacjakaa", sum := "35a8ba79c5efdaaa136e68a5f98ee99e7fc602f31e4f22262773b7875ab14e4c", checked := Try.checked }
namespace Rows
def none {H : Type} : Left H := { results := [], args := [] }

/-- 'portreevelaw10.RightTexts': WHATEVER THE INPUT: true; the input reads as it did. -/
def rightTextsSpec : ChangeSpec := { name := "rightTexts", fn := fun _ => fun
  | [d1, d2] => { results := [.lit (.bool true)], args := [d1, d2] }
  | _ => none }
def rightTextsRow : OpenClaim := { program := "ytkdiplgnacjakaa", sum := "35a8ba79c5efdaaa136e68a5f98ee99e7fc602f31e4f22262773b7875ab14e4c", func := "portreeve/portreevelaw10.RightTexts", spec := "rightTexts", apart := false }
def RightTextsSaid : Prop := rightTextsRow.holds Try.pinned (OpenSpec.ofChange rightTextsSpec)

/-- ITS FALSE NEIGHBOUR: 'it returns false'. Refute it at one input. -/
def rightTextsWrong : ChangeSpec := { name := "rightTexts", fn := fun _ => fun
  | [d1, d2] => { results := [.lit (.bool false)], args := [d1, d2] }
  | _ => none }
def RightTextsWrongFalsely : Prop := rightTextsRow.holds Try.pinned (OpenSpec.ofChange rightTextsWrong)

/-- 'portreevelaw10.RightOf': WHATEVER THE INPUT: true; the input reads as it did. -/
def rightOfSpec : ChangeSpec := { name := "rightOf", fn := fun _ => fun
  | [d] => { results := [.lit (.bool true)], args := [d] }
  | _ => none }
def rightOfRow : OpenClaim := { program := "ytkdiplgnacjakaa", sum := "35a8ba79c5efdaaa136e68a5f98ee99e7fc602f31e4f22262773b7875ab14e4c", func := "portreeve/portreevelaw10.RightOf", spec := "rightOf", apart := false }
def RightOfSaid : Prop := rightOfRow.holds Try.pinned (OpenSpec.ofChange rightOfSpec)

/-- ITS FALSE NEIGHBOUR: 'it returns false'. Refute it at one input. -/
def rightOfWrong : ChangeSpec := { name := "rightOf", fn := fun _ => fun
  | [d] => { results := [.lit (.bool false)], args := [d] }
  | _ => none }
def RightOfWrongFalsely : Prop := rightOfRow.holds Try.pinned (OpenSpec.ofChange rightOfWrong)

/-- 'portreevelaw10.RightMeets': WHATEVER THE INPUT: true; the input reads as it did. -/
def rightMeetsSpec : ChangeSpec := { name := "rightMeets", fn := fun _ => fun
  | [d1, d2] => { results := [.lit (.bool true)], args := [d1, d2] }
  | _ => none }
def rightMeetsRow : OpenClaim := { program := "ytkdiplgnacjakaa", sum := "35a8ba79c5efdaaa136e68a5f98ee99e7fc602f31e4f22262773b7875ab14e4c", func := "portreeve/portreevelaw10.RightMeets", spec := "rightMeets", apart := false }
def RightMeetsSaid : Prop := rightMeetsRow.holds Try.pinned (OpenSpec.ofChange rightMeetsSpec)

/-- ITS FALSE NEIGHBOUR: 'it returns false'. Refute it at one input. -/
def rightMeetsWrong : ChangeSpec := { name := "rightMeets", fn := fun _ => fun
  | [d1, d2] => { results := [.lit (.bool false)], args := [d1, d2] }
  | _ => none }
def RightMeetsWrongFalsely : Prop := rightMeetsRow.holds Try.pinned (OpenSpec.ofChange rightMeetsWrong)

/-- 'portreevelaw10.RightLeaves': WHATEVER THE INPUT: true; the input reads as it did. -/
def rightLeavesSpec : ChangeSpec := { name := "rightLeaves", fn := fun _ => fun
  | [d1, d2, d3] => { results := [.lit (.bool true)], args := [d1, d2, d3] }
  | _ => none }
def rightLeavesRow : OpenClaim := { program := "ytkdiplgnacjakaa", sum := "35a8ba79c5efdaaa136e68a5f98ee99e7fc602f31e4f22262773b7875ab14e4c", func := "portreeve/portreevelaw10.RightLeaves", spec := "rightLeaves", apart := false }
def RightLeavesSaid : Prop := rightLeavesRow.holds Try.pinned (OpenSpec.ofChange rightLeavesSpec)

/-- ITS FALSE NEIGHBOUR: 'it returns false'. Refute it at one input. -/
def rightLeavesWrong : ChangeSpec := { name := "rightLeaves", fn := fun _ => fun
  | [d1, d2, d3] => { results := [.lit (.bool false)], args := [d1, d2, d3] }
  | _ => none }
def RightLeavesWrongFalsely : Prop := rightLeavesRow.holds Try.pinned (OpenSpec.ofChange rightLeavesWrong)

/-- 'portreevelaw04.DescEncodes': WHATEVER THE INPUT: true; the input reads as it did. -/
def descEncodesSpec : ChangeSpec := { name := "descEncodes", fn := fun _ => fun
  | [d1, d2] => { results := [.lit (.bool true)], args := [d1, d2] }
  | _ => none }
def descEncodesRow : OpenClaim := { program := "ytkdiplgnacjakaa", sum := "35a8ba79c5efdaaa136e68a5f98ee99e7fc602f31e4f22262773b7875ab14e4c", func := "portreeve/portreevelaw04.DescEncodes", spec := "descEncodes", apart := false }
def DescEncodesSaid : Prop := descEncodesRow.holds Try.pinned (OpenSpec.ofChange descEncodesSpec)

/-- ITS FALSE NEIGHBOUR: 'it returns false'. Refute it at one input. -/
def descEncodesWrong : ChangeSpec := { name := "descEncodes", fn := fun _ => fun
  | [d1, d2] => { results := [.lit (.bool false)], args := [d1, d2] }
  | _ => none }
def DescEncodesWrongFalsely : Prop := descEncodesRow.holds Try.pinned (OpenSpec.ofChange descEncodesWrong)

/-- 'portreevelaw04.DescDecodes': WHATEVER THE INPUT: true; the input reads as it did. -/
def descDecodesSpec : ChangeSpec := { name := "descDecodes", fn := fun _ => fun
  | [d1, d2] => { results := [.lit (.bool true)], args := [d1, d2] }
  | _ => none }
def descDecodesRow : OpenClaim := { program := "ytkdiplgnacjakaa", sum := "35a8ba79c5efdaaa136e68a5f98ee99e7fc602f31e4f22262773b7875ab14e4c", func := "portreeve/portreevelaw04.DescDecodes", spec := "descDecodes", apart := false }
def DescDecodesSaid : Prop := descDecodesRow.holds Try.pinned (OpenSpec.ofChange descDecodesSpec)

/-- ITS FALSE NEIGHBOUR: 'it returns false'. Refute it at one input. -/
def descDecodesWrong : ChangeSpec := { name := "descDecodes", fn := fun _ => fun
  | [d1, d2] => { results := [.lit (.bool false)], args := [d1, d2] }
  | _ => none }
def DescDecodesWrongFalsely : Prop := descDecodesRow.holds Try.pinned (OpenSpec.ofChange descDecodesWrong)

/-- 'portreevelaw04.DescBits': WHATEVER THE INPUT: true; the input reads as it did. -/
def descBitsSpec : ChangeSpec := { name := "descBits", fn := fun _ => fun
  | [d] => { results := [.lit (.bool true)], args := [d] }
  | _ => none }
def descBitsRow : OpenClaim := { program := "ytkdiplgnacjakaa", sum := "35a8ba79c5efdaaa136e68a5f98ee99e7fc602f31e4f22262773b7875ab14e4c", func := "portreeve/portreevelaw04.DescBits", spec := "descBits", apart := false }
def DescBitsSaid : Prop := descBitsRow.holds Try.pinned (OpenSpec.ofChange descBitsSpec)

/-- ITS FALSE NEIGHBOUR: 'it returns false'. Refute it at one input. -/
def descBitsWrong : ChangeSpec := { name := "descBits", fn := fun _ => fun
  | [d] => { results := [.lit (.bool false)], args := [d] }
  | _ => none }
def DescBitsWrongFalsely : Prop := descBitsRow.holds Try.pinned (OpenSpec.ofChange descBitsWrong)

/-- 'portreevelaw04.DescBases': WHATEVER THE INPUT: true; the input reads as it did. -/
def descBasesSpec : ChangeSpec := { name := "descBases", fn := fun _ => fun
  | [d1, d2, d3] => { results := [.lit (.bool true)], args := [d1, d2, d3] }
  | _ => none }
def descBasesRow : OpenClaim := { program := "ytkdiplgnacjakaa", sum := "35a8ba79c5efdaaa136e68a5f98ee99e7fc602f31e4f22262773b7875ab14e4c", func := "portreeve/portreevelaw04.DescBases", spec := "descBases", apart := false }
def DescBasesSaid : Prop := descBasesRow.holds Try.pinned (OpenSpec.ofChange descBasesSpec)

/-- ITS FALSE NEIGHBOUR: 'it returns false'. Refute it at one input. -/
def descBasesWrong : ChangeSpec := { name := "descBases", fn := fun _ => fun
  | [d1, d2, d3] => { results := [.lit (.bool false)], args := [d1, d2, d3] }
  | _ => none }
def DescBasesWrongFalsely : Prop := descBasesRow.holds Try.pinned (OpenSpec.ofChange descBasesWrong)

/- THE SECOND FORM. 'bulk': how many values and letters a reading holds, each counted each time it is reached (what is shared counts as often as it is met; a slice's spare places count too). A statement '..UptoSaid' is the law's where the arguments, and the package variables that the reading takes, are together of bulk at most 1048576: NARROWER than '..Said'. Prove '..Said' where nothing that the law and all that it calls make is longer than what came in: it says more and counts as full. Else prove '..UptoSaid'. A law counts once. -/
mutual
def uptoBulk {H : Type} : DataW H → Nat
  | .lit (.string bytes) => bytes.length + 1
  | .lit _ => 1
  | .nil => 1
  | .ptr d => uptoBulk d + 1
  | .slice elems spare => uptoBulkAll elems + uptoBulkAll spare + 1
  | .agg parts => uptoBulkAll parts + 1
  | .iface _ d => uptoBulk d + 1
  | .map entries => uptoBulkEntries entries + 1
  | .held _ => 1
def uptoBulkAll {H : Type} : List (DataW H) → Nat
  | [] => 0
  | d :: r => uptoBulk d + uptoBulkAll r
def uptoBulkEntries {H : Type} : List (Lit × DataW H) → Nat
  | [] => 0
  | x :: r => uptoBulkEntry x + uptoBulkEntries r
def uptoBulkEntry {H : Type} : Lit × DataW H → Nat
  | (.string bytes, d) => bytes.length + uptoBulk d + 1
  | (_, d) => uptoBulk d + 1
 end
def uptoSmall : (H : Type) → List (DataW H) → Bool := fun _ ds => decide (uptoBulkAll ds ≤ 1048576)
def OpenSpec.upto (s : _root_.Go.ChangeSpec) : _root_.Go.OpenSpec := { _root_.Go.OpenSpec.ofChange s with cond := some uptoSmall }

/-- 'portreevelaw10.RightTexts', WHERE WHAT IT READS IS OF BULK AT MOST 1048576: true; the input reads as it did. -/
def rightTextsUptoRow : OpenClaim := { program := "ytkdiplgnacjakaa", sum := "35a8ba79c5efdaaa136e68a5f98ee99e7fc602f31e4f22262773b7875ab14e4c", func := "portreeve/portreevelaw10.RightTexts", spec := "rightTexts", apart := false, narrowed := true }
def RightTextsUptoSaid : Prop := rightTextsUptoRow.holds Try.pinned (OpenSpec.upto rightTextsSpec)

/-- 'portreevelaw10.RightOf', WHERE WHAT IT READS IS OF BULK AT MOST 1048576: true; the input reads as it did. -/
def rightOfUptoRow : OpenClaim := { program := "ytkdiplgnacjakaa", sum := "35a8ba79c5efdaaa136e68a5f98ee99e7fc602f31e4f22262773b7875ab14e4c", func := "portreeve/portreevelaw10.RightOf", spec := "rightOf", apart := false, narrowed := true }
def RightOfUptoSaid : Prop := rightOfUptoRow.holds Try.pinned (OpenSpec.upto rightOfSpec)

/-- 'portreevelaw10.RightMeets', WHERE WHAT IT READS IS OF BULK AT MOST 1048576: true; the input reads as it did. -/
def rightMeetsUptoRow : OpenClaim := { program := "ytkdiplgnacjakaa", sum := "35a8ba79c5efdaaa136e68a5f98ee99e7fc602f31e4f22262773b7875ab14e4c", func := "portreeve/portreevelaw10.RightMeets", spec := "rightMeets", apart := false, narrowed := true }
def RightMeetsUptoSaid : Prop := rightMeetsUptoRow.holds Try.pinned (OpenSpec.upto rightMeetsSpec)

/-- 'portreevelaw10.RightLeaves', WHERE WHAT IT READS IS OF BULK AT MOST 1048576: true; the input reads as it did. -/
def rightLeavesUptoRow : OpenClaim := { program := "ytkdiplgnacjakaa", sum := "35a8ba79c5efdaaa136e68a5f98ee99e7fc602f31e4f22262773b7875ab14e4c", func := "portreeve/portreevelaw10.RightLeaves", spec := "rightLeaves", apart := false, narrowed := true }
def RightLeavesUptoSaid : Prop := rightLeavesUptoRow.holds Try.pinned (OpenSpec.upto rightLeavesSpec)

/-- 'portreevelaw04.DescEncodes', WHERE WHAT IT READS IS OF BULK AT MOST 1048576: true; the input reads as it did. -/
def descEncodesUptoRow : OpenClaim := { program := "ytkdiplgnacjakaa", sum := "35a8ba79c5efdaaa136e68a5f98ee99e7fc602f31e4f22262773b7875ab14e4c", func := "portreeve/portreevelaw04.DescEncodes", spec := "descEncodes", apart := false, narrowed := true }
def DescEncodesUptoSaid : Prop := descEncodesUptoRow.holds Try.pinned (OpenSpec.upto descEncodesSpec)

/-- 'portreevelaw04.DescDecodes', WHERE WHAT IT READS IS OF BULK AT MOST 1048576: true; the input reads as it did. -/
def descDecodesUptoRow : OpenClaim := { program := "ytkdiplgnacjakaa", sum := "35a8ba79c5efdaaa136e68a5f98ee99e7fc602f31e4f22262773b7875ab14e4c", func := "portreeve/portreevelaw04.DescDecodes", spec := "descDecodes", apart := false, narrowed := true }
def DescDecodesUptoSaid : Prop := descDecodesUptoRow.holds Try.pinned (OpenSpec.upto descDecodesSpec)

/-- 'portreevelaw04.DescBits', WHERE WHAT IT READS IS OF BULK AT MOST 1048576: true; the input reads as it did. -/
def descBitsUptoRow : OpenClaim := { program := "ytkdiplgnacjakaa", sum := "35a8ba79c5efdaaa136e68a5f98ee99e7fc602f31e4f22262773b7875ab14e4c", func := "portreeve/portreevelaw04.DescBits", spec := "descBits", apart := false, narrowed := true }
def DescBitsUptoSaid : Prop := descBitsUptoRow.holds Try.pinned (OpenSpec.upto descBitsSpec)

/-- 'portreevelaw04.DescBases', WHERE WHAT IT READS IS OF BULK AT MOST 1048576: true; the input reads as it did. -/
def descBasesUptoRow : OpenClaim := { program := "ytkdiplgnacjakaa", sum := "35a8ba79c5efdaaa136e68a5f98ee99e7fc602f31e4f22262773b7875ab14e4c", func := "portreeve/portreevelaw04.DescBases", spec := "descBases", apart := false, narrowed := true }
def DescBasesUptoSaid : Prop := descBasesUptoRow.holds Try.pinned (OpenSpec.upto descBasesSpec)

end Rows
end Go.Proofs.Ytkdiplgnacjakaa
