/-
  No cell of these rows narrows 'for every input' (looked for: loops, veiled, ifaces, maps, wideKeys, modest, calm, conditions, laid).
  DERIVED. THE GIVEN ROWS OF THIS SEAT. 4 by the template 'for every input the law returns true; each argument reads behind the call as it read before'; 0 by the template 'total and deterministic' (their statements: YtfnmdelkdombbaaTotals.lean).
  GIVEN WITH THE SEED: the statements are not yours to turn. If you find one false, say at which input.
  Laid BY PROGRAM, IN A SANDBOX (cutbox-rows.mjs): the forced cells as the released guide's own fill.sh prints them over the translation 20415f0b3e4182ef… (all of the seat's roots in one cut). By AI agents, Wed Nov 11 2026. No macro, syntax, notation, axiom, sorry.
-/
import Derived.Test.YtfnmdelkdombbaaChecked
import GoSem.Claim
import GoSem.ClaimJoined
import GoSem.ClaimMapViews
import Derived.JoinedTies
import Derived.KernelRfl
namespace Go.Proofs.Ytfnmdelkdombbaa
/- THE CELL 'sum', in the pinned program and in every row, IS THE sha256 OF THE DUMP (.gsa) THAT YtfnmdelkdombbaaProg.lean LOADS. Nothing in Lean hashes anything: it is a label: what it is worth is what the hold of that sum in a sandbox is worth. -/
noncomputable def Try.pinned : Pinned := { name := "ytfnmdelkdombbaa", sum := "20415f0b3e4182efa14d943479d45adbed14d71157427cc00ad09f15da235adb", checked := Try.checked }
namespace Rows
def none {H : Type} : Left H := { results := [], args := [] }

/-- 'portreevelaw06.WalkPlays': WHATEVER THE INPUT: true; the input reads as it did. -/
def walkPlaysSpec : ChangeSpec := { name := "walkPlays", fn := fun _ => fun
  | [d1, d2, d3, d4, d5] => { results := [.lit (.bool true)], args := [d1, d2, d3, d4, d5] }
  | _ => none }
def walkPlaysRow : OpenClaim := { program := "ytfnmdelkdombbaa", sum := "20415f0b3e4182efa14d943479d45adbed14d71157427cc00ad09f15da235adb", func := "portreeve/portreevelaw06.WalkPlays", spec := "walkPlays", apart := false }
def WalkPlaysSaid : Prop := walkPlaysRow.holds Try.pinned (OpenSpec.ofChange walkPlaysSpec)

/-- ITS FALSE NEIGHBOUR: 'it returns false'. Refute it at one input. -/
def walkPlaysWrong : ChangeSpec := { name := "walkPlays", fn := fun _ => fun
  | [d1, d2, d3, d4, d5] => { results := [.lit (.bool false)], args := [d1, d2, d3, d4, d5] }
  | _ => none }
def WalkPlaysWrongFalsely : Prop := walkPlaysRow.holds Try.pinned (OpenSpec.ofChange walkPlaysWrong)

/-- 'portreevelaw06.WalkRoots': WHATEVER THE INPUT: true; the input reads as it did. -/
def walkRootsSpec : ChangeSpec := { name := "walkRoots", fn := fun _ => fun
  | [d1, d2, d3] => { results := [.lit (.bool true)], args := [d1, d2, d3] }
  | _ => none }
def walkRootsRow : OpenClaim := { program := "ytfnmdelkdombbaa", sum := "20415f0b3e4182efa14d943479d45adbed14d71157427cc00ad09f15da235adb", func := "portreeve/portreevelaw06.WalkRoots", spec := "walkRoots", apart := false }
def WalkRootsSaid : Prop := walkRootsRow.holds Try.pinned (OpenSpec.ofChange walkRootsSpec)

/-- ITS FALSE NEIGHBOUR: 'it returns false'. Refute it at one input. -/
def walkRootsWrong : ChangeSpec := { name := "walkRoots", fn := fun _ => fun
  | [d1, d2, d3] => { results := [.lit (.bool false)], args := [d1, d2, d3] }
  | _ => none }
def WalkRootsWrongFalsely : Prop := walkRootsRow.holds Try.pinned (OpenSpec.ofChange walkRootsWrong)

/-- 'portreevelaw06.WalkStretch': WHATEVER THE INPUT: true; the input reads as it did. -/
def walkStretchSpec : ChangeSpec := { name := "walkStretch", fn := fun _ => fun
  | [d1, d2, d3, d4] => { results := [.lit (.bool true)], args := [d1, d2, d3, d4] }
  | _ => none }
def walkStretchRow : OpenClaim := { program := "ytfnmdelkdombbaa", sum := "20415f0b3e4182efa14d943479d45adbed14d71157427cc00ad09f15da235adb", func := "portreeve/portreevelaw06.WalkStretch", spec := "walkStretch", apart := false }
def WalkStretchSaid : Prop := walkStretchRow.holds Try.pinned (OpenSpec.ofChange walkStretchSpec)

/-- ITS FALSE NEIGHBOUR: 'it returns false'. Refute it at one input. -/
def walkStretchWrong : ChangeSpec := { name := "walkStretch", fn := fun _ => fun
  | [d1, d2, d3, d4] => { results := [.lit (.bool false)], args := [d1, d2, d3, d4] }
  | _ => none }
def WalkStretchWrongFalsely : Prop := walkStretchRow.holds Try.pinned (OpenSpec.ofChange walkStretchWrong)

/-- 'portreevelaw06.WalkAll': WHATEVER THE INPUT: true; the input reads as it did. -/
def walkAllSpec : ChangeSpec := { name := "walkAll", fn := fun _ => fun
  | [d1, d2, d3, d4] => { results := [.lit (.bool true)], args := [d1, d2, d3, d4] }
  | _ => none }
def walkAllRow : OpenClaim := { program := "ytfnmdelkdombbaa", sum := "20415f0b3e4182efa14d943479d45adbed14d71157427cc00ad09f15da235adb", func := "portreeve/portreevelaw06.WalkAll", spec := "walkAll", recurses := true, apart := false }
def WalkAllSaid : Prop := walkAllRow.holds Try.pinned (OpenSpec.ofChange walkAllSpec)

/-- ITS FALSE NEIGHBOUR: 'it returns false'. Refute it at one input. -/
def walkAllWrong : ChangeSpec := { name := "walkAll", fn := fun _ => fun
  | [d1, d2, d3, d4] => { results := [.lit (.bool false)], args := [d1, d2, d3, d4] }
  | _ => none }
def WalkAllWrongFalsely : Prop := walkAllRow.holds Try.pinned (OpenSpec.ofChange walkAllWrong)

/- THE SECOND FORM. 'bulk': how many values and letters a reading holds, each counted each time it is reached (what is shared counts as often as it is met; a slice's spare places count too). A statement '..UptoSaid' is the law's where the arguments, and the package variables that the reading takes, are together of bulk at most 1048576: NARROWER than '..Said'. Prove '..Said' where nothing that the law and all that it calls make is longer than what came in: it says more and counts as full. Else prove '..UptoSaid'. A law counts once. -/
mutual
def uptoBulk {H : Type} : DataW H → Nat
  | .lit (.string bytes) => bytes.length + 1
  | .lit _ => 1
  | .nil => 1
  | .ptr d => uptoBulk d + 1
  | .slice elems spare => uptoBulkAll elems + uptoBulkAll spare + 1
  | .agg parts => uptoBulkAll parts + 1
  | .iface _ d => uptoBulk d + 1
  | .map entries => uptoBulkEntries entries + 1
  | .held _ => 1
def uptoBulkAll {H : Type} : List (DataW H) → Nat
  | [] => 0
  | d :: r => uptoBulk d + uptoBulkAll r
def uptoBulkEntries {H : Type} : List (Lit × DataW H) → Nat
  | [] => 0
  | x :: r => uptoBulkEntry x + uptoBulkEntries r
def uptoBulkEntry {H : Type} : Lit × DataW H → Nat
  | (.string bytes, d) => bytes.length + uptoBulk d + 1
  | (_, d) => uptoBulk d + 1
 end
def uptoSmall : (H : Type) → List (DataW H) → Bool := fun _ ds => decide (uptoBulkAll ds ≤ 1048576)
def OpenSpec.upto (s : _root_.Go.ChangeSpec) : _root_.Go.OpenSpec := { _root_.Go.OpenSpec.ofChange s with cond := some uptoSmall }

/-- 'portreevelaw06.WalkPlays', WHERE WHAT IT READS IS OF BULK AT MOST 1048576: true; the input reads as it did. -/
def walkPlaysUptoRow : OpenClaim := { program := "ytfnmdelkdombbaa", sum := "20415f0b3e4182efa14d943479d45adbed14d71157427cc00ad09f15da235adb", func := "portreeve/portreevelaw06.WalkPlays", spec := "walkPlays", apart := false, narrowed := true }
def WalkPlaysUptoSaid : Prop := walkPlaysUptoRow.holds Try.pinned (OpenSpec.upto walkPlaysSpec)

/-- 'portreevelaw06.WalkRoots', WHERE WHAT IT READS IS OF BULK AT MOST 1048576: true; the input reads as it did. -/
def walkRootsUptoRow : OpenClaim := { program := "ytfnmdelkdombbaa", sum := "20415f0b3e4182efa14d943479d45adbed14d71157427cc00ad09f15da235adb", func := "portreeve/portreevelaw06.WalkRoots", spec := "walkRoots", apart := false, narrowed := true }
def WalkRootsUptoSaid : Prop := walkRootsUptoRow.holds Try.pinned (OpenSpec.upto walkRootsSpec)

/-- 'portreevelaw06.WalkStretch', WHERE WHAT IT READS IS OF BULK AT MOST 1048576: true; the input reads as it did. -/
def walkStretchUptoRow : OpenClaim := { program := "ytfnmdelkdombbaa", sum := "20415f0b3e4182efa14d943479d45adbed14d71157427cc00ad09f15da235adb", func := "portreeve/portreevelaw06.WalkStretch", spec := "walkStretch", apart := false, narrowed := true }
def WalkStretchUptoSaid : Prop := walkStretchUptoRow.holds Try.pinned (OpenSpec.upto walkStretchSpec)

/-- 'portreevelaw06.WalkAll', WHERE WHAT IT READS IS OF BULK AT MOST 1048576: true; the input reads as it did. -/
def walkAllUptoRow : OpenClaim := { program := "ytfnmdelkdombbaa", sum := "20415f0b3e4182efa14d943479d45adbed14d71157427cc00ad09f15da235adb", func := "portreeve/portreevelaw06.WalkAll", spec := "walkAll", recurses := true, apart := false, narrowed := true }
def WalkAllUptoSaid : Prop := walkAllUptoRow.holds Try.pinned (OpenSpec.upto walkAllSpec)

end Rows
end Go.Proofs.Ytfnmdelkdombbaa
