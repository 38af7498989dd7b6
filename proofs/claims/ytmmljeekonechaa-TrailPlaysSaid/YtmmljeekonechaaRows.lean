/-
  No cell of these rows narrows 'for every input' (looked for: loops, veiled, ifaces, maps, wideKeys, modest, calm, conditions, laid).
  DERIVED. THE GIVEN ROWS OF THIS SEAT. 3 by the template 'for every input the law returns true; each argument reads behind the call as it read before'; 0 by the template 'total and deterministic' (their statements: YtmmljeekonechaaTotals.lean).
  GIVEN WITH THE SEED: the statements are not yours to turn. If you find one false, say at which input.
  Laid BY PROGRAM, IN A SANDBOX (cutbox-rows.mjs): the forced cells as the released guide's own fill.sh prints them over the translation e13e0fad55ff034f… (all of the seat's roots in one cut). By AI agents, Wed Nov 11 2026. No macro, syntax, notation, axiom, sorry.
-/
import Derived.Test.YtmmljeekonechaaChecked
import GoSem.Claim
import GoSem.ClaimJoined
import GoSem.ClaimMapViews
import Derived.JoinedTies
import Derived.KernelRfl
namespace Go.Proofs.Ytmmljeekonechaa
/- THE CELL 'sum', in the pinned program and in every row, IS THE sha256 OF THE DUMP (.gsa) THAT YtmmljeekonechaaProg.lean LOADS. Nothing in Lean hashes anything: it is a label: what it is worth is what the hold of that sum in a sandbox is worth. -/
noncomputable def Try.pinned : Pinned := { name := "ytmmljeekonechaa", sum := "e13e0fad55ff034f57474b85f56495d15981cd161f3d2c012991e4dfbb5811fd", checked := Try.checked }
namespace Rows
def none {H : Type} : Left H := { results := [], args := [] }

/-- 'portreevelaw08.TrailFlushes': WHATEVER THE INPUT: true; the input reads as it did. -/
def trailFlushesSpec : ChangeSpec := { name := "trailFlushes", fn := fun _ => fun
  | [d1, d2, d3] => { results := [.lit (.bool true)], args := [d1, d2, d3] }
  | _ => none }
def trailFlushesRow : OpenClaim := { program := "ytmmljeekonechaa", sum := "e13e0fad55ff034f57474b85f56495d15981cd161f3d2c012991e4dfbb5811fd", func := "portreeve/portreevelaw08.TrailFlushes", spec := "trailFlushes", unfollowed := true, recurses := true, apart := false }
def TrailFlushesSaid : Prop := trailFlushesRow.holds Try.pinned (OpenSpec.ofChange trailFlushesSpec)

/-- ITS FALSE NEIGHBOUR: 'it returns false'. Refute it at one input. -/
def trailFlushesWrong : ChangeSpec := { name := "trailFlushes", fn := fun _ => fun
  | [d1, d2, d3] => { results := [.lit (.bool false)], args := [d1, d2, d3] }
  | _ => none }
def TrailFlushesWrongFalsely : Prop := trailFlushesRow.holds Try.pinned (OpenSpec.ofChange trailFlushesWrong)

/-- 'portreevelaw08.TrailPlays': WHATEVER THE INPUT: true; the input reads as it did. -/
def trailPlaysSpec : ChangeSpec := { name := "trailPlays", fn := fun _ => fun
  | [d1, d2] => { results := [.lit (.bool true)], args := [d1, d2] }
  | _ => none }
def trailPlaysRow : OpenClaim := { program := "ytmmljeekonechaa", sum := "e13e0fad55ff034f57474b85f56495d15981cd161f3d2c012991e4dfbb5811fd", func := "portreeve/portreevelaw08.TrailPlays", spec := "trailPlays", unfollowed := true, recurses := true, apart := false }
def TrailPlaysSaid : Prop := trailPlaysRow.holds Try.pinned (OpenSpec.ofChange trailPlaysSpec)

/-- ITS FALSE NEIGHBOUR: 'it returns false'. Refute it at one input. -/
def trailPlaysWrong : ChangeSpec := { name := "trailPlays", fn := fun _ => fun
  | [d1, d2] => { results := [.lit (.bool false)], args := [d1, d2] }
  | _ => none }
def TrailPlaysWrongFalsely : Prop := trailPlaysRow.holds Try.pinned (OpenSpec.ofChange trailPlaysWrong)

/-- 'portreevelaw08.TrailWalks': WHATEVER THE INPUT: true; the input reads as it did. -/
def trailWalksSpec : ChangeSpec := { name := "trailWalks", fn := fun _ => fun
  | [d1, d2, d3, d4] => { results := [.lit (.bool true)], args := [d1, d2, d3, d4] }
  | _ => none }
def trailWalksRow : OpenClaim := { program := "ytmmljeekonechaa", sum := "e13e0fad55ff034f57474b85f56495d15981cd161f3d2c012991e4dfbb5811fd", func := "portreeve/portreevelaw08.TrailWalks", spec := "trailWalks", apart := false }
def TrailWalksSaid : Prop := trailWalksRow.holds Try.pinned (OpenSpec.ofChange trailWalksSpec)

/-- ITS FALSE NEIGHBOUR: 'it returns false'. Refute it at one input. -/
def trailWalksWrong : ChangeSpec := { name := "trailWalks", fn := fun _ => fun
  | [d1, d2, d3, d4] => { results := [.lit (.bool false)], args := [d1, d2, d3, d4] }
  | _ => none }
def TrailWalksWrongFalsely : Prop := trailWalksRow.holds Try.pinned (OpenSpec.ofChange trailWalksWrong)

/- THE SECOND FORM. 'bulk': how many values and letters a reading holds, each counted each time it is reached (what is shared counts as often as it is met; a slice's spare places count too). A statement '..UptoSaid' is the law's where the arguments, and the package variables that the reading takes, are together of bulk at most 1048576: NARROWER than '..Said'. Prove '..Said' where nothing that the law and all that it calls make is longer than what came in: it says more and counts as full. Else prove '..UptoSaid'. A law counts once. -/
mutual
def uptoBulk {H : Type} : DataW H → Nat
  | .lit (.string bytes) => bytes.length + 1
  | .lit _ => 1
  | .nil => 1
  | .ptr d => uptoBulk d + 1
  | .slice elems spare => uptoBulkAll elems + uptoBulkAll spare + 1
  | .agg parts => uptoBulkAll parts + 1
  | .iface _ d => uptoBulk d + 1
  | .map entries => uptoBulkEntries entries + 1
  | .held _ => 1
def uptoBulkAll {H : Type} : List (DataW H) → Nat
  | [] => 0
  | d :: r => uptoBulk d + uptoBulkAll r
def uptoBulkEntries {H : Type} : List (Lit × DataW H) → Nat
  | [] => 0
  | x :: r => uptoBulkEntry x + uptoBulkEntries r
def uptoBulkEntry {H : Type} : Lit × DataW H → Nat
  | (.string bytes, d) => bytes.length + uptoBulk d + 1
  | (_, d) => uptoBulk d + 1
 end
def uptoSmall : (H : Type) → List (DataW H) → Bool := fun _ ds => decide (uptoBulkAll ds ≤ 1048576)
def OpenSpec.upto (s : _root_.Go.ChangeSpec) : _root_.Go.OpenSpec := { _root_.Go.OpenSpec.ofChange s with cond := some uptoSmall }

/-- 'portreevelaw08.TrailFlushes', WHERE WHAT IT READS IS OF BULK AT MOST 1048576: true; the input reads as it did. -/
def trailFlushesUptoRow : OpenClaim := { program := "ytmmljeekonechaa", sum := "e13e0fad55ff034f57474b85f56495d15981cd161f3d2c012991e4dfbb5811fd", func := "portreeve/portreevelaw08.TrailFlushes", spec := "trailFlushes", unfollowed := true, recurses := true, apart := false, narrowed := true }
def TrailFlushesUptoSaid : Prop := trailFlushesUptoRow.holds Try.pinned (OpenSpec.upto trailFlushesSpec)

/-- 'portreevelaw08.TrailPlays', WHERE WHAT IT READS IS OF BULK AT MOST 1048576: true; the input reads as it did. -/
def trailPlaysUptoRow : OpenClaim := { program := "ytmmljeekonechaa", sum := "e13e0fad55ff034f57474b85f56495d15981cd161f3d2c012991e4dfbb5811fd", func := "portreeve/portreevelaw08.TrailPlays", spec := "trailPlays", unfollowed := true, recurses := true, apart := false, narrowed := true }
def TrailPlaysUptoSaid : Prop := trailPlaysUptoRow.holds Try.pinned (OpenSpec.upto trailPlaysSpec)

/-- 'portreevelaw08.TrailWalks', WHERE WHAT IT READS IS OF BULK AT MOST 1048576: true; the input reads as it did. -/
def trailWalksUptoRow : OpenClaim := { program := "ytmmljeekonechaa", sum := "e13e0fad55ff034f57474b85f56495d15981cd161f3d2c012991e4dfbb5811fd", func := "portreeve/portreevelaw08.TrailWalks", spec := "trailWalks", apart := false, narrowed := true }
def TrailWalksUptoSaid : Prop := trailWalksUptoRow.holds Try.pinned (OpenSpec.upto trailWalksSpec)

end Rows
end Go.Proofs.Ytmmljeekonechaa
