/-
  No cell of these rows narrows 'for every input' (looked for: loops, veiled, ifaces, maps, wideKeys, modest, calm, conditions, laid).
  DERIVED. THE GIVEN ROWS OF THIS SEAT. 4 by the template 'for every input the law returns true; each argument reads behind the call as it read before'; 0 by the template 'total and deterministic' (their statements: YtndeaikmelpflaaTotals.lean).
  GIVEN WITH THE SEED: the statements are not yours to turn. If you find one false, say at which input.
  Laid BY PROGRAM, IN A SANDBOX (cutbox-rows.mjs): the forced cells as the released guide's own fill.sh prints them over the translation 2acc26a034d1b7a0… (all of the seat's roots in one cut). By AI agents, Wed Nov 11 2026. No macro, syntax, notation, axiom, sorry.
-/
import Derived.Test.YtndeaikmelpflaaChecked
import GoSem.Claim
import GoSem.ClaimJoined
import GoSem.ClaimMapViews
import Derived.JoinedTies
import Derived.KernelRfl
namespace Go.Proofs.Ytndeaikmelpflaa
/- THE CELL 'sum', in the pinned program and in every row, IS THE sha256 OF THE DUMP (.gsa) THAT YtndeaikmelpflaaProg.lean LOADS. Nothing in Lean hashes anything: it is a label: what it is worth is what the hold of that sum in a sandbox is worth. -/
noncomputable def Try.pinned : Pinned := { name := "ytndeaikmelpflaa", sum := "2acc26a034d1b7a0fed5187b1017d45fbeda6a55acacfe9b962b391d8013aa1e", checked := Try.checked }
namespace Rows
def none {H : Type} : Left H := { results := [], args := [] }

/-- 'portreevelaw20.AsidFills': WHATEVER THE INPUT: true; the input reads as it did. -/
def asidFillsSpec : ChangeSpec := { name := "asidFills", fn := fun _ => fun
  | [d1, d2] => { results := [.lit (.bool true)], args := [d1, d2] }
  | _ => none }
def asidFillsRow : OpenClaim := { program := "ytndeaikmelpflaa", sum := "2acc26a034d1b7a0fed5187b1017d45fbeda6a55acacfe9b962b391d8013aa1e", func := "portreeve/portreevelaw20.AsidFills", spec := "asidFills", unfollowed := true, recurses := true, apart := false }
def AsidFillsSaid : Prop := asidFillsRow.holds Try.pinned (OpenSpec.ofChange asidFillsSpec)

/-- ITS FALSE NEIGHBOUR: 'it returns false'. Refute it at one input. -/
def asidFillsWrong : ChangeSpec := { name := "asidFills", fn := fun _ => fun
  | [d1, d2] => { results := [.lit (.bool false)], args := [d1, d2] }
  | _ => none }
def AsidFillsWrongFalsely : Prop := asidFillsRow.holds Try.pinned (OpenSpec.ofChange asidFillsWrong)

/-- 'portreevelaw20.AsidPlays': WHATEVER THE INPUT: true; the input reads as it did. -/
def asidPlaysSpec : ChangeSpec := { name := "asidPlays", fn := fun _ => fun
  | [d] => { results := [.lit (.bool true)], args := [d] }
  | _ => none }
def asidPlaysRow : OpenClaim := { program := "ytndeaikmelpflaa", sum := "2acc26a034d1b7a0fed5187b1017d45fbeda6a55acacfe9b962b391d8013aa1e", func := "portreeve/portreevelaw20.AsidPlays", spec := "asidPlays", unfollowed := true, recurses := true, apart := false }
def AsidPlaysSaid : Prop := asidPlaysRow.holds Try.pinned (OpenSpec.ofChange asidPlaysSpec)

/-- ITS FALSE NEIGHBOUR: 'it returns false'. Refute it at one input. -/
def asidPlaysWrong : ChangeSpec := { name := "asidPlays", fn := fun _ => fun
  | [d] => { results := [.lit (.bool false)], args := [d] }
  | _ => none }
def AsidPlaysWrongFalsely : Prop := asidPlaysRow.holds Try.pinned (OpenSpec.ofChange asidPlaysWrong)

/-- 'portreevelaw20.AsidMemory': WHATEVER THE INPUT: true; the input reads as it did. -/
def asidMemorySpec : ChangeSpec := { name := "asidMemory", fn := fun _ => fun
  | [d1, d2, d3] => { results := [.lit (.bool true)], args := [d1, d2, d3] }
  | _ => none }
def asidMemoryRow : OpenClaim := { program := "ytndeaikmelpflaa", sum := "2acc26a034d1b7a0fed5187b1017d45fbeda6a55acacfe9b962b391d8013aa1e", func := "portreeve/portreevelaw20.AsidMemory", spec := "asidMemory", unfollowed := true, recurses := true, apart := false }
def AsidMemorySaid : Prop := asidMemoryRow.holds Try.pinned (OpenSpec.ofChange asidMemorySpec)

/-- ITS FALSE NEIGHBOUR: 'it returns false'. Refute it at one input. -/
def asidMemoryWrong : ChangeSpec := { name := "asidMemory", fn := fun _ => fun
  | [d1, d2, d3] => { results := [.lit (.bool false)], args := [d1, d2, d3] }
  | _ => none }
def AsidMemoryWrongFalsely : Prop := asidMemoryRow.holds Try.pinned (OpenSpec.ofChange asidMemoryWrong)

/-- 'portreevelaw20.AsidCounts': WHATEVER THE INPUT: true; the input reads as it did. -/
def asidCountsSpec : ChangeSpec := { name := "asidCounts", fn := fun _ => fun
  | [d1, d2, d3] => { results := [.lit (.bool true)], args := [d1, d2, d3] }
  | _ => none }
def asidCountsRow : OpenClaim := { program := "ytndeaikmelpflaa", sum := "2acc26a034d1b7a0fed5187b1017d45fbeda6a55acacfe9b962b391d8013aa1e", func := "portreeve/portreevelaw20.AsidCounts", spec := "asidCounts", unfollowed := true, recurses := true, apart := false }
def AsidCountsSaid : Prop := asidCountsRow.holds Try.pinned (OpenSpec.ofChange asidCountsSpec)

/-- ITS FALSE NEIGHBOUR: 'it returns false'. Refute it at one input. -/
def asidCountsWrong : ChangeSpec := { name := "asidCounts", fn := fun _ => fun
  | [d1, d2, d3] => { results := [.lit (.bool false)], args := [d1, d2, d3] }
  | _ => none }
def AsidCountsWrongFalsely : Prop := asidCountsRow.holds Try.pinned (OpenSpec.ofChange asidCountsWrong)

/- THE SECOND FORM. 'bulk': how many values and letters a reading holds, each counted each time it is reached (what is shared counts as often as it is met; a slice's spare places count too). A statement '..UptoSaid' is the law's where the arguments, and the package variables that the reading takes, are together of bulk at most 1048576: NARROWER than '..Said'. Prove '..Said' where nothing that the law and all that it calls make is longer than what came in: it says more and counts as full. Else prove '..UptoSaid'. A law counts once. -/
mutual
def uptoBulk {H : Type} : DataW H → Nat
  | .lit (.string bytes) => bytes.length + 1
  | .lit _ => 1
  | .nil => 1
  | .ptr d => uptoBulk d + 1
  | .slice elems spare => uptoBulkAll elems + uptoBulkAll spare + 1
  | .agg parts => uptoBulkAll parts + 1
  | .iface _ d => uptoBulk d + 1
  | .map entries => uptoBulkEntries entries + 1
  | .held _ => 1
def uptoBulkAll {H : Type} : List (DataW H) → Nat
  | [] => 0
  | d :: r => uptoBulk d + uptoBulkAll r
def uptoBulkEntries {H : Type} : List (Lit × DataW H) → Nat
  | [] => 0
  | x :: r => uptoBulkEntry x + uptoBulkEntries r
def uptoBulkEntry {H : Type} : Lit × DataW H → Nat
  | (.string bytes, d) => bytes.length + uptoBulk d + 1
  | (_, d) => uptoBulk d + 1
 end
def uptoSmall : (H : Type) → List (DataW H) → Bool := fun _ ds => decide (uptoBulkAll ds ≤ 1048576)
def OpenSpec.upto (s : _root_.Go.ChangeSpec) : _root_.Go.OpenSpec := { _root_.Go.OpenSpec.ofChange s with cond := some uptoSmall }

/-- 'portreevelaw20.AsidFills', WHERE WHAT IT READS IS OF BULK AT MOST 1048576: true; the input reads as it did. -/
def asidFillsUptoRow : OpenClaim := { program := "ytndeaikmelpflaa", sum := "2acc26a034d1b7a0fed5187b1017d45fbeda6a55acacfe9b962b391d8013aa1e", func := "portreeve/portreevelaw20.AsidFills", spec := "asidFills", unfollowed := true, recurses := true, apart := false, narrowed := true }
def AsidFillsUptoSaid : Prop := asidFillsUptoRow.holds Try.pinned (OpenSpec.upto asidFillsSpec)

/-- 'portreevelaw20.AsidPlays', WHERE WHAT IT READS IS OF BULK AT MOST 1048576: true; the input reads as it did. -/
def asidPlaysUptoRow : OpenClaim := { program := "ytndeaikmelpflaa", sum := "2acc26a034d1b7a0fed5187b1017d45fbeda6a55acacfe9b962b391d8013aa1e", func := "portreeve/portreevelaw20.AsidPlays", spec := "asidPlays", unfollowed := true, recurses := true, apart := false, narrowed := true }
def AsidPlaysUptoSaid : Prop := asidPlaysUptoRow.holds Try.pinned (OpenSpec.upto asidPlaysSpec)

/-- 'portreevelaw20.AsidMemory', WHERE WHAT IT READS IS OF BULK AT MOST 1048576: true; the input reads as it did. -/
def asidMemoryUptoRow : OpenClaim := { program := "ytndeaikmelpflaa", sum := "2acc26a034d1b7a0fed5187b1017d45fbeda6a55acacfe9b962b391d8013aa1e", func := "portreeve/portreevelaw20.AsidMemory", spec := "asidMemory", unfollowed := true, recurses := true, apart := false, narrowed := true }
def AsidMemoryUptoSaid : Prop := asidMemoryUptoRow.holds Try.pinned (OpenSpec.upto asidMemorySpec)

/-- 'portreevelaw20.AsidCounts', WHERE WHAT IT READS IS OF BULK AT MOST 1048576: true; the input reads as it did. -/
def asidCountsUptoRow : OpenClaim := { program := "ytndeaikmelpflaa", sum := "2acc26a034d1b7a0fed5187b1017d45fbeda6a55acacfe9b962b391d8013aa1e", func := "portreeve/portreevelaw20.AsidCounts", spec := "asidCounts", unfollowed := true, recurses := true, apart := false, narrowed := true }
def AsidCountsUptoSaid : Prop := asidCountsUptoRow.holds Try.pinned (OpenSpec.upto asidCountsSpec)

end Rows
end Go.Proofs.Ytndeaikmelpflaa
