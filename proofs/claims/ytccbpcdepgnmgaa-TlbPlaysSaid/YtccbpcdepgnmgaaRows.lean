/-
  No cell of these rows narrows 'for every input' (looked for: loops, veiled, ifaces, maps, wideKeys, modest, calm, conditions, laid).
  DERIVED. THE GIVEN ROWS OF THIS SEAT. 4 by the template 'for every input the law returns true; each argument reads behind the call as it read before'; 0 by the template 'total and deterministic' (their statements: YtccbpcdepgnmgaaTotals.lean).
  GIVEN WITH THE SEED: the statements are not yours to turn. If you find one false, say at which input.
  Laid BY PROGRAM, IN A SANDBOX (cutbox-rows.mjs): the forced cells as the released guide's own fill.sh prints them over the translation da6cecc36a720fea… (all of the seat's roots in one cut). By AI agents, Wed Nov 11 2026. No macro, syntax, notation, axiom, sorry.
-/
import Derived.Test.YtccbpcdepgnmgaaChecked
import GoSem.Claim
import GoSem.ClaimJoined
import GoSem.ClaimMapViews
import Derived.JoinedTies
import Derived.KernelRfl
namespace Go.Proofs.Ytccbpcdepgnmgaa
/- THE CELL 'sum', in the pinned program and in every row, IS THE sha256 OF THE DUMP (.gsa) THAT YtccbpcdepgnmgaaProg.lean LOADS. Nothing in Lean hashes anything: it is a label: what it is worth is what the hold of that sum in a sandbox is worth. -/
noncomputable def Try.pinned : Pinned := { name := "ytccbpcdepgnmgaa", sum := "da6cecc36a720fea048bd987b78abc5d0ea98e05f389546479deb0f7ad6db108", checked := Try.checked }
namespace Rows
def none {H : Type} : Left H := { results := [], args := [] }

/-- 'portreevelaw07.TlbMatches': WHATEVER THE INPUT: true; the input reads as it did. -/
def tlbMatchesSpec : ChangeSpec := { name := "tlbMatches", fn := fun _ => fun
  | [d1, d2, d3] => { results := [.lit (.bool true)], args := [d1, d2, d3] }
  | _ => none }
def tlbMatchesRow : OpenClaim := { program := "ytccbpcdepgnmgaa", sum := "da6cecc36a720fea048bd987b78abc5d0ea98e05f389546479deb0f7ad6db108", func := "portreeve/portreevelaw07.TlbMatches", spec := "tlbMatches", apart := false }
def TlbMatchesSaid : Prop := tlbMatchesRow.holds Try.pinned (OpenSpec.ofChange tlbMatchesSpec)

/-- ITS FALSE NEIGHBOUR: 'it returns false'. Refute it at one input. -/
def tlbMatchesWrong : ChangeSpec := { name := "tlbMatches", fn := fun _ => fun
  | [d1, d2, d3] => { results := [.lit (.bool false)], args := [d1, d2, d3] }
  | _ => none }
def TlbMatchesWrongFalsely : Prop := tlbMatchesRow.holds Try.pinned (OpenSpec.ofChange tlbMatchesWrong)

/-- 'portreevelaw07.TlbClashes': WHATEVER THE INPUT: true; the input reads as it did. -/
def tlbClashesSpec : ChangeSpec := { name := "tlbClashes", fn := fun _ => fun
  | [d1, d2] => { results := [.lit (.bool true)], args := [d1, d2] }
  | _ => none }
def tlbClashesRow : OpenClaim := { program := "ytccbpcdepgnmgaa", sum := "da6cecc36a720fea048bd987b78abc5d0ea98e05f389546479deb0f7ad6db108", func := "portreeve/portreevelaw07.TlbClashes", spec := "tlbClashes", apart := false }
def TlbClashesSaid : Prop := tlbClashesRow.holds Try.pinned (OpenSpec.ofChange tlbClashesSpec)

/-- ITS FALSE NEIGHBOUR: 'it returns false'. Refute it at one input. -/
def tlbClashesWrong : ChangeSpec := { name := "tlbClashes", fn := fun _ => fun
  | [d1, d2] => { results := [.lit (.bool false)], args := [d1, d2] }
  | _ => none }
def TlbClashesWrongFalsely : Prop := tlbClashesRow.holds Try.pinned (OpenSpec.ofChange tlbClashesWrong)

/-- 'portreevelaw07.TlbFlushes': WHATEVER THE INPUT: true; the input reads as it did. -/
def tlbFlushesSpec : ChangeSpec := { name := "tlbFlushes", fn := fun _ => fun
  | [d1, d2, d3, d4] => { results := [.lit (.bool true)], args := [d1, d2, d3, d4] }
  | _ => none }
def tlbFlushesRow : OpenClaim := { program := "ytccbpcdepgnmgaa", sum := "da6cecc36a720fea048bd987b78abc5d0ea98e05f389546479deb0f7ad6db108", func := "portreeve/portreevelaw07.TlbFlushes", spec := "tlbFlushes", unfollowed := true, recurses := true, apart := false }
def TlbFlushesSaid : Prop := tlbFlushesRow.holds Try.pinned (OpenSpec.ofChange tlbFlushesSpec)

/-- ITS FALSE NEIGHBOUR: 'it returns false'. Refute it at one input. -/
def tlbFlushesWrong : ChangeSpec := { name := "tlbFlushes", fn := fun _ => fun
  | [d1, d2, d3, d4] => { results := [.lit (.bool false)], args := [d1, d2, d3, d4] }
  | _ => none }
def TlbFlushesWrongFalsely : Prop := tlbFlushesRow.holds Try.pinned (OpenSpec.ofChange tlbFlushesWrong)

/-- 'portreevelaw07.TlbPlays': WHATEVER THE INPUT: true; the input reads as it did. -/
def tlbPlaysSpec : ChangeSpec := { name := "tlbPlays", fn := fun _ => fun
  | [d1, d2] => { results := [.lit (.bool true)], args := [d1, d2] }
  | _ => none }
def tlbPlaysRow : OpenClaim := { program := "ytccbpcdepgnmgaa", sum := "da6cecc36a720fea048bd987b78abc5d0ea98e05f389546479deb0f7ad6db108", func := "portreeve/portreevelaw07.TlbPlays", spec := "tlbPlays", unfollowed := true, recurses := true, apart := false }
def TlbPlaysSaid : Prop := tlbPlaysRow.holds Try.pinned (OpenSpec.ofChange tlbPlaysSpec)

/-- ITS FALSE NEIGHBOUR: 'it returns false'. Refute it at one input. -/
def tlbPlaysWrong : ChangeSpec := { name := "tlbPlays", fn := fun _ => fun
  | [d1, d2] => { results := [.lit (.bool false)], args := [d1, d2] }
  | _ => none }
def TlbPlaysWrongFalsely : Prop := tlbPlaysRow.holds Try.pinned (OpenSpec.ofChange tlbPlaysWrong)

/- THE SECOND FORM. 'bulk': how many values and letters a reading holds, each counted each time it is reached (what is shared counts as often as it is met; a slice's spare places count too). A statement '..UptoSaid' is the law's where the arguments, and the package variables that the reading takes, are together of bulk at most 1048576: NARROWER than '..Said'. Prove '..Said' where nothing that the law and all that it calls make is longer than what came in: it says more and counts as full. Else prove '..UptoSaid'. A law counts once. -/
mutual
def uptoBulk {H : Type} : DataW H → Nat
  | .lit (.string bytes) => bytes.length + 1
  | .lit _ => 1
  | .nil => 1
  | .ptr d => uptoBulk d + 1
  | .slice elems spare => uptoBulkAll elems + uptoBulkAll spare + 1
  | .agg parts => uptoBulkAll parts + 1
  | .iface _ d => uptoBulk d + 1
  | .map entries => uptoBulkEntries entries + 1
  | .held _ => 1
def uptoBulkAll {H : Type} : List (DataW H) → Nat
  | [] => 0
  | d :: r => uptoBulk d + uptoBulkAll r
def uptoBulkEntries {H : Type} : List (Lit × DataW H) → Nat
  | [] => 0
  | x :: r => uptoBulkEntry x + uptoBulkEntries r
def uptoBulkEntry {H : Type} : Lit × DataW H → Nat
  | (.string bytes, d) => bytes.length + uptoBulk d + 1
  | (_, d) => uptoBulk d + 1
 end
def uptoSmall : (H : Type) → List (DataW H) → Bool := fun _ ds => decide (uptoBulkAll ds ≤ 1048576)
def OpenSpec.upto (s : _root_.Go.ChangeSpec) : _root_.Go.OpenSpec := { _root_.Go.OpenSpec.ofChange s with cond := some uptoSmall }

/-- 'portreevelaw07.TlbMatches', WHERE WHAT IT READS IS OF BULK AT MOST 1048576: true; the input reads as it did. -/
def tlbMatchesUptoRow : OpenClaim := { program := "ytccbpcdepgnmgaa", sum := "da6cecc36a720fea048bd987b78abc5d0ea98e05f389546479deb0f7ad6db108", func := "portreeve/portreevelaw07.TlbMatches", spec := "tlbMatches", apart := false, narrowed := true }
def TlbMatchesUptoSaid : Prop := tlbMatchesUptoRow.holds Try.pinned (OpenSpec.upto tlbMatchesSpec)

/-- 'portreevelaw07.TlbClashes', WHERE WHAT IT READS IS OF BULK AT MOST 1048576: true; the input reads as it did. -/
def tlbClashesUptoRow : OpenClaim := { program := "ytccbpcdepgnmgaa", sum := "da6cecc36a720fea048bd987b78abc5d0ea98e05f389546479deb0f7ad6db108", func := "portreeve/portreevelaw07.TlbClashes", spec := "tlbClashes", apart := false, narrowed := true }
def TlbClashesUptoSaid : Prop := tlbClashesUptoRow.holds Try.pinned (OpenSpec.upto tlbClashesSpec)

/-- 'portreevelaw07.TlbFlushes', WHERE WHAT IT READS IS OF BULK AT MOST 1048576: true; the input reads as it did. -/
def tlbFlushesUptoRow : OpenClaim := { program := "ytccbpcdepgnmgaa", sum := "da6cecc36a720fea048bd987b78abc5d0ea98e05f389546479deb0f7ad6db108", func := "portreeve/portreevelaw07.TlbFlushes", spec := "tlbFlushes", unfollowed := true, recurses := true, apart := false, narrowed := true }
def TlbFlushesUptoSaid : Prop := tlbFlushesUptoRow.holds Try.pinned (OpenSpec.upto tlbFlushesSpec)

/-- 'portreevelaw07.TlbPlays', WHERE WHAT IT READS IS OF BULK AT MOST 1048576: true; the input reads as it did. -/
def tlbPlaysUptoRow : OpenClaim := { program := "ytccbpcdepgnmgaa", sum := "da6cecc36a720fea048bd987b78abc5d0ea98e05f389546479deb0f7ad6db108", func := "portreeve/portreevelaw07.TlbPlays", spec := "tlbPlays", unfollowed := true, recurses := true, apart := false, narrowed := true }
def TlbPlaysUptoSaid : Prop := tlbPlaysUptoRow.holds Try.pinned (OpenSpec.upto tlbPlaysSpec)

end Rows
end Go.Proofs.Ytccbpcdepgnmgaa
