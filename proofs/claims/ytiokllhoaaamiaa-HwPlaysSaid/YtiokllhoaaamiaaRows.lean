/-
  No cell of these rows narrows 'for every input' (looked for: loops, veiled, ifaces, maps, wideKeys, modest, calm, conditions, laid).
  DERIVED. THE GIVEN ROWS OF THIS SEAT. 7 by the template 'for every input the law returns true; each argument reads behind the call as it read before'; 0 by the template 'total and deterministic' (their statements: YtiokllhoaaamiaaTotals.lean).
  GIVEN WITH THE SEED: the statements are not yours to turn. If you find one false, say at which input.
  Laid BY PROGRAM, IN A SANDBOX (cutbox-rows.mjs): the forced cells as the released guide's own fill.sh prints them over the translation 3a16f9d0257ee359… (all of the seat's roots in one cut). By AI agents, Wed Nov 11 2026. No macro, syntax, notation, axiom, sorry.
-/
import Derived.Test.YtiokllhoaaamiaaChecked
import GoSem.Claim
import GoSem.ClaimJoined
import GoSem.ClaimMapViews
import Derived.JoinedTies
import Derived.KernelRfl
namespace Go.Proofs.Ytiokllhoaaamiaa
/- THE CELL 'sum', in the pinned program and in every row, IS THE sha256 OF THE DUMP (.gsa) THAT YtiokllhoaaamiaaProg.lean LOADS. Nothing in Lean hashes anything: it is a label: what it is worth is what the hold of that sum in a sandbox is worth. -/
noncomputable def Try.pinned : Pinned := { name := "ytiokllhoaaamiaa", sum := "3a16f9d0257ee359e917d0a0c9b8b41d9db4ea12eaa3365dab02eb5f6ea6cec8", checked := Try.checked }
namespace Rows
def none {H : Type} : Left H := { results := [], args := [] }

/-- 'portreevelaw19.HwFair': WHATEVER THE INPUT: true; the input reads as it did. -/
def hwFairSpec : ChangeSpec := { name := "hwFair", fn := fun _ => fun
  | [d1, d2] => { results := [.lit (.bool true)], args := [d1, d2] }
  | _ => none }
def hwFairRow : OpenClaim := { program := "ytiokllhoaaamiaa", sum := "3a16f9d0257ee359e917d0a0c9b8b41d9db4ea12eaa3365dab02eb5f6ea6cec8", func := "portreeve/portreevelaw19.HwFair", spec := "hwFair", apart := false }
def HwFairSaid : Prop := hwFairRow.holds Try.pinned (OpenSpec.ofChange hwFairSpec)

/-- ITS FALSE NEIGHBOUR: 'it returns false'. Refute it at one input. -/
def hwFairWrong : ChangeSpec := { name := "hwFair", fn := fun _ => fun
  | [d1, d2] => { results := [.lit (.bool false)], args := [d1, d2] }
  | _ => none }
def HwFairWrongFalsely : Prop := hwFairRow.holds Try.pinned (OpenSpec.ofChange hwFairWrong)

/-- 'portreevelaw25.MsgParses': WHATEVER THE INPUT: true; the input reads as it did. -/
def msgParsesSpec : ChangeSpec := { name := "msgParses", fn := fun _ => fun
  | [d] => { results := [.lit (.bool true)], args := [d] }
  | _ => none }
def msgParsesRow : OpenClaim := { program := "ytiokllhoaaamiaa", sum := "3a16f9d0257ee359e917d0a0c9b8b41d9db4ea12eaa3365dab02eb5f6ea6cec8", func := "portreeve/portreevelaw25.MsgParses", spec := "msgParses", apart := false }
def MsgParsesSaid : Prop := msgParsesRow.holds Try.pinned (OpenSpec.ofChange msgParsesSpec)

/-- ITS FALSE NEIGHBOUR: 'it returns false'. Refute it at one input. -/
def msgParsesWrong : ChangeSpec := { name := "msgParses", fn := fun _ => fun
  | [d] => { results := [.lit (.bool false)], args := [d] }
  | _ => none }
def MsgParsesWrongFalsely : Prop := msgParsesRow.holds Try.pinned (OpenSpec.ofChange msgParsesWrong)

/-- 'portreevelaw19.HwPlays': WHATEVER THE INPUT: true; the input reads as it did. -/
def hwPlaysSpec : ChangeSpec := { name := "hwPlays", fn := fun _ => fun
  | [d1, d2] => { results := [.lit (.bool true)], args := [d1, d2] }
  | _ => none }
def hwPlaysRow : OpenClaim := { program := "ytiokllhoaaamiaa", sum := "3a16f9d0257ee359e917d0a0c9b8b41d9db4ea12eaa3365dab02eb5f6ea6cec8", func := "portreeve/portreevelaw19.HwPlays", spec := "hwPlays", apart := false }
def HwPlaysSaid : Prop := hwPlaysRow.holds Try.pinned (OpenSpec.ofChange hwPlaysSpec)

/-- ITS FALSE NEIGHBOUR: 'it returns false'. Refute it at one input. -/
def hwPlaysWrong : ChangeSpec := { name := "hwPlays", fn := fun _ => fun
  | [d1, d2] => { results := [.lit (.bool false)], args := [d1, d2] }
  | _ => none }
def HwPlaysWrongFalsely : Prop := hwPlaysRow.holds Try.pinned (OpenSpec.ofChange hwPlaysWrong)

/-- 'portreevelaw19.HwOwners': WHATEVER THE INPUT: true; the input reads as it did. -/
def hwOwnersSpec : ChangeSpec := { name := "hwOwners", fn := fun _ => fun
  | [d1, d2] => { results := [.lit (.bool true)], args := [d1, d2] }
  | _ => none }
def hwOwnersRow : OpenClaim := { program := "ytiokllhoaaamiaa", sum := "3a16f9d0257ee359e917d0a0c9b8b41d9db4ea12eaa3365dab02eb5f6ea6cec8", func := "portreeve/portreevelaw19.HwOwners", spec := "hwOwners", apart := false }
def HwOwnersSaid : Prop := hwOwnersRow.holds Try.pinned (OpenSpec.ofChange hwOwnersSpec)

/-- ITS FALSE NEIGHBOUR: 'it returns false'. Refute it at one input. -/
def hwOwnersWrong : ChangeSpec := { name := "hwOwners", fn := fun _ => fun
  | [d1, d2] => { results := [.lit (.bool false)], args := [d1, d2] }
  | _ => none }
def HwOwnersWrongFalsely : Prop := hwOwnersRow.holds Try.pinned (OpenSpec.ofChange hwOwnersWrong)

/-- 'portreevelaw25.MsgLabels': WHATEVER THE INPUT: true; the input reads as it did. -/
def msgLabelsSpec : ChangeSpec := { name := "msgLabels", fn := fun _ => fun
  | [d1, d2] => { results := [.lit (.bool true)], args := [d1, d2] }
  | _ => none }
def msgLabelsRow : OpenClaim := { program := "ytiokllhoaaamiaa", sum := "3a16f9d0257ee359e917d0a0c9b8b41d9db4ea12eaa3365dab02eb5f6ea6cec8", func := "portreeve/portreevelaw25.MsgLabels", spec := "msgLabels", unfollowed := true, recurses := true, apart := false }
def MsgLabelsSaid : Prop := msgLabelsRow.holds Try.pinned (OpenSpec.ofChange msgLabelsSpec)

/-- ITS FALSE NEIGHBOUR: 'it returns false'. Refute it at one input. -/
def msgLabelsWrong : ChangeSpec := { name := "msgLabels", fn := fun _ => fun
  | [d1, d2] => { results := [.lit (.bool false)], args := [d1, d2] }
  | _ => none }
def MsgLabelsWrongFalsely : Prop := msgLabelsRow.holds Try.pinned (OpenSpec.ofChange msgLabelsWrong)

/-- 'portreevelaw25.MsgMakes': WHATEVER THE INPUT: true; the input reads as it did. -/
def msgMakesSpec : ChangeSpec := { name := "msgMakes", fn := fun _ => fun
  | [d1, d2, d3] => { results := [.lit (.bool true)], args := [d1, d2, d3] }
  | _ => none }
def msgMakesRow : OpenClaim := { program := "ytiokllhoaaamiaa", sum := "3a16f9d0257ee359e917d0a0c9b8b41d9db4ea12eaa3365dab02eb5f6ea6cec8", func := "portreeve/portreevelaw25.MsgMakes", spec := "msgMakes", apart := false }
def MsgMakesSaid : Prop := msgMakesRow.holds Try.pinned (OpenSpec.ofChange msgMakesSpec)

/-- ITS FALSE NEIGHBOUR: 'it returns false'. Refute it at one input. -/
def msgMakesWrong : ChangeSpec := { name := "msgMakes", fn := fun _ => fun
  | [d1, d2, d3] => { results := [.lit (.bool false)], args := [d1, d2, d3] }
  | _ => none }
def MsgMakesWrongFalsely : Prop := msgMakesRow.holds Try.pinned (OpenSpec.ofChange msgMakesWrong)

/-- 'portreevelaw25.MsgShows': WHATEVER THE INPUT: true; the input reads as it did. -/
def msgShowsSpec : ChangeSpec := { name := "msgShows", fn := fun _ => fun
  | [d] => { results := [.lit (.bool true)], args := [d] }
  | _ => none }
def msgShowsRow : OpenClaim := { program := "ytiokllhoaaamiaa", sum := "3a16f9d0257ee359e917d0a0c9b8b41d9db4ea12eaa3365dab02eb5f6ea6cec8", func := "portreeve/portreevelaw25.MsgShows", spec := "msgShows", apart := false }
def MsgShowsSaid : Prop := msgShowsRow.holds Try.pinned (OpenSpec.ofChange msgShowsSpec)

/-- ITS FALSE NEIGHBOUR: 'it returns false'. Refute it at one input. -/
def msgShowsWrong : ChangeSpec := { name := "msgShows", fn := fun _ => fun
  | [d] => { results := [.lit (.bool false)], args := [d] }
  | _ => none }
def MsgShowsWrongFalsely : Prop := msgShowsRow.holds Try.pinned (OpenSpec.ofChange msgShowsWrong)

/- THE SECOND FORM. 'bulk': how many values and letters a reading holds, each counted each time it is reached (what is shared counts as often as it is met; a slice's spare places count too). A statement '..UptoSaid' is the law's where the arguments, and the package variables that the reading takes, are together of bulk at most 1048576: NARROWER than '..Said'. Prove '..Said' where nothing that the law and all that it calls make is longer than what came in: it says more and counts as full. Else prove '..UptoSaid'. A law counts once. -/
mutual
def uptoBulk {H : Type} : DataW H → Nat
  | .lit (.string bytes) => bytes.length + 1
  | .lit _ => 1
  | .nil => 1
  | .ptr d => uptoBulk d + 1
  | .slice elems spare => uptoBulkAll elems + uptoBulkAll spare + 1
  | .agg parts => uptoBulkAll parts + 1
  | .iface _ d => uptoBulk d + 1
  | .map entries => uptoBulkEntries entries + 1
  | .held _ => 1
def uptoBulkAll {H : Type} : List (DataW H) → Nat
  | [] => 0
  | d :: r => uptoBulk d + uptoBulkAll r
def uptoBulkEntries {H : Type} : List (Lit × DataW H) → Nat
  | [] => 0
  | x :: r => uptoBulkEntry x + uptoBulkEntries r
def uptoBulkEntry {H : Type} : Lit × DataW H → Nat
  | (.string bytes, d) => bytes.length + uptoBulk d + 1
  | (_, d) => uptoBulk d + 1
 end
def uptoSmall : (H : Type) → List (DataW H) → Bool := fun _ ds => decide (uptoBulkAll ds ≤ 1048576)
def OpenSpec.upto (s : _root_.Go.ChangeSpec) : _root_.Go.OpenSpec := { _root_.Go.OpenSpec.ofChange s with cond := some uptoSmall }

/-- 'portreevelaw19.HwFair', WHERE WHAT IT READS IS OF BULK AT MOST 1048576: true; the input reads as it did. -/
def hwFairUptoRow : OpenClaim := { program := "ytiokllhoaaamiaa", sum := "3a16f9d0257ee359e917d0a0c9b8b41d9db4ea12eaa3365dab02eb5f6ea6cec8", func := "portreeve/portreevelaw19.HwFair", spec := "hwFair", apart := false, narrowed := true }
def HwFairUptoSaid : Prop := hwFairUptoRow.holds Try.pinned (OpenSpec.upto hwFairSpec)

/-- 'portreevelaw25.MsgParses', WHERE WHAT IT READS IS OF BULK AT MOST 1048576: true; the input reads as it did. -/
def msgParsesUptoRow : OpenClaim := { program := "ytiokllhoaaamiaa", sum := "3a16f9d0257ee359e917d0a0c9b8b41d9db4ea12eaa3365dab02eb5f6ea6cec8", func := "portreeve/portreevelaw25.MsgParses", spec := "msgParses", apart := false, narrowed := true }
def MsgParsesUptoSaid : Prop := msgParsesUptoRow.holds Try.pinned (OpenSpec.upto msgParsesSpec)

/-- 'portreevelaw19.HwPlays', WHERE WHAT IT READS IS OF BULK AT MOST 1048576: true; the input reads as it did. -/
def hwPlaysUptoRow : OpenClaim := { program := "ytiokllhoaaamiaa", sum := "3a16f9d0257ee359e917d0a0c9b8b41d9db4ea12eaa3365dab02eb5f6ea6cec8", func := "portreeve/portreevelaw19.HwPlays", spec := "hwPlays", apart := false, narrowed := true }
def HwPlaysUptoSaid : Prop := hwPlaysUptoRow.holds Try.pinned (OpenSpec.upto hwPlaysSpec)

/-- 'portreevelaw19.HwOwners', WHERE WHAT IT READS IS OF BULK AT MOST 1048576: true; the input reads as it did. -/
def hwOwnersUptoRow : OpenClaim := { program := "ytiokllhoaaamiaa", sum := "3a16f9d0257ee359e917d0a0c9b8b41d9db4ea12eaa3365dab02eb5f6ea6cec8", func := "portreeve/portreevelaw19.HwOwners", spec := "hwOwners", apart := false, narrowed := true }
def HwOwnersUptoSaid : Prop := hwOwnersUptoRow.holds Try.pinned (OpenSpec.upto hwOwnersSpec)

/-- 'portreevelaw25.MsgLabels', WHERE WHAT IT READS IS OF BULK AT MOST 1048576: true; the input reads as it did. -/
def msgLabelsUptoRow : OpenClaim := { program := "ytiokllhoaaamiaa", sum := "3a16f9d0257ee359e917d0a0c9b8b41d9db4ea12eaa3365dab02eb5f6ea6cec8", func := "portreeve/portreevelaw25.MsgLabels", spec := "msgLabels", unfollowed := true, recurses := true, apart := false, narrowed := true }
def MsgLabelsUptoSaid : Prop := msgLabelsUptoRow.holds Try.pinned (OpenSpec.upto msgLabelsSpec)

/-- 'portreevelaw25.MsgMakes', WHERE WHAT IT READS IS OF BULK AT MOST 1048576: true; the input reads as it did. -/
def msgMakesUptoRow : OpenClaim := { program := "ytiokllhoaaamiaa", sum := "3a16f9d0257ee359e917d0a0c9b8b41d9db4ea12eaa3365dab02eb5f6ea6cec8", func := "portreeve/portreevelaw25.MsgMakes", spec := "msgMakes", apart := false, narrowed := true }
def MsgMakesUptoSaid : Prop := msgMakesUptoRow.holds Try.pinned (OpenSpec.upto msgMakesSpec)

/-- 'portreevelaw25.MsgShows', WHERE WHAT IT READS IS OF BULK AT MOST 1048576: true; the input reads as it did. -/
def msgShowsUptoRow : OpenClaim := { program := "ytiokllhoaaamiaa", sum := "3a16f9d0257ee359e917d0a0c9b8b41d9db4ea12eaa3365dab02eb5f6ea6cec8", func := "portreeve/portreevelaw25.MsgShows", spec := "msgShows", apart := false, narrowed := true }
def MsgShowsUptoSaid : Prop := msgShowsUptoRow.holds Try.pinned (OpenSpec.upto msgShowsSpec)

end Rows
end Go.Proofs.Ytiokllhoaaamiaa
