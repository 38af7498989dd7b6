/- A drawn region in which a block is turned that its quiet operations don't read. Over any program. -/
import Derived.Test.YtmmljeekonechaaMr
namespace Go.Proofs.Ytmmljeekonechaa.Mr
open Go.RowKit Go.Proofs.Ytmmljeekonechaa.G Go.Proofs.Ytmmljeekonechaa.M Go.Proofs.Ytmmljeekonechaa.Mq
set_option linter.unusedVariables false
section
variable {P : Program} {Q : Exit → Act → World → Prop} {w0 : World} {M : List Nat}
/-- The region itself, the quiet operations reading only the blocks Lc: n: where the tail begins. -/
theorem region_anyC {id : Nat} {a : Act} {w : World} {L Lc : Hp} {l : List Oper} (n len g : Nat) (hLc : ∀ u, Mem w0 M L u → Mem w0 M Lc u) (HM : Mem w0 M L w) (hm : P.follows .mixedOrders = true) (hlen : l.length = len) (hg : n + g = len) (hcut : okCut l.toArray n = true)
    (h : St l.toArray n (Tail P l Q w0 M n g) (Array.replicate len false) → HeadM P l.toArray (Cl w0 M Lc) w0 M n (Tail P l Q w0 M n g) n (Array.replicate len false) a L) : (Code.region id l.toArray true).wp P Q a w := by
  subst hlen
  have hsz : l.toArray.size = l.length := by simp
  have s : St l.toArray n (Tail P l Q w0 M n g) (Array.replicate l.length false) :=
    ⟨hcut, ⟨by simp, fun j oj _ hl => (by rw [getD_replicate_false] at hl; cases hl), fun t _ ht => getD_in (by simpa using ht) (getD_replicate_false _ _)⟩, fun listed a L ht => seqB_ready ht.1⟩
  refine wp_region_any hm ?_
  have hd : (l.drop n).length = g := by simp; omega
  have := HeadM.any (g := g) (fun listed a L u hu (hT : Tail P l Q w0 M n g listed a L) => hT.any hd hu) _ _ _ _ _ HM.drew (h s)
  rw [hg] at this
  simpa using this
end
end Go.Proofs.Ytmmljeekonechaa.Mr
