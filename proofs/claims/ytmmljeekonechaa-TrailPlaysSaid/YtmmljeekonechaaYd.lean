/- The document's memory: a list of words: may, Read, Write: what each call answers. -/
import Derived.Test.YtmmljeekonechaaProg
import Derived.Test.YtmmljeekonechaaLs
import Derived.Test.YtmmljeekonechaaYc
namespace Go.Proofs.Ytmmljeekonechaa.Yd
open Go.RowKit Go.Proofs.Ytmmljeekonechaa.G Go.Proofs.Ytmmljeekonechaa.B Go.Proofs.Ytmmljeekonechaa.M Go.Proofs.Ytmmljeekonechaa.Mv Go.Proofs.Ytmmljeekonechaa.Sl Go.Proofs.Ytmmljeekonechaa.Sm Go.Proofs.Ytmmljeekonechaa.Sn Go.Proofs.Ytmmljeekonechaa.Ma Go.Proofs.Ytmmljeekonechaa.Dr Go.Proofs.Ytmmljeekonechaa.Ya Go.Proofs.Ytmmljeekonechaa.Yb Go.Proofs.Ytmmljeekonechaa.Yc Go.Proofs.Ytmmljeekonechaa.Ls

set_option linter.unusedVariables false
set_option linter.unusedSimpArgs false
set_option maxRecDepth 100000
/-- A pair of words. -/
structure W2 where
  at_ : Int
  word : Int
def W2.cells (x : W2) : Array Value := #[.int .u64 x.at_, .int .u64 x.word]
instance : Rec W2 2 := ⟨W2.cells, fun _ => rfl, fun _ => by simp [W2.cells, Value.oneCell'], by decide⟩
theorem Row.cell {T : Type} {k : Nat} [Rec T k] {l : List T} {off : Nat} {cur : Array Value} (h : Row l off cur) {i : Nat} {e : T} (hi : l[i]? = some e) {j : Nat} {v : Value} (hj : (Rec.cells e)[j]? = some v) : cur[off + i * k + j]? = some v := by
  have hg := h.get hi
  have hjk : j < k := by have := (Array.getElem?_eq_some_iff.1 hj).1; rwa [Rec.size] at this
  have hf := h.fit (List.getElem?_eq_some_iff.1 hi).1
  rw [← hg, Array.getElem?_extract] at hj
  split at hj
  · exact hj
  · cases hj
theorem all2 {a b : Value} (h1 : a.oneCell' = true) (h2 : b.oneCell' = true) : (#[a, b] : Array Value).all (·.oneCell') = true := by simp [h1, h2]
theorem all4 {a b c d : Value} (h1 : a.oneCell' = true) (h2 : b.oneCell' = true) (h3 : c.oneCell' = true) (h4 : d.oneCell' = true) : (#[a, b, c, d] : Array Value).all (·.oneCell') = true := by simp [h1, h2, h3, h4]
/-- What stands at an address; 0: nothing. -/
def lookW : List W2 → Int → Int
  | [], _ => 0
  | p :: t, a => if p.at_ = a then p.word else lookW t a
def rreadV (size : Int) (l : List W2) (a : Int) : Value := if errV size a = 0 then .tuple #[.int .u64 (lookW l a), .int .i64 0] else .tuple #[.int .u64 0, .int .i64 (errV size a)]
theorem lookW_drop {l : List W2} {i : Nat} {x : W2} (hi : l[i]? = some x) (a : Int) : lookW (l.drop i) a = if x.at_ = a then x.word else lookW (l.drop (i + 1)) a := by
  obtain ⟨hlt, he⟩ := List.getElem?_eq_some_iff.1 hi
  rw [show l.drop i = x :: l.drop (i + 1) from by rw [← he]; exact List.drop_eq_getElem_cons hlt]
  rfl
end Go.Proofs.Ytmmljeekonechaa.Yd
