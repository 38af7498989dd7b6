/- Layer 6's law: a memory that is laid, as the program's and as the document's. -/
import Derived.Test.YtmmljeekonechaaProg
import Derived.Test.YtmmljeekonechaaYe
namespace Go.Proofs.Ytmmljeekonechaa.Yf
open Go.RowKit Go.Proofs.Ytmmljeekonechaa.G Go.Proofs.Ytmmljeekonechaa.B Go.Proofs.Ytmmljeekonechaa.M Go.Proofs.Ytmmljeekonechaa.Mv Go.Proofs.Ytmmljeekonechaa.Sl Go.Proofs.Ytmmljeekonechaa.Sm Go.Proofs.Ytmmljeekonechaa.Sn Go.Proofs.Ytmmljeekonechaa.Ma Go.Proofs.Ytmmljeekonechaa.Dr Go.Proofs.Ytmmljeekonechaa.Ya Go.Proofs.Ytmmljeekonechaa.Yb Go.Proofs.Ytmmljeekonechaa.Yc Go.Proofs.Ytmmljeekonechaa.Ls Go.Proofs.Ytmmljeekonechaa.Yd Go.Proofs.Ytmmljeekonechaa.Ye

set_option linter.unusedVariables false
set_option linter.unusedSimpArgs false
set_option maxRecDepth 100000
theorem mid_perm (X A B : Hp) : (X ++ (A ++ B)).Perm (A ++ (X ++ B)) := by
  rw [← List.append_assoc, ← List.append_assoc]
  exact List.Perm.append_right B List.perm_append_comm
/-- A call that is handed blocks that lie between others. -/
theorem Does.mid {P : Program} {f : FuncId} {args : Array Value} {A : Hp} (X B : Hp) {Rel : Value → Hp → Prop} {w0 u : World} {M : List Nat} (C : Does P f args A Rel) (h : Mem w0 M (X ++ (A ++ B)) u) :
    Calls P f args u fun e w' => ∃ v L', e = .returned v ∧ Rel v L' ∧ Mem w0 M (X ++ (L' ++ B)) w' := by
  have p : ∀ A : Hp, (X ++ (A ++ B)).Perm (A ++ (X ++ B)) := fun A => by
    rw [← List.append_assoc, ← List.append_assoc]
    exact List.Perm.append_right B List.perm_append_comm
  exact (C.call h (p A)).mono fun _ _ ⟨v, L', he, hr, hm⟩ => ⟨v, L', he, hr, hm.perm (p L').symm⟩
section
variable {P : Program} {w0 W : World} {M : List Nat} {L : Hp}
/-- Results: a value, a struct in memory, a value. -/
theorem res_tct (HM : Mem w0 M L W) {fn : Func} {s p u : Tmp} {ty : TypeId} (h : fn.results = #[.tmp s, .cell p ty, .tmp u]) (tmps : Array Value) (i g : Nat) (t : TypeId) (cs : Array Value) (hi : L[i]? = some (g, row cs t))
    (hp : tmps.getD p undef = .pointer (some ⟨g, 0, none⟩)) (hagg : aggB P ty = true) (hs : sizB P ty cs.size = true) : (results fn tmps).run P W = .ok (.tuple #[tmps.getD s undef, .agg cs, tmps.getD u undef]) W := by
  have hl' : (loadVar ty ⟨g, 0, none⟩).run P W = .ok (.agg cs) W := by simpa [Instr.loadAt, Instr.sureAddr] using run_load_row (P := P) (W := W) hagg hs (HM.get i hi)
  have hp' : tmps[p]?.getD undef = .pointer (some ⟨g, 0, none⟩) := by simpa using hp
  simp [results, h, hp', asAddr, hl']
end
/-- The program's memory and the document's have the same words. -/
def Agree (f : Int → Int) (l : List W2) : Prop := ∀ a : Int, a % 8 = 0 → f (a / 8) = lookW l a
theorem Agree.nil : Agree (fun _ => 0) [] := fun a h => rfl
theorem Agree.write {f : Int → Int} {l : List W2} (h : Agree f l) (size a w : Int) : Agree (wrF size f a w) (wrW size l a w) := by
  intro b hb
  unfold wrF wrW
  by_cases he : errV size a = 0
  · rw [if_pos he, if_pos he]
    have h8 := (errV_zero he).1
    by_cases hab : b = a
    · subst hab; rw [upd_same, insW_same]; rfl
    · rw [upd_other _ _ (by omega), insW_other _ _ _ hab]; exact h b hb
  · rw [if_neg he, if_neg he]; exact h b hb
/-- Words that are written one behind the other. -/
def wrs (size : Int) (es : Nat → W2) : Nat → (Int → Int)
  | 0 => fun _ => 0
  | k + 1 => wrF size (wrs size es k) (es k).at_ (es k).word
def rws (size : Int) (es : Nat → W2) : Nat → List W2
  | 0 => []
  | k + 1 => wrW size (rws size es k) (es k).at_ (es k).word
theorem agree_k (size : Int) (es : Nat → W2) (k : Nat) : Agree (wrs size es k) (rws size es k) := by
  induction k with
  | zero => exact Agree.nil
  | succ k ih => exact ih.write size _ _
theorem rws_len (size : Int) (es : Nat → W2) (k : Nat) : (rws size es k).length ≤ k := by
  induction k with
  | zero => exact Nat.le_refl _
  | succ k ih =>
    have := wrW_len size (rws size es k) (es k).at_ (es k).word
    unfold rws; omega
def W2.ok (x : W2) : Prop := (0 ≤ x.at_ ∧ x.at_ < 18446744073709551616) ∧ 0 ≤ x.word ∧ x.word < 18446744073709551616
/-- What laid answers where it can't be. -/
def laidNo (size : Int) : Value := .tuple #[.pointer none, .agg #[.int .u64 size, .slice none 0 0], .bool false]
end Go.Proofs.Ytmmljeekonechaa.Yf
