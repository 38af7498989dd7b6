/- The document's memory: Write. -/
import Derived.Test.YtmmljeekonechaaProg
import Derived.Test.YtmmljeekonechaaYd
namespace Go.Proofs.Ytmmljeekonechaa.Ye
open Go.RowKit Go.Proofs.Ytmmljeekonechaa.G Go.Proofs.Ytmmljeekonechaa.B Go.Proofs.Ytmmljeekonechaa.M Go.Proofs.Ytmmljeekonechaa.Mv Go.Proofs.Ytmmljeekonechaa.Sl Go.Proofs.Ytmmljeekonechaa.Sm Go.Proofs.Ytmmljeekonechaa.Sn Go.Proofs.Ytmmljeekonechaa.Ma Go.Proofs.Ytmmljeekonechaa.Dr Go.Proofs.Ytmmljeekonechaa.Ya Go.Proofs.Ytmmljeekonechaa.Yb Go.Proofs.Ytmmljeekonechaa.Yc Go.Proofs.Ytmmljeekonechaa.Ls Go.Proofs.Ytmmljeekonechaa.Yd

set_option linter.unusedVariables false
set_option linter.unusedSimpArgs false
set_option maxRecDepth 100000
/-- A word is put into a list. -/
def insW (a w : Int) : Bool → List W2 → List W2
  | d, [] => if d = false ∧ w ≠ 0 then [⟨a, w⟩] else []
  | d, p :: t => (if d = false ∧ a ≤ p.at_ ∧ w ≠ 0 then [⟨a, w⟩] else []) ++ ((if p.at_ = a then [] else [p]) ++ insW a w (d || decide (a ≤ p.at_)) t)
theorem lookW_append (l m : List W2) (a : Int) (h : ∀ x ∈ l, x.at_ ≠ a) : lookW (l ++ m) a = lookW m a := by
  induction l with
  | nil => rfl
  | cons x l ih =>
    rw [List.cons_append, lookW, if_neg (h x (List.mem_cons_self ..))]
    exact ih fun y hy => h y (List.mem_cons_of_mem _ hy)
theorem insW_other (a w b : Int) (h : b ≠ a) : ∀ (l : List W2) (d : Bool), lookW (insW a w d l) b = lookW l b
  | [], d => by
    unfold insW
    split
    · simp only [lookW]; rw [if_neg (by omega)]
    · rfl
  | p :: t, d => by
    have ih := insW_other a w b h t (d || decide (a ≤ p.at_))
    unfold insW
    rw [lookW_append _ _ _ (by intro x hx; split at hx; · rw [List.mem_singleton.1 hx]; dsimp only; omega
                               · cases hx)]
    by_cases hp : p.at_ = a
    · rw [if_pos hp, List.nil_append, ih, lookW, if_neg (by omega)]
    · rw [if_neg hp, List.cons_append, List.nil_append, lookW, lookW, ih]
theorem insW_same (a w : Int) : ∀ (l : List W2) (d : Bool), lookW (insW a w d l) a = if d then 0 else w
  | [], d => by
    cases d <;> simp [insW]
    · by_cases hw : w = 0
      · simp [hw, lookW]
      · simp [hw, lookW]
    · rfl
  | p :: t, d => by
    have ih := insW_same a w t (d || decide (a ≤ p.at_))
    unfold insW
    by_cases hd : d = true
    · subst hd
      simp only [Bool.true_eq_false, false_and, if_false, List.nil_append, Bool.true_or, if_true] at ih ⊢
      by_cases hp : p.at_ = a
      · rw [if_pos hp]; exact ih
      · rw [if_neg hp, List.cons_append, List.nil_append, lookW, if_neg hp]; exact ih
    · have hd : d = false := by simpa using hd
      subst hd
      by_cases hle : a ≤ p.at_
      · by_cases hw : w = 0
        · simp only [hle, hw, true_and, ne_eq, not_true_eq_false, if_false, List.nil_append, Bool.false_or, decide_true, if_true] at ih ⊢
          by_cases hp : p.at_ = a
          · rw [if_pos hp]; simpa using ih
          · rw [if_neg hp, List.cons_append, List.nil_append, lookW, if_neg hp]; simpa using ih
        · rw [if_pos ⟨rfl, hle, hw⟩, List.cons_append, lookW, if_pos rfl]; rfl
      · have hp : p.at_ ≠ a := by omega
        simp only [hle, false_and, and_false, if_false, List.nil_append, Bool.false_or, decide_false] at ih ⊢
        rw [if_neg hp, List.cons_append, List.nil_append, lookW, if_neg hp]; simpa using ih
theorem insW_step {a w : Int} {l : List W2} {i : Nat} {x : W2} (hi : l[i]? = some x) (d : Bool) :
    insW a w d (l.drop i) = (if d = false ∧ a ≤ x.at_ ∧ w ≠ 0 then [⟨a, w⟩] else []) ++ ((if x.at_ = a then [] else [x]) ++ insW a w (d || decide (a ≤ x.at_)) (l.drop (i + 1))) := by
  obtain ⟨hlt, he⟩ := List.getElem?_eq_some_iff.1 hi
  rw [show l.drop i = x :: l.drop (i + 1) from by rw [← he]; exact List.drop_eq_getElem_cons hlt]
  rfl
theorem insW_len (a w : Int) : ∀ (l : List W2) (d : Bool), (insW a w d l).length ≤ l.length + (if d then 0 else 1)
  | [], d => by
    unfold insW
    cases d
    · split <;> simp
    · simp
  | p :: t, d => by
    have ih := insW_len a w t (d || decide (a ≤ p.at_))
    unfold insW
    rw [List.length_append, List.length_append, List.length_cons]
    cases d
    · by_cases hle : a ≤ p.at_
      · simp only [hle, Bool.false_or, decide_true, if_true] at ih
        have h1 : (if false = false ∧ a ≤ p.at_ ∧ w ≠ 0 then [(⟨a, w⟩ : W2)] else []).length ≤ 1 := by split <;> simp
        have h2 : (if p.at_ = a then [] else [p]).length ≤ 1 := by split <;> simp
        simp only [hle, Bool.false_or, decide_true, true_and] at h1 ⊢
        simp only [Bool.false_eq_true, if_false] at ih ⊢
        omega
      · simp only [hle, Bool.false_or, decide_false] at ih ⊢
        have h2 : (if p.at_ = a then [] else [p]).length ≤ 1 := by split <;> simp
        simp at ih ⊢; omega
    · simp only [Bool.true_or, if_true] at ih ⊢
      have h2 : (if p.at_ = a then [] else [p]).length ≤ 1 := by split <;> simp
      simp; omega
theorem insW_cases {a w : Int} {l : List W2} {i : Nat} {x : W2} (hi : l[i]? = some x) (d : Bool) :
    (d = true ∧ a = x.at_ ∧ insW a w d (l.drop i) = insW a w true (l.drop (i + 1))) ∨ (d = true ∧ x.at_ ≠ a ∧ insW a w d (l.drop i) = [x] ++ insW a w true (l.drop (i + 1))) ∨
    (d = false ∧ x.at_ < a ∧ insW a w d (l.drop i) = [x] ++ insW a w false (l.drop (i + 1))) ∨ (d = false ∧ a < x.at_ ∧ w = 0 ∧ insW a w d (l.drop i) = [x] ++ insW a w true (l.drop (i + 1))) ∨
    (d = false ∧ a < x.at_ ∧ w ≠ 0 ∧ insW a w d (l.drop i) = [⟨a, w⟩, x] ++ insW a w true (l.drop (i + 1))) ∨ (d = false ∧ a = x.at_ ∧ w = 0 ∧ insW a w d (l.drop i) = insW a w true (l.drop (i + 1))) ∨
    (d = false ∧ a = x.at_ ∧ w ≠ 0 ∧ insW a w d (l.drop i) = [⟨a, w⟩] ++ insW a w true (l.drop (i + 1))) := by
  have h := insW_step (a := a) (w := w) hi d
  cases d
  · rcases Int.lt_trichotomy x.at_ a with h1 | h1 | h1
    · refine .inr (.inr (.inl ⟨rfl, h1, ?_⟩))
      rw [h, if_neg (by omega), if_neg (by omega), decide_eq_false (by omega)]; rfl
    · by_cases hw : w = 0
      · refine .inr (.inr (.inr (.inr (.inr (.inl ⟨rfl, h1.symm, hw, ?_⟩)))))
        rw [h, if_neg (by omega), if_pos h1, decide_eq_true (by omega)]; rfl
      · refine .inr (.inr (.inr (.inr (.inr (.inr ⟨rfl, h1.symm, hw, ?_⟩)))))
        rw [h, if_pos ⟨rfl, by omega, hw⟩, if_pos h1, decide_eq_true (by omega)]; rfl
    · by_cases hw : w = 0
      · refine .inr (.inr (.inr (.inl ⟨rfl, h1, hw, ?_⟩)))
        rw [h, if_neg (by omega), if_neg (by omega), decide_eq_true (by omega)]; rfl
      · refine .inr (.inr (.inr (.inr (.inl ⟨rfl, h1, hw, ?_⟩))))
        rw [h, if_pos ⟨rfl, by omega, hw⟩, if_neg (by omega), decide_eq_true (by omega)]; rfl
  · by_cases h1 : x.at_ = a
    · refine .inl ⟨rfl, h1.symm, ?_⟩
      rw [h, if_neg (by simp), if_pos h1]; rfl
    · refine .inr (.inl ⟨rfl, h1, ?_⟩)
      rw [h, if_neg (by simp), if_neg h1]; rfl
def wrW (size : Int) (l : List W2) (a w : Int) : List W2 := if errV size a = 0 then insW a w false l else l
theorem wrW_len (size : Int) (l : List W2) (a w : Int) : (wrW size l a w).length ≤ l.length + 1 := by
  unfold wrW
  split
  · exact insW_len a w l false
  · omega
end Go.Proofs.Ytmmljeekonechaa.Ye
