/- Plain laws of walks through tables: an entry, a walk, its words. No program in sight but the words' laws. -/
import Derived.Test.YtfnmdelkdombbaaYf
import Derived.Test.YtfnmdelkdombbaaEq
import Derived.Test.YtfnmdelkdombbaaYg
namespace Go.Proofs.Ytfnmdelkdombbaa.Yh
open Go.RowKit Go.Proofs.Ytfnmdelkdombbaa.G Go.Proofs.Ytfnmdelkdombbaa.B Go.Proofs.Ytfnmdelkdombbaa.Ya Go.Proofs.Ytfnmdelkdombbaa.Yb Go.Proofs.Ytfnmdelkdombbaa.Yd Go.Proofs.Ytfnmdelkdombbaa.Ds Go.Proofs.Ytfnmdelkdombbaa.Eq Go.Proofs.Ytfnmdelkdombbaa.Yg
set_option linter.unusedVariables false
set_option linter.unusedSimpArgs false
/-- What a table's entry says: its descriptor, a fault's kind and level, the word that was read. -/
structure Ent where
  d : D7
  fk : Int
  fl : Int
  st : List W2
open Classical in
noncomputable def entD (size level : Int) (o : Option D7) (st : List W2) : Ent := match o with
  | none => ⟨zero, 4, level, st⟩
  | some d => if d.kind = 0 then ⟨d, 1, level, st⟩ else if d.kind = 1 ∨ (d.out ≤ size ∧ lsize level ≤ size - d.out) then ⟨d, 0, 0, st⟩ else ⟨zero, 4, level, st⟩
noncomputable def entV (size : Int) (f : Int → Int) (level table idx : Int) : Ent :=
  if errV size (table + idx * 8) = 0 then entD size level (decV level (f ((table + idx * 8) / 8))) [⟨table + idx * 8, f ((table + idx * 8) / 8)⟩] else ⟨zero, 4, level, []⟩
/-- Where a walk ends. -/
structure Res where
  lev : Int
  d : D7
  fk : Int
  fl : Int
  st : List W2
noncomputable def goV (size : Int) (f : Int → Int) (va : Int) : Nat → Int → Int → Res
  | 0, _, _ => ⟨0, zero, 1, 0, []⟩
  | n + 1, level, table =>
    if (entV size f level table (idxV va level)).fk ≠ 0 then ⟨0, zero, (entV size f level table (idxV va level)).fk, (entV size f level table (idxV va level)).fl, (entV size f level table (idxV va level)).st⟩
    else if (entV size f level table (idxV va level)).d.kind ≠ 1 then ⟨level, (entV size f level table (idxV va level)).d, 0, 0, (entV size f level table (idxV va level)).st⟩
    else ⟨(goV size f va n (level + 1) (entV size f level table (idxV va level)).d.out).lev, (goV size f va n (level + 1) (entV size f level table (idxV va level)).d.out).d, (goV size f va n (level + 1) (entV size f level table (idxV va level)).d.out).fk, (goV size f va n (level + 1) (entV size f level table (idxV va level)).d.out).fl, (entV size f level table (idxV va level)).st ++ (goV size f va n (level + 1) (entV size f level table (idxV va level)).d.out).st⟩
noncomputable def fromV (size : Int) (f : Int → Int) (level table va : Int) : Res :=
  if 0 ≤ level ∧ level ≤ 3 ∧ table % 4096 = 0 ∧ va < 281474976710656 then goV size f va (4 - level).toNat level table else ⟨0, zero, 1, 0, []⟩
/-- What is read is a word. -/
theorem decV_kind {level x : Int} (l0 : 0 ≤ level) (l3 : level < 4) (h0 : 0 ≤ x) (h1 : x < 18446744073709551616) {d : D7} (h : decV level x = some d) : (d = zero) ∨ (d.kind = 1 ∧ level < 3 ∧ 0 ≤ d.out ∧ d.out < 281474976710656 ∧ d.out % 4096 = 0) ∨ ((d.kind = 2 ∨ d.kind = 3) ∧ 0 ≤ d.out ∧ d.out < 281474976710656 ∧ d.out % 4096 = 0) := by
  have ho : 0 ≤ d.out := by
    unfold decV at h
    split at h
    · simp at h; subst h; decide
    · split at h
      · split at h
        · simp at h; subst h; simp [saidT]; omega
        · cases h
      · split at h
        · simp at h; subst h; simp [saidL]; omega
        · cases h
  have := (decV_right level x l0 l3 h0 h1 d h).1
  rcases right_cases level d l0 l3 ho this with h2 | ⟨h2, h3, h4, h5⟩ | ⟨h2, h3, h4, -⟩
  · exact .inl h2
  · exact .inr (.inl ⟨by rw [h3], h2, ho, h4, h5⟩)
  · refine .inr (.inr ⟨?_, ho, h3, h4⟩)
    rcases h2 with ⟨h2, -⟩ | ⟨h2, -⟩
    · exact .inl h2
    · exact .inr h2
/-- An entry: each way. -/
theorem ent_cases (size : Int) (f : Int → Int) (hf : ∀ n, 0 ≤ f n ∧ f n < 18446744073709551616) (level table idx : Int) (l0 : 0 ≤ level) (l3 : level < 4) :
    (∃ fk, (fk = 1 ∨ fk = 4) ∧ (entV size f level table idx).fk = fk ∧ (entV size f level table idx).fl = level ∧ (entV size f level table idx).d = zero) ∨
    ((entV size f level table idx).fk = 0 ∧ (entV size f level table idx).fl = 0 ∧ (entV size f level table idx).d.kind = 1 ∧ level < 3 ∧ 0 ≤ (entV size f level table idx).d.out ∧ (entV size f level table idx).d.out < 281474976710656 ∧ (entV size f level table idx).d.out % 4096 = 0) ∨
    ((entV size f level table idx).fk = 0 ∧ (entV size f level table idx).fl = 0 ∧ ((entV size f level table idx).d.kind = 2 ∨ (entV size f level table idx).d.kind = 3) ∧ 0 ≤ (entV size f level table idx).d.out ∧ (entV size f level table idx).d.out < 281474976710656) := by
  unfold entV
  split
  · unfold entD
    cases hd : decV level (f ((table + idx * 8) / 8)) with
    | none => exact .inl ⟨4, .inr rfl, rfl, rfl, rfl⟩
    | some d =>
      dsimp only
      rcases decV_kind l0 l3 (hf _).1 (hf _).2 hd with h | ⟨h, h2, h3, h4, h5⟩ | ⟨h, h2, h3, h4⟩
      · subst h
        rw [if_pos (by rfl)]
        exact .inl ⟨1, .inl rfl, rfl, rfl, rfl⟩
      · rw [if_neg (by omega), if_pos (.inl h)]
        exact .inr (.inl ⟨rfl, rfl, h, h2, h3, h4, h5⟩)
      · rw [if_neg (by omega)]
        split
        · exact .inr (.inr ⟨rfl, rfl, h, h2, h3⟩)
        · exact .inl ⟨4, .inr rfl, rfl, rfl, rfl⟩
  · exact .inl ⟨4, .inr rfl, rfl, rfl, rfl⟩
theorem ent_st_len (size : Int) (f : Int → Int) (level table idx : Int) : (entV size f level table idx).st.length ≤ 1 := by
  unfold entV entD
  split
  · split
    · simp
    · split
      · simp
      · split <;> simp
  · simp
theorem go_st_len (size : Int) (f : Int → Int) (va : Int) : ∀ (n : Nat) (level table : Int), (goV size f va n level table).st.length ≤ n
  | 0, _, _ => by simp [goV]
  | n + 1, level, table => by
    have h := ent_st_len size f level table (idxV va level)
    have ih := go_st_len size f va n (level + 1) (entV size f level table (idxV va level)).d.out
    unfold goV
    split
    · dsimp only; omega
    · split
      · dsimp only; omega
      · dsimp only; rw [List.length_append]; omega
/-- A walk goes on from a table that it comes to. -/
theorem go_table {size : Int} {f : Int → Int} {va : Int} {n : Nat} {level table : Int} (h0 : (entV size f level table (idxV va level)).fk = 0) (h1 : (entV size f level table (idxV va level)).d.kind = 1) :
    goV size f va (n + 1) level table = ⟨(goV size f va n (level + 1) (entV size f level table (idxV va level)).d.out).lev, (goV size f va n (level + 1) (entV size f level table (idxV va level)).d.out).d, (goV size f va n (level + 1) (entV size f level table (idxV va level)).d.out).fk, (goV size f va n (level + 1) (entV size f level table (idxV va level)).d.out).fl, (entV size f level table (idxV va level)).st ++ (goV size f va n (level + 1) (entV size f level table (idxV va level)).d.out).st⟩ := by
  conv => lhs; unfold goV
  rw [if_neg (by rw [h0]; decide), if_neg (by rw [h1]; decide)]
theorem go_leaf {size : Int} {f : Int → Int} {va : Int} {n : Nat} {level table : Int} (h0 : (entV size f level table (idxV va level)).fk = 0) (h1 : (entV size f level table (idxV va level)).d.kind ≠ 1) :
    goV size f va (n + 1) level table = ⟨level, (entV size f level table (idxV va level)).d, 0, 0, (entV size f level table (idxV va level)).st⟩ := by
  conv => lhs; unfold goV
  rw [if_neg (by rw [h0]; decide), if_pos h1]
theorem go_fault {size : Int} {f : Int → Int} {va : Int} {n : Nat} {level table : Int} (h0 : (entV size f level table (idxV va level)).fk ≠ 0) :
    goV size f va (n + 1) level table = ⟨0, zero, (entV size f level table (idxV va level)).fk, (entV size f level table (idxV va level)).fl, (entV size f level table (idxV va level)).st⟩ := by
  conv => lhs; unfold goV
  rw [if_pos h0]
theorem from_yes {size : Int} {f : Int → Int} {level table va : Int} (h : 0 ≤ level ∧ level ≤ 3 ∧ table % 4096 = 0 ∧ va < 281474976710656) : fromV size f level table va = goV size f va (4 - level).toNat level table := by
  unfold fromV; rw [if_pos h]
theorem from_no {size : Int} {f : Int → Int} {level table va : Int} (h : ¬ (0 ≤ level ∧ level ≤ 3 ∧ table % 4096 = 0 ∧ va < 281474976710656)) : fromV size f level table va = ⟨0, zero, 1, 0, []⟩ := by
  unfold fromV; rw [if_neg h]
end Go.Proofs.Ytfnmdelkdombbaa.Yh
