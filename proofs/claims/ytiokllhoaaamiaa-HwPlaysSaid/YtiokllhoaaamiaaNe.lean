/- Books along plays: what holds of them, and what Take and Drop do to it. -/
import Derived.Test.YtiokllhoaaamiaaProg
import Derived.Test.YtiokllhoaaamiaaNd
namespace Go.Proofs.Ytiokllhoaaamiaa.Ne
open Go.RowKit Go.Proofs.Ytiokllhoaaamiaa.G Go.Proofs.Ytiokllhoaaamiaa.B Go.Proofs.Ytiokllhoaaamiaa.M Go.Proofs.Ytiokllhoaaamiaa.Mv Go.Proofs.Ytiokllhoaaamiaa.Sm Go.Proofs.Ytiokllhoaaamiaa.Na Go.Proofs.Ytiokllhoaaamiaa.Nb Go.Proofs.Ytiokllhoaaamiaa.Nc Go.Proofs.Ytiokllhoaaamiaa.Nd
set_option linter.unusedVariables false
set_option linter.unusedSimpArgs false
set_option maxRecDepth 100000
/-- A row holds these numbers first. -/
def Holds (n : Nat) (os : List Int) (cur : Array Value) : Prop := ∀ j, j < n → cur[j]? = some (.int .i64 (os.getD j 0))
theorem holds_take {n : Nat} {os : List Int} {cur : Array Value} (h : Holds n os cur) (hl : os.length = n) : cur.toList.take n = os.map (Value.int .i64) := by
  apply List.ext_getElem?
  intro j
  rw [List.getElem?_take, List.getElem?_map]
  by_cases hj : j < n
  · rw [if_pos hj]
    rw [Array.getElem?_toList, h j hj, List.getElem?_eq_getElem (l := os) (by rw [hl]; exact hj)]
    simp [List.getD, show j < os.length by rw [hl]; exact hj]
  · rw [if_neg hj, List.getElem?_eq_none (by rw [hl]; omega)]; rfl
theorem holds_of {n : Nat} {os : List Int} {cur : Array Value} (h : cur.toList.take n = os.map (Value.int .i64)) (hl : os.length = n) : Holds n os cur := fun j hj => take_get h (by
  rw [List.getElem?_map, List.getElem?_eq_getElem (by rw [hl]; exact hj)]
  simp [List.getD, show j < os.length by rw [hl]; exact hj])
theorem holds_set {n : Nat} {os : List Int} {cur : Array Value} (h : Holds n os cur) (hl : os.length = n) (i : Nat) (v : Int) (hi : i < n) : Holds n (os.set i v) (cur.setIfInBounds i (.int .i64 v)) := fun j hj => by
  rw [set_get _ _ _ _ (by rw [hl]; exact hi), Array.getElem?_setIfInBounds]
  have hsz : i < cur.size := (Array.getElem?_eq_some_iff.1 (h i hi)).1
  by_cases e : i = j
  · subst e; simp [hsz]
  · rw [if_neg e, if_neg e]; exact h j hj
/-- No two numbers have one owner. -/
def Dist (os : List Int) : Prop := ∀ i j, j < i → i < os.length → ¬ os.getD i 0 = 0 → ¬ os.getD j 0 = os.getD i 0
theorem dist_zero (n : Nat) : Dist (List.replicate n 0) := fun i j hj hi h => by
  exfalso
  apply h
  rw [List.length_replicate] at hi
  simp [List.getD, hi]
theorem dist_set {os : List Int} (h : Dist os) (i : Nat) (v : Int) (hi : i < os.length) (hv : v = 0 ∨ idxI os v = -1) : Dist (os.set i v) := by
  intro a b hb ha h0
  rw [List.length_set] at ha
  rw [set_get _ _ _ _ hi] at h0 ⊢
  rw [set_get _ _ _ _ hi]
  have hno : ¬ v = 0 → ∀ k, k < os.length → ¬ os.getD k 0 = v := fun hv0 k hk e => by
    rcases hv with hv | hv
    · exact hv0 hv
    · have := idxI_first hk e; omega
  by_cases e1 : i = a
  · rw [if_pos e1] at h0 ⊢
    rw [if_neg (by omega)]
    exact hno h0 b (by omega)
  · rw [if_neg e1] at h0 ⊢
    by_cases e2 : i = b
    · rw [if_pos e2]
      intro e
      exact hno (by rw [e]; exact h0) a ha e.symm
    · rw [if_neg e2]
      exact h a b hb ha h0
structure Good (n : Nat) (os : List Int) (vic : Int) : Prop where
  len : os.length = n
  dist : Dist os
  v0 : 0 ≤ vic
  v1 : vic < n
def takes (gB g n : Nat) (os : List Int) (vic v i x e : Int) (os' : List Int) (vic' : Int) : Prop :=
  Does Try.prog 12 #[.pointer (some ⟨gB, 0, none⟩), .int .i64 v] (bk gB g n os vic) fun r L => r = .tuple #[.int .i64 i, .int .i64 x, .int .i64 e] ∧ L = bk gB g n os' vic'
theorem next_vic (n : Nat) (vic : Int) (h0 : 0 ≤ vic) (h1 : vic < n) : 0 ≤ (vic + 1).tmod n ∧ (vic + 1).tmod n < n := by
  obtain ⟨k, rfl⟩ := Int.eq_ofNat_of_zero_le h0
  have := tmod_nat (k + 1) n
  rw [show ((k : Int) + 1) = ((k + 1 : Nat) : Int) by omega, this]
  have := Nat.mod_lt (k + 1) (show 0 < n by omega)
  omega
theorem next_vic_eq (n : Nat) (vic : Int) (h0 : 0 ≤ vic) (h1 : vic < n) : (vic + 1).tmod n = if vic + 1 = n then 0 else vic + 1 := by
  obtain ⟨k, rfl⟩ := Int.eq_ofNat_of_zero_le h0
  have := tmod_nat (k + 1) n
  rw [show ((k : Int) + 1) = ((k + 1 : Nat) : Int) by omega, this]
  split
  · rename_i h
    rw [show k + 1 = n by omega, Nat.mod_self]; rfl
  · rw [Nat.mod_eq_of_lt (by omega)]
/-- What a book's Take answers and does, each way. -/
theorem take_any (gB g n : Nat) (os : List Int) (vic v : Int) (h1 : n ≤ 1000) (G : Good n os vic) :
    (¬ (1 ≤ v ∧ v < 4096) ∧ takes gB g n os vic v 0 0 12 os vic) ∨
    ((1 ≤ v ∧ v < 4096) ∧ ∃ (i : Nat) (x : Int) (os' : List Int) (vic' : Int), i < n ∧ takes gB g n os vic v i x 0 os' vic' ∧ Good n os' vic' ∧ os'.getD i 0 = v ∧
      ((idxI os v = i ∧ x = 0 ∧ os' = os ∧ vic' = vic) ∨
       (idxI os v = -1 ∧ idxI os 0 = i ∧ x = 0 ∧ os' = os.set i v ∧ vic' = vic) ∨
       (idxI os v = -1 ∧ idxI os 0 = -1 ∧ (i : Int) = vic ∧ x = os.getD i 0 ∧ ¬ x = 0 ∧ ¬ x = v ∧ os' = os.set i v ∧ vic' = (vic + 1).tmod n))) := by
  by_cases hv : 1 ≤ v ∧ v < 4096
  · refine .inr ⟨hv, ?_⟩
    have hr := idxI_range os v
    by_cases hf : idxI os v = -1
    · have hz := idxI_range os 0
      by_cases h0 : idxI os 0 = -1
      · obtain ⟨i, rfl⟩ := Int.eq_ofNat_of_zero_le G.v0
        have hi : i < n := by have := G.v1; omega
        have hne : ∀ y : Int, (y = 0 ∨ y = v) → ¬ os.getD i 0 = y := fun y hy e => by
          have hl := idxI_first (os := os) (v := y) (j := i) (by rw [G.len]; exact hi) e
          rcases hy with rfl | rfl <;> omega
        have nv := next_vic n i (by omega) (by omega)
        refine ⟨i, os.getD i 0, os.set i v, ((i : Int) + 1).tmod n, hi, take_vic gB g n os _ v _ i G.len h1 hv hf h0 hi rfl rfl, ⟨by rw [List.length_set]; exact G.len, dist_set G.dist i v (by rw [G.len]; exact hi) (.inr hf), nv.1, nv.2⟩, ?_, .inr (.inr ⟨hf, h0, rfl, rfl, hne 0 (.inl rfl), hne v (.inr rfl), rfl, rfl⟩)⟩
        rw [set_get _ _ _ _ (by rw [G.len]; exact hi), if_pos rfl]
      · obtain ⟨i, hi⟩ := Int.eq_ofNat_of_zero_le (show 0 ≤ idxI os 0 by omega)
        have hin : i < n := by rw [G.len] at hz; omega
        refine ⟨i, 0, os.set i v, vic, hin, take_zero gB g n os vic v i G.len h1 hv hf hi, ⟨by rw [List.length_set]; exact G.len, dist_set G.dist i v (by rw [G.len]; exact hin) (.inr hf), G.v0, G.v1⟩, ?_, .inr (.inl ⟨hf, hi, rfl, rfl, rfl⟩)⟩
        rw [set_get _ _ _ _ (by rw [G.len]; exact hin), if_pos rfl]
    · obtain ⟨i, hi⟩ := Int.eq_ofNat_of_zero_le (show 0 ≤ idxI os v by omega)
      have hin : i < n := by rw [G.len] at hr; omega
      have hg := idxI_get (os := os) (v := v) (by omega)
      rw [hi] at hg
      refine ⟨i, 0, os, vic, hin, take_found gB g n os vic v i hv (find_yes gB g n os vic v i G.len h1 hi (by omega) hv), G, by simpa using hg, .inl ⟨hi, rfl, rfl, rfl⟩⟩
  · exact .inl ⟨hv, take_unknown gB g n os vic v hv⟩
def drops (gB g n : Nat) (os : List Int) (vic v i : Int) (b : Bool) (os' : List Int) : Prop :=
  Does Try.prog 22 #[.pointer (some ⟨gB, 0, none⟩), .int .i64 v] (bk gB g n os vic) fun r L => r = .tuple #[.int .i64 i, .bool b] ∧ L = bk gB g n os' vic
/-- What a book's Drop answers and does. -/
theorem drop_any (gB g n : Nat) (os : List Int) (vic v : Int) (h1 : n ≤ 1000) (G : Good n os vic) :
    ((idxI os v = -1 ∨ ¬ (1 ≤ v ∧ v < 4096)) ∧ drops gB g n os vic v 0 false os) ∨
    ((1 ≤ v ∧ v < 4096) ∧ ∃ i : Nat, i < n ∧ idxI os v = i ∧ drops gB g n os vic v i true (os.set i 0) ∧ Good n (os.set i 0) vic) := by
  by_cases h : idxI os v = -1 ∨ ¬ (1 ≤ v ∧ v < 4096)
  · exact .inl ⟨h, drop_no gB g n os vic v (find_no gB g n os vic v G.len h1 h)⟩
  · have hv : 1 ≤ v ∧ v < 4096 := by
      by_cases hv : 1 ≤ v ∧ v < 4096
      · exact hv
      · exact absurd (.inr hv) h
    have hr := idxI_range os v
    have hf : ¬ idxI os v = -1 := fun e => h (.inl e)
    obtain ⟨i, hi⟩ := Int.eq_ofNat_of_zero_le (show 0 ≤ idxI os v by omega)
    have hin : i < n := by rw [G.len] at hr; omega
    exact .inr ⟨hv, i, hin, hi, drop_yes gB g n os vic v i G.len h1 hin (find_yes gB g n os vic v i G.len h1 hi (by omega) hv), ⟨by rw [List.length_set]; exact G.len, dist_set G.dist i 0 (by rw [G.len]; exact hin) (.inl rfl), G.v0, G.v1⟩⟩
end Go.Proofs.Ytiokllhoaaamiaa.Ne
