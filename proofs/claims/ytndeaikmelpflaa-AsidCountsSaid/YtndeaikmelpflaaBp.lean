/- Virtual ASIDs: plain laws of pools, their words, and the document's list. -/
import Derived.Test.YtndeaikmelpflaaAf
import Derived.Test.YtndeaikmelpflaaBk
namespace Go.Proofs.Ytndeaikmelpflaa.Bp
open Go.RowKit Go.Proofs.Ytndeaikmelpflaa.M Go.Proofs.Ytndeaikmelpflaa.Ya Go.Proofs.Ytndeaikmelpflaa.Yc Go.Proofs.Ytndeaikmelpflaa.Aa Go.Proofs.Ytndeaikmelpflaa.Ab Go.Proofs.Ytndeaikmelpflaa.Ac Go.Proofs.Ytndeaikmelpflaa.Af Go.Proofs.Ytndeaikmelpflaa.Bb Go.Proofs.Ytndeaikmelpflaa.Bc Go.Proofs.Ytndeaikmelpflaa.Bd Go.Proofs.Ytndeaikmelpflaa.Bg Go.Proofs.Ytndeaikmelpflaa.Bk
set_option linter.unusedVariables false
set_option linter.unusedSimpArgs false
theorem mem_upto {f : Int → Int} {ps : Nat → Int} {pool : Int} {x : Int × Int} : ∀ {n : Nat}, x ∈ upto f ps pool n ↔ ∃ i : Nat, i < n ∧ x.1 = pool * 512 + i ∧ x.2 = spc f ps x.1 ∧ x.2 ≠ 0
  | 0 => by simp [upto_zero]
  | n + 1 => by
    have ih := mem_upto (f := f) (ps := ps) (pool := pool) (x := x) (n := n)
    by_cases hz : spc f ps (pool * 512 + n) = 0
    · rw [upto_no hz, ih]
      constructor
      · rintro ⟨i, h1, h2⟩; exact ⟨i, by omega, h2⟩
      · rintro ⟨i, h1, h2, h3, h4⟩
        refine ⟨i, ?_, h2, h3, h4⟩
        have : i ≠ n := by
          rintro rfl
          rw [h2] at h3
          exact h4 (h3.trans hz)
        omega
    · rw [upto_yes hz, List.mem_append, ih, List.mem_singleton]
      constructor
      · rintro (⟨i, h1, h2⟩ | rfl)
        · exact ⟨i, by omega, h2⟩
        · exact ⟨n, by omega, rfl, rfl, hz⟩
      · rintro ⟨i, h1, h2, h3, h4⟩
        by_cases he : i = n
        · subst he
          right
          rw [h2] at h3
          exact Prod.ext h2 h3
        · exact .inl ⟨i, by omega, h2, h3, h4⟩
theorem sort_upto (f : Int → Int) (ps : Nat → Int) (pool : Int) : ∀ n : Nat, (upto f ps pool n).Pairwise fun a b => a.1 < b.1
  | 0 => by rw [upto_zero]; exact List.Pairwise.nil
  | n + 1 => by
    have ih := sort_upto f ps pool n
    by_cases hz : spc f ps (pool * 512 + n) = 0
    · rw [upto_no hz]; exact ih
    · rw [upto_yes hz, List.pairwise_append]
      refine ⟨ih, List.pairwise_singleton _ _, fun a ha b hb => ?_⟩
      rw [List.mem_singleton] at hb
      subst hb
      obtain ⟨i, h1, h2, -⟩ := mem_upto.1 ha
      rw [h2]
      show pool * 512 + (i : Int) < pool * 512 + (n : Int)
      omega
theorem mem_cat {f : Int → Int} {ps : Nat → Int} {x : Int × Int} : ∀ {j : Nat}, x ∈ cat f ps j ↔ 0 ≤ x.1 ∧ x.1 < j * 512 ∧ x.2 = spc f ps x.1 ∧ x.2 ≠ 0
  | 0 => by
    simp only [cat, List.not_mem_nil, false_iff]
    omega
  | j + 1 => by
    rw [cat, List.mem_append, mem_cat, mem_upto]
    constructor
    · rintro (⟨h1, h2, h3⟩ | ⟨i, h1, h2, h3⟩)
      · exact ⟨h1, by omega, h3⟩
      · exact ⟨by omega, by omega, h3⟩
    · rintro ⟨h1, h2, h3⟩
      by_cases hl : x.1 < j * 512
      · exact .inl ⟨h1, hl, h3⟩
      · exact .inr ⟨(x.1 - j * 512).toNat, by omega, by omega, h3⟩
theorem sort_cat (f : Int → Int) (ps : Nat → Int) : ∀ j : Nat, (cat f ps j).Pairwise fun a b => a.1 < b.1
  | 0 => List.Pairwise.nil
  | j + 1 => by
    rw [cat, List.pairwise_append]
    refine ⟨sort_cat f ps j, sort_upto f ps _ 512, fun a ha b hb => ?_⟩
    obtain ⟨-, h1, -⟩ := mem_cat.1 ha
    obtain ⟨i, h2, h3, -⟩ := mem_upto.1 hb
    omega
def toV (x : Int × Int) : V2 := ⟨x.1, x.2⟩
/-- The document's list. -/
def vl (f : Int → Int) (ps : Nat → Int) : List V2 := (cat f ps 8).map toV
abbrev Srt (l : List V2) : Prop := l.Pairwise fun a b => a.v < b.v
theorem sort_map {l : List (Int × Int)} (h : l.Pairwise fun a b => a.1 < b.1) : Srt (l.map toV) := List.pairwise_map.2 (h.imp fun {a b} hab => hab)
theorem sort_vl (f : Int → Int) (ps : Nat → Int) : Srt (vl f ps) := sort_map (sort_cat f ps 8)
theorem spc_rng {f : Int → Int} {ps : Nat → Int} {v : Int} (h : spc f ps v ≠ 0) : okA ps v = true ∧ 1 ≤ v ∧ v < 4096 ∧ okP ps (v / 512) = true := by
  have ho : okA ps v = true := by
    cases hok : okA ps v with
    | true => rfl
    | false => exact absurd (by unfold spc; rw [hok]; rfl) h
  refine ⟨ho, ?_⟩
  unfold okA okP at ho
  unfold okP
  simp only [Bool.and_eq_true, decide_eq_true_eq] at ho ⊢
  obtain ⟨h1, h2, h3⟩ := ho
  exact ⟨h1, by omega, h2, h3⟩
theorem mem_vl {f : Int → Int} {ps : Nat → Int} {y : V2} : y ∈ vl f ps ↔ y.sp = spc f ps y.v ∧ y.sp ≠ 0 := by
  unfold vl
  rw [List.mem_map]
  constructor
  · rintro ⟨x, hx, rfl⟩
    exact (mem_cat.1 hx).2.2
  · rintro ⟨h1, h2⟩
    obtain ⟨-, h3, h4, -⟩ := spc_rng (by rw [← h1]; exact h2)
    exact ⟨(y.v, y.sp), mem_cat.2 ⟨by show 0 ≤ y.v; omega, by show y.v < ((8 : Nat) : Int) * 512; omega, h1, h2⟩, rfl⟩
theorem vl_rng {f : Int → Int} {ps : Nat → Int} : ∀ y ∈ vl f ps, 0 ≤ y.v ∧ y.v < 4096 := fun y hy => by
  obtain ⟨h1, h2⟩ := mem_vl.1 hy
  obtain ⟨-, h3, h4, -⟩ := spc_rng (by rw [← h1]; exact h2)
  omega
theorem vl_len (f : Int → Int) (ps : Nat → Int) : (vl f ps).length ≤ 4096 := by
  have := cat_len f ps 8
  unfold vl
  rw [List.length_map]; omega
/-- Rising lists with the same members are one. -/
theorem srt_ext : ∀ {l m : List V2}, Srt l → Srt m → (∀ y, y ∈ l ↔ y ∈ m) → l = m
  | [], [], _, _, _ => rfl
  | [], b :: m, _, _, h => by have := (h b).2 (by simp); simp at this
  | a :: l, [], _, _, h => by have := (h a).1 (by simp); simp at this
  | a :: l, b :: m, hl, hm, h => by
    obtain ⟨ha, hl'⟩ := List.pairwise_cons.1 hl
    obtain ⟨hb, hm'⟩ := List.pairwise_cons.1 hm
    have hab : a = b := by
      rcases List.mem_cons.1 ((h a).1 (by simp)) with e | e
      · exact e
      · rcases List.mem_cons.1 ((h b).2 (by simp)) with e2 | e2
        · exact e2.symm
        · have := hb a e
          have := ha b e2
          omega
    subst hab
    congr 1
    refine srt_ext hl' hm' fun y => ⟨fun hy => ?_, fun hy => ?_⟩
    · rcases List.mem_cons.1 ((h y).1 (by simp [hy])) with e | e
      · subst e; have := ha y hy; omega
      · exact e
    · rcases List.mem_cons.1 ((h y).2 (by simp [hy])) with e | e
      · subst e; have := hb y hy; omega
      · exact e
theorem look_vl (f : Int → Int) (ps : Nat → Int) (v : Int) : lookV (vl f ps) v = spc f ps v := by
  unfold lookV
  cases hf : (vl f ps).find? (fun x => decide (x.v = v)) with
  | none =>
    rw [List.find?_eq_none] at hf
    by_cases hz : spc f ps v = 0
    · rw [hz]; rfl
    · have := hf ⟨v, spc f ps v⟩ (mem_vl.2 ⟨rfl, hz⟩)
      simp at this
  | some y =>
    have h1 := List.mem_of_find?_eq_some hf
    have h2 := List.find?_some hf
    simp only [decide_eq_true_eq] at h2
    show y.sp = _
    rw [(mem_vl.1 h1).1, h2]
theorem okP_iff {ps : Nat → Int} {i : Int} : okP ps i = true ↔ 0 ≤ i ∧ i < 8 ∧ ps i.toNat ≠ 0 := by
  unfold okP
  simp only [Bool.and_eq_true, decide_eq_true_eq]
  exact ⟨fun ⟨⟨a, b⟩, c⟩ => ⟨a, b, c⟩, fun ⟨a, b, c⟩ => ⟨⟨a, b⟩, c⟩⟩
theorem okA_iff {ps : Nat → Int} {v : Int} : okA ps v = true ↔ 1 ≤ v ∧ v < 4096 ∧ ps (v / 512).toNat ≠ 0 := by
  unfold okA
  rw [Bool.and_eq_true, decide_eq_true_eq, okP_iff]
  constructor
  · rintro ⟨h1, h2, h3, h4⟩; exact ⟨h1, by omega, h4⟩
  · rintro ⟨h1, h2, h3⟩; exact ⟨h1, by omega, by omega, h3⟩
theorem atA_ok {ps : Nat → Int} {v : Int} (h : okA ps v = true) : atA ps v = ps (v / 512).toNat + v % 512 * 8 := by
  obtain ⟨h1, h2, h3⟩ := okA_iff.1 h
  unfold atA poolP
  rw [if_pos h1, if_pos (okP_iff.2 ⟨by omega, by omega, h3⟩)]
theorem at_inj {ps : Nat → Int} (hp : Psok ps) {u v : Int} (hu : okA ps u = true) (hv : okA ps v = true) (e : atA ps u / 8 = atA ps v / 8) : u = v := by
  rw [atA_ok hu, atA_ok hv] at e
  obtain ⟨u1, u2, u3⟩ := okA_iff.1 hu
  obtain ⟨v1, v2, v3⟩ := okA_iff.1 hv
  have hpu := (hp.each (u / 512).toNat (by omega)).resolve_left u3
  have hpv := (hp.each (v / 512).toNat (by omega)).resolve_left v3
  have hpp : ps (u / 512).toNat = ps (v / 512).toNat := by omega
  have := hp.inj _ _ (by omega) (by omega) u3 hpp
  omega
theorem spc_upd {f : Int → Int} {ps : Nat → Int} (hp : Psok ps) {v : Int} (hv : okA ps v = true) (x u : Int) : spc (upd f (atA ps v / 8) x) ps u = if u = v then x else spc f ps u := by
  unfold spc
  by_cases hu : okA ps u = true
  · rw [if_pos hu, if_pos hu]
    unfold upd
    by_cases e : u = v
    · subst e; rw [if_pos rfl, if_pos rfl]
    · rw [if_neg (fun h => e (at_inj hp hu hv h)), if_neg e]
  · rw [if_neg hu, if_neg hu]
    split
    · rename_i e; subst e; exact absurd hv hu
    · rfl
theorem spc_drop (f : Int → Int) (ps : Nat → Int) (p : Nat) (u : Int) : spc f (upp ps p 0) u = if u / 512 = p then 0 else spc f ps u := by
  unfold spc
  by_cases e : u / 512 = p
  · rw [if_pos e, if_neg]
    rw [okA_iff]
    rintro ⟨-, -, h⟩
    apply h
    rw [e]
    simp [upp]
  · rw [if_neg e]
    by_cases hr : 1 ≤ u ∧ u < 4096
    · have hup : upp ps p 0 (u / 512).toNat = ps (u / 512).toNat := by
        unfold upp; rw [if_neg (by omega)]
      have hok : okA (upp ps p 0) u = okA ps u := by
        rw [Bool.eq_iff_iff, okA_iff, okA_iff, hup]
      rw [hok]
      by_cases ho : okA ps u = true
      · rw [if_pos ho, if_pos ho, atA_ok ho, atA_ok (hok.trans ho), hup]
      · rw [if_neg ho, if_neg ho]
    · rw [if_neg, if_neg]
      · rw [okA_iff]; rintro ⟨a, b, -⟩; exact hr ⟨a, b⟩
      · rw [okA_iff]; rintro ⟨a, b, -⟩; exact hr ⟨a, b⟩
theorem spc_add {f : Int → Int} {ps : Nat → Int} (hp : Psok ps) {m : Nat} (hm : m < 8) (hz : ps m = 0) {p : Int} (h1 : p % 4096 = 0) (h2 : ¬ (p = 0 ∨ 131072 ≤ p)) (p0 : 0 ≤ p) (hn : ∀ j : Nat, j < 8 → ps j ≠ p) (u : Int) : spc (clr f (p / 4096)) (upp ps m p) u = spc f ps u := by
  unfold spc
  by_cases hr : 1 ≤ u ∧ u < 4096
  · by_cases e : u / 512 = m
    · have hno : okA ps u ≠ true := by
        rw [ne_eq, okA_iff]; rintro ⟨-, -, h⟩; apply h; rw [e]; exact hz
      rw [if_neg hno]
      split
      · rename_i hok
        rw [atA_ok hok, e]
        have e2 : upp ps m p ((m : Int)).toNat = p := by unfold upp; rw [Int.toNat_natCast, if_pos rfl]
        rw [e2]
        unfold clr
        rw [if_pos (by omega)]
      · rfl
    · have hup : upp ps m p (u / 512).toNat = ps (u / 512).toNat := by
        unfold upp; rw [if_neg (by omega)]
      have hok : okA (upp ps m p) u = okA ps u := by
        rw [Bool.eq_iff_iff, okA_iff, okA_iff, hup]
      rw [hok]
      by_cases ho : okA ps u = true
      · rw [if_pos ho, if_pos ho, atA_ok ho, atA_ok (hok.trans ho), hup]
        obtain ⟨-, -, h3⟩ := okA_iff.1 ho
        have hpu := (hp.each (u / 512).toNat (by omega)).resolve_left h3
        have := hn (u / 512).toNat (by omega)
        unfold clr
        rw [if_neg (by omega)]
      · rw [if_neg ho, if_neg ho]
  · rw [if_neg, if_neg]
    · rw [okA_iff]; rintro ⟨a, b, -⟩; exact hr ⟨a, b⟩
    · rw [okA_iff]; rintro ⟨a, b, -⟩; exact hr ⟨a, b⟩
theorem psok_drop {ps : Nat → Int} (hp : Psok ps) (p : Nat) : Psok (upp ps p 0) := by
  refine ⟨fun i hi => ?_, fun i j hi hj h1 h2 => ?_⟩
  · unfold upp
    split
    · exact .inl rfl
    · exact hp.each i hi
  · unfold upp at h1 h2
    by_cases ei : i = p
    · rw [if_pos ei] at h1; exact absurd rfl h1
    · rw [if_neg ei] at h1 h2
      by_cases ej : j = p
      · rw [if_pos ej] at h2; exact absurd h2 h1
      · rw [if_neg ej] at h2; exact hp.inj i j hi hj h1 h2
theorem psok_add {ps : Nat → Int} (hp : Psok ps) (m : Nat) {p : Int} (h1 : p % 4096 = 0) (h2 : ¬ (p = 0 ∨ 131072 ≤ p)) (p0 : 0 ≤ p) (hn : ∀ j : Nat, j < 8 → ps j ≠ p) : Psok (upp ps m p) := by
  refine ⟨fun i hi => ?_, fun i j hi hj h3 h4 => ?_⟩
  · unfold upp
    split
    · exact .inr ⟨by omega, by omega, h1⟩
    · exact hp.each i hi
  · unfold upp at h3 h4
    by_cases ei : i = m
    · by_cases ej : j = m
      · omega
      · rw [if_pos ei, if_neg ej] at h4; exact absurd h4.symm (hn j hj)
    · rw [if_neg ei] at h3 h4
      by_cases ej : j = m
      · rw [if_pos ej] at h4; exact absurd h4 (hn i hi)
      · rw [if_neg ej] at h4; exact hp.inj i j hi hj h3 h4
theorem psok_none : Psok fun _ => 0 := ⟨fun _ _ => .inl rfl, fun _ _ _ _ h _ => absurd rfl h⟩
theorem vl_add {f : Int → Int} {ps : Nat → Int} (hp : Psok ps) {m : Nat} (hm : m < 8) (hz : ps m = 0) {p : Int} (h1 : p % 4096 = 0) (h2 : ¬ (p = 0 ∨ 131072 ≤ p)) (p0 : 0 ≤ p) (hn : ∀ j : Nat, j < 8 → ps j ≠ p) : vl (clr f (p / 4096)) (upp ps m p) = vl f ps :=
  srt_ext (sort_vl _ _) (sort_vl _ _) fun y => by rw [mem_vl, mem_vl, spc_add hp hm hz h1 h2 p0 hn]
theorem srt_filter {l : List V2} (h : Srt l) (q : V2 → Bool) : Srt (l.filter q) := h.sublist List.filter_sublist
theorem vl_drop (f : Int → Int) (ps : Nat → Int) (p : Nat) : vl f (upp ps p 0) = (vl f ps).filter fun x => !decide (x.v / 512 = (p : Int)) :=
  srt_ext (sort_vl _ _) (srt_filter (sort_vl _ _) _) fun y => by
    rw [mem_vl, List.mem_filter, mem_vl, spc_drop]
    by_cases e : y.v / 512 = p
    · rw [if_pos e]; simp [e]
    · rw [if_neg e]; simp [e]
theorem vl_gone (f : Int → Int) (ps : Nat → Int) (p : Int) (p0 : 0 ≤ p) : (vl f ps).filter (fun x => decide (x.v / 512 = p)) = (lst f ps p).map toV :=
  srt_ext (srt_filter (sort_vl _ _) _) (sort_map (sort_upto f ps p 512)) fun y => by
    rw [List.mem_filter, mem_vl, List.mem_map, decide_eq_true_eq]
    constructor
    · rintro ⟨⟨h1, h2⟩, h3⟩
      exact ⟨(y.v, y.sp), mem_upto.2 ⟨(y.v % 512).toNat, by omega, by show y.v = _; omega, h1, h2⟩, rfl⟩
    · rintro ⟨x, hx, rfl⟩
      obtain ⟨i, h1, h2, h3, h4⟩ := mem_upto.1 hx
      exact ⟨⟨h3, h4⟩, by show x.1 / 512 = p; omega⟩
theorem vl_gone_map (f : Int → Int) (ps : Nat → Int) (p : Int) (p0 : 0 ≤ p) : ((vl f ps).filter (fun x => decide (x.v / 512 = p))).map (·.v) = (lst f ps p).map (·.1) := by
  rw [vl_gone f ps p p0, List.map_map]; rfl
theorem vl_clear {f : Int → Int} {ps : Nat → Int} (hp : Psok ps) {v : Int} (hv : okA ps v = true) : vl (upd f (atA ps v / 8) 0) ps = (vl f ps).filter fun x => decide (x.v ≠ v) :=
  srt_ext (sort_vl _ _) (srt_filter (sort_vl _ _) _) fun y => by
    rw [mem_vl, List.mem_filter, mem_vl, spc_upd hp hv]
    by_cases e : y.v = v
    · rw [if_pos e]; simp [e]
    · rw [if_neg e]; simp [e]
theorem mem_ins {l : List V2} {x y : V2} : y ∈ insV l x ↔ y ∈ l ∨ y = x := by
  unfold insV
  rw [List.mem_append, List.mem_cons]
  have h : y ∈ l ↔ y ∈ l.takeWhile (fun y => decide (y.v < x.v)) ∨ y ∈ l.dropWhile (fun y => decide (y.v < x.v)) := by
    rw [← List.mem_append, List.takeWhile_append_dropWhile]
  rw [h]
  constructor
  · rintro (h | h | h)
    · exact .inl (.inl h)
    · exact .inr h
    · exact .inl (.inr h)
  · rintro ((h | h) | h)
    · exact .inl h
    · exact .inr (.inr h)
    · exact .inr (.inl h)
theorem srt_ins {l : List V2} {x : V2} (h : Srt l) (hx : ∀ y ∈ l, y.v ≠ x.v) : Srt (insV l x) := by
  induction l with
  | nil => exact List.pairwise_singleton _ _
  | cons a l ih =>
    obtain ⟨h1, h2⟩ := List.pairwise_cons.1 h
    by_cases ha : a.v < x.v
    · have e : insV (a :: l) x = a :: insV l x := by
        unfold insV
        simp only [List.takeWhile_cons, List.dropWhile_cons, decide_eq_true ha, if_true, List.cons_append]
      rw [e]
      refine List.pairwise_cons.2 ⟨fun y hy => ?_, ih h2 fun y hy => hx y (by simp [hy])⟩
      rcases mem_ins.1 hy with hy | rfl
      · exact h1 y hy
      · exact ha
    · have e : insV (a :: l) x = x :: a :: l := by
        unfold insV
        simp only [List.takeWhile_cons, List.dropWhile_cons, decide_eq_false ha]
        rfl
      rw [e]
      have := hx a (by simp)
      refine List.pairwise_cons.2 ⟨fun y hy => ?_, h⟩
      rcases List.mem_cons.1 hy with rfl | hy
      · omega
      · have := h1 y hy; omega
theorem vl_assign {f : Int → Int} {ps : Nat → Int} (hp : Psok ps) {v : Int} (hv : okA ps v = true) (hz : spc f ps v = 0) {x : Int} (hx : x ≠ 0) : vl (upd f (atA ps v / 8) x) ps = insV (vl f ps) ⟨v, x⟩ := by
  have hno : ∀ y ∈ vl f ps, y.v ≠ v := fun y hy e => by
    obtain ⟨h1, h2⟩ := mem_vl.1 hy
    rw [e, hz] at h1
    exact h2 h1
  refine srt_ext (sort_vl _ _) (srt_ins (sort_vl _ _) hno) fun y => ?_
  rw [mem_vl, mem_ins, mem_vl, spc_upd hp hv]
  by_cases e : y.v = v
  · rw [if_pos e]
    constructor
    · rintro ⟨h1, h2⟩
      right
      cases y
      simp only at e h1
      rw [e, h1]
    · rintro (⟨h1, h2⟩ | rfl)
      · rw [e, hz] at h1; exact absurd h1 h2
      · exact ⟨rfl, hx⟩
  · rw [if_neg e]
    constructor
    · exact fun h => .inl h
    · rintro (h | rfl)
      · exact h
      · exact absurd rfl e
/-- Free places of a pool, counted. -/
def frees (f : Int → Int) (ps : Nat → Int) (pool : Int) (n : Nat) : Nat := ((List.range n).filter fun (i : Nat) => decide (1 ≤ pool * 512 + (i : Int)) && decide (spc f ps (pool * 512 + i) = 0)).length
theorem frees_eq (f : Int → Int) (ps : Nat → Int) (pool : Int) (p0 : 0 ≤ pool) : ∀ n : Nat, (upto f ps pool n).length + frees f ps pool n + (if pool = 0 ∧ 0 < n then 1 else 0) = n
  | 0 => by simp [upto_zero, frees]
  | n + 1 => by
    have ih := frees_eq f ps pool p0 n
    have hfr : frees f ps pool (n + 1) = frees f ps pool n + (if decide (1 ≤ pool * 512 + (n : Int)) && decide (spc f ps (pool * 512 + n) = 0) then 1 else 0) := by
      unfold frees
      rw [List.range_succ, List.filter_append, List.length_append, List.filter_cons]
      split <;> rfl
    rw [hfr]
    by_cases hz : spc f ps (pool * 512 + n) = 0
    · rw [upto_no hz]
      by_cases h1 : 1 ≤ pool * 512 + (n : Int)
      · rw [if_pos (by simp [h1, hz])]
        by_cases hp : pool = 0
        · have hn : 0 < n := by omega
          rw [if_pos ⟨hp, hn⟩] at ih
          rw [if_pos ⟨hp, by omega⟩]
          omega
        · rw [if_neg (fun h => hp h.1)] at ih
          rw [if_neg (fun h => hp h.1)]
          omega
      · have hp : pool = 0 := by omega
        have hn : n = 0 := by omega
        rw [if_neg (by simp [h1]), if_pos ⟨hp, by omega⟩]
        rw [if_neg (by omega)] at ih
        omega
    · rw [upto_yes hz, List.length_append, List.length_singleton, if_neg (by simp [hz])]
      have hv := (spc_rng hz).2.1
      by_cases hp : pool = 0
      · have hn : 0 < n := by omega
        rw [if_pos ⟨hp, hn⟩] at ih
        rw [if_pos ⟨hp, by omega⟩]
        omega
      · rw [if_neg (fun h => hp h.1)] at ih
        rw [if_neg (fun h => hp h.1)]
        omega
theorem free_full {f : Int → Int} {ps : Nat → Int} {pool : Int} (p0 : 0 ≤ pool) (h : ∀ j : Nat, j < 512 → ¬ free f ps (pool * 512 + j)) : ((lst f ps pool).length : Int) + (if pool = 0 then 1 else 0) = 512 := by
  have he := frees_eq f ps pool p0 512
  have hz : frees f ps pool 512 = 0 := by
    unfold frees
    rw [List.length_eq_zero_iff, List.filter_eq_nil_iff]
    intro i hi
    rw [List.mem_range] at hi
    have := h i hi
    unfold free at this
    simpa using this
  rw [hz] at he
  by_cases hp : pool = 0
  · rw [if_pos ⟨hp, by omega⟩] at he; rw [if_pos hp]; unfold lst; omega
  · rw [if_neg (fun h => hp h.1)] at he; rw [if_neg hp]; unfold lst; omega
theorem free_room {f : Int → Int} {ps : Nat → Int} {pool : Int} (p0 : 0 ≤ pool) {i : Nat} (hi : i < 512) (h : free f ps (pool * 512 + i)) : ((lst f ps pool).length : Int) + (if pool = 0 then 1 else 0) < 512 := by
  have he := frees_eq f ps pool p0 512
  have hz : 0 < frees f ps pool 512 := by
    unfold frees
    rw [List.length_pos_iff_exists_mem]
    refine ⟨i, List.mem_filter.2 ⟨List.mem_range.2 hi, ?_⟩⟩
    have h' := h
    unfold free at h'
    simpa using h'
  by_cases hp : pool = 0
  · rw [if_pos ⟨hp, by omega⟩] at he; rw [if_pos hp]; unfold lst; omega
  · rw [if_neg (fun h => hp h.1)] at he; rw [if_neg hp]; unfold lst; omega
theorem lst_assign {f : Int → Int} {ps : Nat → Int} (hp : Psok ps) {pool : Int} (p0 : 0 ≤ pool) {i : Nat} (hi : i < 512) (hv : okA ps (pool * 512 + i) = true) (hz : spc f ps (pool * 512 + i) = 0) {x : Int} (hx : x ≠ 0) : (lst (upd f (atA ps (pool * 512 + i) / 8) x) ps pool).length = (lst f ps pool).length + 1 := by
  have h1 := congrArg List.length (vl_gone (upd f (atA ps (pool * 512 + i) / 8) x) ps pool p0)
  have h2 := congrArg List.length (vl_gone f ps pool p0)
  rw [List.length_map] at h1 h2
  rw [← h1, ← h2, vl_assign hp hv hz hx]
  have e : vl f ps = (vl f ps).takeWhile (fun y => decide (y.v < pool * 512 + i)) ++ (vl f ps).dropWhile (fun y => decide (y.v < pool * 512 + i)) := List.takeWhile_append_dropWhile.symm
  unfold insV
  have e3 : ((vl f ps).filter fun x => decide (x.v / 512 = pool)).length = (((vl f ps).takeWhile (fun y => decide (y.v < pool * 512 + i))).filter fun x => decide (x.v / 512 = pool)).length + (((vl f ps).dropWhile (fun y => decide (y.v < pool * 512 + i))).filter fun x => decide (x.v / 512 = pool)).length := by
    conv => lhs; rw [e]
    rw [List.filter_append, List.length_append]
  rw [List.filter_append, List.length_append, List.filter_cons, if_pos (by simp only [decide_eq_true_eq]; omega), List.length_cons, e3]
  dsimp only
  omega
end Go.Proofs.Ytndeaikmelpflaa.Bp
