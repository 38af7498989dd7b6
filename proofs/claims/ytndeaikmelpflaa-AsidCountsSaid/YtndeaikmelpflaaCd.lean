/- Virtual ASIDs: what a step does to both, call by call. -/
import Derived.Test.YtndeaikmelpflaaCb
namespace Go.Proofs.Ytndeaikmelpflaa.Cd
open Go.RowKit Go.Proofs.Ytndeaikmelpflaa.G Go.Proofs.Ytndeaikmelpflaa.B Go.Proofs.Ytndeaikmelpflaa.M Go.Proofs.Ytndeaikmelpflaa.Mv Go.Proofs.Ytndeaikmelpflaa.Sl Go.Proofs.Ytndeaikmelpflaa.Sm Go.Proofs.Ytndeaikmelpflaa.Sn Go.Proofs.Ytndeaikmelpflaa.Ma Go.Proofs.Ytndeaikmelpflaa.Dr Go.Proofs.Ytndeaikmelpflaa.Ya Go.Proofs.Ytndeaikmelpflaa.Yb Go.Proofs.Ytndeaikmelpflaa.Yc Go.Proofs.Ytndeaikmelpflaa.Ls Go.Proofs.Ytndeaikmelpflaa.Lt Go.Proofs.Ytndeaikmelpflaa.Lu Go.Proofs.Ytndeaikmelpflaa.Aa Go.Proofs.Ytndeaikmelpflaa.Ab Go.Proofs.Ytndeaikmelpflaa.Ac Go.Proofs.Ytndeaikmelpflaa.Ad Go.Proofs.Ytndeaikmelpflaa.Ae Go.Proofs.Ytndeaikmelpflaa.Af Go.Proofs.Ytndeaikmelpflaa.Ba Go.Proofs.Ytndeaikmelpflaa.Bb Go.Proofs.Ytndeaikmelpflaa.Bc Go.Proofs.Ytndeaikmelpflaa.Bd Go.Proofs.Ytndeaikmelpflaa.Bg Go.Proofs.Ytndeaikmelpflaa.Bi Go.Proofs.Ytndeaikmelpflaa.Bp Go.Proofs.Ytndeaikmelpflaa.Ca Go.Proofs.Ytndeaikmelpflaa.Cb
set_option linter.unusedVariables false
set_option linter.unusedSimpArgs false
set_option maxRecDepth 100000
/-- A word of a pool. -/
def own (ps : Nat → Int) (n : Int) : Prop := ∃ i : Nat, i < 8 ∧ ps i ≠ 0 ∧ ps i = n / 512 * 4096
/-- Nothing but pools is written. -/
def Fr (kd at_ : Int) (f : Int → Int) (ps : Nat → Int) (f' : Int → Int) (ps' : Nat → Int) : Prop := ∀ n : Int, ¬ own ps n → ¬ (kd = 1 ∧ at_ = n / 512 * 4096) → f' n = f n ∧ ¬ own ps' n
theorem Fr.same (kd at_ : Int) (f : Int → Int) (ps : Nat → Int) : Fr kd at_ f ps f ps := fun n h _ => ⟨rfl, h⟩
theorem Fr.upd {kd at_ : Int} {f : Int → Int} {ps : Nat → Int} (hp : Psok ps) {v : Int} (hv : okA ps v = true) (x : Int) : Fr kd at_ f ps (upd f (atA ps v / 8) x) ps := fun n h _ => by
  refine ⟨?_, h⟩
  unfold Yc.upd
  rw [if_neg]
  rintro rfl
  apply h
  obtain ⟨v1, v2, v3⟩ := okA_iff.1 hv
  have := (hp.each (v / 512).toNat (by omega)).resolve_left v3
  exact ⟨(v / 512).toNat, by omega, v3, by rw [atA_ok hv]; omega⟩
theorem leastF {q : Nat → Prop} {N : Nat} (h : ∃ m : Nat, m < N ∧ q m) : ∃ m : Nat, m < N ∧ q m ∧ ∀ j : Nat, j < m → ¬ q j := by
  obtain ⟨m, hm, e⟩ := h
  induction m using Nat.strongRecOn with
  | ind m ih =>
    by_cases hx : ∃ j : Nat, j < m ∧ q j
    · obtain ⟨j, hj, ej⟩ := hx
      exact ih j hj (by omega) ej
    · exact ⟨m, hm, e, fun j hj ej => hx ⟨j, hj, ej⟩⟩
/-- A step's call of Add, and the document's. -/
theorem add_both {f : Int → Int} {gM gC : Nat} {ps : Nat → Int} {T : Hp} (hA : AC f gM gC ps T) (hps : Psok ps) {v : Value} (hv : v.oneCell' = true) (p : Int) (p0 : 0 ≤ p) (p1 : p < 18446744073709551616) :
    ∃ (n e : Int) (f' : Int → Int) (ps' : Nat → Int), (Does Try.prog 9 #[.pointer (some ⟨gC, 0, none⟩), .int .u64 p] T fun r L => r = .tuple #[.int .i64 n, .int .i64 e] ∧ AC f' gM gC ps' L) ∧
      (∀ w, Calls Try.prog 30 #[.agg (docC ps v), .int .u64 p] w fun r w' => r = .returned (rT ps' v n e) ∧ Below w.heap.size w w') ∧ Psok ps' ∧ vl f' ps' = vl f ps ∧ Fr 1 p f ps f' ps' := by
  obtain ⟨AM, hP, rfl⟩ := hA
  have CA := add_any (gC := gC) (ps := ps) hP p p0 p1
  have CR := fun r h w => radd_any (ps := ps) hv p0 p1 (r := r) h w
  by_cases ha : p % 4096 = 0
  rotate_left
  · refine ⟨0, 13, f, ps, weaken CA fun r L hr => ?_, CR _ (.inl ⟨ha, rfl⟩), hps, rfl, Fr.same _ _ _ _⟩
    rcases hr with ⟨-, h⟩ | ⟨h, -⟩ | ⟨h, -⟩ | ⟨h, -⟩ | ⟨h, -⟩
    · exact h
    all_goals exact absurd h ha
  by_cases hb : p = 0 ∨ 131072 ≤ p
  · refine ⟨0, 12, f, ps, weaken CA fun r L hr => ?_, CR _ (.inr (.inl ⟨ha, hb, rfl⟩)), hps, rfl, Fr.same _ _ _ _⟩
    rcases hr with ⟨h, -⟩ | ⟨-, -, h⟩ | ⟨-, h, -⟩ | ⟨-, h, -⟩ | ⟨-, h, -⟩
    · exact absurd ha h
    · exact h
    all_goals exact absurd hb h
  by_cases hn : ∃ j : Nat, j < 8 ∧ ps j = p
  · refine ⟨0, 16, f, ps, weaken CA fun r L hr => ?_, CR _ (.inr (.inr (.inl ⟨ha, hb, hn, rfl⟩))), hps, rfl, Fr.same _ _ _ _⟩
    obtain ⟨j, hj, e⟩ := hn
    rcases hr with ⟨h, -⟩ | ⟨-, h, -⟩ | ⟨-, -, -, h⟩ | ⟨-, -, h, -⟩ | ⟨-, -, h, -⟩
    · exact absurd ha h
    · exact absurd h hb
    · exact h
    · exact absurd e (h j hj)
    · exact absurd e (h j hj)
  have hn' : ∀ j : Nat, j < 8 → ps j ≠ p := fun j hj e => hn ⟨j, hj, e⟩
  by_cases hz : ∀ j : Nat, j < 8 → ps j ≠ 0
  · refine ⟨0, 15, f, ps, weaken CA fun r L hr => ?_, CR _ (.inr (.inr (.inr (.inl ⟨ha, hb, hn', hz, rfl⟩)))), hps, rfl, Fr.same _ _ _ _⟩
    rcases hr with ⟨h, -⟩ | ⟨-, h, -⟩ | ⟨-, -, h, -⟩ | ⟨-, -, -, -, h⟩ | ⟨-, -, -, m, hm, e, -⟩
    · exact absurd ha h
    · exact absurd h hb
    · exact absurd h hn
    · exact h
    · exact absurd e (hz m hm)
  · have hz2 : ∃ m : Nat, m < 8 ∧ ps m = 0 := by
      by_cases h : ∃ m : Nat, m < 8 ∧ ps m = 0
      · exact h
      · exact absurd (fun j hj e => h ⟨j, hj, e⟩) hz
    have hex : ∃ m : Nat, m < 8 ∧ ps m = 0 ∧ ∀ j : Nat, j < m → ps j ≠ 0 := leastF (q := fun m => ps m = 0) hz2
    obtain ⟨m, hm, e, hl⟩ := hex
    refine ⟨m, 0, clr f (p / 4096), upp ps m p, weaken CA fun r L hr => ?_, CR _ (.inr (.inr (.inr (.inr ⟨ha, hb, hn', m, hm, e, hl, rfl⟩)))), psok_add hps m ha hb p0 hn', vl_add hps hm e ha hb p0 hn', fun n h1 h2 => ⟨?_, ?_⟩⟩
    · rcases hr with ⟨h, -⟩ | ⟨-, h, -⟩ | ⟨-, -, h, -⟩ | ⟨-, -, -, h, -⟩ | ⟨-, -, -, m2, hm2, e2, hl2, h⟩
      · exact absurd ha h
      · exact absurd h hb
      · exact absurd h hn
      · exact absurd e (h m hm)
      · have : m = m2 := by
          rcases Nat.lt_trichotomy m m2 with a | a | a
          · exact absurd e (hl2 m a)
          · exact a
          · exact absurd e2 (hl m2 a)
        subst this
        exact h
    · unfold clr
      rw [if_neg]
      intro h3
      exact h2 ⟨rfl, by omega⟩
    · rintro ⟨i, hi, h3, h4⟩
      unfold upp at h3 h4
      by_cases ei : i = m
      · rw [if_pos ei] at h4
        exact h2 ⟨rfl, h4⟩
      · rw [if_neg ei] at h3 h4
        exact h1 ⟨i, hi, h3, h4⟩
theorem rfree_iff {f : Int → Int} {ps : Nat → Int} {pool : Int} (p0 : 0 ≤ pool) (j : Nat) : rfree (vl f ps) (512 * pool + j) ↔ free f ps (pool * 512 + j) := by
  unfold rfree free
  rw [look_vl, show 512 * pool + (j : Int) = pool * 512 + j by omega]
  exact ⟨fun ⟨h1, h2⟩ => ⟨by omega, h2⟩, fun ⟨h1, h2⟩ => ⟨by omega, h2⟩⟩
theorem assign_both {f : Int → Int} {gM gC : Nat} {ps : Nat → Int} {T A : Hp} (hA : AC f gM gC ps T) (hps : Psok ps) {v : Value} (hv : LR 54 (vl f ps) v A) (pool x : Int) (x0 : 0 ≤ x) (x1 : x < 18446744073709551616) (kd at_ : Int) :
    ∃ (n e : Int) (f' : Int → Int), (Does Try.prog 10 #[.pointer (some ⟨gC, 0, none⟩), .int .i64 pool, .int .u64 x] T fun r L => r = .tuple #[.int .i64 n, .int .i64 e] ∧ AC f' gM gC ps L) ∧
      (Does Try.prog 34 #[.agg (docC ps v), .int .i64 pool, .int .u64 x] A fun r L => ∃ v', r = rT ps v' n e ∧ LR 54 (vl f' ps) v' L) ∧ Fr kd at_ f ps f' ps ∧
      ((e = 0 ∧ okP ps pool = true ∧ ¬ badS x ∧ (∃ i : Nat, i < 512 ∧ free f ps (pool * 512 + i)) ∧ (lst f' ps pool).length = (lst f ps pool).length + 1) ∨ (e ≠ 0 ∧ f' = f ∧ (okP ps pool = true → ¬ badS x → e = 15 ∧ ∀ j : Nat, j < 512 → ¬ free f ps (pool * 512 + j)))) := by
  obtain ⟨AM, hP, rfl⟩ := hA
  have CA := assign_any (gC := gC) hP hps pool x x0 x1
  have CR := rassign_any hv (by have := vl_len f ps; omega) ps pool x x0 x1
  by_cases ho : okP ps pool = true
  rotate_left
  · have ho : okP ps pool = false := by simpa using ho
    refine ⟨0, 14, f, weaken CA fun r L hr => ?_, weaken CR fun r L hr => ?_, Fr.same _ _ _ _, .inr ⟨by decide, rfl, fun h => by rw [ho] at h; cases h⟩⟩
    · rcases hr with ⟨-, h⟩ | ⟨h, -⟩ | ⟨h, -⟩ | ⟨h, -⟩
      · exact h
      all_goals (rw [ho] at h; cases h)
    · rcases hr with ⟨-, h1, h2⟩ | ⟨h, -⟩ | ⟨h, -⟩ | ⟨h, -⟩
      · exact ⟨v, h1, by rw [h2]; exact hv⟩
      all_goals (rw [ho] at h; cases h)
  have hp0 := (okP_iff.1 ho).1
  by_cases hb : badS x
  · refine ⟨0, 10, f, weaken CA fun r L hr => ?_, weaken CR fun r L hr => ?_, Fr.same _ _ _ _, .inr ⟨by decide, rfl, fun _ h => absurd hb h⟩⟩
    · rcases hr with ⟨h, -⟩ | ⟨-, -, h⟩ | ⟨-, h, -⟩ | ⟨-, h, -⟩
      · rw [ho] at h; cases h
      · exact h
      all_goals exact absurd hb h
    · rcases hr with ⟨h, -⟩ | ⟨-, -, h1, h2⟩ | ⟨-, h, -⟩ | ⟨-, h, -⟩
      · rw [ho] at h; cases h
      · exact ⟨v, h1, by rw [h2]; exact hv⟩
      all_goals exact absurd hb h
  by_cases hf : ∀ j : Nat, j < 512 → ¬ free f ps (pool * 512 + j)
  · refine ⟨0, 15, f, weaken CA fun r L hr => ?_, weaken CR fun r L hr => ?_, Fr.same _ _ _ _, .inr ⟨by decide, rfl, fun _ _ => ⟨rfl, hf⟩⟩⟩
    · rcases hr with ⟨h, -⟩ | ⟨-, h, -⟩ | ⟨-, -, -, h⟩ | ⟨-, -, i, hi, h, -⟩
      · rw [ho] at h; cases h
      · exact absurd h hb
      · exact h
      · exact absurd h (hf i hi)
    · rcases hr with ⟨h, -⟩ | ⟨-, h, -⟩ | ⟨-, -, -, h1, h2⟩ | ⟨-, -, i, hi, h, -⟩
      · rw [ho] at h; cases h
      · exact absurd h hb
      · exact ⟨v, h1, by rw [h2]; exact hv⟩
      · exact absurd ((rfree_iff hp0 i).1 h) (hf i hi)
  · have hex : ∃ i : Nat, i < 512 ∧ free f ps (pool * 512 + i) := by
      by_cases h : ∃ i : Nat, i < 512 ∧ free f ps (pool * 512 + i)
      · exact h
      · exact absurd (fun j hj e => h ⟨j, hj, e⟩) hf
    obtain ⟨i, hi, hfi, hlow⟩ : ∃ i : Nat, i < 512 ∧ free f ps (pool * 512 + i) ∧ ∀ j : Nat, j < i → ¬ free f ps (pool * 512 + j) := leastF (q := fun i => free f ps (pool * 512 + i)) hex
    have hv1 := hfi.1
    have hok : okA ps (pool * 512 + i) = true := by
      unfold okA
      rw [decide_eq_true hv1, show (pool * 512 + (i : Int)) / 512 = pool by omega, ho]; rfl
    have hx0 : x ≠ 0 := fun e => hb (.inl e)
    refine ⟨pool * 512 + i, 0, Yc.upd f (atA ps (pool * 512 + i) / 8) x, weaken CA fun r L hr => ?_, weaken CR fun r L hr => ?_, Fr.upd hps hok x, .inl ⟨rfl, ho, hb, hex, lst_assign hps hp0 hi hok hfi.2 hx0⟩⟩
    · rcases hr with ⟨h, -⟩ | ⟨-, h, -⟩ | ⟨-, -, h, -⟩ | ⟨-, -, i2, hi2, h, hl2, h3⟩
      · rw [ho] at h; cases h
      · exact absurd h hb
      · exact absurd hfi (h i hi)
      · have : i = i2 := by
          rcases Nat.lt_trichotomy i i2 with a | a | a
          · exact absurd hfi (hl2 i a)
          · exact a
          · exact absurd h (hlow i2 a)
        subst this
        exact h3
    · rcases hr with ⟨h, -⟩ | ⟨-, h, -⟩ | ⟨-, -, h, -⟩ | ⟨-, -, i2, hi2, h, hl2, v', h3, h4⟩
      · rw [ho] at h; cases h
      · exact absurd h hb
      · exact absurd ((rfree_iff hp0 i).2 hfi) (h i hi)
      · have : i = i2 := by
          rcases Nat.lt_trichotomy i i2 with a | a | a
          · exact absurd ((rfree_iff hp0 i).2 hfi) (hl2 i a)
          · exact a
          · exact absurd ((rfree_iff hp0 i2).1 h) (hlow i2 a)
        subst this
        rw [show 512 * pool + (i : Int) = pool * 512 + i by omega] at h3 h4
        exact ⟨v', h4, by rw [vl_assign hps hok hfi.2 hx0]; exact h3⟩
theorem clear_both {f : Int → Int} {gM gC : Nat} {ps : Nat → Int} {T A : Hp} (hA : AC f gM gC ps T) (hps : Psok ps) {v : Value} (hv : LR 54 (vl f ps) v A) (n : Int) (n1 : n < 9223372036854775808) (kd at_ : Int) :
    ∃ (e : Int) (f' : Int → Int), (Does Try.prog 12 #[.pointer (some ⟨gC, 0, none⟩), .int .i64 n] T fun r L => r = .int .i64 e ∧ AC f' gM gC ps L) ∧
      (Does Try.prog 35 #[.agg (docC ps v), .int .i64 n] A fun r L => ∃ v', r = .tuple #[.agg (docC ps v'), .int .i64 e] ∧ LR 54 (vl f' ps) v' L) ∧ Fr kd at_ f ps f' ps := by
  obtain ⟨AM, hP, rfl⟩ := hA
  have CA := clear_any (gC := gC) hP hps n n1
  have CR := rclear_any hv (by have := vl_len f ps; omega) ps n
  by_cases hz : spc f ps n = 0
  · refine ⟨33, f, weaken CA fun r L hr => ?_, weaken CR fun r L hr => ?_, Fr.same _ _ _ _⟩
    · rcases hr with ⟨-, h⟩ | ⟨h, -⟩
      · exact h
      · exact absurd hz h
    · rcases hr with ⟨-, h1, h2⟩ | ⟨h, -⟩
      · exact ⟨v, h1, by rw [h2]; exact hv⟩
      · rw [look_vl] at h; exact absurd hz h
  · have hok := (spc_rng hz).1
    refine ⟨0, Yc.upd f (atA ps n / 8) 0, weaken CA fun r L hr => ?_, weaken CR fun r L hr => ?_, Fr.upd hps hok 0⟩
    · rcases hr with ⟨h, -⟩ | ⟨-, h⟩
      · exact absurd h hz
      · exact h
    · rcases hr with ⟨h, -⟩ | ⟨-, v', h1, h2⟩
      · rw [look_vl] at h; exact absurd h hz
      · exact ⟨v', h2, by rw [vl_clear hps hok]; exact h1⟩
theorem drop_both {f : Int → Int} {gM gC : Nat} {ps : Nat → Int} {T A : Hp} (hA : AC f gM gC ps T) (hps : Psok ps) {v : Value} (hv : LR 54 (vl f ps) v A) (n : Int) (kd at_ : Int) :
    ∃ (l : List Int) (e : Int) (ps' : Nat → Int), l.length ≤ 4096 ∧ (Does Try.prog 31 #[.pointer (some ⟨gC, 0, none⟩), .int .i64 n] T fun r L => ∃ a A1 L', r = .tuple #[a, .int .i64 e] ∧ LR 3 l a A1 ∧ L = A1 ++ L' ∧ AC f gM gC ps' L') ∧
      (Does Try.prog 32 #[.agg (docC ps v), .int .i64 n] A fun r L => ∃ v' b A1 L', r = .tuple #[.agg (docC ps' v'), b, .int .i64 e] ∧ LR 3 l b A1 ∧ L = A1 ++ L' ∧ LR 54 (vl f ps') v' L') ∧ Psok ps' ∧ Fr kd at_ f ps f ps' := by
  obtain ⟨AM, hP, rfl⟩ := hA
  have CA := drop_any (gC := gC) hP hps n
  have CR := rdrop_any hv (by have := vl_len f ps; omega) vl_rng ps n
  by_cases ho : okP ps n = true
  rotate_left
  · have ho : okP ps n = false := by simpa using ho
    refine ⟨[], 14, ps, by simp, weaken CA fun r L hr => ?_, weaken CR fun r L hr => ?_, hps, Fr.same _ _ _ _⟩
    · rcases hr with ⟨-, h1, h2⟩ | ⟨h, -⟩
      · exact ⟨_, [], L, h1, LR.nil _, rfl, h2⟩
      · rw [ho] at h; cases h
    · rcases hr with ⟨-, h1, h2⟩ | ⟨h, -⟩
      · exact ⟨v, _, [], L, h1, LR.nil _, rfl, by rw [h2]; exact hv⟩
      · rw [ho] at h; cases h
  obtain ⟨hp0, hp8, hpz⟩ := okP_iff.1 ho
  obtain ⟨p, rfl⟩ : ∃ p : Nat, n = p := ⟨n.toNat, by omega⟩
  refine ⟨(lst f ps p).map (·.1), 0, upp ps p 0, ?_, weaken CA fun r L hr => ?_, weaken CR fun r L hr => ?_, psok_drop hps p, fun m h1 _ => ⟨rfl, ?_⟩⟩
  · rw [List.length_map]
    have : (lst f ps p).length ≤ 512 := upto_len f ps p 512
    omega
  · rcases hr with ⟨h, -⟩ | ⟨-, a, A1, L', h1, h2, h3, h4⟩
    · rw [ho] at h; cases h
    · exact ⟨a, A1, L', h2, h1, h3, h4⟩
  · rcases hr with ⟨h, -⟩ | ⟨-, b, v', A1, L', h1, h2, h3, h4⟩
    · rw [ho] at h; cases h
    · refine ⟨v', b, A1, L', h3, by rw [← vl_gone_map f ps p hp0]; exact h1, h4, ?_⟩
      rw [vl_drop]; exact h2
  · rintro ⟨i, hi, h3, h4⟩
    unfold upp at h3 h4
    by_cases ei : i = p
    · rw [if_pos ei] at h3; exact h3 rfl
    · rw [if_neg ei] at h3 h4; exact h1 ⟨i, hi, h3, h4⟩
end Go.Proofs.Ytndeaikmelpflaa.Cd
