/- Physical memory: what it keeps, and what a word of it is; place, may, Size: what each call answers. -/
import Derived.Test.YtndeaikmelpflaaProg
import Derived.Test.YtndeaikmelpflaaDr
import Derived.Test.YtndeaikmelpflaaMa
import Derived.Test.YtndeaikmelpflaaMc
import Derived.Test.YtndeaikmelpflaaMv
namespace Go.Proofs.Ytndeaikmelpflaa.Ya
open Go.RowKit Go.Proofs.Ytndeaikmelpflaa.G Go.Proofs.Ytndeaikmelpflaa.B Go.Proofs.Ytndeaikmelpflaa.M Go.Proofs.Ytndeaikmelpflaa.Mv Go.Proofs.Ytndeaikmelpflaa.Sl Go.Proofs.Ytndeaikmelpflaa.Sm Go.Proofs.Ytndeaikmelpflaa.Sn Go.Proofs.Ytndeaikmelpflaa.Ma Go.Proofs.Ytndeaikmelpflaa.Dr

set_option linter.unusedVariables false
set_option linter.unusedSimpArgs false
set_option maxRecDepth 100000
theorem Mem.congrM {w0 u : World} {M M' : List Nat} {L : Hp} (h : Mem w0 M L u) (e : ∀ k, k ∈ M ↔ k ∈ M') : Mem w0 M' L u :=
  { h with old := fun k hk hM => h.old k hk (fun hm => hM ((e k).1 hm)), own := fun p hp => (h.own p hp).imp (e _).1 id }
theorem frame {P : Program} {f : FuncId} {args : Array Value} {A R : Hp} {Rel : Value → Hp → Prop} (C : Does P f args A Rel) : Does P f args (A ++ R) fun v L => ∃ L1, Rel v L1 ∧ L = L1 ++ R :=
  fun w h => (C.call (Mem.start h) (List.Perm.refl _)).mono fun _ _ ⟨v, L', he, hr, hm⟩ => ⟨v, L' ++ R, he, ⟨L', hr, rfl⟩, hm⟩
theorem weaken {P : Program} {f : FuncId} {args : Array Value} {A : Hp} {R1 R2 : Value → Hp → Prop} (C : Does P f args A R1) (h : ∀ v L, R1 v L → R2 v L) : Does P f args A R2 :=
  fun w hw => (C w hw).mono fun _ _ ⟨v, L', he, hr, hm⟩ => ⟨v, L', he, h _ _ hr, hm⟩
/-- The blocks may stand in another order, ahead and behind. -/
theorem perms {P : Program} {f : FuncId} {args : Array Value} {A A' : Hp} {R1 R2 : Value → Hp → Prop} (C : Does P f args A' R1) (hp : A.Perm A') (h : ∀ v L, R1 v L → ∃ L', L.Perm L' ∧ R2 v L') : Does P f args A R2 :=
  fun w hw => (C w (hw.perm hp)).mono fun _ _ ⟨v, L, he, hr, hm⟩ => by
    obtain ⟨L', h1, h2⟩ := h v L hr
    exact ⟨v, L', he, h2, Mem.congrM (hm.perm h1) fun k => (hp.map (·.1)).mem_iff.symm⟩
/-- A sheet that is kept: its page, its block, its words. -/
structure Sh where
  p : Int
  g : Nat
  cs : Array Value
def sheets (S : List Sh) : Hp := S.map fun s => (s.g, row s.cs 100)
def keys (S : List Sh) : List (Int × Value) := S.map fun s => (s.p, .pointer (some ⟨s.g, 0, none⟩))
structure PmS (sz : Int) (f : Int → Int) (clock : Nat) (es : Array MapEntry) (S : List Sh) : Prop where
  ents : Ents es.toList (keys S)
  one : (S.map (·.p)).Nodup
  size : ∀ s ∈ S, s.cs.size = 512
  word : ∀ s ∈ S, ∀ i : Nat, i < 512 → s.cs[i]? = some (.int .u64 (f (s.p * 512 + i)))
  no : ∀ n : Int, (∀ s ∈ S, s.p ≠ n / 512) → f n = 0
  rng : ∀ n, 0 ≤ f n ∧ f n < 18446744073709551616
  stamp : (∀ x ∈ es.toList, x.born < clock) ∧ (es.toList.map (·.born)).Nodup
  low : ∀ s ∈ S, 0 ≤ s.p ∧ s.p < 1048576
  most : sz ≤ 4294967296
/-- A memory of so many bytes, whose word number n is f n. -/
def Pm (size : Int) (f : Int → Int) (gM : Nat) (A : Hp) : Prop := ∃ (gm clock : Nat) (es : Array MapEntry) (S : List Sh), PmS size f clock es S ∧ A = (gM, row #[.int .u64 size, .map (some gm)] 91) :: (gm, .map es clock) :: sheets S
theorem Pm.rng {size : Int} {f : Int → Int} {gM : Nat} {A : Hp} (h : Pm size f gM A) (n : Int) : 0 ≤ f n ∧ f n < 18446744073709551616 := by
  obtain ⟨gm, clock, es, S, hs, -⟩ := h
  exact hs.rng n
theorem lookM_none {S : List Sh} {x : Int} (h : lookM (keys S) x = none) : ∀ s ∈ S, s.p ≠ x := by
  intro s hs e
  unfold lookM keys at h
  rw [Option.map_eq_none_iff, List.find?_eq_none] at h
  have := h (s.p, _) (List.mem_map.2 ⟨s, hs, rfl⟩)
  simp [e] at this
theorem lookM_some {S : List Sh} {x : Int} {v : Value} (h : lookM (keys S) x = some v) : ∃ (i : Nat) (s : Sh), S[i]? = some s ∧ s.p = x ∧ v = .pointer (some ⟨s.g, 0, none⟩) := by
  unfold lookM keys at h
  rw [Option.map_eq_some_iff] at h
  obtain ⟨p, hf, rfl⟩ := h
  have hm := List.mem_of_find?_eq_some hf
  have hp := List.find?_some hf
  obtain ⟨s, hs, rfl⟩ := List.mem_map.1 hm
  obtain ⟨i, hi⟩ := List.mem_iff_getElem?.1 hs
  exact ⟨i, s, hi, by simpa using hp, rfl⟩
/-- What may says. -/
def errV (size a : Int) : Int := if a % 8 = 0 then if a < size then 0 else 12 else 13
theorem al3 (x : Int) : al x 3 = decide (x % 8 = 0) := rfl
theorem may_any (size a : Int) (a0 : 0 ≤ a) (a1 : a < 18446744073709551616) (gM : Nat) (m : Value) : Does Try.prog 37 #[.pointer (some ⟨gM, 0, none⟩), .int .u64 a] [(gM, row #[.int .u64 size, m] 91)]
    fun r L => r = .int .i64 (errV size a) ∧ L = [(gM, row #[.int .u64 size, m] 91)] := by
  have CA := fun w => aligned_any a 3 a0 a1 w
  rw [al3] at CA
  intro w hH
  have HM := Mem.start hH
  by_cases h8 : a % 8 = 0
  · rw [decide_eq_true h8] at CA
    have he : errV size a = if a < size then 0 else 12 := by unfold errV; rw [if_pos h8]
    have HE := Lib.hid he; clear he
    go_enter Try.func37, Try.ntmps37
    go_wp2_with (first
      | (go_big_skip)
      | (go_at_call 24; (with_reducible refine (Go.Proofs.Ytndeaikmelpflaa.M.call_pure (CA) HM).mono ?_); clear HM; rintro e w_ ⟨rfl, HM⟩; dsimp only)
      | (refine Go.Proofs.Ytndeaikmelpflaa.M.at_mem rfl ?_; first | (refine Go.Proofs.Ytndeaikmelpflaa.M.at_load 25 rfl ?_; first | (refine Go.Proofs.Ytndeaikmelpflaa.M.load_cell_m HM rfl 25 _ rfl 0 _ _ _ _ _ rfl rfl rfl (by kernel_rfl) (by kernel_rfl) ?_; go_simp)) | ((fail_if_success (refine Go.Proofs.Ytndeaikmelpflaa.M.lit_t rfl ?_)); (fail_if_success (refine Go.Proofs.Ytndeaikmelpflaa.M.lit_f rfl ?_)); refine Go.Proofs.Ytndeaikmelpflaa.M.split_guard rfl rfl ?_ ?_ <;> (intro hg_; simp only [hg_]; try simp only [Go.Proofs.Ytndeaikmelpflaa.M.hgs] at hg_)))
      | (refine Mc.at_cmp _ rfl ?_; refine Mc.cmp_m rfl _ rfl _ _ _ rfl _ _ _ rfl rfl _ rfl ?_ ?_ <;> (intro hg_; try simp only [Go.Proofs.Ytndeaikmelpflaa.M.hgs] at hg_; first | (exfalso; first | omega | (simp at hg_; done)) | (go_simp)))
      | ((fail_if_success (refine Go.Proofs.Ytndeaikmelpflaa.M.lit_t rfl ?_)); (fail_if_success (refine Go.Proofs.Ytndeaikmelpflaa.M.lit_f rfl ?_)); refine Go.Proofs.Ytndeaikmelpflaa.M.split_guard rfl rfl ?_ ?_ <;> (intro hg_; simp only [hg_]; try simp only [Go.Proofs.Ytndeaikmelpflaa.M.hgs] at hg_)))
    all_goals
      go_ret
      refine ⟨_, _, rfl, ⟨?_, rfl⟩, HM⟩
      rw [HE.out]
      first | (rw [if_pos (by omega)]; rfl) | (rw [if_neg (by omega)]; rfl)
  · rw [decide_eq_false h8] at CA
    have he : errV size a = 13 := by unfold errV; rw [if_neg h8]
    rw [he]; clear he
    go_enter Try.func37, Try.ntmps37
    go_wp2_with (first
      | (go_big_skip)
      | (go_at_call 24; (with_reducible refine (Go.Proofs.Ytndeaikmelpflaa.M.call_pure (CA) HM).mono ?_); clear HM; rintro e w_ ⟨rfl, HM⟩; dsimp only)
      | (refine Go.Proofs.Ytndeaikmelpflaa.M.at_mem rfl ?_; first | (refine Go.Proofs.Ytndeaikmelpflaa.M.at_load 25 rfl ?_; first | (refine Go.Proofs.Ytndeaikmelpflaa.M.load_cell_m HM rfl 25 _ rfl 0 _ _ _ _ _ rfl rfl rfl (by kernel_rfl) (by kernel_rfl) ?_; go_simp)) | ((fail_if_success (refine Go.Proofs.Ytndeaikmelpflaa.M.lit_t rfl ?_)); (fail_if_success (refine Go.Proofs.Ytndeaikmelpflaa.M.lit_f rfl ?_)); refine Go.Proofs.Ytndeaikmelpflaa.M.split_guard rfl rfl ?_ ?_ <;> (intro hg_; simp only [hg_]; try simp only [Go.Proofs.Ytndeaikmelpflaa.M.hgs] at hg_)))
      | (refine Mc.at_cmp _ rfl ?_; refine Mc.cmp_m rfl _ rfl _ _ _ rfl _ _ _ rfl rfl _ rfl ?_ ?_ <;> (intro hg_; try simp only [Go.Proofs.Ytndeaikmelpflaa.M.hgs] at hg_; first | (exfalso; first | omega | (simp at hg_; done)) | (go_simp)))
      | ((fail_if_success (refine Go.Proofs.Ytndeaikmelpflaa.M.lit_t rfl ?_)); (fail_if_success (refine Go.Proofs.Ytndeaikmelpflaa.M.lit_f rfl ?_)); refine Go.Proofs.Ytndeaikmelpflaa.M.split_guard rfl rfl ?_ ?_ <;> (intro hg_; simp only [hg_]; try simp only [Go.Proofs.Ytndeaikmelpflaa.M.hgs] at hg_)))
    all_goals
      go_ret
      exact ⟨_, _, rfl, ⟨rfl, rfl⟩, HM⟩
theorem place_any (a : Int) (a0 : 0 ≤ a) (a1 : a < 18446744073709551616) (w : World) : Calls Try.prog 39 #[.int .u64 a] w fun e w' => e = .returned (.tuple #[.int .u64 (a / 4096), .int .u64 (a % 4096 / 8)]) ∧ Below w.heap.size w w' := by
  have e1 : a.tmod 4096 = a % 4096 := Int.tmod_eq_emod_of_nonneg a0
  have e2 : (a % 4096).tdiv 8 = a % 4096 / 8 := Int.tdiv_eq_ediv_of_nonneg (by omega)
  have h3 : IntKind.u64.wrap (a % 4096 / 8) = a % 4096 / 8 := u64_wrap _ (by omega) (by omega)
  have E1 := Lib.hid e1; have E2 := Lib.hid e2; have E3 := Lib.hid h3; clear e1 e2 h3
  have HM := Mem.nil w
  go_enter Try.func39, Try.ntmps39
  go_wp2_with (first
    | ((fail_if_success (refine Go.Proofs.Ytndeaikmelpflaa.M.lit_t rfl ?_)); (fail_if_success (refine Go.Proofs.Ytndeaikmelpflaa.M.lit_f rfl ?_)); refine Go.Proofs.Ytndeaikmelpflaa.M.split_guard rfl rfl ?_ ?_ <;> (intro hg_; simp only [hg_]; try simp only [Go.Proofs.Ytndeaikmelpflaa.M.hgs] at hg_)))
  go_ret2
  have e1 := E1.out; have e2 := E2.out; have e3 := E3.out
  refine ⟨?_, HM.to_below⟩
  simp [e1, e2, e3]
theorem size_any {size : Int} {f : Int → Int} {gM : Nat} {A : Hp} (h : Pm size f gM A) : Does Try.prog 25 #[.pointer (some ⟨gM, 0, none⟩)] A fun r L => r = .int .u64 size ∧ L = A := by
  obtain ⟨gm, clock, es, S, hs, rfl⟩ := h
  refine weaken (frame (A := [(gM, row #[.int .u64 size, .map (some gm)] 91)]) (Rel := fun r L => r = .int .u64 size ∧ L = [(gM, row #[.int .u64 size, .map (some gm)] 91)]) ?_) fun r L ⟨L1, ⟨h1, h2⟩, h3⟩ => ⟨h1, by rw [h3, h2]; rfl⟩
  intro w hH
  have HM := Mem.start hH
  go_enter Try.func25, Try.ntmps25
  go_wp2_with (first
    | (refine Go.Proofs.Ytndeaikmelpflaa.M.at_mem rfl ?_; first | (refine Go.Proofs.Ytndeaikmelpflaa.M.at_load 25 rfl ?_; first | (refine Go.Proofs.Ytndeaikmelpflaa.M.load_cell_m HM rfl 25 _ rfl 0 _ _ _ _ _ rfl rfl rfl (by kernel_rfl) (by kernel_rfl) ?_; go_simp)) | ((fail_if_success (refine Go.Proofs.Ytndeaikmelpflaa.M.lit_t rfl ?_)); (fail_if_success (refine Go.Proofs.Ytndeaikmelpflaa.M.lit_f rfl ?_)); refine Go.Proofs.Ytndeaikmelpflaa.M.split_guard rfl rfl ?_ ?_ <;> (intro hg_; simp only [hg_]; try simp only [Go.Proofs.Ytndeaikmelpflaa.M.hgs] at hg_)))
    | ((fail_if_success (refine Go.Proofs.Ytndeaikmelpflaa.M.lit_t rfl ?_)); (fail_if_success (refine Go.Proofs.Ytndeaikmelpflaa.M.lit_f rfl ?_)); refine Go.Proofs.Ytndeaikmelpflaa.M.split_guard rfl rfl ?_ ?_ <;> (intro hg_; simp only [hg_]; try simp only [Go.Proofs.Ytndeaikmelpflaa.M.hgs] at hg_)))
  go_ret
  exact ⟨_, _, rfl, ⟨rfl, rfl⟩, HM⟩
end Go.Proofs.Ytndeaikmelpflaa.Ya
