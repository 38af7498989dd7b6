/- Virtual ASIDs: a control by its spaces alone; the anchor. -/
import Derived.Test.YtndeaikmelpflaaCa
namespace Go.Proofs.Ytndeaikmelpflaa.Cb
open Go.RowKit Go.Proofs.Ytndeaikmelpflaa.G Go.Proofs.Ytndeaikmelpflaa.B Go.Proofs.Ytndeaikmelpflaa.M Go.Proofs.Ytndeaikmelpflaa.Mv Go.Proofs.Ytndeaikmelpflaa.Sl Go.Proofs.Ytndeaikmelpflaa.Sm Go.Proofs.Ytndeaikmelpflaa.Sn Go.Proofs.Ytndeaikmelpflaa.Ma Go.Proofs.Ytndeaikmelpflaa.Dr Go.Proofs.Ytndeaikmelpflaa.Ya Go.Proofs.Ytndeaikmelpflaa.Yb Go.Proofs.Ytndeaikmelpflaa.Yc Go.Proofs.Ytndeaikmelpflaa.Ls Go.Proofs.Ytndeaikmelpflaa.Lt Go.Proofs.Ytndeaikmelpflaa.Lu Go.Proofs.Ytndeaikmelpflaa.Aa Go.Proofs.Ytndeaikmelpflaa.Ab Go.Proofs.Ytndeaikmelpflaa.Ac Go.Proofs.Ytndeaikmelpflaa.Ad Go.Proofs.Ytndeaikmelpflaa.Ae Go.Proofs.Ytndeaikmelpflaa.Af Go.Proofs.Ytndeaikmelpflaa.Bc Go.Proofs.Ytndeaikmelpflaa.Bd Go.Proofs.Ytndeaikmelpflaa.Bi Go.Proofs.Ytndeaikmelpflaa.Bp Go.Proofs.Ytndeaikmelpflaa.Ca

set_option linter.unusedVariables false
set_option linter.unusedSimpArgs false
set_option maxRecDepth 100000
/-- A control whose spaces are s. -/
def SC (s : Int → Int) (gC : Nat) (ps : Nat → Int) (L : Hp) : Prop := ∃ f gM, AC f gM gC ps L ∧ Psok ps ∧ ∀ v, spc f ps v = s v
def s0 : Int → Int := fun _ => 0
def updS (s : Int → Int) (v x : Int) : Int → Int := fun u => if u = v then x else s u
theorem spc_p0 (f : Int → Int) (v : Int) : spc f p0 v = 0 := by
  unfold spc
  rw [if_neg]
  rw [okA_iff]; rintro ⟨-, -, h⟩; exact h rfl
theorem SC.opened {gM gC : Nat} {AM : Hp} (h : Pm 131072 f0 gM AM) : SC s0 gC p0 ((gC, row (ccells gM p0) 68) :: AM) := ⟨f0, gM, ⟨AM, h, rfl⟩, psok_none, fun v => spc_p0 f0 v⟩
def AddS (s : Int → Int) (gC : Nat) (ps : Nat → Int) (m : Nat) (r : Value) (L : Hp) : Prop := r = .tuple #[.int .i64 m, .int .i64 0] ∧ SC s gC ps L
theorem add_s {s : Int → Int} {gC : Nat} {ps : Nat → Int} {L : Hp} (h : SC s gC ps L) {p : Int} (h1 : p % 4096 = 0) (h2 : 0 < p) (h3 : p < 131072) {m : Nat} (hm : m < 8) (hz : ps m = 0) (hl : ∀ j : Nat, j < m → ps j ≠ 0) (hn : ∀ j : Nat, j < 8 → ps j ≠ p) : Does Try.prog 9 #[.pointer (some ⟨gC, 0, none⟩), .int .u64 p] L (AddS s gC (upp ps m p) m) := by
  obtain ⟨f, gM, ⟨AM, hP, rfl⟩, hps, hs⟩ := h
  refine weaken (add_any hP p (by omega) (by omega)) fun r L hr => ?_
  have hb : ¬ (p = 0 ∨ 131072 ≤ p) := by omega
  rcases hr with ⟨h, -⟩ | ⟨-, h, -⟩ | ⟨-, -, ⟨j, hj, e⟩, -⟩ | ⟨-, -, -, h, -⟩ | ⟨-, -, -, m2, hm2, e2, hl2, rfl, hA⟩
  · exact absurd h1 h
  · exact absurd h hb
  · exact absurd e (hn j hj)
  · exact absurd hz (h m hm)
  · have : m = m2 := by
      rcases Nat.lt_trichotomy m m2 with a | a | a
      · exact absurd hz (hl2 m a)
      · exact a
      · exact absurd e2 (hl m2 a)
    subst this
    exact ⟨rfl, _, gM, hA, psok_add hps m h1 hb (by omega) hn, fun v => (spc_add hps hm hz h1 hb (by omega) hn v).trans (hs v)⟩
def AsgS (s : Int → Int) (gC : Nat) (ps : Nat → Int) (v : Int) (r : Value) (L : Hp) : Prop := r = .tuple #[.int .i64 v, .int .i64 0] ∧ SC s gC ps L
theorem assign_s {s : Int → Int} {gC : Nat} {ps : Nat → Int} {L : Hp} (h : SC s gC ps L) {pool space : Int} (ho : okP ps pool = true) (c0 : 0 < space) (c1 : space < 281474976710656) (ca : space % 4096 = 0) {v : Int} (v1 : 1 ≤ v) (hv : v / 512 = pool) (hz : s v = 0) (hl : ∀ u : Int, 1 ≤ u → u / 512 = pool → u < v → s u ≠ 0) : Does Try.prog 10 #[.pointer (some ⟨gC, 0, none⟩), .int .i64 pool, .int .u64 space] L (AsgS (updS s v space) gC ps v) := by
  obtain ⟨f, gM, ⟨AM, hP, rfl⟩, hps, hs⟩ := h
  refine weaken (assign_any hP hps pool space (by omega) (by omega)) fun r L hr => ?_
  have hb : ¬ badS space := by unfold badS; omega
  have hvi : v = pool * 512 + ((v % 512).toNat : Int) := by omega
  have hok : ∀ u : Int, 1 ≤ u → u / 512 = pool → okA ps u = true := fun u h1 h2 => by
    unfold okA; rw [decide_eq_true h1, h2, ho]; rfl
  rcases hr with ⟨h, -⟩ | ⟨-, h, -⟩ | ⟨-, -, h, -⟩ | ⟨-, -, i, hi, ⟨hf1, hf2⟩, hlow, rfl, hA⟩
  · rw [ho] at h; cases h
  · exact absurd h hb
  · exact absurd ⟨by omega, by rw [← hvi, hs, hz]⟩ (h (v % 512).toNat (by omega))
  · have hiv : pool * 512 + (i : Int) = v := by
      rcases Int.lt_trichotomy (pool * 512 + (i : Int)) v with a | a | a
      · exact absurd ((hs _).symm.trans hf2) (hl _ hf1 (by omega) a)
      · exact a
      · exact absurd ⟨by omega, by rw [← hvi, hs, hz]⟩ (hlow (v % 512).toNat (by omega))
    rw [hiv] at hA ⊢
    exact ⟨rfl, _, gM, hA, hps, fun u => by rw [spc_upd hps (hok v v1 hv), hs]; rfl⟩
def FullS (s : Int → Int) (gC : Nat) (ps : Nat → Int) (r : Value) (L : Hp) : Prop := r = .tuple #[.int .i64 0, .int .i64 15] ∧ SC s gC ps L
theorem full_s {s : Int → Int} {gC : Nat} {ps : Nat → Int} {L : Hp} (h : SC s gC ps L) {pool space : Int} (ho : okP ps pool = true) (c0 : 0 < space) (c1 : space < 281474976710656) (ca : space % 4096 = 0) (hl : ∀ u : Int, 1 ≤ u → u / 512 = pool → s u ≠ 0) : Does Try.prog 10 #[.pointer (some ⟨gC, 0, none⟩), .int .i64 pool, .int .u64 space] L (FullS s gC ps) := by
  obtain ⟨f, gM, ⟨AM, hP, rfl⟩, hps, hs⟩ := h
  refine weaken (assign_any hP hps pool space (by omega) (by omega)) fun r L hr => ?_
  have hb : ¬ badS space := by unfold badS; omega
  rcases hr with ⟨h, -⟩ | ⟨-, h, -⟩ | ⟨-, -, -, rfl, hA⟩ | ⟨-, -, i, hi, ⟨hf1, hf2⟩, -⟩
  · rw [ho] at h; cases h
  · exact absurd h hb
  · exact ⟨rfl, f, gM, hA, hps, hs⟩
  · exact absurd ((hs _).symm.trans hf2) (hl _ hf1 (by omega))
theorem space_s {s : Int → Int} {gC : Nat} {ps : Nat → Int} {L : Hp} (h : SC s gC ps L) {v : Int} (vm : v < 9223372036854775808) : Does Try.prog 21 #[.pointer (some ⟨gC, 0, none⟩), .int .i64 v] L (RIs (spcV (s v)) L) := by
  obtain ⟨f, gM, ⟨AM, hP, rfl⟩, hps, hs⟩ := h
  rw [← hs v]
  exact space_any hP hps v vm
def ClrS (s : Int → Int) (gC : Nat) (ps : Nat → Int) (e : Int) (r : Value) (L : Hp) : Prop := r = .int .i64 e ∧ SC s gC ps L
theorem clear_no {s : Int → Int} {gC : Nat} {ps : Nat → Int} {L : Hp} (h : SC s gC ps L) {v : Int} (vm : v < 9223372036854775808) (hz : s v = 0) : Does Try.prog 12 #[.pointer (some ⟨gC, 0, none⟩), .int .i64 v] L (ClrS s gC ps 33) := by
  obtain ⟨f, gM, ⟨AM, hP, rfl⟩, hps, hs⟩ := h
  refine weaken (clear_any hP hps v vm) fun r L hr => ?_
  rcases hr with ⟨h, rfl, hA⟩ | ⟨h, -⟩
  · exact ⟨rfl, f, gM, hA, hps, hs⟩
  · exact absurd ((hs v).trans hz) h
theorem clear_s {s : Int → Int} {gC : Nat} {ps : Nat → Int} {L : Hp} (h : SC s gC ps L) {v : Int} (vm : v < 9223372036854775808) (hz : s v ≠ 0) : Does Try.prog 12 #[.pointer (some ⟨gC, 0, none⟩), .int .i64 v] L (ClrS (updS s v 0) gC ps 0) := by
  obtain ⟨f, gM, ⟨AM, hP, rfl⟩, hps, hs⟩ := h
  refine weaken (clear_any hP hps v vm) fun r L hr => ?_
  rcases hr with ⟨h, -⟩ | ⟨h, rfl, hA⟩
  · exact absurd ((hs v).symm.trans h) hz
  · exact ⟨rfl, _, gM, hA, hps, fun u => by rw [spc_upd hps (spc_rng h).1, hs]; rfl⟩
def LenS (s : Int → Int) (gC : Nat) (ps : Nat → Int) (n : Nat) (r : Value) (L : Hp) : Prop := ∃ q c, r = .slice q n c ∧ SC s gC ps L
theorem list_s {s : Int → Int} {gC : Nat} {ps : Nat → Int} {L : Hp} (h : SC s gC ps L) {l : List V2} (hl : Srt l) (hm : ∀ y : V2, y ∈ l ↔ y.sp = s y.v ∧ y.sp ≠ 0) {n : Nat} (hn : l.length = n) : Does Try.prog 11 #[.pointer (some ⟨gC, 0, none⟩)] L (LenS s gC ps n) := by
  obtain ⟨f, gM, ⟨AM, hP, rfl⟩, hps, hs⟩ := h
  refine spare' (list_any hP hps) fun r L hr => ?_
  obtain ⟨A, L', hA, rfl, hC⟩ := hr
  obtain ⟨q, c, rfl, -⟩ := hA.read
  have e : vl f ps = l := srt_ext (sort_vl f ps) hl fun y => by rw [mem_vl, hm, hs]
  have e2 : ((cat f ps 8).map (·.1)).length = n := by
    rw [← hn, ← e]; unfold vl; simp
  refine ⟨L', A, List.perm_append_comm, q, c, by rw [e2], f, gM, hC, hps, hs⟩
where spare' {P : Program} {f : FuncId} {args : Array Value} {A : Hp} {R1 R2 : Value → Hp → Prop} (C : Does P f args A R1) (h : ∀ v L, R1 v L → ∃ L' X, L.Perm (L' ++ X) ∧ R2 v L') : Does P f args A R2 := Bg.spare C h
/-- The anchor's pools. -/
def p1 : Nat → Int := upp p0 0 4096
def s1 : Int → Int := updS s0 1 32768
def s2 : Int → Int := updS s1 2 36864
theorem ok_p1 : okP p1 0 = true := rfl
theorem a1 {gC : Nat} {L : Hp} (h : SC s0 gC p0 L) : Does Try.prog 9 #[.pointer (some ⟨gC, 0, none⟩), .int .u64 4096] L (AddS s0 gC p1 0) := add_s h (by decide) (by decide) (by decide) (by decide) rfl (fun j hj => by omega) (fun j hj e => by cases e)
theorem a2 {gC : Nat} {L : Hp} (h : SC s0 gC p1 L) : Does Try.prog 10 #[.pointer (some ⟨gC, 0, none⟩), .int .i64 0, .int .u64 32768] L (AsgS s1 gC p1 1) := assign_s h ok_p1 (by decide) (by decide) (by decide) (by decide) (by decide) rfl (fun u h1 h2 h3 => by omega)
theorem a3 {gC : Nat} {L : Hp} (h : SC s1 gC p1 L) : Does Try.prog 10 #[.pointer (some ⟨gC, 0, none⟩), .int .i64 0, .int .u64 36864] L (AsgS s2 gC p1 2) := assign_s h ok_p1 (by decide) (by decide) (by decide) (by decide) (by decide) rfl (fun u h1 h2 h3 => by
  obtain rfl : u = 1 := by omega
  decide)
theorem a4 {gC : Nat} {L : Hp} (h : SC s2 gC p1 L) : Does Try.prog 21 #[.pointer (some ⟨gC, 0, none⟩), .int .i64 1] L (RIs (.tuple #[.int .u64 32768, .int .i64 0]) L) := space_s h (v := 1) (by decide)
theorem a5 {gC : Nat} {L : Hp} (h : SC s2 gC p1 L) : Does Try.prog 11 #[.pointer (some ⟨gC, 0, none⟩)] L (LenS s2 gC p1 2) := by
  refine list_s h (l := [⟨1, 32768⟩, ⟨2, 36864⟩]) (by simp) (fun y => ?_) rfl
  obtain ⟨v, x⟩ := y
  simp only [List.mem_cons, List.not_mem_nil, or_false, V2.mk.injEq]
  unfold s2 s1 updS s0
  constructor
  · rintro (⟨rfl, rfl⟩ | ⟨rfl, rfl⟩) <;> decide
  · rintro ⟨h1, h2⟩
    split at h1
    · rename_i e; exact .inr ⟨e, h1⟩
    · split at h1
      · rename_i e; exact .inl ⟨e, h1⟩
      · exact absurd h1 h2
def OpS (r : Value) (L : Hp) : Prop := ∃ gM gC : Nat, r = .tuple #[.pointer (some ⟨gC, 0, none⟩), .pointer (some ⟨gM, 0, none⟩), .agg (docC p0 (.slice none 0 0))] ∧ SC s0 gC p0 L
theorem opened_s (w : World) : Calls Try.prog 8 #[] w (Ans w [] OpS) :=
  (opened_any w).mono fun e w' ⟨v, L, he, ⟨gM, gC, AM, hP, hr, hL⟩, hm⟩ => ⟨v, L, he, ⟨gM, gC, hr, by rw [hL]; exact SC.opened hP⟩, hm⟩
set_option maxHeartbeats 8000000 in
theorem anchor_any (w : World) : Calls Try.prog 7 #[] w fun e w' => e = .returned (.bool true) ∧ Below w.heap.size w w' := by
  have CO := opened_s
  unfold OpS at CO
  simp only [docC] at CO
  have HM := Mem.nil w
  go_enter Try.func7, Try.ntmps7
  go_wp2_with (first
    | (go_big_skip)
    | (go_at_call 8; (with_reducible refine (Sm.new_call HM (CO _)).mono ?_); clear HM; rintro e w_ ⟨v_, L_, rfl, ⟨gM_, gC_, rfl, hS_⟩, HM⟩; rw [List.append_nil] at HM; dsimp only)
    | (go_at_call 9; have HM_ : M.Mem _ _ (([_]) ++ (L_)) _ := HM; (with_reducible refine (M.Does.tail _ (a1 hS_) HM_).mono ?_); clear HM HM_; rintro e w_ ⟨v_, L_, rfl, ⟨rfl, hS_⟩, HM⟩; (try simp only [List.cons_append, List.nil_append, List.append_nil] at HM); dsimp only)
    | (go_at_call 10; have HM_ : M.Mem _ _ (([_]) ++ (L_)) _ := HM; (with_reducible refine (M.Does.tail _ (a2 hS_) HM_).mono ?_); clear HM HM_; rintro e w_ ⟨v_, L_, rfl, ⟨rfl, hS_⟩, HM⟩; (try simp only [List.cons_append, List.nil_append, List.append_nil] at HM); dsimp only)
    | (go_at_call 10; have HM_ : M.Mem _ _ (([_]) ++ (L_)) _ := HM; (with_reducible refine (M.Does.tail _ (a3 hS_) HM_).mono ?_); clear HM HM_; rintro e w_ ⟨v_, L_, rfl, ⟨rfl, hS_⟩, HM⟩; (try simp only [List.cons_append, List.nil_append, List.append_nil] at HM); dsimp only)
    | (go_at_call 21; have HM_ : M.Mem _ _ (([_]) ++ (L_)) _ := HM; (with_reducible refine (M.Does.tail _ (a4 hS_) HM_).mono ?_); clear HM HM_; rintro e w_ ⟨v_, L_, rfl, ⟨rfl, rfl⟩, HM⟩; (try simp only [List.cons_append, List.nil_append, List.append_nil] at HM); dsimp only)
    | (go_at_call 11; have HM_ : M.Mem _ _ (([_]) ++ (L_)) _ := HM; (with_reducible refine (M.Does.tail _ (a5 hS_) HM_).mono ?_); clear HM HM_; rintro e w_ ⟨v_, L_, rfl, ⟨q_, c_, rfl, hS_⟩, HM⟩; (try simp only [List.cons_append, List.nil_append, List.append_nil] at HM); dsimp only)
    | (refine M.at_mem rfl ?_; first | (refine M.at_store 29 rfl ?_; first | (refine M.store_row_m HM rfl 29 _ _ rfl 0 _ _ _ _ rfl rfl rfl (by kernel_rfl) rfl (by simp [Value.oneCell']) ?_; clear HM; intro w_ HM; (try simp only [M.nrm] at HM); go_simp)) | (refine M.at_alloc 29 rfl ?_; first | (refine M.alloc_m HM rfl rfl 29 rfl (.agg #[(.int .u64 0), (.int .u64 0), (.int .u64 0), (.int .u64 0), (.int .u64 0), (.int .u64 0), (.int .u64 0), (.int .u64 0), (.int .u64 0), (.slice none 0 0)]) (by kernel_rfl) #[(.int .u64 0), (.int .u64 0), (.int .u64 0), (.int .u64 0), (.int .u64 0), (.int .u64 0), (.int .u64 0), (.int .u64 0), (.int .u64 0), (.slice none 0 0)] rfl ?_; clear HM; intro g_ w_ HM; go_simp)) | ((fail_if_success (refine M.lit_t rfl ?_)); (fail_if_success (refine M.lit_f rfl ?_)); refine M.split_guard rfl rfl ?_ ?_ <;> (intro hg_; simp only [hg_]; try simp only [M.hgs] at hg_)))
    | (refine Mc.at_cmp _ rfl ?_; refine Mc.cmp_m rfl _ rfl _ _ _ rfl _ _ _ rfl rfl _ rfl ?_ ?_ <;> (intro hg_; try simp only [M.hgs] at hg_; first | (exfalso; first | omega | (simp at hg_; done)) | (go_simp)))
    | ((fail_if_success (refine M.lit_t rfl ?_)); (fail_if_success (refine M.lit_f rfl ?_)); refine M.split_guard rfl rfl ?_ ?_ <;> (intro hg_; simp only [hg_]; try simp only [M.hgs] at hg_)))
  all_goals
    go_ret
    exact ⟨by first | rfl | simp, HM.none.to_below⟩
end Go.Proofs.Ytndeaikmelpflaa.Cb
