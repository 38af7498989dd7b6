/- Physical memory: Read, Write, New: what each call answers. -/
import Derived.Test.YtndeaikmelpflaaProg
import Derived.Test.YtndeaikmelpflaaYa
namespace Go.Proofs.Ytndeaikmelpflaa.Yb
open Go.RowKit Go.Proofs.Ytndeaikmelpflaa.G Go.Proofs.Ytndeaikmelpflaa.B Go.Proofs.Ytndeaikmelpflaa.M Go.Proofs.Ytndeaikmelpflaa.Mv Go.Proofs.Ytndeaikmelpflaa.Sl Go.Proofs.Ytndeaikmelpflaa.Sm Go.Proofs.Ytndeaikmelpflaa.Sn Go.Proofs.Ytndeaikmelpflaa.Ma Go.Proofs.Ytndeaikmelpflaa.Dr Go.Proofs.Ytndeaikmelpflaa.Ya

set_option linter.unusedVariables false
set_option linter.unusedSimpArgs false
set_option maxRecDepth 100000
/-- What Read answers. -/
def readV (size : Int) (f : Int → Int) (a : Int) : Value := if errV size a = 0 then .tuple #[.int .u64 (f (a / 8)), .int .i64 0] else .tuple #[.int .u64 0, .int .i64 (errV size a)]
theorem errV_zero {size a : Int} (h : errV size a = 0) : a % 8 = 0 ∧ a < size := by
  unfold errV at h
  split at h
  · split at h
    · exact ⟨‹_›, ‹_›⟩
    · omega
  · omega
theorem errV_ok {size a : Int} (h : a % 8 = 0) (h2 : a < size) : errV size a = 0 := by unfold errV; rw [if_pos h, if_pos h2]
theorem page_word (a : Int) : (a / 8) / 512 = a / 4096 := by omega
theorem in_word (a : Int) (h : a % 8 = 0) : (a / 4096) * 512 + ((a % 4096 / 8).toNat : Int) = a / 8 ∧ (a % 4096 / 8).toNat < 512 := by omega
set_option maxHeartbeats 1000000 in
theorem read_no {size a : Int} (a0 : 0 ≤ a) (a1 : a < 18446744073709551616) (h : errV size a ≠ 0) (gM : Nat) (m : Value) : Does Try.prog 17 #[.pointer (some ⟨gM, 0, none⟩), .int .u64 a] [(gM, row #[.int .u64 size, m] 91)]
    fun r L => r = .tuple #[.int .u64 0, .int .i64 (errV size a)] ∧ L = [(gM, row #[.int .u64 size, m] 91)] := by
  have CM := may_any size a a0 a1 gM m
  generalize errV size a = e at CM h ⊢
  intro w hH
  have HM := Mem.start hH
  go_enter Try.func17, Try.ntmps17
  go_wp2_with (first
    | (go_big_skip)
    | (go_at_call 37; (with_reducible refine (M.Does.call (CM) HM (M.perm_at 0 rfl)).mono ?_); clear HM; rintro e w_ ⟨v_, L_, rfl, ⟨rfl, rfl⟩, HM⟩; (try simp only [M.nrm] at HM); dsimp only)
    | (refine M.at_mem rfl ?_; first | (refine M.at_load 25 rfl ?_; first | (refine M.load_cell_m HM rfl 25 _ rfl 0 _ _ _ _ _ rfl rfl rfl (by kernel_rfl) (by kernel_rfl) ?_; go_simp)) | (refine M.at_load 89 rfl ?_; first | (refine M.load_cell_m HM rfl 89 _ rfl 0 _ _ _ _ _ rfl rfl rfl (by kernel_rfl) (by kernel_rfl) ?_; go_simp)) | ((fail_if_success (refine M.lit_t rfl ?_)); (fail_if_success (refine M.lit_f rfl ?_)); refine M.split_guard rfl rfl ?_ ?_ <;> (intro hg_; simp only [hg_]; try simp only [M.hgs] at hg_)))
    | (refine Mc.at_cmp _ rfl ?_; refine Mc.cmp_m rfl _ rfl _ _ _ rfl _ _ _ rfl rfl _ rfl ?_ ?_ <;> (intro hg_; try simp only [M.hgs] at hg_; first | (exfalso; first | omega | (simp at hg_; done)) | (go_simp)))
    | ((fail_if_success (refine M.lit_t rfl ?_)); (fail_if_success (refine M.lit_f rfl ?_)); refine M.split_guard rfl rfl ?_ ?_ <;> (intro hg_; simp only [hg_]; try simp only [M.hgs] at hg_)))
  all_goals
    go_ret2
    exact ⟨_, _, rfl, ⟨rfl, rfl⟩, HM⟩
theorem zero_sheet : ∃ zs : Array Value, (Try.prog.info? 100).map (·.zero) = some (some (.agg zs)) ∧ zs.size = 512 ∧ ∀ i : Nat, i < 512 → zs[i]? = some (.int .u64 0) :=
  ⟨Array.replicate 512 (.int .u64 0), by kernel_rfl, by simp, fun i hi => by simp [hi]⟩
set_option maxHeartbeats 1000000 in
theorem read_gone {size a : Int} (a0 : 0 ≤ a) (a1 : a < 18446744073709551616) (h : errV size a = 0) (gM gm clock : Nat) (es : Array MapEntry) (l : List (Int × Value)) (he : Ents es.toList l) (hl : lookM l (a / 4096) = none) :
    Does Try.prog 17 #[.pointer (some ⟨gM, 0, none⟩), .int .u64 a] [(gM, row #[.int .u64 size, .map (some gm)] 91), (gm, .map es clock)]
    fun r L => r = .tuple #[.int .u64 0, .int .i64 0] ∧ L = [(gM, row #[.int .u64 size, .map (some gm)] 91), (gm, .map es clock)] := by
  have CM := may_any size a a0 a1 gM (.map (some gm))
  have CP := fun w => place_any a a0 a1 w
  rw [h] at CM
  have HE := Lib.hid he
  have hr : lookV (.pointer none) (lookM l (a / 4096)) = .tuple #[.pointer none, .bool false] := by rw [hl]; rfl
  have HR := Lib.hid hr; clear hr hl he
  generalize a / 4096 = p at CP HR
  generalize a % 4096 / 8 = q at CP
  intro w hH
  have HM := Mem.start hH
  go_enter Try.func17, Try.ntmps17
  go_wp2_with (first
    | (go_big_skip)
    | (refine Ma.at_lookup 89 rfl ?_; refine Ma.lookup_m HM rfl rfl 89 25 87 _ _ rfl (by kernel_rfl) (.pointer none) (by kernel_rfl) 1 gm clock es l rfl HE.out rfl p rfl _ HR.out ?_; go_simp)
    | (go_at_call 37; (with_reducible refine (M.Does.call (CM) HM (M.perm_at 0 rfl)).mono ?_); clear HM; rintro e w_ ⟨v_, L_, rfl, ⟨rfl, rfl⟩, HM⟩; (try simp only [M.nrm] at HM); dsimp only)
    | (go_at_call 39; (with_reducible refine (M.call_pure (CP) HM).mono ?_); clear HM; rintro e w_ ⟨rfl, HM⟩; dsimp only)
    | (refine M.at_mem rfl ?_; first | (refine M.at_load 25 rfl ?_; first | (refine M.load_cell_m HM rfl 25 _ rfl 0 _ _ _ _ _ rfl rfl rfl (by kernel_rfl) (by kernel_rfl) ?_; go_simp)) | (refine M.at_load 89 rfl ?_; first | (refine M.load_cell_m HM rfl 89 _ rfl 0 _ _ _ _ _ rfl rfl rfl (by kernel_rfl) (by kernel_rfl) ?_; go_simp)) | ((fail_if_success (refine M.lit_t rfl ?_)); (fail_if_success (refine M.lit_f rfl ?_)); refine M.split_guard rfl rfl ?_ ?_ <;> (intro hg_; simp only [hg_]; try simp only [M.hgs] at hg_)))
    | (refine Mc.at_cmp _ rfl ?_; refine Mc.cmp_m rfl _ rfl _ _ _ rfl _ _ _ rfl rfl _ rfl ?_ ?_ <;> (intro hg_; try simp only [M.hgs] at hg_; first | (exfalso; first | omega | (simp at hg_; done)) | (go_simp)))
    | ((fail_if_success (refine M.lit_t rfl ?_)); (fail_if_success (refine M.lit_f rfl ?_)); refine M.split_guard rfl rfl ?_ ?_ <;> (intro hg_; simp only [hg_]; try simp only [M.hgs] at hg_)))
  all_goals
    go_ret2
    exact ⟨_, _, rfl, ⟨rfl, rfl⟩, HM⟩
set_option maxHeartbeats 1000000 in
theorem read_here {size a : Int} (a0 : 0 ≤ a) (a1 : a < 18446744073709551616) (h : errV size a = 0) (gM gm clock g : Nat) (es : Array MapEntry) (l : List (Int × Value)) (he : Ents es.toList l) (hl : lookM l (a / 4096) = some (.pointer (some ⟨g, 0, none⟩))) (cs : Array Value) (v : Int)
    (hc : cs[(a % 4096 / 8).toNat]? = some (.int .u64 v)) :
    Does Try.prog 17 #[.pointer (some ⟨gM, 0, none⟩), .int .u64 a] [(gM, row #[.int .u64 size, .map (some gm)] 91), (gm, .map es clock), (g, row cs 100)]
    fun r L => r = .tuple #[.int .u64 v, .int .i64 0] ∧ L = [(gM, row #[.int .u64 size, .map (some gm)] 91), (gm, .map es clock), (g, row cs 100)] := by
  have CM := may_any size a a0 a1 gM (.map (some gm))
  have CP := fun w => place_any a a0 a1 w
  rw [h] at CM
  have HE := Lib.hid he
  have hr : lookV (.pointer none) (lookM l (a / 4096)) = .tuple #[.pointer (some ⟨g, 0, none⟩), .bool true] := by rw [hl]; rfl
  have q0 : 0 ≤ a % 4096 / 8 := by omega
  have q1 : a % 4096 / 8 < 512 := by omega
  have HR := Lib.hid hr; clear hr hl he
  generalize a / 4096 = p at CP HR
  generalize a % 4096 / 8 = q at CP hc q0 q1
  have HC := Lib.hid hc; clear hc
  intro w hH
  have HM := Mem.start hH
  go_enter Try.func17, Try.ntmps17
  go_wp2_with (first
    | (go_big_skip)
    | (refine Ma.at_lookup 89 rfl ?_; refine Ma.lookup_m HM rfl rfl 89 25 87 _ _ rfl (by kernel_rfl) (.pointer none) (by kernel_rfl) 1 gm clock es l rfl HE.out rfl p rfl _ HR.out ?_; go_simp)
    | (refine Sl.at_indexAddr 100 rfl ?_; refine Ma.indexArr_m rfl _ rfl 100 rfl 512 25 (by kernel_rfl) 1 (by kernel_rfl) g 0 rfl .u64 q rfl (by omega) (by omega) q.toNat (by omega) ?_; go_simp)
    | (go_at_call 37; (with_reducible refine (M.Does.call (CM) HM (M.perm_at 0 rfl)).mono ?_); clear HM; rintro e w_ ⟨v_, L_, rfl, ⟨rfl, rfl⟩, HM⟩; (try simp only [M.nrm] at HM); dsimp only)
    | (go_at_call 39; (with_reducible refine (M.call_pure (CP) HM).mono ?_); clear HM; rintro e w_ ⟨rfl, HM⟩; dsimp only)
    | (refine M.at_mem rfl ?_; first | (refine M.at_load 25 rfl ?_; first | (refine M.load_cell_m HM rfl 25 _ rfl 2 g q.toNat _ cs (.int .u64 v) rfl rfl HC.out (by kernel_rfl) (by kernel_rfl) ?_; go_simp) | (refine M.load_cell_m HM rfl 25 _ rfl 0 _ _ _ _ _ rfl rfl rfl (by kernel_rfl) (by kernel_rfl) ?_; go_simp)) | (refine M.at_load 89 rfl ?_; first | (refine M.load_cell_m HM rfl 25 _ rfl 2 g q.toNat _ cs (.int .u64 v) rfl rfl HC.out (by kernel_rfl) (by kernel_rfl) ?_; go_simp) | (refine M.load_cell_m HM rfl 89 _ rfl 0 _ _ _ _ _ rfl rfl rfl (by kernel_rfl) (by kernel_rfl) ?_; go_simp)) | ((fail_if_success (refine M.lit_t rfl ?_)); (fail_if_success (refine M.lit_f rfl ?_)); refine M.split_guard rfl rfl ?_ ?_ <;> (intro hg_; simp only [hg_]; try simp only [M.hgs] at hg_)))
    | (refine Mc.at_cmp _ rfl ?_; refine Mc.cmp_m rfl _ rfl _ _ _ rfl _ _ _ rfl rfl _ rfl ?_ ?_ <;> (intro hg_; try simp only [M.hgs] at hg_; first | (exfalso; first | omega | (simp at hg_; done)) | (go_simp)))
    | ((fail_if_success (refine M.lit_t rfl ?_)); (fail_if_success (refine M.lit_f rfl ?_)); refine M.split_guard rfl rfl ?_ ?_ <;> (intro hg_; simp only [hg_]; try simp only [M.hgs] at hg_)))
  all_goals
    go_ret2
    exact ⟨_, _, rfl, ⟨rfl, rfl⟩, HM⟩
theorem sheets_at {S : List Sh} {i : Nat} {s : Sh} (h : S[i]? = some s) : (sheets S).Perm ((s.g, row s.cs 100) :: (sheets S).eraseIdx i) := perm_at i (by simp [sheets, h])
theorem read_any {size : Int} {f : Int → Int} {gM : Nat} {A : Hp} (h : Pm size f gM A) (a : Int) (a0 : 0 ≤ a) (a1 : a < 18446744073709551616) : Does Try.prog 17 #[.pointer (some ⟨gM, 0, none⟩), .int .u64 a] A fun r L => r = readV size f a ∧ L = A := by
  obtain ⟨gm, clock, es, S, hs, rfl⟩ := h
  by_cases he : errV size a = 0
  · have hv : readV size f a = .tuple #[.int .u64 (f (a / 8)), .int .i64 0] := by unfold readV; rw [if_pos he]
    obtain ⟨h8, hlt⟩ := errV_zero he
    obtain ⟨hw1, hw2⟩ := in_word a h8
    rw [hv]
    cases hl : lookM (keys S) (a / 4096) with
    | none =>
      have h0 : f (a / 8) = 0 := hs.no _ (by rw [page_word]; exact lookM_none hl)
      rw [h0]
      exact weaken (frame (R := sheets S) (read_gone a0 a1 he gM gm clock es (keys S) hs.ents hl)) fun r L ⟨L1, ⟨h1, h2⟩, h3⟩ => ⟨h1, by rw [h3, h2]; rfl⟩
    | some v =>
      obtain ⟨i, s, hi, hp, rfl⟩ := lookM_some hl
      have hm := List.mem_of_getElem? hi
      have hc := hs.word s hm _ hw2
      rw [hp, hw1] at hc
      have hP := ((sheets_at hi).cons (gm, Obj.map es clock)).cons (gM, row #[.int .u64 size, .map (some gm)] 91)
      refine perms (frame (R := (sheets S).eraseIdx i) (read_here a0 a1 he gM gm clock s.g es (keys S) hs.ents hl s.cs _ hc)) hP fun r L ⟨L1, ⟨h1, h2⟩, h3⟩ => ⟨_, ?_, h1, rfl⟩
      rw [h3, h2]
      exact hP.symm
  · have hv : readV size f a = .tuple #[.int .u64 0, .int .i64 (errV size a)] := by unfold readV; rw [if_neg he]
    rw [hv]
    exact weaken (frame (R := (gm, .map es clock) :: sheets S) (read_no a0 a1 he gM (.map (some gm)))) fun r L ⟨L1, ⟨h1, h2⟩, h3⟩ => ⟨h1, by rw [h3, h2]; rfl⟩
end Go.Proofs.Ytndeaikmelpflaa.Yb
