/- Physical memory: put, Write, New: what each call does. -/
import Derived.Test.YtndeaikmelpflaaProg
import Derived.Test.YtndeaikmelpflaaYb
namespace Go.Proofs.Ytndeaikmelpflaa.Yc
open Go.RowKit Go.Proofs.Ytndeaikmelpflaa.G Go.Proofs.Ytndeaikmelpflaa.B Go.Proofs.Ytndeaikmelpflaa.M Go.Proofs.Ytndeaikmelpflaa.Mv Go.Proofs.Ytndeaikmelpflaa.Sl Go.Proofs.Ytndeaikmelpflaa.Sm Go.Proofs.Ytndeaikmelpflaa.Sn Go.Proofs.Ytndeaikmelpflaa.Ma Go.Proofs.Ytndeaikmelpflaa.Dr Go.Proofs.Ytndeaikmelpflaa.Ya Go.Proofs.Ytndeaikmelpflaa.Yb

set_option linter.unusedVariables false
set_option linter.unusedSimpArgs false
set_option maxRecDepth 100000
/-- One word anew. -/
def upd (f : Int → Int) (n v : Int) : Int → Int := fun m => if m = n then v else f m
theorem upd_same (f : Int → Int) (n v : Int) : upd f n v n = v := by simp [upd]
theorem upd_other (f : Int → Int) {n m : Int} (v : Int) (h : m ≠ n) : upd f n v m = f m := by simp [upd, h]
theorem upd_rng {f : Int → Int} (hf : ∀ n, 0 ≤ f n ∧ f n < 18446744073709551616) (n v : Int) (v0 : 0 ≤ v) (v1 : v < 18446744073709551616) (m : Int) : 0 ≤ upd f n v m ∧ upd f n v m < 18446744073709551616 := by
  unfold upd
  split
  · exact ⟨v0, v1⟩
  · exact hf m
theorem uniq {S : List Sh} (h : (S.map (·.p)).Nodup) {i j : Nat} {s t : Sh} (hi : S[i]? = some s) (hj : S[j]? = some t) (e : s.p = t.p) : i = j := by
  have h1 : (S.map (·.p))[i]? = some s.p := by simp [hi]
  have h2 : (S.map (·.p))[j]? = some s.p := by simp [hj, e]
  exact (List.getElem?_inj (by simpa using (List.getElem?_eq_some_iff.1 hi).1) h).1 (h1.trans h2.symm)
theorem keys_set {S : List Sh} {i : Nat} {s : Sh} (hi : S[i]? = some s) (cs : Array Value) : keys (S.set i { s with cs := cs }) = keys S ∧ (S.set i { s with cs := cs }).map (·.p) = S.map (·.p) := by
  obtain ⟨hlt, rfl⟩ := List.getElem?_eq_some_iff.1 hi
  constructor
  · unfold keys
    rw [List.map_set]
    apply List.ext_getElem?
    intro j
    rw [List.getElem?_set]
    split
    · rename_i h; subst h; simp [hlt]
    · rfl
  · rw [List.map_set]
    apply List.ext_getElem?
    intro j
    rw [List.getElem?_set]
    split
    · rename_i h; subst h; simp [hlt]
    · rfl
theorem PmS.hit {size : Int} {f : Int → Int} {clock : Nat} {es : Array MapEntry} {S : List Sh} (h : PmS size f clock es S) {i : Nat} {s : Sh} (hi : S[i]? = some s) (q : Nat) (hq : q < 512) (v : Int) (v0 : 0 ≤ v) (v1 : v < 18446744073709551616) :
    PmS size (upd f (s.p * 512 + q) v) clock es (S.set i { s with cs := s.cs.setIfInBounds q (.int .u64 v) }) := by
  have hm := List.mem_of_getElem? hi
  obtain ⟨k1, k2⟩ := keys_set hi (s.cs.setIfInBounds q (.int .u64 v))
  have hmem : ∀ t ∈ S.set i { s with cs := s.cs.setIfInBounds q (.int .u64 v) }, (t = { s with cs := s.cs.setIfInBounds q (.int .u64 v) }) ∨ (t ∈ S ∧ t.p ≠ s.p) := by
    intro t ht
    obtain ⟨j, hj⟩ := List.mem_iff_getElem?.1 ht
    rw [List.getElem?_set] at hj
    split at hj
    · split at hj
      · exact .inl (Option.some.inj hj).symm
      · cases hj
    · rename_i hne
      exact .inr ⟨List.mem_of_getElem? hj, fun e => hne (uniq h.one hj hi e).symm⟩
  refine ⟨by rw [k1]; exact h.ents, by rw [k2]; exact h.one, fun t ht => ?_, fun t ht j hj => ?_, fun n hn => ?_, upd_rng h.rng _ v v0 v1, h.stamp, (fun t ht => by
    rcases hmem t ht with rfl | ⟨h1, -⟩
    · exact h.low s hm
    · exact h.low t h1), h.most⟩
  · rcases hmem t ht with rfl | ⟨h1, -⟩
    · simpa using h.size s hm
    · exact h.size t h1
  · rcases hmem t ht with rfl | ⟨h1, h2⟩
    · simp only [Array.getElem?_setIfInBounds]
      by_cases e : q = j
      · subst e; rw [if_pos rfl, if_pos (by rw [h.size s hm]; exact hj), upd_same]
      · rw [if_neg e, upd_other _ _ (by omega)]
        exact h.word s hm j hj
    · rw [upd_other _ _ (by omega)]
      exact h.word t h1 j hj
  · rw [upd_other _ _ ?_]
    · refine h.no n fun t ht e => ?_
      have hin : t.p ∈ (S.set i { s with cs := s.cs.setIfInBounds q (.int .u64 v) }).map (·.p) := by rw [k2]; exact List.mem_map_of_mem ht
      obtain ⟨t', ht', e'⟩ := List.mem_map.1 hin
      exact hn t' ht' (e'.trans e)
    · intro e
      have hin : s.p ∈ (S.set i { s with cs := s.cs.setIfInBounds q (.int .u64 v) }).map (·.p) := by rw [k2]; exact List.mem_map_of_mem hm
      obtain ⟨t', ht', e'⟩ := List.mem_map.1 hin
      exact hn t' ht' (by rw [e']; omega)
theorem PmS.new {size : Int} {f : Int → Int} {clock : Nat} {es : Array MapEntry} {S : List Sh} (h : PmS size f clock es S) (p : Int) (p0 : 0 ≤ p) (p1 : p < 1048576) (hp : ∀ s ∈ S, s.p ≠ p) (g : Nat) (zs : Array Value) (hz : zs.size = 512) (hzz : ∀ i : Nat, i < 512 → zs[i]? = some (.int .u64 0)) (q : Nat) (hq : q < 512) (v : Int) (v0 : 0 ≤ v) (v1 : v < 18446744073709551616) :
    PmS size (upd f (p * 512 + q) v) (clock + 1) (es.push { key := .int .u64 p, val := .pointer (some ⟨g, 0, none⟩), born := clock }) (S ++ [⟨p, g, zs.setIfInBounds q (.int .u64 v)⟩]) := by
  refine ⟨?_, ?_, fun t ht => ?_, fun t ht j hj => ?_, fun n hn => ?_, upd_rng h.rng _ v v0 v1, ⟨(fun x hx => by
      rw [Array.toList_push, List.mem_append, List.mem_singleton] at hx
      rcases hx with hx | rfl
      · have := h.stamp.1 x hx; omega
      · exact Nat.lt_succ_self _), (by
      rw [Array.toList_push, List.map_append, List.nodup_append]
      refine ⟨h.stamp.2, by simp, fun a ha b hb e => ?_⟩
      obtain ⟨x, hx, rfl⟩ := List.mem_map.1 ha
      have := h.stamp.1 x hx
      simp at hb
      omega)⟩, (fun t ht => by
      rcases List.mem_append.1 ht with h1 | h1
      · exact h.low t h1
      · rw [List.mem_singleton.1 h1]; exact ⟨p0, p1⟩), h.most⟩
  · have := h.ents.push p (.pointer (some ⟨g, 0, none⟩)) clock
    unfold keys at *
    rw [List.map_append]; exact this
  · rw [List.map_append, List.nodup_append]
    refine ⟨h.one, by simp, fun a ha b hb e => ?_⟩
    obtain ⟨s, hs, rfl⟩ := List.mem_map.1 ha
    simp at hb
    exact hp s hs (e.trans hb)
  · rcases List.mem_append.1 ht with h1 | h1
    · exact h.size t h1
    · rw [List.mem_singleton.1 h1]; simpa using hz
  · rcases List.mem_append.1 ht with h1 | h1
    · have := hp t h1
      rw [upd_other _ _ (by omega)]; exact h.word t h1 j hj
    · rw [List.mem_singleton.1 h1]
      simp only [Array.getElem?_setIfInBounds]
      by_cases e : q = j
      · subst e; rw [if_pos rfl, if_pos (by rw [hz]; exact hj), upd_same]
      · rw [if_neg e, upd_other _ _ (by omega), hzz j hj]
        rw [h.no (p * 512 + j) fun s hs => by rw [show (p * 512 + (j : Int)) / 512 = p by omega]; exact hp s hs]
  · have h1 := hn ⟨p, g, _⟩ (List.mem_append_right _ (List.mem_singleton.2 rfl))
    rw [upd_other _ _ (by intro e; apply h1; dsimp only; omega)]
    exact h.no n fun s hs => hn s (List.mem_append_left _ hs)
theorem upd_zero {f : Int → Int} {n : Int} (h : f n = 0) : upd f n 0 = f := by
  funext m
  unfold upd
  split
  · rename_i e; rw [e, h]
  · rfl
set_option maxHeartbeats 1000000 in
theorem put_here (a v : Int) (a0 : 0 ≤ a) (a1 : a < 18446744073709551616) (gM gm clock g : Nat) (size : Value) (es : Array MapEntry) (l : List (Int × Value)) (he : Ents es.toList l) (hl : lookM l (a / 4096) = some (.pointer (some ⟨g, 0, none⟩))) (cs : Array Value) (hcs : cs.size = 512) :
    Does Try.prog 38 #[.pointer (some ⟨gM, 0, none⟩), .int .u64 a, .int .u64 v] [(gM, row #[size, .map (some gm)] 91), (gm, .map es clock), (g, row cs 100)]
    fun r L => r = .tuple #[] ∧ L = [(gM, row #[size, .map (some gm)] 91), (gm, .map es clock), (g, row (cs.setIfInBounds (a % 4096 / 8).toNat (.int .u64 v)) 100)] := by
  have CP := fun w => place_any a a0 a1 w
  have HE := Lib.hid he
  have hr : lookV (.pointer none) (lookM l (a / 4096)) = .tuple #[.pointer (some ⟨g, 0, none⟩), .bool true] := by rw [hl]; rfl
  have q0 : 0 ≤ a % 4096 / 8 := by omega
  have q1 : a % 4096 / 8 < 512 := by omega
  have HR := Lib.hid hr; clear hr hl he
  generalize a / 4096 = p at CP HR
  generalize a % 4096 / 8 = q at CP q0 q1 ⊢
  have HC := Lib.hid (show q.toNat < cs.size by omega); clear hcs
  intro w hH
  have HM := Mem.start hH
  go_enter Try.func38, Try.ntmps38
  go_wp2_with (first
    | (go_big_skip)
    | (refine Ma.at_lookup 89 rfl ?_; refine Ma.lookup_m HM rfl rfl 89 25 87 _ _ rfl (by kernel_rfl) (.pointer none) (by kernel_rfl) 1 gm clock es l rfl HE.out rfl p rfl _ HR.out ?_; go_simp)
    | (refine Sl.at_indexAddr 100 rfl ?_; refine Ma.indexArr_m rfl _ rfl 100 rfl 512 25 (by kernel_rfl) 1 (by kernel_rfl) g 0 rfl .u64 q rfl (by omega) (by omega) q.toNat (by omega) ?_; go_simp)
    | (go_at_call 39; (with_reducible refine (M.call_pure (CP) HM).mono ?_); clear HM; rintro e w_ ⟨rfl, HM⟩; dsimp only)
    | (refine M.at_mem rfl ?_; first | (refine M.at_load 89 rfl ?_; first | (refine M.load_cell_m HM rfl 89 _ rfl 0 _ _ _ _ _ rfl rfl rfl (by kernel_rfl) (by kernel_rfl) ?_; go_simp)) | (refine M.at_store 25 rfl ?_; first | (refine M.store_cell_m HM rfl 25 _ _ rfl 2 g q.toNat _ cs (.int .u64 v) rfl rfl rfl (by kernel_rfl) rfl HC.out ?_; clear HM; intro w_ HM; (try simp only [List.set_cons_zero, List.set_cons_succ] at HM); go_simp) | (refine M.store_cell_m HM rfl 25 _ _ rfl 0 _ _ _ _ _ rfl rfl rfl (by kernel_rfl) rfl (by simp) ?_; clear HM; intro w_ HM; (try simp only [M.nrm] at HM); go_simp)) | ((fail_if_success (refine M.lit_t rfl ?_)); (fail_if_success (refine M.lit_f rfl ?_)); refine M.split_guard rfl rfl ?_ ?_ <;> (intro hg_; simp only [hg_]; try simp only [M.hgs] at hg_)))
    | (refine Mc.at_cmp _ rfl ?_; refine Mc.cmp_m rfl _ rfl _ _ _ rfl _ _ _ rfl rfl _ rfl ?_ ?_ <;> (intro hg_; try simp only [M.hgs] at hg_; first | (exfalso; first | omega | (simp at hg_; done)) | (go_simp)))
    | ((fail_if_success (refine M.lit_t rfl ?_)); (fail_if_success (refine M.lit_f rfl ?_)); refine M.split_guard rfl rfl ?_ ?_ <;> (intro hg_; simp only [hg_]; try simp only [M.hgs] at hg_)))
  all_goals
    go_end0
    exact ⟨_, _, rfl, ⟨rfl, rfl⟩, HM⟩
set_option maxHeartbeats 1000000 in
theorem put_zero (a : Int) (a0 : 0 ≤ a) (a1 : a < 18446744073709551616) (gM gm clock : Nat) (size : Value) (es : Array MapEntry) (l : List (Int × Value)) (he : Ents es.toList l) (hl : lookM l (a / 4096) = none) :
    Does Try.prog 38 #[.pointer (some ⟨gM, 0, none⟩), .int .u64 a, .int .u64 0] [(gM, row #[size, .map (some gm)] 91), (gm, .map es clock)]
    fun r L => r = .tuple #[] ∧ L = [(gM, row #[size, .map (some gm)] 91), (gm, .map es clock)] := by
  have CP := fun w => place_any a a0 a1 w
  have HE := Lib.hid he
  have hr : lookV (.pointer none) (lookM l (a / 4096)) = .tuple #[.pointer none, .bool false] := by rw [hl]; rfl
  have HR := Lib.hid hr; clear hr hl he
  generalize a / 4096 = p at CP HR
  generalize a % 4096 / 8 = q at CP
  intro w hH
  have HM := Mem.start hH
  go_enter Try.func38, Try.ntmps38
  go_wp2_with (first
    | (go_big_skip)
    | (refine Ma.at_lookup 89 rfl ?_; refine Ma.lookup_m HM rfl rfl 89 25 87 _ _ rfl (by kernel_rfl) (.pointer none) (by kernel_rfl) 1 gm clock es l rfl HE.out rfl p rfl _ HR.out ?_; go_simp)
    | (go_at_call 39; (with_reducible refine (M.call_pure (CP) HM).mono ?_); clear HM; rintro e w_ ⟨rfl, HM⟩; dsimp only)
    | (refine M.at_mem rfl ?_; first | (refine M.at_load 89 rfl ?_; first | (refine M.load_cell_m HM rfl 89 _ rfl 0 _ _ _ _ _ rfl rfl rfl (by kernel_rfl) (by kernel_rfl) ?_; go_simp)) | (refine M.at_store 25 rfl ?_; first | (refine M.store_cell_m HM rfl 25 _ _ rfl 0 _ _ _ _ _ rfl rfl rfl (by kernel_rfl) rfl (by simp) ?_; clear HM; intro w_ HM; (try simp only [M.nrm] at HM); go_simp)) | ((fail_if_success (refine M.lit_t rfl ?_)); (fail_if_success (refine M.lit_f rfl ?_)); refine M.split_guard rfl rfl ?_ ?_ <;> (intro hg_; simp only [hg_]; try simp only [M.hgs] at hg_)))
    | (refine Mc.at_cmp _ rfl ?_; refine Mc.cmp_m rfl _ rfl _ _ _ rfl _ _ _ rfl rfl _ rfl ?_ ?_ <;> (intro hg_; try simp only [M.hgs] at hg_; first | (exfalso; first | omega | (simp at hg_; done)) | (go_simp)))
    | ((fail_if_success (refine M.lit_t rfl ?_)); (fail_if_success (refine M.lit_f rfl ?_)); refine M.split_guard rfl rfl ?_ ?_ <;> (intro hg_; simp only [hg_]; try simp only [M.hgs] at hg_)))
  all_goals
    go_end0
    exact ⟨_, _, rfl, ⟨rfl, rfl⟩, HM⟩
set_option maxHeartbeats 1000000 in
theorem put_new (a v : Int) (a0 : 0 ≤ a) (a1 : a < 18446744073709551616) (hv : v ≠ 0) (gM gm clock : Nat) (size : Value) (es : Array MapEntry) (l : List (Int × Value)) (he : Ents es.toList l) (hl : lookM l (a / 4096) = none)
    (zs : Array Value) (hz : (Try.prog.info? 100).map (·.zero) = some (some (.agg zs))) (hzs : zs.size = 512) :
    Does Try.prog 38 #[.pointer (some ⟨gM, 0, none⟩), .int .u64 a, .int .u64 v] [(gM, row #[size, .map (some gm)] 91), (gm, .map es clock)]
    fun r L => r = .tuple #[] ∧ ∃ g, L = [(g, row (zs.setIfInBounds (a % 4096 / 8).toNat (.int .u64 v)) 100), (gM, row #[size, .map (some gm)] 91), (gm, .map (es.push { key := .int .u64 (a / 4096), val := .pointer (some ⟨g, 0, none⟩), born := clock }) (clock + 1))] := by
  have CP := fun w => place_any a a0 a1 w
  have HE := Lib.hid he
  have hr : lookV (.pointer none) (lookM l (a / 4096)) = .tuple #[.pointer none, .bool false] := by rw [hl]; rfl
  have q0 : 0 ≤ a % 4096 / 8 := by omega
  have q1 : a % 4096 / 8 < 512 := by omega
  have HR := Lib.hid hr; have HL := Lib.hid hl; clear hr hl he
  generalize a / 4096 = p at CP HR HL ⊢
  generalize a % 4096 / 8 = q at CP q0 q1 ⊢
  have HC := Lib.hid (show q.toNat < zs.size by omega); clear hzs
  have HZ := Lib.hid hz; clear hz
  intro w hH
  have HM := Mem.start hH
  go_enter Try.func38, Try.ntmps38
  go_wp2_with (first
    | (go_big_skip)
    | (refine Ma.at_lookup 89 rfl ?_; refine Ma.lookup_m HM rfl rfl 89 25 87 _ _ rfl (by kernel_rfl) (.pointer none) (by kernel_rfl) 1 gm clock es l rfl HE.out rfl p rfl _ HR.out ?_; go_simp)
    | (refine Sl.at_indexAddr 100 rfl ?_; refine Ma.indexArr_m rfl _ rfl 100 rfl 512 25 (by kernel_rfl) 1 (by kernel_rfl) gz_ 0 rfl .u64 q rfl (by omega) (by omega) q.toNat (by omega) ?_; go_simp)
    | (refine Ma.at_mapUpdate 89 rfl ?_; refine Ma.mapNew_m HM rfl 89 25 87 _ _ _ rfl (by kernel_rfl) 2 gm clock es l rfl HE.out rfl p rfl (.pointer (some ⟨gz_, 0, none⟩)) rfl HL.out ?_; clear HM; intro w_ HM; (try simp only [List.set_cons_zero, List.set_cons_succ] at HM); go_simp)
    | (go_at_call 39; (with_reducible refine (M.call_pure (CP) HM).mono ?_); clear HM; rintro e w_ ⟨rfl, HM⟩; dsimp only)
    | (refine M.at_mem rfl ?_; first | (refine M.at_load 89 rfl ?_; first | (refine M.load_cell_m HM rfl 89 _ rfl 0 _ _ _ _ _ rfl rfl rfl (by kernel_rfl) (by kernel_rfl) ?_; go_simp) | (refine M.load_cell_m HM rfl 89 _ rfl 1 _ _ _ _ _ rfl rfl rfl (by kernel_rfl) (by kernel_rfl) ?_; go_simp)) | (refine M.at_store 25 rfl ?_; first | (refine M.store_cell_m HM rfl 25 _ _ rfl 0 gz_ q.toNat _ zs (.int .u64 v) rfl rfl rfl (by kernel_rfl) rfl HC.out ?_; clear HM; intro w_ HM; (try simp only [List.set_cons_zero, List.set_cons_succ] at HM); go_simp) | (refine M.store_cell_m HM rfl 25 _ _ rfl 0 _ _ _ _ _ rfl rfl rfl (by kernel_rfl) rfl (by simp) ?_; clear HM; intro w_ HM; (try simp only [M.nrm] at HM); go_simp) | (refine M.store_cell_m HM rfl 25 _ _ rfl 1 _ _ _ _ _ rfl rfl rfl (by kernel_rfl) rfl (by simp) ?_; clear HM; intro w_ HM; (try simp only [M.nrm] at HM); go_simp)) | (refine M.at_alloc 100 rfl ?_; first | (refine M.alloc_m HM rfl rfl 100 rfl (.agg zs) HZ.out zs rfl ?_; clear HM; intro gz_ w_ HM; go_simp)) | ((fail_if_success (refine M.lit_t rfl ?_)); (fail_if_success (refine M.lit_f rfl ?_)); refine M.split_guard rfl rfl ?_ ?_ <;> (intro hg_; simp only [hg_]; try simp only [M.hgs] at hg_)))
    | (refine Mc.at_cmp _ rfl ?_; refine Mc.cmp_m rfl _ rfl _ _ _ rfl _ _ _ rfl rfl _ rfl ?_ ?_ <;> (intro hg_; try simp only [M.hgs] at hg_; first | (exfalso; first | omega | (simp at hg_; done)) | (go_simp)))
    | ((fail_if_success (refine M.lit_t rfl ?_)); (fail_if_success (refine M.lit_f rfl ?_)); refine M.split_guard rfl rfl ?_ ?_ <;> (intro hg_; simp only [hg_]; try simp only [M.hgs] at hg_)))
  all_goals
    go_end0
    exact ⟨_, _, rfl, ⟨rfl, gz_, rfl⟩, HM⟩
theorem put_any {size : Int} {f : Int → Int} {gM : Nat} {A : Hp} (h : Pm size f gM A) (a v : Int) (a0 : 0 ≤ a) (a2 : a < 4294967296) (a1 : a < 18446744073709551616) (h8 : a % 8 = 0) (v0 : 0 ≤ v) (v1 : v < 18446744073709551616) :
    Does Try.prog 38 #[.pointer (some ⟨gM, 0, none⟩), .int .u64 a, .int .u64 v] A fun r L => r = .tuple #[] ∧ Pm size (upd f (a / 8) v) gM L := by
  obtain ⟨gm, clock, es, S, hs, rfl⟩ := h
  obtain ⟨hw1, hw2⟩ := in_word a h8
  cases hl : lookM (keys S) (a / 4096) with
  | none =>
    have hno := lookM_none hl
    by_cases hv : v = 0
    · subst hv
      have h0 : f (a / 8) = 0 := hs.no _ (by rw [page_word]; exact hno)
      rw [upd_zero h0]
      exact weaken (frame (R := sheets S) (put_zero a a0 a1 gM gm clock _ es (keys S) hs.ents hl)) fun r L ⟨L1, ⟨h1, h2⟩, h3⟩ => ⟨h1, gm, clock, es, S, hs, by rw [h3, h2]; rfl⟩
    · obtain ⟨zs, hz1, hz2, hz3⟩ := zero_sheet
      refine perms (frame (R := sheets S) (put_new a v a0 a1 hv gM gm clock _ es (keys S) hs.ents hl zs hz1 hz2)) (List.Perm.refl _) fun r L ⟨L1, ⟨h1, g, h2⟩, h3⟩ => ⟨_, ?_, h1, gm, clock + 1, es.push { key := .int .u64 (a / 4096), val := .pointer (some ⟨g, 0, none⟩), born := clock }, S ++ [⟨a / 4096, g, zs.setIfInBounds (a % 4096 / 8).toNat (.int .u64 v)⟩], ?_, rfl⟩
      · rw [h3, h2]
        unfold sheets
        rw [List.map_append]
        simp only [List.cons_append, List.nil_append, List.map_cons, List.map_nil]
        refine (List.Perm.swap _ _ _).trans (List.Perm.cons _ ?_)
        refine (List.Perm.swap _ _ _).trans (List.Perm.cons _ ?_)
        exact (List.perm_append_comm (l₁ := [_]))
      · have := PmS.new hs (a / 4096) (by omega) (by omega) hno g zs hz2 hz3 (a % 4096 / 8).toNat hw2 v v0 v1
        rwa [hw1] at this
  | some x =>
    obtain ⟨i, s, hi, hp, rfl⟩ := lookM_some hl
    have hm := List.mem_of_getElem? hi
    have hP := ((sheets_at hi).cons (gm, Obj.map es clock)).cons (gM, row #[.int .u64 size, .map (some gm)] 91)
    refine perms (frame (R := (sheets S).eraseIdx i) (put_here a v a0 a1 gM gm clock s.g _ es (keys S) hs.ents hl s.cs (hs.size s hm))) hP fun r L ⟨L1, ⟨h1, h2⟩, h3⟩ => ⟨_, ?_, h1, gm, clock, es, S.set i { s with cs := s.cs.setIfInBounds (a % 4096 / 8).toNat (.int .u64 v) }, ?_, rfl⟩
    · rw [h3, h2]
      refine List.Perm.cons _ (List.Perm.cons _ ?_)
      have hlt := (List.getElem?_eq_some_iff.1 hi).1
      have hi2 : (S.set i { s with cs := s.cs.setIfInBounds (a % 4096 / 8).toNat (.int .u64 v) })[i]? = some { s with cs := s.cs.setIfInBounds (a % 4096 / 8).toNat (.int .u64 v) } := by simp [hlt]
      have := (sheets_at hi2).symm
      have e : (sheets (S.set i { s with cs := s.cs.setIfInBounds (a % 4096 / 8).toNat (.int .u64 v) })).eraseIdx i = (sheets S).eraseIdx i := by
        unfold sheets
        rw [List.map_set, List.eraseIdx_set_eq]
      rw [e] at this
      exact this
    · have := PmS.hit hs hi (a % 4096 / 8).toNat hw2 v v0 v1
      rwa [show s.p * 512 + ((a % 4096 / 8).toNat : Int) = a / 8 by rw [hp]; exact hw1] at this
/-- What Write leaves. -/
def wrF (size : Int) (f : Int → Int) (a v : Int) : Int → Int := if errV size a = 0 then upd f (a / 8) v else f
theorem may_pm {size : Int} {f : Int → Int} {gM : Nat} {A : Hp} (h : Pm size f gM A) (a : Int) (a0 : 0 ≤ a) (a1 : a < 18446744073709551616) : Does Try.prog 37 #[.pointer (some ⟨gM, 0, none⟩), .int .u64 a] A fun r L => r = .int .i64 (errV size a) ∧ L = A := by
  obtain ⟨gm, clock, es, S, hs, rfl⟩ := h
  exact weaken (frame (R := (gm, .map es clock) :: sheets S) (may_any size a a0 a1 gM (.map (some gm)))) fun r L ⟨L1, ⟨h1, h2⟩, h3⟩ => ⟨h1, by rw [h3, h2]; rfl⟩
set_option maxHeartbeats 1000000 in
theorem write_any {size : Int} {f : Int → Int} {gM : Nat} {A : Hp} (h : Pm size f gM A) (a v : Int) (a0 : 0 ≤ a) (a1 : a < 18446744073709551616) (v0 : 0 ≤ v) (v1 : v < 18446744073709551616) :
    Does Try.prog 16 #[.pointer (some ⟨gM, 0, none⟩), .int .u64 a, .int .u64 v] A fun r L => r = .int .i64 (errV size a) ∧ Pm size (wrF size f a v) gM L := by
  have CM := may_pm h a a0 a1
  by_cases he : errV size a = 0
  · have hw : wrF size f a v = upd f (a / 8) v := by unfold wrF; rw [if_pos he]
    have hmost : size ≤ 4294967296 := by obtain ⟨_, _, _, _, hs, -⟩ := h; exact hs.most
    have CP := put_any h a v a0 (Int.lt_of_lt_of_le (errV_zero he).2 hmost) a1 (errV_zero he).1 v0 v1
    rw [hw]
    rw [he] at CM ⊢
    generalize upd f (a / 8) v = f' at CP ⊢
    intro w hH
    have HM := Mem.start hH
    go_enter Try.func16, Try.ntmps16
    go_wp2_with (first
      | (go_big_skip)
      | (go_at_call 37; (with_reducible refine (M.Does.tail [] CM HM).mono ?_); clear HM; rintro e w_ ⟨v_, L_, rfl, ⟨rfl, rfl⟩, HM⟩; dsimp only)
      | (go_at_call 38; (with_reducible refine (M.Does.tail [] CP HM).mono ?_); clear HM; rintro e w_ ⟨v_, L_, rfl, ⟨rfl, HP⟩, HM⟩; dsimp only)
      | (refine Mc.at_cmp _ rfl ?_; refine Mc.cmp_m rfl _ rfl _ _ _ rfl _ _ _ rfl rfl _ rfl ?_ ?_ <;> (intro hg_; try simp only [M.hgs] at hg_; first | (exfalso; first | omega | (simp at hg_; done)) | (go_simp)))
      | ((fail_if_success (refine M.lit_t rfl ?_)); (fail_if_success (refine M.lit_f rfl ?_)); refine M.split_guard rfl rfl ?_ ?_ <;> (intro hg_; simp only [hg_]; try simp only [M.hgs] at hg_)))
    all_goals
      go_ret
      exact ⟨_, _, rfl, ⟨rfl, HP⟩, HM⟩
  · have hw : wrF size f a v = f := by unfold wrF; rw [if_neg he]
    rw [hw]
    generalize errV size a = e at CM he ⊢
    intro w hH
    have HM := Mem.start hH
    go_enter Try.func16, Try.ntmps16
    go_wp2_with (first
      | (go_big_skip)
      | (go_at_call 37; (with_reducible refine (M.Does.tail [] CM HM).mono ?_); clear HM; rintro e w_ ⟨v_, L_, rfl, ⟨rfl, rfl⟩, HM⟩; dsimp only)
      | (refine Mc.at_cmp _ rfl ?_; refine Mc.cmp_m rfl _ rfl _ _ _ rfl _ _ _ rfl rfl _ rfl ?_ ?_ <;> (intro hg_; try simp only [M.hgs] at hg_; first | (exfalso; first | omega | (simp at hg_; done)) | (go_simp)))
      | ((fail_if_success (refine M.lit_t rfl ?_)); (fail_if_success (refine M.lit_f rfl ?_)); refine M.split_guard rfl rfl ?_ ?_ <;> (intro hg_; simp only [hg_]; try simp only [M.hgs] at hg_)))
    all_goals
      go_ret
      exact ⟨_, _, rfl, ⟨rfl, h⟩, HM⟩
/-- May a memory have a size? -/
def sizeOk (size : Int) : Bool := decide (65536 ≤ size) && (decide (size ≤ 4294967296) && decide (size % 4096 = 0))
theorem al12 (x : Int) : al x 12 = decide (x % 4096 = 0) := rfl
set_option maxHeartbeats 1000000 in
theorem new_any (size : Int) (s0 : 0 ≤ size) (s1 : size < 18446744073709551616) (h : sizeOk size = true) (w : World) : Calls Try.prog 22 #[.int .u64 size] w (Ans w [] fun v L => ∃ g, v = .tuple #[.pointer (some ⟨g, 0, none⟩), .int .i64 0] ∧ Pm size (fun _ => 0) g L) := by
  unfold sizeOk at h
  simp only [Bool.and_eq_true, decide_eq_true_eq] at h
  obtain ⟨h1, h2, h3⟩ := h
  have CA := fun w => aligned_any size 12 s0 s1 w
  rw [al12, decide_eq_true h3] at CA
  clear h3
  have HZ := Lib.hid h2
  have HM := Mem.nil w
  go_enter Try.func22, Try.ntmps22
  go_wp2_with (first
    | (go_big_skip)
    | (refine Ma.at_makeMap 89 rfl ?_; refine Ma.makeMap_m HM rfl rfl 89 rfl ?_; clear HM; intro gm_ w_ HM; go_simp)
    | (go_at_call 24; (with_reducible refine (M.call_pure (CA) HM).mono ?_); clear HM; rintro e w_ ⟨rfl, HM⟩; dsimp only)
    | (refine M.at_mem rfl ?_; first | (refine M.at_box 91 rfl ?_; first | (refine M.box_m HM rfl rfl 91 _ rfl _ rfl ?_; clear HM; intro g_ w_ HM; go_simp)) | ((fail_if_success (refine M.lit_t rfl ?_)); (fail_if_success (refine M.lit_f rfl ?_)); refine M.split_guard rfl rfl ?_ ?_ <;> (intro hg_; simp only [hg_]; try simp only [M.hgs] at hg_)))
    | (refine Mc.at_cmp _ rfl ?_; refine Mc.cmp_m rfl _ rfl _ _ _ rfl _ _ _ rfl rfl _ rfl ?_ ?_ <;> (intro hg_; try simp only [M.hgs] at hg_; first | (exfalso; first | omega | (simp at hg_; done)) | (go_simp)))
    | ((fail_if_success (refine M.lit_t rfl ?_)); (fail_if_success (refine M.lit_f rfl ?_)); refine M.split_guard rfl rfl ?_ ?_ <;> (intro hg_; simp only [hg_]; try simp only [M.hgs] at hg_)))
  all_goals
    go_ret2
    refine Ans.mk ⟨_, rfl, gm_, 0, #[], [], ⟨rfl, List.nodup_nil, by simp, by simp, fun _ _ => rfl, (fun _ => by decide), ⟨by simp, by simp⟩, by simp, HZ.out⟩, rfl⟩ HM
set_option maxHeartbeats 1000000 in
theorem new_no (size : Int) (s0 : 0 ≤ size) (s1 : size < 18446744073709551616) (h : sizeOk size = false) (w : World) : Calls Try.prog 22 #[.int .u64 size] w fun e w' => e = .returned (.tuple #[.pointer none, .int .i64 11]) ∧ Below w.heap.size w w' := by
  have CA := fun w => aligned_any size 12 s0 s1 w
  rw [al12] at CA
  have key : size < 65536 ∨ (65536 ≤ size ∧ 4294967296 < size) ∨ (65536 ≤ size ∧ size ≤ 4294967296 ∧ ¬ size % 4096 = 0) := by
    unfold sizeOk at h
    by_cases h1 : 65536 ≤ size
    · by_cases h2 : size ≤ 4294967296
      · simp [h1, h2] at h; omega
      · omega
    · omega
  have HM := Mem.nil w
  rcases key with h1 | ⟨h1, h2⟩ | ⟨h1, h2, h3⟩
  rotate_left 2
  · rw [decide_eq_false h3] at CA
    clear h h3
    go_enter Try.func22, Try.ntmps22
    go_wp2_with (first
      | (go_big_skip)
      | (go_at_call 24; (with_reducible refine (M.call_pure (CA) HM).mono ?_); clear HM; rintro e w_ ⟨rfl, HM⟩; dsimp only)
      | (refine M.at_mem rfl ?_; first | (refine M.at_box 91 rfl ?_; first | (refine M.box_m HM rfl rfl 91 _ rfl _ rfl ?_; clear HM; intro g_ w_ HM; go_simp)) | ((fail_if_success (refine M.lit_t rfl ?_)); (fail_if_success (refine M.lit_f rfl ?_)); refine M.split_guard rfl rfl ?_ ?_ <;> (intro hg_; simp only [hg_]; try simp only [M.hgs] at hg_)))
      | (refine Mc.at_cmp _ rfl ?_; refine Mc.cmp_m rfl _ rfl _ _ _ rfl _ _ _ rfl rfl _ rfl ?_ ?_ <;> (intro hg_; try simp only [M.hgs] at hg_; first | (exfalso; first | omega | (simp at hg_; done)) | (go_simp)))
      | ((fail_if_success (refine M.lit_t rfl ?_)); (fail_if_success (refine M.lit_f rfl ?_)); refine M.split_guard rfl rfl ?_ ?_ <;> (intro hg_; simp only [hg_]; try simp only [M.hgs] at hg_)))
    all_goals
      go_ret2
      exact ⟨rfl, HM.to_below⟩
  all_goals
    clear CA h
    go_enter Try.func22, Try.ntmps22
    go_wp2_with (first
      | (go_big_skip)
      | (refine M.at_mem rfl ?_; first | (refine M.at_box 91 rfl ?_; first | (refine M.box_m HM rfl rfl 91 _ rfl _ rfl ?_; clear HM; intro g_ w_ HM; go_simp)) | ((fail_if_success (refine M.lit_t rfl ?_)); (fail_if_success (refine M.lit_f rfl ?_)); refine M.split_guard rfl rfl ?_ ?_ <;> (intro hg_; simp only [hg_]; try simp only [M.hgs] at hg_)))
      | (refine Mc.at_cmp _ rfl ?_; refine Mc.cmp_m rfl _ rfl _ _ _ rfl _ _ _ rfl rfl _ rfl ?_ ?_ <;> (intro hg_; try simp only [M.hgs] at hg_; first | (exfalso; first | omega | (simp at hg_; done)) | (go_simp)))
      | ((fail_if_success (refine M.lit_t rfl ?_)); (fail_if_success (refine M.lit_f rfl ?_)); refine M.split_guard rfl rfl ?_ ?_ <;> (intro hg_; simp only [hg_]; try simp only [M.hgs] at hg_)))
    all_goals
      go_ret2
      exact ⟨rfl, HM.to_below⟩
end Go.Proofs.Ytndeaikmelpflaa.Yc
