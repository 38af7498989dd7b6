/- Slices of entries: Delete. -/
import Derived.Test.YtccbpcdepgnmgaaProg
import Derived.Test.YtccbpcdepgnmgaaTs
namespace Go.Proofs.Ytccbpcdepgnmgaa.Td
open Go.RowKit Go.Proofs.Ytccbpcdepgnmgaa.G Go.Proofs.Ytccbpcdepgnmgaa.B Go.Proofs.Ytccbpcdepgnmgaa.M Go.Proofs.Ytccbpcdepgnmgaa.Mv Go.Proofs.Ytccbpcdepgnmgaa.Sl Go.Proofs.Ytccbpcdepgnmgaa.Sm Go.Proofs.Ytccbpcdepgnmgaa.Sn Go.Proofs.Ytccbpcdepgnmgaa.Te Go.Proofs.Ytccbpcdepgnmgaa.Tp Go.Proofs.Ytccbpcdepgnmgaa.Tq Go.Proofs.Ytccbpcdepgnmgaa.Ts

set_option linter.unusedVariables false
set_option linter.unusedSimpArgs false
set_option maxRecDepth 100000
section
variable {P : Program} {ops : Array Oper} {o : Oper} {a : Act} {w0 : World} {M : List Nat} {L : Hp}
/-- Where a slice's rest begins. -/
def hiOff (cap l : Nat) : Nat := if cap = l then 0 else l * 10
theorem quiet_slice {K : Act → Prop} (ty e : TypeId) {x : Operand} {lo hi mx : Option Operand} (ho : o.op = .slice ty x lo hi mx) (hu : sliceB P ty e = true) (s : Nat) (hs : sizB P e s = true) (p : Option Addr) (n cap : Nat) (hx : a.eval x = .slice p n cap) (l h m : Nat)
    (hm : (mx.map a.eval = none ∧ m = cap) ∨ (∃ k, mx.map a.eval = some (.int k (m : Int)) ∧ m ≤ cap)) (hh : (hi.map a.eval = none ∧ mx.map a.eval = none ∧ h = n) ∨ (∃ k, hi.map a.eval = some (.int k (h : Int)) ∧ h ≤ m)) (hl : (lo.map a.eval = none ∧ l = 0) ∨ (∃ k, lo.map a.eval = some (.int k (l : Int)) ∧ l ≤ h))
    (r : Value) (hr : .slice (if m = l then p else p.map (·.add (l * s))) (h - l) (m - l) = r) (k : K (a.put o.dst r)) : o.quiet P a (Mq.Cl w0 M L) K :=
  quiet_run _ (fun u hm' => by
    unfold execOp
    simp only [ho, hx]
    simp [Instr.sliceAt, run_underlying (P := P) (sliceB_spec hu) u, run_sliceE hu hs p n cap _ _ _ l h m hm hh hl, hr]) k
theorem qat_slice (ty : TypeId) {x : Operand} {lo hi mx : Option Operand} {C : World → Prop} {T : Act → Prop} {rest : List Oper} (h : o.op = .slice ty x lo hi mx) (k : wpQuiet P ops C T (o :: rest) a) : wpQuiet P ops C T (o :: rest) a := k
end
theorem add_at (g off j : Nat) : (⟨g, off, none⟩ : Addr).add j = ⟨g, off + j, none⟩ := by unfold Addr.add; split <;> simp_all
theorem slice_low (g n cap h : Nat) : Value.slice (if cap = 0 then some (⟨g, 0, none⟩ : Addr) else (some (⟨g, 0, none⟩ : Addr)).map (·.add (0 * 10))) (h - 0) (cap - 0) = .slice (some ⟨g, 0, none⟩) h cap := by
  simp [add_at]
theorem slice_high (g n cap l : Nat) : Value.slice (if cap = l then some (⟨g, 0, none⟩ : Addr) else (some (⟨g, 0, none⟩ : Addr)).map (·.add (l * 10))) (n - l) (cap - l) = .slice (some ⟨g, hiOff cap l, none⟩) (n - l) (cap - l) := by
  unfold hiOff
  split <;> simp [add_at]
set_option maxHeartbeats 2000000 in
theorem delete_any (l : List E) (g n k cap i : Nat) (i1 i2 : Int) (cur : Array Value) (hR : Row l 0 cur) (hn : l.length = n) (hk : n = k + 1) (hc : n ≤ cap) (hcm : cap ≤ maxLen) (hcs : cur.size = cap * 10) (h1 : n ≤ 1000) (hi : i < n) (e1 : i1 = i) (e2 : i2 = i + 1) :
    Does Try.prog 30 #[.slice (some ⟨g, 0, none⟩) n cap, .int .i64 i1, .int .i64 i2] [(g, row cur 26)]
      fun r L => ∃ cur', r = .slice (some ⟨g, 0, none⟩) k cap ∧ cur'.size = cap * 10 ∧ Row (l.eraseIdx i) 0 cur' ∧ L = [(g, row cur' 26)] := by
  intro w hH
  have hz1 : Value.int .i64 i1 = .int .i64 ((i : Nat) : Int) := by rw [e1]
  have hz2 : Value.int .i64 i2 = .int .i64 ((i + 1 : Nat) : Int) := by rw [e2]; rfl
  have hne : ¬ i1 = i2 := by omega
  have hsrc : ∀ u M L, Mem w M L u → L[0]? = some (g, row cur 26) → ∀ j v, (flat (l.drop (i + 1)))[j]? = some v → u.cell? ((⟨g, hiOff cap (i + 1), none⟩ : Addr).add j) = some v := by
    intro u M L hu hL j v hj
    rw [add_at]
    by_cases hcc : cap = i + 1
    · rw [List.drop_eq_nil_of_le (by omega)] at hj
      simp [flat] at hj
    · unfold hiOff
      rw [if_neg hcc, blk_cell (hu.get 0 hL)]
      have := (hR.some (k := i + 1) (by omega)).cells hj
      simpa using this
  have hnl : (flat (l.drop (i + 1))).length = (n - (i + 1)) * 10 := by rw [flat_length, List.length_drop, hn]
  have hfit : i * 10 + (flat (l.drop (i + 1))).length ≤ cur.size := by rw [hnl]; omega
  have htk : (splice cur (i * 10) (flat (l.drop (i + 1)))).toList.take (k * 10) = flat (l.eraseIdx i) := by
    have := splice_take cur (i * 10) (flat (l.drop (i + 1))) hfit
    rw [hnl, show i * 10 + (n - (i + 1)) * 10 = k * 10 by omega] at this
    rw [this]
    have h2 := hR.take
    have h3 := congrArg (List.take (i * 10)) h2
    rw [List.take_take, show min (i * 10) (l.length * 10) = i * 10 by omega, flat_take] at h3
    rw [h3, ← flat_append, List.eraseIdx_eq_take_drop_succ]
  have hss : (splice cur (i * 10) (flat (l.drop (i + 1)))).size = cap * 10 := by rw [splice_size _ _ _ hfit, hcs]
  have HS := Lib.hid hsrc; have HNL := Lib.hid hnl; have HTK := Lib.hid htk; have HSS := Lib.hid hss; have HCS := Lib.hid hcs; have HZ1 := Lib.hid hz1; have HZ2 := Lib.hid hz2
  have HN := Lib.hid hn
  have HK := Lib.hid hk
  have hki : i + (n - (i + 1)) = k := by omega
  have HKI := Lib.hid hki
  have hroom : i + (n - (i + 1)) ≤ cap := by omega
  have HROOM := Lib.hid hroom
  clear hsrc hnl htk hss hcs hz1 hz2 hR hfit e1 e2 hn hki hroom
  have hcr : k * 10 + 1 * 10 ≤ cap * 10 := by omega
  have HCR := Lib.hid hcr; clear hcr
  have hkn : k < n := by omega
  have hrk : Value.slice (if cap = k then some (⟨g, 0, none⟩ : Addr) else (some (⟨g, 0, none⟩ : Addr)).map (·.add (k * 10))) (n - k) (cap - k) = .slice (some ⟨g, k * 10, none⟩) 1 (cap - k) := by
    rw [if_neg (by omega), hk, show k + 1 - k = 1 by omega]; simp [add_at]
  have HRK := Lib.hid hrk; clear hrk hk
  have HM := Mem.start hH
  have hnews1 := flat_one' (l.drop (i + 1))
  generalize flat (l.drop (i + 1)) = news at HS HNL HTK HSS hnews1
  have HN1 := Lib.hid hnews1; clear hnews1
  generalize hsp : splice cur (i * 10) news = cur1 at HTK HSS
  have HSP := Lib.hid hsp; clear hsp
  go_enter Try.func30, Try.ntmps30
  go_wp2_with (first
    | (refine Ts.at_slice 36 rfl ?_; first | (refine Ts.slice_m rfl _ rfl 36 26 rfl (by kernel_rfl) 10 (by kernel_rfl) (some ⟨g, 0, none⟩) n cap rfl i (i + 1) n (Or.inr ⟨_, rfl, by omega⟩) (Or.inr ⟨_, congrArg some HZ2.out, by omega⟩) (Or.inr ⟨_, congrArg some HZ1.out, by omega⟩) (.slice (some ⟨g, i * 10, none⟩) 1 (n - i)) (by rw [if_neg (by omega)]; simp [add_at]) ?_; go_simp) | (refine Ts.slice_m rfl _ rfl 36 26 rfl (by kernel_rfl) 10 (by kernel_rfl) (some ⟨g, 0, none⟩) k cap rfl k n cap (Or.inl ⟨rfl, rfl⟩) (Or.inr ⟨_, rfl, by omega⟩) (Or.inr ⟨_, rfl, by omega⟩) _ HRK.out ?_; go_simp))
    | (refine Sm.at_call_append rfl ?_; refine Sn.append_room_m HM rfl rfl _ _ 36 26 rfl 10 (by kernel_rfl) (by kernel_rfl) 0 g i cap cur rfl rfl HCS.out _ (n - (i + 1)) (cap - (i + 1)) rfl news HNL.out (fun u hu => HS.out u _ _ hu rfl) HN1.out HROOM.out k HKI.out ?_; clear HM; intro w_ HM; (try simp only [List.set_cons_zero, List.set_cons_succ] at HM); go_simp)
    | (refine Sn.at_clear rfl ?_; refine Sn.clear_m HM rfl _ 36 26 rfl 10 (by kernel_rfl) (by kernel_rfl) 0 g (k * 10) 1 (cap - k) _ rfl rfl (by rw [HSP.out, HSS.out]; exact HCR.out) ?_; clear HM; intro cur2_ w_ s1_ s2_ HM; go_simp)
    | (refine Go.Proofs.Ytccbpcdepgnmgaa.M.at_reg 5 ?_; refine Mq.region_tail_m (id := 5) 6 HM (by kernel_rfl) (by kernel_rfl) ?_; simp only [List.take_succ_cons, List.take_zero, List.drop_succ_cons, List.drop_zero]; (repeat (any_goals (first | go_big_quiet_skip | (refine Td.qat_slice 36 rfl ?_; go_big_quiet_want; refine Td.quiet_slice 36 26 rfl (by kernel_rfl) 10 (by kernel_rfl) (some ⟨g, 0, none⟩) n cap rfl 0 i cap (Or.inl ⟨rfl, rfl⟩) (Or.inr ⟨_, congrArg some HZ1.out, by omega⟩) (Or.inl ⟨rfl, rfl⟩) _ (slice_low g n cap i) ?_; simp only [Act.put, List.setIfInBounds_toArray, List.set_cons_zero, List.set_cons_succ]; go_big_quiet_on) | (refine Td.qat_slice 36 rfl ?_; go_big_quiet_want; refine Td.quiet_slice 36 26 rfl (by kernel_rfl) 10 (by kernel_rfl) (some ⟨g, 0, none⟩) n cap rfl (i + 1) n cap (Or.inl ⟨rfl, rfl⟩) (Or.inl ⟨rfl, rfl, rfl⟩) (Or.inr ⟨_, congrArg some HZ2.out, by omega⟩) _ (slice_high g n cap (i + 1)) ?_; simp only [Act.put, List.setIfInBounds_toArray, List.set_cons_zero, List.set_cons_succ]; go_big_quiet_on) | ((fail_if_success (refine Mq.qlit_t rfl ?_)); (fail_if_success (refine Mq.qlit_f rfl ?_)); refine Mq.qsplit rfl rfl ?_ ?_ <;> (intro hg_; simp only [hg_]; try simp only [Go.Proofs.Ytccbpcdepgnmgaa.M.hgs] at hg_)) | go_big_quiet_step (first | exact rfl)))); all_goals (refine Go.Proofs.Ytccbpcdepgnmgaa.G.wpQuiet_end ?_; clear HM; intro w_ HM))
    | (refine Mc.at_cmp _ rfl ?_; refine Mc.cmp_m rfl _ rfl _ _ _ rfl _ _ _ rfl rfl _ rfl ?_ ?_ <;> (intro hg_; try simp only [Go.Proofs.Ytccbpcdepgnmgaa.M.hgs] at hg_; first | (exfalso; first | omega | (simp at hg_; done)) | (go_simp)))
    | ((fail_if_success (refine Go.Proofs.Ytccbpcdepgnmgaa.M.lit_t rfl ?_)); (fail_if_success (refine Go.Proofs.Ytccbpcdepgnmgaa.M.lit_f rfl ?_)); refine Go.Proofs.Ytccbpcdepgnmgaa.M.split_guard rfl rfl ?_ ?_ <;> (intro hg_; simp only [hg_]; try simp only [Go.Proofs.Ytccbpcdepgnmgaa.M.hgs] at hg_)))
  all_goals
    go_ret
    refine ⟨_, _, rfl, ⟨cur2_, rfl, by rw [s1_, HSP.out, HSS.out], Row.of_take ?_, rfl⟩, HM⟩
    rw [List.length_eraseIdx, HN.out, if_pos hi, show n - 1 = k by have := HK.out; omega, s2_, HSP.out, HTK.out]
end Go.Proofs.Ytccbpcdepgnmgaa.Td
