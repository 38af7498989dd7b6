/- Slices of entries: slice expressions, Index, Contains, Clone. -/
import Derived.Test.YtccbpcdepgnmgaaProg
import Derived.Lib.SliceRun
import Derived.Test.YtccbpcdepgnmgaaTq
namespace Go.Proofs.Ytccbpcdepgnmgaa.Ts
open Go.RowKit Go.Proofs.Ytccbpcdepgnmgaa.G Go.Proofs.Ytccbpcdepgnmgaa.B Go.Proofs.Ytccbpcdepgnmgaa.M Go.Proofs.Ytccbpcdepgnmgaa.Mv Go.Proofs.Ytccbpcdepgnmgaa.Sl Go.Proofs.Ytccbpcdepgnmgaa.Sm Go.Proofs.Ytccbpcdepgnmgaa.Sn Go.Proofs.Ytccbpcdepgnmgaa.Te Go.Proofs.Ytccbpcdepgnmgaa.Tp Go.Proofs.Ytccbpcdepgnmgaa.Tq

set_option linter.unusedVariables false
set_option linter.unusedSimpArgs false
set_option maxRecDepth 100000
section
variable {P : Program} {ops : Array Oper} {rest : List Oper} {o : Oper} {a : Act} {Q : Exit → Act → World → Prop} {W w0 : World} {M : List Nat} {L : Hp}
theorem run_sliceE {ty e : TypeId} {s : Nat} (hu : sliceB P ty e = true) (hs : sizB P e s = true) (p : Option Addr) (n cap : Nat) (low high max : Option Value) (l h m : Nat)
    (hm : (max = none ∧ m = cap) ∨ (∃ k, max = some (.int k (m : Int)) ∧ m ≤ cap)) (hh : (high = none ∧ max = none ∧ h = n) ∨ (∃ k, high = some (.int k (h : Int)) ∧ h ≤ m)) (hl : (low = none ∧ l = 0) ∨ (∃ k, low = some (.int k (l : Int)) ∧ l ≤ h)) :
    (Instr.slice ty (.slice p n cap) low high max).run P W = .ok (.slice (if m = l then p else p.map (·.add (l * s))) (h - l) (m - l)) W := by
  have hq : (underlying ty).run P W = .ok (.slice e) W := run_underlying (sliceB_spec hu) W
  have hsz : (sizeOf e).run P W = .ok s W := by
    have := sizB_spec hs
    cases hq : P.info? e with
    | none => simp [hq] at this
    | some i => simp [hq] at this; simp [sizeOf, typeInfo, hq, this]
  rcases hm with ⟨rfl, rfl⟩ | ⟨k1, rfl, hm⟩ <;> rcases hh with ⟨rfl, h0, rfl⟩ | ⟨k2, rfl, hh⟩ <;> rcases hl with ⟨rfl, rfl⟩ | ⟨k3, rfl, hl⟩ <;>
    first
    | (cases h0; done)
    | simp [Instr.slice, Instr.sliceBounds, Instr.sliceBound, asIntOf, hq, hsz, *]
theorem slice_m (hw : Region.wanted o (yielded ops a.tmps) = true) (d : Tmp) (hd : o.dst = some d) (ty e : TypeId) {x : Operand} {lo hi mx : Option Operand} (ho : o.op = .slice ty x lo hi mx) (hu : sliceB P ty e = true) (s : Nat) (hs : sizB P e s = true) (p : Option Addr) (n cap : Nat) (hx : a.eval x = .slice p n cap) (l h m : Nat)
    (hm : (mx.map a.eval = none ∧ m = cap) ∨ (∃ k, mx.map a.eval = some (.int k (m : Int)) ∧ m ≤ cap)) (hh : (hi.map a.eval = none ∧ mx.map a.eval = none ∧ h = n) ∨ (∃ k, hi.map a.eval = some (.int k (h : Int)) ∧ h ≤ m)) (hl : (lo.map a.eval = none ∧ l = 0) ∨ (∃ k, lo.map a.eval = some (.int k (l : Int)) ∧ l ≤ h))
    (r : Value) (hr : .slice (if m = l then p else p.map (·.add (l * s))) (h - l) (m - l) = r)
    (k : wpList P ops Q rest (a.put (some d) r) W) : wpList P ops Q (o :: rest) a W :=
  (outs_run (N := fun v w => v = r ∧ w = W) (w1 := W) (v := r) (by
    unfold execOp
    simp only [ho, hx]
    simp [Instr.sliceAt, run_underlying (P := P) (sliceB_spec hu) W, run_sliceE hu hs p n cap _ _ _ l h m hm hh hl, hr]) ⟨rfl, rfl⟩).ev hw fun _ _ ⟨e1, e2⟩ => by
    subst e1 e2; rw [hd]; exact k
theorem at_slice (ty : TypeId) {x : Operand} {lo hi mx : Option Operand} (h : o.op = .slice ty x lo hi mx) (k : wpList P ops Q (o :: rest) a W) : wpList P ops Q (o :: rest) a W := k
end
section
variable {P : Program} {ops : Array Oper} {o : Oper} {a : Act} {w0 : World} {M : List Nat} {L : Hp}
theorem quiet_eqE {K : Act → Prop} {op : BinOp} {t yt : TypeId} {x y : Operand} (ho : o.op = .binOp op t x y yt) (hT : EqT P t) {e f : E} (hx : a.eval x = .agg e.cells) (hy : a.eval y = .agg f.cells) {b : Bool} (hb : eqV op (decide (e = f)) = some b) (h : K (a.put o.dst (.bool b))) : o.quiet P a (Mq.Cl w0 M L) K :=
  quiet_run _ (fun u hm => run_eqE ho hT hx hy hb) h
theorem qat_bin (op : BinOp) {xt yt : TypeId} {x y : Operand} {C : World → Prop} {T : Act → Prop} {rest : List Oper} (h : o.op = .binOp op xt x y yt) (k : wpQuiet P ops C T (o :: rest) a) : wpQuiet P ops C T (o :: rest) a := k
end
set_option maxHeartbeats 1000000 in
theorem index_any (l : List E) (e : E) (g n cap : Nat) (cur : Array Value) (hR : Row l 0 cur) (hn : l.length = n) (h1 : n ≤ 1000) : Does Try.prog 48 #[.slice (some ⟨g, 0, none⟩) n cap, .agg e.cells] [(g, row cur 26)]
    fun r L => (∃ i : Int, r = .int .i64 i ∧ (0 ≤ i ↔ e ∈ l)) ∧ L = [(g, row cur 26)] := by
  intro w hH
  have HM := Mem.start hH
  have HR := Lib.hid hR; clear hR
  go_enter Try.func48, Try.ntmps48
  go_wp2_with (first
    | (refine Go.Proofs.Ytccbpcdepgnmgaa.M.at_reg 4 ?_; refine Mq.region_m (id := 4) HM (by kernel_rfl) (by kernel_rfl) ?_; (repeat (any_goals (first | go_big_quiet_skip | (refine Mq.qat_load 26 rfl ?_; go_big_quiet_want; first | (refine Mq.quiet_load_row 26 _ rfl 0 _ _ _ rfl rfl (by kernel_rfl) (by kernel_rfl) ?_; simp only [Act.put, List.setIfInBounds_toArray, List.set_cons_zero, List.set_cons_succ]; go_big_quiet_on) | (refine Mq.quiet_load_row 26 _ rfl 1 _ _ _ rfl rfl (by kernel_rfl) (by kernel_rfl) ?_; simp only [Act.put, List.setIfInBounds_toArray, List.set_cons_zero, List.set_cons_succ]; go_big_quiet_on)) | ((fail_if_success (refine Mq.qlit_t rfl ?_)); (fail_if_success (refine Mq.qlit_f rfl ?_)); refine Mq.qsplit rfl rfl ?_ ?_ <;> (intro hg_; simp only [hg_]; try simp only [Go.Proofs.Ytccbpcdepgnmgaa.M.hgs] at hg_)) | go_big_quiet_step (first | exact rfl)))); all_goals (refine Go.Proofs.Ytccbpcdepgnmgaa.G.wpQuiet_end ?_; clear HM; intro w_ HM))
    | (refine Go.Proofs.Ytccbpcdepgnmgaa.M.at_mem rfl ?_; first | (refine Go.Proofs.Ytccbpcdepgnmgaa.M.at_load 26 rfl ?_; first | (refine Go.Proofs.Ytccbpcdepgnmgaa.M.load_row_m HM rfl 26 _ rfl 0 _ _ _ rfl rfl (by kernel_rfl) (by kernel_rfl) ?_; go_simp) | (refine Go.Proofs.Ytccbpcdepgnmgaa.M.load_row_m HM rfl 26 _ rfl 1 _ _ _ rfl rfl (by kernel_rfl) (by kernel_rfl) ?_; go_simp)) | (refine Go.Proofs.Ytccbpcdepgnmgaa.M.at_box 26 rfl ?_; first | (refine Go.Proofs.Ytccbpcdepgnmgaa.M.box_m HM rfl rfl 26 _ rfl _ rfl ?_; clear HM; intro g_ w_ HM; go_simp)) | ((fail_if_success (refine Go.Proofs.Ytccbpcdepgnmgaa.M.lit_t rfl ?_)); (fail_if_success (refine Go.Proofs.Ytccbpcdepgnmgaa.M.lit_f rfl ?_)); refine Go.Proofs.Ytccbpcdepgnmgaa.M.split_guard rfl rfl ?_ ?_ <;> (intro hg_; simp only [hg_]; try simp only [Go.Proofs.Ytccbpcdepgnmgaa.M.hgs] at hg_)))
    | ((fail_if_success (refine Go.Proofs.Ytccbpcdepgnmgaa.M.lit_t rfl ?_)); (fail_if_success (refine Go.Proofs.Ytccbpcdepgnmgaa.M.lit_f rfl ?_)); refine Go.Proofs.Ytccbpcdepgnmgaa.M.split_guard rfl rfl ?_ ?_ <;> (intro hg_; simp only [hg_]; try simp only [Go.Proofs.Ytccbpcdepgnmgaa.M.hgs] at hg_)))
  go_loopw [8] (fun iv wr => ∃ k : Nat, k ≤ n ∧ iv = .int .i64 k ∧ (∀ j, j < k → ¬ l[j]? = some e) ∧ Mem w [g] _ wr) (fun iv _ => n - (intOf iv).toNat)
  case atStart => exact ⟨0, by omega, rfl, fun j hj => absurd hj (Nat.not_lt_zero _), HM⟩
  case round =>
    clear HM
    obtain ⟨k, k19, rfl, hno, HM⟩ := hrel
    by_cases hlt : k < n
    · obtain ⟨x, hx⟩ : ∃ x, l[k]? = some x := ⟨_, List.getElem?_eq_getElem (by omega)⟩
      have hg := HR.out.get hx
      have hsz := HR.out.2
      rw [Nat.zero_add] at hg
      have HG := Lib.hid hg; clear hg
      have hk1 : (k : Int) < n := by omega
      have hn1 : (n : Int) ≤ 1000 := by omega
      have hoff : k * 10 + 10 ≤ cur.size := by omega
      have HOFF := Lib.hid hoff; clear hoff hsz
      by_cases hxe : e = x
      · have hb : eqV .eql (decide (e = x)) = some true := by simp [eqV, hxe]
        have hm : e ∈ l := by rw [hxe]; exact List.mem_of_getElem? hx
        have HB := Lib.hid hb; have HX := Lib.hid hm; clear hb hm hx hxe hno
        go_wp2_with (first
          | (refine Go.Proofs.Ytccbpcdepgnmgaa.M.at_reg 4 ?_; refine Mq.region_m (id := 4) HM (by kernel_rfl) (by kernel_rfl) ?_; (repeat (any_goals (first | go_big_quiet_skip | (refine Sm.qat_indexAddr 36 rfl ?_; go_big_quiet_want; refine Sm.quiet_indexAddr_own 36 rfl 26 (by kernel_rfl) 10 (by kernel_rfl) g 0 n cap rfl .i64 (k : Int) rfl (by omega) (by omega) (k * 10) (by omega) ?_; simp only [Act.put, List.setIfInBounds_toArray, List.set_cons_zero, List.set_cons_succ]; go_big_quiet_on) | (refine Ts.qat_bin .eql rfl ?_; go_big_quiet_want; refine Ts.quiet_eqE rfl Te.eqT1 rfl rfl HB.out ?_; simp only [Act.put, List.setIfInBounds_toArray, List.set_cons_zero, List.set_cons_succ]; go_big_quiet_on) | (refine Mq.qat_load 26 rfl ?_; go_big_quiet_want; first | (refine Sn.quiet_load_part 26 _ rfl 1 g (k * 10) 10 _ cur rfl rfl HOFF.out x.cells HG.out (by kernel_rfl) (by kernel_rfl) ?_; simp only [Act.put, List.setIfInBounds_toArray, List.set_cons_zero, List.set_cons_succ]; go_big_quiet_on) | (refine Mq.quiet_load_row 26 _ rfl 0 _ _ _ rfl rfl (by kernel_rfl) (by kernel_rfl) ?_; simp only [Act.put, List.setIfInBounds_toArray, List.set_cons_zero, List.set_cons_succ]; go_big_quiet_on)) | ((fail_if_success (refine Mq.qlit_t rfl ?_)); (fail_if_success (refine Mq.qlit_f rfl ?_)); refine Mq.qsplit rfl rfl ?_ ?_ <;> (intro hg_; simp only [hg_]; try simp only [Go.Proofs.Ytccbpcdepgnmgaa.M.hgs] at hg_)) | go_big_quiet_step (first | exact rfl)))); all_goals (refine Go.Proofs.Ytccbpcdepgnmgaa.G.wpQuiet_end ?_; clear HM; intro w_ HM))
          | (refine Go.Proofs.Ytccbpcdepgnmgaa.M.at_mem rfl ?_; first | (refine Go.Proofs.Ytccbpcdepgnmgaa.M.at_load 26 rfl ?_; first | (refine Go.Proofs.Ytccbpcdepgnmgaa.M.load_row_m HM rfl 26 _ rfl 0 _ _ _ rfl rfl (by kernel_rfl) (by kernel_rfl) ?_; go_simp)) | (refine Go.Proofs.Ytccbpcdepgnmgaa.M.at_box 26 rfl ?_; first | (refine Go.Proofs.Ytccbpcdepgnmgaa.M.box_m HM rfl rfl 26 _ rfl _ rfl ?_; clear HM; intro g_ w_ HM; go_simp)) | ((fail_if_success (refine Go.Proofs.Ytccbpcdepgnmgaa.M.lit_t rfl ?_)); (fail_if_success (refine Go.Proofs.Ytccbpcdepgnmgaa.M.lit_f rfl ?_)); refine Go.Proofs.Ytccbpcdepgnmgaa.M.split_guard rfl rfl ?_ ?_ <;> (intro hg_; simp only [hg_]; try simp only [Go.Proofs.Ytccbpcdepgnmgaa.M.hgs] at hg_)))
          | (refine Mc.at_cmp _ rfl ?_; refine Mc.cmp_m rfl _ rfl _ _ _ rfl _ _ _ rfl rfl _ rfl ?_ ?_ <;> (intro hg_; try simp only [Go.Proofs.Ytccbpcdepgnmgaa.M.hgs] at hg_; first | (exfalso; first | omega | (simp at hg_; done)) | (go_simp)))
          | ((fail_if_success (refine Go.Proofs.Ytccbpcdepgnmgaa.M.lit_t rfl ?_)); (fail_if_success (refine Go.Proofs.Ytccbpcdepgnmgaa.M.lit_f rfl ?_)); refine Go.Proofs.Ytccbpcdepgnmgaa.M.split_guard rfl rfl ?_ ?_ <;> (intro hg_; simp only [hg_]; try simp only [Go.Proofs.Ytccbpcdepgnmgaa.M.hgs] at hg_)))
        all_goals
          go_ret
          exact ⟨_, _, rfl, ⟨⟨k, rfl, by constructor <;> intro _ <;> first | exact HX.out | omega⟩, rfl⟩, HM.drop (A := [_])⟩
      · have hb : eqV .eql (decide (e = x)) = some false := by simp [eqV, hxe]
        have hno' : ∀ j, j < k + 1 → ¬ l[j]? = some e := fun j hj => by
          by_cases ej : j = k
          · subst ej; rw [hx]; intro h; exact hxe (Option.some.inj h).symm
          · exact hno j (by omega)
        have HB := Lib.hid hb; have HX := Lib.hid hno'; clear hb hno' hx hxe hno
        go_wp2_with (first
          | (refine Go.Proofs.Ytccbpcdepgnmgaa.M.at_reg 4 ?_; refine Mq.region_m (id := 4) HM (by kernel_rfl) (by kernel_rfl) ?_; (repeat (any_goals (first | go_big_quiet_skip | (refine Sm.qat_indexAddr 36 rfl ?_; go_big_quiet_want; refine Sm.quiet_indexAddr_own 36 rfl 26 (by kernel_rfl) 10 (by kernel_rfl) g 0 n cap rfl .i64 (k : Int) rfl (by omega) (by omega) (k * 10) (by omega) ?_; simp only [Act.put, List.setIfInBounds_toArray, List.set_cons_zero, List.set_cons_succ]; go_big_quiet_on) | (refine Ts.qat_bin .eql rfl ?_; go_big_quiet_want; refine Ts.quiet_eqE rfl Te.eqT1 rfl rfl HB.out ?_; simp only [Act.put, List.setIfInBounds_toArray, List.set_cons_zero, List.set_cons_succ]; go_big_quiet_on) | (refine Mq.qat_load 26 rfl ?_; go_big_quiet_want; first | (refine Sn.quiet_load_part 26 _ rfl 1 g (k * 10) 10 _ cur rfl rfl HOFF.out x.cells HG.out (by kernel_rfl) (by kernel_rfl) ?_; simp only [Act.put, List.setIfInBounds_toArray, List.set_cons_zero, List.set_cons_succ]; go_big_quiet_on) | (refine Mq.quiet_load_row 26 _ rfl 0 _ _ _ rfl rfl (by kernel_rfl) (by kernel_rfl) ?_; simp only [Act.put, List.setIfInBounds_toArray, List.set_cons_zero, List.set_cons_succ]; go_big_quiet_on)) | ((fail_if_success (refine Mq.qlit_t rfl ?_)); (fail_if_success (refine Mq.qlit_f rfl ?_)); refine Mq.qsplit rfl rfl ?_ ?_ <;> (intro hg_; simp only [hg_]; try simp only [Go.Proofs.Ytccbpcdepgnmgaa.M.hgs] at hg_)) | go_big_quiet_step (first | exact rfl)))); all_goals (refine Go.Proofs.Ytccbpcdepgnmgaa.G.wpQuiet_end ?_; clear HM; intro w_ HM))
          | (refine Go.Proofs.Ytccbpcdepgnmgaa.M.at_mem rfl ?_; first | (refine Go.Proofs.Ytccbpcdepgnmgaa.M.at_load 26 rfl ?_; first | (refine Go.Proofs.Ytccbpcdepgnmgaa.M.load_row_m HM rfl 26 _ rfl 0 _ _ _ rfl rfl (by kernel_rfl) (by kernel_rfl) ?_; go_simp)) | (refine Go.Proofs.Ytccbpcdepgnmgaa.M.at_box 26 rfl ?_; first | (refine Go.Proofs.Ytccbpcdepgnmgaa.M.box_m HM rfl rfl 26 _ rfl _ rfl ?_; clear HM; intro g_ w_ HM; go_simp)) | ((fail_if_success (refine Go.Proofs.Ytccbpcdepgnmgaa.M.lit_t rfl ?_)); (fail_if_success (refine Go.Proofs.Ytccbpcdepgnmgaa.M.lit_f rfl ?_)); refine Go.Proofs.Ytccbpcdepgnmgaa.M.split_guard rfl rfl ?_ ?_ <;> (intro hg_; simp only [hg_]; try simp only [Go.Proofs.Ytccbpcdepgnmgaa.M.hgs] at hg_)))
          | (refine Mc.at_cmp _ rfl ?_; refine Mc.cmp_m rfl _ rfl _ _ _ rfl _ _ _ rfl rfl _ rfl ?_ ?_ <;> (intro hg_; try simp only [Go.Proofs.Ytccbpcdepgnmgaa.M.hgs] at hg_; first | (exfalso; first | omega | (simp at hg_; done)) | (go_simp)))
          | ((fail_if_success (refine Go.Proofs.Ytccbpcdepgnmgaa.M.lit_t rfl ?_)); (fail_if_success (refine Go.Proofs.Ytccbpcdepgnmgaa.M.lit_f rfl ?_)); refine Go.Proofs.Ytccbpcdepgnmgaa.M.split_guard rfl rfl ?_ ?_ <;> (intro hg_; simp only [hg_]; try simp only [Go.Proofs.Ytccbpcdepgnmgaa.M.hgs] at hg_)))
        all_goals
          go_roundw
          case rel => exact ⟨k + 1, by omega, by first | rfl | (refine congrArg (fun z => Value.int .i64 z) ?_; omega), HX.out, HM⟩
          case measure => simp [intOf]; omega
    · obtain rfl : k = n := by omega
      have hm : ¬ e ∈ l := fun h => by
        obtain ⟨j, hj⟩ := List.mem_iff_getElem?.1 h
        exact hno j (by rw [← hn]; exact (List.getElem?_eq_some_iff.1 hj).1) hj
      have HX := Lib.hid hm; clear hm hno
      go_wp2_with (first
        | (refine Go.Proofs.Ytccbpcdepgnmgaa.M.at_reg 4 ?_; refine Mq.region_m (id := 4) HM (by kernel_rfl) (by kernel_rfl) ?_; (repeat (any_goals (first | go_big_quiet_skip | (refine Mq.qat_load 26 rfl ?_; go_big_quiet_want; first | (refine Mq.quiet_load_row 26 _ rfl 0 _ _ _ rfl rfl (by kernel_rfl) (by kernel_rfl) ?_; simp only [Act.put, List.setIfInBounds_toArray, List.set_cons_zero, List.set_cons_succ]; go_big_quiet_on)) | ((fail_if_success (refine Mq.qlit_t rfl ?_)); (fail_if_success (refine Mq.qlit_f rfl ?_)); refine Mq.qsplit rfl rfl ?_ ?_ <;> (intro hg_; simp only [hg_]; try simp only [Go.Proofs.Ytccbpcdepgnmgaa.M.hgs] at hg_)) | go_big_quiet_step (first | exact rfl)))); all_goals (refine Go.Proofs.Ytccbpcdepgnmgaa.G.wpQuiet_end ?_; clear HM; intro w_ HM))
        | (refine Go.Proofs.Ytccbpcdepgnmgaa.M.at_mem rfl ?_; first | (refine Go.Proofs.Ytccbpcdepgnmgaa.M.at_load 26 rfl ?_; first | (refine Go.Proofs.Ytccbpcdepgnmgaa.M.load_row_m HM rfl 26 _ rfl 0 _ _ _ rfl rfl (by kernel_rfl) (by kernel_rfl) ?_; go_simp)) | (refine Go.Proofs.Ytccbpcdepgnmgaa.M.at_box 26 rfl ?_; first | (refine Go.Proofs.Ytccbpcdepgnmgaa.M.box_m HM rfl rfl 26 _ rfl _ rfl ?_; clear HM; intro g_ w_ HM; go_simp)) | ((fail_if_success (refine Go.Proofs.Ytccbpcdepgnmgaa.M.lit_t rfl ?_)); (fail_if_success (refine Go.Proofs.Ytccbpcdepgnmgaa.M.lit_f rfl ?_)); refine Go.Proofs.Ytccbpcdepgnmgaa.M.split_guard rfl rfl ?_ ?_ <;> (intro hg_; simp only [hg_]; try simp only [Go.Proofs.Ytccbpcdepgnmgaa.M.hgs] at hg_)))
        | (refine Mc.at_cmp _ rfl ?_; refine Mc.cmp_m rfl _ rfl _ _ _ rfl _ _ _ rfl rfl _ rfl ?_ ?_ <;> (intro hg_; try simp only [Go.Proofs.Ytccbpcdepgnmgaa.M.hgs] at hg_; first | (exfalso; first | omega | (simp at hg_; done)) | (go_simp)))
        | ((fail_if_success (refine Go.Proofs.Ytccbpcdepgnmgaa.M.lit_t rfl ?_)); (fail_if_success (refine Go.Proofs.Ytccbpcdepgnmgaa.M.lit_f rfl ?_)); refine Go.Proofs.Ytccbpcdepgnmgaa.M.split_guard rfl rfl ?_ ?_ <;> (intro hg_; simp only [hg_]; try simp only [Go.Proofs.Ytccbpcdepgnmgaa.M.hgs] at hg_)))
      all_goals
        go_ret
        exact ⟨_, _, rfl, ⟨⟨-1, rfl, by constructor <;> intro h <;> first | exact absurd h HX.out | omega⟩, rfl⟩, HM.drop (A := [_])⟩
set_option maxHeartbeats 1000000 in
theorem contains_any (l : List E) (e : E) (g n cap : Nat) (cur : Array Value) (hR : Row l 0 cur) (hn : l.length = n) (h1 : n ≤ 1000) : Does Try.prog 29 #[.slice (some ⟨g, 0, none⟩) n cap, .agg e.cells] [(g, row cur 26)]
    fun r L => r = .bool (decide (e ∈ l)) ∧ L = [(g, row cur 26)] := by
  have CI := index_any l e g n cap cur hR hn h1
  intro w hH
  have HM := Mem.start hH
  go_enter Try.func29, Try.ntmps29
  go_wp2_with (first
    | (go_at_call 48; (with_reducible refine (Go.Proofs.Ytccbpcdepgnmgaa.M.Does.call (CI) HM (Go.Proofs.Ytccbpcdepgnmgaa.M.perm_at 1 rfl)).mono ?_); clear HM; rintro e w_ ⟨v_, L_, rfl, ⟨⟨i_, rfl, hi_⟩, rfl⟩, HM⟩; (try simp only [Go.Proofs.Ytccbpcdepgnmgaa.M.nrm] at HM); dsimp only)
    | (refine Go.Proofs.Ytccbpcdepgnmgaa.M.at_mem rfl ?_; first | (refine Go.Proofs.Ytccbpcdepgnmgaa.M.at_load 26 rfl ?_; first | (refine Go.Proofs.Ytccbpcdepgnmgaa.M.load_row_m HM rfl 26 _ rfl 0 _ _ _ rfl rfl (by kernel_rfl) (by kernel_rfl) ?_; go_simp) | (refine Go.Proofs.Ytccbpcdepgnmgaa.M.load_row_m HM rfl 26 _ rfl 1 _ _ _ rfl rfl (by kernel_rfl) (by kernel_rfl) ?_; go_simp)) | (refine Go.Proofs.Ytccbpcdepgnmgaa.M.at_box 26 rfl ?_; first | (refine Go.Proofs.Ytccbpcdepgnmgaa.M.box_m HM rfl rfl 26 _ rfl _ rfl ?_; clear HM; intro g_ w_ HM; go_simp)) | ((fail_if_success (refine Go.Proofs.Ytccbpcdepgnmgaa.M.lit_t rfl ?_)); (fail_if_success (refine Go.Proofs.Ytccbpcdepgnmgaa.M.lit_f rfl ?_)); refine Go.Proofs.Ytccbpcdepgnmgaa.M.split_guard rfl rfl ?_ ?_ <;> (intro hg_; simp only [hg_]; try simp only [Go.Proofs.Ytccbpcdepgnmgaa.M.hgs] at hg_)))
    | ((fail_if_success (refine Go.Proofs.Ytccbpcdepgnmgaa.M.lit_t rfl ?_)); (fail_if_success (refine Go.Proofs.Ytccbpcdepgnmgaa.M.lit_f rfl ?_)); refine Go.Proofs.Ytccbpcdepgnmgaa.M.split_guard rfl rfl ?_ ?_ <;> (intro hg_; simp only [hg_]; try simp only [Go.Proofs.Ytccbpcdepgnmgaa.M.hgs] at hg_)))
  all_goals
    go_ret
    refine ⟨_, _, rfl, ⟨congrArg Value.bool ?_, rfl⟩, HM.take (A := [_])⟩
    first | rfl | (rw [decide_eq_decide]; done) | (rw [decide_eq_decide]; simpa using hi_)
set_option maxHeartbeats 1000000 in
theorem contains_nil (e : E) (w : World) : Calls Try.prog 29 #[.slice none 0 0, .agg e.cells] w fun r w' => r = .returned (.bool false) ∧ Below w.heap.size w w' := by
  have CI : ∀ w, Calls Try.prog 48 #[.slice none 0 0, .agg e.cells] w fun r w' => r = .returned (.int .i64 (-1)) ∧ Below w.heap.size w w' := fun w => by
    have HM := Mem.nil w
    go_enter Try.func48, Try.ntmps48
    go_wp2_with (first
      | (refine Go.Proofs.Ytccbpcdepgnmgaa.M.at_reg 4 ?_; refine Mq.region_m (id := 4) HM (by kernel_rfl) (by kernel_rfl) ?_; (repeat (any_goals (first | go_big_quiet_skip | (refine Mq.qat_load 26 rfl ?_; go_big_quiet_want; first | (refine Mq.quiet_load_row 26 _ rfl 0 _ _ _ rfl rfl (by kernel_rfl) (by kernel_rfl) ?_; simp only [Act.put, List.setIfInBounds_toArray, List.set_cons_zero, List.set_cons_succ]; go_big_quiet_on) | (refine Mq.quiet_load_row 26 _ rfl 1 _ _ _ rfl rfl (by kernel_rfl) (by kernel_rfl) ?_; simp only [Act.put, List.setIfInBounds_toArray, List.set_cons_zero, List.set_cons_succ]; go_big_quiet_on)) | ((fail_if_success (refine Mq.qlit_t rfl ?_)); (fail_if_success (refine Mq.qlit_f rfl ?_)); refine Mq.qsplit rfl rfl ?_ ?_ <;> (intro hg_; simp only [hg_]; try simp only [Go.Proofs.Ytccbpcdepgnmgaa.M.hgs] at hg_)) | go_big_quiet_step (first | exact rfl)))); all_goals (refine Go.Proofs.Ytccbpcdepgnmgaa.G.wpQuiet_end ?_; clear HM; intro w_ HM))
      | (refine Go.Proofs.Ytccbpcdepgnmgaa.M.at_mem rfl ?_; first | (refine Go.Proofs.Ytccbpcdepgnmgaa.M.at_load 26 rfl ?_; first | (refine Go.Proofs.Ytccbpcdepgnmgaa.M.load_row_m HM rfl 26 _ rfl 0 _ _ _ rfl rfl (by kernel_rfl) (by kernel_rfl) ?_; go_simp) | (refine Go.Proofs.Ytccbpcdepgnmgaa.M.load_row_m HM rfl 26 _ rfl 1 _ _ _ rfl rfl (by kernel_rfl) (by kernel_rfl) ?_; go_simp)) | (refine Go.Proofs.Ytccbpcdepgnmgaa.M.at_box 26 rfl ?_; first | (refine Go.Proofs.Ytccbpcdepgnmgaa.M.box_m HM rfl rfl 26 _ rfl _ rfl ?_; clear HM; intro g_ w_ HM; go_simp)) | ((fail_if_success (refine Go.Proofs.Ytccbpcdepgnmgaa.M.lit_t rfl ?_)); (fail_if_success (refine Go.Proofs.Ytccbpcdepgnmgaa.M.lit_f rfl ?_)); refine Go.Proofs.Ytccbpcdepgnmgaa.M.split_guard rfl rfl ?_ ?_ <;> (intro hg_; simp only [hg_]; try simp only [Go.Proofs.Ytccbpcdepgnmgaa.M.hgs] at hg_)))
      | ((fail_if_success (refine Go.Proofs.Ytccbpcdepgnmgaa.M.lit_t rfl ?_)); (fail_if_success (refine Go.Proofs.Ytccbpcdepgnmgaa.M.lit_f rfl ?_)); refine Go.Proofs.Ytccbpcdepgnmgaa.M.split_guard rfl rfl ?_ ?_ <;> (intro hg_; simp only [hg_]; try simp only [Go.Proofs.Ytccbpcdepgnmgaa.M.hgs] at hg_)))
    go_loopw [8] (fun iv wr => iv = .int .i64 0 ∧ Mem w [] _ wr) (fun iv _ => 0)
    case atStart => exact ⟨rfl, HM⟩
    case round =>
      clear HM
      obtain ⟨rfl, HM⟩ := hrel
      go_wp2_with (first
        | (refine Go.Proofs.Ytccbpcdepgnmgaa.M.at_reg 4 ?_; refine Mq.region_m (id := 4) HM (by kernel_rfl) (by kernel_rfl) ?_; (repeat (any_goals (first | go_big_quiet_skip | (refine Mq.qat_load 26 rfl ?_; go_big_quiet_want; first | (refine Mq.quiet_load_row 26 _ rfl 0 _ _ _ rfl rfl (by kernel_rfl) (by kernel_rfl) ?_; simp only [Act.put, List.setIfInBounds_toArray, List.set_cons_zero, List.set_cons_succ]; go_big_quiet_on)) | ((fail_if_success (refine Mq.qlit_t rfl ?_)); (fail_if_success (refine Mq.qlit_f rfl ?_)); refine Mq.qsplit rfl rfl ?_ ?_ <;> (intro hg_; simp only [hg_]; try simp only [Go.Proofs.Ytccbpcdepgnmgaa.M.hgs] at hg_)) | go_big_quiet_step (first | exact rfl)))); all_goals (refine Go.Proofs.Ytccbpcdepgnmgaa.G.wpQuiet_end ?_; clear HM; intro w_ HM))
        | (refine Go.Proofs.Ytccbpcdepgnmgaa.M.at_mem rfl ?_; first | (refine Go.Proofs.Ytccbpcdepgnmgaa.M.at_load 26 rfl ?_; first | (refine Go.Proofs.Ytccbpcdepgnmgaa.M.load_row_m HM rfl 26 _ rfl 0 _ _ _ rfl rfl (by kernel_rfl) (by kernel_rfl) ?_; go_simp)) | (refine Go.Proofs.Ytccbpcdepgnmgaa.M.at_box 26 rfl ?_; first | (refine Go.Proofs.Ytccbpcdepgnmgaa.M.box_m HM rfl rfl 26 _ rfl _ rfl ?_; clear HM; intro g_ w_ HM; go_simp)) | ((fail_if_success (refine Go.Proofs.Ytccbpcdepgnmgaa.M.lit_t rfl ?_)); (fail_if_success (refine Go.Proofs.Ytccbpcdepgnmgaa.M.lit_f rfl ?_)); refine Go.Proofs.Ytccbpcdepgnmgaa.M.split_guard rfl rfl ?_ ?_ <;> (intro hg_; simp only [hg_]; try simp only [Go.Proofs.Ytccbpcdepgnmgaa.M.hgs] at hg_)))
        | (refine Mc.at_cmp _ rfl ?_; refine Mc.cmp_m rfl _ rfl _ _ _ rfl _ _ _ rfl rfl _ rfl ?_ ?_ <;> (intro hg_; try simp only [Go.Proofs.Ytccbpcdepgnmgaa.M.hgs] at hg_; first | (exfalso; first | omega | (simp at hg_; done)) | (go_simp)))
        | ((fail_if_success (refine Go.Proofs.Ytccbpcdepgnmgaa.M.lit_t rfl ?_)); (fail_if_success (refine Go.Proofs.Ytccbpcdepgnmgaa.M.lit_f rfl ?_)); refine Go.Proofs.Ytccbpcdepgnmgaa.M.split_guard rfl rfl ?_ ?_ <;> (intro hg_; simp only [hg_]; try simp only [Go.Proofs.Ytccbpcdepgnmgaa.M.hgs] at hg_)))
      all_goals
        go_ret
        exact ⟨rfl, HM.none.to_below⟩
  have HM := Mem.nil w
  go_enter Try.func29, Try.ntmps29
  go_wp2_with (first
    | (go_at_call 48; (with_reducible refine (Go.Proofs.Ytccbpcdepgnmgaa.M.call_pure (CI) HM).mono ?_); clear HM; rintro e w_ ⟨rfl, HM⟩; dsimp only)
    | (refine Go.Proofs.Ytccbpcdepgnmgaa.M.at_mem rfl ?_; first | (refine Go.Proofs.Ytccbpcdepgnmgaa.M.at_load 26 rfl ?_; first | (refine Go.Proofs.Ytccbpcdepgnmgaa.M.load_row_m HM rfl 26 _ rfl 0 _ _ _ rfl rfl (by kernel_rfl) (by kernel_rfl) ?_; go_simp) | (refine Go.Proofs.Ytccbpcdepgnmgaa.M.load_row_m HM rfl 26 _ rfl 1 _ _ _ rfl rfl (by kernel_rfl) (by kernel_rfl) ?_; go_simp)) | (refine Go.Proofs.Ytccbpcdepgnmgaa.M.at_box 26 rfl ?_; first | (refine Go.Proofs.Ytccbpcdepgnmgaa.M.box_m HM rfl rfl 26 _ rfl _ rfl ?_; clear HM; intro g_ w_ HM; go_simp)) | ((fail_if_success (refine Go.Proofs.Ytccbpcdepgnmgaa.M.lit_t rfl ?_)); (fail_if_success (refine Go.Proofs.Ytccbpcdepgnmgaa.M.lit_f rfl ?_)); refine Go.Proofs.Ytccbpcdepgnmgaa.M.split_guard rfl rfl ?_ ?_ <;> (intro hg_; simp only [hg_]; try simp only [Go.Proofs.Ytccbpcdepgnmgaa.M.hgs] at hg_)))
    | ((fail_if_success (refine Go.Proofs.Ytccbpcdepgnmgaa.M.lit_t rfl ?_)); (fail_if_success (refine Go.Proofs.Ytccbpcdepgnmgaa.M.lit_f rfl ?_)); refine Go.Proofs.Ytccbpcdepgnmgaa.M.split_guard rfl rfl ?_ ?_ <;> (intro hg_; simp only [hg_]; try simp only [Go.Proofs.Ytccbpcdepgnmgaa.M.hgs] at hg_)))
  all_goals
    go_ret
    exact ⟨by first | rfl | simp, HM.none.to_below⟩
/-- A new slice of entries, and its block. -/
def NewE (l : List E) (v : Value) (L : Hp) : Prop := ∃ g cap cur, v = .slice (some ⟨g, 0, none⟩) l.length cap ∧ l.length ≤ cap ∧ cap ≤ maxLen ∧ cur.size = cap * 10 ∧ Row l 0 cur ∧ L = [(g, row cur 26)]
set_option maxHeartbeats 1000000 in
theorem clone_any (p : Addr) (l : List E) (c : Nat) (hm : l.length ≤ 1000) (w : World) (hc : ∀ j v, (flat l)[j]? = some v → w.cell? (p.add j) = some v) :
    Calls Try.prog 32 #[.slice (some p) l.length c] w (Ans w [] (NewE l)) := by
  have q42 : ∀ (w : World) (a : Option Addr) (n c n' c' : Nat), (binOp .eql 36 (.slice a n c) (.slice none n' c')).run Try.prog w = .ok (.bool a.isNone) w := fun w a n c n' c' => Lib.run_eql_slice_nil w _ _ a n c n' c' Try.underlying36
  have HC := Lib.hid hc; clear hc
  have hL := flat_length l
  have HL := Lib.hid hL; clear hL
  generalize hlen : l.length = m at hm HL
  have HLEN := Lib.hid hlen; clear hlen
  have HM := Mem.nil w
  go_enter Try.func32, Try.ntmps32
  go_wp2_with (first
    | (refine Sl.at_bslice 36 rfl ?_; refine Sm.bslice0_m HM rfl rfl 36 26 rfl (by kernel_rfl) (by kernel_rfl) ?_; clear HM; intro g_ w_ HM; go_simp)
    | (refine Sm.at_call_append rfl ?_; refine Sm.append_m HM rfl rfl _ _ 36 26 rfl 10 56 (by kernel_rfl) (by kernel_rfl) (by decide) 0 _ 0 0 #[] rfl rfl (Nat.le_refl _) (by decide) rfl p m c rfl (flat l) HL.out (fun u hu j v hj => mem_cell hu (HC.out j v hj) (by simp)) (flat_one' l) (by simp [maxLen]; omega) (by omega) m (by omega) ?_; clear HM; intro g_ cap_ cur_ w_ e1_ e2_ e3_ e4_ HM; go_simp)
    | ((fail_if_success (refine Go.Proofs.Ytccbpcdepgnmgaa.M.lit_t rfl ?_)); (fail_if_success (refine Go.Proofs.Ytccbpcdepgnmgaa.M.lit_f rfl ?_)); refine Go.Proofs.Ytccbpcdepgnmgaa.M.split_guard rfl rfl ?_ ?_ <;> (intro hg_; simp only [hg_]; try simp only [Go.Proofs.Ytccbpcdepgnmgaa.M.hgs] at hg_)))
  all_goals
    go_ret
    refine Ans.mk ?_ HM
    have hh := HLEN.out
    subst hh
    exact ⟨g_, cap_, cur_, rfl, e1_, e2_, by simpa using e3_, Row.of_take (by simpa using e4_), rfl⟩
end Go.Proofs.Ytccbpcdepgnmgaa.Ts
