/- portreeveref04.Decode: what each call at a level from 0 to 3 answers. (Under way.) -/
import Derived.Test.YtfnmdelkdombbaaProg
import Derived.Test.YtfnmdelkdombbaaG
import Derived.Test.YtfnmdelkdombbaaB
import Derived.Test.YtfnmdelkdombbaaHa
import Derived.Test.YtfnmdelkdombbaaM
namespace Go.Proofs.Ytfnmdelkdombbaa.Lh
open Go.RowKit Go.Proofs.Ytfnmdelkdombbaa.G Go.Proofs.Ytfnmdelkdombbaa.B Go.Proofs.Ytfnmdelkdombbaa.Ha
set_option linter.unusedVariables false
set_option linter.unusedSimpArgs false
def bitB (x : Int) (i : Nat) : Bool := decide (x / 2 ^ i % 2 = 1)
theorem bits_cell {w : World} {g : Nat} {x : Int} (h : w.heap[g]? = some (.cells (bcells (bitsL x)) 100 (0, 0))) (i : Nat) (hi : i < 64) : w.cell? ⟨g, i, none⟩ = some (.bool (bitB x i)) := by
  rw [blk_cell h, bcells_get _ _ (by rw [bitsL_length]; exact hi), bitsL_getD x i hi]
  rfl
theorem res_ctw {P : Program} {fn : Func} {p u : Tmp} {ty : TypeId} (h : fn.results = #[.cell p ty, .tmp u]) (tmps : Array Value) (w : World) (g : Nat) (t : TypeId) (cs : Array Value) (v : Value)
    (hp : tmps.getD p undef = .pointer (some ⟨g, 0, none⟩)) (hb : w.heap[g]? = some (.cells cs t (0, 0))) (hu : tmps.getD u undef = v) (hagg : M.aggB P ty = true) (hs : M.sizB P ty cs.size = true) : (results fn tmps).run P w = .ok (.tuple #[.agg cs, v]) w := by
  have hl := M.run_load_row (P := P) (W := w) hagg hs hb
  have hp' : tmps[p]?.getD undef = .pointer (some ⟨g, 0, none⟩) := by simpa using hp
  have hu' : tmps[u]?.getD undef = v := by simpa using hu
  have hl' : (loadVar ty ⟨g, 0, none⟩).run P w = .ok (.agg cs) w := by simpa [Instr.loadAt, Instr.sureAddr] using hl
  simp [results, h, hp', hu', asAddr, hl']
def dV (kind out : Int) (user write exec used : Bool) (attr : Int) (ok : Bool) : Value := .tuple #[.agg #[.int .i64 kind, .int .u64 out, .bool user, .bool write, .bool exec, .bool used, .int .i64 attr], .bool ok]
set_option maxRecDepth 100000 in
set_option maxHeartbeats 8000000 in
theorem decode_no (level x : Int) (h0 : 0 ≤ x) (h1 : x < 18446744073709551616) (b0 : bitB x 0 = false) (w : World) :
    Calls Try.prog 27 #[.int .i64 level, .int .u64 x] w fun e w' => e = .returned (dV 0 0 false false false false 0 true) ∧ Below w.heap.size w w' := by
  have hz : (Try.prog.info? 100).map (·.zero) = some (some (.agg (bcells (List.replicate 64 false)))) := by kernel_rfl
  have hs : ∀ l : List Bool, l.length = 64 → (Try.prog.info? 100).map (·.size) = some (bcells l).size := by
    intro l hl; rw [bcells_size, hl]; kernel_rfl
  have HZ := Lib.hid hz; clear hz
  have HS := Lib.hid hs; clear hs
  have hlB : (bitsL x).length = 64 := bitsL_length x
  have HLB := Lib.hid hlB; clear hlB
  have hszz : (bcells (List.replicate 64 false)).size = (bcells (bitsL x)).size := by simp [bcells_size, HLB.out]
  have HSZ := Lib.hid hszz; clear hszz
  go_enter Try.func27, Try.ntmps27
  go_wp2_with (first
    | (refine alloc_ev rfl (N := 4) rfl _ rfl (.agg #[.int .i64 0, .int .u64 0, .bool false, .bool false, .bool false, .bool false, .int .i64 0]) (by kernel_rfl) #[.int .i64 0, .int .u64 0, .bool false, .bool false, .bool false, .bool false, .int .i64 0] rfl ?_; intro g0 g0_lo w1 hc hq_; have hB := hq_; clear hq_; have hc_0 : w1.cell? ⟨g0, 0, none⟩ = some (.int .i64 0) := (blk_cell hc 0).trans rfl; have hc_1 : w1.cell? ⟨g0, 1, none⟩ = some (.int .u64 0) := (blk_cell hc 1).trans rfl; have hc_2 : w1.cell? ⟨g0, 2, none⟩ = some (.bool false) := (blk_cell hc 2).trans rfl; have hc_3 : w1.cell? ⟨g0, 3, none⟩ = some (.bool false) := (blk_cell hc 3).trans rfl; have hc_4 : w1.cell? ⟨g0, 4, none⟩ = some (.bool false) := (blk_cell hc 4).trans rfl; have hc_5 : w1.cell? ⟨g0, 5, none⟩ = some (.bool false) := (blk_cell hc 5).trans rfl; have hc_6 : w1.cell? ⟨g0, 6, none⟩ = some (.int .i64 0) := (blk_cell hc 6).trans rfl; try go_simp)
    | (go_at_call 45; (with_reducible refine (bits_any x h0 h1 _).mono ?_); rintro e w2 ⟨rfl, hq_⟩; have hc2 := blk_below hc hq_; clear hc hc_0 hc_1 hc_2 hc_3 hc_4 hc_5 hc_6; have hc2_0 : w2.cell? ⟨g0, 0, none⟩ = some (.int .i64 0) := (blk_cell hc2 0).trans rfl; have hc2_1 : w2.cell? ⟨g0, 1, none⟩ = some (.int .u64 0) := (blk_cell hc2 1).trans rfl; have hc2_2 : w2.cell? ⟨g0, 2, none⟩ = some (.bool false) := (blk_cell hc2 2).trans rfl; have hc2_3 : w2.cell? ⟨g0, 3, none⟩ = some (.bool false) := (blk_cell hc2 3).trans rfl; have hc2_4 : w2.cell? ⟨g0, 4, none⟩ = some (.bool false) := (blk_cell hc2 4).trans rfl; have hc2_5 : w2.cell? ⟨g0, 5, none⟩ = some (.bool false) := (blk_cell hc2 5).trans rfl; have hc2_6 : w2.cell? ⟨g0, 6, none⟩ = some (.int .i64 0) := (blk_cell hc2 6).trans rfl; have hB2 := below_step hB hq_; clear hB hq_)
    | (refine alloc_ev (N := 6) rfl rfl _ rfl _ HZ.out _ rfl ?_; intro g g_lo w3 hb hq_; have hc3 := blk_below hc2 hq_; have ne_ : g0 ≠ g := Nat.ne_of_lt (Nat.lt_of_lt_of_le (blk_lt hc2) g_lo); clear hc2 hc2_0 hc2_1 hc2_2 hc2_3 hc2_4 hc2_5 hc2_6; replace g_lo := Nat.le_trans (Below.size hB2) g_lo; have hB3 := below_step hB2 hq_; clear hB2 hq_)
    | (refine store_row_ev rfl _ _ _ rfl _ _ rfl rfl _ _ hb (HS.out _ HLB.out) HSZ.out (bcells_one _) ?_; intro w4 hb4 hM_; have hc4 := Mod1.keep hM_ hc3 ne_; have hB4 := Mod1.below hM_ hB3 g_lo; clear hb hM_ hc3 hB3; have hc4_0 : w4.cell? ⟨g0, 0, none⟩ = some (.int .i64 0) := (blk_cell hc4 0).trans rfl; have hc4_1 : w4.cell? ⟨g0, 1, none⟩ = some (.int .u64 0) := (blk_cell hc4 1).trans rfl; have hc4_2 : w4.cell? ⟨g0, 2, none⟩ = some (.bool false) := (blk_cell hc4 2).trans rfl; have hc4_3 : w4.cell? ⟨g0, 3, none⟩ = some (.bool false) := (blk_cell hc4 3).trans rfl; have hc4_4 : w4.cell? ⟨g0, 4, none⟩ = some (.bool false) := (blk_cell hc4 4).trans rfl; have hc4_5 : w4.cell? ⟨g0, 5, none⟩ = some (.bool false) := (blk_cell hc4 5).trans rfl; have hc4_6 : w4.cell? ⟨g0, 6, none⟩ = some (.int .i64 0) := (blk_cell hc4 6).trans rfl; have hb4_0 := bits_cell hb4 0 (by decide); rw [b0] at hb4_0)
    | (refine store_row_ev rfl _ _ _ rfl g0 #[.int .i64 0, .int .u64 0, .bool false, .bool false, .bool false, .bool false, .int .i64 0] rfl rfl _ _ hc4 (by kernel_rfl) rfl (by simp [Value.oneCell']) ?_; intro w5 hc5 hM_; have hB5 := Mod1.below hM_ hB4 g0_lo; clear hM_ hB4 hc4 hc4_0 hc4_1 hc4_2 hc4_3 hc4_4 hc4_5 hc4_6; have hc5_0 : w5.cell? ⟨g0, 0, none⟩ = some (.int .i64 0) := (blk_cell hc5 0).trans rfl; have hc5_1 : w5.cell? ⟨g0, 1, none⟩ = some (.int .u64 0) := (blk_cell hc5 1).trans rfl; have hc5_2 : w5.cell? ⟨g0, 2, none⟩ = some (.bool false) := (blk_cell hc5 2).trans rfl; have hc5_3 : w5.cell? ⟨g0, 3, none⟩ = some (.bool false) := (blk_cell hc5 3).trans rfl; have hc5_4 : w5.cell? ⟨g0, 4, none⟩ = some (.bool false) := (blk_cell hc5 4).trans rfl; have hc5_5 : w5.cell? ⟨g0, 5, none⟩ = some (.bool false) := (blk_cell hc5 5).trans rfl; have hc5_6 : w5.cell? ⟨g0, 6, none⟩ = some (.int .i64 0) := (blk_cell hc5 6).trans rfl; try go_simp))
  refine ⟨rfl, _, res_ctw (by rfl) _ _ _ _ _ _ rfl hc5 rfl (by kernel_rfl) (by kernel_rfl), ?_, hB5⟩
  rfl
/-- Of a table's word no other bits than its address's are 1. -/
def tOk (x : Int) (k : Nat) : Prop := ∀ i, 2 ≤ i → i < k → bitB x i = true → 12 ≤ i ∧ i ≤ 47
open Classical in
noncomputable def tabV (x out : Int) : Value := if tOk x 64 then dV 1 out false false false false 0 true else dV 0 0 false false false false 0 false
set_option maxRecDepth 100000 in
set_option maxHeartbeats 8000000 in
theorem decode_table (level x out : Int) (l1 : level < 3) (h0 : 0 ≤ x) (h1 : x < 18446744073709551616) (b0 : bitB x 0 = true) (b1 : bitB x 1 = true) (ho : x / 4096 % 68719476736 * 4096 = out) (w : World) :
    Calls Try.prog 27 #[.int .i64 level, .int .u64 x] w fun e w' => e = .returned (tabV x out) ∧ Below w.heap.size w w' := by
  have hz : (Try.prog.info? 100).map (·.zero) = some (some (.agg (bcells (List.replicate 64 false)))) := by kernel_rfl
  have hs : ∀ l : List Bool, l.length = 64 → (Try.prog.info? 100).map (·.size) = some (bcells l).size := by
    intro l hl; rw [bcells_size, hl]; kernel_rfl
  have HZ := Lib.hid hz; clear hz
  have HS := Lib.hid hs; clear hs
  have hlB : (bitsL x).length = 64 := bitsL_length x
  have HLB := Lib.hid hlB; clear hlB
  have hszz : (bcells (List.replicate 64 false)).size = (bcells (bitsL x)).size := by simp [bcells_size, HLB.out]
  have HSZ := Lib.hid hszz; clear hszz
  have CG : ∀ w, Calls Try.prog 29 #[.int .u64 x, .int .i64 12, .int .i64 36] w fun e w' => e = .returned (.int .u64 (x / 4096 % 68719476736)) ∧ Below w.heap.size w w' := fun w => get_any x 12 36 h0 h1 (by decide) w
  have o0 : 0 ≤ x / 4096 % 68719476736 := by omega
  have o1 : x / 4096 % 68719476736 < 68719476736 := by omega
  generalize x / 4096 % 68719476736 = gv at CG o0 o1 ho
  go_enter Try.func27, Try.ntmps27
  go_wp2_with (first
    | (refine alloc_ev rfl (N := 4) rfl _ rfl (.agg #[.int .i64 0, .int .u64 0, .bool false, .bool false, .bool false, .bool false, .int .i64 0]) (by kernel_rfl) #[.int .i64 0, .int .u64 0, .bool false, .bool false, .bool false, .bool false, .int .i64 0] rfl ?_; intro g0 g0_lo w1 hc hq_; have hB := hq_; clear hq_; have hc_0 : w1.cell? ⟨g0, 0, none⟩ = some (.int .i64 0) := (blk_cell hc 0).trans rfl; have hc_1 : w1.cell? ⟨g0, 1, none⟩ = some (.int .u64 0) := (blk_cell hc 1).trans rfl; have hc_2 : w1.cell? ⟨g0, 2, none⟩ = some (.bool false) := (blk_cell hc 2).trans rfl; have hc_3 : w1.cell? ⟨g0, 3, none⟩ = some (.bool false) := (blk_cell hc 3).trans rfl; have hc_4 : w1.cell? ⟨g0, 4, none⟩ = some (.bool false) := (blk_cell hc 4).trans rfl; have hc_5 : w1.cell? ⟨g0, 5, none⟩ = some (.bool false) := (blk_cell hc 5).trans rfl; have hc_6 : w1.cell? ⟨g0, 6, none⟩ = some (.int .i64 0) := (blk_cell hc 6).trans rfl; try go_simp)
    | (go_at_call 45; (with_reducible refine (bits_any x h0 h1 _).mono ?_); rintro e w2 ⟨rfl, hq_⟩; have hc2 := blk_below hc hq_; clear hc hc_0 hc_1 hc_2 hc_3 hc_4 hc_5 hc_6; have hc2_0 : w2.cell? ⟨g0, 0, none⟩ = some (.int .i64 0) := (blk_cell hc2 0).trans rfl; have hc2_1 : w2.cell? ⟨g0, 1, none⟩ = some (.int .u64 0) := (blk_cell hc2 1).trans rfl; have hc2_2 : w2.cell? ⟨g0, 2, none⟩ = some (.bool false) := (blk_cell hc2 2).trans rfl; have hc2_3 : w2.cell? ⟨g0, 3, none⟩ = some (.bool false) := (blk_cell hc2 3).trans rfl; have hc2_4 : w2.cell? ⟨g0, 4, none⟩ = some (.bool false) := (blk_cell hc2 4).trans rfl; have hc2_5 : w2.cell? ⟨g0, 5, none⟩ = some (.bool false) := (blk_cell hc2 5).trans rfl; have hc2_6 : w2.cell? ⟨g0, 6, none⟩ = some (.int .i64 0) := (blk_cell hc2 6).trans rfl; have hB2 := below_step hB hq_; clear hB hq_)
    | (refine alloc_ev (N := 6) rfl rfl _ rfl _ HZ.out _ rfl ?_; intro g g_lo w3 hb hq_; have hc3 := blk_below hc2 hq_; have ne_ : g0 ≠ g := Nat.ne_of_lt (Nat.lt_of_lt_of_le (blk_lt hc2) g_lo); clear hc2 hc2_0 hc2_1 hc2_2 hc2_3 hc2_4 hc2_5 hc2_6; replace g_lo := Nat.le_trans (Below.size hB2) g_lo; have hB3 := below_step hB2 hq_; clear hB2 hq_)
    | (refine store_row_ev rfl _ _ _ rfl _ _ rfl rfl _ _ hb (HS.out _ HLB.out) HSZ.out (bcells_one _) ?_; intro w4 hb4 hM_; have hc4 := Mod1.keep hM_ hc3 ne_; have hB4 := Mod1.below hM_ hB3 g_lo; clear hb hM_ hc3 hB3; have hc4_0 : w4.cell? ⟨g0, 0, none⟩ = some (.int .i64 0) := (blk_cell hc4 0).trans rfl; have hc4_1 : w4.cell? ⟨g0, 1, none⟩ = some (.int .u64 0) := (blk_cell hc4 1).trans rfl; have hc4_2 : w4.cell? ⟨g0, 2, none⟩ = some (.bool false) := (blk_cell hc4 2).trans rfl; have hc4_3 : w4.cell? ⟨g0, 3, none⟩ = some (.bool false) := (blk_cell hc4 3).trans rfl; have hc4_4 : w4.cell? ⟨g0, 4, none⟩ = some (.bool false) := (blk_cell hc4 4).trans rfl; have hc4_5 : w4.cell? ⟨g0, 5, none⟩ = some (.bool false) := (blk_cell hc4 5).trans rfl; have hc4_6 : w4.cell? ⟨g0, 6, none⟩ = some (.int .i64 0) := (blk_cell hc4 6).trans rfl; have hb4_0 := bits_cell hb4 0 (by decide); rw [b0] at hb4_0; have hb4_1 := bits_cell hb4 1 (by decide); rw [b1] at hb4_1)
    | (go_at_call 29; (with_reducible refine (CG _).mono ?_); rintro e w5 ⟨rfl, hq_⟩; have hb5 := blk_below hb4 hq_; have hc5 := blk_below hc4 hq_; have hB5 := below_step hB4 hq_; clear hb4 hc4 hB4 hb4_0 hb4_1 hc4_0 hc4_1 hc4_2 hc4_3 hc4_4 hc4_5 hc4_6 hq_; have hc5_0 : w5.cell? ⟨g0, 0, none⟩ = some (.int .i64 0) := (blk_cell hc5 0).trans rfl; have hc5_1 : w5.cell? ⟨g0, 1, none⟩ = some (.int .u64 0) := (blk_cell hc5 1).trans rfl; have hc5_2 : w5.cell? ⟨g0, 2, none⟩ = some (.bool false) := (blk_cell hc5 2).trans rfl; have hc5_3 : w5.cell? ⟨g0, 3, none⟩ = some (.bool false) := (blk_cell hc5 3).trans rfl; have hc5_4 : w5.cell? ⟨g0, 4, none⟩ = some (.bool false) := (blk_cell hc5 4).trans rfl; have hc5_5 : w5.cell? ⟨g0, 5, none⟩ = some (.bool false) := (blk_cell hc5 5).trans rfl; have hc5_6 : w5.cell? ⟨g0, 6, none⟩ = some (.int .i64 0) := (blk_cell hc5 6).trans rfl; have hb5_1 := bits_cell hb5 1 (by decide); rw [b1] at hb5_1))
  clear hb5_1 hc5_0 hc5_1 hc5_2 hc5_3 hc5_4 hc5_5 hc5_6
  go_loopw [8] (fun iv wr => ∃ k : Nat, 2 ≤ k ∧ k ≤ 64 ∧ iv = .int .i64 k ∧ tOk x k ∧ wr.heap[g]? = some (.cells (bcells (bitsL x)) 100 (0, 0)) ∧ wr.heap[g0]? = some (.cells #[.int .i64 0, .int .u64 0, .bool false, .bool false, .bool false, .bool false, .int .i64 0] 40 (0, 0)) ∧ Below w.heap.size w wr)
    (fun iv _ => 64 - (intOf iv).toNat)
  case atStart => exact ⟨2, by omega, by omega, rfl, fun i h2 hi => absurd hi (by omega), hb5, hc5, hB5⟩
  case round =>
    obtain ⟨k, k2, k64, rfl, hok, hb, hc, hB⟩ := hrel
    clear hb5 hc5 hB5 CG
    by_cases hlt : k < 64
    · have hcell := bits_cell hb k hlt
      have hc_0 : wr.cell? ⟨g0, 0, none⟩ = some (.int .i64 0) := (blk_cell hc 0).trans rfl; have hc_1 : wr.cell? ⟨g0, 1, none⟩ = some (.int .u64 0) := (blk_cell hc 1).trans rfl; have hc_2 : wr.cell? ⟨g0, 2, none⟩ = some (.bool false) := (blk_cell hc 2).trans rfl; have hc_3 : wr.cell? ⟨g0, 3, none⟩ = some (.bool false) := (blk_cell hc 3).trans rfl; have hc_4 : wr.cell? ⟨g0, 4, none⟩ = some (.bool false) := (blk_cell hc 4).trans rfl; have hc_5 : wr.cell? ⟨g0, 5, none⟩ = some (.bool false) := (blk_cell hc 5).trans rfl; have hc_6 : wr.cell? ⟨g0, 6, none⟩ = some (.int .i64 0) := (blk_cell hc 6).trans rfl
      generalize hbv : bitB x k = bv at hcell
      cases bv
      · have hok' : tOk x (k + 1) := fun i h2 hi hb' => by
          by_cases hik : i = k
          · subst hik; rw [hbv] at hb'; cases hb'
          · exact hok i h2 (by omega) hb'
        have HOK := Lib.hid hok'
        clear hok' hok hbv
        go_wp2
        exact ⟨⟨k + 1, by omega, by omega, rfl, HOK.out, hb, hc, hB⟩, by simp only [intOf]; omega⟩
      · by_cases c12 : (k : Int) < 12
        · have hbad : tabV x out = dV 0 0 false false false false 0 false := if_neg (fun h => by have := h k k2 hlt hbv; omega)
          have HBAD := Lib.hid hbad
          clear hbad hok hbv
          go_wp2_with (first
            | (refine store_row_ev rfl _ _ _ rfl g0 #[.int .i64 0, .int .u64 0, .bool false, .bool false, .bool false, .bool false, .int .i64 0] rfl rfl _ _ hc (by kernel_rfl) rfl (by simp [Value.oneCell']) ?_; intro w9 hc9 hM_; have hB9 := Mod1.below hM_ hB g0_lo; clear hM_ hB hc hc_0 hc_1 hc_2 hc_3 hc_4 hc_5 hc_6; have hc9_0 : w9.cell? ⟨g0, 0, none⟩ = some (.int .i64 0) := (blk_cell hc9 0).trans rfl; have hc9_1 : w9.cell? ⟨g0, 1, none⟩ = some (.int .u64 0) := (blk_cell hc9 1).trans rfl; have hc9_2 : w9.cell? ⟨g0, 2, none⟩ = some (.bool false) := (blk_cell hc9 2).trans rfl; have hc9_3 : w9.cell? ⟨g0, 3, none⟩ = some (.bool false) := (blk_cell hc9 3).trans rfl; have hc9_4 : w9.cell? ⟨g0, 4, none⟩ = some (.bool false) := (blk_cell hc9 4).trans rfl; have hc9_5 : w9.cell? ⟨g0, 5, none⟩ = some (.bool false) := (blk_cell hc9 5).trans rfl; have hc9_6 : w9.cell? ⟨g0, 6, none⟩ = some (.int .i64 0) := (blk_cell hc9 6).trans rfl; try go_simp))
          refine ⟨rfl, _, res_ctw (by rfl) _ _ _ _ _ _ rfl hc9 rfl (by kernel_rfl) (by kernel_rfl), ?_, hB9⟩
          rw [HBAD.out]; rfl
        · replace c12 : (12 : Int) ≤ k := by omega
          by_cases c47 : (47 : Int) < k
          · have hbad : tabV x out = dV 0 0 false false false false 0 false := if_neg (fun h => by have := h k k2 hlt hbv; omega)
            have HBAD := Lib.hid hbad
            clear hbad hok hbv
            go_wp2_with (first
              | (refine store_row_ev rfl _ _ _ rfl g0 #[.int .i64 0, .int .u64 0, .bool false, .bool false, .bool false, .bool false, .int .i64 0] rfl rfl _ _ hc (by kernel_rfl) rfl (by simp [Value.oneCell']) ?_; intro w9 hc9 hM_; have hB9 := Mod1.below hM_ hB g0_lo; clear hM_ hB hc hc_0 hc_1 hc_2 hc_3 hc_4 hc_5 hc_6; have hc9_0 : w9.cell? ⟨g0, 0, none⟩ = some (.int .i64 0) := (blk_cell hc9 0).trans rfl; have hc9_1 : w9.cell? ⟨g0, 1, none⟩ = some (.int .u64 0) := (blk_cell hc9 1).trans rfl; have hc9_2 : w9.cell? ⟨g0, 2, none⟩ = some (.bool false) := (blk_cell hc9 2).trans rfl; have hc9_3 : w9.cell? ⟨g0, 3, none⟩ = some (.bool false) := (blk_cell hc9 3).trans rfl; have hc9_4 : w9.cell? ⟨g0, 4, none⟩ = some (.bool false) := (blk_cell hc9 4).trans rfl; have hc9_5 : w9.cell? ⟨g0, 5, none⟩ = some (.bool false) := (blk_cell hc9 5).trans rfl; have hc9_6 : w9.cell? ⟨g0, 6, none⟩ = some (.int .i64 0) := (blk_cell hc9 6).trans rfl; try go_simp))
            refine ⟨rfl, _, res_ctw (by rfl) _ _ _ _ _ _ rfl hc9 rfl (by kernel_rfl) (by kernel_rfl), ?_, hB9⟩
            rw [HBAD.out]; rfl
          · replace c47 : (k : Int) ≤ 47 := by omega
            have hok' : tOk x (k + 1) := fun i h2 hi hb' => by
              by_cases hik : i = k
              · subst hik; omega
              · exact hok i h2 (by omega) hb'
            have HOK := Lib.hid hok'
            clear hok' hok hbv
            go_wp2
            exact ⟨⟨k + 1, by omega, by omega, rfl, HOK.out, hb, hc, hB⟩, by simp only [intOf]; omega⟩
    · obtain rfl : k = 64 := by omega
      have hgood : tabV x out = dV 1 out false false false false 0 true := if_pos hok
      have HG := Lib.hid hgood
      subst ho
      clear hgood hok
      have hc_0 : wr.cell? ⟨g0, 0, none⟩ = some (.int .i64 0) := (blk_cell hc 0).trans rfl; have hc_1 : wr.cell? ⟨g0, 1, none⟩ = some (.int .u64 0) := (blk_cell hc 1).trans rfl; have hc_2 : wr.cell? ⟨g0, 2, none⟩ = some (.bool false) := (blk_cell hc 2).trans rfl; have hc_3 : wr.cell? ⟨g0, 3, none⟩ = some (.bool false) := (blk_cell hc 3).trans rfl; have hc_4 : wr.cell? ⟨g0, 4, none⟩ = some (.bool false) := (blk_cell hc 4).trans rfl; have hc_5 : wr.cell? ⟨g0, 5, none⟩ = some (.bool false) := (blk_cell hc 5).trans rfl; have hc_6 : wr.cell? ⟨g0, 6, none⟩ = some (.int .i64 0) := (blk_cell hc 6).trans rfl
      go_wp2_with (first
        | (refine store_row_ev rfl _ _ _ rfl g0 #[.int .i64 1, .int .u64 (gv * 4096), .bool false, .bool false, .bool false, .bool false, .int .i64 0] rfl rfl _ _ hc (by kernel_rfl) rfl (by simp [Value.oneCell']) ?_; intro w9 hc9 hM_; have hB9 := Mod1.below hM_ hB g0_lo; clear hM_ hB hc hc_0 hc_1 hc_2 hc_3 hc_4 hc_5 hc_6; have hc9_0 : w9.cell? ⟨g0, 0, none⟩ = some (.int .i64 1) := (blk_cell hc9 0).trans rfl; have hc9_1 : w9.cell? ⟨g0, 1, none⟩ = some (.int .u64 (gv * 4096)) := (blk_cell hc9 1).trans rfl; have hc9_2 : w9.cell? ⟨g0, 2, none⟩ = some (.bool false) := (blk_cell hc9 2).trans rfl; have hc9_3 : w9.cell? ⟨g0, 3, none⟩ = some (.bool false) := (blk_cell hc9 3).trans rfl; have hc9_4 : w9.cell? ⟨g0, 4, none⟩ = some (.bool false) := (blk_cell hc9 4).trans rfl; have hc9_5 : w9.cell? ⟨g0, 5, none⟩ = some (.bool false) := (blk_cell hc9 5).trans rfl; have hc9_6 : w9.cell? ⟨g0, 6, none⟩ = some (.int .i64 0) := (blk_cell hc9 6).trans rfl; try go_simp))
      refine ⟨rfl, _, res_ctw (by rfl) _ _ _ _ _ _ rfl hc9 rfl (by kernel_rfl) (by kernel_rfl), ?_, hB9⟩
      rw [HG.out]; rfl
end Go.Proofs.Ytfnmdelkdombbaa.Lh
