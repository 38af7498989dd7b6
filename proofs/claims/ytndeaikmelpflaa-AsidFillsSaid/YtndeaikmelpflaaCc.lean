/- The law AsidFills walked. -/
import Derived.Test.YtndeaikmelpflaaCb
namespace Go.Proofs.Ytndeaikmelpflaa.Cc
open Go.RowKit Go.Proofs.Ytndeaikmelpflaa.G Go.Proofs.Ytndeaikmelpflaa.B Go.Proofs.Ytndeaikmelpflaa.M Go.Proofs.Ytndeaikmelpflaa.Mv Go.Proofs.Ytndeaikmelpflaa.Sl Go.Proofs.Ytndeaikmelpflaa.Sm Go.Proofs.Ytndeaikmelpflaa.Sn Go.Proofs.Ytndeaikmelpflaa.Ma Go.Proofs.Ytndeaikmelpflaa.Dr Go.Proofs.Ytndeaikmelpflaa.Ya Go.Proofs.Ytndeaikmelpflaa.Yb Go.Proofs.Ytndeaikmelpflaa.Yc Go.Proofs.Ytndeaikmelpflaa.Ls Go.Proofs.Ytndeaikmelpflaa.Lt Go.Proofs.Ytndeaikmelpflaa.Lu Go.Proofs.Ytndeaikmelpflaa.Aa Go.Proofs.Ytndeaikmelpflaa.Ab Go.Proofs.Ytndeaikmelpflaa.Ac Go.Proofs.Ytndeaikmelpflaa.Ad Go.Proofs.Ytndeaikmelpflaa.Ae Go.Proofs.Ytndeaikmelpflaa.Af Go.Proofs.Ytndeaikmelpflaa.Bc Go.Proofs.Ytndeaikmelpflaa.Bd Go.Proofs.Ytndeaikmelpflaa.Bi Go.Proofs.Ytndeaikmelpflaa.Bp Go.Proofs.Ytndeaikmelpflaa.Ca Go.Proofs.Ytndeaikmelpflaa.Cb

set_option linter.unusedVariables false
set_option linter.unusedSimpArgs false
set_option maxRecDepth 100000
/-- The first i pools. -/
def pN (i : Nat) : Nat → Int := fun j => if j < i then ((j : Int) + 1) * 4096 else 0
theorem pN_up (i : Nat) : upp (pN i) i (((i : Int) + 1) * 4096) = pN (i + 1) := by
  funext j
  unfold upp pN
  by_cases e : j = i
  · subst e; rw [if_pos rfl, if_pos (by omega)]
  · rw [if_neg e]
    by_cases h : j < i
    · rw [if_pos h, if_pos (by omega)]
    · rw [if_neg h, if_neg (by omega)]
theorem pN_0 : pN 0 = p0 := by funext j; unfold pN p0; rw [if_neg (by omega)]
theorem pN_ok {P : Nat} (h1 : 1 ≤ P) (h8 : P ≤ 8) : okP (pN P) ((P : Int) - 1) = true := by
  rw [okP_iff]
  refine ⟨by omega, by omega, ?_⟩
  unfold pN
  rw [if_pos (by omega)]; omega
theorem add_c {gC : Nat} {L : Hp} {i : Nat} (hi : i < 8) (h : SC s0 gC (pN i) L) : Does Try.prog 9 #[.pointer (some ⟨gC, 0, none⟩), .int .u64 (((i : Int) + 1) * 4096)] L (AddS s0 gC (pN (i + 1)) i) := by
  rw [← pN_up]
  refine add_s h (by omega) (by omega) (by omega) hi (by unfold pN; rw [if_neg (by omega)]) (fun j hj => ?_) (fun j hj => ?_)
  · unfold pN; rw [if_pos hj]; omega
  · unfold pN
    split
    · omega
    · omega
/-- These have spaces. -/
def sF (a c : Int) : Int → Int := fun u => if a ≤ u ∧ u < c then u * 4096 else 0
theorem sF_0 (a : Int) : sF a a = s0 := by funext u; unfold sF s0; rw [if_neg (by omega)]
theorem sF_up {a v : Int} (h : a ≤ v) : updS (sF a v) v (v * 4096) = sF a (v + 1) := by
  funext u
  unfold updS sF
  by_cases e : u = v
  · subst e; rw [if_pos rfl, if_pos (by omega)]
  · rw [if_neg e]
    by_cases h2 : a ≤ u ∧ u < v
    · rw [if_pos h2, if_pos (by omega)]
    · rw [if_neg h2, if_neg (by omega)]
theorem asg_c {gC : Nat} {L : Hp} {P : Nat} (h1 : 1 ≤ P) (h8 : P ≤ 8) {a v : Int} (ha : a = max (((P : Int) - 1) * 512) 1) (hv : a ≤ v) (hv2 : v < P * 512) (h : SC (sF a v) gC (pN P) L) : Does Try.prog 10 #[.pointer (some ⟨gC, 0, none⟩), .int .i64 ((P : Int) - 1), .int .u64 (v * 4096)] L (AsgS (sF a (v + 1)) gC (pN P) v) := by
  rw [← sF_up hv]
  refine assign_s h (pN_ok h1 h8) (by omega) (by omega) (by omega) (by omega) (by omega) (by unfold sF; rw [if_neg (by omega)]) (fun u u1 u2 u3 => ?_)
  unfold sF
  rw [if_pos (by omega)]; omega
theorem full_c {gC : Nat} {L : Hp} {P : Nat} (h1 : 1 ≤ P) (h8 : P ≤ 8) {a : Int} (ha : a = max (((P : Int) - 1) * 512) 1) (h : SC (sF a (P * 512)) gC (pN P) L) : Does Try.prog 10 #[.pointer (some ⟨gC, 0, none⟩), .int .i64 ((P : Int) - 1), .int .u64 4096] L (FullS (sF a (P * 512)) gC (pN P)) := by
  refine full_s h (pN_ok h1 h8) (by omega) (by omega) (by omega) (fun u u1 u2 => ?_)
  unfold sF
  rw [if_pos (by omega)]; omega
theorem list_c {gC : Nat} {L : Hp} {P : Nat} {a n : Nat} (ha : 1 ≤ a) (hn : a + n = P * 512) (h : SC (sF a (P * 512)) gC (pN P) L) : Does Try.prog 11 #[.pointer (some ⟨gC, 0, none⟩)] L (LenS (sF a (P * 512)) gC (pN P) n) := by
  refine list_s h (l := (List.range n).map fun (i : Nat) => ⟨(a : Int) + i, ((a : Int) + i) * 4096⟩) ?_ (fun y => ?_) (by simp)
  · rw [Srt, List.pairwise_map]
    exact List.pairwise_lt_range.imp fun {x y} hxy => by dsimp only; omega
  · rw [List.mem_map]
    constructor
    · rintro ⟨i, hi, rfl⟩
      rw [List.mem_range] at hi
      unfold sF
      dsimp only
      rw [if_pos (by omega)]
      exact ⟨rfl, by omega⟩
    · rintro ⟨e1, e2⟩
      obtain ⟨v, x⟩ := y
      dsimp only at e1 e2
      unfold sF at e1
      split at e1
      · refine ⟨(v - a).toNat, List.mem_range.2 (by omega), ?_⟩
        rw [show (a : Int) + ((v - a).toNat : Int) = v by omega, ← e1]
      · exact absurd e1 e2
theorem clr_in {gC : Nat} {L : Hp} {P : Nat} {a v : Int} (ha : 1 ≤ a) (hv : a ≤ v) (hv2 : v < P * 512) (vm : v < 9223372036854775808) (h : SC (sF a (P * 512)) gC (pN P) L) : Does Try.prog 12 #[.pointer (some ⟨gC, 0, none⟩), .int .i64 v] L (ClrS (updS (sF a (P * 512)) v 0) gC (pN P) 0) :=
  clear_s h vm (by unfold sF; rw [if_pos ⟨hv, hv2⟩]; omega)
theorem clr_out {gC : Nat} {L : Hp} {P : Nat} {a v : Int} (hv : ¬ (a ≤ v ∧ v < P * 512)) (vm : v < 9223372036854775808) (h : SC (sF a (P * 512)) gC (pN P) L) : Does Try.prog 12 #[.pointer (some ⟨gC, 0, none⟩), .int .i64 v] L (ClrS (sF a (P * 512)) gC (pN P) 33) :=
  clear_no h vm (by unfold sF; rw [if_neg hv])
theorem again {gC : Nat} {L : Hp} {P : Nat} (h1 : 1 ≤ P) (h8 : P ≤ 8) {a v : Int} (ha : a = max (((P : Int) - 1) * 512) 1) (hv : a ≤ v) (hv2 : v < P * 512) (h : SC (updS (sF a (P * 512)) v 0) gC (pN P) L) : Does Try.prog 10 #[.pointer (some ⟨gC, 0, none⟩), .int .i64 ((P : Int) - 1), .int .u64 4096] L (AsgS (updS (updS (sF a (P * 512)) v 0) v 4096) gC (pN P) v) := by
  refine assign_s h (pN_ok h1 h8) (by omega) (by omega) (by omega) (by omega) (by omega) (by unfold updS; rw [if_pos rfl]) (fun u u1 u2 u3 => ?_)
  unfold updS sF
  rw [if_neg (by omega), if_pos (by omega)]; omega
set_option maxHeartbeats 4000000 in
theorem fills_no (pools clear : Int) (h : pools < 1 ∨ 8 < pools) (w : World) : Calls Try.prog 3 #[.int .i64 pools, .int .i64 clear] w fun e w' => e = .returned (.bool true) ∧ Below w.heap.size w w' := by
  have CA := anchor_any
  rcases h with h | h
  all_goals
    have HM := Mem.nil w
    go_enter Try.func3, Try.ntmps3
    go_wp2_with (first
      | (go_big_skip)
      | (go_at_call 7; (with_reducible refine (M.call_pure (CA) HM).mono ?_); clear HM; rintro e w_ ⟨rfl, HM⟩; dsimp only)
      | (refine M.at_mem rfl ?_; first | (refine M.at_store 29 rfl ?_; first | (refine M.store_row_m HM rfl 29 _ _ rfl 0 _ _ _ _ rfl rfl rfl (by kernel_rfl) rfl (by simp [Value.oneCell']) ?_; clear HM; intro w_ HM; (try simp only [M.nrm] at HM); go_simp)) | (refine M.at_alloc 29 rfl ?_; first | (refine M.alloc_m HM rfl rfl 29 rfl (.agg #[(.int .u64 0), (.int .u64 0), (.int .u64 0), (.int .u64 0), (.int .u64 0), (.int .u64 0), (.int .u64 0), (.int .u64 0), (.int .u64 0), (.slice none 0 0)]) (by kernel_rfl) #[(.int .u64 0), (.int .u64 0), (.int .u64 0), (.int .u64 0), (.int .u64 0), (.int .u64 0), (.int .u64 0), (.int .u64 0), (.int .u64 0), (.slice none 0 0)] rfl ?_; clear HM; intro g_ w_ HM; go_simp)) | ((fail_if_success (refine M.lit_t rfl ?_)); (fail_if_success (refine M.lit_f rfl ?_)); refine M.split_guard rfl rfl ?_ ?_ <;> (intro hg_; simp only [hg_]; try simp only [M.hgs] at hg_)))
      | (refine Mc.at_cmp _ rfl ?_; refine Mc.cmp_m rfl _ rfl _ _ _ rfl _ _ _ rfl rfl _ rfl ?_ ?_ <;> (intro hg_; try simp only [M.hgs] at hg_; first | (exfalso; first | omega | (simp at hg_; done)) | (go_simp)))
      | ((fail_if_success (refine M.lit_t rfl ?_)); (fail_if_success (refine M.lit_f rfl ?_)); refine M.split_guard rfl rfl ?_ ?_ <;> (intro hg_; simp only [hg_]; try simp only [M.hgs] at hg_)))
    all_goals
      go_ret
      exact ⟨by first | rfl | simp, HM.none.to_below⟩
set_option maxHeartbeats 8000000 in
theorem fills_in (P : Nat) (h1 : 1 ≤ P) (h8 : P ≤ 8) (clear : Int) (c0 : -9223372036854775808 ≤ clear) (c1 : clear < 9223372036854775808) (w : World) : Calls Try.prog 3 #[.int .i64 P, .int .i64 clear] w fun e w' => e = .returned (.bool true) ∧ Below w.heap.size w w' := by
  have CA := anchor_any
  have CO := opened_s
  unfold OpS at CO
  simp only [docC] at CO
  have i1 : (1 : Int) ≤ P := by omega
  have i8 : (P : Int) ≤ 8 := by omega
  have HM := Mem.nil w
  go_enter Try.func3, Try.ntmps3
  go_wp2_with (first
    | (go_big_skip)
    | (go_at_call 8; (with_reducible refine (Sm.new_call HM (CO _)).mono ?_); clear HM; rintro e w_ ⟨v_, L_, rfl, ⟨gM_, gC_, rfl, hS_⟩, HM⟩; rw [List.append_nil] at HM; dsimp only)
    | (go_at_call 7; (with_reducible refine (M.call_pure (CA) HM).mono ?_); clear HM; rintro e w_ ⟨rfl, HM⟩; dsimp only)
    | (refine M.at_mem rfl ?_; first | (refine M.at_store 29 rfl ?_; first | (refine M.store_row_m HM rfl 29 _ _ rfl 0 _ _ _ _ rfl rfl rfl (by kernel_rfl) rfl (by simp [Value.oneCell']) ?_; clear HM; intro w_ HM; (try simp only [M.nrm] at HM); go_simp)) | (refine M.at_alloc 29 rfl ?_; first | (refine M.alloc_m HM rfl rfl 29 rfl (.agg #[(.int .u64 0), (.int .u64 0), (.int .u64 0), (.int .u64 0), (.int .u64 0), (.int .u64 0), (.int .u64 0), (.int .u64 0), (.int .u64 0), (.slice none 0 0)]) (by kernel_rfl) #[(.int .u64 0), (.int .u64 0), (.int .u64 0), (.int .u64 0), (.int .u64 0), (.int .u64 0), (.int .u64 0), (.int .u64 0), (.int .u64 0), (.slice none 0 0)] rfl ?_; clear HM; intro g_ w_ HM; go_simp)) | ((fail_if_success (refine M.lit_t rfl ?_)); (fail_if_success (refine M.lit_f rfl ?_)); refine M.split_guard rfl rfl ?_ ?_ <;> (intro hg_; simp only [hg_]; try simp only [M.hgs] at hg_)))
    | (refine Mc.at_cmp _ rfl ?_; refine Mc.cmp_m rfl _ rfl _ _ _ rfl _ _ _ rfl rfl _ rfl ?_ ?_ <;> (intro hg_; try simp only [M.hgs] at hg_; first | (exfalso; first | omega | (simp at hg_; done)) | (go_simp)))
    | ((fail_if_success (refine M.lit_t rfl ?_)); (fail_if_success (refine M.lit_f rfl ?_)); refine M.split_guard rfl rfl ?_ ?_ <;> (intro hg_; simp only [hg_]; try simp only [M.hgs] at hg_)))
  have HM := HM.drop (A := [_])
  clear CA CO
  rw [← pN_0] at hS_
  go_loopw [36] (fun iv wr => ∃ (i : Nat) (L : Hp), i ≤ P ∧ iv = .int .i64 i ∧ SC s0 gC_ (pN i) L ∧ Mem w [] L wr) (fun iv _ => P - (intOf iv).toNat)
  case atStart => exact ⟨0, L_, by omega, rfl, hS_, HM⟩
  case round =>
    clear HM hS_
    obtain ⟨i, L, iR, rfl, hS_, HM⟩ := hrel
    by_cases hlt : i < P
    · have hi1 : (i : Int) < P := by omega
      have CAD := add_c (show i < 8 by omega) hS_
      clear hS_
      go_wp2_with (first
        | (go_big_skip)
        | (go_at_call 9; have HM_ : M.Mem _ _ (([]) ++ (L)) _ := HM; (with_reducible refine (M.Does.tail _ (CAD) HM_).mono ?_); clear HM HM_; rintro e w_ ⟨v_, L_, rfl, ⟨rfl, hS_⟩, HM⟩; (try simp only [List.cons_append, List.nil_append, List.append_nil] at HM); dsimp only)
        | (refine M.at_mem rfl ?_; first | (refine M.at_store 29 rfl ?_; first | (refine M.store_row_m HM rfl 29 _ _ rfl 0 _ _ _ _ rfl rfl rfl (by kernel_rfl) rfl (by simp [Value.oneCell']) ?_; clear HM; intro w_ HM; (try simp only [M.nrm] at HM); go_simp)) | (refine M.at_alloc 29 rfl ?_; first | (refine M.alloc_m HM rfl rfl 29 rfl (.agg #[(.int .u64 0), (.int .u64 0), (.int .u64 0), (.int .u64 0), (.int .u64 0), (.int .u64 0), (.int .u64 0), (.int .u64 0), (.int .u64 0), (.slice none 0 0)]) (by kernel_rfl) #[(.int .u64 0), (.int .u64 0), (.int .u64 0), (.int .u64 0), (.int .u64 0), (.int .u64 0), (.int .u64 0), (.int .u64 0), (.int .u64 0), (.slice none 0 0)] rfl ?_; clear HM; intro g_ w_ HM; go_simp)) | ((fail_if_success (refine M.lit_t rfl ?_)); (fail_if_success (refine M.lit_f rfl ?_)); refine M.split_guard rfl rfl ?_ ?_ <;> (intro hg_; simp only [hg_]; try simp only [M.hgs] at hg_)))
        | (refine Mc.at_cmp _ rfl ?_; refine Mc.cmp_m rfl _ rfl _ _ _ rfl _ _ _ rfl rfl _ rfl ?_ ?_ <;> (intro hg_; try simp only [M.hgs] at hg_; first | (exfalso; first | omega | (simp at hg_; done)) | (go_simp)))
        | ((fail_if_success (refine M.lit_t rfl ?_)); (fail_if_success (refine M.lit_f rfl ?_)); refine M.split_guard rfl rfl ?_ ?_ <;> (intro hg_; simp only [hg_]; try simp only [M.hgs] at hg_)))
      all_goals
        go_roundw
        case rel => exact ⟨i + 1, L_, by omega, by first | rfl | (refine congrArg (fun z => Value.int .i64 z) ?_; omega), hS_, HM⟩
        case measure => first | (simp [intOf]; done) | (simp [intOf]; omega)
    · obtain rfl : i = P := by omega
      go_wp2_with (first
        | (go_big_skip)
        | (refine M.at_mem rfl ?_; first | (refine M.at_store 29 rfl ?_; first | (refine M.store_row_m HM rfl 29 _ _ rfl 0 _ _ _ _ rfl rfl rfl (by kernel_rfl) rfl (by simp [Value.oneCell']) ?_; clear HM; intro w_ HM; (try simp only [M.nrm] at HM); go_simp)) | (refine M.at_alloc 29 rfl ?_; first | (refine M.alloc_m HM rfl rfl 29 rfl (.agg #[(.int .u64 0), (.int .u64 0), (.int .u64 0), (.int .u64 0), (.int .u64 0), (.int .u64 0), (.int .u64 0), (.int .u64 0), (.int .u64 0), (.slice none 0 0)]) (by kernel_rfl) #[(.int .u64 0), (.int .u64 0), (.int .u64 0), (.int .u64 0), (.int .u64 0), (.int .u64 0), (.int .u64 0), (.int .u64 0), (.int .u64 0), (.slice none 0 0)] rfl ?_; clear HM; intro g_ w_ HM; go_simp)) | ((fail_if_success (refine M.lit_t rfl ?_)); (fail_if_success (refine M.lit_f rfl ?_)); refine M.split_guard rfl rfl ?_ ?_ <;> (intro hg_; simp only [hg_]; try simp only [M.hgs] at hg_)))
        | (refine Mc.at_cmp _ rfl ?_; refine Mc.cmp_m rfl _ rfl _ _ _ rfl _ _ _ rfl rfl _ rfl ?_ ?_ <;> (intro hg_; try simp only [M.hgs] at hg_; first | (exfalso; first | omega | (simp at hg_; done)) | (go_simp)))
        | ((fail_if_success (refine M.lit_t rfl ?_)); (fail_if_success (refine M.lit_f rfl ?_)); refine M.split_guard rfl rfl ?_ ?_ <;> (intro hg_; simp only [hg_]; try simp only [M.hgs] at hg_)))
      rw [← sF_0 (max (((i : Int) - 1) * 512) 1)] at hS_
      generalize hmax : max (((i : Int) - 1) * 512) 1 = a0 at hS_
      obtain ⟨a, rfl⟩ : ∃ a : Nat, a0 = a := ⟨a0.toNat, by omega⟩
      have ha1 : 1 ≤ a := by omega
      have ha2 : (a : Int) ≤ i * 512 := by omega
      have ha3 : ((i : Int) - 1) * 512 ≤ a := by omega
      have HMAX := Lib.hid hmax
      clear hmax
      go_loopw [13] (fun vv wr => ∃ (v : Int) (L : Hp), (a : Int) ≤ v ∧ v ≤ i * 512 ∧ vv = .int .i64 v ∧ SC (sF a v) gC_ (pN i) L ∧ Mem w [] L wr) (fun vv _ => ((i : Int) * 512 - intOf vv).toNat)
      case atStart => exact ⟨a, L, by omega, ha2, rfl, hS_, HM⟩
      case round =>
        clear HM hS_
        obtain ⟨v, L, v0, v1, rfl, hS_, HM⟩ := hrel
        by_cases hv : v < i * 512
        · have CAS := asg_c h1 h8 HMAX.out.symm v0 hv hS_
          have hw1 := u64_wrap v (by omega) (by omega)
          have hw2 := u64_wrap (v * 4096) (by omega) (by omega)
          clear hS_
          go_wp2_with (first
            | (go_big_skip)
            | (go_at_call 10; have HM_ : M.Mem _ _ (([]) ++ (L)) _ := HM; (with_reducible refine (M.Does.tail _ (CAS) HM_).mono ?_); clear HM HM_; rintro e w_ ⟨v_, L_, rfl, ⟨rfl, hS_⟩, HM⟩; (try simp only [List.cons_append, List.nil_append, List.append_nil] at HM); dsimp only)
            | (refine M.at_mem rfl ?_; first | (refine M.at_store 29 rfl ?_; first | (refine M.store_row_m HM rfl 29 _ _ rfl 0 _ _ _ _ rfl rfl rfl (by kernel_rfl) rfl (by simp [Value.oneCell']) ?_; clear HM; intro w_ HM; (try simp only [M.nrm] at HM); go_simp)) | (refine M.at_alloc 29 rfl ?_; first | (refine M.alloc_m HM rfl rfl 29 rfl (.agg #[(.int .u64 0), (.int .u64 0), (.int .u64 0), (.int .u64 0), (.int .u64 0), (.int .u64 0), (.int .u64 0), (.int .u64 0), (.int .u64 0), (.slice none 0 0)]) (by kernel_rfl) #[(.int .u64 0), (.int .u64 0), (.int .u64 0), (.int .u64 0), (.int .u64 0), (.int .u64 0), (.int .u64 0), (.int .u64 0), (.int .u64 0), (.slice none 0 0)] rfl ?_; clear HM; intro g_ w_ HM; go_simp)) | ((fail_if_success (refine M.lit_t rfl ?_)); (fail_if_success (refine M.lit_f rfl ?_)); refine M.split_guard rfl rfl ?_ ?_ <;> (intro hg_; simp only [hg_]; try simp only [M.hgs] at hg_)))
            | (refine Mc.at_cmp _ rfl ?_; refine Mc.cmp_m rfl _ rfl _ _ _ rfl _ _ _ rfl rfl _ rfl ?_ ?_ <;> (intro hg_; try simp only [M.hgs] at hg_; first | (exfalso; first | omega | (simp at hg_; done)) | (go_simp)))
            | ((fail_if_success (refine M.lit_t rfl ?_)); (fail_if_success (refine M.lit_f rfl ?_)); refine M.split_guard rfl rfl ?_ ?_ <;> (intro hg_; simp only [hg_]; try simp only [M.hgs] at hg_)))
          all_goals
            go_roundw
            case rel => exact ⟨v + 1, L_, by omega, by omega, rfl, hS_, HM⟩
            case measure => first | (simp [intOf]; done) | (simp [intOf]; omega)
        · obtain rfl : v = i * 512 := by omega
          have CFU := full_c h1 h8 HMAX.out.symm hS_
          obtain ⟨n, hn⟩ : ∃ n : Nat, a + n = i * 512 := ⟨i * 512 - a, by omega⟩
          have hn2 : (i : Int) * 512 - a = n := by omega
          have HN := Lib.hid hn
          by_cases hc : (a : Int) ≤ clear ∧ clear < i * 512
          · obtain ⟨hc0, hc1⟩ := hc
            clear hS_ hn
            go_wp2_with (first
              | (go_big_skip)
              | (go_at_call 10; first | (have HM_ : M.Mem _ _ ([] ++ L) _ := HM; (with_reducible refine (M.Does.tail _ CFU HM_).mono ?_); clear HM HM_ CFU; rintro e w_ ⟨v_, L_, rfl, ⟨rfl, hS_⟩, HM⟩; (try simp only [List.append_nil, List.nil_append] at HM); dsimp only) | (have HM_ : M.Mem _ _ ([] ++ L_) _ := HM; (with_reducible refine (M.Does.tail _ (again h1 h8 HMAX.out.symm hc0 hc1 hS_) HM_).mono ?_); clear HM HM_; rintro e w_ ⟨v_, L_, rfl, ⟨rfl, hS_⟩, HM⟩; (try simp only [List.append_nil, List.nil_append] at HM); dsimp only))
              | (go_at_call 11; have HM_ : M.Mem _ _ (([]) ++ (L_)) _ := HM; (with_reducible refine (M.Does.tail _ (list_c ha1 HN.out hS_) HM_).mono ?_); clear HM HM_; rintro e w_ ⟨v_, L_, rfl, ⟨q_, c_, rfl, hS_⟩, HM⟩; (try simp only [List.cons_append, List.nil_append, List.append_nil] at HM); dsimp only)
              | (go_at_call 12; have HM_ : M.Mem _ _ (([]) ++ (L_)) _ := HM; (with_reducible refine (M.Does.tail _ (clr_in (by omega) hc0 hc1 c1 hS_) HM_).mono ?_); clear HM HM_; rintro e w_ ⟨v_, L_, rfl, ⟨rfl, hS_⟩, HM⟩; (try simp only [List.cons_append, List.nil_append, List.append_nil] at HM); dsimp only)
              | (refine M.at_mem rfl ?_; first | (refine M.at_store 29 rfl ?_; first | (refine M.store_row_m HM rfl 29 _ _ rfl 0 _ _ _ _ rfl rfl rfl (by kernel_rfl) rfl (by simp [Value.oneCell']) ?_; clear HM; intro w_ HM; (try simp only [M.nrm] at HM); go_simp)) | (refine M.at_alloc 29 rfl ?_; first | (refine M.alloc_m HM rfl rfl 29 rfl (.agg #[(.int .u64 0), (.int .u64 0), (.int .u64 0), (.int .u64 0), (.int .u64 0), (.int .u64 0), (.int .u64 0), (.int .u64 0), (.int .u64 0), (.slice none 0 0)]) (by kernel_rfl) #[(.int .u64 0), (.int .u64 0), (.int .u64 0), (.int .u64 0), (.int .u64 0), (.int .u64 0), (.int .u64 0), (.int .u64 0), (.int .u64 0), (.slice none 0 0)] rfl ?_; clear HM; intro g_ w_ HM; go_simp)) | ((fail_if_success (refine M.lit_t rfl ?_)); (fail_if_success (refine M.lit_f rfl ?_)); refine M.split_guard rfl rfl ?_ ?_ <;> (intro hg_; simp only [hg_]; try simp only [M.hgs] at hg_)))
              | (refine Mc.at_cmp _ rfl ?_; refine Mc.cmp_m rfl _ rfl _ _ _ rfl _ _ _ rfl rfl _ rfl ?_ ?_ <;> (intro hg_; try simp only [M.hgs] at hg_; first | (exfalso; first | omega | (simp at hg_; done)) | (go_simp)))
              | ((fail_if_success (refine M.lit_t rfl ?_)); (fail_if_success (refine M.lit_f rfl ?_)); refine M.split_guard rfl rfl ?_ ?_ <;> (intro hg_; simp only [hg_]; try simp only [M.hgs] at hg_)))
            all_goals
              go_ret
              exact ⟨by first | rfl | simp, HM.none.to_below⟩
          · have HC := Lib.hid hc
            rcases (show clear < a ∨ ((a : Int) ≤ clear ∧ i * 512 ≤ clear) by omega) with hc2 | ⟨hc2, hc3⟩
            all_goals
              clear hS_ hn hc
              go_wp2_with (first
                | (go_big_skip)
                | (go_at_call 10; have HM_ : M.Mem _ _ (([]) ++ (L)) _ := HM; (with_reducible refine (M.Does.tail _ (CFU) HM_).mono ?_); clear HM HM_; rintro e w_ ⟨v_, L_, rfl, ⟨rfl, hS_⟩, HM⟩; (try simp only [List.cons_append, List.nil_append, List.append_nil] at HM); dsimp only)
                | (go_at_call 11; have HM_ : M.Mem _ _ (([]) ++ (L_)) _ := HM; (with_reducible refine (M.Does.tail _ (list_c ha1 HN.out hS_) HM_).mono ?_); clear HM HM_; rintro e w_ ⟨v_, L_, rfl, ⟨q_, c_, rfl, hS_⟩, HM⟩; (try simp only [List.cons_append, List.nil_append, List.append_nil] at HM); dsimp only)
                | (go_at_call 12; have HM_ : M.Mem _ _ (([]) ++ (L_)) _ := HM; (with_reducible refine (M.Does.tail _ (clr_out HC.out c1 hS_) HM_).mono ?_); clear HM HM_; rintro e w_ ⟨v_, L_, rfl, ⟨rfl, hS_⟩, HM⟩; (try simp only [List.cons_append, List.nil_append, List.append_nil] at HM); dsimp only)
                | (refine M.at_mem rfl ?_; first | (refine M.at_store 29 rfl ?_; first | (refine M.store_row_m HM rfl 29 _ _ rfl 0 _ _ _ _ rfl rfl rfl (by kernel_rfl) rfl (by simp [Value.oneCell']) ?_; clear HM; intro w_ HM; (try simp only [M.nrm] at HM); go_simp)) | (refine M.at_alloc 29 rfl ?_; first | (refine M.alloc_m HM rfl rfl 29 rfl (.agg #[(.int .u64 0), (.int .u64 0), (.int .u64 0), (.int .u64 0), (.int .u64 0), (.int .u64 0), (.int .u64 0), (.int .u64 0), (.int .u64 0), (.slice none 0 0)]) (by kernel_rfl) #[(.int .u64 0), (.int .u64 0), (.int .u64 0), (.int .u64 0), (.int .u64 0), (.int .u64 0), (.int .u64 0), (.int .u64 0), (.int .u64 0), (.slice none 0 0)] rfl ?_; clear HM; intro g_ w_ HM; go_simp)) | ((fail_if_success (refine M.lit_t rfl ?_)); (fail_if_success (refine M.lit_f rfl ?_)); refine M.split_guard rfl rfl ?_ ?_ <;> (intro hg_; simp only [hg_]; try simp only [M.hgs] at hg_)))
                | (refine Mc.at_cmp _ rfl ?_; refine Mc.cmp_m rfl _ rfl _ _ _ rfl _ _ _ rfl rfl _ rfl ?_ ?_ <;> (intro hg_; try simp only [M.hgs] at hg_; first | (exfalso; first | omega | (simp at hg_; done)) | (go_simp)))
                | ((fail_if_success (refine M.lit_t rfl ?_)); (fail_if_success (refine M.lit_f rfl ?_)); refine M.split_guard rfl rfl ?_ ?_ <;> (intro hg_; simp only [hg_]; try simp only [M.hgs] at hg_)))
              all_goals
                go_ret
                exact ⟨by first | rfl | simp, HM.none.to_below⟩
theorem law_any (pools clear : Int) (c0 : -9223372036854775808 ≤ clear) (c1 : clear ≤ 9223372036854775807) (w : World) : Calls Try.prog 3 #[.int .i64 pools, .int .i64 clear] w fun e w' => e = .returned (.bool true) ∧ Below w.heap.size w w' := by
  by_cases h : pools < 1 ∨ 8 < pools
  · exact fills_no pools clear h w
  · obtain ⟨P, rfl⟩ : ∃ P : Nat, pools = P := ⟨pools.toNat, by omega⟩
    exact fills_in P (by omega) (by omega) clear c0 (by omega) w
end Go.Proofs.Ytndeaikmelpflaa.Cc
