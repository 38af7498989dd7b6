/- The spaces of a pool, one by one. -/
import Derived.Test.YtndeaikmelpflaaBa
import Derived.Test.YtndeaikmelpflaaAb
import Derived.OwnWalkIn
import Derived.TacticsInMore
import Derived.LoopNIn
import Derived.LoopIn
import Derived.WalkKit
namespace Go.Proofs.Ytndeaikmelpflaa.Bb
open Go.RowKit Go.Shelf Go.Proofs.Ytndeaikmelpflaa.G Go.Proofs.Ytndeaikmelpflaa.B Go.Proofs.Ytndeaikmelpflaa.M Go.Proofs.Ytndeaikmelpflaa.Ma Go.Proofs.Ytndeaikmelpflaa.Ya Go.Proofs.Ytndeaikmelpflaa.Yb Go.Proofs.Ytndeaikmelpflaa.Yc Go.Proofs.Ytndeaikmelpflaa.Aa Go.Proofs.Ytndeaikmelpflaa.Ab Go.Proofs.Ytndeaikmelpflaa.Ba
set_option linter.unusedVariables false
set_option linter.unusedSimpArgs false
set_option maxRecDepth 100000
/-- The first n spaces of a pool: virtual ASID and space. -/
def upto (f : Int → Int) (ps : Nat → Int) (pool : Int) (n : Nat) : List (Int × Int) := (List.range n).filterMap fun (i : Nat) => if spc f ps (pool * 512 + i) = 0 then none else some (pool * 512 + (i : Int), spc f ps (pool * 512 + i))
theorem upto_zero (f : Int → Int) (ps : Nat → Int) (pool : Int) : upto f ps pool 0 = [] := rfl
theorem upto_no {f : Int → Int} {ps : Nat → Int} {pool : Int} {n : Nat} (h : spc f ps (pool * 512 + n) = 0) : upto f ps pool (n + 1) = upto f ps pool n := by
  simp [upto, List.range_succ, List.filterMap_append, h]
theorem upto_yes {f : Int → Int} {ps : Nat → Int} {pool : Int} {n : Nat} (h : spc f ps (pool * 512 + n) ≠ 0) : upto f ps pool (n + 1) = upto f ps pool n ++ [(pool * 512 + (n : Int), spc f ps (pool * 512 + n))] := by
  simp [upto, List.range_succ, List.filterMap_append, h]
theorem upto_len (f : Int → Int) (ps : Nat → Int) (pool : Int) (n : Nat) : (upto f ps pool n).length ≤ n := by
  have := List.length_filterMap_le (fun (i : Nat) => if spc f ps (pool * 512 + i) = 0 then none else some (pool * 512 + (i : Int), spc f ps (pool * 512 + i))) (List.range n)
  simpa [upto] using this
theorem upto_pre (f : Int → Int) (ps : Nat → Int) (pool : Int) {n m : Nat} (h : n ≤ m) : upto f ps pool n <+: upto f ps pool m := by
  obtain ⟨k, rfl⟩ := Nat.exists_eq_add_of_le h
  clear h
  induction k with
  | zero => exact List.prefix_rfl
  | succ k ih =>
    refine ih.trans ?_
    by_cases hz : spc f ps (pool * 512 + ((n + k : Nat) : Int)) = 0
    · rw [← Nat.add_assoc, upto_no hz]; exact List.prefix_rfl
    · rw [← Nat.add_assoc, upto_yes hz]; exact List.prefix_append _ _
abbrev lst (f : Int → Int) (ps : Nat → Int) (pool : Int) : List (Int × Int) := upto f ps pool 512
def encs (x : Int × Int) : Array Value := #[.int .i64 x.1, .int .u64 x.2]
/-- What the iterator reads. -/
def itR (gM gC : Nat) (ps : Nat → Int) (pool : Int) (Bc Bp : Nat) (AM : Hp) : Hp := (Bc, row #[.pointer (some ⟨gC, 0, none⟩)] 23) :: (Bp, row #[.int .i64 pool] 3) :: (gC, row (ccells gM ps) 68) :: AM
theorem spc_no {ps : Nat → Int} {pool : Int} (f : Int → Int) (h : okP ps pool = false) (i : Nat) (hi : i < 512) : spc f ps (pool * 512 + i) = 0 := by
  have e : (pool * 512 + (i : Int)) / 512 = pool := by omega
  unfold spc okA
  rw [e, h]
  simp
theorem upto_gone {ps : Nat → Int} {pool : Int} (f : Int → Int) (h : okP ps pool = false) : ∀ n : Nat, n ≤ 512 → upto f ps pool n = []
  | 0, _ => rfl
  | n + 1, hn => by rw [upto_no (spc_no f h n (by omega))]; exact upto_gone f h n (by omega)
set_option maxHeartbeats 4000000 in
theorem spaces_in {f : Int → Int} {gM gC : Nat} {ps : Nat → Int} {AM : Hp} (hP : Pm 131072 f gM AM) (h : Psok ps) (pool : Int) (p0 : 0 ≤ pool) (p8 : pool < 8) (Bc Bp : Nat) (l : Nat) (J Jx : List (Int × Int) → World → Prop) (W : World)
    (hJ : AbidesFrom W.heap.size J) (hJx : AbidesFrom W.heap.size Jx)
    (hY : ∀ pre x W1, J pre W1 → pre.length < 512 → YieldAt Fence.wide 3 Try.prog l (encs x) W1 fun e W' => (e = .returned (.bool true) ∧ J (pre ++ [x]) W' ∧ KpR (itR gM gC ps pool Bc Bp AM) W1 W') ∨ (e = .returned (.bool false) ∧ Jx (pre ++ [x]) W'))
    (hH : Has (itR gM gC ps pool Bc Bp AM) W) (h0 : J [] W) :
    CallsIn Fence.wide 4 Try.prog 43 #[.func (.yield l) #[] #[], .pointer (some ⟨Bc, 0, none⟩), .pointer (some ⟨Bp, 0, none⟩)] W fun e W' => (∃ v, e = .returned v) ∧ ((∃ ys, ys = lst f ps pool ∧ J ys W') ∨ (∃ pre, pre <+: lst f ps pool ∧ Jx pre W')) := by
  have hc1 : W.cell? ⟨Bc, 0, none⟩ = some (.pointer (some ⟨gC, 0, none⟩)) := cell_of (hH.get 0 rfl) (i := 0) rfl
  have hc2 : W.cell? ⟨Bp, 0, none⟩ = some (.int .i64 pool) := cell_of (hH.get 1 rfl) (i := 0) rfl
  have hC : ∀ {W : World}, Has (itR gM gC ps pool Bc Bp AM) W → Has [(gC, row (ccells gM ps) 68)] W := fun hh => (hh.perm (L' := [(gC, row (ccells gM ps) 68)] ++ ((Bc, row #[.pointer (some ⟨gC, 0, none⟩)] 23) :: (Bp, row #[.int .i64 pool] 3) :: AM)) (perm_at 2 rfl)).left
  by_cases ho : okP ps pool = true
  rotate_left
  · have ho' : okP ps pool = false := by simpa using ho
    have CP := pool_any gM gC ps pool
    rw [ho'] at CP
    refine callsIn_of_wp Try.func43 rfl trivial ?_ rfl
    simp only [Try.ntmps43, List.size_toArray, List.length_cons, List.length_nil, Nat.reduceAdd, Nat.reduceSub, Array.replicate_succ, Array.replicate_zero, List.push_toArray, List.append_toArray, List.nil_append, List.cons_append]
    gi_wp2_with (refine ⟨trivial, ?_⟩; gi_at_call 15; refine (callsIn_wide.2 (does_still CP (hC hH))).mono ?_; rintro e w1 ⟨rfl, hb1⟩)
    gi_loopw [6] (fun p wr => J [] wr) (fun _ _ => 0)
    case atStart => exact abide hJ h0 hb1
    case round =>
      gi_wp2
      go_end0
      exact ⟨⟨_, rfl⟩, .inl ⟨[], (upto_gone f ho' 512 (by omega)).symm, hrel⟩⟩
  · have CP := pool_any gM gC ps pool
    rw [ho] at CP
    obtain ⟨t0, t1, t2⟩ := poolP_rng h pool
    have hs : ∀ i : Nat, i < 512 → spc f ps (pool * 512 + i) = if pool * 512 + (i : Int) = 0 then 0 else f ((poolP ps pool + i * 8) / 8) := fun i hi => by
      have e : (pool * 512 + (i : Int)) / 512 = pool := by omega
      have e2 : (pool * 512 + (i : Int)) % 512 = i := by omega
      unfold spc okA atA
      rw [e, e2, ho, Bool.and_true]
      by_cases hz : pool * 512 + (i : Int) = 0
      · rw [if_pos hz, hz]; rfl
      · rw [if_neg hz, decide_eq_true (show (1 : Int) ≤ pool * 512 + i by omega), if_pos rfl, if_pos (by omega)]
    have CR : ∀ i : Nat, i < 512 → Does Try.prog 17 #[.pointer (some ⟨gM, 0, none⟩), .int .u64 (poolP ps pool + i * 8)] AM fun r L => r = .tuple #[.int .u64 (f ((poolP ps pool + i * 8) / 8)), .int .i64 0] ∧ L = AM := fun i hi => by
      have := read_any hP (poolP ps pool + i * 8) (by omega) (by omega)
      unfold readV at this
      rwa [if_pos (errV_ok (by omega) (by omega))] at this
    have hA : ∀ {W : World}, Has (itR gM gC ps pool Bc Bp AM) W → Has AM W := fun hh => Has.right (A := [_, _, _]) hh
    generalize poolP ps pool = at_ at CP CR hs t0 t1 t2
    refine callsIn_of_wp Try.func43 rfl trivial ?_ rfl
    simp only [Try.ntmps43, List.size_toArray, List.length_cons, List.length_nil, Nat.reduceAdd, Nat.reduceSub, Array.replicate_succ, Array.replicate_zero, List.push_toArray, List.append_toArray, List.nil_append, List.cons_append]
    gi_wp2_with (refine ⟨trivial, ?_⟩; gi_at_call 15; refine (callsIn_wide.2 (does_still CP (hC hH))).mono ?_; rintro e w1 ⟨rfl, hb1⟩)
    gi_loopw [6] (fun p wr => ∃ i : Nat, i ≤ 512 ∧ p = .int .i64 i ∧ Has (itR gM gC ps pool Bc Bp AM) wr ∧ J (upto f ps pool i) wr) (fun p _ => 512 - (intOf p).toNat)
    case atStart => exact ⟨0, by omega, rfl, has_below hH hb1, abide hJ h0 hb1⟩
    case round =>
      obtain ⟨i, hi, rfl, HH, HJ⟩ := hrel
      have hc1 : wr.cell? ⟨Bc, 0, none⟩ = some (.pointer (some ⟨gC, 0, none⟩)) := cell_of (HH.get 0 rfl) (i := 0) rfl
      have hc2 : wr.cell? ⟨Bp, 0, none⟩ = some (.int .i64 pool) := cell_of (HH.get 1 rfl) (i := 0) rfl
      have hc3 : wr.cell? ⟨gC, 0, none⟩ = some (.pointer (some ⟨gM, 0, none⟩)) := cell_of (HH.get 2 rfl) (i := 0) (ccells_0 gM ps)
      by_cases hlt : i < 512
      · have CRi := CR i hlt
        have hsi := hs i hlt
        generalize f ((at_ + i * 8) / 8) = sv at CRi hsi
        by_cases hz : pool * 512 + (i : Int) = 0
        · rw [if_pos hz] at hsi
          have hu := upto_no hsi
          by_cases hsv : sv = 0
          · subst hsv
            gi_wp2_with (refine ⟨trivial, ?_⟩; gi_at_call 17; refine (callsIn_wide.2 (does_still CRi (hA HH))).mono ?_; rintro e w1 ⟨rfl, hb1⟩; have HH1 := has_below HH hb1; have HJ1 := abide hJ HJ hb1; have hc4 : w1.cell? ⟨Bp, 0, none⟩ = some (.int .i64 pool) := cell_of (HH1.get 1 rfl) (i := 0) rfl)
            refine ⟨fun _ h => (by cases h), ?_⟩
            gi_wp2
            go_roundw
            case rel => exact ⟨i + 1, by omega, by first | rfl | (refine congrArg (fun z => Value.int .i64 z) ?_; omega), HH1, by rw [hu]; exact HJ1⟩
            case measure => first | (simp [intOf]; done) | (simp [intOf]; omega)
          · gi_wp2_with (refine ⟨trivial, ?_⟩; gi_at_call 17; refine (callsIn_wide.2 (does_still CRi (hA HH))).mono ?_; rintro e w1 ⟨rfl, hb1⟩; have HH1 := has_below HH hb1; have HJ1 := abide hJ HJ hb1; have hc4 : w1.cell? ⟨Bp, 0, none⟩ = some (.int .i64 pool) := cell_of (HH1.get 1 rfl) (i := 0) rfl)
            refine ⟨fun _ h => (by cases h), ?_⟩
            gi_wp2
            go_roundw
            case rel => exact ⟨i + 1, by omega, by first | rfl | (refine congrArg (fun z => Value.int .i64 z) ?_; omega), HH1, by rw [hu]; exact HJ1⟩
            case measure => first | (simp [intOf]; done) | (simp [intOf]; omega)
        · rw [if_neg hz] at hsi
          by_cases hsv : sv = 0
          · subst hsv
            have hu := upto_no hsi
            gi_wp2_with (refine ⟨trivial, ?_⟩; gi_at_call 17; refine (callsIn_wide.2 (does_still CRi (hA HH))).mono ?_; rintro e w1 ⟨rfl, hb1⟩; have HH1 := has_below HH hb1; have HJ1 := abide hJ HJ hb1; have hc4 : w1.cell? ⟨Bp, 0, none⟩ = some (.int .i64 pool) := cell_of (HH1.get 1 rfl) (i := 0) rfl)
            refine ⟨fun _ h => (by cases h), ?_⟩
            gi_wp2
            go_roundw
            case rel => exact ⟨i + 1, by omega, by first | rfl | (refine congrArg (fun z => Value.int .i64 z) ?_; omega), HH1, by rw [hu]; exact HJ1⟩
            case measure => first | (simp [intOf]; done) | (simp [intOf]; omega)
          · have hu := upto_yes (f := f) (ps := ps) (pool := pool) (n := i) (by rw [hsi]; exact hsv)
            rw [hsi] at hu
            gi_wp2_with (refine ⟨trivial, ?_⟩; gi_at_call 17; refine (callsIn_wide.2 (does_still CRi (hA HH))).mono ?_; rintro e w1 ⟨rfl, hb1⟩; have HH1 := has_below HH hb1; have HJ1 := abide hJ HJ hb1; have hc4 : w1.cell? ⟨Bp, 0, none⟩ = some (.int .i64 pool) := cell_of (HH1.get 1 rfl) (i := 0) rfl; obtain ⟨fn, tmps, assign, body, hy, hRd⟩ := hY (upto f ps pool i) (pool * 512 + (i : Int), sv) w1 HJ1 (Nat.lt_of_le_of_lt (upto_len f ps pool i) hlt); dsimp only [encs] at hy)
            refine hRd.mono ?_
            rintro e W3 (⟨rfl, HJ3, hk3⟩ | ⟨rfl, HJ3⟩)
            · gi_wp2
              go_roundw
              case rel => exact ⟨i + 1, by omega, by first | rfl | (refine congrArg (fun z => Value.int .i64 z) ?_; omega), hk3 HH1, by rw [hu]; exact HJ3⟩
              case measure => first | (simp [intOf]; done) | (simp [intOf]; omega)
            · gi_wp2
              refine bodyPost_ret (results_none rfl _ _ _) rfl ?_
              refine ⟨⟨_, rfl⟩, .inr ⟨_, ?_, HJ3⟩⟩
              rw [← hu]
              exact upto_pre f ps pool (by omega)
      · obtain rfl : i = 512 := by omega
        gi_wp2
        go_end0
        exact ⟨⟨_, rfl⟩, .inl ⟨_, rfl, HJ⟩⟩
end Go.Proofs.Ytndeaikmelpflaa.Bb
