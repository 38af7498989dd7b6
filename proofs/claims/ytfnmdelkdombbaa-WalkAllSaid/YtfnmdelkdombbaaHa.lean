/- The functions of the reference of layer 1 (words as arrays of bits), and the lowest bits of a level: what each call answers. -/
import Derived.Test.YtfnmdelkdombbaaProg
import Derived.WalkKit
import Derived.KernelRfl
import Derived.Laws.Rows
import Derived.Deep.LoopGhost
import Derived.Test.YtfnmdelkdombbaaG
import Derived.Test.YtfnmdelkdombbaaB
namespace Go.Proofs.Ytfnmdelkdombbaa.Ha
open Go.RowKit Go.Proofs.Ytfnmdelkdombbaa.G Go.Proofs.Ytfnmdelkdombbaa.B
set_option linter.unusedVariables false
set_option linter.unusedSimpArgs false

/-- Of a number's bits the first k, the rest false. -/
def upTo (x : Int) (k : Nat) : List Bool := (List.range 64).map fun i => decide (i < k) && decide (x / 2 ^ i % 2 = 1)
def bitsL (x : Int) : List Bool := (List.range 64).map fun i => decide (x / 2 ^ i % 2 = 1)
theorem upTo_length (x : Int) (k : Nat) : (upTo x k).length = 64 := by simp [upTo]
theorem upTo_zero (x : Int) : upTo x 0 = List.replicate 64 false := by
  simp [upTo, List.map_const']
theorem upTo_all (x : Int) : upTo x 64 = bitsL x := by
  unfold upTo bitsL
  apply List.map_congr_left
  intro i hi
  have : i < 64 := by simpa using hi
  simp [this]
theorem upTo_set (x : Int) (k : Nat) (hk : k < 64) : (upTo x k).set k (decide (x / 2 ^ k % 2 = 1)) = upTo x (k + 1) := by
  apply List.ext_getElem?
  intro i
  unfold upTo
  rw [List.getElem?_set]
  by_cases hi : k = i
  · subst hi; simp [hk]
  · rw [if_neg hi]
    simp only [List.getElem?_map]
    by_cases h6 : i < 64
    · simp [h6]
      by_cases h : i < k
      · have : i < k + 1 := by omega
        simp [h, this]
      · have : ¬ i < k + 1 := by omega
        simp [h, this]
    · have : (List.range 64)[i]? = none := by simp; omega
      simp [this]
def bcells (l : List Bool) : Array Value := (l.map Value.bool).toArray
theorem bcells_set (l : List Bool) (k : Nat) (b : Bool) (hk : k < l.length) : (bcells l).setIfInBounds k (.bool b) = bcells (l.set k b) := by
  simp [bcells, List.map_set]
theorem bcells_get (l : List Bool) (k : Nat) (hk : k < l.length) : (bcells l)[k]? = some (.bool (l.getD k false)) := by
  simp [bcells, List.getElem?_eq_getElem hk]

theorem half_u64 (x : Int) (k : Nat) (h0 : 0 ≤ x) (h1 : x < 18446744073709551616) : IntKind.u64.wrap ((x / 2 ^ k).tdiv 2) = x / 2 ^ (k + 1) := by
  obtain ⟨a, b⟩ := shr_range x k h0 h1
  obtain ⟨c, d⟩ := shr_range x (k + 1) h0 h1
  have e : (x / 2 ^ k).tdiv 2 = x / 2 ^ (k + 1) := by
    rw [Int.tdiv_eq_ediv_of_nonneg a, Int.ediv_ediv_of_nonneg (Int.le_of_lt (pow_pos' k)), Int.pow_succ]
  rw [e]
  simp [IntKind.wrap, IntKind.bits, IntKind.signed]
  omega
theorem odd_bool (x : Int) (k : Nat) (h0 : 0 ≤ x) (h1 : x < 18446744073709551616) : ((x / 2 ^ k).tmod 2 == 1) = decide (x / 2 ^ k % 2 = 1) := by
  rw [Int.tmod_eq_emod_of_nonneg (shr_range x k h0 h1).1]
  rfl

theorem bcells_one (l : List Bool) : (bcells l).all (·.oneCell') = true := by
  rw [Array.all_eq_true_iff_forall_mem]
  intro v hv
  simp [bcells] at hv
  rcases hv with ⟨_, rfl⟩ | ⟨_, rfl⟩ <;> rfl
theorem bcells_size (l : List Bool) : (bcells l).size = l.length := by simp [bcells]
theorem below_setRow {B : Nat} {a w : World} (h : Below B a w) {g : Nat} (hg : B ≤ g) (cs : Array Value) : Below B a (w.setRow g cs) :=
  h.trans ⟨rfl, rfl, rfl, by simp, fun k hk => by
    simp only [World.setRow, Array.getElem?_modify]
    rw [if_neg (by omega)]⟩
set_option maxRecDepth 100000 in
set_option maxHeartbeats 800000 in
theorem bits_any (x : Int) (h0 : 0 ≤ x) (h1 : x < 18446744073709551616) (w : World) :
    Calls Try.prog 45 #[.int .u64 x] w fun e w' => e = .returned (.agg (bcells (bitsL x))) ∧ Below w.heap.size w w' := by
  go_enter Try.func45, Try.ntmps45
  go_wp2_with fail
  go_loopw [0, 4] (fun xv iv wr => ∃ k : Nat, k ≤ 64 ∧ iv = .int .i64 k ∧ xv = .int .u64 (x / 2 ^ k) ∧ w.heap.size + 1 < wr.heap.size ∧ wr.heap[w.heap.size]? = some (.cells (bcells (List.replicate 64 false)) 100 (0, 0)) ∧ wr.heap[w.heap.size + 1]? = some (.cells (bcells (upTo x k)) 100 (0, 0)) ∧ Below w.heap.size w wr)
    (fun _ iv _ => 64 - (intOf iv).toNat)
  case atStart =>
    refine ⟨0, by omega, rfl, by simp, by simp, ?_, ?_, ?_⟩
    · rw [heap_alloc2_old]; rfl
    · rw [heap_alloc2_new, upTo_zero]; rfl
    · exact ((Below.refl _ _).alloc (Nat.le_refl _) _).alloc (by simp) _
  case round =>
    obtain ⟨k, hk, rfl, rfl, hsz, ha, hb, hB⟩ := hrel
    have hl := upTo_length x k
    by_cases hlt : k < 64
    · have hc := fun j => cell_of_row wr (w.heap.size + 1) j _ _ _ hb
      have hf := fun j => frozen_of_row wr (w.heap.size + 1) j _ _ hb
      have hck : wr.cell? ⟨w.heap.size + 1, k, none⟩ = some (.bool ((upTo x k).getD k false)) := by rw [hc, bcells_get _ _ (by omega)]
      have hfk := hf k
      clear hc hf
      go_wp2
      go_roundw
      case rel =>
        refine ⟨k + 1, by omega, by go_num, ?_, ?_, ?_, ?_, ?_⟩
        · rw [half_u64 x k h0 h1]
        · simpa using hsz
        · rw [heap_setCell_other _ _ _ _ (by simp)]; exact ha
        · rw [heap_setCell_same _ _ _ _ _ _ hb, odd_bool x k h0 h1, bcells_set _ _ _ (by omega), upTo_set _ _ hlt]
        · exact hB.setCell (by simp) _
      case measure => simp [intOf]; omega
    · obtain rfl : k = 64 := by omega
      have h1 := bcells_one (upTo x 64)
      have h2 : (bcells (List.replicate 64 false)).size = (bcells (upTo x 64)).size := by simp [bcells, hl]
      have h3 : (Try.prog.info? 100).map (·.size) = some (bcells (upTo x 64)).size := by rw [bcells_size, hl]; kernel_rfl
      have H2 := Lib.hid h2; clear h2
      have H3 := Lib.hid h3; clear h3
      have H1 := Lib.hid h1; clear h1
      go_wp2_with (first | refine wpList_load_row rfl _ _ rfl _ rfl _ _ _ _ hb Try.underlying100 rfl H3.out ?_ | refine wpList_store_row rfl _ _ _ rfl _ _ rfl rfl _ _ ha H3.out H2.out H1.out ?_)
      refine ⟨rfl, _, results_cell_row (P := Try.prog) (fn := Try.f45) (p := 2) (ty := 100) (by rfl) _ _ _ _ _ _ _ rfl (setRow_heap wr w.heap.size _ (bcells (upTo x 64)) _ _ ha) Try.underlying100 rfl H3.out, ?_, ?_⟩
      · rw [upTo_all]
      · exact below_setRow hB (Nat.le_refl _) _
/-! ### Word -/
def wordL : List Bool → Int
  | [] => 0
  | b :: l => 2 * wordL l + (if b then 1 else 0)
theorem wordL_range (l : List Bool) : 0 ≤ wordL l ∧ wordL l < 2 ^ l.length := by
  induction l with
  | nil => simp [wordL]
  | cons b l ih =>
    simp only [wordL, List.length_cons, Int.pow_succ]
    cases b <;> simp <;> omega
theorem wordL_drop (l : List Bool) (i : Nat) (hi : i < l.length) : wordL (l.drop i) = 2 * wordL (l.drop (i + 1)) + (if l.getD i false then 1 else 0) := by
  rw [List.drop_eq_getElem_cons hi]
  simp [wordL, hi]
theorem wordL_small (l : List Bool) (i : Nat) (hl : l.length = 64) : 0 ≤ wordL (l.drop i) ∧ wordL (l.drop i) < 2 ^ (64 - i) := by
  have := wordL_range (l.drop i)
  rw [List.length_drop, hl] at this
  exact this

set_option maxRecDepth 100000 in
set_option maxHeartbeats 800000 in
theorem word_any (l : List Bool) (hl : l.length = 64) (w : World) :
    Calls Try.prog 46 #[.agg (bcells l)] w fun e w' => e = .returned (.int .u64 (wordL l)) ∧ Below w.heap.size w w' := by
  have h0 := wordL_range l
  go_enter Try.func46, Try.ntmps46
  go_wp2_with (refine box_ev rfl rfl _ _ rfl (.agg (bcells l)) rfl ?_; intro g hgB w1 hb hB; simp only [Value.cells] at hb)
  go_loopw [3, 4] (fun xv iv wr => ∃ k : Nat, k ≤ 64 ∧ iv = .int .i64 ((k : Int) - 1) ∧ xv = .int .u64 (wordL (l.drop k)) ∧ wr.heap[g]? = some (.cells (bcells l) 100 (0, 0)) ∧ Below w.heap.size w wr)
    (fun _ iv _ => (intOf iv + 1).toNat)
  case atStart =>
    refine ⟨64, by omega, rfl, ?_, hb, hB⟩
    rw [List.drop_eq_nil_of_le (by omega)]; rfl
  case round =>
    obtain ⟨k, hk, rfl, rfl, hb', hB'⟩ := hrel
    by_cases hlt : 0 < k
    · obtain ⟨j, rfl⟩ : ∃ j, k = j + 1 := ⟨k - 1, by omega⟩
      have e1 : (((j + 1 : Nat) : Int) - 1) = (j : Int) := by omega
      have hc : wr.cell? ⟨g, j, none⟩ = some (.bool (l.getD j false)) := by rw [cell_of_row wr g j _ _ _ hb', bcells_get _ _ (by omega)]
      have hw := wordL_small l (j + 1) hl
      have hp := pow_le64 (64 - (j + 1)) (by omega)
      have hd := wordL_drop l j (by omega)
      have HD := Lib.hid hd; clear hd
      have hx : IntKind.u64.wrap (wordL (l.drop (j + 1)) * 2) = 2 * wordL (l.drop (j + 1)) := by rw [u64_wrap _ (by omega) (by omega)]; omega
      rw [e1]
      generalize hbv : l.getD j false = b at *
      have HBV := Lib.hid hbv; clear hbv
      generalize hwv : wordL (l.drop (j + 1)) = v at *
      clear hwv
      have hz := u64_wrap (2 * v + 1) (by omega) (by omega)
      clear hb hB e1
      cases b
      all_goals
        go_wp2
        go_roundw
        case rel =>
          refine ⟨j, by omega, rfl, ?_, hb', hB'⟩
          rw [HD.out]
          simp
        case measure => simp [intOf]
    · obtain rfl : k = 0 := by omega
      clear hb hB
      go_wp2
      go_ret
      exact ⟨by simp, hB'⟩

/-! ### What the words are -/
theorem upTo_shift (x : Int) (low : Nat) (k i : Nat) (hi : i < 64) : (upTo (x / 2 ^ low) k).getD i false = (decide (i < k) && decide (x / 2 ^ (low + i) % 2 = 1)) := by
  have e : x / 2 ^ low / 2 ^ i = x / 2 ^ (low + i) := by
    rw [Int.ediv_ediv_of_nonneg (Int.le_of_lt (pow_pos' low)), Int.pow_add]
  simp [upTo, hi, e]
theorem bitsL_getD (x : Int) (i : Nat) (hi : i < 64) : (bitsL x).getD i false = decide (x / 2 ^ i % 2 = 1) := by simp [bitsL, hi]
theorem bitsL_length (x : Int) : (bitsL x).length = 64 := by simp [bitsL]
theorem wordL_append (a b : List Bool) : wordL (a ++ b) = wordL a + 2 ^ a.length * wordL b := by
  induction a with
  | nil => simp [wordL]
  | cons c a ih =>
    simp only [List.cons_append, wordL, ih, List.length_cons, Int.pow_succ]
    rw [Int.mul_add, Int.mul_left_comm 2]
    have e : 2 ^ a.length * 2 * wordL b = 2 ^ a.length * (2 * wordL b) := Int.mul_assoc _ _ _
    omega
theorem wordL_bits (x : Int) (h0 : 0 ≤ x) (n : Nat) : wordL ((List.range n).map fun i => decide (x / 2 ^ i % 2 = 1)) = x % 2 ^ n := by
  induction n with
  | zero => simp [wordL, Int.emod_one]
  | succ n ih =>
    rw [List.range_succ, List.map_append, wordL_append, ih]
    simp only [List.length_map, List.length_range, List.map_cons, List.map_nil, wordL]
    have h2 : x % 2 ^ (n + 1) = x % 2 ^ n + 2 ^ n * (x / 2 ^ n % 2) := by
      rw [Int.pow_succ]
      have a := Int.emod_add_mul_ediv x (2 ^ n)
      have b := Int.emod_add_mul_ediv (x / 2 ^ n) 2
      have c := Int.emod_add_mul_ediv x (2 ^ n * 2)
      rw [← Int.ediv_ediv_of_nonneg (Int.le_of_lt (pow_pos' n))] at c
      have d : 2 ^ n * 2 * (x / 2 ^ n / 2) = 2 ^ n * (2 * (x / 2 ^ n / 2)) := by rw [Int.mul_assoc]
      have e : 2 ^ n * (x / 2 ^ n) = 2 ^ n * (x / 2 ^ n % 2) + 2 ^ n * (2 * (x / 2 ^ n / 2)) := by rw [← Int.mul_add, b]
      omega
    rw [h2]
    have h3 : x / 2 ^ n % 2 = 0 ∨ x / 2 ^ n % 2 = 1 := by omega
    rcases h3 with h3 | h3 <;> simp [h3]
theorem wordL_false (n : Nat) : wordL (List.replicate n false) = 0 := by
  induction n with
  | zero => rfl
  | succ n ih => simp [List.replicate_succ, wordL, ih]
/-- A list of 64 bits is told by its bits. -/
theorem list64 (l : List Bool) (f : Nat → Bool) (hl : l.length = 64) (h : ∀ i, i < 64 → l.getD i false = f i) : l = (List.range 64).map f := by
  apply List.ext_getElem (by simp [hl])
  intro i h1 h2
  have := h i (by omega)
  simp [List.getElem?_eq_getElem h1] at this
  simp [this]
theorem upTo_word (x : Int) (h0 : 0 ≤ x) (k : Nat) (hk : k ≤ 64) : wordL (upTo x k) = x % 2 ^ k := by
  have e : upTo x k = ((List.range k).map fun i => decide (x / 2 ^ i % 2 = 1)) ++ List.replicate (64 - k) false := by
    apply List.ext_getElem (by simp [upTo]; omega)
    intro i h1 h2
    have hi : i < 64 := by simpa [upTo] using h1
    by_cases h : i < k
    · rw [List.getElem_append_left (by simpa using h)]
      simp [upTo, h]
    · rw [List.getElem_append_right (by simpa using h)]
      simp [upTo, h]
  rw [e, wordL_append, wordL_bits x h0, wordL_false]
  omega

/-! ### Get -/
set_option maxRecDepth 100000 in
set_option maxHeartbeats 800000 in
theorem get_any (x : Int) (low wide : Nat) (h0 : 0 ≤ x) (h1 : x < 18446744073709551616) (h : low + wide ≤ 64) (w : World) :
    Calls Try.prog 29 #[.int .u64 x, .int .i64 low, .int .i64 wide] w fun e w' => e = .returned (.int .u64 (x / 2 ^ low % 2 ^ wide)) ∧ Below w.heap.size w w' := by
  have hz : (Try.prog.info? 100).map (·.zero) = some (some (.agg (bcells (List.replicate 64 false)))) := by kernel_rfl
  have hs : ∀ l : List Bool, l.length = 64 → (Try.prog.info? 100).map (·.size) = some (bcells l).size := by
    intro l hl; rw [bcells_size, hl]; kernel_rfl
  have HZ := Lib.hid hz; clear hz
  have HS := Lib.hid hs; clear hs
  have hlB : (bitsL x).length = 64 := bitsL_length x
  have HLB := Lib.hid hlB; clear hlB
  have hszz : (bcells (List.replicate 64 false)).size = (bcells (bitsL x)).size := by simp [bcells_size, HLB.out]
  have HSZ := Lib.hid hszz; clear hszz
  go_enter Try.func29, Try.ntmps29
  go_wp2_with (first
    | (go_at_call 45; refine (bits_any x h0 h1 _).mono ?_; rintro e w1 ⟨rfl, hB1⟩)
    | (refine alloc_ev (N := 7) rfl rfl _ rfl _ HZ.out _ rfl ?_; intro g hg w2 hb hB2)
    | (refine store_row_ev rfl _ _ _ rfl _ _ rfl rfl _ _ hb (HS.out _ HLB.out) HSZ.out (bcells_one _) ?_; intro w3 hb3 hM3)
    | (refine alloc_ev (N := 8) rfl rfl _ rfl _ HZ.out _ rfl ?_; intro g' hg' w4 hb4 hB4))
  have hbA : w4.heap[g]? = some (.cells (bcells (bitsL x)) 100 (0, 0)) := blk_below hb3 hB4
  have hne : g ≠ g' := by have := blk_lt hb3; omega
  have hbel : Below w.heap.size w w4 := below_step (hM3.below (below_step hB1 hB2) (by have := hB1.size; omega)) hB4
  have hgw : w.heap.size ≤ g' := by have := hB1.size; have := hB2.size; have := hM3.size; omega
  have hz0 : upTo (x / 2 ^ low) 0 = List.replicate 64 false := upTo_zero _
  rw [← hz0] at hb4
  clear hb hB1 hB2 hB4 hg hg' hb3 hM3 hz0 HSZ
  go_loopw [9] (fun iv wr => ∃ k : Nat, k ≤ wide ∧ iv = .int .i64 k ∧ wr.heap[g]? = some (.cells (bcells (bitsL x)) 100 (0, 0)) ∧ wr.heap[g']? = some (.cells (bcells (upTo (x / 2 ^ low) k)) 100 (0, 0)) ∧ Below w.heap.size w wr)
    (fun iv _ => wide - (intOf iv).toNat)
  case atStart => exact ⟨0, by omega, rfl, hbA, hb4, hbel⟩
  case round =>
    obtain ⟨k, hk, rfl, ha, hb, hB⟩ := hrel
    clear hbA hb4 hbel
    by_cases hlt : k < wide
    · have hi : (low : Int) + k = ((low + k : Nat) : Int) := by omega
      have hl := upTo_length (x / 2 ^ low) k
      have hc : wr.cell? ⟨g, low + k, none⟩ = some (.bool (decide (x / 2 ^ low / 2 ^ k % 2 = 1))) := by
        rw [blk_cell ha, bcells_get _ _ (by rw [HLB.out]; omega), bitsL_getD _ _ (by omega)]
        rw [Int.ediv_ediv_of_nonneg (Int.le_of_lt (pow_pos' low)), Int.pow_add]
      have hlt' : k < (bcells (upTo (x / 2 ^ low) k)).size := by rw [bcells_size]; omega
      generalize hbv : decide (x / 2 ^ low / 2 ^ k % 2 = 1) = bv at *
      have HBV := Lib.hid hbv; clear hbv
      have HI := Lib.hid hi; clear hi
      go_wp2_with (first | (refine store_cell_ev rfl _ _ _ rfl g' k (.bool bv) rfl rfl _ _ hb (by kernel_rfl) rfl hlt' ?_; intro w5 hb5 hM5))
      go_roundw
      case rel =>
        refine ⟨k + 1, by omega, by go_num, hM5.keep ha hne, ?_, hM5.below hB hgw⟩
        rw [hb5, bcells_set _ _ _ (by omega), ← HBV.out, upTo_set _ _ (by omega)]
      case measure => simp [intOf]; omega
    · obtain rfl : k = wide := by omega
      have hl := upTo_length (x / 2 ^ low) k
      have hsz := HS.out (upTo (x / 2 ^ low) k) hl
      have HSZ := Lib.hid hsz; clear hsz
      go_wp2_with (first
        | (refine wpList_load_row rfl _ _ rfl _ rfl _ _ _ _ hb Try.underlying100 rfl HSZ.out ?_)
        | (go_at_call 46; refine (word_any _ hl _).mono ?_; rintro e w6 ⟨rfl, hB6⟩))
      go_ret
      refine ⟨?_, below_step hB hB6⟩
      rw [upTo_word _ (shr_range x low h0 h1).1 _ (by omega)]
      rfl

/-! ### Down -/
/-- The bits of a number, the lowest k false. -/
def downL (x : Int) (k : Nat) : List Bool := (List.range 64).map fun i => decide (k ≤ i) && decide (x / 2 ^ i % 2 = 1)
theorem downL_length (x : Int) (k : Nat) : (downL x k).length = 64 := by simp [downL]
theorem downL_zero (x : Int) : downL x 0 = bitsL x := by simp [downL, bitsL]
theorem downL_set (x : Int) (k : Nat) (hk : k < 64) : (downL x k).set k false = downL x (k + 1) := by
  apply List.ext_getElem (by simp [downL])
  intro i h1 h2
  have hi : i < 64 := by simpa [downL] using h2
  rw [List.getElem_set]
  by_cases h : k = i
  · subst h; simp [downL]; intro h; omega
  · rw [if_neg h]
    by_cases h' : k ≤ i
    · have : k + 1 ≤ i := by omega
      simp [downL, h', this]
    · have : ¬ k + 1 ≤ i := by omega
      simp [downL, h', this]
theorem downL_word (x : Int) (h0 : 0 ≤ x) (h1 : x < 18446744073709551616) (k : Nat) (hk : k ≤ 64) : wordL (downL x k) = x - x % 2 ^ k := by
  have e : downL x k = List.replicate k false ++ (upTo (x / 2 ^ k) (64 - k)).take (64 - k) := by
    apply List.ext_getElem (by simp [downL, upTo_length]; omega)
    intro i h1 h2
    have hi : i < 64 := by simpa [downL] using h1
    by_cases h : i < k
    · rw [List.getElem_append_left (by simpa using h)]
      have : ¬ k ≤ i := by omega
      simp [downL, this]
    · rw [List.getElem_append_right (by simpa using h)]
      have e2 : x / 2 ^ k / 2 ^ (i - k) = x / 2 ^ i := by
        rw [Int.ediv_ediv_of_nonneg (Int.le_of_lt (pow_pos' k)), ← Int.pow_add]
        congr 2; omega
      have h3 : i - k < 64 - k := by omega
      have h4 : k ≤ i := by omega
      simp [downL, upTo, e2, h3, h4]
  have e2 : wordL ((upTo (x / 2 ^ k) (64 - k)).take (64 - k)) = x / 2 ^ k % 2 ^ (64 - k) := by
    have e3 : (upTo (x / 2 ^ k) (64 - k)).take (64 - k) = (List.range (64 - k)).map fun i => decide (x / 2 ^ k / 2 ^ i % 2 = 1) := by
      apply List.ext_getElem (by simp [upTo_length])
      intro i h1 h2
      have hi : i < 64 - k := by simpa using h2
      simp [upTo, hi]
    rw [e3, wordL_bits _ (shr_range x k h0 h1).1]
  have e4 : x / 2 ^ k % 2 ^ (64 - k) = x / 2 ^ k := by
    apply Int.emod_eq_of_lt (shr_range x k h0 h1).1
    apply Int.ediv_lt_of_lt_mul (pow_pos' k)
    rw [← Int.pow_add, show 64 - k + k = 64 by omega]
    exact h1
  rw [e, wordL_append, wordL_false, e2, e4, List.length_replicate]
  have := Int.emod_add_mul_ediv x (2 ^ k)
  omega

/-! ### Low -/
set_option maxRecDepth 100000 in
set_option maxHeartbeats 800000 in
theorem low_any (level : Int) (h0 : 0 ≤ level) (h1 : level ≤ 3) (w : World) :
    Calls Try.prog 30 #[.int .i64 level] w fun e w' => e = .returned (.int .i64 (39 - 9 * level)) ∧ Below w.heap.size w w' := by
  obtain rfl | rfl | rfl | rfl : level = 0 ∨ level = 1 ∨ level = 2 ∨ level = 3 := by omega
  all_goals
    go_enter Try.func30, Try.ntmps30
    go_wp2
    go_ret
    exact ⟨rfl, (below_new _).trans ((Below.refl _ _))⟩

/-! ### Put -/
/-- A word's bits, of which i from bit low on are another number's. -/
def mixL (x v : Int) (low i : Nat) : List Bool := (List.range 64).map fun j => if low ≤ j ∧ j < low + i then decide (v / 2 ^ (j - low) % 2 = 1) else decide (x / 2 ^ j % 2 = 1)
theorem mixL_length (x v : Int) (low i : Nat) : (mixL x v low i).length = 64 := by simp [mixL]
theorem mixL_zero (x v : Int) (low : Nat) : mixL x v low 0 = bitsL x := by
  apply List.map_congr_left
  intro j _
  rw [if_neg (by omega)]
theorem mixL_set (x v : Int) (low i : Nat) (h : low + i < 64) : (mixL x v low i).set (low + i) (decide (v / 2 ^ i % 2 = 1)) = mixL x v low (i + 1) := by
  apply List.ext_getElem (by simp [mixL])
  intro j h1 h2
  have hj : j < 64 := by simpa [mixL] using h2
  rw [List.getElem_set]
  by_cases h : low + i = j
  · subst h
    have h3 : low ≤ low + i ∧ low + i < low + (i + 1) := by omega
    simp [mixL, Nat.add_sub_cancel_left]
  · rw [if_neg h]
    by_cases h3 : low ≤ j ∧ j < low + i
    · have h4 : low ≤ j ∧ j < low + (i + 1) := by omega
      simp only [mixL, List.getElem_map, List.getElem_range, if_pos h3, if_pos h4]
    · have h4 : ¬ (low ≤ j ∧ j < low + (i + 1)) := by omega
      simp only [mixL, List.getElem_map, List.getElem_range, if_neg h3, if_neg h4]
theorem wordL_take_drop (l : List Bool) (k : Nat) (hk : k ≤ l.length) : wordL l = wordL (l.take k) + 2 ^ k * wordL (l.drop k) := by
  conv => lhs; rw [← List.take_append_drop k l]
  rw [wordL_append, List.length_take, Nat.min_eq_left hk]
theorem bits_word (x : Int) (h0 : 0 ≤ x) (h1 : x < 18446744073709551616) : wordL (bitsL x) = x := by
  rw [← upTo_all, upTo_word x h0 64 (by omega)]
  exact Int.emod_eq_of_lt h0 (by simpa using h1)
theorem bits_low (x : Int) (h0 : 0 ≤ x) (k : Nat) (hk : k ≤ 64) : wordL ((bitsL x).take k) = x % 2 ^ k := by
  have e : (bitsL x).take k = (List.range k).map fun i => decide (x / 2 ^ i % 2 = 1) := by
    apply List.ext_getElem (by simp [bitsL]; omega)
    intro i a b
    have : i < k := by simpa using b
    simp [bitsL]
  rw [e, wordL_bits x h0]
theorem bits_high (x : Int) (h0 : 0 ≤ x) (h1 : x < 18446744073709551616) (k : Nat) (hk : k ≤ 64) : wordL ((bitsL x).drop k) = x / 2 ^ k := by
  have a := wordL_take_drop (bitsL x) k (by rw [bitsL_length]; exact hk)
  rw [bits_word x h0 h1, bits_low x h0 k hk] at a
  have b := Int.emod_add_mul_ediv x (2 ^ k)
  have c : 2 ^ k * wordL ((bitsL x).drop k) = 2 ^ k * (x / 2 ^ k) := by omega
  exact Int.eq_of_mul_eq_mul_left (Int.ne_of_gt (pow_pos' k)) c
theorem mix_word (x v : Int) (h0 : 0 ≤ x) (h1 : x < 18446744073709551616) (v0 : 0 ≤ v) (low wide : Nat) (h : low + wide ≤ 64) (hv : v < 2 ^ wide) :
    wordL (mixL x v low wide) = x % 2 ^ low + 2 ^ low * v + 2 ^ (low + wide) * (x / 2 ^ (low + wide)) := by
  have e : mixL x v low wide = (bitsL x).take low ++ (((List.range wide).map fun i => decide (v / 2 ^ i % 2 = 1)) ++ (bitsL x).drop (low + wide)) := by
    apply List.ext_getElem (by simp [mixL, bitsL]; omega)
    intro j a b
    have hj : j < 64 := by simpa [mixL] using a
    by_cases c : j < low
    · rw [List.getElem_append_left (by simp [bitsL]; omega)]
      have d : ¬ (low ≤ j ∧ j < low + wide) := by omega
      simp only [mixL, List.getElem_map, List.getElem_range, if_neg d, List.getElem_take, bitsL]
    · rw [List.getElem_append_right (by simp [bitsL]; omega)]
      have hl : ((bitsL x).take low).length = low := by simp [bitsL]; omega
      by_cases c2 : j < low + wide
      · rw [List.getElem_append_left (by simp [bitsL]; omega)]
        have d : low ≤ j ∧ j < low + wide := by omega
        simp only [mixL, List.getElem_map, List.getElem_range, if_pos d, hl]
      · rw [List.getElem_append_right (by simp [bitsL]; omega)]
        have d : ¬ (low ≤ j ∧ j < low + wide) := by omega
        have e1 : low + wide + (j - low - wide) = j := by omega
        simp only [mixL, bitsL, List.getElem_map, List.getElem_range, if_neg d, List.getElem_drop, List.length_map, List.length_range]
        have e2 : low + wide + (j - (List.take low (List.map (fun i => decide (x / 2 ^ i % 2 = 1)) (List.range 64))).length - wide) = j := by
          rw [show (List.take low (List.map (fun i => decide (x / 2 ^ i % 2 = 1)) (List.range 64))).length = low from hl]; exact e1
        rw [e2]
  rw [e, wordL_append, wordL_append, bits_low x h0 low (by omega), bits_high x h0 h1 _ h, wordL_bits v v0]
  rw [show ((bitsL x).take low).length = low by simp [bitsL]; omega, List.length_map, List.length_range, Int.emod_eq_of_lt v0 hv, Int.mul_add, ← Int.mul_assoc, ← Int.pow_add]
  omega
/-- Is a bit from 'wide' on set? -/
theorem high_bit (v : Int) (v0 : 0 ≤ v) (v1 : v < 18446744073709551616) (wide : Nat) (hw : wide ≤ 64) (h : ∀ i, wide ≤ i → i < 64 → v / 2 ^ i % 2 ≠ 1) : v < 2 ^ wide := by
  have e : (bitsL v).drop wide = List.replicate (64 - wide) false := by
    apply List.ext_getElem (by simp [bitsL])
    intro i a b
    have : i < 64 - wide := by simpa using b
    simp [bitsL]
    have := h (wide + i) (by omega) (by omega)
    omega
  have a := bits_high v v0 v1 wide hw
  rw [e, wordL_false] at a
  have b := Int.emod_add_mul_ediv v (2 ^ wide)
  rw [← a] at b
  have c := Int.emod_lt_of_pos v (pow_pos' wide)
  omega

def putRes (x v : Int) (low wide : Nat) : Value := .tuple (if v < 2 ^ wide then #[.int .u64 (x % 2 ^ low + 2 ^ low * v + 2 ^ (low + wide) * (x / 2 ^ (low + wide))), .bool true] else #[.int .u64 0, .bool false])
end Go.Proofs.Ytfnmdelkdombbaa.Ha
