/- lex.Show: what it answers. -/
import Derived.Test.YtiokllhoaaamiaaProg
import Derived.Test.YtiokllhoaaamiaaB
import Derived.Test.YtiokllhoaaamiaaMc
import Derived.Test.YtiokllhoaaamiaaSl
import Derived.Laws.Strings2
namespace Go.Proofs.Ytiokllhoaaamiaa.Qa
open Go.RowKit Go.Proofs.Ytiokllhoaaamiaa.G Go.Proofs.Ytiokllhoaaamiaa.B Go.Proofs.Ytiokllhoaaamiaa.M
set_option linter.unusedVariables false
set_option linter.unusedSimpArgs false
set_option maxRecDepth 100000
section
variable {P : Program} {ops : Array Oper} {rest : List Oper} {o : Oper} {a : Act} {Q : Exit → Act → World → Prop} {W : World}
theorem at_slice (ty : TypeId) {x : Operand} {lo hi mx : Option Operand} (h : o.op = .slice ty x lo hi mx) (k : wpList P ops Q (o :: rest) a W) : wpList P ops Q (o :: rest) a W := k
/-- A part of a text. -/
theorem slice_str_m (hw : Region.wanted o (yielded ops a.tmps) = true) (d : Tmp) (hd : o.dst = some d) (ty : TypeId) {x lo hi : Operand} (ho : o.op = .slice ty x (some lo) (some hi) none) (hu : (match P.underlying ty with | some .string => true | _ => false) = true) (s : ByteArray) (hx : a.eval x = .string s)
    (k k' : IntKind) (i j : Int) (hi' : a.eval lo = .int k i) (hj : a.eval hi = .int k' j) (h0 : 0 ≤ i) (h1 : i ≤ j) (h2 : j ≤ s.size) (r : ByteArray) (hr : s.extract i.toNat j.toNat = r) (h : wpList P ops Q rest (a.put (some d) (.string r)) W) : wpList P ops Q (o :: rest) a W := by
  have hq : P.underlying ty = some .string := by
    revert hu
    cases P.underlying ty with
    | none => simp
    | some t => cases t <;> simp
  have hu2 : (underlying ty).run P W = .ok .string W := run_underlying hq W
  have hr' := run_slice_string (P := P) W ty s k k' i j hq h0 h1 h2
  refine (outs_run (N := fun v' w => v' = .string r ∧ w = W) (w1 := W) (v := .string r) ?_ ⟨rfl, rfl⟩).ev hw fun _ _ ⟨e1, e2⟩ => by subst e1 e2; rw [hd]; exact h
  unfold execOp
  simp only [ho, hx, Option.map_some, Option.map_none, hi', hj]
  rw [hr] at hr'
  simp [Instr.sliceAt, hu2, hr']
end
def figs : ByteArray := ⟨#[48, 49, 50, 51, 52, 53, 54, 55, 56, 57, 97, 98, 99, 100, 101, 102]⟩
def dig (d : Int) : ByteArray := figs.extract d.toNat (d + 1).toNat
def hexL : Nat → Int → ByteArray → ByteArray
  | 0, _, s => s
  | f + 1, y, s => if 0 < y then hexL f (y / 16) (dig (y % 16) ++ s) else s
theorem dig_size (d : Int) (h0 : 0 ≤ d) : (dig d).size ≤ 1 := by
  unfold dig
  rw [ByteArray.size_extract]
  omega
theorem hexL_zero (f : Nat) (s : ByteArray) : hexL f 0 s = s := by cases f <;> simp [hexL]
/-- A number's text. -/
def showT (x : Int) : ByteArray := if x < 10 then dig x else (⟨#[48, 120]⟩ : ByteArray) ++ hexL 16 x ⟨#[]⟩
set_option maxHeartbeats 1000000 in
theorem show_few (x : Int) (h0 : 0 ≤ x) (h1 : x < 10) (w : World) : Calls Try.prog 35 #[.int .u64 x] w fun e w' => e = .returned (.string (dig x)) ∧ Below w.heap.size w w' := by
  have HD := Lib.hid (show figs.extract x.toNat (x + 1).toNat = dig x from rfl)
  generalize dig x = r at HD
  have hsz : ((figs.size : Nat) : Int) = 16 := rfl
  have HM := Mem.nil w
  go_enter Try.func35, Try.ntmps35
  go_wp2_with (first
    | (refine at_slice 9 rfl ?_; refine slice_str_m rfl _ rfl 9 rfl (by kernel_rfl) figs rfl .u64 .u64 x (x + 1) rfl rfl (by omega) (by omega) (by omega) _ HD.out ?_; go_simp)
    | (refine Go.Proofs.Ytiokllhoaaamiaa.Mc.at_cmp _ rfl ?_; refine Go.Proofs.Ytiokllhoaaamiaa.Mc.cmp_m rfl _ rfl _ _ _ rfl _ _ _ rfl rfl _ rfl ?_ ?_ <;> (intro hg_; try simp only [decide_eq_true_eq, decide_eq_false_iff_not, Bool.and_eq_true, Bool.or_eq_true, Bool.and_eq_false_iff, Bool.or_eq_false_iff, Bool.not_eq_true', Bool.not_eq_false', beq_iff_eq, bne_iff_ne, beq_eq_false_iff_ne, bne_eq_false_iff_eq, Int.not_lt, Int.not_le, ne_eq] at hg_; first | (exfalso; first | omega | (simp at hg_; done)) | go_simp))
    | ((fail_if_success (refine Go.Proofs.Ytiokllhoaaamiaa.M.lit_t rfl ?_)); (fail_if_success (refine Go.Proofs.Ytiokllhoaaamiaa.M.lit_f rfl ?_)); refine Go.Proofs.Ytiokllhoaaamiaa.M.split_guard rfl rfl ?_ ?_ <;> (intro hg_; simp only [hg_]; try simp only [decide_eq_true_eq, decide_eq_false_iff_not, Bool.and_eq_true, Bool.or_eq_true, Bool.and_eq_false_iff, Bool.or_eq_false_iff, Bool.not_eq_true', Bool.not_eq_false', beq_iff_eq, bne_iff_ne, beq_eq_false_iff_ne, bne_eq_false_iff_eq, Int.not_lt, Int.not_le, ne_eq] at hg_)))
  all_goals
    go_ret
    exact ⟨rfl, HM.none.to_below⟩
set_option maxHeartbeats 1000000 in
theorem show_many (x : Int) (h0 : 10 ≤ x) (h1 : x < 18446744073709551616) (T : ByteArray) (hT : hexL 16 x ⟨#[]⟩ = T) (w : World) : Calls Try.prog 35 #[.int .u64 x] w fun e w' => e = .returned (.string ((⟨#[48, 120]⟩ : ByteArray) ++ T)) ∧ Below w.heap.size w w' := by
  have HM := Mem.nil w
  go_enter Try.func35, Try.ntmps35
  go_wp2_with (first
    | (refine Go.Proofs.Ytiokllhoaaamiaa.Mc.at_cmp _ rfl ?_; refine Go.Proofs.Ytiokllhoaaamiaa.Mc.cmp_m rfl _ rfl _ _ _ rfl _ _ _ rfl rfl _ rfl ?_ ?_ <;> (intro hg_; try simp only [decide_eq_true_eq, decide_eq_false_iff_not, Bool.and_eq_true, Bool.or_eq_true, Bool.and_eq_false_iff, Bool.or_eq_false_iff, Bool.not_eq_true', Bool.not_eq_false', beq_iff_eq, bne_iff_ne, beq_eq_false_iff_ne, bne_eq_false_iff_eq, Int.not_lt, Int.not_le, ne_eq] at hg_; first | (exfalso; first | omega | (simp at hg_; done)) | go_simp))
    | ((fail_if_success (refine Go.Proofs.Ytiokllhoaaamiaa.M.lit_t rfl ?_)); (fail_if_success (refine Go.Proofs.Ytiokllhoaaamiaa.M.lit_f rfl ?_)); refine Go.Proofs.Ytiokllhoaaamiaa.M.split_guard rfl rfl ?_ ?_ <;> (intro hg_; simp only [hg_]; try simp only [decide_eq_true_eq, decide_eq_false_iff_not, Bool.and_eq_true, Bool.or_eq_true, Bool.and_eq_false_iff, Bool.or_eq_false_iff, Bool.not_eq_true', Bool.not_eq_false', beq_iff_eq, bne_iff_ne, beq_eq_false_iff_ne, bne_eq_false_iff_eq, Int.not_lt, Int.not_le, ne_eq] at hg_)))
  go_loopw [0, 3] (fun v s wr => ∃ (f : Nat) (y : Int) (z : ByteArray), v = .int .u64 y ∧ s = .string z ∧ 0 ≤ y ∧ y < 16 ^ f ∧ z.size + f ≤ 16 ∧ hexL f y z = T ∧ Mem w [] [] wr) (fun v _ _ => (intOf v).toNat)
  case atStart => exact ⟨16, x, ⟨#[]⟩, rfl, rfl, by omega, by omega, by decide, hT, HM⟩
  case round =>
    clear HM
    obtain ⟨f, y, z, rfl, rfl, y0, y1, hf, hz, HM⟩ := hrel
    by_cases hy : 0 < y
    · cases f with
      | zero => simp at y1; omega
      | succ f =>
        have y2 : y / 16 < 16 ^ f := by
          rw [Int.pow_succ] at y1; omega
        have yb : y < 18446744073709551616 := by
          have h : (16 : Int) ^ (f + 1) ≤ 16 ^ 16 := by
            have := Nat.pow_le_pow_right (show 0 < 16 by decide) (show f + 1 ≤ 16 by omega)
            exact_mod_cast this
          have : (16 : Int) ^ 16 = 18446744073709551616 := by decide
          omega
        simp only [hexL, if_pos hy] at hz
        have hb : Go.bits .and .u64 y 15 = y % 16 := and_ones y 4 y0 yb
        have HD := Lib.hid (show figs.extract (y % 16).toNat (y % 16 + 1).toNat = dig (y % 16) from rfl)
        have hrs := dig_size (y % 16) (by omega)
        generalize dig (y % 16) = r at HD hz hrs
        have hd0 : 0 ≤ y % 16 := by omega
        have hd1 : y % 16 ≤ 15 := by omega
        have hd2 : 0 ≤ y / 16 := by omega
        have HZ := Lib.hid hz
        have HY := Lib.hid y2
        clear hz y2
        generalize hd : y % 16 = d at hb HD hd0 hd1
        have hsz : ((figs.size : Nat) : Int) = 16 := rfl
        clear hd
        go_wp2_with (first
          | (refine at_slice 9 rfl ?_; refine slice_str_m rfl _ rfl 9 rfl (by kernel_rfl) figs rfl .u64 .u64 d (d + 1) rfl rfl (by omega) (by omega) (by omega) _ HD.out ?_; go_simp)
          | (refine Go.Proofs.Ytiokllhoaaamiaa.Mc.at_cmp _ rfl ?_; refine Go.Proofs.Ytiokllhoaaamiaa.Mc.cmp_m rfl _ rfl _ _ _ rfl _ _ _ rfl rfl _ rfl ?_ ?_ <;> (intro hg_; try simp only [decide_eq_true_eq, decide_eq_false_iff_not, Bool.and_eq_true, Bool.or_eq_true, Bool.and_eq_false_iff, Bool.or_eq_false_iff, Bool.not_eq_true', Bool.not_eq_false', beq_iff_eq, bne_iff_ne, beq_eq_false_iff_ne, bne_eq_false_iff_eq, Int.not_lt, Int.not_le, ne_eq] at hg_; first | (exfalso; first | omega | (simp at hg_; done)) | go_simp))
          | ((fail_if_success (refine Go.Proofs.Ytiokllhoaaamiaa.M.lit_t rfl ?_)); (fail_if_success (refine Go.Proofs.Ytiokllhoaaamiaa.M.lit_f rfl ?_)); refine Go.Proofs.Ytiokllhoaaamiaa.M.split_guard rfl rfl ?_ ?_ <;> (intro hg_; simp only [hg_]; try simp only [decide_eq_true_eq, decide_eq_false_iff_not, Bool.and_eq_true, Bool.or_eq_true, Bool.and_eq_false_iff, Bool.or_eq_false_iff, Bool.not_eq_true', Bool.not_eq_false', beq_iff_eq, bne_iff_ne, beq_eq_false_iff_ne, bne_eq_false_iff_eq, Int.not_lt, Int.not_le, ne_eq] at hg_)))
        all_goals
          first
          | (exfalso; omega)
          | (go_roundw
             case rel => exact ⟨f, y / 16, _, rfl, rfl, hd2, HY.out, by rw [ByteArray.size_append]; omega, HZ.out, HM⟩
             case measure => simp [intOf]; omega)
    · obtain rfl : y = 0 := by omega
      rw [hexL_zero] at hz
      subst hz
      go_wp2_with (first
        | (refine Go.Proofs.Ytiokllhoaaamiaa.Mc.at_cmp _ rfl ?_; refine Go.Proofs.Ytiokllhoaaamiaa.Mc.cmp_m rfl _ rfl _ _ _ rfl _ _ _ rfl rfl _ rfl ?_ ?_ <;> (intro hg_; try simp only [decide_eq_true_eq, decide_eq_false_iff_not, Bool.and_eq_true, Bool.or_eq_true, Bool.and_eq_false_iff, Bool.or_eq_false_iff, Bool.not_eq_true', Bool.not_eq_false', beq_iff_eq, bne_iff_ne, beq_eq_false_iff_ne, bne_eq_false_iff_eq, Int.not_lt, Int.not_le, ne_eq] at hg_; first | (exfalso; first | omega | (simp at hg_; done)) | go_simp))
        | ((fail_if_success (refine Go.Proofs.Ytiokllhoaaamiaa.M.lit_t rfl ?_)); (fail_if_success (refine Go.Proofs.Ytiokllhoaaamiaa.M.lit_f rfl ?_)); refine Go.Proofs.Ytiokllhoaaamiaa.M.split_guard rfl rfl ?_ ?_ <;> (intro hg_; simp only [hg_]; try simp only [decide_eq_true_eq, decide_eq_false_iff_not, Bool.and_eq_true, Bool.or_eq_true, Bool.and_eq_false_iff, Bool.or_eq_false_iff, Bool.not_eq_true', Bool.not_eq_false', beq_iff_eq, bne_iff_ne, beq_eq_false_iff_ne, bne_eq_false_iff_eq, Int.not_lt, Int.not_le, ne_eq] at hg_)))
      all_goals
        first
        | (exfalso; omega)
        | (go_ret
           exact ⟨rfl, HM.none.to_below⟩)
theorem show_any (x : Int) (h0 : 0 ≤ x) (h1 : x < 18446744073709551616) (w : World) : Calls Try.prog 35 #[.int .u64 x] w fun e w' => e = .returned (.string (showT x)) ∧ Below w.heap.size w w' := by
  unfold showT
  split
  · exact show_few x h0 ‹_› w
  · exact show_many x (by omega) h1 _ rfl w
theorem hexL_size (f : Nat) (y : Int) (z : ByteArray) (h0 : 0 ≤ y) : (hexL f y z).size ≤ z.size + f := by
  induction f generalizing y z with
  | zero => simp [hexL]
  | succ f ih =>
    unfold hexL
    split
    · have := ih (y / 16) (dig (y % 16) ++ z) (by omega)
      have h := dig_size (y % 16) (by omega)
      rw [ByteArray.size_append] at this
      omega
    · omega
theorem showT_size (x : Int) (h0 : 0 ≤ x) : (showT x).size ≤ 18 := by
  unfold showT
  split
  · have := dig_size x h0; omega
  · rw [ByteArray.size_append]
    have := hexL_size 16 x ⟨#[]⟩ h0
    have e1 : (⟨#[]⟩ : ByteArray).size = 0 := rfl
    have e2 : (⟨#[48, 120]⟩ : ByteArray).size = 2 := rfl
    omega
end Go.Proofs.Ytiokllhoaaamiaa.Qa
