/- The law DescBits: each call answers true. -/
import Derived.Test.YtkdiplgnacjakaaProg
import Derived.Test.YtkdiplgnacjakaaG
import Derived.Test.YtkdiplgnacjakaaB
import Derived.Test.YtkdiplgnacjakaaHa
import Derived.Test.YtkdiplgnacjakaaQx4
namespace Go.Proofs.Ytkdiplgnacjakaa.Le
open Go.RowKit Go.Proofs.Ytkdiplgnacjakaa.G Go.Proofs.Ytkdiplgnacjakaa.B Go.Proofs.Ytkdiplgnacjakaa.Ha Go.Proofs.Ytkdiplgnacjakaa.PDescBases
open Go.Proofs.YtkdiplgnacjakaaW.PrintWords (shl shr rd)
set_option linter.unusedVariables false
set_option linter.unusedSimpArgs false
theorem wrap64_in (x : Int) (h0 : -9223372036854775808 ≤ x) (h1 : x ≤ 9223372036854775807) : wrap64 x = x := by unfold wrap64; omega
theorem p_right (a b : Int) : field_Field_Right.f a b = some (fr a b) := by
  unfold field_Field_Right.f
  by_cases h1 : a ≥ 0
  · by_cases h2 : a < 64
    · by_cases h3 : b ≥ 1
      · rw [if_pos h1, if_pos h2, if_pos h3, wrap64_in _ (by omega) (by omega)]
        congr 1
        unfold fr
        rw [decide_eq_decide]
        omega
      · rw [if_pos h1, if_pos h2, if_neg h3]; congr 1; symm; simp [fr]; omega
    · rw [if_pos h1, if_neg h2]; congr 1; symm; simp [fr]; omega
  · rw [if_neg h1]; congr 1; symm; simp [fr]; omega
theorem p_ones (n : Int) : field_Ones.f n = some (ones n) := by
  unfold field_Ones.f
  by_cases h1 : n < 1
  · rw [if_pos h1, ones_low n h1]
  · by_cases h2 : n ≥ 64
    · rw [if_neg h1, if_pos h2, ones_high n h2]
    · rw [if_neg h1, if_neg h2, if_pos (by omega), ← ones_mid n (by omega) (by omega)]
      unfold shl
      rw [show min n.toNat IntKind.u64.bits = n.toNat by simp [IntKind.bits]; omega, Int.one_mul]
theorem p_get (a b x : Int) (h0 : 0 ≤ x) (h1 : x < 18446744073709551616) : field_Field_Get.f a b x = some (getV a b x) := by
  unfold field_Field_Get.f
  rw [p_right]; simp only [Option.bind_some]
  cases h : fr a b
  · rw [if_neg (by decide), getV_no h]
  · obtain ⟨l, k, rfl, rfl, hlk, hk1⟩ := fr_nat h
    rw [if_pos rfl, if_pos (by omega), p_ones]; simp only [Option.bind_some]
    rw [getV_yes h]
    unfold shr
    rw [show min (l : Int).toNat IntKind.u64.bits = l by simp [IntKind.bits]; omega, and_ones _ _ (shr_range x l h0 h1).1 (shr_range x l h0 h1).2, show min (k : Int).toNat 64 = k by omega]

theorem p_bits (level : Int) : desc_Bits.f level = some (lbits level) := by
  unfold desc_Bits.f
  cases h : kn level
  · rw [lbits_no h]
    rcases kn_no h with h | h
    · rw [if_pos h]
    · rw [if_neg (by omega), if_pos (by omega)]
  · rw [lbits_yes h]
    have := kn_cases h
    rw [if_neg (by omega), if_neg (by omega), wrap64_in (3 - level) (by omega) (by omega), wrap64_in (9 * (3 - level)) (by omega) (by omega), wrap64_in _ (by omega) (by omega)]
    congr 1; omega

theorem anchor_any (w : World) : Calls Try.prog 25 #[] w fun e w' => e = .returned (.bool true) ∧ Below w.heap.size w w' :=
  portreevelaw04_anchor.calls 5 true w (by decide +kernel)
theorem bits_as {level b : Int} (h : lbits level = b) (w : World) : Calls Try.prog 31 #[.int .i64 level] w fun e w' => e = .returned (.int .i64 b) ∧ Below w.heap.size w w' :=
  (desc_Bits.calls level b w (by rw [p_bits, h])).mono fun _ _ ⟨he, hd⟩ => ⟨he, hd.below⟩
set_option maxRecDepth 100000 in
set_option maxHeartbeats 4000000 in
theorem descBits_any (level : Int) (w : World) :
    Calls Try.prog 9 #[.int .i64 level] w fun e w' => e = .returned (.bool true) ∧ Below w.heap.size w w' := by
  cases hk : kn level
  · have CB := fun w => bits_as (lbits_no hk) w
    rcases kn_no hk with hl | hl
    all_goals
      go_enter Try.func9, Try.ntmps9
      go_wp2_with (first
        | (go_at_call 25; (with_reducible refine (anchor_any _).mono ?_); rintro e w1 ⟨rfl, hB⟩)
        | (go_at_call 31; (with_reducible refine (CB _).mono ?_); rintro e w2 ⟨rfl, hq_⟩; have hB2 := below_step hB hq_; clear hB hq_))
      go_ret
      exact ⟨rfl, hB2⟩
  · have CB := fun w => bits_as (lbits_yes hk) w
    obtain ⟨k0, k1⟩ : 0 ≤ level ∧ level ≤ 3 := of_decide_eq_true hk
    have CL := fun w => low_any level k0 k1 w
    generalize 39 - 9 * level = b at CB CL
    go_enter Try.func9, Try.ntmps9
    go_wp2_with (first
      | (go_at_call 25; (with_reducible refine (anchor_any _).mono ?_); rintro e w1 ⟨rfl, hB⟩)
      | (go_at_call 31; (with_reducible refine (CB _).mono ?_); rintro e w2 ⟨rfl, hq_⟩; have hB2 := below_step hB hq_; clear hB hq_)
      | (go_at_call 32; (with_reducible refine (CL _).mono ?_); rintro e w3 ⟨rfl, hq_⟩; have hB3 := below_step hB2 hq_; clear hB2 hq_))
    go_ret
    exact ⟨by simp, hB3⟩
end Go.Proofs.Ytkdiplgnacjakaa.Le
