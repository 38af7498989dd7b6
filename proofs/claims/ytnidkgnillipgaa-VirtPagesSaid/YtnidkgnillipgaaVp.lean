/- The law VirtParts: each call answers true. -/
import Derived.Test.YtnidkgnillipgaaProg
import Derived.Test.YtnidkgnillipgaaG
import Derived.Test.YtnidkgnillipgaaB
import Derived.Test.YtnidkgnillipgaaHa
import Derived.Test.YtnidkgnillipgaaPVirtPagesx1
namespace Go.Proofs.Ytnidkgnillipgaa.Vp
open Go.RowKit Go.Proofs.Ytnidkgnillipgaa.G Go.Proofs.Ytnidkgnillipgaa.B Go.Proofs.Ytnidkgnillipgaa.Ha Go.Proofs.Ytnidkgnillipgaa.PVirtPages Go.Proofs.YtnidkgnillipgaaW.PrintLast Go.Proofs.YtnidkgnillipgaaW.PrintMore
open Go.Proofs.YtnidkgnillipgaaW.PrintWords hiding below_step
set_option linter.unusedVariables false
set_option linter.unusedSimpArgs false
theorem wrap64_in (x : Int) (h0 : -9223372036854775808 ≤ x) (h1 : x ≤ 9223372036854775807) : wrap64 x = x := by unfold wrap64; omega
theorem p_right (a b : Int) : field_Field_Right.f a b = some (fr a b) := by
  unfold field_Field_Right.f
  by_cases h1 : a ≥ 0
  · by_cases h2 : a < 64
    · by_cases h3 : b ≥ 1
      · rw [if_pos h1, if_pos h2, if_pos h3, wrap64_in _ (by omega) (by omega)]
        congr 1
        unfold fr
        rw [decide_eq_decide]
        omega
      · rw [if_pos h1, if_pos h2, if_neg h3]; congr 1; symm; simp [fr]; omega
    · rw [if_pos h1, if_neg h2]; congr 1; symm; simp [fr]; omega
  · rw [if_neg h1]; congr 1; symm; simp [fr]; omega
theorem p_ones (n : Int) : field_Ones.f n = some (ones n) := by
  unfold field_Ones.f
  by_cases h1 : n < 1
  · rw [if_pos h1, ones_low n h1]
  · by_cases h2 : n ≥ 64
    · rw [if_neg h1, if_pos h2, ones_high n h2]
    · rw [if_neg h1, if_neg h2, if_pos (by omega), ← ones_mid n (by omega) (by omega)]
      unfold shl
      rw [show min n.toNat IntKind.u64.bits = n.toNat by simp [IntKind.bits]; omega, Int.one_mul]
theorem p_get (a b x : Int) (h0 : 0 ≤ x) (h1 : x < 18446744073709551616) : field_Field_Get.f a b x = some (getV a b x) := by
  unfold field_Field_Get.f
  rw [p_right]; simp only [Option.bind_some]
  cases h : fr a b
  · rw [if_neg (by decide), getV_no h]
  · obtain ⟨l, k, rfl, rfl, hlk, hk1⟩ := fr_nat h
    rw [if_pos rfl, if_pos (by omega), p_ones]; simp only [Option.bind_some]
    rw [getV_yes h]
    unfold shr
    rw [show min (l : Int).toNat IntKind.u64.bits = l by simp [IntKind.bits]; omega, and_ones _ _ (shr_range x l h0 h1).1 (shr_range x l h0 h1).2, show min (k : Int).toNat 64 = k by omega]

theorem p_low (va : Int) (h0 : 0 ≤ va) : virt_Low.f va = some (lowB va) := by
  unfold virt_Low.f
  rw [lowB_div va h0]
theorem p_bits (level : Int) : desc_Bits.f level = some (lbits level) := by
  unfold desc_Bits.f
  cases h : kn level
  · rw [lbits_no h]
    rcases kn_no h with h | h
    · rw [if_pos h]
    · rw [if_neg (by omega), if_pos (by omega)]
  · rw [lbits_yes h]
    have := kn_cases h
    rw [if_neg (by omega), if_neg (by omega), wrap64_in (3 - level) (by omega) (by omega), wrap64_in (9 * (3 - level)) (by omega) (by omega), wrap64_in _ (by omega) (by omega)]
    congr 1; omega
theorem p_known (level : Int) : virt_known.f level = some (kn level) := by
  unfold virt_known.f
  by_cases h : level ≥ 0
  · rw [if_pos h]; congr 1; unfold kn; rw [decide_eq_decide]; omega
  · rw [if_neg h]; congr 1; symm; unfold kn; rw [decide_eq_false_iff_not]; omega
theorem p_index (va level : Int) (h0 : 0 ≤ va) (h1 : va < 18446744073709551616) : virt_Index.f va level = some (idxV va level) := by
  unfold virt_Index.f
  rw [p_known]; simp only [Option.bind_some]
  cases h : kn level
  · rw [if_neg (by decide)]; simp [idxV, h]
  · rw [if_pos rfl, p_bits]; simp only [Option.bind_some]
    rw [p_get _ _ _ h0 h1]; simp only [Option.bind_some]
    have e : getV (lbits level) 9 va = idxV va level := by
      unfold getV
      rw [if_pos fr_level, idxV_yes h, ← lsize_pow h, show ((9 : Int).toNat) = 9 from rfl, p9]
    rw [e, wrap64_in _ (by rw [idxV_yes h]; omega) (by rw [idxV_yes h]; omega)]
theorem p_offset (va level : Int) (h0 : 0 ≤ va) (h1 : va < 18446744073709551616) : virt_Offset.f va level = some (offV va level) := by
  unfold virt_Offset.f
  rw [p_known]; simp only [Option.bind_some]
  cases h : kn level
  · rw [if_neg (by decide)]; simp [offV, h]
  · rw [if_pos rfl, p_bits]; simp only [Option.bind_some]
    rw [p_ones]; simp only [Option.bind_some]
    have := lbits_range level
    rw [and_ones _ _ h0 h1, show min (lbits level).toNat 64 = (lbits level).toNat by omega]
    simp [offV, h]

theorem p_down (x n : Int) (h0 : 0 ≤ x) (h1 : x < 18446744073709551616) : field_Down.f x n = some (dn x n) := by
  unfold field_Down.f
  rw [p_ones]; simp only [Option.bind_some]
  rw [andNot_ones x n h0 h1]; rfl
theorem p_base (va level : Int) (h0 : 0 ≤ va) (h1 : va < 18446744073709551616) : virt_Base.f va level = some (baseV va level) := by
  unfold virt_Base.f
  rw [p_known]; simp only [Option.bind_some]
  cases h : kn level
  · rw [if_neg (by decide)]; simp [baseV, h]
  · rw [if_pos rfl, p_ones, p_bits]; simp only [Option.bind_some]
    rw [and_ones _ _ h0 h1, show min (48 : Int).toNat 64 = 48 from rfl, p48, p_down _ _ (by omega) (by omega)]; simp only [Option.bind_some]
    have := lbits_range level
    unfold dn
    rw [show min (lbits level).toNat 64 = (lbits level).toNat by omega]
    simp [baseV, h]

theorem anchor_any (w : World) : Calls Try.prog 26 #[] w fun e w' => e = .returned (.bool true) ∧ Below w.heap.size w w' :=
  portreevelaw05_anchor.calls true w (by decide +kernel)
theorem vlow_as {va : Int} {b : Bool} (h0 : 0 ≤ va) (hb : lowB va = b) (w : World) : Calls Try.prog 27 #[.int .u64 va] w fun e w' => e = .returned (.bool b) ∧ Below w.heap.size w w' :=
  (virt_Low.calls va b w (by rw [p_low va h0, hb])).mono fun _ _ ⟨he, hd⟩ => ⟨he, hd.below⟩
theorem vindex_any {va level : Int} (h0 : 0 ≤ va) (h1 : va < 18446744073709551616) (w : World) : Calls Try.prog 28 #[.int .u64 va, .int .i64 level] w fun e w' => e = .returned (.int .i64 (idxV va level)) ∧ Below w.heap.size w w' :=
  virt_Index.calls va level _ w (p_index va level h0 h1)
theorem vbase_any {va level : Int} (h0 : 0 ≤ va) (h1 : va < 18446744073709551616) (w : World) : Calls Try.prog 29 #[.int .u64 va, .int .i64 level] w fun e w' => e = .returned (.int .u64 (baseV va level)) ∧ Below w.heap.size w w' :=
  (virt_Base.calls va level _ w (p_base va level h0 h1)).mono fun _ _ ⟨he, hd⟩ => ⟨he, hd.below⟩
theorem voffset_any {va level : Int} (h0 : 0 ≤ va) (h1 : va < 18446744073709551616) (w : World) : Calls Try.prog 30 #[.int .u64 va, .int .i64 level] w fun e w' => e = .returned (.int .u64 (offV va level)) ∧ Below w.heap.size w w' :=
  (virt_Offset.calls va level _ w (p_offset va level h0 h1)).mono fun _ _ ⟨he, hd⟩ => ⟨he, hd.below⟩
theorem nat_or (v k : Nat) : 2 ^ k * (v / 2 ^ k) ||| v % 2 ^ k = v := by
  rw [← Nat.two_pow_add_eq_or_of_lt (Nat.mod_lt _ (Nat.two_pow_pos k)), Nat.div_add_mod]
theorem nat_and (v k : Nat) : 2 ^ k * (v / 2 ^ k) &&& v % 2 ^ k = 0 := by
  apply Nat.eq_of_testBit_eq
  intro i
  rw [Nat.testBit_and, Nat.testBit_two_pow_mul, Nat.testBit_mod_two_pow, Nat.zero_testBit]
  by_cases h : i < k
  · have : ¬ k ≤ i := by omega
    simp [this]
  · simp [h]
theorem base_off (va level : Int) (h0 : 0 ≤ va) (h1 : va < 281474976710656) (hk : kn level = true) : bits .or .u64 (baseV va level) (offV va level) = va ∧ bits .and .u64 (baseV va level) (offV va level) = 0 := by
  obtain ⟨v, rfl⟩ := Int.eq_ofNat_of_zero_le h0
  have hv : v < 281474976710656 := by omega
  have e1 : baseV (v : Int) level = ((2 ^ (lbits level).toNat * (v / 2 ^ (lbits level).toNat) : Nat) : Int) := by
    unfold baseV
    rw [if_pos hk, Int.emod_eq_of_lt h0 h1]
    have := Nat.div_add_mod v (2 ^ (lbits level).toNat)
    have e : (((v : Int) % 2 ^ (lbits level).toNat)) = ((v % 2 ^ (lbits level).toNat : Nat) : Int) := by simp
    rw [e]; omega
  have e2 : offV (v : Int) level = ((v % 2 ^ (lbits level).toNat : Nat) : Int) := by
    unfold offV
    rw [if_pos hk]; simp
  have a1 : 2 ^ (lbits level).toNat * (v / 2 ^ (lbits level).toNat) < 2 ^ 64 := Nat.lt_of_le_of_lt (Nat.mul_div_le _ _) (by rw [n64]; omega)
  have a2 : v % 2 ^ (lbits level).toNat < 2 ^ 64 := Nat.lt_of_le_of_lt (Nat.mod_le _ _) (by rw [n64]; omega)
  rw [e1, e2, bits_or _ _ a1 a2, bits_and _ _ a1 a2, nat_or, nat_and]
  exact ⟨rfl, rfl⟩

set_option maxRecDepth 100000 in
set_option maxHeartbeats 4000000 in
theorem rindex_any {va level : Int} (h0 : 0 ≤ va) (h1 : va < 18446744073709551616) (hk : kn level = true) (w : World) :
    Calls Try.prog 31 #[.int .u64 va, .int .i64 level] w fun e w' => e = .returned (.int .i64 (idxV va level)) ∧ Below w.heap.size w w' := by
  have e : va / 2 ^ (lbits level).toNat % 2 ^ 9 = idxV va level := by simp [idxV, hk]
  have hl := lbits_yes hk
  have hr := lbits_range level
  have hn : ((lbits level).toNat : Int) = 39 - 9 * level := by omega
  obtain ⟨k0, k1⟩ : 0 ≤ level ∧ level ≤ 3 := of_decide_eq_true hk
  have hw : wrap64 (idxV va level) = idxV va level := wrap64_in _ (by rw [idxV_yes hk]; omega) (by rw [idxV_yes hk]; omega)
  have HW := Lib.hid hw; clear hw
  have HC : ∀ w, Calls Try.prog 20 #[.int .u64 va, .int .i64 (39 - 9 * level), .int .i64 9] w fun e w' => e = .returned (.int .u64 (idxV va level)) ∧ Below w.heap.size w w' := by
    intro w
    have := get_any va (lbits level).toNat 9 h0 h1 (by omega) w
    rw [e, hn] at this
    exact this
  clear e hl hr hn
  go_enter Try.func31, Try.ntmps31
  go_wp2_with (first
    | (go_at_call 44; (with_reducible refine (low_any level k0 k1 _).mono ?_); rintro e w1 ⟨rfl, hB⟩)
    | (go_at_call 20; (with_reducible refine (HC _).mono ?_); rintro e w2 ⟨rfl, hq_⟩; have hB2 := below_step hB hq_; clear hB hq_))
  go_ret
  exact ⟨by rw [HW.out]; rfl, hB2⟩
set_option maxRecDepth 100000 in
set_option maxHeartbeats 4000000 in
theorem roffset_any {va level : Int} (h0 : 0 ≤ va) (h1 : va < 18446744073709551616) (hk : kn level = true) (w : World) :
    Calls Try.prog 33 #[.int .u64 va, .int .i64 level] w fun e w' => e = .returned (.int .u64 (offV va level)) ∧ Below w.heap.size w w' := by
  have e : va / 2 ^ 0 % 2 ^ (lbits level).toNat = offV va level := by simp [offV, hk]
  have hl := lbits_yes hk
  have hr := lbits_range level
  have hn : ((lbits level).toNat : Int) = 39 - 9 * level := by omega
  obtain ⟨k0, k1⟩ : 0 ≤ level ∧ level ≤ 3 := of_decide_eq_true hk
  have HC : ∀ w, Calls Try.prog 20 #[.int .u64 va, .int .i64 0, .int .i64 (39 - 9 * level)] w fun e w' => e = .returned (.int .u64 (offV va level)) ∧ Below w.heap.size w w' := by
    intro w
    have := get_any va 0 (lbits level).toNat h0 h1 (by omega) w
    rw [e, hn] at this
    exact this
  clear e hl hr hn
  go_enter Try.func33, Try.ntmps33
  go_wp2_with (first
    | (go_at_call 44; (with_reducible refine (low_any level k0 k1 _).mono ?_); rintro e w1 ⟨rfl, hB⟩)
    | (go_at_call 20; (with_reducible refine (HC _).mono ?_); rintro e w2 ⟨rfl, hq_⟩; have hB2 := below_step hB hq_; clear hB hq_))
  go_ret
  exact ⟨rfl, hB2⟩
set_option maxRecDepth 100000 in
set_option maxHeartbeats 4000000 in
theorem rbase_any {va level : Int} (h0 : 0 ≤ va) (h1 : va < 18446744073709551616) (hk : kn level = true) (w : World) :
    Calls Try.prog 32 #[.int .u64 va, .int .i64 level] w fun e w' => e = .returned (.int .u64 (baseV va level)) ∧ Below w.heap.size w w' := by
  have hl := lbits_yes hk
  have hr := lbits_range level
  obtain ⟨k0, k1⟩ : 0 ≤ level ∧ level ≤ 3 := of_decide_eq_true hk
  have e : va % 281474976710656 - va % 281474976710656 % 2 ^ min (lbits level).toNat 64 = baseV va level := by simp [baseV, hk]; rw [show min (lbits level).toNat 64 = (lbits level).toNat by omega]
  have hv : va.tmod 281474976710656 = va % 281474976710656 := Int.tmod_eq_emod_of_nonneg h0
  have hw : IntKind.u64.wrap (va % 281474976710656) = va % 281474976710656 := u64_wrap _ (by omega) (by omega)
  have HC : ∀ w, Calls Try.prog 22 #[.int .u64 (va % 281474976710656), .int .i64 (39 - 9 * level)] w fun e w' => e = .returned (.int .u64 (baseV va level)) ∧ Below w.heap.size w w' := by
    intro w
    have := down_any (va % 281474976710656) (lbits level) (by omega) (by omega) (by omega) (by omega) w
    rw [e, hl] at this
    exact this
  have HC' : ∀ w, Calls Try.prog 22 #[.int .u64 (IntKind.u64.wrap (va.tmod 281474976710656)), .int .i64 (39 - 9 * level)] w fun e w' => e = .returned (.int .u64 (baseV va level)) ∧ Below w.heap.size w w' := by
    rw [hv, hw]; exact HC
  clear e hl hr hv hw
  go_enter Try.func32, Try.ntmps32
  go_wp2_with (first
    | (go_at_call 44; (with_reducible refine (low_any level k0 k1 _).mono ?_); rintro e w1 ⟨rfl, hB⟩)
    | (go_at_call 22; (with_reducible refine (HC _).mono ?_); rintro e w2 ⟨rfl, hq_⟩; have hB2 := below_step hB hq_; clear hB hq_)
    | (go_at_call 22; (with_reducible refine (HC' _).mono ?_); rintro e w2 ⟨rfl, hq_⟩; have hB2 := below_step hB hq_; clear hB hq_))
  go_ret
  exact ⟨rfl, hB2⟩
set_option maxRecDepth 100000 in
set_option maxHeartbeats 4000000 in
theorem virtParts_any (va level : Int) (h0 : 0 ≤ va) (h1 : va < 18446744073709551616) (w : World) :
    Calls Try.prog 6 #[.int .u64 va, .int .i64 level] w fun e w' => e = .returned (.bool true) ∧ Below w.heap.size w w' := by
  cases hk : kn level
  · have hx : idxV va level = -1 := by simp [idxV, hk]
    have hb : baseV va level = 0 := by simp [baseV, hk]
    have ho : offV va level = 0 := by simp [offV, hk]
    have CI : ∀ w, _ := fun w => hx ▸ vindex_any (level := level) h0 h1 w
    have CB : ∀ w, _ := fun w => hb ▸ vbase_any (level := level) h0 h1 w
    have CO : ∀ w, _ := fun w => ho ▸ voffset_any (level := level) h0 h1 w
    clear hx hb ho
    by_cases hlo : va < 281474976710656
    · have CL := fun w => vlow_as h0 (show lowB va = true by simp [lowB, hlo]) w
      rcases kn_no hk with hl | hl
      all_goals
        go_enter Try.func6, Try.ntmps6
        go_wp2_with (first
          | (go_at_call 26; (with_reducible refine (anchor_any _).mono ?_); rintro e w1 ⟨rfl, hB⟩)
          | (go_at_call 27; (with_reducible refine (CL _).mono ?_); rintro e w2 ⟨rfl, hq_⟩; have hB2 := below_step hB hq_; clear hB hq_)
          | (go_at_call 28; (with_reducible refine (CI _).mono ?_); rintro e w3 ⟨rfl, hq_⟩; have hB3 := below_step hB2 hq_; clear hB2 hq_)
          | (go_at_call 29; (with_reducible refine (CB _).mono ?_); rintro e w4 ⟨rfl, hq_⟩; have hB4 := below_step hB3 hq_; clear hB3 hq_)
          | (go_at_call 30; (with_reducible refine (CO _).mono ?_); rintro e w5 ⟨rfl, hq_⟩; have hB5 := below_step hB4 hq_; clear hB4 hq_))
        go_ret
        exact ⟨rfl, hB5⟩
    · have hhi : 281474976710656 ≤ va := by omega
      have CL := fun w => vlow_as h0 (show lowB va = false by simp [lowB, hhi]) w
      clear hlo
      rcases kn_no hk with hl | hl
      all_goals
        go_enter Try.func6, Try.ntmps6
        go_wp2_with (first
          | (go_at_call 26; (with_reducible refine (anchor_any _).mono ?_); rintro e w1 ⟨rfl, hB⟩)
          | (go_at_call 27; (with_reducible refine (CL _).mono ?_); rintro e w2 ⟨rfl, hq_⟩; have hB2 := below_step hB hq_; clear hB hq_)
          | (go_at_call 28; (with_reducible refine (CI _).mono ?_); rintro e w3 ⟨rfl, hq_⟩; have hB3 := below_step hB2 hq_; clear hB2 hq_)
          | (go_at_call 29; (with_reducible refine (CB _).mono ?_); rintro e w4 ⟨rfl, hq_⟩; have hB4 := below_step hB3 hq_; clear hB3 hq_)
          | (go_at_call 30; (with_reducible refine (CO _).mono ?_); rintro e w5 ⟨rfl, hq_⟩; have hB5 := below_step hB4 hq_; clear hB4 hq_))
        go_ret
        exact ⟨rfl, hB5⟩
  · obtain ⟨k0, k1⟩ : 0 ≤ level ∧ level ≤ 3 := of_decide_eq_true hk
    have CI := fun w => vindex_any (level := level) h0 h1 w
    have CB := fun w => vbase_any (level := level) h0 h1 w
    have CO := fun w => voffset_any (level := level) h0 h1 w
    have RI := fun w => rindex_any h0 h1 hk w
    have RB := fun w => rbase_any h0 h1 hk w
    have RO := fun w => roffset_any h0 h1 hk w
    have hbo := fun h => base_off va level h0 h hk
    generalize idxV va level = ix at *
    generalize baseV va level = bs at *
    generalize offV va level = os at *
    by_cases hlo : va < 281474976710656
    · have CL := fun w => vlow_as h0 (show lowB va = true by simp [lowB, hlo]) w
      obtain ⟨e1, e2⟩ := hbo hlo
      clear hbo
      go_enter Try.func6, Try.ntmps6
      go_wp2_with (first
          | (go_at_call 26; (with_reducible refine (anchor_any _).mono ?_); rintro e w1 ⟨rfl, hB⟩)
          | (go_at_call 27; (with_reducible refine (CL _).mono ?_); rintro e w2 ⟨rfl, hq_⟩; have hB2 := below_step hB hq_; clear hB hq_)
          | (go_at_call 28; (with_reducible refine (CI _).mono ?_); rintro e w3 ⟨rfl, hq_⟩; have hB3 := below_step hB2 hq_; clear hB2 hq_)
          | (go_at_call 31; (with_reducible refine (RI _).mono ?_); rintro e w4 ⟨rfl, hq_⟩; have hB4 := below_step hB3 hq_; clear hB3 hq_)
          | (go_at_call 29; (with_reducible refine (CB _).mono ?_); rintro e w5 ⟨rfl, hq_⟩; have hB5 := below_step hB4 hq_; clear hB4 hq_)
          | (go_at_call 32; (with_reducible refine (RB _).mono ?_); rintro e w6 ⟨rfl, hq_⟩; have hB6 := below_step hB5 hq_; clear hB5 hq_)
          | (go_at_call 30; (with_reducible refine (CO _).mono ?_); rintro e w7 ⟨rfl, hq_⟩; have hB7 := below_step hB6 hq_; clear hB6 hq_)
          | (go_at_call 33; (with_reducible refine (RO _).mono ?_); rintro e w8 ⟨rfl, hq_⟩; have hB8 := below_step hB7 hq_; clear hB7 hq_)
          | (go_at_call 27; (with_reducible refine (CL _).mono ?_); rintro e w9 ⟨rfl, hq_⟩; have hB9 := below_step hB8 hq_; clear hB8 hq_)
          | (go_at_call 29; (with_reducible refine (CB _).mono ?_); rintro e w10 ⟨rfl, hq_⟩; have hB10 := below_step hB9 hq_; clear hB9 hq_)
          | (go_at_call 30; (with_reducible refine (CO _).mono ?_); rintro e w11 ⟨rfl, hq_⟩; have hB11 := below_step hB10 hq_; clear hB10 hq_)
          | (go_at_call 29; (with_reducible refine (CB _).mono ?_); rintro e w12 ⟨rfl, hq_⟩; have hB12 := below_step hB11 hq_; clear hB11 hq_)
          | (go_at_call 30; (with_reducible refine (CO _).mono ?_); rintro e w13 ⟨rfl, hq_⟩; have hB13 := below_step hB12 hq_; clear hB12 hq_))
      go_ret
      exact ⟨rfl, hB13⟩
    · have hhi : 281474976710656 ≤ va := by omega
      have CL := fun w => vlow_as h0 (show lowB va = false by simp [lowB, hhi]) w
      clear hlo hbo
      go_enter Try.func6, Try.ntmps6
      go_wp2_with (first
          | (go_at_call 26; (with_reducible refine (anchor_any _).mono ?_); rintro e w1 ⟨rfl, hB⟩)
          | (go_at_call 27; (with_reducible refine (CL _).mono ?_); rintro e w2 ⟨rfl, hq_⟩; have hB2 := below_step hB hq_; clear hB hq_)
          | (go_at_call 28; (with_reducible refine (CI _).mono ?_); rintro e w3 ⟨rfl, hq_⟩; have hB3 := below_step hB2 hq_; clear hB2 hq_)
          | (go_at_call 31; (with_reducible refine (RI _).mono ?_); rintro e w4 ⟨rfl, hq_⟩; have hB4 := below_step hB3 hq_; clear hB3 hq_)
          | (go_at_call 29; (with_reducible refine (CB _).mono ?_); rintro e w5 ⟨rfl, hq_⟩; have hB5 := below_step hB4 hq_; clear hB4 hq_)
          | (go_at_call 32; (with_reducible refine (RB _).mono ?_); rintro e w6 ⟨rfl, hq_⟩; have hB6 := below_step hB5 hq_; clear hB5 hq_)
          | (go_at_call 30; (with_reducible refine (CO _).mono ?_); rintro e w7 ⟨rfl, hq_⟩; have hB7 := below_step hB6 hq_; clear hB6 hq_)
          | (go_at_call 33; (with_reducible refine (RO _).mono ?_); rintro e w8 ⟨rfl, hq_⟩; have hB8 := below_step hB7 hq_; clear hB7 hq_)
          | (go_at_call 27; (with_reducible refine (CL _).mono ?_); rintro e w9 ⟨rfl, hq_⟩; have hB9 := below_step hB8 hq_; clear hB8 hq_))
      go_ret
      exact ⟨rfl, hB9⟩
end Go.Proofs.Ytnidkgnillipgaa.Vp
