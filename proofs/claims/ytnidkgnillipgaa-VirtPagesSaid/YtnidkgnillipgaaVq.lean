/- The law VirtPages: each call answers true. -/
import Derived.Test.YtnidkgnillipgaaProg
import Derived.Test.YtnidkgnillipgaaG
import Derived.Test.YtnidkgnillipgaaB
import Derived.Test.YtnidkgnillipgaaHa
import Derived.Test.YtnidkgnillipgaaPVirtPagesx1
import Derived.Test.YtnidkgnillipgaaVp
namespace Go.Proofs.Ytnidkgnillipgaa.Vq
open Go.RowKit Go.Proofs.Ytnidkgnillipgaa.G Go.Proofs.Ytnidkgnillipgaa.B Go.Proofs.Ytnidkgnillipgaa.Ha Go.Proofs.Ytnidkgnillipgaa.PVirtPages Go.Proofs.YtnidkgnillipgaaW.PrintLast Go.Proofs.YtnidkgnillipgaaW.PrintMore Go.Proofs.Ytnidkgnillipgaa.Vp
open Go.Proofs.YtnidkgnillipgaaW.PrintWords hiding below_step
set_option linter.unusedVariables false
set_option linter.unusedSimpArgs false
/-- So many stretches' beginnings. -/
def pagesL (f s : Int) (m : Nat) : List Int := (List.range m).map fun (i : Nat) => f + (i : Int) * s
theorem pagesL_length (f s : Int) (m : Nat) : (pagesL f s m).length = m := by simp [pagesL]
theorem pagesL_succ (f s : Int) (m : Nat) : pagesL f s m ++ [f + (m : Int) * s] = pagesL f s (m + 1) := by
  simp [pagesL, List.range_succ]
theorem pagesL_get (f s : Int) (m i : Nat) (hi : i < m) (z : Int) : (pagesL f s m).getD i z = f + (i : Int) * s := by simp [pagesL, hi]
theorem ones_lsize {level : Int} (hk : kn level = true) : ones (lbits level) = lsize level - 1 := by
  have := lbits_range level
  unfold ones
  rw [show min (lbits level).toNat 64 = (lbits level).toNat by omega, lsize_pow hk]
theorem shl_lsize {level : Int} (hk : kn level = true) : shl .u64 1 (lbits level) = lsize level := by
  have := lbits_range level
  unfold shl
  rw [show min (lbits level).toNat IntKind.u64.bits = (lbits level).toNat by simp [IntKind.bits]; omega, Int.one_mul, lsize_pow hk]
  rcases kn_cases hk with rfl | rfl | rfl | rfl <;> decide
theorem lsize_cases {level : Int} (hk : kn level = true) : lsize level = 549755813888 ∨ lsize level = 1073741824 ∨ lsize level = 2097152 ∨ lsize level = 4096 := by
  rcases kn_cases hk with rfl | rfl | rfl | rfl <;> simp [lsize]
def pagesR (f s : Int) (m : Nat) : List Int × Bool := if m < 512 then (pagesL f s (m + 1), true) else ([], false)
theorem p_loop (va n level f y : Int) (m : Nat) (hk : kn level = true) (hf : 0 ≤ f) (hy : y < 281474976710656) (hw : IntKind.u64.wrap (IntKind.u64.wrap (va + n) - 1) = y)
    (h1 : f + (m : Int) * lsize level ≤ y) (h2 : y < f + (m : Int) * lsize level + lsize level) (d : Nat) :
    ∀ (k i : Nat), i + d = 512 → i ≤ m → d < k → virt_Pages.l0 k va n level (pagesL f (lsize level) i) (f + (i : Int) * lsize level) = some (pagesR f (lsize level) m) := by
  induction d with
  | zero =>
    intro k i hi him hd
    obtain ⟨k, rfl⟩ : ∃ j, k = j + 1 := ⟨k - 1, by omega⟩
    unfold virt_Pages.l0
    rw [if_pos (by rw [pagesL_length]; omega)]
    unfold pagesR
    rw [if_neg (by omega)]
  | succ d ih =>
    intro k i hi him hd
    obtain ⟨k, rfl⟩ : ∃ j, k = j + 1 := ⟨k - 1, by omega⟩
    have hs : 0 < lsize level := by rcases lsize_cases hk with h | h | h | h <;> rw [h] <;> decide
    have hs' : lsize level ≤ 549755813888 := by rcases lsize_cases hk with h | h | h | h <;> rw [h] <;> decide
    have hat : (i : Int) * lsize level ≤ (m : Int) * lsize level := Int.mul_le_mul_of_nonneg_right (by omega) (by omega)
    have hat0 : 0 ≤ (i : Int) * lsize level := Int.mul_nonneg (by omega) (by omega)
    unfold virt_Pages.l0
    rw [if_neg (by rw [pagesL_length]; omega), if_pos (by rw [pagesL_length]; omega), Option.bind_some, p_bits, Option.bind_some, p_ones, Option.bind_some, hw, pagesL_succ, ones_lsize hk]
    rw [u64_wrap (y - (f + (i : Int) * lsize level)) (by omega) (by omega)]
    by_cases he : i = m
    · subst he
      rw [if_pos (by omega)]
      unfold pagesR
      rw [if_pos (by omega)]
    · have hnx : (i : Int) * lsize level + lsize level ≤ (m : Int) * lsize level := by
        have : ((i : Int) + 1) * lsize level ≤ (m : Int) * lsize level := Int.mul_le_mul_of_nonneg_right (by omega) (by omega)
        rw [Int.add_mul, Int.one_mul] at this
        exact this
      have hr := lbits_range level
      rw [if_neg (by omega), Option.bind_some, if_pos (by omega), shl_lsize hk, u64_wrap _ (by omega) (by omega)]
      have e : f + (i : Int) * lsize level + lsize level = f + ((i + 1 : Nat) : Int) * lsize level := by
        rw [Int.natCast_add, Int.add_mul, Int.add_assoc]; simp
      rw [e]
      exact ih k (i + 1) (by omega) (by omega) (by omega)
theorem p_pages_bad (va n level : Int) (h0 : 0 ≤ va) (hn0 : 0 ≤ n) (hbad : n = 0 ∨ level < 0 ∨ 3 < level ∨ 281474976710656 ≤ va ∨ 281474976710656 - va < n) : virt_Pages.f 2 va n level = some ([], false) := by
  unfold virt_Pages.f
  by_cases c1 : n = 0
  · rw [if_pos c1]; rfl
  · rw [if_neg c1, p_known, Option.bind_some]
    cases hk : kn level
    · rw [if_neg (by decide)]; rfl
    · obtain ⟨k0, k1⟩ : 0 ≤ level ∧ level ≤ 3 := of_decide_eq_true hk
      rw [if_pos rfl, p_low va h0, Option.bind_some]
      by_cases c2 : va < 281474976710656
      · rw [show lowB va = true by simp [lowB, c2], if_pos rfl, u64_wrap _ (by omega) (by omega), decide_eq_true (by omega)]; rfl
      · rw [show lowB va = false by simp [lowB]; omega, if_neg (by decide)]; rfl
theorem p_pages_ok (va n level : Int) (m : Nat) (h0 : 0 ≤ va) (hn0 : 0 < n) (hva : va < 281474976710656) (hn : n ≤ 281474976710656 - va) (hk : kn level = true)
    (hm : baseV va level + (m : Int) * lsize level = baseV (va + n - 1) level) : virt_Pages.f 600 va n level = some (pagesR (baseV va level) (lsize level) m) := by
  have hb0 : 0 ≤ baseV va level := by
    rw [baseV_yes hk]
    rcases lsize_cases hk with h | h | h | h <;> rw [h] <;> omega
  have hw : IntKind.u64.wrap (IntKind.u64.wrap (va + n) - 1) = va + n - 1 := by rw [u64_wrap (va + n) (by omega) (by omega), u64_wrap _ (by omega) (by omega)]
  have hl : baseV (va + n - 1) level ≤ va + n - 1 ∧ va + n - 1 < baseV (va + n - 1) level + lsize level := by
    rw [baseV_yes hk]
    rcases lsize_cases hk with h | h | h | h <;> rw [h] <;> omega
  unfold virt_Pages.f
  rw [if_neg (by omega), p_known, Option.bind_some, hk, if_pos rfl, p_low va h0, Option.bind_some, show lowB va = true by simp [lowB, hva], if_pos rfl, u64_wrap _ (by omega) (by omega), decide_eq_false (by omega)]
  simp only [virt_Pages.j0]
  rw [if_neg (by decide), p_base va level h0 (by omega), Option.bind_some]
  have := p_loop va n level (baseV va level) (va + n - 1) m hk hb0 (by omega) hw (by omega) (by omega) 512 599 0 (by omega) (by omega) (by omega)
  simpa [pagesL] using this
theorem pages_bad {va n level : Int} (h0 : 0 ≤ va) (hn0 : 0 ≤ n) (hbad : n = 0 ∨ level < 0 ∨ 3 < level ∨ 281474976710656 ≤ va ∨ 281474976710656 - va < n) (w : World) :
    Calls Try.prog 43 #[.int .u64 va, .int .u64 n, .int .i64 level] w fun e w' => (∃ A c, e = .returned (.tuple #[.slice A 0 c, .bool false])) ∧ Below w.heap.size w w' :=
  (virt_Pages.calls 2 va n level [] false w (p_pages_bad va n level h0 hn0 hbad)).mono fun _ _ ⟨v, he, hR, hB⟩ => by
    obtain ⟨A, c, rfl⟩ := Kd.R_slice hR
    exact ⟨⟨A, c, he⟩, hB⟩
theorem pages_ok {va n level : Int} {m N : Nat} {l : List Int} {b : Bool} (hN : l.length = N) (h0 : 0 ≤ va) (hn0 : 0 < n) (hva : va < 281474976710656) (hn : n ≤ 281474976710656 - va) (hk : kn level = true)
    (hm : baseV va level + (m : Int) * lsize level = baseV (va + n - 1) level) (hr : pagesR (baseV va level) (lsize level) m = (l, b)) (w : World) :
    Calls Try.prog 43 #[.int .u64 va, .int .u64 n, .int .i64 level] w fun e w' => (∃ A c, e = .returned (.tuple #[.slice A N c, .bool b]) ∧ Kd.C (Kd.int .u64) w' A N l) ∧ Below w.heap.size w w' := hN ▸
  (virt_Pages.calls 600 va n level l b w (by rw [p_pages_ok va n level m h0 hn0 hva hn hk hm, hr])).mono fun _ _ ⟨v, he, hR, hB⟩ => by
    obtain ⟨A, c, rfl, _, hC⟩ := Kd.R_reads hR
    exact ⟨⟨A, c, he, hC⟩, hB⟩
set_option maxRecDepth 100000 in
set_option maxHeartbeats 4000000 in
theorem virtPages_bad (va n level : Int) (h0 : 0 ≤ va) (h1 : va < 18446744073709551616) (hn0 : 0 ≤ n) (hn1 : n < 18446744073709551616) (hbad : n = 0 ∨ level < 0 ∨ 3 < level ∨ 281474976710656 ≤ va ∨ 281474976710656 - va < n) (w : World) :
    Calls Try.prog 12 #[.int .u64 va, .int .u64 n, .int .i64 level] w fun e w' => e = .returned (.bool true) ∧ Below w.heap.size w w' := by
  have CP := fun w => pages_bad h0 hn0 hbad w
  by_cases c1 : n = 0
  · subst c1
    clear hbad
    go_enter Try.func12, Try.ntmps12
    go_wp2_with (first
      | (go_at_call 26; (with_reducible refine (anchor_any _).mono ?_); rintro e w1 ⟨rfl, hB⟩)
      | (go_at_call 43; (with_reducible refine (CP _).mono ?_); rintro e w2 ⟨⟨A, c, rfl⟩, hq_⟩; have hB2 := Go.Proofs.Ytnidkgnillipgaa.G.below_step hB hq_; clear hB hq_))
    go_ret
    exact ⟨rfl, hB2⟩
  · by_cases c2 : level < 0
    · clear hbad
      go_enter Try.func12, Try.ntmps12
      go_wp2_with (first
        | (go_at_call 26; (with_reducible refine (anchor_any _).mono ?_); rintro e w1 ⟨rfl, hB⟩)
        | (go_at_call 43; (with_reducible refine (CP _).mono ?_); rintro e w2 ⟨⟨A, c, rfl⟩, hq_⟩; have hB2 := Go.Proofs.Ytnidkgnillipgaa.G.below_step hB hq_; clear hB hq_))
      go_ret
      exact ⟨rfl, hB2⟩
    · replace c2 : 0 ≤ level := by omega
      by_cases c3 : 3 < level
      · clear hbad
        go_enter Try.func12, Try.ntmps12
        go_wp2_with (first
          | (go_at_call 26; (with_reducible refine (anchor_any _).mono ?_); rintro e w1 ⟨rfl, hB⟩)
          | (go_at_call 43; (with_reducible refine (CP _).mono ?_); rintro e w2 ⟨⟨A, c, rfl⟩, hq_⟩; have hB2 := Go.Proofs.Ytnidkgnillipgaa.G.below_step hB hq_; clear hB hq_))
        go_ret
        exact ⟨rfl, hB2⟩
      · replace c3 : level ≤ 3 := by omega
        by_cases c4 : 281474976710656 ≤ va
        · clear hbad
          go_enter Try.func12, Try.ntmps12
          go_wp2_with (first
            | (go_at_call 26; (with_reducible refine (anchor_any _).mono ?_); rintro e w1 ⟨rfl, hB⟩)
            | (go_at_call 43; (with_reducible refine (CP _).mono ?_); rintro e w2 ⟨⟨A, c, rfl⟩, hq_⟩; have hB2 := Go.Proofs.Ytnidkgnillipgaa.G.below_step hB hq_; clear hB hq_))
          go_ret
          exact ⟨rfl, hB2⟩
        · have c5 : 281474976710656 - va < n := by omega
          replace c4 : va < 281474976710656 := by omega
          clear hbad
          go_enter Try.func12, Try.ntmps12
          go_wp2_with (first
            | (go_at_call 26; (with_reducible refine (anchor_any _).mono ?_); rintro e w1 ⟨rfl, hB⟩)
            | (go_at_call 43; (with_reducible refine (CP _).mono ?_); rintro e w2 ⟨⟨A, c, rfl⟩, hq_⟩; have hB2 := Go.Proofs.Ytnidkgnillipgaa.G.below_step hB hq_; clear hB hq_))
          go_ret
          exact ⟨rfl, hB2⟩
set_option maxRecDepth 100000 in
set_option maxHeartbeats 4000000 in
theorem virtPages_ok (va n level : Int) (h0 : 0 ≤ va) (hn0 : 0 < n) (hva : va < 281474976710656) (hn : n ≤ 281474976710656 - va) (hk : kn level = true) (w : World) :
    Calls Try.prog 12 #[.int .u64 va, .int .u64 n, .int .i64 level] w fun e w' => e = .returned (.bool true) ∧ Below w.heap.size w w' := by
  obtain ⟨k0, k1⟩ : 0 ≤ level ∧ level ≤ 3 := of_decide_eq_true hk
  have hs : 0 < lsize level := by rcases lsize_cases hk with h | h | h | h <;> rw [h] <;> decide
  have hs' : lsize level ≤ 549755813888 := by rcases lsize_cases hk with h | h | h | h <;> rw [h] <;> decide
  have hb0 : 0 ≤ baseV va level ∧ baseV va level ≤ baseV (va + n - 1) level ∧ baseV (va + n - 1) level < 281474976710656 := by
    rw [baseV_yes hk, baseV_yes hk]
    rcases lsize_cases hk with h | h | h | h <;> rw [h] <;> omega
  obtain ⟨m, hm⟩ : ∃ m : Nat, baseV va level + (m : Int) * lsize level = baseV (va + n - 1) level := by
    refine ⟨((baseV (va + n - 1) level - baseV va level) / lsize level).toNat, ?_⟩
    rw [baseV_yes hk, baseV_yes hk]
    rcases lsize_cases hk with h | h | h | h <;> rw [h] <;> omega
  have hw : IntKind.u64.wrap (IntKind.u64.wrap (va + n) - 1) = va + n - 1 := by rw [u64_wrap (va + n) (by omega) (by omega), u64_wrap _ (by omega) (by omega)]
  obtain ⟨bts, hbts⟩ : ∃ x : Int, x = 39 - 9 * level := ⟨_, rfl⟩
  have CLo := fun w => low_any level k0 k1 w
  rw [← hbts] at CLo
  have hb1 : 1 ≤ bts := by omega
  have hb2 : bts < 64 := by omega
  have hsh : IntKind.u64.wrap ((2 : Int) ^ bts.toNat) = lsize level := by
    rw [hbts, ← lbits_yes hk, lsize_pow hk]
    rcases kn_cases hk with rfl | rfl | rfl | rfl <;> decide
  clear hbts
  have hq : IntKind.u64.wrap (baseV (va + n - 1) level - baseV va level) = (m : Int) * lsize level := by rw [u64_wrap _ (by omega) (by omega)]; omega
  have hmul : 0 ≤ (m : Int) * lsize level := Int.mul_nonneg (by omega) (by omega)
  have hdiv : ((m : Int) * lsize level).tdiv (lsize level) = m := by rw [Int.mul_tdiv_cancel _ (by omega)]
  have hm48 : (m : Int) < 281474976710656 := by
    have : (m : Int) * 1 ≤ (m : Int) * lsize level := Int.mul_le_mul_of_nonneg_left (by omega) (by omega)
    omega
  have CB := fun w => rbase_any (va := va) (level := level) h0 (by omega) hk w
  have CB2 := fun w => rbase_any (va := va + n - 1) (level := level) (by omega) (by omega) hk w
  have HMM := Aside0.mk hm
  generalize hf_ : baseV va level = f at hb0 hm hq CB
  generalize hla_ : baseV (va + n - 1) level = la at hb0 hm hq CB2
  generalize hsz : lsize level = s at hs hs' hm hq hmul hdiv hm48 hsh
  have hne : (n == 0) = false := by simp; omega
  generalize hP : (m : Int) * s = P at hq hdiv
  have HP := Aside0.mk hP
  have hs00 : ¬ s = 0 := by omega
  have HM := Aside0.mk hm
  have HSH := Aside0.mk hsh
  have HM48 := Aside0.mk hm48
  have HB0 := Aside0.mk hb0
  have HS0 := Aside0.mk hs
  have HS1 := Aside0.mk hs'
  clear hP hm hsh hw hmul hm48 hb0 hs hs'
  by_cases h512 : m < 512
  · have CP := fun w => pages_ok (b := true) (pagesL_length f s (m + 1)) h0 hn0 hva hn hk HMM.out (by rw [hf_, hsz]; unfold pagesR; rw [if_pos h512]) w
    have h512' : (m : Int) < 512 := by omega
    have h512'' : (m : Int) + 1 ≤ 512 := by omega
    clear HMM hf_ hla_ hsz h512
    clear HM48
    go_enter Try.func12, Try.ntmps12
    go_wp2_with (first
      | (go_at_call 26; (with_reducible refine (anchor_any _).mono ?_); rintro e w1 ⟨rfl, hB⟩)
      | (go_at_call 43; (with_reducible refine (CP _).mono ?_); rintro e w2 ⟨⟨A, c, rfl, hC0⟩, hq_⟩; have hC := Aside0.mk hC0; clear hC0; have hB2 := Go.Proofs.Ytnidkgnillipgaa.G.below_step hB hq_; clear hB hq_)
      | (go_at_call 44; (with_reducible refine (CLo _).mono ?_); rintro e w3 ⟨rfl, hq_⟩; have hB3 := Go.Proofs.Ytnidkgnillipgaa.G.below_step hB2 hq_; have hC3 := Aside0.mk (Kd.C_below hC.out hq_); clear hB2 hq_ hC)
      | (go_at_call 32; rw [HSH.out]; (with_reducible refine (CB _).mono ?_); rintro e w4 ⟨rfl, hq_⟩; have hB4 := Go.Proofs.Ytnidkgnillipgaa.G.below_step hB3 hq_; have hC4 := Aside0.mk (Kd.C_below hC3.out hq_); clear hB3 hq_ hC3)
      | (go_at_call 32; (with_reducible refine (CB2 _).mono ?_); rintro e w5 ⟨rfl, hq_⟩; have hB5 := Go.Proofs.Ytnidkgnillipgaa.G.below_step hB4 hq_; have hC5 := Aside0.mk (Kd.C_below hC4.out hq_); clear hB4 hq_ hC4))
    have hl0 : f + (m : Int) * s < 281474976710656 := by rw [HM.out]; exact HB0.out.2.2
    have hf0 : 0 ≤ f := HB0.out.1
    have hs0 : 0 ≤ s := Int.le_of_lt HS0.out
    have HL0 := Aside0.mk hl0
    have HF0 := Aside0.mk hf0
    have HS2 := Aside0.mk hs0
    have HH := Aside0.mk h512'
    clear hl0 hf0 hs0 hq hdiv hs00 HM HSH HB0 HS0 HS1 HP CB CB2 CLo CP h512' h512'' hb1 hb2
    go_loopw [89] (fun iv wr => ∃ k : Nat, k ≤ m + 1 ∧ iv = .int .i64 k ∧ Aside0 ((Kd.int IntKind.u64).C wr A (m + 1) (pagesL f s (m + 1))) ∧ Below w.heap.size w wr)
      (fun iv _ => m + 1 - (intOf iv).toNat)
    case atStart => exact ⟨0, by omega, rfl, hC5, hB5⟩
    case round =>
      obtain ⟨k, hk', rfl, hC, hB⟩ := hrel
      clear hC5 hB5
      by_cases hlt : k < m + 1
      · obtain ⟨ad, _, rfl, _, _, _⟩ := Kd.C_get hC.out 0 (k : Int) (by omega) (by omega)
        have hcell := Kd.foot_int hC.out (k : Int) (by omega) (by omega)
        rw [show rd (pagesL f s (m + 1)) (k : Int) = f + (k : Int) * s from by unfold rd; exact pagesL_get f s (m + 1) k hlt 0, show ((k : Int)).toNat = k by simp] at hcell
        have hks0 : 0 ≤ (k : Int) * s := Int.mul_nonneg (by omega) HS2.out
        have hks1 : f + (k : Int) * s < 18446744073709551616 := by
          have : (k : Int) * s ≤ (m : Int) * s := Int.mul_le_mul_of_nonneg_right (by omega) HS2.out
          have := HL0.out
          omega
        have hf0 := HF0.out
        have hks2 : (k : Int) * s < 18446744073709551616 := by omega
        have hkI : (k : Int) < (m : Int) + 1 := by omega
        have hk600 : (k : Int) < 600 := by have := HH.out; omega
        go_wp2
        exact ⟨⟨k + 1, by omega, rfl, hC, hB⟩, by simp only [intOf]; omega⟩
      · obtain rfl : k = m + 1 := by omega
        go_wp2
        go_ret
        exact ⟨rfl, hB⟩
  · have h513 : (512 : Int) ≤ m := by omega
    have CP := fun w => pages_ok (b := false) (l := []) rfl h0 hn0 hva hn hk HMM.out (by rw [hf_, hsz]; unfold pagesR; rw [if_neg h512]) w
    clear HMM h512 hf_ hla_ hsz
    generalize hmi : (m : Int) = mi at hdiv h513 HM48
    have h514 : 512 < mi + 1 := by omega
    have h48 : mi < 281474976710656 := HM48.out
    clear HM48 HM HP hmi
    go_enter Try.func12, Try.ntmps12
    go_wp2_with (first
      | (go_at_call 26; (with_reducible refine (anchor_any _).mono ?_); rintro e w1 ⟨rfl, hB⟩)
      | (go_at_call 43; (with_reducible refine (CP _).mono ?_); rintro e w2 ⟨⟨A, c, rfl, hC0⟩, hq_⟩; have hC := Aside0.mk hC0; clear hC0; have hB2 := Go.Proofs.Ytnidkgnillipgaa.G.below_step hB hq_; clear hB hq_)
      | (go_at_call 44; (with_reducible refine (CLo _).mono ?_); rintro e w3 ⟨rfl, hq_⟩; have hB3 := Go.Proofs.Ytnidkgnillipgaa.G.below_step hB2 hq_; have hC3 := Aside0.mk (Kd.C_below hC.out hq_); clear hB2 hq_ hC)
      | (go_at_call 32; rw [HSH.out]; (with_reducible refine (CB _).mono ?_); rintro e w4 ⟨rfl, hq_⟩; have hB4 := Go.Proofs.Ytnidkgnillipgaa.G.below_step hB3 hq_; have hC4 := Aside0.mk (Kd.C_below hC3.out hq_); clear hB3 hq_ hC3)
      | (go_at_call 32; (with_reducible refine (CB2 _).mono ?_); rintro e w5 ⟨rfl, hq_⟩; have hB5 := Go.Proofs.Ytnidkgnillipgaa.G.below_step hB4 hq_; have hC5 := Aside0.mk (Kd.C_below hC4.out hq_); clear hB4 hq_ hC4))
    go_ret
    exact ⟨rfl, hB5⟩
theorem virtPages_any (va n level : Int) (h0 : 0 ≤ va) (h1 : va < 18446744073709551616) (hn0 : 0 ≤ n) (hn1 : n < 18446744073709551616) (w : World) :
    Calls Try.prog 12 #[.int .u64 va, .int .u64 n, .int .i64 level] w fun e w' => e = .returned (.bool true) ∧ Below w.heap.size w w' := by
  by_cases hbad : n = 0 ∨ level < 0 ∨ 3 < level ∨ 281474976710656 ≤ va ∨ 281474976710656 - va < n
  · exact virtPages_bad va n level h0 h1 hn0 hn1 hbad w
  · exact virtPages_ok va n level h0 (by omega) (by omega) (by omega) (decide_eq_true (by omega)) w
end Go.Proofs.Ytnidkgnillipgaa.Vq
