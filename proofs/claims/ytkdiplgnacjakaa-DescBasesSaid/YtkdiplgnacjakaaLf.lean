/- The law DescBases: each call answers true. -/
import Derived.Test.YtkdiplgnacjakaaProg
import Derived.Test.YtkdiplgnacjakaaG
import Derived.Test.YtkdiplgnacjakaaB
import Derived.Test.YtkdiplgnacjakaaHa
import Derived.Test.YtkdiplgnacjakaaQx5
import Derived.Test.YtkdiplgnacjakaaLe
namespace Go.Proofs.Ytkdiplgnacjakaa.Lf
open Go.RowKit Go.Proofs.Ytkdiplgnacjakaa.G Go.Proofs.Ytkdiplgnacjakaa.B Go.Proofs.Ytkdiplgnacjakaa.Ha Go.Proofs.Ytkdiplgnacjakaa.PDescBases Go.Proofs.Ytkdiplgnacjakaa.Le
open Go.Proofs.YtkdiplgnacjakaaW.PrintWords (shl shr rd)
set_option linter.unusedVariables false
set_option linter.unusedSimpArgs false
theorem p_mask (a b : Int) : field_Field_Mask.f a b = some (maskV a b) := by
  unfold field_Field_Mask.f
  rw [p_right]; simp only [Option.bind_some]
  cases h : fr a b
  · rw [if_neg (by decide), maskV_no h]
  · obtain ⟨l, k, rfl, rfl, hlk, hk1⟩ := fr_nat h
    rw [if_pos rfl, p_ones]; simp only [Option.bind_some]
    rw [if_pos (by omega), maskV_yes h]
    unfold shl
    rw [show min (l : Int).toNat IntKind.u64.bits = l by simp [IntKind.bits]; omega, mask_wrap l k hlk]
theorem p_put (a b x v : Int) (h0 : 0 ≤ x) (h1 : x < 18446744073709551616) (v0 : 0 ≤ v) (v1 : v < 18446744073709551616) :
    field_Field_Put.f a b x v = some (if fr a b then (if v < 2 ^ b.toNat then (mixV x v a.toNat b.toNat, 0) else (0, 11)) else (0, 10)) := by
  unfold field_Field_Put.f
  rw [p_right]; simp only [Option.bind_some]
  cases h : fr a b
  · rw [if_neg (by decide)]; rfl
  · obtain ⟨l, k, rfl, rfl, hlk, hk1⟩ := fr_nat h
    have hh := high_word v k v0 v1 (by omega)
    rw [if_pos rfl, if_pos rfl, p_ones]; simp only [Option.bind_some]
    by_cases hv : v < 2 ^ k
    · rw [decide_eq_true hv] at hh
      rw [if_pos (by simpa using hh), p_mask, if_pos (by simpa using hv)]; simp only [Option.bind_some]
      rw [if_pos (by omega), maskV_yes h]
      unfold shl
      rw [show min (l : Int).toNat IntKind.u64.bits = l by simp [IntKind.bits]; omega, put_word x v l k h0 h1 v0 hv hlk]
      rfl
    · rw [decide_eq_false hv] at hh
      rw [if_neg (by simpa using hh), if_neg (by simpa using hv)]

theorem p_aligned (x n : Int) (h0 : 0 ≤ x) (h1 : x < 18446744073709551616) : field_Aligned.f x n = some (al x n) := by
  unfold field_Aligned.f
  rw [p_ones, Option.bind_some, and_ones x n h0 h1]
  congr 1
def rightB (at_ asid : Int) : Bool := decide (at_ < 281474976710656 ∧ 0 ≤ asid ∧ asid ≤ 255)
theorem al12 (x : Int) : al x 12 = decide (x % 4096 = 0) := rfl
theorem p_Base (x asid : Int) (h0 : 0 ≤ x) (h1 : x < 18446744073709551616) :
    desc_Base.f 2 x asid = some (if x % 4096 = 0 then (if rightB x asid then (x + asid * 281474976710656, 0) else (0, 12)) else (0, 13)) := by
  unfold desc_Base.f
  rw [p_aligned x 12 h0 h1, Option.bind_some, al12]
  by_cases c1 : x % 4096 = 0
  · rw [if_pos (decide_eq_true c1), if_pos c1]
    by_cases c2 : x / 281474976710656 = 0
    · rw [if_pos c2]
      by_cases c3 : asid < 0
      · rw [if_pos c3, show rightB x asid = false by simp [rightB]; omega]; rfl
      · rw [if_neg c3]
        by_cases c4 : asid ≥ 256
        · rw [decide_eq_true c4, show rightB x asid = false by simp [rightB]; omega]; rfl
        · rw [decide_eq_false c4, show rightB x asid = true by simp [rightB]; omega]
          simp only [desc_Base.j0, desc_asidField.f]
          rw [if_neg (by decide), Option.bind_some, u64_wrap asid (by omega) (by omega), p_put 48 8 x asid h0 h1 (by omega) (by omega), Option.bind_some]
          rw [show fr 48 8 = true by decide, if_pos rfl, if_pos (show asid < 2 ^ (8 : Int).toNat by simp; omega)]
          simp [mixV]
          omega
    · rw [if_neg c2, show rightB x asid = false by simp [rightB]; omega]; rfl
  · rw [if_neg (by simpa using c1), if_neg c1]
theorem rest_word (x : Int) (h0 : 0 ≤ x) (h1 : x < 18446744073709551616) : bits .andNot .u64 x (maskV 48 8) = mixV x 0 48 8 := by
  obtain ⟨n, rfl⟩ := Int.eq_ofNat_of_zero_le h0
  have h := put_word (n : Int) 0 48 8 h0 h1 (by decide) (by decide) (by decide)
  have hm : maskV 48 8 = ((maskN 48 8 : Nat) : Int) := by decide
  rw [bits_andNot, show IntKind.u64.wrap (0 * 2 ^ 48) = ((0 : Nat) : Int) by decide, bits_or _ _ (andNot_le _ _) (by decide), Nat.or_zero] at h
  rw [hm, bits_andNot, h]
  rfl
def readB (x : Int) : Bool := decide (x % 4096 = 0 ∧ x < 72057594037927936)
theorem p_Rest (x : Int) (h0 : 0 ≤ x) (h1 : x < 18446744073709551616) : field_Rest.f 4 x [(⟨48, 8⟩ : S66)] = some (x % 281474976710656 + 72057594037927936 * (x / 72057594037927936)) := by
  unfold field_Rest.f
  simp only [field_Rest.l0]
  rw [if_pos (by decide), if_pos (by decide), if_pos (by decide)]
  rw [show (rd_T66 [(⟨48, 8⟩ : S66)] 0).f0 = 48 from rfl, show (rd_T66 [(⟨48, 8⟩ : S66)] 0).f1 = 8 from rfl, p_mask, Option.bind_some, wrap64_in (0 + 1) (by decide) (by decide), if_neg (by decide), rest_word x h0 h1]
  simp [mixV]
theorem p_Read (x : Int) (h0 : 0 ≤ x) (h1 : x < 18446744073709551616) :
    desc_ReadBase.f 4 x = some (if readB x then (x % 281474976710656, x / 281474976710656, 0) else (0, 0, 10)) := by
  unfold desc_ReadBase.f
  simp only [desc_asidField.f]
  rw [Option.bind_some, p_Rest x h0 h1, Option.bind_some, Option.bind_some, p_get _ _ _ h0 h1, Option.bind_some]
  have e : getV 48 8 x = x / 281474976710656 % 256 := by simp [getV, fr]
  rw [e, wrap64_in _ (by omega) (by omega)]
  have hb := desc_Base.mono _ _ 3 _ (desc_Base.mono _ _ 2 _ (p_Base (x % 281474976710656 + 72057594037927936 * (x / 72057594037927936)) (x / 281474976710656 % 256) (by omega) (by omega)))
  by_cases c1 : x % 4096 = 0
  · rw [if_pos (show (x % 281474976710656 + 72057594037927936 * (x / 72057594037927936)) % 4096 = 0 by omega)] at hb
    by_cases c2 : x < 72057594037927936
    · rw [if_pos (show rightB (x % 281474976710656 + 72057594037927936 * (x / 72057594037927936)) (x / 281474976710656 % 256) = true from decide_eq_true (by omega))] at hb
      rw [hb, Option.bind_some, if_pos rfl, if_pos (show x % 281474976710656 + 72057594037927936 * (x / 72057594037927936) + x / 281474976710656 % 256 * 281474976710656 = x by omega),
        if_pos (show readB x = true from decide_eq_true ⟨c1, c2⟩), show x % 281474976710656 + 72057594037927936 * (x / 72057594037927936) = x % 281474976710656 by omega, show x / 281474976710656 % 256 = x / 281474976710656 by omega]
    · rw [if_neg (show ¬ rightB (x % 281474976710656 + 72057594037927936 * (x / 72057594037927936)) (x / 281474976710656 % 256) = true by simp [rightB]; omega)] at hb
      rw [hb, Option.bind_some, if_neg (show ¬ ((0 : Int), (12 : Int)).2 = 0 by decide), if_neg (show ¬ readB x = true by simp [readB]; omega)]
  · rw [if_neg (show ¬ (x % 281474976710656 + 72057594037927936 * (x / 72057594037927936)) % 4096 = 0 by omega)] at hb
    rw [hb, Option.bind_some, if_neg (show ¬ ((0 : Int), (13 : Int)).2 = 0 by decide), if_neg (show ¬ readB x = true by simp [readB]; omega)]
theorem get_as {x r : Int} {l k : Nat} (h0 : 0 ≤ x) (h1 : x < 18446744073709551616) (h : l + k ≤ 64) (hr : x / 2 ^ l % 2 ^ k = r) (w : World) :
    Calls Try.prog 36 #[.int .u64 x, .int .i64 l, .int .i64 k] w fun e w' => e = .returned (.int .u64 r) ∧ Below w.heap.size w w' := hr ▸ get_any x l k h0 h1 h w
theorem read_good (wd : Int) (h0 : 0 ≤ wd) (h1 : wd < 18446744073709551616) (w1 : readB wd = true) (w : World) : Calls Try.prog 35 #[.int .u64 wd] w fun e w' => e = .returned (.tuple #[.int .u64 (wd % 281474976710656), .int .i64 (wd / 281474976710656), .int .i64 0]) ∧ Below w.heap.size w w' :=
  desc_ReadBase.calls 4 wd _ _ _ w (by rw [p_Read wd h0 h1, if_pos w1])
theorem read_bad (wd : Int) (h0 : 0 ≤ wd) (h1 : wd < 18446744073709551616) (w1 : readB wd = false) (w : World) : Calls Try.prog 35 #[.int .u64 wd] w fun e w' => e = .returned (.tuple #[.int .u64 0, .int .i64 0, .int .i64 10]) ∧ Below w.heap.size w w' :=
  desc_ReadBase.calls 4 wd _ _ _ w (by rw [p_Read wd h0 h1, if_neg (by simp [w1])])
theorem good (wd : Int) (h0 : 0 ≤ wd) (h1 : wd < 18446744073709551616) (w1 : wd % 4096 = 0) (w2 : wd < 72057594037927936) : ∃ g2 g3 : Int, 0 ≤ g2 ∧ g2 < 68719476736 ∧ 0 ≤ g3 ∧ g3 < 256 ∧
    (∀ w, Calls Try.prog 35 #[.int .u64 wd] w fun e w' => e = .returned (.tuple #[.int .u64 (g2 * 4096), .int .i64 g3, .int .i64 0]) ∧ Below w.heap.size w w') ∧ (∀ w, Calls Try.prog 36 #[.int .u64 wd, .int .i64 0, .int .i64 12] w fun e w' => e = .returned (.int .u64 0) ∧ Below w.heap.size w w') ∧ (∀ w, Calls Try.prog 36 #[.int .u64 wd, .int .i64 56, .int .i64 8] w fun e w' => e = .returned (.int .u64 0) ∧ Below w.heap.size w w') ∧ (∀ w, Calls Try.prog 36 #[.int .u64 wd, .int .i64 12, .int .i64 36] w fun e w' => e = .returned (.int .u64 g2) ∧ Below w.heap.size w w') ∧ (∀ w, Calls Try.prog 36 #[.int .u64 wd, .int .i64 48, .int .i64 8] w fun e w' => e = .returned (.int .u64 g3) ∧ Below w.heap.size w w') := by
  refine ⟨wd / 4096 % 68719476736, wd / 281474976710656, by omega, by omega, by omega, by omega, fun w => ?_, fun w => ?_, fun w => ?_, fun w => ?_, fun w => ?_⟩
  · rw [show wd / 4096 % 68719476736 * 4096 = wd % 281474976710656 by omega]
    exact read_good wd h0 h1 (decide_eq_true ⟨w1, w2⟩) w
  · exact get_as h0 h1 (l := 0) (k := 12) (by decide) (by simp; omega) w
  · exact get_as h0 h1 (l := 56) (k := 8) (by decide) (by simp; omega) w
  · exact get_as h0 h1 (l := 12) (k := 36) (by decide) (by simp) w
  · exact get_as h0 h1 (l := 48) (k := 8) (by decide) (by simp; omega) w
theorem high (wd : Int) (h0 : 0 ≤ wd) (h1 : wd < 18446744073709551616) (w1 : wd % 4096 = 0) (w2 : ¬ wd < 72057594037927936) : ∃ g1 : Int, ¬ g1 = 0 ∧ (g1 == 0) = false ∧
    (∀ w, Calls Try.prog 35 #[.int .u64 wd] w fun e w' => e = .returned (.tuple #[.int .u64 0, .int .i64 0, .int .i64 10]) ∧ Below w.heap.size w w') ∧ (∀ w, Calls Try.prog 36 #[.int .u64 wd, .int .i64 0, .int .i64 12] w fun e w' => e = .returned (.int .u64 0) ∧ Below w.heap.size w w') ∧ (∀ w, Calls Try.prog 36 #[.int .u64 wd, .int .i64 56, .int .i64 8] w fun e w' => e = .returned (.int .u64 g1) ∧ Below w.heap.size w w') := by
  have e : ¬ wd / 72057594037927936 % 256 = 0 := by omega
  refine ⟨wd / 72057594037927936 % 256, e, by simpa using e, fun w => read_bad wd h0 h1 (decide_eq_false (fun h => w2 h.2)) w, fun w => ?_, fun w => ?_⟩
  · exact get_as h0 h1 (l := 0) (k := 12) (by decide) (by simp; omega) w
  · exact get_as h0 h1 (l := 56) (k := 8) (by decide) (by simp) w
theorem odd (wd : Int) (h0 : 0 ≤ wd) (h1 : wd < 18446744073709551616) (w1 : ¬ wd % 4096 = 0) : ∃ g0 : Int, ¬ g0 = 0 ∧ (g0 == 0) = false ∧
    (∀ w, Calls Try.prog 35 #[.int .u64 wd] w fun e w' => e = .returned (.tuple #[.int .u64 0, .int .i64 0, .int .i64 10]) ∧ Below w.heap.size w w') ∧ (∀ w, Calls Try.prog 36 #[.int .u64 wd, .int .i64 0, .int .i64 12] w fun e w' => e = .returned (.int .u64 g0) ∧ Below w.heap.size w w') := by
  refine ⟨wd % 4096, w1, by simpa using w1, fun w => read_bad wd h0 h1 (decide_eq_false (fun h => w1 h.1)) w, fun w => ?_⟩
  exact get_as h0 h1 (l := 0) (k := 12) (by decide) (by simp) w
theorem down_as {x r : Int} (h0 : 0 ≤ x) (h1 : x < 18446744073709551616) (hr : x - x % 4096 = r) (w : World) :
    Calls Try.prog 34 #[.int .u64 x, .int .i64 12] w fun e w' => e = .returned (.int .u64 r) ∧ Below w.heap.size w w' := hr ▸ down_any x 12 h0 h1 (by decide) (by decide) w
set_option maxRecDepth 100000 in
set_option maxHeartbeats 16000000 in
theorem descBases_any (x asid wd : Int) (x0 : 0 ≤ x) (x1 : x < 18446744073709551616) (h0 : 0 ≤ wd) (h1 : wd < 18446744073709551616) (w : World) :
    Calls Try.prog 10 #[.int .u64 x, .int .i64 asid, .int .u64 wd] w fun e w' => e = .returned (.bool true) ∧ Below w.heap.size w w' := by
  have hB : Below w.heap.size w w := Below.refl _ _
  by_cases c1 : x % 4096 = 0
  · have CD := fun w => down_as x0 x1 (show x - x % 4096 = x by omega) w
    by_cases c2 : x < 281474976710656
    · by_cases c3 : asid < 0
      · have CB := fun w => desc_Base.calls 2 x asid 0 12 w (by rw [p_Base x asid x0 x1, if_pos c1, if_neg (by simp [rightB]; omega)])
        clear c1
        by_cases w1 : wd % 4096 = 0
        · by_cases w2 : wd < 72057594037927936
          · obtain ⟨g2, g3, a0, a1, b0, b1, CR, G0, G1, G2, G3⟩ := good wd h0 h1 w1 w2
            clear h0 h1 w1 w2
            go_enter Try.func10, Try.ntmps10
            go_wp2_with (first
                  | (go_at_call 25; (with_reducible refine (anchor_any _).mono ?_); rintro e w_ ⟨rfl, hq_⟩; replace hB := Go.Proofs.Ytkdiplgnacjakaa.G.below_step hB hq_; clear hq_)
                  | (go_at_call 33; (with_reducible refine (CB _).mono ?_); rintro e w_ ⟨rfl, hq_⟩; replace hB := Go.Proofs.Ytkdiplgnacjakaa.G.below_step hB hq_; clear hq_)
                  | (go_at_call 34; (with_reducible refine (CD _).mono ?_); rintro e w_ ⟨rfl, hq_⟩; replace hB := Go.Proofs.Ytkdiplgnacjakaa.G.below_step hB hq_; clear hq_)
                  | (go_at_call 35; (with_reducible refine (CR _).mono ?_); rintro e w_ ⟨rfl, hq_⟩; replace hB := Go.Proofs.Ytkdiplgnacjakaa.G.below_step hB hq_; clear hq_)
                  | (go_at_call 36; (with_reducible refine (G0 _).mono ?_); rintro e w_ ⟨rfl, hq_⟩; replace hB := Go.Proofs.Ytkdiplgnacjakaa.G.below_step hB hq_; clear hq_)
                  | (go_at_call 36; (with_reducible refine (G1 _).mono ?_); rintro e w_ ⟨rfl, hq_⟩; replace hB := Go.Proofs.Ytkdiplgnacjakaa.G.below_step hB hq_; clear hq_)
                  | (go_at_call 36; (with_reducible refine (G2 _).mono ?_); rintro e w_ ⟨rfl, hq_⟩; replace hB := Go.Proofs.Ytkdiplgnacjakaa.G.below_step hB hq_; clear hq_)
                  | (go_at_call 36; (with_reducible refine (G3 _).mono ?_); rintro e w_ ⟨rfl, hq_⟩; replace hB := Go.Proofs.Ytkdiplgnacjakaa.G.below_step hB hq_; clear hq_))
            go_ret
            exact ⟨by simp, hB⟩
          · obtain ⟨g1, a0, a1, CR, G0, G1⟩ := high wd h0 h1 w1 w2
            clear h0 h1 w1 w2
            go_enter Try.func10, Try.ntmps10
            go_wp2_with (first
                  | (go_at_call 25; (with_reducible refine (anchor_any _).mono ?_); rintro e w_ ⟨rfl, hq_⟩; replace hB := Go.Proofs.Ytkdiplgnacjakaa.G.below_step hB hq_; clear hq_)
                  | (go_at_call 33; (with_reducible refine (CB _).mono ?_); rintro e w_ ⟨rfl, hq_⟩; replace hB := Go.Proofs.Ytkdiplgnacjakaa.G.below_step hB hq_; clear hq_)
                  | (go_at_call 34; (with_reducible refine (CD _).mono ?_); rintro e w_ ⟨rfl, hq_⟩; replace hB := Go.Proofs.Ytkdiplgnacjakaa.G.below_step hB hq_; clear hq_)
                  | (go_at_call 35; (with_reducible refine (CR _).mono ?_); rintro e w_ ⟨rfl, hq_⟩; replace hB := Go.Proofs.Ytkdiplgnacjakaa.G.below_step hB hq_; clear hq_)
                  | (go_at_call 36; (with_reducible refine (G0 _).mono ?_); rintro e w_ ⟨rfl, hq_⟩; replace hB := Go.Proofs.Ytkdiplgnacjakaa.G.below_step hB hq_; clear hq_)
                  | (go_at_call 36; (with_reducible refine (G1 _).mono ?_); rintro e w_ ⟨rfl, hq_⟩; replace hB := Go.Proofs.Ytkdiplgnacjakaa.G.below_step hB hq_; clear hq_))
            go_ret
            exact ⟨by simp, hB⟩
        · obtain ⟨g0, a0, a1, CR, G0⟩ := odd wd h0 h1 w1
          clear h0 h1 w1
          go_enter Try.func10, Try.ntmps10
          go_wp2_with (first
                | (go_at_call 25; (with_reducible refine (anchor_any _).mono ?_); rintro e w_ ⟨rfl, hq_⟩; replace hB := Go.Proofs.Ytkdiplgnacjakaa.G.below_step hB hq_; clear hq_)
                | (go_at_call 33; (with_reducible refine (CB _).mono ?_); rintro e w_ ⟨rfl, hq_⟩; replace hB := Go.Proofs.Ytkdiplgnacjakaa.G.below_step hB hq_; clear hq_)
                | (go_at_call 34; (with_reducible refine (CD _).mono ?_); rintro e w_ ⟨rfl, hq_⟩; replace hB := Go.Proofs.Ytkdiplgnacjakaa.G.below_step hB hq_; clear hq_)
                | (go_at_call 35; (with_reducible refine (CR _).mono ?_); rintro e w_ ⟨rfl, hq_⟩; replace hB := Go.Proofs.Ytkdiplgnacjakaa.G.below_step hB hq_; clear hq_)
                | (go_at_call 36; (with_reducible refine (G0 _).mono ?_); rintro e w_ ⟨rfl, hq_⟩; replace hB := Go.Proofs.Ytkdiplgnacjakaa.G.below_step hB hq_; clear hq_))
          go_ret
          exact ⟨by simp, hB⟩
      · by_cases c4 : 255 < asid
        · have CB := fun w => desc_Base.calls 2 x asid 0 12 w (by rw [p_Base x asid x0 x1, if_pos c1, if_neg (by simp [rightB]; omega)])
          replace c3 : 0 ≤ asid := by omega
          clear c1
          by_cases w1 : wd % 4096 = 0
          · by_cases w2 : wd < 72057594037927936
            · obtain ⟨g2, g3, a0, a1, b0, b1, CR, G0, G1, G2, G3⟩ := good wd h0 h1 w1 w2
              clear h0 h1 w1 w2
              go_enter Try.func10, Try.ntmps10
              go_wp2_with (first
                    | (go_at_call 25; (with_reducible refine (anchor_any _).mono ?_); rintro e w_ ⟨rfl, hq_⟩; replace hB := Go.Proofs.Ytkdiplgnacjakaa.G.below_step hB hq_; clear hq_)
                    | (go_at_call 33; (with_reducible refine (CB _).mono ?_); rintro e w_ ⟨rfl, hq_⟩; replace hB := Go.Proofs.Ytkdiplgnacjakaa.G.below_step hB hq_; clear hq_)
                    | (go_at_call 34; (with_reducible refine (CD _).mono ?_); rintro e w_ ⟨rfl, hq_⟩; replace hB := Go.Proofs.Ytkdiplgnacjakaa.G.below_step hB hq_; clear hq_)
                    | (go_at_call 35; (with_reducible refine (CR _).mono ?_); rintro e w_ ⟨rfl, hq_⟩; replace hB := Go.Proofs.Ytkdiplgnacjakaa.G.below_step hB hq_; clear hq_)
                    | (go_at_call 36; (with_reducible refine (G0 _).mono ?_); rintro e w_ ⟨rfl, hq_⟩; replace hB := Go.Proofs.Ytkdiplgnacjakaa.G.below_step hB hq_; clear hq_)
                    | (go_at_call 36; (with_reducible refine (G1 _).mono ?_); rintro e w_ ⟨rfl, hq_⟩; replace hB := Go.Proofs.Ytkdiplgnacjakaa.G.below_step hB hq_; clear hq_)
                    | (go_at_call 36; (with_reducible refine (G2 _).mono ?_); rintro e w_ ⟨rfl, hq_⟩; replace hB := Go.Proofs.Ytkdiplgnacjakaa.G.below_step hB hq_; clear hq_)
                    | (go_at_call 36; (with_reducible refine (G3 _).mono ?_); rintro e w_ ⟨rfl, hq_⟩; replace hB := Go.Proofs.Ytkdiplgnacjakaa.G.below_step hB hq_; clear hq_))
              go_ret
              exact ⟨by simp, hB⟩
            · obtain ⟨g1, a0, a1, CR, G0, G1⟩ := high wd h0 h1 w1 w2
              clear h0 h1 w1 w2
              go_enter Try.func10, Try.ntmps10
              go_wp2_with (first
                    | (go_at_call 25; (with_reducible refine (anchor_any _).mono ?_); rintro e w_ ⟨rfl, hq_⟩; replace hB := Go.Proofs.Ytkdiplgnacjakaa.G.below_step hB hq_; clear hq_)
                    | (go_at_call 33; (with_reducible refine (CB _).mono ?_); rintro e w_ ⟨rfl, hq_⟩; replace hB := Go.Proofs.Ytkdiplgnacjakaa.G.below_step hB hq_; clear hq_)
                    | (go_at_call 34; (with_reducible refine (CD _).mono ?_); rintro e w_ ⟨rfl, hq_⟩; replace hB := Go.Proofs.Ytkdiplgnacjakaa.G.below_step hB hq_; clear hq_)
                    | (go_at_call 35; (with_reducible refine (CR _).mono ?_); rintro e w_ ⟨rfl, hq_⟩; replace hB := Go.Proofs.Ytkdiplgnacjakaa.G.below_step hB hq_; clear hq_)
                    | (go_at_call 36; (with_reducible refine (G0 _).mono ?_); rintro e w_ ⟨rfl, hq_⟩; replace hB := Go.Proofs.Ytkdiplgnacjakaa.G.below_step hB hq_; clear hq_)
                    | (go_at_call 36; (with_reducible refine (G1 _).mono ?_); rintro e w_ ⟨rfl, hq_⟩; replace hB := Go.Proofs.Ytkdiplgnacjakaa.G.below_step hB hq_; clear hq_))
              go_ret
              exact ⟨by simp, hB⟩
          · obtain ⟨g0, a0, a1, CR, G0⟩ := odd wd h0 h1 w1
            clear h0 h1 w1
            go_enter Try.func10, Try.ntmps10
            go_wp2_with (first
                  | (go_at_call 25; (with_reducible refine (anchor_any _).mono ?_); rintro e w_ ⟨rfl, hq_⟩; replace hB := Go.Proofs.Ytkdiplgnacjakaa.G.below_step hB hq_; clear hq_)
                  | (go_at_call 33; (with_reducible refine (CB _).mono ?_); rintro e w_ ⟨rfl, hq_⟩; replace hB := Go.Proofs.Ytkdiplgnacjakaa.G.below_step hB hq_; clear hq_)
                  | (go_at_call 34; (with_reducible refine (CD _).mono ?_); rintro e w_ ⟨rfl, hq_⟩; replace hB := Go.Proofs.Ytkdiplgnacjakaa.G.below_step hB hq_; clear hq_)
                  | (go_at_call 35; (with_reducible refine (CR _).mono ?_); rintro e w_ ⟨rfl, hq_⟩; replace hB := Go.Proofs.Ytkdiplgnacjakaa.G.below_step hB hq_; clear hq_)
                  | (go_at_call 36; (with_reducible refine (G0 _).mono ?_); rintro e w_ ⟨rfl, hq_⟩; replace hB := Go.Proofs.Ytkdiplgnacjakaa.G.below_step hB hq_; clear hq_))
            go_ret
            exact ⟨by simp, hB⟩
        · have CB := fun w => desc_Base.calls 2 x asid (x + asid * 281474976710656) 0 w (by rw [p_Base x asid x0 x1, if_pos c1, if_pos (by simp [rightB]; omega)])
          replace c3 : 0 ≤ asid := by omega
          replace c4 : asid ≤ 255 := by omega
          have CX := fun w => desc_ReadBase.calls 4 (x + asid * 281474976710656) x asid 0 w (by
            rw [p_Read _ (by omega) (by omega), if_pos (by simp [readB]; omega)]
            congr 2
            · omega
            · congr 1; omega)
          clear c1
          by_cases w1 : wd % 4096 = 0
          · by_cases w2 : wd < 72057594037927936
            · obtain ⟨g2, g3, a0, a1, b0, b1, CR, G0, G1, G2, G3⟩ := good wd h0 h1 w1 w2
              clear h0 h1 w1 w2
              go_enter Try.func10, Try.ntmps10
              go_wp2_with (first
                    | (go_at_call 25; (with_reducible refine (anchor_any _).mono ?_); rintro e w_ ⟨rfl, hq_⟩; replace hB := Go.Proofs.Ytkdiplgnacjakaa.G.below_step hB hq_; clear hq_)
                    | (go_at_call 33; (with_reducible refine (CB _).mono ?_); rintro e w_ ⟨rfl, hq_⟩; replace hB := Go.Proofs.Ytkdiplgnacjakaa.G.below_step hB hq_; clear hq_)
                    | (go_at_call 34; (with_reducible refine (CD _).mono ?_); rintro e w_ ⟨rfl, hq_⟩; replace hB := Go.Proofs.Ytkdiplgnacjakaa.G.below_step hB hq_; clear hq_)
                    | (go_at_call 35; (with_reducible refine (CX _).mono ?_); rintro e w_ ⟨rfl, hq_⟩; replace hB := Go.Proofs.Ytkdiplgnacjakaa.G.below_step hB hq_; clear hq_)
                    | (go_at_call 35; (with_reducible refine (CR _).mono ?_); rintro e w_ ⟨rfl, hq_⟩; replace hB := Go.Proofs.Ytkdiplgnacjakaa.G.below_step hB hq_; clear hq_)
                    | (go_at_call 36; (with_reducible refine (G0 _).mono ?_); rintro e w_ ⟨rfl, hq_⟩; replace hB := Go.Proofs.Ytkdiplgnacjakaa.G.below_step hB hq_; clear hq_)
                    | (go_at_call 36; (with_reducible refine (G1 _).mono ?_); rintro e w_ ⟨rfl, hq_⟩; replace hB := Go.Proofs.Ytkdiplgnacjakaa.G.below_step hB hq_; clear hq_)
                    | (go_at_call 36; (with_reducible refine (G2 _).mono ?_); rintro e w_ ⟨rfl, hq_⟩; replace hB := Go.Proofs.Ytkdiplgnacjakaa.G.below_step hB hq_; clear hq_)
                    | (go_at_call 36; (with_reducible refine (G3 _).mono ?_); rintro e w_ ⟨rfl, hq_⟩; replace hB := Go.Proofs.Ytkdiplgnacjakaa.G.below_step hB hq_; clear hq_))
              go_ret
              exact ⟨by simp, hB⟩
            · obtain ⟨g1, a0, a1, CR, G0, G1⟩ := high wd h0 h1 w1 w2
              clear h0 h1 w1 w2
              go_enter Try.func10, Try.ntmps10
              go_wp2_with (first
                    | (go_at_call 25; (with_reducible refine (anchor_any _).mono ?_); rintro e w_ ⟨rfl, hq_⟩; replace hB := Go.Proofs.Ytkdiplgnacjakaa.G.below_step hB hq_; clear hq_)
                    | (go_at_call 33; (with_reducible refine (CB _).mono ?_); rintro e w_ ⟨rfl, hq_⟩; replace hB := Go.Proofs.Ytkdiplgnacjakaa.G.below_step hB hq_; clear hq_)
                    | (go_at_call 34; (with_reducible refine (CD _).mono ?_); rintro e w_ ⟨rfl, hq_⟩; replace hB := Go.Proofs.Ytkdiplgnacjakaa.G.below_step hB hq_; clear hq_)
                    | (go_at_call 35; (with_reducible refine (CX _).mono ?_); rintro e w_ ⟨rfl, hq_⟩; replace hB := Go.Proofs.Ytkdiplgnacjakaa.G.below_step hB hq_; clear hq_)
                    | (go_at_call 35; (with_reducible refine (CR _).mono ?_); rintro e w_ ⟨rfl, hq_⟩; replace hB := Go.Proofs.Ytkdiplgnacjakaa.G.below_step hB hq_; clear hq_)
                    | (go_at_call 36; (with_reducible refine (G0 _).mono ?_); rintro e w_ ⟨rfl, hq_⟩; replace hB := Go.Proofs.Ytkdiplgnacjakaa.G.below_step hB hq_; clear hq_)
                    | (go_at_call 36; (with_reducible refine (G1 _).mono ?_); rintro e w_ ⟨rfl, hq_⟩; replace hB := Go.Proofs.Ytkdiplgnacjakaa.G.below_step hB hq_; clear hq_))
              go_ret
              exact ⟨by simp, hB⟩
          · obtain ⟨g0, a0, a1, CR, G0⟩ := odd wd h0 h1 w1
            clear h0 h1 w1
            go_enter Try.func10, Try.ntmps10
            go_wp2_with (first
                  | (go_at_call 25; (with_reducible refine (anchor_any _).mono ?_); rintro e w_ ⟨rfl, hq_⟩; replace hB := Go.Proofs.Ytkdiplgnacjakaa.G.below_step hB hq_; clear hq_)
                  | (go_at_call 33; (with_reducible refine (CB _).mono ?_); rintro e w_ ⟨rfl, hq_⟩; replace hB := Go.Proofs.Ytkdiplgnacjakaa.G.below_step hB hq_; clear hq_)
                  | (go_at_call 34; (with_reducible refine (CD _).mono ?_); rintro e w_ ⟨rfl, hq_⟩; replace hB := Go.Proofs.Ytkdiplgnacjakaa.G.below_step hB hq_; clear hq_)
                  | (go_at_call 35; (with_reducible refine (CX _).mono ?_); rintro e w_ ⟨rfl, hq_⟩; replace hB := Go.Proofs.Ytkdiplgnacjakaa.G.below_step hB hq_; clear hq_)
                  | (go_at_call 35; (with_reducible refine (CR _).mono ?_); rintro e w_ ⟨rfl, hq_⟩; replace hB := Go.Proofs.Ytkdiplgnacjakaa.G.below_step hB hq_; clear hq_)
                  | (go_at_call 36; (with_reducible refine (G0 _).mono ?_); rintro e w_ ⟨rfl, hq_⟩; replace hB := Go.Proofs.Ytkdiplgnacjakaa.G.below_step hB hq_; clear hq_))
            go_ret
            exact ⟨by simp, hB⟩
    · have CB := fun w => desc_Base.calls 2 x asid 0 12 w (by rw [p_Base x asid x0 x1, if_pos c1, if_neg (by simp [rightB]; omega)])
      replace c2 : 281474976710656 ≤ x := by omega
      clear c1
      by_cases w1 : wd % 4096 = 0
      · by_cases w2 : wd < 72057594037927936
        · obtain ⟨g2, g3, a0, a1, b0, b1, CR, G0, G1, G2, G3⟩ := good wd h0 h1 w1 w2
          clear h0 h1 w1 w2
          go_enter Try.func10, Try.ntmps10
          go_wp2_with (first
                | (go_at_call 25; (with_reducible refine (anchor_any _).mono ?_); rintro e w_ ⟨rfl, hq_⟩; replace hB := Go.Proofs.Ytkdiplgnacjakaa.G.below_step hB hq_; clear hq_)
                | (go_at_call 33; (with_reducible refine (CB _).mono ?_); rintro e w_ ⟨rfl, hq_⟩; replace hB := Go.Proofs.Ytkdiplgnacjakaa.G.below_step hB hq_; clear hq_)
                | (go_at_call 34; (with_reducible refine (CD _).mono ?_); rintro e w_ ⟨rfl, hq_⟩; replace hB := Go.Proofs.Ytkdiplgnacjakaa.G.below_step hB hq_; clear hq_)
                | (go_at_call 35; (with_reducible refine (CR _).mono ?_); rintro e w_ ⟨rfl, hq_⟩; replace hB := Go.Proofs.Ytkdiplgnacjakaa.G.below_step hB hq_; clear hq_)
                | (go_at_call 36; (with_reducible refine (G0 _).mono ?_); rintro e w_ ⟨rfl, hq_⟩; replace hB := Go.Proofs.Ytkdiplgnacjakaa.G.below_step hB hq_; clear hq_)
                | (go_at_call 36; (with_reducible refine (G1 _).mono ?_); rintro e w_ ⟨rfl, hq_⟩; replace hB := Go.Proofs.Ytkdiplgnacjakaa.G.below_step hB hq_; clear hq_)
                | (go_at_call 36; (with_reducible refine (G2 _).mono ?_); rintro e w_ ⟨rfl, hq_⟩; replace hB := Go.Proofs.Ytkdiplgnacjakaa.G.below_step hB hq_; clear hq_)
                | (go_at_call 36; (with_reducible refine (G3 _).mono ?_); rintro e w_ ⟨rfl, hq_⟩; replace hB := Go.Proofs.Ytkdiplgnacjakaa.G.below_step hB hq_; clear hq_))
          go_ret
          exact ⟨by simp, hB⟩
        · obtain ⟨g1, a0, a1, CR, G0, G1⟩ := high wd h0 h1 w1 w2
          clear h0 h1 w1 w2
          go_enter Try.func10, Try.ntmps10
          go_wp2_with (first
                | (go_at_call 25; (with_reducible refine (anchor_any _).mono ?_); rintro e w_ ⟨rfl, hq_⟩; replace hB := Go.Proofs.Ytkdiplgnacjakaa.G.below_step hB hq_; clear hq_)
                | (go_at_call 33; (with_reducible refine (CB _).mono ?_); rintro e w_ ⟨rfl, hq_⟩; replace hB := Go.Proofs.Ytkdiplgnacjakaa.G.below_step hB hq_; clear hq_)
                | (go_at_call 34; (with_reducible refine (CD _).mono ?_); rintro e w_ ⟨rfl, hq_⟩; replace hB := Go.Proofs.Ytkdiplgnacjakaa.G.below_step hB hq_; clear hq_)
                | (go_at_call 35; (with_reducible refine (CR _).mono ?_); rintro e w_ ⟨rfl, hq_⟩; replace hB := Go.Proofs.Ytkdiplgnacjakaa.G.below_step hB hq_; clear hq_)
                | (go_at_call 36; (with_reducible refine (G0 _).mono ?_); rintro e w_ ⟨rfl, hq_⟩; replace hB := Go.Proofs.Ytkdiplgnacjakaa.G.below_step hB hq_; clear hq_)
                | (go_at_call 36; (with_reducible refine (G1 _).mono ?_); rintro e w_ ⟨rfl, hq_⟩; replace hB := Go.Proofs.Ytkdiplgnacjakaa.G.below_step hB hq_; clear hq_))
          go_ret
          exact ⟨by simp, hB⟩
      · obtain ⟨g0, a0, a1, CR, G0⟩ := odd wd h0 h1 w1
        clear h0 h1 w1
        go_enter Try.func10, Try.ntmps10
        go_wp2_with (first
              | (go_at_call 25; (with_reducible refine (anchor_any _).mono ?_); rintro e w_ ⟨rfl, hq_⟩; replace hB := Go.Proofs.Ytkdiplgnacjakaa.G.below_step hB hq_; clear hq_)
              | (go_at_call 33; (with_reducible refine (CB _).mono ?_); rintro e w_ ⟨rfl, hq_⟩; replace hB := Go.Proofs.Ytkdiplgnacjakaa.G.below_step hB hq_; clear hq_)
              | (go_at_call 34; (with_reducible refine (CD _).mono ?_); rintro e w_ ⟨rfl, hq_⟩; replace hB := Go.Proofs.Ytkdiplgnacjakaa.G.below_step hB hq_; clear hq_)
              | (go_at_call 35; (with_reducible refine (CR _).mono ?_); rintro e w_ ⟨rfl, hq_⟩; replace hB := Go.Proofs.Ytkdiplgnacjakaa.G.below_step hB hq_; clear hq_)
              | (go_at_call 36; (with_reducible refine (G0 _).mono ?_); rintro e w_ ⟨rfl, hq_⟩; replace hB := Go.Proofs.Ytkdiplgnacjakaa.G.below_step hB hq_; clear hq_))
        go_ret
        exact ⟨by simp, hB⟩
  · obtain ⟨d, CD, hd, hd'⟩ : ∃ d : Int, (∀ w, Calls Try.prog 34 #[.int .u64 x, .int .i64 12] w fun e w' => e = .returned (.int .u64 d) ∧ Below w.heap.size w w') ∧ ¬ d = x ∧ (d == x) = false :=
      ⟨x - x % 4096, fun w => down_as x0 x1 rfl w, by omega, by simp; omega⟩
    have CB := fun w => desc_Base.calls 2 x asid 0 13 w (by rw [p_Base x asid x0 x1, if_neg c1])
    clear c1
    by_cases w1 : wd % 4096 = 0
    · by_cases w2 : wd < 72057594037927936
      · obtain ⟨g2, g3, a0, a1, b0, b1, CR, G0, G1, G2, G3⟩ := good wd h0 h1 w1 w2
        clear h0 h1 w1 w2
        go_enter Try.func10, Try.ntmps10
        go_wp2_with (first
              | (go_at_call 25; (with_reducible refine (anchor_any _).mono ?_); rintro e w_ ⟨rfl, hq_⟩; replace hB := Go.Proofs.Ytkdiplgnacjakaa.G.below_step hB hq_; clear hq_)
              | (go_at_call 33; (with_reducible refine (CB _).mono ?_); rintro e w_ ⟨rfl, hq_⟩; replace hB := Go.Proofs.Ytkdiplgnacjakaa.G.below_step hB hq_; clear hq_)
              | (go_at_call 34; (with_reducible refine (CD _).mono ?_); rintro e w_ ⟨rfl, hq_⟩; replace hB := Go.Proofs.Ytkdiplgnacjakaa.G.below_step hB hq_; clear hq_)
              | (go_at_call 35; (with_reducible refine (CR _).mono ?_); rintro e w_ ⟨rfl, hq_⟩; replace hB := Go.Proofs.Ytkdiplgnacjakaa.G.below_step hB hq_; clear hq_)
              | (go_at_call 36; (with_reducible refine (G0 _).mono ?_); rintro e w_ ⟨rfl, hq_⟩; replace hB := Go.Proofs.Ytkdiplgnacjakaa.G.below_step hB hq_; clear hq_)
              | (go_at_call 36; (with_reducible refine (G1 _).mono ?_); rintro e w_ ⟨rfl, hq_⟩; replace hB := Go.Proofs.Ytkdiplgnacjakaa.G.below_step hB hq_; clear hq_)
              | (go_at_call 36; (with_reducible refine (G2 _).mono ?_); rintro e w_ ⟨rfl, hq_⟩; replace hB := Go.Proofs.Ytkdiplgnacjakaa.G.below_step hB hq_; clear hq_)
              | (go_at_call 36; (with_reducible refine (G3 _).mono ?_); rintro e w_ ⟨rfl, hq_⟩; replace hB := Go.Proofs.Ytkdiplgnacjakaa.G.below_step hB hq_; clear hq_))
        go_ret
        exact ⟨by simp, hB⟩
      · obtain ⟨g1, a0, a1, CR, G0, G1⟩ := high wd h0 h1 w1 w2
        clear h0 h1 w1 w2
        go_enter Try.func10, Try.ntmps10
        go_wp2_with (first
              | (go_at_call 25; (with_reducible refine (anchor_any _).mono ?_); rintro e w_ ⟨rfl, hq_⟩; replace hB := Go.Proofs.Ytkdiplgnacjakaa.G.below_step hB hq_; clear hq_)
              | (go_at_call 33; (with_reducible refine (CB _).mono ?_); rintro e w_ ⟨rfl, hq_⟩; replace hB := Go.Proofs.Ytkdiplgnacjakaa.G.below_step hB hq_; clear hq_)
              | (go_at_call 34; (with_reducible refine (CD _).mono ?_); rintro e w_ ⟨rfl, hq_⟩; replace hB := Go.Proofs.Ytkdiplgnacjakaa.G.below_step hB hq_; clear hq_)
              | (go_at_call 35; (with_reducible refine (CR _).mono ?_); rintro e w_ ⟨rfl, hq_⟩; replace hB := Go.Proofs.Ytkdiplgnacjakaa.G.below_step hB hq_; clear hq_)
              | (go_at_call 36; (with_reducible refine (G0 _).mono ?_); rintro e w_ ⟨rfl, hq_⟩; replace hB := Go.Proofs.Ytkdiplgnacjakaa.G.below_step hB hq_; clear hq_)
              | (go_at_call 36; (with_reducible refine (G1 _).mono ?_); rintro e w_ ⟨rfl, hq_⟩; replace hB := Go.Proofs.Ytkdiplgnacjakaa.G.below_step hB hq_; clear hq_))
        go_ret
        exact ⟨by simp, hB⟩
    · obtain ⟨g0, a0, a1, CR, G0⟩ := odd wd h0 h1 w1
      clear h0 h1 w1
      go_enter Try.func10, Try.ntmps10
      go_wp2_with (first
            | (go_at_call 25; (with_reducible refine (anchor_any _).mono ?_); rintro e w_ ⟨rfl, hq_⟩; replace hB := Go.Proofs.Ytkdiplgnacjakaa.G.below_step hB hq_; clear hq_)
            | (go_at_call 33; (with_reducible refine (CB _).mono ?_); rintro e w_ ⟨rfl, hq_⟩; replace hB := Go.Proofs.Ytkdiplgnacjakaa.G.below_step hB hq_; clear hq_)
            | (go_at_call 34; (with_reducible refine (CD _).mono ?_); rintro e w_ ⟨rfl, hq_⟩; replace hB := Go.Proofs.Ytkdiplgnacjakaa.G.below_step hB hq_; clear hq_)
            | (go_at_call 35; (with_reducible refine (CR _).mono ?_); rintro e w_ ⟨rfl, hq_⟩; replace hB := Go.Proofs.Ytkdiplgnacjakaa.G.below_step hB hq_; clear hq_)
            | (go_at_call 36; (with_reducible refine (G0 _).mono ?_); rintro e w_ ⟨rfl, hq_⟩; replace hB := Go.Proofs.Ytkdiplgnacjakaa.G.below_step hB hq_; clear hq_))
      go_ret
      exact ⟨by simp, hB⟩
end Go.Proofs.Ytkdiplgnacjakaa.Lf
