/- Plain laws of descriptors: what a word says, a descriptor's word, and back. -/
import Derived.Test.YtfnmdelkdombbaaEp
import Derived.Test.YtfnmdelkdombbaaDs
namespace Go.Proofs.Ytfnmdelkdombbaa.Eq
open Go.Proofs.Ytfnmdelkdombbaa.B Go.Proofs.Ytfnmdelkdombbaa.Ep Go.Proofs.Ytfnmdelkdombbaa.Ds Go.Proofs.Ytfnmdelkdombbaa.Dr
set_option linter.unusedVariables false
set_option linter.unusedSimpArgs false
/-- A descriptor. -/
structure D7 where
  kind : Int
  out : Int
  user : Bool
  write : Bool
  exec : Bool
  used : Bool
  attr : Int
deriving DecidableEq
def D7.val (d : D7) : Value := .agg #[.int .i64 d.kind, .int .u64 d.out, .bool d.user, .bool d.write, .bool d.exec, .bool d.used, .int .i64 d.attr]
def zero : D7 := ⟨0, 0, false, false, false, false, 0⟩
def saidT (x : Int) : D7 := ⟨1, x / 4096 % 68719476736 * 4096, false, false, false, false, 0⟩
def saidL (kind x : Int) : D7 := ⟨kind, x / 4096 % 68719476736 * 4096, bitB x 6, !bitB x 7, !bitB x 54, bitB x 10, x / 4 % 8⟩
def kindL (x : Int) : Int := if bitB x 1 then 3 else 2
open Classical in
/-- What a word says at a level. -/
noncomputable def decV (level x : Int) : Option D7 :=
  if bitB x 0 = false then some zero
  else if bitB x 1 = true ∧ level < 3 then (if tOk x 64 then some (saidT x) else none)
  else if ¬ leafBad level (kindL x) x ∧ okL x (39 - 9 * level) 64 then some (saidL (kindL x) x) else none
def D7.right (d : D7) (level : Int) : Bool := rightV level d.kind d.out d.user d.write d.exec d.used d.attr
def D7.word (d : D7) : Int := if d.kind = 0 then 0 else if d.kind = 1 then d.out + 3 else wordL (d.kind == 3) d.user d.write d.exec d.used d.out d.attr
theorem lev4 {level : Int} (l0 : 0 ≤ level) (l3 : level < 4) : level = 0 ∨ level = 1 ∨ level = 2 ∨ level = 3 := by omega
theorem al_low (x : Int) (n : Nat) (hl : 12 ≤ n) (hh : n ≤ 39) : (x / 4096 % 68719476736 * 4096) % 2 ^ n = 0 ↔ x / 4096 % 2 ^ (n - 12) = 0 := by
  have e : (2 : Int) ^ n = 2 ^ (n - 12) * 4096 := by
    rw [show (4096 : Int) = 2 ^ 12 from rfl, ← Int.pow_add, show n - 12 + 12 = n by omega]
  have e2 : (68719476736 : Int) = 2 ^ (n - 12) * 2 ^ (48 - n) := by
    rw [show (68719476736 : Int) = 2 ^ 36 from rfl, ← Int.pow_add, show n - 12 + (48 - n) = 36 by omega]
  rw [e, Int.mul_comm _ (4096 : Int), Int.mul_comm (2 ^ (n - 12)) (4096 : Int), Int.mul_emod_mul_of_pos _ _ (by decide : (0 : Int) < 4096)]
  rw [e2, Int.emod_emod_of_dvd _ ⟨_, rfl⟩]
  omega
theorem right_said (level kind x : Int) (l0 : 0 ≤ level) (l3 : level < 4) (hk : (kind = 2 ∧ bitB x 1 = false) ∨ (kind = 3 ∧ bitB x 1 = true ∧ level = 3)) (h0 : 0 ≤ x) (h1 : x < 18446744073709551616) (b0 : bitB x 0 = true) :
    ((saidL kind x).right level = true ∧ (saidL kind x).word = x) ↔ (¬ leafBad level kind x ∧ okL x (39 - 9 * level) 64) := by
  have hw : (saidL kind x).word = x ↔ bitB x 8 = true ∧ bitB x 9 = true ∧ bitB x 11 = true ∧ bitB x 53 = true ∧ bitB x 5 = false ∧ x / 281474976710656 % 32 = 0 ∧ x / 36028797018963968 = 0 := by
    rw [← said_word x h0 h1 b0]
    rcases hk with ⟨rfl, e⟩ | ⟨rfl, e, -⟩ <;> simp [D7.word, saidL, e]
  rw [hw]
  have r : (saidL kind x).right level = true ↔ leafB kind level = true ∧ (x / 4096 % 68719476736 * 4096) % 2 ^ (lbits level).toNat = 0 := by
    have k0 : (kind == 0) = false := by rcases hk with ⟨rfl, -⟩ | ⟨rfl, -⟩ <;> rfl
    have k1 : (kind == 1) = false := by rcases hk with ⟨rfl, -⟩ | ⟨rfl, -⟩ <;> rfl
    have ka : kn level = true := by simp [kn]; omega
    have kb : decide (x / 4096 % 68719476736 * 4096 < 281474976710656) = true := by simp; omega
    have kc : decide (0 ≤ x / 4 % 8 ∧ x / 4 % 8 ≤ 7) = true := by simp; omega
    have kd := lbits_range level
    show rightV level kind (x / 4096 % 68719476736 * 4096) (bitB x 6) (!bitB x 7) (!bitB x 54) (bitB x 10) (x / 4 % 8) = true ↔ _
    generalize hX : x / 4096 % 68719476736 * 4096 = X at *
    generalize hY : x / 4 % 8 = Y at *
    simp only [rightV, k0, k1, ka, Bool.false_and, Bool.false_or, Bool.true_and, Bool.and_eq_true, al, decide_eq_true_eq]
    rw [show min (lbits level).toNat 64 = (lbits level).toNat by omega]
    simp only [decide_eq_true_eq] at kb kc
    constructor
    · rintro ⟨-, ⟨h, -⟩, h2⟩; exact ⟨h, h2⟩
    · rintro ⟨h, h2⟩; exact ⟨kb, ⟨h, kc⟩, h2⟩
  rw [r]
  have lk : kn level = true := by simp [kn]; omega
  have le := lbits_yes lk
  rw [le]
  rw [al_low x (39 - 9 * level).toNat (by omega) (by omega), okL_iff x (39 - 9 * level) (39 - 9 * level).toNat (by omega) (by omega) (by omega) h0 h1]
  have hL : leafBad level kind x ↔ leafB kind level = false ∨ ¬ (bitB x 8 = true ∧ bitB x 9 = true ∧ bitB x 11 = true ∧ bitB x 53 = true ∧ bitB x 5 = false) := by
    have hb : leafB kind level = false ↔ (kind = 2 ∧ (level = 0 ∨ level = 3)) := by
      rcases hk with ⟨rfl, -⟩ | ⟨rfl, -, rfl⟩
      · rcases lev4 l0 l3 with rfl | rfl | rfl | rfl <;> simp [leafB]
      · simp [leafB]
    rw [hb]
    unfold leafBad
    cases bitB x 8 <;> cases bitB x 9 <;> cases bitB x 11 <;> cases bitB x 53 <;> cases bitB x 5 <;> simp
  rw [hL]
  cases leafB kind level
  · simp
  · simp only [true_and, Bool.true_eq_false, false_or, Classical.not_not]
    constructor
    · rintro ⟨ha, h8, h9, h11, h53, h5, h48, h55⟩; exact ⟨⟨h8, h9, h11, h53, h5⟩, ha, h48, h55⟩
    · rintro ⟨⟨h8, h9, h11, h53, h5⟩, ha, h48, h55⟩; exact ⟨ha, h8, h9, h11, h53, h5, h48, h55⟩
theorem right_table (level x : Int) (l0 : 0 ≤ level) (l3 : level < 3) : (saidT x).right level = true := by
  have ka : kn level = true := by simp [kn]; omega
  have a1 : decide (x / 4096 % 68719476736 * 4096 < 281474976710656) = true := by rw [decide_eq_true_eq]; omega
  have a2 : decide (level < 3) = true := by rw [decide_eq_true_eq]; omega
  have a3 : decide (x / 4096 % 68719476736 * 4096 % 4096 = 0) = true := by rw [decide_eq_true_eq]; omega
  show rightV level 1 (x / 4096 % 68719476736 * 4096) false false false false 0 = true
  generalize x / 4096 % 68719476736 * 4096 = X at *
  simp only [rightV, ka, a1, a2, a3, Bool.true_and, Bool.and_true, beq_self_eq_true, Bool.not_false, Bool.or_true, Bool.true_or]
theorem right_zero (level : Int) (l0 : 0 ≤ level) (l3 : level < 4) : zero.right level = true := by
  have ka : kn level = true := by simp [kn]; omega
  simp [D7.right, zero, rightV, ka]
theorem kindL_or (level x : Int) (h : ¬ (bitB x 1 = true ∧ level < 3)) (l3 : level < 4) : (kindL x = 2 ∧ bitB x 1 = false) ∨ (kindL x = 3 ∧ bitB x 1 = true ∧ level = 3) := by
  unfold kindL
  cases e : bitB x 1
  · simp
  · simp; simp [e] at h; omega
/-- What a word says is right, and has just that word, but of Invalid. -/
theorem decV_right (level x : Int) (l0 : 0 ≤ level) (l3 : level < 4) (h0 : 0 ≤ x) (h1 : x < 18446744073709551616) (d : D7) (h : decV level x = some d) : d.right level = true ∧ (d.word = x ∨ (d.kind = 0 ∧ d.word = 0)) := by
  unfold decV at h
  split at h
  · simp at h; subst h; exact ⟨right_zero level l0 l3, .inr ⟨rfl, by simp [D7.word, zero]⟩⟩
  · rename_i c0
    have b0 : bitB x 0 = true := by simpa using c0
    split at h
    · rename_i c1
      split at h
      · rename_i c2
        simp at h; subst h
        exact ⟨right_table level x l0 c1.2, .inl (by simp [D7.word, saidT]; exact (said_table x h0 h1 b0 c1.1).2 c2)⟩
      · cases h
    · rename_i c1
      split at h
      · rename_i c2
        simp at h; subst h
        have := (right_said level (kindL x) x l0 l3 (kindL_or level x c1 l3) h0 h1 b0).2 c2
        exact ⟨this.1, .inl this.2⟩
      · cases h
theorem right_cases (level : Int) (d : D7) (l0 : 0 ≤ level) (l3 : level < 4) (h0 : 0 ≤ d.out) (h : d.right level = true) : d = zero ∨ (level < 3 ∧ d = ⟨1, d.out, false, false, false, false, 0⟩ ∧ d.out < 281474976710656 ∧ d.out % 4096 = 0) ∨ (((d.kind = 2 ∧ (level = 1 ∨ level = 2)) ∨ (d.kind = 3 ∧ level = 3)) ∧ d.out < 281474976710656 ∧ d.out % 4096 = 0 ∧ d.out % 2 ^ (39 - 9 * level).toNat = 0 ∧ 0 ≤ d.attr ∧ d.attr ≤ 7) := by
  obtain ⟨kind, out, user, write, exec, used, attr⟩ := d
  have ka : kn level = true := by simp [kn]; omega
  have kd := lbits_range level
  simp only [D7.right, rightV, ka, Bool.true_and, Bool.and_eq_true, Bool.or_eq_true, decide_eq_true_eq, beq_iff_eq, Bool.not_eq_true', al] at h
  rw [show min (lbits level).toNat 64 = (lbits level).toNat by omega, lbits_yes ka] at h
  obtain ⟨ho, (⟨⟨⟨⟨⟨⟨rfl, rfl⟩, rfl⟩, rfl⟩, rfl⟩, rfl⟩, rfl⟩ | ⟨⟨⟨⟨⟨⟨⟨rfl, hl⟩, hm⟩, rfl⟩, rfl⟩, rfl⟩, rfl⟩, rfl⟩) | ⟨⟨hl, ha⟩, hm⟩⟩ := h
  · exact .inl rfl
  · exact .inr (.inl ⟨hl, rfl, ho, hm⟩)
  · refine .inr (.inr ⟨?_, ho, ?_, hm, ha.1, ha.2⟩)
    · simp [leafB] at hl; exact hl
    · simp only at hm h0 ⊢
      have hc : level = 1 ∨ level = 2 ∨ level = 3 := by simp [leafB] at hl; omega
      rcases hc with rfl | rfl | rfl
      · have : out % 1073741824 = 0 := hm
        omega
      · have : out % 2097152 = 0 := hm
        omega
      · exact hm
/-- A right descriptor's word says it. -/
theorem word_says (level : Int) (d : D7) (l0 : 0 ≤ level) (l3 : level < 4) (h0 : 0 ≤ d.out) (h : d.right level = true) : 0 ≤ d.word ∧ d.word < 18446744073709551616 ∧ decV level d.word = some d := by
  rcases right_cases level d l0 l3 h0 h with rfl | ⟨hl, e, ho, hm⟩ | ⟨hk, ho, hm, ha, a0, a7⟩
  · have : zero.word = 0 := by simp [D7.word, zero]
    rw [this]
    refine ⟨by omega, by omega, ?_⟩
    unfold decV
    rw [if_pos (by decide)]
  · obtain ⟨kind, out, user, write, exec, used, attr⟩ := d
    simp at e h0 ho hm
    obtain ⟨rfl, rfl, rfl, rfl, rfl, rfl⟩ := e
    have hw : (D7.mk 1 out false false false false 0).word = out + 3 := by simp [D7.word]
    rw [hw]
    refine ⟨by omega, by omega, ?_⟩
    unfold decV
    have b0 : bitB (out + 3) 0 = true := by unfold bitB; rw [decide_eq_true_eq]; omega
    have b1 : bitB (out + 3) 1 = true := by unfold bitB; rw [decide_eq_true_eq]; omega
    have t : tOk (out + 3) 64 := (tOk_iff _ (by omega) (by omega)).2 ⟨by omega, by omega⟩
    rw [if_neg (by simp [b0]), if_pos ⟨b1, hl⟩, if_pos t]
    have : (out + 3) / 4096 % 68719476736 * 4096 = out := by omega
    simp [saidT, this]
  · have hw : d.word = wordL (d.kind == 3) d.user d.write d.exec d.used d.out d.attr := by
      unfold D7.word; rw [if_neg (by omega), if_neg (by omega)]
    obtain ⟨x0, x1, xo, xa, b0, b1, b5, b6, b7, b8, b9, b10, b11, b53, b54, x48, x55⟩ := wordL_parts _ _ _ _ _ _ _ h0 ho hm a0 a7 d.word hw.symm
    refine ⟨x0, x1, ?_⟩
    have k2 : ¬ (bitB d.word 1 = true ∧ level < 3) := by
      rw [b1]; simp; omega
    have kk : kindL d.word = d.kind := by
      unfold kindL; rw [b1]
      rcases hk with ⟨hk, -⟩ | ⟨hk, -⟩ <;> simp [hk]
    have hs : saidL d.kind d.word = d := by
      simp [saidL, xo, xa, b6, b7, b54, b10]
    have hcond := right_said level d.kind d.word l0 l3 (by rw [b1]; rcases hk with ⟨hk, -⟩ | ⟨hk, hl⟩ <;> simp [hk]; exact hl) x0 x1 b0
    rw [hs] at hcond
    have hc := hcond.1 ⟨h, rfl⟩
    unfold decV
    rw [if_neg (by simp [b0]), if_neg k2, kk, if_pos hc, hs]
end Go.Proofs.Ytfnmdelkdombbaa.Eq
