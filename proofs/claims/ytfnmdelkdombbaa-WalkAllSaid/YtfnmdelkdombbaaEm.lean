/- desc.Desc.Right, word, Encode, said, Decode and the document's Decode and Right, each in one statement over the plain laws. -/
import Derived.Test.YtfnmdelkdombbaaProg
import Derived.Test.YtfnmdelkdombbaaEq
import Derived.Test.YtfnmdelkdombbaaDn
import Derived.Test.YtfnmdelkdombbaaDo
import Derived.Test.YtfnmdelkdombbaaDp
import Derived.Test.YtfnmdelkdombbaaDq
import Derived.Test.YtfnmdelkdombbaaLg
namespace Go.Proofs.Ytfnmdelkdombbaa.Em
open Go.RowKit Go.Proofs.Ytfnmdelkdombbaa.G Go.Proofs.Ytfnmdelkdombbaa.B Go.Proofs.Ytfnmdelkdombbaa.M Go.Proofs.Ytfnmdelkdombbaa.Ep Go.Proofs.Ytfnmdelkdombbaa.Eq
set_option linter.unusedVariables false
set_option linter.unusedSimpArgs false
set_option maxRecDepth 100000
theorem dright_any (level : Int) (d : D7) (h0 : 0 ≤ d.out) (h1 : d.out < 18446744073709551616) (w : World) :
    Calls Try.prog 32 #[d.val, .int .i64 level] w fun e w' => e = .returned (.bool (d.right level)) ∧ Below w.heap.size w w' := by
  obtain ⟨kind, out, user, write, exec, used, attr⟩ := d
  by_cases h : level < 0 ∨ 4 ≤ level ∨ kind = 0 ∨ kind = 1
  · exact Ds.dright_low level kind out attr user write exec used h0 h1 h w
  · exact Ds.dright_leaf level kind out attr user write exec used h0 h1 (by omega) (by omega) (by omega) (by omega) w
theorem word_any (level : Int) (d : D7) (l0 : 0 ≤ level) (l3 : level < 4) (h0 : 0 ≤ d.out) (h : d.right level = true) (w : World) :
    Calls Try.prog 33 #[d.val] w fun e w' => e = .returned (.int .u64 d.word) ∧ Below w.heap.size w w' := by
  rcases right_cases level d l0 l3 h0 h with rfl | ⟨hl, e, ho, hm⟩ | ⟨hk, ho, hm, ha, a0, a7⟩
  · have : zero.word = 0 := by simp [D7.word, zero]
    rw [this]
    exact Dp.word_inv 0 0 false false false false w
  · obtain ⟨kind, out, user, write, exec, used, attr⟩ := d
    simp at e h0 ho hm
    obtain ⟨rfl, rfl, rfl, rfl, rfl, rfl⟩ := e
    have hw : (D7.mk 1 out false false false false 0).word = out + 3 := by simp [D7.word]
    rw [hw]
    exact Dp.word_table out 0 false false false false (out + 3) (or_table out h0 ho hm) w
  · have hw : d.word = wordL (d.kind == 3) d.user d.write d.exec d.used d.out d.attr := by
      unfold D7.word; rw [if_neg (by omega), if_neg (by omega)]
    rw [hw]
    clear hw ha
    obtain ⟨kind, out, user, write, exec, used, attr⟩ := d
    simp only at hk h0 ho hm a0 a7 ⊢
    refine Dk.word_leaf kind out attr user write exec used (kind == 3) (by rcases hk with ⟨rfl, -⟩ | ⟨rfl, -⟩ <;> simp) (if (kind == 3) then 2 ^ 1 else 0) (if user then 2 ^ 6 else 0) (if !write then 2 ^ 7 else 0) (if used then 2 ^ 10 else 0) (if !exec then 2 ^ 54 else 0) _ a0 a7 w
      (fun w => Dk.bit_any 1 (by decide) (kind == 3) _ rfl w) (fun w => Dk.bit_any 6 (by decide) user _ rfl w) (fun w => Dk.bit_any 7 (by decide) (!write) _ rfl w) (fun w => Dk.bit_any 10 (by decide) used _ rfl w) (fun w => Dk.bit_any 54 (by decide) (!exec) _ rfl w) Dl.attr_any
      (fun w => Dl.put_any _ attr a0 a7 _ ?_ w)
    rw [or_chain out (kind == 3) user write exec used _ _ _ _ _ rfl rfl rfl rfl rfl h0 ho hm]
    obtain ⟨z1, p1, q1, r1, s1⟩ := bit_num (kind == 3) (2 ^ 1)
    obtain ⟨z6, p6, q6, r6, s6⟩ := bit_num user (2 ^ 6)
    obtain ⟨z7, p7, q7, r7, s7⟩ := bit_num (!write) (2 ^ 7)
    obtain ⟨z10, p10, q10, r10, s10⟩ := bit_num used (2 ^ 10)
    obtain ⟨z54, p54, q54, r54, s54⟩ := bit_num (!exec) (2 ^ 54)
    rw [put_attr _ attr (by rw [r1, r6, r7, r10, r54]; omega) (by rw [r1, r6, r7, r10, r54]; omega) a0 a7 (by rw [r1, r6, r7, r10, r54]; omega)]
    rfl
/-- What a word may say. -/
def saidV (level x : Int) : D7 := if bitB x 0 = false then zero else if bitB x 1 = true ∧ level < 3 then saidT x else saidL (kindL x) x
theorem saidV_out (level x : Int) : 0 ≤ (saidV level x).out ∧ (saidV level x).out < 281474976710656 := by
  unfold saidV
  split
  · simp [zero]
  · split
    · simp [saidT]; omega
    · simp [saidL]; omega
theorem and_bit (x : Int) (n : Nat) (p : Int) (hp : p = 2 ^ n) (hn : n < 64) (h0 : 0 ≤ x) (h1 : x < 18446744073709551616) : (Go.bits .and .u64 x p != 0) = bitB x n ∧ (Go.bits .and .u64 x p == 0) = !bitB x n ∧ (Go.bits .and .u64 x p = 0 ↔ bitB x n = false) := by
  subst hp
  rw [and_pow x n hn h0 h1]
  have := pow_pos' n
  cases bitB x n
  · simp
  · have h : ¬ (2 : Int) ^ n = 0 := by omega
    simp [h]
theorem said_is (level x : Int) (h0 : 0 ≤ x) (h1 : x < 18446744073709551616) (l3 : level < 4) (w : World) :
    Calls Try.prog 31 #[.int .i64 level, .int .u64 x] w fun e w' => e = .returned (saidV level x).val ∧ Below w.heap.size w w' := by
  obtain ⟨-, -, e1⟩ := and_bit x 0 1 rfl (by decide) h0 h1
  obtain ⟨-, -, e2⟩ := and_bit x 1 2 rfl (by decide) h0 h1
  obtain ⟨e6, -, -⟩ := and_bit x 6 64 rfl (by decide) h0 h1
  obtain ⟨-, e7, -⟩ := and_bit x 7 128 rfl (by decide) h0 h1
  obtain ⟨e10, -, -⟩ := and_bit x 10 1024 rfl (by decide) h0 h1
  obtain ⟨-, e54, -⟩ := and_bit x 54 18014398509481984 (by decide) (by decide) h0 h1
  refine (Do.said_any level x (x / 4096 % 68719476736) (x / 4 % 8) _ _ _ _ _ _ (fun v => v = (saidV level x).val) (by omega) (by omega) (by omega) (by omega) (fun w => Dl.get36_any x h0 h1 w) (fun w => Dl.get3_any x h0 h1 w) rfl rfl rfl rfl rfl rfl ?_ ?_ ?_ ?_ w).mono ?_
  · intro b1
    unfold saidV
    rw [if_pos (e1.1 b1)]
    rfl
  · intro b1 b2 hl
    rw [e1] at b1; rw [e2] at b2
    unfold saidV
    rw [if_neg b1, if_pos ⟨by simpa using b2, hl⟩]
    rfl
  · intro b1 b2
    rw [e1] at b1; rw [e2] at b2
    unfold saidV
    rw [if_neg b1, if_neg (by simp [b2]), e6, e7, e10, e54]
    have : kindL x = 2 := by simp [kindL, b2]
    rw [this]; rfl
  · intro b1 b2 hl
    rw [e1] at b1; rw [e2] at b2
    unfold saidV
    rw [if_neg b1, if_neg (by omega), e6, e7, e10, e54]
    have : kindL x = 3 := by simp [kindL]; simpa using b2
    rw [this]; rfl
  · rintro e w' ⟨v, rfl, rfl, hm⟩
    exact ⟨rfl, hm.to_below⟩
def codeV : Option D7 → Value
  | some d => .tuple #[d.val, .int .i64 0]
  | none => .tuple #[zero.val, .int .i64 10]
def refV : Option D7 → Value
  | some d => .tuple #[d.val, .bool true]
  | none => .tuple #[zero.val, .bool false]
/-- desc.Decode says what decV tells. -/
theorem decode_any (level x : Int) (l0 : 0 ≤ level) (l3 : level < 4) (h0 : 0 ≤ x) (h1 : x < 18446744073709551616) (w : World) :
    Calls Try.prog 16 #[.int .i64 level, .int .u64 x] w fun e w' => e = .returned (codeV (decV level x)) ∧ Below w.heap.size w w' := by
  have CS := fun w => said_is level x h0 h1 l3 w
  by_cases c0 : bitB x 0 = false
  · have e : saidV level x = zero := by unfold saidV; rw [if_pos c0]
    have e2 : decV level x = some zero := by unfold decV; rw [if_pos c0]
    rw [e] at CS; rw [e2]
    exact Dn.decode_inv level x l0 l3 CS w
  · have b0 : bitB x 0 = true := by simpa using c0
    have key : ∀ d : D7, saidV level x = d → 1 ≤ d.kind → decV level x = (if d.right level = true ∧ d.word = x then some d else none) →
        Calls Try.prog 16 #[.int .i64 level, .int .u64 x] w fun e w' => e = .returned (codeV (decV level x)) ∧ Below w.heap.size w w' := by
      intro d hd hk he
      have ho := saidV_out level x
      rw [hd] at CS ho
      have := Dn.decode_said level x d.kind d.out d.attr d.word d.user d.write d.exec d.used (d.right level) l0 l3 hk CS (fun w => dright_any level d ho.1 (by omega) w) (fun hr w => word_any level d l0 l3 ho.1 hr w) w
      refine this.mono ?_
      rintro e w' ⟨rfl, hb⟩
      refine ⟨?_, hb⟩
      rw [he]
      split <;> rfl
    by_cases c1 : bitB x 1 = true ∧ level < 3
    · refine key (saidT x) (by unfold saidV; rw [if_neg c0, if_pos c1]) (by simp [saidT]) ?_
      unfold decV
      rw [if_neg c0, if_pos c1]
      have hw : (saidT x).word = x ↔ tOk x 64 := by
        rw [← said_table x h0 h1 b0 c1.1]; simp [D7.word, saidT]
      have hr := right_table level x l0 c1.2
      by_cases t : tOk x 64
      · rw [if_pos t, if_pos ⟨hr, hw.2 t⟩]
      · rw [if_neg t, if_neg (fun h => t (hw.1 h.2))]
    · refine key (saidL (kindL x) x) (by unfold saidV; rw [if_neg c0, if_neg c1]) ?_ ?_
      · show 1 ≤ kindL x
        unfold kindL; split <;> omega
      · unfold decV
        rw [if_neg c0, if_neg c1]
        have hh := right_said level (kindL x) x l0 l3 (kindL_or level x c1 l3) h0 h1 b0
        by_cases t : ¬ leafBad level (kindL x) x ∧ okL x (39 - 9 * level) 64
        · rw [if_pos t, if_pos (hh.2 t)]
        · rw [if_neg t, if_neg (fun h => t (hh.1 h))]
/-- The document's Decode says it, too. -/
theorem rdecode_is (level x : Int) (l0 : 0 ≤ level) (l3 : level < 4) (h0 : 0 ≤ x) (h1 : x < 18446744073709551616) (w : World) :
    Calls Try.prog 27 #[.int .i64 level, .int .u64 x] w fun e w' => e = .returned (refV (decV level x)) ∧ Below w.heap.size w w' := by
  refine (Dq.rdecode_any level x l0 (by omega) h0 h1 w (fun v => v = refV (decV level x)) ?_ ?_ ?_ ?_ ?_).mono ?_
  · intro b0
    have b0' : bitB x 0 = false := b0
    have e2 : decV level x = some zero := by unfold decV; rw [if_pos b0']
    rw [e2]; rfl
  · intro b0 b1 hl t
    have t' : tOk x 64 := t
    have e2 : decV level x = some (saidT x) := by
      unfold decV; rw [if_neg (by show ¬ bitB x 0 = false; rw [show bitB x 0 = true from b0]; simp), if_pos ⟨b1, hl⟩, if_pos t']
    rw [e2]; rfl
  · intro b0 b1 hl t
    have t' : ¬ tOk x 64 := t
    have e2 : decV level x = none := by
      unfold decV; rw [if_neg (by show ¬ bitB x 0 = false; rw [show bitB x 0 = true from b0]; simp), if_pos ⟨b1, hl⟩, if_neg t']
    rw [e2]; rfl
  · intro kind b0 hk t
    have hk' : (kind = 2 ∧ bitB x 1 = false) ∨ (kind = 3 ∧ bitB x 1 = true ∧ level = 3) := hk
    have kk : kindL x = kind := by
      unfold kindL; rcases hk' with ⟨rfl, b1⟩ | ⟨rfl, b1, -⟩ <;> simp [b1]
    have e2 : decV level x = none := by
      unfold decV; rw [if_neg (by show ¬ bitB x 0 = false; rw [show bitB x 0 = true from b0]; simp), if_neg (by rcases hk' with ⟨rfl, b1⟩ | ⟨rfl, b1, hl⟩ <;> simp [b1]; omega), kk, if_neg (fun h => ?_)]
      rcases t with t | t
      · exact h.1 t
      · exact t h.2
    rw [e2]; rfl
  · intro kind b0 hk t1 t2
    have hk' : (kind = 2 ∧ bitB x 1 = false) ∨ (kind = 3 ∧ bitB x 1 = true ∧ level = 3) := hk
    have kk : kindL x = kind := by
      unfold kindL; rcases hk' with ⟨rfl, b1⟩ | ⟨rfl, b1, -⟩ <;> simp [b1]
    have e2 : decV level x = some (saidL kind x) := by
      unfold decV; rw [if_neg (by show ¬ bitB x 0 = false; rw [show bitB x 0 = true from b0]; simp), if_neg (by rcases hk' with ⟨rfl, b1⟩ | ⟨rfl, b1, hl⟩ <;> simp [b1]; omega), kk, if_pos ⟨t1, t2⟩]
    rw [e2]; rfl
  · rintro e w' ⟨v, rfl, rfl, hb⟩
    exact ⟨rfl, hb⟩
theorem rightD_is (level : Int) (d : D7) (l0 : 0 ≤ level) (l3 : level < 4) (h0 : 0 ≤ d.out) : Lg.rightD level d.kind d.out d.user d.write d.exec d.used d.attr = d.right level := by
  have ka : kn level = true := by simp [kn]; omega
  unfold Lg.rightD D7.right Ds.rightV
  rw [ka, Bool.true_and, show decide (0 ≤ d.out ∧ d.out < 281474976710656) = decide (d.out < 281474976710656) from decide_eq_decide.mpr (by omega)]
  unfold al Dr.leafB
  rw [lbits_yes ka, show min (39 - 9 * level).toNat 64 = (39 - 9 * level).toNat by omega]
end Go.Proofs.Ytfnmdelkdombbaa.Em
