/- portreeveref04.Decode: its answer at a level from 0 to 3, joined. -/
import Derived.Test.YtfnmdelkdombbaaProg
import Derived.Test.YtfnmdelkdombbaaLh
import Derived.Test.YtfnmdelkdombbaaDc
namespace Go.Proofs.Ytfnmdelkdombbaa.Dq
open Go.RowKit Go.Proofs.Ytfnmdelkdombbaa.G Go.Proofs.Ytfnmdelkdombbaa.B Go.Proofs.Ytfnmdelkdombbaa.Ha Go.Proofs.Ytfnmdelkdombbaa.M
open Go.Proofs.Ytfnmdelkdombbaa.Dc (bitB dV okL leafBad Ret)
open Go.Proofs.Ytfnmdelkdombbaa.Lh (tOk)
set_option linter.unusedVariables false
set_option linter.unusedSimpArgs false
/-- What holds of any answer, holds of the call's. -/
theorem rdecode_any (level x : Int) (l0 : 0 ≤ level) (l3 : level ≤ 3) (h0 : 0 ≤ x) (h1 : x < 18446744073709551616) (w : World) (post : Value → Prop)
    (P0 : bitB x 0 = false → post (dV 0 0 false false false false 0 true))
    (P1 : bitB x 0 = true → bitB x 1 = true → level < 3 → tOk x 64 → post (dV 1 (x / 4096 % 68719476736 * 4096) false false false false 0 true))
    (Q1 : bitB x 0 = true → bitB x 1 = true → level < 3 → ¬ tOk x 64 → post (dV 0 0 false false false false 0 false))
    (PB : ∀ kind : Int, bitB x 0 = true → ((kind = 2 ∧ bitB x 1 = false) ∨ (kind = 3 ∧ bitB x 1 = true ∧ level = 3)) → leafBad level kind x ∨ ¬ okL x (39 - 9 * level) 64 → post (dV 0 0 false false false false 0 false))
    (PG : ∀ kind : Int, bitB x 0 = true → ((kind = 2 ∧ bitB x 1 = false) ∨ (kind = 3 ∧ bitB x 1 = true ∧ level = 3)) → ¬ leafBad level kind x → okL x (39 - 9 * level) 64 → post (dV kind (x / 4096 % 68719476736 * 4096) (bitB x 6) (!bitB x 7) (!bitB x 54) (bitB x 10) (x / 4 % 8) true)) :
    Calls Try.prog 27 #[.int .i64 level, .int .u64 x] w fun e w' => ∃ v, e = .returned v ∧ post v ∧ Below w.heap.size w w' := by
  have leaf : ∀ kind : Int, bitB x 0 = true → ((kind = 2 ∧ bitB x 1 = false) ∨ (kind = 3 ∧ bitB x 1 = true ∧ level = 3)) → Calls Try.prog 27 #[.int .i64 level, .int .u64 x] w fun e w' => ∃ v, e = .returned v ∧ post v ∧ Below w.heap.size w w' := fun kind b0 hk => by
    refine (Go.Proofs.Ytfnmdelkdombbaa.Dc.decode_leaf level x kind (39 - 9 * level) (x / 4 % 8) (x / 4096 % 68719476736) hk b0 (by omega) (by omega) (by omega) (by omega) w post (fun w => bits_any x h0 h1 w) (fun w => get_any x 12 36 h0 h1 (by decide) w) (fun w => get_any x 2 3 h0 h1 (by decide) w) (fun w => low_any level l0 l3 w) (PB kind b0 hk) (PG kind b0 hk)).mono fun e w' ⟨v, hv, hp, hm⟩ => ⟨v, hv, hp, hm.to_below⟩
  cases b0 : bitB x 0
  · exact (Go.Proofs.Ytfnmdelkdombbaa.Lh.decode_no level x h0 h1 b0 w).mono fun e w' ⟨he, hb⟩ => ⟨_, he, P0 b0, hb⟩
  · cases b1 : bitB x 1
    · exact leaf 2 b0 (.inl ⟨rfl, b1⟩)
    · by_cases hl : level < 3
      · refine (Go.Proofs.Ytfnmdelkdombbaa.Lh.decode_table level x _ hl h0 h1 b0 b1 rfl w).mono fun e w' ⟨he, hb⟩ => ⟨_, he, ?_, hb⟩
        unfold Go.Proofs.Ytfnmdelkdombbaa.Lh.tabV
        split
        · exact P1 b0 b1 hl ‹_›
        · exact Q1 b0 b1 hl ‹_›
      · exact leaf 3 b0 (.inr ⟨rfl, b1, by omega⟩)
end Go.Proofs.Ytfnmdelkdombbaa.Dq
