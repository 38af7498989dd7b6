/- The law RightTexts: each case joined. -/
import Derived.Test.YtkdiplgnacjakaaProg
import Derived.Test.YtkdiplgnacjakaaRi
import Derived.Test.YtkdiplgnacjakaaRk
import Derived.Test.YtkdiplgnacjakaaRl
namespace Go.Proofs.Ytkdiplgnacjakaa.Rn
open Go.RowKit Go.Proofs.Ytkdiplgnacjakaa.G Go.Proofs.Ytkdiplgnacjakaa.B Go.Proofs.Ytkdiplgnacjakaa.M Go.Proofs.Ytkdiplgnacjakaa.Dr Go.Proofs.Ytkdiplgnacjakaa.Rt Go.Proofs.Ytkdiplgnacjakaa.Re Go.Proofs.Ytkdiplgnacjakaa.Rf Go.Proofs.Ytkdiplgnacjakaa.Rh
set_option linter.unusedVariables false
set_option linter.unusedSimpArgs false
def ch (r : Int) (k : Nat) : UInt8 := if hasV r k then (if k = 0 then 114 else if k = 1 then 119 else 120) else 45
theorem show_bytes (r : Int) (r0 : 0 ≤ r) (r7 : r ≤ 7) : showS r = ⟨#[ch r 0, ch r 1, ch r 2]⟩ := by
  obtain rfl | rfl | rfl | rfl | rfl | rfl | rfl | rfl : r = 0 ∨ r = 1 ∨ r = 2 ∨ r = 3 ∨ r = 4 ∨ r = 5 ∨ r = 6 ∨ r = 7 := by omega
  all_goals decide +kernel
theorem ch0 (r : Int) : hasV r 0 = (((ch r 0).toNat : Int) == 114) := by
  unfold ch
  cases hasV r 0 <;> rfl
theorem ch1 (r : Int) : hasV r 1 = (((ch r 1).toNat : Int) == 119) := by
  unfold ch
  cases hasV r 1 <;> rfl
theorem ch2 (r : Int) : hasV r 2 = (((ch r 2).toNat : Int) == 120) := by
  unfold ch
  cases hasV r 2 <;> rfl
theorem parse_show (r : Int) (r0 : 0 ≤ r) (r7 : r ≤ 7) : ∀ w, Calls Try.prog 14 #[.string (showS r)] w fun e w' => e = .returned (.tuple #[.int .i64 r, .bool true]) ∧ Below w.heap.size w w' := by
  rcases Go.Proofs.Ytkdiplgnacjakaa.Ru.parse_any (showS r) with ⟨q, q0, q7, hs, hC⟩ | ⟨hn, hC⟩
  · rw [Go.Proofs.Ytkdiplgnacjakaa.Ru.show_inj r q r0 r7 q0 q7 hs] at *
    exact hC
  · exact absurd rfl (hn r r0 r7)
theorem law_any (r : Int) (s : ByteArray) (w : World) : Calls Try.prog 3 #[.int .i64 r, .string s] w fun e w' => e = .returned (.bool true) ∧ Below w.heap.size w w' := by
  have C1 := fun w => refright_any r w
  by_cases hr : 0 ≤ r ∧ r ≤ 7
  · rw [show kr r = true by simp [kr, hr]] at C1
    have CS := fun w => show_any r hr.1 hr.2 w
    have CQ := parse_show r hr.1 hr.2
    rw [show_bytes r hr.1 hr.2] at CS CQ
    have H0 : ∀ w, Calls Try.prog 15 #[.int .i64 r, .int .i64 0] w fun e w' => e = .returned (.bool (((ch r 0).toNat : Int) == 114)) ∧ Below w.heap.size w w' := fun w => by
      rw [← ch0]; exact has_any r 0 hr.1 hr.2 (by decide) w
    have H1 : ∀ w, Calls Try.prog 15 #[.int .i64 r, .int .i64 1] w fun e w' => e = .returned (.bool (((ch r 1).toNat : Int) == 119)) ∧ Below w.heap.size w w' := fun w => by
      rw [← ch1]; exact has_any r 1 hr.1 hr.2 (by decide) w
    have H2 : ∀ w, Calls Try.prog 15 #[.int .i64 r, .int .i64 2] w fun e w' => e = .returned (.bool (((ch r 2).toNat : Int) == 120)) ∧ Below w.heap.size w w' := fun w => by
      rw [← ch2]; exact has_any r 2 hr.1 hr.2 (by decide) w
    rcases Go.Proofs.Ytkdiplgnacjakaa.Ru.parse_any s with ⟨q, q0, q7, rfl, hC⟩ | ⟨hn, hC⟩
    · exact Go.Proofs.Ytkdiplgnacjakaa.Ri.yes_ok r q _ _ _ _ C1 CS CQ H0 H1 H2 hC (fun w => show_any q q0 q7 w) w
    · exact Go.Proofs.Ytkdiplgnacjakaa.Rl.yes_bad r s _ _ _ showS C1 CS CQ H0 H1 H2 hC (fun w => show_any 0 (by decide) (by decide) w) (fun w => show_any 1 (by decide) (by decide) w) (fun w => show_any 2 (by decide) (by decide) w) (fun w => show_any 3 (by decide) (by decide) w) (fun w => show_any 4 (by decide) (by decide) w) (fun w => show_any 5 (by decide) (by decide) w) (fun w => show_any 6 (by decide) (by decide) w) (fun w => show_any 7 (by decide) (by decide) w) (fun n h0 h7 e => hn n h0 h7 e.symm) w
  · rw [show kr r = false by simp [kr]; omega] at C1
    have CS := fun w => Go.Proofs.Ytkdiplgnacjakaa.Ru.show_no r hr w
    rcases Go.Proofs.Ytkdiplgnacjakaa.Ru.parse_any s with ⟨q, q0, q7, rfl, hC⟩ | ⟨hn, hC⟩
    · exact Go.Proofs.Ytkdiplgnacjakaa.Ri.no_ok r q _ C1 CS hC (fun w => show_any q q0 q7 w) w
    · exact Go.Proofs.Ytkdiplgnacjakaa.Rk.no_bad r s showS C1 CS hC (fun w => show_any 0 (by decide) (by decide) w) (fun w => show_any 1 (by decide) (by decide) w) (fun w => show_any 2 (by decide) (by decide) w) (fun w => show_any 3 (by decide) (by decide) w) (fun w => show_any 4 (by decide) (by decide) w) (fun w => show_any 5 (by decide) (by decide) w) (fun w => show_any 6 (by decide) (by decide) w) (fun w => show_any 7 (by decide) (by decide) w) (fun n h0 h7 e => hn n h0 h7 e.symm) w
end Go.Proofs.Ytkdiplgnacjakaa.Rn
