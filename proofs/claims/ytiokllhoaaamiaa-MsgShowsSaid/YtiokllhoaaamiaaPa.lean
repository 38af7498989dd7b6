/- The labels of layer 25 as plain data. -/
import Derived.Test.YtiokllhoaaamiaaSl
namespace Go.Proofs.Ytiokllhoaaamiaa.Pa
set_option linter.unusedVariables false
set_option linter.unusedSimpArgs false
def nmL : List ByteArray := [⟨#[114, 101, 116, 121, 112, 101]⟩, ⟨#[99, 111, 112, 121]⟩, ⟨#[109, 105, 110, 116]⟩, ⟨#[109, 111, 118, 101]⟩, ⟨#[109, 117, 116, 97, 116, 101]⟩, ⟨#[114, 111, 116, 97, 116, 101]⟩, ⟨#[100, 101, 108, 101, 116, 101]⟩, ⟨#[114, 101, 118, 111, 107, 101]⟩, ⟨#[109, 97, 112]⟩, ⟨#[117, 110, 109, 97, 112]⟩, ⟨#[97, 100, 100, 114, 101, 115, 115]⟩, ⟨#[116, 97, 98, 108, 101]⟩, ⟨#[117, 110, 116, 97, 98, 108, 101]⟩, ⟨#[112, 111, 111, 108]⟩, ⟨#[97, 115, 115, 105, 103, 110]⟩, ⟨#[115, 101, 116]⟩, ⟨#[99, 108, 101, 97, 114]⟩, ⟨#[115, 105, 103, 110, 97, 108]⟩, ⟨#[112, 111, 108, 108]⟩]
def kdL : List Int := [1, 2, 2, 2, 2, 2, 2, 2, 3, 3, 3, 4, 4, 6, 7, 8, 8, 9, 9]
def arL : List Int := [7, 6, 7, 5, 6, 8, 2, 2, 3, 0, 0, 2, 0, 4, 1, 2, 0, 0, 0]
def nm (i : Nat) : ByteArray := nmL.getD i ⟨#[]⟩
def kd (i : Nat) : Int := kdL.getD i 0
def ar (i : Nat) : Int := arL.getD i 0
def labCells : Array Value := #[.string ⟨#[114, 101, 116, 121, 112, 101]⟩, .int .i64 1, .int .i64 7, .string ⟨#[99, 111, 112, 121]⟩, .int .i64 2, .int .i64 6, .string ⟨#[109, 105, 110, 116]⟩, .int .i64 2, .int .i64 7, .string ⟨#[109, 111, 118, 101]⟩, .int .i64 2, .int .i64 5, .string ⟨#[109, 117, 116, 97, 116, 101]⟩, .int .i64 2, .int .i64 6, .string ⟨#[114, 111, 116, 97, 116, 101]⟩, .int .i64 2, .int .i64 8, .string ⟨#[100, 101, 108, 101, 116, 101]⟩, .int .i64 2, .int .i64 2, .string ⟨#[114, 101, 118, 111, 107, 101]⟩, .int .i64 2, .int .i64 2, .string ⟨#[109, 97, 112]⟩, .int .i64 3, .int .i64 3, .string ⟨#[117, 110, 109, 97, 112]⟩, .int .i64 3, .int .i64 0, .string ⟨#[97, 100, 100, 114, 101, 115, 115]⟩, .int .i64 3, .int .i64 0, .string ⟨#[116, 97, 98, 108, 101]⟩, .int .i64 4, .int .i64 2, .string ⟨#[117, 110, 116, 97, 98, 108, 101]⟩, .int .i64 4, .int .i64 0, .string ⟨#[112, 111, 111, 108]⟩, .int .i64 6, .int .i64 4, .string ⟨#[97, 115, 115, 105, 103, 110]⟩, .int .i64 7, .int .i64 1, .string ⟨#[115, 101, 116]⟩, .int .i64 8, .int .i64 2, .string ⟨#[99, 108, 101, 97, 114]⟩, .int .i64 8, .int .i64 0, .string ⟨#[115, 105, 103, 110, 97, 108]⟩, .int .i64 9, .int .i64 0, .string ⟨#[112, 111, 108, 108]⟩, .int .i64 9, .int .i64 0]
def nmCells : Array Value := #[.string ⟨#[114, 101, 116, 121, 112, 101]⟩, .string ⟨#[99, 111, 112, 121]⟩, .string ⟨#[109, 105, 110, 116]⟩, .string ⟨#[109, 111, 118, 101]⟩, .string ⟨#[109, 117, 116, 97, 116, 101]⟩, .string ⟨#[114, 111, 116, 97, 116, 101]⟩, .string ⟨#[100, 101, 108, 101, 116, 101]⟩, .string ⟨#[114, 101, 118, 111, 107, 101]⟩, .string ⟨#[109, 97, 112]⟩, .string ⟨#[117, 110, 109, 97, 112]⟩, .string ⟨#[97, 100, 100, 114, 101, 115, 115]⟩, .string ⟨#[116, 97, 98, 108, 101]⟩, .string ⟨#[117, 110, 116, 97, 98, 108, 101]⟩, .string ⟨#[112, 111, 111, 108]⟩, .string ⟨#[97, 115, 115, 105, 103, 110]⟩, .string ⟨#[115, 101, 116]⟩, .string ⟨#[99, 108, 101, 97, 114]⟩, .string ⟨#[115, 105, 103, 110, 97, 108]⟩, .string ⟨#[112, 111, 108, 108]⟩]
def kdCells : Array Value := #[.int .i64 1, .int .i64 2, .int .i64 2, .int .i64 2, .int .i64 2, .int .i64 2, .int .i64 2, .int .i64 2, .int .i64 3, .int .i64 3, .int .i64 3, .int .i64 4, .int .i64 4, .int .i64 6, .int .i64 7, .int .i64 8, .int .i64 8, .int .i64 9, .int .i64 9]
def arCells : Array Value := #[.int .i64 7, .int .i64 6, .int .i64 7, .int .i64 5, .int .i64 6, .int .i64 8, .int .i64 2, .int .i64 2, .int .i64 3, .int .i64 0, .int .i64 0, .int .i64 2, .int .i64 0, .int .i64 4, .int .i64 1, .int .i64 2, .int .i64 0, .int .i64 0, .int .i64 0]
theorem cases19 {i : Nat} (h : i < 19) : i = 0 ∨ i = 1 ∨ i = 2 ∨ i = 3 ∨ i = 4 ∨ i = 5 ∨ i = 6 ∨ i = 7 ∨ i = 8 ∨ i = 9 ∨ i = 10 ∨ i = 11 ∨ i = 12 ∨ i = 13 ∨ i = 14 ∨ i = 15 ∨ i = 16 ∨ i = 17 ∨ i = 18 := by omega
theorem lab_cell (i : Nat) (h : i < 19) : labCells[i * 3]? = some (.string (nm i)) ∧ labCells[i * 3 + 1]? = some (.int .i64 (kd i)) ∧ labCells[i * 3 + 2]? = some (.int .i64 (ar i)) := by
  rcases cases19 h with rfl | rfl | rfl | rfl | rfl | rfl | rfl | rfl | rfl | rfl | rfl | rfl | rfl | rfl | rfl | rfl | rfl | rfl | rfl <;> exact ⟨rfl, rfl, rfl⟩
theorem nm_cell (i : Nat) (h : i < 19) : nmCells[i]? = some (.string (nm i)) := by
  rcases cases19 h with rfl | rfl | rfl | rfl | rfl | rfl | rfl | rfl | rfl | rfl | rfl | rfl | rfl | rfl | rfl | rfl | rfl | rfl | rfl <;> rfl
theorem kd_cell (i : Nat) (h : i < 19) : kdCells[i]? = some (.int .i64 (kd i)) := by
  rcases cases19 h with rfl | rfl | rfl | rfl | rfl | rfl | rfl | rfl | rfl | rfl | rfl | rfl | rfl | rfl | rfl | rfl | rfl | rfl | rfl <;> rfl
theorem ar_cell (i : Nat) (h : i < 19) : arCells[i]? = some (.int .i64 (ar i)) := by
  rcases cases19 h with rfl | rfl | rfl | rfl | rfl | rfl | rfl | rfl | rfl | rfl | rfl | rfl | rfl | rfl | rfl | rfl | rfl | rfl | rfl <;> rfl
theorem lab_part (i : Nat) (h : i < 19) : labCells.extract (i * 3) (i * 3 + 3) = #[.string (nm i), .int .i64 (kd i), .int .i64 (ar i)] := by
  rcases cases19 h with rfl | rfl | rfl | rfl | rfl | rfl | rfl | rfl | rfl | rfl | rfl | rfl | rfl | rfl | rfl | rfl | rfl | rfl | rfl <;> rfl
theorem ar_range (i : Nat) : 0 ≤ ar i ∧ ar i ≤ 8 := by
  by_cases h : i < 19
  · rcases cases19 h with rfl | rfl | rfl | rfl | rfl | rfl | rfl | rfl | rfl | rfl | rfl | rfl | rfl | rfl | rfl | rfl | rfl | rfl | rfl <;> decide
  · have : ar i = 0 := by
      unfold ar
      rw [List.getD_eq_getElem?_getD, List.getElem?_eq_none (by simpa [arL] using Nat.le_of_not_lt h)]
      rfl
    omega
end Go.Proofs.Ytiokllhoaaamiaa.Pa
