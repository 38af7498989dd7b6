/- portreeveref04.Right: what each call at a level from 0 to 3 answers. -/
import Derived.Test.YtmmljeekonechaaProg
import Derived.Test.YtmmljeekonechaaG
import Derived.Test.YtmmljeekonechaaB
import Derived.Test.YtmmljeekonechaaHa
namespace Go.Proofs.Ytmmljeekonechaa.Lg
open Go.RowKit Go.Proofs.Ytmmljeekonechaa.G Go.Proofs.Ytmmljeekonechaa.B Go.Proofs.Ytmmljeekonechaa.Ha
set_option linter.unusedVariables false
set_option linter.unusedSimpArgs false
/-- Is there such a descriptor at a level? -/
def rightD (level kind out : Int) (user write exec used : Bool) (attr : Int) : Bool :=
  decide (0 ≤ out ∧ out < 281474976710656) && (
  (kind == 0 && out == 0 && !user && !write && !exec && !used && attr == 0) ||
  (kind == 1 && decide (level < 3) && decide (out % 4096 = 0) && !user && !write && !exec && !used && attr == 0) ||
  (((kind == 2 && (level == 1 || level == 2)) || (kind == 3 && level == 3)) && decide (0 ≤ attr ∧ attr ≤ 7) && decide (out % 2 ^ (39 - 9 * level).toNat = 0)))
theorem down_as {x n r : Int} (h0 : 0 ≤ x) (h1 : x < 18446744073709551616) (n0 : 0 ≤ n) (n1 : n ≤ 64) (hr : x - x % 2 ^ n.toNat = r) (w : World) :
    Calls Try.prog 56 #[.int .u64 x, .int .i64 n] w fun e w' => e = .returned (.int .u64 r) ∧ Below w.heap.size w w' := by
  have := down_any x n h0 h1 (by omega) (by omega) w
  rw [show min n.toNat 64 = n.toNat by omega, hr] at this
  exact this
def plainD (user write exec used : Bool) (attr : Int) : Bool := !user && (!write && (!exec && (!used && attr == 0)))
end Go.Proofs.Ytmmljeekonechaa.Lg
