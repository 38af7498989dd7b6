/- portreeveref04.Right: what each call at a level from 0 to 3 answers. -/
import Derived.Test.YtfnmdelkdombbaaProg
import Derived.Test.YtfnmdelkdombbaaG
import Derived.Test.YtfnmdelkdombbaaB
import Derived.Test.YtfnmdelkdombbaaHa
namespace Go.Proofs.Ytfnmdelkdombbaa.Lg
open Go.RowKit Go.Proofs.Ytfnmdelkdombbaa.G Go.Proofs.Ytfnmdelkdombbaa.B Go.Proofs.Ytfnmdelkdombbaa.Ha
set_option linter.unusedVariables false
set_option linter.unusedSimpArgs false
/-- Is there such a descriptor at a level? -/
def rightD (level kind out : Int) (user write exec used : Bool) (attr : Int) : Bool :=
  decide (0 ≤ out ∧ out < 281474976710656) && (
  (kind == 0 && out == 0 && !user && !write && !exec && !used && attr == 0) ||
  (kind == 1 && decide (level < 3) && decide (out % 4096 = 0) && !user && !write && !exec && !used && attr == 0) ||
  (((kind == 2 && (level == 1 || level == 2)) || (kind == 3 && level == 3)) && decide (0 ≤ attr ∧ attr ≤ 7) && decide (out % 2 ^ (39 - 9 * level).toNat = 0)))
def plainD (user write exec used : Bool) (attr : Int) : Bool := !user && (!write && (!exec && (!used && attr == 0)))
end Go.Proofs.Ytfnmdelkdombbaa.Lg
