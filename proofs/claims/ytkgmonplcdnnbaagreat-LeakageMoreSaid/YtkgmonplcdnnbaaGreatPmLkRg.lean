/- The operations of a region, taken out of a function's body. -/
import Derived.Test.YtkgmonplcdnnbaaGreatPmLkMoT
import Derived.Test.YtkgmonplcdnnbaaGreatPmLkNeed
import Derived.Test.YtkgmonplcdnnbaaGreatPm23
import Derived.Deep.RegionHeld3
namespace Go.Proofs.YtkgmonplcdnnbaaGreat
def opsOf : Code → Nat → Option (Array Oper)
 | .region id ops _, n => if id = n then some ops else none
 |
  .seq a b, n => match opsOf a n with
  | some o => some o
  | none => opsOf b n
 |
  .cond _ a b, n => match opsOf a n with
  | some o => some o
  | none => opsOf b n
 | .block _ b, n => opsOf b n
 | .loop b, n => opsOf b n
 | .scope b, n => opsOf b n
 | _, _ => none
end Go.Proofs.YtkgmonplcdnnbaaGreat
