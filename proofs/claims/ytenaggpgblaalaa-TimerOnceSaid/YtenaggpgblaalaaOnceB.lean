/- The reference's Add: its contract. Condition: at most 1000 names. -/
import Derived.Test.YtenaggpgblaalaaOnceA
import Derived.WalkLawsBesides
namespace Go.Proofs.Ytenaggpgblaalaa.Timer
open Go.RowKit Go.Proofs.Ytenaggpgblaalaa.PTimerPlays Go.Proofs.YtenaggpgblaalaaW.PrintWords Go.Proofs.YtenaggpgblaalaaW.PrintLast Go.Proofs.YtenaggpgblaalaaW.PrintMore
open Plain (wrap_id hold)
set_option linter.unusedVariables false
set_option linter.unusedSimpArgs false

/-- Does a name stand no later than another one, as their bytes do? -/
def le (x y : ByteArray) : Bool := Op.bytesLess x.toList y.toList || x.toList == y.toList
/-- Add: what comes, and whether the name is in, of what is left. -/
def addS (x : ByteArray) (d : Bool) (y : ByteArray) : Bool × List ByteArray :=
  if !d && le x y then (true, if x = y then [x] else [x, y]) else (d, [y])
def addL (x : ByteArray) : Bool → List ByteArray → List ByteArray
  | d, [] => if d then [] else [x]
  | d, y :: l => (addS x d y).2 ++ addL x (addS x d y).1 l
end Go.Proofs.Ytenaggpgblaalaa.Timer
