/- Printed by shake.py. -/
import Derived.Test.YtdchnaghmmhkhaaKz16
import Derived.Test.YtdchnaghmmhkhaaKz12
namespace Go.Proofs.YtdchnaghmmhkhaaW.PrintWords
open Go.RowKit
end Go.Proofs.YtdchnaghmmhkhaaW.PrintWords
namespace Go.Proofs.YtdchnaghmmhkhaaW.PrintLast
section
variable {ops : Array Oper} {a : Act} {o og : Oper} {g : Nat} {t : Tmp} {u : Bool}
end
end Go.Proofs.YtdchnaghmmhkhaaW.PrintLast
