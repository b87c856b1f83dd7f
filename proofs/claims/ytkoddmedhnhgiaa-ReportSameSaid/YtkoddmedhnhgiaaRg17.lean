/- Printed by shake.py. -/
import Derived.Test.YtkoddmedhnhgiaaRg16
import Derived.Test.YtkoddmedhnhgiaaRg12
namespace Go.Proofs.YtkoddmedhnhgiaaW.PrintWords
open Go.RowKit
end Go.Proofs.YtkoddmedhnhgiaaW.PrintWords
namespace Go.Proofs.YtkoddmedhnhgiaaW.PrintLast
section
variable {ops : Array Oper} {a : Act} {o og : Oper} {g : Nat} {t : Tmp} {u : Bool}
end
end Go.Proofs.YtkoddmedhnhgiaaW.PrintLast
