/- Printed by shake.py. -/
import Derived.Test.YtlcioegdmopppaaShE00
import Derived.Laws.StructEq
namespace Go.Proofs.YtlcioegdmopppaaW.PrintWords
open Go.RowKit
section
variable {P:Program} {d:Nat} {xs ys:Array Value} {f:Field} {fs:List Field} {a b:Value} {r s:Bool} {w:World}
end
end Go.Proofs.YtlcioegdmopppaaW.PrintWords
