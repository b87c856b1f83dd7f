/- Printed by shake.py. -/
import Derived.Test.YtlcioegdmopppaaShE16
import Derived.Test.YtlcioegdmopppaaShE12
namespace Go.Proofs.YtlcioegdmopppaaW.PrintWords
open Go.RowKit
end Go.Proofs.YtlcioegdmopppaaW.PrintWords
namespace Go.Proofs.YtlcioegdmopppaaW.PrintLast
section
variable {ops:Array Oper} {a:Act} {o og:Oper} {g:Nat} {t:Tmp} {u:Bool}
end
end Go.Proofs.YtlcioegdmopppaaW.PrintLast
