/- Printed by shake.py. -/
import Derived.Test.YtdchnaghmmhkhaaKz00
namespace Go.Proofs.YtdchnaghmmhkhaaW.PrintWords
open Go.RowKit
section
variable {P : Program} {ops : Array Oper} {rest : List Oper} {o : Oper} {a : Act} {Q : Exit → Act → World → Prop} {W : World}
end
end Go.Proofs.YtdchnaghmmhkhaaW.PrintWords
