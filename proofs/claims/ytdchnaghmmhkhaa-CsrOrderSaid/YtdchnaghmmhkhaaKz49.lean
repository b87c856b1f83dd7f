/- Printed by shake.py. -/
import Derived.SizedLaws
import Derived.ChangeSlices
namespace Go.Proofs.YtdchnaghmmhkhaaW.PrintWords
open Go.ChangeShapes Go.WideShapes
end Go.Proofs.YtdchnaghmmhkhaaW.PrintWords
