/- Printed by shake.py. -/
import Derived.SizedLaws
import Derived.ChangeSlices
namespace Go.Proofs.YtlcioegdmopppaaW.PrintWords
open Go.ChangeShapes Go.WideShapes
end Go.Proofs.YtlcioegdmopppaaW.PrintWords
