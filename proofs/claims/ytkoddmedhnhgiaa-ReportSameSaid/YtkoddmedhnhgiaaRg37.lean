/- Printed by shake.py. -/
import Derived.SizedLaws
import Derived.ChangeSlices
namespace Go.Proofs.YtkoddmedhnhgiaaW.PrintWords
open Go.ChangeShapes Go.WideShapes
end Go.Proofs.YtkoddmedhnhgiaaW.PrintWords
