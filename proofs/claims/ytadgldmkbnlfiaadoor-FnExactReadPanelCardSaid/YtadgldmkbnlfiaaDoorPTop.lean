/-
  Contracts of both programs' functions on panels that only look: SeatedOf, IsFull, SeatOf, GoneBefore.
-/
import Derived.Test.YtadgldmkbnlfiaaDoorPan
namespace Go.Proofs.YtadgldmkbnlfiaaDoor.mem
open Go.ChangeShapes Go.WideShapes Go.ChangeAt Go.RowKit

end Go.Proofs.YtadgldmkbnlfiaaDoor.mem
