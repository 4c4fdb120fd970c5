/-
  Contracts of both programs' functions on panels that only look: SeatedOf, IsFull, SeatOf, GoneBefore.
-/
import Derived.Test.YtbjjiamfimgcgaaDoorPan
namespace Go.Proofs.YtbjjiamfimgcgaaDoor.mem
open Go.ChangeShapes Go.WideShapes Go.ChangeAt Go.RowKit

end Go.Proofs.YtbjjiamfimgcgaaDoor.mem
