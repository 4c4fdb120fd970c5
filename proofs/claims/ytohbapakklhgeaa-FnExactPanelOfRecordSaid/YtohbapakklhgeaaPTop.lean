/-
  Contracts of both programs' functions on panels that only look: SeatedOf, IsFull, SeatOf, GoneBefore.
-/
import Derived.Test.YtohbapakklhgeaaPan
namespace Go.Proofs.Ytohbapakklhgeaa.mem
open Go.ChangeShapes Go.WideShapes Go.ChangeAt Go.RowKit

end Go.Proofs.Ytohbapakklhgeaa.mem
