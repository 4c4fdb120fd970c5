/-
  Contracts of both programs' functions on panels that only look: SeatedOf, IsFull, SeatOf, GoneBefore.
-/
import Derived.Test.YtfaiigihdokpjaaPan
namespace Go.Proofs.Ytfaiigihdokpjaa.mem
open Go.ChangeShapes Go.WideShapes Go.ChangeAt Go.RowKit

end Go.Proofs.Ytfaiigihdokpjaa.mem
