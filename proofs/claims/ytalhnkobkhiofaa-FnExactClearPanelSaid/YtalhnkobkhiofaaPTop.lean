/-
  Contracts of both programs' functions on panels that only look: SeatedOf, IsFull, SeatOf, GoneBefore.
-/
import Derived.Test.YtalhnkobkhiofaaPan
namespace Go.Proofs.Ytalhnkobkhiofaa.mem
open Go.ChangeShapes Go.WideShapes Go.ChangeAt Go.RowKit

end Go.Proofs.Ytalhnkobkhiofaa.mem
