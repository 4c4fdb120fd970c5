/-
  Contracts of impl.without and of the library's DeleteFunc, IndexFunc under its closure.
-/
import Derived.Test.YtalhnkobkhiofaaMk
import Derived.Lib.SliceRun
namespace Go.Proofs.Ytalhnkobkhiofaa.mem
open Go.ChangeShapes Go.WideShapes Go.ChangeAt Go.RowKit

end Go.Proofs.Ytalhnkobkhiofaa.mem
