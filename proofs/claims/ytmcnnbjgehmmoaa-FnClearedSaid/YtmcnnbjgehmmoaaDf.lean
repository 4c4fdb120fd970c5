/-
  Contracts of impl.without and of the library's DeleteFunc, IndexFunc under its closure.
-/
import Derived.Test.YtmcnnbjgehmmoaaMk
import Derived.Lib.SliceRun
namespace Go.Proofs.Ytmcnnbjgehmmoaa.mem
open Go.ChangeShapes Go.WideShapes Go.ChangeAt Go.RowKit

end Go.Proofs.Ytmcnnbjgehmmoaa.mem
