/-
  Contracts of impl.without and of the library's DeleteFunc, IndexFunc under its closure.
-/
import Derived.Test.YtbkpcfncdnmknaaGreatMk
import Derived.Lib.SliceRun
namespace Go.Proofs.YtbkpcfncdnmknaaGreat.mem
open Go.ChangeShapes Go.WideShapes Go.ChangeAt Go.RowKit

end Go.Proofs.YtbkpcfncdnmknaaGreat.mem
