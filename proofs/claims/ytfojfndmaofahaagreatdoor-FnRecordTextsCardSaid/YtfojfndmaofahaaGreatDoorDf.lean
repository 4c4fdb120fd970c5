/-
  Contracts of impl.without and of the library's DeleteFunc, IndexFunc under its closure.
-/
import Derived.Test.YtfojfndmaofahaaGreatDoorMk
import Derived.Lib.SliceRun
namespace Go.Proofs.YtfojfndmaofahaaGreatDoor.mem
open Go.ChangeShapes Go.WideShapes Go.ChangeAt Go.RowKit

end Go.Proofs.YtfojfndmaofahaaGreatDoor.mem
