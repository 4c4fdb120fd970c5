/-
  Ties and texts in the laws: the words that the laws' proofs share.
-/
import Derived.Test.YtmcnnbjgehmmoaaCau
import Derived.Test.YtmcnnbjgehmmoaaOpen
import Derived.Deep.RegionHeld3
namespace Go.Proofs.Ytmcnnbjgehmmoaa.mem
open Go.ChangeShapes Go.WideShapes Go.ChangeAt Go.RowKit

section
variable {w : World} {lo : Nat} {s : Sl} {ts : List Ti} {ss : List ByteArray}
theorem InT.rds (h : InT w s ts) {left : Int} (hz : 0 ≤ szLs left (lensT ts)) (hl : left ≤ 1048576) : RdT w s.A s.n ts :=
  h.2.2 (by have h1 := (szLs_pos hz).1; have h2 := h.1; rw [show (lensT ts).length = ts.length from List.length_map _] at h1; omega)
theorem InW.rds (h : InW w s ss) {left : Int} (hz : 0 ≤ szLs left (lensW ss)) (hl : left ≤ 1048576) : RdW w s.A s.n ss :=
  h.2.2 (by have h1 := (szLs_pos hz).1; have h2 := h.1; rw [show (lensW ss).length = ss.length from List.length_map _] at h1; omega)
theorem szLt_pos {left : Int} {ms : List Nat} (h : 0 ≤ szLs left ms) (_ : left ≤ 1048576) : (ms.length : Int) ≤ left ∧ szLs left ms ≤ left := szLs_pos h
theorem OwnT.cap (h : OwnT w lo s ts) : cap1 s := h.2.2.2.1
theorem OwnW.cap (h : OwnW w lo s ss) : cap1 s := h.2.2.2.1
end
end Go.Proofs.Ytmcnnbjgehmmoaa.mem
