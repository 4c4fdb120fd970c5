/-
  Contracts of both programs' SwearJury.
-/
import Derived.Test.YtbkpcfncdnmknaaPTop
import Derived.Deep.RegionWith
import Derived.Deep.RegionHeld3
namespace Go.Proofs.Ytbkpcfncdnmknaa.mem
open Go.ChangeShapes Go.WideShapes Go.ChangeAt Go.RowKit

def swOk (l : L3) (m a : Int) : Bool := okP l && (inB m 1 12 && (inB a 0 6 && decide (m + a ≤ ((nz l.x).length : Int))))
def swV (l : L3) (m a : Int) : L3 := if swOk l m a = true then ⟨(nz l.x).take m.toNat, ((nz l.x).drop m.toNat).take a.toNat, []⟩ else ⟨[], [], []⟩
def swC (l : L3) (m a : Int) : Int := if okP l = true then (if inB m 1 12 = true ∧ inB a 0 6 = true then (if m + a ≤ ((nz l.x).length : Int) then 0 else 5) else 2) else 1
def nilJ : S3 := ⟨⟨none, 0, 0⟩, ⟨none, 0, 0⟩, ⟨none, 0, 0⟩⟩
theorem Own3.nilJ (w : World) (lo : Nat) : Own3 w lo nilJ ⟨[], [], []⟩ :=
  ⟨Own.nil_ _ _, Own.nil_ _ _, Own.nil_ _ _, (show 0 + (0 + 0) ≤ 2097152 by omega), (by intro k hk; cases hk), (by intro k hk; cases hk), (by intro k hk; cases hk)⟩
theorem Rd.mid {w : World} {b off n k a : Nat} {xs : List Int} (h : Rd w (some ⟨b, off, none⟩) n xs) (hk : k + a ≤ n) : Rd w (some ⟨b, off + k, none⟩) a ((xs.drop k).take a) := by
  have h1 := h.1
  have h2 := h.2.1
  refine ⟨by rw [List.length_take, List.length_drop]; omega, by omega, fun ha => ?_⟩
  obtain ⟨b', off', e, hb, hc⟩ := h.2.2 (by omega)
  injection e with e
  injection e with e1 e2
  subst e1 e2
  refine ⟨b, off + k, rfl, hb, fun j hj => ?_⟩
  rw [Nat.add_assoc, hc (k + j) (by omega)]
  congr 2
  simp only [List.getD_eq_getElem?_getD]
  rw [List.getElem?_take_of_lt hj, List.getElem?_drop]

end Go.Proofs.Ytbkpcfncdnmknaa.mem
