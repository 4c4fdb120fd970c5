/-
  Contracts of both programs' EmptySeat.
-/
import Derived.Test.YtmcnnbjgehmmoaaEmp
import Derived.Test.YtmcnnbjgehmmoaaEmpS
namespace Go.Proofs.Ytmcnnbjgehmmoaa.mem
open Go.ChangeShapes Go.WideShapes Go.ChangeAt Go.RowKit

def nilP : S3 := ⟨⟨none, 0, 0⟩, ⟨none, 0, 0⟩, ⟨none, 0, 0⟩⟩
theorem Own3.nilP (w : World) (lo : Nat) : Own3 w lo nilP ⟨[], [], []⟩ :=
  ⟨Own.nil_ _ _, Own.nil_ _ _, Own.nil_ _ _, by simp [mem.nilP], (by intro k hk; cases hk), (by intro k hk; cases hk), (by intro k hk; cases hk)⟩
theorem Own3.offP {w : World} {lo : Nat} {p : S3} {l : L3} (h : Own3 w lo p l) (b i : Nat) (hb : b < lo) (u : Value) : Own3 (w.setCell ⟨b, i, none⟩ u) lo p l :=
  ⟨h.1.off b i hb u, h.2.1.off b i hb u, h.2.2.1.off b i hb u, h.2.2.2⟩
def empC (l : L3) (k : Int) : Int := if okP l = true then (if inB k 0 ((l.x.length : Int) - 1) = true then (if l.x.getD k.toNat 0 = 0 then 5 else 0) else 2) else 1
def empV (l : L3) (k : Int) : L3 := if empC l k = 0 then empL l k.toNat else ⟨[], [], []⟩
theorem empV_no {l : L3} {k c : Int} (h : empC l k = c) (hc : c ≠ 0) : empV l k = ⟨[], [], []⟩ := by
  unfold empV
  rw [h, if_neg hc]
theorem empV_yes {l : L3} {k : Int} (h : empC l k = 0) : empV l k = empL l k.toNat := by
  unfold empV
  rw [if_pos h]
theorem okP_small {l : L3} (h : okP l = true) : l.x.length + (l.y.length + l.z.length) ≤ 100000 := by
  have h1 := okP_iff.1 h
  have h2 := h1.2.1
  unfold allP at h2
  simp only [List.length_append] at h2
  omega
end Go.Proofs.Ytmcnnbjgehmmoaa.mem
