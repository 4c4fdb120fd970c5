/-
  Contracts of the laws' own functions on structs of three lists (a panel, a jury): copy, size, compare, mark, hold.
-/
import Derived.Test.YtmcnnbjgehmmoaaInts
namespace Go.Proofs.Ytmcnnbjgehmmoaa.mem
open Go.ChangeShapes Go.WideShapes Go.ChangeAt Go.RowKit

theorem Ext.cells {W w1 : World} (h : Ext W w1) : (∀ b o, b < W.heap.size → w1.cell? ⟨b, o, none⟩ = W.cell? ⟨b, o, none⟩) ∧ (∀ b o, b < W.heap.size → w1.frozen? ⟨b, o, none⟩ = W.frozen? ⟨b, o, none⟩) :=
  ⟨fun b o hb => Below.cell (p := ⟨b, o, none⟩) h hb, fun b o hb => Below.frozen (p := ⟨b, o, none⟩) h hb⟩

/-- what is left of a bound behind three slices -/
def sz3 (left : Int) (p : S3) : Int := if (p.x.n : Int) + p.y.n + p.z.n ≤ left then left - p.x.n - p.y.n - p.z.n else -1
theorem sz3_pos {left : Int} {p : S3} (h : 0 ≤ sz3 left p) (hl : left ≤ 1048576) : p.x.n + (p.y.n + p.z.n) ≤ 1048576 ∧ sz3 left p ≤ left := by
  unfold sz3 at h ⊢
  split at h
  · rename_i hh
    rw [if_pos hh]
    omega
  · omega
theorem likePanel_yes (p p' : S3) (l : L3) (w : World) (hr : Rd3 w p l) (hr' : Rd3 w p' l) :
    Calls Try.prog 40 #[.agg #[.slice p.x.A p.x.n p.x.c, .slice p.y.A p.y.n p.y.c, .slice p.z.A p.z.n p.z.c], .agg #[.slice p'.x.A p'.x.n p'.x.c, .slice p'.y.A p'.y.n p'.y.c, .slice p'.z.A p'.z.n p'.z.c]] w fun e w' => e = .returned (.bool true) ∧ Ext w w' := by
  go_enter Try.func40, Try.ntmps40
  go_wp2_with fail
  have hX0 := ((Ext.refl w).alloc (.cells #[.slice p.x.A p.x.n p.x.c, .slice p.y.A p.y.n p.y.c, .slice p.z.A p.z.n p.z.c] 50)).alloc (.cells #[.slice p'.x.A p'.x.n p'.x.c, .slice p'.y.A p'.y.n p'.y.c, .slice p'.z.A p'.z.n p'.z.c] 50)
  refine (likeInts_any p.x p'.x l.x l.x _ (hr.1.ext hX0) (hr'.1.ext hX0)).mono ?_
  rintro e w1 ⟨q1, rfl, rfl⟩
  rw [decide_eq_true (rfl : l.x = l.x)]
  go_wp2_with fail
  refine (likeInts_any p.y p'.y l.y l.y _ (hr.2.1.ext (hX0.drewN _)) (hr'.2.1.ext (hX0.drewN _))).mono ?_
  rintro e w2 ⟨q2, rfl, rfl⟩
  rw [decide_eq_true (rfl : l.y = l.y)]
  go_wp2_with fail
  refine (likeInts_any p.z p'.z l.z l.z _ (hr.2.2.1.ext (hX0.drewN _)) (hr'.2.2.1.ext (hX0.drewN _))).mono ?_
  rintro e w3 ⟨q3, rfl, rfl⟩
  rw [decide_eq_true (rfl : l.z = l.z)]
  go_wp2
  go_ret
  exact ⟨rfl, hX0.drewN _⟩
/-- the marks on three slices -/
def up3 (k : Int) (p : S3) : L3 := ⟨upL k p.x.n, upL (k + p.x.n) p.y.n, upL (k + p.x.n + p.y.n) p.z.n⟩
def len3 (p : S3) : Int := (p.x.n : Int) + p.y.n + p.z.n
theorem len3_le {w : World} {lo : Nat} {p : S3} {l : L3} (h : Own3 w lo p l) : 0 ≤ len3 p ∧ len3 p ≤ 2097152 := by
  have := h.2.2.2.1
  unfold len3
  omega
end Go.Proofs.Ytmcnnbjgehmmoaa.mem
