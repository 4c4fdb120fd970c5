/-
  Contracts of the laws' own functions on structs of three lists (a panel, a jury): copy, size, compare, mark, hold.
-/
import Derived.Test.YtadgldmkbnlfiaaDoorInts
namespace Go.Proofs.YtadgldmkbnlfiaaDoor.mem
open Go.ChangeShapes Go.WideShapes Go.ChangeAt Go.RowKit

theorem Ext.cells {W w1 : World} (h : Ext W w1) : (∀ b o, b < W.heap.size → w1.cell? ⟨b, o, none⟩ = W.cell? ⟨b, o, none⟩) ∧ (∀ b o, b < W.heap.size → w1.frozen? ⟨b, o, none⟩ = W.frozen? ⟨b, o, none⟩) :=
  ⟨fun b o hb => Below.cell (p := ⟨b, o, none⟩) h hb, fun b o hb => Below.frozen (p := ⟨b, o, none⟩) h hb⟩

/-- what is left of a bound behind three slices -/
def sz3 (left : Int) (p : S3) : Int := if (p.x.n : Int) + p.y.n + p.z.n ≤ left then left - p.x.n - p.y.n - p.z.n else -1
theorem sz3_pos {left : Int} {p : S3} (h : 0 ≤ sz3 left p) (hl : left ≤ 1048576) : p.x.n + (p.y.n + p.z.n) ≤ 1048576 ∧ sz3 left p ≤ left := by
  unfold sz3 at h ⊢
  split at h
  · rename_i hh
    rw [if_pos hh]
    omega
  · omega
theorem eqPanel_yes (p p' : S3) (l : L3) (w : World) (hr : Rd3 w p l) (hr' : Rd3 w p' l) :
    Calls Tryd.prog 12 #[.agg #[.slice p.x.A p.x.n p.x.c, .slice p.y.A p.y.n p.y.c, .slice p.z.A p.z.n p.z.c], .agg #[.slice p'.x.A p'.x.n p'.x.c, .slice p'.y.A p'.y.n p'.y.c, .slice p'.z.A p'.z.n p'.z.c]] w fun e w' => e = .returned (.bool true) ∧ Ext w w' := by
  go_enter Tryd.func12, Tryd.ntmps12
  go_wp2_with fail
  have hX0 := ((Ext.refl w).alloc (.cells #[.slice p.x.A p.x.n p.x.c, .slice p.y.A p.y.n p.y.c, .slice p.z.A p.z.n p.z.c] 29)).alloc (.cells #[.slice p'.x.A p'.x.n p'.x.c, .slice p'.y.A p'.y.n p'.y.c, .slice p'.z.A p'.z.n p'.z.c] 29)
  refine (eqInt64S_any p.x p'.x l.x l.x _ (hr.1.ext hX0) (hr'.1.ext hX0)).mono ?_
  rintro e w1 ⟨q1, rfl, rfl⟩
  rw [decide_eq_true (rfl : l.x = l.x)]
  go_wp2_with fail
  refine (eqInt64S_any p.y p'.y l.y l.y _ (hr.2.1.ext (hX0.drewN _)) (hr'.2.1.ext (hX0.drewN _))).mono ?_
  rintro e w2 ⟨q2, rfl, rfl⟩
  rw [decide_eq_true (rfl : l.y = l.y)]
  go_wp2_with fail
  refine (eqInt64S_any p.z p'.z l.z l.z _ (hr.2.2.1.ext (hX0.drewN _)) (hr'.2.2.1.ext (hX0.drewN _))).mono ?_
  rintro e w3 ⟨q3, rfl, rfl⟩
  rw [decide_eq_true (rfl : l.z = l.z)]
  go_wp2
  go_ret
  exact ⟨rfl, hX0.drewN _⟩
/-- the marks on three slices -/
def up3 (k : Int) (p : S3) : L3 := ⟨upL k p.x.n, upL (k + p.x.n) p.y.n, upL (k + p.x.n + p.y.n) p.z.n⟩
def len3 (p : S3) : Int := (p.x.n : Int) + p.y.n + p.z.n
theorem len3_le {w : World} {lo : Nat} {p : S3} {l : L3} (h : Own3 w lo p l) : 0 ≤ len3 p ∧ len3 p ≤ 2097152 := by
  have := h.2.2.2.1
  unfold len3
  omega
theorem markPanel_any (p : S3) (l : L3) (lo : Nat) (k0 : Int) (w : World) (ho : Own3 w lo p l) (h0 : 0 ≤ k0) (h1 : k0 ≤ 100000000) :
    Calls Tryd.prog 13 #[.agg #[.slice p.x.A p.x.n p.x.c, .slice p.y.A p.y.n p.y.c, .slice p.z.A p.z.n p.z.c], .int .i64 k0] w fun e w' => e = .returned (.int .i64 (k0 + len3 p)) ∧ Own3 w' lo p (up3 k0 p) ∧ Fr (blks p) w w' := by
  obtain ⟨ox, oy, oz, hs, a1, a2, a3⟩ := ho
  have lx := ox.rd.le
  have ly := oy.rd.le
  have lz := oz.rd.le
  have hB := Blk.new w 29 (#[.slice p.x.A p.x.n p.x.c, .slice p.y.A p.y.n p.y.c, .slice p.z.A p.z.n p.z.c])
  have hX0 := (Ext.refl w).alloc (.cells #[.slice p.x.A p.x.n p.x.c, .slice p.y.A p.y.n p.y.c, .slice p.z.A p.z.n p.z.c] 29)
  have nx : ∀ k, Value.ownBlock (.slice p.x.A p.x.n p.x.c) = some k → k < w.heap.size := fun k hk => (ox.lt k hk).2
  have ny : ∀ k, Value.ownBlock (.slice p.y.A p.y.n p.y.c) = some k → k < w.heap.size := fun k hk => (oy.lt k hk).2
  have nz : ∀ k, Value.ownBlock (.slice p.z.A p.z.n p.z.c) = some k → k < w.heap.size := fun k hk => (oz.lt k hk).2
  go_enter Tryd.func13, Tryd.ntmps13
  go_wp2_with fail
  refine (markInt64S_any p.x lo _ l.x _ (ox.ext hX0) (by omega) (by omega)).mono ?_
  rintro e w1 ⟨rfl, ox1, f1⟩
  have hB1 := hB.fr f1 (fun e => absurd (nx _ e) (by omega))
  have oy1 := (oy.ext hX0).fr f1 (fun k hk e => a1 k e hk)
  have oz1 := (oz.ext hX0).fr f1 (fun k hk e => a2 k e hk)
  have c1 := hB1.get 1 _ rfl
  go_wp2_with fail
  refine (markInt64S_any p.y lo _ l.y _ oy1 (by omega) (by omega)).mono ?_
  rintro e w2 ⟨rfl, oy2, f2⟩
  clear c1
  have hB2 := hB1.fr f2 (fun e => absurd (ny _ e) (by omega))
  have ox2 := ox1.fr f2 (fun k hk e => a1 k hk e)
  have oz2 := oz1.fr f2 (fun k hk e => a3 k e hk)
  have c1 := hB2.get 2 _ rfl
  go_wp2_with fail
  refine (markInt64S_any p.z lo _ l.z _ oz2 (by omega) (by omega)).mono ?_
  rintro e w3 ⟨rfl, oz3, f3⟩
  have ox3 := ox2.fr f3 (fun k hk e => a2 k hk e)
  have oy3 := oy2.fr f3 (fun k hk e => a3 k hk e)
  go_wp2
  go_ret
  refine ⟨?_, ⟨ox3, oy3, oz3, hs, a1, a2, a3⟩, ?_⟩
  · have e : k0 + len3 p = k0 + p.x.n + p.y.n + p.z.n := by unfold len3; omega
    rw [e]; rfl
  · exact (((hX0.fr).trans (f1.mono fun k _ e => .inl e)).trans (f2.mono fun k _ e => .inr (.inl e))).trans (f3.mono fun k _ e => .inr (.inr e))
theorem heldPanel_any (p : S3) (k0 : Int) (w : World) (hr : Rd3 w p (up3 k0 p)) (h0 : 0 ≤ k0) (h1 : k0 ≤ 100000000) :
    Calls Tryd.prog 14 #[.agg #[.slice p.x.A p.x.n p.x.c, .slice p.y.A p.y.n p.y.c, .slice p.z.A p.z.n p.z.c], .int .i64 k0] w fun e w' => e = .returned (.int .i64 (k0 + len3 p)) ∧ Ext w w' := by
  obtain ⟨rx, ry, rz, hs⟩ := hr
  have hX0 := (Ext.refl w).alloc (.cells #[.slice p.x.A p.x.n p.x.c, .slice p.y.A p.y.n p.y.c, .slice p.z.A p.z.n p.z.c] 29)
  have lx := rx.le
  have ly := ry.le
  have lz := rz.le
  go_enter Tryd.func14, Tryd.ntmps14
  go_wp2_with fail
  refine (heldInt64S_any p.x _ _ (rx.ext hX0) (by omega) (by omega)).mono ?_
  rintro e w1 ⟨rfl, rfl⟩
  go_wp2_with fail
  refine (heldInt64S_any p.y _ _ (ry.ext hX0) (by omega) (by omega)).mono ?_
  rintro e w1 ⟨rfl, rfl⟩
  go_wp2_with fail
  refine (heldInt64S_any p.z _ _ (rz.ext hX0) (by omega) (by omega)).mono ?_
  rintro e w1 ⟨rfl, rfl⟩
  go_wp2
  go_ret
  have e : k0 + len3 p = k0 + p.x.n + p.y.n + p.z.n := by unfold len3; omega
  exact ⟨by rw [e]; rfl, hX0⟩
end Go.Proofs.YtadgldmkbnlfiaaDoor.mem
