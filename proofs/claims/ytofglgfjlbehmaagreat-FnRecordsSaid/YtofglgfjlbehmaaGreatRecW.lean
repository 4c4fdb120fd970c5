/-
  Records of one's own.
-/
import Derived.Test.YtofglgfjlbehmaaGreatRec
namespace Go.Proofs.YtofglgfjlbehmaaGreat.mem
open Go.ChangeShapes Go.WideShapes Go.ChangeAt Go.RowKit

def OwnR (w : World) (lo : Nat) (x : RecA) (y : RecL) : Prop := Own3 w lo x.p y.p ∧ x.a = y.a ∧ x.b = y.b ∧ x.c = y.c ∧ x.d = y.d ∧ x.e = y.e ∧ x.f = y.f
section
variable {w w' : World} {lo : Nat} {x : RecA} {y : RecL}
theorem OwnR.ext (h : OwnR w lo x y) (hx : Ext w w') : OwnR w' lo x y := ⟨h.1.ext hx, h.2⟩
theorem OwnR.alloc (h : OwnR w lo x y) (o : Obj) : OwnR (w.alloc o) lo x y := h.ext ((Ext.refl w).alloc o)
theorem OwnR.drew (h : OwnR w lo x y) : OwnR w.drew lo x y := h
theorem OwnR.rd (h : OwnR w lo x y) : RdR w x y := ⟨h.1.rd, h.2⟩
def blksR (x : RecA) (k : Nat) : Prop := blks x.p k
theorem OwnR.lt (h : OwnR w lo x y) {k : Nat} (hk : blksR x k) : lo ≤ k ∧ k < w.heap.size := h.1.lt hk
end
theorem OwnR.fr {w w' : World} {lo : Nat} {x : RecA} {y : RecL} {S : Nat → Prop} (h : OwnR w lo x y) (hf : Fr S w w') (hs : ∀ k, blksR x k → ¬ S k) : OwnR w' lo x y := ⟨h.1.fr hf hs, h.2⟩
theorem OwnR.mono {w : World} {lo lo' : Nat} {x : RecA} {y : RecL} (h : OwnR w lo x y) (hl : lo' ≤ lo) : OwnR w lo' x y := ⟨h.1.mono hl, h.2⟩
set_option maxHeartbeats 4000000 in
theorem Blk.set9 {w : World} {g : Nat} {t : TypeId} {a b c d e f i j k : Value} (h : Blk w g t #[a, b, c, d, e, f, i, j, k]) (v0 v1 v2 v3 v4 v5 v6 v7 v8 : Value) :
    Blk (((((((((w.setCell ⟨g, 0, none⟩ v0).setCell ⟨g, 1, none⟩ v1).setCell ⟨g, 2, none⟩ v2).setCell ⟨g, 3, none⟩ v3).setCell ⟨g, 4, none⟩ v4).setCell ⟨g, 5, none⟩ v5).setCell ⟨g, 6, none⟩ v6).setCell ⟨g, 7, none⟩ v7).setCell ⟨g, 8, none⟩ v8) g t #[v0, v1, v2, v3, v4, v5, v6, v7, v8] := by
  have h1 : Blk _ g t #[v0, b, c, d, e, f, i, j, k] := h.set_ 0 v0
  have h2 : Blk _ g t #[v0, v1, c, d, e, f, i, j, k] := h1.set_ 1 v1
  have h3 : Blk _ g t #[v0, v1, v2, d, e, f, i, j, k] := h2.set_ 2 v2
  have h4 : Blk _ g t #[v0, v1, v2, v3, e, f, i, j, k] := h3.set_ 3 v3
  have h5 : Blk _ g t #[v0, v1, v2, v3, v4, f, i, j, k] := h4.set_ 4 v4
  have h6 : Blk _ g t #[v0, v1, v2, v3, v4, v5, i, j, k] := h5.set_ 5 v5
  have h7 : Blk _ g t #[v0, v1, v2, v3, v4, v5, v6, j, k] := h6.set_ 6 v6
  have h8 : Blk _ g t #[v0, v1, v2, v3, v4, v5, v6, v7, k] := h7.set_ 7 v7
  exact h8.set_ 8 v8
end Go.Proofs.YtofglgfjlbehmaaGreat.mem
