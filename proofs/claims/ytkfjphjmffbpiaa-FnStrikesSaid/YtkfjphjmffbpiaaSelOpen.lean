/-
  Selections in the laws: copy, size, compare; from the form's reading of an argument to my words.
-/
import Derived.Test.YtkfjphjmffbpiaaOpen
import Derived.Deep.Strs
import Derived.Test.YtkfjphjmffbpiaaSel
namespace Go.Proofs.Ytkfjphjmffbpiaa.mem
open Go.ChangeShapes Go.WideShapes Go.ChangeAt Go.RowKit Go.Joins

theorem Own3.off {w : World} {lo : Nat} {p : S3} {l : L3} (h : Own3 w lo p l) (b i : Nat) (hb : b < lo) (u : Value) : Own3 (w.setCell ⟨b, i, none⟩ u) lo p l :=
  ⟨h.1.off b i hb u, h.2.1.off b i hb u, h.2.2.1.off b i hb u, h.2.2.2⟩
def OwnS (w : World) (lo : Nat) (x : SelA) (y : SelL) : Prop := Own3 w lo x.p y.p ∧ Own w lo (.slice x.s.A x.s.n x.s.c) y.s ∧ (x.t = y.t ∧ x.q = y.q) ∧ (∀ k, blks x.p k → Value.ownBlock (.slice x.s.A x.s.n x.s.c) ≠ some k)
def blksS (x : SelA) (k : Nat) : Prop := blks x.p k ∨ Value.ownBlock (.slice x.s.A x.s.n x.s.c) = some k
section
variable {w w' : World} {lo : Nat} {x : SelA} {y : SelL}
theorem OwnS.ext (h : OwnS w lo x y) (hx : Ext w w') : OwnS w' lo x y := ⟨h.1.ext hx, h.2.1.ext hx, h.2.2⟩
theorem OwnS.alloc (h : OwnS w lo x y) (o : Obj) : OwnS (w.alloc o) lo x y := h.ext ((Ext.refl w).alloc o)
theorem OwnS.drew (h : OwnS w lo x y) : OwnS w.drew lo x y := h
theorem OwnS.rd (h : OwnS w lo x y) : RdS w x y := ⟨h.1.rd, h.2.1.rd, h.2.1.cap, h.2.2.1⟩
theorem OwnS.lt (h : OwnS w lo x y) {k : Nat} (hk : blksS x k) : lo ≤ k ∧ k < w.heap.size := by
  rcases hk with hk | hk
  · exact h.1.lt hk
  · exact h.2.1.lt k hk
theorem OwnS.fr {S : Nat → Prop} (h : OwnS w lo x y) (hf : Fr S w w') (hs : ∀ k, blksS x k → ¬ S k) : OwnS w' lo x y :=
  ⟨h.1.fr hf (fun k hk => hs k (.inl hk)), h.2.1.fr hf (fun k hk => hs k (.inr hk)), h.2.2⟩
def upS (k : Int) (x : SelA) : SelL := ⟨up3 k x.p, upL (k + len3 x.p) x.s.n, x.t, x.q⟩
def lenS (x : SelA) : Int := len3 x.p + x.s.n
theorem lenS_le (h : OwnS w lo x y) : 0 ≤ lenS x ∧ lenS x ≤ 20000000 := by
  have h1 := len3_le h.1
  have h2 := h.2.1.rd.le
  unfold lenS
  omega
def InS (w : World) (x : SelA) (y : SelL) : Prop := In3 w x.p y.p ∧ In1 w x.s y.s ∧ x.t = y.t ∧ x.q = y.q
end
section
variable {H : Type} {enc : TypeId × Value → H} {w : World} {spare : Nat → Bool} {held : Bool}
theorem array6 {α : Type} {cs : Array α} (h : cs.size = 6) : ∃ c0 c1 c2 c3 c4 c5, cs = #[c0, c1, c2, c3, c4, c5] := by
  obtain ⟨l⟩ := cs
  match l, h with
  | [c0, c1, c2, c3, c4, c5], _ => exact ⟨c0, c1, c2, c3, c4, c5, rfl⟩
end
end Go.Proofs.Ytkfjphjmffbpiaa.mem
