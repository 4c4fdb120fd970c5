/-
  Words for a panel that is made anew: a store into a row of the call's own, a copy in a new block.
-/
import Derived.Test.YtofglgfjlbehmaaGreatList
import Derived.Deep.DeepCutAuto
import Derived.Deep.RegionHeld3
namespace Go.Proofs.YtofglgfjlbehmaaGreat.mem
open Go.ChangeShapes Go.WideShapes Go.ChangeAt Go.RowKit

theorem Blk.g0 {w : World} {g : Nat} {t : TypeId} {v : Value} (h : Blk w g t #[v]) : w.cell? ⟨g, 0, none⟩ = some v := h.get 0 _ rfl
theorem blk_at1 (w : World) (o : Obj) (t : TypeId) (cs : Array Value) : Blk ((w.alloc o).alloc (.cells cs t)) (w.heap.size + 1) t cs := by
  have h := Blk.new (w.alloc o) t cs
  rw [World.size_alloc] at h
  exact h
theorem blk_at2 (w : World) (o o' : Obj) (t : TypeId) (cs : Array Value) : Blk (((w.alloc o).alloc o').alloc (.cells cs t)) (w.heap.size + 1 + 1) t cs := by
  have h := blk_at1 (w.alloc o) o' t cs
  rw [World.size_alloc] at h
  exact h
theorem blk_at3 (w : World) (o o' o'' : Obj) (t : TypeId) (cs : Array Value) : Blk ((((w.alloc o).alloc o').alloc o'').alloc (.cells cs t)) (w.heap.size + 1 + 1 + 1) t cs := by
  have h := blk_at2 (w.alloc o) o' o'' t cs
  rw [World.size_alloc] at h
  exact h
theorem Rd.of_cell (w : World) (c : Nat) (y : Int) (h : w.cell? ⟨c, 0, none⟩ = some (.int .i64 y)) : Rd w (some ⟨c, 0, none⟩) 1 [y] :=
  ⟨rfl, by omega, fun _ => ⟨c, 0, rfl, by simpa using World.block_lt_of_cell? w _ h, fun j hj => by
    obtain rfl : j = 0 := by omega
    exact h⟩⟩
theorem Own.away {w : World} {lo : Nat} {v : Value} {xs : List Int} (h : Own w lo v xs) {g : Nat} (hg : v.ownBlock ≠ some g) (i : Nat) (u : Value) : Own (w.setCell ⟨g, i, none⟩ u) lo v xs :=
  h.keep fun k hk => Below.heap_setCell _ _ _ _ (by intro e; exact hg (by rw [hk]; exact congrArg some e))
theorem Own.put {w : World} {lo n c : Nat} {A : Option Addr} {xs : List Int} (h : Own w lo (.slice A n c) xs) {k : Nat} (hk : k < n) :
    ∃ g, A = some ⟨g, 0, none⟩ ∧ lo ≤ g ∧ g < w.heap.size ∧ (∃ u, w.cell? ⟨g, k, none⟩ = some u) ∧ w.frozen? ⟨g, k, none⟩ = false ∧ ∀ z : Int, Own (w.setCell ⟨g, k, none⟩ (.int .i64 z)) lo (.slice A n c) (xs.set k z) := by
  have hn : n = xs.length := h.rd.1
  have hle := h.rd.le
  rcases h.2.2 with ⟨e, hn0⟩ | ⟨g, cap, cur, e, hg, hh, hcap, hm, hs, ht⟩
  · injection e with e1 e2 e3
    omega
  · injection e with e1 e2 e3
    subst e1 e3
    have HS : cur.size = c := by omega
    have hb : Blk w g 2 cur := hh
    refine ⟨g, rfl, hg, hb.lt, ⟨cur[k]'(by omega), (hb.cell k).trans (Array.getElem?_eq_getElem (by omega))⟩, hb.frozen k, fun z => ?_⟩
    refine Own.of_blk (hb.set_ k _) hg n c (by rw [List.length_set]; exact hn) (by omega) hm (by simpa using HS) hle ?_
    rw [Array.toList_setIfInBounds, List.take_set, List.map_set]
    congr 1
    rw [hn]
    simpa using ht
theorem Rd.drop1 {w : World} {b off n : Nat} {xs : List Int} (h : Rd w (some ⟨b, off, none⟩) n xs) (hn : 0 < n) : Rd w (some ⟨b, off + 1, none⟩) (n - 1) xs.tail := by
  have h1 := h.1
  have h2 := h.2.1
  refine ⟨by rw [List.length_tail]; omega, by omega, fun ha => ?_⟩
  obtain ⟨b', off', e, hb, hc⟩ := h.2.2 hn
  injection e with e
  injection e with e1 e2
  subst e1 e2
  refine ⟨b, off + 1, rfl, hb, fun j hj => ?_⟩
  rw [Nat.add_assoc, Nat.add_comm 1 j, hc (j + 1) (by omega)]
  congr 2
  simp only [List.getD_eq_getElem?_getD]
  rw [List.getElem?_tail]
def empL (l : L3) (k : Nat) : L3 := ⟨l.x.set k (l.y.headD 0), l.y.tail, l.z ++ [l.x.getD k 0]⟩
/-- what a copy of a panel, in a new block, has brought -/
def EmpPost (w : World) (pc : Array Value) (l' : L3) (s5 : Value) (wx : World) : Prop :=
  ∃ (g : Nat) (t : S3), s5 = .pointer (some ⟨g, 0, none⟩) ∧ Blk wx g 40 #[.slice t.x.A t.x.n t.x.c, .slice t.y.A t.y.n t.y.c, .slice t.z.A t.z.n t.z.c] ∧ Own3 wx (w.heap.size + 1 + 1) t l' ∧ Ext w wx ∧ Blk wx w.heap.size 40 pc ∧
    Blk wx (w.heap.size + 1) 40 #[.slice none 0 0, .slice none 0 0, .slice none 0 0] ∧ w.heap.size + 1 + 1 ≤ g ∧ ∀ k, blks t k → k ≠ g
theorem EmpPost.one {w w4 : World} {pc : Array Value} {l' : L3} {g : Nat} {t : S3} (hX : Ext w w4) (hO : Blk w4 g 40 #[.slice none 0 0, .slice none 0 0, .slice none 0 0]) (hg : w.heap.size + 1 + 1 ≤ g)
    (h3 : Own3 w4 (w.heap.size + 1 + 1) t l') (hB : Blk w4 w.heap.size 40 pc) (hR : Blk w4 (w.heap.size + 1) 40 #[.slice none 0 0, .slice none 0 0, .slice none 0 0]) (ha : ∀ k, blks t k → k ≠ g) :
    EmpPost w pc l' (.pointer (some ⟨g, 0, none⟩)) (((w4.setCell ⟨g, 0, none⟩ (.slice t.x.A t.x.n t.x.c)).setCell ⟨g, 1, none⟩ (.slice t.y.A t.y.n t.y.c)).setCell ⟨g, 2, none⟩ (.slice t.z.A t.z.n t.z.c)) := by
  have n1 : Value.ownBlock (.slice t.x.A t.x.n t.x.c) ≠ some g := fun e => ha g (.inl e) rfl
  have n2 : Value.ownBlock (.slice t.y.A t.y.n t.y.c) ≠ some g := fun e => ha g (.inr (.inl e)) rfl
  have n3 : Value.ownBlock (.slice t.z.A t.z.n t.z.c) ≠ some g := fun e => ha g (.inr (.inr e)) rfl
  exact ⟨g, t, rfl, ((hO.set_ 0 _).set_ 1 _).set_ 2 _, ⟨((h3.1.away n1 0 _).away n1 1 _).away n1 2 _, ((h3.2.1.away n2 0 _).away n2 1 _).away n2 2 _, ((h3.2.2.1.away n3 0 _).away n3 1 _).away n3 2 _, h3.2.2.2⟩,
    ((hX.off g 0 (by omega) _).off g 1 (by omega) _).off g 2 (by omega) _, ((hB.off g 0 (by omega) _).off g 1 (by omega) _).off g 2 (by omega) _, ((hR.off g 0 (by omega) _).off g 1 (by omega) _).off g 2 (by omega) _, hg, ha⟩
theorem EmpPost.two {w w4 : World} {pc : Array Value} {l' : L3} {t : S3} (hX : Ext w w4) (hg : w.heap.size + 1 + 1 ≤ w4.heap.size)
    (h3 : Own3 w4 (w.heap.size + 1 + 1) t l') (hB : Blk w4 w.heap.size 40 pc) (hR : Blk w4 (w.heap.size + 1) 40 #[.slice none 0 0, .slice none 0 0, .slice none 0 0]) :
    EmpPost w pc l' (.pointer (some ⟨w4.heap.size, 0, none⟩)) (w4.alloc (.cells #[.slice t.x.A t.x.n t.x.c, .slice t.y.A t.y.n t.y.c, .slice t.z.A t.z.n t.z.c] 40)) :=
  ⟨w4.heap.size, t, rfl, Blk.new _ _ _, h3.alloc _, hX.alloc _, hB.alloc _, hR.alloc _, hg, fun k hk e => by have := (h3.lt hk).2; omega⟩
theorem EmpPost.three {w w4 : World} {pc : Array Value} {l' : L3} {g : Nat} {t : S3} {v : Value} (hX : Ext w w4) (hO : Blk w4 g 40 #[.slice t.x.A t.x.n t.x.c, .slice t.y.A t.y.n t.y.c, v]) (hg : w.heap.size + 1 + 1 ≤ g)
    (h3 : Own3 w4 (w.heap.size + 1 + 1) t l') (hB : Blk w4 w.heap.size 40 pc) (hR : Blk w4 (w.heap.size + 1) 40 #[.slice none 0 0, .slice none 0 0, .slice none 0 0]) (ha : ∀ k, blks t k → k ≠ g) :
    EmpPost w pc l' (.pointer (some ⟨g, 0, none⟩)) (w4.setCell ⟨g, 2, none⟩ (.slice t.z.A t.z.n t.z.c)) := by
  have n1 : Value.ownBlock (.slice t.x.A t.x.n t.x.c) ≠ some g := fun e => ha g (.inl e) rfl
  have n2 : Value.ownBlock (.slice t.y.A t.y.n t.y.c) ≠ some g := fun e => ha g (.inr (.inl e)) rfl
  have n3 : Value.ownBlock (.slice t.z.A t.z.n t.z.c) ≠ some g := fun e => ha g (.inr (.inr e)) rfl
  exact ⟨g, t, rfl, hO.set_ 2 _, ⟨h3.1.away n1 2 _, h3.2.1.away n2 2 _, h3.2.2.1.away n3 2 _, h3.2.2.2⟩,
    hX.off g 2 (by omega) _, hB.off g 2 (by omega) _, hR.off g 2 (by omega) _, hg, ha⟩
end Go.Proofs.YtofglgfjlbehmaaGreat.mem
