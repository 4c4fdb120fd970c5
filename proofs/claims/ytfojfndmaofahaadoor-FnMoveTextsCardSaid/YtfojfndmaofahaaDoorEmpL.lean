/-
  Words for a panel that is made anew: a store into a row of the call's own, a copy in a new block.
-/
import Derived.Test.YtfojfndmaofahaaDoorList
import Derived.Deep.DeepCutAuto
import Derived.Deep.RegionHeld3
namespace Go.Proofs.YtfojfndmaofahaaDoor.mem
open Go.ChangeShapes Go.WideShapes Go.ChangeAt Go.RowKit

theorem Blk.g0 {w : World} {g : Nat} {t : TypeId} {v : Value} (h : Blk w g t #[v]) : w.cell? ⟨g, 0, none⟩ = some v := h.get 0 _ rfl
theorem blk_at1 (w : World) (o : Obj) (t : TypeId) (cs : Array Value) : Blk ((w.alloc o).alloc (.cells cs t)) (w.heap.size + 1) t cs := by
  have h := Blk.new (w.alloc o) t cs
  rw [World.size_alloc] at h
  exact h
theorem blk_at2 (w : World) (o o' : Obj) (t : TypeId) (cs : Array Value) : Blk (((w.alloc o).alloc o').alloc (.cells cs t)) (w.heap.size + 1 + 1) t cs := by
  have h := blk_at1 (w.alloc o) o' t cs
  rw [World.size_alloc] at h
  exact h
theorem blk_at3 (w : World) (o o' o'' : Obj) (t : TypeId) (cs : Array Value) : Blk ((((w.alloc o).alloc o').alloc o'').alloc (.cells cs t)) (w.heap.size + 1 + 1 + 1) t cs := by
  have h := blk_at2 (w.alloc o) o' o'' t cs
  rw [World.size_alloc] at h
  exact h
theorem Rd.of_cell (w : World) (c : Nat) (y : Int) (h : w.cell? ⟨c, 0, none⟩ = some (.int .i64 y)) : Rd w (some ⟨c, 0, none⟩) 1 [y] :=
  ⟨rfl, by omega, fun _ => ⟨c, 0, rfl, by simpa using World.block_lt_of_cell? w _ h, fun j hj => by
    obtain rfl : j = 0 := by omega
    exact h⟩⟩
theorem Own.away {w : World} {lo : Nat} {v : Value} {xs : List Int} (h : Own w lo v xs) {g : Nat} (hg : v.ownBlock ≠ some g) (i : Nat) (u : Value) : Own (w.setCell ⟨g, i, none⟩ u) lo v xs :=
  h.keep fun k hk => Below.heap_setCell _ _ _ _ (by intro e; exact hg (by rw [hk]; exact congrArg some e))
theorem Own.put {w : World} {lo n c : Nat} {A : Option Addr} {xs : List Int} (h : Own w lo (.slice A n c) xs) {k : Nat} (hk : k < n) :
    ∃ g, A = some ⟨g, 0, none⟩ ∧ lo ≤ g ∧ g < w.heap.size ∧ (∃ u, w.cell? ⟨g, k, none⟩ = some u) ∧ w.frozen? ⟨g, k, none⟩ = false ∧ ∀ z : Int, Own (w.setCell ⟨g, k, none⟩ (.int .i64 z)) lo (.slice A n c) (xs.set k z) := by
  have hn : n = xs.length := h.rd.1
  have hle := h.rd.le
  rcases h.2.2 with ⟨e, hn0⟩ | ⟨g, cap, cur, e, hg, hh, hcap, hm, hs, ht⟩
  · injection e with e1 e2 e3
    omega
  · injection e with e1 e2 e3
    subst e1 e3
    have HS : cur.size = c := by omega
    have hb : Blk w g 2 cur := hh
    refine ⟨g, rfl, hg, hb.lt, ⟨cur[k]'(by omega), (hb.cell k).trans (Array.getElem?_eq_getElem (by omega))⟩, hb.frozen k, fun z => ?_⟩
    refine Own.of_blk (hb.set_ k _) hg n c (by rw [List.length_set]; exact hn) (by omega) hm (by simpa using HS) hle ?_
    rw [Array.toList_setIfInBounds, List.take_set, List.map_set]
    congr 1
    rw [hn]
    simpa using ht
theorem Rd.drop1 {w : World} {b off n : Nat} {xs : List Int} (h : Rd w (some ⟨b, off, none⟩) n xs) (hn : 0 < n) : Rd w (some ⟨b, off + 1, none⟩) (n - 1) xs.tail := by
  have h1 := h.1
  have h2 := h.2.1
  refine ⟨by rw [List.length_tail]; omega, by omega, fun ha => ?_⟩
  obtain ⟨b', off', e, hb, hc⟩ := h.2.2 hn
  injection e with e
  injection e with e1 e2
  subst e1 e2
  refine ⟨b, off + 1, rfl, hb, fun j hj => ?_⟩
  rw [Nat.add_assoc, Nat.add_comm 1 j, hc (j + 1) (by omega)]
  congr 2
  simp only [List.getD_eq_getElem?_getD]
  rw [List.getElem?_tail]
def empL (l : L3) (k : Nat) : L3 := ⟨l.x.set k (l.y.headD 0), l.y.tail, l.z ++ [l.x.getD k 0]⟩
end Go.Proofs.YtfojfndmaofahaaDoor.mem
