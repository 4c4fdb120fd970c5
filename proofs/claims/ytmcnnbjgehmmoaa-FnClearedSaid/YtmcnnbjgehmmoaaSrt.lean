/-
  A list of the call's own, sorted and rid of repeats by the library: impl.sortedSet; numbers.
-/
import Derived.Test.YtmcnnbjgehmmoaaShelf
import Derived.Test.YtmcnnbjgehmmoaaSoP
import Derived.Test.YtmcnnbjgehmmoaaReg
import Derived.Sort.OwnSortedInts
namespace Go.Proofs.Ytmcnnbjgehmmoaa.mem
open Go.ChangeShapes Go.WideShapes Go.ChangeAt Go.RowKit
open Go.Sort Go.Lib
set_option linter.unusedVariables false
theorem grow0 (w : World) : grow w #[] = w := by simp [grow]
theorem Own.blk {w : World} {lo g n c : Nat} {xs : List Int} (h : Own w lo (.slice (some ⟨g, 0, none⟩) n c) xs) : ∃ cur, w.heap[g]? = some (.cells cur 2 (0, 0)) ∧ lo ≤ g ∧ n = xs.length ∧ n ≤ c ∧ c ≤ maxLen ∧ cur.size = c ∧ n ≤ 16777216 ∧ cur.toList.take n = xs.map (Value.int .i64) := by
  rcases h.2.2 with ⟨e, _⟩ | ⟨g', cap, cur, e, hg, hh, h1, h2, h3, ht⟩
  · cases e
  · injection e with e1 e2 e3
    injection e1 with e1
    injection e1 with e1 _ _
    subst e1 e2 e3
    exact ⟨cur, hh, hg, rfl, h1, h2, by simpa using h3, h.1, by simpa using ht⟩
theorem Own.srt {w : World} {lo g n c q : Nat} {os : Array Obj} {xs ys : List Int} (h : Own w lo (.slice (some ⟨g, 0, none⟩) n c) xs) (hl : ys.length = n) (m : Nat) (hm : m ≤ n) :
    Own (grow (putRow (Value.int .i64) (Sort.ahead w q) g 0 ys.toArray) os) lo (.slice (some ⟨g, 0, none⟩) m c) (ys.take m) ∧ Fr (fun k => k = g) w (grow (putRow (Value.int .i64) (Sort.ahead w q) g 0 ys.toArray) os) := by
  obtain ⟨cur, hh, hlo, hn, hc, hc2, hsz, h24, ht⟩ := h.blk
  constructor
  · have hb := heap_sortedI (n := q) (os := os) ys.toArray hh
    refine Own.of_blk (cs := putCells (Value.int .i64) 0 ys.toArray cur) hb hlo m c (by simp; omega) (by omega) hc2 (by simp [putCells, hsz]) (by omega) ?_
    have h1 := take_putCellsI cur ys (by omega)
    have h2 : (putCells (Value.int .i64) 0 ys.toArray cur).toList.take m = ((putCells (Value.int .i64) 0 ys.toArray cur).toList.take ys.length).take m := by rw [List.take_take]; congr 1; omega
    rw [h2, h1, List.map_take]
  · exact (Fr.of_grown (grownBy_sortedI ys.toArray)).mono fun k _ e => by injection e with e; exact e.symm
set_option maxHeartbeats 1000000 in
theorem sort_any (g n c lo : Nat) (xs : List Int) (w : World) (ho : Own w lo (.slice (some ⟨g, 0, none⟩) n c) xs) :
    Calls Try.prog 91 #[.slice (some ⟨g, 0, none⟩) n c] w fun e w' => e = .returned (.tuple #[]) ∧ Own w' lo (.slice (some ⟨g, 0, none⟩) n c) (xs.mergeSort fun x y => decide (x ≤ y)) ∧ Fr (fun k => k = g) w w' := by
  obtain ⟨cur, hh, hlo, hn, hc, hc2, hsz, h24, ht⟩ := ho.blk
  subst hn
  refine (Try.slices_Sort_int g 0 c xs w (holds_of_blockI hh ht) (Blk.lt (t := 2) (cs := cur) hh) (by omega)).mono ?_
  rintro e w' ⟨rfl, q, os, rfl⟩
  have hl : (xs.mergeSort fun x y => decide (x ≤ y)).length = xs.length := List.length_mergeSort _
  obtain ⟨h1, h2⟩ := ho.srt (q := q) (os := os) hl xs.length (Nat.le_refl _)
  rw [List.take_of_length_le (by omega)] at h1
  exact ⟨rfl, h1, h2⟩
set_option maxHeartbeats 1000000 in
theorem compact_any (g n c lo : Nat) (xs : List Int) (w : World) (ho : Own w lo (.slice (some ⟨g, 0, none⟩) n c) xs) :
    Calls Try.prog 92 #[.slice (some ⟨g, 0, none⟩) n c] w fun e w' => ∃ m, e = .returned (.slice (some ⟨g, 0, none⟩) m c) ∧ Own w' lo (.slice (some ⟨g, 0, none⟩) m c) (compactUpTo xs.toArray xs.toArray.size) ∧ Fr (fun k => k = g) w w' := by
  obtain ⟨cur, hh, hlo, hn, hc, hc2, hsz, h24, ht⟩ := ho.blk
  subst hn
  have h0 := Try.slices_Compact_f92 (Value.int .i64) (fun _ => rfl) (EqlAt.intD _ _ _) (NeqAt.intD _ _ _) 0 Try.zeroValue2 g 0 c xs.toArray w (holds_of_blockI hh ht) (by simp; omega) (by simpa using hc)
  rw [show xs.toArray.size = xs.length by simp] at h0 ⊢
  refine h0.mono ?_
  rintro e w' ⟨rfl, q, rfl⟩
  have hcl : (compactUpTo xs.toArray xs.length).length ≤ xs.length := by
    unfold compactUpTo
    rw [List.length_map]
    exact Nat.le_trans (List.length_filter_le _ _) (by simp)
  obtain ⟨h1, h2⟩ := ho.srt (q := q) (os := #[]) (ys := compactUpTo xs.toArray xs.length ++ List.replicate (xs.length - (compactUpTo xs.toArray xs.length).length) 0) (by rw [List.length_append, List.length_replicate]; omega) _ hcl
  rw [List.take_left' rfl, grow0] at h1
  rw [grow0] at h2
  exact ⟨_, rfl, h1, h2⟩
theorem impl.sortedSet_any (g n c lo : Nat) (xs : List Int) (w : World) (ho : Own w lo (.slice (some ⟨g, 0, none⟩) n c) xs) :
    Calls Try.prog 63 #[.slice (some ⟨g, 0, none⟩) n c] w fun e w' => ∃ t : Sl, e = .returned (.slice t.A t.n t.c) ∧ Own w' lo (.slice t.A t.n t.c) (setS ltI xs) ∧ Fr (fun k => k = g) w w' := by
  go_enter Try.func63, Try.ntmps63
  go_wp2_with fail
  refine (sort_any g n c lo xs _ ho).mono ?_
  rintro e w1 ⟨rfl, ho1, hf1⟩
  go_wp2_with fail
  refine (compact_any g n c lo _ _ ho1).mono ?_
  rintro e w2 ⟨m, rfl, ho2, hf2⟩
  rw [sortI] at ho2
  go_wp2_with fail
  go_ret
  exact ⟨⟨_, _, _⟩, rfl, ho2, hf1.trans hf2⟩
end Go.Proofs.Ytmcnnbjgehmmoaa.mem
