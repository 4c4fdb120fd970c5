/-
  Contracts of the laws' own functions on lists of numbers: copy, compare, mark, hold.
-/
import Derived.Test.YtbjjiamfimgcgaaDoorMem
namespace Go.Proofs.YtbjjiamfimgcgaaDoor.mem
open Go.ChangeShapes Go.WideShapes Go.ChangeAt Go.RowKit

def szV (left : Int) (n : Nat) : Int := if (n : Int) ≤ left then left - n else -1
theorem szInt64S_any (s : Sl) (left : Int) (w : World) (h0 : 0 ≤ left) (h1 : left ≤ 1048576) (hn : s.n ≤ maxLen) :
    Calls Tryd.prog 25 #[.slice s.A s.n s.c, .int .i64 left] w fun e w' => e = .returned (.int .i64 (szV left s.n)) ∧ w = w' := by
  obtain ⟨A, n, c⟩ := s
  simp only at hn ⊢
  unfold maxLen at hn
  by_cases h : (n : Int) ≤ left
  · have E := hide (show szV left n = left - n from if_pos h)
    go_enter Tryd.func25, Tryd.ntmps25
    go_wp2
    go_ret
    exact ⟨by rw [E.out]; rfl, rfl⟩
  · have E := hide (show szV left n = -1 from if_neg h)
    go_enter Tryd.func25, Tryd.ntmps25
    go_wp2
    go_ret
    exact ⟨by rw [E.out]; rfl, rfl⟩

theorem size_made (z : Value) (n : Nat) : (madeCells #[z] n).size = n := by
  rw [← Array.length_toList, toList_madeCells_one, List.length_replicate]
theorem toInt64S_any (s : Sl) (xs : List Int) (w : World) (hr : Rd w s.A s.n xs) :
    Calls Tryd.prog 7 #[.slice s.A s.n s.c] w fun e w' => ∃ s' : Sl, e = .returned (.slice s'.A s'.n s'.c) ∧ Own w' w.heap.size (.slice s'.A s'.n s'.c) xs ∧ Ext w w' := by
  obtain ⟨A, n, c⟩ := s
  simp only at hr ⊢
  have hn := hr.le
  have hmk := fun W : World => run_make_row' (P := Tryd.prog) 22 2 (.int .i64 0) 8 Tryd.underlying22 ints_info rfl .i64 .i64 n (by omega) (by omega) W
  go_enter Tryd.func7, Tryd.ntmps7
  go_wp2
  clear hmk
  go_loopw [4] (fun i wr => ∃ k : Nat, k ≤ n ∧ i = .int .i64 k ∧ (∃ cs : Array Value, Blk wr w.heap.size 2 cs ∧ cs.size = n ∧ ∀ j, j < k → cs[j]? = some (.int .i64 (xs.getD j 0))) ∧ Ext w wr) (fun i _ => n - (intOf i).toNat)
  case atStart => exact ⟨0, by omega, rfl, ⟨_, Blk.new _ _ _, size_made _ _, fun j h => absurd h (by omega)⟩, (Ext.refl _).alloc _⟩
  case round =>
    obtain ⟨k, hk, rfl, ⟨cs, hb, hsz, hcs⟩, hx⟩ := hrel
    by_cases hlt : k < n
    · obtain ⟨b, off, rfl, hbl, hc1⟩ := (hr.ext hx).at_ hlt
      have hc2 := hb.cell k
      have hc3 := hb.frozen k
      rw [Array.getElem?_eq_getElem (by omega)] at hc2
      go_wp2
      go_roundw
      case rel =>
        refine ⟨k + 1, by omega, by go_num, ⟨_, hb.set_ k _, by simpa using hsz, fun j hj => ?_⟩, hx.setCell (Nat.le_refl _) _⟩
        rw [Array.getElem?_setIfInBounds]
        by_cases e : k = j
        · subst e; rw [if_pos rfl, if_pos (by omega)]; simp
        · rw [if_neg e]; exact hcs j (by omega)
      case measure => simp [intOf]; omega
    · go_wp2
      go_ret
      have e : k = n := by omega
      subst e
      refine ⟨⟨_, _, _⟩, rfl, Own.of_blk hb (Nat.le_refl _) k k hr.1 (Nat.le_refl _) (by unfold maxLen; omega) hsz hn ?_, hx⟩
      apply List.ext_getElem?
      intro j
      rcases Nat.lt_or_ge j k with hj | hj
      · rw [List.getElem?_take_of_lt hj, Array.getElem?_toList, hcs j hj]
        simp [hr.1 ▸ hj]
      · rw [List.getElem?_eq_none (by simp; omega), List.getElem?_eq_none (by simp [← hr.1]; omega)]

theorem eqInt64S_any (s s' : Sl) (xs ys : List Int) (w : World) (hr : Rd w s.A s.n xs) (hr' : Rd w s'.A s'.n ys) :
    Calls Tryd.prog 9 #[.slice s.A s.n s.c, .slice s'.A s'.n s'.c] w fun e w' => ∃ q, e = .returned (.bool (decide (xs = ys))) ∧ w' = w.drewN q := by
  obtain ⟨A, n, c⟩ := s
  obtain ⟨A', n', c'⟩ := s'
  simp only at hr hr' ⊢
  have hn := hr.le
  have hn' := hr'.le
  by_cases hl : n = n'
  · have hl2 : ((n : Int) != n') = false := by simp [hl]
    subst hl
    go_enter Tryd.func9, Tryd.ntmps9
    go_wp2
    go_loopw [5] (fun i wr => ∃ k q : Nat, k ≤ n ∧ i = .int .i64 k ∧ wr = w.drewN q ∧ Hid (xs.take k = ys.take k)) (fun i _ => n - (intOf i).toNat)
    case atStart => exact ⟨0, 0, by omega, rfl, rfl, hide rfl⟩
    case round =>
      obtain ⟨k, q, hk, rfl, rfl, ht⟩ := hrel
      by_cases hlt : k < n
      · obtain ⟨b, off, x, rfl, hbl, hc1, hx⟩ := hr.el hlt
        obtain ⟨b', off', y, rfl, hbl', hc1', hy⟩ := hr'.el hlt
        by_cases he : x = y
        · subst he
          go_wp2
          go_region
          all_goals go_wp2
          all_goals go_roundw
          all_goals first | (case rel => exact ⟨k + 1, q + 1, by omega, by go_num, by simp, hide (by rw [take_more hx.out, take_more hy.out, ht.out])⟩) | (case measure => simp [intOf]; omega)
        · have hne : (x != y) = true := by simpa using he
          go_wp2
          go_region
          all_goals go_wp2
          all_goals go_ret
          all_goals exact ⟨q + 1, by rw [decide_eq_false (fun e : xs = ys => he (by have h1 := hx.out; have h2 := hy.out; rw [e, h2] at h1; injection h1 with h1; exact h1.symm))]; rfl, by simp⟩
      · go_wp2
        go_ret
        have e : k = n := by omega
        subst e
        refine ⟨q, ?_, rfl⟩
        have h1 := ht.out
        rw [List.take_of_length_le (by rw [← hr.1]; omega), List.take_of_length_le (by rw [← hr'.1]; omega)] at h1
        rw [decide_eq_true h1]; rfl
  · have hl2 : ((n : Int) != n') = true := by simp; omega
    go_enter Tryd.func9, Tryd.ntmps9
    go_wp2
    go_ret
    exact ⟨0, by rw [decide_eq_false (fun e : xs = ys => hl (by rw [hr.1, hr'.1, e]))]; rfl, rfl⟩

theorem eqInt64S_yes (s s' : Sl) (xs : List Int) (w : World) (hr : Rd w s.A s.n xs) (hr' : Rd w s'.A s'.n xs) :
    Calls Tryd.prog 9 #[.slice s.A s.n s.c, .slice s'.A s'.n s'.c] w fun e w' => e = .returned (.bool true) ∧ Ext w w' :=
  (eqInt64S_any s s' xs xs w hr hr').mono fun e w' ⟨q, he, hw⟩ => ⟨by rw [he, decide_eq_true rfl], by subst hw; exact (Ext.refl w).drewN q⟩
/-- the numbers k, k+1, .. -/
def upL (k : Int) : Nat → List Int
  | 0 => []
  | n + 1 => k :: upL (k + 1) n
theorem upL_len (k : Int) : ∀ n, (upL k n).length = n
  | 0 => rfl
  | n + 1 => by simp [upL, upL_len (k + 1) n]
theorem upL_get (k : Int) : ∀ (n j : Nat), j < n → (upL k n)[j]? = some (k + j)
  | 0, j, h => by omega
  | n + 1, 0, _ => by simp [upL]
  | n + 1, j + 1, h => by
    simp only [upL, List.getElem?_cons_succ]
    rw [upL_get (k + 1) n j (by omega)]
    congr 1
    omega
end Go.Proofs.YtbjjiamfimgcgaaDoor.mem
