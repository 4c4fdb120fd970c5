/-
  Contracts of the laws' own functions on lists of numbers: copy, compare, mark, hold.
-/
import Derived.Test.YtkfjphjmffbpiaaMem
namespace Go.Proofs.Ytkfjphjmffbpiaa.mem
open Go.ChangeShapes Go.WideShapes Go.ChangeAt Go.RowKit

theorem likeInts_any (s s' : Sl) (xs ys : List Int) (w : World) (hr : Rd w s.A s.n xs) (hr' : Rd w s'.A s'.n ys) :
    Calls Try.prog 14 #[.slice s.A s.n s.c, .slice s'.A s'.n s'.c] w fun e w' => ∃ q, e = .returned (.bool (decide (xs = ys))) ∧ w' = w.drewN q := by
  obtain ⟨A, n, c⟩ := s
  obtain ⟨A', n', c'⟩ := s'
  simp only at hr hr' ⊢
  have hn := hr.le
  have hn' := hr'.le
  by_cases hl : n = n'
  · have hl2 : ((n : Int) != n') = false := by simp [hl]
    subst hl
    go_enter Try.func14, Try.ntmps14
    go_wp2
    go_loopw [5] (fun i wr => ∃ k q : Nat, k ≤ n ∧ i = .int .i64 k ∧ wr = w.drewN q ∧ Hid (xs.take k = ys.take k)) (fun i _ => n - (intOf i).toNat)
    case atStart => exact ⟨0, 0, by omega, rfl, rfl, hide rfl⟩
    case round =>
      obtain ⟨k, q, hk, rfl, rfl, ht⟩ := hrel
      by_cases hlt : k < n
      · obtain ⟨b, off, x, rfl, hbl, hc1, hx⟩ := hr.el hlt
        obtain ⟨b', off', y, rfl, hbl', hc1', hy⟩ := hr'.el hlt
        by_cases he : x = y
        · subst he
          go_wp2
          go_region
          all_goals go_wp2
          all_goals go_roundw
          all_goals first | (case rel => exact ⟨k + 1, q + 1, by omega, by go_num, by simp, hide (by rw [take_more hx.out, take_more hy.out, ht.out])⟩) | (case measure => simp [intOf]; omega)
        · have hne : (x != y) = true := by simpa using he
          go_wp2
          go_region
          all_goals go_wp2
          all_goals go_ret
          all_goals exact ⟨q + 1, by rw [decide_eq_false (fun e : xs = ys => he (by have h1 := hx.out; have h2 := hy.out; rw [e, h2] at h1; injection h1 with h1; exact h1.symm))]; rfl, by simp⟩
      · go_wp2
        go_ret
        have e : k = n := by omega
        subst e
        refine ⟨q, ?_, rfl⟩
        have h1 := ht.out
        rw [List.take_of_length_le (by rw [← hr.1]; omega), List.take_of_length_le (by rw [← hr'.1]; omega)] at h1
        rw [decide_eq_true h1]; rfl
  · have hl2 : ((n : Int) != n') = true := by simp; omega
    go_enter Try.func14, Try.ntmps14
    go_wp2
    go_ret
    exact ⟨0, by rw [decide_eq_false (fun e : xs = ys => hl (by rw [hr.1, hr'.1, e]))]; rfl, rfl⟩

theorem likeInts_yes (s s' : Sl) (xs : List Int) (w : World) (hr : Rd w s.A s.n xs) (hr' : Rd w s'.A s'.n xs) :
    Calls Try.prog 14 #[.slice s.A s.n s.c, .slice s'.A s'.n s'.c] w fun e w' => e = .returned (.bool true) ∧ Ext w w' :=
  (likeInts_any s s' xs xs w hr hr').mono fun e w' ⟨q, he, hw⟩ => ⟨by rw [he, decide_eq_true rfl], by subst hw; exact (Ext.refl w).drewN q⟩
/-- the numbers k, k+1, .. -/
def upL (k : Int) : Nat → List Int
  | 0 => []
  | n + 1 => k :: upL (k + 1) n
theorem upL_len (k : Int) : ∀ n, (upL k n).length = n
  | 0 => rfl
  | n + 1 => by simp [upL, upL_len (k + 1) n]
theorem upL_get (k : Int) : ∀ (n j : Nat), j < n → (upL k n)[j]? = some (k + j)
  | 0, j, h => by omega
  | n + 1, 0, _ => by simp [upL]
  | n + 1, j + 1, h => by
    simp only [upL, List.getElem?_cons_succ]
    rw [upL_get (k + 1) n j (by omega)]
    congr 1
    omega
end Go.Proofs.Ytkfjphjmffbpiaa.mem
