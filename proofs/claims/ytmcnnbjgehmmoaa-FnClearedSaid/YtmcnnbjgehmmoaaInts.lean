/-
  Contracts of the laws' own functions on lists of numbers: copy, compare, mark, hold.
-/
import Derived.Test.YtmcnnbjgehmmoaaMem
namespace Go.Proofs.Ytmcnnbjgehmmoaa.mem
open Go.ChangeShapes Go.WideShapes Go.ChangeAt Go.RowKit

theorem eqInt64S_any (s s' : Sl) (xs ys : List Int) (w : World) (hr : Rd w s.A s.n xs) (hr' : Rd w s'.A s'.n ys) :
    Calls Try.prog 24 #[.slice s.A s.n s.c, .slice s'.A s'.n s'.c] w fun e w' => ∃ q, e = .returned (.bool (decide (xs = ys))) ∧ w' = w.drewN q := by
  obtain ⟨A, n, c⟩ := s
  obtain ⟨A', n', c'⟩ := s'
  simp only at hr hr' ⊢
  have hn := hr.le
  have hn' := hr'.le
  by_cases hl : n = n'
  · have hl2 : ((n : Int) != n') = false := by simp [hl]
    subst hl
    go_enter Try.func24, Try.ntmps24
    go_wp2
    go_loopw [5] (fun i wr => ∃ k q : Nat, k ≤ n ∧ i = .int .i64 k ∧ wr = w.drewN q ∧ Hid (xs.take k = ys.take k)) (fun i _ => n - (intOf i).toNat)
    case atStart => exact ⟨0, 0, by omega, rfl, rfl, hide rfl⟩
    case round =>
      obtain ⟨k, q, hk, rfl, rfl, ht⟩ := hrel
      by_cases hlt : k < n
      · obtain ⟨b, off, x, rfl, hbl, hc1, hx⟩ := hr.el hlt
        obtain ⟨b', off', y, rfl, hbl', hc1', hy⟩ := hr'.el hlt
        by_cases he : x = y
        · subst he
          go_wp2
          go_region
          all_goals go_wp2
          all_goals go_roundw
          all_goals first | (case rel => exact ⟨k + 1, q + 1, by omega, by go_num, by simp, hide (by rw [take_more hx.out, take_more hy.out, ht.out])⟩) | (case measure => simp [intOf]; omega)
        · have hne : (x != y) = true := by simpa using he
          go_wp2
          go_region
          all_goals go_wp2
          all_goals go_ret
          all_goals exact ⟨q + 1, by rw [decide_eq_false (fun e : xs = ys => he (by have h1 := hx.out; have h2 := hy.out; rw [e, h2] at h1; injection h1 with h1; exact h1.symm))]; rfl, by simp⟩
      · go_wp2
        go_ret
        have e : k = n := by omega
        subst e
        refine ⟨q, ?_, rfl⟩
        have h1 := ht.out
        rw [List.take_of_length_le (by rw [← hr.1]; omega), List.take_of_length_le (by rw [← hr'.1]; omega)] at h1
        rw [decide_eq_true h1]; rfl
  · have hl2 : ((n : Int) != n') = true := by simp; omega
    go_enter Try.func24, Try.ntmps24
    go_wp2
    go_ret
    exact ⟨0, by rw [decide_eq_false (fun e : xs = ys => hl (by rw [hr.1, hr'.1, e]))]; rfl, rfl⟩

theorem likeInts_any (s s' : Sl) (xs ys : List Int) (w : World) (hr : Rd w s.A s.n xs) (hr' : Rd w s'.A s'.n ys) :
    Calls Try.prog 15 #[.slice s.A s.n s.c, .slice s'.A s'.n s'.c] w fun e w' => ∃ q, e = .returned (.bool (decide (xs = ys))) ∧ w' = w.drewN q := by
  obtain ⟨A, n, c⟩ := s
  obtain ⟨A', n', c'⟩ := s'
  simp only at hr hr' ⊢
  have hn := hr.le
  have hn' := hr'.le
  by_cases hl : n = n'
  · have hl2 : ((n : Int) != n') = false := by simp [hl]
    subst hl
    go_enter Try.func15, Try.ntmps15
    go_wp2
    go_loopw [5] (fun i wr => ∃ k q : Nat, k ≤ n ∧ i = .int .i64 k ∧ wr = w.drewN q ∧ Hid (xs.take k = ys.take k)) (fun i _ => n - (intOf i).toNat)
    case atStart => exact ⟨0, 0, by omega, rfl, rfl, hide rfl⟩
    case round =>
      obtain ⟨k, q, hk, rfl, rfl, ht⟩ := hrel
      by_cases hlt : k < n
      · obtain ⟨b, off, x, rfl, hbl, hc1, hx⟩ := hr.el hlt
        obtain ⟨b', off', y, rfl, hbl', hc1', hy⟩ := hr'.el hlt
        by_cases he : x = y
        · subst he
          go_wp2
          go_region
          all_goals go_wp2
          all_goals go_roundw
          all_goals first | (case rel => exact ⟨k + 1, q + 1, by omega, by go_num, by simp, hide (by rw [take_more hx.out, take_more hy.out, ht.out])⟩) | (case measure => simp [intOf]; omega)
        · have hne : (x != y) = true := by simpa using he
          go_wp2
          go_region
          all_goals go_wp2
          all_goals go_ret
          all_goals exact ⟨q + 1, by rw [decide_eq_false (fun e : xs = ys => he (by have h1 := hx.out; have h2 := hy.out; rw [e, h2] at h1; injection h1 with h1; exact h1.symm))]; rfl, by simp⟩
      · go_wp2
        go_ret
        have e : k = n := by omega
        subst e
        refine ⟨q, ?_, rfl⟩
        have h1 := ht.out
        rw [List.take_of_length_le (by rw [← hr.1]; omega), List.take_of_length_le (by rw [← hr'.1]; omega)] at h1
        rw [decide_eq_true h1]; rfl
  · have hl2 : ((n : Int) != n') = true := by simp; omega
    go_enter Try.func15, Try.ntmps15
    go_wp2
    go_ret
    exact ⟨0, by rw [decide_eq_false (fun e : xs = ys => hl (by rw [hr.1, hr'.1, e]))]; rfl, rfl⟩

theorem eqInt64S_yes (s s' : Sl) (xs : List Int) (w : World) (hr : Rd w s.A s.n xs) (hr' : Rd w s'.A s'.n xs) :
    Calls Try.prog 24 #[.slice s.A s.n s.c, .slice s'.A s'.n s'.c] w fun e w' => e = .returned (.bool true) ∧ Ext w w' :=
  (eqInt64S_any s s' xs xs w hr hr').mono fun e w' ⟨q, he, hw⟩ => ⟨by rw [he, decide_eq_true rfl], by subst hw; exact (Ext.refl w).drewN q⟩
theorem likeInts_yes (s s' : Sl) (xs : List Int) (w : World) (hr : Rd w s.A s.n xs) (hr' : Rd w s'.A s'.n xs) :
    Calls Try.prog 15 #[.slice s.A s.n s.c, .slice s'.A s'.n s'.c] w fun e w' => e = .returned (.bool true) ∧ Ext w w' :=
  (likeInts_any s s' xs xs w hr hr').mono fun e w' ⟨q, he, hw⟩ => ⟨by rw [he, decide_eq_true rfl], by subst hw; exact (Ext.refl w).drewN q⟩
/-- the numbers k, k+1, .. -/
def upL (k : Int) : Nat → List Int
  | 0 => []
  | n + 1 => k :: upL (k + 1) n
theorem upL_len (k : Int) : ∀ n, (upL k n).length = n
  | 0 => rfl
  | n + 1 => by simp [upL, upL_len (k + 1) n]
theorem upL_get (k : Int) : ∀ (n j : Nat), j < n → (upL k n)[j]? = some (k + j)
  | 0, j, h => by omega
  | n + 1, 0, _ => by simp [upL]
  | n + 1, j + 1, h => by
    simp only [upL, List.getElem?_cons_succ]
    rw [upL_get (k + 1) n j (by omega)]
    congr 1
    omega
/-- 'only the block of v has turned' -/
theorem markInt64S_any (s : Sl) (lo : Nat) (k0 : Int) (xs : List Int) (w : World) (ho : Own w lo (.slice s.A s.n s.c) xs) (h0 : 0 ≤ k0) (h1 : k0 ≤ 1000000000000) :
    Calls Try.prog 29 #[.slice s.A s.n s.c, .int .i64 k0] w fun e w' => e = .returned (.int .i64 (k0 + s.n)) ∧ Own w' lo (.slice s.A s.n s.c) (upL k0 s.n) ∧ Fr (fun k => Value.ownBlock (.slice s.A s.n s.c) = some k) w w' := by
  obtain ⟨A, n, c⟩ := s
  simp only at ho ⊢
  have hn := ho.rd.le
  have hn1 : n = xs.length := ho.rd.1
  rcases ho.2.2 with ⟨e, hn0⟩ | ⟨g, cap, cur, e, hg, hh, hcap, hm, hs, ht⟩
  · injection e with e1 e2 e3
    subst e1 e2 e3
    clear hn1 hn0 ho
    go_enter Try.func29, Try.ntmps29
    go_wp2
    go_loopw [1, 5] (fun a i wr => a = .int .i64 k0 ∧ i = .int .i64 0 ∧ wr = w) (fun _ i _ => 0 - (intOf i).toNat)
    case atStart => exact ⟨rfl, rfl, rfl⟩
    case round =>
      obtain ⟨rfl, rfl, rfl⟩ := hrel
      go_wp2
      go_ret
      exact ⟨by simp, Own.nil_ _ _, Fr.refl _ _⟩
  · injection e with e1 e2 e3
    subst e1 e3
    have hn2 : n ≤ c := by omega
    have HS := hide (show cur.size = c by omega)
    clear ht hcap hs e2 hn1 ho
    go_enter Try.func29, Try.ntmps29
    go_wp2
    go_loopw [1, 5] (fun a i wr => ∃ k : Nat, k ≤ n ∧ a = .int .i64 (k0 + k) ∧ i = .int .i64 k ∧ w.grownBy wr (some g) ∧ ∃ cs : Array Value, Blk wr g 2 cs ∧ cs.size = c ∧ ∀ j, j < k → cs[j]? = some (.int .i64 (k0 + j))) (fun _ i _ => n - (intOf i).toNat)
    case atStart => exact ⟨0, by omega, by go_num, rfl, World.grownBy.refl _ _, cur, hh, HS.out, fun j h => absurd h (by omega)⟩
    case round =>
      obtain ⟨k, hk, rfl, rfl, hgr, cs, hb, hsz, hcs⟩ := hrel
      by_cases hlt : k < n
      · have hc2 := hb.cell k
        have hc3 := hb.frozen k
        rw [Array.getElem?_eq_getElem (by omega)] at hc2
        go_wp2
        go_roundw
        case rel =>
          refine ⟨k + 1, by omega, by go_num, by go_num, ?_, _, hb.set_ k _, by simpa using hsz, fun j hj => ?_⟩
          · exact grow_set hgr k _
          · rw [Array.getElem?_setIfInBounds]
            by_cases e : k = j
            · subst e; rw [if_pos rfl, if_pos (by omega)]
            · rw [if_neg e]; exact hcs j (by omega)
        case measure => simp [intOf]; omega
      · go_wp2
        go_ret
        have e : k = n := by omega
        subst e
        refine ⟨rfl, Own.of_blk hb hg k c (upL_len _ _).symm hn2 hm hsz hn ?_, Fr.of_grown hgr⟩
        apply List.ext_getElem?
        intro j
        rcases Nat.lt_or_ge j k with hj | hj
        · rw [List.getElem?_take_of_lt hj, Array.getElem?_toList, hcs j hj, List.getElem?_map, upL_get _ _ _ hj]; rfl
        · rw [List.getElem?_eq_none (by simp; omega), List.getElem?_eq_none (by simp [upL_len]; omega)]

theorem heldInt64S_any (s : Sl) (k0 : Int) (w : World) (hr : Rd w s.A s.n (upL k0 s.n)) (h0 : 0 ≤ k0) (h1 : k0 ≤ 1000000000000) :
    Calls Try.prog 30 #[.slice s.A s.n s.c, .int .i64 k0] w fun e w' => e = .returned (.int .i64 (k0 + s.n)) ∧ w = w' := by
  obtain ⟨A, n, c⟩ := s
  simp only at hr ⊢
  have hn := hr.le
  go_enter Try.func30, Try.ntmps30
  go_wp2
  go_loop [1, 5] (fun a i => ∃ k : Nat, k ≤ n ∧ a = .int .i64 (k0 + k) ∧ i = .int .i64 k) (fun _ i => n - (intOf i).toNat)
  case atStart => exact ⟨0, by omega, by go_num, rfl⟩
  case round =>
    obtain ⟨k, hk, rfl, rfl⟩ := hrel
    by_cases hlt : k < n
    · obtain ⟨b, off, x, rfl, hbl, hc1, hx⟩ := hr.el hlt
      have hx1 := hx.out
      rw [upL_get _ _ _ hlt] at hx1
      injection hx1 with hx1
      subst hx1
      clear hx
      go_wp2
      go_round
      case rel => exact ⟨k + 1, by omega, by go_num, by go_num⟩
      case measure => simp [intOf]; omega
    · go_wp2
      go_ret
      obtain rfl : k = n := by omega
      exact ⟨rfl, rfl⟩
end Go.Proofs.Ytmcnnbjgehmmoaa.mem
