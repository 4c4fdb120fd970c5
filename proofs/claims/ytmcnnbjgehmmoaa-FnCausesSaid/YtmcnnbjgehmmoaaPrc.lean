/-
  Comparing texts; plain laws of causes.
-/
import Derived.Test.YtmcnnbjgehmmoaaPag
import Derived.Test.YtmcnnbjgehmmoaaDxC
import Derived.Test.YtmcnnbjgehmmoaaOpenC
namespace Go.Proofs.Ytmcnnbjgehmmoaa.mem
open Go.ChangeShapes Go.WideShapes Go.ChangeAt Go.RowKit Go.Joins
set_option linter.unusedVariables false
theorem TpR.ext {w w' : World} {t : Sl} {ts : List Ti} {q : Sl} {us : List ByteArray} (h : TpR w t ts q us) (hx : Ext w w') : TpR w' t ts q us := ⟨h.1.ext hx, h.2.1, h.2.2.1.ext hx, h.2.2.2⟩
theorem likeTexts_yes (s s' : Sl) (ss : List ByteArray) (w : World) (hr : RdW w s.A s.n ss) (hr' : RdW w s'.A s'.n ss) :
    Calls Try.prog 16 #[.slice s.A s.n s.c, .slice s'.A s'.n s'.c] w fun e w' => e = .returned (.bool true) ∧ Ext w w' := by
  obtain ⟨A, n, c⟩ := s
  obtain ⟨A', n', c'⟩ := s'
  simp only at hr hr' ⊢
  have hn := hr.2.1
  obtain rfl : n = n' := hr.1.trans hr'.1.symm
  have hl2 : ((n : Int) != n) = false := by simp
  go_enter Try.func16, Try.ntmps16
  go_wp2
  go_loopw [5] (fun i wr => ∃ k q : Nat, k ≤ n ∧ i = .int .i64 k ∧ wr = w.drewN q) (fun i _ => n - (intOf i).toNat)
  case atStart => exact ⟨0, 0, by omega, rfl, rfl⟩
  case round =>
    obtain ⟨k, q, hk, rfl, rfl⟩ := hrel
    by_cases hlt : k < n
    · obtain ⟨b, off, x, rfl, hbl, hc1, hxs, hx⟩ := hr.el hlt
      obtain ⟨b', off', y, rfl, hbl', hc1', hys, hy⟩ := hr'.el hlt
      obtain rfl : x = y := by
        have h1 := hx.out
        rw [hy.out] at h1
        injection h1 with h1
        exact h1.symm
      have hne : (x.toList == x.toList) = true := beq_self_eq_true _
      have hne2 : (x.toList != x.toList) = false := by simp
      go_wp2
      go_region
      all_goals go_wp2
      all_goals go_roundw
      all_goals first | (case rel => exact ⟨k + 1, q + 1, by omega, by go_num, by simp⟩) | (case measure => simp [intOf]; omega)
    · go_wp2
      go_ret
      exact ⟨rfl, (Ext.refl w).drewN q⟩
theorem hasText_any (s : Sl) (ss : List ByteArray) (x : ByteArray) (w : World) (hr : RdW w s.A s.n ss) :
    Calls Try.prog 17 #[.slice s.A s.n s.c, .string x] w fun e w' => e = .returned (.bool (hasW ss x)) ∧ w = w' := by
  obtain ⟨A, n, c⟩ := s
  simp only at hr ⊢
  have hn := hr.2.1
  go_enter Try.func17, Try.ntmps17
  go_wp2
  go_loop [5] (fun i => ∃ k : Nat, k ≤ n ∧ i = .int .i64 k ∧ Hid (∀ (j : Nat) (y : ByteArray), j < k → ss[j]? = some y → eqW x y = false)) (fun i => n - (intOf i).toNat)
  case atStart => exact ⟨0, by omega, rfl, hide fun j y h => absurd h (by omega)⟩
  case round =>
    obtain ⟨k, hk, rfl, hno⟩ := hrel
    by_cases hlt : k < n
    · obtain ⟨b, off, y, rfl, hbl, hc1, hys, hy⟩ := hr.el hlt
      cases he : eqW x y
      · have hm := hide (upto_more hno.out hy.out he)
        have hq : (y.toList == x.toList) = false := (eqW_comm y x).trans he
        go_wp2
        go_round
        case rel => exact ⟨k + 1, by omega, by go_num, hm⟩
        case measure => simp [intOf]; omega
      · have hf := hide (hasW_yes hy.out he)
        have hq : (y.toList == x.toList) = true := (eqW_comm y x).trans he
        go_wp2
        go_ret
        exact ⟨by rw [hf.out]; rfl, rfl⟩
    · have e : k = n := by omega
      subst e
      have hl := hr.1
      have hf := hide (hasW_no (hl ▸ hno.out))
      go_wp2
      go_ret
      exact ⟨by rw [hf.out]; rfl, rfl⟩
/-- whose party is among these -/
theorem pag_has {ts : List Ti} {us : List ByteArray} {x : Int} {k : Nat} {y : ByteArray} (h : (pagL ts us x)[k]? = some y) : hasW us y = true := by
  have hm := List.mem_of_getElem? h
  unfold pagL at hm
  by_cases c : codC ts us x = 0
  · rw [if_pos c, setS_mem] at hm
    obtain ⟨i, hi, rfl⟩ := List.mem_map.1 hm
    unfold cauL cauK at hi
    obtain ⟨j, hj, rfl⟩ := List.mem_map.1 hi
    obtain ⟨hr, hp⟩ := List.mem_filter.1 hj
    unfold cauP at hp
    cases ht : ts[j]? with
    | none => rw [ht] at hp; exact absurd hp Bool.false_ne_true
    | some t =>
      rw [ht] at hp
      rw [tyS_at ht]
      have h2 := (Bool.and_eq_true_iff.1 hp).2
      unfold cauB at h2
      exact (Bool.and_eq_true_iff.1 h2).1
  · rw [if_neg c] at hm; cases hm
theorem setS_nil {xs : List ByteArray} : (setS ltS xs).length = 0 ↔ xs.length = 0 := by
  constructor
  · intro h
    cases xs with
    | nil => rfl
    | cons x xs =>
      have : x ∈ setS ltS (x :: xs) := (setS_mem _ _).2 List.mem_cons_self
      rw [List.eq_nil_of_length_eq_zero h] at this
      cases this
  · intro h
    rw [List.eq_nil_of_length_eq_zero h]
    rfl
/-- the two lists: both empty or neither; no more parties than causes -/
theorem pag_len {ts : List Ti} {us : List ByteArray} {x : Int} (h : codC ts us x = 0) : (pagL ts us x).length ≤ (cofL ts us x).length ∧ (0 < (pagL ts us x).length ↔ 0 < (cofL ts us x).length) := by
  rw [pagL_0 h, cofL_0 h]
  have h1 := setS_len (lt := ltS) ((cauL us x ts).map (tyS ts))
  have h2 := setS_nil (xs := (cauL us x ts).map (tyS ts))
  rw [List.length_map] at h1 h2
  constructor
  · exact h1
  · omega
end Go.Proofs.Ytmcnnbjgehmmoaa.mem
