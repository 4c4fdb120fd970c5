/-
  Words and lists of texts: contracts of IsWord, areWords, l01All, has[string], l13Word, and of the laws' own functions on lists of texts.
-/
import Derived.Test.YtofglgfjlbehmaaGreatList
namespace Go.Proofs.YtofglgfjlbehmaaGreat.mem
open Go.ChangeShapes Go.WideShapes Go.ChangeAt Go.RowKit

theorem take_snocB (s : ByteArray) (k : Nat) (h : k < s.size) : s.data.toList.take (k + 1) = s.data.toList.take k ++ [s[k]] := by
  rw [List.take_succ_eq_append_getElem (by simpa using h)]; rfl
def letB (c : UInt8) : Bool := decide (97 ≤ (c.toNat : Int) ∧ (c.toNat : Int) ≤ 122)
def wordB (s : ByteArray) : Bool := s.data.toList.all letB && inB s.size 1 16
theorem letB_more {s : ByteArray} {k : Nat} (h : k < s.size) (ha : (s.data.toList.take k).all letB = true) (h1 : 97 ≤ (s[k].toNat : Int)) (h2 : (s[k].toNat : Int) ≤ 122) : (s.data.toList.take (k + 1)).all letB = true := by
  rw [take_snocB s k h, List.all_append, ha]
  simp [letB, h1, h2]
theorem wordB_no {s : ByteArray} {k : Nat} (h : k < s.size) (hn : ¬ (97 ≤ (s[k].toNat : Int) ∧ (s[k].toNat : Int) ≤ 122)) : wordB s = false := by
  have h1 : letB s[k] = false := decide_eq_false hn
  have h2 : s.data.toList.all letB = false := by
    rw [List.all_eq_false]
    exact ⟨s[k], by show s.data[k] ∈ s.data.toList; exact Array.mem_toList_iff.2 (Array.getElem_mem _), by rw [h1]; exact Bool.false_ne_true⟩
  unfold wordB
  rw [h2, Bool.false_and]
theorem wordB_all {s : ByteArray} (ha : (s.data.toList.take s.size).all letB = true) : wordB s = inB s.size 1 16 := by
  rw [List.take_of_length_le (by show s.data.toList.length ≤ s.data.size; simp)] at ha
  unfold wordB
  rw [ha, Bool.true_and]

/-- a list of texts, read -/
def RdW (w : World) (A : Option Addr) (n : Nat) (ss : List ByteArray) : Prop :=
  n = ss.length ∧ n ≤ 16777216 ∧ (∀ s ∈ ss, s.size ≤ maxLen) ∧ (0 < n → ∃ b off, A = some ⟨b, off, none⟩ ∧ b < w.heap.size ∧ ∀ j s, ss[j]? = some s → w.cell? ⟨b, off + j, none⟩ = some (.string s))
section
variable {w w' : World} {A : Option Addr} {n : Nat} {ss : List ByteArray}
theorem RdW.ext (h : RdW w A n ss) (hx : Ext w w') : RdW w' A n ss := ⟨h.1, h.2.1, h.2.2.1, fun hn => by
  obtain ⟨b, off, e, hb, hc⟩ := h.2.2.2 hn
  exact ⟨b, off, e, Nat.lt_of_lt_of_le hb hx.size, fun j s hj => (hx.cell (p := ⟨b, off + j, none⟩) hb).trans (hc j s hj)⟩⟩
theorem RdW.el (h : RdW w A n ss) {k : Nat} (hk : k < n) : ∃ b off s, A = some ⟨b, off, none⟩ ∧ b < w.heap.size ∧ w.cell? ⟨b, off + k, none⟩ = some (.string s) ∧ s.size ≤ maxLen ∧ Hid (ss[k]? = some s) := by
  obtain ⟨b, off, e, hb, hc⟩ := h.2.2.2 (by omega)
  have hl : k < ss.length := by have := h.1; omega
  exact ⟨b, off, ss[k], e, hb, hc k _ (List.getElem?_eq_getElem hl), h.2.2.1 _ (List.getElem_mem hl), hide (List.getElem?_eq_getElem hl)⟩
end
def wordsB (ss : List ByteArray) : Bool := ss.all wordB
theorem wordsB_no {ss : List ByteArray} {k : Nat} {s : ByteArray} (h : ss[k]? = some s) (hn : wordB s = false) : wordsB ss = false := by
  unfold wordsB
  rw [List.all_eq_false]
  exact ⟨s, List.mem_of_getElem? h, by rw [hn]; exact Bool.false_ne_true⟩
theorem wordsB_yes {ss : List ByteArray} (h : ∀ (j : Nat) (s : ByteArray), j < ss.length → ss[j]? = some s → wordB s = true) : wordsB ss = true := by
  unfold wordsB
  rw [List.all_eq_true]
  intro s hs
  obtain ⟨j, hj⟩ := List.mem_iff_getElem?.1 hs
  exact h j s (List.getElem?_eq_some_iff.1 hj).1 hj
def eqW (x y : ByteArray) : Bool := x.toList == y.toList
theorem eqW_comm (x y : ByteArray) : eqW x y = eqW y x := by
  unfold eqW
  rw [Bool.eq_iff_iff, beq_iff_eq, beq_iff_eq]
  exact eq_comm
theorem eqW_self (x : ByteArray) : eqW x x = true := by
  unfold eqW
  exact beq_self_eq_true _
def hasW (ss : List ByteArray) (x : ByteArray) : Bool := ss.any (fun y => eqW x y)
theorem hasW_yes {ss : List ByteArray} {x y : ByteArray} {k : Nat} (h : ss[k]? = some y) (he : eqW x y = true) : hasW ss x = true := by
  unfold hasW
  rw [List.any_eq_true]
  exact ⟨y, List.mem_of_getElem? h, he⟩
theorem hasW_no {ss : List ByteArray} {x : ByteArray} (h : ∀ (j : Nat) (y : ByteArray), j < ss.length → ss[j]? = some y → eqW x y = false) : hasW ss x = false := by
  unfold hasW
  rw [List.any_eq_false]
  intro y hy
  obtain ⟨j, hj⟩ := List.mem_iff_getElem?.1 hy
  rw [h j y (List.getElem?_eq_some_iff.1 hj).1 hj]
  exact Bool.false_ne_true
theorem upto_more {α : Type} {P : α → Prop} {l : List α} {k : Nat} {x : α} (h : ∀ (j : Nat) (y : α), j < k → l[j]? = some y → P y) (hk : l[k]? = some x) (hx : P x) : ∀ (j : Nat) (y : α), j < k + 1 → l[j]? = some y → P y := fun j y hj hy => by
  rcases Nat.lt_or_ge j k with hlt | hge
  · exact h j y hlt hy
  · obtain rfl : j = k := by omega
    rw [hk] at hy
    injection hy with hy
    exact hy ▸ hx
theorem impl.IsWord_any (s : ByteArray) (w : World) (hs : s.size ≤ maxLen) :
    Calls Tryz.prog 115 #[.string s] w fun e w' => e = .returned (.bool (wordB s)) ∧ w = w' := by
  unfold maxLen at hs
  go_enter Tryz.func115, Tryz.ntmps115
  go_wp2
  go_loop [3] (fun i => ∃ k : Nat, k ≤ s.size ∧ i = .int .i64 k ∧ Hid ((s.data.toList.take k).all letB = true)) (fun i => s.size - (intOf i).toNat)
  case atStart => exact ⟨0, Nat.zero_le _, rfl, hide rfl⟩
  case round =>
    obtain ⟨k, hk, rfl, ha⟩ := hrel
    by_cases hlt : k < s.size
    · by_cases h1 : 97 ≤ (s[k].toNat : Int)
      · by_cases h2 : (s[k].toNat : Int) ≤ 122
        · have hb := hide (letB_more hlt ha.out h1 h2)
          go_wp2
          go_round
          case rel => exact ⟨k + 1, by omega, by go_num, hb⟩
          case measure => simp [intOf]; omega
        · have hf := hide (wordB_no hlt (fun h => h2 h.2))
          go_wp2
          go_ret
          exact ⟨by rw [hf.out]; rfl, rfl⟩
      · have hf := hide (wordB_no hlt (fun h => h1 h.1))
        go_wp2
        go_ret
        exact ⟨by rw [hf.out]; rfl, rfl⟩
    · have e : k = s.size := by omega
      subst e
      have hf := hide (wordB_all ha.out)
      go_wp2_with (first | (go_at_call 39; refine (impl.within_any _ _ _ _).mono ?_; rintro e w' ⟨rfl, rfl⟩) | (go_at_call 42; refine (spec.l01In_any _ _ _ _).mono ?_; rintro e w' ⟨rfl, rfl⟩))
      go_ret
      exact ⟨by rw [hf.out]; rfl, rfl⟩
theorem spec.IsWord_any (s : ByteArray) (w : World) (hs : s.size ≤ maxLen) :
    Calls Tryz.prog 112 #[.string s] w fun e w' => e = .returned (.bool (wordB s)) ∧ w = w' := by
  unfold maxLen at hs
  go_enter Tryz.func112, Tryz.ntmps112
  go_wp2
  go_loop [3] (fun i => ∃ k : Nat, k ≤ s.size ∧ i = .int .i64 k ∧ Hid ((s.data.toList.take k).all letB = true)) (fun i => s.size - (intOf i).toNat)
  case atStart => exact ⟨0, Nat.zero_le _, rfl, hide rfl⟩
  case round =>
    obtain ⟨k, hk, rfl, ha⟩ := hrel
    by_cases hlt : k < s.size
    · by_cases h1 : 97 ≤ (s[k].toNat : Int)
      · by_cases h2 : (s[k].toNat : Int) ≤ 122
        · have hb := hide (letB_more hlt ha.out h1 h2)
          go_wp2
          go_round
          case rel => exact ⟨k + 1, by omega, by go_num, hb⟩
          case measure => simp [intOf]; omega
        · have hf := hide (wordB_no hlt (fun h => h2 h.2))
          go_wp2
          go_ret
          exact ⟨by rw [hf.out]; rfl, rfl⟩
      · have hf := hide (wordB_no hlt (fun h => h1 h.1))
        go_wp2
        go_ret
        exact ⟨by rw [hf.out]; rfl, rfl⟩
    · have e : k = s.size := by omega
      subst e
      have hf := hide (wordB_all ha.out)
      go_wp2_with (first | (go_at_call 39; refine (impl.within_any _ _ _ _).mono ?_; rintro e w' ⟨rfl, rfl⟩) | (go_at_call 42; refine (spec.l01In_any _ _ _ _).mono ?_; rintro e w' ⟨rfl, rfl⟩))
      go_ret
      exact ⟨by rw [hf.out]; rfl, rfl⟩
theorem impl.areWords_any (s : Sl) (ss : List ByteArray) (w : World) (hr : RdW w s.A s.n ss) :
    Calls Tryz.prog 92 #[.slice s.A s.n s.c] w fun e w' => e = .returned (.bool (wordsB ss)) ∧ w = w' := by
  obtain ⟨A, n, c⟩ := s
  simp only at hr ⊢
  have hn := hr.2.1
  go_enter Tryz.func92, Tryz.ntmps92
  go_wp2
  go_loop [4, 7] (fun _ i => ∃ k : Nat, k ≤ n ∧ i = .int .i64 k ∧ Hid (∀ (j : Nat) (y : ByteArray), j < k → ss[j]? = some y → wordB y = true)) (fun _ i => n - (intOf i).toNat)
  case atStart => exact ⟨0, by omega, rfl, hide fun j y h => absurd h (by omega)⟩
  case round =>
    obtain ⟨k, hk, rfl, hno⟩ := hrel
    by_cases hlt : k < n
    · obtain ⟨b, off, y, rfl, hbl, hc1, hys, hy⟩ := hr.el hlt
      cases hw : wordB y
      · have hf := hide (wordsB_no hy.out hw)
        go_wp2_with (go_at_call 115; refine (impl.IsWord_any _ _ hys).mono ?_; rintro e w' ⟨rfl, rfl⟩)
        go_ret
        exact ⟨by rw [hf.out]; rfl, rfl⟩
      · have hm := hide (upto_more hno.out hy.out hw)
        go_wp2_with (go_at_call 115; refine (impl.IsWord_any _ _ hys).mono ?_; rintro e w' ⟨rfl, rfl⟩)
        go_round
        case rel => exact ⟨k + 1, by omega, by go_num, hm⟩
        case measure => simp [intOf]; omega
    · have e : k = n := by omega
      subst e
      have hl := hr.1
      have hf := hide (wordsB_yes (hl ▸ hno.out))
      go_wp2
      go_ret
      exact ⟨by rw [hf.out]; rfl, rfl⟩
theorem spec.l01All_any (s : Sl) (ss : List ByteArray) (w : World) (hr : RdW w s.A s.n ss) :
    Calls Tryz.prog 96 #[.slice s.A s.n s.c] w fun e w' => e = .returned (.bool (wordsB ss)) ∧ w = w' := by
  obtain ⟨A, n, c⟩ := s
  simp only at hr ⊢
  have hn := hr.2.1
  go_enter Tryz.func96, Tryz.ntmps96
  go_wp2
  go_loop [3] (fun i => ∃ k : Nat, k ≤ n ∧ i = .int .i64 k ∧ Hid (∀ (j : Nat) (y : ByteArray), j < k → ss[j]? = some y → wordB y = true)) (fun i => n - (intOf i).toNat)
  case atStart => exact ⟨0, by omega, rfl, hide fun j y h => absurd h (by omega)⟩
  case round =>
    obtain ⟨k, hk, rfl, hno⟩ := hrel
    by_cases hlt : k < n
    · obtain ⟨b, off, y, rfl, hbl, hc1, hys, hy⟩ := hr.el hlt
      cases hw : wordB y
      · have hf := hide (wordsB_no hy.out hw)
        go_wp2_with (go_at_call 112; refine (spec.IsWord_any _ _ hys).mono ?_; rintro e w' ⟨rfl, rfl⟩)
        go_ret
        exact ⟨by rw [hf.out]; rfl, rfl⟩
      · have hm := hide (upto_more hno.out hy.out hw)
        go_wp2_with (go_at_call 112; refine (spec.IsWord_any _ _ hys).mono ?_; rintro e w' ⟨rfl, rfl⟩)
        go_round
        case rel => exact ⟨k + 1, by omega, by go_num, hm⟩
        case measure => simp [intOf]; omega
    · have e : k = n := by omega
      subst e
      have hl := hr.1
      have hf := hide (wordsB_yes (hl ▸ hno.out))
      go_wp2
      go_ret
      exact ⟨by rw [hf.out]; rfl, rfl⟩
theorem impl.hasS_any (s : Sl) (ss : List ByteArray) (x : ByteArray) (w : World) (hr : RdW w s.A s.n ss) :
    Calls Tryz.prog 124 #[.slice s.A s.n s.c, .string x] w fun e w' => e = .returned (.bool (hasW ss x)) ∧ w = w' := by
  obtain ⟨A, n, c⟩ := s
  simp only at hr ⊢
  have hn := hr.2.1
  go_enter Tryz.func124, Tryz.ntmps124
  go_wp2
  go_loop [6, 9] (fun _ i => ∃ k : Nat, k ≤ n ∧ i = .int .i64 k ∧ Hid (∀ (j : Nat) (y : ByteArray), j < k → ss[j]? = some y → eqW x y = false)) (fun _ i => n - (intOf i).toNat)
  case atStart => exact ⟨0, by omega, rfl, hide fun j y h => absurd h (by omega)⟩
  case round =>
    obtain ⟨k, hk, rfl, hno⟩ := hrel
    by_cases hlt : k < n
    · obtain ⟨b, off, y, rfl, hbl, hc1, hys, hy⟩ := hr.el hlt
      cases he : eqW x y
      · have hm := hide (upto_more hno.out hy.out he)
        have hq : (x.toList == y.toList) = false := he
        go_wp2
        go_round
        case rel => exact ⟨k + 1, by omega, by go_num, hm⟩
        case measure => simp [intOf]; omega
      · have hf := hide (hasW_yes hy.out he)
        have hq : (x.toList == y.toList) = true := he
        go_wp2
        go_ret
        exact ⟨by rw [hf.out]; rfl, rfl⟩
    · have e : k = n := by omega
      subst e
      have hl := hr.1
      have hf := hide (hasW_no (hl ▸ hno.out))
      go_wp2
      go_ret
      exact ⟨by rw [hf.out]; rfl, rfl⟩
theorem spec.l13Word_any (s : Sl) (ss : List ByteArray) (x : ByteArray) (w : World) (hr : RdW w s.A s.n ss) :
    Calls Tryz.prog 125 #[.slice s.A s.n s.c, .string x] w fun e w' => e = .returned (.bool (hasW ss x)) ∧ w = w' := by
  obtain ⟨A, n, c⟩ := s
  simp only at hr ⊢
  have hn := hr.2.1
  go_enter Tryz.func125, Tryz.ntmps125
  go_wp2
  go_loop [5] (fun i => ∃ k : Nat, k ≤ n ∧ i = .int .i64 k ∧ Hid (∀ (j : Nat) (y : ByteArray), j < k → ss[j]? = some y → eqW x y = false)) (fun i => n - (intOf i).toNat)
  case atStart => exact ⟨0, by omega, rfl, hide fun j y h => absurd h (by omega)⟩
  case round =>
    obtain ⟨k, hk, rfl, hno⟩ := hrel
    by_cases hlt : k < n
    · obtain ⟨b, off, y, rfl, hbl, hc1, hys, hy⟩ := hr.el hlt
      cases he : eqW x y
      · have hm := hide (upto_more hno.out hy.out he)
        have hq : (y.toList == x.toList) = false := (eqW_comm y x).trans he
        go_wp2
        go_round
        case rel => exact ⟨k + 1, by omega, by go_num, hm⟩
        case measure => simp [intOf]; omega
      · have hf := hide (hasW_yes hy.out he)
        have hq : (y.toList == x.toList) = true := (eqW_comm y x).trans he
        go_wp2
        go_ret
        exact ⟨by rw [hf.out]; rfl, rfl⟩
    · have e : k = n := by omega
      subst e
      have hl := hr.1
      have hf := hide (hasW_no (hl ▸ hno.out))
      go_wp2
      go_ret
      exact ⟨by rw [hf.out]; rfl, rfl⟩
end Go.Proofs.YtofglgfjlbehmaaGreat.mem
