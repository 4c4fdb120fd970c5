/-
  Reading a number of at most thirteen digits, in the reference.
-/
import Derived.Test.YtfojfndmaofahaaGreatDoorSpl
import Derived.Lib.Strings
namespace Go.Proofs.YtfojfndmaofahaaGreatDoor.mem
open Go.ChangeShapes Go.WideShapes Go.ChangeAt Go.RowKit

theorem no_dec {s : ByteArray} (h : ¬ (s.data.toList.all digB = true)) (k : Nat) : s ≠ decW k := fun e => h (decW_dig e).1
/-- what reading a word gives: a number, and whether the word spells it -/
def VaP (s : ByteArray) (e : Ending) : Prop :=
  ∃ (n : Int) (b : Bool), e = .returned (.tuple #[.int .i64 n, .bool b]) ∧ (b = true → ∃ k : Nat, n = k ∧ s = decW k ∧ k < 10000000000000) ∧ (∀ k : Nat, s = decW k → k < 10000000000000 → b = true ∧ n = k)
set_option maxHeartbeats 1000000 in
theorem spec.l01Value_any (s : ByteArray) (w : World) (hs : s.size ≤ 1048576) :
    Calls Tryz.prog 80 #[.string s] w fun e w' => VaP s e ∧ Ext w w' := by
  by_cases h1 : s.size < 1
  · have hg : (s.size : Int) < 1 := by omega
    go_enter Tryz.func80, Tryz.ntmps80
    go_wp2
    go_ret2
    exact ⟨⟨0, false, rfl, fun h => (by cases h), fun k e hk => by have := (decW_len hk).2; rw [← e] at this; omega⟩, Ext.refl _⟩
  by_cases h13 : 13 < s.size
  · have hg : ¬ (s.size : Int) < 1 := by omega
    have hg2 : (13 : Int) < (s.size : Int) := by omega
    go_enter Tryz.func80, Tryz.ntmps80
    go_wp2
    go_ret2
    exact ⟨⟨0, false, rfl, fun h => (by cases h), fun k e hk => by have := (decW_len hk).1; rw [← e] at this; omega⟩, Ext.refl _⟩
  have hg : ¬ (s.size : Int) < 1 := by omega
  have hg2 : ¬ (13 : Int) < (s.size : Int) := by omega
  replace h1 := hide h1
  replace h13 := hide h13
  go_enter Tryz.func80, Tryz.ntmps80
  go_wp2
  go_loopw [4, 5] (fun a i wr => ∃ k n : Nat, k ≤ s.size ∧ i = .int .i64 k ∧ a = .int .i64 n ∧ Hid (n = vd (s.data.toList.take k)) ∧ Hid ((s.data.toList.take k).all digB = true) ∧ wr = w) (fun _ i _ => s.size - (intOf i).toNat)
  case atStart => exact ⟨0, 0, by omega, rfl, rfl, hide rfl, hide rfl, rfl⟩
  case round =>
    obtain ⟨k, n, hk, rfl, rfl, hn, ha, rfl⟩ := hrel
    have hwk : IntKind.i64.wrap ((k : Int) + 1) = (k : Int) + 1 := Go.IntWalk.i64_in _ (by have := h13.out; omega)
    have hlt13 : n < 10000000000000 := by
      have h2 := vd_lt _ ha.out
      have h3 : (10 : Nat) ^ (s.data.toList.take k).length ≤ 10 ^ 13 := Nat.pow_le_pow_right (by omega) (by rw [List.length_take]; have := h13.out; omega)
      rw [hn.out]
      omega
    by_cases hlt : k < s.size
    · have hsn := hide (take_snocB s k hlt)
      by_cases hd : 48 ≤ s[k].toNat ∧ s[k].toNat ≤ 57
      · have c1 : ¬ (s[k].toNat : Int) < 48 := by omega
        have c2 : ¬ (57 : Int) < (s[k].toNat : Int) := by omega
        have f1 : IntKind.u8.wrap ((s[k].toNat : Int) - 48) = (s[k].toNat : Int) - 48 := Go.IntWalk.u8_in _ (by omega)
        have f2 : IntKind.i64.wrap (10 * (n : Int)) = 10 * (n : Int) := Go.IntWalk.i64_in _ (by omega)
        have f3 : IntKind.i64.wrap ((s[k].toNat : Int) - 48) = (s[k].toNat : Int) - 48 := Go.IntWalk.i64_in _ (by omega)
        have f4 : IntKind.i64.wrap (10 * (n : Int) + ((s[k].toNat : Int) - 48)) = 10 * (n : Int) + ((s[k].toNat : Int) - 48) := Go.IntWalk.i64_in _ (by omega)
        have hN := hide (show 10 * n + (s[k].toNat - 48) = vd (s.data.toList.take (k + 1)) by rw [hsn.out, vd_snoc, ← hn.out])
        have hA := hide (show (s.data.toList.take (k + 1)).all digB = true by rw [hsn.out, List.all_append, ha.out]; simp [digB, hd])
        have hcast := hide (show ((10 * n + (s[k].toNat - 48) : Nat) : Int) = 10 * (n : Int) + ((s[k].toNat : Int) - 48) by omega)
        clear hd hlt13
        go_wp2
        go_roundw
        case rel => exact ⟨k + 1, 10 * n + (s[k].toNat - 48), by omega, by go_num, by rw [hcast.out], hN, hA, by simp⟩
        case measure => simp [intOf] <;> omega
      · have hb := hide (show ¬ (s.data.toList.all digB = true) from fun h => hd (by
          have h2 := List.all_eq_true.1 h s[k] (by rw [show s[k] = s.data.toList[k]'(by rw [size_list]; exact hlt) from rfl]; exact List.getElem_mem _)
          exact of_decide_eq_true h2))
        by_cases c1 : (s[k].toNat : Int) < 48
        · clear hd
          go_wp2
          go_ret2
          exact ⟨⟨0, false, rfl, fun h => (by cases h), fun j e _ => absurd e (no_dec hb.out j)⟩, Ext.refl _⟩
        · have c2 : (57 : Int) < (s[k].toNat : Int) := by omega
          clear hd
          go_wp2
          go_ret2
          exact ⟨⟨0, false, rfl, fun h => (by cases h), fun j e _ => absurd e (no_dec hb.out j)⟩, Ext.refl _⟩
    · obtain rfl : k = s.size := by omega
      have hv := hide (show n = vd s.data.toList by rw [hn.out, List.take_of_length_le (by rw [size_list]; omega)])
      have hdc := fun W => spec.l01Dec_any n W (by omega)
      have hl := hide hlt13
      clear hlt13
      go_wp2_with fail
      go_fit (hdc _)
      rintro e w1 ⟨rfl, hx⟩
      go_wp2
      go_ret2
      refine ⟨⟨n, _, rfl, fun h => ⟨n, rfl, ?_, hl.out⟩, fun j e hj => ?_⟩, hx⟩
      · have h' := h
        simp only [Lib.toList_data, beq_iff_eq] at h'
        exact ByteArray.ext (Array.ext' h'.symm)
      · obtain rfl : n = j := by rw [hv.out]; exact (decW_dig e).2
        exact ⟨by rw [e]; simp, rfl⟩
end Go.Proofs.YtfojfndmaofahaaGreatDoor.mem
