/-
  Plain laws for splitting a text at a byte.
-/
import Derived.Test.YtfojfndmaofahaaGreatDoorTx
import Derived.Lib.SplitLaws
namespace Go.Proofs.YtfojfndmaofahaaGreatDoor.mem
open Go.ChangeShapes Go.WideShapes Go.ChangeAt Go.RowKit

/-- the pieces of a text between the occurrences of a byte -/
def splitL (c : UInt8) : List UInt8 → List (List UInt8)
  | [] => [[]]
  | b :: l => if b = c then [] :: splitL c l else match splitL c l with
    | h :: t => (b :: h) :: t
    | [] => [[b]]
/-- something ahead of the first piece -/
def hd (p : List UInt8) : List (List UInt8) → List (List UInt8)
  | h :: t => (p ++ h) :: t
  | [] => [p]
theorem splitL_ne (c : UInt8) : ∀ l, splitL c l ≠ []
  | [] => by simp [splitL]
  | b :: l => by
    unfold splitL
    split
    · simp
    · split <;> simp
theorem splitL_cons (c b : UInt8) (l : List UInt8) (h : b ≠ c) : splitL c (b :: l) = hd [b] (splitL c l) := by
  rw [splitL, if_neg h]
  cases he : splitL c l with
  | nil => rfl
  | cons x t => rfl
theorem hd_hd (p q : List UInt8) (x : List (List UInt8)) (h : x ≠ []) : hd p (hd q x) = hd (p ++ q) x := by
  match x, h with
  | y :: t, _ => simp [hd]
theorem hd_nil (x : List (List UInt8)) (h : x ≠ []) : hd [] x = x := by
  match x, h with
  | y :: t, _ => rfl
theorem index_cons_ne {b c : UInt8} (l : List UInt8) (h : b ≠ c) : Lib.index (b :: l) [c] = if Lib.index l [c] == -1 then -1 else Lib.index l [c] + 1 := by
  rw [Lib.index]
  have : ([c].isPrefixOf (b :: l)) = false := by simp [List.isPrefixOf]; exact fun e => h e.symm
  rw [this]
  rfl
theorem index_cons_eq (c : UInt8) (l : List UInt8) : Lib.index (c :: l) [c] = 0 := by
  rw [Lib.index]
  simp [List.isPrefixOf]
theorem splitK_eq (c : UInt8) : ∀ (l : List UInt8), Lib.splitK [c] 0 (l.count c) l = splitL c l
  | [] => by simp [Lib.splitK, splitL]
  | b :: l => by
    have ih := splitK_eq c l
    by_cases h : b = c
    · subst h
      rw [List.count_cons_self, Lib.splitK, index_cons_eq]
      simp only [splitL, if_true]
      rw [← ih]
      simp
    · rw [List.count_cons_of_ne (by simpa using h), splitL_cons c b l h, ← ih]
      cases hk : l.count c with
      | zero => simp [Lib.splitK, hd]
      | succ k =>
        rw [Lib.splitK, Lib.splitK, index_cons_ne l h]
        by_cases hi : Lib.index l [c] = -1
        · simp [hi, hd]
        · have hg := Lib.index_ge l [c]
          obtain ⟨i, hi2⟩ : ∃ i : Nat, Lib.index l [c] = (i : Int) := ⟨(Lib.index l [c]).toNat, by omega⟩
          have h1 : ((i : Int) == -1) = false := by simp
          have h2 : ((i : Int) + 1 == -1) = false := by simp; omega
          rw [hi2, h1]
          simp only [Bool.false_eq_true, if_false]
          rw [h2]
          simp only [Bool.false_eq_true, if_false, hd]
          rw [show ((i : Int) + 1).toNat = i + 1 by omega, Int.toNat_natCast]
          simp
theorem splitB_eq (c : UInt8) (s : ByteArray) : (Lib.splitB ⟨#[c]⟩ 0 (Lib.countB s ⟨#[c]⟩) s).map (·.data.toList) = splitL c s.data.toList := by
  rw [Lib.splitB_data]
  have : Lib.countB s ⟨#[c]⟩ = s.data.toList.count c := Lib.count_one c s.data.toList
  rw [this]
  exact splitK_eq c s.data.toList
end Go.Proofs.YtfojfndmaofahaaGreatDoor.mem
