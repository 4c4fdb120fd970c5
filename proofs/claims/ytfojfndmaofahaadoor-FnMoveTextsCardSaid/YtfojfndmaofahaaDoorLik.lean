/-
  Equal lists are alike; what the text of moves tells.
-/
import Derived.Test.YtfojfndmaofahaaDoorInts
import Derived.Test.YtfojfndmaofahaaDoorTw
namespace Go.Proofs.YtfojfndmaofahaaDoor.mem
open Go.ChangeShapes Go.WideShapes Go.ChangeAt Go.RowKit

theorem mt_yes {ms : List Int} (h : mtC ms = 0) : mtV ms = mvsT ms ∧ movB ms = true ∧ ms.length ≤ 40 := by
  refine ⟨by unfold mtV; rw [if_pos h], ?_⟩
  unfold mtC at h
  split at h
  · rename_i h1
    split at h
    · rename_i h2; exact ⟨h1, h2⟩
    · omega
  · omega
theorem mt_of {ms : List Int} (h1 : movB ms = true) (h2 : ms.length ≤ 40) : mtC ms = 0 ∧ mtV ms = mvsT ms := by
  have h : mtC ms = 0 := by unfold mtC; rw [if_pos h1, if_pos h2]
  exact ⟨h, by unfold mtV; rw [if_pos h]⟩
theorem mvsT_szM {ms : List Int} (h : movB ms = true) (hl : ms.length ≤ 40) : (mvsT ms).size ≤ 100000 := by
  unfold mvsT
  split
  · decide
  · have := joinW_size (ss := ms.map mvT) (sep := ⟨#[44]⟩) (b := 1000) (c := 1) (mvT_le h) (by decide) (ms.map mvT).length (Nat.le_refl _)
    rw [List.take_length] at this
    simp only [List.length_map] at this
    omega
end Go.Proofs.YtfojfndmaofahaaDoor.mem
