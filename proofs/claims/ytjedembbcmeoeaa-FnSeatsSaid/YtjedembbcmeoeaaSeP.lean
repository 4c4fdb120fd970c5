/-
  Plain laws: who is found sits, or has gone, where they are found.
-/
import Derived.Test.YtjedembbcmeoeaaPTop
namespace Go.Proofs.Ytjedembbcmeoeaa.mem
theorem plc_get {xs : List Int} {x : Int} (h : ¬ plc xs x < 0) : ∃ k : Nat, plc xs x = k ∧ xs[k]? = some x := by
  have hm : x ∈ xs := Classical.byContradiction fun hn => h (plc_neg.2 hn)
  refine ⟨xs.idxOf x, by unfold plc; rw [if_pos hm], ?_⟩
  have hlt := List.idxOf_lt_length_of_mem hm
  rw [List.getElem?_eq_getElem hlt, List.getElem_idxOf]
theorem plcC_get {ok : Bool} {xs : List Int} {x : Int} (h : plcC ok xs x = 0) : ∃ k : Nat, plcV ok xs x = k ∧ xs[k]? = some x := by
  unfold plcC at h
  split at h
  · rename_i h1
    split at h
    · omega
    · rename_i h2
      obtain ⟨k, e, hk⟩ := plc_get h2
      exact ⟨k, by unfold plcV; rw [if_pos h1, if_neg h2, e], hk⟩
  · omega
theorem seatC_get {ok : Bool} {xs : List Int} {x : Int} (h : seatC ok xs x = 0) : ∃ k : Nat, seatV ok xs x = k ∧ xs[k]? = some x := by
  unfold seatC at h
  split at h
  · rename_i h1
    split at h
    · omega
    · rename_i h2
      obtain ⟨k, e, hk⟩ := plc_get (fun hn => h2 (.inl hn))
      exact ⟨k, by unfold seatV; rw [if_pos h1, if_neg h2, e], hk⟩
  · omega
end Go.Proofs.Ytjedembbcmeoeaa.mem
