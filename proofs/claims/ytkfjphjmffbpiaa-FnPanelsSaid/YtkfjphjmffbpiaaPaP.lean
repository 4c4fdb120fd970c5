/-
  Plain laws: nobody is lost when a seat is emptied or a panel is made.
-/
import Derived.Test.YtkfjphjmffbpiaaEmpty
import Derived.Test.YtkfjphjmffbpiaaMk
import Derived.Test.YtkfjphjmffbpiaaEmpO
namespace Go.Proofs.Ytkfjphjmffbpiaa.mem

theorem okC_full {l : L3} (h : okC l = 0) : fullV l = decide ((nz l.x).length = l.x.length) := by
  unfold okC at h
  split at h
  · rename_i h1
    unfold fullV hasB
    rw [h1, Bool.true_and, ← decide_not, decide_eq_decide]
    exact (nz_full l.x).symm
  · omega
theorem emp_get {l : L3} {k : Int} (h : empC l k = 0) : okP l = true ∧ (0 ≤ k ∧ k.toNat < l.x.length) ∧ ∃ u, l.x[k.toNat]? = some u ∧ u ≠ 0 := by
  unfold empC at h
  split at h
  · rename_i h1
    split at h
    · rename_i h2
      have h2 := inB_iff.1 h2
      split at h
      · omega
      · rename_i h3
        refine ⟨h1, by omega, ?_⟩
        have hk : k.toNat < l.x.length := by omega
        rw [List.getD_eq_getElem?_getD, List.getElem?_eq_getElem hk] at h3
        exact ⟨_, List.getElem?_eq_getElem hk, h3⟩
    · omega
  · omega
theorem okP_wait {l : L3} (h : okP l = true) : ∀ y0, l.y[0]? = some y0 → y0 ≠ 0 := fun y0 e e0 => by
  obtain ⟨_, _, h3, _⟩ := okP_iff.1 h
  have hm : y0 ∈ allP l := List.mem_append_right _ (List.mem_append_left _ (List.mem_of_getElem? e))
  have := (h3.1 y0 hm).1
  omega
theorem emp_len {l : L3} {k : Int} (h : empC l k = 0) :
    (nz (empL l k.toNat).x).length + (empL l k.toNat).y.length + (empL l k.toNat).z.length = (nz l.x).length + l.y.length + l.z.length ∧ okP (empL l k.toNat) = true ∧
    (empL l k.toNat).x.length = l.x.length ∧ (empL l k.toNat).x.getD k.toNat 0 = l.y.headD 0 := by
  obtain ⟨h1, ⟨h2, h3⟩, u, hu, hu0⟩ := emp_get h
  have hp := (allP_emp hu hu0 (okP_wait h1)).length_eq
  simp only [allP, List.length_append] at hp
  refine ⟨by omega, okP_emp h1 hu hu0, by simp [empL], ?_⟩
  simp [empL, List.getD_eq_getElem?_getD, List.getElem?_set_self h3]
theorem head_pos {l : L3} (h : okP l = true) : (l.y.headD 0 != 0) = decide (0 < l.y.length) := by
  cases hl : l.y with
  | nil => rfl
  | cons y0 ys =>
    have := okP_wait h y0 (by rw [hl]; rfl)
    simp [this]
theorem mk_len {xs : List Int} {s : Int} (h : (mkR xs s).2 = 0) : (nz (mkR xs s).1.x).length + (mkR xs s).1.y.length = xs.length ∧ okP (mkR xs s).1 = true := by
  unfold mkR at h ⊢
  split at h
  · rename_i h1
    split at h
    · cases h
    · rename_i h2
      rw [if_pos h1, if_neg h2]
      simp only [Bool.or_eq_true, Bool.not_eq_true', not_or, Bool.not_eq_true, Bool.not_eq_false] at h2
      refine ⟨?_, h2.2⟩
      have h0 : (0 : Int) ∉ xs := of_decide_eq_false h2.1
      have e : nz (mkL xs s.toNat).x = xs.take s.toNat := by
        simp only [mkL]
        unfold nz
        rw [List.filter_append, List.drop_replicate, List.filter_replicate]
        simp only [bne_self_eq_false, Bool.false_eq_true, if_false, List.append_nil]
        rw [List.filter_eq_self]
        intro a ha
        simp only [bne_iff_ne, ne_eq]
        rintro rfl
        exact h0 (List.mem_of_mem_take ha)
      show (nz (mkL xs s.toNat).x).length + (mkL xs s.toNat).y.length = xs.length
      rw [e]
      simp only [mkL, List.length_take, List.length_drop]
      omega
  · cases h
end Go.Proofs.Ytkfjphjmffbpiaa.mem
