/-
  Plain laws for PlayMoves and ClearPanel: a panel in which a seat is emptied is a panel.
-/
import Derived.Test.YtkfjphjmffbpiaaStrS
import Derived.Test.YtkfjphjmffbpiaaEmpO
namespace Go.Proofs.Ytkfjphjmffbpiaa.mem
open Go.ChangeShapes Go.WideShapes Go.ChangeAt Go.RowKit

theorem strC_0 {y : SelL} {k : Int} (h : strC y k = 0) : overB y = false ∧ inB k 0 ((y.p.x.length : Int) - 1) = true ∧ y.p.x.getD k.toNat 0 ≠ 0 ∧ y.s.getD y.t.toNat 0 ≠ 0 := by
  unfold strC at h
  cases h1 : overB y
  · rw [h1] at h
    cases h2 : inB k 0 ((y.p.x.length : Int) - 1)
    · rw [h2] at h; simp at h
    · rw [h2] at h
      by_cases h3 : y.p.x.getD k.toNat 0 = 0
      · rw [if_neg (by decide), if_neg (by decide), if_pos h3] at h; cases h
      · by_cases h4 : y.s.getD y.t.toNat 0 = 0
        · rw [if_neg (by decide), if_neg (by decide), if_neg h3, if_pos h4] at h; cases h
        · exact ⟨rfl, rfl, h3, h4⟩
  · rw [h1] at h; simp at h
theorem okS_str {y : SelL} {k : Int} (hok : okS y = true) (h : strC y k = 0) : okS (strL y k) = true := by
  obtain ⟨h1, h2, h3, h4⟩ := strC_0 h
  have hk := inB_iff.1 h2
  have bd := okS_bd hok
  have hp := okS_p hok
  have hs := hok
  unfold okS areB at hs
  simp only [Bool.and_eq_true, decide_eq_true_eq] at hs
  obtain ⟨_, ⟨l2, s0, s1⟩, _⟩ := hs
  have i0 := inB_iff.1 s0
  have i1 := inB_iff.1 s1
  have hkl : k.toNat < y.p.x.length := by omega
  have hx : y.p.x[k.toNat]? = some (y.p.x.getD k.toNat 0) := by
    rw [List.getD_eq_getElem?_getD, List.getElem?_eq_getElem hkl]; rfl
  have hpo := okP_emp (k := k.toNat) hp hx h3
  unfold okS areB strL
  simp only [Bool.and_eq_true, decide_eq_true_eq, List.length_set]
  refine ⟨hpo, ⟨l2, ?_, ?_⟩, inB_yes (by omega), inB_yes (by omega)⟩
  · rcases (show y.t.toNat = 0 ∨ y.t.toNat = 1 by omega) with e | e
    · rw [e] at h4 ⊢
      refine inB_yes ?_
      rw [List.getD_eq_getElem?_getD, List.getElem?_set_self (by omega)]
      simp only [Option.getD_some]
      omega
    · rw [e]
      rw [List.getD_eq_getElem?_getD, List.getElem?_set_ne (by omega), ← List.getD_eq_getElem?_getD]
      exact s0
  · rcases (show y.t.toNat = 0 ∨ y.t.toNat = 1 by omega) with e | e
    · rw [e]
      rw [List.getD_eq_getElem?_getD, List.getElem?_set_ne (by omega), ← List.getD_eq_getElem?_getD]
      exact s1
    · rw [e] at h4 ⊢
      refine inB_yes ?_
      rw [List.getD_eq_getElem?_getD, List.getElem?_set_self (by omega)]
      simp only [Option.getD_some]
      omega
theorem okS_pass {y : SelL} (hok : okS y = true) (h : overB y = false) : okS (passL y) = true := by
  have bd := okS_bd hok
  have hs := hok
  unfold okS at hs
  simp only [Bool.and_eq_true] at hs
  have hq : y.q ≠ 2 := fun e => by
    unfold overB at h
    rw [e] at h
    simp at h
  unfold okS passL
  simp only [Bool.and_eq_true]
  exact ⟨hs.1, hs.2.1, inB_yes (by omega), inB_yes (by omega)⟩
end Go.Proofs.Ytkfjphjmffbpiaa.mem
