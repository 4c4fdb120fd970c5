/-
  Plain laws for PlayMoves and ClearPanel: a panel in which a seat is emptied is a panel.
-/
import Derived.Test.YtbkpcfncdnmknaaStrS
namespace Go.Proofs.Ytbkpcfncdnmknaa.mem
open Go.ChangeShapes Go.WideShapes Go.ChangeAt Go.RowKit

theorem nz_cons (a : Int) (xs : List Int) : nz (a :: xs) = nz [a] ++ nz xs := by
  unfold nz
  rw [show a :: xs = [a] ++ xs from rfl, List.filter_append]
theorem nz_set (v u : Int) : ∀ (xs : List Int) (k : Nat), xs[k]? = some u → (nz (xs.set k v) ++ nz [u]).Perm (nz xs ++ nz [v])
  | [], k, h => by simp at h
  | a :: bs, 0, h => by
    have e : a = u := by simpa using h
    subst e
    rw [List.set_cons_zero, nz_cons v bs, nz_cons a bs, List.perm_iff_count]
    intro x
    simp only [List.count_append]
    omega
  | a :: bs, k + 1, h => by
    have ih := nz_set v u bs k (by simpa using h)
    rw [List.set_cons_succ, nz_cons a (bs.set k v), nz_cons a bs, List.perm_iff_count]
    intro x
    have := List.perm_iff_count.1 ih x
    simp only [List.count_append] at this ⊢
    omega
theorem allP_emp {l : L3} {k : Nat} {u : Int} (h : l.x[k]? = some u) (hu : u ≠ 0) (hy : ∀ y0, l.y[0]? = some y0 → y0 ≠ 0) : (allP (empL l k)).Perm (allP l) := by
  have e : l.x.getD k 0 = u := by rw [List.getD_eq_getElem?_getD, h]; rfl
  have n1 : nz [u] = [u] := by unfold nz; simp [hu]
  unfold allP empL
  simp only [e]
  cases hl : l.y with
  | nil =>
    have hp := List.perm_iff_count.1 (nz_set 0 u l.x k h)
    rw [n1] at hp
    rw [List.perm_iff_count]
    intro x
    have := hp x
    have h0 : nz [(0 : Int)] = [] := rfl
    rw [h0] at this
    simp only [List.headD_nil, List.tail_nil, List.nil_append, List.count_append, List.count_nil] at this ⊢
    omega
  | cons y0 ys =>
    have hy0 : y0 ≠ 0 := hy y0 (by rw [hl]; rfl)
    have n2 : nz [y0] = [y0] := by unfold nz; simp [hy0]
    have hp := List.perm_iff_count.1 (nz_set y0 u l.x k h)
    rw [n1, n2] at hp
    rw [List.perm_iff_count]
    intro x
    have := hp x
    simp only [List.headD_cons, List.tail_cons, List.count_append, List.count_cons, List.count_nil] at this ⊢
    omega
theorem okP_emp {l : L3} {k : Nat} {u : Int} (hok : okP l = true) (h : l.x[k]? = some u) (hu : u ≠ 0) : okP (empL l k) = true := by
  obtain ⟨h1, h2, h3, h4⟩ := okP_iff.1 hok
  have hy : ∀ y0, l.y[0]? = some y0 → y0 ≠ 0 := fun y0 e e0 => by
    have hm : y0 ∈ allP l := by
      unfold allP
      exact List.mem_append_right _ (List.mem_append_left _ (List.mem_of_getElem? e))
    have := (h3.1 y0 hm).1
    omega
  have hp := allP_emp h hu hy
  refine okP_iff.2 ⟨by unfold empL; simpa using h1, by rw [hp.length_eq]; exact h2, (distP_perm hp).2 h3, fun ⟨a, b⟩ => ?_⟩
  unfold empL at a b
  simp only at a b
  cases hl : l.y with
  | nil => rw [hl] at b; simp at b
  | cons y0 ys =>
    rw [hl] at a
    simp only [List.headD_cons] at a
    rcases List.mem_or_eq_of_mem_set a with hx | hx
    · exact h4 ⟨hx, by rw [hl]; simp⟩
    · exact hy y0 (by rw [hl]; rfl) hx.symm
theorem strC_0 {y : SelL} {k : Int} (h : strC y k = 0) : overB y = false ∧ inB k 0 ((y.p.x.length : Int) - 1) = true ∧ y.p.x.getD k.toNat 0 ≠ 0 ∧ y.s.getD y.t.toNat 0 ≠ 0 := by
  unfold strC at h
  cases h1 : overB y
  · rw [h1] at h
    cases h2 : inB k 0 ((y.p.x.length : Int) - 1)
    · rw [h2] at h; simp at h
    · rw [h2] at h
      by_cases h3 : y.p.x.getD k.toNat 0 = 0
      · rw [if_neg (by decide), if_neg (by decide), if_pos h3] at h; cases h
      · by_cases h4 : y.s.getD y.t.toNat 0 = 0
        · rw [if_neg (by decide), if_neg (by decide), if_neg h3, if_pos h4] at h; cases h
        · exact ⟨rfl, rfl, h3, h4⟩
  · rw [h1] at h; simp at h
theorem okS_str {y : SelL} {k : Int} (hok : okS y = true) (h : strC y k = 0) : okS (strL y k) = true := by
  obtain ⟨h1, h2, h3, h4⟩ := strC_0 h
  have hk := inB_iff.1 h2
  have bd := okS_bd hok
  have hp := okS_p hok
  have hs := hok
  unfold okS areB at hs
  simp only [Bool.and_eq_true, decide_eq_true_eq] at hs
  obtain ⟨_, ⟨l2, s0, s1⟩, _⟩ := hs
  have i0 := inB_iff.1 s0
  have i1 := inB_iff.1 s1
  have hkl : k.toNat < y.p.x.length := by omega
  have hx : y.p.x[k.toNat]? = some (y.p.x.getD k.toNat 0) := by
    rw [List.getD_eq_getElem?_getD, List.getElem?_eq_getElem hkl]; rfl
  have hpo := okP_emp (k := k.toNat) hp hx h3
  unfold okS areB strL
  simp only [Bool.and_eq_true, decide_eq_true_eq, List.length_set]
  refine ⟨hpo, ⟨l2, ?_, ?_⟩, inB_yes (by omega), inB_yes (by omega)⟩
  · rcases (show y.t.toNat = 0 ∨ y.t.toNat = 1 by omega) with e | e
    · rw [e] at h4 ⊢
      refine inB_yes ?_
      rw [List.getD_eq_getElem?_getD, List.getElem?_set_self (by omega)]
      simp only [Option.getD_some]
      omega
    · rw [e]
      rw [List.getD_eq_getElem?_getD, List.getElem?_set_ne (by omega), ← List.getD_eq_getElem?_getD]
      exact s0
  · rcases (show y.t.toNat = 0 ∨ y.t.toNat = 1 by omega) with e | e
    · rw [e]
      rw [List.getD_eq_getElem?_getD, List.getElem?_set_ne (by omega), ← List.getD_eq_getElem?_getD]
      exact s1
    · rw [e] at h4 ⊢
      refine inB_yes ?_
      rw [List.getD_eq_getElem?_getD, List.getElem?_set_self (by omega)]
      simp only [Option.getD_some]
      omega
theorem okS_pass {y : SelL} (hok : okS y = true) (h : overB y = false) : okS (passL y) = true := by
  have bd := okS_bd hok
  have hs := hok
  unfold okS at hs
  simp only [Bool.and_eq_true] at hs
  have hq : y.q ≠ 2 := fun e => by
    unfold overB at h
    rw [e] at h
    simp at h
  unfold okS passL
  simp only [Bool.and_eq_true]
  exact ⟨hs.1, hs.2.1, inB_yes (by omega), inB_yes (by omega)⟩
end Go.Proofs.Ytbkpcfncdnmknaa.mem
