/-
  Plain laws: a panel in which a seat is emptied is a panel.
-/
import Derived.Test.YtmcnnbjgehmmoaaEmpL
namespace Go.Proofs.Ytmcnnbjgehmmoaa.mem
open Go.ChangeShapes Go.WideShapes Go.ChangeAt Go.RowKit

theorem nz_cons (a : Int) (xs : List Int) : nz (a :: xs) = nz [a] ++ nz xs := by
  unfold nz
  rw [show a :: xs = [a] ++ xs from rfl, List.filter_append]
theorem nz_set (v u : Int) : ∀ (xs : List Int) (k : Nat), xs[k]? = some u → (nz (xs.set k v) ++ nz [u]).Perm (nz xs ++ nz [v])
  | [], k, h => by simp at h
  | a :: bs, 0, h => by
    have e : a = u := by simpa using h
    subst e
    rw [List.set_cons_zero, nz_cons v bs, nz_cons a bs, List.perm_iff_count]
    intro x
    simp only [List.count_append]
    omega
  | a :: bs, k + 1, h => by
    have ih := nz_set v u bs k (by simpa using h)
    rw [List.set_cons_succ, nz_cons a (bs.set k v), nz_cons a bs, List.perm_iff_count]
    intro x
    have := List.perm_iff_count.1 ih x
    simp only [List.count_append] at this ⊢
    omega
theorem allP_emp {l : L3} {k : Nat} {u : Int} (h : l.x[k]? = some u) (hu : u ≠ 0) (hy : ∀ y0, l.y[0]? = some y0 → y0 ≠ 0) : (allP (empL l k)).Perm (allP l) := by
  have e : l.x.getD k 0 = u := by rw [List.getD_eq_getElem?_getD, h]; rfl
  have n1 : nz [u] = [u] := by unfold nz; simp [hu]
  unfold allP empL
  simp only [e]
  cases hl : l.y with
  | nil =>
    have hp := List.perm_iff_count.1 (nz_set 0 u l.x k h)
    rw [n1] at hp
    rw [List.perm_iff_count]
    intro x
    have := hp x
    have h0 : nz [(0 : Int)] = [] := rfl
    rw [h0] at this
    simp only [List.headD_nil, List.tail_nil, List.nil_append, List.count_append, List.count_nil] at this ⊢
    omega
  | cons y0 ys =>
    have hy0 : y0 ≠ 0 := hy y0 (by rw [hl]; rfl)
    have n2 : nz [y0] = [y0] := by unfold nz; simp [hy0]
    have hp := List.perm_iff_count.1 (nz_set y0 u l.x k h)
    rw [n1, n2] at hp
    rw [List.perm_iff_count]
    intro x
    have := hp x
    simp only [List.headD_cons, List.tail_cons, List.count_append, List.count_cons, List.count_nil] at this ⊢
    omega
theorem okP_emp {l : L3} {k : Nat} {u : Int} (hok : okP l = true) (h : l.x[k]? = some u) (hu : u ≠ 0) : okP (empL l k) = true := by
  obtain ⟨h1, h2, h3, h4⟩ := okP_iff.1 hok
  have hy : ∀ y0, l.y[0]? = some y0 → y0 ≠ 0 := fun y0 e e0 => by
    have hm : y0 ∈ allP l := by
      unfold allP
      exact List.mem_append_right _ (List.mem_append_left _ (List.mem_of_getElem? e))
    have := (h3.1 y0 hm).1
    omega
  have hp := allP_emp h hu hy
  refine okP_iff.2 ⟨by unfold empL; simpa using h1, by rw [hp.length_eq]; exact h2, (distP_perm hp).2 h3, fun ⟨a, b⟩ => ?_⟩
  unfold empL at a b
  simp only at a b
  cases hl : l.y with
  | nil => rw [hl] at b; simp at b
  | cons y0 ys =>
    rw [hl] at a
    simp only [List.headD_cons] at a
    rcases List.mem_or_eq_of_mem_set a with hx | hx
    · exact h4 ⟨hx, by rw [hl]; simp⟩
    · exact hy y0 (by rw [hl]; rfl) hx.symm
end Go.Proofs.Ytmcnnbjgehmmoaa.mem
