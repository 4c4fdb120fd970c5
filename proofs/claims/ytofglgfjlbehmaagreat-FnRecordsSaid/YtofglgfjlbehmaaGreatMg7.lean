/-
  The contract of the program's leave.
  Contracts of both programs' LeaveJury.
  Plain laws: a panel in which a seat is emptied is a panel.
  Plain laws for juries that somebody leaves.
-/
import Derived.Test.YtofglgfjlbehmaaGreatLv
import Derived.Test.YtofglgfjlbehmaaGreatEmpL
import Derived.Test.YtofglgfjlbehmaaGreatMg6
namespace Go.Proofs.YtofglgfjlbehmaaGreat.mem
open Go.ChangeShapes Go.WideShapes Go.ChangeAt Go.RowKit

def lvW (l : L3) (x : Int) : L3 := if lvC l x = 0 then lvV l x else nilL3
theorem lvW_no {l : L3} {x c : Int} (h : lvC l x = c) (hc : c ≠ 0) : lvW l x = nilL3 := by
  unfold lvW
  rw [h, if_neg hc]
theorem lvW_yes {l : L3} {x : Int} (h : lvC l x = 0) : lvW l x = lvV l x := by
  unfold lvW
  rw [if_pos h]
theorem okJ_y {l : L3} (h : okJ l = true) : l.y.Nodup := by
  unfold okJ at h
  simp only [Bool.and_eq_true, decide_eq_true_eq, distB] at h
  have h1 := h.2.2.2.1.2
  unfold allP at h1
  exact (List.nodup_append.1 (List.nodup_append.1 h1).2.1).1
end Go.Proofs.YtofglgfjlbehmaaGreat.mem
namespace Go.Proofs.YtofglgfjlbehmaaGreat.mem
open Go.ChangeShapes Go.WideShapes Go.ChangeAt Go.RowKit

def ljC (l : L3) (x : Int) : Int := if okJ l = true then (if inB x 1 1000000 = true then lvC l x else 2) else 1
def ljV (l : L3) (x : Int) : L3 := if ljC l x = 0 then lvV l x else nilL3
theorem ljV_no {l : L3} {x c : Int} (h : ljC l x = c) (hc : c ≠ 0) : ljV l x = nilL3 := by
  unfold ljV
  rw [h, if_neg hc]
theorem ljV_yes {l : L3} {x : Int} (h : ljC l x = 0) : ljV l x = lvV l x := by
  unfold ljV
  rw [if_pos h]
end Go.Proofs.YtofglgfjlbehmaaGreat.mem
namespace Go.Proofs.YtofglgfjlbehmaaGreat.mem
open Go.ChangeShapes Go.WideShapes Go.ChangeAt Go.RowKit

theorem nz_cons (a : Int) (xs : List Int) : nz (a :: xs) = nz [a] ++ nz xs := by
  unfold nz
  rw [show a :: xs = [a] ++ xs from rfl, List.filter_append]
theorem nz_set (v u : Int) : ∀ (xs : List Int) (k : Nat), xs[k]? = some u → (nz (xs.set k v) ++ nz [u]).Perm (nz xs ++ nz [v])
  | [], k, h => by simp at h
  | a :: bs, 0, h => by
    have e : a = u := by simpa using h
    subst e
    rw [List.set_cons_zero, nz_cons v bs, nz_cons a bs, List.perm_iff_count]
    intro x
    simp only [List.count_append]
    omega
  | a :: bs, k + 1, h => by
    have ih := nz_set v u bs k (by simpa using h)
    rw [List.set_cons_succ, nz_cons a (bs.set k v), nz_cons a bs, List.perm_iff_count]
    intro x
    have := List.perm_iff_count.1 ih x
    simp only [List.count_append] at this ⊢
    omega
theorem allP_emp {l : L3} {k : Nat} {u : Int} (h : l.x[k]? = some u) (hu : u ≠ 0) (hy : ∀ y0, l.y[0]? = some y0 → y0 ≠ 0) : (allP (empL l k)).Perm (allP l) := by
  have e : l.x.getD k 0 = u := by rw [List.getD_eq_getElem?_getD, h]; rfl
  have n1 : nz [u] = [u] := by unfold nz; simp [hu]
  unfold allP empL
  simp only [e]
  cases hl : l.y with
  | nil =>
    have hp := List.perm_iff_count.1 (nz_set 0 u l.x k h)
    rw [n1] at hp
    rw [List.perm_iff_count]
    intro x
    have := hp x
    have h0 : nz [(0 : Int)] = [] := rfl
    rw [h0] at this
    simp only [List.headD_nil, List.tail_nil, List.nil_append, List.count_append, List.count_nil] at this ⊢
    omega
  | cons y0 ys =>
    have hy0 : y0 ≠ 0 := hy y0 (by rw [hl]; rfl)
    have n2 : nz [y0] = [y0] := by unfold nz; simp [hy0]
    have hp := List.perm_iff_count.1 (nz_set y0 u l.x k h)
    rw [n1, n2] at hp
    rw [List.perm_iff_count]
    intro x
    have := hp x
    simp only [List.headD_cons, List.tail_cons, List.count_append, List.count_cons, List.count_nil] at this ⊢
    omega
theorem okP_emp {l : L3} {k : Nat} {u : Int} (hok : okP l = true) (h : l.x[k]? = some u) (hu : u ≠ 0) : okP (empL l k) = true := by
  obtain ⟨h1, h2, h3, h4⟩ := okP_iff.1 hok
  have hy : ∀ y0, l.y[0]? = some y0 → y0 ≠ 0 := fun y0 e e0 => by
    have hm : y0 ∈ allP l := by
      unfold allP
      exact List.mem_append_right _ (List.mem_append_left _ (List.mem_of_getElem? e))
    have := (h3.1 y0 hm).1
    omega
  have hp := allP_emp h hu hy
  refine okP_iff.2 ⟨by unfold empL; simpa using h1, by rw [hp.length_eq]; exact h2, (distP_perm hp).2 h3, fun ⟨a, b⟩ => ?_⟩
  unfold empL at a b
  simp only at a b
  cases hl : l.y with
  | nil => rw [hl] at b; simp at b
  | cons y0 ys =>
    rw [hl] at a
    simp only [List.headD_cons] at a
    rcases List.mem_or_eq_of_mem_set a with hx | hx
    · exact h4 ⟨hx, by rw [hl]; simp⟩
    · exact hy y0 (by rw [hl]; rfl) hx.symm
end Go.Proofs.YtofglgfjlbehmaaGreat.mem
namespace Go.Proofs.YtofglgfjlbehmaaGreat.mem

theorem okJ_iff {l : L3} : okJ l = true ↔ (1 ≤ l.x.length ∧ l.x.length ≤ 12) ∧ l.y.length ≤ 6 ∧ l.z.length ≤ 60 ∧ distP (allP l) ∧ ¬(0 ∈ l.x ∧ 0 < l.y.length) := by
  simp only [okJ, Bool.and_eq_true, decide_eq_true_eq, inB_iff, distB, hasB, Bool.not_eq_true', Bool.and_eq_false_iff, decide_eq_false_iff_not]
  constructor
  · rintro ⟨⟨a, b⟩, c, d, e, f⟩
    exact ⟨⟨by omega, by omega⟩, c, d, e, fun h => f.elim (fun g => g h.1) (fun g => g h.2)⟩
  · rintro ⟨⟨a, b⟩, c, d, e, f⟩
    refine ⟨⟨by omega, by omega⟩, c, d, e, ?_⟩
    rcases Classical.em (0 ∈ l.x) with h | h
    · exact .inr fun h2 => f ⟨h, h2⟩
    · exact .inl h
theorem okJ_y0 {l : L3} (h : okJ l = true) : ∀ y0, l.y[0]? = some y0 → y0 ≠ 0 := fun y0 e e0 => by
  obtain ⟨_, _, _, h4, _⟩ := okJ_iff.1 h
  have hm : y0 ∈ allP l := List.mem_append_right _ (List.mem_append_left _ (List.mem_of_getElem? e))
  have := (h4.1 y0 hm).1
  omega
theorem idx_get {xs : List Int} {x : Int} (h : x ∈ xs) : xs[xs.idxOf x]? = some x := by
  have hlt := List.idxOf_lt_length_of_mem h
  rw [List.getElem?_eq_getElem hlt, List.getElem_idxOf]
/-- one who waits is taken out: the others stay, in their order -/
theorem cut_perm {ys : List Int} {x : Int} (h : x ∈ ys) : (ys.take (ys.idxOf x) ++ ys.drop (ys.idxOf x + 1) ++ [x]).Perm ys := by
  have hg := idx_get h
  have hlt := (List.getElem?_eq_some_iff.1 hg).1
  have e : ys = ys.take (ys.idxOf x) ++ (x :: ys.drop (ys.idxOf x + 1)) := by
    conv => lhs; rw [← List.take_append_drop (ys.idxOf x) ys]
    rw [List.drop_eq_getElem_cons hlt]
    congr 2
    have := List.getElem?_eq_some_iff.1 hg
    exact this.2
  conv => rhs; rw [e]
  rw [List.append_assoc]
  exact List.Perm.append_left _ (List.perm_append_comm (l₁ := ys.drop (ys.idxOf x + 1)) (l₂ := [x]))
theorem lv_perm {l : L3} {x : Int} (hok : okJ l = true) (hx : x ≠ 0) (hm : x ∈ l.x ∨ x ∈ l.y) : (allP (lvV l x)).Perm (allP l) := by
  unfold lvV
  split
  · rename_i h
    have e : (⟨l.x.set (l.x.idxOf x) (l.y.headD 0), l.y.tail, l.z ++ [x]⟩ : L3) = empL l (l.x.idxOf x) := by
      have hg := idx_get h
      unfold empL
      rw [List.getD_eq_getElem?_getD, hg]
      rfl
    rw [e]
    exact allP_emp (idx_get h) hx (okJ_y0 hok)
  · rename_i h
    have hy : x ∈ l.y := hm.resolve_left h
    have hp := cut_perm hy
    unfold allP
    simp only
    refine List.Perm.append_left _ ?_
    rw [List.perm_iff_count] at hp ⊢
    intro a
    have := hp a
    simp only [List.count_append] at this ⊢
    omega
theorem ljC_0 {l : L3} {x : Int} (h : ljC l x = 0) : okJ l = true ∧ (1 ≤ x ∧ x ≤ 1000000) ∧ (x ∈ l.x ∨ x ∈ l.y) ∧ l.z.length ≠ 60 := by
  unfold ljC at h
  split at h
  · rename_i h1
    split at h
    · rename_i h2
      unfold lvC at h
      split at h
      · rename_i h3
        split at h
        · cases h
        · rename_i h4
          exact ⟨h1, inB_iff.1 h2, h3, h4⟩
      · cases h
    · cases h
  · cases h
theorem lv_lens {l : L3} {x : Int} (hm : x ∈ l.x ∨ x ∈ l.y) : (lvV l x).x.length = l.x.length ∧ (lvV l x).y.length = l.y.length - 1 ∧ (lvV l x).z.length = l.z.length + 1 := by
  unfold lvV
  split
  · exact ⟨by simp, by simp, by simp⟩
  · rename_i h
    have hy : x ∈ l.y := hm.resolve_left h
    have := List.idxOf_lt_length_of_mem hy
    refine ⟨rfl, ?_, by simp⟩
    simp only [List.length_append, List.length_take, List.length_drop]
    omega
theorem okJ_lv {l : L3} {x : Int} (h : ljC l x = 0) : okJ (lvV l x) = true := by
  obtain ⟨h1, h2, h3, h4⟩ := ljC_0 h
  obtain ⟨⟨a, b⟩, c, d, e, f⟩ := okJ_iff.1 h1
  obtain ⟨e1, e2, e3⟩ := lv_lens h3
  have hx0 : x ≠ 0 := by omega
  refine okJ_iff.2 ⟨by omega, by omega, by omega, (distP_perm (lv_perm h1 hx0 h3)).2 e, ?_⟩
  rintro ⟨g1, g2⟩
  unfold lvV at g1 g2
  split at g1
  · rename_i hx
    rw [if_pos hx] at g2
    simp only at g1 g2
    cases hl : l.y with
    | nil => rw [hl] at g2; simp at g2
    | cons y0 ys =>
      rw [hl] at g1
      simp only [List.headD_cons] at g1
      rcases List.mem_or_eq_of_mem_set g1 with hh | hh
      · exact f ⟨hh, by rw [hl]; simp⟩
      · exact okJ_y0 h1 y0 (by rw [hl]; rfl) hh.symm
  · rename_i hx
    rw [if_neg hx] at g2
    simp only at g1 g2
    have hy : x ∈ l.y := h3.resolve_left hx
    exact f ⟨g1, List.length_pos_of_mem hy⟩
/-- somebody who has left has left: their role is 3 -/
theorem role_lv {l : L3} {x : Int} (h : ljC l x = 0) : roleV (lvV l x) x = 3 := by
  obtain ⟨h1, h2, h3, h4⟩ := ljC_0 h
  have hok := okJ_lv h
  obtain ⟨_, _, _, e, _⟩ := okJ_iff.1 hok
  have hz : x ∈ (lvV l x).z := by
    unfold lvV
    split
    · simp
    · simp
  have hn := e.2
  unfold allP at hn
  have hn2 := (List.nodup_append.1 hn).2.2
  have hn3 := (List.nodup_append.1 (List.nodup_append.1 hn).2.1).2.2
  have hx0 : x ≠ 0 := by omega
  have a1 : hasB (lvV l x).x x = false := decide_eq_false fun hm => by
    have : x ∈ nz (lvV l x).x := List.mem_filter.2 ⟨hm, by simpa using hx0⟩
    exact hn2 x this x (List.mem_append_right _ hz) rfl
  have a2 : hasB (lvV l x).y x = false := decide_eq_false fun hm => hn3 x hm x hz rfl
  have a3 : hasB (lvV l x).z x = true := decide_eq_true hz
  unfold roleV
  rw [if_pos ⟨hok, inB_yes h2⟩, a1, a2, a3]
  rfl
theorem lv_count {l : L3} {x : Int} (h : ljC l x = 0) : (nz l.x).length + l.y.length = (nz (lvV l x).x).length + (lvV l x).y.length + 1 ∧ (l.y.length = 0 ∨ (nz (lvV l x).x).length = (nz l.x).length) := by
  obtain ⟨h1, h2, h3, h4⟩ := ljC_0 h
  obtain ⟨e1, e2, e3⟩ := lv_lens h3
  have hp := (lv_perm h1 (by omega) h3).length_eq
  simp only [allP, List.length_append] at hp
  omega
/-- each of them may leave, one behind the other -/
def chainOk : L3 → List Int → Prop
  | _, [] => True
  | l, m :: ms => ljC l m = 0 ∧ chainOk (lvV l m) ms
def lvN (l : L3) (ms : List Int) : L3 := ms.foldl lvV l
theorem chain_at : ∀ {ms : List Int} {l : L3} {i : Nat} {m : Int}, chainOk l ms → ms[i]? = some m → ljC (lvN l (ms.take i)) m = 0
  | a :: ms, l, 0, m, h, hm => by
    simp only [List.getElem?_cons_zero, Option.some.injEq] at hm
    subst hm
    exact h.1
  | a :: ms, l, i + 1, m, h, hm => by
    simp only [List.getElem?_cons_succ] at hm
    exact chain_at (l := lvV l a) h.2 hm
theorem lvN_snoc (l : L3) (ms : List Int) (m : Int) : lvN l (ms ++ [m]) = lvV (lvN l ms) m := by
  unfold lvN
  rw [List.foldl_append]
  rfl
theorem lvN_len (l : L3) : ∀ (ms : List Int), (lvN l ms).x.length = l.x.length := fun ms => by
  unfold lvN
  induction ms generalizing l with
  | nil => rfl
  | cons m ms ih =>
    rw [List.foldl_cons, ih]
    unfold lvV
    split
    · simp
    · rfl
end Go.Proofs.YtofglgfjlbehmaaGreat.mem
