/-
  Contracts of both programs' EmptySeat.
  A panel cleared of all for whom B holds: the least seat with such a one is emptied, as long as there is one. No program in sight.
-/
import Derived.Test.YtofglgfjlbehmaaGreatEmp
import Derived.Test.YtofglgfjlbehmaaGreatEmpS
import Derived.Test.YtofglgfjlbehmaaGreatEmpL
namespace Go.Proofs.YtofglgfjlbehmaaGreat.mem
open Go.ChangeShapes Go.WideShapes Go.ChangeAt Go.RowKit

def nilP : S3 := ⟨⟨none, 0, 0⟩, ⟨none, 0, 0⟩, ⟨none, 0, 0⟩⟩
theorem Own3.nilP (w : World) (lo : Nat) : Own3 w lo nilP ⟨[], [], []⟩ :=
  ⟨Own.nil_ _ _, Own.nil_ _ _, Own.nil_ _ _, by simp [mem.nilP], (by intro k hk; cases hk), (by intro k hk; cases hk), (by intro k hk; cases hk)⟩
theorem Own3.offP {w : World} {lo : Nat} {p : S3} {l : L3} (h : Own3 w lo p l) (b i : Nat) (hb : b < lo) (u : Value) : Own3 (w.setCell ⟨b, i, none⟩ u) lo p l :=
  ⟨h.1.off b i hb u, h.2.1.off b i hb u, h.2.2.1.off b i hb u, h.2.2.2⟩
def empC (l : L3) (k : Int) : Int := if okP l = true then (if inB k 0 ((l.x.length : Int) - 1) = true then (if l.x.getD k.toNat 0 = 0 then 5 else 0) else 2) else 1
def empV (l : L3) (k : Int) : L3 := if empC l k = 0 then empL l k.toNat else ⟨[], [], []⟩
theorem empV_no {l : L3} {k c : Int} (h : empC l k = c) (hc : c ≠ 0) : empV l k = ⟨[], [], []⟩ := by
  unfold empV
  rw [h, if_neg hc]
theorem empV_yes {l : L3} {k : Int} (h : empC l k = 0) : empV l k = empL l k.toNat := by
  unfold empV
  rw [if_pos h]
theorem okP_small {l : L3} (h : okP l = true) : l.x.length + (l.y.length + l.z.length) ≤ 100000 := by
  have h1 := okP_iff.1 h
  have h2 := h1.2.1
  unfold allP at h2
  simp only [List.length_append] at h2
  omega
end Go.Proofs.YtofglgfjlbehmaaGreat.mem
namespace Go.Proofs.YtofglgfjlbehmaaGreat.mem

def fb (B : Int → Bool) (xs : List Int) : Option Nat := xs.findIdx? (fun x => x != 0 && B x)
def mz (l : L3) : Nat := (nz l.x).length + l.y.length
theorem mz_emp {l : L3} {k : Nat} {y : Int} (hk : l.x[k]? = some y) (h : y ≠ 0) : mz (empL l k) < mz l := by
  obtain ⟨hlt, hy⟩ := List.getElem?_eq_some_iff.1 hk
  have h1 : (y != 0) = true := by simpa using h
  have h2 : 0 < l.x.countP (fun x => x != 0) := List.countP_pos_iff.2 ⟨y, hy ▸ List.getElem_mem hlt, h1⟩
  have key : ∀ v : Int, (nz (l.x.set k v)).length ≤ (nz l.x).length ∧ (v = 0 → (nz (l.x.set k v)).length < (nz l.x).length) := by
    intro v
    unfold nz
    simp only [← List.countP_eq_length_filter]
    rw [List.countP_set hlt, hy, if_pos h1]
    by_cases hv : v = 0
    · subst hv
      rw [if_neg (by decide)]
      exact ⟨by omega, fun _ => by omega⟩
    · rw [if_pos (by simpa using hv)]
      exact ⟨by omega, fun e => absurd e hv⟩
  show (nz (l.x.set k (l.y.headD 0))).length + l.y.tail.length < (nz l.x).length + l.y.length
  have k1 := key (l.y.headD 0)
  cases hl : l.y with
  | nil => rw [hl] at k1; have := k1.2 rfl; simpa using this
  | cons a bs => rw [hl] at k1; have := k1.1; simp only [List.headD_cons] at this; simp; omega
theorem fb_some {B : Int → Bool} {xs : List Int} {k : Nat} (h : fb B xs = some k) : ∃ y, xs[k]? = some y ∧ y ≠ 0 ∧ B y = true ∧ ∀ (j : Nat) (z : Int), j < k → xs[j]? = some z → (z != 0 && B z) = false := by
  unfold fb at h
  rw [List.findIdx?_eq_some_iff_getElem] at h
  obtain ⟨hk, h1, h2⟩ := h
  rw [Bool.and_eq_true] at h1
  refine ⟨xs[k], List.getElem?_eq_getElem hk, by simpa using h1.1, h1.2, fun j z hj hz => ?_⟩
  obtain ⟨hj', e⟩ := List.getElem?_eq_some_iff.1 hz
  have := h2 j hj
  rw [e] at this
  simpa using this
theorem fb_is {B : Int → Bool} {xs : List Int} {k : Nat} {y : Int} (h : xs[k]? = some y) (hy : (y != 0 && B y) = true) (hno : ∀ (j : Nat) (z : Int), j < k → xs[j]? = some z → (z != 0 && B z) = false) : fb B xs = some k := by
  unfold fb
  rw [List.findIdx?_eq_some_iff_getElem]
  obtain ⟨hk, e⟩ := List.getElem?_eq_some_iff.1 h
  refine ⟨hk, by rw [e]; exact hy, fun j hj => ?_⟩
  have := hno j xs[j] hj (List.getElem?_eq_getElem (by omega))
  rw [this]; simp
theorem fb_none {B : Int → Bool} {xs : List Int} (hno : ∀ (j : Nat) (z : Int), xs[j]? = some z → (z != 0 && B z) = false) : fb B xs = none := by
  unfold fb
  rw [List.findIdx?_eq_none_iff]
  intro x hx
  obtain ⟨j, hj⟩ := List.getElem?_of_mem hx
  exact hno j x hj
def clr (B : Int → Bool) (l : L3) : L3 :=
  match _h : fb B l.x with
  | none => l
  | some k => clr B (empL l k)
termination_by mz l
decreasing_by
  obtain ⟨y, h1, h2, _⟩ := fb_some _h
  exact mz_emp h1 h2
theorem clr_none {B : Int → Bool} {l : L3} (h : fb B l.x = none) : clr B l = l := by
  rw [clr]
  split
  · rfl
  · rename_i k hk; rw [h] at hk; cases hk
theorem clr_some {B : Int → Bool} {l : L3} {k : Nat} (h : fb B l.x = some k) : clr B l = clr B (empL l k) := by
  rw [clr]
  split
  · rename_i hk; rw [h] at hk; cases hk
  · rename_i j hj
    rw [h] at hj
    injection hj with hj
    rw [hj]
end Go.Proofs.YtofglgfjlbehmaaGreat.mem
