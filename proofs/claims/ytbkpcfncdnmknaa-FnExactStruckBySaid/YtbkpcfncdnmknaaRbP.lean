/-
  Plain laws for records: the panel of a record that is as described is a panel, and the selection that begins on it is a selection.
-/
import Derived.Test.YtbkpcfncdnmknaaRp
import Derived.Test.YtbkpcfncdnmknaaPlayM
namespace Go.Proofs.Ytbkpcfncdnmknaa.mem
open Go.ChangeShapes Go.WideShapes Go.ChangeAt Go.RowKit

theorem swp_perm {o : List Int} {i k : Nat} (hi : i < o.length) (hk : k < o.length) : (swp o i k).Perm o := by
  unfold swp
  rw [List.getD_eq_getElem?_getD, List.getD_eq_getElem?_getD, List.getElem?_eq_getElem hi, List.getElem?_eq_getElem hk]
  exact List.set_set_perm hi hk
theorem shI_perm {n : Nat} {s : Int} (h0 : 0 ≤ s) (h1 : s < 2147483647) : ∀ i : Nat, i ≤ n - 1 → (shI n s i).1.Perm ((List.range n).map (fun (i : Nat) => (i : Int)))
  | 0, _ => List.Perm.refl _
  | i + 1, hi => by
    have ih := shI_perm (n := n) h0 h1 i (by omega)
    have hl := shI_len n s i
    have ho := off_bd (d := n - i) (nxt_bd (shI n s i).2).1 (nxt_bd (shI n s i).2).2 (show 0 < n - i by omega)
    exact (swp_perm (by omega) (by omega)).trans ih
theorem range_getD (xs : List Int) : ((List.range xs.length).map (fun (i : Nat) => (i : Int))).map (fun i => xs.getD i.toNat 0) = xs := by
  apply List.ext_getElem
  · simp
  · intro i h1 h2
    simp [List.getElem?_eq_getElem h2]
theorem rpL_perm {y : RecL} (h0 : 0 ≤ y.b) (h1 : y.b < 2147483647) : (rpL y).Perm y.p.x := by
  have h := (shI_perm h0 h1 (y.p.x.length - 1) (Nat.le_refl _)).map (fun i => y.p.x.getD i.toNat 0)
  rw [range_getD] at h
  exact h
theorem incB_lt {xs : List Int} (h : ∀ k, k < xs.length → upAt xs k = true) : ∀ (k j : Nat), k < xs.length → j < k → xs.getD j 0 < xs.getD k 0
  | 0, j, _, hj => absurd hj (by omega)
  | k + 1, j, hk, hj => by
    have hu := h (k + 1) hk
    unfold upAt at hu
    simp only [Bool.and_eq_true, Bool.or_eq_true, decide_eq_true_eq] at hu
    have h2 : xs.getD k 0 < xs.getD (k + 1) 0 := by
      rcases hu.2 with e | e
      · omega
      · exact e
    rcases Nat.lt_or_ge j k with hlt | hge
    · have := incB_lt h k j (by omega) hlt
      omega
    · obtain rfl : j = k := by omega
      exact h2
theorem incB_dist {xs : List Int} (h : incB xs = true) : distP xs := by
  have ha : ∀ k, k < xs.length → upAt xs k = true := fun k hk => by
    unfold incB at h
    rw [List.all_eq_true] at h
    exact h k (List.mem_range.2 hk)
  refine ⟨fun x hx => ?_, ?_⟩
  · obtain ⟨j, hj⟩ := List.mem_iff_getElem?.1 hx
    have hu := ha j (List.getElem?_eq_some_iff.1 hj).1
    unfold upAt at hu
    rw [Bool.and_eq_true, getD_of hj] at hu
    exact inB_iff.1 hu.1
  · refine List.pairwise_iff_getElem.2 fun i j hi hj hij e => ?_
    have := incB_lt ha j i hj hij
    rw [List.getD_eq_getElem?_getD, List.getD_eq_getElem?_getD, List.getElem?_eq_getElem hi, List.getElem?_eq_getElem hj] at this
    simp only [Option.getD_some] at this
    omega
theorem nz_id {xs : List Int} (h : ∀ x ∈ xs, 1 ≤ x ∧ x ≤ 1000000) : nz xs = xs := by
  unfold nz
  rw [List.filter_eq_self]
  intro x hx
  have := h x hx
  simp only [bne_iff_ne, ne_eq]
  omega
theorem nz_zeros (k : Nat) : nz (List.replicate k 0) = [] := by
  unfold nz
  rw [List.filter_eq_nil_iff]
  intro x hx
  obtain ⟨_, rfl⟩ := List.mem_replicate.1 hx
  decide
theorem okP_mk {xs : List Int} {n : Nat} (h : distP xs) (hl : xs.length ≤ 60) (h1 : 1 ≤ n) (h2 : n ≤ 12) : okP (mkL xs n) = true := by
  have ez : nz (xs.take n ++ (List.replicate n 0).drop xs.length) = xs.take n := by
    have e1 : nz (xs.take n) = xs.take n := nz_id (fun x hx => h.1 x (List.mem_of_mem_take hx))
    have e2 : nz ((List.replicate n 0).drop xs.length) = [] := by rw [List.drop_replicate]; exact nz_zeros _
    unfold nz at e1 e2 ⊢
    rw [List.filter_append, e1, e2, List.append_nil]
  have ea : allP (mkL xs n) = xs := by
    unfold allP mkL
    simp only [ez, List.append_nil, List.take_append_drop]
  rw [okP_iff, ea]
  refine ⟨?_, hl, h, ?_⟩
  · unfold mkL
    simp only [List.length_append, List.length_take, List.length_drop, List.length_replicate]
    omega
  · rintro ⟨h0, hd⟩
    unfold mkL at h0 hd
    simp only [List.length_drop] at hd
    simp only [List.mem_append] at h0
    rcases h0 with h0 | h0
    · have := h.1 0 (List.mem_of_mem_take h0)
      omega
    · rw [List.drop_replicate, show n - xs.length = 0 by omega] at h0
      cases h0
theorem hasB_dist {xs : List Int} (h : distP xs) : hasB xs 0 = false := by
  unfold hasB
  rw [decide_eq_false_iff_not]
  intro h0
  have := h.1 0 h0
  omega
theorem okP_clr (B : Int → Bool) : ∀ (n : Nat) (l : L3), mz l ≤ n → okP l = true → okP (clr B l) = true
  | n, l, hn, hok => by
    cases hf : fb B l.x with
    | none => rw [clr_none hf]; exact hok
    | some k =>
      rw [clr_some hf]
      obtain ⟨u, h1, h2, _⟩ := fb_some hf
      have hm := mz_emp h1 h2
      match n, hn with
      | 0, hn => omega
      | n + 1, hn => exact okP_clr B n _ (by omega) (okP_emp hok h1 h2)
theorem okR_parts {y : RecL} (h : okR y = true) : (1 ≤ y.b ∧ y.b ≤ 2147483646) ∧ y.p.x.length ≤ 60 ∧ incB y.p.x = true ∧ (1 ≤ y.d ∧ y.d ≤ 12) ∧ strB y.p.y = true ∧ y.p.z.length ≤ 40 ∧ movB y.p.z = true := by
  unfold okR at h
  simp only [Bool.and_eq_true, decide_eq_true_eq] at h
  exact ⟨inB_iff.1 h.2.1, h.2.2.2.1, h.2.2.2.2.1, inB_iff.1 h.2.2.2.2.2.1, h.2.2.2.2.2.2.1, h.2.2.2.2.2.2.2.1, h.2.2.2.2.2.2.2.2.1⟩
theorem okP_pr {ts : List Ti} {us : List ByteArray} {y : RecL} (h : okR y = true) (hk : okK ts us = true) : okP (prV ts us y) = true := by
  obtain ⟨hb, hl, hi, hd, _⟩ := okR_parts h
  have hp := rpL_perm (y := y) (by omega) (by omega)
  have hD : distP (rpL y) := (distP_perm hp).2 (incB_dist hi)
  have hm : okP (mkL (rpL y) y.d.toNat) = true := okP_mk hD (by rw [rpL_len]; exact hl) (by omega) (by omega)
  have e : (mkR (rpL y) y.d).1 = mkL (rpL y) y.d.toNat := by
    unfold mkR
    rw [if_pos (inB_iff.2 hd), hasB_dist hD, hm]
    rfl
  unfold prV
  rw [e, clrV_yes (by unfold fitC; rw [if_pos ⟨hk, hm⟩])]
  exact okP_clr _ _ _ (Nat.le_refl _) hm
/-- the selection before the first move -/
def bgL (ts : List Ti) (us : List ByteArray) (y : RecL) : SelL := ⟨prV ts us y, y.p.y, 0, 0⟩
theorem okS_bg {ts : List Ti} {us : List ByteArray} {y : RecL} (h : okR y = true) (hk : okK ts us = true) : okS (bgL ts us y) = true := by
  unfold okS bgL
  simp only [okP_pr h hk, Bool.true_and]
  have h2 := (okR_parts h).2.2.2.2.1
  unfold strB at h2
  unfold areB
  rw [h2]
  rfl
theorem okR_moves {y : RecL} (h : okR y = true) : y.p.z.length ≤ 40 := (okR_parts h).2.2.2.2.2.1
def rpG (ts : List Ti) (us : List ByteArray) (y : RecL) : SelL × Nat × Int := playG (bgL ts us y) y.p.z 0
theorem pmR_bg {ts : List Ti} {us : List ByteArray} {y : RecL} (h : okR y = true) (hk : okK ts us = true) : pmR (bgL ts us y) y.p.z = rpG ts us y := by
  unfold pmR rpG
  rw [if_pos (okS_bg h hk), if_pos (okR_moves h)]
end Go.Proofs.Ytbkpcfncdnmknaa.mem
