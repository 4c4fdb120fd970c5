/-
  Shuffling 0 to n - 1 by a generator's states. No program in sight.
  Plain laws for drawn numbers: a shuffle keeps its numbers apart, a panel that is made of different numbers is as described.
-/
import Derived.Test.YtofglgfjlbehmaaGreatMg1
import Derived.Test.YtofglgfjlbehmaaGreatMk
namespace Go.Proofs.YtofglgfjlbehmaaGreat.mem

def nxtS (s : Int) : Int := s * 48271 % 2147483647
theorem nxt_bd (s : Int) : 0 ≤ nxtS s ∧ nxtS s < 2147483647 := ⟨Int.emod_nonneg _ (by decide), Int.emod_lt_of_pos _ (by decide)⟩
def offS (s : Int) (d : Nat) : Nat := (s * d / 2147483647).toNat
theorem off_bd {s : Int} {d : Nat} (h0 : 0 ≤ s) (h1 : s < 2147483647) (hd : 0 < d) : offS s d < d ∧ s * d / 2147483647 = (offS s d : Int) := by
  have hn : 0 ≤ s * (d : Int) := Int.mul_nonneg h0 (by omega)
  have h2 : s * (d : Int) < (d : Int) * 2147483647 := by
    have : s * (d : Int) < 2147483647 * (d : Int) := Int.mul_lt_mul_of_pos_right h1 (by omega)
    omega
  have h3 : s * (d : Int) / 2147483647 < (d : Int) := Int.ediv_lt_of_lt_mul (by decide) h2
  have h4 : 0 ≤ s * (d : Int) / 2147483647 := Int.ediv_nonneg hn (by decide)
  unfold offS
  omega
def swp (o : List Int) (i k : Nat) : List Int := (o.set i (o.getD k 0)).set k (o.getD i 0)
def shI (n : Nat) (s : Int) : Nat → List Int × Int
  | 0 => ((List.range n).map (fun (i : Nat) => (i : Int)), s)
  | i + 1 => (swp (shI n s i).1 i (i + offS (nxtS (shI n s i).2) (n - i)), nxtS (shI n s i).2)
theorem shI_len (n : Nat) (s : Int) : ∀ i : Nat, (shI n s i).1.length = n
  | 0 => by simp [shI]
  | i + 1 => by simp [shI, swp, shI_len n s i]
theorem shI_bd {n : Nat} {s : Int} (h0 : 0 ≤ s) (h1 : s < 2147483647) : ∀ i : Nat, 0 ≤ (shI n s i).2 ∧ (shI n s i).2 < 2147483647
  | 0 => ⟨h0, h1⟩
  | _ + 1 => nxt_bd _
theorem range_more (k : Nat) : (List.range (k + 1)).map (fun (i : Nat) => (i : Int)) = (List.range k).map (fun (i : Nat) => (i : Int)) ++ [(k : Int)] := by
  rw [List.range_succ, List.map_append]; rfl
end Go.Proofs.YtofglgfjlbehmaaGreat.mem
namespace Go.Proofs.YtofglgfjlbehmaaGreat.mem

theorem swp_at {o : List Int} {i k m : Nat} (hi : i < o.length) (hk : k < o.length) (hm : m < (swp o i k).length) :
    ∃ j, ∃ hj : j < o.length, (swp o i k)[m] = o[j] ∧ j = (if k = m then i else if i = m then k else m) := by
  have hml : m < o.length := by simpa [swp] using hm
  by_cases h1 : k = m
  · refine ⟨i, hi, ?_, by rw [if_pos h1]⟩
    subst h1
    simp [swp, List.getD_eq_getElem?_getD, List.getElem?_eq_getElem hi]
  · by_cases h2 : i = m
    · refine ⟨k, hk, ?_, by rw [if_neg h1, if_pos h2]⟩
      subst h2
      simp only [swp]
      rw [List.getElem_set_ne h1]
      simp [List.getD_eq_getElem?_getD, List.getElem?_eq_getElem hk]
    · refine ⟨m, hml, ?_, by rw [if_neg h1, if_neg h2]⟩
      simp only [swp]
      rw [List.getElem_set_ne h1, List.getElem_set_ne h2]
def ShOk (n : Nat) (o : List Int) : Prop := o.length = n ∧ (∀ x ∈ o, 0 ≤ x ∧ x < (n : Int)) ∧ o.Nodup
theorem ShOk.swp {n : Nat} {o : List Int} (h : ShOk n o) {i k : Nat} (hi : i < n) (hk : k < n) : ShOk n (mem.swp o i k) := by
  obtain ⟨h1, h2, h3⟩ := h
  subst h1
  refine ⟨by simp [mem.swp], fun x hx => ?_, ?_⟩
  · obtain ⟨m, hm, rfl⟩ := List.getElem_of_mem hx
    obtain ⟨j, hj, e, _⟩ := swp_at hi hk hm
    rw [e]
    exact h2 _ (List.getElem_mem hj)
  · unfold List.Nodup at h3 ⊢
    rw [List.pairwise_iff_getElem] at h3 ⊢
    intro a b ha hb hab
    obtain ⟨ja, hja, ea, da⟩ := swp_at hi hk ha
    obtain ⟨jb, hjb, eb, db⟩ := swp_at hi hk hb
    rw [ea, eb]
    have hne : ja ≠ jb := by
      rw [da, db]
      split <;> split <;> (try split) <;> (try split) <;> omega
    rcases Nat.lt_or_ge ja jb with hlt | hge
    · exact h3 ja jb hja hjb hlt
    · exact (h3 jb ja hjb hja (by omega)).symm
theorem ShOk.range (n : Nat) : ShOk n ((List.range n).map (fun (i : Nat) => (i : Int))) := by
  refine ⟨by simp, fun x hx => ?_, ?_⟩
  · obtain ⟨i, hi, rfl⟩ := List.mem_map.1 hx
    have := List.mem_range.1 hi
    omega
  · unfold List.Nodup
    rw [List.pairwise_map]
    exact List.Pairwise.imp (fun h e => h (by omega)) (List.nodup_range (n := n))
theorem shI_ok {n : Nat} {s : Int} (h0 : 0 ≤ s) (h1 : s < 2147483647) : ∀ j : Nat, j ≤ n - 1 → ShOk n (shI n s j).1
  | 0, _ => ShOk.range n
  | j + 1, hj => by
    have ih := shI_ok (n := n) h0 h1 j (by omega)
    obtain ⟨n0, n1⟩ := nxt_bd (shI n s j).2
    have hb := (off_bd n0 n1 (show 0 < n - j by omega)).1
    show ShOk n (mem.swp (shI n s j).1 j (j + offS (nxtS (shI n s j).2) (n - j)))
    exact ih.swp (by omega) (by omega)
/-- n different numbers from 1 to N -/
def numL (N : Nat) (s : Int) (n : Nat) : List Int := ((shI N s (N - 1)).1.take n).map (fun x => x + 1)
theorem numL_ok {N n : Nat} {s : Int} (h0 : 0 ≤ s) (h1 : s < 2147483647) (hN : N ≤ 1000) (hn : n ≤ N) : (numL N s n).length = n ∧ distP (numL N s n) := by
  obtain ⟨a, b, c⟩ := shI_ok (n := N) h0 h1 (N - 1) (Nat.le_refl _)
  refine ⟨by unfold numL; rw [List.length_map, List.length_take, a]; omega, fun x hx => ?_, ?_⟩
  · obtain ⟨y, hy, rfl⟩ := List.mem_map.1 hx
    have := b y (List.mem_of_mem_take hy)
    omega
  · unfold numL List.Nodup
    rw [List.pairwise_map]
    exact List.Pairwise.imp (fun h e => h (by omega)) (c.sublist (List.take_sublist _ _))
theorem nz_append (xs ys : List Int) : nz (xs ++ ys) = nz xs ++ nz ys := List.filter_append ..
theorem nz_self {xs : List Int} (h : (0 : Int) ∉ xs) : nz xs = xs := by
  unfold nz
  rw [List.filter_eq_self]
  intro a ha
  simp only [bne_iff_ne, ne_eq]
  rintro rfl
  exact h ha
theorem nz_zeros (k : Nat) : nz (List.replicate k 0) = [] := by
  unfold nz
  rw [List.filter_eq_nil_iff]
  intro a ha
  have := List.eq_of_mem_replicate ha
  subst this
  simp
theorem mkL_ok {xs : List Int} {s : Nat} (hd : distP xs) (hl : xs.length ≤ 60) (h1 : 1 ≤ s) (h2 : s ≤ 12) : okP (mkL xs s) = true := by
  have h0 : (0 : Int) ∉ xs := fun h => by have := (hd.1 0 h).1; omega
  have hall : allP (mkL xs s) = xs := by
    simp only [allP, mkL, nz_append, List.drop_replicate, nz_zeros, List.append_nil]
    rw [nz_self (fun h => h0 (List.mem_of_mem_take h)), List.take_append_drop]
  refine okP_iff.2 ⟨?_, by rw [hall]; exact hl, by rw [hall]; exact hd, ?_⟩
  · simp only [mkL, List.length_append, List.length_take, List.length_drop, List.length_replicate]
    omega
  · rintro ⟨hm, hy⟩
    simp only [mkL, List.length_drop] at hy
    simp only [mkL, List.mem_append, List.drop_replicate] at hm
    rcases hm with hm | hm
    · exact h0 (List.mem_of_mem_take hm)
    · have := (List.mem_replicate.1 hm).1
      omega
theorem mkR_ok {xs : List Int} {s : Nat} (hd : distP xs) (hl : xs.length ≤ 60) (h1 : 1 ≤ s) (h2 : s ≤ 12) : mkR xs (s : Int) = (mkL xs s, 0) := by
  have h0 : hasB xs 0 = false := decide_eq_false fun h => by have := (hd.1 0 h).1; omega
  unfold mkR
  rw [if_pos (inB_yes (by omega)), Int.toNat_natCast, h0, mkL_ok hd hl h1 h2]
  rfl
end Go.Proofs.YtofglgfjlbehmaaGreat.mem
