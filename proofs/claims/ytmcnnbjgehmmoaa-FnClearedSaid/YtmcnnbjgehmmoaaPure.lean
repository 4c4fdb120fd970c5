/-
  Plain lists of numbers: what a panel, a jury is, as both programs mean it. No program in sight.
-/
import Derived.Test.YtmcnnbjgehmmoaaMem
namespace Go.Proofs.Ytmcnnbjgehmmoaa.mem

def inB (n lo hi : Int) : Bool := decide (lo ≤ n ∧ n ≤ hi)
theorem inB_yes {n lo hi : Int} (h : lo ≤ n ∧ n ≤ hi) : inB n lo hi = true := decide_eq_true h
theorem inB_no {n lo hi : Int} (h : ¬(lo ≤ n ∧ n ≤ hi)) : inB n lo hi = false := decide_eq_false h
theorem inB_iff {n lo hi : Int} : inB n lo hi = true ↔ lo ≤ n ∧ n ≤ hi := by simp [inB]

/-- is x in the list -/
def hasB (xs : List Int) (x : Int) : Bool := decide (x ∈ xs)
theorem hasB_no {xs : List Int} {x : Int} (h : ∀ (j : Nat) (y : Int), xs[j]? = some y → x ≠ y) : hasB xs x = false := by
  refine decide_eq_false fun hm => ?_
  obtain ⟨j, hj⟩ := List.getElem?_of_mem hm
  exact h j x hj rfl
theorem hasB_yes {xs : List Int} {x : Int} {j : Nat} (h : xs[j]? = some x) : hasB xs x = true := decide_eq_true (List.mem_of_getElem? h)

/-- the index of x in the list, or -1 -/
def plc (xs : List Int) (x : Int) : Int := if x ∈ xs then (xs.idxOf x : Int) else -1
theorem plc_no {xs : List Int} {x : Int} (h : ∀ (j : Nat) (y : Int), xs[j]? = some y → x ≠ y) : plc xs x = -1 := by
  refine if_neg fun hm => ?_
  obtain ⟨j, hj⟩ := List.getElem?_of_mem hm
  exact h j x hj rfl
theorem plc_yes {xs : List Int} {x : Int} {k : Nat} (h : xs[k]? = some x) (hb : ∀ (j : Nat) (y : Int), j < k → xs[j]? = some y → x ≠ y) : plc xs x = k := by
  have hm := List.mem_of_getElem? h
  unfold plc
  rw [if_pos hm]
  have hlt : xs.idxOf x < xs.length := List.idxOf_lt_length_of_mem hm
  have h1 : xs[xs.idxOf x]? = some x := by rw [List.getElem?_eq_getElem hlt, List.getElem_idxOf]
  have h2 : ¬ xs.idxOf x < k := fun hlt => hb _ _ hlt h1 rfl
  have h3 : xs.idxOf x ≤ k := by
    have hk : k < xs.length := (List.getElem?_eq_some_iff.1 h).1
    have := List.getElem?_eq_some_iff.1 h
    obtain ⟨hk, hx⟩ := this
    exact idx_le xs x k hk hx
  omega
where
  idx_le : ∀ (xs : List Int) (x : Int) (k : Nat) (hk : k < xs.length), xs[k] = x → xs.idxOf x ≤ k
    | [], _, _, hk, _ => by simp at hk
    | y :: ys, x, 0, _, h => by simp at h; simp [h]
    | y :: ys, x, k + 1, hk, h => by
      rw [List.idxOf_cons]
      have := idx_le ys x k (by simpa using hk) (by simpa using h)
      cases y == x <;> simp <;> omega
theorem plc_bd (xs : List Int) (x : Int) : -1 ≤ plc xs x ∧ plc xs x < xs.length := by
  unfold plc
  split
  · rename_i h
    have := List.idxOf_lt_length_of_mem h
    omega
  · omega
theorem plc_neg {xs : List Int} {x : Int} : plc xs x < 0 ↔ x ∉ xs := by
  unfold plc
  split
  · rename_i h; simp only [h, not_true, iff_false]; omega
  · rename_i h; simp [h]

/-- the elements that are not 0 -/
def nz (xs : List Int) : List Int := xs.filter (fun x => x != 0)
theorem nz_le (xs : List Int) : (nz xs).length ≤ xs.length := List.length_filter_le _ _
theorem nz_snoc0 (xs : List Int) (k : Nat) (h : xs[k]? = some 0) : nz (xs.take (k + 1)) = nz (xs.take k) := by
  rw [take_more h]; simp [nz, List.filter_append]
theorem nz_snoc (xs : List Int) (k : Nat) (x : Int) (h : xs[k]? = some x) (hx : x ≠ 0) : nz (xs.take (k + 1)) = nz (xs.take k) ++ [x] := by
  rw [take_more h]; simp [nz, List.filter_append, hx]

theorem flat_more {ls : List (List Int)} {k : Nat} {l : List Int} (h : ls[k]? = some l) : (ls.take (k + 1)).flatten = (ls.take k).flatten ++ l := by
  rw [List.take_add_one, h]; simp
theorem flat_len {ls : List (List Int)} {k : Nat} {l : List Int} (h : ls[k]? = some l) : (ls.take k).flatten.length + l.length ≤ ls.flatten.length := by
  have h1 := flat_more h
  have h2 : (ls.take (k + 1)).flatten.length ≤ ls.flatten.length := by
    have : ls = ls.take (k + 1) ++ ls.drop (k + 1) := (List.take_append_drop _ _).symm
    rw [this, List.flatten_append, List.length_append, ← this]
    omega
  rw [h1, List.length_append] at h2
  exact h2
/-- all are numbers of persons, and different -/
def distP (xs : List Int) : Prop := (∀ x ∈ xs, 1 ≤ x ∧ x ≤ 1000000) ∧ xs.Nodup
instance (xs : List Int) : Decidable (distP xs) := by unfold distP; exact inferInstance
def distB (xs : List Int) : Bool := decide (distP xs)
theorem distP_perm {xs ys : List Int} (h : xs.Perm ys) : distP xs ↔ distP ys := by
  unfold distP
  rw [h.nodup_iff]
  simp only [h.mem_iff]
theorem distP_snoc (xs : List Int) (x : Int) : distP (xs ++ [x]) ↔ distP xs ∧ (1 ≤ x ∧ x ≤ 1000000) ∧ x ∉ xs := by
  have hp : (xs ++ [x]).Perm (x :: xs) := List.perm_append_comm
  rw [distP_perm hp]
  simp only [distP, List.mem_cons, List.nodup_cons, forall_eq_or_imp]
  constructor
  · rintro ⟨⟨a, b⟩, c, d⟩; exact ⟨⟨b, d⟩, a, c⟩
  · rintro ⟨⟨b, d⟩, a, c⟩; exact ⟨⟨a, b⟩, c, d⟩
theorem distP_take {xs : List Int} (h : distP xs) (k : Nat) : distP (xs.take k) :=
  ⟨fun x hx => h.1 x (List.mem_of_mem_take hx), h.2.sublist (List.take_sublist _ _)⟩

/-- all of a panel -/
def allP (l : L3) : List Int := nz l.x ++ (l.y ++ l.z)
/-- a panel is as described -/
def okP (l : L3) : Bool := inB l.x.length 1 12 && (decide ((allP l).length ≤ 60) && (distB (allP l) && !(hasB l.x 0 && decide (0 < l.y.length))))
theorem okP_iff {l : L3} : okP l = true ↔ (1 ≤ l.x.length ∧ l.x.length ≤ 12) ∧ (allP l).length ≤ 60 ∧ distP (allP l) ∧ ¬(0 ∈ l.x ∧ 0 < l.y.length) := by
  simp only [okP, Bool.and_eq_true, decide_eq_true_eq, inB_iff, distB, hasB, Bool.not_eq_true', Bool.and_eq_false_iff, decide_eq_false_iff_not]
  constructor
  · rintro ⟨⟨a, b⟩, c, d, e⟩
    exact ⟨⟨by omega, by omega⟩, c, d, fun h => e.elim (fun f => f h.1) (fun f => f h.2)⟩
  · rintro ⟨⟨a, b⟩, c, d, e⟩
    refine ⟨⟨by omega, by omega⟩, c, d, ?_⟩
    rcases Classical.em (0 ∈ l.x) with h | h
    · exact .inr fun h2 => e ⟨h, h2⟩
    · exact .inl h
/-- the same, as the reference's program lists them -/
def allS (l : L3) : List Int := (l.y ++ l.z) ++ nz l.x
theorem all_perm (l : L3) : (allS l).Perm (allP l) := List.perm_append_comm
/-- a jury is as described -/
def okJ (l : L3) : Bool := inB l.x.length 1 12 && (decide (l.y.length ≤ 6) && (decide (l.z.length ≤ 60) && (distB (allP l) && !(hasB l.x 0 && decide (0 < l.y.length)))))
theorem nz_full (xs : List Int) : (nz xs).length = xs.length ↔ 0 ∉ xs := by
  unfold nz
  rw [List.length_filter_eq_length_iff]
  constructor
  · intro h h0
    have := h 0 h0
    simp at this
  · intro h x hx
    simp only [bne_iff_ne, ne_eq]
    rintro rfl
    exact h hx
theorem nz_lt (xs : List Int) : decide ((nz xs).length < xs.length) = hasB xs 0 := by
  have h1 := nz_full xs
  have h2 := nz_le xs
  unfold hasB
  rw [decide_eq_decide]
  constructor
  · intro h
    exact Classical.byContradiction fun hn => by have := h1.2 hn; omega
  · intro h
    rcases Nat.lt_or_ge (nz xs).length xs.length with hl | hl
    · exact hl
    · exact absurd h (h1.1 (by omega))
theorem distB_all (l : L3) : distB (allS l) = distB (allP l) := by
  unfold distB
  rw [decide_eq_decide]
  exact distP_perm (all_perm l)
theorem len_all (l : L3) : (allS l).length = (allP l).length := (all_perm l).length_eq
theorem hasB_more {xs : List Int} {k : Nat} {y : Int} (h : xs[k]? = some y) (x : Int) : hasB (xs.take (k + 1)) x = (hasB (xs.take k) x || decide (y = x)) := by
  rw [take_more h]
  unfold hasB
  rw [Bool.eq_iff_iff]
  simp only [Bool.or_eq_true, decide_eq_true_eq, List.mem_append, List.mem_singleton]
  exact or_congr Iff.rfl ⟨Eq.symm, Eq.symm⟩
end Go.Proofs.Ytmcnnbjgehmmoaa.mem
