/-
  Plain: numbers (and words) put one by one into a list that stays sorted, each once; the same as a list sorted and rid of its repeats.
-/
import Derived.Lib.SlicesCompact
namespace Go.Proofs.Ytmcnnbjgehmmoaa.mem
open Go.Lib
set_option linter.unusedVariables false
set_option linter.unusedSectionVars false
structure LinO {α : Type} (lt : α → α → Prop) : Prop where
  irr : ∀ a, ¬ lt a a
  tr : ∀ a b c, lt a b → lt b c → lt a c
  to : ∀ a b, a ≠ b → lt a b ∨ lt b a
section
variable {α : Type} [Inhabited α] [DecidableEq α] {lt : α → α → Prop} [DecidableRel lt]
def insS (lt : α → α → Prop) [DecidableRel lt] (n : α) : List α → List α
  | [] => [n]
  | y :: ys => if lt y n then y :: insS lt n ys else if y = n then y :: ys else n :: y :: ys
def setS (lt : α → α → Prop) [DecidableRel lt] (xs : List α) : List α := xs.foldl (fun l n => insS lt n l) []
theorem insS_mem (n x : α) (l : List α) : x ∈ insS lt n l ↔ x ∈ l ∨ x = n := by
  induction l with
  | nil => simp [insS]
  | cons y ys ih =>
    unfold insS
    by_cases h1 : lt y n
    · rw [if_pos h1, List.mem_cons, ih, List.mem_cons]
      constructor
      · rintro (h | h | h)
        · exact .inl (.inl h)
        · exact .inl (.inr h)
        · exact .inr h
      · rintro ((h | h) | h)
        · exact .inl h
        · exact .inr (.inl h)
        · exact .inr (.inr h)
    · rw [if_neg h1]
      by_cases h2 : y = n
      · rw [if_pos h2]
        constructor
        · exact .inl
        · rintro (h | h)
          · exact h
          · rw [h, ← h2]; exact List.mem_cons_self
      · rw [if_neg h2, List.mem_cons]
        constructor
        · rintro (h | h)
          · exact .inr h
          · exact .inl h
        · rintro (h | h)
          · exact .inr h
          · exact .inl h
theorem insS_len (n : α) (l : List α) : (insS lt n l).length ≤ l.length + 1 := by
  induction l with
  | nil => simp [insS]
  | cons y ys ih =>
    unfold insS
    by_cases h1 : lt y n
    · rw [if_pos h1]; simp only [List.length_cons]; omega
    · rw [if_neg h1]
      by_cases h2 : y = n
      · rw [if_pos h2]; simp only [List.length_cons]; omega
      · rw [if_neg h2]; simp only [List.length_cons]; omega
theorem insS_sorted (hL : LinO lt) (n : α) {l : List α} (h : l.Pairwise lt) : (insS lt n l).Pairwise lt := by
  induction l with
  | nil => simp [insS]
  | cons y ys ih =>
    obtain ⟨h1, h2⟩ := List.pairwise_cons.1 h
    unfold insS
    by_cases c1 : lt y n
    · rw [if_pos c1]
      refine List.pairwise_cons.2 ⟨fun x hx => ?_, ih h2⟩
      rcases (insS_mem n x ys).1 hx with hx | rfl
      · exact h1 x hx
      · exact c1
    · rw [if_neg c1]
      by_cases c2 : y = n
      · rw [if_pos c2]; exact h
      · rw [if_neg c2]
        have c3 : lt n y := (hL.to y n c2).resolve_left c1
        refine List.pairwise_cons.2 ⟨fun x hx => ?_, h⟩
        rcases List.mem_cons.1 hx with rfl | hx
        · exact c3
        · exact hL.tr _ _ _ c3 (h1 x hx)
/-- The place: all ahead of it are less. -/
theorem insS_at (n : α) {l : List α} {k : Nat} (hk : k ≤ l.length) (hlo : ∀ j (hj : j < l.length), j < k → lt l[j] n) (hhi : ∀ hj : k < l.length, ¬ lt l[k] n) :
    insS lt n l = if l[k]? = some n then l else l.take k ++ n :: l.drop k := by
  induction l generalizing k with
  | nil => simp [insS]
  | cons y ys ih =>
    cases k with
    | zero =>
      have h0 := hhi (by simp)
      unfold insS
      rw [if_neg (by simpa using h0)]
      by_cases c2 : y = n
      · rw [if_pos c2, if_pos (by simp [c2])]
      · rw [if_neg c2, if_neg (by simp [c2])]; rfl
    | succ k =>
      have h0 := hlo 0 (by simp) (by omega)
      unfold insS
      rw [if_pos (by simpa using h0), ih (k := k) (by simpa using hk) (fun j hj h => by have := hlo (j + 1) (by simp; omega) (by omega); simpa using this) (fun hj => by have := hhi (by simp; omega); simpa using this)]
      simp only [List.getElem?_cons_succ, List.take_succ_cons, List.drop_succ_cons, List.cons_append]
      by_cases c : ys[k]? = some n
      · rw [if_pos c, if_pos c]
      · rw [if_neg c, if_neg c]
theorem fold_sorted (hL : LinO lt) (xs : List α) {l : List α} (h : l.Pairwise lt) : (xs.foldl (fun l n => insS lt n l) l).Pairwise lt := by
  induction xs generalizing l with
  | nil => exact h
  | cons x xs ih => exact ih (insS_sorted hL x h)
theorem fold_mem (xs l : List α) (x : α) : x ∈ xs.foldl (fun l n => insS lt n l) l ↔ x ∈ l ∨ x ∈ xs := by
  induction xs generalizing l with
  | nil => simp
  | cons y ys ih =>
    rw [List.foldl_cons, ih, insS_mem, List.mem_cons]
    constructor
    · rintro ((h | h) | h)
      · exact .inl h
      · exact .inr (.inl h)
      · exact .inr (.inr h)
    · rintro (h | h | h)
      · exact .inl (.inl h)
      · exact .inl (.inr h)
      · exact .inr h
theorem fold_len (xs l : List α) : (xs.foldl (fun l n => insS lt n l) l).length ≤ l.length + xs.length := by
  induction xs generalizing l with
  | nil => simp
  | cons y ys ih =>
    rw [List.foldl_cons, List.length_cons]
    have h1 := ih (insS lt y l)
    have h2 := insS_len (lt := lt) y l
    omega
theorem setS_app (xs : List α) (x : α) : setS lt (xs ++ [x]) = insS lt x (setS lt xs) := by
  unfold setS
  rw [List.foldl_append]
  rfl
theorem setS_len (xs : List α) : (setS lt xs).length ≤ xs.length := by
  have := fold_len (lt := lt) xs []
  simpa [setS] using this
/-- Two sorted lists of the same members are one. -/
theorem sorted_eq (hL : LinO lt) : ∀ {a b : List α}, a.Pairwise lt → b.Pairwise lt → (∀ x, x ∈ a ↔ x ∈ b) → a = b
  | [], [], _, _, _ => rfl
  | [], y :: ys, _, _, h => absurd ((h y).2 List.mem_cons_self) (by simp)
  | x :: xs, [], _, _, h => absurd ((h x).1 List.mem_cons_self) (by simp)
  | x :: xs, y :: ys, ha, hb, h => by
    obtain ⟨a1, a2⟩ := List.pairwise_cons.1 ha
    obtain ⟨b1, b2⟩ := List.pairwise_cons.1 hb
    have e : x = y := by
      rcases List.mem_cons.1 ((h x).1 List.mem_cons_self) with e | e
      · exact e
      · rcases List.mem_cons.1 ((h y).2 List.mem_cons_self) with e' | e'
        · exact e'.symm
        · exact absurd (hL.tr _ _ _ (a1 y e') (b1 x e)) (hL.irr x)
    subst e
    refine congrArg (x :: ·) (sorted_eq hL a2 b2 fun z => ?_)
    constructor
    · intro hz
      rcases List.mem_cons.1 ((h z).1 (List.mem_cons_of_mem _ hz)) with e | e
      · rw [e] at hz; exact absurd (a1 x hz) (hL.irr x)
      · exact e
    · intro hz
      rcases List.mem_cons.1 ((h z).2 (List.mem_cons_of_mem _ hz)) with e | e
      · rw [e] at hz; exact absurd (b1 x hz) (hL.irr x)
      · exact e
theorem compact_sorted (hL : LinO lt) (d : Array α) (hd : ∀ i j, i ≤ j → j < d.size → ¬ lt d[j]! d[i]!) : ∀ m, m ≤ d.size → (compactUpTo d m).Pairwise lt ∧ ∀ x, x ∈ compactUpTo d m ↔ ∃ j, j < m ∧ d[j]! = x := by
  intro m
  induction m with
  | zero => intro _; refine ⟨by simp [compactUpTo], fun x => by simp [compactUpTo]⟩
  | succ m ih =>
    intro hm
    obtain ⟨i1, i2⟩ := ih (by omega)
    rw [compactUpTo_succ]
    by_cases hk : keeps d m = true
    · rw [if_pos hk]
      constructor
      · refine List.pairwise_append.2 ⟨i1, by simp, fun x hx y hy => ?_⟩
        rw [List.mem_singleton] at hy
        subst hy
        obtain ⟨j, hj, rfl⟩ := (i2 x).1 hx
        have hne : d[m]! ≠ d[m - 1]! := by
          have := hk
          simp only [keeps, decide_eq_true_eq] at this
          exact this.resolve_left (by omega)
        have h1 := hd (m - 1) m (by omega) (by omega)
        have h2 : lt d[m - 1]! d[m]! := (hL.to _ _ hne).resolve_left h1
        by_cases e : d[j]! = d[m - 1]!
        · rw [e]; exact h2
        · have h3 := hd j (m - 1) (by omega) (by omega)
          exact hL.tr _ _ _ ((hL.to _ _ e).resolve_right h3) h2
      · intro x
        rw [List.mem_append, i2, List.mem_singleton]
        constructor
        · rintro (⟨j, hj, e⟩ | e)
          · exact ⟨j, by omega, e⟩
          · exact ⟨m, by omega, e.symm⟩
        · rintro ⟨j, hj, e⟩
          by_cases c : j < m
          · exact .inl ⟨j, c, e⟩
          · have : j = m := by omega
            subst this
            exact .inr e.symm
    · rw [if_neg hk, List.append_nil]
      refine ⟨i1, fun x => ?_⟩
      rw [i2]
      constructor
      · rintro ⟨j, hj, e⟩; exact ⟨j, by omega, e⟩
      · rintro ⟨j, hj, e⟩
        by_cases c : j < m
        · exact ⟨j, c, e⟩
        · have : j = m := by omega
          subst this
          have h0 : ¬ (j = 0 ∨ d[j]! ≠ d[j - 1]!) := by simpa [keeps] using hk
          have h1 : j ≠ 0 := fun e => h0 (.inl e)
          have h2 : d[j]! = d[j - 1]! := Decidable.byContradiction fun e => h0 (.inr e)
          exact ⟨j - 1, by omega, by rw [← h2]; exact e⟩
/-- Sorted, then rid of repeats: the list built by putting one by one. -/
theorem compact_setS (hL : LinO lt) (xs ys : List α) (hp : ys.Perm xs) (hs : ys.Pairwise fun a b => ¬ lt b a) : compactUpTo ys.toArray ys.toArray.size = setS lt xs := by
  have hd : ∀ i j, i ≤ j → j < ys.toArray.size → ¬ lt ys.toArray[j]! ys.toArray[i]! := by
    intro i j hij hj
    have hj' : j < ys.length := by simpa using hj
    have e1 : ys.toArray[j]! = ys[j] := by rw [getElem!_pos ys.toArray j (by simpa using hj')]; simp
    have e2 : ys.toArray[i]! = ys[i] := by rw [getElem!_pos ys.toArray i (by simp; omega)]; simp
    rw [e1, e2]
    by_cases e : i = j
    · subst e; exact hL.irr _
    · exact List.pairwise_iff_getElem.1 hs i j (by omega) hj' (by omega)
  obtain ⟨c1, c2⟩ := compact_sorted hL ys.toArray hd _ (Nat.le_refl _)
  refine sorted_eq hL c1 (fold_sorted hL xs List.Pairwise.nil) fun x => ?_
  rw [c2]
  have : x ∈ setS lt xs ↔ x ∈ xs := by unfold setS; rw [fold_mem]; simp
  rw [this, ← hp.mem_iff, List.mem_iff_getElem]
  constructor
  · rintro ⟨j, hj, e⟩
    have hj' : j < ys.length := by simpa using hj
    exact ⟨j, hj', by rw [← e, getElem!_pos ys.toArray j hj]; simp⟩
  · rintro ⟨j, hj, e⟩
    exact ⟨j, by simpa using hj, by rw [getElem!_pos ys.toArray j (by simpa using hj)]; simpa using e⟩
end
abbrev ltI : Int → Int → Prop := fun a b => a < b
abbrev ltB : List UInt8 → List UInt8 → Prop := fun a b => a < b
theorem linI : LinO ltI := ⟨fun a h => Int.lt_irrefl a h, fun _ _ _ h1 h2 => Int.lt_trans h1 h2, fun a b h => by unfold ltI; omega⟩
theorem linB : LinO ltB := ⟨fun a h => List.lt_irrefl a h, fun _ _ _ h1 h2 => List.lt_trans h1 h2, fun a b h => by
  by_cases c : a < b
  · exact .inl c
  · by_cases c' : b < a
    · exact .inr c'
    · exact absurd (List.le_antisymm (List.not_lt.1 c') (List.not_lt.1 c)) h⟩
theorem sortI (xs : List Int) : compactUpTo (xs.mergeSort fun x y => decide (x ≤ y)).toArray (xs.mergeSort fun x y => decide (x ≤ y)).toArray.size = setS ltI xs := by
  refine compact_setS linI xs _ (List.mergeSort_perm xs _) ?_
  have h := List.pairwise_mergeSort (le := fun x y : Int => decide (x ≤ y)) (fun a b c h1 h2 => by simp only [decide_eq_true_eq] at *; omega) (fun a b => by simp only [Bool.or_eq_true, decide_eq_true_eq]; omega) xs
  exact h.imp (fun {a b} h => by have := of_decide_eq_true h; unfold ltI; omega)
theorem sortB (xs : List (List UInt8)) : compactUpTo (xs.mergeSort fun x y => decide (x ≤ y)).toArray (xs.mergeSort fun x y => decide (x ≤ y)).toArray.size = setS ltB xs := by
  refine compact_setS linB xs _ (List.mergeSort_perm xs _) ?_
  have h := List.pairwise_mergeSort (le := fun x y : List UInt8 => decide (x ≤ y)) (fun a b c h1 h2 => by simp only [decide_eq_true_eq] at *; exact List.le_trans h1 h2) (fun a b => by simp only [Bool.or_eq_true, decide_eq_true_eq]; exact List.le_total a b) xs
  exact h.imp (fun {a b} h => by have := of_decide_eq_true h; exact List.not_lt.2 this)
end Go.Proofs.Ytmcnnbjgehmmoaa.mem
