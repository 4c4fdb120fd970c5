/-
  Plain laws for selections: moves are played one behind the other, and nobody strikes more often than they may.
-/
import Derived.Test.YtkfjphjmffbpiaaPlayM
import Derived.Test.YtkfjphjmffbpiaaPassTop
import Derived.Test.YtkfjphjmffbpiaaStrS
import Derived.Test.YtkfjphjmffbpiaaSelTop
namespace Go.Proofs.Ytkfjphjmffbpiaa.mem

theorem playG_app : ∀ (a b : List Int) (y : SelL) (k : Nat), (playG y a k).2.2 = 0 → playG y (a ++ b) k = playG (playG y a k).1 b (playG y a k).2.1
  | [], b, y, k, _ => rfl
  | m :: a, b, y, k, h => by
    unfold playG at h
    rw [List.cons_append, playG, playG]
    by_cases h0 : mvC y m = 0
    · rw [if_pos h0] at h ⊢
      rw [if_pos h0]
      exact playG_app a b _ _ h
    · rw [if_neg h0] at h
      exact absurd h h0
theorem playG_pre : ∀ (a b : List Int) (y : SelL) (k : Nat), (playG y (a ++ b) k).2.2 = 0 → (playG y a k).2.2 = 0
  | [], b, y, k, _ => rfl
  | m :: a, b, y, k, h => by
    rw [List.cons_append, playG] at h
    rw [playG]
    by_cases h0 : mvC y m = 0
    · rw [if_pos h0] at h ⊢
      exact playG_pre a b _ _ h
    · rw [if_neg h0] at h
      exact absurd h h0
theorem playG_cnt : ∀ (a : List Int) (y : SelL) (k : Nat), (playG y a k).2.2 = 0 → (playG y a k).2.1 = k + a.length
  | [], y, k, _ => rfl
  | m :: a, y, k, h => by
    rw [playG] at h ⊢
    by_cases h0 : mvC y m = 0
    · rw [if_pos h0] at h ⊢
      rw [playG_cnt a _ _ h, List.length_cons]
      omega
    · rw [if_neg h0] at h
      exact absurd h h0
theorem playG_shift : ∀ (a : List Int) (y : SelL) (k : Nat), playG y a k = ((playG y a 0).1, k + (playG y a 0).2.1, (playG y a 0).2.2)
  | [], y, k => rfl
  | m :: a, y, k => by
    rw [playG, playG]
    by_cases h0 : mvC y m = 0
    · rw [if_pos h0, if_pos h0, playG_shift a _ (k + 1), playG_shift a _ (0 + 1)]
      simp only [Prod.mk.injEq, true_and, and_true]
      omega
    · rw [if_neg h0, if_neg h0]
      rfl
theorem okS_play : ∀ (a : List Int) (y : SelL) (k : Nat), okS y = true → (playG y a k).2.2 = 0 → okS (playG y a k).1 = true
  | [], y, k, h, _ => h
  | m :: a, y, k, h, h0 => by
    rw [playG] at h0 ⊢
    by_cases h1 : mvC y m = 0
    · rw [if_pos h1] at h0 ⊢
      exact okS_play a _ _ (okS_mv h h1) h0
    · rw [if_neg h1] at h0
      exact absurd h0 h1
/-- moves may be played in two parts -/
theorem pm_half {y : SelL} {ms : List Int} {h : Nat} (h0 : (pmR y ms).2.2 = 0) (hh : h ≤ ms.length) :
    (pmR y ms).2.1 = ms.length ∧ (pmR y (ms.take h)).2 = (h, 0) ∧ pmR (pmR y (ms.take h)).1 (ms.drop h) = ((pmR y ms).1, ms.length - h, 0) := by
  unfold pmR at h0
  split at h0
  · rename_i hok
    split at h0
    · rename_i hl
      have e0 : pmR y ms = playG y ms 0 := by unfold pmR; rw [if_pos hok, if_pos hl]
      have e1 : pmR y (ms.take h) = playG y (ms.take h) 0 := by unfold pmR; rw [if_pos hok, if_pos (by rw [List.length_take]; omega)]
      have hsplit : ms = ms.take h ++ ms.drop h := (List.take_append_drop h ms).symm
      have hp : (playG y (ms.take h) 0).2.2 = 0 := by
        rw [hsplit] at h0
        exact playG_pre _ _ _ _ h0
      have hc := playG_cnt _ _ _ hp
      have hl1 : (ms.take h).length = h := by rw [List.length_take]; omega
      rw [hl1, Nat.zero_add] at hc
      have ha := playG_app (ms.take h) (ms.drop h) y 0 hp
      rw [List.take_append_drop] at ha
      have hok2 := okS_play _ _ _ hok hp
      have hd : (ms.drop h).length ≤ 40 := by rw [List.length_drop]; omega
      have e2 : pmR (playG y (ms.take h) 0).1 (ms.drop h) = playG (playG y (ms.take h) 0).1 (ms.drop h) 0 := by unfold pmR; rw [if_pos hok2, if_pos hd]
      rw [playG_shift _ _ (playG y (ms.take h) 0).2.1] at ha
      have hz : (playG (playG y (ms.take h) 0).1 (ms.drop h) 0).2.2 = 0 := by
        rw [ha] at h0
        exact h0
      have hc2 := playG_cnt _ _ _ hz
      have hc0 := playG_cnt _ _ _ h0
      refine ⟨by rw [e0, hc0]; omega, by rw [e1]; exact Prod.ext hc hp, ?_⟩
      rw [e1, e2, e0, ha]
      refine Prod.ext rfl (Prod.ext ?_ hz)
      rw [hc2, List.length_drop]
      simp
    · cases h0
  · cases h0
theorem okS_six {y : SelL} (h : okS y = true) : okP y.p = true ∧ y.s.length = 2 ∧ (0 ≤ y.s.getD 0 0 ∧ y.s.getD 0 0 ≤ 10) ∧ (0 ≤ y.s.getD 1 0 ∧ y.s.getD 1 0 ≤ 10) ∧ (0 ≤ y.t ∧ y.t ≤ 1) ∧ (0 ≤ y.q ∧ y.q ≤ 2) := by
  unfold okS areB at h
  simp only [Bool.and_eq_true, decide_eq_true_eq, inB_iff] at h
  obtain ⟨a, ⟨b, c, d⟩, e, f⟩ := h
  exact ⟨a, b, c, d, e, f⟩
/-- what may still be reached: no more than the strikes left, nothing if it is over -/
theorem reach_ok {y : SelL} (h : okS y = true) : reachV y ≤ leftV y ∧ (overV y = true → reachV y = 0) ∧ overV y = overB y := by
  obtain ⟨_, _, h0, h1, _, _⟩ := okS_six h
  unfold reachV leftV overV
  rw [h, if_pos rfl, Bool.true_and]
  refine ⟨?_, fun ho => ?_, rfl⟩
  · split
    · exact Int.min_le_left _ _
    · omega
  · rw [if_neg]
    rintro ⟨_, h2⟩
    rw [ho] at h2
    cases h2
theorem over_pass {y : SelL} (h : okS y = true) : (ptC y = 5) ↔ overB y = true := by
  unfold ptC passC
  rw [if_pos h]
  split <;> simp_all
/-- behind a strike: one strike less, the other side's turn, and the striker had one -/
theorem ss_ok {y : SelL} {k : Int} (h : ssC y k = 0) : okS y = true ∧ okS (strL y k) = true ∧ leftV (strL y k) = leftV y - 1 ∧ (strL y k).t = 1 - y.t ∧ 0 ≤ (strL y k).s.getD y.t.toNat 0 ∧ (strL y k).s.length = 2 := by
  have hok : okS y = true := by
    unfold ssC at h
    split at h
    · assumption
    · cases h
  have hs : strC y k = 0 := by rw [← ssC_str hok]; exact h
  have ho := okS_str hok hs
  obtain ⟨_, _, _, hn⟩ := strC_0 hs
  obtain ⟨_, h2, a, b, c, d⟩ := okS_six hok
  refine ⟨hok, ho, ?_, rfl, ?_, by simp [strL, h2]⟩
  · unfold leftV
    rw [if_pos ho, if_pos hok]
    obtain ⟨u, v, hl⟩ : ∃ u v, y.s = [u, v] := by
      match hs2 : y.s, h2 with
      | [u, v], _ => exact ⟨u, v, rfl⟩
    simp only [strL, hl]
    rcases (show y.t = 0 ∨ y.t = 1 by omega) with e | e <;> (rw [e]; simp <;> omega)
  · obtain ⟨u, v, hl⟩ : ∃ u v, y.s = [u, v] := by
      match hs2 : y.s, h2 with
      | [u, v], _ => exact ⟨u, v, rfl⟩
    rw [hl] at a b hn
    simp only [strL, hl]
    rcases (show y.t = 0 ∨ y.t = 1 by omega) with e | e <;> (rw [e] at hn ⊢; simp at a b hn ⊢; omega)
end Go.Proofs.Ytkfjphjmffbpiaa.mem
