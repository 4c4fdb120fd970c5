/-
  Contracts of the audit functions: IsLow, IsHigh, ChanceOfAtLeast, LikeliestNumber, and the walks of their laws.
-/
import Derived.Test.YtmianahfccediaaAudZ
namespace Go.Proofs.Ytmianahfccediaa.aud
open Go.ChangeShapes Go.WideShapes Go.ChangeAt Go.RowKit

def limB (n g k x l : Int) : Bool := drawB n g k && (inB x 0 40 && inB l 0 1000)
theorem limB_yes {n g k x l : Int} (h : limB n g k x l = true) : drawB n g k = true ∧ (0 ≤ x ∧ x ≤ 40) ∧ 0 ≤ l ∧ l ≤ 1000 := by simpa [limB, inB] using h
theorem limI_lim (n g k x l : Int) : limI n g k x l = if limB n g k x l = true then 0 else 2 := rfl

/-! ### IsLow -/
def lowV (n g k x l : Int) : Bool := limB n g k x l && rareB n g k 0 x l
def highV (n g k x l : Int) : Bool := limB n g k x l && rareB n g k x 40 l
def lowC (n g k x l : Int) : Int := if limB n g k x l = true then 0 else 2

theorem low_impl (n g k x l : Int) (w : World) : Calls Try.prog 19 #[.int .i64 n, .int .i64 g, .int .i64 k, .int .i64 x, .int .i64 l] w fun e w' => e = .returned (.tuple #[.bool (lowV n g k x l), .int .i64 (lowC n g k x l)]) ∧ w = w' := by
  cases h1 : drawB n g k <;> cases h2 : inB x 0 40 <;> cases h3 : inB l 0 1000
  case true.true.true =>
    have hl : limB n g k x l = true := by unfold limB; rw [h1, h2, h3]; rfl
    have hh := (limB_yes hl).2
    have E1 := hide (show lowV n g k x l = rareB n g k 0 x l from by unfold lowV; rw [hl]; rfl)
    have E2 := hide (show lowC n g k x l = 0 from by unfold lowC; rw [hl]; rfl)
    have H1 := hide h1
    clear hl
    go_enter Try.func19, Try.ntmps19
    go_wp2_with (first | (go_at_call 33; refine (isDraw_any _ _ _ _).mono ?_; rintro e w' ⟨rfl, rfl⟩) | (go_at_call 39; refine (isCount_any _ _).mono ?_; rintro e w' ⟨rfl, rfl⟩) | (go_at_call 40; refine (isThousandths_any _ _).mono ?_; rintro e w' ⟨rfl, rfl⟩) | (go_at_call 41; refine (rare_any _ _ _ _ _ _ _ H1.out (by omega) (by omega) (by omega) (by omega) (by omega) (by omega)).mono ?_; rintro e w' ⟨rfl, rfl⟩))
    go_ret2
    exact ⟨by rw [E1.out, E2.out]; rfl, rfl⟩
  all_goals
    have hl : limB n g k x l = false := by unfold limB; rw [h1, h2, h3]; rfl
    have E1 := hide (show lowV n g k x l = false from by unfold lowV; rw [hl]; rfl)
    have E2 := hide (show lowC n g k x l = 2 from by unfold lowC; rw [hl]; rfl)
    clear hl
    go_enter Try.func19, Try.ntmps19
    go_wp2_with (first | (go_at_call 33; refine (isDraw_any _ _ _ _).mono ?_; rintro e w' ⟨rfl, rfl⟩) | (go_at_call 39; refine (isCount_any _ _).mono ?_; rintro e w' ⟨rfl, rfl⟩) | (go_at_call 40; refine (isThousandths_any _ _).mono ?_; rintro e w' ⟨rfl, rfl⟩))
    go_ret2
    exact ⟨by rw [E1.out, E2.out]; rfl, rfl⟩
theorem high_impl (n g k x l : Int) (w : World) : Calls Try.prog 17 #[.int .i64 n, .int .i64 g, .int .i64 k, .int .i64 x, .int .i64 l] w fun e w' => e = .returned (.tuple #[.bool (highV n g k x l), .int .i64 (lowC n g k x l)]) ∧ w = w' := by
  cases h1 : drawB n g k <;> cases h2 : inB x 0 40 <;> cases h3 : inB l 0 1000
  case true.true.true =>
    have hl : limB n g k x l = true := by unfold limB; rw [h1, h2, h3]; rfl
    have hh := (limB_yes hl).2
    have E1 := hide (show highV n g k x l = rareB n g k x 40 l from by unfold highV; rw [hl]; rfl)
    have E2 := hide (show lowC n g k x l = 0 from by unfold lowC; rw [hl]; rfl)
    have H1 := hide h1
    clear hl
    go_enter Try.func17, Try.ntmps17
    go_wp2_with (first | (go_at_call 33; refine (isDraw_any _ _ _ _).mono ?_; rintro e w' ⟨rfl, rfl⟩) | (go_at_call 39; refine (isCount_any _ _).mono ?_; rintro e w' ⟨rfl, rfl⟩) | (go_at_call 40; refine (isThousandths_any _ _).mono ?_; rintro e w' ⟨rfl, rfl⟩) | (go_at_call 41; refine (rare_any _ _ _ _ _ _ _ H1.out (by omega) (by omega) (by omega) (by omega) (by omega) (by omega)).mono ?_; rintro e w' ⟨rfl, rfl⟩))
    go_ret2
    exact ⟨by rw [E1.out, E2.out]; rfl, rfl⟩
  all_goals
    have hl : limB n g k x l = false := by unfold limB; rw [h1, h2, h3]; rfl
    have E1 := hide (show highV n g k x l = false from by unfold highV; rw [hl]; rfl)
    have E2 := hide (show lowC n g k x l = 2 from by unfold lowC; rw [hl]; rfl)
    clear hl
    go_enter Try.func17, Try.ntmps17
    go_wp2_with (first | (go_at_call 33; refine (isDraw_any _ _ _ _).mono ?_; rintro e w' ⟨rfl, rfl⟩) | (go_at_call 39; refine (isCount_any _ _).mono ?_; rintro e w' ⟨rfl, rfl⟩) | (go_at_call 40; refine (isThousandths_any _ _).mono ?_; rintro e w' ⟨rfl, rfl⟩))
    go_ret2
    exact ⟨by rw [E1.out, E2.out]; rfl, rfl⟩
theorem low_spec (n g k x l : Int) (w : World) : Calls Try.prog 18 #[.int .i64 n, .int .i64 g, .int .i64 k, .int .i64 x, .int .i64 l] w fun e w' => e = .returned (.tuple #[.bool (lowV n g k x l), .int .i64 (lowC n g k x l)]) ∧ w = w' := by
  cases hl : limB n g k x l
  · have hc : limI n g k x l = 2 := by rw [limI_lim, hl]; rfl
    have E1 := hide (show lowV n g k x l = false from by unfold lowV; rw [hl]; rfl)
    have E2 := hide (show lowC n g k x l = 2 from by unfold lowC; rw [hl]; rfl)
    clear hl
    go_enter Try.func18, Try.ntmps18
    go_wp2_with (go_at_call 37; refine (limit_any _ _ _ _ _ _).mono ?_; rintro e w' ⟨rfl, rfl⟩)
    go_ret2
    exact ⟨by rw [E1.out, E2.out]; rfl, rfl⟩
  · have hc : limI n g k x l = 0 := by rw [limI_lim, hl]; rfl
    have E1 := hide (show lowV n g k x l = rareB n g k 0 x l from by unfold lowV; rw [hl]; rfl)
    have E2 := hide (show lowC n g k x l = 0 from by unfold lowC; rw [hl]; rfl)
    obtain ⟨hd, ⟨hx0, hx⟩, ht0, ht⟩ := limB_yes hl
    obtain ⟨⟨hn0, hn⟩, ⟨hg0, hg⟩, hk0, hk⟩ := drawB_yes hd
    have hb := waysS_bd n g k 0 x hn hg0 hg (by omega) hx
    clear hl hd
    go_enter Try.func18, Try.ntmps18
    go_wp2_with (first | (go_at_call 37; refine (limit_any _ _ _ _ _ _).mono ?_; rintro e w' ⟨rfl, rfl⟩) | (go_at_call 35; refine (lways_any _ _ _ _ _ _ (by omega) (by omega) (by omega) (by omega) (by omega) (by omega) (by omega) (by omega) (by omega)).mono ?_; rintro e w' ⟨rfl, rfl⟩) | (go_at_call 38; refine (low_any _ _ _ _ _ (by omega) (by omega) (by omega) (by omega) (by omega) (by omega)).mono ?_; rintro e w' ⟨rfl, rfl⟩))
    go_ret2
    exact ⟨by rw [E1.out, E2.out]; rfl, rfl⟩
theorem high_spec (n g k x l : Int) (w : World) : Calls Try.prog 16 #[.int .i64 n, .int .i64 g, .int .i64 k, .int .i64 x, .int .i64 l] w fun e w' => e = .returned (.tuple #[.bool (highV n g k x l), .int .i64 (lowC n g k x l)]) ∧ w = w' := by
  cases hl : limB n g k x l
  · have hc : limI n g k x l = 2 := by rw [limI_lim, hl]; rfl
    have E1 := hide (show highV n g k x l = false from by unfold highV; rw [hl]; rfl)
    have E2 := hide (show lowC n g k x l = 2 from by unfold lowC; rw [hl]; rfl)
    clear hl
    go_enter Try.func16, Try.ntmps16
    go_wp2_with (go_at_call 37; refine (limit_any _ _ _ _ _ _).mono ?_; rintro e w' ⟨rfl, rfl⟩)
    go_ret2
    exact ⟨by rw [E1.out, E2.out]; rfl, rfl⟩
  · have hc : limI n g k x l = 0 := by rw [limI_lim, hl]; rfl
    have E1 := hide (show highV n g k x l = rareB n g k x 40 l from by unfold highV; rw [hl]; rfl)
    have E2 := hide (show lowC n g k x l = 0 from by unfold lowC; rw [hl]; rfl)
    obtain ⟨hd, ⟨hx0, hx⟩, ht0, ht⟩ := limB_yes hl
    obtain ⟨⟨hn0, hn⟩, ⟨hg0, hg⟩, hk0, hk⟩ := drawB_yes hd
    have hb := waysS_bd n g k x 40 hn hg0 hg (by omega) (by omega)
    clear hl hd
    go_enter Try.func16, Try.ntmps16
    go_wp2_with (first | (go_at_call 37; refine (limit_any _ _ _ _ _ _).mono ?_; rintro e w' ⟨rfl, rfl⟩) | (go_at_call 35; refine (lways_any _ _ _ _ _ _ (by omega) (by omega) (by omega) (by omega) (by omega) (by omega) (by omega) (by omega) (by omega)).mono ?_; rintro e w' ⟨rfl, rfl⟩) | (go_at_call 38; refine (low_any _ _ _ _ _ (by omega) (by omega) (by omega) (by omega) (by omega) (by omega)).mono ?_; rintro e w' ⟨rfl, rfl⟩))
    go_ret2
    exact ⟨by rw [E1.out, E2.out]; rfl, rfl⟩
theorem law_low (n g k x l : Int) (w : World) : Calls Try.prog 7 #[.int .i64 n, .int .i64 g, .int .i64 k, .int .i64 x, .int .i64 l] w fun e w' => e = .returned (.bool true) ∧ w = w' := by
  go_enter Try.func7, Try.ntmps7
  go_wp2_with (first | (go_at_call 18; refine (low_spec _ _ _ _ _ _).mono ?_; rintro e w' ⟨rfl, rfl⟩) | (go_at_call 19; refine (low_impl _ _ _ _ _ _).mono ?_; rintro e w' ⟨rfl, rfl⟩))
  go_ret
  exact ⟨rfl, rfl⟩
theorem law_high (n g k x l : Int) (w : World) : Calls Try.prog 6 #[.int .i64 n, .int .i64 g, .int .i64 k, .int .i64 x, .int .i64 l] w fun e w' => e = .returned (.bool true) ∧ w = w' := by
  go_enter Try.func6, Try.ntmps6
  go_wp2_with (first | (go_at_call 16; refine (high_spec _ _ _ _ _ _).mono ?_; rintro e w' ⟨rfl, rfl⟩) | (go_at_call 17; refine (high_impl _ _ _ _ _ _).mono ?_; rintro e w' ⟨rfl, rfl⟩))
  go_ret
  exact ⟨rfl, rfl⟩

/-! ### ChanceOfAtLeast -/
def drxB (n g k x : Int) : Bool := drawB n g k && inB x 0 40
theorem drxB_yes {n g k x : Int} (h : drxB n g k x = true) : drawB n g k = true ∧ 0 ≤ x ∧ x ≤ 40 := by simpa [drxB, inB] using h
theorem codeI_drx (n g k x : Int) : codeI n g k x = if drxB n g k x = true then 0 else 2 := rfl
def alT (n g k x : Int) : Int := if drxB n g k x = true then chT n g k x 40 else 0
def alB (n g k x : Int) : Int := if drxB n g k x = true then chBm n g k x 40 else 0
def alC (n g k x : Int) : Int := if drxB n g k x = true then 0 else 2
theorem al_impl (n g k x : Int) (w : World) : Calls Try.prog 21 #[.int .i64 n, .int .i64 g, .int .i64 k, .int .i64 x] w fun e w' => ∃ q, e = .returned (.tuple #[.int .i64 (alT n g k x), .int .i64 (alB n g k x), .int .i64 (alC n g k x)]) ∧ w' = w.drewN q := by
  cases h1 : drawB n g k <;> cases h2 : inB x 0 40
  case true.true =>
    have hl : drxB n g k x = true := by unfold drxB; rw [h1, h2]; rfl
    have hh := (drxB_yes hl).2
    have E1 := hide (show alT n g k x = chT n g k x 40 from by unfold alT; rw [hl]; rfl)
    have E2 := hide (show alB n g k x = chBm n g k x 40 from by unfold alB; rw [hl]; rfl)
    have E3 := hide (show alC n g k x = 0 from by unfold alC; rw [hl]; rfl)
    have H1 := hide h1
    clear hl
    go_enter Try.func21, Try.ntmps21
    go_wp2_with (first | (go_at_call 33; refine (isDraw_any _ _ _ _).mono ?_; rintro e w' ⟨rfl, rfl⟩) | (go_at_call 39; refine (isCount_any _ _).mono ?_; rintro e w' ⟨rfl, rfl⟩) | (go_at_call 43; refine (chanceOf_any _ _ _ _ _ _ H1.out (by omega) (by omega) (by omega) (by omega)).mono ?_; rintro e w' ⟨q, rfl, rfl⟩))
    go_ret3
    exact ⟨q, by rw [E1.out, E2.out, E3.out]; rfl, rfl⟩
  all_goals
    have hl : drxB n g k x = false := by unfold drxB; rw [h1, h2]; rfl
    have E1 := hide (show alT n g k x = 0 from by unfold alT; rw [hl]; rfl)
    have E2 := hide (show alB n g k x = 0 from by unfold alB; rw [hl]; rfl)
    have E3 := hide (show alC n g k x = 2 from by unfold alC; rw [hl]; rfl)
    clear hl
    go_enter Try.func21, Try.ntmps21
    go_wp2_with (first | (go_at_call 33; refine (isDraw_any _ _ _ _).mono ?_; rintro e w' ⟨rfl, rfl⟩) | (go_at_call 39; refine (isCount_any _ _).mono ?_; rintro e w' ⟨rfl, rfl⟩))
    go_ret3
    exact ⟨0, by rw [E1.out, E2.out, E3.out]; rfl, rfl⟩
theorem al_spec (n g k x : Int) (w : World) : Calls Try.prog 20 #[.int .i64 n, .int .i64 g, .int .i64 k, .int .i64 x] w fun e w' => ∃ q, e = .returned (.tuple #[.int .i64 (alT n g k x), .int .i64 (alB n g k x), .int .i64 (alC n g k x)]) ∧ w' = w.drewN q := by
  cases hl : drxB n g k x
  · have hc : codeI n g k x = 2 := by rw [codeI_drx, hl]; rfl
    have E1 := hide (show alT n g k x = 0 from by unfold alT; rw [hl]; rfl)
    have E2 := hide (show alB n g k x = 0 from by unfold alB; rw [hl]; rfl)
    have E3 := hide (show alC n g k x = 2 from by unfold alC; rw [hl]; rfl)
    clear hl
    go_enter Try.func20, Try.ntmps20
    go_wp2_with (go_at_call 31; refine (code_any _ _ _ _ _).mono ?_; rintro e w' ⟨rfl, rfl⟩)
    go_ret3
    exact ⟨0, by rw [E1.out, E2.out, E3.out]; rfl, rfl⟩
  · have hc : codeI n g k x = 0 := by rw [codeI_drx, hl]; rfl
    have E1 := hide (show alT n g k x = chT n g k x 40 from by unfold alT; rw [hl]; rfl)
    have E2 := hide (show alB n g k x = chBm n g k x 40 from by unfold alB; rw [hl]; rfl)
    have E3 := hide (show alC n g k x = 0 from by unfold alC; rw [hl]; rfl)
    obtain ⟨hd, hx0, hx⟩ := drxB_yes hl
    have H1 := hide hd
    clear hl hd
    go_enter Try.func20, Try.ntmps20
    go_wp2_with (first | (go_at_call 31; refine (code_any _ _ _ _ _).mono ?_; rintro e w' ⟨rfl, rfl⟩) | (go_at_call 42; refine (chance_any _ _ _ _ _ _ H1.out (by omega) (by omega) (by omega) (by omega)).mono ?_; rintro e w' ⟨q, rfl, rfl⟩))
    go_ret3
    exact ⟨q, by rw [E1.out, E2.out, E3.out]; rfl, rfl⟩
theorem law_al (n g k x : Int) (w : World) : Calls Try.prog 8 #[.int .i64 n, .int .i64 g, .int .i64 k, .int .i64 x] w fun e w' => e = .returned (.bool true) ∧ ∃ q, w' = w.drewN q := by
  go_enter Try.func8, Try.ntmps8
  go_wp2_with (first | (go_at_call 20; refine (al_spec _ _ _ _ _).mono ?_; rintro e w' ⟨q1, rfl, rfl⟩) | (go_at_call 21; refine (al_impl _ _ _ _ _).mono ?_; rintro e w' ⟨q2, rfl, rfl⟩))
  go_ret
  exact ⟨rfl, _, rfl⟩

/-! ### LikeliestNumber -/
def bestO (n g k : Int) : Nat → Int
  | 0 => 0
  | j + 1 => if waysS n g k (bestO n g k j) (bestO n g k j) < waysS n g k j j then j else bestO n g k j
theorem best_bd (n g k : Int) : ∀ j : Nat, 0 ≤ bestO n g k j ∧ bestO n g k j ≤ j
  | 0 => by simp [bestO]
  | j + 1 => by
    have := best_bd n g k j
    simp only [bestO]
    split <;> omega
def lnV (n g k : Int) : Int := if drawB n g k = true then bestO n g k (n.toNat + 1) else 0
theorem ln_impl (n g k : Int) (w : World) : Calls Try.prog 15 #[.int .i64 n, .int .i64 g, .int .i64 k] w fun e w' => e = .returned (.tuple #[.int .i64 (lnV n g k), .int .i64 (emC n g k)]) ∧ w = w' := by
  cases h : drawB n g k
  · have E1 := hide (show lnV n g k = 0 from by unfold lnV; rw [h]; rfl)
    have E3 := hide (show emC n g k = 2 from by unfold emC; rw [h]; rfl)
    go_enter Try.func15, Try.ntmps15
    go_wp2_with (go_at_call 33; refine (isDraw_any _ _ _ _).mono ?_; rintro e w' ⟨rfl, rfl⟩)
    go_ret2
    exact ⟨by rw [E1.out, E3.out]; rfl, rfl⟩
  · have E1 := hide (show lnV n g k = bestO n g k (n.toNat + 1) from by unfold lnV; rw [h]; rfl)
    have E3 := hide (show emC n g k = 0 from by unfold emC; rw [h]; rfl)
    obtain ⟨⟨hn0, hn⟩, ⟨hg0, hg⟩, hk0, hk⟩ := drawB_yes h
    obtain ⟨m, rfl⟩ := Int.eq_ofNat_of_zero_le (show 0 ≤ n by omega)
    go_enter Try.func15, Try.ntmps15
    go_wp2_with (go_at_call 33; refine (isDraw_any _ _ _ _).mono ?_; rintro e w' ⟨rfl, rfl⟩)
    clear h
    go_loop [8, 9, 17] (fun p _ i => ∃ j : Nat, j ≤ m + 1 ∧ i = .int .i64 j ∧ p = .int .i64 (bestO m g k j)) (fun _ _ i => m + 1 - (intOf i).toNat)
    case atStart => exact ⟨0, by omega, rfl, rfl⟩
    case round =>
      obtain ⟨j, hj, rfl, rfl⟩ := hrel
      have hb := best_bd m g k j
      by_cases hlt : j < m + 1
      · have hb2 : bestO m g k j ≤ 40 := by omega
        by_cases hw : waysS m g k (bestO m g k j) (bestO m g k j) < waysS m g k j j
        · have E2 := hide (show bestO m g k (j + 1) = j from by simp only [bestO]; rw [if_pos hw])
          go_wp2_with (go_at_call 36; refine (waysOf_any _ _ _ _ _ _ (by omega) (by omega) (by omega) (by omega) (by omega) (by omega) (by omega) (by omega) (by omega)).mono ?_; rintro e w' ⟨rfl, rfl⟩)
          go_round
          case rel => exact ⟨j + 1, by omega, by go_num, by rw [E2.out]⟩
          case measure => simp [intOf]; omega
        · have E2 := hide (show bestO m g k (j + 1) = bestO m g k j from by simp only [bestO]; rw [if_neg hw])
          go_wp2_with (go_at_call 36; refine (waysOf_any _ _ _ _ _ _ (by omega) (by omega) (by omega) (by omega) (by omega) (by omega) (by omega) (by omega) (by omega)).mono ?_; rintro e w' ⟨rfl, rfl⟩)
          go_round
          case rel => exact ⟨j + 1, by omega, by go_num, by rw [E2.out]⟩
          case measure => simp [intOf]; omega
      · go_wp2
        go_ret2
        obtain rfl : j = m + 1 := by omega
        exact ⟨by rw [E1.out, E3.out]; rfl, rfl⟩
theorem ln_spec (n g k : Int) (w : World) : Calls Try.prog 14 #[.int .i64 n, .int .i64 g, .int .i64 k] w fun e w' => e = .returned (.tuple #[.int .i64 (lnV n g k), .int .i64 (emC n g k)]) ∧ w = w' := by
  cases h : drawB n g k
  · have hc : codeI n g k 0 = 2 := by rw [code_draw n g k 0 (by decide), h]; rfl
    have E1 := hide (show lnV n g k = 0 from by unfold lnV; rw [h]; rfl)
    have E3 := hide (show emC n g k = 2 from by unfold emC; rw [h]; rfl)
    go_enter Try.func14, Try.ntmps14
    go_wp2_with (go_at_call 31; refine (code_any _ _ _ _ _).mono ?_; rintro e w' ⟨rfl, rfl⟩)
    go_ret2
    exact ⟨by rw [E1.out, E3.out]; rfl, rfl⟩
  · have hc : codeI n g k 0 = 0 := by rw [code_draw n g k 0 (by decide), h]; rfl
    have E1 := hide (show lnV n g k = bestO n g k (n.toNat + 1) from by unfold lnV; rw [h]; rfl)
    have E3 := hide (show emC n g k = 0 from by unfold emC; rw [h]; rfl)
    obtain ⟨⟨hn0, hn⟩, ⟨hg0, hg⟩, hk0, hk⟩ := drawB_yes h
    obtain ⟨m, rfl⟩ := Int.eq_ofNat_of_zero_le (show 0 ≤ n by omega)
    go_enter Try.func14, Try.ntmps14
    go_wp2_with (go_at_call 31; refine (code_any _ _ _ _ _).mono ?_; rintro e w' ⟨rfl, rfl⟩)
    clear h hc
    go_loop [9, 10] (fun p i => ∃ j : Nat, j ≤ m + 1 ∧ i = .int .i64 j ∧ p = .int .i64 (bestO m g k j)) (fun _ i => m + 1 - (intOf i).toNat)
    case atStart => exact ⟨0, by omega, rfl, rfl⟩
    case round =>
      obtain ⟨j, hj, rfl, rfl⟩ := hrel
      have hb := best_bd m g k j
      by_cases hlt : j < m + 1
      · have hb2 : bestO m g k j ≤ 40 := by omega
        by_cases hw : waysS m g k (bestO m g k j) (bestO m g k j) < waysS m g k j j
        · have E2 := hide (show bestO m g k (j + 1) = j from by simp only [bestO]; rw [if_pos hw])
          go_wp2_with (go_at_call 35; refine (lways_any _ _ _ _ _ _ (by omega) (by omega) (by omega) (by omega) (by omega) (by omega) (by omega) (by omega) (by omega)).mono ?_; rintro e w' ⟨rfl, rfl⟩)
          go_round
          case rel => exact ⟨j + 1, by omega, by go_num, by rw [E2.out]⟩
          case measure => simp [intOf]; omega
        · have E2 := hide (show bestO m g k (j + 1) = bestO m g k j from by simp only [bestO]; rw [if_neg hw])
          go_wp2_with (go_at_call 35; refine (lways_any _ _ _ _ _ _ (by omega) (by omega) (by omega) (by omega) (by omega) (by omega) (by omega) (by omega) (by omega)).mono ?_; rintro e w' ⟨rfl, rfl⟩)
          go_round
          case rel => exact ⟨j + 1, by omega, by go_num, by rw [E2.out]⟩
          case measure => simp [intOf]; omega
      · go_wp2
        go_ret2
        obtain rfl : j = m + 1 := by omega
        exact ⟨by rw [E1.out, E3.out]; rfl, rfl⟩
theorem law_ln (n g k : Int) (w : World) : Calls Try.prog 5 #[.int .i64 n, .int .i64 g, .int .i64 k] w fun e w' => e = .returned (.bool true) ∧ w = w' := by
  go_enter Try.func5, Try.ntmps5
  go_wp2_with (first | (go_at_call 14; refine (ln_spec _ _ _ _).mono ?_; rintro e w' ⟨rfl, rfl⟩) | (go_at_call 15; refine (ln_impl _ _ _ _).mono ?_; rintro e w' ⟨rfl, rfl⟩))
  go_ret
  exact ⟨rfl, rfl⟩
end Go.Proofs.Ytmianahfccediaa.aud
