/-
  Contracts of the audit functions: what the exported functions return, for all arguments.
-/
import Derived.Test.YtmianahfccediaaAudX
namespace Go.Proofs.Ytmianahfccediaa.aud
open Go.ChangeShapes Go.WideShapes Go.ChangeAt Go.RowKit

theorem lowest_int (a b : Int) (w : World) (ha0 : 0 ≤ a) (ha : a ≤ 4000000000000000000) (hb : b ≤ 4000000000000000000) (hp : 0 < b) : Calls Try.prog 34 #[.int .i64 a, .int .i64 b] w fun e w' => ∃ n, e = .returned (.tuple #[.int .i64 (lowT a.toNat b.toNat), .int .i64 (lowB a.toNat b.toNat)]) ∧ w' = w.drewN n := by
  obtain ⟨a, rfl⟩ := Int.eq_ofNat_of_zero_le ha0
  obtain ⟨b, rfl⟩ := Int.eq_ofNat_of_zero_le (show 0 ≤ b by omega)
  exact lowest_any a b w (by omega) (by omega) (by omega)
theorem fraction_int (a b : Int) (w : World) (ha0 : 0 ≤ a) (ha : a ≤ 4000000000000000000) (hb : b ≤ 4000000000000000000) (hp : 0 < b) : Calls Try.prog 32 #[.int .i64 a, .int .i64 b] w fun e w' => ∃ n, e = .returned (.tuple #[.int .i64 (lowT a.toNat b.toNat), .int .i64 (lowB a.toNat b.toNat)]) ∧ w' = w.drewN n := by
  obtain ⟨a, rfl⟩ := Int.eq_ofNat_of_zero_le ha0
  obtain ⟨b, rfl⟩ := Int.eq_ofNat_of_zero_le (show 0 ≤ b by omega)
  exact fraction_any a b w (by omega) (by omega) (by omega)

theorem chO_pos (n k : Int) (h0 : 0 ≤ k) (h : k ≤ n) : 0 < chO n k := by
  obtain ⟨k, rfl⟩ := Int.eq_ofNat_of_zero_le h0
  obtain ⟨n, rfl⟩ := Int.eq_ofNat_of_zero_le (show 0 ≤ n by omega)
  rw [chO_pc _ _ (by omega)]
  have : ∀ n k : Nat, k ≤ n → 0 < pc n k := by
    intro n
    induction n with
    | zero =>
      intro k hk
      have e : k = 0 := by omega
      rw [e]; decide
    | succ n ih =>
      intro k hk
      cases k with
      | zero => simp [pc]
      | succ k => have := ih k (by omega); simp only [pc]; omega
  have := this n k (by omega)
  omega

def chT (n g k least most : Int) : Int := lowT (waysS n g k least most).toNat (chO n k).toNat
def chBm (n g k least most : Int) : Int := lowB (waysS n g k least most).toNat (chO n k).toNat

theorem chanceOf_any (n g k least most : Int) (w : World) (hd : drawB n g k = true) (hl : 0 ≤ least) (hl2 : least ≤ 40) (hm0 : 0 ≤ most) (hm : most ≤ 40) :
    Calls Try.prog 43 #[.int .i64 n, .int .i64 g, .int .i64 k, .int .i64 least, .int .i64 most] w fun e w' => ∃ q, e = .returned (.tuple #[.int .i64 (chT n g k least most), .int .i64 (chBm n g k least most)]) ∧ w' = w.drewN q := by
  obtain ⟨⟨hn0, hn⟩, ⟨hg0, hg⟩, hk0, hk⟩ := drawB_yes hd
  clear hd
  have b1 := waysS_bd n g k least most hn hg0 hg hl hm
  have b2 := chO_bd n k (by omega) hn
  have b3 := chO_pos n k hk0 hk
  go_enter Try.func43, Try.ntmps43
  go_wp2_with (first | (go_at_call 36; refine (waysOf_any _ _ _ _ _ _ (by omega) (by omega) (by omega) (by omega) (by omega) (by omega) (by omega) (by omega) (by omega)).mono ?_; rintro e w' ⟨rfl, rfl⟩) | (go_at_call 30; refine (choose_any _ _ _ (by omega) (by omega)).mono ?_; rintro e w' ⟨rfl, rfl⟩) | (go_at_call 34; refine (lowest_int _ _ _ (by omega) (by omega) (by omega) (by omega)).mono ?_; rintro e w' ⟨q, rfl, rfl⟩))
  go_ret2
  exact ⟨q, rfl, rfl⟩
theorem chance_any (n g k least most : Int) (w : World) (hd : drawB n g k = true) (hl : 0 ≤ least) (hl2 : least ≤ 40) (hm0 : 0 ≤ most) (hm : most ≤ 40) :
    Calls Try.prog 42 #[.int .i64 n, .int .i64 g, .int .i64 k, .int .i64 least, .int .i64 most] w fun e w' => ∃ q, e = .returned (.tuple #[.int .i64 (chT n g k least most), .int .i64 (chBm n g k least most)]) ∧ w' = w.drewN q := by
  obtain ⟨⟨hn0, hn⟩, ⟨hg0, hg⟩, hk0, hk⟩ := drawB_yes hd
  clear hd
  have b1 := waysS_bd n g k least most hn hg0 hg hl hm
  have b2 := chO_bd n k (by omega) hn
  have b3 := chO_pos n k hk0 hk
  go_enter Try.func42, Try.ntmps42
  go_wp2_with (first | (go_at_call 35; refine (lways_any _ _ _ _ _ _ (by omega) (by omega) (by omega) (by omega) (by omega) (by omega) (by omega) (by omega) (by omega)).mono ?_; rintro e w' ⟨rfl, rfl⟩) | (go_at_call 28; refine (lchoose_any _ _ _ (by omega) (by omega)).mono ?_; rintro e w' ⟨rfl, rfl⟩) | (go_at_call 32; refine (fraction_int _ _ _ (by omega) (by omega) (by omega) (by omega)).mono ?_; rintro e w' ⟨q, rfl, rfl⟩))
  go_ret2
  exact ⟨q, rfl, rfl⟩

/-! ### WaysToChoose -/
def wtcB (a b : Int) : Bool := inB a 0 40 && inB b 0 40
theorem wtcB_yes {a b : Int} (h : wtcB a b = true) : (0 ≤ a ∧ a ≤ 40) ∧ 0 ≤ b ∧ b ≤ 40 := by simpa [wtcB, inB] using h
def wtcV (a b : Int) : Int := if wtcB a b = true then chO a b else 0
def wtcC (a b : Int) : Int := if wtcB a b = true then 0 else 2

theorem ways_impl (a b : Int) (w : World) : Calls Try.prog 11 #[.int .i64 a, .int .i64 b] w fun e w' => e = .returned (.tuple #[.int .i64 (wtcV a b), .int .i64 (wtcC a b)]) ∧ w = w' := by
  cases h1 : inB a 0 40 <;> cases h2 : inB b 0 40
  case true.true =>
    have hh := wtcB_yes (show wtcB a b = true from by unfold wtcB; rw [h1, h2]; rfl)
    have E1 := hide (show wtcV a b = chO a b from by unfold wtcV wtcB; rw [h1, h2]; rfl)
    have E2 := hide (show wtcC a b = 0 from by unfold wtcC wtcB; rw [h1, h2]; rfl)
    go_enter Try.func11, Try.ntmps11
    go_wp2_with (first | (go_at_call 29; refine (within_any _ _ _ _).mono ?_; rintro e w' ⟨rfl, rfl⟩) | (go_at_call 30; refine (choose_any _ _ _ (by omega) (by omega)).mono ?_; rintro e w' ⟨rfl, rfl⟩))
    go_ret2
    exact ⟨by rw [E1.out, E2.out]; rfl, rfl⟩
  all_goals
    have E1 := hide (show wtcV a b = 0 from by unfold wtcV wtcB; rw [h1, h2]; rfl)
    have E2 := hide (show wtcC a b = 2 from by unfold wtcC wtcB; rw [h1, h2]; rfl)
    go_enter Try.func11, Try.ntmps11
    go_wp2_with (go_at_call 29; refine (within_any _ _ _ _).mono ?_; rintro e w' ⟨rfl, rfl⟩)
    go_ret2
    exact ⟨by rw [E1.out, E2.out]; rfl, rfl⟩
theorem ways_spec (a b : Int) (w : World) : Calls Try.prog 10 #[.int .i64 a, .int .i64 b] w fun e w' => e = .returned (.tuple #[.int .i64 (wtcV a b), .int .i64 (wtcC a b)]) ∧ w = w' := by
  cases h1 : inB a 0 40 <;> cases h2 : inB b 0 40
  case true.true =>
    have hh := wtcB_yes (show wtcB a b = true from by unfold wtcB; rw [h1, h2]; rfl)
    have E1 := hide (show wtcV a b = chO a b from by unfold wtcV wtcB; rw [h1, h2]; rfl)
    have E2 := hide (show wtcC a b = 0 from by unfold wtcC wtcB; rw [h1, h2]; rfl)
    go_enter Try.func10, Try.ntmps10
    go_wp2_with (first | (go_at_call 27; refine (l01In_any _ _ _ _).mono ?_; rintro e w' ⟨rfl, rfl⟩) | (go_at_call 28; refine (lchoose_any _ _ _ (by omega) (by omega)).mono ?_; rintro e w' ⟨rfl, rfl⟩))
    go_ret2
    exact ⟨by rw [E1.out, E2.out]; rfl, rfl⟩
  all_goals
    have E1 := hide (show wtcV a b = 0 from by unfold wtcV wtcB; rw [h1, h2]; rfl)
    have E2 := hide (show wtcC a b = 2 from by unfold wtcC wtcB; rw [h1, h2]; rfl)
    go_enter Try.func10, Try.ntmps10
    go_wp2_with (go_at_call 27; refine (l01In_any _ _ _ _).mono ?_; rintro e w' ⟨rfl, rfl⟩)
    go_ret2
    exact ⟨by rw [E1.out, E2.out]; rfl, rfl⟩

theorem law_ways (a b : Int) (w : World) : Calls Try.prog 3 #[.int .i64 a, .int .i64 b] w fun e w' => e = .returned (.bool true) ∧ w = w' := by
  go_enter Try.func3, Try.ntmps3
  go_wp2_with (first | (go_at_call 10; refine (ways_spec _ _ _).mono ?_; rintro e w' ⟨rfl, rfl⟩) | (go_at_call 11; refine (ways_impl _ _ _).mono ?_; rintro e w' ⟨rfl, rfl⟩))
  go_ret
  exact ⟨rfl, rfl⟩

/-! ### ExpectedMembers -/
def emT (n g k : Int) : Int := if drawB n g k = true then lowT (k * g).toNat n.toNat else 0
def emB (n g k : Int) : Int := if drawB n g k = true then lowB (k * g).toNat n.toNat else 0
def emC (n g k : Int) : Int := if drawB n g k = true then 0 else 2
theorem kg_bd {n g k : Int} (h : drawB n g k = true) : 0 ≤ k * g ∧ k * g ≤ 1600 := by
  obtain ⟨⟨hn0, hn⟩, ⟨hg0, hg⟩, hk0, hk⟩ := drawB_yes h
  exact ⟨Int.mul_nonneg hk0 hg0, Int.le_trans (Int.mul_le_mul (show k ≤ 40 by omega) (show g ≤ 40 by omega) hg0 (by omega)) (by omega)⟩
theorem code_draw (n g k x : Int) (hx : inB x 0 40 = true) : codeI n g k x = if drawB n g k = true then 0 else 2 := by
  unfold codeI; rw [hx]; simp

theorem em_impl (n g k : Int) (w : World) : Calls Try.prog 13 #[.int .i64 n, .int .i64 g, .int .i64 k] w fun e w' => ∃ q, e = .returned (.tuple #[.int .i64 (emT n g k), .int .i64 (emB n g k), .int .i64 (emC n g k)]) ∧ w' = w.drewN q := by
  cases h : drawB n g k
  · have E1 := hide (show emT n g k = 0 from by unfold emT; rw [h]; rfl)
    have E2 := hide (show emB n g k = 0 from by unfold emB; rw [h]; rfl)
    have E3 := hide (show emC n g k = 2 from by unfold emC; rw [h]; rfl)
    go_enter Try.func13, Try.ntmps13
    go_wp2_with (go_at_call 33; refine (isDraw_any _ _ _ _).mono ?_; rintro e w' ⟨rfl, rfl⟩)
    go_ret3
    exact ⟨0, by rw [E1.out, E2.out, E3.out]; rfl, rfl⟩
  · have E1 := hide (show emT n g k = lowT (k * g).toNat n.toNat from by unfold emT; rw [h]; rfl)
    have E2 := hide (show emB n g k = lowB (k * g).toNat n.toNat from by unfold emB; rw [h]; rfl)
    have E3 := hide (show emC n g k = 0 from by unfold emC; rw [h]; rfl)
    have b0 := kg_bd h
    obtain ⟨⟨hn0, hn⟩, _, _, _⟩ := drawB_yes h
    go_enter Try.func13, Try.ntmps13
    go_wp2_with (first | (go_at_call 33; refine (isDraw_any _ _ _ _).mono ?_; rintro e w' ⟨rfl, rfl⟩) | (go_at_call 34; refine (lowest_int _ _ _ (by omega) (by omega) (by omega) (by omega)).mono ?_; rintro e w' ⟨q, rfl, rfl⟩))
    go_ret3
    exact ⟨q, by rw [E1.out, E2.out, E3.out]; rfl, rfl⟩
theorem em_spec (n g k : Int) (w : World) : Calls Try.prog 12 #[.int .i64 n, .int .i64 g, .int .i64 k] w fun e w' => ∃ q, e = .returned (.tuple #[.int .i64 (emT n g k), .int .i64 (emB n g k), .int .i64 (emC n g k)]) ∧ w' = w.drewN q := by
  have hc := code_draw n g k 0 (by decide)
  cases h : drawB n g k
  · have hc : codeI n g k 0 = 2 := by rw [hc, h]; rfl
    have E1 := hide (show emT n g k = 0 from by unfold emT; rw [h]; rfl)
    have E2 := hide (show emB n g k = 0 from by unfold emB; rw [h]; rfl)
    have E3 := hide (show emC n g k = 2 from by unfold emC; rw [h]; rfl)
    go_enter Try.func12, Try.ntmps12
    go_wp2_with (go_at_call 31; refine (code_any _ _ _ _ _).mono ?_; rintro e w' ⟨rfl, rfl⟩)
    go_ret3
    exact ⟨0, by rw [E1.out, E2.out, E3.out]; rfl, rfl⟩
  · have hc : codeI n g k 0 = 0 := by rw [hc, h]; rfl
    have E1 := hide (show emT n g k = lowT (k * g).toNat n.toNat from by unfold emT; rw [h]; rfl)
    have E2 := hide (show emB n g k = lowB (k * g).toNat n.toNat from by unfold emB; rw [h]; rfl)
    have E3 := hide (show emC n g k = 0 from by unfold emC; rw [h]; rfl)
    have b0 := kg_bd h
    obtain ⟨⟨hn0, hn⟩, _, _, _⟩ := drawB_yes h
    go_enter Try.func12, Try.ntmps12
    go_wp2_with (first | (go_at_call 31; refine (code_any _ _ _ _ _).mono ?_; rintro e w' ⟨rfl, rfl⟩) | (go_at_call 32; refine (fraction_int _ _ _ (by omega) (by omega) (by omega) (by omega)).mono ?_; rintro e w' ⟨q, rfl, rfl⟩))
    go_ret3
    exact ⟨q, by rw [E1.out, E2.out, E3.out]; rfl, rfl⟩
theorem law_em (n g k : Int) (w : World) : Calls Try.prog 4 #[.int .i64 n, .int .i64 g, .int .i64 k] w fun e w' => e = .returned (.bool true) ∧ ∃ q, w' = w.drewN q := by
  go_enter Try.func4, Try.ntmps4
  go_wp2_with (first | (go_at_call 12; refine (em_spec _ _ _ _).mono ?_; rintro e w' ⟨q1, rfl, rfl⟩) | (go_at_call 13; refine (em_impl _ _ _ _).mono ?_; rintro e w' ⟨q2, rfl, rfl⟩))
  go_ret
  exact ⟨rfl, _, rfl⟩
end Go.Proofs.Ytmianahfccediaa.aud
