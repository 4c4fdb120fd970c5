/-
  Contracts of the audit functions that sum over choices, and of the tests of their arguments.
-/
import Derived.Test.YtmianahfccediaaAudP
import Derived.Test.YtmianahfccediaaAudG
namespace Go.Proofs.Ytmianahfccediaa.aud
open Go.ChangeShapes Go.WideShapes Go.ChangeAt Go.RowKit

theorem lchoose_any (a b : Int) (w : World) (h0 : 0 ≤ a) (h1 : a ≤ 40) : Calls Try.prog 28 #[.int .i64 a, .int .i64 b] w fun e w' => e = .returned (.int .i64 (chO a b)) ∧ w = w' := by
  by_cases hb : 0 ≤ b ∧ b ≤ a
  · have e1 : chO a b = chA a b.toNat := if_pos hb
    obtain ⟨k0, rfl⟩ := Int.eq_ofNat_of_zero_le hb.1
    obtain ⟨c, rfl⟩ := Int.eq_ofNat_of_zero_le h0
    have e2 : chB ((c : Int) - (k0 : Int)) k0 = chA c k0 := by
      have := chB_chA ((c : Int) - (k0 : Int)) k0 (by omega) (by omega)
      rw [this]; congr 1; omega
    have E1 := hide e1
    have E2 := hide e2
    clear e1 e2
    have hb1 := hb.1
    have hb2 := hb.2
    clear hb
    go_enter Try.func28, Try.ntmps28
    go_wp2
    go_loop [5, 6] (fun p i => ∃ k : Nat, k ≤ k0 ∧ i = .int .i64 (k + 1) ∧ p = .int .i64 (chB (c - k0) k)) (fun _ i => k0 + 1 - (intOf i).toNat)
    case atStart => exact ⟨0, by omega, rfl, rfl⟩
    case round =>
      obtain ⟨k, hk, rfl, rfl⟩ := hrel
      have hbd := chB_bd (c - k0) k (by omega) (by omega)
      by_cases hlt : k < k0
      · have hm0 : 0 ≤ chB (c - k0) k * (c - k0 + (k + 1)) := Int.mul_nonneg hbd.1 (by omega)
        have hm1 : chB (c - k0) k * (c - k0 + (k + 1)) ≤ 137846528820 * 40 := Int.mul_le_mul hbd.2 (by omega) (by omega) (by omega)
        go_wp2
        go_round
        case rel => exact ⟨k + 1, by omega, by go_num, by simp [chB]⟩
        case measure => simp [intOf]; omega
      · go_wp2
        go_ret
        obtain rfl : k = k0 := by omega
        exact ⟨by rw [E1.out, Int.toNat_natCast, ← E2.out]; rfl, rfl⟩
  · have e1 : chO a b = 0 := if_neg hb
    have E1 := hide e1
    clear e1
    by_cases hb1 : b < 0
    · go_enter Try.func28, Try.ntmps28
      go_wp2
      go_ret
      exact ⟨by rw [E1.out]; rfl, rfl⟩
    · have hb2 : a < b := by omega
      clear hb
      go_enter Try.func28, Try.ntmps28
      go_wp2
      go_ret
      exact ⟨by rw [E1.out]; rfl, rfl⟩

theorem waysOf_any (n g k least most : Int) (w : World) (hn : n ≤ 40) (hg0 : 0 ≤ g) (hg : g ≤ n) (hk0 : 0 ≤ k) (hk : k ≤ n) (hl : 0 ≤ least) (hl2 : least ≤ 40) (hm0 : 0 ≤ most) (hm : most ≤ 40) :
    Calls Try.prog 36 #[.int .i64 n, .int .i64 g, .int .i64 k, .int .i64 least, .int .i64 most] w fun e w' => e = .returned (.int .i64 (waysS n g k least most)) ∧ w = w' := by
  have hN : waysN least most = (most + 1 - least).toNat := rfl
  have hS : waysS n g k least most = waysO n g k least (waysN least most) := rfl
  have HS := hide hS
  have HN := hide hN
  clear hS
  obtain ⟨N, hNN⟩ : ∃ N, waysN least most = N := ⟨_, rfl⟩
  rw [hNN] at HS hN
  have hN1 : (N : Int) ≤ 41 := by omega
  clear HN hNN
  have HN := hide hN
  clear hN
  go_enter Try.func36, Try.ntmps36
  go_wp2
  go_loop [11, 12] (fun p i => ∃ j : Nat, j ≤ N ∧ i = .int .i64 (least + j) ∧ p = .int .i64 (waysO n g k least j)) (fun _ i => N - (intOf i - least).toNat)
  case atStart => exact ⟨0, by omega, by go_num, rfl⟩
  case round =>
    obtain ⟨j, hj, rfl, rfl⟩ := hrel
    have hbd := ways_bd n g k least hn hg0 hg j
    have htd := term_bd n g k (least + j) hn hg0 hg
    have e1 : termO n g k (least + j) = chO g (least + j) * chO (n - g) (k - (least + j)) := rfl
    have e2 : waysO n g k least (j + 1) = waysO n g k least j + chO g (least + j) * chO (n - g) (k - (least + j)) := rfl
    rw [e1] at htd
    have E2 := hide e2
    clear e1 e2
    have hjj : (j : Int) ≤ 41 := by omega
    by_cases hlt : j < N
    · have hlt2 : least + j ≤ most := by have := HN.out; omega
      go_wp2_with (go_at_call 30; refine (choose_any _ _ _ (by omega) (by omega)).mono ?_; rintro e w' ⟨rfl, rfl⟩)
      go_round
      case rel => exact ⟨j + 1, by omega, by go_num, by rw [E2.out]⟩
      case measure => simp [intOf]; omega
    · have hlt2 : most < least + j := by have := HN.out; omega
      go_wp2
      go_ret
      obtain rfl : j = N := by omega
      exact ⟨by rw [HS.out]; rfl, rfl⟩
end Go.Proofs.Ytmianahfccediaa.aud
