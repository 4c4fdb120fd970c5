/-
  Contracts of the audit functions: the tests of their arguments, and what the exported functions return, for all arguments.
-/
import Derived.Test.YtmianahfccediaaAudW
namespace Go.Proofs.Ytmianahfccediaa.aud
open Go.ChangeShapes Go.WideShapes Go.ChangeAt Go.RowKit

theorem lways_any (n g k least most : Int) (w : World) (hn : n ≤ 40) (hg0 : 0 ≤ g) (hg : g ≤ n) (hk0 : 0 ≤ k) (hk : k ≤ n) (hl : 0 ≤ least) (hl2 : least ≤ 40) (hm0 : 0 ≤ most) (hm : most ≤ 40) :
    Calls Try.prog 35 #[.int .i64 n, .int .i64 g, .int .i64 k, .int .i64 least, .int .i64 most] w fun e w' => e = .returned (.int .i64 (waysS n g k least most)) ∧ w = w' := by
  have hN : waysN least most = (most + 1 - least).toNat := rfl
  have hS : waysS n g k least most = waysO n g k least (waysN least most) := rfl
  have HS := hide hS
  have HN := hide hN
  clear hS
  obtain ⟨N, hNN⟩ : ∃ N, waysN least most = N := ⟨_, rfl⟩
  rw [hNN] at HS hN
  have hN1 : (N : Int) ≤ 41 := by omega
  clear HN hNN
  have HN := hide hN
  clear hN
  go_enter Try.func35, Try.ntmps35
  go_wp2
  go_loop [11, 12] (fun p i => ∃ j : Nat, j ≤ N ∧ i = .int .i64 (least + j) ∧ p = .int .i64 (waysO n g k least j)) (fun _ i => N - (intOf i - least).toNat)
  case atStart => exact ⟨0, by omega, by go_num, rfl⟩
  case round =>
    obtain ⟨j, hj, rfl, rfl⟩ := hrel
    have hbd := ways_bd n g k least hn hg0 hg j
    have htd := term_bd n g k (least + j) hn hg0 hg
    have e1 : termO n g k (least + j) = chO g (least + j) * chO (n - g) (k - (least + j)) := rfl
    have e2 : waysO n g k least (j + 1) = waysO n g k least j + chO g (least + j) * chO (n - g) (k - (least + j)) := rfl
    rw [e1] at htd
    have E2 := hide e2
    clear e1 e2
    have hjj : (j : Int) ≤ 41 := by omega
    by_cases hlt : j < N
    · have hlt2 : least + j ≤ most := by have := HN.out; omega
      go_wp2_with (go_at_call 28; refine (lchoose_any _ _ _ (by omega) (by omega)).mono ?_; rintro e w' ⟨rfl, rfl⟩)
      go_round
      case rel => exact ⟨j + 1, by omega, by go_num, by rw [E2.out]⟩
      case measure => simp [intOf]; omega
    · have hlt2 : most < least + j := by have := HN.out; omega
      go_wp2
      go_ret
      obtain rfl : j = N := by omega
      exact ⟨by rw [HS.out]; rfl, rfl⟩

/-! ### the tests of the arguments -/
def drawB (n g k : Int) : Bool := inB n 1 40 && (inB g 0 n && inB k 0 n)
theorem drawB_yes {n g k : Int} (h : drawB n g k = true) : (1 ≤ n ∧ n ≤ 40) ∧ (0 ≤ g ∧ g ≤ n) ∧ 0 ≤ k ∧ k ≤ n := by
  simpa [drawB, inB] using h

theorem isDraw_any (n g k : Int) (w : World) : Calls Try.prog 33 #[.int .i64 n, .int .i64 g, .int .i64 k] w fun e w' => e = .returned (.bool (drawB n g k)) ∧ w = w' := by
  cases h1 : inB n 1 40 <;> cases h2 : inB g 0 n <;> cases h3 : inB k 0 n
  all_goals
    have E := hide (show drawB n g k = _ from by unfold drawB; rw [h1, h2, h3])
    go_enter Try.func33, Try.ntmps33
    go_wp2_with (go_at_call 29; refine (within_any _ _ _ _).mono ?_; rintro e w' ⟨rfl, rfl⟩)
    go_ret
    exact ⟨by rw [E.out]; rfl, rfl⟩
theorem isCount_any (x : Int) (w : World) : Calls Try.prog 39 #[.int .i64 x] w fun e w' => e = .returned (.bool (inB x 0 40)) ∧ w = w' := by
  go_enter Try.func39, Try.ntmps39
  go_wp2_with (go_at_call 29; refine (within_any _ _ _ _).mono ?_; rintro e w' ⟨rfl, rfl⟩)
  go_ret
  exact ⟨rfl, rfl⟩
theorem isThousandths_any (x : Int) (w : World) : Calls Try.prog 40 #[.int .i64 x] w fun e w' => e = .returned (.bool (inB x 0 1000)) ∧ w = w' := by
  go_enter Try.func40, Try.ntmps40
  go_wp2_with (go_at_call 29; refine (within_any _ _ _ _).mono ?_; rintro e w' ⟨rfl, rfl⟩)
  go_ret
  exact ⟨rfl, rfl⟩

/-- the code of the arguments -/
def codeI (n g k x : Int) : Int := if (drawB n g k && inB x 0 40) = true then 0 else 2
def limI (n g k x l : Int) : Int := if (drawB n g k && (inB x 0 40 && inB l 0 1000)) = true then 0 else 2

theorem code_any (n g k x : Int) (w : World) : Calls Try.prog 31 #[.int .i64 n, .int .i64 g, .int .i64 k, .int .i64 x] w fun e w' => e = .returned (.int .i64 (codeI n g k x)) ∧ w = w' := by
  cases h1 : inB n 1 40 <;> cases h2 : inB g 0 n <;> cases h3 : inB k 0 n <;> cases h4 : inB x 0 40
  all_goals
    have E := hide (show codeI n g k x = _ from by unfold codeI drawB; rw [h1, h2, h3, h4])
    go_enter Try.func31, Try.ntmps31
    go_wp2_with (go_at_call 27; refine (l01In_any _ _ _ _).mono ?_; rintro e w' ⟨rfl, rfl⟩)
    go_ret
    exact ⟨by rw [E.out]; rfl, rfl⟩
theorem limit_any (n g k x l : Int) (w : World) : Calls Try.prog 37 #[.int .i64 n, .int .i64 g, .int .i64 k, .int .i64 x, .int .i64 l] w fun e w' => e = .returned (.int .i64 (limI n g k x l)) ∧ w = w' := by
  cases h1 : inB l 0 1000
  · have E := hide (show limI n g k x l = 2 from by unfold limI; rw [h1]; simp)
    go_enter Try.func37, Try.ntmps37
    go_wp2_with (go_at_call 27; refine (l01In_any _ _ _ _).mono ?_; rintro e w' ⟨rfl, rfl⟩)
    go_ret
    exact ⟨by rw [E.out]; rfl, rfl⟩
  · have E := hide (show limI n g k x l = codeI n g k x from by unfold limI codeI; rw [h1]; simp)
    go_enter Try.func37, Try.ntmps37
    go_wp2_with (first | (go_at_call 27; refine (l01In_any _ _ _ _).mono ?_; rintro e w' ⟨rfl, rfl⟩) | (go_at_call 31; refine (code_any _ _ _ _ _).mono ?_; rintro e w' ⟨rfl, rfl⟩))
    go_ret
    exact ⟨by rw [E.out]; rfl, rfl⟩

/-! ### rare -/
def rareB (n g k least most limit : Int) : Bool := decide (1000 * waysS n g k least most < limit * chO n k)
theorem rare_any (n g k least most limit : Int) (w : World) (hd : drawB n g k = true) (hl : 0 ≤ least) (hl2 : least ≤ 40) (hm0 : 0 ≤ most) (hm : most ≤ 40) (ht0 : 0 ≤ limit) (ht : limit ≤ 1000) :
    Calls Try.prog 41 #[.int .i64 n, .int .i64 g, .int .i64 k, .int .i64 least, .int .i64 most, .int .i64 limit] w fun e w' => e = .returned (.bool (rareB n g k least most limit)) ∧ w = w' := by
  obtain ⟨⟨hn0, hn⟩, ⟨hg0, hg⟩, hk0, hk⟩ := drawB_yes hd
  clear hd
  have b1 := waysS_bd n g k least most hn hg0 hg hl hm
  have b2 := chO_bd n k (by omega) hn
  have b3 : 0 ≤ limit * chO n k := Int.mul_nonneg ht0 b2.1
  have b4 : limit * chO n k ≤ 1000 * 137846528820 := Int.mul_le_mul ht b2.2 b2.1 (by omega)
  go_enter Try.func41, Try.ntmps41
  go_wp2_with (first | (go_at_call 36; refine (waysOf_any _ _ _ _ _ _ (by omega) (by omega) (by omega) (by omega) (by omega) (by omega) (by omega) (by omega) (by omega)).mono ?_; rintro e w' ⟨rfl, rfl⟩) | (go_at_call 30; refine (choose_any _ _ _ (by omega) (by omega)).mono ?_; rintro e w' ⟨rfl, rfl⟩))
  go_ret
  exact ⟨rfl, rfl⟩
theorem low_any (n k ways limit : Int) (w : World) (hn0 : 0 ≤ n) (hn : n ≤ 40) (hw0 : 0 ≤ ways) (hw : ways ≤ 5651707681620) (ht0 : 0 ≤ limit) (ht : limit ≤ 1000) :
    Calls Try.prog 38 #[.int .i64 n, .int .i64 k, .int .i64 ways, .int .i64 limit] w fun e w' => e = .returned (.bool (decide (1000 * ways < limit * chO n k))) ∧ w = w' := by
  have b2 := chO_bd n k (by omega) hn
  have b3 : 0 ≤ limit * chO n k := Int.mul_nonneg ht0 b2.1
  have b4 : limit * chO n k ≤ 1000 * 137846528820 := Int.mul_le_mul ht b2.2 b2.1 (by omega)
  go_enter Try.func38, Try.ntmps38
  go_wp2_with (go_at_call 28; refine (lchoose_any _ _ _ (by omega) (by omega)).mono ?_; rintro e w' ⟨rfl, rfl⟩)
  go_ret
  exact ⟨rfl, rfl⟩
end Go.Proofs.Ytmianahfccediaa.aud
