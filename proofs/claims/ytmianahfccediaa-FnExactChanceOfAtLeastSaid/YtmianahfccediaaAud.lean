/-
  Contracts of the audit functions (choose, waysOf and their kin), over the seat's program: what each returns, for every input that a law reaches.
-/
import Derived.Test.YtmianahfccediaaRows
import Derived.WalkKit
import Derived.ProofKit
import Derived.OpenShut
namespace Go.Proofs.Ytmianahfccediaa.aud
open Go.ChangeShapes Go.WideShapes Go.ChangeAt Go.RowKit

theorem hide {p : Prop} (h : p) : Hid p := h

def inB (n lo hi : Int) : Bool := decide (lo ≤ n ∧ n ≤ hi)
theorem inB_yes {n lo hi : Int} (h : lo ≤ n ∧ n ≤ hi) : inB n lo hi = true := decide_eq_true h
theorem inB_no {n lo hi : Int} (h : ¬(lo ≤ n ∧ n ≤ hi)) : inB n lo hi = false := decide_eq_false h

theorem within_any (n lo hi : Int) (w : World) : Calls Try.prog 29 #[.int .i64 n, .int .i64 lo, .int .i64 hi] w fun e w' => e = .returned (.bool (inB n lo hi)) ∧ w = w' := by
  by_cases h1 : lo ≤ n
  · by_cases h2 : n ≤ hi
    · go_enter Try.func29, Try.ntmps29
      go_wp2
      go_ret
      exact ⟨by rw [inB_yes ⟨h1, h2⟩]; rfl, rfl⟩
    · go_enter Try.func29, Try.ntmps29
      go_wp2
      go_ret
      exact ⟨by rw [inB_no (by omega)]; rfl, rfl⟩
  · go_enter Try.func29, Try.ntmps29
    go_wp2
    go_ret
    exact ⟨by rw [inB_no (by omega)]; rfl, rfl⟩

theorem l01In_any (n lo hi : Int) (w : World) : Calls Try.prog 27 #[.int .i64 n, .int .i64 lo, .int .i64 hi] w fun e w' => e = .returned (.bool (inB n lo hi)) ∧ w = w' := by
  by_cases h1 : lo ≤ n
  · by_cases h2 : n ≤ hi
    · go_enter Try.func27, Try.ntmps27
      go_wp2
      go_ret
      exact ⟨by rw [inB_yes ⟨h1, h2⟩]; rfl, rfl⟩
    · go_enter Try.func27, Try.ntmps27
      go_wp2
      go_ret
      exact ⟨by rw [inB_no (by omega)]; rfl, rfl⟩
  · go_enter Try.func27, Try.ntmps27
    go_wp2
    go_ret
    exact ⟨by rw [inB_no (by omega)]; rfl, rfl⟩

/-! ### the numbers of choices, as each program computes them -/
def chA (a : Int) : Nat → Int
  | 0 => 1
  | k + 1 => chA a k * (a - k) / (k + 1)
def chB (c : Int) : Nat → Int
  | 0 => 1
  | k + 1 => chB c k * (c + (k + 1)) / (k + 1)
theorem chA_dec : ∀ a : Fin 41, ∀ k : Fin 41, 0 ≤ chA (a.val : Int) k.val ∧ chA (a.val : Int) k.val ≤ 137846528820 := by decide +kernel
theorem chB_dec : ∀ a : Fin 41, ∀ b : Fin 41, a.val + b.val ≤ 40 → 0 ≤ chB (a.val : Int) b.val ∧ chB (a.val : Int) b.val ≤ 137846528820 ∧ chB (a.val : Int) b.val = chA ((a.val + b.val : Nat) : Int) b.val := by decide +kernel
theorem chA_bd (a : Int) (k : Nat) (h0 : 0 ≤ a) (h1 : a ≤ 40) (hk : k ≤ 40) : 0 ≤ chA a k ∧ chA a k ≤ 137846528820 := by
  have h := chA_dec ⟨a.toNat, by omega⟩ ⟨k, by omega⟩
  simpa [Int.toNat_of_nonneg h0] using h
theorem chB_bd (c : Int) (k : Nat) (h0 : 0 ≤ c) (h1 : c + k ≤ 40) : 0 ≤ chB c k ∧ chB c k ≤ 137846528820 := by
  have h := chB_dec ⟨c.toNat, by omega⟩ ⟨k, by omega⟩ (by simp; omega)
  simp [Int.toNat_of_nonneg h0] at h
  exact ⟨h.1, h.2.1⟩
theorem chB_chA (c : Int) (k : Nat) (h0 : 0 ≤ c) (h1 : c + k ≤ 40) : chB c k = chA (c + k) k := by
  have h := chB_dec ⟨c.toNat, by omega⟩ ⟨k, by omega⟩ (by simp; omega)
  simp [Int.toNat_of_nonneg h0] at h
  exact h.2.2
/-- the number of ways to choose b of a things -/
def chO (a b : Int) : Int := if 0 ≤ b ∧ b ≤ a then chA a b.toNat else 0
theorem chO_bd (a b : Int) (h0 : 0 ≤ a) (h1 : a ≤ 40) : 0 ≤ chO a b ∧ chO a b ≤ 137846528820 := by
  unfold chO
  split
  · exact chA_bd a _ h0 h1 (by omega)
  · omega

theorem choose_any (a b : Int) (w : World) (h0 : 0 ≤ a) (h1 : a ≤ 40) : Calls Try.prog 30 #[.int .i64 a, .int .i64 b] w fun e w' => e = .returned (.int .i64 (chO a b)) ∧ w = w' := by
  by_cases hb : 0 ≤ b ∧ b ≤ a
  · have e1 : chO a b = chA a b.toNat := if_pos hb
    have E1 := hide e1
    clear e1
    obtain ⟨k0, rfl⟩ := Int.eq_ofNat_of_zero_le hb.1
    have i1 := inB_yes hb
    go_enter Try.func30, Try.ntmps30
    go_wp2_with (go_at_call 29; refine (within_any _ _ _ _).mono ?_; rintro e w' ⟨rfl, rfl⟩)
    clear i1
    go_loop [5, 6, 12] (fun p _ i => ∃ k : Nat, k ≤ k0 ∧ i = .int .i64 k ∧ p = .int .i64 (chA a k)) (fun _ _ i => k0 - (intOf i).toNat)
    case atStart => exact ⟨0, by omega, rfl, rfl⟩
    case round =>
      obtain ⟨k, hk, rfl, rfl⟩ := hrel
      have hbd := chA_bd a k h0 h1 (by omega)
      by_cases hlt : k < k0
      · have hm0 : 0 ≤ chA a k * (a - k) := Int.mul_nonneg hbd.1 (by omega)
        have hm1 : chA a k * (a - k) ≤ 137846528820 * 40 := Int.mul_le_mul hbd.2 (by omega) (by omega) (by omega)
        go_wp2
        go_round
        case rel => exact ⟨k + 1, by omega, by go_num, by simp [chA]⟩
        case measure => simp [intOf]; omega
      · go_wp2
        go_ret
        obtain rfl : k = k0 := by omega
        exact ⟨by rw [E1.out]; rfl, rfl⟩
  · have i1 := inB_no hb
    have e1 : chO a b = 0 := if_neg hb
    have E1 := hide e1
    clear e1
    go_enter Try.func30, Try.ntmps30
    go_wp2_with (go_at_call 29; refine (within_any _ _ _ _).mono ?_; rintro e w' ⟨rfl, rfl⟩)
    go_ret
    exact ⟨by rw [E1.out]; rfl, rfl⟩

end Go.Proofs.Ytmianahfccediaa.aud
