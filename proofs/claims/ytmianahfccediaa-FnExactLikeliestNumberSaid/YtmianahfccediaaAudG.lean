/-
  Contracts of the audit functions: the greatest common divisor and the fraction in lowest terms, as each program computes them.
-/
import Derived.Test.YtmianahfccediaaAud
import Derived.Deep.QuietTactic
import Derived.BigQuiet
namespace Go.Proofs.Ytmianahfccediaa.aud
open Go.ChangeShapes Go.WideShapes Go.ChangeAt Go.RowKit

theorem gcd_step (x y : Nat) : Nat.gcd y (x % y) = Nat.gcd x y := by
  rw [Nat.gcd_comm y, ← Nat.gcd_rec, Nat.gcd_comm]

theorem gcd_any (a b : Nat) (w : World) (ha : a ≤ 4000000000000000000) (hb : b ≤ 4000000000000000000) : Calls Try.prog 52 #[.int .i64 a, .int .i64 b] w fun e w' => ∃ n, e = .returned (.int .i64 (Nat.gcd a b)) ∧ w' = w.drewN n := by
  go_enter Try.func52, Try.ntmps52
  go_wp2
  go_loopw [0, 1] (fun p q wr => ∃ x y n : Nat, x ≤ 4000000000000000000 ∧ y ≤ 4000000000000000000 ∧ p = .int .i64 x ∧ q = .int .i64 y ∧ Hid (Nat.gcd x y = Nat.gcd a b) ∧ wr = w.drewN n) (fun _ q _ => (intOf q).toNat)
  case atStart => exact ⟨a, b, 0, ha, hb, rfl, rfl, hide rfl, rfl⟩
  case round =>
    obtain ⟨x, y, n, hx, hy, rfl, rfl, hg, rfl⟩ := hrel
    by_cases h0 : y = 0
    · subst h0
      go_wp2
      go_ret
      exact ⟨n, by have := hg.out; simp at this; rw [← this]; rfl, rfl⟩
    · have hne : ((y : Int) != 0) = true := by simp; omega
      have hpos : 0 < y := by omega
      have hlt : x % y < y := Nat.mod_lt _ hpos
      have hlt2 : (x : Int) % (y : Int) < y := by omega
      have hlt3 : 0 ≤ (x : Int) % (y : Int) := by omega
      go_wp2
      go_region
      all_goals go_wp2
      all_goals go_roundw
      all_goals first | (case rel => exact ⟨y, x % y, n + 1, by omega, by omega, rfl, by go_num, hide (by rw [gcd_step]; exact hg.out), by simp⟩) | (case measure => simp [intOf]; omega)

theorem abs_any (a : Nat) (w : World) (ha : a ≤ 4000000000000000000) : Calls Try.prog 53 #[.int .i64 a] w fun e w' => e = .returned (.int .i64 a) ∧ w = w' := by
  go_enter Try.func53, Try.ntmps53
  go_wp2
  all_goals go_ret
  all_goals exact ⟨rfl, rfl⟩

theorem lgcd_any (a b : Nat) (w : World) (ha : a ≤ 4000000000000000000) (hb : b ≤ 4000000000000000000) : Calls Try.prog 51 #[.int .i64 a, .int .i64 b] w fun e w' => ∃ n, e = .returned (.int .i64 (Nat.gcd a b)) ∧ w' = w.drewN n := by
  go_enter Try.func51, Try.ntmps51
  go_wp2_with (go_at_call 53; refine (abs_any _ _ (by omega)).mono ?_; rintro e w' ⟨rfl, rfl⟩)
  go_loopw [0, 1] (fun p q wr => ∃ x y n : Nat, x ≤ 4000000000000000000 ∧ y ≤ 4000000000000000000 ∧ p = .int .i64 x ∧ q = .int .i64 y ∧ Hid (Nat.gcd x y = Nat.gcd a b) ∧ wr = w.drewN n) (fun _ q _ => (intOf q).toNat)
  case atStart => exact ⟨a, b, 0, ha, hb, rfl, rfl, hide rfl, rfl⟩
  case round =>
    obtain ⟨x, y, n, hx, hy, rfl, rfl, hg, rfl⟩ := hrel
    by_cases h0 : y = 0
    · subst h0
      go_wp2
      go_ret
      exact ⟨n, by have := hg.out; simp at this; rw [← this]; rfl, rfl⟩
    · have hne : ((y : Int) != 0) = true := by simp; omega
      have hpos : 0 < y := by omega
      have hlt : x % y < y := Nat.mod_lt _ hpos
      have hlt2 : (x : Int) % (y : Int) < y := by omega
      have hlt3 : 0 ≤ (x : Int) % (y : Int) := by omega
      go_wp2
      go_region
      all_goals go_wp2
      all_goals go_roundw
      all_goals first | (case rel => exact ⟨y, x % y, n + 1, by omega, by omega, rfl, by go_num, hide (by rw [gcd_step]; exact hg.out), by simp⟩) | (case measure => simp [intOf]; omega)

/-- a fraction in lowest terms -/
def lowT (a b : Nat) : Int := (a : Int) / (Nat.gcd a b : Nat)
def lowB (a b : Nat) : Int := (b : Int) / (Nat.gcd a b : Nat)

theorem wq (a g : Nat) (ha : a ≤ 4000000000000000000) (hg : 0 < g) : wrap64 ((a : Int) / (g : Int)) = (a : Int) / (g : Int) := by
  have h1 : a / g ≤ a := Nat.div_le_self _ _
  have h2 : (a : Int) / (g : Int) = ((a / g : Nat) : Int) := by simp
  have h3 : 0 ≤ (a : Int) / (g : Int) := Int.ediv_nonneg (by omega) (by omega)
  exact IntWalk.wrap64_in _ ⟨by omega, by omega⟩
theorem lowest_any (a b : Nat) (w : World) (ha : a ≤ 4000000000000000000) (hb : b ≤ 4000000000000000000) (hp : 0 < b) : Calls Try.prog 34 #[.int .i64 a, .int .i64 b] w fun e w' => ∃ n, e = .returned (.tuple #[.int .i64 (lowT a b), .int .i64 (lowB a b)]) ∧ w' = w.drewN n := by
  have hg : 0 < Nat.gcd a b := Nat.gcd_pos_of_pos_right _ hp
  obtain ⟨g, hgg⟩ : ∃ g, Nat.gcd a b = g := ⟨_, rfl⟩
  have e1 : lowT a b = wrap64 ((a : Int) / (g : Int)) := by unfold lowT; rw [hgg]; exact (wq a g ha (hgg ▸ hg)).symm
  have e2 : lowB a b = wrap64 ((b : Int) / (g : Int)) := by unfold lowB; rw [hgg]; exact (wq b g hb (hgg ▸ hg)).symm
  have E1 := hide e1
  have E2 := hide e2
  have C := hide (gcd_any a b w ha hb)
  rw [hgg] at C hg
  clear e1 e2 hgg
  have hg1 : (1 : Int) ≤ (g : Int) := by omega
  go_enter Try.func34, Try.ntmps34
  go_wp2_with (go_at_call 52; refine C.out.mono ?_; rintro e w' ⟨n, rfl, rfl⟩)
  go_region
  all_goals go_wp2
  all_goals go_ret2
  all_goals exact ⟨n + 1, by rw [E1.out, E2.out]; rfl, by simp⟩

theorem fraction_any (a b : Nat) (w : World) (ha : a ≤ 4000000000000000000) (hb : b ≤ 4000000000000000000) (hp : 0 < b) : Calls Try.prog 32 #[.int .i64 a, .int .i64 b] w fun e w' => ∃ n, e = .returned (.tuple #[.int .i64 (lowT a b), .int .i64 (lowB a b)]) ∧ w' = w.drewN n := by
  have hg : 0 < Nat.gcd a b := Nat.gcd_pos_of_pos_right _ hp
  obtain ⟨g, hgg⟩ : ∃ g, Nat.gcd a b = g := ⟨_, rfl⟩
  have e1 : lowT a b = wrap64 ((a : Int) / (g : Int)) := by unfold lowT; rw [hgg]; exact (wq a g ha (hgg ▸ hg)).symm
  have e2 : lowB a b = wrap64 ((b : Int) / (g : Int)) := by unfold lowB; rw [hgg]; exact (wq b g hb (hgg ▸ hg)).symm
  have E1 := hide e1
  have E2 := hide e2
  have C := hide (lgcd_any a b w ha hb)
  rw [hgg] at C hg
  clear e1 e2 hgg
  have hg1 : (1 : Int) ≤ (g : Int) := by omega
  go_enter Try.func32, Try.ntmps32
  go_wp2_with (go_at_call 51; refine C.out.mono ?_; rintro e w' ⟨n, rfl, rfl⟩)
  go_region
  all_goals go_wp2
  all_goals go_ret2
  all_goals exact ⟨n + 1, by rw [E1.out, E2.out]; rfl, by simp⟩
end Go.Proofs.Ytmianahfccediaa.aud
