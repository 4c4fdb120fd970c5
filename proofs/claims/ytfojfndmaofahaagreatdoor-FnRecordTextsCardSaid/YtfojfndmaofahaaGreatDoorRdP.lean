/-
  Plain laws for reading numbers: the library's parse of a number's own text gives the number.
-/
import Derived.Test.YtfojfndmaofahaaGreatDoorTn
import Derived.Lib.ParseIntB
import Derived.Lib.ParseIntBTie
namespace Go.Proofs.YtfojfndmaofahaaGreatDoor.mem
open Go.ChangeShapes Go.WideShapes Go.ChangeAt Go.RowKit

theorem parse_app (M : Nat) : ∀ (l : List UInt8) (acc a : Nat) (r : List UInt8), Lib.parseUintM M acc l = .ok a → Lib.parseUintM M acc (l ++ r) = Lib.parseUintM M a r
  | [], acc, a, r, h => by
    simp only [Lib.parseUintM, Lib.NumEnd.ok.injEq] at h
    rw [h, List.nil_append]
  | c :: l, acc, a, r, h => by
    rw [List.cons_append]
    unfold Lib.parseUintM at h
    conv => lhs; unfold Lib.parseUintM
    split at h
    · split at h
      · cases h
      · split at h
        · cases h
        · rename_i h1 h2 h3
          rw [if_pos h1, if_neg h2, if_neg h3]
          exact parse_app M l _ a r h
    · cases h
theorem parse_dec (u : Nat) : u ≤ 18446744073709551615 → Lib.parseUintM 18446744073709551615 0 (Lib.decDigits u) = .ok u := by
  induction u using Nat.strongRecOn with
  | _ u ih =>
    intro hu
    by_cases h : u < 10
    · rw [Lib.decDigits_one h]
      have e : (UInt8.ofNat (48 + u)).toNat = 48 + u := by simp; omega
      unfold Lib.parseUintM
      rw [e, if_pos (by omega), if_neg (by omega), if_neg (by omega)]
      unfold Lib.parseUintM
      congr 1
      omega
    · rw [Lib.decDigits, dif_neg h, parse_app _ _ _ _ _ (ih (u / 10) (by omega) (by omega))]
      have e : (UInt8.ofNat (48 + u % 10)).toNat = 48 + u % 10 := by simp; omega
      unfold Lib.parseUintM
      rw [e, if_pos (by omega), if_neg (by omega), if_neg (by omega)]
      unfold Lib.parseUintM
      congr 1
      omega
theorem dec_head (u : Nat) : ∃ c r, Lib.decDigits u = c :: r ∧ 48 ≤ c.toNat ∧ c.toNat ≤ 57 := by
  induction u using Nat.strongRecOn with
  | _ u ih =>
    by_cases h : u < 10
    · exact ⟨_, [], Lib.decDigits_one h, by simp; omega, by simp; omega⟩
    · obtain ⟨c, r, e, h1, h2⟩ := ih (u / 10) (by omega)
      exact ⟨c, r ++ [UInt8.ofNat (48 + u % 10)], by rw [Lib.decDigits, dif_neg h, e]; rfl, h1, h2⟩
theorem parse_itoa {n : Int} (h0 : -9223372036854775808 ≤ n) (h1 : n ≤ 9223372036854775807) : Lib.parseIntB 64 (Lib.itoa n) = .ok n := by
  unfold Lib.itoa
  split
  · rename_i hn
    obtain ⟨c, r, e, _⟩ := dec_head n.natAbs
    have hp := parse_dec n.natAbs (by omega)
    unfold Lib.parseIntB
    simp only
    rw [if_pos (show (45 : UInt8).toNat = 43 ∨ (45 : UInt8).toNat = 45 from .inr rfl)]
    unfold Lib.parseUintB
    rw [if_neg (by rw [e]; simp), show (2 ^ 64 - 1 : Nat) = 18446744073709551615 from rfl, hp]
    simp only
    rw [if_neg (by simp), if_neg (by simp; omega), if_pos (by rfl)]
    congr 1
    omega
  · rename_i hn
    obtain ⟨c, r, e, h2, h3⟩ := dec_head n.toNat
    have hp := parse_dec n.toNat (by omega)
    rw [e] at hp ⊢
    unfold Lib.parseIntB
    simp only
    rw [if_neg (by omega)]
    unfold Lib.parseUintB
    rw [if_neg (by simp), show (2 ^ 64 - 1 : Nat) = 18446744073709551615 from rfl, hp]
    simp only
    rw [if_neg (by simp; omega), if_neg (by simp; omega), if_neg (by omega)]
    congr 1
    omega
end Go.Proofs.YtfojfndmaofahaaGreatDoor.mem
