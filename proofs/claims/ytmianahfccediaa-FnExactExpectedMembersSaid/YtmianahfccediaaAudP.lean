/-
  Plain numbers: the binomial coefficients, their bounds, and the sums that the audits take of them. No program in sight.
-/
import Derived.Test.YtmianahfccediaaAud
namespace Go.Proofs.Ytmianahfccediaa.aud

def pc : Nat → Nat → Nat
  | _, 0 => 1
  | 0, _ + 1 => 0
  | a + 1, k + 1 => pc a k + pc a (k + 1)
theorem pc_zero (a : Nat) : pc a 0 = 1 := by cases a <;> rfl
theorem pc_over : ∀ (a k : Nat), a < k → pc a k = 0
  | 0, 0, h => by omega
  | 0, k + 1, _ => rfl
  | a + 1, 0, h => by omega
  | a + 1, k + 1, h => by simp [pc, pc_over a k (by omega), pc_over a (k + 1) (by omega)]
theorem pc_mul : ∀ (a k : Nat), k ≤ a → pc a (k + 1) * (k + 1) = pc a k * (a - k)
  | 0, 0, _ => rfl
  | 0, k + 1, h => by omega
  | a + 1, 0, _ => by
    have h := pc_mul a 0 (by omega)
    simp [pc, pc_zero] at h ⊢
    omega
  | a + 1, k + 1, h => by
    have e1 : pc (a + 1) (k + 1 + 1) = pc a (k + 1) + pc a (k + 1 + 1) := rfl
    have e2 : pc (a + 1) (k + 1) = pc a k + pc a (k + 1) := rfl
    have h1 := pc_mul a k (by omega)
    rw [e1, e2, show a + 1 - (k + 1) = a - k from by omega, Nat.add_mul, Nat.add_mul, ← h1, ← Nat.mul_add, ]
    rcases Nat.lt_or_ge k a with hk | hk
    · have h2 := pc_mul a (k + 1) (by omega)
      rw [h2, ← Nat.mul_add]
      congr 1
      omega
    · obtain rfl : k = a := by omega
      rw [pc_over k (k + 1) (by omega), pc_over k (k + 1 + 1) (by omega)]
      simp
theorem chA_pc (a : Nat) : ∀ k : Nat, k ≤ a → chA (a : Int) k = (pc a k : Int)
  | 0, _ => by simp [chA, pc_zero]
  | k + 1, h => by
    have h1 := pc_mul a k (by omega)
    have h2 := chA_pc a k (by omega)
    have h3 : ((a : Int) - (k : Int)) = ((a - k : Nat) : Int) := by omega
    simp only [chA]
    rw [h2, h3, ← Int.natCast_mul, ← h1, Int.natCast_mul]
    have : ((k + 1 : Nat) : Int) = (k : Int) + 1 := by omega
    rw [this]
    exact Int.mul_ediv_cancel _ (by omega)
theorem pc_prod : ∀ (g x m y : Nat), pc g x * pc m y ≤ pc (g + m) (x + y)
  | g, 0, m, y => by
    simp only [pc_zero, Nat.one_mul, Nat.zero_add]
    induction g with
    | zero => simp
    | succ g ih =>
      rw [show g + 1 + m = (g + m) + 1 from by omega]
      cases y with
      | zero => simp [pc_zero]
      | succ y => simp only [pc]; omega
  | 0, x + 1, m, y => by simp [pc]
  | g + 1, x + 1, m, y => by
    have h1 := pc_prod g x m y
    have h2 := pc_prod g (x + 1) m y
    rw [show g + 1 + m = (g + m) + 1 from by omega, show x + 1 + y = (x + y) + 1 from by omega]
    simp only [pc, Nat.add_mul]
    rw [show x + 1 + y = x + y + 1 from by omega] at h2
    omega
theorem chO_pc (a b : Nat) (h : b ≤ a) : chO a b = (pc a b : Int) := by
  unfold chO
  rw [if_pos (by omega)]
  simpa using chA_pc a b h

/-- one summand of the audits' sums -/
def termO (n g k x : Int) : Int := chO g x * chO (n - g) (k - x)
theorem term_bd (n g k x : Int) (hn : n ≤ 40) (hg0 : 0 ≤ g) (hg : g ≤ n) : 0 ≤ termO n g k x ∧ termO n g k x ≤ 137846528820 := by
  have b1 := chO_bd g x hg0 (by omega)
  have b2 := chO_bd (n - g) (k - x) (by omega) (by omega)
  refine ⟨Int.mul_nonneg b1.1 b2.1, ?_⟩
  by_cases h1 : 0 ≤ x ∧ x ≤ g
  · by_cases h2 : 0 ≤ k - x ∧ k - x ≤ n - g
    · obtain ⟨g', rfl⟩ := Int.eq_ofNat_of_zero_le hg0
      obtain ⟨x', rfl⟩ := Int.eq_ofNat_of_zero_le h1.1
      obtain ⟨m, hm⟩ := Int.eq_ofNat_of_zero_le (show 0 ≤ n - g' by omega)
      obtain ⟨y, hy⟩ := Int.eq_ofNat_of_zero_le h2.1
      have hp := pc_prod g' x' m y
      have hc := chO_bd ((g' + m : Nat) : Int) ((x' + y : Nat) : Int) (by omega) (by omega)
      rw [chO_pc _ _ (by omega)] at hc
      unfold termO
      rw [hm, hy, chO_pc _ _ (by omega), chO_pc _ _ (by omega), ← Int.natCast_mul]
      omega
    · unfold termO
      have : chO (n - g) (k - x) = 0 := if_neg h2
      rw [this]; simp
  · unfold termO
    have : chO g x = 0 := if_neg h1
    rw [this]; simp

/-- the sum of the summands from 'least' on, so many of them -/
def waysO (n g k least : Int) : Nat → Int
  | 0 => 0
  | j + 1 => waysO n g k least j + termO n g k (least + j)
theorem ways_bd (n g k least : Int) (hn : n ≤ 40) (hg0 : 0 ≤ g) (hg : g ≤ n) : ∀ j : Nat, 0 ≤ waysO n g k least j ∧ waysO n g k least j ≤ j * 137846528820
  | 0 => by simp [waysO]
  | j + 1 => by
    have h1 := ways_bd n g k least hn hg0 hg j
    have h2 := term_bd n g k (least + j) hn hg0 hg
    simp only [waysO]
    omega
def waysN (least most : Int) : Nat := (most + 1 - least).toNat
def waysS (n g k least most : Int) : Int := waysO n g k least (waysN least most)
theorem waysS_bd (n g k least most : Int) (hn : n ≤ 40) (hg0 : 0 ≤ g) (hg : g ≤ n) (hl : 0 ≤ least) (hm : most ≤ 40) : 0 ≤ waysS n g k least most ∧ waysS n g k least most ≤ 5651707681620 := by
  have h := ways_bd n g k least hn hg0 hg (waysN least most)
  have h2 : waysN least most ≤ 41 := by unfold waysN; omega
  unfold waysS
  omega
end Go.Proofs.Ytmianahfccediaa.aud
