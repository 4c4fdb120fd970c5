/-
  Shuffling 0 to n - 1 by a generator's states. No program in sight.
-/
import Derived.Test.YtmcnnbjgehmmoaaPure
namespace Go.Proofs.Ytmcnnbjgehmmoaa.mem

def nxtS (s : Int) : Int := s * 48271 % 2147483647
theorem nxt_bd (s : Int) : 0 ≤ nxtS s ∧ nxtS s < 2147483647 := ⟨Int.emod_nonneg _ (by decide), Int.emod_lt_of_pos _ (by decide)⟩
def offS (s : Int) (d : Nat) : Nat := (s * d / 2147483647).toNat
theorem off_bd {s : Int} {d : Nat} (h0 : 0 ≤ s) (h1 : s < 2147483647) (hd : 0 < d) : offS s d < d ∧ s * d / 2147483647 = (offS s d : Int) := by
  have hn : 0 ≤ s * (d : Int) := Int.mul_nonneg h0 (by omega)
  have h2 : s * (d : Int) < (d : Int) * 2147483647 := by
    have : s * (d : Int) < 2147483647 * (d : Int) := Int.mul_lt_mul_of_pos_right h1 (by omega)
    omega
  have h3 : s * (d : Int) / 2147483647 < (d : Int) := Int.ediv_lt_of_lt_mul (by decide) h2
  have h4 : 0 ≤ s * (d : Int) / 2147483647 := Int.ediv_nonneg hn (by decide)
  unfold offS
  omega
def swp (o : List Int) (i k : Nat) : List Int := (o.set i (o.getD k 0)).set k (o.getD i 0)
def shI (n : Nat) (s : Int) : Nat → List Int × Int
  | 0 => ((List.range n).map (fun (i : Nat) => (i : Int)), s)
  | i + 1 => (swp (shI n s i).1 i (i + offS (nxtS (shI n s i).2) (n - i)), nxtS (shI n s i).2)
theorem shI_len (n : Nat) (s : Int) : ∀ i : Nat, (shI n s i).1.length = n
  | 0 => by simp [shI]
  | i + 1 => by simp [shI, swp, shI_len n s i]
theorem shI_bd {n : Nat} {s : Int} (h0 : 0 ≤ s) (h1 : s < 2147483647) : ∀ i : Nat, 0 ≤ (shI n s i).2 ∧ (shI n s i).2 < 2147483647
  | 0 => ⟨h0, h1⟩
  | _ + 1 => nxt_bd _
theorem range_more (k : Nat) : (List.range (k + 1)).map (fun (i : Nat) => (i : Int)) = (List.range k).map (fun (i : Nat) => (i : Int)) ++ [(k : Int)] := by
  rw [List.range_succ, List.map_append]; rfl
end Go.Proofs.Ytmcnnbjgehmmoaa.mem
