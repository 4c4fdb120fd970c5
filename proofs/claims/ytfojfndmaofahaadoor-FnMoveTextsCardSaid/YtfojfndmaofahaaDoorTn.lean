/-
  The text of numbers, the text of a panel, in both programs.
-/
import Derived.Test.YtfojfndmaofahaaDoorTw
import Derived.Lib.AppendIntMem
namespace Go.Proofs.YtfojfndmaofahaaDoor.mem
open Go.ChangeShapes Go.WideShapes Go.ChangeAt Go.RowKit

/-- the library's table of powers of ten stands, here and in every world that has grown from here -/
def Tab (w : World) : Prop := ∀ W, Ext w W → Lib.TabIs Tryd.prog W "internal/strconv.uint64pow10" .u64 Lib.pow10Tab
theorem Tab.ext {w w1 : World} (h : Tab w) (hx : Ext w w1) : Tab w1 := fun W h2 => h W (hx.trans h2)
/-- a number in decimal, with a minus sign if it is negative -/
def itoaW (n : Int) : ByteArray := ⟨(Lib.itoa n).toArray⟩
theorem itoaW_nat (n : Nat) : itoaW (n : Int) = decW n := by
  unfold itoaW decW
  rw [show Lib.itoa (n : Int) = Lib.decDigits n by unfold Lib.itoa; rw [if_neg (by omega)]; simp]
theorem itoaW_neg {n : Nat} (h : 1 ≤ n) : (⟨#[45]⟩ : ByteArray) ++ decW n = itoaW (-(n : Int)) := by
  unfold itoaW decW
  rw [show Lib.itoa (-(n : Int)) = 45 :: Lib.decDigits n by unfold Lib.itoa; rw [if_pos (by omega)]; simp]
  apply ByteArray.ext
  simp
theorem decDigits_pow : ∀ (k n : Nat), n < 10 ^ (k + 1) → (Lib.decDigits n).length ≤ k + 1
  | 0, n, h => by rw [Lib.decDigits_one (by simpa using h)]; simp
  | k + 1, n, h => by
    by_cases h10 : n < 10
    · rw [Lib.decDigits_one h10]; simp
    · rw [Lib.decDigits, dif_neg h10, List.length_append]
      have := decDigits_pow k (n / 10) (by rw [Nat.pow_succ] at h; omega)
      simp only [List.length_singleton]
      omega
def numB (n : Int) : Prop := -1000000000000000 ≤ n ∧ n ≤ 1000000000000000
theorem decW_small {n : Nat} (h : n ≤ 1000000000000000) : (decW n).size ≤ 16 := by
  have := decDigits_pow 15 n (by omega)
  simpa [decW, ByteArray.size] using this
theorem itoaW_le {n : Int} (h : numB n) : (itoaW n).size ≤ 20 := by
  unfold numB at h
  by_cases hn : 0 ≤ n
  · obtain ⟨k, rfl⟩ : ∃ k : Nat, n = (k : Int) := ⟨n.toNat, by omega⟩
    rw [itoaW_nat]
    have := decW_small (n := k) (by omega)
    omega
  · obtain ⟨k, rfl⟩ : ∃ k : Nat, n = -(k : Int) := ⟨(-n).toNat, by omega⟩
    rw [← itoaW_neg (by omega), ByteArray.size_append]
    have := decW_small (n := k) (by omega)
    have h1 : (⟨#[45]⟩ : ByteArray).size = 1 := rfl
    omega
def numT (xs : List Int) : ByteArray := if xs = [] then ⟨#[45]⟩ else joinW (xs.map itoaW) ⟨#[44]⟩
theorem mapI_le {xs : List Int} (h : ∀ x ∈ xs, numB x) : ∀ s ∈ xs.map itoaW, s.size ≤ 1000 := by
  intro s hs
  obtain ⟨m, hm, rfl⟩ := List.mem_map.1 hs
  have := itoaW_le (h m hm)
  omega
theorem mapI_more {xs : List Int} {k : Nat} {m : Int} (h : xs[k]? = some m) : (xs.map itoaW).take (k + 1) = (xs.map itoaW).take k ++ [itoaW m] := by
  rw [takeU_more (x := itoaW m) (by rw [List.getElem?_map, h]; rfl)]
theorem numT_le {xs : List Int} (h : ∀ x ∈ xs, numB x) (hl : xs.length ≤ 1000) : (numT xs).size ≤ 1100000 := by
  unfold numT
  split
  · decide
  · have h1 := joinW_size (ss := xs.map itoaW) (sep := ⟨#[44]⟩) (c := 1) (mapI_le h) (by decide) (xs.map itoaW).length (Nat.le_refl _)
    rw [List.take_length, List.length_map] at h1
    have h2 : xs.length * (1000 + 1) ≤ 1000 * (1000 + 1) := Nat.mul_le_mul_right _ hl
    omega
def panT (l : L3) : ByteArray := (numT l.x ++ ⟨#[47]⟩ ++ numT l.y ++ ⟨#[47]⟩) ++ numT l.z
theorem okP_num {l : L3} (h : okP l = true) : ((∀ x ∈ l.x, numB x) ∧ l.x.length ≤ 1000) ∧ ((∀ x ∈ l.y, numB x) ∧ l.y.length ≤ 1000) ∧ ((∀ x ∈ l.z, numB x) ∧ l.z.length ≤ 1000) := by
  obtain ⟨h1, h2, h3, _⟩ := okP_iff.1 h
  have hm : ∀ x ∈ allP l, numB x := fun x hx => by have := h3.1 x hx; unfold numB; omega
  unfold allP at h2 hm
  simp only [List.length_append] at h2
  refine ⟨⟨fun x hx => ?_, by omega⟩, ⟨fun x hx => hm x (by simp [hx]), by omega⟩, ⟨fun x hx => hm x (by simp [hx]), by omega⟩⟩
  by_cases e : x = 0
  · subst e; unfold numB; omega
  · refine hm x ?_
    have : x ∈ nz l.x := by unfold nz; rw [List.mem_filter]; exact ⟨hx, by simpa using e⟩
    simp [this]
theorem str_one : (⟨#[47]⟩ : ByteArray).size = 1 := rfl
def ptC (l : L3) : Int := if okP l = true then 0 else 1
def ptV (l : L3) : ByteArray := if okP l = true then panT l else ⟨#[]⟩
theorem pt_no {l : L3} (h : okP l = false) : ptC l = 1 ∧ ptV l = ⟨#[]⟩ := by unfold ptC ptV; rw [h]; exact ⟨rfl, rfl⟩
theorem pt_yes {l : L3} (h : okP l = true) : ptC l = 0 ∧ ptV l = panT l := by unfold ptC ptV; rw [h]; exact ⟨rfl, rfl⟩
end Go.Proofs.YtfojfndmaofahaaDoor.mem
