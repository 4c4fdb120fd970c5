/-
  Plain laws for reading numbers: signed numbers of at most thirteen digits; moves.
-/
import Derived.Test.YtfojfndmaofahaaGreatDoorRdQ
namespace Go.Proofs.YtfojfndmaofahaaGreatDoor.mem
open Go.ChangeShapes Go.WideShapes Go.ChangeAt Go.RowKit

def sgB (n : Int) : Bool := decide (-10000000000000 < n ∧ n < 10000000000000)
/-- the number that a word spells, if it has at most thirteen digits -/
def sg (w : ByteArray) : Option Int := match pw w with
  | some n => if sgB n = true then some n else none
  | none => none
theorem sgB_iff {n : Int} : sgB n = true ↔ (-10000000000000 < n ∧ n < 10000000000000) := decide_eq_true_iff
theorem sg_itoa {n : Int} (h : sgB n = true) : sg (itoaW n) = some n := by
  have hb := sgB_iff.1 h
  unfold sg
  rw [pw_itoa (by omega) (by omega)]
  simp only [h, if_true]
theorem sg_some {w : ByteArray} {n : Int} (h : sg w = some n) : w = itoaW n ∧ sgB n = true := by
  unfold sg at h
  cases hp : pw w with
  | none => rw [hp] at h; cases h
  | some m =>
    rw [hp] at h
    simp only at h
    split at h
    · rename_i hb
      injection h with h
      subst h
      exact ⟨(pw_some hp).1, hb⟩
    · cases h
theorem sg_none {w : ByteArray} (h : ∀ n, w = itoaW n → sgB n = true → False) : sg w = none := by
  cases hs : sg w with
  | none => rfl
  | some n => exact (h n (sg_some hs).1 (sg_some hs).2).elim
theorem sg_pw {w : ByteArray} {n : Int} (h : sg w = some n) : pw w = some n := by
  obtain ⟨e, hb⟩ := sg_some h
  have := sgB_iff.1 hb
  rw [e]
  exact pw_itoa (by omega) (by omega)
theorem mp_cons (f : ByteArray → Option Int) (w : ByteArray) (r : List ByteArray) {xs : List Int} : mp f (w :: r) = some xs ↔ ∃ x t, f w = some x ∧ mp f r = some t ∧ xs = x :: t := by
  rw [mp]
  cases hf : f w with
  | none => simp
  | some x =>
    cases hr : mp f r with
    | none => simp
    | some t =>
      simp only [Option.map_some, Option.some.injEq, exists_and_left]
      constructor
      · rintro rfl; exact ⟨x, rfl, t, rfl, rfl⟩
      · rintro ⟨_, rfl, _, rfl, rfl⟩; rfl
theorem mp_sg_pw : ∀ {ws : List ByteArray} {xs : List Int}, mp sg ws = some xs → mp pw ws = some xs
  | [], xs, h => h
  | w :: r, xs, h => by
    obtain ⟨x, t, h1, h2, e⟩ := (mp_cons _ _ _).1 h
    exact (mp_cons _ _ _).2 ⟨x, t, sg_pw h1, mp_sg_pw h2, e⟩
theorem valB_sgB {x : Int} (h : valB x = true) : sgB x = true := by
  have := of_decide_eq_true (p := -1000000000000 ≤ x ∧ x ≤ 1000000000000) h
  exact sgB_iff.2 (by omega)
theorem mp_pw_sg : ∀ {ws : List ByteArray} {xs : List Int}, mp pw ws = some xs → xs.all valB = true → mp sg ws = some xs
  | [], xs, h, _ => h
  | w :: r, xs, h, hv => by
    obtain ⟨x, t, h1, h2, rfl⟩ := (mp_cons _ _ _).1 h
    rw [List.all_cons, Bool.and_eq_true] at hv
    exact (mp_cons _ _ _).2 ⟨x, t, by rw [(pw_some h1).1]; exact sg_itoa (valB_sgB hv.1), mp_pw_sg h2 hv.2, rfl⟩
def okL (xs : List Int) : Bool := xs.all valB && decide (xs.length ≤ 60)
theorem rlO_minus : rlO ⟨#[45]⟩ = some [] := by unfold rlO; rw [if_pos rfl]
theorem rlO_some {s : ByteArray} {xs : List Int} (h : s ≠ ⟨#[45]⟩) (hm : mp pw (splitW 44 s) = some xs) (ho : okL xs = true) : rlO s = some xs := by
  unfold rlO okL at *
  rw [if_neg h, hm]
  rw [Bool.and_eq_true] at ho
  simp only
  rw [if_pos ⟨ho.1, of_decide_eq_true ho.2⟩]
theorem rlO_bad {s : ByteArray} {xs : List Int} (h : s ≠ ⟨#[45]⟩) (hm : mp pw (splitW 44 s) = some xs) (ho : okL xs = false) : rlO s = none := by
  unfold rlO okL at *
  rw [if_neg h, hm]
  simp only
  rw [if_neg]
  rintro ⟨h1, h2⟩
  rw [h1] at ho
  simp [h2] at ho
theorem rlO_none {s : ByteArray} (h : s ≠ ⟨#[45]⟩) (hm : mp pw (splitW 44 s) = none) : rlO s = none := by
  unfold rlO
  rw [if_neg h, hm]
theorem rlO_sg_none {s : ByteArray} (h : s ≠ ⟨#[45]⟩) (hm : mp sg (splitW 44 s) = none) : rlO s = none := by
  cases hp : mp pw (splitW 44 s) with
  | none => exact rlO_none h hp
  | some xs =>
    cases ho : okL xs with
    | false => exact rlO_bad h hp ho
    | true =>
      have hv : xs.all valB = true := by unfold okL at ho; rw [Bool.and_eq_true] at ho; exact ho.1
      rw [mp_pw_sg hp hv] at hm
      cases hm
def rlC (s : ByteArray) : Int := if (rlO s).isSome = true then 0 else 6
def rlV (s : ByteArray) : List Int := (rlO s).getD []
def rmC (s : ByteArray) : Int := if (rmO s).isSome = true then 0 else 6
def rmV (s : ByteArray) : List Int := (rmO s).getD []
theorem rl_some {s : ByteArray} {xs : List Int} (h : rlO s = some xs) : rlC s = 0 ∧ rlV s = xs := by unfold rlC rlV; rw [h]; exact ⟨rfl, rfl⟩
theorem rl_none {s : ByteArray} (h : rlO s = none) : rlC s = 6 ∧ rlV s = [] := by unfold rlC rlV; rw [h]; exact ⟨rfl, rfl⟩
theorem rm_some {s : ByteArray} {xs : List Int} (h : rmO s = some xs) : rmC s = 0 ∧ rmV s = xs := by unfold rmC rmV; rw [h]; exact ⟨rfl, rfl⟩
theorem rm_none {s : ByteArray} (h : rmO s = none) : rmC s = 6 ∧ rmV s = [] := by unfold rmC rmV; rw [h]; exact ⟨rfl, rfl⟩
theorem rmO_minus : rmO ⟨#[45]⟩ = some [] := by unfold rmO; rw [if_pos rfl]
theorem rmO_some {s : ByteArray} {xs : List Int} (h : s ≠ ⟨#[45]⟩) (hm : mp pm (splitW 44 s) = some xs) (ho : xs.length ≤ 40) : rmO s = some xs := by
  unfold rmO
  rw [if_neg h, hm]
  simp only
  rw [if_pos ho]
theorem rmO_bad {s : ByteArray} {xs : List Int} (h : s ≠ ⟨#[45]⟩) (hm : mp pm (splitW 44 s) = some xs) (ho : ¬ xs.length ≤ 40) : rmO s = none := by
  unfold rmO
  rw [if_neg h, hm]
  simp only
  rw [if_neg ho]
theorem rmO_none {s : ByteArray} (h : s ≠ ⟨#[45]⟩) (hm : mp pm (splitW 44 s) = none) : rmO s = none := by
  unfold rmO
  rw [if_neg h, hm]
theorem itoaW_pos {m : Int} (h : 0 ≤ m) : itoaW m = decW m.toNat := by
  obtain ⟨k, rfl⟩ : ∃ k : Nat, m = k := ⟨m.toNat, by omega⟩
  exact itoaW_nat k
theorem itoaW_min {m : Int} (h : m < 0) : itoaW m = ⟨#[45]⟩ ++ decW (-m).toNat := by
  obtain ⟨k, rfl⟩ : ∃ k : Nat, m = -(k : Int) := ⟨(-m).toNat, by omega⟩
  rw [Int.neg_neg, Int.toNat_natCast]
  exact (itoaW_neg (by omega)).symm
theorem first_digit (k : Nat) (h : 0 < (decW k).size) : 48 ≤ (decW k)[0].toNat ∧ (decW k)[0].toNat ≤ 57 := by
  obtain ⟨c, r, e, h1, h2⟩ := dec_head k
  have : (decW k).data.toList = c :: r := by rw [decW_data]; exact e
  have e0 : (decW k)[0] = c := by
    show (decW k).data[0] = c
    rw [← Array.getElem_toList]
    simp [this]
  rw [e0]
  exact ⟨h1, h2⟩
theorem minus_split {s : ByteArray} (h0 : 0 < s.size) (h : s[0] = 45) : s = ⟨#[45]⟩ ++ s.extract 1 s.size := by
  obtain ⟨⟨l⟩⟩ := s
  apply ByteArray.ext
  apply Array.ext'
  cases l with
  | nil => simp [ByteArray.size] at h0
  | cons c l =>
    have hc : c = 45 := h
    subst hc
    simp [ByteArray.data_extract, ByteArray.size]
theorem size_listR (s : ByteArray) : s.data.toList.length = s.size := Array.length_toList
theorem minus_tail (d : ByteArray) : ((⟨#[45]⟩ : ByteArray) ++ d).extract 1 ((⟨#[45]⟩ : ByteArray) ++ d).size = d := by
  apply ByteArray.ext
  apply Array.ext'
  simp only [ByteArray.data_extract, ByteArray.size_append, ByteArray.data_append, Array.toList_extract, Array.toList_append, List.extract_eq_take_drop, List.drop_one, List.tail_cons, List.nil_append, List.cons_append]
  rw [List.take_of_length_le]
  show d.data.toList.length ≤ 1 + d.size - 1
  rw [size_listR]
  omega
theorem minus_first (d : ByteArray) (h : 0 < ((⟨#[45]⟩ : ByteArray) ++ d).size) : ((⟨#[45]⟩ : ByteArray) ++ d)[0] = 45 := by
  show ((⟨#[45]⟩ : ByteArray) ++ d).data[0] = 45
  simp
theorem toW_inj {a b : ByteArray} : (a.toList == b.toList) = decide (a = b) := by
  by_cases h : a = b
  · subst h; simp
  · rw [decide_eq_false h]
    rw [beq_eq_false_iff_ne]
    intro e
    apply h
    rw [Lib.toList_data, Lib.toList_data] at e
    exact ByteArray.ext (Array.ext' e)
end Go.Proofs.YtfojfndmaofahaaGreatDoor.mem
