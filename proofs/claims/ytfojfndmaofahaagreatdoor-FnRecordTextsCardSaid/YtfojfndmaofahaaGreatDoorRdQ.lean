/-
  Plain laws for reading numbers: which number a word spells; the value of digits.
-/
import Derived.Test.YtfojfndmaofahaaGreatDoorRdP
import Derived.Test.YtfojfndmaofahaaGreatDoorSpP
namespace Go.Proofs.YtfojfndmaofahaaGreatDoor.mem
open Go.ChangeShapes Go.WideShapes Go.ChangeAt Go.RowKit

/-- the number that a word spells in decimal, without superfluous zeros -/
def pw (w : ByteArray) : Option Int := match Lib.parseIntB 64 w.data.toList with
  | .ok n => if itoaW n = w then some n else none
  | _ => none
theorem itoaW_data (n : Int) : (itoaW n).data.toList = Lib.itoa n := by simp [itoaW]
theorem pw_itoa {n : Int} (h0 : -9223372036854775808 ≤ n) (h1 : n ≤ 9223372036854775807) : pw (itoaW n) = some n := by
  unfold pw
  rw [itoaW_data, parse_itoa h0 h1]
  simp
theorem pw_some {w : ByteArray} {n : Int} (h : pw w = some n) : w = itoaW n ∧ -9223372036854775808 ≤ n ∧ n ≤ 9223372036854775807 := by
  unfold pw at h
  split at h
  · rename_i m hm
    split at h
    · rename_i he
      injection h with h
      subst h
      have hb := Lib.parseIntB_bounds hm
      exact ⟨he.symm, by omega, by omega⟩
    · cases h
  · cases h
/-- digits alone -/
def digB (c : UInt8) : Bool := decide (48 ≤ c.toNat ∧ c.toNat ≤ 57)
/-- the value of digits -/
def vd (l : List UInt8) : Nat := l.foldl (fun a c => 10 * a + (c.toNat - 48)) 0
theorem vd_snoc (l : List UInt8) (c : UInt8) : vd (l ++ [c]) = 10 * vd l + (c.toNat - 48) := by
  unfold vd; rw [List.foldl_append]; rfl
theorem dec_all (u : Nat) : (Lib.decDigits u).all digB = true ∧ vd (Lib.decDigits u) = u := by
  induction u using Nat.strongRecOn with
  | _ u ih =>
    by_cases h : u < 10
    · rw [Lib.decDigits_one h]
      have e : (UInt8.ofNat (48 + u)).toNat = 48 + u := by simp; omega
      constructor
      · simp only [List.all_cons, List.all_nil, Bool.and_true, digB, e]; simp; omega
      · simp only [vd, List.foldl_cons, List.foldl_nil, e]; omega
    · obtain ⟨h1, h2⟩ := ih (u / 10) (by omega)
      have e : (UInt8.ofNat (48 + u % 10)).toNat = 48 + u % 10 := by simp; omega
      rw [Lib.decDigits, dif_neg h]
      constructor
      · rw [List.all_append, h1]
        simp only [List.all_cons, List.all_nil, Bool.and_true, Bool.true_and, digB, e]; simp; omega
      · rw [vd_snoc, h2, e]; omega
theorem vd_lt : ∀ (l : List UInt8), l.all digB = true → vd l < 10 ^ l.length := by
  intro l
  suffices h : ∀ (l : List UInt8) (a : Nat), l.all digB = true → l.foldl (fun a c => 10 * a + (c.toNat - 48)) a < (a + 1) * 10 ^ l.length by
    intro h2
    have := h l 0 h2
    simpa [vd] using this
  intro l
  induction l with
  | nil => intro a _; simp
  | cons c l ih =>
    intro a h
    rw [List.all_cons, Bool.and_eq_true] at h
    have hd := of_decide_eq_true (p := 48 ≤ c.toNat ∧ c.toNat ≤ 57) h.1
    have h1 := ih (10 * a + (c.toNat - 48)) h.2
    rw [List.foldl_cons, List.length_cons, Nat.pow_succ]
    have h2 : (10 * a + (c.toNat - 48) + 1) * 10 ^ l.length ≤ (10 * (a + 1)) * 10 ^ l.length := Nat.mul_le_mul_right _ (by omega)
    have h3 : (10 * (a + 1)) * 10 ^ l.length = (a + 1) * (10 ^ l.length * 10) := by rw [Nat.mul_comm 10 (a + 1), Nat.mul_assoc, Nat.mul_comm 10]
    omega
theorem decW_data (n : Nat) : (decW n).data.toList = Lib.decDigits n := by simp [decW]
theorem decW_dig {w : ByteArray} {k : Nat} (h : w = decW k) : w.data.toList.all digB = true ∧ vd w.data.toList = k := by
  subst h
  rw [decW_data]
  exact dec_all k
theorem decW_len {k : Nat} (h : k < 10000000000000) : (decW k).size ≤ 13 ∧ 1 ≤ (decW k).size := by
  have h1 := decDigits_pow 12 k (by omega)
  obtain ⟨c, r, e, _⟩ := dec_head k
  have h2 : (decW k).size = (Lib.decDigits k).length := by simp [decW, ByteArray.size]
  rw [h2]
  rw [e] at h1 ⊢
  simp only [List.length_cons] at h1 ⊢
  omega
/-- each word read, or nothing -/
def mp (f : ByteArray → Option Int) : List ByteArray → Option (List Int)
  | [] => some []
  | w :: r => match f w with
    | none => none
    | some x => (mp f r).map (x :: ·)
theorem mp_some {f : ByteArray → Option Int} {ws : List ByteArray} {acc : List Int} {k : Nat} {w : ByteArray} {x : Int} (h : mp f ws = (mp f (ws.drop k)).map (acc ++ ·)) (hw : ws[k]? = some w) (hx : f w = some x) :
    mp f ws = (mp f (ws.drop (k + 1))).map ((acc ++ [x]) ++ ·) := by
  obtain ⟨hk, e⟩ := List.getElem?_eq_some_iff.1 hw
  rw [h, List.drop_eq_getElem_cons hk, e, mp, hx]
  cases mp f (ws.drop (k + 1)) with
  | none => rfl
  | some r => simp
theorem mp_none {f : ByteArray → Option Int} {ws : List ByteArray} {acc : List Int} {k : Nat} {w : ByteArray} (h : mp f ws = (mp f (ws.drop k)).map (acc ++ ·)) (hw : ws[k]? = some w) (hx : f w = none) : mp f ws = none := by
  obtain ⟨hk, e⟩ := List.getElem?_eq_some_iff.1 hw
  rw [h, List.drop_eq_getElem_cons hk, e, mp, hx]
  rfl
theorem mp_end {f : ByteArray → Option Int} {ws : List ByteArray} {acc : List Int} {k : Nat} (h : mp f ws = (mp f (ws.drop k)).map (acc ++ ·)) (hk : k = ws.length) : mp f ws = some acc := by
  rw [h, hk, List.drop_length, mp]
  simp
/-- the pieces of a text, as texts -/
def splitW (c : UInt8) (s : ByteArray) : List ByteArray := (splitL c s.data.toList).map (fun l => ⟨l.toArray⟩)
theorem splitW_lib (c : UInt8) (s : ByteArray) : Lib.splitB ⟨#[c]⟩ 0 (Lib.countB s ⟨#[c]⟩) s = splitW c s := by
  unfold splitW
  rw [← splitB_eq, List.map_map]
  conv => lhs; rw [← List.map_id (Lib.splitB _ _ _ _)]
  apply List.map_congr_left
  intro a _
  apply ByteArray.ext
  simp
def valB (x : Int) : Bool := decide (-1000000000000 ≤ x ∧ x ≤ 1000000000000)
/-- the list with a text, or nothing -/
def rlO (s : ByteArray) : Option (List Int) :=
  if s = ⟨#[45]⟩ then some [] else match mp pw (splitW 44 s) with
    | some xs => if xs.all valB = true ∧ xs.length ≤ 60 then some xs else none
    | none => none
def pm (w : ByteArray) : Option Int := if w = passW then some (-1) else match pw w with
  | some n => if 0 ≤ n ∧ n ≤ 11 then some n else none
  | none => none
/-- the moves with a text, or nothing -/
def rmO (s : ByteArray) : Option (List Int) :=
  if s = ⟨#[45]⟩ then some [] else match mp pm (splitW 44 s) with
    | some xs => if xs.length ≤ 40 then some xs else none
    | none => none
end Go.Proofs.YtfojfndmaofahaaGreatDoor.mem
