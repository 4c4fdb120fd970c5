/-
  Plain laws: what has been split is joined to the text that was split; a text that is read as a list of numbers, as moves, is their text.
-/
import Derived.Test.YtfojfndmaofahaaGreatDoorRls
namespace Go.Proofs.YtfojfndmaofahaaGreatDoor.mem
open Go.ChangeShapes Go.WideShapes Go.ChangeAt Go.RowKit

theorem join_hd (c : UInt8) (p : List UInt8) : ∀ (x : List (List UInt8)), x ≠ [] → Lib.join (hd p x) [c] = p ++ Lib.join x [c]
  | [a], _ => by simp [hd, Lib.join]
  | a :: b :: t, _ => by simp [hd, Lib.join, List.append_assoc]
theorem join_nil_cons (c : UInt8) : ∀ (x : List (List UInt8)), x ≠ [] → Lib.join ([] :: x) [c] = c :: Lib.join x [c]
  | a :: t, _ => by simp [Lib.join]
theorem join_splitL (c : UInt8) : ∀ l, Lib.join (splitL c l) [c] = l
  | [] => by simp [splitL, Lib.join]
  | b :: l => by
    have ih := join_splitL c l
    by_cases h : b = c
    · subst h
      rw [splitL, if_pos rfl, join_nil_cons _ _ (splitL_ne _ _), ih]
    · rw [splitL_cons c b l h, join_hd _ _ _ (splitL_ne _ _), ih]
      rfl
theorem map_toW (l : List (List UInt8)) : (l.map (fun x => (⟨x.toArray⟩ : ByteArray))).map (·.data.toList) = l := by
  rw [List.map_map]
  conv => rhs; rw [← List.map_id l]
  apply List.map_congr_left
  intro a _
  simp
theorem join_splitW (c : UInt8) (s : ByteArray) : joinW (splitW c s) ⟨#[c]⟩ = s := by
  unfold joinW splitW
  rw [map_toW, join_splitL]
theorem mp_map {f : ByteArray → Option Int} {g : Int → ByteArray} (h : ∀ w n, f w = some n → w = g n) : ∀ {ws : List ByteArray} {xs : List Int}, mp f ws = some xs → ws = xs.map g
  | [], xs, e => by injection e with e; subst e; rfl
  | w :: r, xs, e => by
    obtain ⟨x, t, h1, h2, rfl⟩ := (mp_cons _ _ _).1 e
    rw [List.map_cons, ← h w x h1, ← mp_map h h2]
theorem splitW_ne (c : UInt8) (s : ByteArray) : splitW c s ≠ [] := by
  unfold splitW
  intro h
  exact splitL_ne c _ (List.map_eq_nil_iff.1 h)
theorem rlO_text {s : ByteArray} {xs : List Int} (h : rlO s = some xs) : s = numT xs := by
  unfold rlO at h
  split at h
  · rename_i e; injection h with h; subst h; rw [e]; rfl
  · split at h
    · rename_i ys hm
      split at h
      · injection h with h
        subst h
        have e := mp_map (fun w n h => (pw_some h).1) hm
        have hne : ys ≠ [] := fun e0 => splitW_ne 44 s (by rw [e, e0]; rfl)
        unfold numT
        rw [if_neg hne, ← e, join_splitW]
      · cases h
    · cases h
theorem pm_text {w : ByteArray} {n : Int} (h : pm w = some n) : w = mvT n := by
  unfold pm at h
  split at h
  · rename_i e; injection h with h; subst h; rw [e]; rfl
  · split at h
    · rename_i m hm
      split at h
      · rename_i hb
        injection h with h
        subst h
        rw [mvT_n (by omega), (pw_some hm).1, itoaW_pos hb.1]
      · cases h
    · cases h
theorem rmO_text {s : ByteArray} {xs : List Int} (h : rmO s = some xs) : s = mvsT xs := by
  unfold rmO at h
  split at h
  · rename_i e; injection h with h; subst h; rw [e]; rfl
  · split at h
    · rename_i ys hm
      split at h
      · injection h with h
        subst h
        have e := mp_map (fun w n h => pm_text h) hm
        have hne : ys ≠ [] := fun e0 => splitW_ne 44 s (by rw [e, e0]; rfl)
        unfold mvsT
        rw [if_neg hne, ← e, join_splitW]
      · cases h
    · cases h
end Go.Proofs.YtfojfndmaofahaaGreatDoor.mem
