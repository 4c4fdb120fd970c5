/-
  Splitting a text at a byte, in the reference.
-/
import Derived.Test.YtfojfndmaofahaaGreatDoorRdQ
namespace Go.Proofs.YtfojfndmaofahaaGreatDoor.mem
open Go.ChangeShapes Go.WideShapes Go.ChangeAt Go.RowKit

def toW (l : List UInt8) : ByteArray := ⟨l.toArray⟩
/-- where the loop stands: done pieces, and the piece that is being read -/
def SpInv (c : UInt8) (s : ByteArray) (k f : Nat) (done : List ByteArray) : Prop :=
  done.length ≤ k ∧ (k ≤ s.size → f ≤ k ∧ splitW c s = done ++ (hd ((s.data.toList.take k).drop f) (splitL c (s.data.toList.drop k))).map toW) ∧ (k = s.size + 1 → splitW c s = done)
theorem size_list (s : ByteArray) : s.data.toList.length = s.size := Array.length_toList
theorem SpInv.start (c : UInt8) (s : ByteArray) : SpInv c s 0 0 [] := by
  refine ⟨Nat.le_refl _, fun _ => ⟨Nat.le_refl _, ?_⟩, fun h => by omega⟩
  simp only [List.take_zero, List.drop_zero, List.drop_nil, List.nil_append]
  rw [hd_nil _ (splitL_ne _ _)]
  rfl
theorem extract_toW (s : ByteArray) (f k : Nat) (_ : f ≤ k) : toW ((s.data.toList.take k).drop f) = s.extract f k := by
  apply ByteArray.ext
  apply Array.ext'
  simp [toW, ByteArray.data_extract, List.drop_take]
theorem SpInv.last {c : UInt8} {s : ByteArray} {f : Nat} {done : List ByteArray} (h : SpInv c s s.size f done) : SpInv c s (s.size + 1) (s.size + 1) (done ++ [s.extract f s.size]) := by
  obtain ⟨h0, h1, _⟩ := h
  obtain ⟨hf, he⟩ := h1 (Nat.le_refl _)
  refine ⟨by simp; omega, fun h => by omega, fun _ => ?_⟩
  rw [he, show s.data.toList.drop s.size = [] by rw [List.drop_eq_nil_iff, size_list]; exact Nat.le_refl _]
  simp only [splitL, hd, List.append_nil, List.map_cons, List.map_nil]
  rw [extract_toW s f s.size hf]
theorem drop_at (s : ByteArray) {k : Nat} (h : k < s.size) : s.data.toList.drop k = s[k] :: s.data.toList.drop (k + 1) := by
  rw [List.drop_eq_getElem_cons (by rw [size_list]; exact h)]
  rfl
theorem SpInv.hit {c : UInt8} {s : ByteArray} {k f : Nat} {done : List ByteArray} (h : SpInv c s k f done) (hk : k < s.size) (hc : s[k] = c) : SpInv c s (k + 1) (k + 1) (done ++ [s.extract f k]) := by
  obtain ⟨h0, h1, _⟩ := h
  obtain ⟨hf, he⟩ := h1 (by omega)
  refine ⟨by simp; omega, fun _ => ⟨Nat.le_refl _, ?_⟩, fun h => by omega⟩
  rw [he, drop_at s hk, splitL, if_pos hc]
  have hh : ∀ (p : List UInt8) (x : List (List UInt8)), hd p ([] :: x) = p :: x := fun p x => by simp [hd]
  rw [hh, List.map_cons, extract_toW s f k hf, show (s.data.toList.take (k + 1)).drop (k + 1) = [] by rw [List.drop_eq_nil_iff, List.length_take]; omega, hd_nil _ (splitL_ne _ _)]
  simp
theorem SpInv.miss {c : UInt8} {s : ByteArray} {k f : Nat} {done : List ByteArray} (h : SpInv c s k f done) (hk : k < s.size) (hc : s[k] ≠ c) : SpInv c s (k + 1) f done := by
  obtain ⟨h0, h1, _⟩ := h
  obtain ⟨hf, he⟩ := h1 (by omega)
  refine ⟨by omega, fun _ => ⟨by omega, ?_⟩, fun h => by omega⟩
  rw [he, drop_at s hk, splitL_cons c _ _ hc, hd_hd _ _ _ (splitL_ne _ _)]
  congr 3
  rw [take_snocB s k hk, List.drop_append_of_le_length (by rw [List.length_take, size_list]; omega)]
theorem SpInv.done {c : UInt8} {s : ByteArray} {f : Nat} {done : List ByteArray} (h : SpInv c s (s.size + 1) f done) : splitW c s = done := h.2.2 rfl
theorem u8_eq (a b : UInt8) : (((a.toNat : Int)) == ((b.toNat : Int))) = decide (a = b) := by
  by_cases h : a = b
  · subst h; simp
  · have : ¬ ((a.toNat : Int) = (b.toNat : Int)) := fun e => h (UInt8.toNat_inj.1 (by omega))
    rw [decide_eq_false h]; simpa using this
set_option maxHeartbeats 2000000 in
theorem spec.l01Split_any (s : ByteArray) (c : UInt8) (w : World) (hs : s.size ≤ 1048576) :
    Calls Tryz.prog 36 #[.string s, .int .u8 (c.toNat : Int)] w fun e w' => ∃ v : Sl, e = .returned (.slice v.A v.n v.c) ∧ OwnU w' w.heap.size (.slice v.A v.n v.c) (splitW c s) ∧ Ext w w' := by
  have hX0 := (Ext.refl w).alloc (.cells #[] 9)
  go_enter Tryz.func36, Tryz.ntmps36
  go_wp2
  go_loopw [5, 6, 7] (fun h f i wr => ∃ (k q : Nat) (v : Sl) (done : List ByteArray), k ≤ s.size + 1 ∧ q ≤ k ∧ i = .int .i64 k ∧ f = .int .i64 q ∧ h = .slice v.A v.n v.c ∧ OwnU wr w.heap.size (.slice v.A v.n v.c) done ∧ Ext w wr ∧ Hid (SpInv c s k q done)) (fun _ _ i _ => s.size + 1 - (intOf i).toNat)
  case atStart => exact ⟨0, 0, ⟨_, _, _⟩, [], by omega, by omega, rfl, rfl, rfl, OwnU.new0 w _ (Nat.le_refl _), hX0, hide (SpInv.start c s)⟩
  case round =>
    clear hX0
    obtain ⟨k, q, v, done, hk, hq, rfl, rfl, rfl, ho, hE, hI⟩ := hrel
    have hsw := hE.size
    have hvl := ho.lt
    have hwk : IntKind.i64.wrap ((k : Int) + 1) = (k : Int) + 1 := Go.IntWalk.i64_in _ (by omega)
    have hdl := hide (show done.length ≤ 1048577 by have := hI.out.1; omega)
    rcases Nat.lt_trichotomy k s.size with hlt | rfl | hgt
    · have hle : (k : Int) ≤ (s.size : Int) := by omega
      have hne : ((k : Int) == (s.size : Int)) = false := by rw [beq_eq_false_iff_ne]; omega
      by_cases hc : s[k] = c
      · have hu := u8_eq s[k] c
        rw [decide_eq_true hc] at hu
        have hN := hide (SpInv.hit hI.out hlt hc)
        replace hc := hide hc
        have hF := RdU.one wr (s.extract q k)
        have hqk : (q : Int) ≤ (k : Int) := by omega
        go_wp2_with (at_builtin; refine wpList_appU _ rfl (.tmp 26) (.tmp 31) rfl w.heap.size _ _ rfl (ho.alloc _) _ _ _ [s.extract q k] rfl hF (by have := hdl.out; omega) (by simp; omega) ?_; intro t4 w4 o4 hg hb)
        go_roundw
        case rel => exact ⟨k + 1, k + 1, t4, _, by omega, by omega, by go_num, by go_num, rfl, o4, (hE.alloc _).grow hg (fun j hj => (hvl j hj).1), hN⟩
        case measure => simp [intOf] <;> omega
      · have hu := u8_eq s[k] c
        rw [decide_eq_false hc] at hu
        have hN := hide (SpInv.miss hI.out hlt hc)
        replace hc := hide hc
        go_wp2
        go_roundw
        case rel => exact ⟨k + 1, q, v, _, by omega, by omega, by go_num, rfl, rfl, ho, hE, hN⟩
        case measure => simp [intOf] <;> omega
    · have hN := hide (SpInv.last hI.out)
      have hF := RdU.one wr (s.extract q s.size)
      have hqk : (q : Int) ≤ (s.size : Int) := by omega
      go_wp2_with (at_builtin; refine wpList_appU _ rfl (.tmp 26) (.tmp 31) rfl w.heap.size _ _ rfl (ho.alloc _) _ _ _ [s.extract q s.size] rfl hF (by have := hdl.out; omega) (by simp; omega) ?_; intro t4 w4 o4 hg hb)
      go_roundw
      case rel => exact ⟨s.size + 1, s.size + 1, t4, _, by omega, by omega, by go_num, by go_num, rfl, o4, (hE.alloc _).grow hg (fun j hj => (hvl j hj).1), hN⟩
      case measure => simp [intOf] <;> omega
    · obtain rfl : k = s.size + 1 := by omega
      have hD := hide (SpInv.done hI.out)
      have hgl : ¬ ((s.size : Int) + 1 ≤ (s.size : Int)) := by omega
      go_wp2
      go_ret
      exact ⟨v, rfl, by rw [hD.out]; exact ho, hE⟩
end Go.Proofs.YtfojfndmaofahaaGreatDoor.mem
