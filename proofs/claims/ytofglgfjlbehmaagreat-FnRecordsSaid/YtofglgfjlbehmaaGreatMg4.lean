/-
  Ties and lists of texts in the laws: comparing and marking.
  Ties that come in: from the form's reading of an argument to my words.
-/
import Derived.Test.YtofglgfjlbehmaaGreatTis
import Derived.Deep.RegionHeld3
import Derived.Laws.BytesArg
import Derived.Deep.Strs
import Derived.Lib.SmallJoins
namespace Go.Proofs.YtofglgfjlbehmaaGreat.mem
open Go.ChangeShapes Go.WideShapes Go.ChangeAt Go.RowKit Go.Joins

theorem Fr.set_ {S : Nat → Prop} {w w' : World} (h : Fr S w w') {g : Nat} (hg : S g) (i : Nat) (u : Value) : Fr S w (w'.setCell ⟨g, i, none⟩ u) :=
  ⟨h.os, h.tape, h.output, by rw [size_off]; exact h.size, fun k hk hn => (Below.heap_setCell w' ⟨g, i, none⟩ u k (fun e => hn (by subst e; exact hg))).trans (h.block k hk hn)⟩
section
variable {H : Type} {enc : TypeId × Value → H} {w : World} {spare : Nat → Bool} {held : Bool}
set_option maxRecDepth 20000 in
theorem open_strs_arg {v : Value} {d : DataW H} {ps : List MemPlace} {r : Reach} {b0 : Nat} (hv : Value.okWide Tryz.prog w r b0 28 v) (h : DataW.Trod enc Tryz.prog w 0 spare held 28 v d ps) (hsp : ∀ b, spare b = true) :
    ∃ (s : Sl) (ss : List ByteArray), v = .slice s.A s.n s.c ∧ InW w s ss := by
  obtain ⟨a0, len0, cap0, rfl⟩ := okWide_slice Tryz.underlying28 hv
  obtain ⟨fuel, hf⟩ := h
  rcases Go.Deep.open_strs Tryz.underlying28 Tryz.underlying9 (by kernel_rfl) hf with ⟨hcs, _⟩ | ⟨a, len, cap, m, Sx, hcs, _, hl, hm, hmm, _, hcell⟩
  · injection hcs with hcs
    exact ⟨⟨none, 0, 0⟩, [], hcs, rfl, by simp [cap1], fun _ => ⟨rfl, by omega, by simp, fun h => absurd h (by simp)⟩⟩
  · injection hcs with hcs
    rw [hsp, if_pos rfl] at hmm
    refine ⟨⟨some a, len, cap⟩, (List.range len).map Sx, hcs, by simp, by unfold maxLen at hm; exact ⟨hl, hm⟩, fun hn => ⟨by simp, hn, ?_, fun hn0 => ?_⟩⟩
    · intro x hx
      obtain ⟨i, hi, rfl⟩ := List.mem_map.1 hx
      exact (hcell i (by have := List.mem_range.1 hi; omega)).2
    · simp only at hn0 ⊢
      have h0 := (hcell 0 (by omega)).1
      obtain ⟨b, off, spot⟩ := a
      have hspot : spot = none := by simpa [Addr.add] using World.cell?_spot h0
      subst hspot
      refine ⟨b, off, rfl, ?_, fun j x hj => ?_⟩
      · have := World.block_lt_of_cell? w _ h0
        simpa [Go.WideShapes.add_plain] using this
      · rw [List.getElem?_map] at hj
        obtain ⟨i, hi, rfl⟩ := Option.map_eq_some_iff.1 hj
        have hi2 := List.getElem?_eq_some_iff.1 hi
        have hjl : j < len := by simpa using hi2.1
        have e : i = j := by have := hi2.2; simpa using this.symm
        subst e
        have := (hcell i (by omega)).1
        rw [Go.WideShapes.add_plain] at this
        exact this
end
end Go.Proofs.YtofglgfjlbehmaaGreat.mem
namespace Go.Proofs.YtofglgfjlbehmaaGreat.mem
open Go.ChangeShapes Go.WideShapes Go.ChangeAt Go.RowKit Go.Joins

instance : Inhabited Ti := ⟨⟨0, ByteArray.empty, 0, false⟩⟩
theorem list4 {α : Type} {l : List α} (h : l.length = 4) : ∃ c0 c1 c2 c3, l = [c0, c1, c2, c3] := by
  match l, h with
  | [c0, c1, c2, c3], _ => exact ⟨c0, c1, c2, c3, rfl⟩
section
variable {H : Type} {enc : TypeId × Value → H} {w : World} {spare : Nat → Bool} {held : Bool}
end
end Go.Proofs.YtofglgfjlbehmaaGreat.mem
