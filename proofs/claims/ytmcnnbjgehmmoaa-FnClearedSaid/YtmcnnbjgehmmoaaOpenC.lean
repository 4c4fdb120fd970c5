/-
  From the form's reading of an argument to my words: a slice of bytes, a code; is a code too long.
-/
import Derived.Test.YtmcnnbjgehmmoaaDrA
import Derived.ChangeSlices
namespace Go.Proofs.Ytmcnnbjgehmmoaa.mem
open Go.ChangeShapes Go.WideShapes Go.ChangeAt Go.RowKit

section
variable {H : Type} {enc : TypeId × Value → H} {w : World} {spare : Nat → Bool} {held : Bool}
set_option maxRecDepth 20000 in
theorem open_code {v : Value} {d : DataW H} {ps : List MemPlace} {r : Reach} {b0 : Nat} (hv : Value.okWide Try.prog w r b0 22 v) (h : DataW.Trod enc Try.prog w 0 spare held 22 v d ps) (hsp : ∀ b, spare b = true) :
    ∃ s : Sl, v = .slice s.A s.n s.c ∧ RdB w s.A s.n ∧ cap1 s := by
  obtain ⟨a0, len, cap, rfl⟩ := okWide_slice Try.underlying22 hv
  obtain ⟨fuel, hf⟩ := h
  rcases open_ints Try.underlying22 Try.underlying5 (by kernel_rfl) hf with ⟨hcs, _⟩ | ⟨a, len', cap', zs, hcs, _, hl, hm, hz, _, hcell, hwf⟩
  · injection hcs with hcs
    exact ⟨⟨none, 0, 0⟩, hcs, fun h => absurd h (Nat.lt_irrefl 0), by simp [cap1]⟩
  · injection hcs with hcs
    rw [hsp, if_pos rfl] at hz
    refine ⟨⟨some a, len', cap'⟩, hcs, fun hn => ?_, by unfold maxLen at hm; exact ⟨hl, by simp only; omega⟩⟩
    simp only at hn ⊢
    have h0 := hcell 0 (by omega)
    obtain ⟨b, off, spot⟩ := a
    have hspot : spot = none := by simpa [Addr.add] using World.cell?_spot h0
    subst hspot
    refine ⟨b, off, rfl, ?_, fun j hj => ?_⟩
    · have := World.block_lt_of_cell? w _ h0
      simpa [Go.WideShapes.add_plain] using this
    · have hj' : j < zs.length := by omega
      have := hcell j hj'
      rw [Go.WideShapes.add_plain] at this
      have e : zs.getD j 0 = zs[j] := by simp [List.getElem?_eq_getElem hj']
      have hw := hwf zs[j] (List.getElem_mem hj')
      simp [Lit.wf, IntKind.min, IntKind.max, IntKind.signed, IntKind.bits] at hw
      exact ⟨zs[j], by rw [this, e], by omega, by omega⟩
end
theorem laidOut : laidOutB Try.prog = true := by kernel_rfl
theorem laws.big_any (s : Sl) (w : World) (hc : cap1 s) : Calls Try.prog 7 #[.slice s.A s.n s.c] w fun e w' => e = .returned (.bool (decide (4096 < s.n))) ∧ w = w' := by
  obtain ⟨A, n, c⟩ := s
  unfold cap1 at hc
  simp only at hc ⊢
  by_cases h : 4096 < n
  · have h' : (4096 : Int) < (n : Int) := by omega
    go_enter Try.func7, Try.ntmps7
    go_wp2
    go_ret
    exact ⟨by first | rfl | (rw [decide_eq_true h]; rfl), rfl⟩
  · have h' : ¬ (4096 : Int) < (n : Int) := by omega
    go_enter Try.func7, Try.ntmps7
    go_wp2
    go_ret
    exact ⟨by first | rfl | (rw [decide_eq_false h]; rfl), rfl⟩
end Go.Proofs.Ytmcnnbjgehmmoaa.mem
