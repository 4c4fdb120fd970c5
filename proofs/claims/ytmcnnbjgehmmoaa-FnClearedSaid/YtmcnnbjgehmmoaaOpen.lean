/-
  From the form's reading of an argument to my words: a slice of numbers, a struct of three such slices.
-/
import Derived.Test.Ytmcnnbjgehmmoaa3s
import Derived.Lib.SmallJoins
namespace Go.Proofs.Ytmcnnbjgehmmoaa.mem
open Go.ChangeShapes Go.WideShapes Go.ChangeAt Go.RowKit Go.Joins

/-- a slice that came in, of whatever length -/
def RdI (w : World) (A : Option Addr) (n : Nat) (xs : List Int) : Prop :=
  n = xs.length ∧ (0 < n → ∃ b off, A = some ⟨b, off, none⟩ ∧ b < w.heap.size ∧ ∀ j, j < n → w.cell? ⟨b, off + j, none⟩ = some (.int .i64 (xs.getD j 0)))
theorem RdI.rd {w : World} {A : Option Addr} {n : Nat} {xs : List Int} (h : RdI w A n xs) (hn : n ≤ 16777216) : Rd w A n xs := ⟨h.1, hn, h.2⟩
def In1 (w : World) (s : Sl) (xs : List Int) : Prop := RdI w s.A s.n xs ∧ cap1 s
def In3 (w : World) (p : S3) (l : L3) : Prop := In1 w p.x l.x ∧ In1 w p.y l.y ∧ In1 w p.z l.z
theorem In3.rd {w : World} {p : S3} {l : L3} (h : In3 w p l) (hs : p.x.n + (p.y.n + p.z.n) ≤ 2097152) : Rd3 w p l :=
  ⟨h.1.1.rd (by omega), h.2.1.1.rd (by omega), h.2.2.1.rd (by omega), hs, h.1.2, h.2.1.2, h.2.2.2⟩
theorem In3.rds {w : World} {p : S3} {l : L3} (h : In3 w p l) {left : Int} (hz : 0 ≤ sz3 left p) (hl : left ≤ 1048576) : Rd3 w p l := h.rd (by have := (sz3_pos hz hl).1; omega)
theorem In1.rds {w : World} {s : Sl} {xs : List Int} (h : In1 w s xs) (hn : s.n ≤ 16777216) : Rd w s.A s.n xs := h.1.rd hn
theorem In1.max {w : World} {s : Sl} {xs : List Int} (h : In1 w s xs) : s.n ≤ maxLen := by
  have := h.2
  unfold cap1 at this
  unfold maxLen
  omega

section
variable {H : Type} {enc : TypeId × Value → H} {w : World} {spare : Nat → Bool} {held : Bool}
set_option maxRecDepth 20000 in
theorem open_sl {fuel : Nat} {v : Value} {x : DataW H × List MemPlace} (h : DataW.trod enc Try.prog w 0 spare held fuel 28 [v] = some x) (hsp : ∀ b, spare b = true) :
    ∃ (s : Sl) (xs : List Int), v = .slice s.A s.n s.c ∧ In1 w s xs := by
  rcases open_ints Try.underlying28 Try.underlying2 (by kernel_rfl) h with ⟨hcs, _⟩ | ⟨a, len, cap, zs, hcs, _, hl, hm, hz, _, hcell, _⟩
  · injection hcs with hcs
    exact ⟨⟨none, 0, 0⟩, [], hcs, ⟨rfl, fun h => absurd h (Nat.lt_irrefl 0)⟩, by simp [cap1]⟩
  · injection hcs with hcs
    rw [hsp, if_pos rfl] at hz
    refine ⟨⟨some a, len, cap⟩, zs.take len, hcs, ⟨by rw [List.length_take]; simp only; omega, fun hn => ?_⟩, by unfold maxLen at hm; exact ⟨hl, by simp only; omega⟩⟩
    simp only at hn ⊢
    have h0 := hcell 0 (by omega)
    obtain ⟨b, off, spot⟩ := a
    have hspot : spot = none := by simpa [Addr.add] using World.cell?_spot h0
    subst hspot
    refine ⟨b, off, rfl, ?_, fun j hj => ?_⟩
    · have := World.block_lt_of_cell? w _ h0
      simpa [Go.WideShapes.add_plain] using this
    · have := hcell j (by omega)
      rw [Go.WideShapes.add_plain] at this
      rw [this]
      simp [List.getElem?_take_of_lt hj]
set_option maxRecDepth 20000 in
theorem open_arg {v : Value} {d : DataW H} {ps : List MemPlace} {r : Reach} {b0 : Nat} (hv : Value.okWide Try.prog w r b0 28 v) (h : DataW.Trod enc Try.prog w 0 spare held 28 v d ps) (hsp : ∀ b, spare b = true) :
    ∃ (s : Sl) (xs : List Int), v = .slice s.A s.n s.c ∧ In1 w s xs := by
  obtain ⟨a0, len, cap, rfl⟩ := okWide_slice Try.underlying28 hv
  obtain ⟨fuel, hf⟩ := h
  exact open_sl (v := .slice a0 len cap) hf hsp
end
theorem laidOut : laidOutB Try.prog = true := by kernel_rfl
end Go.Proofs.Ytmcnnbjgehmmoaa.mem
