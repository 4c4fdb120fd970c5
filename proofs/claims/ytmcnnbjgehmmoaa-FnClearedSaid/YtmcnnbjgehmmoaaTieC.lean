/-
  Ties that come in: from the form's reading of an argument to my words.
-/
import Derived.Test.YtmcnnbjgehmmoaaTieB
namespace Go.Proofs.Ytmcnnbjgehmmoaa.mem
open Go.ChangeShapes Go.WideShapes Go.ChangeAt Go.RowKit Go.Joins

instance : Inhabited Ti := ⟨⟨0, ByteArray.empty, 0, false⟩⟩
theorem list4 {α : Type} {l : List α} (h : l.length = 4) : ∃ c0 c1 c2 c3, l = [c0, c1, c2, c3] := by
  match l, h with
  | [c0, c1, c2, c3], _ => exact ⟨c0, c1, c2, c3, rfl⟩
section
variable {H : Type} {enc : TypeId × Value → H} {w : World} {spare : Nat → Bool} {held : Bool}
set_option maxRecDepth 20000 in
theorem open_ties_arg {v : Value} {d : DataW H} {ps : List MemPlace} {r : Reach} {b0 : Nat} (hv : Value.okWide Try.prog w r b0 38 v) (h : DataW.Trod enc Try.prog w 0 spare held 38 v d ps) (hsp : ∀ b, spare b = true) :
    ∃ (s : Sl) (ts : List Ti), v = .slice s.A s.n s.c ∧ InT w s ts := by
  obtain ⟨a0, len0, cap0, rfl⟩ := okWide_slice Try.underlying38 hv
  obtain ⟨fuel, hf⟩ := h
  have ce : Program.cellsOf Try.prog 77 = 4 := by kernel_rfl
  have e1 : Program.cellsOf Try.prog 2 = 1 := by kernel_rfl
  have e2 : Program.cellsOf Try.prog 9 = 1 := by kernel_rfl
  have e3 : Program.cellsOf Try.prog 4 = 1 := by kernel_rfl
  rcases Go.Deep.open_slice Try.underlying38 hf with ⟨hcs, _⟩ | ⟨a, len, cap, m, n, D, Pl, hcs, _, hl, hm, hmm, _, hx⟩
  · injection hcs with hcs
    exact ⟨⟨none, 0, 0⟩, [], hcs, rfl, by simp [cap1], fun _ => ⟨rfl, by omega, by simp, fun h => absurd h (by simp)⟩⟩
  · injection hcs with hcs
    rw [hsp, if_pos rfl] at hmm
    have each : ∀ i, i < m → ∃ t : Ti, w.cell? (a.add (i * 4)) = some (.int .i64 t.n) ∧ w.cell? (a.add (i * 4 + 1)) = some (.string t.s) ∧ w.cell? (a.add (i * 4 + 2)) = some (.int .i64 t.k) ∧ w.cell? (a.add (i * 4 + 3)) = some (.bool t.f) ∧ t.s.size ≤ maxLen := by
      intro i hi
      obtain ⟨cs', h1, h2⟩ := hx i hi
      rw [ce] at h1
      obtain ⟨_, hlen, hcell⟩ := World.cells?_some h1
      obtain ⟨xs, k, _, _, _, hxl, hfl⟩ := DataW.trod_struct Try.underlying77 h2
      obtain ⟨y0, y1, y2, y3, rfl⟩ := list4 hxl
      obtain ⟨v0, v1, v2, v3, rfl⟩ := list4 hlen
      have g0 := hfl 0 _ rfl
      have g1 := hfl 1 _ rfl
      have g2 := hfl 2 _ rfl
      have g3 := hfl 3 _ rfl
      simp [e1, e2, e3] at g0 g1 g2 g3
      obtain ⟨a0, hc0, _⟩ := DataW.trod_int Try.underlying2 g0
      obtain ⟨s, hc1, _, hs⟩ := DataW.trod_string Try.underlying9 g1
      obtain ⟨a2, hc2, _⟩ := DataW.trod_int Try.underlying2 g2
      obtain ⟨f, hc3, _⟩ := DataW.trod_bool Try.underlying4 g3
      have q0 := hcell 0 (by omega)
      have q1 := hcell 1 (by omega)
      have q2 := hcell 2 (by omega)
      have q3 := hcell 3 (by omega)
      rw [Go.Deep.add_add] at q0 q1 q2 q3
      cases hc0
      cases hc1
      cases hc2
      cases hc3
      exact ⟨⟨a0, s, a2, f⟩, by simpa using q0, by simpa using q1, by simpa using q2, by simpa using q3, hs⟩
    obtain ⟨q, hq⟩ := Go.Deep.choose_lt each
    refine ⟨⟨some a, len, cap⟩, (List.range len).map q, hcs, by simp, by unfold maxLen at hm; exact ⟨hl, hm⟩, fun hn => ⟨by simp, hn, ?_, fun hn0 => ?_⟩⟩
    · intro x hx
      obtain ⟨i, hi, rfl⟩ := List.mem_map.1 hx
      exact (hq i (by have := List.mem_range.1 hi; omega)).2.2.2.2
    · simp only at hn0 ⊢
      have h0 := (hq 0 (by omega)).1
      obtain ⟨b, off, spot⟩ := a
      have hspot : spot = none := by simpa [Addr.add] using World.cell?_spot h0
      subst hspot
      refine ⟨b, off, rfl, ?_, fun j x hj => ?_⟩
      · have := World.block_lt_of_cell? w _ h0
        simpa [Go.WideShapes.add_plain] using this
      · rw [List.getElem?_map] at hj
        obtain ⟨i, hi, rfl⟩ := Option.map_eq_some_iff.1 hj
        have hi2 := List.getElem?_eq_some_iff.1 hi
        have hjl : j < len := by simpa using hi2.1
        have e : i = j := by have := hi2.2; simpa using this.symm
        subst e
        obtain ⟨q0, q1, q2, q3, _⟩ := hq i (by omega)
        rw [Go.WideShapes.add_plain] at q0 q1 q2 q3
        exact ⟨q0, by rw [Nat.add_assoc]; exact q1, by rw [Nat.add_assoc]; exact q2, by rw [Nat.add_assoc]; exact q3⟩
end
end Go.Proofs.Ytmcnnbjgehmmoaa.mem
