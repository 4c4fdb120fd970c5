/-
  Contracts of both programs' functions on selections: over, StrikesLeft, IsOver, MostReached.
-/
import Derived.Test.YtbkpcfncdnmknaaSel
import Derived.Deep.RegionWith
import Derived.Deep.RegionHeld3
namespace Go.Proofs.Ytbkpcfncdnmknaa.mem
open Go.ChangeShapes Go.WideShapes Go.ChangeAt Go.RowKit

def selC (y : SelL) : Int := if okS y = true then 0 else 1
def leftV (y : SelL) : Int := if okS y = true then y.s.getD 0 0 + y.s.getD 1 0 else 0
def overV (y : SelL) : Bool := okS y && overB y
def reachV (y : SelL) : Int := if okS y = true ∧ overB y = false then min (y.s.getD 0 0 + y.s.getD 1 0) y.p.y.length else 0

theorem impl.over_any (x : SelA) (a b : Int) (w : World) (h2 : Two w x.s a b) (ha : 0 ≤ a ∧ a ≤ 10) (hb : 0 ≤ b ∧ b ≤ 10) :
    Calls Try.prog 94 #[.agg #[.slice x.p.x.A x.p.x.n x.p.x.c, .slice x.p.y.A x.p.y.n x.p.y.c, .slice x.p.z.A x.p.z.n x.p.z.c, .slice x.s.A x.s.n x.s.c, .int .i64 x.t, .int .i64 x.q]] w fun e w' => e = .returned (.bool ((x.q == 2) || (a + b == 0))) ∧ Ext w w' := by
  obtain ⟨p, ⟨As, ns, cs⟩, t, q⟩ := x
  obtain ⟨hn, k, off, hA, hc0, hc1⟩ := h2
  simp only at hn hA
  subst hn hA
  simp only
  have hX0 := (Ext.refl w).alloc (.cells #[.slice p.x.A p.x.n p.x.c, .slice p.y.A p.y.n p.y.c, .slice p.z.A p.z.n p.z.c, .slice (some ⟨k, off, none⟩) 2 cs, .int .i64 t, .int .i64 q] 67)
  obtain ⟨q0, q1, q2, q3, q4, q5⟩ := (Blk.new w 67 (#[.slice p.x.A p.x.n p.x.c, .slice p.y.A p.y.n p.y.c, .slice p.z.A p.z.n p.z.c, .slice (some ⟨k, off, none⟩) 2 cs, .int .i64 t, .int .i64 q])).c6
  have hbl := World.block_lt_of_cell? w _ hc0
  simp only at hbl
  have h2' : Two (w.alloc (.cells #[.slice p.x.A p.x.n p.x.c, .slice p.y.A p.y.n p.y.c, .slice p.z.A p.z.n p.z.c, .slice (some ⟨k, off, none⟩) 2 cs, .int .i64 t, .int .i64 q] 67)) ⟨some ⟨k, off, none⟩, 2, cs⟩ a b :=
    ⟨rfl, k, off, rfl, (hX0.cell (p := ⟨k, off, none⟩) hbl).trans hc0, (hX0.cell (p := ⟨k, off + 1, none⟩) hbl).trans hc1⟩
  go_enter Try.func94, Try.ntmps94
  cases b1 : (q == 2)
  · cases b2 : (a + b == 0)
    all_goals
      go_wp2_with (go_at_call 105; refine (impl.sum_two ⟨_, 2, cs⟩ a b _ h2' ha hb).mono ?_; rintro e w' ⟨rfl, rfl⟩)
      go_ret
      exact ⟨by first | rfl | (rw [b2]; rfl), hX0⟩
  · go_wp2_with (go_at_call 105; refine (impl.sum_two ⟨_, 2, cs⟩ a b _ h2' ha hb).mono ?_; rintro e w' ⟨rfl, rfl⟩)
    go_ret
    exact ⟨by first | rfl | simp, hX0⟩
theorem spec.l14Over_any (x : SelA) (a b : Int) (w : World) (h2 : Two w x.s a b) (ha : 0 ≤ a ∧ a ≤ 10) (hb : 0 ≤ b ∧ b ≤ 10) :
    Calls Try.prog 93 #[.agg #[.slice x.p.x.A x.p.x.n x.p.x.c, .slice x.p.y.A x.p.y.n x.p.y.c, .slice x.p.z.A x.p.z.n x.p.z.c, .slice x.s.A x.s.n x.s.c, .int .i64 x.t, .int .i64 x.q]] w fun e w' => e = .returned (.bool ((x.q == 2) || (a + b == 0))) ∧ Ext w w' := by
  obtain ⟨p, ⟨As, ns, cs⟩, t, q⟩ := x
  obtain ⟨hn, k, off, hA, hc0, hc1⟩ := h2
  simp only at hn hA
  subst hn hA
  simp only
  have hX0 := (Ext.refl w).alloc (.cells #[.slice p.x.A p.x.n p.x.c, .slice p.y.A p.y.n p.y.c, .slice p.z.A p.z.n p.z.c, .slice (some ⟨k, off, none⟩) 2 cs, .int .i64 t, .int .i64 q] 67)
  obtain ⟨q0, q1, q2, q3, q4, q5⟩ := (Blk.new w 67 (#[.slice p.x.A p.x.n p.x.c, .slice p.y.A p.y.n p.y.c, .slice p.z.A p.z.n p.z.c, .slice (some ⟨k, off, none⟩) 2 cs, .int .i64 t, .int .i64 q])).c6
  have hbl := World.block_lt_of_cell? w _ hc0
  simp only at hbl
  have r0 := (hX0.cell (p := ⟨k, off, none⟩) hbl).trans hc0
  have r1 := (hX0.cell (p := ⟨k, off + 1, none⟩) hbl).trans hc1
  go_enter Try.func93, Try.ntmps93
  cases b1 : (q == 2)
  · go_wp2
    go_quiet (fail)
    go_wp2
    go_ret
    exact ⟨by first | rfl | simp | go_num, hX0.drewN _⟩
  · go_wp2
    go_quiet (fail)
    go_wp2
    go_ret
    exact ⟨by first | rfl | simp, hX0.drewN _⟩
end Go.Proofs.Ytbkpcfncdnmknaa.mem
