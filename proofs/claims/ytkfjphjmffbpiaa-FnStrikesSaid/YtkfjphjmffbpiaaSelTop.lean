/-
  Contracts of both programs' functions on selections: over, StrikesLeft, IsOver, MostReached.
-/
import Derived.Test.YtkfjphjmffbpiaaSel
import Derived.Deep.RegionWith
import Derived.Deep.RegionHeld3
namespace Go.Proofs.Ytkfjphjmffbpiaa.mem
open Go.ChangeShapes Go.WideShapes Go.ChangeAt Go.RowKit

def selC (y : SelL) : Int := if okS y = true then 0 else 1
def leftV (y : SelL) : Int := if okS y = true then y.s.getD 0 0 + y.s.getD 1 0 else 0
def overV (y : SelL) : Bool := okS y && overB y
def reachV (y : SelL) : Int := if okS y = true ∧ overB y = false then min (y.s.getD 0 0 + y.s.getD 1 0) y.p.y.length else 0

theorem impl.over_any (x : SelA) (a b : Int) (w : World) (h2 : Two w x.s a b) (ha : 0 ≤ a ∧ a ≤ 10) (hb : 0 ≤ b ∧ b ≤ 10) :
    Calls Try.prog 106 #[.agg #[.slice x.p.x.A x.p.x.n x.p.x.c, .slice x.p.y.A x.p.y.n x.p.y.c, .slice x.p.z.A x.p.z.n x.p.z.c, .slice x.s.A x.s.n x.s.c, .int .i64 x.t, .int .i64 x.q]] w fun e w' => e = .returned (.bool ((x.q == 2) || (a + b == 0))) ∧ Ext w w' := by
  obtain ⟨p, ⟨As, ns, cs⟩, t, q⟩ := x
  obtain ⟨hn, k, off, hA, hc0, hc1⟩ := h2
  simp only at hn hA
  subst hn hA
  simp only
  have hX0 := (Ext.refl w).alloc (.cells #[.slice p.x.A p.x.n p.x.c, .slice p.y.A p.y.n p.y.c, .slice p.z.A p.z.n p.z.c, .slice (some ⟨k, off, none⟩) 2 cs, .int .i64 t, .int .i64 q] 51)
  obtain ⟨q0, q1, q2, q3, q4, q5⟩ := (Blk.new w 51 (#[.slice p.x.A p.x.n p.x.c, .slice p.y.A p.y.n p.y.c, .slice p.z.A p.z.n p.z.c, .slice (some ⟨k, off, none⟩) 2 cs, .int .i64 t, .int .i64 q])).c6
  have hbl := World.block_lt_of_cell? w _ hc0
  simp only at hbl
  have h2' : Two (w.alloc (.cells #[.slice p.x.A p.x.n p.x.c, .slice p.y.A p.y.n p.y.c, .slice p.z.A p.z.n p.z.c, .slice (some ⟨k, off, none⟩) 2 cs, .int .i64 t, .int .i64 q] 51)) ⟨some ⟨k, off, none⟩, 2, cs⟩ a b :=
    ⟨rfl, k, off, rfl, (hX0.cell (p := ⟨k, off, none⟩) hbl).trans hc0, (hX0.cell (p := ⟨k, off + 1, none⟩) hbl).trans hc1⟩
  go_enter Try.func106, Try.ntmps106
  cases b1 : (q == 2)
  · cases b2 : (a + b == 0)
    all_goals
      go_wp2_with (go_at_call 108; refine (impl.sum_two ⟨_, 2, cs⟩ a b _ h2' ha hb).mono ?_; rintro e w' ⟨rfl, rfl⟩)
      go_ret
      exact ⟨by first | rfl | (rw [b2]; rfl), hX0⟩
  · go_wp2_with (go_at_call 108; refine (impl.sum_two ⟨_, 2, cs⟩ a b _ h2' ha hb).mono ?_; rintro e w' ⟨rfl, rfl⟩)
    go_ret
    exact ⟨by first | rfl | simp, hX0⟩
theorem spec.l14Over_any (x : SelA) (a b : Int) (w : World) (h2 : Two w x.s a b) (ha : 0 ≤ a ∧ a ≤ 10) (hb : 0 ≤ b ∧ b ≤ 10) :
    Calls Try.prog 107 #[.agg #[.slice x.p.x.A x.p.x.n x.p.x.c, .slice x.p.y.A x.p.y.n x.p.y.c, .slice x.p.z.A x.p.z.n x.p.z.c, .slice x.s.A x.s.n x.s.c, .int .i64 x.t, .int .i64 x.q]] w fun e w' => e = .returned (.bool ((x.q == 2) || (a + b == 0))) ∧ Ext w w' := by
  obtain ⟨p, ⟨As, ns, cs⟩, t, q⟩ := x
  obtain ⟨hn, k, off, hA, hc0, hc1⟩ := h2
  simp only at hn hA
  subst hn hA
  simp only
  have hX0 := (Ext.refl w).alloc (.cells #[.slice p.x.A p.x.n p.x.c, .slice p.y.A p.y.n p.y.c, .slice p.z.A p.z.n p.z.c, .slice (some ⟨k, off, none⟩) 2 cs, .int .i64 t, .int .i64 q] 51)
  obtain ⟨q0, q1, q2, q3, q4, q5⟩ := (Blk.new w 51 (#[.slice p.x.A p.x.n p.x.c, .slice p.y.A p.y.n p.y.c, .slice p.z.A p.z.n p.z.c, .slice (some ⟨k, off, none⟩) 2 cs, .int .i64 t, .int .i64 q])).c6
  have hbl := World.block_lt_of_cell? w _ hc0
  simp only at hbl
  have r0 := (hX0.cell (p := ⟨k, off, none⟩) hbl).trans hc0
  have r1 := (hX0.cell (p := ⟨k, off + 1, none⟩) hbl).trans hc1
  go_enter Try.func107, Try.ntmps107
  cases b1 : (q == 2)
  · go_wp2
    go_quiet (fail)
    go_wp2
    go_ret
    exact ⟨by first | rfl | simp | go_num, hX0.drewN _⟩
  · go_wp2
    go_quiet (fail)
    go_wp2
    go_ret
    exact ⟨by first | rfl | simp, hX0.drewN _⟩
set_option maxHeartbeats 1000000 in
theorem impl.StrikesLeft_any (x : SelA) (y : SelL) (w : World) (hr : RdS w x y) :
    Calls Try.prog 44 #[.agg #[.slice x.p.x.A x.p.x.n x.p.x.c, .slice x.p.y.A x.p.y.n x.p.y.c, .slice x.p.z.A x.p.z.n x.p.z.c, .slice x.s.A x.s.n x.s.c, .int .i64 x.t, .int .i64 x.q]] w fun e w' => e = .returned (.tuple #[.int .i64 (leftV y), .int .i64 (selC y)]) ∧ Ext w w' := by
  have hX0 := (Ext.refl w).alloc (.cells #[.slice x.p.x.A x.p.x.n x.p.x.c, .slice x.p.y.A x.p.y.n x.p.y.c, .slice x.p.z.A x.p.z.n x.p.z.c, .slice x.s.A x.s.n x.s.c, .int .i64 x.t, .int .i64 x.q] 51)
  have hB0 := Blk.new w 51 (#[.slice x.p.x.A x.p.x.n x.p.x.c, .slice x.p.y.A x.p.y.n x.p.y.c, .slice x.p.z.A x.p.z.n x.p.z.c, .slice x.s.A x.s.n x.s.c, .int .i64 x.t, .int .i64 x.q])
  obtain ⟨q0, q1, q2, q3, q4, q5⟩ := hB0.c6
  go_enter Try.func44, Try.ntmps44
  go_wp2_with fail
  refine (impl.IsSelection_any x y _ (hr.ext hX0)).mono ?_
  rintro e w1 ⟨rfl, hx1⟩
  have hX1 := hX0.trans hx1
  clear q0 q1 q2 q3 q4 q5
  obtain ⟨q0, q1, q2, q3, q4, q5⟩ := (hB0.ext hx1).c6
  cases hok : okS y
  · have E1 := hide (show leftV y = 0 by unfold leftV; rw [hok]; rfl)
    have E2 := hide (show selC y = 1 by unfold selC; rw [hok]; rfl)
    go_wp2
    go_ret2
    exact ⟨by rw [E1.out, E2.out]; rfl, hX1⟩
  · have E1 := hide (show leftV y = y.s.getD 0 0 + y.s.getD 1 0 by unfold leftV; rw [hok]; rfl)
    have E2 := hide (show selC y = 0 by unfold selC; rw [hok]; rfl)
    obtain ⟨h2, ha, hb⟩ := okS_two (hr.ext hX1) hok
    revert E1 h2 ha hb
    generalize y.s.getD 0 0 = a
    generalize y.s.getD 1 0 = b
    intro E1 h2 ha hb
    obtain ⟨p, ⟨As, ns, cs⟩, t, q⟩ := x
    have h2' := h2
    obtain ⟨hn, k, off, hA, hc0, hc1⟩ := h2
    simp only at hn hA
    subst hn hA
    go_wp2_with (go_at_call 108; refine (impl.sum_two ⟨_, 2, cs⟩ a b _ h2' ha hb).mono ?_; rintro e w' ⟨rfl, rfl⟩)
    go_ret2
    exact ⟨by rw [E1.out, E2.out]; first | rfl | go_num, hX1⟩
set_option maxHeartbeats 1000000 in
theorem impl.IsOver_any (x : SelA) (y : SelL) (w : World) (hr : RdS w x y) :
    Calls Try.prog 42 #[.agg #[.slice x.p.x.A x.p.x.n x.p.x.c, .slice x.p.y.A x.p.y.n x.p.y.c, .slice x.p.z.A x.p.z.n x.p.z.c, .slice x.s.A x.s.n x.s.c, .int .i64 x.t, .int .i64 x.q]] w fun e w' => e = .returned (.tuple #[.bool (overV y), .int .i64 (selC y)]) ∧ Ext w w' := by
  have hX0 := (Ext.refl w).alloc (.cells #[.slice x.p.x.A x.p.x.n x.p.x.c, .slice x.p.y.A x.p.y.n x.p.y.c, .slice x.p.z.A x.p.z.n x.p.z.c, .slice x.s.A x.s.n x.s.c, .int .i64 x.t, .int .i64 x.q] 51)
  have hB0 := Blk.new w 51 (#[.slice x.p.x.A x.p.x.n x.p.x.c, .slice x.p.y.A x.p.y.n x.p.y.c, .slice x.p.z.A x.p.z.n x.p.z.c, .slice x.s.A x.s.n x.s.c, .int .i64 x.t, .int .i64 x.q])
  obtain ⟨q0, q1, q2, q3, q4, q5⟩ := hB0.c6
  go_enter Try.func42, Try.ntmps42
  go_wp2_with fail
  refine (impl.IsSelection_any x y _ (hr.ext hX0)).mono ?_
  rintro e w1 ⟨rfl, hx1⟩
  have hX1 := hX0.trans hx1
  clear q0 q1 q2 q3 q4 q5
  obtain ⟨q0, q1, q2, q3, q4, q5⟩ := (hB0.ext hx1).c6
  cases hok : okS y
  · have E1 := hide (show overV y = false by unfold overV; rw [hok]; rfl)
    have E2 := hide (show selC y = 1 by unfold selC; rw [hok]; rfl)
    go_wp2
    go_ret2
    exact ⟨by rw [E1.out, E2.out]; rfl, hX1⟩
  · have E1 := hide (show overV y = ((x.q == 2) || (y.s.getD 0 0 + y.s.getD 1 0 == 0)) by unfold overV overB; rw [hok, hr.2.2.2.2]; rfl)
    have E2 := hide (show selC y = 0 by unfold selC; rw [hok]; rfl)
    obtain ⟨h2, ha, hb⟩ := okS_two (hr.ext hX1) hok
    go_wp2_with fail
    refine (impl.over_any x _ _ _ h2 ha hb).mono ?_
    rintro e w2 ⟨rfl, hx2⟩
    go_wp2
    go_ret2
    exact ⟨by rw [E1.out, E2.out]; rfl, hX1.trans hx2⟩
set_option maxHeartbeats 1000000 in
theorem impl.MostReached_any (x : SelA) (y : SelL) (w : World) (hr : RdS w x y) :
    Calls Try.prog 46 #[.agg #[.slice x.p.x.A x.p.x.n x.p.x.c, .slice x.p.y.A x.p.y.n x.p.y.c, .slice x.p.z.A x.p.z.n x.p.z.c, .slice x.s.A x.s.n x.s.c, .int .i64 x.t, .int .i64 x.q]] w fun e w' => e = .returned (.tuple #[.int .i64 (reachV y), .int .i64 (selC y)]) ∧ Ext w w' := by
  have hX0 := (Ext.refl w).alloc (.cells #[.slice x.p.x.A x.p.x.n x.p.x.c, .slice x.p.y.A x.p.y.n x.p.y.c, .slice x.p.z.A x.p.z.n x.p.z.c, .slice x.s.A x.s.n x.s.c, .int .i64 x.t, .int .i64 x.q] 51)
  have hB0 := Blk.new w 51 (#[.slice x.p.x.A x.p.x.n x.p.x.c, .slice x.p.y.A x.p.y.n x.p.y.c, .slice x.p.z.A x.p.z.n x.p.z.c, .slice x.s.A x.s.n x.s.c, .int .i64 x.t, .int .i64 x.q])
  obtain ⟨q0, q1, q2, q3, q4, q5⟩ := hB0.c6
  go_enter Try.func46, Try.ntmps46
  go_wp2_with fail
  refine (impl.IsSelection_any x y _ (hr.ext hX0)).mono ?_
  rintro e w1 ⟨rfl, hx1⟩
  have hX1 := hX0.trans hx1
  clear q0 q1 q2 q3 q4 q5
  have hB1 := hB0.ext hx1
  obtain ⟨q0, q1, q2, q3, q4, q5⟩ := hB1.c6
  cases hok : okS y
  · have E1 := hide (show reachV y = 0 by unfold reachV; rw [hok]; rfl)
    have E2 := hide (show selC y = 1 by unfold selC; rw [hok]; rfl)
    go_wp2
    go_ret2
    exact ⟨by rw [E1.out, E2.out]; rfl, hX1⟩
  · have E2 := hide (show selC y = 0 by unfold selC; rw [hok]; rfl)
    have hq := hr.2.2.2.2
    obtain ⟨h2, ha, hb⟩ := okS_two (hr.ext hX1) hok
    have hv := impl.over_any x _ _ w1 h2 ha hb
    have hob : overB y = ((x.q == 2) || (y.s.getD 0 0 + y.s.getD 1 0 == 0)) := by unfold overB; rw [hq]
    rw [← hob] at hv
    clear hob hq
    cases ho : overB y
    · have E1 := hide (show reachV y = min (y.s.getD 0 0 + y.s.getD 1 0) (x.p.y.n : Int) by unfold reachV; rw [hok, ho, hr.1.2.1.1]; rfl)
      rw [ho] at hv
      clear ho
      revert E1 h2 ha hb
      generalize y.s.getD 0 0 = a
      generalize y.s.getD 1 0 = b
      intro h2 ha hb E1
      have ly := hr.1.2.1.le
      go_wp2_with fail
      refine hv.mono ?_
      rintro e w2 ⟨rfl, hx2⟩
      have hX2 := hX1.trans hx2
      clear q0 q1 q2 q3 q4 q5
      have hB2 := hB1.ext hx2
      obtain ⟨q0, q1, q2, q3, q4, q5⟩ := hB2.c6
      obtain ⟨⟨px, py, pz⟩, ⟨As, ns, cs⟩, t, q⟩ := x
      obtain ⟨hn, k, off, hA, hc0, hc1⟩ := h2
      simp only at hn hA
      subst hn hA
      have hbl := World.block_lt_of_cell? _ _ hc0
      simp only at hbl
      have r0 := (hx2.cell (p := ⟨k, off, none⟩) hbl).trans hc0
      have r1 := (hx2.cell (p := ⟨k, off + 1, none⟩) hbl).trans hc1
      have h2' : Two w2 ⟨some ⟨k, off, none⟩, 2, cs⟩ a b := ⟨rfl, k, off, rfl, r0, r1⟩
      go_wp2_with fail
      go_region_with ((go_at_call 108; refine (impl.sum_two ⟨some ⟨k, off, none⟩, 2, cs⟩ a b w2.drew h2' ha hb).mono ?_; rintro e w' ⟨rfl, rfl⟩))
      all_goals go_wp2
      all_goals go_ret2
      all_goals exact ⟨by rw [E1.out, E2.out]; first | (rw [show min (a + b) (py.n : Int) = a + b by omega]; rfl) | (rw [show min (a + b) (py.n : Int) = py.n by omega]; rfl), by first | exact hX2 | exact hX2.drewN _ | exact hX2.drew⟩
    · have E1 := hide (show reachV y = 0 by unfold reachV; rw [ho]; simp)
      rw [ho] at hv
      clear ho
      go_wp2_with fail
      refine hv.mono ?_
      rintro e w2 ⟨rfl, hx2⟩
      clear q0 q1 q2 q3 q4 q5
      obtain ⟨q0, q1, q2, q3, q4, q5⟩ := (hB1.ext hx2).c6
      go_wp2
      go_ret2
      exact ⟨by rw [E1.out, E2.out]; rfl, hX1.trans hx2⟩
set_option maxHeartbeats 1000000 in
theorem spec.StrikesLeft_any (x : SelA) (y : SelL) (w : World) (hr : RdS w x y) :
    Calls Try.prog 45 #[.agg #[.slice x.p.x.A x.p.x.n x.p.x.c, .slice x.p.y.A x.p.y.n x.p.y.c, .slice x.p.z.A x.p.z.n x.p.z.c, .slice x.s.A x.s.n x.s.c, .int .i64 x.t, .int .i64 x.q]] w fun e w' => e = .returned (.tuple #[.int .i64 (leftV y), .int .i64 (selC y)]) ∧ Ext w w' := by
  have hX0 := (Ext.refl w).alloc (.cells #[.slice x.p.x.A x.p.x.n x.p.x.c, .slice x.p.y.A x.p.y.n x.p.y.c, .slice x.p.z.A x.p.z.n x.p.z.c, .slice x.s.A x.s.n x.s.c, .int .i64 x.t, .int .i64 x.q] 51)
  have hB0 := Blk.new w 51 (#[.slice x.p.x.A x.p.x.n x.p.x.c, .slice x.p.y.A x.p.y.n x.p.y.c, .slice x.p.z.A x.p.z.n x.p.z.c, .slice x.s.A x.s.n x.s.c, .int .i64 x.t, .int .i64 x.q])
  obtain ⟨q0, q1, q2, q3, q4, q5⟩ := hB0.c6
  go_enter Try.func45, Try.ntmps45
  go_wp2_with fail
  refine (spec.IsSelection_any x y _ (hr.ext hX0)).mono ?_
  rintro e w1 ⟨rfl, hx1⟩
  have hX1 := hX0.trans hx1
  clear q0 q1 q2 q3 q4 q5
  obtain ⟨q0, q1, q2, q3, q4, q5⟩ := (hB0.ext hx1).c6
  cases hok : okS y
  · have E1 := hide (show leftV y = 0 by unfold leftV; rw [hok]; rfl)
    have E2 := hide (show selC y = 1 by unfold selC; rw [hok]; rfl)
    go_wp2
    go_ret2
    exact ⟨by rw [E1.out, E2.out]; rfl, hX1⟩
  · have E1 := hide (show leftV y = y.s.getD 0 0 + y.s.getD 1 0 by unfold leftV; rw [hok]; rfl)
    have E2 := hide (show selC y = 0 by unfold selC; rw [hok]; rfl)
    obtain ⟨h2, ha, hb⟩ := okS_two (hr.ext hX1) hok
    revert E1 h2 ha hb
    generalize y.s.getD 0 0 = a
    generalize y.s.getD 1 0 = b
    intro E1 h2 ha hb
    obtain ⟨p, ⟨As, ns, cs⟩, t, q⟩ := x
    have h2' := h2
    obtain ⟨hn, k, off, hA, hc0, hc1⟩ := h2
    simp only at hn hA
    subst hn hA
    go_wp2
    go_quiet (fail)
    go_wp2
    go_ret2
    exact ⟨by rw [E1.out, E2.out]; first | rfl | go_num, hX1.drewN _⟩
set_option maxHeartbeats 1000000 in
theorem spec.IsOver_any (x : SelA) (y : SelL) (w : World) (hr : RdS w x y) :
    Calls Try.prog 43 #[.agg #[.slice x.p.x.A x.p.x.n x.p.x.c, .slice x.p.y.A x.p.y.n x.p.y.c, .slice x.p.z.A x.p.z.n x.p.z.c, .slice x.s.A x.s.n x.s.c, .int .i64 x.t, .int .i64 x.q]] w fun e w' => e = .returned (.tuple #[.bool (overV y), .int .i64 (selC y)]) ∧ Ext w w' := by
  have hX0 := (Ext.refl w).alloc (.cells #[.slice x.p.x.A x.p.x.n x.p.x.c, .slice x.p.y.A x.p.y.n x.p.y.c, .slice x.p.z.A x.p.z.n x.p.z.c, .slice x.s.A x.s.n x.s.c, .int .i64 x.t, .int .i64 x.q] 51)
  have hB0 := Blk.new w 51 (#[.slice x.p.x.A x.p.x.n x.p.x.c, .slice x.p.y.A x.p.y.n x.p.y.c, .slice x.p.z.A x.p.z.n x.p.z.c, .slice x.s.A x.s.n x.s.c, .int .i64 x.t, .int .i64 x.q])
  obtain ⟨q0, q1, q2, q3, q4, q5⟩ := hB0.c6
  go_enter Try.func43, Try.ntmps43
  go_wp2_with fail
  refine (spec.IsSelection_any x y _ (hr.ext hX0)).mono ?_
  rintro e w1 ⟨rfl, hx1⟩
  have hX1 := hX0.trans hx1
  clear q0 q1 q2 q3 q4 q5
  obtain ⟨q0, q1, q2, q3, q4, q5⟩ := (hB0.ext hx1).c6
  cases hok : okS y
  · have E1 := hide (show overV y = false by unfold overV; rw [hok]; rfl)
    have E2 := hide (show selC y = 1 by unfold selC; rw [hok]; rfl)
    go_wp2
    go_ret2
    exact ⟨by rw [E1.out, E2.out]; rfl, hX1⟩
  · have E1 := hide (show overV y = ((x.q == 2) || (y.s.getD 0 0 + y.s.getD 1 0 == 0)) by unfold overV overB; rw [hok, hr.2.2.2.2]; rfl)
    have E2 := hide (show selC y = 0 by unfold selC; rw [hok]; rfl)
    obtain ⟨h2, ha, hb⟩ := okS_two (hr.ext hX1) hok
    go_wp2_with fail
    refine (spec.l14Over_any x _ _ _ h2 ha hb).mono ?_
    rintro e w2 ⟨rfl, hx2⟩
    go_wp2
    go_ret2
    exact ⟨by rw [E1.out, E2.out]; rfl, hX1.trans hx2⟩
set_option maxHeartbeats 1000000 in
theorem spec.MostReached_any (x : SelA) (y : SelL) (w : World) (hr : RdS w x y) :
    Calls Try.prog 47 #[.agg #[.slice x.p.x.A x.p.x.n x.p.x.c, .slice x.p.y.A x.p.y.n x.p.y.c, .slice x.p.z.A x.p.z.n x.p.z.c, .slice x.s.A x.s.n x.s.c, .int .i64 x.t, .int .i64 x.q]] w fun e w' => e = .returned (.tuple #[.int .i64 (reachV y), .int .i64 (selC y)]) ∧ Ext w w' := by
  have hX0 := (Ext.refl w).alloc (.cells #[.slice x.p.x.A x.p.x.n x.p.x.c, .slice x.p.y.A x.p.y.n x.p.y.c, .slice x.p.z.A x.p.z.n x.p.z.c, .slice x.s.A x.s.n x.s.c, .int .i64 x.t, .int .i64 x.q] 51)
  have hB0 := Blk.new w 51 (#[.slice x.p.x.A x.p.x.n x.p.x.c, .slice x.p.y.A x.p.y.n x.p.y.c, .slice x.p.z.A x.p.z.n x.p.z.c, .slice x.s.A x.s.n x.s.c, .int .i64 x.t, .int .i64 x.q])
  obtain ⟨q0, q1, q2, q3, q4, q5⟩ := hB0.c6
  go_enter Try.func47, Try.ntmps47
  go_wp2_with fail
  refine (spec.IsSelection_any x y _ (hr.ext hX0)).mono ?_
  rintro e w1 ⟨rfl, hx1⟩
  have hX1 := hX0.trans hx1
  clear q0 q1 q2 q3 q4 q5
  have hB1 := hB0.ext hx1
  obtain ⟨q0, q1, q2, q3, q4, q5⟩ := hB1.c6
  cases hok : okS y
  · have E1 := hide (show reachV y = 0 by unfold reachV; rw [hok]; rfl)
    have E2 := hide (show selC y = 1 by unfold selC; rw [hok]; rfl)
    go_wp2
    go_ret2
    exact ⟨by rw [E1.out, E2.out]; rfl, hX1⟩
  · have E2 := hide (show selC y = 0 by unfold selC; rw [hok]; rfl)
    have hq := hr.2.2.2.2
    obtain ⟨h2, ha, hb⟩ := okS_two (hr.ext hX1) hok
    have hv := spec.l14Over_any x _ _ w1 h2 ha hb
    have hob : overB y = ((x.q == 2) || (y.s.getD 0 0 + y.s.getD 1 0 == 0)) := by unfold overB; rw [hq]
    rw [← hob] at hv
    clear hob hq
    cases ho : overB y
    · have E1 := hide (show reachV y = min (y.s.getD 0 0 + y.s.getD 1 0) (x.p.y.n : Int) by unfold reachV; rw [hok, ho, hr.1.2.1.1]; rfl)
      rw [ho] at hv
      clear ho
      revert E1 h2 ha hb
      generalize y.s.getD 0 0 = a
      generalize y.s.getD 1 0 = b
      intro h2 ha hb E1
      have ly := hr.1.2.1.le
      go_wp2_with fail
      refine hv.mono ?_
      rintro e w2 ⟨rfl, hx2⟩
      have hX2 := hX1.trans hx2
      clear q0 q1 q2 q3 q4 q5
      have hB2 := hB1.ext hx2
      obtain ⟨q0, q1, q2, q3, q4, q5⟩ := hB2.c6
      obtain ⟨⟨px, py, pz⟩, ⟨As, ns, cs⟩, t, q⟩ := x
      obtain ⟨hn, k, off, hA, hc0, hc1⟩ := h2
      simp only at hn hA
      subst hn hA
      have hbl := World.block_lt_of_cell? _ _ hc0
      simp only at hbl
      have r0 := (hx2.cell (p := ⟨k, off, none⟩) hbl).trans hc0
      have r1 := (hx2.cell (p := ⟨k, off + 1, none⟩) hbl).trans hc1
      have h2' : Two w2 ⟨some ⟨k, off, none⟩, 2, cs⟩ a b := ⟨rfl, k, off, rfl, r0, r1⟩
      go_wp2
      go_region
      all_goals go_wp2
      all_goals go_ret2
      all_goals exact ⟨by rw [E1.out, E2.out]; first | (rw [show min (a + b) (py.n : Int) = a + b by omega]; rfl) | (rw [show min (a + b) (py.n : Int) = py.n by omega]; rfl), by first | exact hX2 | exact hX2.drewN _ | exact hX2.drew⟩
    · have E1 := hide (show reachV y = 0 by unfold reachV; rw [ho]; simp)
      rw [ho] at hv
      clear ho
      go_wp2_with fail
      refine hv.mono ?_
      rintro e w2 ⟨rfl, hx2⟩
      clear q0 q1 q2 q3 q4 q5
      obtain ⟨q0, q1, q2, q3, q4, q5⟩ := (hB1.ext hx2).c6
      go_wp2
      go_ret2
      exact ⟨by rw [E1.out, E2.out]; rfl, hX1.trans hx2⟩
end Go.Proofs.Ytkfjphjmffbpiaa.mem
