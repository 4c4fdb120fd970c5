/-
  Contracts of both programs' PassTurn.
-/
import Derived.Test.YtkfjphjmffbpiaaPass
namespace Go.Proofs.Ytkfjphjmffbpiaa.mem
open Go.ChangeShapes Go.WideShapes Go.ChangeAt Go.RowKit

def ptV (y : SelL) : SelL := if okS y = true then passV y else ⟨⟨[], [], []⟩, [], 0, 0⟩
def ptC (y : SelL) : Int := if okS y = true then passC y else 1

theorem OwnS.off {w : World} {lo : Nat} {x : SelA} {y : SelL} (h : OwnS w lo x y) (b i : Nat) (hb : b < lo) (u : Value) : OwnS (w.setCell ⟨b, i, none⟩ u) lo x y :=
  ⟨h.1.off b i hb u, h.2.1.off b i hb u, h.2.2⟩
theorem OwnS.mono {w : World} {lo lo' : Nat} {x : SelA} {y : SelL} (h : OwnS w lo x y) (hl : lo' ≤ lo) : OwnS w lo' x y := ⟨h.1.mono hl, h.2.1.mono hl, h.2.2⟩
set_option maxHeartbeats 1000000 in
theorem spec.l14Code_any (x : SelA) (y : SelL) (w : World) (hr : RdS w x y) :
    Calls Try.prog 104 #[.agg #[.slice x.p.x.A x.p.x.n x.p.x.c, .slice x.p.y.A x.p.y.n x.p.y.c, .slice x.p.z.A x.p.z.n x.p.z.c, .slice x.s.A x.s.n x.s.c, .int .i64 x.t, .int .i64 x.q]] w fun e w' => e = .returned (.int .i64 (ptC y)) ∧ Ext w w' := by
  have hX0 := (Ext.refl w).alloc (.cells #[.slice x.p.x.A x.p.x.n x.p.x.c, .slice x.p.y.A x.p.y.n x.p.y.c, .slice x.p.z.A x.p.z.n x.p.z.c, .slice x.s.A x.s.n x.s.c, .int .i64 x.t, .int .i64 x.q] 51)
  have hB0 := Blk.new w 51 (#[.slice x.p.x.A x.p.x.n x.p.x.c, .slice x.p.y.A x.p.y.n x.p.y.c, .slice x.p.z.A x.p.z.n x.p.z.c, .slice x.s.A x.s.n x.s.c, .int .i64 x.t, .int .i64 x.q])
  obtain ⟨q0, q1, q2, q3, q4, q5⟩ := hB0.c6
  go_enter Try.func104, Try.ntmps104
  go_wp2_with fail
  refine (spec.IsSelection_any x y _ (hr.ext hX0)).mono ?_
  rintro e w1 ⟨rfl, hx1⟩
  have hX1 := hX0.trans hx1
  clear q0 q1 q2 q3 q4 q5
  obtain ⟨q0, q1, q2, q3, q4, q5⟩ := (hB0.ext hx1).c6
  cases hok : okS y
  · have E1 := hide (show ptC y = 1 by unfold ptC; rw [hok]; rfl)
    go_wp2
    go_ret
    exact ⟨by rw [E1.out]; rfl, hX1⟩
  · obtain ⟨h2, ha, hb⟩ := okS_two (hr.ext hX1) hok
    have hv := spec.l14Over_any x _ _ w1 h2 ha hb
    have hob : ((x.q == 2) || (y.s.getD 0 0 + y.s.getD 1 0 == 0)) = overB y := by unfold overB; rw [hr.2.2.2.2]
    rw [hob] at hv
    clear hob h2 ha hb
    cases hov : overB y
    · have E1 := hide (show ptC y = 0 by unfold ptC passC; rw [hok, hov]; rfl)
      rw [hov] at hv
      go_wp2_with fail
      refine hv.mono ?_
      rintro e w2 ⟨rfl, hx2⟩
      go_wp2
      go_ret
      exact ⟨by rw [E1.out]; rfl, hX1.trans hx2⟩
    · have E1 := hide (show ptC y = 5 by unfold ptC passC; rw [hok, hov]; rfl)
      rw [hov] at hv
      go_wp2_with fail
      refine hv.mono ?_
      rintro e w2 ⟨rfl, hx2⟩
      go_wp2
      go_ret
      exact ⟨by rw [E1.out]; rfl, hX1.trans hx2⟩
set_option maxHeartbeats 4000000 in
theorem impl.PassTurn_any (x : SelA) (y : SelL) (w : World) (hr : RdS w x y) :
    Calls Try.prog 40 #[.agg #[.slice x.p.x.A x.p.x.n x.p.x.c, .slice x.p.y.A x.p.y.n x.p.y.c, .slice x.p.z.A x.p.z.n x.p.z.c, .slice x.s.A x.s.n x.s.c, .int .i64 x.t, .int .i64 x.q]] w fun e w' => ∃ x' : SelA, e = .returned (.tuple #[.agg #[.slice x'.p.x.A x'.p.x.n x'.p.x.c, .slice x'.p.y.A x'.p.y.n x'.p.y.c, .slice x'.p.z.A x'.p.z.n x'.p.z.c, .slice x'.s.A x'.s.n x'.s.c, .int .i64 x'.t, .int .i64 x'.q], .int .i64 (ptC y)]) ∧ OwnS w' w.heap.size x' (ptV y) ∧ Ext w w' := by
  have hX0 := ((Ext.refl w).alloc (.cells #[.slice x.p.x.A x.p.x.n x.p.x.c, .slice x.p.y.A x.p.y.n x.p.y.c, .slice x.p.z.A x.p.z.n x.p.z.c, .slice x.s.A x.s.n x.s.c, .int .i64 x.t, .int .i64 x.q] 51)).alloc (.cells #[.slice none 0 0, .slice none 0 0, .slice none 0 0, .slice none 0 0, .int .i64 0, .int .i64 0] 51)
  have hB0 := (Blk.new w 51 (#[.slice x.p.x.A x.p.x.n x.p.x.c, .slice x.p.y.A x.p.y.n x.p.y.c, .slice x.p.z.A x.p.z.n x.p.z.c, .slice x.s.A x.s.n x.s.c, .int .i64 x.t, .int .i64 x.q])).alloc (.cells #[.slice none 0 0, .slice none 0 0, .slice none 0 0, .slice none 0 0, .int .i64 0, .int .i64 0] 51)
  have hR0 := Blk.new (w.alloc (.cells #[.slice x.p.x.A x.p.x.n x.p.x.c, .slice x.p.y.A x.p.y.n x.p.y.c, .slice x.p.z.A x.p.z.n x.p.z.c, .slice x.s.A x.s.n x.s.c, .int .i64 x.t, .int .i64 x.q] 51)) 51 (#[.slice none 0 0, .slice none 0 0, .slice none 0 0, .slice none 0 0, .int .i64 0, .int .i64 0])
  rw [World.size_alloc] at hR0
  obtain ⟨q0, q1, q2, q3, q4, q5⟩ := hB0.c6
  go_enter Try.func40, Try.ntmps40
  go_wp2_with fail
  refine (impl.IsSelection_any x y _ (hr.ext hX0)).mono ?_
  rintro e w1 ⟨rfl, hx1⟩
  have hX1 := hX0.trans hx1
  have hR1 := hR0.ext hx1
  have hz1 : w.heap.size + 1 + 1 ≤ w1.heap.size := by have := hx1.size; simpa using this
  clear q0 q1 q2 q3 q4 q5
  obtain ⟨q0, q1, q2, q3, q4, q5⟩ := (hB0.ext hx1).c6
  cases hok : okS y
  · have E1 := hide (show ptV y = ⟨⟨[], [], []⟩, [], 0, 0⟩ by unfold ptV; rw [hok]; rfl)
    have E2 := hide (show ptC y = 1 by unfold ptC; rw [hok]; rfl)
    obtain ⟨r0, r1, r2, r3, r4, r5⟩ := hR1.c6
    have y0 := hR1.frozen 0
    have y1 := hR1.frozen 1
    have y2 := hR1.frozen 2
    have y3 := hR1.frozen 3
    have y4 := hR1.frozen 4
    have y5 := hR1.frozen 5
    have hRn := (((((hR1.set_ 0 (.slice none 0 0)).set_ 1 (.slice none 0 0)).set_ 2 (.slice none 0 0)).set_ 3 (.slice none 0 0)).set_ 4 (.int .i64 0)).set_ 5 (.int .i64 0)
    obtain ⟨n0, n1, n2, n3, n4, n5⟩ := hRn.c6
    go_wp2
    refine bodyPost_ret (v := .tuple #[.agg #[.slice nilS.p.x.A nilS.p.x.n nilS.p.x.c, .slice nilS.p.y.A nilS.p.y.n nilS.p.y.c, .slice nilS.p.z.A nilS.p.z.n nilS.p.z.c, .slice nilS.s.A nilS.s.n nilS.s.c, .int .i64 nilS.t, .int .i64 nilS.q], .int .i64 1]) (by simp [results, Try.results40, go_sem, n0, n1, n2, n3, n4, n5, nilS, nil3]) rfl ⟨nilS, by rw [E2.out], by rw [E1.out]; exact OwnS.nil _ _, ?_⟩
    exact (((((hX1.off (w.heap.size + 1) 0 (by omega) _).off _ 1 (by omega) _).off _ 2 (by omega) _).off _ 3 (by omega) _).off _ 4 (by omega) _).off _ 5 (by omega) _
  · have E1 := hide (show ptV y = passV y by unfold ptV; rw [hok]; rfl)
    have E2 := hide (show ptC y = passC y by unfold ptC; rw [hok]; rfl)
    go_wp2_with fail
    refine (impl.pass_any x y _ (hr.ext hX1) hok).mono ?_
    rintro e w2 ⟨z, rfl, oz, hx2⟩
    have hX2 := hX1.trans hx2
    have hR2 := hR1.ext hx2
    have hz2 := hx2.size
    obtain ⟨r0, r1, r2, r3, r4, r5⟩ := hR2.c6
    have y0 := hR2.frozen 0
    have y1 := hR2.frozen 1
    have y2 := hR2.frozen 2
    have y3 := hR2.frozen 3
    have y4 := hR2.frozen 4
    have y5 := hR2.frozen 5
    have hRn := (((((hR2.set_ 0 (.slice z.p.x.A z.p.x.n z.p.x.c)).set_ 1 (.slice z.p.y.A z.p.y.n z.p.y.c)).set_ 2 (.slice z.p.z.A z.p.z.n z.p.z.c)).set_ 3 (.slice z.s.A z.s.n z.s.c)).set_ 4 (.int .i64 z.t)).set_ 5 (.int .i64 z.q)
    obtain ⟨n0, n1, n2, n3, n4, n5⟩ := hRn.c6
    go_wp2
    refine bodyPost_ret (v := .tuple #[.agg #[.slice z.p.x.A z.p.x.n z.p.x.c, .slice z.p.y.A z.p.y.n z.p.y.c, .slice z.p.z.A z.p.z.n z.p.z.c, .slice z.s.A z.s.n z.s.c, .int .i64 z.t, .int .i64 z.q], .int .i64 (passC y)]) (by simp [results, Try.results40, go_sem, n0, n1, n2, n3, n4, n5]) rfl ⟨z, by rw [E2.out], by rw [E1.out]; refine OwnS.mono (((((((oz.off _ 0 (by omega) _).off _ 1 (by omega) _).off _ 2 (by omega) _).off _ 3 (by omega) _).off _ 4 (by omega) _).off _ 5 (by omega) _)) (by omega), ?_⟩
    exact (((((hX2.off (w.heap.size + 1) 0 (by omega) _).off _ 1 (by omega) _).off _ 2 (by omega) _).off _ 3 (by omega) _).off _ 4 (by omega) _).off _ 5 (by omega) _
set_option maxHeartbeats 4000000 in
theorem spec.PassTurn_any (x : SelA) (y : SelL) (w : World) (hr : RdS w x y) :
    Calls Try.prog 41 #[.agg #[.slice x.p.x.A x.p.x.n x.p.x.c, .slice x.p.y.A x.p.y.n x.p.y.c, .slice x.p.z.A x.p.z.n x.p.z.c, .slice x.s.A x.s.n x.s.c, .int .i64 x.t, .int .i64 x.q]] w fun e w' => ∃ x' : SelA, e = .returned (.tuple #[.agg #[.slice x'.p.x.A x'.p.x.n x'.p.x.c, .slice x'.p.y.A x'.p.y.n x'.p.y.c, .slice x'.p.z.A x'.p.z.n x'.p.z.c, .slice x'.s.A x'.s.n x'.s.c, .int .i64 x'.t, .int .i64 x'.q], .int .i64 (ptC y)]) ∧ OwnS w' w.heap.size x' (ptV y) ∧ Ext w w' := by
  have hX0 := ((Ext.refl w).alloc (.cells #[.slice x.p.x.A x.p.x.n x.p.x.c, .slice x.p.y.A x.p.y.n x.p.y.c, .slice x.p.z.A x.p.z.n x.p.z.c, .slice x.s.A x.s.n x.s.c, .int .i64 x.t, .int .i64 x.q] 51)).alloc (.cells #[.slice none 0 0, .slice none 0 0, .slice none 0 0, .slice none 0 0, .int .i64 0, .int .i64 0] 51)
  have hB0 := (Blk.new w 51 (#[.slice x.p.x.A x.p.x.n x.p.x.c, .slice x.p.y.A x.p.y.n x.p.y.c, .slice x.p.z.A x.p.z.n x.p.z.c, .slice x.s.A x.s.n x.s.c, .int .i64 x.t, .int .i64 x.q])).alloc (.cells #[.slice none 0 0, .slice none 0 0, .slice none 0 0, .slice none 0 0, .int .i64 0, .int .i64 0] 51)
  have hR0 := Blk.new (w.alloc (.cells #[.slice x.p.x.A x.p.x.n x.p.x.c, .slice x.p.y.A x.p.y.n x.p.y.c, .slice x.p.z.A x.p.z.n x.p.z.c, .slice x.s.A x.s.n x.s.c, .int .i64 x.t, .int .i64 x.q] 51)) 51 (#[.slice none 0 0, .slice none 0 0, .slice none 0 0, .slice none 0 0, .int .i64 0, .int .i64 0])
  rw [World.size_alloc] at hR0
  obtain ⟨q0, q1, q2, q3, q4, q5⟩ := hB0.c6
  have hc := spec.l14Code_any x y _ (hr.ext hX0)
  cases hok : okS y
  · have E1 := hide (show ptV y = ⟨⟨[], [], []⟩, [], 0, 0⟩ by unfold ptV; rw [hok]; rfl)
    have E2 := hide (show ptC y = 1 by unfold ptC; rw [hok]; rfl)
    rw [E2.out] at hc
    go_enter Try.func41, Try.ntmps41
    go_wp2_with fail
    refine hc.mono ?_
    rintro e w1 ⟨rfl, hx1⟩
    have hX1 := hX0.trans hx1
    have hR1 := hR0.ext hx1
    obtain ⟨r0, r1, r2, r3, r4, r5⟩ := hR1.c6
    have y0 := hR1.frozen 0
    have y1 := hR1.frozen 1
    have y2 := hR1.frozen 2
    have y3 := hR1.frozen 3
    have y4 := hR1.frozen 4
    have y5 := hR1.frozen 5
    have hRn := (((((hR1.set_ 0 (.slice none 0 0)).set_ 1 (.slice none 0 0)).set_ 2 (.slice none 0 0)).set_ 3 (.slice none 0 0)).set_ 4 (.int .i64 0)).set_ 5 (.int .i64 0)
    obtain ⟨n0, n1, n2, n3, n4, n5⟩ := hRn.c6
    go_wp2
    refine bodyPost_ret (v := .tuple #[.agg #[.slice nilS.p.x.A nilS.p.x.n nilS.p.x.c, .slice nilS.p.y.A nilS.p.y.n nilS.p.y.c, .slice nilS.p.z.A nilS.p.z.n nilS.p.z.c, .slice nilS.s.A nilS.s.n nilS.s.c, .int .i64 nilS.t, .int .i64 nilS.q], .int .i64 1]) (by simp [results, Try.results41, go_sem, n0, n1, n2, n3, n4, n5, nilS, nil3]) rfl ⟨nilS, by rw [E2.out], by rw [E1.out]; exact OwnS.nil _ _, ?_⟩
    exact (((((hX1.off (w.heap.size + 1) 0 (by omega) _).off _ 1 (by omega) _).off _ 2 (by omega) _).off _ 3 (by omega) _).off _ 4 (by omega) _).off _ 5 (by omega) _
  cases hov : overB y
  · have E1 := hide (show ptV y = passL y by unfold ptV passV; rw [hok, hov]; rfl)
    have E2 := hide (show ptC y = 0 by unfold ptC passC; rw [hok, hov]; rfl)
    rw [E2.out] at hc
    go_enter Try.func41, Try.ntmps41
    go_wp2_with fail
    refine hc.mono ?_
    rintro e w1 ⟨rfl, hx1⟩
    have hX1 := hX0.trans hx1
    have hR1 := hR0.ext hx1
    have hz1 : w.heap.size + 1 + 1 ≤ w1.heap.size := by have := hx1.size; simpa using this
    clear q0 q1 q2 q3 q4 q5
    obtain ⟨q0, q1, q2, q3, q4, q5⟩ := (hB0.ext hx1).c6
    go_wp2_with fail
    refine (spec.l14Pass_any x y _ (hr.ext hX1) hok).mono ?_
    rintro e w2 ⟨z, rfl, oz, hx2⟩
    have hX2 := hX1.trans hx2
    have hR2 := hR1.ext hx2
    have hz2 := hx2.size
    obtain ⟨r0, r1, r2, r3, r4, r5⟩ := hR2.c6
    have y0 := hR2.frozen 0
    have y1 := hR2.frozen 1
    have y2 := hR2.frozen 2
    have y3 := hR2.frozen 3
    have y4 := hR2.frozen 4
    have y5 := hR2.frozen 5
    have hRn := (((((hR2.set_ 0 (.slice z.p.x.A z.p.x.n z.p.x.c)).set_ 1 (.slice z.p.y.A z.p.y.n z.p.y.c)).set_ 2 (.slice z.p.z.A z.p.z.n z.p.z.c)).set_ 3 (.slice z.s.A z.s.n z.s.c)).set_ 4 (.int .i64 z.t)).set_ 5 (.int .i64 z.q)
    obtain ⟨n0, n1, n2, n3, n4, n5⟩ := hRn.c6
    go_wp2
    refine bodyPost_ret (v := .tuple #[.agg #[.slice z.p.x.A z.p.x.n z.p.x.c, .slice z.p.y.A z.p.y.n z.p.y.c, .slice z.p.z.A z.p.z.n z.p.z.c, .slice z.s.A z.s.n z.s.c, .int .i64 z.t, .int .i64 z.q], .int .i64 0]) (by simp [results, Try.results41, go_sem, n0, n1, n2, n3, n4, n5]) rfl ⟨z, by rw [E2.out], by rw [E1.out]; refine OwnS.mono (((((((oz.off _ 0 (by omega) _).off _ 1 (by omega) _).off _ 2 (by omega) _).off _ 3 (by omega) _).off _ 4 (by omega) _).off _ 5 (by omega) _)) (by omega), ?_⟩
    exact (((((hX2.off (w.heap.size + 1) 0 (by omega) _).off _ 1 (by omega) _).off _ 2 (by omega) _).off _ 3 (by omega) _).off _ 4 (by omega) _).off _ 5 (by omega) _
  · have E1 := hide (show ptV y = ⟨⟨[], [], []⟩, [], 0, 0⟩ by unfold ptV passV; rw [hok, hov]; rfl)
    have E2 := hide (show ptC y = 5 by unfold ptC passC; rw [hok, hov]; rfl)
    rw [E2.out] at hc
    go_enter Try.func41, Try.ntmps41
    go_wp2_with fail
    refine hc.mono ?_
    rintro e w1 ⟨rfl, hx1⟩
    have hX1 := hX0.trans hx1
    have hR1 := hR0.ext hx1
    obtain ⟨r0, r1, r2, r3, r4, r5⟩ := hR1.c6
    have y0 := hR1.frozen 0
    have y1 := hR1.frozen 1
    have y2 := hR1.frozen 2
    have y3 := hR1.frozen 3
    have y4 := hR1.frozen 4
    have y5 := hR1.frozen 5
    have hRn := (((((hR1.set_ 0 (.slice none 0 0)).set_ 1 (.slice none 0 0)).set_ 2 (.slice none 0 0)).set_ 3 (.slice none 0 0)).set_ 4 (.int .i64 0)).set_ 5 (.int .i64 0)
    obtain ⟨n0, n1, n2, n3, n4, n5⟩ := hRn.c6
    go_wp2
    refine bodyPost_ret (v := .tuple #[.agg #[.slice nilS.p.x.A nilS.p.x.n nilS.p.x.c, .slice nilS.p.y.A nilS.p.y.n nilS.p.y.c, .slice nilS.p.z.A nilS.p.z.n nilS.p.z.c, .slice nilS.s.A nilS.s.n nilS.s.c, .int .i64 nilS.t, .int .i64 nilS.q], .int .i64 5]) (by simp [results, Try.results41, go_sem, n0, n1, n2, n3, n4, n5, nilS, nil3]) rfl ⟨nilS, by rw [E2.out], by rw [E1.out]; exact OwnS.nil _ _, ?_⟩
    exact (((((hX1.off (w.heap.size + 1) 0 (by omega) _).off _ 1 (by omega) _).off _ 2 (by omega) _).off _ 3 (by omega) _).off _ 4 (by omega) _).off _ 5 (by omega) _
end Go.Proofs.Ytkfjphjmffbpiaa.mem
