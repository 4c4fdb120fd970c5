/-
  The contract of the reference's move: a strike or a pass.
-/
import Derived.Test.YtkfjphjmffbpiaaPlay
namespace Go.Proofs.Ytkfjphjmffbpiaa.mem
open Go.ChangeShapes Go.WideShapes Go.ChangeAt Go.RowKit

set_option maxHeartbeats 4000000 in
theorem spec.l14Move_any (x : SelA) (y : SelL) (m : Int) (w : World) (hr : RdS w x y) (hok : okS y = true) :
    Calls Try.prog 102 #[.agg #[.slice x.p.x.A x.p.x.n x.p.x.c, .slice x.p.y.A x.p.y.n x.p.y.c, .slice x.p.z.A x.p.z.n x.p.z.c, .slice x.s.A x.s.n x.s.c, .int .i64 x.t, .int .i64 x.q], .int .i64 m] w fun e w' => ∃ x' : SelA, e = .returned (.tuple #[.agg #[.slice x'.p.x.A x'.p.x.n x'.p.x.c, .slice x'.p.y.A x'.p.y.n x'.p.y.c, .slice x'.p.z.A x'.p.z.n x'.p.z.c, .slice x'.s.A x'.s.n x'.s.c, .int .i64 x'.t, .int .i64 x'.q], .int .i64 (mvC y m)]) ∧ (mvC y m = 0 → OwnS w' w.heap.size x' (mvV y m)) ∧ Ext w w' := by
  have hX0 := ((Ext.refl w).alloc (.cells #[.slice x.p.x.A x.p.x.n x.p.x.c, .slice x.p.y.A x.p.y.n x.p.y.c, .slice x.p.z.A x.p.z.n x.p.z.c, .slice x.s.A x.s.n x.s.c, .int .i64 x.t, .int .i64 x.q] 51)).alloc (.cells #[.slice none 0 0, .slice none 0 0, .slice none 0 0, .slice none 0 0, .int .i64 0, .int .i64 0] 51)
  have hB0 := (Blk.new w 51 (#[.slice x.p.x.A x.p.x.n x.p.x.c, .slice x.p.y.A x.p.y.n x.p.y.c, .slice x.p.z.A x.p.z.n x.p.z.c, .slice x.s.A x.s.n x.s.c, .int .i64 x.t, .int .i64 x.q])).alloc (.cells #[.slice none 0 0, .slice none 0 0, .slice none 0 0, .slice none 0 0, .int .i64 0, .int .i64 0] 51)
  have hR0 := Blk.new (w.alloc (.cells #[.slice x.p.x.A x.p.x.n x.p.x.c, .slice x.p.y.A x.p.y.n x.p.y.c, .slice x.p.z.A x.p.z.n x.p.z.c, .slice x.s.A x.s.n x.s.c, .int .i64 x.t, .int .i64 x.q] 51)) 51 (#[.slice none 0 0, .slice none 0 0, .slice none 0 0, .slice none 0 0, .int .i64 0, .int .i64 0])
  rw [World.size_alloc] at hR0
  obtain ⟨q0, q1, q2, q3, q4, q5⟩ := hB0.c6
  by_cases hm : m = -1
  · have hc := spec.l14Code_any x y _ (hr.ext hX0)
    cases hov : overB y
    · have E1 := hide (show mvV y m = passL y by unfold mvV passV; rw [if_pos hm, hov]; rfl)
      have E2 := hide (show mvC y m = 0 by unfold mvC passC; rw [if_pos hm, hov]; rfl)
      rw [show ptC y = 0 by unfold ptC passC; rw [hok, hov]; rfl] at hc
      subst hm
      go_enter Try.func102, Try.ntmps102
      go_wp2_with fail
      refine hc.mono ?_
      rintro e w1 ⟨rfl, hx1⟩
      have hX1 := hX0.trans hx1
      have hR1 := hR0.ext hx1
      have hz1 : w.heap.size + 1 + 1 ≤ w1.heap.size := by have := hx1.size; simpa using this
      clear q0 q1 q2 q3 q4 q5
      obtain ⟨q0, q1, q2, q3, q4, q5⟩ := (hB0.ext hx1).c6
      go_wp2_with fail
      refine (spec.l14Pass_any x y _ (hr.ext hX1) hok).mono ?_
      rintro e w2 ⟨z, rfl, oz, hx2⟩
      have hX2 := hX1.trans hx2
      have hR2 := hR1.ext hx2
      have hz2 := hx2.size
      obtain ⟨r0, r1, r2, r3, r4, r5⟩ := hR2.c6
      have y0 := hR2.frozen 0
      have y1 := hR2.frozen 1
      have y2 := hR2.frozen 2
      have y3 := hR2.frozen 3
      have y4 := hR2.frozen 4
      have y5 := hR2.frozen 5
      have hRn := hR2.set6 (.slice z.p.x.A z.p.x.n z.p.x.c) (.slice z.p.y.A z.p.y.n z.p.y.c) (.slice z.p.z.A z.p.z.n z.p.z.c) (.slice z.s.A z.s.n z.s.c) (.int .i64 z.t) (.int .i64 z.q)
      obtain ⟨n0, n1, n2, n3, n4, n5⟩ := hRn.c6
      go_wp2
      refine bodyPost_ret (v := .tuple #[.agg #[.slice z.p.x.A z.p.x.n z.p.x.c, .slice z.p.y.A z.p.y.n z.p.y.c, .slice z.p.z.A z.p.z.n z.p.z.c, .slice z.s.A z.s.n z.s.c, .int .i64 z.t, .int .i64 z.q], .int .i64 0]) (by simp [results, Try.results102, go_sem, n0, n1, n2, n3, n4, n5]) rfl ⟨z, by rw [E2.out], fun _ => by rw [E1.out]; exact OwnS.mono ((((((oz.off (w.heap.size + 1) 0 (by omega) _).off (w.heap.size + 1) 1 (by omega) _).off (w.heap.size + 1) 2 (by omega) _).off (w.heap.size + 1) 3 (by omega) _).off (w.heap.size + 1) 4 (by omega) _).off (w.heap.size + 1) 5 (by omega) _) (by omega), ((((((hX2.off (w.heap.size + 1) 0 (by omega) _).off (w.heap.size + 1) 1 (by omega) _).off (w.heap.size + 1) 2 (by omega) _).off (w.heap.size + 1) 3 (by omega) _).off (w.heap.size + 1) 4 (by omega) _).off (w.heap.size + 1) 5 (by omega) _)⟩
    · have E2 := hide (show mvC y m = 5 by unfold mvC passC; rw [if_pos hm, hov]; rfl)
      rw [show ptC y = 5 by unfold ptC passC; rw [hok, hov]; rfl] at hc
      subst hm
      go_enter Try.func102, Try.ntmps102
      go_wp2_with fail
      refine hc.mono ?_
      rintro e w1 ⟨rfl, hx1⟩
      have hX1 := hX0.trans hx1
      have hR1 := hR0.ext hx1
      have hz1 : w.heap.size + 1 + 1 ≤ w1.heap.size := by have := hx1.size; simpa using this
      clear q0 q1 q2 q3 q4 q5
      obtain ⟨q0, q1, q2, q3, q4, q5⟩ := (hB0.ext hx1).c6
      obtain ⟨r0, r1, r2, r3, r4, r5⟩ := hR1.c6
      have y0 := hR1.frozen 0
      have y1 := hR1.frozen 1
      have y2 := hR1.frozen 2
      have y3 := hR1.frozen 3
      have y4 := hR1.frozen 4
      have y5 := hR1.frozen 5
      have hRn := hR1.set6 (.slice x.p.x.A x.p.x.n x.p.x.c) (.slice x.p.y.A x.p.y.n x.p.y.c) (.slice x.p.z.A x.p.z.n x.p.z.c) (.slice x.s.A x.s.n x.s.c) (.int .i64 x.t) (.int .i64 x.q)
      obtain ⟨n0, n1, n2, n3, n4, n5⟩ := hRn.c6
      go_wp2
      refine bodyPost_ret (v := .tuple #[.agg #[.slice x.p.x.A x.p.x.n x.p.x.c, .slice x.p.y.A x.p.y.n x.p.y.c, .slice x.p.z.A x.p.z.n x.p.z.c, .slice x.s.A x.s.n x.s.c, .int .i64 x.t, .int .i64 x.q], .int .i64 5]) (by simp [results, Try.results102, go_sem, n0, n1, n2, n3, n4, n5]) rfl ⟨x, by rw [E2.out], fun h => absurd (E2.out.symm.trans h) (by decide), ((((((hX1.off (w.heap.size + 1) 0 (by omega) _).off (w.heap.size + 1) 1 (by omega) _).off (w.heap.size + 1) 2 (by omega) _).off (w.heap.size + 1) 3 (by omega) _).off (w.heap.size + 1) 4 (by omega) _).off (w.heap.size + 1) 5 (by omega) _)⟩
  · have E1 := hide (show mvV y m = strV y m from if_neg hm)
    have E2 := hide (show mvC y m = ssC y m by rw [ssC_str hok]; exact if_neg hm)
    have hmb : (m != -1) = true := by simpa using hm
    clear hm
    have hc := spec.l14Strike_any x y m _ (hr.ext hX0)
    go_enter Try.func102, Try.ntmps102
    go_wp2_with fail
    refine hc.mono ?_
    rintro e w2 ⟨z, rfl, oz, hx2⟩
    have hX2 := hX0.trans hx2
    have hR2 := hR0.ext hx2
    have hz2 : w.heap.size + 1 + 1 ≤ w2.heap.size := by have := hx2.size; simpa using this
    obtain ⟨r0, r1, r2, r3, r4, r5⟩ := hR2.c6
    have y0 := hR2.frozen 0
    have y1 := hR2.frozen 1
    have y2 := hR2.frozen 2
    have y3 := hR2.frozen 3
    have y4 := hR2.frozen 4
    have y5 := hR2.frozen 5
    have hRn := hR2.set6 (.slice z.p.x.A z.p.x.n z.p.x.c) (.slice z.p.y.A z.p.y.n z.p.y.c) (.slice z.p.z.A z.p.z.n z.p.z.c) (.slice z.s.A z.s.n z.s.c) (.int .i64 z.t) (.int .i64 z.q)
    obtain ⟨n0, n1, n2, n3, n4, n5⟩ := hRn.c6
    go_wp2
    refine bodyPost_ret (v := .tuple #[.agg #[.slice z.p.x.A z.p.x.n z.p.x.c, .slice z.p.y.A z.p.y.n z.p.y.c, .slice z.p.z.A z.p.z.n z.p.z.c, .slice z.s.A z.s.n z.s.c, .int .i64 z.t, .int .i64 z.q], .int .i64 (ssC y m)]) (by simp [results, Try.results102, go_sem, n0, n1, n2, n3, n4, n5]) rfl ⟨z, by rw [E2.out], fun h => ?_, ((((((hX2.off (w.heap.size + 1) 0 (by omega) _).off (w.heap.size + 1) 1 (by omega) _).off (w.heap.size + 1) 2 (by omega) _).off (w.heap.size + 1) 3 (by omega) _).off (w.heap.size + 1) 4 (by omega) _).off (w.heap.size + 1) 5 (by omega) _)⟩
    have h0 : ssC y m = 0 := E2.out.symm.trans h
    rw [E1.out, strV_yes ((ssC_str hok).symm.trans h0)]
    exact OwnS.mono (lo' := w.heap.size) (((((((OwnS.mono (lo' := w.heap.size + 1 + 1) (oz h0) (by simp)).off (w.heap.size + 1) 0 (by omega) _).off (w.heap.size + 1) 1 (by omega) _).off (w.heap.size + 1) 2 (by omega) _).off (w.heap.size + 1) 3 (by omega) _).off (w.heap.size + 1) 4 (by omega) _).off (w.heap.size + 1) 5 (by omega) _) (by omega)
end Go.Proofs.Ytkfjphjmffbpiaa.mem
