/-
  Contracts of both programs' LeaveJury.
-/
import Derived.Test.YtkfjphjmffbpiaaLvI
namespace Go.Proofs.Ytkfjphjmffbpiaa.mem
open Go.ChangeShapes Go.WideShapes Go.ChangeAt Go.RowKit

def ljC (l : L3) (x : Int) : Int := if okJ l = true then (if inB x 1 1000000 = true then lvC l x else 2) else 1
def ljV (l : L3) (x : Int) : L3 := if ljC l x = 0 then lvV l x else nilL3
theorem ljV_no {l : L3} {x c : Int} (h : ljC l x = c) (hc : c ≠ 0) : ljV l x = nilL3 := by
  unfold ljV
  rw [h, if_neg hc]
theorem ljV_yes {l : L3} {x : Int} (h : ljC l x = 0) : ljV l x = lvV l x := by
  unfold ljV
  rw [if_pos h]
set_option maxHeartbeats 4000000 in
theorem impl.LeaveJury_any (p : S3) (l : L3) (x : Int) (w : World) (hr : Rd3 w p l) :
    Calls Try.prog 16 #[.agg #[.slice p.x.A p.x.n p.x.c, .slice p.y.A p.y.n p.y.c, .slice p.z.A p.z.n p.z.c], .int .i64 x] w fun e w' => ∃ t : S3, e = .returned (.tuple #[.agg #[.slice t.x.A t.x.n t.x.c, .slice t.y.A t.y.n t.y.c, .slice t.z.A t.z.n t.z.c], .int .i64 (ljC l x)]) ∧ Own3 w' w.heap.size t (ljV l x) ∧ Ext w w' := by
  have hX0 := ((Ext.refl w).alloc (.cells #[.slice p.x.A p.x.n p.x.c, .slice p.y.A p.y.n p.y.c, .slice p.z.A p.z.n p.z.c] 26)).alloc (.cells #[.slice none 0 0, .slice none 0 0, .slice none 0 0] 26)
  have hB0 := (Blk.new w 26 (#[.slice p.x.A p.x.n p.x.c, .slice p.y.A p.y.n p.y.c, .slice p.z.A p.z.n p.z.c])).alloc (.cells #[.slice none 0 0, .slice none 0 0, .slice none 0 0] 26)
  have hR0 := Blk.new (w.alloc (.cells #[.slice p.x.A p.x.n p.x.c, .slice p.y.A p.y.n p.y.c, .slice p.z.A p.z.n p.z.c] 26)) 26 (#[.slice none 0 0, .slice none 0 0, .slice none 0 0])
  rw [World.size_alloc] at hR0
  obtain ⟨q0, q1, q2⟩ := hB0.c3
  go_enter Try.func16, Try.ntmps16
  go_wp2_with fail
  refine (impl.IsJury_any p l _ (hr.ext hX0)).mono ?_
  rintro e w1 ⟨rfl, hx1⟩
  clear q0 q1 q2
  have hX1 := hX0.trans hx1
  have hB1 := hB0.ext hx1
  have hR1 := hR0.ext hx1
  have hz1 : w.heap.size + 1 + 1 ≤ w1.heap.size := by have := hx1.size; simpa using this
  obtain ⟨q0, q1, q2⟩ := hB1.c3
  cases hok : okJ l
  · have E2 := hide (show ljC l x = 1 by unfold ljC; rw [hok]; rfl)
    have E1 := hide (ljV_no E2.out (by decide))
    obtain ⟨r0, r1, r2, r3, r4, r5⟩ := res3 hR1
    have hRn := ((hR1.set_ 0 (.slice none 0 0)).set_ 1 (.slice none 0 0)).set_ 2 (.slice none 0 0)
    go_wp2
    obtain ⟨n0, n1', n2'⟩ := hRn.c3
    refine bodyPost_ret (v := .tuple #[.agg #[.slice (⟨⟨none, 0, 0⟩, ⟨none, 0, 0⟩, ⟨none, 0, 0⟩⟩ : S3).x.A (⟨⟨none, 0, 0⟩, ⟨none, 0, 0⟩, ⟨none, 0, 0⟩⟩ : S3).x.n (⟨⟨none, 0, 0⟩, ⟨none, 0, 0⟩, ⟨none, 0, 0⟩⟩ : S3).x.c, .slice (⟨⟨none, 0, 0⟩, ⟨none, 0, 0⟩, ⟨none, 0, 0⟩⟩ : S3).y.A (⟨⟨none, 0, 0⟩, ⟨none, 0, 0⟩, ⟨none, 0, 0⟩⟩ : S3).y.n (⟨⟨none, 0, 0⟩, ⟨none, 0, 0⟩, ⟨none, 0, 0⟩⟩ : S3).y.c, .slice (⟨⟨none, 0, 0⟩, ⟨none, 0, 0⟩, ⟨none, 0, 0⟩⟩ : S3).z.A (⟨⟨none, 0, 0⟩, ⟨none, 0, 0⟩, ⟨none, 0, 0⟩⟩ : S3).z.n (⟨⟨none, 0, 0⟩, ⟨none, 0, 0⟩, ⟨none, 0, 0⟩⟩ : S3).z.c], .int .i64 1]) (by simp [results, Try.results16, go_sem, n0, n1', n2']) rfl ⟨(⟨⟨none, 0, 0⟩, ⟨none, 0, 0⟩, ⟨none, 0, 0⟩⟩ : S3), by rw [E2.out], by rw [E1.out]; exact Own3.nil3_ _ _, ((hX1.off (w.heap.size + 1) 0 (by omega) _).off (w.heap.size + 1) 1 (by omega) _).off (w.heap.size + 1) 2 (by omega) _⟩
  have hk := fun W : World => impl.isNumber_any x W
  cases hin : inB x 1 1000000
  · rw [hin] at hk
    have E2 := hide (show ljC l x = 2 by unfold ljC; rw [hok, hin]; rfl)
    have E1 := hide (ljV_no E2.out (by decide))
    obtain ⟨r0, r1, r2, r3, r4, r5⟩ := res3 hR1
    have hRn := ((hR1.set_ 0 (.slice none 0 0)).set_ 1 (.slice none 0 0)).set_ 2 (.slice none 0 0)
    go_wp2_with (go_at_call 80; refine (hk _).mono ?_; rintro e w' ⟨rfl, rfl⟩)
    obtain ⟨n0, n1', n2'⟩ := hRn.c3
    refine bodyPost_ret (v := .tuple #[.agg #[.slice (⟨⟨none, 0, 0⟩, ⟨none, 0, 0⟩, ⟨none, 0, 0⟩⟩ : S3).x.A (⟨⟨none, 0, 0⟩, ⟨none, 0, 0⟩, ⟨none, 0, 0⟩⟩ : S3).x.n (⟨⟨none, 0, 0⟩, ⟨none, 0, 0⟩, ⟨none, 0, 0⟩⟩ : S3).x.c, .slice (⟨⟨none, 0, 0⟩, ⟨none, 0, 0⟩, ⟨none, 0, 0⟩⟩ : S3).y.A (⟨⟨none, 0, 0⟩, ⟨none, 0, 0⟩, ⟨none, 0, 0⟩⟩ : S3).y.n (⟨⟨none, 0, 0⟩, ⟨none, 0, 0⟩, ⟨none, 0, 0⟩⟩ : S3).y.c, .slice (⟨⟨none, 0, 0⟩, ⟨none, 0, 0⟩, ⟨none, 0, 0⟩⟩ : S3).z.A (⟨⟨none, 0, 0⟩, ⟨none, 0, 0⟩, ⟨none, 0, 0⟩⟩ : S3).z.n (⟨⟨none, 0, 0⟩, ⟨none, 0, 0⟩, ⟨none, 0, 0⟩⟩ : S3).z.c], .int .i64 2]) (by simp [results, Try.results16, go_sem, n0, n1', n2']) rfl ⟨(⟨⟨none, 0, 0⟩, ⟨none, 0, 0⟩, ⟨none, 0, 0⟩⟩ : S3), by rw [E2.out], by rw [E1.out]; exact Own3.nil3_ _ _, ((hX1.off (w.heap.size + 1) 0 (by omega) _).off (w.heap.size + 1) 1 (by omega) _).off (w.heap.size + 1) 2 (by omega) _⟩
  · rw [hin] at hk
    have E2 := hide (show ljC l x = lvC l x by unfold ljC; rw [hok, hin]; rfl)
    have E1 := hide (show ljV l x = lvW l x by unfold ljV lvW; rw [E2.out])
    go_wp2_with (go_at_call 80; refine (hk _).mono ?_; rintro e w' ⟨rfl, rfl⟩)
    refine (impl.leave_any p l x _ (hr.ext hX1) hok).mono ?_
    rintro e w2 ⟨t, rfl, ho, hx2⟩
    have hX2 := hX1.trans hx2
    have hR2 := hR1.ext hx2
    have h3 := ho.mono hz1
    obtain ⟨r0, r1, r2, r3, r4, r5⟩ := res3 hR2
    have hRn := ((hR2.set_ 0 (.slice t.x.A t.x.n t.x.c)).set_ 1 (.slice t.y.A t.y.n t.y.c)).set_ 2 (.slice t.z.A t.z.n t.z.c)
    go_wp2
    obtain ⟨n0, n1', n2'⟩ := hRn.c3
    refine bodyPost_ret (v := .tuple #[.agg #[.slice t.x.A t.x.n t.x.c, .slice t.y.A t.y.n t.y.c, .slice t.z.A t.z.n t.z.c], .int .i64 (lvC l x)]) (by simp [results, Try.results16, go_sem, n0, n1', n2']) rfl ⟨t, by rw [E2.out], ?_, ((hX2.off (w.heap.size + 1) 0 (by omega) _).off (w.heap.size + 1) 1 (by omega) _).off (w.heap.size + 1) 2 (by omega) _⟩
    rw [E1.out]
    exact Own3.mono (((h3.awayP (g := w.heap.size + 1) (by omega) 0 _).awayP (g := w.heap.size + 1) (by omega) 1 _).awayP (g := w.heap.size + 1) (by omega) 2 _) (by omega)
set_option maxHeartbeats 4000000 in
theorem spec.LeaveJury_any (p : S3) (l : L3) (x : Int) (w : World) (hr : Rd3 w p l) :
    Calls Try.prog 51 #[.agg #[.slice p.x.A p.x.n p.x.c, .slice p.y.A p.y.n p.y.c, .slice p.z.A p.z.n p.z.c], .int .i64 x] w fun e w' => ∃ t : S3, e = .returned (.tuple #[.agg #[.slice t.x.A t.x.n t.x.c, .slice t.y.A t.y.n t.y.c, .slice t.z.A t.z.n t.z.c], .int .i64 (ljC l x)]) ∧ Own3 w' w.heap.size t (ljV l x) ∧ Ext w w' := by
  have hX0 := ((Ext.refl w).alloc (.cells #[.slice p.x.A p.x.n p.x.c, .slice p.y.A p.y.n p.y.c, .slice p.z.A p.z.n p.z.c] 26)).alloc (.cells #[.slice none 0 0, .slice none 0 0, .slice none 0 0] 26)
  have hB0 := (Blk.new w 26 (#[.slice p.x.A p.x.n p.x.c, .slice p.y.A p.y.n p.y.c, .slice p.z.A p.z.n p.z.c])).alloc (.cells #[.slice none 0 0, .slice none 0 0, .slice none 0 0] 26)
  have hR0 := Blk.new (w.alloc (.cells #[.slice p.x.A p.x.n p.x.c, .slice p.y.A p.y.n p.y.c, .slice p.z.A p.z.n p.z.c] 26)) 26 (#[.slice none 0 0, .slice none 0 0, .slice none 0 0])
  rw [World.size_alloc] at hR0
  obtain ⟨q0, q1, q2⟩ := hB0.c3
  have hc := spec.l15Code_any p l x _ (hr.ext hX0)
  cases hok : okJ l
  · have E2 := hide (show ljC l x = 1 by unfold ljC; rw [hok]; rfl)
    rw [show codeC (okJ l) (inB x 1 1000000) = 1 by rw [hok]; rfl] at hc
    go_enter Try.func51, Try.ntmps51
    go_wp2_with fail
    refine (hc).mono ?_
    rintro e w1 ⟨rfl, hx1⟩
    clear q0 q1 q2
    have hX1 := hX0.trans hx1
    have hB1 := hB0.ext hx1
    have hR1 := hR0.ext hx1
    have hz1 : w.heap.size + 1 + 1 ≤ w1.heap.size := by have := hx1.size; simpa using this
    obtain ⟨q0, q1, q2⟩ := hB1.c3
    have E1 := hide (ljV_no E2.out (by decide))
    obtain ⟨r0, r1, r2, r3, r4, r5⟩ := res3 hR1
    have hRn := ((hR1.set_ 0 (.slice none 0 0)).set_ 1 (.slice none 0 0)).set_ 2 (.slice none 0 0)
    go_wp2
    obtain ⟨n0, n1', n2'⟩ := hRn.c3
    refine bodyPost_ret (v := .tuple #[.agg #[.slice (⟨⟨none, 0, 0⟩, ⟨none, 0, 0⟩, ⟨none, 0, 0⟩⟩ : S3).x.A (⟨⟨none, 0, 0⟩, ⟨none, 0, 0⟩, ⟨none, 0, 0⟩⟩ : S3).x.n (⟨⟨none, 0, 0⟩, ⟨none, 0, 0⟩, ⟨none, 0, 0⟩⟩ : S3).x.c, .slice (⟨⟨none, 0, 0⟩, ⟨none, 0, 0⟩, ⟨none, 0, 0⟩⟩ : S3).y.A (⟨⟨none, 0, 0⟩, ⟨none, 0, 0⟩, ⟨none, 0, 0⟩⟩ : S3).y.n (⟨⟨none, 0, 0⟩, ⟨none, 0, 0⟩, ⟨none, 0, 0⟩⟩ : S3).y.c, .slice (⟨⟨none, 0, 0⟩, ⟨none, 0, 0⟩, ⟨none, 0, 0⟩⟩ : S3).z.A (⟨⟨none, 0, 0⟩, ⟨none, 0, 0⟩, ⟨none, 0, 0⟩⟩ : S3).z.n (⟨⟨none, 0, 0⟩, ⟨none, 0, 0⟩, ⟨none, 0, 0⟩⟩ : S3).z.c], .int .i64 1]) (by simp [results, Try.results51, go_sem, n0, n1', n2']) rfl ⟨(⟨⟨none, 0, 0⟩, ⟨none, 0, 0⟩, ⟨none, 0, 0⟩⟩ : S3), by rw [E2.out], by rw [E1.out]; exact Own3.nil3_ _ _, ((hX1.off (w.heap.size + 1) 0 (by omega) _).off (w.heap.size + 1) 1 (by omega) _).off (w.heap.size + 1) 2 (by omega) _⟩
  cases hin : inB x 1 1000000
  · have E2 := hide (show ljC l x = 2 by unfold ljC; rw [hok, hin]; rfl)
    rw [show codeC (okJ l) (inB x 1 1000000) = 2 by rw [hok, hin]; rfl] at hc
    go_enter Try.func51, Try.ntmps51
    go_wp2_with fail
    refine (hc).mono ?_
    rintro e w1 ⟨rfl, hx1⟩
    clear q0 q1 q2
    have hX1 := hX0.trans hx1
    have hB1 := hB0.ext hx1
    have hR1 := hR0.ext hx1
    have hz1 : w.heap.size + 1 + 1 ≤ w1.heap.size := by have := hx1.size; simpa using this
    obtain ⟨q0, q1, q2⟩ := hB1.c3
    have E1 := hide (ljV_no E2.out (by decide))
    obtain ⟨r0, r1, r2, r3, r4, r5⟩ := res3 hR1
    have hRn := ((hR1.set_ 0 (.slice none 0 0)).set_ 1 (.slice none 0 0)).set_ 2 (.slice none 0 0)
    go_wp2
    obtain ⟨n0, n1', n2'⟩ := hRn.c3
    refine bodyPost_ret (v := .tuple #[.agg #[.slice (⟨⟨none, 0, 0⟩, ⟨none, 0, 0⟩, ⟨none, 0, 0⟩⟩ : S3).x.A (⟨⟨none, 0, 0⟩, ⟨none, 0, 0⟩, ⟨none, 0, 0⟩⟩ : S3).x.n (⟨⟨none, 0, 0⟩, ⟨none, 0, 0⟩, ⟨none, 0, 0⟩⟩ : S3).x.c, .slice (⟨⟨none, 0, 0⟩, ⟨none, 0, 0⟩, ⟨none, 0, 0⟩⟩ : S3).y.A (⟨⟨none, 0, 0⟩, ⟨none, 0, 0⟩, ⟨none, 0, 0⟩⟩ : S3).y.n (⟨⟨none, 0, 0⟩, ⟨none, 0, 0⟩, ⟨none, 0, 0⟩⟩ : S3).y.c, .slice (⟨⟨none, 0, 0⟩, ⟨none, 0, 0⟩, ⟨none, 0, 0⟩⟩ : S3).z.A (⟨⟨none, 0, 0⟩, ⟨none, 0, 0⟩, ⟨none, 0, 0⟩⟩ : S3).z.n (⟨⟨none, 0, 0⟩, ⟨none, 0, 0⟩, ⟨none, 0, 0⟩⟩ : S3).z.c], .int .i64 2]) (by simp [results, Try.results51, go_sem, n0, n1', n2']) rfl ⟨(⟨⟨none, 0, 0⟩, ⟨none, 0, 0⟩, ⟨none, 0, 0⟩⟩ : S3), by rw [E2.out], by rw [E1.out]; exact Own3.nil3_ _ _, ((hX1.off (w.heap.size + 1) 0 (by omega) _).off (w.heap.size + 1) 1 (by omega) _).off (w.heap.size + 1) 2 (by omega) _⟩
  have hx1 : 1 ≤ x := (inB_iff.1 hin).1
  rw [show codeC (okJ l) (inB x 1 1000000) = 0 by rw [hok, hin]; rfl] at hc
  have E3 := hide (show ljC l x = lvC l x by unfold ljC; rw [hok, hin]; rfl)
  go_enter Try.func51, Try.ntmps51
  go_wp2_with fail
  refine (hc).mono ?_
  rintro e w1 ⟨rfl, hy1⟩
  clear q0 q1 q2
  have hX1 := hX0.trans hy1
  have hB1 := hB0.ext hy1
  have hR1 := hR0.ext hy1
  have hz1 : w.heap.size + 1 + 1 ≤ w1.heap.size := by have := hy1.size; simpa using this
  obtain ⟨q0, q1, q2⟩ := hB1.c3
  by_cases h0 : lvC l x = 0
  · have E2 := hide (E3.out.trans h0)
    have E1 := hide (ljV_yes E2.out)
    have hl := spec.l15Leave_any p l x w1 (hr.ext hX1) hok hx1
    rw [h0] at hl
    go_wp2_with fail
    refine hl.mono ?_
    rintro e w2 ⟨t, rfl, ho, hx2⟩
    have hO := ho (by trivial)
    have hx3 := hx2.alloc (.cells #[.slice t.x.A t.x.n t.x.c, .slice t.y.A t.y.n t.y.c, .slice t.z.A t.z.n t.z.c] 26)
    have hN := Blk.new w2 26 (#[.slice t.x.A t.x.n t.x.c, .slice t.y.A t.y.n t.y.c, .slice t.z.A t.z.n t.z.c])
    have hX2 := hX1.trans hx3
    have hR2 := hR1.ext hx3
    have h3 := (hO.alloc (.cells #[.slice t.x.A t.x.n t.x.c, .slice t.y.A t.y.n t.y.c, .slice t.z.A t.z.n t.z.c] 26)).mono hz1
    obtain ⟨v0, v1, v2⟩ := hN.c3
    obtain ⟨r0, r1, r2, r3, r4, r5⟩ := res3 hR2
    have hRn := ((hR2.set_ 0 (.slice t.x.A t.x.n t.x.c)).set_ 1 (.slice t.y.A t.y.n t.y.c)).set_ 2 (.slice t.z.A t.z.n t.z.c)
    go_wp2
    obtain ⟨n0, n1', n2'⟩ := hRn.c3
    refine bodyPost_ret (v := .tuple #[.agg #[.slice t.x.A t.x.n t.x.c, .slice t.y.A t.y.n t.y.c, .slice t.z.A t.z.n t.z.c], .int .i64 0]) (by simp [results, Try.results51, go_sem, n0, n1', n2']) rfl ⟨t, by rw [E2.out], ?_, ((hX2.off (w.heap.size + 1) 0 (by omega) _).off (w.heap.size + 1) 1 (by omega) _).off (w.heap.size + 1) 2 (by omega) _⟩
    rw [E1.out]
    exact Own3.mono (((h3.awayP (g := w.heap.size + 1) (by omega) 0 _).awayP (g := w.heap.size + 1) (by omega) 1 _).awayP (g := w.heap.size + 1) (by omega) 2 _) (by omega)
  · obtain ⟨c, hcc⟩ : ∃ c, c = lvC l x := ⟨_, rfl⟩
    have hc0 : c ≠ 0 := by rw [hcc]; exact h0
    have hcb : (c != 0) = true := by simpa using hc0
    have E2 := hide (E3.out.trans hcc.symm)
    have hl := spec.l15Leave_any p l x w1 (hr.ext hX1) hok hx1
    rw [← hcc] at hl
    clear hcc h0
    go_wp2_with fail
    refine hl.mono ?_
    rintro e w2 ⟨t, rfl, _, hx2⟩
    have hx3 := hx2.alloc (.cells #[.slice t.x.A t.x.n t.x.c, .slice t.y.A t.y.n t.y.c, .slice t.z.A t.z.n t.z.c] 26)
    have hX2 := hX1.trans hx3
    have hR2 := hR1.ext hx3
    have E1 := hide (ljV_no E2.out hc0)
    obtain ⟨r0, r1, r2, r3, r4, r5⟩ := res3 hR2
    have hRn := ((hR2.set_ 0 (.slice none 0 0)).set_ 1 (.slice none 0 0)).set_ 2 (.slice none 0 0)
    go_wp2
    obtain ⟨n0, n1', n2'⟩ := hRn.c3
    refine bodyPost_ret (v := .tuple #[.agg #[.slice (⟨⟨none, 0, 0⟩, ⟨none, 0, 0⟩, ⟨none, 0, 0⟩⟩ : S3).x.A (⟨⟨none, 0, 0⟩, ⟨none, 0, 0⟩, ⟨none, 0, 0⟩⟩ : S3).x.n (⟨⟨none, 0, 0⟩, ⟨none, 0, 0⟩, ⟨none, 0, 0⟩⟩ : S3).x.c, .slice (⟨⟨none, 0, 0⟩, ⟨none, 0, 0⟩, ⟨none, 0, 0⟩⟩ : S3).y.A (⟨⟨none, 0, 0⟩, ⟨none, 0, 0⟩, ⟨none, 0, 0⟩⟩ : S3).y.n (⟨⟨none, 0, 0⟩, ⟨none, 0, 0⟩, ⟨none, 0, 0⟩⟩ : S3).y.c, .slice (⟨⟨none, 0, 0⟩, ⟨none, 0, 0⟩, ⟨none, 0, 0⟩⟩ : S3).z.A (⟨⟨none, 0, 0⟩, ⟨none, 0, 0⟩, ⟨none, 0, 0⟩⟩ : S3).z.n (⟨⟨none, 0, 0⟩, ⟨none, 0, 0⟩, ⟨none, 0, 0⟩⟩ : S3).z.c], .int .i64 c]) (by simp [results, Try.results51, go_sem, n0, n1', n2']) rfl ⟨(⟨⟨none, 0, 0⟩, ⟨none, 0, 0⟩, ⟨none, 0, 0⟩⟩ : S3), by rw [E2.out], by rw [E1.out]; exact Own3.nil3_ _ _, ((hX2.off (w.heap.size + 1) 0 (by omega) _).off (w.heap.size + 1) 1 (by omega) _).off (w.heap.size + 1) 2 (by omega) _⟩
end Go.Proofs.Ytkfjphjmffbpiaa.mem
