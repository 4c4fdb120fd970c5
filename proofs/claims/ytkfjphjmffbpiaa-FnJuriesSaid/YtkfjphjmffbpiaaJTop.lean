/-
  Contracts of both programs' functions on juries that only look: MembersOf, MayGoOn, LossesBorne, RoleOf.
-/
import Derived.Test.YtkfjphjmffbpiaaJury
import Derived.Test.YtkfjphjmffbpiaaJuryS
namespace Go.Proofs.Ytkfjphjmffbpiaa.mem
open Go.ChangeShapes Go.WideShapes Go.ChangeAt Go.RowKit

def okJC (l : L3) : Int := if okJ l = true then 0 else 1
def membersV (l : L3) : List Int := if okJ l = true then nz l.x else []
def codeC (ok b : Bool) : Int := if ok = true then (if b = true then 0 else 2) else 1
def mayV (l : L3) (m : Int) : Bool := okJ l && inB m 1 12 && decide (m ≤ ((nz l.x).length : Int))
def lossV (l : L3) (m : Int) : Int := if okJ l = true ∧ inB m 1 12 = true then (if ((nz l.x).length : Int) < m then -1 else (nz l.x).length - m + l.y.length) else 0
def roleV (l : L3) (x : Int) : Int := if okJ l = true ∧ inB x 1 1000000 = true then (if hasB l.x x = true then 1 else if hasB l.y x = true then 2 else if hasB l.z x = true then 3 else 0) else 0

theorem okJ_bd {l : L3} (h : okJ l = true) : l.x.length ≤ 12 ∧ l.y.length ≤ 6 := by
  unfold okJ at h
  simp only [Bool.and_eq_true, decide_eq_true_eq] at h
  have := inB_iff.1 h.1
  omega

theorem spec.l15Least_any (p : S3) (l : L3) (m : Int) (w : World) (hr : Rd3 w p l) :
    Calls Try.prog 115 #[.agg #[.slice p.x.A p.x.n p.x.c, .slice p.y.A p.y.n p.y.c, .slice p.z.A p.z.n p.z.c], .int .i64 m] w fun e w' => e = .returned (.int .i64 (codeC (okJ l) (inB m 1 12))) ∧ Ext w w' := by
  have hX0 := (Ext.refl w).alloc (.cells #[.slice p.x.A p.x.n p.x.c, .slice p.y.A p.y.n p.y.c, .slice p.z.A p.z.n p.z.c] 26)
  have hB0 := Blk.new w 26 (#[.slice p.x.A p.x.n p.x.c, .slice p.y.A p.y.n p.y.c, .slice p.z.A p.z.n p.z.c])
  go_enter Try.func115, Try.ntmps115
  go_wp2_with fail
  refine (spec.IsJury_any p l _ (hr.ext hX0)).mono ?_
  rintro e w1 ⟨rfl, hx1⟩
  have hX1 := hX0.trans hx1
  obtain ⟨q0, q1, q2⟩ := (hB0.ext hx1).c3
  cases hok : okJ l
  · have E1 := hide (show codeC (okJ l) (inB m 1 12) = 1 by rw [hok]; rfl)
    go_wp2
    go_ret
    exact ⟨by rw [E1.out]; rfl, hX1⟩
  · have E1 := hide (show codeC (okJ l) (inB m 1 12) = if inB m 1 12 = true then 0 else 2 by rw [hok]; rfl)
    cases b1 : inB m 1 12
    all_goals
      go_wp2_with (first | (go_at_call 70; refine (spec.l01In_any _ _ _ _).mono ?_; rintro e w' ⟨rfl, rfl⟩) | (go_at_call 76; refine (impl.isSeats_any _ _).mono ?_; rintro e w' ⟨rfl, rfl⟩))
      go_ret
      exact ⟨by rw [E1.out, b1]; rfl, hX1⟩
theorem impl.leastCode_any (p : S3) (l : L3) (m : Int) (w : World) (hr : Rd3 w p l) :
    Calls Try.prog 114 #[.agg #[.slice p.x.A p.x.n p.x.c, .slice p.y.A p.y.n p.y.c, .slice p.z.A p.z.n p.z.c], .int .i64 m] w fun e w' => e = .returned (.int .i64 (codeC (okJ l) (inB m 1 12))) ∧ Ext w w' := by
  have hX0 := (Ext.refl w).alloc (.cells #[.slice p.x.A p.x.n p.x.c, .slice p.y.A p.y.n p.y.c, .slice p.z.A p.z.n p.z.c] 26)
  have hB0 := Blk.new w 26 (#[.slice p.x.A p.x.n p.x.c, .slice p.y.A p.y.n p.y.c, .slice p.z.A p.z.n p.z.c])
  go_enter Try.func114, Try.ntmps114
  go_wp2_with fail
  refine (impl.IsJury_any p l _ (hr.ext hX0)).mono ?_
  rintro e w1 ⟨rfl, hx1⟩
  have hX1 := hX0.trans hx1
  obtain ⟨q0, q1, q2⟩ := (hB0.ext hx1).c3
  cases hok : okJ l
  · have E1 := hide (show codeC (okJ l) (inB m 1 12) = 1 by rw [hok]; rfl)
    go_wp2
    go_ret
    exact ⟨by rw [E1.out]; rfl, hX1⟩
  · have E1 := hide (show codeC (okJ l) (inB m 1 12) = if inB m 1 12 = true then 0 else 2 by rw [hok]; rfl)
    cases b1 : inB m 1 12
    all_goals
      go_wp2_with (first | (go_at_call 70; refine (spec.l01In_any _ _ _ _).mono ?_; rintro e w' ⟨rfl, rfl⟩) | (go_at_call 76; refine (impl.isSeats_any _ _).mono ?_; rintro e w' ⟨rfl, rfl⟩))
      go_ret
      exact ⟨by rw [E1.out, b1]; rfl, hX1⟩
theorem spec.l15Code_any (p : S3) (l : L3) (m : Int) (w : World) (hr : Rd3 w p l) :
    Calls Try.prog 71 #[.agg #[.slice p.x.A p.x.n p.x.c, .slice p.y.A p.y.n p.y.c, .slice p.z.A p.z.n p.z.c], .int .i64 m] w fun e w' => e = .returned (.int .i64 (codeC (okJ l) (inB m 1 1000000))) ∧ Ext w w' := by
  have hX0 := (Ext.refl w).alloc (.cells #[.slice p.x.A p.x.n p.x.c, .slice p.y.A p.y.n p.y.c, .slice p.z.A p.z.n p.z.c] 26)
  have hB0 := Blk.new w 26 (#[.slice p.x.A p.x.n p.x.c, .slice p.y.A p.y.n p.y.c, .slice p.z.A p.z.n p.z.c])
  go_enter Try.func71, Try.ntmps71
  go_wp2_with fail
  refine (spec.IsJury_any p l _ (hr.ext hX0)).mono ?_
  rintro e w1 ⟨rfl, hx1⟩
  have hX1 := hX0.trans hx1
  obtain ⟨q0, q1, q2⟩ := (hB0.ext hx1).c3
  cases hok : okJ l
  · have E1 := hide (show codeC (okJ l) (inB m 1 1000000) = 1 by rw [hok]; rfl)
    go_wp2
    go_ret
    exact ⟨by rw [E1.out]; rfl, hX1⟩
  · have E1 := hide (show codeC (okJ l) (inB m 1 1000000) = if inB m 1 1000000 = true then 0 else 2 by rw [hok]; rfl)
    cases b1 : inB m 1 1000000
    all_goals
      go_wp2_with (go_at_call 70; refine (spec.l01In_any _ _ _ _).mono ?_; rintro e w' ⟨rfl, rfl⟩)
      go_ret
      exact ⟨by rw [E1.out, b1]; rfl, hX1⟩
theorem spec.MembersOf_any (p : S3) (l : L3) (w : World) (hr : Rd3 w p l) :
    Calls Try.prog 13 #[.agg #[.slice p.x.A p.x.n p.x.c, .slice p.y.A p.y.n p.y.c, .slice p.z.A p.z.n p.z.c]] w fun e w' => ∃ t : Sl, e = .returned (.tuple #[.slice t.A t.n t.c, .int .i64 (okJC l)]) ∧ Own w' w.heap.size (.slice t.A t.n t.c) (membersV l) ∧ Ext w w' := by
  have hX0 := (Ext.refl w).alloc (.cells #[.slice p.x.A p.x.n p.x.c, .slice p.y.A p.y.n p.y.c, .slice p.z.A p.z.n p.z.c] 26)
  have hB0 := Blk.new w 26 (#[.slice p.x.A p.x.n p.x.c, .slice p.y.A p.y.n p.y.c, .slice p.z.A p.z.n p.z.c])
  go_enter Try.func13, Try.ntmps13
  go_wp2_with fail
  refine (spec.IsJury_any p l _ (hr.ext hX0)).mono ?_
  rintro e w1 ⟨rfl, hx1⟩
  have hX1 := hX0.trans hx1
  obtain ⟨q0, q1, q2⟩ := (hB0.ext hx1).c3
  cases hok : okJ l
  · have E1 := hide (show membersV l = [] by unfold membersV; rw [hok]; rfl)
    have E2 := hide (show okJC l = 1 by unfold okJC; rw [hok]; rfl)
    go_wp2
    go_ret2
    exact ⟨⟨none, 0, 0⟩, by rw [E2.out]; rfl, by rw [E1.out]; exact Own.nil_ _ _, hX1⟩
  · have E1 := hide (show membersV l = nz l.x by unfold membersV; rw [hok]; rfl)
    have E2 := hide (show okJC l = 0 by unfold okJC; rw [hok]; rfl)
    have hs := hX1.size
    go_wp2_with (first | (go_at_call 73; refine (impl.seated_any p.x l.x _ (hr.1.ext hX1)).mono ?_; rintro e w2 ⟨t, rfl, ho, hx2⟩) | (go_at_call 74; refine (spec.l15Members_any p l _ (hr.ext hX1)).mono ?_; rintro e w2 ⟨t, rfl, ho, hx2⟩))
    go_ret2
    exact ⟨t, by rw [E2.out]; rfl, by rw [E1.out]; exact ho.mono hs, hX1.trans hx2⟩
set_option maxHeartbeats 1000000 in
theorem spec.LossesBorne_any (p : S3) (l : L3) (m : Int) (w : World) (hr : Rd3 w p l) :
    Calls Try.prog 57 #[.agg #[.slice p.x.A p.x.n p.x.c, .slice p.y.A p.y.n p.y.c, .slice p.z.A p.z.n p.z.c], .int .i64 m] w fun e w' => e = .returned (.tuple #[.int .i64 (lossV l m), .int .i64 (codeC (okJ l) (inB m 1 12))]) ∧ Ext w w' := by
  have hX0 := (Ext.refl w).alloc (.cells #[.slice p.x.A p.x.n p.x.c, .slice p.y.A p.y.n p.y.c, .slice p.z.A p.z.n p.z.c] 26)
  have hB0 := Blk.new w 26 (#[.slice p.x.A p.x.n p.x.c, .slice p.y.A p.y.n p.y.c, .slice p.z.A p.z.n p.z.c])
  have hc := spec.l15Least_any p l m _ (hr.ext hX0)
  cases hok : okJ l
  · rw [hok, show codeC false (inB m 1 12) = 1 from rfl] at hc
    have E1 := hide (show lossV l m = 0 by unfold lossV; rw [hok]; rfl)
    go_enter Try.func57, Try.ntmps57
    go_wp2_with fail
    refine hc.mono ?_
    rintro e w1 ⟨rfl, hx1⟩
    obtain ⟨q0, q1, q2⟩ := (hB0.ext hx1).c3
    go_wp2
    go_ret2
    exact ⟨by rw [E1.out]; rfl, hX0.trans hx1⟩
  · cases hin : inB m 1 12
    · rw [hok, hin, show codeC true false = 2 from rfl] at hc
      have E1 := hide (show lossV l m = 0 by unfold lossV; rw [hok, hin]; rfl)
      go_enter Try.func57, Try.ntmps57
      go_wp2_with fail
      refine hc.mono ?_
      rintro e w1 ⟨rfl, hx1⟩
      obtain ⟨q0, q1, q2⟩ := (hB0.ext hx1).c3
      go_wp2
      go_ret2
      exact ⟨by rw [E1.out]; rfl, hX0.trans hx1⟩
    · rw [hok, hin, show codeC true true = 0 from rfl] at hc
      have E1 := hide (show lossV l m = (if ((nz l.x).length : Int) < m then -1 else (nz l.x).length - m + l.y.length) by unfold lossV; rw [hok, hin]; rfl)
      obtain ⟨m1, m2⟩ := inB_iff.1 hin
      obtain ⟨k1, k2⟩ := okJ_bd hok
      have ey := hide hr.2.1.1
      have k3 : p.y.n ≤ 6 := by rw [hr.2.1.1]; exact k2
      have kz := nz_le l.x
      clear hok hin
      go_enter Try.func57, Try.ntmps57
      go_wp2_with fail
      refine hc.mono ?_
      rintro e w1 ⟨rfl, hx1⟩
      have hX1 := hX0.trans hx1
      have hB1 := hB0.ext hx1
      obtain ⟨q0, q1, q2⟩ := hB1.c3
      go_wp2_with fail
      refine (spec.l15Members_any p l _ (hr.ext hX1)).mono ?_
      rintro e w2 ⟨t, rfl, ho, hx2⟩
      obtain ⟨At, nt, ct⟩ := t
      have ht := hide (show nt = (nz l.x).length from ho.rd.1)
      have k4 : nt ≤ 12 := by have := ht.out; omega
      clear q0 q1 q2 kz k1 k2
      obtain ⟨q0, q1, q2⟩ := (hB1.ext hx2).c3
      by_cases hlt : (nt : Int) < m
      · go_wp2
        go_ret2
        exact ⟨by rw [E1.out, ← ht.out, if_pos hlt]; rfl, hX1.trans hx2⟩
      · go_wp2
        go_ret2
        exact ⟨by rw [E1.out, ← ht.out, ← ey.out, if_neg (show ¬ ((nt : Int) < m) by omega), show codeC true true = (0 : Int) from rfl]; go_num, hX1.trans hx2⟩
set_option maxHeartbeats 1000000 in
theorem spec.MayGoOn_any (p : S3) (l : L3) (m : Int) (w : World) (hr : Rd3 w p l) :
    Calls Try.prog 59 #[.agg #[.slice p.x.A p.x.n p.x.c, .slice p.y.A p.y.n p.y.c, .slice p.z.A p.z.n p.z.c], .int .i64 m] w fun e w' => e = .returned (.tuple #[.bool (mayV l m), .int .i64 (codeC (okJ l) (inB m 1 12))]) ∧ Ext w w' := by
  have hX0 := (Ext.refl w).alloc (.cells #[.slice p.x.A p.x.n p.x.c, .slice p.y.A p.y.n p.y.c, .slice p.z.A p.z.n p.z.c] 26)
  have hB0 := Blk.new w 26 (#[.slice p.x.A p.x.n p.x.c, .slice p.y.A p.y.n p.y.c, .slice p.z.A p.z.n p.z.c])
  have hc := spec.l15Least_any p l m _ (hr.ext hX0)
  cases hok : okJ l
  · rw [hok, show codeC false (inB m 1 12) = 1 from rfl] at hc
    have E1 := hide (show mayV l m = false by unfold mayV; rw [hok]; rfl)
    go_enter Try.func59, Try.ntmps59
    go_wp2_with fail
    refine hc.mono ?_
    rintro e w1 ⟨rfl, hx1⟩
    obtain ⟨q0, q1, q2⟩ := (hB0.ext hx1).c3
    go_wp2
    go_ret2
    exact ⟨by rw [E1.out]; rfl, hX0.trans hx1⟩
  · cases hin : inB m 1 12
    · rw [hok, hin, show codeC true false = 2 from rfl] at hc
      have E1 := hide (show mayV l m = false by unfold mayV; rw [hok, hin]; rfl)
      go_enter Try.func59, Try.ntmps59
      go_wp2_with fail
      refine hc.mono ?_
      rintro e w1 ⟨rfl, hx1⟩
      obtain ⟨q0, q1, q2⟩ := (hB0.ext hx1).c3
      go_wp2
      go_ret2
      exact ⟨by rw [E1.out]; rfl, hX0.trans hx1⟩
    · rw [hok, hin, show codeC true true = 0 from rfl] at hc
      have E1 := hide (show mayV l m = decide (m ≤ ((nz l.x).length : Int)) by unfold mayV; rw [hok, hin]; rfl)
      clear hok hin
      go_enter Try.func59, Try.ntmps59
      go_wp2_with fail
      refine hc.mono ?_
      rintro e w1 ⟨rfl, hx1⟩
      have hX1 := hX0.trans hx1
      have hB1 := hB0.ext hx1
      obtain ⟨q0, q1, q2⟩ := hB1.c3
      go_wp2_with fail
      refine (spec.l15Members_any p l _ (hr.ext hX1)).mono ?_
      rintro e w2 ⟨t, rfl, ho, hx2⟩
      obtain ⟨At, nt, ct⟩ := t
      have ht := hide (show nt = (nz l.x).length from ho.rd.1)
      go_wp2
      go_ret2
      exact ⟨by rw [E1.out, ← ht.out]; rfl, hX1.trans hx2⟩
theorem impl.MembersOf_any (p : S3) (l : L3) (w : World) (hr : Rd3 w p l) :
    Calls Try.prog 12 #[.agg #[.slice p.x.A p.x.n p.x.c, .slice p.y.A p.y.n p.y.c, .slice p.z.A p.z.n p.z.c]] w fun e w' => ∃ t : Sl, e = .returned (.tuple #[.slice t.A t.n t.c, .int .i64 (okJC l)]) ∧ Own w' w.heap.size (.slice t.A t.n t.c) (membersV l) ∧ Ext w w' := by
  have hX0 := (Ext.refl w).alloc (.cells #[.slice p.x.A p.x.n p.x.c, .slice p.y.A p.y.n p.y.c, .slice p.z.A p.z.n p.z.c] 26)
  have hB0 := Blk.new w 26 (#[.slice p.x.A p.x.n p.x.c, .slice p.y.A p.y.n p.y.c, .slice p.z.A p.z.n p.z.c])
  go_enter Try.func12, Try.ntmps12
  go_wp2_with fail
  refine (impl.IsJury_any p l _ (hr.ext hX0)).mono ?_
  rintro e w1 ⟨rfl, hx1⟩
  have hX1 := hX0.trans hx1
  obtain ⟨q0, q1, q2⟩ := (hB0.ext hx1).c3
  cases hok : okJ l
  · have E1 := hide (show membersV l = [] by unfold membersV; rw [hok]; rfl)
    have E2 := hide (show okJC l = 1 by unfold okJC; rw [hok]; rfl)
    go_wp2
    go_ret2
    exact ⟨⟨none, 0, 0⟩, by rw [E2.out]; rfl, by rw [E1.out]; exact Own.nil_ _ _, hX1⟩
  · have E1 := hide (show membersV l = nz l.x by unfold membersV; rw [hok]; rfl)
    have E2 := hide (show okJC l = 0 by unfold okJC; rw [hok]; rfl)
    have hs := hX1.size
    go_wp2_with (first | (go_at_call 73; refine (impl.seated_any p.x l.x _ (hr.1.ext hX1)).mono ?_; rintro e w2 ⟨t, rfl, ho, hx2⟩) | (go_at_call 74; refine (spec.l15Members_any p l _ (hr.ext hX1)).mono ?_; rintro e w2 ⟨t, rfl, ho, hx2⟩))
    go_ret2
    exact ⟨t, by rw [E2.out]; rfl, by rw [E1.out]; exact ho.mono hs, hX1.trans hx2⟩
set_option maxHeartbeats 1000000 in
theorem impl.LossesBorne_any (p : S3) (l : L3) (m : Int) (w : World) (hr : Rd3 w p l) :
    Calls Try.prog 56 #[.agg #[.slice p.x.A p.x.n p.x.c, .slice p.y.A p.y.n p.y.c, .slice p.z.A p.z.n p.z.c], .int .i64 m] w fun e w' => e = .returned (.tuple #[.int .i64 (lossV l m), .int .i64 (codeC (okJ l) (inB m 1 12))]) ∧ Ext w w' := by
  have hX0 := (Ext.refl w).alloc (.cells #[.slice p.x.A p.x.n p.x.c, .slice p.y.A p.y.n p.y.c, .slice p.z.A p.z.n p.z.c] 26)
  have hB0 := Blk.new w 26 (#[.slice p.x.A p.x.n p.x.c, .slice p.y.A p.y.n p.y.c, .slice p.z.A p.z.n p.z.c])
  have hc := impl.leastCode_any p l m _ (hr.ext hX0)
  cases hok : okJ l
  · rw [hok, show codeC false (inB m 1 12) = 1 from rfl] at hc
    have E1 := hide (show lossV l m = 0 by unfold lossV; rw [hok]; rfl)
    go_enter Try.func56, Try.ntmps56
    go_wp2_with fail
    refine hc.mono ?_
    rintro e w1 ⟨rfl, hx1⟩
    obtain ⟨q0, q1, q2⟩ := (hB0.ext hx1).c3
    go_wp2
    go_ret2
    exact ⟨by rw [E1.out]; rfl, hX0.trans hx1⟩
  · cases hin : inB m 1 12
    · rw [hok, hin, show codeC true false = 2 from rfl] at hc
      have E1 := hide (show lossV l m = 0 by unfold lossV; rw [hok, hin]; rfl)
      go_enter Try.func56, Try.ntmps56
      go_wp2_with fail
      refine hc.mono ?_
      rintro e w1 ⟨rfl, hx1⟩
      obtain ⟨q0, q1, q2⟩ := (hB0.ext hx1).c3
      go_wp2
      go_ret2
      exact ⟨by rw [E1.out]; rfl, hX0.trans hx1⟩
    · rw [hok, hin, show codeC true true = 0 from rfl] at hc
      have E1 := hide (show lossV l m = (if ((nz l.x).length : Int) < m then -1 else (nz l.x).length - m + l.y.length) by unfold lossV; rw [hok, hin]; rfl)
      obtain ⟨m1, m2⟩ := inB_iff.1 hin
      obtain ⟨k1, k2⟩ := okJ_bd hok
      have ey := hide hr.2.1.1
      have k3 : p.y.n ≤ 6 := by rw [hr.2.1.1]; exact k2
      have kz := nz_le l.x
      clear hok hin
      go_enter Try.func56, Try.ntmps56
      go_wp2_with fail
      refine hc.mono ?_
      rintro e w1 ⟨rfl, hx1⟩
      have hX1 := hX0.trans hx1
      have hB1 := hB0.ext hx1
      obtain ⟨q0, q1, q2⟩ := hB1.c3
      go_wp2_with fail
      refine (impl.seated_any p.x l.x _ (hr.1.ext hX1)).mono ?_
      rintro e w2 ⟨t, rfl, ho, hx2⟩
      obtain ⟨At, nt, ct⟩ := t
      have ht := hide (show nt = (nz l.x).length from ho.rd.1)
      have k4 : nt ≤ 12 := by have := ht.out; omega
      clear q0 q1 q2 kz k1 k2
      obtain ⟨q0, q1, q2⟩ := (hB1.ext hx2).c3
      by_cases hlt : (nt : Int) < m
      · go_wp2
        go_ret2
        exact ⟨by rw [E1.out, ← ht.out, if_pos hlt]; rfl, hX1.trans hx2⟩
      · go_wp2
        go_ret2
        exact ⟨by rw [E1.out, ← ht.out, ← ey.out, if_neg (show ¬ ((nt : Int) < m) by omega), show codeC true true = (0 : Int) from rfl]; go_num, hX1.trans hx2⟩
set_option maxHeartbeats 1000000 in
theorem impl.MayGoOn_any (p : S3) (l : L3) (m : Int) (w : World) (hr : Rd3 w p l) :
    Calls Try.prog 58 #[.agg #[.slice p.x.A p.x.n p.x.c, .slice p.y.A p.y.n p.y.c, .slice p.z.A p.z.n p.z.c], .int .i64 m] w fun e w' => e = .returned (.tuple #[.bool (mayV l m), .int .i64 (codeC (okJ l) (inB m 1 12))]) ∧ Ext w w' := by
  have hX0 := (Ext.refl w).alloc (.cells #[.slice p.x.A p.x.n p.x.c, .slice p.y.A p.y.n p.y.c, .slice p.z.A p.z.n p.z.c] 26)
  have hB0 := Blk.new w 26 (#[.slice p.x.A p.x.n p.x.c, .slice p.y.A p.y.n p.y.c, .slice p.z.A p.z.n p.z.c])
  have hc := impl.leastCode_any p l m _ (hr.ext hX0)
  cases hok : okJ l
  · rw [hok, show codeC false (inB m 1 12) = 1 from rfl] at hc
    have E1 := hide (show mayV l m = false by unfold mayV; rw [hok]; rfl)
    go_enter Try.func58, Try.ntmps58
    go_wp2_with fail
    refine hc.mono ?_
    rintro e w1 ⟨rfl, hx1⟩
    obtain ⟨q0, q1, q2⟩ := (hB0.ext hx1).c3
    go_wp2
    go_ret2
    exact ⟨by rw [E1.out]; rfl, hX0.trans hx1⟩
  · cases hin : inB m 1 12
    · rw [hok, hin, show codeC true false = 2 from rfl] at hc
      have E1 := hide (show mayV l m = false by unfold mayV; rw [hok, hin]; rfl)
      go_enter Try.func58, Try.ntmps58
      go_wp2_with fail
      refine hc.mono ?_
      rintro e w1 ⟨rfl, hx1⟩
      obtain ⟨q0, q1, q2⟩ := (hB0.ext hx1).c3
      go_wp2
      go_ret2
      exact ⟨by rw [E1.out]; rfl, hX0.trans hx1⟩
    · rw [hok, hin, show codeC true true = 0 from rfl] at hc
      have E1 := hide (show mayV l m = decide (m ≤ ((nz l.x).length : Int)) by unfold mayV; rw [hok, hin]; rfl)
      clear hok hin
      go_enter Try.func58, Try.ntmps58
      go_wp2_with fail
      refine hc.mono ?_
      rintro e w1 ⟨rfl, hx1⟩
      have hX1 := hX0.trans hx1
      have hB1 := hB0.ext hx1
      obtain ⟨q0, q1, q2⟩ := hB1.c3
      go_wp2_with fail
      refine (impl.seated_any p.x l.x _ (hr.1.ext hX1)).mono ?_
      rintro e w2 ⟨t, rfl, ho, hx2⟩
      obtain ⟨At, nt, ct⟩ := t
      have ht := hide (show nt = (nz l.x).length from ho.rd.1)
      go_wp2
      go_ret2
      exact ⟨by rw [E1.out, ← ht.out]; rfl, hX1.trans hx2⟩
set_option maxHeartbeats 1000000 in
theorem impl.RoleOf_any (p : S3) (l : L3) (x : Int) (w : World) (hr : Rd3 w p l) :
    Calls Try.prog 61 #[.agg #[.slice p.x.A p.x.n p.x.c, .slice p.y.A p.y.n p.y.c, .slice p.z.A p.z.n p.z.c], .int .i64 x] w fun e w' => e = .returned (.tuple #[.int .i64 (roleV l x), .int .i64 (codeC (okJ l) (inB x 1 1000000))]) ∧ Ext w w' := by
  have hX0 := (Ext.refl w).alloc (.cells #[.slice p.x.A p.x.n p.x.c, .slice p.y.A p.y.n p.y.c, .slice p.z.A p.z.n p.z.c] 26)
  have hB0 := Blk.new w 26 (#[.slice p.x.A p.x.n p.x.c, .slice p.y.A p.y.n p.y.c, .slice p.z.A p.z.n p.z.c])
  go_enter Try.func61, Try.ntmps61
  go_wp2_with fail
  refine (impl.IsJury_any p l _ (hr.ext hX0)).mono ?_
  rintro e w1 ⟨rfl, hx1⟩
  have hX1 := hX0.trans hx1
  obtain ⟨q0, q1, q2⟩ := (hB0.ext hx1).c3
  cases hok : okJ l
  · have E1 := hide (show roleV l x = 0 by unfold roleV; rw [hok]; rfl)
    have E2 := hide (show codeC (okJ l) (inB x 1 1000000) = 1 by rw [hok]; rfl)
    go_wp2
    go_ret2
    exact ⟨by rw [E1.out, E2.out]; rfl, hX1⟩
  · cases hin : inB x 1 1000000
    · have E1 := hide (show roleV l x = 0 by unfold roleV; rw [hok, hin]; rfl)
      have E2 := hide (show codeC (okJ l) (inB x 1 1000000) = 2 by rw [hok, hin]; rfl)
      go_wp2_with (go_at_call 80; refine (impl.isNumber_any _ _).mono ?_; rintro e w' ⟨rfl, rfl⟩)
      go_ret2
      exact ⟨by rw [E1.out, E2.out]; rfl, hX1⟩
    · have E1 := hide (show roleV l x = (if hasB l.x x = true then 1 else if hasB l.y x = true then 2 else if hasB l.z x = true then 3 else 0) by unfold roleV; rw [hok, hin]; rfl)
      have E2 := hide (show codeC (okJ l) (inB x 1 1000000) = 0 by rw [hok, hin]; rfl)
      go_wp2_with fail
      refine (impl.isNumber_any _ _).mono ?_
      rintro e w' ⟨rfl, rfl⟩
      go_wp2_with fail
      refine (impl.has_any p.x l.x _ _ (hr.1.ext hX1)).mono ?_
      rintro e w' ⟨rfl, rfl⟩
      cases b1 : hasB l.x x
      · go_wp2_with fail
        refine (impl.has_any p.y l.y _ _ (hr.2.1.ext hX1)).mono ?_
        rintro e w' ⟨rfl, rfl⟩
        cases b2 : hasB l.y x
        · go_wp2_with fail
          refine (impl.has_any p.z l.z _ _ (hr.2.2.1.ext hX1)).mono ?_
          rintro e w' ⟨rfl, rfl⟩
          cases b3 : hasB l.z x
          all_goals
            go_wp2
            go_ret2
            exact ⟨by rw [E1.out, E2.out, b1, b2, b3]; rfl, hX1⟩
        · go_wp2
          go_ret2
          exact ⟨by rw [E1.out, E2.out, b1, b2]; rfl, hX1⟩
      · go_wp2
        go_ret2
        exact ⟨by rw [E1.out, E2.out, b1]; rfl, hX1⟩
set_option maxHeartbeats 1000000 in
theorem spec.RoleOf_any (p : S3) (l : L3) (x : Int) (w : World) (hr : Rd3 w p l) :
    Calls Try.prog 62 #[.agg #[.slice p.x.A p.x.n p.x.c, .slice p.y.A p.y.n p.y.c, .slice p.z.A p.z.n p.z.c], .int .i64 x] w fun e w' => e = .returned (.tuple #[.int .i64 (roleV l x), .int .i64 (codeC (okJ l) (inB x 1 1000000))]) ∧ Ext w w' := by
  have hX0 := (Ext.refl w).alloc (.cells #[.slice p.x.A p.x.n p.x.c, .slice p.y.A p.y.n p.y.c, .slice p.z.A p.z.n p.z.c] 26)
  have hB0 := Blk.new w 26 (#[.slice p.x.A p.x.n p.x.c, .slice p.y.A p.y.n p.y.c, .slice p.z.A p.z.n p.z.c])
  have hc := spec.l15Code_any p l x _ (hr.ext hX0)
  cases hok : okJ l
  · rw [hok, show codeC false (inB x 1 1000000) = 1 from rfl] at hc
    have E1 := hide (show roleV l x = 0 by unfold roleV; rw [hok]; rfl)
    go_enter Try.func62, Try.ntmps62
    go_wp2_with fail
    refine hc.mono ?_
    rintro e w1 ⟨rfl, hx1⟩
    obtain ⟨q0, q1, q2⟩ := (hB0.ext hx1).c3
    go_wp2
    go_ret2
    exact ⟨by rw [E1.out]; rfl, hX0.trans hx1⟩
  · cases hin : inB x 1 1000000
    · rw [hok, hin, show codeC true false = 2 from rfl] at hc
      have E1 := hide (show roleV l x = 0 by unfold roleV; rw [hok, hin]; rfl)
      go_enter Try.func62, Try.ntmps62
      go_wp2_with fail
      refine hc.mono ?_
      rintro e w1 ⟨rfl, hx1⟩
      obtain ⟨q0, q1, q2⟩ := (hB0.ext hx1).c3
      go_wp2
      go_ret2
      exact ⟨by rw [E1.out]; rfl, hX0.trans hx1⟩
    · rw [hok, hin, show codeC true true = 0 from rfl] at hc
      have E1 := hide (show roleV l x = (if hasB l.x x = true then 1 else if hasB l.y x = true then 2 else if hasB l.z x = true then 3 else 0) by unfold roleV; rw [hok, hin]; rfl)
      go_enter Try.func62, Try.ntmps62
      go_wp2_with fail
      refine hc.mono ?_
      rintro e w1 ⟨rfl, hx1⟩
      have hX1 := hX0.trans hx1
      obtain ⟨q0, q1, q2⟩ := (hB0.ext hx1).c3
      go_wp2_with fail
      refine (spec.l01Has_any p.x l.x _ _ (hr.1.ext hX1)).mono ?_
      rintro e w' ⟨rfl, rfl⟩
      cases b1 : hasB l.x x
      · go_wp2_with fail
        refine (spec.l01Has_any p.y l.y _ _ (hr.2.1.ext hX1)).mono ?_
        rintro e w' ⟨rfl, rfl⟩
        cases b2 : hasB l.y x
        · go_wp2_with fail
          refine (spec.l01Has_any p.z l.z _ _ (hr.2.2.1.ext hX1)).mono ?_
          rintro e w' ⟨rfl, rfl⟩
          cases b3 : hasB l.z x
          all_goals
            go_wp2
            go_ret2
            exact ⟨by rw [E1.out, b1, b2, b3]; rfl, hX1⟩
        · go_wp2
          go_ret2
          exact ⟨by rw [E1.out, b1, b2]; rfl, hX1⟩
      · go_wp2
        go_ret2
        exact ⟨by rw [E1.out, b1]; rfl, hX1⟩
end Go.Proofs.Ytkfjphjmffbpiaa.mem
