/-
  Contracts of both programs' CountKinds.
-/
import Derived.Test.YtmcnnbjgehmmoaaCauC
import Derived.Test.YtmcnnbjgehmmoaaInts
namespace Go.Proofs.Ytmcnnbjgehmmoaa.mem
open Go.ChangeShapes Go.WideShapes Go.ChangeAt Go.RowKit

def cntB (us : List ByteArray) (j : Int) (t : Ti) : Bool := cauB us t && (t.k == j)
def cntK (us : List ByteArray) (ts : List Ti) (j : Int) : Int := ((ts.filter (cntB us j)).length : Int)
def cntL (ts : List Ti) (us : List ByteArray) : List Int := if okK ts us = true then [cntK us ts 0, cntK us ts 1, cntK us ts 2, cntK us ts 3] else []
def okcC (ts : List Ti) (us : List ByteArray) : Int := if okK ts us = true then 0 else 1
theorem cntK_le (us : List ByteArray) (ts : List Ti) (j : Int) : 0 ≤ cntK us ts j ∧ cntK us ts j ≤ ts.length := by
  unfold cntK
  have := List.length_filter_le (cntB us j) ts
  omega
theorem cntK_more {us : List ByteArray} {ts : List Ti} {k : Nat} {t : Ti} (h : ts[k]? = some t) (j : Int) : cntK us (ts.take (k + 1)) j = cntK us (ts.take k) j + (if cauB us t = true ∧ t.k = j then 1 else 0) := by
  have hl := List.getElem?_eq_some_iff.1 h
  have e : ts.take (k + 1) = ts.take k ++ [t] := by
    rw [List.take_succ_eq_append_getElem hl.1, hl.2]
  unfold cntK
  rw [e, List.filter_append, List.length_append]
  by_cases hc : cauB us t = true ∧ t.k = j
  · have : cntB us j t = true := by unfold cntB; simp [hc.1, hc.2]
    simp [this, hc]
  · have : cntB us j t = false := by
      unfold cntB
      cases h1 : cauB us t
      · rfl
      · simp only [Bool.true_and]
        exact beq_eq_false_iff_ne.2 (fun h2 => hc ⟨h1, h2⟩)
    rw [if_neg hc]
    simp [this]
theorem tieB_ok {ts : List Ti} (h : tieB ts = true) {k : Nat} {t : Ti} (hk : ts[k]? = some t) : okT t = true := by
  cases ho : okT t
  · rw [tieB_no1 hk ho] at h
    cases h
  · rfl
theorem okK_tie {ts : List Ti} {us : List ByteArray} (h : okK ts us = true) : tieB ts = true := by
  unfold okK at h
  simp only [Bool.and_eq_true] at h
  exact h.1
theorem okT_kind {t : Ti} (h : okT t = true) : t.k = 0 ∨ t.k = 1 ∨ t.k = 2 ∨ t.k = 3 := by
  unfold okT at h
  simp only [Bool.and_eq_true] at h
  have := inB_iff.1 h.2.2
  omega
theorem run_make4 (w : World) : (Instr.makeSlice 28 (.int .i64 4) (.int .i64 4)).run Try.prog w = .ok (.slice (some ⟨w.heap.size, 0, none⟩) 4 4) (w.alloc (.cells #[.int .i64 0, .int .i64 0, .int .i64 0, .int .i64 0] 2)) := by
  have h := run_make_row' (P := Try.prog) 28 2 (.int .i64 0) 8 Try.underlying28 ints_info rfl .i64 .i64 4 (by omega) (by omega) w
  rw [show madeCells #[Value.int .i64 0] 4 = #[.int .i64 0, .int .i64 0, .int .i64 0, .int .i64 0] from Array.toList_inj.1 (by rw [toList_madeCells_one]; rfl)] at h
  exact h
theorem four_own {w : World} {lo g : Nat} {a b c d : Int} (h : Blk w g 2 #[.int .i64 a, .int .i64 b, .int .i64 c, .int .i64 d]) (hl : lo ≤ g) : Own w lo (.slice (some ⟨g, 0, none⟩) 4 4) [a, b, c, d] :=
  Own.of_blk h hl 4 4 rfl (Nat.le_refl _) (by decide) rfl (by decide) rfl
set_option maxHeartbeats 4000000 in
theorem impl.CountKinds_any (s : Sl) (ts : List Ti) (q : Sl) (us : List ByteArray) (w : World) (hr : RdT w s.A s.n ts) (hq : RdW w q.A q.n us) (hc : cap1 s) :
    Calls Try.prog 38 #[.slice s.A s.n s.c, .slice q.A q.n q.c] w fun e w' => ∃ v : Sl, e = .returned (.tuple #[.slice v.A v.n v.c, .int .i64 (okcC ts us)]) ∧ Own w' w.heap.size (.slice v.A v.n v.c) (cntL ts us) ∧ Ext w w' := by
  obtain ⟨A, n, c⟩ := s
  obtain ⟨B, m, d⟩ := q
  have ha := impl.areCase_any ⟨A, n, c⟩ ts ⟨B, m, d⟩ us w hr hc hq
  cases hok : okK ts us
  · have E1 := hide (show okcC ts us = 1 by unfold okcC; rw [hok]; rfl)
    have E2 := hide (show cntL ts us = [] by unfold cntL; rw [hok]; rfl)
    rw [hok] at ha
    go_enter Try.func38, Try.ntmps38
    go_wp2_with fail
    refine ha.mono ?_
    rintro e w1 ⟨rfl, hx1⟩
    go_wp2
    go_ret2
    exact ⟨⟨none, 0, 0⟩, by rw [E1.out]; rfl, by rw [E2.out]; exact Own.nil_ _ _, hx1⟩
  have hk := okK_tie hok
  have E1 := hide (show okcC ts us = 0 by unfold okcC; rw [hok]; rfl)
  have E2 := hide (show cntL ts us = [cntK us ts 0, cntK us ts 1, cntK us ts 2, cntK us ts 3] by unfold cntL; rw [hok]; rfl)
  rw [hok] at ha
  clear hok
  simp only at hr hq
  have hn := hr.2.1
  have hl := hide hr.1
  go_enter Try.func38, Try.ntmps38
  go_wp2_with fail
  refine ha.mono ?_
  rintro e w0 ⟨rfl, hx0⟩
  have hmk := run_make4
  have hz0 := hx0.size
  go_wp2
  clear hmk
  go_loopw [8, 16] (fun _ i wr => ∃ k : Nat, k ≤ n ∧ i = .int .i64 k ∧ Blk wr w0.heap.size 2 (#[.int .i64 (cntK us (ts.take k) 0), .int .i64 (cntK us (ts.take k) 1), .int .i64 (cntK us (ts.take k) 2), .int .i64 (cntK us (ts.take k) 3)]) ∧ Ext w wr) (fun _ i _ => n - (intOf i).toNat)
  case atStart => exact ⟨0, by omega, rfl, Blk.new w0 _ _, hx0.alloc _⟩
  case round =>
    obtain ⟨k, hk1, rfl, hb, hx⟩ := hrel
    by_cases hlt : k < n
    · obtain ⟨b, off, t, rfl, hbl, hct, hts, ht⟩ := (hr.ext hx).el hlt
      have m0 := hide (cntK_more (us := us) ht.out 0)
      have m1 := hide (cntK_more (us := us) ht.out 1)
      have m2 := hide (cntK_more (us := us) ht.out 2)
      have m3 := hide (cntK_more (us := us) ht.out 3)
      have hkk := hide (okT_kind (tieB_ok hk ht.out))
      have hlk : (ts.take k).length = k := by rw [List.length_take]; have := hl.out; omega
      have l0 := cntK_le us (ts.take k) 0
      have l1 := cntK_le us (ts.take k) 1
      have l2 := cntK_le us (ts.take k) 2
      have l3 := cntK_le us (ts.take k) 3
      rw [hlk] at l0 l1 l2 l3
      clear hlk
      revert hb m0 m1 m2 m3 l0 l1 l2 l3
      generalize cntK us (ts.take k) 0 = a0
      generalize cntK us (ts.take k) 1 = a1
      generalize cntK us (ts.take k) 2 = a2
      generalize cntK us (ts.take k) 3 = a3
      intro hb m0 m1 m2 m3 l0 l1 l2 l3
      have hge := hb.lt
      cases e2 : cauB us t
      · have n0 := hide (m0.out.trans (by rw [if_neg (by rw [e2]; simp), Int.add_zero]))
        have n1 := hide (m1.out.trans (by rw [if_neg (by rw [e2]; simp), Int.add_zero]))
        have n2 := hide (m2.out.trans (by rw [if_neg (by rw [e2]; simp), Int.add_zero]))
        have n3 := hide (m3.out.trans (by rw [if_neg (by rw [e2]; simp), Int.add_zero]))
        clear m0 m1 m2 m3
        obtain ⟨tn, tz, tk, tf⟩ := t
        obtain ⟨c0, c1, c2, c3⟩ := hct
        simp only at c0 c1 c2 c3 hts
        have hX := Blk.new wr 68 (#[.int .i64 tn, .string tz, .int .i64 tk, .bool tf])
        have hx0' := hx.alloc (.cells #[.int .i64 tn, .string tz, .int .i64 tk, .bool tf] 68)
        have hb0 := hb.alloc (.cells #[.int .i64 tn, .string tz, .int .i64 tk, .bool tf] 68)
        obtain ⟨q0, q1, q2, q3⟩ := hX.c4
        go_wp2_with fail
        refine (isCause_any ⟨tn, tz, tk, tf⟩ ⟨B, m, d⟩ us _ (hq.ext hx0')).mono ?_
        rintro e w1 ⟨rfl, hx1⟩
        clear q0 q1 q2 q3
        have hb1 := hb0.ext hx1
        have hx2 := hx0'.trans hx1
        go_wp2
        go_roundw
        case rel => exact ⟨k + 1, by omega, by go_num, by rw [n0.out, n1.out, n2.out, n3.out]; exact hb1, hx2⟩
        case measure => simp [intOf]; omega
      rcases hkk.out with hk0 | hk0 | hk0 | hk0
      · have n0 := hide (m0.out.trans (by rw [if_pos ⟨e2, hk0⟩]))
        have n1 := hide (m1.out.trans (by rw [if_neg (fun h => by have := h.2; omega), Int.add_zero]))
        have n2 := hide (m2.out.trans (by rw [if_neg (fun h => by have := h.2; omega), Int.add_zero]))
        have n3 := hide (m3.out.trans (by rw [if_neg (fun h => by have := h.2; omega), Int.add_zero]))
        clear m0 m1 m2 m3
        obtain ⟨tn, tz, tk, tf⟩ := t
        simp only at hk0
        subst hk0
        obtain ⟨c0, c1, c2, c3⟩ := hct
        simp only at c0 c1 c2 c3 hts
        have hX := Blk.new wr 68 (#[.int .i64 tn, .string tz, .int .i64 0, .bool tf])
        have hx0' := hx.alloc (.cells #[.int .i64 tn, .string tz, .int .i64 0, .bool tf] 68)
        have hb0 := hb.alloc (.cells #[.int .i64 tn, .string tz, .int .i64 0, .bool tf] 68)
        obtain ⟨q0, q1, q2, q3⟩ := hX.c4
        go_wp2_with fail
        refine (isCause_any ⟨tn, tz, 0, tf⟩ ⟨B, m, d⟩ us _ (hq.ext hx0')).mono ?_
        rintro e w1 ⟨rfl, hx1⟩
        clear q0 q1 q2 q3
        have hb1 := hb0.ext hx1
        have hx2 := hx0'.trans hx1
        obtain ⟨q0, q1, q2, q3⟩ := (hX.ext hx1).c4
        have g0 := hb1.get 0 _ rfl
        have g1 := hb1.frozen 0
        go_wp2
        go_roundw
        case rel => exact ⟨k + 1, by omega, by go_num, by rw [n0.out, n1.out, n2.out, n3.out]; exact hb1.set_ 0 _, hx2.off _ 0 (by omega) _⟩
        case measure => simp [intOf]; omega
      · have n0 := hide (m0.out.trans (by rw [if_neg (fun h => by have := h.2; omega), Int.add_zero]))
        have n1 := hide (m1.out.trans (by rw [if_pos ⟨e2, hk0⟩]))
        have n2 := hide (m2.out.trans (by rw [if_neg (fun h => by have := h.2; omega), Int.add_zero]))
        have n3 := hide (m3.out.trans (by rw [if_neg (fun h => by have := h.2; omega), Int.add_zero]))
        clear m0 m1 m2 m3
        obtain ⟨tn, tz, tk, tf⟩ := t
        simp only at hk0
        subst hk0
        obtain ⟨c0, c1, c2, c3⟩ := hct
        simp only at c0 c1 c2 c3 hts
        have hX := Blk.new wr 68 (#[.int .i64 tn, .string tz, .int .i64 1, .bool tf])
        have hx0' := hx.alloc (.cells #[.int .i64 tn, .string tz, .int .i64 1, .bool tf] 68)
        have hb0 := hb.alloc (.cells #[.int .i64 tn, .string tz, .int .i64 1, .bool tf] 68)
        obtain ⟨q0, q1, q2, q3⟩ := hX.c4
        go_wp2_with fail
        refine (isCause_any ⟨tn, tz, 1, tf⟩ ⟨B, m, d⟩ us _ (hq.ext hx0')).mono ?_
        rintro e w1 ⟨rfl, hx1⟩
        clear q0 q1 q2 q3
        have hb1 := hb0.ext hx1
        have hx2 := hx0'.trans hx1
        obtain ⟨q0, q1, q2, q3⟩ := (hX.ext hx1).c4
        have g0 := hb1.get 1 _ rfl
        have g1 := hb1.frozen 1
        go_wp2
        go_roundw
        case rel => exact ⟨k + 1, by omega, by go_num, by rw [n0.out, n1.out, n2.out, n3.out]; exact hb1.set_ 1 _, hx2.off _ 1 (by omega) _⟩
        case measure => simp [intOf]; omega
      · have n0 := hide (m0.out.trans (by rw [if_neg (fun h => by have := h.2; omega), Int.add_zero]))
        have n1 := hide (m1.out.trans (by rw [if_neg (fun h => by have := h.2; omega), Int.add_zero]))
        have n2 := hide (m2.out.trans (by rw [if_pos ⟨e2, hk0⟩]))
        have n3 := hide (m3.out.trans (by rw [if_neg (fun h => by have := h.2; omega), Int.add_zero]))
        clear m0 m1 m2 m3
        obtain ⟨tn, tz, tk, tf⟩ := t
        simp only at hk0
        subst hk0
        obtain ⟨c0, c1, c2, c3⟩ := hct
        simp only at c0 c1 c2 c3 hts
        have hX := Blk.new wr 68 (#[.int .i64 tn, .string tz, .int .i64 2, .bool tf])
        have hx0' := hx.alloc (.cells #[.int .i64 tn, .string tz, .int .i64 2, .bool tf] 68)
        have hb0 := hb.alloc (.cells #[.int .i64 tn, .string tz, .int .i64 2, .bool tf] 68)
        obtain ⟨q0, q1, q2, q3⟩ := hX.c4
        go_wp2_with fail
        refine (isCause_any ⟨tn, tz, 2, tf⟩ ⟨B, m, d⟩ us _ (hq.ext hx0')).mono ?_
        rintro e w1 ⟨rfl, hx1⟩
        clear q0 q1 q2 q3
        have hb1 := hb0.ext hx1
        have hx2 := hx0'.trans hx1
        obtain ⟨q0, q1, q2, q3⟩ := (hX.ext hx1).c4
        have g0 := hb1.get 2 _ rfl
        have g1 := hb1.frozen 2
        go_wp2
        go_roundw
        case rel => exact ⟨k + 1, by omega, by go_num, by rw [n0.out, n1.out, n2.out, n3.out]; exact hb1.set_ 2 _, hx2.off _ 2 (by omega) _⟩
        case measure => simp [intOf]; omega
      · have n0 := hide (m0.out.trans (by rw [if_neg (fun h => by have := h.2; omega), Int.add_zero]))
        have n1 := hide (m1.out.trans (by rw [if_neg (fun h => by have := h.2; omega), Int.add_zero]))
        have n2 := hide (m2.out.trans (by rw [if_neg (fun h => by have := h.2; omega), Int.add_zero]))
        have n3 := hide (m3.out.trans (by rw [if_pos ⟨e2, hk0⟩]))
        clear m0 m1 m2 m3
        obtain ⟨tn, tz, tk, tf⟩ := t
        simp only at hk0
        subst hk0
        obtain ⟨c0, c1, c2, c3⟩ := hct
        simp only at c0 c1 c2 c3 hts
        have hX := Blk.new wr 68 (#[.int .i64 tn, .string tz, .int .i64 3, .bool tf])
        have hx0' := hx.alloc (.cells #[.int .i64 tn, .string tz, .int .i64 3, .bool tf] 68)
        have hb0 := hb.alloc (.cells #[.int .i64 tn, .string tz, .int .i64 3, .bool tf] 68)
        obtain ⟨q0, q1, q2, q3⟩ := hX.c4
        go_wp2_with fail
        refine (isCause_any ⟨tn, tz, 3, tf⟩ ⟨B, m, d⟩ us _ (hq.ext hx0')).mono ?_
        rintro e w1 ⟨rfl, hx1⟩
        clear q0 q1 q2 q3
        have hb1 := hb0.ext hx1
        have hx2 := hx0'.trans hx1
        obtain ⟨q0, q1, q2, q3⟩ := (hX.ext hx1).c4
        have g0 := hb1.get 3 _ rfl
        have g1 := hb1.frozen 3
        go_wp2
        go_roundw
        case rel => exact ⟨k + 1, by omega, by go_num, by rw [n0.out, n1.out, n2.out, n3.out]; exact hb1.set_ 3 _, hx2.off _ 3 (by omega) _⟩
        case measure => simp [intOf]; omega
    · have e : k = n := by omega
      subst e
      rw [List.take_of_length_le (by rw [← hl.out]; omega)] at hb
      go_wp2
      go_ret2
      exact ⟨⟨some ⟨w0.heap.size, 0, none⟩, 4, 4⟩, by rw [E1.out]; rfl, by rw [E2.out]; exact four_own hb hz0, hx⟩
set_option maxHeartbeats 4000000 in
theorem spec.CountKinds_any (s : Sl) (ts : List Ti) (q : Sl) (us : List ByteArray) (w : World) (hr : RdT w s.A s.n ts) (hq : RdW w q.A q.n us) :
    Calls Try.prog 39 #[.slice s.A s.n s.c, .slice q.A q.n q.c] w fun e w' => ∃ v : Sl, e = .returned (.tuple #[.slice v.A v.n v.c, .int .i64 (okcC ts us)]) ∧ Own w' w.heap.size (.slice v.A v.n v.c) (cntL ts us) ∧ Ext w w' := by
  obtain ⟨A, n, c⟩ := s
  obtain ⟨B, m, d⟩ := q
  have ha := spec.l13Code_any ⟨A, n, c⟩ ts ⟨B, m, d⟩ us 1 w hr hq
  cases hok : okK ts us
  · have E1 := hide (show okcC ts us = 1 by unfold okcC; rw [hok]; rfl)
    have E2 := hide (show cntL ts us = [] by unfold cntL; rw [hok]; rfl)
    rw [codC_1 1 hok] at ha
    go_enter Try.func39, Try.ntmps39
    go_wp2_with fail
    refine ha.mono ?_
    rintro e w1 ⟨rfl, hx1⟩
    go_wp2
    go_ret2
    exact ⟨⟨none, 0, 0⟩, by rw [E1.out]; rfl, by rw [E2.out]; exact Own.nil_ _ _, hx1⟩
  have hk := okK_tie hok
  have E1 := hide (show okcC ts us = 0 by unfold okcC; rw [hok]; rfl)
  have E2 := hide (show cntL ts us = [cntK us ts 0, cntK us ts 1, cntK us ts 2, cntK us ts 3] by unfold cntL; rw [hok]; rfl)
  rw [codC_0 hok (by decide)] at ha
  clear hok
  simp only at hr hq
  have hn := hr.2.1
  have hl := hide hr.1
  go_enter Try.func39, Try.ntmps39
  go_wp2_with fail
  refine ha.mono ?_
  rintro e w0 ⟨rfl, hx0⟩
  have hmk := run_make4
  have hz0 := hx0.size
  go_wp2
  clear hmk
  go_loopw [8] (fun i wr => ∃ k : Nat, k ≤ n ∧ i = .int .i64 k ∧ Blk wr w0.heap.size 2 (#[.int .i64 (cntK us (ts.take k) 0), .int .i64 (cntK us (ts.take k) 1), .int .i64 (cntK us (ts.take k) 2), .int .i64 (cntK us (ts.take k) 3)]) ∧ Ext w wr) (fun i _ => n - (intOf i).toNat)
  case atStart => exact ⟨0, by omega, rfl, Blk.new w0 _ _, hx0.alloc _⟩
  case round =>
    obtain ⟨k, hk1, rfl, hb, hx⟩ := hrel
    by_cases hlt : k < n
    · obtain ⟨b, off, t, rfl, hbl, hct, hts, ht⟩ := (hr.ext hx).el hlt
      have m0 := hide (cntK_more (us := us) ht.out 0)
      have m1 := hide (cntK_more (us := us) ht.out 1)
      have m2 := hide (cntK_more (us := us) ht.out 2)
      have m3 := hide (cntK_more (us := us) ht.out 3)
      have hkk := hide (okT_kind (tieB_ok hk ht.out))
      have hlk : (ts.take k).length = k := by rw [List.length_take]; have := hl.out; omega
      have l0 := cntK_le us (ts.take k) 0
      have l1 := cntK_le us (ts.take k) 1
      have l2 := cntK_le us (ts.take k) 2
      have l3 := cntK_le us (ts.take k) 3
      rw [hlk] at l0 l1 l2 l3
      clear hlk
      revert hb m0 m1 m2 m3 l0 l1 l2 l3
      generalize cntK us (ts.take k) 0 = a0
      generalize cntK us (ts.take k) 1 = a1
      generalize cntK us (ts.take k) 2 = a2
      generalize cntK us (ts.take k) 3 = a3
      intro hb m0 m1 m2 m3 l0 l1 l2 l3
      have hge := hb.lt
      cases e2 : cauB us t
      · have n0 := hide (m0.out.trans (by rw [if_neg (by rw [e2]; simp), Int.add_zero]))
        have n1 := hide (m1.out.trans (by rw [if_neg (by rw [e2]; simp), Int.add_zero]))
        have n2 := hide (m2.out.trans (by rw [if_neg (by rw [e2]; simp), Int.add_zero]))
        have n3 := hide (m3.out.trans (by rw [if_neg (by rw [e2]; simp), Int.add_zero]))
        clear m0 m1 m2 m3
        obtain ⟨tn, tz, tk, tf⟩ := t
        obtain ⟨c0, c1, c2, c3⟩ := hct
        simp only at c0 c1 c2 c3 hts
        go_wp2_with fail
        refine (spec.l13Cause_any ⟨tn, tz, tk, tf⟩ ⟨B, m, d⟩ us _ (hq.ext hx)).mono ?_
        rintro e w1 ⟨rfl, hx1⟩
        have hb1 := hb.ext hx1
        have hx2 := hx.trans hx1
        go_wp2
        go_roundw
        case rel => exact ⟨k + 1, by omega, by go_num, by rw [n0.out, n1.out, n2.out, n3.out]; exact hb1, hx2⟩
        case measure => simp [intOf]; omega
      rcases hkk.out with hk0 | hk0 | hk0 | hk0
      · have n0 := hide (m0.out.trans (by rw [if_pos ⟨e2, hk0⟩]))
        have n1 := hide (m1.out.trans (by rw [if_neg (fun h => by have := h.2; omega), Int.add_zero]))
        have n2 := hide (m2.out.trans (by rw [if_neg (fun h => by have := h.2; omega), Int.add_zero]))
        have n3 := hide (m3.out.trans (by rw [if_neg (fun h => by have := h.2; omega), Int.add_zero]))
        clear m0 m1 m2 m3
        obtain ⟨tn, tz, tk, tf⟩ := t
        simp only at hk0
        subst hk0
        obtain ⟨c0, c1, c2, c3⟩ := hct
        simp only at c0 c1 c2 c3 hts
        go_wp2_with fail
        refine (spec.l13Cause_any ⟨tn, tz, 0, tf⟩ ⟨B, m, d⟩ us _ (hq.ext hx)).mono ?_
        rintro e w1 ⟨rfl, hx1⟩
        have hb1 := hb.ext hx1
        have hx2 := hx.trans hx1
        have d2 := (hx1.cell (p := ⟨b, off + k * 4 + 2, none⟩) hbl).trans c2
        have g0 := hb1.get 0 _ rfl
        have g1 := hb1.frozen 0
        go_wp2
        go_roundw
        case rel => exact ⟨k + 1, by omega, by go_num, by rw [n0.out, n1.out, n2.out, n3.out]; exact hb1.set_ 0 _, hx2.off _ 0 (by omega) _⟩
        case measure => simp [intOf]; omega
      · have n0 := hide (m0.out.trans (by rw [if_neg (fun h => by have := h.2; omega), Int.add_zero]))
        have n1 := hide (m1.out.trans (by rw [if_pos ⟨e2, hk0⟩]))
        have n2 := hide (m2.out.trans (by rw [if_neg (fun h => by have := h.2; omega), Int.add_zero]))
        have n3 := hide (m3.out.trans (by rw [if_neg (fun h => by have := h.2; omega), Int.add_zero]))
        clear m0 m1 m2 m3
        obtain ⟨tn, tz, tk, tf⟩ := t
        simp only at hk0
        subst hk0
        obtain ⟨c0, c1, c2, c3⟩ := hct
        simp only at c0 c1 c2 c3 hts
        go_wp2_with fail
        refine (spec.l13Cause_any ⟨tn, tz, 1, tf⟩ ⟨B, m, d⟩ us _ (hq.ext hx)).mono ?_
        rintro e w1 ⟨rfl, hx1⟩
        have hb1 := hb.ext hx1
        have hx2 := hx.trans hx1
        have d2 := (hx1.cell (p := ⟨b, off + k * 4 + 2, none⟩) hbl).trans c2
        have g0 := hb1.get 1 _ rfl
        have g1 := hb1.frozen 1
        go_wp2
        go_roundw
        case rel => exact ⟨k + 1, by omega, by go_num, by rw [n0.out, n1.out, n2.out, n3.out]; exact hb1.set_ 1 _, hx2.off _ 1 (by omega) _⟩
        case measure => simp [intOf]; omega
      · have n0 := hide (m0.out.trans (by rw [if_neg (fun h => by have := h.2; omega), Int.add_zero]))
        have n1 := hide (m1.out.trans (by rw [if_neg (fun h => by have := h.2; omega), Int.add_zero]))
        have n2 := hide (m2.out.trans (by rw [if_pos ⟨e2, hk0⟩]))
        have n3 := hide (m3.out.trans (by rw [if_neg (fun h => by have := h.2; omega), Int.add_zero]))
        clear m0 m1 m2 m3
        obtain ⟨tn, tz, tk, tf⟩ := t
        simp only at hk0
        subst hk0
        obtain ⟨c0, c1, c2, c3⟩ := hct
        simp only at c0 c1 c2 c3 hts
        go_wp2_with fail
        refine (spec.l13Cause_any ⟨tn, tz, 2, tf⟩ ⟨B, m, d⟩ us _ (hq.ext hx)).mono ?_
        rintro e w1 ⟨rfl, hx1⟩
        have hb1 := hb.ext hx1
        have hx2 := hx.trans hx1
        have d2 := (hx1.cell (p := ⟨b, off + k * 4 + 2, none⟩) hbl).trans c2
        have g0 := hb1.get 2 _ rfl
        have g1 := hb1.frozen 2
        go_wp2
        go_roundw
        case rel => exact ⟨k + 1, by omega, by go_num, by rw [n0.out, n1.out, n2.out, n3.out]; exact hb1.set_ 2 _, hx2.off _ 2 (by omega) _⟩
        case measure => simp [intOf]; omega
      · have n0 := hide (m0.out.trans (by rw [if_neg (fun h => by have := h.2; omega), Int.add_zero]))
        have n1 := hide (m1.out.trans (by rw [if_neg (fun h => by have := h.2; omega), Int.add_zero]))
        have n2 := hide (m2.out.trans (by rw [if_neg (fun h => by have := h.2; omega), Int.add_zero]))
        have n3 := hide (m3.out.trans (by rw [if_pos ⟨e2, hk0⟩]))
        clear m0 m1 m2 m3
        obtain ⟨tn, tz, tk, tf⟩ := t
        simp only at hk0
        subst hk0
        obtain ⟨c0, c1, c2, c3⟩ := hct
        simp only at c0 c1 c2 c3 hts
        go_wp2_with fail
        refine (spec.l13Cause_any ⟨tn, tz, 3, tf⟩ ⟨B, m, d⟩ us _ (hq.ext hx)).mono ?_
        rintro e w1 ⟨rfl, hx1⟩
        have hb1 := hb.ext hx1
        have hx2 := hx.trans hx1
        have d2 := (hx1.cell (p := ⟨b, off + k * 4 + 2, none⟩) hbl).trans c2
        have g0 := hb1.get 3 _ rfl
        have g1 := hb1.frozen 3
        go_wp2
        go_roundw
        case rel => exact ⟨k + 1, by omega, by go_num, by rw [n0.out, n1.out, n2.out, n3.out]; exact hb1.set_ 3 _, hx2.off _ 3 (by omega) _⟩
        case measure => simp [intOf]; omega
    · have e : k = n := by omega
      subst e
      rw [List.take_of_length_le (by rw [← hl.out]; omega)] at hb
      go_wp2
      go_ret2
      exact ⟨⟨some ⟨w0.heap.size, 0, none⟩, 4, 4⟩, by rw [E1.out]; rfl, by rw [E2.out]; exact four_own hb hz0, hx⟩
end Go.Proofs.Ytmcnnbjgehmmoaa.mem
