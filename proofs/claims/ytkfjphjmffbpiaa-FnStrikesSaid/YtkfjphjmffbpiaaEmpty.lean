/-
  Contracts of both programs' EmptySeat.
-/
import Derived.Test.YtkfjphjmffbpiaaEmp
import Derived.Test.YtkfjphjmffbpiaaEmpS
namespace Go.Proofs.Ytkfjphjmffbpiaa.mem
open Go.ChangeShapes Go.WideShapes Go.ChangeAt Go.RowKit

def nilP : S3 := ⟨⟨none, 0, 0⟩, ⟨none, 0, 0⟩, ⟨none, 0, 0⟩⟩
theorem Own3.nilP (w : World) (lo : Nat) : Own3 w lo nilP ⟨[], [], []⟩ :=
  ⟨Own.nil_ _ _, Own.nil_ _ _, Own.nil_ _ _, by simp [mem.nilP], (by intro k hk; cases hk), (by intro k hk; cases hk), (by intro k hk; cases hk)⟩
theorem Own3.offP {w : World} {lo : Nat} {p : S3} {l : L3} (h : Own3 w lo p l) (b i : Nat) (hb : b < lo) (u : Value) : Own3 (w.setCell ⟨b, i, none⟩ u) lo p l :=
  ⟨h.1.off b i hb u, h.2.1.off b i hb u, h.2.2.1.off b i hb u, h.2.2.2⟩
def empC (l : L3) (k : Int) : Int := if okP l = true then (if inB k 0 ((l.x.length : Int) - 1) = true then (if l.x.getD k.toNat 0 = 0 then 5 else 0) else 2) else 1
def empV (l : L3) (k : Int) : L3 := if empC l k = 0 then empL l k.toNat else ⟨[], [], []⟩
theorem empV_no {l : L3} {k c : Int} (h : empC l k = c) (hc : c ≠ 0) : empV l k = ⟨[], [], []⟩ := by
  unfold empV
  rw [h, if_neg hc]
theorem empV_yes {l : L3} {k : Int} (h : empC l k = 0) : empV l k = empL l k.toNat := by
  unfold empV
  rw [if_pos h]
theorem okP_small {l : L3} (h : okP l = true) : l.x.length + (l.y.length + l.z.length) ≤ 100000 := by
  have h1 := okP_iff.1 h
  have h2 := h1.2.1
  unfold allP at h2
  simp only [List.length_append] at h2
  omega
set_option maxHeartbeats 4000000 in
theorem impl.EmptySeat_any (p : S3) (l : L3) (k : Int) (w : World) (hr : Rd3 w p l) :
    Calls Try.prog 18 #[.agg #[.slice p.x.A p.x.n p.x.c, .slice p.y.A p.y.n p.y.c, .slice p.z.A p.z.n p.z.c], .int .i64 k] w fun e w' => ∃ t : S3, e = .returned (.tuple #[.agg #[.slice t.x.A t.x.n t.x.c, .slice t.y.A t.y.n t.y.c, .slice t.z.A t.z.n t.z.c], .int .i64 (empC l k)]) ∧ Own3 w' w.heap.size t (empV l k) ∧ Ext w w' := by
  have hr0 := hr
  obtain ⟨⟨A1, n1, c1⟩, ⟨A2, n2, c2⟩, ⟨A3, n3, c3⟩⟩ := p
  have hX0 := ((Ext.refl w).alloc (.cells #[.slice A1 n1 c1, .slice A2 n2 c2, .slice A3 n3 c3] 38)).alloc (.cells #[.slice none 0 0, .slice none 0 0, .slice none 0 0] 38)
  have hB0 := (Blk.new w 38 (#[.slice A1 n1 c1, .slice A2 n2 c2, .slice A3 n3 c3])).alloc (.cells #[.slice none 0 0, .slice none 0 0, .slice none 0 0] 38)
  have hR0 := Blk.new (w.alloc (.cells #[.slice A1 n1 c1, .slice A2 n2 c2, .slice A3 n3 c3] 38)) 38 (#[.slice none 0 0, .slice none 0 0, .slice none 0 0])
  rw [World.size_alloc] at hR0
  obtain ⟨q0, q1, q2⟩ := hB0.c3
  go_enter Try.func18, Try.ntmps18
  go_wp2_with fail
  refine (impl.IsPanel_any ⟨⟨A1, n1, c1⟩, ⟨A2, n2, c2⟩, ⟨A3, n3, c3⟩⟩ l _ (hr.ext hX0)).mono ?_
  rintro e w1 ⟨rfl, hx1⟩
  clear q0 q1 q2
  have hX1 := hX0.trans hx1
  have hB1 := hB0.ext hx1
  have hR1 := hR0.ext hx1
  have hz1 : w.heap.size + 1 + 1 ≤ w1.heap.size := by have := hx1.size; simpa using this
  obtain ⟨q0, q1, q2⟩ := hB1.c3
  obtain ⟨r0, r1, r2, r3, r4, r5⟩ := res3 hR1
  have hRn := ((hR1.set_ 0 (.slice none 0 0)).set_ 1 (.slice none 0 0)).set_ 2 (.slice none 0 0)
  have m0 := hRn.get 0 _ rfl
  have m1 := hRn.get 1 _ rfl
  have m2 := hRn.get 2 _ rfl
  have hXn := ((hX1.off (w.heap.size + 1) 0 (by omega) (.slice none 0 0)).off (w.heap.size + 1) 1 (by omega) (.slice none 0 0)).off (w.heap.size + 1) 2 (by omega) (.slice none 0 0)
  obtain ⟨rx, ry, rz, hs, cx, cy, cz⟩ := hr
  simp only at rx ry rz hs
  have hlx := hide rx.1
  have hly := hide ry.1
  have hlz := hide rz.1
  have hn1 := rx.le
  cases hok : okP l
  · have E2 := hide (show empC l k = 1 by unfold empC; rw [hok]; rfl)
    have E1 := hide (empV_no E2.out (by decide))
    go_wp2
    refine bodyPost_ret (v := .tuple #[.agg #[.slice nilP.x.A nilP.x.n nilP.x.c, .slice nilP.y.A nilP.y.n nilP.y.c, .slice nilP.z.A nilP.z.n nilP.z.c], .int .i64 1]) (by simp [results, Try.results18, go_sem, m0, m1, m2, nilP]) rfl ⟨nilP, by rw [E2.out], by rw [E1.out]; exact Own3.nilP _ _, hXn⟩
  have hsm := hide (show n1 + (n2 + n3) ≤ 100000 by have := okP_small hok; have h1 := hlx.out; have h2 := hly.out; have h3 := hlz.out; omega)
  cases hin : inB k 0 ((n1 : Int) - 1)
  · have E2 := hide (show empC l k = 2 by unfold empC; rw [hok, ← hlx.out, hin]; rfl)
    have E1 := hide (empV_no E2.out (by decide))
    go_wp2_with (first | (go_at_call 68; refine (impl.at_any _ _ _).mono ?_; rintro e w' ⟨rfl, rfl⟩) | (go_at_call 70; refine (spec.l01In_any _ _ _ _).mono ?_; rintro e w' ⟨rfl, rfl⟩))
    refine bodyPost_ret (v := .tuple #[.agg #[.slice nilP.x.A nilP.x.n nilP.x.c, .slice nilP.y.A nilP.y.n nilP.y.c, .slice nilP.z.A nilP.z.n nilP.z.c], .int .i64 2]) (by simp [results, Try.results18, go_sem, m0, m1, m2, nilP]) rfl ⟨nilP, by rw [E2.out], by rw [E1.out]; exact Own3.nilP _ _, hXn⟩
  have hin2 := inB_iff.1 hin
  obtain ⟨j, rfl⟩ : ∃ j : Nat, k = j := ⟨k.toNat, by omega⟩
  have hj : j < n1 := by omega
  obtain ⟨b, off, y, rfl, hbl, hc1, hy⟩ := rx.el hj
  have hcy := (hX1.cell (p := ⟨b, off + j, none⟩) hbl).trans hc1
  have hyk := hide (show l.x.getD j 0 = y by rw [List.getD_eq_getElem?_getD, hy.out]; rfl)
  obtain ⟨hin3, hin4⟩ := hin2
  by_cases hy0 : y = 0
  · have E2 := hide (show empC l j = 5 by unfold empC; rw [hok, ← hlx.out, hin, if_pos rfl, if_pos rfl, if_pos (by simpa using hyk.out.trans hy0)])
    have E1 := hide (empV_no E2.out (by decide))
    subst hy0
    go_wp2_with (first | (go_at_call 68; refine (impl.at_any _ _ _).mono ?_; rintro e w' ⟨rfl, rfl⟩) | (go_at_call 70; refine (spec.l01In_any _ _ _ _).mono ?_; rintro e w' ⟨rfl, rfl⟩))
    refine bodyPost_ret (v := .tuple #[.agg #[.slice nilP.x.A nilP.x.n nilP.x.c, .slice nilP.y.A nilP.y.n nilP.y.c, .slice nilP.z.A nilP.z.n nilP.z.c], .int .i64 5]) (by simp [results, Try.results18, go_sem, m0, m1, m2, nilP]) rfl ⟨nilP, by rw [E2.out], by rw [E1.out]; exact Own3.nilP _ _, hXn⟩
  · have hyn : (y == 0) = false := by simpa using hy0
    have E2 := hide (show empC l j = 0 by unfold empC; rw [hok, ← hlx.out, hin, if_pos rfl, if_pos rfl, if_neg (by simp only [Int.toNat_natCast]; rw [hyk.out]; exact hy0)])
    have E1 := hide (empV_yes E2.out)
    clear hy0 hRn m0 m1 m2 hXn
    go_wp2_with (first | (go_at_call 68; refine (impl.at_any _ _ _).mono ?_; rintro e w' ⟨rfl, rfl⟩) | (go_at_call 70; refine (spec.l01In_any _ _ _ _).mono ?_; rintro e w' ⟨rfl, rfl⟩) | (go_at_call 83; refine (impl.empty_any ⟨⟨some ⟨b, off, none⟩, n1, c1⟩, ⟨A2, n2, c2⟩, ⟨A3, n3, c3⟩⟩ l j _ (hr0.ext hX1) hj hsm.out).mono ?_; rintro e w2 ⟨t, rfl, ho, hx2⟩; have sR := res3 (hR1.ext hx2)) | (go_at_call 85; refine (spec.l12Empty_any ⟨⟨some ⟨b, off, none⟩, n1, c1⟩, ⟨A2, n2, c2⟩, ⟨A3, n3, c3⟩⟩ l j _ (hr0.ext hX1) hj hsm.out).mono ?_; rintro e w2 ⟨t, rfl, ho, hx2⟩; have sR := res3 (hR1.ext hx2)))
    have hRf := (((hR1.ext hx2).set_ 0 (.slice t.x.A t.x.n t.x.c)).set_ 1 (.slice t.y.A t.y.n t.y.c)).set_ 2 (.slice t.z.A t.z.n t.z.c)
    obtain ⟨f0, f1, f2⟩ := hRf.c3
    have hX2 := hX1.trans hx2
    refine bodyPost_ret (v := .tuple #[.agg #[.slice t.x.A t.x.n t.x.c, .slice t.y.A t.y.n t.y.c, .slice t.z.A t.z.n t.z.c], .int .i64 0]) (by simp [results, Try.results18, go_sem, f0, f1, f2]) rfl ⟨t, by rw [E2.out], ?_, ((hX2.off _ 0 (by omega) _).off _ 1 (by omega) _).off _ 2 (by omega) _⟩
    rw [E1.out]
    have h3 := ((((ho.offP (w.heap.size + 1) 0 (by omega) (.slice t.x.A t.x.n t.x.c)).offP (w.heap.size + 1) 1 (by omega) (.slice t.y.A t.y.n t.y.c)).offP (w.heap.size + 1) 2 (by omega) (.slice t.z.A t.z.n t.z.c))).mono (lo' := w.heap.size) (by omega)
    exact h3
set_option maxHeartbeats 4000000 in
theorem spec.EmptySeat_any (p : S3) (l : L3) (k : Int) (w : World) (hr : Rd3 w p l) :
    Calls Try.prog 19 #[.agg #[.slice p.x.A p.x.n p.x.c, .slice p.y.A p.y.n p.y.c, .slice p.z.A p.z.n p.z.c], .int .i64 k] w fun e w' => ∃ t : S3, e = .returned (.tuple #[.agg #[.slice t.x.A t.x.n t.x.c, .slice t.y.A t.y.n t.y.c, .slice t.z.A t.z.n t.z.c], .int .i64 (empC l k)]) ∧ Own3 w' w.heap.size t (empV l k) ∧ Ext w w' := by
  have hr0 := hr
  obtain ⟨⟨A1, n1, c1⟩, ⟨A2, n2, c2⟩, ⟨A3, n3, c3⟩⟩ := p
  have hX0 := ((Ext.refl w).alloc (.cells #[.slice A1 n1 c1, .slice A2 n2 c2, .slice A3 n3 c3] 38)).alloc (.cells #[.slice none 0 0, .slice none 0 0, .slice none 0 0] 38)
  have hB0 := (Blk.new w 38 (#[.slice A1 n1 c1, .slice A2 n2 c2, .slice A3 n3 c3])).alloc (.cells #[.slice none 0 0, .slice none 0 0, .slice none 0 0] 38)
  have hR0 := Blk.new (w.alloc (.cells #[.slice A1 n1 c1, .slice A2 n2 c2, .slice A3 n3 c3] 38)) 38 (#[.slice none 0 0, .slice none 0 0, .slice none 0 0])
  rw [World.size_alloc] at hR0
  obtain ⟨q0, q1, q2⟩ := hB0.c3
  go_enter Try.func19, Try.ntmps19
  go_wp2_with fail
  refine (spec.IsPanel_any ⟨⟨A1, n1, c1⟩, ⟨A2, n2, c2⟩, ⟨A3, n3, c3⟩⟩ l _ (hr.ext hX0)).mono ?_
  rintro e w1 ⟨rfl, hx1⟩
  clear q0 q1 q2
  have hX1 := hX0.trans hx1
  have hB1 := hB0.ext hx1
  have hR1 := hR0.ext hx1
  have hz1 : w.heap.size + 1 + 1 ≤ w1.heap.size := by have := hx1.size; simpa using this
  obtain ⟨q0, q1, q2⟩ := hB1.c3
  obtain ⟨r0, r1, r2, r3, r4, r5⟩ := res3 hR1
  have hRn := ((hR1.set_ 0 (.slice none 0 0)).set_ 1 (.slice none 0 0)).set_ 2 (.slice none 0 0)
  have m0 := hRn.get 0 _ rfl
  have m1 := hRn.get 1 _ rfl
  have m2 := hRn.get 2 _ rfl
  have hXn := ((hX1.off (w.heap.size + 1) 0 (by omega) (.slice none 0 0)).off (w.heap.size + 1) 1 (by omega) (.slice none 0 0)).off (w.heap.size + 1) 2 (by omega) (.slice none 0 0)
  obtain ⟨rx, ry, rz, hs, cx, cy, cz⟩ := hr
  simp only at rx ry rz hs
  have hlx := hide rx.1
  have hly := hide ry.1
  have hlz := hide rz.1
  have hn1 := rx.le
  cases hok : okP l
  · have E2 := hide (show empC l k = 1 by unfold empC; rw [hok]; rfl)
    have E1 := hide (empV_no E2.out (by decide))
    go_wp2
    refine bodyPost_ret (v := .tuple #[.agg #[.slice nilP.x.A nilP.x.n nilP.x.c, .slice nilP.y.A nilP.y.n nilP.y.c, .slice nilP.z.A nilP.z.n nilP.z.c], .int .i64 1]) (by simp [results, Try.results19, go_sem, m0, m1, m2, nilP]) rfl ⟨nilP, by rw [E2.out], by rw [E1.out]; exact Own3.nilP _ _, hXn⟩
  have hsm := hide (show n1 + (n2 + n3) ≤ 100000 by have := okP_small hok; have h1 := hlx.out; have h2 := hly.out; have h3 := hlz.out; omega)
  cases hin : inB k 0 ((n1 : Int) - 1)
  · have E2 := hide (show empC l k = 2 by unfold empC; rw [hok, ← hlx.out, hin]; rfl)
    have E1 := hide (empV_no E2.out (by decide))
    go_wp2_with (first | (go_at_call 68; refine (impl.at_any _ _ _).mono ?_; rintro e w' ⟨rfl, rfl⟩) | (go_at_call 70; refine (spec.l01In_any _ _ _ _).mono ?_; rintro e w' ⟨rfl, rfl⟩))
    refine bodyPost_ret (v := .tuple #[.agg #[.slice nilP.x.A nilP.x.n nilP.x.c, .slice nilP.y.A nilP.y.n nilP.y.c, .slice nilP.z.A nilP.z.n nilP.z.c], .int .i64 2]) (by simp [results, Try.results19, go_sem, m0, m1, m2, nilP]) rfl ⟨nilP, by rw [E2.out], by rw [E1.out]; exact Own3.nilP _ _, hXn⟩
  have hin2 := inB_iff.1 hin
  obtain ⟨j, rfl⟩ : ∃ j : Nat, k = j := ⟨k.toNat, by omega⟩
  have hj : j < n1 := by omega
  obtain ⟨b, off, y, rfl, hbl, hc1, hy⟩ := rx.el hj
  have hcy := (hX1.cell (p := ⟨b, off + j, none⟩) hbl).trans hc1
  have hyk := hide (show l.x.getD j 0 = y by rw [List.getD_eq_getElem?_getD, hy.out]; rfl)
  obtain ⟨hin3, hin4⟩ := hin2
  by_cases hy0 : y = 0
  · have E2 := hide (show empC l j = 5 by unfold empC; rw [hok, ← hlx.out, hin, if_pos rfl, if_pos rfl, if_pos (by simpa using hyk.out.trans hy0)])
    have E1 := hide (empV_no E2.out (by decide))
    subst hy0
    go_wp2_with (first | (go_at_call 68; refine (impl.at_any _ _ _).mono ?_; rintro e w' ⟨rfl, rfl⟩) | (go_at_call 70; refine (spec.l01In_any _ _ _ _).mono ?_; rintro e w' ⟨rfl, rfl⟩))
    refine bodyPost_ret (v := .tuple #[.agg #[.slice nilP.x.A nilP.x.n nilP.x.c, .slice nilP.y.A nilP.y.n nilP.y.c, .slice nilP.z.A nilP.z.n nilP.z.c], .int .i64 5]) (by simp [results, Try.results19, go_sem, m0, m1, m2, nilP]) rfl ⟨nilP, by rw [E2.out], by rw [E1.out]; exact Own3.nilP _ _, hXn⟩
  · have hyn : (y == 0) = false := by simpa using hy0
    have E2 := hide (show empC l j = 0 by unfold empC; rw [hok, ← hlx.out, hin, if_pos rfl, if_pos rfl, if_neg (by simp only [Int.toNat_natCast]; rw [hyk.out]; exact hy0)])
    have E1 := hide (empV_yes E2.out)
    clear hy0 hRn m0 m1 m2 hXn
    go_wp2_with (first | (go_at_call 68; refine (impl.at_any _ _ _).mono ?_; rintro e w' ⟨rfl, rfl⟩) | (go_at_call 70; refine (spec.l01In_any _ _ _ _).mono ?_; rintro e w' ⟨rfl, rfl⟩) | (go_at_call 83; refine (impl.empty_any ⟨⟨some ⟨b, off, none⟩, n1, c1⟩, ⟨A2, n2, c2⟩, ⟨A3, n3, c3⟩⟩ l j _ (hr0.ext hX1) hj hsm.out).mono ?_; rintro e w2 ⟨t, rfl, ho, hx2⟩; have sR := res3 (hR1.ext hx2)) | (go_at_call 85; refine (spec.l12Empty_any ⟨⟨some ⟨b, off, none⟩, n1, c1⟩, ⟨A2, n2, c2⟩, ⟨A3, n3, c3⟩⟩ l j _ (hr0.ext hX1) hj hsm.out).mono ?_; rintro e w2 ⟨t, rfl, ho, hx2⟩; have sR := res3 (hR1.ext hx2)))
    have hRf := (((hR1.ext hx2).set_ 0 (.slice t.x.A t.x.n t.x.c)).set_ 1 (.slice t.y.A t.y.n t.y.c)).set_ 2 (.slice t.z.A t.z.n t.z.c)
    obtain ⟨f0, f1, f2⟩ := hRf.c3
    have hX2 := hX1.trans hx2
    refine bodyPost_ret (v := .tuple #[.agg #[.slice t.x.A t.x.n t.x.c, .slice t.y.A t.y.n t.y.c, .slice t.z.A t.z.n t.z.c], .int .i64 0]) (by simp [results, Try.results19, go_sem, f0, f1, f2]) rfl ⟨t, by rw [E2.out], ?_, ((hX2.off _ 0 (by omega) _).off _ 1 (by omega) _).off _ 2 (by omega) _⟩
    rw [E1.out]
    have h3 := ((((ho.offP (w.heap.size + 1) 0 (by omega) (.slice t.x.A t.x.n t.x.c)).offP (w.heap.size + 1) 1 (by omega) (.slice t.y.A t.y.n t.y.c)).offP (w.heap.size + 1) 2 (by omega) (.slice t.z.A t.z.n t.z.c))).mono (lo' := w.heap.size) (by omega)
    exact h3
end Go.Proofs.Ytkfjphjmffbpiaa.mem
