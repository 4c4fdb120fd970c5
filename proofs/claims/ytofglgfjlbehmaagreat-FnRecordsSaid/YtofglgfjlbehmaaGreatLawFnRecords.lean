/-
  The law FnRecords holds of the given program for every input: it returns true, and its argument reads as it did.
-/
import Derived.Test.YtofglgfjlbehmaaGreatDrB
import Derived.Test.YtofglgfjlbehmaaGreatMg14
import Derived.Test.YtofglgfjlbehmaaGreatMg8
namespace Go.Proofs.YtofglgfjlbehmaaGreat.mem
open Go.ChangeShapes Go.WideShapes Go.ChangeAt Go.RowKit
set_option linter.unusedVariables false
theorem tj_rr {ts : List Ti} {us : List ByteArray} {y : RecL} {l : L3} (h : tjB ts us y l = true) : rrC ts us y = 0 ∧ rrV ts us y = l := by
  unfold tjB at h
  simp only [Bool.and_eq_true, decide_eq_true_eq] at h
  obtain ⟨h0, ⟨⟨⟨h1, _⟩, h2⟩, h3⟩, h4⟩ := h
  refine ⟨by unfold rrC; rw [if_pos h0, h1], ?_⟩
  unfold rrV
  rw [if_pos h0]
  cases hj : jyV ts us y
  rw [hj] at h2 h3 h4
  cases l
  simp only at h2 h3 h4
  rw [h2, h3, h4]
theorem sb_two {ts : List Ti} {us : List ByteArray} {y : RecL} {sd : Int} (h : sbC ts us y sd = 0) : y.p.y.length = 2 := by
  have hpo : poC ts us y = 0 := (sb_facts h).1
  obtain ⟨hok, _⟩ : okR y = true ∧ okK ts us = true := by
    rcases poC_or ts us y with ⟨h1, _⟩ | ⟨_, h2⟩
    · rw [hpo] at h1; cases h1
    · exact h2
  have hs := (okR_parts hok).2.2.2.2.1
  unfold strB at hs
  simp only [Bool.and_eq_true, decide_eq_true_eq] at hs
  exact hs.1
theorem okR_hon (y : RecL) : okR y = (honC y == 0) := by unfold honC; cases okR y <;> rfl
theorem hon_in {y : RecL} (h : honC y = 0) : (1 ≤ y.b ∧ y.b ≤ 2147483646) ∧ (0 ≤ y.c ∧ y.c ≤ 2147483646) ∧ honV y = (cmt y.b y.c == y.a) := by
  have hok : okR y = true := by rw [okR_hon, h]; rfl
  obtain ⟨h1, h2⟩ := okR_bc hok
  refine ⟨h1, h2, ?_⟩
  unfold honV
  rw [hok, Bool.true_and]
theorem not_in_take {xs : List Int} (h : xs.Nodup) {k : Nat} {x : Int} (hx : xs[k]? = some x) : hasB (xs.take k) x = false := by
  refine hasB_no fun i y hy => ?_
  rw [List.getElem?_take] at hy
  split at hy
  · rename_i hik
    intro e
    obtain ⟨hk, e1⟩ := List.getElem?_eq_some_iff.1 hx
    obtain ⟨hi, e2⟩ := List.getElem?_eq_some_iff.1 hy
    have := (List.getElem_inj h (h₀ := hi) (h₁ := hk)).1 (by rw [e1, e2]; exact e.symm)
    omega
  · cases hy
set_option maxRecDepth 20000 in
set_option maxHeartbeats 24000000 in
theorem law_FnRecords (s : Sl) (w : World) (hb0 : RdB w s.A s.n) (hcap : cap1 s) :
    Calls Tryz.prog 3 #[.slice s.A s.n s.c] w fun e w' => e = .returned (.bool true) ∧ Ext w w' := by
  have hX := Ext.refl w
  have hbig := laws.big_any s w hcap
  by_cases hs : 4096 < s.n
  · rw [decide_eq_true hs] at hbig
    clear hs
    go_enter Tryz.func3, Tryz.ntmps3
    go_wp2_with fail
    refine hbig.mono ?_
    rintro e w' ⟨rfl, rfl⟩
    go_wp2_with fail
    go_ret
    exact ⟨rfl, hX⟩
  rw [decide_eq_false hs] at hbig
  have hc : Code w s := ⟨hb0, by omega, hcap⟩
  clear hs hb0 hcap
  go_enter Tryz.func3, Tryz.ntmps3
  go_wp2_with fail
  refine hbig.mono ?_
  rintro e w' ⟨rfl, rfl⟩
  clear hbig
  go_wp2_with fail
  refine (spec.DrawIsTrueJury_any s _ (hc.ext hX)).mono ?_
  rintro e w1 ⟨xr, yr, t, ts, q, us, j, lj, rfl, orr, ht, oj, hx⟩
  replace hX := hX.trans hx
  clear hx
  have hR := Blk.new w1 26 (#[.int .i64 xr.a, .int .i64 xr.b, .int .i64 xr.c, .slice xr.p.x.A xr.p.x.n xr.p.x.c, .int .i64 xr.d, .slice xr.p.y.A xr.p.y.n xr.p.y.c, .slice xr.p.z.A xr.p.z.n xr.p.z.c, .int .i64 xr.e, .int .i64 xr.f])
  replace orr := orr.alloc (.cells #[.int .i64 xr.a, .int .i64 xr.b, .int .i64 xr.c, .slice xr.p.x.A xr.p.x.n xr.p.x.c, .int .i64 xr.d, .slice xr.p.y.A xr.p.y.n xr.p.y.c, .slice xr.p.z.A xr.p.z.n xr.p.z.c, .int .i64 xr.e, .int .i64 xr.f] 26)
  replace ht := ht.alloc (.cells #[.int .i64 xr.a, .int .i64 xr.b, .int .i64 xr.c, .slice xr.p.x.A xr.p.x.n xr.p.x.c, .int .i64 xr.d, .slice xr.p.y.A xr.p.y.n xr.p.y.c, .slice xr.p.z.A xr.p.z.n xr.p.z.c, .int .i64 xr.e, .int .i64 xr.f] 26)
  replace oj := oj.alloc (.cells #[.int .i64 xr.a, .int .i64 xr.b, .int .i64 xr.c, .slice xr.p.x.A xr.p.x.n xr.p.x.c, .int .i64 xr.d, .slice xr.p.y.A xr.p.y.n xr.p.y.c, .slice xr.p.z.A xr.p.z.n xr.p.z.c, .int .i64 xr.e, .int .i64 xr.f] 26)
  replace hX := hX.alloc (.cells #[.int .i64 xr.a, .int .i64 xr.b, .int .i64 xr.c, .slice xr.p.x.A xr.p.x.n xr.p.x.c, .int .i64 xr.d, .slice xr.p.y.A xr.p.y.n xr.p.y.c, .slice xr.p.z.A xr.p.z.n xr.p.z.c, .int .i64 xr.e, .int .i64 xr.f] 26)
  have hJ := Blk.new (w1.alloc (.cells #[.int .i64 xr.a, .int .i64 xr.b, .int .i64 xr.c, .slice xr.p.x.A xr.p.x.n xr.p.x.c, .int .i64 xr.d, .slice xr.p.y.A xr.p.y.n xr.p.y.c, .slice xr.p.z.A xr.p.z.n xr.p.z.c, .int .i64 xr.e, .int .i64 xr.f] 26)) 30 (#[.slice j.x.A j.x.n j.x.c, .slice j.y.A j.y.n j.y.c, .slice j.z.A j.z.n j.z.c])
  replace orr := orr.alloc (.cells #[.slice j.x.A j.x.n j.x.c, .slice j.y.A j.y.n j.y.c, .slice j.z.A j.z.n j.z.c] 30)
  replace ht := ht.alloc (.cells #[.slice j.x.A j.x.n j.x.c, .slice j.y.A j.y.n j.y.c, .slice j.z.A j.z.n j.z.c] 30)
  replace oj := oj.alloc (.cells #[.slice j.x.A j.x.n j.x.c, .slice j.y.A j.y.n j.y.c, .slice j.z.A j.z.n j.z.c] 30)
  replace hR := hR.alloc (.cells #[.slice j.x.A j.x.n j.x.c, .slice j.y.A j.y.n j.y.c, .slice j.z.A j.z.n j.z.c] 30)
  replace hX := hX.alloc (.cells #[.slice j.x.A j.x.n j.x.c, .slice j.y.A j.y.n j.y.c, .slice j.z.A j.z.n j.z.c] 30)
  rw [World.size_alloc] at hJ
  obtain ⟨qhR0, qhR1, qhR2, qhR3, qhR4, qhR5, qhR6, qhR7, qhR8⟩ := hR.c9
  obtain ⟨qhJ0, qhJ1, qhJ2⟩ := hJ.c3
  obtain ⟨A1, hA1⟩ : ∃ A, A = poC ts us yr := ⟨_, rfl⟩
  obtain ⟨TB, hTB⟩ : ∃ b, b = tjB ts us yr lj := ⟨_, rfl⟩
  have hg1 := fun W h1 h2 h3 h4 h5 => impl.IsTrueJury_any xr yr t ts q us j lj W h1 h2 h3 h4 h5
  have hg2 := fun W h1 h2 h3 h4 => spec.IsTrueJury_any xr yr t ts q us j lj W h1 h2 h3 h4
  simp only [← hA1, ← hTB] at hg1 hg2
  have hT0 := hide (fun (e : TB = true) => tj_rr (hTB.symm.trans e))
  clear hA1 hTB
  go_wp2_with fail
  refine (hg1 _ orr.rd ht.rt ht.rw_ oj.rd ht.cap).mono ?_
  rintro e w2 ⟨rfl, hx⟩
  clear qhR0 qhR1 qhR2 qhR3 qhR4 qhR5 qhR6 qhR7 qhR8 qhJ0 qhJ1 qhJ2
  replace orr := orr.ext hx
  replace ht := ht.ext hx
  replace oj := oj.ext hx
  replace hR := hR.ext hx
  replace hJ := hJ.ext hx
  replace hX := hX.trans hx
  clear hx
  obtain ⟨qhR0, qhR1, qhR2, qhR3, qhR4, qhR5, qhR6, qhR7, qhR8⟩ := hR.c9
  obtain ⟨qhJ0, qhJ1, qhJ2⟩ := hJ.c3
  go_wp2_with fail
  refine (hg2 _ orr.rd ht.rt ht.rw_ oj.rd).mono ?_
  rintro e w3 ⟨rfl, hx⟩
  clear qhR0 qhR1 qhR2 qhR3 qhR4 qhR5 qhR6 qhR7 qhR8 qhJ0 qhJ1 qhJ2
  replace orr := orr.ext hx
  replace ht := ht.ext hx
  replace oj := oj.ext hx
  replace hR := hR.ext hx
  replace hJ := hJ.ext hx
  replace hX := hX.trans hx
  clear hx
  clear hg1 hg2
  obtain ⟨qhR0, qhR1, qhR2, qhR3, qhR4, qhR5, qhR6, qhR7, qhR8⟩ := hR.c9
  obtain ⟨qhJ0, qhJ1, qhJ2⟩ := hJ.c3
  go_wp2_with fail
  refine (spec.DrawStruckBy_any s _ (hc.ext hX)).mono ?_
  rintro e w4 ⟨xs, ys, t2, ts2, q2, us2, sd, rfl, os, ht2, hx⟩
  clear qhR0 qhR1 qhR2 qhR3 qhR4 qhR5 qhR6 qhR7 qhR8 qhJ0 qhJ1 qhJ2
  replace orr := orr.ext hx
  replace ht := ht.ext hx
  replace oj := oj.ext hx
  replace hR := hR.ext hx
  replace hJ := hJ.ext hx
  replace hX := hX.trans hx
  clear hx
  have hS := Blk.new w4 26 (#[.int .i64 xs.a, .int .i64 xs.b, .int .i64 xs.c, .slice xs.p.x.A xs.p.x.n xs.p.x.c, .int .i64 xs.d, .slice xs.p.y.A xs.p.y.n xs.p.y.c, .slice xs.p.z.A xs.p.z.n xs.p.z.c, .int .i64 xs.e, .int .i64 xs.f])
  replace orr := orr.alloc (.cells #[.int .i64 xs.a, .int .i64 xs.b, .int .i64 xs.c, .slice xs.p.x.A xs.p.x.n xs.p.x.c, .int .i64 xs.d, .slice xs.p.y.A xs.p.y.n xs.p.y.c, .slice xs.p.z.A xs.p.z.n xs.p.z.c, .int .i64 xs.e, .int .i64 xs.f] 26)
  replace ht := ht.alloc (.cells #[.int .i64 xs.a, .int .i64 xs.b, .int .i64 xs.c, .slice xs.p.x.A xs.p.x.n xs.p.x.c, .int .i64 xs.d, .slice xs.p.y.A xs.p.y.n xs.p.y.c, .slice xs.p.z.A xs.p.z.n xs.p.z.c, .int .i64 xs.e, .int .i64 xs.f] 26)
  replace oj := oj.alloc (.cells #[.int .i64 xs.a, .int .i64 xs.b, .int .i64 xs.c, .slice xs.p.x.A xs.p.x.n xs.p.x.c, .int .i64 xs.d, .slice xs.p.y.A xs.p.y.n xs.p.y.c, .slice xs.p.z.A xs.p.z.n xs.p.z.c, .int .i64 xs.e, .int .i64 xs.f] 26)
  replace os := os.alloc (.cells #[.int .i64 xs.a, .int .i64 xs.b, .int .i64 xs.c, .slice xs.p.x.A xs.p.x.n xs.p.x.c, .int .i64 xs.d, .slice xs.p.y.A xs.p.y.n xs.p.y.c, .slice xs.p.z.A xs.p.z.n xs.p.z.c, .int .i64 xs.e, .int .i64 xs.f] 26)
  replace ht2 := ht2.alloc (.cells #[.int .i64 xs.a, .int .i64 xs.b, .int .i64 xs.c, .slice xs.p.x.A xs.p.x.n xs.p.x.c, .int .i64 xs.d, .slice xs.p.y.A xs.p.y.n xs.p.y.c, .slice xs.p.z.A xs.p.z.n xs.p.z.c, .int .i64 xs.e, .int .i64 xs.f] 26)
  replace hR := hR.alloc (.cells #[.int .i64 xs.a, .int .i64 xs.b, .int .i64 xs.c, .slice xs.p.x.A xs.p.x.n xs.p.x.c, .int .i64 xs.d, .slice xs.p.y.A xs.p.y.n xs.p.y.c, .slice xs.p.z.A xs.p.z.n xs.p.z.c, .int .i64 xs.e, .int .i64 xs.f] 26)
  replace hJ := hJ.alloc (.cells #[.int .i64 xs.a, .int .i64 xs.b, .int .i64 xs.c, .slice xs.p.x.A xs.p.x.n xs.p.x.c, .int .i64 xs.d, .slice xs.p.y.A xs.p.y.n xs.p.y.c, .slice xs.p.z.A xs.p.z.n xs.p.z.c, .int .i64 xs.e, .int .i64 xs.f] 26)
  replace hX := hX.alloc (.cells #[.int .i64 xs.a, .int .i64 xs.b, .int .i64 xs.c, .slice xs.p.x.A xs.p.x.n xs.p.x.c, .int .i64 xs.d, .slice xs.p.y.A xs.p.y.n xs.p.y.c, .slice xs.p.z.A xs.p.z.n xs.p.z.c, .int .i64 xs.e, .int .i64 xs.f] 26)
  obtain ⟨qhR0, qhR1, qhR2, qhR3, qhR4, qhR5, qhR6, qhR7, qhR8⟩ := hR.c9
  obtain ⟨qhJ0, qhJ1, qhJ2⟩ := hJ.c3
  obtain ⟨qhS0, qhS1, qhS2, qhS3, qhS4, qhS5, qhS6, qhS7, qhS8⟩ := hS.c9
  obtain ⟨A2, hA2⟩ : ∃ A, A = sbC ts2 us2 ys sd := ⟨_, rfl⟩
  obtain ⟨V, hV⟩ : ∃ b, b = sbV ts2 us2 ys sd := ⟨_, rfl⟩
  obtain ⟨A3, hA3⟩ : ∃ A, A = poC ts2 us2 ys := ⟨_, rfl⟩
  obtain ⟨PV, hPV⟩ : ∃ A, A = poV ts2 us2 ys := ⟨_, rfl⟩
  obtain ⟨F1, F2, F3, hF⟩ : ∃ a b c, (a, b, c) = fbm ts2 us2 ys := ⟨_, _, _, rfl⟩
  have hg3 := fun W h1 h2 h3 h4 => impl.StruckBy_any xs ys t2 ts2 q2 us2 sd W h1 h2 h3 h4
  have hg4 := fun W h1 h2 h3  => spec.StruckBy_any xs ys t2 ts2 q2 us2 sd W h1 h2 h3 
  have hg5 := fun W h1 h2 h3 h4 => impl.PanelOfRecord_any xs ys t2 ts2 q2 us2 W h1 h2 h3 h4
  have hg6 := fun W h1 h2 h3  => spec.PanelOfRecord_any xs ys t2 ts2 q2 us2 W h1 h2 h3 
  have hg7 := fun W h1 h2 h3 h4 => impl.FirstBadMove_any xs ys t2 ts2 q2 us2 W h1 h2 h3 h4
  have hg8 := fun W h1 h2 h3  => spec.FirstBadMove_any xs ys t2 ts2 q2 us2 W h1 h2 h3 
  simp only [← hA2, ← hV] at hg3 hg4
  simp only [← hA3, ← hPV] at hg5 hg6
  simp only [← hF] at hg7 hg8
  have hsb := hide (show A2 = 0 → (∃ d : Nat, sd = (d : Int) ∧ d < 2) ∧ (∀ u ∈ V, u ∈ ys.p.x ∧ u ∉ PV.z) ∧ V.Nodup ∧ (V.length : Int) ≤ ys.p.y.getD sd.toNat 0 ∧ ys.p.y.length = 2 from fun e => by
    rw [hA2] at e
    obtain ⟨h0, h1, h2, h3, h4⟩ := sb_facts e
    rw [hV, hPV]
    refine ⟨?_, h2, h3, h4, sb_two e⟩
    rcases h1 with h1 | h1
    · exact ⟨0, h1, by omega⟩
    · exact ⟨1, h1, by omega⟩)
  clear hA2 hV hA3 hPV hF
  go_wp2_with fail
  refine (hg3 _ os.rd ht2.rt ht2.rw_ ht2.cap).mono ?_
  rintro e w5 ⟨v1, rfl, ov1, hx⟩
  clear qhR0 qhR1 qhR2 qhR3 qhR4 qhR5 qhR6 qhR7 qhR8 qhJ0 qhJ1 qhJ2 qhS0 qhS1 qhS2 qhS3 qhS4 qhS5 qhS6 qhS7 qhS8
  replace orr := orr.ext hx
  replace ht := ht.ext hx
  replace oj := oj.ext hx
  replace os := os.ext hx
  replace ht2 := ht2.ext hx
  replace hR := hR.ext hx
  replace hJ := hJ.ext hx
  replace hS := hS.ext hx
  replace hX := hX.trans hx
  clear hx
  obtain ⟨qhR0, qhR1, qhR2, qhR3, qhR4, qhR5, qhR6, qhR7, qhR8⟩ := hR.c9
  obtain ⟨qhJ0, qhJ1, qhJ2⟩ := hJ.c3
  obtain ⟨qhS0, qhS1, qhS2, qhS3, qhS4, qhS5, qhS6, qhS7, qhS8⟩ := hS.c9
  go_wp2_with fail
  refine (hg4 _ os.rd ht2.rt ht2.rw_).mono ?_
  rintro e w6 ⟨v2, rfl, ov2, hx⟩
  clear qhR0 qhR1 qhR2 qhR3 qhR4 qhR5 qhR6 qhR7 qhR8 qhJ0 qhJ1 qhJ2 qhS0 qhS1 qhS2 qhS3 qhS4 qhS5 qhS6 qhS7 qhS8
  replace orr := orr.ext hx
  replace ht := ht.ext hx
  replace oj := oj.ext hx
  replace os := os.ext hx
  replace ht2 := ht2.ext hx
  replace ov1 := ov1.ext hx
  replace hR := hR.ext hx
  replace hJ := hJ.ext hx
  replace hS := hS.ext hx
  replace hX := hX.trans hx
  clear hx
  obtain ⟨qhR0, qhR1, qhR2, qhR3, qhR4, qhR5, qhR6, qhR7, qhR8⟩ := hR.c9
  obtain ⟨qhJ0, qhJ1, qhJ2⟩ := hJ.c3
  obtain ⟨qhS0, qhS1, qhS2, qhS3, qhS4, qhS5, qhS6, qhS7, qhS8⟩ := hS.c9
  go_wp2_with fail
  refine (hg5 _ os.rd ht2.rt ht2.rw_ ht2.cap).mono ?_
  rintro e w7 ⟨p1, rfl, op1, hx⟩
  clear qhR0 qhR1 qhR2 qhR3 qhR4 qhR5 qhR6 qhR7 qhR8 qhJ0 qhJ1 qhJ2 qhS0 qhS1 qhS2 qhS3 qhS4 qhS5 qhS6 qhS7 qhS8
  replace orr := orr.ext hx
  replace ht := ht.ext hx
  replace oj := oj.ext hx
  replace os := os.ext hx
  replace ht2 := ht2.ext hx
  replace ov1 := ov1.ext hx
  replace ov2 := ov2.ext hx
  replace hR := hR.ext hx
  replace hJ := hJ.ext hx
  replace hS := hS.ext hx
  replace hX := hX.trans hx
  clear hx
  have hP := Blk.new w7 40 (#[.slice p1.x.A p1.x.n p1.x.c, .slice p1.y.A p1.y.n p1.y.c, .slice p1.z.A p1.z.n p1.z.c])
  replace orr := orr.alloc (.cells #[.slice p1.x.A p1.x.n p1.x.c, .slice p1.y.A p1.y.n p1.y.c, .slice p1.z.A p1.z.n p1.z.c] 40)
  replace ht := ht.alloc (.cells #[.slice p1.x.A p1.x.n p1.x.c, .slice p1.y.A p1.y.n p1.y.c, .slice p1.z.A p1.z.n p1.z.c] 40)
  replace oj := oj.alloc (.cells #[.slice p1.x.A p1.x.n p1.x.c, .slice p1.y.A p1.y.n p1.y.c, .slice p1.z.A p1.z.n p1.z.c] 40)
  replace os := os.alloc (.cells #[.slice p1.x.A p1.x.n p1.x.c, .slice p1.y.A p1.y.n p1.y.c, .slice p1.z.A p1.z.n p1.z.c] 40)
  replace ht2 := ht2.alloc (.cells #[.slice p1.x.A p1.x.n p1.x.c, .slice p1.y.A p1.y.n p1.y.c, .slice p1.z.A p1.z.n p1.z.c] 40)
  replace ov1 := ov1.alloc (.cells #[.slice p1.x.A p1.x.n p1.x.c, .slice p1.y.A p1.y.n p1.y.c, .slice p1.z.A p1.z.n p1.z.c] 40)
  replace ov2 := ov2.alloc (.cells #[.slice p1.x.A p1.x.n p1.x.c, .slice p1.y.A p1.y.n p1.y.c, .slice p1.z.A p1.z.n p1.z.c] 40)
  replace op1 := op1.alloc (.cells #[.slice p1.x.A p1.x.n p1.x.c, .slice p1.y.A p1.y.n p1.y.c, .slice p1.z.A p1.z.n p1.z.c] 40)
  replace hR := hR.alloc (.cells #[.slice p1.x.A p1.x.n p1.x.c, .slice p1.y.A p1.y.n p1.y.c, .slice p1.z.A p1.z.n p1.z.c] 40)
  replace hJ := hJ.alloc (.cells #[.slice p1.x.A p1.x.n p1.x.c, .slice p1.y.A p1.y.n p1.y.c, .slice p1.z.A p1.z.n p1.z.c] 40)
  replace hS := hS.alloc (.cells #[.slice p1.x.A p1.x.n p1.x.c, .slice p1.y.A p1.y.n p1.y.c, .slice p1.z.A p1.z.n p1.z.c] 40)
  replace hX := hX.alloc (.cells #[.slice p1.x.A p1.x.n p1.x.c, .slice p1.y.A p1.y.n p1.y.c, .slice p1.z.A p1.z.n p1.z.c] 40)
  obtain ⟨qhR0, qhR1, qhR2, qhR3, qhR4, qhR5, qhR6, qhR7, qhR8⟩ := hR.c9
  obtain ⟨qhJ0, qhJ1, qhJ2⟩ := hJ.c3
  obtain ⟨qhS0, qhS1, qhS2, qhS3, qhS4, qhS5, qhS6, qhS7, qhS8⟩ := hS.c9
  obtain ⟨qhP0, qhP1, qhP2⟩ := hP.c3
  go_wp2_with fail
  refine (hg6 _ os.rd ht2.rt ht2.rw_).mono ?_
  rintro e w8 ⟨p2, rfl, op2, hx⟩
  clear qhR0 qhR1 qhR2 qhR3 qhR4 qhR5 qhR6 qhR7 qhR8 qhJ0 qhJ1 qhJ2 qhS0 qhS1 qhS2 qhS3 qhS4 qhS5 qhS6 qhS7 qhS8 qhP0 qhP1 qhP2
  replace orr := orr.ext hx
  replace ht := ht.ext hx
  replace oj := oj.ext hx
  replace os := os.ext hx
  replace ht2 := ht2.ext hx
  replace ov1 := ov1.ext hx
  replace ov2 := ov2.ext hx
  replace op1 := op1.ext hx
  replace hR := hR.ext hx
  replace hJ := hJ.ext hx
  replace hS := hS.ext hx
  replace hP := hP.ext hx
  replace hX := hX.trans hx
  clear hx
  have hM := Blk.new w8 40 (#[.slice p2.x.A p2.x.n p2.x.c, .slice p2.y.A p2.y.n p2.y.c, .slice p2.z.A p2.z.n p2.z.c])
  replace orr := orr.alloc (.cells #[.slice p2.x.A p2.x.n p2.x.c, .slice p2.y.A p2.y.n p2.y.c, .slice p2.z.A p2.z.n p2.z.c] 40)
  replace ht := ht.alloc (.cells #[.slice p2.x.A p2.x.n p2.x.c, .slice p2.y.A p2.y.n p2.y.c, .slice p2.z.A p2.z.n p2.z.c] 40)
  replace oj := oj.alloc (.cells #[.slice p2.x.A p2.x.n p2.x.c, .slice p2.y.A p2.y.n p2.y.c, .slice p2.z.A p2.z.n p2.z.c] 40)
  replace os := os.alloc (.cells #[.slice p2.x.A p2.x.n p2.x.c, .slice p2.y.A p2.y.n p2.y.c, .slice p2.z.A p2.z.n p2.z.c] 40)
  replace ht2 := ht2.alloc (.cells #[.slice p2.x.A p2.x.n p2.x.c, .slice p2.y.A p2.y.n p2.y.c, .slice p2.z.A p2.z.n p2.z.c] 40)
  replace ov1 := ov1.alloc (.cells #[.slice p2.x.A p2.x.n p2.x.c, .slice p2.y.A p2.y.n p2.y.c, .slice p2.z.A p2.z.n p2.z.c] 40)
  replace ov2 := ov2.alloc (.cells #[.slice p2.x.A p2.x.n p2.x.c, .slice p2.y.A p2.y.n p2.y.c, .slice p2.z.A p2.z.n p2.z.c] 40)
  replace op1 := op1.alloc (.cells #[.slice p2.x.A p2.x.n p2.x.c, .slice p2.y.A p2.y.n p2.y.c, .slice p2.z.A p2.z.n p2.z.c] 40)
  replace op2 := op2.alloc (.cells #[.slice p2.x.A p2.x.n p2.x.c, .slice p2.y.A p2.y.n p2.y.c, .slice p2.z.A p2.z.n p2.z.c] 40)
  replace hR := hR.alloc (.cells #[.slice p2.x.A p2.x.n p2.x.c, .slice p2.y.A p2.y.n p2.y.c, .slice p2.z.A p2.z.n p2.z.c] 40)
  replace hJ := hJ.alloc (.cells #[.slice p2.x.A p2.x.n p2.x.c, .slice p2.y.A p2.y.n p2.y.c, .slice p2.z.A p2.z.n p2.z.c] 40)
  replace hS := hS.alloc (.cells #[.slice p2.x.A p2.x.n p2.x.c, .slice p2.y.A p2.y.n p2.y.c, .slice p2.z.A p2.z.n p2.z.c] 40)
  replace hP := hP.alloc (.cells #[.slice p2.x.A p2.x.n p2.x.c, .slice p2.y.A p2.y.n p2.y.c, .slice p2.z.A p2.z.n p2.z.c] 40)
  replace hX := hX.alloc (.cells #[.slice p2.x.A p2.x.n p2.x.c, .slice p2.y.A p2.y.n p2.y.c, .slice p2.z.A p2.z.n p2.z.c] 40)
  obtain ⟨qhR0, qhR1, qhR2, qhR3, qhR4, qhR5, qhR6, qhR7, qhR8⟩ := hR.c9
  obtain ⟨qhJ0, qhJ1, qhJ2⟩ := hJ.c3
  obtain ⟨qhS0, qhS1, qhS2, qhS3, qhS4, qhS5, qhS6, qhS7, qhS8⟩ := hS.c9
  obtain ⟨qhP0, qhP1, qhP2⟩ := hP.c3
  obtain ⟨qhM0, qhM1, qhM2⟩ := hM.c3
  go_wp2_with fail
  refine (hg7 _ os.rd ht2.rt ht2.rw_ ht2.cap).mono ?_
  rintro e w9 ⟨rfl, hx⟩
  clear qhR0 qhR1 qhR2 qhR3 qhR4 qhR5 qhR6 qhR7 qhR8 qhJ0 qhJ1 qhJ2 qhS0 qhS1 qhS2 qhS3 qhS4 qhS5 qhS6 qhS7 qhS8 qhP0 qhP1 qhP2 qhM0 qhM1 qhM2
  replace orr := orr.ext hx
  replace ht := ht.ext hx
  replace oj := oj.ext hx
  replace os := os.ext hx
  replace ht2 := ht2.ext hx
  replace ov1 := ov1.ext hx
  replace ov2 := ov2.ext hx
  replace op1 := op1.ext hx
  replace op2 := op2.ext hx
  replace hR := hR.ext hx
  replace hJ := hJ.ext hx
  replace hS := hS.ext hx
  replace hP := hP.ext hx
  replace hM := hM.ext hx
  replace hX := hX.trans hx
  clear hx
  obtain ⟨qhR0, qhR1, qhR2, qhR3, qhR4, qhR5, qhR6, qhR7, qhR8⟩ := hR.c9
  obtain ⟨qhJ0, qhJ1, qhJ2⟩ := hJ.c3
  obtain ⟨qhS0, qhS1, qhS2, qhS3, qhS4, qhS5, qhS6, qhS7, qhS8⟩ := hS.c9
  obtain ⟨qhP0, qhP1, qhP2⟩ := hP.c3
  obtain ⟨qhM0, qhM1, qhM2⟩ := hM.c3
  go_wp2_with fail
  refine (hg8 _ os.rd ht2.rt ht2.rw_).mono ?_
  rintro e w10 ⟨rfl, hx⟩
  clear qhR0 qhR1 qhR2 qhR3 qhR4 qhR5 qhR6 qhR7 qhR8 qhJ0 qhJ1 qhJ2 qhS0 qhS1 qhS2 qhS3 qhS4 qhS5 qhS6 qhS7 qhS8 qhP0 qhP1 qhP2 qhM0 qhM1 qhM2
  replace orr := orr.ext hx
  replace ht := ht.ext hx
  replace oj := oj.ext hx
  replace os := os.ext hx
  replace ht2 := ht2.ext hx
  replace ov1 := ov1.ext hx
  replace ov2 := ov2.ext hx
  replace op1 := op1.ext hx
  replace op2 := op2.ext hx
  replace hR := hR.ext hx
  replace hJ := hJ.ext hx
  replace hS := hS.ext hx
  replace hP := hP.ext hx
  replace hM := hM.ext hx
  replace hX := hX.trans hx
  clear hx
  obtain ⟨qhR0, qhR1, qhR2, qhR3, qhR4, qhR5, qhR6, qhR7, qhR8⟩ := hR.c9
  obtain ⟨qhJ0, qhJ1, qhJ2⟩ := hJ.c3
  obtain ⟨qhS0, qhS1, qhS2, qhS3, qhS4, qhS5, qhS6, qhS7, qhS8⟩ := hS.c9
  obtain ⟨qhP0, qhP1, qhP2⟩ := hP.c3
  obtain ⟨qhM0, qhM1, qhM2⟩ := hM.c3
  clear hg3 hg4 hg5 hg6 hg7 hg8
  go_wp2_with fail
  refine (spec.DrawIsHonest_any s _ (hc.ext hX)).mono ?_
  rintro e w11 ⟨xh, yh, rfl, oh, _, hx⟩
  clear qhR0 qhR1 qhR2 qhR3 qhR4 qhR5 qhR6 qhR7 qhR8 qhJ0 qhJ1 qhJ2 qhS0 qhS1 qhS2 qhS3 qhS4 qhS5 qhS6 qhS7 qhS8 qhP0 qhP1 qhP2 qhM0 qhM1 qhM2
  replace orr := orr.ext hx
  replace ht := ht.ext hx
  replace oj := oj.ext hx
  replace os := os.ext hx
  replace ht2 := ht2.ext hx
  replace ov1 := ov1.ext hx
  replace ov2 := ov2.ext hx
  replace op1 := op1.ext hx
  replace op2 := op2.ext hx
  replace hR := hR.ext hx
  replace hJ := hJ.ext hx
  replace hS := hS.ext hx
  replace hP := hP.ext hx
  replace hM := hM.ext hx
  replace hX := hX.trans hx
  clear hx
  have hH := Blk.new w11 26 (#[.int .i64 xh.a, .int .i64 xh.b, .int .i64 xh.c, .slice xh.p.x.A xh.p.x.n xh.p.x.c, .int .i64 xh.d, .slice xh.p.y.A xh.p.y.n xh.p.y.c, .slice xh.p.z.A xh.p.z.n xh.p.z.c, .int .i64 xh.e, .int .i64 xh.f])
  replace orr := orr.alloc (.cells #[.int .i64 xh.a, .int .i64 xh.b, .int .i64 xh.c, .slice xh.p.x.A xh.p.x.n xh.p.x.c, .int .i64 xh.d, .slice xh.p.y.A xh.p.y.n xh.p.y.c, .slice xh.p.z.A xh.p.z.n xh.p.z.c, .int .i64 xh.e, .int .i64 xh.f] 26)
  replace ht := ht.alloc (.cells #[.int .i64 xh.a, .int .i64 xh.b, .int .i64 xh.c, .slice xh.p.x.A xh.p.x.n xh.p.x.c, .int .i64 xh.d, .slice xh.p.y.A xh.p.y.n xh.p.y.c, .slice xh.p.z.A xh.p.z.n xh.p.z.c, .int .i64 xh.e, .int .i64 xh.f] 26)
  replace oj := oj.alloc (.cells #[.int .i64 xh.a, .int .i64 xh.b, .int .i64 xh.c, .slice xh.p.x.A xh.p.x.n xh.p.x.c, .int .i64 xh.d, .slice xh.p.y.A xh.p.y.n xh.p.y.c, .slice xh.p.z.A xh.p.z.n xh.p.z.c, .int .i64 xh.e, .int .i64 xh.f] 26)
  replace os := os.alloc (.cells #[.int .i64 xh.a, .int .i64 xh.b, .int .i64 xh.c, .slice xh.p.x.A xh.p.x.n xh.p.x.c, .int .i64 xh.d, .slice xh.p.y.A xh.p.y.n xh.p.y.c, .slice xh.p.z.A xh.p.z.n xh.p.z.c, .int .i64 xh.e, .int .i64 xh.f] 26)
  replace ht2 := ht2.alloc (.cells #[.int .i64 xh.a, .int .i64 xh.b, .int .i64 xh.c, .slice xh.p.x.A xh.p.x.n xh.p.x.c, .int .i64 xh.d, .slice xh.p.y.A xh.p.y.n xh.p.y.c, .slice xh.p.z.A xh.p.z.n xh.p.z.c, .int .i64 xh.e, .int .i64 xh.f] 26)
  replace ov1 := ov1.alloc (.cells #[.int .i64 xh.a, .int .i64 xh.b, .int .i64 xh.c, .slice xh.p.x.A xh.p.x.n xh.p.x.c, .int .i64 xh.d, .slice xh.p.y.A xh.p.y.n xh.p.y.c, .slice xh.p.z.A xh.p.z.n xh.p.z.c, .int .i64 xh.e, .int .i64 xh.f] 26)
  replace ov2 := ov2.alloc (.cells #[.int .i64 xh.a, .int .i64 xh.b, .int .i64 xh.c, .slice xh.p.x.A xh.p.x.n xh.p.x.c, .int .i64 xh.d, .slice xh.p.y.A xh.p.y.n xh.p.y.c, .slice xh.p.z.A xh.p.z.n xh.p.z.c, .int .i64 xh.e, .int .i64 xh.f] 26)
  replace op1 := op1.alloc (.cells #[.int .i64 xh.a, .int .i64 xh.b, .int .i64 xh.c, .slice xh.p.x.A xh.p.x.n xh.p.x.c, .int .i64 xh.d, .slice xh.p.y.A xh.p.y.n xh.p.y.c, .slice xh.p.z.A xh.p.z.n xh.p.z.c, .int .i64 xh.e, .int .i64 xh.f] 26)
  replace op2 := op2.alloc (.cells #[.int .i64 xh.a, .int .i64 xh.b, .int .i64 xh.c, .slice xh.p.x.A xh.p.x.n xh.p.x.c, .int .i64 xh.d, .slice xh.p.y.A xh.p.y.n xh.p.y.c, .slice xh.p.z.A xh.p.z.n xh.p.z.c, .int .i64 xh.e, .int .i64 xh.f] 26)
  replace oh := oh.alloc (.cells #[.int .i64 xh.a, .int .i64 xh.b, .int .i64 xh.c, .slice xh.p.x.A xh.p.x.n xh.p.x.c, .int .i64 xh.d, .slice xh.p.y.A xh.p.y.n xh.p.y.c, .slice xh.p.z.A xh.p.z.n xh.p.z.c, .int .i64 xh.e, .int .i64 xh.f] 26)
  replace hR := hR.alloc (.cells #[.int .i64 xh.a, .int .i64 xh.b, .int .i64 xh.c, .slice xh.p.x.A xh.p.x.n xh.p.x.c, .int .i64 xh.d, .slice xh.p.y.A xh.p.y.n xh.p.y.c, .slice xh.p.z.A xh.p.z.n xh.p.z.c, .int .i64 xh.e, .int .i64 xh.f] 26)
  replace hJ := hJ.alloc (.cells #[.int .i64 xh.a, .int .i64 xh.b, .int .i64 xh.c, .slice xh.p.x.A xh.p.x.n xh.p.x.c, .int .i64 xh.d, .slice xh.p.y.A xh.p.y.n xh.p.y.c, .slice xh.p.z.A xh.p.z.n xh.p.z.c, .int .i64 xh.e, .int .i64 xh.f] 26)
  replace hS := hS.alloc (.cells #[.int .i64 xh.a, .int .i64 xh.b, .int .i64 xh.c, .slice xh.p.x.A xh.p.x.n xh.p.x.c, .int .i64 xh.d, .slice xh.p.y.A xh.p.y.n xh.p.y.c, .slice xh.p.z.A xh.p.z.n xh.p.z.c, .int .i64 xh.e, .int .i64 xh.f] 26)
  replace hP := hP.alloc (.cells #[.int .i64 xh.a, .int .i64 xh.b, .int .i64 xh.c, .slice xh.p.x.A xh.p.x.n xh.p.x.c, .int .i64 xh.d, .slice xh.p.y.A xh.p.y.n xh.p.y.c, .slice xh.p.z.A xh.p.z.n xh.p.z.c, .int .i64 xh.e, .int .i64 xh.f] 26)
  replace hM := hM.alloc (.cells #[.int .i64 xh.a, .int .i64 xh.b, .int .i64 xh.c, .slice xh.p.x.A xh.p.x.n xh.p.x.c, .int .i64 xh.d, .slice xh.p.y.A xh.p.y.n xh.p.y.c, .slice xh.p.z.A xh.p.z.n xh.p.z.c, .int .i64 xh.e, .int .i64 xh.f] 26)
  replace hX := hX.alloc (.cells #[.int .i64 xh.a, .int .i64 xh.b, .int .i64 xh.c, .slice xh.p.x.A xh.p.x.n xh.p.x.c, .int .i64 xh.d, .slice xh.p.y.A xh.p.y.n xh.p.y.c, .slice xh.p.z.A xh.p.z.n xh.p.z.c, .int .i64 xh.e, .int .i64 xh.f] 26)
  obtain ⟨qhR0, qhR1, qhR2, qhR3, qhR4, qhR5, qhR6, qhR7, qhR8⟩ := hR.c9
  obtain ⟨qhJ0, qhJ1, qhJ2⟩ := hJ.c3
  obtain ⟨qhS0, qhS1, qhS2, qhS3, qhS4, qhS5, qhS6, qhS7, qhS8⟩ := hS.c9
  obtain ⟨qhP0, qhP1, qhP2⟩ := hP.c3
  obtain ⟨qhM0, qhM1, qhM2⟩ := hM.c3
  obtain ⟨qhH0, qhH1, qhH2, qhH3, qhH4, qhH5, qhH6, qhH7, qhH8⟩ := hH.c9
  obtain ⟨H0, hH0⟩ : ∃ A, A = honC yh := ⟨_, rfl⟩
  obtain ⟨H1, hH1⟩ : ∃ A, A = honV yh := ⟨_, rfl⟩
  obtain ⟨CM, hCM⟩ : ∃ A, A = cmt xh.b xh.c := ⟨_, rfl⟩
  have hg1 := fun W h => impl.IsHonest_any xh yh W h
  have hg2 := fun W h => spec.IsHonest_any xh yh W h
  have hg3 := fun W h => impl.IsRecord_any xh yh W h
  simp only [okR_hon, ← hH0] at hg3
  simp only [← hH0, ← hH1] at hg1 hg2
  have hon := hide (show H0 = 0 → (((!H1) == (CM == xh.a)) = false ∧ (H1 == (CM == xh.a)) = true) ∧ ∀ W, Calls Tryz.prog 21 #[.int .i64 xh.b, .int .i64 xh.c] W fun e w' => e = .returned (.tuple #[.int .i64 CM, .int .i64 0]) ∧ W = w' from fun e => by
    rw [hH0] at e
    obtain ⟨h1, h2, h3⟩ := hon_in e
    have ea := oh.2.1
    have eb := oh.2.2.1
    have ec := oh.2.2.2.1
    rw [hH1, hCM, h3, ea, eb, ec]
    exact ⟨by cases (cmt yh.b yh.c == yh.a) <;> exact ⟨rfl, rfl⟩, fun W => impl.CommitmentOf_in yh.b yh.c W h1 h2⟩)
  clear hH0 hH1 hCM
  go_wp2_with fail
  refine (hg1 _ oh.rd).mono ?_
  rintro e w12 ⟨rfl, hx⟩
  clear qhR0 qhR1 qhR2 qhR3 qhR4 qhR5 qhR6 qhR7 qhR8 qhJ0 qhJ1 qhJ2 qhS0 qhS1 qhS2 qhS3 qhS4 qhS5 qhS6 qhS7 qhS8 qhP0 qhP1 qhP2 qhM0 qhM1 qhM2 qhH0 qhH1 qhH2 qhH3 qhH4 qhH5 qhH6 qhH7 qhH8
  replace orr := orr.ext hx
  replace ht := ht.ext hx
  replace oj := oj.ext hx
  replace os := os.ext hx
  replace ht2 := ht2.ext hx
  replace ov1 := ov1.ext hx
  replace ov2 := ov2.ext hx
  replace op1 := op1.ext hx
  replace op2 := op2.ext hx
  replace oh := oh.ext hx
  replace hR := hR.ext hx
  replace hJ := hJ.ext hx
  replace hS := hS.ext hx
  replace hP := hP.ext hx
  replace hM := hM.ext hx
  replace hH := hH.ext hx
  replace hX := hX.trans hx
  clear hx
  obtain ⟨qhR0, qhR1, qhR2, qhR3, qhR4, qhR5, qhR6, qhR7, qhR8⟩ := hR.c9
  obtain ⟨qhJ0, qhJ1, qhJ2⟩ := hJ.c3
  obtain ⟨qhS0, qhS1, qhS2, qhS3, qhS4, qhS5, qhS6, qhS7, qhS8⟩ := hS.c9
  obtain ⟨qhP0, qhP1, qhP2⟩ := hP.c3
  obtain ⟨qhM0, qhM1, qhM2⟩ := hM.c3
  obtain ⟨qhH0, qhH1, qhH2, qhH3, qhH4, qhH5, qhH6, qhH7, qhH8⟩ := hH.c9
  go_wp2_with fail
  refine (hg2 _ oh.rd).mono ?_
  rintro e w13 ⟨rfl, hx⟩
  clear qhR0 qhR1 qhR2 qhR3 qhR4 qhR5 qhR6 qhR7 qhR8 qhJ0 qhJ1 qhJ2 qhS0 qhS1 qhS2 qhS3 qhS4 qhS5 qhS6 qhS7 qhS8 qhP0 qhP1 qhP2 qhM0 qhM1 qhM2 qhH0 qhH1 qhH2 qhH3 qhH4 qhH5 qhH6 qhH7 qhH8
  replace orr := orr.ext hx
  replace ht := ht.ext hx
  replace oj := oj.ext hx
  replace os := os.ext hx
  replace ht2 := ht2.ext hx
  replace ov1 := ov1.ext hx
  replace ov2 := ov2.ext hx
  replace op1 := op1.ext hx
  replace op2 := op2.ext hx
  replace oh := oh.ext hx
  replace hR := hR.ext hx
  replace hJ := hJ.ext hx
  replace hS := hS.ext hx
  replace hP := hP.ext hx
  replace hM := hM.ext hx
  replace hH := hH.ext hx
  replace hX := hX.trans hx
  clear hx
  obtain ⟨qhR0, qhR1, qhR2, qhR3, qhR4, qhR5, qhR6, qhR7, qhR8⟩ := hR.c9
  obtain ⟨qhJ0, qhJ1, qhJ2⟩ := hJ.c3
  obtain ⟨qhS0, qhS1, qhS2, qhS3, qhS4, qhS5, qhS6, qhS7, qhS8⟩ := hS.c9
  obtain ⟨qhP0, qhP1, qhP2⟩ := hP.c3
  obtain ⟨qhM0, qhM1, qhM2⟩ := hM.c3
  obtain ⟨qhH0, qhH1, qhH2, qhH3, qhH4, qhH5, qhH6, qhH7, qhH8⟩ := hH.c9
  go_wp2_with fail
  refine (likeInts_yes v1 v2 _ _ ov1.rd ov2.rd).mono ?_
  rintro e w14 ⟨rfl, hx⟩
  clear qhR0 qhR1 qhR2 qhR3 qhR4 qhR5 qhR6 qhR7 qhR8 qhJ0 qhJ1 qhJ2 qhS0 qhS1 qhS2 qhS3 qhS4 qhS5 qhS6 qhS7 qhS8 qhP0 qhP1 qhP2 qhM0 qhM1 qhM2 qhH0 qhH1 qhH2 qhH3 qhH4 qhH5 qhH6 qhH7 qhH8
  replace orr := orr.ext hx
  replace ht := ht.ext hx
  replace oj := oj.ext hx
  replace os := os.ext hx
  replace ht2 := ht2.ext hx
  replace ov1 := ov1.ext hx
  replace ov2 := ov2.ext hx
  replace op1 := op1.ext hx
  replace op2 := op2.ext hx
  replace oh := oh.ext hx
  replace hR := hR.ext hx
  replace hJ := hJ.ext hx
  replace hS := hS.ext hx
  replace hP := hP.ext hx
  replace hM := hM.ext hx
  replace hH := hH.ext hx
  replace hX := hX.trans hx
  clear hx
  obtain ⟨qhR0, qhR1, qhR2, qhR3, qhR4, qhR5, qhR6, qhR7, qhR8⟩ := hR.c9
  obtain ⟨qhJ0, qhJ1, qhJ2⟩ := hJ.c3
  obtain ⟨qhS0, qhS1, qhS2, qhS3, qhS4, qhS5, qhS6, qhS7, qhS8⟩ := hS.c9
  obtain ⟨qhP0, qhP1, qhP2⟩ := hP.c3
  obtain ⟨qhM0, qhM1, qhM2⟩ := hM.c3
  obtain ⟨qhH0, qhH1, qhH2, qhH3, qhH4, qhH5, qhH6, qhH7, qhH8⟩ := hH.c9
  go_wp2_with fail
  refine (likePanel_yes p1 p2 _ _ op1.rd op2.rd).mono ?_
  rintro e w15 ⟨rfl, hx⟩
  clear qhR0 qhR1 qhR2 qhR3 qhR4 qhR5 qhR6 qhR7 qhR8 qhJ0 qhJ1 qhJ2 qhS0 qhS1 qhS2 qhS3 qhS4 qhS5 qhS6 qhS7 qhS8 qhP0 qhP1 qhP2 qhM0 qhM1 qhM2 qhH0 qhH1 qhH2 qhH3 qhH4 qhH5 qhH6 qhH7 qhH8
  replace orr := orr.ext hx
  replace ht := ht.ext hx
  replace oj := oj.ext hx
  replace os := os.ext hx
  replace ht2 := ht2.ext hx
  replace ov1 := ov1.ext hx
  replace ov2 := ov2.ext hx
  replace op1 := op1.ext hx
  replace op2 := op2.ext hx
  replace oh := oh.ext hx
  replace hR := hR.ext hx
  replace hJ := hJ.ext hx
  replace hS := hS.ext hx
  replace hP := hP.ext hx
  replace hM := hM.ext hx
  replace hH := hH.ext hx
  replace hX := hX.trans hx
  clear hx
  obtain ⟨qhR0, qhR1, qhR2, qhR3, qhR4, qhR5, qhR6, qhR7, qhR8⟩ := hR.c9
  obtain ⟨qhJ0, qhJ1, qhJ2⟩ := hJ.c3
  obtain ⟨qhS0, qhS1, qhS2, qhS3, qhS4, qhS5, qhS6, qhS7, qhS8⟩ := hS.c9
  obtain ⟨qhP0, qhP1, qhP2⟩ := hP.c3
  obtain ⟨qhM0, qhM1, qhM2⟩ := hM.c3
  obtain ⟨qhH0, qhH1, qhH2, qhH3, qhH4, qhH5, qhH6, qhH7, qhH8⟩ := hH.c9
  go_wp2_with fail
  refine (hg3 _ oh.rd).mono ?_
  rintro e w16 ⟨rfl, hx⟩
  clear qhR0 qhR1 qhR2 qhR3 qhR4 qhR5 qhR6 qhR7 qhR8 qhJ0 qhJ1 qhJ2 qhS0 qhS1 qhS2 qhS3 qhS4 qhS5 qhS6 qhS7 qhS8 qhP0 qhP1 qhP2 qhM0 qhM1 qhM2 qhH0 qhH1 qhH2 qhH3 qhH4 qhH5 qhH6 qhH7 qhH8
  replace orr := orr.ext hx
  replace ht := ht.ext hx
  replace oj := oj.ext hx
  replace os := os.ext hx
  replace ht2 := ht2.ext hx
  replace ov1 := ov1.ext hx
  replace ov2 := ov2.ext hx
  replace op1 := op1.ext hx
  replace op2 := op2.ext hx
  replace oh := oh.ext hx
  replace hR := hR.ext hx
  replace hJ := hJ.ext hx
  replace hS := hS.ext hx
  replace hP := hP.ext hx
  replace hM := hM.ext hx
  replace hH := hH.ext hx
  replace hX := hX.trans hx
  clear hx
  clear hg1 hg2 hg3
  clear hM op2 ov2
  go_upto_if 192 with fail
  go_cut [34, 35] (fun _ _ wx => wx = w16)
  case first => as_aux_lemma =>
    clear hR hJ hS hP orr ht oj os ht2 ov1 op1 hsb hT0 hX hc
    by_cases hz : H0 = 0
    · obtain ⟨⟨h1, h3⟩, h2⟩ := hon.out hz
      have hb : (H0 == 0) = true := by rw [hz]; rfl
      clear hz hon oh
      obtain ⟨qhH0, qhH1, qhH2, qhH3, qhH4, qhH5, qhH6, qhH7, qhH8⟩ := hH.c9
      go_wp2_with (go_at_call 21; refine (h2 _).mono ?_; rintro e w' ⟨rfl, rfl⟩)
      go_meet
      rfl
    · have hb : (H0 == 0) = false := by rw [beq_eq_false_iff_ne]; exact hz
      clear hz hon oh hH
      go_wp2_with fail
      go_meet
      rfl
  case rest => as_aux_lemma =>
    clear hon oh hH
    have hcut2 := hcut.symm
    subst hcut2
    clear hcut
    obtain ⟨Av, nv, cv⟩ := v1
    have hrv := ov1.rd
    have hcv := ov1.cap
    have hnv := hrv.le
    simp only at hrv hnv
    simp only [cap1] at hcv
    have hps := os.rd.1
    have hpp := op1.rd.2.2.1
    clear os ht2 op1 ov1
    obtain ⟨wz, hwz⟩ : ∃ wz, wz = w16 := ⟨_, rfl⟩
    rw [← hwz] at hR hJ hS hP orr ht oj hrv hps hpp hX ⊢
    clear hwz
    by_cases hA : A2 = 0
    · obtain ⟨⟨d, rfl, hd⟩, hin, hnd, hlen, hy2⟩ := hsb.out hA
      subst hA
      clear hsb
      have hin2 := hide (fun (k : Nat) (x : Int) (h : V[k]? = some x) => show hasB ys.p.x x = true ∧ hasB PV.z x = false from by
    obtain ⟨h1, h2⟩ := hin x (List.mem_of_getElem? h)
    obtain ⟨i, hi⟩ := List.mem_iff_getElem?.1 h1
    exact ⟨hasB_yes hi, hasB_no fun m y hy e => h2 (e ▸ List.mem_of_getElem? hy)⟩)
      have hnd2 := hide (fun (k : Nat) (x : Int) (h : V[k]? = some x) => not_in_take hnd h)
      have hnl : Hid (nv = V.length) := hide hrv.1
      have hlen2 := hide hlen
      have hy3 := hide hy2
      clear hin hnd hlen hy2
      have hdI0 : (0 : Int) ≤ (d : Int) := by omega
      go_wp2_with fail
      go_loopw [36] (fun i wr => ∃ k : Nat, k ≤ nv ∧ i = .int .i64 k ∧ Ext wz wr) (fun i _ => nv - (intOf i).toNat)
      case atStart => exact ⟨0, by omega, rfl, Ext.refl _⟩
      case round => as_aux_lemma =>
        obtain ⟨k, hk, rfl, hx⟩ := hrel
        replace hR := hR.ext hx
        replace hJ := hJ.ext hx
        replace hS := hS.ext hx
        replace hP := hP.ext hx
        replace orr := orr.ext hx
        replace ht := ht.ext hx
        replace oj := oj.ext hx
        replace hX := hX.trans hx
        replace hrv := hrv.ext hx
        replace hps := hps.ext hx
        replace hpp := hpp.ext hx
        obtain ⟨qhS0, qhS1, qhS2, qhS3, qhS4, qhS5, qhS6, qhS7, qhS8⟩ := hS.c9
        obtain ⟨qhP0, qhP1, qhP2⟩ := hP.c3
        by_cases hlt : k < nv
        · obtain ⟨b, off, x, rfl, hbl, hc1, hxx⟩ := hrv.el hlt
          obtain ⟨h1, h2⟩ := hin2.out k x hxx.out
          have h3 := hnd2.out k x hxx.out
          have hrt := hrv.take (k := k) (by omega)
          have k1 := fun W (h : Rd W xs.p.x.A xs.p.x.n ys.p.x) => hasInt_any xs.p.x ys.p.x x W h
          have k2 := fun W (h : Rd W (some ⟨b, off, none⟩) k (V.take k)) => hasInt_any ⟨some ⟨b, off, none⟩, k, cv⟩ (V.take k) x W h
          have k3 := fun W (h : Rd W p1.z.A p1.z.n PV.z) => hasInt_any p1.z PV.z x W h
          simp only [h1] at k1
          simp only [h3] at k2
          simp only [h2] at k3
          have rx := hps.1
          clear h1 h2 h3 hxx hin2 hnd2 hlen2 hy3 hT0 hR hJ hS hP orr ht oj hps hnl hd hdI0
          go_wp2_with fail
          go_quiet ((first | (go_at_call 22; with_reducible exact quietL0 (k1 _ (rx.drewN _))) | (go_at_call 22; with_reducible exact quietL0 (k2 _ (hrt.drewN _))) | (go_at_call 22; with_reducible exact quietL0 (k3 _ (hpp.drewN _))) | fail))
          go_wp2_with fail
          go_roundw
          case rel => exact ⟨k + 1, by omega, by go_num, hx.drewN _⟩
          case measure => simp [intOf]; omega
        · have e : k = nv := by omega
          subst e
          clear hin2 hnd2 hlt hrv hpp hx
          have hy := hps.2.1
          have hyn : d < xs.p.y.n := by have := hy.1; have := hy3.out; omega
          obtain ⟨b, off, u, hA9, hbl, hc1, huu⟩ := hy.el hyn
          have hle : (k : Int) ≤ u := by have a := hlen2.out; have b := hnl.out; have c := huu.out; rw [show (d : Int).toNat = d by omega, List.getD_eq_getElem?_getD, c] at a; simp only [Option.getD_some] at a; omega
          have hgt : ¬ (u < (k : Int)) := by omega
          have hyI : (d : Int) < (xs.p.y.n : Int) := by omega
          rw [hA9] at qhS5
          clear hlen2 hy3 hnl huu hle hy hps hd hyn
          go_upto_if 259 with fail
          go_upto_region 29 with fail
          by_cases hA1 : A1 = 0
          · cases TB
            · subst hA1
              clear hT0 orr ht oj hR hJ
              go_wp2_with fail
              go_ret
              exact ⟨rfl, hX⟩
            · obtain ⟨e1, e2⟩ := hT0.out rfl
              subst hA1
              have k1 := fun W h1 h2 h3 h4 => impl.ReplayRecord_any xr yr t ts q us W h1 h2 h3 h4
              simp only [e1, e2] at k1
              clear e1 e2 hT0
              obtain ⟨qhR0, qhR1, qhR2, qhR3, qhR4, qhR5, qhR6, qhR7, qhR8⟩ := hR.c9
              go_wp2_with fail
              refine (k1 _ orr.rd ht.rt ht.rw_ ht.cap).mono ?_
              rintro e w8 ⟨j8, rfl, oj8, hx⟩
              clear qhR0 qhR1 qhR2 qhR3 qhR4 qhR5 qhR6 qhR7 qhR8 hR orr ht k1
              have hQ := Blk.new w8 30 (#[.slice j8.x.A j8.x.n j8.x.c, .slice j8.y.A j8.y.n j8.y.c, .slice j8.z.A j8.z.n j8.z.c])
              replace hJ := (hJ.ext hx).alloc (.cells #[.slice j8.x.A j8.x.n j8.x.c, .slice j8.y.A j8.y.n j8.y.c, .slice j8.z.A j8.z.n j8.z.c] 30)
              replace oj := (oj.ext hx).alloc (.cells #[.slice j8.x.A j8.x.n j8.x.c, .slice j8.y.A j8.y.n j8.y.c, .slice j8.z.A j8.z.n j8.z.c] 30)
              replace oj8 := oj8.alloc (.cells #[.slice j8.x.A j8.x.n j8.x.c, .slice j8.y.A j8.y.n j8.y.c, .slice j8.z.A j8.z.n j8.z.c] 30)
              replace hX := (hX.trans hx).alloc (.cells #[.slice j8.x.A j8.x.n j8.x.c, .slice j8.y.A j8.y.n j8.y.c, .slice j8.z.A j8.z.n j8.z.c] 30)
              clear hx
              obtain ⟨qhJ0, qhJ1, qhJ2⟩ := hJ.c3
              obtain ⟨qhQ0, qhQ1, qhQ2⟩ := hQ.c3
              go_wp2_with fail
              refine (likeJury_yes j8 j _ _ oj8.rd oj.rd).mono ?_
              rintro e w9 ⟨rfl, hx⟩
              replace hX := hX.trans hx
              go_wp2_with fail
              go_ret
              exact ⟨rfl, hX⟩
          · have hb1 : (A1 != 0) = true := by rw [bne_iff_ne]; exact hA1
            clear hA1 hT0 orr ht oj hR hJ
            go_wp2_with fail
            go_ret
            exact ⟨rfl, hX⟩
    · have hb : (A2 == 0) = false := by rw [beq_eq_false_iff_ne]; exact hA
      clear hA hsb hrv hps hpp hS hP
      go_wp2_with fail
      go_loopw [36] (fun i wr => i = .int .i64 0 ∧ wr = wz) (fun i _ => 0)
      case atStart => exact ⟨rfl, rfl⟩
      case round => as_aux_lemma =>
        obtain ⟨rfl, rfl⟩ := hrel
        go_upto_region 29 with fail
        by_cases hA1 : A1 = 0
        · cases TB
          · subst hA1
            clear hT0 orr ht oj hR hJ
            go_wp2_with fail
            go_ret
            exact ⟨rfl, hX⟩
          · obtain ⟨e1, e2⟩ := hT0.out rfl
            subst hA1
            have k1 := fun W h1 h2 h3 h4 => impl.ReplayRecord_any xr yr t ts q us W h1 h2 h3 h4
            simp only [e1, e2] at k1
            clear e1 e2 hT0
            obtain ⟨qhR0, qhR1, qhR2, qhR3, qhR4, qhR5, qhR6, qhR7, qhR8⟩ := hR.c9
            go_wp2_with fail
            refine (k1 _ orr.rd ht.rt ht.rw_ ht.cap).mono ?_
            rintro e w8 ⟨j8, rfl, oj8, hx⟩
            clear qhR0 qhR1 qhR2 qhR3 qhR4 qhR5 qhR6 qhR7 qhR8 hR orr ht k1
            have hQ := Blk.new w8 30 (#[.slice j8.x.A j8.x.n j8.x.c, .slice j8.y.A j8.y.n j8.y.c, .slice j8.z.A j8.z.n j8.z.c])
            replace hJ := (hJ.ext hx).alloc (.cells #[.slice j8.x.A j8.x.n j8.x.c, .slice j8.y.A j8.y.n j8.y.c, .slice j8.z.A j8.z.n j8.z.c] 30)
            replace oj := (oj.ext hx).alloc (.cells #[.slice j8.x.A j8.x.n j8.x.c, .slice j8.y.A j8.y.n j8.y.c, .slice j8.z.A j8.z.n j8.z.c] 30)
            replace oj8 := oj8.alloc (.cells #[.slice j8.x.A j8.x.n j8.x.c, .slice j8.y.A j8.y.n j8.y.c, .slice j8.z.A j8.z.n j8.z.c] 30)
            replace hX := (hX.trans hx).alloc (.cells #[.slice j8.x.A j8.x.n j8.x.c, .slice j8.y.A j8.y.n j8.y.c, .slice j8.z.A j8.z.n j8.z.c] 30)
            clear hx
            obtain ⟨qhJ0, qhJ1, qhJ2⟩ := hJ.c3
            obtain ⟨qhQ0, qhQ1, qhQ2⟩ := hQ.c3
            go_wp2_with fail
            refine (likeJury_yes j8 j _ _ oj8.rd oj.rd).mono ?_
            rintro e w9 ⟨rfl, hx⟩
            replace hX := hX.trans hx
            go_wp2_with fail
            go_ret
            exact ⟨rfl, hX⟩
        · have hb1 : (A1 != 0) = true := by rw [bne_iff_ne]; exact hA1
          clear hA1 hT0 orr ht oj hR hJ
          go_wp2_with fail
          go_ret
          exact ⟨rfl, hX⟩

theorem own_FnRecords : ownKnob Tryz.prog.godebug = none := by kernel_rfl
set_option maxRecDepth 100000 in
theorem lifted_FnRecords (os : Os) (started : os.Started) (H : Type) (enc : TypeId × Value → H) :
    ReturnsInHanded {} Tryz.checked os 3 .any (Rows.fnRecordsSpec.pre6 enc Tryz.prog Tryz.f3 Rows.fnRecordsRow.domain false) (Rows.fnRecordsSpec.post enc Tryz.prog Tryz.f3 false true false false) := by
  refine returnsInHanded_of_change (C := Tryz.checked) own_FnRecords started (by kernel_rfl) Tryz.func3
    (ChangeSpec.witness6 (enc := enc) (C := Tryz.checked) false ⟨#[], #[.slice none 0 0], []⟩ 8 (by kernel_rfl) (by kernel_rfl) (by kernel_rfl) (by kernel_rfl)) ?_
  intro W base args ds gs before hval0 hW hcnd _
  have hval : ∀ (j : Nat) t v, Tryz.f3.params[j]? = some t → args[j]? = some v → Value.okWide Tryz.prog W .any base t v := hval0
  have hW' := hW
  obtain ⟨p, q, hA0, hV, rfl, hfz, hnd⟩ := hW
  have hA : DataW.TrodAll enc Tryz.prog W 0 (fun _ => true) true Tryz.f3.params.toList args.toList ds p := hA0
  rw [Tryz.params3] at hA hval
  obtain ⟨v0, vs0, d0, ds0, p0, q0, hargs, rfl, rfl, h0, r0⟩ := trodAll_cons hA
  obtain ⟨rfl, rfl, rfl⟩ := trodAll_nil r0
  obtain rfl : args = #[v0] := by cases args; simp_all
  obtain ⟨rfl, rfl⟩ := trodVars_none hV
  have k0 := h0
  have lt0 : ∀ x ∈ p0, x.block < W.heap.size := by obtain ⟨m, hm⟩ := k0; exact DataW.trod_lt m _ _ _ hm
  obtain ⟨s0, rfl, i0, c0⟩ := open_code (hval 0 22 v0 rfl rfl) h0 (fun _ => rfl)
  clear hA0 hval0
  refine (law_FnRecords s0 W i0 c0).mono fun e W' ⟨he, bel⟩ => ?_
  subst he
  exact ⟨_, rfl, _, _, _, [], _, [], hW', trodAll_mk1 (shut_bool Tryz.underlying4 _), (trodAll_cons_mk (Below.trod laidOut (by kernel_rfl) (of_decide_eq_true (by kernel_rfl)) k0 bel lt0) trodAll_mk0), rfl, Below.frame bel _, fun h => by cases h⟩
theorem over_FnRecords : Rows.fnRecordsRow.holds Tryz.pinned (OpenSpec.ofChange Rows.fnRecordsSpec) :=
  OpenClaim.holds_of_wide 3 Tryz.f3 rfl rfl rfl rfl rfl rfl rfl ⟨rfl, rfl, rfl, rfl, rfl⟩ rfl rfl rfl rfl rfl (by kernel_rfl) Tryz.func3 (by kernel_rfl)
    (of_decide_eq_true (by kernel_rfl)) (by unfold Func.isWrapper; first | (rw [if_pos (by decide +kernel)]; kernel_rfl) | (rw [if_neg (by decide +kernel)]; exact ⟨rfl, rfl⟩))
    (fun os started H enc _ => lifted_FnRecords os started H enc)
/-- the statement -/
theorem proved_FnRecords : Rows.FnRecordsSaid := over_FnRecords
#print axioms proved_FnRecords
end Go.Proofs.YtofglgfjlbehmaaGreat.mem
