/-
  Contracts of the reference's strike, and of both programs' StrikeSeat.
-/
import Derived.Test.YtofglgfjlbehmaaGreatStr
namespace Go.Proofs.YtofglgfjlbehmaaGreat.mem
open Go.ChangeShapes Go.WideShapes Go.ChangeAt Go.RowKit

def ssC (y : SelL) (k : Int) : Int := if okS y = true then strC y k else 1
def ssV (y : SelL) (k : Int) : SelL := if ssC y k = 0 then strL y k else nilL
theorem ssV_no {y : SelL} {k c : Int} (h : ssC y k = c) (hc : c ≠ 0) : ssV y k = nilL := by
  unfold ssV
  rw [h, if_neg hc]
theorem ssV_yes {y : SelL} {k : Int} (h : ssC y k = 0) : ssV y k = strL y k := by
  unfold ssV
  rw [if_pos h]
theorem ssC_str {y : SelL} {k : Int} (h : okS y = true) : ssC y k = strC y k := by unfold ssC; rw [if_pos h]
theorem ssV_str {y : SelL} {k : Int} (h : okS y = true) : ssV y k = strV y k := by
  unfold ssV strV
  rw [ssC_str h]
set_option maxHeartbeats 8000000 in
theorem spec.l14Strike_any (x : SelA) (y : SelL) (k : Int) (w : World) (hr : RdS w x y) :
    Calls Tryz.prog 74 #[.agg #[.slice x.p.x.A x.p.x.n x.p.x.c, .slice x.p.y.A x.p.y.n x.p.y.c, .slice x.p.z.A x.p.z.n x.p.z.c, .slice x.s.A x.s.n x.s.c, .int .i64 x.t, .int .i64 x.q], .int .i64 k] w fun e w' => ∃ x' : SelA, e = .returned (.tuple #[.agg #[.slice x'.p.x.A x'.p.x.n x'.p.x.c, .slice x'.p.y.A x'.p.y.n x'.p.y.c, .slice x'.p.z.A x'.p.z.n x'.p.z.c, .slice x'.s.A x'.s.n x'.s.c, .int .i64 x'.t, .int .i64 x'.q], .int .i64 (ssC y k)]) ∧ (ssC y k = 0 → OwnS w' w.heap.size x' (strL y k)) ∧ Ext w w' := by
  obtain ⟨⟨px, py, pz⟩, ⟨As, ns, cs⟩, t, q⟩ := x
  obtain ⟨l, ls, t', q'⟩ := y
  have hr0 := hr
  obtain ⟨hp, hs, hcap, rfl, rfl⟩ := hr
  simp only at hp hs hcap ⊢
  have hX := ((Ext.refl w).alloc (.cells #[.slice px.A px.n px.c, .slice py.A py.n py.c, .slice pz.A pz.n pz.c, .slice As ns cs, .int .i64 t, .int .i64 q] 70)).alloc (.cells #[.slice none 0 0, .slice none 0 0, .slice none 0 0, .slice none 0 0, .int .i64 0, .int .i64 0] 70)
  have hB := (Blk.new w 70 (#[.slice px.A px.n px.c, .slice py.A py.n py.c, .slice pz.A pz.n pz.c, .slice As ns cs, .int .i64 t, .int .i64 q])).alloc (.cells #[.slice none 0 0, .slice none 0 0, .slice none 0 0, .slice none 0 0, .int .i64 0, .int .i64 0] 70)
  have hR := Blk.new (w.alloc (.cells #[.slice px.A px.n px.c, .slice py.A py.n py.c, .slice pz.A pz.n pz.c, .slice As ns cs, .int .i64 t, .int .i64 q] 70)) 70 (#[.slice none 0 0, .slice none 0 0, .slice none 0 0, .slice none 0 0, .int .i64 0, .int .i64 0])
  rw [World.size_alloc] at hR
  have hc := spec.l14Code_any ⟨⟨px, py, pz⟩, ⟨As, ns, cs⟩, t, q⟩ _ _ (hr0.ext hX)
  obtain ⟨b0, b1, b2, b3, b4, b5⟩ := hB.c6
  have hz0 : w.heap.size + 1 + 1 ≤ ((w.alloc (.cells #[.slice px.A px.n px.c, .slice py.A py.n py.c, .slice pz.A pz.n pz.c, .slice As ns cs, .int .i64 t, .int .i64 q] 70)).alloc (.cells #[.slice none 0 0, .slice none 0 0, .slice none 0 0, .slice none 0 0, .int .i64 0, .int .i64 0] 70)).heap.size := by simp
  cases hok : okS ⟨l, ls, t, q⟩
  case false =>
    have E2 := hide (show ssC ⟨l, ls, t, q⟩ k = 1 by unfold ssC; rw [hok]; rfl)
    rw [show ptC ⟨l, ls, t, q⟩ = 1 by unfold ptC; rw [hok]; rfl] at hc
    go_enter Tryz.func74, Tryz.ntmps74
    go_wp2_with fail
    refine hc.mono ?_
    rintro e w1 ⟨rfl, hx⟩
    have hz1 : w.heap.size + 1 + 1 ≤ w1.heap.size := by have := hx.size; omega
    clear b0 b1 b2 b3 b4 b5
    replace hX := hX.trans hx
    replace hR := hR.ext hx
    replace hB := hB.ext hx
    obtain ⟨b0, b1, b2, b3, b4, b5⟩ := hB.c6
    obtain ⟨r0, r1, r2, r3, r4, r5⟩ := hR.c6
    have y0 := hR.frozen 0
    have y1 := hR.frozen 1
    have y2 := hR.frozen 2
    have y3 := hR.frozen 3
    have y4 := hR.frozen 4
    have y5 := hR.frozen 5
    have hRn := ((((((hR.set_ 0 (.slice px.A px.n px.c)).set_ 1 (.slice py.A py.n py.c)).set_ 2 (.slice pz.A pz.n pz.c)).set_ 3 (.slice As ns cs)).set_ 4 (.int .i64 t)).set_ 5 (.int .i64 q))
    obtain ⟨n0, n1, n2, n3, n4, n5⟩ := hRn.c6
    have hXn := ((((((hX.off (w.heap.size + 1) 0 (by omega) (.slice px.A px.n px.c)).off (w.heap.size + 1) 1 (by omega) (.slice py.A py.n py.c)).off (w.heap.size + 1) 2 (by omega) (.slice pz.A pz.n pz.c)).off (w.heap.size + 1) 3 (by omega) (.slice As ns cs)).off (w.heap.size + 1) 4 (by omega) (.int .i64 t)).off (w.heap.size + 1) 5 (by omega) (.int .i64 q))
    go_wp2
    refine bodyPost_ret (v := .tuple #[.agg #[.slice (⟨⟨px, py, pz⟩, ⟨As, ns, cs⟩, t, q⟩ : SelA).p.x.A (⟨⟨px, py, pz⟩, ⟨As, ns, cs⟩, t, q⟩ : SelA).p.x.n (⟨⟨px, py, pz⟩, ⟨As, ns, cs⟩, t, q⟩ : SelA).p.x.c, .slice (⟨⟨px, py, pz⟩, ⟨As, ns, cs⟩, t, q⟩ : SelA).p.y.A (⟨⟨px, py, pz⟩, ⟨As, ns, cs⟩, t, q⟩ : SelA).p.y.n (⟨⟨px, py, pz⟩, ⟨As, ns, cs⟩, t, q⟩ : SelA).p.y.c, .slice (⟨⟨px, py, pz⟩, ⟨As, ns, cs⟩, t, q⟩ : SelA).p.z.A (⟨⟨px, py, pz⟩, ⟨As, ns, cs⟩, t, q⟩ : SelA).p.z.n (⟨⟨px, py, pz⟩, ⟨As, ns, cs⟩, t, q⟩ : SelA).p.z.c, .slice (⟨⟨px, py, pz⟩, ⟨As, ns, cs⟩, t, q⟩ : SelA).s.A (⟨⟨px, py, pz⟩, ⟨As, ns, cs⟩, t, q⟩ : SelA).s.n (⟨⟨px, py, pz⟩, ⟨As, ns, cs⟩, t, q⟩ : SelA).s.c, .int .i64 (⟨⟨px, py, pz⟩, ⟨As, ns, cs⟩, t, q⟩ : SelA).t, .int .i64 (⟨⟨px, py, pz⟩, ⟨As, ns, cs⟩, t, q⟩ : SelA).q], .int .i64 1]) (by simp [results, Tryz.results74, go_sem, n0, n1, n2, n3, n4, n5]) rfl ⟨(⟨⟨px, py, pz⟩, ⟨As, ns, cs⟩, t, q⟩ : SelA), by rw [E2.out], fun h => absurd (E2.out.symm.trans h) (by decide), hXn⟩
  cases hov : overB ⟨l, ls, t, q⟩
  case true =>
    have E2 := hide (show ssC ⟨l, ls, t, q⟩ k = 5 by unfold ssC strC; rw [hok, hov]; rfl)
    rw [show ptC ⟨l, ls, t, q⟩ = 5 by unfold ptC passC; rw [hok, hov]; rfl] at hc
    go_enter Tryz.func74, Tryz.ntmps74
    go_wp2_with fail
    refine hc.mono ?_
    rintro e w1 ⟨rfl, hx⟩
    have hz1 : w.heap.size + 1 + 1 ≤ w1.heap.size := by have := hx.size; omega
    clear b0 b1 b2 b3 b4 b5
    replace hX := hX.trans hx
    replace hR := hR.ext hx
    replace hB := hB.ext hx
    obtain ⟨b0, b1, b2, b3, b4, b5⟩ := hB.c6
    obtain ⟨r0, r1, r2, r3, r4, r5⟩ := hR.c6
    have y0 := hR.frozen 0
    have y1 := hR.frozen 1
    have y2 := hR.frozen 2
    have y3 := hR.frozen 3
    have y4 := hR.frozen 4
    have y5 := hR.frozen 5
    have hRn := ((((((hR.set_ 0 (.slice px.A px.n px.c)).set_ 1 (.slice py.A py.n py.c)).set_ 2 (.slice pz.A pz.n pz.c)).set_ 3 (.slice As ns cs)).set_ 4 (.int .i64 t)).set_ 5 (.int .i64 q))
    obtain ⟨n0, n1, n2, n3, n4, n5⟩ := hRn.c6
    have hXn := ((((((hX.off (w.heap.size + 1) 0 (by omega) (.slice px.A px.n px.c)).off (w.heap.size + 1) 1 (by omega) (.slice py.A py.n py.c)).off (w.heap.size + 1) 2 (by omega) (.slice pz.A pz.n pz.c)).off (w.heap.size + 1) 3 (by omega) (.slice As ns cs)).off (w.heap.size + 1) 4 (by omega) (.int .i64 t)).off (w.heap.size + 1) 5 (by omega) (.int .i64 q))
    go_wp2
    refine bodyPost_ret (v := .tuple #[.agg #[.slice (⟨⟨px, py, pz⟩, ⟨As, ns, cs⟩, t, q⟩ : SelA).p.x.A (⟨⟨px, py, pz⟩, ⟨As, ns, cs⟩, t, q⟩ : SelA).p.x.n (⟨⟨px, py, pz⟩, ⟨As, ns, cs⟩, t, q⟩ : SelA).p.x.c, .slice (⟨⟨px, py, pz⟩, ⟨As, ns, cs⟩, t, q⟩ : SelA).p.y.A (⟨⟨px, py, pz⟩, ⟨As, ns, cs⟩, t, q⟩ : SelA).p.y.n (⟨⟨px, py, pz⟩, ⟨As, ns, cs⟩, t, q⟩ : SelA).p.y.c, .slice (⟨⟨px, py, pz⟩, ⟨As, ns, cs⟩, t, q⟩ : SelA).p.z.A (⟨⟨px, py, pz⟩, ⟨As, ns, cs⟩, t, q⟩ : SelA).p.z.n (⟨⟨px, py, pz⟩, ⟨As, ns, cs⟩, t, q⟩ : SelA).p.z.c, .slice (⟨⟨px, py, pz⟩, ⟨As, ns, cs⟩, t, q⟩ : SelA).s.A (⟨⟨px, py, pz⟩, ⟨As, ns, cs⟩, t, q⟩ : SelA).s.n (⟨⟨px, py, pz⟩, ⟨As, ns, cs⟩, t, q⟩ : SelA).s.c, .int .i64 (⟨⟨px, py, pz⟩, ⟨As, ns, cs⟩, t, q⟩ : SelA).t, .int .i64 (⟨⟨px, py, pz⟩, ⟨As, ns, cs⟩, t, q⟩ : SelA).q], .int .i64 5]) (by simp [results, Tryz.results74, go_sem, n0, n1, n2, n3, n4, n5]) rfl ⟨(⟨⟨px, py, pz⟩, ⟨As, ns, cs⟩, t, q⟩ : SelA), by rw [E2.out], fun h => absurd (E2.out.symm.trans h) (by decide), hXn⟩
  rw [show ptC ⟨l, ls, t, q⟩ = 0 by unfold ptC passC; rw [hok, hov]; rfl] at hc
  obtain ⟨⟨bt0, bt1⟩, bq0, bq1⟩ := okS_bd hok
  have hsmall := okP_small (okS_p hok)
  simp only at bt0 bt1 bq0 bq1 hsmall
  obtain ⟨tn, rfl⟩ : ∃ tn : Nat, t = tn := ⟨t.toNat, by omega⟩
  have hw1 : IntKind.i64.wrap (1 - (tn : Int)) = 1 - (tn : Int) := Go.IntWalk.i64_in _ (by omega)
  obtain ⟨ht, ha, hb⟩ := okS_two (hr0.ext hX) hok
  have hs2 : ns = 2 := ht.1
  have hbd := hide (show 0 ≤ ls.getD tn 0 ∧ ls.getD tn 0 ≤ 10 by
    rcases (show tn = 0 ∨ tn = 1 by omega) with h | h
    · rw [h]; exact ha
    · rw [h]; exact hb)
  clear ht ha hb
  subst hs2
  obtain ⟨bs, offs, v, rfl, hbs, hcs, hvv⟩ := hs.el (k := tn) (by omega)
  have hvk := hide (show ls.getD tn 0 = v by rw [List.getD_eq_getElem?_getD, hvv.out]; rfl)
  go_enter Tryz.func74, Tryz.ntmps74
  go_wp2_with fail
  refine hc.mono ?_
  rintro e w1 ⟨rfl, hx⟩
  have hz1 : w.heap.size + 1 + 1 ≤ w1.heap.size := by have := hx.size; omega
  clear b0 b1 b2 b3 b4 b5
  replace hX := hX.trans hx
  replace hR := hR.ext hx
  replace hB := hB.ext hx
  clear hx
  obtain ⟨b0, b1, b2, b3, b4, b5⟩ := hB.c6
  have hcs1 := (hX.cell (p := ⟨bs, offs + tn, none⟩) hbs).trans hcs
  have hlx : Hid (px.n = l.x.length) := hide hp.1.1
  have hly : Hid (py.n = l.y.length) := hide hp.2.1.1
  have hlz : Hid (pz.n = l.z.length) := hide hp.2.2.1.1
  have hn1 := hp.1.le
  have ht2 : tn < 2 := by omega
  obtain ⟨px1, pxn, pxc⟩ := px
  simp only at hp hlx hn1
  obtain ⟨r0, r1, r2, r3, r4, r5⟩ := hR.c6
  have y0 := hR.frozen 0
  have y1 := hR.frozen 1
  have y2 := hR.frozen 2
  have y3 := hR.frozen 3
  have y4 := hR.frozen 4
  have y5 := hR.frozen 5
  have hRn := ((((((hR.set_ 0 (.slice px1 pxn pxc)).set_ 1 (.slice py.A py.n py.c)).set_ 2 (.slice pz.A pz.n pz.c)).set_ 3 (.slice (some ⟨bs, offs, none⟩) 2 cs)).set_ 4 (.int .i64 (tn : Int))).set_ 5 (.int .i64 q))
  obtain ⟨n0, n1, n2, n3, n4, n5⟩ := hRn.c6
  have hXn := ((((((hX.off (w.heap.size + 1) 0 (by omega) (.slice px1 pxn pxc)).off (w.heap.size + 1) 1 (by omega) (.slice py.A py.n py.c)).off (w.heap.size + 1) 2 (by omega) (.slice pz.A pz.n pz.c)).off (w.heap.size + 1) 3 (by omega) (.slice (some ⟨bs, offs, none⟩) 2 cs)).off (w.heap.size + 1) 4 (by omega) (.int .i64 (tn : Int))).off (w.heap.size + 1) 5 (by omega) (.int .i64 q))
  cases hin : inB k 0 ((pxn : Int) - 1)
  · have E2 := hide (show ssC ⟨l, ls, tn, q⟩ k = 2 by unfold ssC strC; rw [hok, hov]; simp only [← hlx.out, hin]; rfl)
    go_wp2_with (go_at_call 42; refine (spec.l01In_any _ _ _ _).mono ?_; rintro e w' ⟨rfl, rfl⟩)
    refine bodyPost_ret (v := .tuple #[.agg #[.slice (⟨⟨⟨px1, pxn, pxc⟩, py, pz⟩, ⟨some ⟨bs, offs, none⟩, 2, cs⟩, tn, q⟩ : SelA).p.x.A (⟨⟨⟨px1, pxn, pxc⟩, py, pz⟩, ⟨some ⟨bs, offs, none⟩, 2, cs⟩, tn, q⟩ : SelA).p.x.n (⟨⟨⟨px1, pxn, pxc⟩, py, pz⟩, ⟨some ⟨bs, offs, none⟩, 2, cs⟩, tn, q⟩ : SelA).p.x.c, .slice (⟨⟨⟨px1, pxn, pxc⟩, py, pz⟩, ⟨some ⟨bs, offs, none⟩, 2, cs⟩, tn, q⟩ : SelA).p.y.A (⟨⟨⟨px1, pxn, pxc⟩, py, pz⟩, ⟨some ⟨bs, offs, none⟩, 2, cs⟩, tn, q⟩ : SelA).p.y.n (⟨⟨⟨px1, pxn, pxc⟩, py, pz⟩, ⟨some ⟨bs, offs, none⟩, 2, cs⟩, tn, q⟩ : SelA).p.y.c, .slice (⟨⟨⟨px1, pxn, pxc⟩, py, pz⟩, ⟨some ⟨bs, offs, none⟩, 2, cs⟩, tn, q⟩ : SelA).p.z.A (⟨⟨⟨px1, pxn, pxc⟩, py, pz⟩, ⟨some ⟨bs, offs, none⟩, 2, cs⟩, tn, q⟩ : SelA).p.z.n (⟨⟨⟨px1, pxn, pxc⟩, py, pz⟩, ⟨some ⟨bs, offs, none⟩, 2, cs⟩, tn, q⟩ : SelA).p.z.c, .slice (⟨⟨⟨px1, pxn, pxc⟩, py, pz⟩, ⟨some ⟨bs, offs, none⟩, 2, cs⟩, tn, q⟩ : SelA).s.A (⟨⟨⟨px1, pxn, pxc⟩, py, pz⟩, ⟨some ⟨bs, offs, none⟩, 2, cs⟩, tn, q⟩ : SelA).s.n (⟨⟨⟨px1, pxn, pxc⟩, py, pz⟩, ⟨some ⟨bs, offs, none⟩, 2, cs⟩, tn, q⟩ : SelA).s.c, .int .i64 (⟨⟨⟨px1, pxn, pxc⟩, py, pz⟩, ⟨some ⟨bs, offs, none⟩, 2, cs⟩, tn, q⟩ : SelA).t, .int .i64 (⟨⟨⟨px1, pxn, pxc⟩, py, pz⟩, ⟨some ⟨bs, offs, none⟩, 2, cs⟩, tn, q⟩ : SelA).q], .int .i64 2]) (by simp [results, Tryz.results74, go_sem, n0, n1, n2, n3, n4, n5]) rfl ⟨(⟨⟨⟨px1, pxn, pxc⟩, py, pz⟩, ⟨some ⟨bs, offs, none⟩, 2, cs⟩, tn, q⟩ : SelA), by rw [E2.out], fun h => absurd (E2.out.symm.trans h) (by decide), hXn⟩
  have hin2 := inB_iff.1 hin
  obtain ⟨j, rfl⟩ : ∃ j : Nat, k = j := ⟨k.toNat, by omega⟩
  have hj : j < pxn := by omega
  obtain ⟨hin3, hin4⟩ := hin2
  obtain ⟨bp, offp, u, rfl, hbp, hcp, hu⟩ := hp.1.el hj
  have hcp1 := (hX.cell (p := ⟨bp, offp + j, none⟩) hbp).trans hcp
  have huk := hide (show l.x.getD j 0 = u by rw [List.getD_eq_getElem?_getD, hu.out]; rfl)
  by_cases hu0 : u = 0
  · have E2 := hide (show ssC ⟨l, ls, tn, q⟩ j = 4 by unfold ssC strC; rw [hok, hov]; simp only [← hlx.out, hin, Int.toNat_natCast, huk.out, hu0]; rfl)
    subst hu0
    go_wp2_with (go_at_call 42; refine (spec.l01In_any _ _ _ _).mono ?_; rintro e w' ⟨rfl, rfl⟩)
    refine bodyPost_ret (v := .tuple #[.agg #[.slice (⟨⟨⟨some ⟨bp, offp, none⟩, pxn, pxc⟩, py, pz⟩, ⟨some ⟨bs, offs, none⟩, 2, cs⟩, tn, q⟩ : SelA).p.x.A (⟨⟨⟨some ⟨bp, offp, none⟩, pxn, pxc⟩, py, pz⟩, ⟨some ⟨bs, offs, none⟩, 2, cs⟩, tn, q⟩ : SelA).p.x.n (⟨⟨⟨some ⟨bp, offp, none⟩, pxn, pxc⟩, py, pz⟩, ⟨some ⟨bs, offs, none⟩, 2, cs⟩, tn, q⟩ : SelA).p.x.c, .slice (⟨⟨⟨some ⟨bp, offp, none⟩, pxn, pxc⟩, py, pz⟩, ⟨some ⟨bs, offs, none⟩, 2, cs⟩, tn, q⟩ : SelA).p.y.A (⟨⟨⟨some ⟨bp, offp, none⟩, pxn, pxc⟩, py, pz⟩, ⟨some ⟨bs, offs, none⟩, 2, cs⟩, tn, q⟩ : SelA).p.y.n (⟨⟨⟨some ⟨bp, offp, none⟩, pxn, pxc⟩, py, pz⟩, ⟨some ⟨bs, offs, none⟩, 2, cs⟩, tn, q⟩ : SelA).p.y.c, .slice (⟨⟨⟨some ⟨bp, offp, none⟩, pxn, pxc⟩, py, pz⟩, ⟨some ⟨bs, offs, none⟩, 2, cs⟩, tn, q⟩ : SelA).p.z.A (⟨⟨⟨some ⟨bp, offp, none⟩, pxn, pxc⟩, py, pz⟩, ⟨some ⟨bs, offs, none⟩, 2, cs⟩, tn, q⟩ : SelA).p.z.n (⟨⟨⟨some ⟨bp, offp, none⟩, pxn, pxc⟩, py, pz⟩, ⟨some ⟨bs, offs, none⟩, 2, cs⟩, tn, q⟩ : SelA).p.z.c, .slice (⟨⟨⟨some ⟨bp, offp, none⟩, pxn, pxc⟩, py, pz⟩, ⟨some ⟨bs, offs, none⟩, 2, cs⟩, tn, q⟩ : SelA).s.A (⟨⟨⟨some ⟨bp, offp, none⟩, pxn, pxc⟩, py, pz⟩, ⟨some ⟨bs, offs, none⟩, 2, cs⟩, tn, q⟩ : SelA).s.n (⟨⟨⟨some ⟨bp, offp, none⟩, pxn, pxc⟩, py, pz⟩, ⟨some ⟨bs, offs, none⟩, 2, cs⟩, tn, q⟩ : SelA).s.c, .int .i64 (⟨⟨⟨some ⟨bp, offp, none⟩, pxn, pxc⟩, py, pz⟩, ⟨some ⟨bs, offs, none⟩, 2, cs⟩, tn, q⟩ : SelA).t, .int .i64 (⟨⟨⟨some ⟨bp, offp, none⟩, pxn, pxc⟩, py, pz⟩, ⟨some ⟨bs, offs, none⟩, 2, cs⟩, tn, q⟩ : SelA).q], .int .i64 4]) (by simp [results, Tryz.results74, go_sem, n0, n1, n2, n3, n4, n5]) rfl ⟨(⟨⟨⟨some ⟨bp, offp, none⟩, pxn, pxc⟩, py, pz⟩, ⟨some ⟨bs, offs, none⟩, 2, cs⟩, tn, q⟩ : SelA), by rw [E2.out], fun h => absurd (E2.out.symm.trans h) (by decide), hXn⟩
  have hun : (u == 0) = false := by simpa using hu0
  by_cases hv0 : v = 0
  · have E2 := hide (show ssC ⟨l, ls, tn, q⟩ j = 3 by unfold ssC strC; rw [hok, hov]; simp only [← hlx.out, hin, Int.toNat_natCast, huk.out, hvk.out, if_neg hu0, hv0]; rfl)
    clear hu0
    subst hv0
    go_wp2_with (go_at_call 42; refine (spec.l01In_any _ _ _ _).mono ?_; rintro e w' ⟨rfl, rfl⟩)
    refine bodyPost_ret (v := .tuple #[.agg #[.slice (⟨⟨⟨some ⟨bp, offp, none⟩, pxn, pxc⟩, py, pz⟩, ⟨some ⟨bs, offs, none⟩, 2, cs⟩, tn, q⟩ : SelA).p.x.A (⟨⟨⟨some ⟨bp, offp, none⟩, pxn, pxc⟩, py, pz⟩, ⟨some ⟨bs, offs, none⟩, 2, cs⟩, tn, q⟩ : SelA).p.x.n (⟨⟨⟨some ⟨bp, offp, none⟩, pxn, pxc⟩, py, pz⟩, ⟨some ⟨bs, offs, none⟩, 2, cs⟩, tn, q⟩ : SelA).p.x.c, .slice (⟨⟨⟨some ⟨bp, offp, none⟩, pxn, pxc⟩, py, pz⟩, ⟨some ⟨bs, offs, none⟩, 2, cs⟩, tn, q⟩ : SelA).p.y.A (⟨⟨⟨some ⟨bp, offp, none⟩, pxn, pxc⟩, py, pz⟩, ⟨some ⟨bs, offs, none⟩, 2, cs⟩, tn, q⟩ : SelA).p.y.n (⟨⟨⟨some ⟨bp, offp, none⟩, pxn, pxc⟩, py, pz⟩, ⟨some ⟨bs, offs, none⟩, 2, cs⟩, tn, q⟩ : SelA).p.y.c, .slice (⟨⟨⟨some ⟨bp, offp, none⟩, pxn, pxc⟩, py, pz⟩, ⟨some ⟨bs, offs, none⟩, 2, cs⟩, tn, q⟩ : SelA).p.z.A (⟨⟨⟨some ⟨bp, offp, none⟩, pxn, pxc⟩, py, pz⟩, ⟨some ⟨bs, offs, none⟩, 2, cs⟩, tn, q⟩ : SelA).p.z.n (⟨⟨⟨some ⟨bp, offp, none⟩, pxn, pxc⟩, py, pz⟩, ⟨some ⟨bs, offs, none⟩, 2, cs⟩, tn, q⟩ : SelA).p.z.c, .slice (⟨⟨⟨some ⟨bp, offp, none⟩, pxn, pxc⟩, py, pz⟩, ⟨some ⟨bs, offs, none⟩, 2, cs⟩, tn, q⟩ : SelA).s.A (⟨⟨⟨some ⟨bp, offp, none⟩, pxn, pxc⟩, py, pz⟩, ⟨some ⟨bs, offs, none⟩, 2, cs⟩, tn, q⟩ : SelA).s.n (⟨⟨⟨some ⟨bp, offp, none⟩, pxn, pxc⟩, py, pz⟩, ⟨some ⟨bs, offs, none⟩, 2, cs⟩, tn, q⟩ : SelA).s.c, .int .i64 (⟨⟨⟨some ⟨bp, offp, none⟩, pxn, pxc⟩, py, pz⟩, ⟨some ⟨bs, offs, none⟩, 2, cs⟩, tn, q⟩ : SelA).t, .int .i64 (⟨⟨⟨some ⟨bp, offp, none⟩, pxn, pxc⟩, py, pz⟩, ⟨some ⟨bs, offs, none⟩, 2, cs⟩, tn, q⟩ : SelA).q], .int .i64 3]) (by simp [results, Tryz.results74, go_sem, n0, n1, n2, n3, n4, n5]) rfl ⟨(⟨⟨⟨some ⟨bp, offp, none⟩, pxn, pxc⟩, py, pz⟩, ⟨some ⟨bs, offs, none⟩, 2, cs⟩, tn, q⟩ : SelA), by rw [E2.out], fun h => absurd (E2.out.symm.trans h) (by decide), hXn⟩
  have hvn : (v == 0) = false := by simpa using hv0
  have E2 := hide (show ssC ⟨l, ls, tn, q⟩ j = 0 by unfold ssC strC; rw [hok, hov]; simp only [← hlx.out, hin, Int.toNat_natCast, huk.out, hvk.out, if_neg hu0, if_neg hv0]; rfl)
  have E1 := hide (show strL ⟨l, ls, tn, q⟩ j = ⟨empL l j, ls.set tn (v - 1), 1 - (tn : Int), 0⟩ by unfold strL; simp only [Int.toNat_natCast, hvk.out])
  have hsm := hide (show pxn + (py.n + pz.n) ≤ 100000 by have h1 := hlx.out; have h2 := hly.out; have h3 := hlz.out; omega)
  have hvb := hide (show 0 ≤ v ∧ v ≤ 10 by rw [← hvk.out]; exact hbd.out)
  clear hu0 hv0 hRn n0 n1 n2 n3 n4 n5 hXn
  go_wp2_with (first | (go_at_call 42; refine (spec.l01In_any _ _ _ _).mono ?_; rintro e w' ⟨rfl, rfl⟩) | (go_at_call 62; refine (spec.l01Own_any ⟨some ⟨bs, offs, none⟩, 2, cs⟩ ls _ (hs.ext hX)).mono ?_; rintro e w3 ⟨⟨zA, zn, zc⟩, rfl, o3, hx⟩; replace o3 := Own.mono (lo' := w.heap.size + 1 + 1) o3 hz1; have zz3 := hx.size; replace hX := hX.trans hx; replace hB := hB.ext hx; replace hR := hR.ext hx; have hzn := hide (show zn = 2 by have h1 : zn = ls.length := o3.rd.1; have h2 : 2 = ls.length := hs.1; omega); have htz : tn < zn := (by have := hzn.out; omega); obtain ⟨gs, rfl, hgs, hgss, ⟨u1, hu1⟩, hf1, hput⟩ := o3.put htz; obtain ⟨b9, off9, v9, eb9, _, hc9, hv9⟩ := o3.rd.el htz; injection eb9 with eb9; injection eb9 with e1 e2; subst e1 e2; rw [Nat.zero_add] at hc9; clear hu1; obtain ⟨d0, d1, d2, d3, d4, d5⟩ := hB.c6; have hti : (0 : Int) ≤ (tn : Int) := (by omega); have htj : (tn : Int) < (zn : Int) := (by omega); obtain rfl : v9 = v := (by have h := hvv.out; rw [hv9.out] at h; injection h); have hv90 : 0 ≤ v9 := (by have := hvb.out; omega); have hv91 : v9 ≤ 10 := (by have := hvb.out; omega); have hgsw : ¬ gs = w.heap.size := (by omega)))
  have pX := hX.off gs tn (by omega) (.int .i64 (v9 - 1))
  have pB := hB.off gs tn (by omega) (.int .i64 (v9 - 1))
  have pR := hR.off gs tn (by omega) (.int .i64 (v9 - 1))
  have p3 := hput (v9 - 1)
  clear r0 r1 r2 r3 r4 r5 y0 y1 y2 y3 y4 y5 b0 b1 b2 b3 b4 b5 d0 d1 d2 d3 d4 d5
  obtain ⟨d0, d1, d2, d3, d4, d5⟩ := pB.c6
  go_region_held3 (fun w' => w'.cell? ⟨w.heap.size, 0, none⟩ = some (.slice (some ⟨bp, offp, none⟩) pxn pxc) ∧ w'.cell? ⟨w.heap.size, 1, none⟩ = some (.slice py.A py.n py.c) ∧ w'.cell? ⟨w.heap.size, 2, none⟩ = some (.slice pz.A pz.n pz.c) ∧ w'.cell? ⟨w.heap.size, 3, none⟩ = some (.slice (some ⟨bs, offs, none⟩) 2 cs) ∧ w'.cell? ⟨w.heap.size, 4, none⟩ = some (.int .i64 (tn : Int)) ∧ w'.cell? ⟨w.heap.size, 5, none⟩ = some (.int .i64 q)) (first | (with_reducible exact kk1) | (go_keep; done) | exact (((((((pB.drew.ext hx4).off (w.heap.size + 1) 0 (by omega) _).off (w.heap.size + 1) 1 (by omega) _).off (w.heap.size + 1) 2 (by omega) _).off (w.heap.size + 1) 3 (by omega) _).off (w.heap.size + 1) 4 (by omega) _).off (w.heap.size + 1) 5 (by omega) _).c6 | go_keep) (first | (go_at_call 106; refine (spec.l12Empty_any ⟨⟨some ⟨bp, offp, none⟩, pxn, pxc⟩, py, pz⟩ l j _ (hp.ext pX.drew) hj hsm.out).mono ?_; rintro e w4 ⟨p2, rfl, o2, hx4⟩; have kk1 := (pB.drew.ext hx4).c6; obtain ⟨r0, r1, r2, r3, r4, r5⟩ := (pR.drew.ext hx4).c6; have y0 := (pR.drew.ext hx4).frozen 0; have y1 := (pR.drew.ext hx4).frozen 1; have y2 := (pR.drew.ext hx4).frozen 2; have y3 := (pR.drew.ext hx4).frozen 3; have y4 := (pR.drew.ext hx4).frozen 4; have y5 := (pR.drew.ext hx4).frozen 5))
  have hX4 := pX.drew.trans hx4
  have hRf := (((((((pR.drew.ext hx4).set_ 0 (.slice p2.x.A p2.x.n p2.x.c)).set_ 1 (.slice p2.y.A p2.y.n p2.y.c)).set_ 2 (.slice p2.z.A p2.z.n p2.z.c)).set_ 3 (.slice (some ⟨gs, 0, none⟩) zn zc)).set_ 4 (.int .i64 (1 - (tn : Int)))).set_ 5 (.int .i64 0))
  obtain ⟨f0, f1, f2, f3, f4, f5⟩ := hRf.c6
  have zz4 := hx4.size
  simp at zz4
  go_wp2
  refine bodyPost_ret (v := .tuple #[.agg #[.slice (⟨p2, ⟨some ⟨gs, 0, none⟩, zn, zc⟩, 1 - (tn : Int), 0⟩ : SelA).p.x.A (⟨p2, ⟨some ⟨gs, 0, none⟩, zn, zc⟩, 1 - (tn : Int), 0⟩ : SelA).p.x.n (⟨p2, ⟨some ⟨gs, 0, none⟩, zn, zc⟩, 1 - (tn : Int), 0⟩ : SelA).p.x.c, .slice (⟨p2, ⟨some ⟨gs, 0, none⟩, zn, zc⟩, 1 - (tn : Int), 0⟩ : SelA).p.y.A (⟨p2, ⟨some ⟨gs, 0, none⟩, zn, zc⟩, 1 - (tn : Int), 0⟩ : SelA).p.y.n (⟨p2, ⟨some ⟨gs, 0, none⟩, zn, zc⟩, 1 - (tn : Int), 0⟩ : SelA).p.y.c, .slice (⟨p2, ⟨some ⟨gs, 0, none⟩, zn, zc⟩, 1 - (tn : Int), 0⟩ : SelA).p.z.A (⟨p2, ⟨some ⟨gs, 0, none⟩, zn, zc⟩, 1 - (tn : Int), 0⟩ : SelA).p.z.n (⟨p2, ⟨some ⟨gs, 0, none⟩, zn, zc⟩, 1 - (tn : Int), 0⟩ : SelA).p.z.c, .slice (⟨p2, ⟨some ⟨gs, 0, none⟩, zn, zc⟩, 1 - (tn : Int), 0⟩ : SelA).s.A (⟨p2, ⟨some ⟨gs, 0, none⟩, zn, zc⟩, 1 - (tn : Int), 0⟩ : SelA).s.n (⟨p2, ⟨some ⟨gs, 0, none⟩, zn, zc⟩, 1 - (tn : Int), 0⟩ : SelA).s.c, .int .i64 (⟨p2, ⟨some ⟨gs, 0, none⟩, zn, zc⟩, 1 - (tn : Int), 0⟩ : SelA).t, .int .i64 (⟨p2, ⟨some ⟨gs, 0, none⟩, zn, zc⟩, 1 - (tn : Int), 0⟩ : SelA).q], .int .i64 0]) (by simp [results, Tryz.results74, go_sem, f0, f1, f2, f3, f4, f5]) rfl ⟨⟨p2, ⟨some ⟨gs, 0, none⟩, zn, zc⟩, 1 - (tn : Int), 0⟩, by rw [E2.out], fun _ => ?_, ((((((hX4.off (w.heap.size + 1) 0 (by omega) _).off (w.heap.size + 1) 1 (by omega) _).off (w.heap.size + 1) 2 (by omega) _).off (w.heap.size + 1) 3 (by omega) _).off (w.heap.size + 1) 4 (by omega) _).off (w.heap.size + 1) 5 (by omega) _)⟩
  rw [E1.out]
  have q1 := Own3.mono (lo' := w.heap.size + 1 + 1) o2 (by first | omega | (simp; omega))
  have q2 : OwnS w4 (w.heap.size + 1 + 1) ⟨p2, ⟨some ⟨gs, 0, none⟩, zn, zc⟩, 1 - (tn : Int), 0⟩ ⟨empL l j, ls.set tn (v9 - 1), 1 - (tn : Int), 0⟩ := ⟨q1, p3.drew.ext hx4, ⟨rfl, rfl⟩, fun k h1 h2 => by have a1 := (Own3.lt o2 h1).1; have a2 := ownBlock_eq h2; simp at a1; omega⟩
  exact OwnS.mono ((((((q2.off (w.heap.size + 1) 0 (by omega) _).off (w.heap.size + 1) 1 (by omega) _).off (w.heap.size + 1) 2 (by omega) _).off (w.heap.size + 1) 3 (by omega) _).off (w.heap.size + 1) 4 (by omega) _).off (w.heap.size + 1) 5 (by omega) _) (by omega)
end Go.Proofs.YtofglgfjlbehmaaGreat.mem
