/-
  Contracts of the program's strike: a selection with somebody struck.
-/
import Derived.Test.YtofglgfjlbehmaaGreatPassTop
import Derived.Test.YtofglgfjlbehmaaGreatMg10
import Derived.Deep.RegionHeld3
namespace Go.Proofs.YtofglgfjlbehmaaGreat.mem
open Go.ChangeShapes Go.WideShapes Go.ChangeAt Go.RowKit

def strC (y : SelL) (k : Int) : Int :=
  if overB y = true then 5 else if inB k 0 ((y.p.x.length : Int) - 1) = false then 2 else if y.p.x.getD k.toNat 0 = 0 then 4 else if y.s.getD y.t.toNat 0 = 0 then 3 else 0
def strL (y : SelL) (k : Int) : SelL := ⟨empL y.p k.toNat, y.s.set y.t.toNat (y.s.getD y.t.toNat 0 - 1), 1 - y.t, 0⟩
def nilL : SelL := ⟨⟨[], [], []⟩, [], 0, 0⟩
def strV (y : SelL) (k : Int) : SelL := if strC y k = 0 then strL y k else nilL
theorem strV_no {y : SelL} {k c : Int} (h : strC y k = c) (hc : c ≠ 0) : strV y k = nilL := by
  unfold strV
  rw [h, if_neg hc]
theorem strV_yes {y : SelL} {k : Int} (h : strC y k = 0) : strV y k = strL y k := by
  unfold strV
  rw [if_pos h]
theorem okS_p {y : SelL} (h : okS y = true) : okP y.p = true := by
  unfold okS at h
  simp only [Bool.and_eq_true] at h
  exact h.1
/-- a selection in a new block -/
def StrPost (w : World) (bc : Array Value) (y' : SelL) (s6 : Value) (wx : World) : Prop :=
  ∃ (g : Nat) (z : SelA), s6 = .pointer (some ⟨g, 0, none⟩) ∧ Blk wx g 70 #[.slice z.p.x.A z.p.x.n z.p.x.c, .slice z.p.y.A z.p.y.n z.p.y.c, .slice z.p.z.A z.p.z.n z.p.z.c, .slice z.s.A z.s.n z.s.c, .int .i64 z.t, .int .i64 z.q] ∧ OwnS wx (w.heap.size + 1 + 1) z y' ∧ Ext w wx ∧ Blk wx w.heap.size 70 bc ∧
    Blk wx (w.heap.size + 1) 70 #[.slice none 0 0, .slice none 0 0, .slice none 0 0, .slice none 0 0, .int .i64 0, .int .i64 0] ∧ w.heap.size + 1 + 1 ≤ g ∧ ∀ k, blksS z k → k ≠ g
theorem OwnS.away {w : World} {lo : Nat} {z : SelA} {y : SelL} (h : OwnS w lo z y) {g : Nat} (hg : ∀ k, blksS z k → k ≠ g) (i : Nat) (u : Value) : OwnS (w.setCell ⟨g, i, none⟩ u) lo z y :=
  ⟨⟨h.1.1.away (fun e => hg g (.inl (.inl e)) rfl) i u, h.1.2.1.away (fun e => hg g (.inl (.inr (.inl e))) rfl) i u, h.1.2.2.1.away (fun e => hg g (.inl (.inr (.inr e))) rfl) i u, h.1.2.2.2⟩, h.2.1.away (fun e => hg g (.inr e) rfl) i u, h.2.2⟩
theorem Blk.set6 {w : World} {g : Nat} {t : TypeId} {a b c d e f : Value} (h : Blk w g t #[a, b, c, d, e, f]) (v0 v1 v2 v3 v4 v5 : Value) :
    Blk ((((((w.setCell ⟨g, 0, none⟩ v0).setCell ⟨g, 1, none⟩ v1).setCell ⟨g, 2, none⟩ v2).setCell ⟨g, 3, none⟩ v3).setCell ⟨g, 4, none⟩ v4).setCell ⟨g, 5, none⟩ v5) g t #[v0, v1, v2, v3, v4, v5] := by
  have h1 : Blk _ g t #[v0, b, c, d, e, f] := h.set_ 0 v0
  have h2 : Blk _ g t #[v0, v1, c, d, e, f] := h1.set_ 1 v1
  have h3 : Blk _ g t #[v0, v1, v2, d, e, f] := h2.set_ 2 v2
  have h4 : Blk _ g t #[v0, v1, v2, v3, e, f] := h3.set_ 3 v3
  have h5 : Blk _ g t #[v0, v1, v2, v3, v4, f] := h4.set_ 4 v4
  exact h5.set_ 5 v5
theorem StrPost.one {w w4 : World} {bc : Array Value} {y' : SelL} {g : Nat} {z : SelA} (hX : Ext w w4) (hO : Blk w4 g 70 #[.slice none 0 0, .slice none 0 0, .slice none 0 0, .slice none 0 0, .int .i64 0, .int .i64 0]) (hg : w.heap.size + 1 + 1 ≤ g)
    (h3 : OwnS w4 (w.heap.size + 1 + 1) z y') (hB : Blk w4 w.heap.size 70 bc) (hR : Blk w4 (w.heap.size + 1) 70 #[.slice none 0 0, .slice none 0 0, .slice none 0 0, .slice none 0 0, .int .i64 0, .int .i64 0]) (ha : ∀ k, blksS z k → k ≠ g) :
    StrPost w bc y' (.pointer (some ⟨g, 0, none⟩)) ((((((w4.setCell ⟨g, 0, none⟩ (.slice z.p.x.A z.p.x.n z.p.x.c)).setCell ⟨g, 1, none⟩ (.slice z.p.y.A z.p.y.n z.p.y.c)).setCell ⟨g, 2, none⟩ (.slice z.p.z.A z.p.z.n z.p.z.c)).setCell ⟨g, 3, none⟩ (.slice z.s.A z.s.n z.s.c)).setCell ⟨g, 4, none⟩ (.int .i64 z.t)).setCell ⟨g, 5, none⟩ (.int .i64 z.q)) :=
  ⟨g, z, rfl, hO.set6 _ _ _ _ _ _, (((((h3.away ha 0 _).away ha 1 _).away ha 2 _).away ha 3 _).away ha 4 _).away ha 5 _,
    (((((hX.off g 0 (by omega) _).off g 1 (by omega) _).off g 2 (by omega) _).off g 3 (by omega) _).off g 4 (by omega) _).off g 5 (by omega) _,
    (((((hB.off g 0 (by omega) _).off g 1 (by omega) _).off g 2 (by omega) _).off g 3 (by omega) _).off g 4 (by omega) _).off g 5 (by omega) _,
    (((((hR.off g 0 (by omega) _).off g 1 (by omega) _).off g 2 (by omega) _).off g 3 (by omega) _).off g 4 (by omega) _).off g 5 (by omega) _, hg, ha⟩
theorem StrPost.two {w w4 : World} {bc : Array Value} {y' : SelL} {z : SelA} (hX : Ext w w4) (hg : w.heap.size + 1 + 1 ≤ w4.heap.size)
    (h3 : OwnS w4 (w.heap.size + 1 + 1) z y') (hB : Blk w4 w.heap.size 70 bc) (hR : Blk w4 (w.heap.size + 1) 70 #[.slice none 0 0, .slice none 0 0, .slice none 0 0, .slice none 0 0, .int .i64 0, .int .i64 0]) :
    StrPost w bc y' (.pointer (some ⟨w4.heap.size, 0, none⟩)) (w4.alloc (.cells #[.slice z.p.x.A z.p.x.n z.p.x.c, .slice z.p.y.A z.p.y.n z.p.y.c, .slice z.p.z.A z.p.z.n z.p.z.c, .slice z.s.A z.s.n z.s.c, .int .i64 z.t, .int .i64 z.q] 70)) :=
  ⟨w4.heap.size, z, rfl, Blk.new _ _ _, h3.alloc _, hX.alloc _, hB.alloc _, hR.alloc _, hg, fun k hk e => by have := (h3.lt hk).2; omega⟩
set_option maxHeartbeats 8000000 in
theorem impl.strike_any (x : SelA) (y : SelL) (k : Int) (w : World) (hr : RdS w x y) (hok : okS y = true) :
    Calls Tryz.prog 73 #[.agg #[.slice x.p.x.A x.p.x.n x.p.x.c, .slice x.p.y.A x.p.y.n x.p.y.c, .slice x.p.z.A x.p.z.n x.p.z.c, .slice x.s.A x.s.n x.s.c, .int .i64 x.t, .int .i64 x.q], .int .i64 k] w fun e w' => ∃ x' : SelA, e = .returned (.tuple #[.agg #[.slice x'.p.x.A x'.p.x.n x'.p.x.c, .slice x'.p.y.A x'.p.y.n x'.p.y.c, .slice x'.p.z.A x'.p.z.n x'.p.z.c, .slice x'.s.A x'.s.n x'.s.c, .int .i64 x'.t, .int .i64 x'.q], .int .i64 (strC y k)]) ∧ OwnS w' w.heap.size x' (strV y k) ∧ Ext w w' := by
  obtain ⟨⟨px, py, pz⟩, ⟨As, ns, cs⟩, t, q⟩ := x
  obtain ⟨l, ls, t', q'⟩ := y
  have hr0 := hr
  obtain ⟨hp, hs, hcap, rfl, rfl⟩ := hr
  obtain ⟨⟨bt0, bt1⟩, bq0, bq1⟩ := okS_bd hok
  have hsmall := okP_small (okS_p hok)
  simp only at hp hs hcap bt0 bt1 bq0 bq1 hsmall ⊢
  obtain ⟨tn, rfl⟩ : ∃ tn : Nat, t = tn := ⟨t.toNat, by omega⟩
  have hw1 : IntKind.i64.wrap (1 - (tn : Int)) = 1 - (tn : Int) := Go.IntWalk.i64_in _ (by omega)
  have hX := ((Ext.refl w).alloc (.cells #[.slice px.A px.n px.c, .slice py.A py.n py.c, .slice pz.A pz.n pz.c, .slice As ns cs, .int .i64 (tn : Int), .int .i64 q] 70)).alloc (.cells #[.slice none 0 0, .slice none 0 0, .slice none 0 0, .slice none 0 0, .int .i64 0, .int .i64 0] 70)
  have hB := (Blk.new w 70 (#[.slice px.A px.n px.c, .slice py.A py.n py.c, .slice pz.A pz.n pz.c, .slice As ns cs, .int .i64 (tn : Int), .int .i64 q])).alloc (.cells #[.slice none 0 0, .slice none 0 0, .slice none 0 0, .slice none 0 0, .int .i64 0, .int .i64 0] 70)
  have hR := Blk.new (w.alloc (.cells #[.slice px.A px.n px.c, .slice py.A py.n py.c, .slice pz.A pz.n pz.c, .slice As ns cs, .int .i64 (tn : Int), .int .i64 q] 70)) 70 (#[.slice none 0 0, .slice none 0 0, .slice none 0 0, .slice none 0 0, .int .i64 0, .int .i64 0])
  rw [World.size_alloc] at hR
  have hz0 : w.heap.size + 1 + 1 ≤ ((w.alloc (.cells #[.slice px.A px.n px.c, .slice py.A py.n py.c, .slice pz.A pz.n pz.c, .slice As ns cs, .int .i64 (tn : Int), .int .i64 q] 70)).alloc (.cells #[.slice none 0 0, .slice none 0 0, .slice none 0 0, .slice none 0 0, .int .i64 0, .int .i64 0] 70)).heap.size := by simp
  obtain ⟨ht, ha, hb⟩ := okS_two (hr0.ext hX) hok
  have hs2 : ns = 2 := ht.1
  have hv := impl.over_any ⟨⟨px, py, pz⟩, ⟨As, ns, cs⟩, tn, q⟩ _ _ _ ht ha hb
  have hbd := hide (show 0 ≤ ls.getD tn 0 ∧ ls.getD tn 0 ≤ 10 by
    rcases (show tn = 0 ∨ tn = 1 by omega) with h | h
    · rw [h]; exact ha
    · rw [h]; exact hb)
  have hob : ((q == 2) || (ls.getD 0 0 + ls.getD 1 0 == 0)) = overB ⟨l, ls, tn, q⟩ := rfl
  simp only [hob] at hv
  clear ht ha hb hob
  subst hs2
  obtain ⟨bs, offs, v, rfl, hbs, hcs, hvv⟩ := hs.el (k := tn) (by omega)
  have hvk := hide (show ls.getD tn 0 = v by rw [List.getD_eq_getElem?_getD, hvv.out]; rfl)
  obtain ⟨b0, b1, b2, b3, b4, b5⟩ := hB.c6
  go_enter Tryz.func73, Tryz.ntmps73
  go_wp2_with fail
  refine hv.mono ?_
  rintro e w1 ⟨rfl, hx⟩
  clear b0 b1 b2 b3 b4 b5
  have hz1 : w.heap.size + 1 + 1 ≤ w1.heap.size := by have := hx.size; omega
  replace hX := hX.trans hx
  replace hR := hR.ext hx
  replace hB := hB.ext hx
  clear hv hx
  obtain ⟨b0, b1, b2, b3, b4, b5⟩ := hB.c6
  have hcs1 := (hX.cell (p := ⟨bs, offs + tn, none⟩) hbs).trans hcs
  obtain ⟨r0, r1, r2, r3, r4, r5⟩ := hR.c6
  have y0 := hR.frozen 0
  have y1 := hR.frozen 1
  have y2 := hR.frozen 2
  have y3 := hR.frozen 3
  have y4 := hR.frozen 4
  have y5 := hR.frozen 5
  have hRn := (((((hR.set_ 0 (.slice none 0 0)).set_ 1 (.slice none 0 0)).set_ 2 (.slice none 0 0)).set_ 3 (.slice none 0 0)).set_ 4 (.int .i64 0)).set_ 5 (.int .i64 0)
  obtain ⟨n0, n1, n2, n3, n4, n5⟩ := hRn.c6
  have hXn := (((((hX.off (w.heap.size + 1) 0 (by omega) (.slice none 0 0)).off (w.heap.size + 1) 1 (by omega) (.slice none 0 0)).off (w.heap.size + 1) 2 (by omega) (.slice none 0 0)).off (w.heap.size + 1) 3 (by omega) (.slice none 0 0)).off (w.heap.size + 1) 4 (by omega) (.int .i64 0)).off (w.heap.size + 1) 5 (by omega) (.int .i64 0)
  have hlx : Hid (px.n = l.x.length) := hide hp.1.1
  have hly : Hid (py.n = l.y.length) := hide hp.2.1.1
  have hlz : Hid (pz.n = l.z.length) := hide hp.2.2.1.1
  have hn1 := hp.1.le
  have ht2 : tn < 2 := by omega
  cases hov : overB ⟨l, ls, tn, q⟩
  case true =>
    have E2 := hide (show strC ⟨l, ls, tn, q⟩ k = 5 by unfold strC; rw [hov]; rfl)
    have E1 := hide (strV_no E2.out (by decide))
    go_wp2
    refine bodyPost_ret (v := .tuple #[.agg #[.slice nilS.p.x.A nilS.p.x.n nilS.p.x.c, .slice nilS.p.y.A nilS.p.y.n nilS.p.y.c, .slice nilS.p.z.A nilS.p.z.n nilS.p.z.c, .slice nilS.s.A nilS.s.n nilS.s.c, .int .i64 nilS.t, .int .i64 nilS.q], .int .i64 5]) (by simp [results, Tryz.results73, go_sem, n0, n1, n2, n3, n4, n5, nilS, nil3]) rfl ⟨nilS, by rw [E2.out], by rw [E1.out]; exact OwnS.nil _ _, hXn⟩
  cases hin : inB k 0 ((px.n : Int) - 1)
  · have E2 := hide (show strC ⟨l, ls, tn, q⟩ k = 2 by unfold strC; rw [hov]; simp only [← hlx.out, hin]; rfl)
    have E1 := hide (strV_no E2.out (by decide))
    go_wp2_with (go_at_call 102; refine (impl.at_any _ _ _).mono ?_; rintro e w' ⟨rfl, rfl⟩)
    refine bodyPost_ret (v := .tuple #[.agg #[.slice nilS.p.x.A nilS.p.x.n nilS.p.x.c, .slice nilS.p.y.A nilS.p.y.n nilS.p.y.c, .slice nilS.p.z.A nilS.p.z.n nilS.p.z.c, .slice nilS.s.A nilS.s.n nilS.s.c, .int .i64 nilS.t, .int .i64 nilS.q], .int .i64 2]) (by simp [results, Tryz.results73, go_sem, n0, n1, n2, n3, n4, n5, nilS, nil3]) rfl ⟨nilS, by rw [E2.out], by rw [E1.out]; exact OwnS.nil _ _, hXn⟩
  have hin2 := inB_iff.1 hin
  obtain ⟨j, rfl⟩ : ∃ j : Nat, k = j := ⟨k.toNat, by omega⟩
  have hj : j < px.n := by omega
  obtain ⟨px1, pxn, pxc⟩ := px
  simp only at hj hp hlx hn1 hin hin2
  obtain ⟨hin3, hin4⟩ := hin2
  obtain ⟨bp, offp, u, rfl, hbp, hcp, hu⟩ := hp.1.el hj
  have hcp1 := (hX.cell (p := ⟨bp, offp + j, none⟩) hbp).trans hcp
  have huk := hide (show l.x.getD j 0 = u by rw [List.getD_eq_getElem?_getD, hu.out]; rfl)
  by_cases hu0 : u = 0
  · have E2 := hide (show strC ⟨l, ls, tn, q⟩ j = 4 by unfold strC; rw [hov]; simp only [← hlx.out, hin, Int.toNat_natCast, huk.out, hu0]; rfl)
    have E1 := hide (strV_no E2.out (by decide))
    subst hu0
    go_wp2_with (go_at_call 102; refine (impl.at_any _ _ _).mono ?_; rintro e w' ⟨rfl, rfl⟩)
    refine bodyPost_ret (v := .tuple #[.agg #[.slice nilS.p.x.A nilS.p.x.n nilS.p.x.c, .slice nilS.p.y.A nilS.p.y.n nilS.p.y.c, .slice nilS.p.z.A nilS.p.z.n nilS.p.z.c, .slice nilS.s.A nilS.s.n nilS.s.c, .int .i64 nilS.t, .int .i64 nilS.q], .int .i64 4]) (by simp [results, Tryz.results73, go_sem, n0, n1, n2, n3, n4, n5, nilS, nil3]) rfl ⟨nilS, by rw [E2.out], by rw [E1.out]; exact OwnS.nil _ _, hXn⟩
  have hun : (u == 0) = false := by simpa using hu0
  by_cases hv0 : v = 0
  · have E2 := hide (show strC ⟨l, ls, tn, q⟩ j = 3 by unfold strC; rw [hov]; simp only [← hlx.out, hin, Int.toNat_natCast, huk.out, hvk.out, if_neg hu0, hv0]; rfl)
    have E1 := hide (strV_no E2.out (by decide))
    clear hu0
    subst hv0
    go_wp2_with (go_at_call 102; refine (impl.at_any _ _ _).mono ?_; rintro e w' ⟨rfl, rfl⟩)
    refine bodyPost_ret (v := .tuple #[.agg #[.slice nilS.p.x.A nilS.p.x.n nilS.p.x.c, .slice nilS.p.y.A nilS.p.y.n nilS.p.y.c, .slice nilS.p.z.A nilS.p.z.n nilS.p.z.c, .slice nilS.s.A nilS.s.n nilS.s.c, .int .i64 nilS.t, .int .i64 nilS.q], .int .i64 3]) (by simp [results, Tryz.results73, go_sem, n0, n1, n2, n3, n4, n5, nilS, nil3]) rfl ⟨nilS, by rw [E2.out], by rw [E1.out]; exact OwnS.nil _ _, hXn⟩
  have hvn : (v == 0) = false := by simpa using hv0
  have E2 := hide (show strC ⟨l, ls, tn, q⟩ j = 0 by unfold strC; rw [hov]; simp only [← hlx.out, hin, Int.toNat_natCast, huk.out, hvk.out, if_neg hu0, if_neg hv0]; rfl)
  have E1 := hide (show strV ⟨l, ls, tn, q⟩ j = ⟨empL l j, ls.set tn (v - 1), 1 - (tn : Int), 0⟩ by rw [strV_yes E2.out]; unfold strL; simp only [Int.toNat_natCast, hvk.out])
  have hsm := hide (show pxn + (py.n + pz.n) ≤ 100000 by have h1 := hlx.out; have h2 := hly.out; have h3 := hlz.out; omega)
  have hvb := hide (show 0 ≤ v ∧ v ≤ 10 by rw [← hvk.out]; exact hbd.out)
  clear hu0 hv0 hRn n0 n1 n2 n3 n4 n5 hXn
  go_upto_region 9 with (go_at_call 102; refine (impl.at_any _ _ _).mono ?_; rintro e w' ⟨rfl, rfl⟩)
  go_cut [6] (fun s6 wx => StrPost w #[.slice (some ⟨bp, offp, none⟩) pxn pxc, .slice py.A py.n py.c, .slice pz.A pz.n pz.c, .slice (some ⟨bs, offs, none⟩) 2 cs, .int .i64 (tn : Int), .int .i64 q] ⟨empL l j, ls, 1 - (tn : Int), 0⟩ s6 wx)
  case first =>
    clear r0 r1 r2 r3 r4 r5 y0 y1 y2 y3 y4 y5 hcs hcs1 hcp hcp1 hvv hu huk hvk hbd E1 E2 hun hvn hov hok hr0 hcap hvb hin hsmall hlx hly hlz hn1 bt0 bt1 bq0 bq1 hin3 hin4 hbs hbp ht2
    have ka1 := (fun (o : Obj) => (show (w1.alloc o).drew.cell? ⟨w.heap.size, 0, none⟩ = some (.slice (some ⟨bp, offp, none⟩) pxn pxc) ∧ (w1.alloc o).drew.cell? ⟨w.heap.size, 1, none⟩ = some (.slice py.A py.n py.c) ∧ (w1.alloc o).drew.cell? ⟨w.heap.size, 2, none⟩ = some (.slice pz.A pz.n pz.c) ∧ (w1.alloc o).drew.cell? ⟨w.heap.size, 3, none⟩ = some (.slice (some ⟨bs, offs, none⟩) 2 cs) ∧ (w1.alloc o).drew.cell? ⟨w.heap.size, 4, none⟩ = some (.int .i64 (tn : Int)) ∧ (w1.alloc o).drew.cell? ⟨w.heap.size, 5, none⟩ = some (.int .i64 q) from (hB.alloc o).drew.c6))
    have nq7 : ¬ w1.heap.size = w.heap.size := by omega
    have nq8 : ¬ w.heap.size = w1.heap.size := by omega
    have nq9 : w.heap.size < w1.heap.size := by omega
    go_region_held3 (fun w' => w'.cell? ⟨w.heap.size, 0, none⟩ = some (.slice (some ⟨bp, offp, none⟩) pxn pxc) ∧ w'.cell? ⟨w.heap.size, 1, none⟩ = some (.slice py.A py.n py.c) ∧ w'.cell? ⟨w.heap.size, 2, none⟩ = some (.slice pz.A pz.n pz.c) ∧ w'.cell? ⟨w.heap.size, 3, none⟩ = some (.slice (some ⟨bs, offs, none⟩) 2 cs) ∧ w'.cell? ⟨w.heap.size, 4, none⟩ = some (.int .i64 (tn : Int)) ∧ w'.cell? ⟨w.heap.size, 5, none⟩ = some (.int .i64 q)) (first | (with_reducible exact kk2) | (with_reducible exact kk1) | (with_reducible exact (ka1 _)) | (with_reducible exact (ka2 _)) | (with_reducible exact (ka3 _)) | (go_keep; done) | with_reducible exact ((((((hB.off _ 0 (by omega) _).off _ 1 (by omega) _).off _ 2 (by omega) _).off _ 3 (by omega) _).off _ 4 (by omega) _).off _ 5 (by omega) _).c6 | go_keep) (first | (go_at_call 95; refine (impl.clone_any ⟨some ⟨bs, offs, none⟩, 2, cs⟩ ls _ (hs.ext (by first | exact hX | exact hX.alloc _ | fail))).mono ?_; rintro e w3 ⟨s3, rfl, o3, hx⟩; have hE : Ext w2 w3 := Ext.trans (by first | exact Ext.refl _ | exact (Ext.refl _).alloc _ | fail) hx; have zz3 := hE.size; have zs3 := hx.size; (try simp at zs3); have g3r := o3.lt; (try simp at g3r); replace o3 := Own.mono (lo' := w.heap.size + 1 + 1) o3 (by first | omega | (simp; omega)); replace o2 := o2.ext hE; replace hX := hX.trans hE; replace hB := hB.ext hE; replace hR := hR.ext hE; (try have hO := Blk.ext hO hE); (try have hO : Blk w3 (w2.heap.size) 70 #[.slice none 0 0, .slice none 0 0, .slice none 0 0, .slice none 0 0, .int .i64 0, .int .i64 0] := Blk.ext (by first | with_reducible exact Blk.new _ _ _ | fail) hx); (try obtain ⟨so0, so1, so2, so3, so4, so5⟩ := hO.c6); (try have sy0 := hO.frozen 0); (try have sy1 := hO.frozen 1); (try have sy2 := hO.frozen 2); (try have sy3 := hO.frozen 3); (try have sy4 := hO.frozen 4); (try have sy5 := hO.frozen 5); have kk2 := hB.c6; have ka3 := (fun (o : Obj) => (show (w3.alloc o).cell? ⟨w.heap.size, 0, none⟩ = some (.slice (some ⟨bp, offp, none⟩) pxn pxc) ∧ (w3.alloc o).cell? ⟨w.heap.size, 1, none⟩ = some (.slice py.A py.n py.c) ∧ (w3.alloc o).cell? ⟨w.heap.size, 2, none⟩ = some (.slice pz.A pz.n pz.c) ∧ (w3.alloc o).cell? ⟨w.heap.size, 3, none⟩ = some (.slice (some ⟨bs, offs, none⟩) 2 cs) ∧ (w3.alloc o).cell? ⟨w.heap.size, 4, none⟩ = some (.int .i64 (tn : Int)) ∧ (w3.alloc o).cell? ⟨w.heap.size, 5, none⟩ = some (.int .i64 q) from (hB.alloc o).c6)); have nq5 : ¬ w3.heap.size = w.heap.size := (by omega); have nq6 : ¬ w.heap.size = w3.heap.size := (by omega); clear hx hE) | (go_at_call 104; refine (impl.empty_any ⟨⟨some ⟨bp, offp, none⟩, pxn, pxc⟩, py, pz⟩ l j _ (hp.ext (by first | exact hX.drew | exact (hX.alloc _).drew | fail)) hj hsm.out).mono ?_; rintro e w2 ⟨p2, rfl, o2, hx⟩; have hE : Ext w1 w2 := Ext.trans (by first | exact (Ext.refl _).drew | exact ((Ext.refl _).alloc _).drew | fail) hx; have zz2 := hE.size; have zs2 := hx.size; (try simp at zs2); have g2r := (fun k' (hk : blks p2 k') => Own3.lt o2 hk); (try simp at g2r); replace o2 := Own3.mono (lo' := w.heap.size + 1 + 1) o2 (by first | omega | (simp; omega)); replace hX := hX.trans hE; replace hB := hB.ext hE; replace hR := hR.ext hE; (try have hO : Blk w2 (w1.heap.size) 70 #[.slice none 0 0, .slice none 0 0, .slice none 0 0, .slice none 0 0, .int .i64 0, .int .i64 0] := Blk.ext (by first | with_reducible exact (Blk.new _ _ _).drew | fail) hx); have kk1 := hB.c6; have ka2 := (fun (o : Obj) => (show (w2.alloc o).cell? ⟨w.heap.size, 0, none⟩ = some (.slice (some ⟨bp, offp, none⟩) pxn pxc) ∧ (w2.alloc o).cell? ⟨w.heap.size, 1, none⟩ = some (.slice py.A py.n py.c) ∧ (w2.alloc o).cell? ⟨w.heap.size, 2, none⟩ = some (.slice pz.A pz.n pz.c) ∧ (w2.alloc o).cell? ⟨w.heap.size, 3, none⟩ = some (.slice (some ⟨bs, offs, none⟩) 2 cs) ∧ (w2.alloc o).cell? ⟨w.heap.size, 4, none⟩ = some (.int .i64 (tn : Int)) ∧ (w2.alloc o).cell? ⟨w.heap.size, 5, none⟩ = some (.int .i64 q) from (hB.alloc o).c6)); have nq1 : ¬ w1.heap.size = w.heap.size := (by omega); have nq2 : ¬ w.heap.size = w1.heap.size := (by omega); have nq3 : ¬ w2.heap.size = w.heap.size := (by omega); have nq4 : ¬ w.heap.size = w2.heap.size := (by omega); clear hx hE))
    all_goals (go_wp2_with fail)
    all_goals go_meet
    · have h3 : OwnS w3 (w.heap.size + 1 + 1) ⟨p2, s3, 1 - (tn : Int), 0⟩ ⟨empL l j, ls, 1 - (tn : Int), 0⟩ := ⟨o2, o3, ⟨rfl, rfl⟩, fun k h1 h2 => by have a1 := g2r k h1; have a2 := g3r k h2; omega⟩
      exact StrPost.two (z := ⟨p2, s3, 1 - (tn : Int), 0⟩) hX (by omega) h3 hB hR
    · have h3 : OwnS w3 (w.heap.size + 1 + 1) ⟨p2, s3, 1 - (tn : Int), 0⟩ ⟨empL l j, ls, 1 - (tn : Int), 0⟩ := ⟨o2, o3, ⟨rfl, rfl⟩, fun k h1 h2 => by have a1 := g2r k h1; have a2 := g3r k h2; omega⟩
      exact StrPost.one (z := ⟨p2, s3, 1 - (tn : Int), 0⟩) hX hO (by omega) h3 hB hR (fun k hk e => by
        subst e
        rcases hk with h | h
        · have h5 := g2r _ h; have h6 := hO.lt; omega
        · have h5 := g3r _ h; have h6 := hO.lt; omega)
    · have h3 : OwnS w3 (w.heap.size + 1 + 1) ⟨p2, s3, 1 - (tn : Int), 0⟩ ⟨empL l j, ls, 1 - (tn : Int), 0⟩ := ⟨o2, o3, ⟨rfl, rfl⟩, fun k h1 h2 => by have a1 := g2r k h1; have a2 := g3r k h2; omega⟩
      exact StrPost.one (z := ⟨p2, s3, 1 - (tn : Int), 0⟩) hX hO (by omega) h3 hB hR (fun k hk e => by
        subst e
        rcases hk with h | h
        · have h5 := g2r _ h; have h6 := hO.lt; omega
        · have h5 := g3r _ h; have h6 := hO.lt; omega)
  case rest =>
    clear b0 b1 b2 b3 b4 b5 r0 r1 r2 r3 r4 r5 y0 y1 y2 y3 y4 y5 hB hR hX hw1
    obtain ⟨g, ⟨zp, ⟨zA, zn, zc⟩, zt, zq⟩, rfl, hO, ⟨op, os, ⟨hzt, hzq⟩, hap⟩, hX, hB, hR, hg, ha⟩ := hcut
    simp only at op os hzt hzq hap hO
    subst hzt hzq
    have hzn := hide (show zn = 2 by have h1 : zn = ls.length := os.rd.1; have h2 : 2 = ls.length := hs.1; omega)
    have htz : tn < zn := by have := hzn.out; omega
    obtain ⟨gs, rfl, hgs, hgss, ⟨u1, hu1⟩, hf1, hput⟩ := os.put htz
    obtain ⟨b9, off9, v9, eb9, _, hc9, hv9⟩ := os.rd.el htz
    injection eb9 with eb9
    injection eb9 with e1 e2
    subst e1 e2
    obtain rfl : v9 = v := by
      have h := hvv.out
      rw [hv9.out] at h
      injection h
    rw [Nat.zero_add] at hc9
    clear hu1
    have hv90 : 0 ≤ v9 := hvb.out.1
    have hv91 : v9 ≤ 10 := hvb.out.2
    have hti : (0 : Int) ≤ (tn : Int) := by omega
    have htj : (tn : Int) < (zn : Int) := by omega
    have hgsg : ¬ gs = g := ha gs (.inr rfl)
    have hgsw : ¬ gs = w.heap.size := by omega
    have hgsr : ¬ gs = w.heap.size + 1 := by omega
    obtain ⟨c0, c1, c2, c3, c4, c5⟩ := hO.c6
    obtain ⟨b0, b1, b2, b3, b4, b5⟩ := hB.c6
    have pR := hR.off gs tn (by omega) (.int .i64 (v9 - 1))
    have pO := hO.off gs tn (by omega) (.int .i64 (v9 - 1))
    have pX := hX.off gs tn (by omega) (.int .i64 (v9 - 1))
    obtain ⟨d0, d1, d2, d3, d4, d5⟩ := pO.c6
    obtain ⟨r0, r1, r2, r3, r4, r5⟩ := pR.c6
    have y0 := pR.frozen 0
    have y1 := pR.frozen 1
    have y2 := pR.frozen 2
    have y3 := pR.frozen 3
    have y4 := pR.frozen 4
    have y5 := pR.frozen 5
    have hRf := (((((pR.set_ 0 (.slice zp.x.A zp.x.n zp.x.c)).set_ 1 (.slice zp.y.A zp.y.n zp.y.c)).set_ 2 (.slice zp.z.A zp.z.n zp.z.c)).set_ 3 (.slice (some ⟨gs, 0, none⟩) zn zc)).set_ 4 (.int .i64 (1 - (tn : Int)))).set_ 5 (.int .i64 0)
    obtain ⟨f0, f1, f2, f3, f4, f5⟩ := hRf.c6
    go_wp2
    refine bodyPost_ret (v := .tuple #[.agg #[.slice (⟨zp, ⟨some ⟨gs, 0, none⟩, zn, zc⟩, 1 - (tn : Int), 0⟩ : SelA).p.x.A (⟨zp, ⟨some ⟨gs, 0, none⟩, zn, zc⟩, 1 - (tn : Int), 0⟩ : SelA).p.x.n (⟨zp, ⟨some ⟨gs, 0, none⟩, zn, zc⟩, 1 - (tn : Int), 0⟩ : SelA).p.x.c, .slice (⟨zp, ⟨some ⟨gs, 0, none⟩, zn, zc⟩, 1 - (tn : Int), 0⟩ : SelA).p.y.A (⟨zp, ⟨some ⟨gs, 0, none⟩, zn, zc⟩, 1 - (tn : Int), 0⟩ : SelA).p.y.n (⟨zp, ⟨some ⟨gs, 0, none⟩, zn, zc⟩, 1 - (tn : Int), 0⟩ : SelA).p.y.c, .slice (⟨zp, ⟨some ⟨gs, 0, none⟩, zn, zc⟩, 1 - (tn : Int), 0⟩ : SelA).p.z.A (⟨zp, ⟨some ⟨gs, 0, none⟩, zn, zc⟩, 1 - (tn : Int), 0⟩ : SelA).p.z.n (⟨zp, ⟨some ⟨gs, 0, none⟩, zn, zc⟩, 1 - (tn : Int), 0⟩ : SelA).p.z.c, .slice (⟨zp, ⟨some ⟨gs, 0, none⟩, zn, zc⟩, 1 - (tn : Int), 0⟩ : SelA).s.A (⟨zp, ⟨some ⟨gs, 0, none⟩, zn, zc⟩, 1 - (tn : Int), 0⟩ : SelA).s.n (⟨zp, ⟨some ⟨gs, 0, none⟩, zn, zc⟩, 1 - (tn : Int), 0⟩ : SelA).s.c, .int .i64 (⟨zp, ⟨some ⟨gs, 0, none⟩, zn, zc⟩, 1 - (tn : Int), 0⟩ : SelA).t, .int .i64 (⟨zp, ⟨some ⟨gs, 0, none⟩, zn, zc⟩, 1 - (tn : Int), 0⟩ : SelA).q], .int .i64 0]) (by simp [results, Tryz.results73, go_sem, f0, f1, f2, f3, f4, f5]) rfl ⟨⟨zp, ⟨some ⟨gs, 0, none⟩, zn, zc⟩, 1 - (tn : Int), 0⟩, by rw [E2.out], ?_, (((((pX.off _ 0 (by omega) _).off _ 1 (by omega) _).off _ 2 (by omega) _).off _ 3 (by omega) _).off _ 4 (by omega) _).off _ 5 (by omega) _⟩
    rw [E1.out]
    have q1 : Own3 (wc.setCell ⟨gs, tn, none⟩ (.int .i64 (v9 - 1))) (w.heap.size + 1 + 1) zp (empL l j) := ⟨op.1.away (fun e => hap gs (.inl e) rfl) tn _, op.2.1.away (fun e => hap gs (.inr (.inl e)) rfl) tn _, op.2.2.1.away (fun e => hap gs (.inr (.inr e)) rfl) tn _, op.2.2.2⟩
    have q2 : OwnS (wc.setCell ⟨gs, tn, none⟩ (.int .i64 (v9 - 1))) (w.heap.size + 1 + 1) ⟨zp, ⟨some ⟨gs, 0, none⟩, zn, zc⟩, 1 - (tn : Int), 0⟩ ⟨empL l j, ls.set tn (v9 - 1), 1 - (tn : Int), 0⟩ := ⟨q1, hput _, ⟨rfl, rfl⟩, hap⟩
    exact OwnS.mono (((((((q2.off _ 0 (by omega) _).off _ 1 (by omega) _).off _ 2 (by omega) _).off _ 3 (by omega) _).off _ 4 (by omega) _).off _ 5 (by omega) _)) (by omega)
end Go.Proofs.YtofglgfjlbehmaaGreat.mem
