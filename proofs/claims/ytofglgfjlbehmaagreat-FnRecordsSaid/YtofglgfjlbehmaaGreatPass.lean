/-
  Contracts of both programs' functions that make a selection anew: copies of panels, a pass.
-/
import Derived.Test.YtofglgfjlbehmaaGreatMg11
import Derived.Test.YtofglgfjlbehmaaGreatMg9
import Derived.Deep.DeepCutAuto
namespace Go.Proofs.YtofglgfjlbehmaaGreat.mem
open Go.ChangeShapes Go.WideShapes Go.ChangeAt Go.RowKit

def nil3 : S3 := ⟨⟨none, 0, 0⟩, ⟨none, 0, 0⟩, ⟨none, 0, 0⟩⟩
def nilS : SelA := ⟨nil3, ⟨none, 0, 0⟩, 0, 0⟩
theorem Own3.nil (w : World) (lo : Nat) : Own3 w lo nil3 ⟨[], [], []⟩ :=
  ⟨Own.nil_ _ _, Own.nil_ _ _, Own.nil_ _ _, by simp [nil3], (by intro k hk; cases hk), (by intro k hk; cases hk), (by intro k hk; cases hk)⟩
theorem OwnS.nil (w : World) (lo : Nat) : OwnS w lo nilS ⟨⟨[], [], []⟩, [], 0, 0⟩ := ⟨Own3.nil _ _, Own.nil_ _ _, ⟨rfl, rfl⟩, fun k _ h => by cases h⟩
def passL (y : SelL) : SelL := ⟨y.p, y.s, 1 - y.t, y.q + 1⟩
def passV (y : SelL) : SelL := if overB y = true then ⟨⟨[], [], []⟩, [], 0, 0⟩ else passL y
def passC (y : SelL) : Int := if overB y = true then 5 else 0
theorem okS_bd {y : SelL} (h : okS y = true) : (0 ≤ y.t ∧ y.t ≤ 1) ∧ (0 ≤ y.q ∧ y.q ≤ 2) := by
  unfold okS at h
  simp only [Bool.and_eq_true] at h
  exact ⟨inB_iff.1 h.2.2.1, inB_iff.1 h.2.2.2⟩

set_option maxHeartbeats 2000000 in
theorem spec.l14Own_any (p : S3) (l : L3) (w : World) (hr : Rd3 w p l) :
    Calls Tryz.prog 82 #[.agg #[.slice p.x.A p.x.n p.x.c, .slice p.y.A p.y.n p.y.c, .slice p.z.A p.z.n p.z.c]] w fun e w' => ∃ p' : S3, e = .returned (.agg #[.slice p'.x.A p'.x.n p'.x.c, .slice p'.y.A p'.y.n p'.y.c, .slice p'.z.A p'.z.n p'.z.c]) ∧ Own3 w' w.heap.size p' l ∧ Ext w w' := by
  obtain ⟨rx, ry, rz, hs, cx, cy, cz⟩ := hr
  have hB := Blk.new w 40 (#[.slice p.x.A p.x.n p.x.c, .slice p.y.A p.y.n p.y.c, .slice p.z.A p.z.n p.z.c])
  have hX := (Ext.refl w).alloc (.cells #[.slice p.x.A p.x.n p.x.c, .slice p.y.A p.y.n p.y.c, .slice p.z.A p.z.n p.z.c] 40)
  have hR := Blk.new (w.alloc (.cells #[.slice p.x.A p.x.n p.x.c, .slice p.y.A p.y.n p.y.c, .slice p.z.A p.z.n p.z.c] 40)) 40 (#[.slice none 0 0, .slice none 0 0, .slice none 0 0])
  rw [World.size_alloc] at hR
  replace hB := (hB.alloc (.cells #[.slice none 0 0, .slice none 0 0, .slice none 0 0] 40)).drew
  replace hX := (hX.alloc (.cells #[.slice none 0 0, .slice none 0 0, .slice none 0 0] 40)).drew
  replace hR := hR.drew
  go_enter Tryz.func82, Tryz.ntmps82
  go_wp2_with fail
  go_region_held3 (fun w' => w'.cell? ⟨w.heap.size, 0, none⟩ = some (.slice p.x.A p.x.n p.x.c) ∧ w'.cell? ⟨w.heap.size, 1, none⟩ = some (.slice p.y.A p.y.n p.y.c) ∧ w'.cell? ⟨w.heap.size, 2, none⟩ = some (.slice p.z.A p.z.n p.z.c)) (first | exact k3 | exact k2 | exact k1 | go_keep) (first | (go_at_call 62; (with_reducible refine (spec.l01Own_any p.x l.x _ (rx.ext hX)).mono ?_); rintro e w1 ⟨t1, rfl, o1, hx⟩; have z1 : w.heap.size + 1 + 1 ≤ w1.heap.size := (by have := hx.size; simpa using this); replace o1 := Own.mono (lo' := w.heap.size + 1 + 1) o1 (by simp); have g1 := o1.lt; replace hX := hX.trans hx; replace hB := hB.ext hx; replace hR := hR.ext hx; have k1 := hB.c3; have r1 := res3 hR; clear hx) | (go_at_call 62; (with_reducible refine (spec.l01Own_any p.y l.y _ (ry.ext hX)).mono ?_); rintro e w2 ⟨t2, rfl, o2, hx⟩; have z2 := hx.size; have g2 := o2.lt; replace o1 := o1.ext hx; replace hX := hX.trans hx; replace hB := hB.ext hx; replace hR := hR.ext hx; have k2 := hB.c3; have r2 := res3 hR; clear hx) | (go_at_call 62; (with_reducible refine (spec.l01Own_any p.z l.z _ (rz.ext hX)).mono ?_); rintro e w3 ⟨t3, rfl, o3, hx⟩; have z3 := hx.size; have g3 := o3.lt; replace o1 := o1.ext hx; replace o2 := o2.ext hx; replace hX := hX.trans hx; replace hB := hB.ext hx; replace hR := hR.ext hx; have k3 := hB.c3; have r3 := res3 hR; clear hx))
  have hRf := ((hR.set_ 0 (.slice t1.A t1.n t1.c)).set_ 1 (.slice t2.A t2.n t2.c)).set_ 2 (.slice t3.A t3.n t3.c)
  have f := hRf.c3
  go_wp2
  refine bodyPost_ret (v := .agg #[.slice (⟨t1, t2, t3⟩ : S3).x.A (⟨t1, t2, t3⟩ : S3).x.n (⟨t1, t2, t3⟩ : S3).x.c, .slice (⟨t1, t2, t3⟩ : S3).y.A (⟨t1, t2, t3⟩ : S3).y.n (⟨t1, t2, t3⟩ : S3).y.c, .slice (⟨t1, t2, t3⟩ : S3).z.A (⟨t1, t2, t3⟩ : S3).z.n (⟨t1, t2, t3⟩ : S3).z.c]) (by simp [results, Tryz.results82, go_sem, f.1, f.2.1, f.2.2]) rfl ⟨⟨t1, t2, t3⟩, rfl, ⟨?_, ?_, ?_, ?_, ?_, ?_, ?_⟩, ?_⟩
  · exact (((o1.off _ 0 (by omega) _).off _ 1 (by omega) _).off _ 2 (by omega) _).mono (by omega)
  · exact (((o2.off _ 0 (by omega) _).off _ 1 (by omega) _).off _ 2 (by omega) _).mono (by omega)
  · exact (((o3.off _ 0 (by omega) _).off _ 1 (by omega) _).off _ 2 (by omega) _).mono (by omega)
  · have e1 := o1.rd.1
    have e2 := o2.rd.1
    have e3 := o3.rd.1
    have i1 := rx.1
    have i2 := ry.1
    have i3 := rz.1
    simp only
    omega
  · exact fun k h1 h2 => by have a1 := g1 k h1; have a2 := g2 k h2; omega
  · exact fun k h1 h2 => by have a1 := g1 k h1; have a2 := g3 k h2; omega
  · exact fun k h1 h2 => by have a1 := g2 k h1; have a2 := g3 k h2; omega
  · exact ((hX.off _ 0 (by omega) _).off _ 1 (by omega) _).off _ 2 (by omega) _
set_option maxHeartbeats 4000000 in
theorem impl.pass_any (x : SelA) (y : SelL) (w : World) (hr : RdS w x y) (hok : okS y = true) :
    Calls Tryz.prog 72 #[.agg #[.slice x.p.x.A x.p.x.n x.p.x.c, .slice x.p.y.A x.p.y.n x.p.y.c, .slice x.p.z.A x.p.z.n x.p.z.c, .slice x.s.A x.s.n x.s.c, .int .i64 x.t, .int .i64 x.q]] w fun e w' => ∃ x' : SelA, e = .returned (.tuple #[.agg #[.slice x'.p.x.A x'.p.x.n x'.p.x.c, .slice x'.p.y.A x'.p.y.n x'.p.y.c, .slice x'.p.z.A x'.p.z.n x'.p.z.c, .slice x'.s.A x'.s.n x'.s.c, .int .i64 x'.t, .int .i64 x'.q], .int .i64 (passC y)]) ∧ OwnS w' w.heap.size x' (passV y) ∧ Ext w w' := by
  obtain ⟨⟨px, py, pz⟩, s, t, q⟩ := x
  obtain ⟨l, ls, t', q'⟩ := y
  have hr0 := hr
  obtain ⟨hp, hs, hcap, rfl, rfl⟩ := hr
  obtain ⟨⟨bt0, bt1⟩, bq0, bq1⟩ := okS_bd hok
  simp only at hp hs hcap bt0 bt1 bq0 bq1 ⊢
  have hw1 : IntKind.i64.wrap (1 - t) = 1 - t := Go.IntWalk.i64_in _ (by omega)
  have hw2 : IntKind.i64.wrap (q + 1) = q + 1 := Go.IntWalk.i64_in _ (by omega)
  have hX := (Ext.refl w).alloc (.cells #[.slice px.A px.n px.c, .slice py.A py.n py.c, .slice pz.A pz.n pz.c, .slice s.A s.n s.c, .int .i64 t, .int .i64 q] 70)
  have hB := (Blk.new w 70 (#[.slice px.A px.n px.c, .slice py.A py.n py.c, .slice pz.A pz.n pz.c, .slice s.A s.n s.c, .int .i64 t, .int .i64 q])).alloc (.cells #[.slice none 0 0, .slice none 0 0, .slice none 0 0, .slice none 0 0, .int .i64 0, .int .i64 0] 70)
  have hR := Blk.new (w.alloc (.cells #[.slice px.A px.n px.c, .slice py.A py.n py.c, .slice pz.A pz.n pz.c, .slice s.A s.n s.c, .int .i64 t, .int .i64 q] 70)) 70 (#[.slice none 0 0, .slice none 0 0, .slice none 0 0, .slice none 0 0, .int .i64 0, .int .i64 0])
  rw [World.size_alloc] at hR
  replace hX := hX.alloc (.cells #[.slice none 0 0, .slice none 0 0, .slice none 0 0, .slice none 0 0, .int .i64 0, .int .i64 0] 70)
  have hz0 : w.heap.size + 1 + 1 ≤ ((w.alloc (.cells #[.slice px.A px.n px.c, .slice py.A py.n py.c, .slice pz.A pz.n pz.c, .slice s.A s.n s.c, .int .i64 t, .int .i64 q] 70)).alloc (.cells #[.slice none 0 0, .slice none 0 0, .slice none 0 0, .slice none 0 0, .int .i64 0, .int .i64 0] 70)).heap.size := by simp
  obtain ⟨ht, ha, hb⟩ := okS_two (hr0.ext hX) hok
  have hv := impl.over_any ⟨⟨px, py, pz⟩, s, t, q⟩ _ _ _ ht ha hb
  have hob : ((q == 2) || (ls.getD 0 0 + ls.getD 1 0 == 0)) = overB ⟨l, ls, t, q⟩ := rfl
  simp only [hob] at hv
  clear ht ha hb hob
  obtain ⟨b0, b1, b2, b3, b4, b5⟩ := hB.c6
  cases hov : overB ⟨l, ls, t, q⟩
  case true =>
    rw [hov] at hv
    have E1 := hide (show passV ⟨l, ls, t, q⟩ = ⟨⟨[], [], []⟩, [], 0, 0⟩ by unfold passV; rw [hov]; rfl)
    have E2 := hide (show passC ⟨l, ls, t, q⟩ = 5 by unfold passC; rw [hov]; rfl)
    go_enter Tryz.func72, Tryz.ntmps72
    go_wp2_with fail
    refine hv.mono ?_
    rintro e w1 ⟨rfl, hx⟩
    have hz1 : w.heap.size + 1 + 1 ≤ w1.heap.size := by have := hx.size; omega
    replace hX := hX.trans hx
    replace hR := hR.ext hx
    obtain ⟨r0, r1, r2, r3, r4, r5⟩ := hR.c6
    have y0 := hR.frozen 0
    have y1 := hR.frozen 1
    have y2 := hR.frozen 2
    have y3 := hR.frozen 3
    have y4 := hR.frozen 4
    have y5 := hR.frozen 5
    have hRn := (((((hR.set_ 0 (.slice none 0 0)).set_ 1 (.slice none 0 0)).set_ 2 (.slice none 0 0)).set_ 3 (.slice none 0 0)).set_ 4 (.int .i64 0)).set_ 5 (.int .i64 0)
    obtain ⟨n0, n1, n2, n3, n4, n5⟩ := hRn.c6
    go_wp2
    refine bodyPost_ret (v := .tuple #[.agg #[.slice nilS.p.x.A nilS.p.x.n nilS.p.x.c, .slice nilS.p.y.A nilS.p.y.n nilS.p.y.c, .slice nilS.p.z.A nilS.p.z.n nilS.p.z.c, .slice nilS.s.A nilS.s.n nilS.s.c, .int .i64 nilS.t, .int .i64 nilS.q], .int .i64 5]) (by simp [results, Tryz.results72, go_sem, n0, n1, n2, n3, n4, n5, nilS, nil3]) rfl ⟨nilS, by rw [E2.out], by rw [E1.out]; exact OwnS.nil _ _, ?_⟩
    exact (((((hX.off (w.heap.size + 1) 0 (by omega) _).off _ 1 (by omega) _).off _ 2 (by omega) _).off _ 3 (by omega) _).off _ 4 (by omega) _).off _ 5 (by omega) _
  rw [hov] at hv
  have E1 := hide (show passV ⟨l, ls, t, q⟩ = ⟨l, ls, 1 - t, q + 1⟩ by unfold passV; rw [hov]; rfl)
  have E2 := hide (show passC ⟨l, ls, t, q⟩ = 0 by unfold passC; rw [hov]; rfl)
  go_enter Tryz.func72, Tryz.ntmps72
  go_wp2_with fail
  refine hv.mono ?_
  rintro e w1 ⟨rfl, hx⟩
  clear b0 b1 b2 b3 b4 b5
  have hz1 : w.heap.size + 1 + 1 ≤ w1.heap.size := by have := hx.size; omega
  replace hX := (hX.trans hx).drew
  replace hR := (hR.ext hx).drew
  replace hB := (hB.ext hx).drew
  clear hv hx
  obtain ⟨b0, b1, b2, b3, b4, b5⟩ := hB.c6
  go_wp2_with fail
  go_region_held3 (fun w' => w'.cell? ⟨w.heap.size, 0, none⟩ = some (.slice px.A px.n px.c) ∧ w'.cell? ⟨w.heap.size, 1, none⟩ = some (.slice py.A py.n py.c) ∧ w'.cell? ⟨w.heap.size, 2, none⟩ = some (.slice pz.A pz.n pz.c) ∧ w'.cell? ⟨w.heap.size, 3, none⟩ = some (.slice s.A s.n s.c) ∧ w'.cell? ⟨w.heap.size, 4, none⟩ = some (.int .i64 t) ∧ w'.cell? ⟨w.heap.size, 5, none⟩ = some (.int .i64 q)) (first | (with_reducible exact kk2) | (with_reducible exact kk1) | go_keep) (first | (go_at_call 95; refine (impl.clone_any s ls _ (hs.ext hX)).mono ?_; rintro e w3 ⟨s3, rfl, o3, hx⟩; have zz3 := hx.size; replace o2 := o2.ext hx; replace hX := hX.trans hx; replace hB := hB.ext hx; replace hR := hR.ext hx; have kk2 := hB.c6; obtain ⟨r0, r1, r2, r3, r4, r5⟩ := hR.c6; have y0 := hR.frozen 0; have y1 := hR.frozen 1; have y2 := hR.frozen 2; have y3 := hR.frozen 3; have y4 := hR.frozen 4; have y5 := hR.frozen 5; clear hx) | (go_at_call 101; refine (impl.copyPanel_any ⟨px, py, pz⟩ l _ (hp.ext hX)).mono ?_; rintro e w2 ⟨p2, rfl, o2, hx⟩; have zz2 : w.heap.size + 1 + 1 ≤ w2.heap.size := (by have := hx.size; simp at this; omega); have zl2 : w.heap.size + 1 + 1 ≤ w1.heap.size := (by omega); replace o2 := Own3.mono (lo' := w.heap.size + 1 + 1) o2 (by simp; try omega); have g2 : ∀ k, blks p2 k → w.heap.size + 1 + 1 ≤ k ∧ k < w2.heap.size := (fun k hk => Own3.lt o2 hk); replace hX := hX.trans hx; replace hB := hB.ext hx; replace hR := hR.ext hx; have kk1 := hB.c6; clear hx))
  have hRf := (((((hR.set_ 0 (.slice p2.x.A p2.x.n p2.x.c)).set_ 1 (.slice p2.y.A p2.y.n p2.y.c)).set_ 2 (.slice p2.z.A p2.z.n p2.z.c)).set_ 3 (.slice s3.A s3.n s3.c)).set_ 4 (.int .i64 (1 - t))).set_ 5 (.int .i64 (q + 1))
  obtain ⟨f0, f1, f2, f3, f4, f5⟩ := hRf.c6
  go_wp2
  refine bodyPost_ret (v := .tuple #[.agg #[.slice (⟨p2, s3, 1 - t, q + 1⟩ : SelA).p.x.A (⟨p2, s3, 1 - t, q + 1⟩ : SelA).p.x.n (⟨p2, s3, 1 - t, q + 1⟩ : SelA).p.x.c, .slice (⟨p2, s3, 1 - t, q + 1⟩ : SelA).p.y.A (⟨p2, s3, 1 - t, q + 1⟩ : SelA).p.y.n (⟨p2, s3, 1 - t, q + 1⟩ : SelA).p.y.c, .slice (⟨p2, s3, 1 - t, q + 1⟩ : SelA).p.z.A (⟨p2, s3, 1 - t, q + 1⟩ : SelA).p.z.n (⟨p2, s3, 1 - t, q + 1⟩ : SelA).p.z.c, .slice (⟨p2, s3, 1 - t, q + 1⟩ : SelA).s.A (⟨p2, s3, 1 - t, q + 1⟩ : SelA).s.n (⟨p2, s3, 1 - t, q + 1⟩ : SelA).s.c, .int .i64 (⟨p2, s3, 1 - t, q + 1⟩ : SelA).t, .int .i64 (⟨p2, s3, 1 - t, q + 1⟩ : SelA).q], .int .i64 0]) (by simp [results, Tryz.results72, go_sem, f0, f1, f2, f3, f4, f5]) rfl ⟨⟨p2, s3, 1 - t, q + 1⟩, by rw [E2.out], ?own, ?ext⟩
  case ext => exact (((((hX.off _ 0 (by omega) _).off _ 1 (by omega) _).off _ 2 (by omega) _).off _ 3 (by omega) _).off _ 4 (by omega) _).off _ 5 (by omega) _
  rw [E1.out]
  refine ⟨?_, ?_, ⟨rfl, rfl⟩, fun k h1 h2 => by have a1 := g2 k h1; have a2 := o3.lt k h2; omega⟩
  · exact ((((((o2.off _ 0 (by omega) _).off _ 1 (by omega) _).off _ 2 (by omega) _).off _ 3 (by omega) _).off _ 4 (by omega) _).off _ 5 (by omega) _).mono (by omega)
  · exact ((((((o3.off _ 0 (by omega) _).off _ 1 (by omega) _).off _ 2 (by omega) _).off _ 3 (by omega) _).off _ 4 (by omega) _).off _ 5 (by omega) _).mono (by omega)
set_option maxHeartbeats 4000000 in
theorem spec.l14Pass_any (x : SelA) (y : SelL) (w : World) (hr : RdS w x y) (hok : okS y = true) :
    Calls Tryz.prog 76 #[.agg #[.slice x.p.x.A x.p.x.n x.p.x.c, .slice x.p.y.A x.p.y.n x.p.y.c, .slice x.p.z.A x.p.z.n x.p.z.c, .slice x.s.A x.s.n x.s.c, .int .i64 x.t, .int .i64 x.q]] w fun e w' => ∃ x' : SelA, e = .returned (.agg #[.slice x'.p.x.A x'.p.x.n x'.p.x.c, .slice x'.p.y.A x'.p.y.n x'.p.y.c, .slice x'.p.z.A x'.p.z.n x'.p.z.c, .slice x'.s.A x'.s.n x'.s.c, .int .i64 x'.t, .int .i64 x'.q]) ∧ OwnS w' w.heap.size x' (passL y) ∧ Ext w w' := by
  obtain ⟨⟨px, py, pz⟩, s, t, q⟩ := x
  obtain ⟨l, ls, t', q'⟩ := y
  have hr0 := hr
  obtain ⟨hp, hs, hcap, rfl, rfl⟩ := hr
  obtain ⟨⟨bt0, bt1⟩, bq0, bq1⟩ := okS_bd hok
  simp only at hp hs hcap bt0 bt1 bq0 bq1 ⊢
  have hw1 : IntKind.i64.wrap (1 - t) = 1 - t := Go.IntWalk.i64_in _ (by omega)
  have hw2 : IntKind.i64.wrap (q + 1) = q + 1 := Go.IntWalk.i64_in _ (by omega)
  have hX := (Ext.refl w).alloc (.cells #[.slice px.A px.n px.c, .slice py.A py.n py.c, .slice pz.A pz.n pz.c, .slice s.A s.n s.c, .int .i64 t, .int .i64 q] 70)
  have hB := (Blk.new w 70 (#[.slice px.A px.n px.c, .slice py.A py.n py.c, .slice pz.A pz.n pz.c, .slice s.A s.n s.c, .int .i64 t, .int .i64 q])).alloc (.cells #[.slice none 0 0, .slice none 0 0, .slice none 0 0, .slice none 0 0, .int .i64 0, .int .i64 0] 70)
  have hR := Blk.new (w.alloc (.cells #[.slice px.A px.n px.c, .slice py.A py.n py.c, .slice pz.A pz.n pz.c, .slice s.A s.n s.c, .int .i64 t, .int .i64 q] 70)) 70 (#[.slice none 0 0, .slice none 0 0, .slice none 0 0, .slice none 0 0, .int .i64 0, .int .i64 0])
  rw [World.size_alloc] at hR
  replace hX := hX.alloc (.cells #[.slice none 0 0, .slice none 0 0, .slice none 0 0, .slice none 0 0, .int .i64 0, .int .i64 0] 70)
  have hz0 : w.heap.size + 1 + 1 ≤ ((w.alloc (.cells #[.slice px.A px.n px.c, .slice py.A py.n py.c, .slice pz.A pz.n pz.c, .slice s.A s.n s.c, .int .i64 t, .int .i64 q] 70)).alloc (.cells #[.slice none 0 0, .slice none 0 0, .slice none 0 0, .slice none 0 0, .int .i64 0, .int .i64 0] 70)).heap.size := by simp
  replace hX := hX.drew
  replace hB := hB.drew
  replace hR := hR.drew
  go_enter Tryz.func76, Tryz.ntmps76
  obtain ⟨b0, b1, b2, b3, b4, b5⟩ := hB.c6
  go_wp2_with fail
  go_region_held3 (fun w' => w'.cell? ⟨w.heap.size, 0, none⟩ = some (.slice px.A px.n px.c) ∧ w'.cell? ⟨w.heap.size, 1, none⟩ = some (.slice py.A py.n py.c) ∧ w'.cell? ⟨w.heap.size, 2, none⟩ = some (.slice pz.A pz.n pz.c) ∧ w'.cell? ⟨w.heap.size, 3, none⟩ = some (.slice s.A s.n s.c) ∧ w'.cell? ⟨w.heap.size, 4, none⟩ = some (.int .i64 t) ∧ w'.cell? ⟨w.heap.size, 5, none⟩ = some (.int .i64 q)) (first | (with_reducible exact kk2) | (with_reducible exact kk1) | go_keep) (first | (go_at_call 62; refine (spec.l01Own_any s ls _ (hs.ext hX)).mono ?_; rintro e w3 ⟨s3, rfl, o3, hx⟩; have zz3 := hx.size; replace o2 := o2.ext hx; replace hX := hX.trans hx; replace hB := hB.ext hx; replace hR := hR.ext hx; have kk2 := hB.c6; obtain ⟨r0, r1, r2, r3, r4, r5⟩ := hR.c6; have y0 := hR.frozen 0; have y1 := hR.frozen 1; have y2 := hR.frozen 2; have y3 := hR.frozen 3; have y4 := hR.frozen 4; have y5 := hR.frozen 5; clear hx) | (go_at_call 82; refine (spec.l14Own_any ⟨px, py, pz⟩ l _ (hp.ext hX)).mono ?_; rintro e w2 ⟨p2, rfl, o2, hx⟩; have zz2 : w.heap.size + 1 + 1 ≤ w2.heap.size := (by have := hx.size; simp at this; omega); have zl2 : w.heap.size + 1 + 1 ≤ w.heap.size + 1 + 1 := (by omega); replace o2 := Own3.mono (lo' := w.heap.size + 1 + 1) o2 (by simp; try omega); have g2 : ∀ k, blks p2 k → w.heap.size + 1 + 1 ≤ k ∧ k < w2.heap.size := (fun k hk => Own3.lt o2 hk); replace hX := hX.trans hx; replace hB := hB.ext hx; replace hR := hR.ext hx; have kk1 := hB.c6; clear hx))
  have hRf := (((((hR.set_ 0 (.slice p2.x.A p2.x.n p2.x.c)).set_ 1 (.slice p2.y.A p2.y.n p2.y.c)).set_ 2 (.slice p2.z.A p2.z.n p2.z.c)).set_ 3 (.slice s3.A s3.n s3.c)).set_ 4 (.int .i64 (1 - t))).set_ 5 (.int .i64 (q + 1))
  obtain ⟨f0, f1, f2, f3, f4, f5⟩ := hRf.c6
  go_wp2
  refine bodyPost_ret (v := .agg #[.slice (⟨p2, s3, 1 - t, q + 1⟩ : SelA).p.x.A (⟨p2, s3, 1 - t, q + 1⟩ : SelA).p.x.n (⟨p2, s3, 1 - t, q + 1⟩ : SelA).p.x.c, .slice (⟨p2, s3, 1 - t, q + 1⟩ : SelA).p.y.A (⟨p2, s3, 1 - t, q + 1⟩ : SelA).p.y.n (⟨p2, s3, 1 - t, q + 1⟩ : SelA).p.y.c, .slice (⟨p2, s3, 1 - t, q + 1⟩ : SelA).p.z.A (⟨p2, s3, 1 - t, q + 1⟩ : SelA).p.z.n (⟨p2, s3, 1 - t, q + 1⟩ : SelA).p.z.c, .slice (⟨p2, s3, 1 - t, q + 1⟩ : SelA).s.A (⟨p2, s3, 1 - t, q + 1⟩ : SelA).s.n (⟨p2, s3, 1 - t, q + 1⟩ : SelA).s.c, .int .i64 (⟨p2, s3, 1 - t, q + 1⟩ : SelA).t, .int .i64 (⟨p2, s3, 1 - t, q + 1⟩ : SelA).q]) (by simp [results, Tryz.results76, go_sem, f0, f1, f2, f3, f4, f5]) rfl ⟨⟨p2, s3, 1 - t, q + 1⟩, rfl, ⟨?_, ?_, ⟨rfl, rfl⟩, fun k h1 h2 => by have a1 := g2 k h1; have a2 := o3.lt k h2; omega⟩, ?_⟩
  · exact ((((((o2.off _ 0 (by omega) _).off _ 1 (by omega) _).off _ 2 (by omega) _).off _ 3 (by omega) _).off _ 4 (by omega) _).off _ 5 (by omega) _).mono (by omega)
  · exact ((((((o3.off _ 0 (by omega) _).off _ 1 (by omega) _).off _ 2 (by omega) _).off _ 3 (by omega) _).off _ 4 (by omega) _).off _ 5 (by omega) _).mono (by omega)
  · exact (((((hX.off _ 0 (by omega) _).off _ 1 (by omega) _).off _ 2 (by omega) _).off _ 3 (by omega) _).off _ 4 (by omega) _).off _ 5 (by omega) _
end Go.Proofs.YtofglgfjlbehmaaGreat.mem
