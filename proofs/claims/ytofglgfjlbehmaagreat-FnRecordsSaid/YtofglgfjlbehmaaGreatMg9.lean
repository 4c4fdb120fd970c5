/-
  Contracts of both programs' CausesOf and IsBiased.
  Contracts of both programs' FitFor.
  The contract of copyPanel.
-/
import Derived.Test.YtofglgfjlbehmaaGreatCauB
import Derived.Test.YtofglgfjlbehmaaGreatMg2
import Derived.Deep.RegionWith
import Derived.Test.YtofglgfjlbehmaaGreatEmpL
import Derived.Deep.DeepCutAuto
import Derived.Deep.RegionLaw
namespace Go.Proofs.YtofglgfjlbehmaaGreat.mem
open Go.ChangeShapes Go.WideShapes Go.ChangeAt Go.RowKit

def cofL (ts : List Ti) (us : List ByteArray) (x : Int) : List Int := if codC ts us x = 0 then cauL us x ts else []
def biaV (ts : List Ti) (us : List ByteArray) (x : Int) : Bool := decide (0 < (cofL ts us x).length)
theorem codC_1 {ts : List Ti} {us : List ByteArray} (x : Int) (h : okK ts us = false) : codC ts us x = 1 := by unfold codC; rw [h]; rfl
theorem codC_2 {ts : List Ti} {us : List ByteArray} {x : Int} (h : okK ts us = true) (h2 : inB x 1 1000000 = false) : codC ts us x = 2 := by unfold codC; rw [h, h2]; rfl
theorem codC_0 {ts : List Ti} {us : List ByteArray} {x : Int} (h : okK ts us = true) (h2 : inB x 1 1000000 = true) : codC ts us x = 0 := by unfold codC; rw [h, h2]; rfl
theorem cofL_1 {ts : List Ti} {us : List ByteArray} {x : Int} (h : codC ts us x ≠ 0) : cofL ts us x = [] := by unfold cofL; rw [if_neg h]
theorem cofL_0 {ts : List Ti} {us : List ByteArray} {x : Int} (h : codC ts us x = 0) : cofL ts us x = cauL us x ts := by unfold cofL; rw [if_pos h]
end Go.Proofs.YtofglgfjlbehmaaGreat.mem
namespace Go.Proofs.YtofglgfjlbehmaaGreat.mem
open Go.ChangeShapes Go.WideShapes Go.ChangeAt Go.RowKit

def fitK (ts : List Ti) (us : List ByteArray) (xs : List Int) : Int := ((xs.filter (fun x => decide ((cauL us x ts).length = 0))).length : Int)
def fitV (ts : List Ti) (us : List ByteArray) (l : L3) : Int := if okK ts us = true ∧ okP l = true then fitK ts us (nz l.x ++ l.y) else 0
def fitC (ts : List Ti) (us : List ByteArray) (l : L3) : Int := if okK ts us = true ∧ okP l = true then 0 else 1
theorem fitK_le (ts : List Ti) (us : List ByteArray) (xs : List Int) (k : Nat) : 0 ≤ fitK ts us (xs.take k) ∧ fitK ts us (xs.take k) ≤ k := by
  unfold fitK
  have h1 := List.length_filter_le (fun x => decide ((cauL us x ts).length = 0)) (xs.take k)
  have h2 := List.length_take_le k xs
  omega
theorem fitK_yes {ts : List Ti} {us : List ByteArray} {xs : List Int} {k : Nat} {x : Int} (h : xs[k]? = some x) (hx : (cauL us x ts).length = 0) : fitK ts us (xs.take (k + 1)) = fitK ts us (xs.take k) + 1 := by
  unfold fitK
  rw [take_more h, List.filter_append]
  have : decide ((cauL us x ts).length = 0) = true := decide_eq_true hx
  simp only [List.filter_cons, this, List.filter_nil, if_true, List.length_append, List.length_cons, List.length_nil]
  omega
theorem fitK_no {ts : List Ti} {us : List ByteArray} {xs : List Int} {k : Nat} {x : Int} (h : xs[k]? = some x) (hx : ¬ (cauL us x ts).length = 0) : fitK ts us (xs.take (k + 1)) = fitK ts us (xs.take k) := by
  unfold fitK
  rw [take_more h, List.filter_append]
  have : decide ((cauL us x ts).length = 0) = false := decide_eq_false hx
  simp only [List.filter_cons, this, List.filter_nil, Bool.false_eq_true, if_false, List.append_nil]
theorem impl.biased_any (s : Sl) (ts : List Ti) (q : Sl) (us : List ByteArray) (x : Int) (w : World) (hr : RdT w s.A s.n ts) (hq : RdW w q.A q.n us) :
    Calls Tryz.prog 103 #[.slice s.A s.n s.c, .slice q.A q.n q.c, .int .i64 x] w fun e w' => e = .returned (.bool (decide (0 < (cauL us x ts).length))) ∧ Ext w w' := by
  go_enter Tryz.func103, Tryz.ntmps103
  go_wp2_with fail
  refine (impl.causes_any s ts q us x w hr hq).mono ?_
  rintro e w1 ⟨v, rfl, ho, hx1⟩
  have E := hide (show (cauL us x ts).length = v.n from ho.rd.1.symm)
  go_wp2
  go_ret
  exact ⟨by rw [E.out]; first | rfl | simp, hx1⟩
theorem spec.l13Panel_any (s : Sl) (ts : List Ti) (q : Sl) (us : List ByteArray) (p : S3) (l : L3) (w : World) (hr : RdT w s.A s.n ts) (hq : RdW w q.A q.n us) (hp : Rd3 w p l) :
    Calls Tryz.prog 110 #[.slice s.A s.n s.c, .slice q.A q.n q.c, .agg #[.slice p.x.A p.x.n p.x.c, .slice p.y.A p.y.n p.y.c, .slice p.z.A p.z.n p.z.c]] w fun e w' => e = .returned (.int .i64 (fitC ts us l)) ∧ Ext w w' := by
  have hX0 := (Ext.refl w).alloc (.cells #[.slice p.x.A p.x.n p.x.c, .slice p.y.A p.y.n p.y.c, .slice p.z.A p.z.n p.z.c] 40)
  obtain ⟨q0, q1, q2⟩ := (Blk.new w 40 (#[.slice p.x.A p.x.n p.x.c, .slice p.y.A p.y.n p.y.c, .slice p.z.A p.z.n p.z.c])).c3
  go_enter Tryz.func110, Tryz.ntmps110
  go_wp2_with fail
  refine (spec.IsPanel_any p l _ (hp.ext hX0)).mono ?_
  rintro e w1 ⟨rfl, hx1⟩
  clear q0 q1 q2
  have hX1 := hX0.trans hx1
  cases hpo : okP l
  · have E2 := hide (show fitC ts us l = 1 by unfold fitC; rw [hpo]; simp)
    go_wp2
    go_ret
    exact ⟨by rw [E2.out]; rfl, hX1⟩
  · have E2 := hide (show fitC ts us l = codC ts us 1 by
      unfold fitC codC
      rw [hpo]
      cases okK ts us <;> simp [inB])
    go_wp2_with (go_at_call 66; refine (spec.l13Code_any s ts q us 1 _ (hr.ext hX1) (hq.ext hX1)).mono ?_; rintro e w2 ⟨rfl, hx2⟩)
    go_ret
    exact ⟨by rw [E2.out]; rfl, hX1.trans hx2⟩
end Go.Proofs.YtofglgfjlbehmaaGreat.mem
namespace Go.Proofs.YtofglgfjlbehmaaGreat.mem
open Go.ChangeShapes Go.WideShapes Go.ChangeAt Go.RowKit

theorem impl.copyPanel_any (p : S3) (l : L3) (w : World) (hr : Rd3 w p l) :
    Calls Tryz.prog 101 #[.agg #[.slice p.x.A p.x.n p.x.c, .slice p.y.A p.y.n p.y.c, .slice p.z.A p.z.n p.z.c]] w fun e w' => ∃ p' : S3, e = .returned (.agg #[.slice p'.x.A p'.x.n p'.x.c, .slice p'.y.A p'.y.n p'.y.c, .slice p'.z.A p'.z.n p'.z.c]) ∧ Own3 w' w.heap.size p' l ∧ Ext w w' := by
  obtain ⟨rx, ry, rz, hs, cx, cy, cz⟩ := hr
  have hB := Blk.new w 40 (#[.slice p.x.A p.x.n p.x.c, .slice p.y.A p.y.n p.y.c, .slice p.z.A p.z.n p.z.c])
  have hX := (Ext.refl w).alloc (.cells #[.slice p.x.A p.x.n p.x.c, .slice p.y.A p.y.n p.y.c, .slice p.z.A p.z.n p.z.c] 40)
  have hR := Blk.new (w.alloc (.cells #[.slice p.x.A p.x.n p.x.c, .slice p.y.A p.y.n p.y.c, .slice p.z.A p.z.n p.z.c] 40)) 40 (#[.slice none 0 0, .slice none 0 0, .slice none 0 0])
  rw [World.size_alloc] at hR
  replace hB := (hB.alloc (.cells #[.slice none 0 0, .slice none 0 0, .slice none 0 0] 40)).drew
  replace hX := (hX.alloc (.cells #[.slice none 0 0, .slice none 0 0, .slice none 0 0] 40)).drew
  replace hR := hR.drew
  go_enter Tryz.func101, Tryz.ntmps101
  go_wp2_with fail
  go_region_held3 (fun w' => w'.cell? ⟨w.heap.size, 0, none⟩ = some (.slice p.x.A p.x.n p.x.c) ∧ w'.cell? ⟨w.heap.size, 1, none⟩ = some (.slice p.y.A p.y.n p.y.c) ∧ w'.cell? ⟨w.heap.size, 2, none⟩ = some (.slice p.z.A p.z.n p.z.c)) (first | exact k3 | exact k2 | exact k1 | go_keep) (first | (go_at_call 95; (with_reducible refine (impl.clone_any p.x l.x _ (rx.ext hX)).mono ?_); rintro e w1 ⟨t1, rfl, o1, hx⟩; have z1 : w.heap.size + 1 + 1 ≤ w1.heap.size := (by have := hx.size; simpa using this); replace o1 := Own.mono (lo' := w.heap.size + 1 + 1) o1 (by simp); have g1 := o1.lt; replace hX := hX.trans hx; replace hB := hB.ext hx; replace hR := hR.ext hx; have k1 := hB.c3; have r1 := res3 hR; clear hx) | (go_at_call 95; (with_reducible refine (impl.clone_any p.y l.y _ (ry.ext hX)).mono ?_); rintro e w2 ⟨t2, rfl, o2, hx⟩; have z2 := hx.size; have g2 := o2.lt; replace o1 := o1.ext hx; replace hX := hX.trans hx; replace hB := hB.ext hx; replace hR := hR.ext hx; have k2 := hB.c3; have r2 := res3 hR; clear hx) | (go_at_call 95; (with_reducible refine (impl.clone_any p.z l.z _ (rz.ext hX)).mono ?_); rintro e w3 ⟨t3, rfl, o3, hx⟩; have z3 := hx.size; have g3 := o3.lt; replace o1 := o1.ext hx; replace o2 := o2.ext hx; replace hX := hX.trans hx; replace hB := hB.ext hx; replace hR := hR.ext hx; have k3 := hB.c3; have r3 := res3 hR; clear hx))
  have hRf := ((hR.set_ 0 (.slice t1.A t1.n t1.c)).set_ 1 (.slice t2.A t2.n t2.c)).set_ 2 (.slice t3.A t3.n t3.c)
  have f := hRf.c3
  go_wp2
  refine bodyPost_ret (v := .agg #[.slice (⟨t1, t2, t3⟩ : S3).x.A (⟨t1, t2, t3⟩ : S3).x.n (⟨t1, t2, t3⟩ : S3).x.c, .slice (⟨t1, t2, t3⟩ : S3).y.A (⟨t1, t2, t3⟩ : S3).y.n (⟨t1, t2, t3⟩ : S3).y.c, .slice (⟨t1, t2, t3⟩ : S3).z.A (⟨t1, t2, t3⟩ : S3).z.n (⟨t1, t2, t3⟩ : S3).z.c]) (by simp [results, Tryz.results101, go_sem, f.1, f.2.1, f.2.2]) rfl ⟨⟨t1, t2, t3⟩, rfl, ⟨?_, ?_, ?_, ?_, ?_, ?_, ?_⟩, ?_⟩
  · exact (((o1.off _ 0 (by omega) _).off _ 1 (by omega) _).off _ 2 (by omega) _).mono (by omega)
  · exact (((o2.off _ 0 (by omega) _).off _ 1 (by omega) _).off _ 2 (by omega) _).mono (by omega)
  · exact (((o3.off _ 0 (by omega) _).off _ 1 (by omega) _).off _ 2 (by omega) _).mono (by omega)
  · have e1 := o1.rd.1
    have e2 := o2.rd.1
    have e3 := o3.rd.1
    have i1 := rx.1
    have i2 := ry.1
    have i3 := rz.1
    simp only
    omega
  · exact fun k h1 h2 => by have a1 := g1 k h1; have a2 := g2 k h2; omega
  · exact fun k h1 h2 => by have a1 := g1 k h1; have a2 := g3 k h2; omega
  · exact fun k h1 h2 => by have a1 := g2 k h1; have a2 := g3 k h2; omega
  · exact ((hX.off _ 0 (by omega) _).off _ 1 (by omega) _).off _ 2 (by omega) _
end Go.Proofs.YtofglgfjlbehmaaGreat.mem
