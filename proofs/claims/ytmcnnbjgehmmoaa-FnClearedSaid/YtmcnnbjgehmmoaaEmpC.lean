/-
  The contract of copyPanel.
-/
import Derived.Test.YtmcnnbjgehmmoaaEmpL
import Derived.Test.YtmcnnbjgehmmoaaPTop
import Derived.Deep.DeepCutAuto
import Derived.Deep.RegionLaw
namespace Go.Proofs.Ytmcnnbjgehmmoaa.mem
open Go.ChangeShapes Go.WideShapes Go.ChangeAt Go.RowKit

theorem impl.copyPanel_any (p : S3) (l : L3) (w : World) (hr : Rd3 w p l) :
    Calls Try.prog 97 #[.agg #[.slice p.x.A p.x.n p.x.c, .slice p.y.A p.y.n p.y.c, .slice p.z.A p.z.n p.z.c]] w fun e w' => ∃ p' : S3, e = .returned (.agg #[.slice p'.x.A p'.x.n p'.x.c, .slice p'.y.A p'.y.n p'.y.c, .slice p'.z.A p'.z.n p'.z.c]) ∧ Own3 w' w.heap.size p' l ∧ Ext w w' := by
  obtain ⟨rx, ry, rz, hs, cx, cy, cz⟩ := hr
  have hB := Blk.new w 50 (#[.slice p.x.A p.x.n p.x.c, .slice p.y.A p.y.n p.y.c, .slice p.z.A p.z.n p.z.c])
  have hX := (Ext.refl w).alloc (.cells #[.slice p.x.A p.x.n p.x.c, .slice p.y.A p.y.n p.y.c, .slice p.z.A p.z.n p.z.c] 50)
  have hR := Blk.new (w.alloc (.cells #[.slice p.x.A p.x.n p.x.c, .slice p.y.A p.y.n p.y.c, .slice p.z.A p.z.n p.z.c] 50)) 50 (#[.slice none 0 0, .slice none 0 0, .slice none 0 0])
  rw [World.size_alloc] at hR
  replace hB := (hB.alloc (.cells #[.slice none 0 0, .slice none 0 0, .slice none 0 0] 50)).drew
  replace hX := (hX.alloc (.cells #[.slice none 0 0, .slice none 0 0, .slice none 0 0] 50)).drew
  replace hR := hR.drew
  go_enter Try.func97, Try.ntmps97
  go_wp2_with fail
  go_region_held3 (fun w' => w'.cell? ⟨w.heap.size, 0, none⟩ = some (.slice p.x.A p.x.n p.x.c) ∧ w'.cell? ⟨w.heap.size, 1, none⟩ = some (.slice p.y.A p.y.n p.y.c) ∧ w'.cell? ⟨w.heap.size, 2, none⟩ = some (.slice p.z.A p.z.n p.z.c)) (first | exact k3 | exact k2 | exact k1 | go_keep) (first | (go_at_call 116; (with_reducible refine (impl.clone_any p.x l.x _ (rx.ext hX)).mono ?_); rintro e w1 ⟨t1, rfl, o1, hx⟩; have z1 : w.heap.size + 1 + 1 ≤ w1.heap.size := (by have := hx.size; simpa using this); replace o1 := Own.mono (lo' := w.heap.size + 1 + 1) o1 (by simp); have g1 := o1.lt; replace hX := hX.trans hx; replace hB := hB.ext hx; replace hR := hR.ext hx; have k1 := hB.c3; have r1 := res3 hR; clear hx) | (go_at_call 116; (with_reducible refine (impl.clone_any p.y l.y _ (ry.ext hX)).mono ?_); rintro e w2 ⟨t2, rfl, o2, hx⟩; have z2 := hx.size; have g2 := o2.lt; replace o1 := o1.ext hx; replace hX := hX.trans hx; replace hB := hB.ext hx; replace hR := hR.ext hx; have k2 := hB.c3; have r2 := res3 hR; clear hx) | (go_at_call 116; (with_reducible refine (impl.clone_any p.z l.z _ (rz.ext hX)).mono ?_); rintro e w3 ⟨t3, rfl, o3, hx⟩; have z3 := hx.size; have g3 := o3.lt; replace o1 := o1.ext hx; replace o2 := o2.ext hx; replace hX := hX.trans hx; replace hB := hB.ext hx; replace hR := hR.ext hx; have k3 := hB.c3; have r3 := res3 hR; clear hx))
  have hRf := ((hR.set_ 0 (.slice t1.A t1.n t1.c)).set_ 1 (.slice t2.A t2.n t2.c)).set_ 2 (.slice t3.A t3.n t3.c)
  have f := hRf.c3
  go_wp2
  refine bodyPost_ret (v := .agg #[.slice (⟨t1, t2, t3⟩ : S3).x.A (⟨t1, t2, t3⟩ : S3).x.n (⟨t1, t2, t3⟩ : S3).x.c, .slice (⟨t1, t2, t3⟩ : S3).y.A (⟨t1, t2, t3⟩ : S3).y.n (⟨t1, t2, t3⟩ : S3).y.c, .slice (⟨t1, t2, t3⟩ : S3).z.A (⟨t1, t2, t3⟩ : S3).z.n (⟨t1, t2, t3⟩ : S3).z.c]) (by simp [results, Try.results97, go_sem, f.1, f.2.1, f.2.2]) rfl ⟨⟨t1, t2, t3⟩, rfl, ⟨?_, ?_, ?_, ?_, ?_, ?_, ?_⟩, ?_⟩
  · exact (((o1.off _ 0 (by omega) _).off _ 1 (by omega) _).off _ 2 (by omega) _).mono (by omega)
  · exact (((o2.off _ 0 (by omega) _).off _ 1 (by omega) _).off _ 2 (by omega) _).mono (by omega)
  · exact (((o3.off _ 0 (by omega) _).off _ 1 (by omega) _).off _ 2 (by omega) _).mono (by omega)
  · have e1 := o1.rd.1
    have e2 := o2.rd.1
    have e3 := o3.rd.1
    have i1 := rx.1
    have i2 := ry.1
    have i3 := rz.1
    simp only
    omega
  · exact fun k h1 h2 => by have a1 := g1 k h1; have a2 := g2 k h2; omega
  · exact fun k h1 h2 => by have a1 := g1 k h1; have a2 := g3 k h2; omega
  · exact fun k h1 h2 => by have a1 := g2 k h1; have a2 := g3 k h2; omega
  · exact ((hX.off _ 0 (by omega) _).off _ 1 (by omega) _).off _ 2 (by omega) _
end Go.Proofs.Ytmcnnbjgehmmoaa.mem
