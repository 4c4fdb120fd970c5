/-
  Contracts: the selection before the first move of a record, and the moves of a record.
-/
import Derived.Test.YtbkpcfncdnmknaaRbP
import Derived.Deep.RegionHeld3
namespace Go.Proofs.Ytbkpcfncdnmknaa.mem
open Go.ChangeShapes Go.WideShapes Go.ChangeAt Go.RowKit

set_option maxRecDepth 20000 in
set_option maxHeartbeats 2500000 in
theorem impl.played_any (x : RecA) (y : RecL) (s : Sl) (ts : List Ti) (q : Sl) (us : List ByteArray) (w : World) (hr : RdR w x y) (ht : RdT w s.A s.n ts) (hq : RdW w q.A q.n us) (hok : okR y = true) (hkk : okK ts us = true) :
    Calls Try.prog 42 #[.agg #[.int .i64 x.a, .int .i64 x.b, .int .i64 x.c, .slice x.p.x.A x.p.x.n x.p.x.c, .int .i64 x.d, .slice x.p.y.A x.p.y.n x.p.y.c, .slice x.p.z.A x.p.z.n x.p.z.c, .int .i64 x.e, .int .i64 x.f], .slice s.A s.n s.c, .slice q.A q.n q.c] w fun e w' => ∃ z : SelA, e = .returned (.tuple #[.agg #[.slice z.p.x.A z.p.x.n z.p.x.c, .slice z.p.y.A z.p.y.n z.p.y.c, .slice z.p.z.A z.p.z.n z.p.z.c, .slice z.s.A z.s.n z.s.c, .int .i64 z.t, .int .i64 z.q], .int .i64 (rpG ts us y).2.1, .int .i64 (rpG ts us y).2.2]) ∧ OwnS w' w.heap.size z (rpG ts us y).1 ∧ Ext w w' := by
  have hX := ((Ext.refl w).alloc (.cells #[.int .i64 x.a, .int .i64 x.b, .int .i64 x.c, .slice x.p.x.A x.p.x.n x.p.x.c, .int .i64 x.d, .slice x.p.y.A x.p.y.n x.p.y.c, .slice x.p.z.A x.p.z.n x.p.z.c, .int .i64 x.e, .int .i64 x.f] 34)).alloc (.cells #[.slice none 0 0, .slice none 0 0, .slice none 0 0, .slice none 0 0, .int .i64 0, .int .i64 0] 67)
  have hB := (Blk.new w 34 (#[.int .i64 x.a, .int .i64 x.b, .int .i64 x.c, .slice x.p.x.A x.p.x.n x.p.x.c, .int .i64 x.d, .slice x.p.y.A x.p.y.n x.p.y.c, .slice x.p.z.A x.p.z.n x.p.z.c, .int .i64 x.e, .int .i64 x.f])).alloc (.cells #[.slice none 0 0, .slice none 0 0, .slice none 0 0, .slice none 0 0, .int .i64 0, .int .i64 0] 67)
  have hR := Blk.new (w.alloc (.cells #[.int .i64 x.a, .int .i64 x.b, .int .i64 x.c, .slice x.p.x.A x.p.x.n x.p.x.c, .int .i64 x.d, .slice x.p.y.A x.p.y.n x.p.y.c, .slice x.p.z.A x.p.z.n x.p.z.c, .int .i64 x.e, .int .i64 x.f] 34)) 67 (#[.slice none 0 0, .slice none 0 0, .slice none 0 0, .slice none 0 0, .int .i64 0, .int .i64 0])
  rw [World.size_alloc] at hR
  have hcy := hr.1.2.2.2.2.2.1
  replace hX := hX.drew
  replace hB := hB.drew
  replace hR := hR.drew
  obtain ⟨q0, q1, q2, q3, q4, q5, q6, q7, q8⟩ := hB.c9
  go_enter Try.func42, Try.ntmps42
  go_wp2_with fail
  go_region_held3 (fun w' => w'.cell? ⟨w.heap.size, 0, none⟩ = some (.int .i64 x.a) ∧ w'.cell? ⟨w.heap.size, 1, none⟩ = some (.int .i64 x.b) ∧ w'.cell? ⟨w.heap.size, 2, none⟩ = some (.int .i64 x.c) ∧ w'.cell? ⟨w.heap.size, 3, none⟩ = some (.slice x.p.x.A x.p.x.n x.p.x.c) ∧ w'.cell? ⟨w.heap.size, 4, none⟩ = some (.int .i64 x.d) ∧ w'.cell? ⟨w.heap.size, 5, none⟩ = some (.slice x.p.y.A x.p.y.n x.p.y.c) ∧ w'.cell? ⟨w.heap.size, 6, none⟩ = some (.slice x.p.z.A x.p.z.n x.p.z.c) ∧ w'.cell? ⟨w.heap.size, 7, none⟩ = some (.int .i64 x.e) ∧ w'.cell? ⟨w.heap.size, 8, none⟩ = some (.int .i64 x.f)) (first | (with_reducible exact kk2) | (with_reducible exact kk1) | (with_reducible exact ((((((hB.off _ 0 (by omega) _).off _ 1 (by omega) _).off _ 2 (by omega) _).off _ 3 (by omega) _).off _ 4 (by omega) _).off _ 5 (by omega) _).c9) | go_keep) (first | (go_at_call 37; refine (impl.recPanel_any x y s ts q us _ (hr.ext hX) (ht.ext hX) (hq.ext hX) hok hkk).mono ?_; rintro e w2 ⟨t, rfl, ot, hx⟩; have z2 := hx.size; (try simp at z2); replace hX := hX.trans hx; replace hB := hB.ext hx; replace hR := hR.ext hx; have kk1 := hB.c9; clear hx) | (go_at_call 60; refine (impl.play_any ⟨t, x.p.y, 0, 0⟩ (bgL ts us y) x.p.z y.p.z _ ⟨ot.rd, (hr.ext hX).1.2.1, hcy, rfl, rfl⟩ (okS_bg hok hkk) (hr.ext hX).1.2.2.1).mono ?_; rintro e w3 ⟨z, rfl, oz, hx⟩; have z3 := hx.size; replace hX := hX.trans hx; replace hB := hB.ext hx; replace hR := hR.ext hx; have kk2 := hB.c9; obtain ⟨r0, r1, r2, r3, r4, r5⟩ := hR.c6; have y0 := hR.frozen 0; have y1 := hR.frozen 1; have y2 := hR.frozen 2; have y3 := hR.frozen 3; have y4 := hR.frozen 4; have y5 := hR.frozen 5; clear hx))
  have hRn := hR.set6 (.slice z.p.x.A z.p.x.n z.p.x.c) (.slice z.p.y.A z.p.y.n z.p.y.c) (.slice z.p.z.A z.p.z.n z.p.z.c) (.slice z.s.A z.s.n z.s.c) (.int .i64 z.t) (.int .i64 z.q)
  obtain ⟨n0, n1, n2, n3, n4, n5⟩ := hRn.c6
  go_wp2
  refine bodyPost_ret (v := .tuple #[.agg #[.slice z.p.x.A z.p.x.n z.p.x.c, .slice z.p.y.A z.p.y.n z.p.y.c, .slice z.p.z.A z.p.z.n z.p.z.c, .slice z.s.A z.s.n z.s.c, .int .i64 z.t, .int .i64 z.q], .int .i64 (rpG ts us y).2.1, .int .i64 (rpG ts us y).2.2]) (by simp [results, Try.results42, go_sem, rpG, n0, n1, n2, n3, n4, n5]) rfl ⟨z, rfl, ?_, ((((((hX.off (w.heap.size + 1) 0 (by omega) _).off (w.heap.size + 1) 1 (by omega) _).off (w.heap.size + 1) 2 (by omega) _).off (w.heap.size + 1) 3 (by omega) _).off (w.heap.size + 1) 4 (by omega) _).off (w.heap.size + 1) 5 (by omega) _)⟩
  have oz2 := OwnS.mono (lo' := w.heap.size + 1 + 1) oz (by omega)
  exact OwnS.mono ((((((oz2.off (w.heap.size + 1) 0 (by omega) _).off (w.heap.size + 1) 1 (by omega) _).off (w.heap.size + 1) 2 (by omega) _).off (w.heap.size + 1) 3 (by omega) _).off (w.heap.size + 1) 4 (by omega) _).off (w.heap.size + 1) 5 (by omega) _) (by omega)
set_option maxRecDepth 20000 in
set_option maxHeartbeats 2500000 in
theorem spec.l16Begin_any (x : RecA) (y : RecL) (s : Sl) (ts : List Ti) (q : Sl) (us : List ByteArray) (w : World) (hr : RdR w x y) (ht : RdT w s.A s.n ts) (hq : RdW w q.A q.n us) (hok : okR y = true) :
    Calls Try.prog 41 #[.agg #[.int .i64 x.a, .int .i64 x.b, .int .i64 x.c, .slice x.p.x.A x.p.x.n x.p.x.c, .int .i64 x.d, .slice x.p.y.A x.p.y.n x.p.y.c, .slice x.p.z.A x.p.z.n x.p.z.c, .int .i64 x.e, .int .i64 x.f], .slice s.A s.n s.c, .slice q.A q.n q.c] w fun e w' => ∃ z : SelA, e = .returned (.agg #[.slice z.p.x.A z.p.x.n z.p.x.c, .slice z.p.y.A z.p.y.n z.p.y.c, .slice z.p.z.A z.p.z.n z.p.z.c, .slice z.s.A z.s.n z.s.c, .int .i64 z.t, .int .i64 z.q]) ∧ OwnS w' w.heap.size z (bgL ts us y) ∧ Ext w w' := by
  have hX := ((Ext.refl w).alloc (.cells #[.int .i64 x.a, .int .i64 x.b, .int .i64 x.c, .slice x.p.x.A x.p.x.n x.p.x.c, .int .i64 x.d, .slice x.p.y.A x.p.y.n x.p.y.c, .slice x.p.z.A x.p.z.n x.p.z.c, .int .i64 x.e, .int .i64 x.f] 34)).alloc (.cells #[.slice none 0 0, .slice none 0 0, .slice none 0 0, .slice none 0 0, .int .i64 0, .int .i64 0] 67)
  have hB := (Blk.new w 34 (#[.int .i64 x.a, .int .i64 x.b, .int .i64 x.c, .slice x.p.x.A x.p.x.n x.p.x.c, .int .i64 x.d, .slice x.p.y.A x.p.y.n x.p.y.c, .slice x.p.z.A x.p.z.n x.p.z.c, .int .i64 x.e, .int .i64 x.f])).alloc (.cells #[.slice none 0 0, .slice none 0 0, .slice none 0 0, .slice none 0 0, .int .i64 0, .int .i64 0] 67)
  have hR := Blk.new (w.alloc (.cells #[.int .i64 x.a, .int .i64 x.b, .int .i64 x.c, .slice x.p.x.A x.p.x.n x.p.x.c, .int .i64 x.d, .slice x.p.y.A x.p.y.n x.p.y.c, .slice x.p.z.A x.p.z.n x.p.z.c, .int .i64 x.e, .int .i64 x.f] 34)) 67 (#[.slice none 0 0, .slice none 0 0, .slice none 0 0, .slice none 0 0, .int .i64 0, .int .i64 0])
  rw [World.size_alloc] at hR
  have hcy := hr.1.2.2.2.2.2.1
  replace hX := hX.drew
  replace hB := hB.drew
  replace hR := hR.drew
  obtain ⟨q0, q1, q2, q3, q4, q5, q6, q7, q8⟩ := hB.c9
  go_enter Try.func41, Try.ntmps41
  go_wp2_with fail
  go_region_held3 (fun w' => w'.cell? ⟨w.heap.size, 0, none⟩ = some (.int .i64 x.a) ∧ w'.cell? ⟨w.heap.size, 1, none⟩ = some (.int .i64 x.b) ∧ w'.cell? ⟨w.heap.size, 2, none⟩ = some (.int .i64 x.c) ∧ w'.cell? ⟨w.heap.size, 3, none⟩ = some (.slice x.p.x.A x.p.x.n x.p.x.c) ∧ w'.cell? ⟨w.heap.size, 4, none⟩ = some (.int .i64 x.d) ∧ w'.cell? ⟨w.heap.size, 5, none⟩ = some (.slice x.p.y.A x.p.y.n x.p.y.c) ∧ w'.cell? ⟨w.heap.size, 6, none⟩ = some (.slice x.p.z.A x.p.z.n x.p.z.c) ∧ w'.cell? ⟨w.heap.size, 7, none⟩ = some (.int .i64 x.e) ∧ w'.cell? ⟨w.heap.size, 8, none⟩ = some (.int .i64 x.f)) (first | (with_reducible exact kk2) | (with_reducible exact kk1) | (with_reducible exact ((((((hB.off _ 0 (by omega) _).off _ 1 (by omega) _).off _ 2 (by omega) _).off _ 3 (by omega) _).off _ 4 (by omega) _).off _ 5 (by omega) _).c9) | go_keep) (first | (go_at_call 33; refine (spec.l16Panel_any x y s ts q us _ (hr.ext hX) (ht.ext hX) (hq.ext hX) hok).mono ?_; rintro e w2 ⟨t, rfl, ot, hx⟩; have z2 := hx.size; (try simp at z2); have gt := (fun k (hk : blks t k) => Own3.lt ot hk); replace ot := Own3.mono (lo' := w.heap.size + 1 + 1) ot (by first | (simp; done) | omega | (simp; omega) | fail); replace hX := hX.trans hx; replace hB := hB.ext hx; replace hR := hR.ext hx; have kk1 := hB.c9; clear hx) | (go_at_call 59; refine (spec.l01Own_any x.p.y y.p.y _ ((hr.ext hX).1.2.1)).mono ?_; rintro e w3 ⟨s3, rfl, o3, hx⟩; have z3 := hx.size; have g3 := o3.lt; replace o3 := Own.mono (lo' := w.heap.size + 1 + 1) o3 (by omega); replace ot := ot.ext hx; replace hX := hX.trans hx; replace hB := hB.ext hx; replace hR := hR.ext hx; have kk2 := hB.c9; obtain ⟨r0, r1, r2, r3, r4, r5⟩ := hR.c6; have y0 := hR.frozen 0; have y1 := hR.frozen 1; have y2 := hR.frozen 2; have y3 := hR.frozen 3; have y4 := hR.frozen 4; have y5 := hR.frozen 5; clear hx))
  have hRn := hR.set6 (.slice t.x.A t.x.n t.x.c) (.slice t.y.A t.y.n t.y.c) (.slice t.z.A t.z.n t.z.c) (.slice s3.A s3.n s3.c) (.int .i64 0) (.int .i64 0)
  obtain ⟨n0, n1, n2, n3, n4, n5⟩ := hRn.c6
  have oz2 : OwnS w3 (w.heap.size + 1 + 1) ⟨t, s3, 0, 0⟩ (bgL ts us y) := ⟨ot, o3, ⟨rfl, rfl⟩, fun k h1 h2 => by have a1 := gt k h1; have a2 := g3 k h2; omega⟩
  go_wp2
  refine bodyPost_ret (v := .agg #[.slice (⟨t, s3, 0, 0⟩ : SelA).p.x.A (⟨t, s3, 0, 0⟩ : SelA).p.x.n (⟨t, s3, 0, 0⟩ : SelA).p.x.c, .slice (⟨t, s3, 0, 0⟩ : SelA).p.y.A (⟨t, s3, 0, 0⟩ : SelA).p.y.n (⟨t, s3, 0, 0⟩ : SelA).p.y.c, .slice (⟨t, s3, 0, 0⟩ : SelA).p.z.A (⟨t, s3, 0, 0⟩ : SelA).p.z.n (⟨t, s3, 0, 0⟩ : SelA).p.z.c, .slice (⟨t, s3, 0, 0⟩ : SelA).s.A (⟨t, s3, 0, 0⟩ : SelA).s.n (⟨t, s3, 0, 0⟩ : SelA).s.c, .int .i64 (⟨t, s3, 0, 0⟩ : SelA).t, .int .i64 (⟨t, s3, 0, 0⟩ : SelA).q]) (by simp [results, Try.results41, go_sem, n0, n1, n2, n3, n4, n5]) rfl ⟨⟨t, s3, 0, 0⟩, rfl, ?_, ((((((hX.off (w.heap.size + 1) 0 (by omega) _).off (w.heap.size + 1) 1 (by omega) _).off (w.heap.size + 1) 2 (by omega) _).off (w.heap.size + 1) 3 (by omega) _).off (w.heap.size + 1) 4 (by omega) _).off (w.heap.size + 1) 5 (by omega) _)⟩
  exact OwnS.mono ((((((oz2.off (w.heap.size + 1) 0 (by omega) _).off (w.heap.size + 1) 1 (by omega) _).off (w.heap.size + 1) 2 (by omega) _).off (w.heap.size + 1) 3 (by omega) _).off (w.heap.size + 1) 4 (by omega) _).off (w.heap.size + 1) 5 (by omega) _) (by omega)
end Go.Proofs.Ytbkpcfncdnmknaa.mem
