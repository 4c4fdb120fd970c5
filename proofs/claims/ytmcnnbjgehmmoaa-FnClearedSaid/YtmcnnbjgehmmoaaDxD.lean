/-
  Draws of ties, parties and a panel.
-/
import Derived.Test.YtmcnnbjgehmmoaaDxC
import Derived.Test.YtmcnnbjgehmmoaaDrW
namespace Go.Proofs.Ytmcnnbjgehmmoaa.mem
open Go.ChangeShapes Go.WideShapes Go.ChangeAt Go.RowKit
set_option linter.unusedVariables false
theorem OwX.off {w : World} {lo : Nat} {v : Value} {xs : List Ti} (h : OwX w lo v xs) (b i : Nat) (hb : b < lo) (u : Value) : OwX (w.setCell ⟨b, i, none⟩ u) lo v xs := h.keep fun k hk => Below.heap_setCell _ _ _ _ (by show k ≠ b; have := (h.lt k hk).1; omega)
theorem OwS.off {w : World} {lo : Nat} {v : Value} {xs : List ByteArray} (h : OwS w lo v xs) (b i : Nat) (hb : b < lo) (u : Value) : OwS (w.setCell ⟨b, i, none⟩ u) lo v xs := h.keep fun k hk => Below.heap_setCell _ _ _ _ (by show k ≠ b; have := (h.lt k hk).1; omega)
set_option maxRecDepth 20000 in
set_option maxHeartbeats 4000000 in
theorem spec.DrawClearPanel_any (s : Sl) (w : World) (hc : Code w s) :
    Calls Try.prog 32 #[.slice s.A s.n s.c] w fun e w' => ∃ (t : Sl) (ts : List Ti) (q : Sl) (us : List ByteArray) (p : S3) (l : L3), e = .returned (.tuple #[.slice t.A t.n t.c, .slice q.A q.n q.c, .agg #[.slice p.x.A p.x.n p.x.c, .slice p.y.A p.y.n p.y.c, .slice p.z.A p.z.n p.z.c]]) ∧ TpR w' t ts q us ∧ Own3 w' w.heap.size p l ∧ Ext w w' := by
  have hR := Blk.new w 50 #[.slice none 0 0, .slice none 0 0, .slice none 0 0]
  have hX := (Ext.refl w).alloc (.cells #[.slice none 0 0, .slice none 0 0, .slice none 0 0] 50)
  go_enter Try.func32, Try.ntmps32
  go_wp2_with fail
  refine (spec.l01From_any s w _ hX hc).mono ?_
  rintro e w1 ⟨g, rfl, hg, hD1, hx1⟩
  rw [World.size_alloc] at hg
  replace hR := hR.ext hx1
  replace hX := hX.trans hx1
  have hz1 := hR.lt
  have hgl := hD1.lt
  clear hx1
  go_wp2_with fail
  refine (spec.l13Ties_any g s w _ hD1).mono ?_
  rintro e w2 ⟨t, ts, rfl, ho2, hl2, hs2, hD2, hO2⟩
  replace hR := hR.only hO2 (by omega)
  replace hX := Ext.only hX hO2 (by omega)
  have hz2 := hO2.size
  go_wp2_with fail
  refine (spec.l13Parties_any g s w _ hD2).mono ?_
  rintro e w3 ⟨q, us, rfl, hp3, hl3, hs3, hD3, hO3⟩
  replace ho2 := ho2.only hO3 hgl
  replace hR := hR.only hO3 (by omega)
  replace hX := Ext.only hX hO3 (by omega)
  have hz3 := hO3.size
  clear hD1 hD2 hO2 hO3
  go_wp2_with fail
  refine (spec.l12Draw_any g s w _ hD3).mono ?_
  rintro e w4 ⟨p, l, rfl, hp, hb, hD4, hO4⟩
  replace ho2 := ho2.only hO4 hgl
  replace hp3 := hp3.only hO4 (by omega)
  replace hR := hR.only hO4 (by omega)
  replace hX := Ext.only hX hO4 (by omega)
  have hz4 := hO4.size
  clear hD3 hD4 hO4
  obtain ⟨r0, r1, r2, r3, r4, r5⟩ := res3 hR
  have m := Blk.c3 (((hR.set_ 0 (.slice p.x.A p.x.n p.x.c)).set_ 1 (.slice p.y.A p.y.n p.y.c)).set_ 2 (.slice p.z.A p.z.n p.z.c))
  have hpn := ((hp.awayP (g := w.heap.size) (by omega) 0 (.slice p.x.A p.x.n p.x.c)).awayP (g := w.heap.size) (by omega) 1 (.slice p.y.A p.y.n p.y.c)).awayP (g := w.heap.size) (by omega) 2 (.slice p.z.A p.z.n p.z.c)
  have hXn := ((hX.off w.heap.size 0 (by omega) (.slice p.x.A p.x.n p.x.c)).off w.heap.size 1 (by omega) (.slice p.y.A p.y.n p.y.c)).off w.heap.size 2 (by omega) (.slice p.z.A p.z.n p.z.c)
  have hon := ((ho2.off w.heap.size 0 (by omega) (.slice p.x.A p.x.n p.x.c)).off w.heap.size 1 (by omega) (.slice p.y.A p.y.n p.y.c)).off w.heap.size 2 (by omega) (.slice p.z.A p.z.n p.z.c)
  have hqn := ((hp3.off w.heap.size 0 (by omega) (.slice p.x.A p.x.n p.x.c)).off w.heap.size 1 (by omega) (.slice p.y.A p.y.n p.y.c)).off w.heap.size 2 (by omega) (.slice p.z.A p.z.n p.z.c)
  go_wp2_with fail
  refine bodyPost_ret (v := .tuple #[.slice t.A t.n t.c, .slice q.A q.n q.c, .agg #[.slice p.x.A p.x.n p.x.c, .slice p.y.A p.y.n p.y.c, .slice p.z.A p.z.n p.z.c]]) (by simp [results, Try.results32, go_sem, m.1, m.2.1, m.2.2]) rfl ⟨t, ts, q, us, p, l, rfl, TpR.of hon hs2 hqn hs3, hpn.mono (by omega), hXn⟩
end Go.Proofs.Ytmcnnbjgehmmoaa.mem
