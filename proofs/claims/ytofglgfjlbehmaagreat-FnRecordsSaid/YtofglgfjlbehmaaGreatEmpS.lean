/-
  The contract of the reference's l12Empty.
-/
import Derived.Test.YtofglgfjlbehmaaGreatEmpL
import Derived.Deep.DeepCutAuto
import Derived.Deep.RegionHeld3
namespace Go.Proofs.YtofglgfjlbehmaaGreat.mem
open Go.ChangeShapes Go.WideShapes Go.ChangeAt Go.RowKit

set_option maxRecDepth 20000 in
set_option maxHeartbeats 8000000 in
theorem spec.l12Empty_any (p : S3) (l : L3) (k : Nat) (w : World) (hr : Rd3 w p l) (hk : k < p.x.n) (hsm : p.x.n + (p.y.n + p.z.n) ≤ 100000) :
    Calls Tryz.prog 106 #[.agg #[.slice p.x.A p.x.n p.x.c, .slice p.y.A p.y.n p.y.c, .slice p.z.A p.z.n p.z.c], .int .i64 k] w fun e w' => ∃ p' : S3, e = .returned (.agg #[.slice p'.x.A p'.x.n p'.x.c, .slice p'.y.A p'.y.n p'.y.c, .slice p'.z.A p'.z.n p'.z.c]) ∧ Own3 w' w.heap.size p' (empL l k) ∧ Ext w w' := by
  obtain ⟨⟨A1, n1, c1⟩, ⟨A2, n2, c2⟩, ⟨A3, n3, c3⟩⟩ := p
  obtain ⟨rx, ry, rz, hs, cx, cy, cz⟩ := hr
  simp only at rx ry rz hs hk hsm ⊢
  obtain ⟨b, off, y, rfl, hbl, hc1, hy⟩ := rx.el hk
  have hX0 := ((Ext.refl w).alloc (.cells #[.slice (some ⟨b, off, none⟩) n1 c1, .slice A2 n2 c2, .slice A3 n3 c3] 40)).alloc (.cells #[.slice none 0 0, .slice none 0 0, .slice none 0 0] 40)
  have hB := (Blk.new w 40 (#[.slice (some ⟨b, off, none⟩) n1 c1, .slice A2 n2 c2, .slice A3 n3 c3])).alloc (.cells #[.slice none 0 0, .slice none 0 0, .slice none 0 0] 40)
  have hR := Blk.new (w.alloc (.cells #[.slice (some ⟨b, off, none⟩) n1 c1, .slice A2 n2 c2, .slice A3 n3 c3] 40)) 40 (#[.slice none 0 0, .slice none 0 0, .slice none 0 0])
  rw [World.size_alloc] at hR
  have hi0 : (0 : Int) ≤ (k : Int) := by omega
  have hi1 : (k : Int) < (n1 : Int) := by omega
  have hlz1 := hide (show l.z.length + 1 ≤ 16777216 by have := rz.1; omega)
  have hlx := hide rx.1
  have hly := hide ry.1
  have hlz := hide rz.1
  have hnb : ¬ w.heap.size = b := by omega
  have hnb1 : ¬ w.heap.size + 1 = b := by omega
  have hbl1 : b < w.heap.size + 1 := by omega
  have hbl2 : b < w.heap.size + 1 + 1 := by omega
  have hbl3 : b < w.heap.size + 1 + 1 + 1 := by omega
  have hm2 : ¬ w.heap.size + 1 + 1 = w.heap.size := by omega
  have hm3 : ¬ w.heap.size + 1 + 1 + 1 = w.heap.size := by omega
  have hm4 : ¬ w.heap.size = w.heap.size + 1 + 1 := by omega
  have hm5 : ¬ w.heap.size = w.heap.size + 1 + 1 + 1 := by omega
  have hnb4 : ¬ b = w.heap.size + 1 + 1 := by omega
  have hnb5 : ¬ b = w.heap.size + 1 + 1 + 1 := by omega
  have hnb2 : ¬ w.heap.size + 1 + 1 = b := by omega
  have hnb3 : ¬ w.heap.size + 1 + 1 + 1 = b := by omega
  go_enter Tryz.func106, Tryz.ntmps106
  go_upto_region 1 with fail
  go_cut [5] (fun s5 wx => EmpPost w #[.slice (some ⟨b, off, none⟩) n1 c1, .slice A2 n2 c2, .slice A3 n3 c3] ⟨l.x, l.y, l.z ++ [y]⟩ s5 wx)
  case first =>
    have ka0 := fun (o : Obj) => And.intro trivial (show (((w.alloc (.cells #[.slice (some ⟨b, off, none⟩) n1 c1, .slice A2 n2 c2, .slice A3 n3 c3] 40)).alloc (.cells #[.slice none 0 0, .slice none 0 0, .slice none 0 0] 40)).alloc o).drew.cell? ⟨w.heap.size, 0, none⟩ = some (.slice (some ⟨b, off, none⟩) n1 c1) ∧ (((w.alloc (.cells #[.slice (some ⟨b, off, none⟩) n1 c1, .slice A2 n2 c2, .slice A3 n3 c3] 40)).alloc (.cells #[.slice none 0 0, .slice none 0 0, .slice none 0 0] 40)).alloc o).drew.cell? ⟨w.heap.size, 1, none⟩ = some (.slice A2 n2 c2) ∧ (((w.alloc (.cells #[.slice (some ⟨b, off, none⟩) n1 c1, .slice A2 n2 c2, .slice A3 n3 c3] 40)).alloc (.cells #[.slice none 0 0, .slice none 0 0, .slice none 0 0] 40)).alloc o).drew.cell? ⟨w.heap.size, 2, none⟩ = some (.slice A3 n3 c3) ∧ (((w.alloc (.cells #[.slice (some ⟨b, off, none⟩) n1 c1, .slice A2 n2 c2, .slice A3 n3 c3] 40)).alloc (.cells #[.slice none 0 0, .slice none 0 0, .slice none 0 0] 40)).alloc o).drew.cell? ⟨b, off + k, none⟩ = some (.int .i64 y) from ⟨(hB.alloc o).c3.1, (hB.alloc o).c3.2.1, (hB.alloc o).c3.2.2, ((hX0.alloc o).cell (p := ⟨b, off + k, none⟩) hbl).trans hc1⟩)
    have kaa0 := fun (o o' : Obj) => And.intro trivial (show ((((w.alloc (.cells #[.slice (some ⟨b, off, none⟩) n1 c1, .slice A2 n2 c2, .slice A3 n3 c3] 40)).alloc (.cells #[.slice none 0 0, .slice none 0 0, .slice none 0 0] 40)).alloc o).alloc o').drew.cell? ⟨w.heap.size, 0, none⟩ = some (.slice (some ⟨b, off, none⟩) n1 c1) ∧ ((((w.alloc (.cells #[.slice (some ⟨b, off, none⟩) n1 c1, .slice A2 n2 c2, .slice A3 n3 c3] 40)).alloc (.cells #[.slice none 0 0, .slice none 0 0, .slice none 0 0] 40)).alloc o).alloc o').drew.cell? ⟨w.heap.size, 1, none⟩ = some (.slice A2 n2 c2) ∧ ((((w.alloc (.cells #[.slice (some ⟨b, off, none⟩) n1 c1, .slice A2 n2 c2, .slice A3 n3 c3] 40)).alloc (.cells #[.slice none 0 0, .slice none 0 0, .slice none 0 0] 40)).alloc o).alloc o').drew.cell? ⟨w.heap.size, 2, none⟩ = some (.slice A3 n3 c3) ∧ ((((w.alloc (.cells #[.slice (some ⟨b, off, none⟩) n1 c1, .slice A2 n2 c2, .slice A3 n3 c3] 40)).alloc (.cells #[.slice none 0 0, .slice none 0 0, .slice none 0 0] 40)).alloc o).alloc o').drew.cell? ⟨b, off + k, none⟩ = some (.int .i64 y) from ⟨((hB.alloc o).alloc o').c3.1, ((hB.alloc o).alloc o').c3.2.1, ((hB.alloc o).alloc o').c3.2.2, (((hX0.alloc o).alloc o').cell (p := ⟨b, off + k, none⟩) hbl).trans hc1⟩)
    go_region_held3 (fun w' => w'.cell? ⟨w.heap.size, 0, none⟩ = some (.slice (some ⟨b, off, none⟩) n1 c1) ∧ w'.cell? ⟨w.heap.size, 1, none⟩ = some (.slice A2 n2 c2) ∧ w'.cell? ⟨w.heap.size, 2, none⟩ = some (.slice A3 n3 c3) ∧ w'.cell? ⟨b, off + k, none⟩ = some (.int .i64 y)) (first | with_reducible exact kk4.2 | with_reducible exact kk3.2 | with_reducible exact kk2.2 | with_reducible exact kk1.2 | with_reducible exact (ka3 _).2 | with_reducible exact (kaa3 _ _).2 | with_reducible exact (ka2 _).2 | with_reducible exact (kaa2 _ _).2 | with_reducible exact (ka1 _).2 | with_reducible exact (kaa1 _ _).2 | with_reducible exact (ka0 _).2 | with_reducible exact (kaa0 _ _).2 | (go_keep; done) | with_reducible exact ⟨(((hB.off _ 0 (by omega) _).off _ 1 (by omega) _).off _ 2 (by omega) _).c3.1, (((hB.off _ 0 (by omega) _).off _ 1 (by omega) _).off _ 2 (by omega) _).c3.2.1, (((hB.off _ 0 (by omega) _).off _ 1 (by omega) _).off _ 2 (by omega) _).c3.2.2, ((((hX.off _ 0 (by omega) _).off _ 1 (by omega) _).off _ 2 (by omega) _).cell (p := ⟨b, off + k, none⟩) hbl).trans hc1⟩) (first | (refine step_app _ (by rfl) (.tmp 14) (.tmp 20) (by rfl) (w.heap.size + 1 + 1) _ _ (by rfl) (o3.ext (by first | exact Ext.refl _ | exact (Ext.refl _).alloc _ | exact ((Ext.refl _).alloc _).alloc _)) _ _ _ [y] (by rfl) (Rd.of_cell _ _ _ (by first | with_reducible exact hV.g0 | with_reducible exact (hV.alloc _).g0 | with_reducible exact (Blk.new _ _ _).g0 | with_reducible exact ((Blk.new _ _ _).alloc _).g0 | with_reducible exact (blk_at1 _ _ _ _).g0 | fail)) (by have := hlz1.out; omega) (by have := hX.size; first | omega | (simp; omega)) ?_; intro t4 w4 o4 hg hb4; have hX : Ext w w4 := Ext.grow (by first | exact hX | exact (hX.alloc _) | exact ((hX.alloc _).alloc _)) hg (fun k hk => by have := rg3 k hk; omega); have z4 := hg.size; (try simp at z4); replace o1 := (o1.ext (by first | exact Ext.refl _ | exact (Ext.refl _).alloc _ | exact ((Ext.refl _).alloc _).alloc _)).fr (Fr.of_grown hg) (fun k h1 h2 => by have a1 := rg1 k h1; have a2 := rg3 k h2; omega); replace o2 := (o2.ext (by first | exact Ext.refl _ | exact (Ext.refl _).alloc _ | exact ((Ext.refl _).alloc _).alloc _)).fr (Fr.of_grown hg) (fun k h1 h2 => by have a1 := rg2 k h1; have a2 := rg3 k h2; omega); have hB := Blk.fr (Blk.ext hB (by first | exact Ext.refl _ | exact (Ext.refl _).alloc _ | exact ((Ext.refl _).alloc _).alloc _)) (Fr.of_grown hg) (fun e => by have := rg3 _ e; omega); have hR := Blk.fr (Blk.ext hR (by first | exact Ext.refl _ | exact (Ext.refl _).alloc _ | exact ((Ext.refl _).alloc _).alloc _)) (Fr.of_grown hg) (fun e => by have := rg3 _ e; omega); (try have hO := Blk.fr (Blk.ext hO (by first | exact Ext.refl _ | exact (Ext.refl _).alloc _ | exact ((Ext.refl _).alloc _).alloc _)) (Fr.of_grown hg) (fun e => by have := rg3 _ e; have := hO.lt; omega)); (try have hO : Blk w4 (w3.heap.size) 40 #[.slice none 0 0, .slice none 0 0, .slice none 0 0] := Blk.fr (by first | with_reducible exact Blk.new _ _ _ | with_reducible exact (Blk.new _ _ _).alloc _ | fail) (Fr.of_grown hg) (fun e => by have := rg3 _ e; omega)); (try have hO : Blk w4 (w3.heap.size + 1) 40 #[.slice none 0 0, .slice none 0 0, .slice none 0 0] := Blk.fr (by first | with_reducible exact blk_at1 _ _ _ _ | fail) (Fr.of_grown hg) (fun e => by have := rg3 _ e; omega)); (try have sO := res3 hO); have rg4 : ∀ k, Value.ownBlock (.slice t4.A t4.n t4.c) = some k → (Value.ownBlock (.slice t3.A t3.n t3.c) = some k ∨ w3.heap.size ≤ k) := (fun k hk => Or.elim hb4 (fun h => Or.inl (h.symm.trans hk)) (fun h => Or.inr (by rw [h] at hk; injection hk with hk; (try simp at hk); omega))); have nb4_0 : ¬ w4.heap.size = b := (by omega); have nd4_0 : ¬ b = w4.heap.size := (by omega); have nb4_1 : ¬ w4.heap.size = w.heap.size := (by omega); have nd4_1 : ¬ w.heap.size = w4.heap.size := (by omega); have kk4 := And.intro trivial (show w4.cell? ⟨w.heap.size, 0, none⟩ = some (.slice (some ⟨b, off, none⟩) n1 c1) ∧ w4.cell? ⟨w.heap.size, 1, none⟩ = some (.slice A2 n2 c2) ∧ w4.cell? ⟨w.heap.size, 2, none⟩ = some (.slice A3 n3 c3) ∧ w4.cell? ⟨b, off + k, none⟩ = some (.int .i64 y) from ⟨hB.c3.1, hB.c3.2.1, hB.c3.2.2, (hX.cell (p := ⟨b, off + k, none⟩) hbl).trans hc1⟩)) | (go_at_call 62; (with_reducible refine (spec.l01Own_any ⟨_, n1, c1⟩ l.x _ (rx.ext (by first | exact hX0.drew | exact ((hX0.alloc _).drew) | exact (((hX0.alloc _).alloc _).drew)))).mono ?_); rintro e w1 ⟨t1, rfl, o1, hx⟩; have hE : Ext ((w.alloc (.cells #[.slice (some ⟨b, off, none⟩) n1 c1, .slice A2 n2 c2, .slice A3 n3 c3] 40)).alloc (.cells #[.slice none 0 0, .slice none 0 0, .slice none 0 0] 40)) w1 := Ext.trans (by first | exact (Ext.refl _).drew | exact ((Ext.refl _).alloc _).drew | exact (((Ext.refl _).alloc _).alloc _).drew) hx; have hX : Ext w w1 := Ext.trans hX0 hE; have rg1 := o1.lt; (try simp at rg1); have z1 := hx.size; (try simp at z1); replace o1 := Own.mono (lo' := (w.heap.size + 1 + 1)) o1 (by first | assumption | (simp; done) | (simp; omega) | omega); have hB := Blk.ext hB hE; have hR := Blk.ext hR hE; (try have hO := Blk.ext hO hE); (try have hV := Blk.ext hV hE); (try have hO : Blk w1 (w.heap.size + 1 + 1) 40 #[.slice none 0 0, .slice none 0 0, .slice none 0 0] := Blk.ext (by first | with_reducible exact (blk_at2 _ _ _ _ _).drew | with_reducible exact ((blk_at2 _ _ _ _ _).alloc _).drew | fail) hx); (try have hO : Blk w1 (w.heap.size + 1 + 1 + 1) 40 #[.slice none 0 0, .slice none 0 0, .slice none 0 0] := Blk.ext (by first | with_reducible exact (blk_at3 _ _ _ _ _ _).drew | fail) hx); (try have hV : Blk w1 (w.heap.size + 1 + 1) 2 #[.int .i64 y] := Blk.ext (by first | with_reducible exact (blk_at2 _ _ _ _ _).drew | with_reducible exact ((blk_at2 _ _ _ _ _).alloc _).drew | fail) hx); (try have hV : Blk w1 (w.heap.size + 1 + 1 + 1) 2 #[.int .i64 y] := Blk.ext (by first | with_reducible exact (blk_at3 _ _ _ _ _ _).drew | fail) hx); have nb1_0 : ¬ w1.heap.size = b := (by omega); have nc1_0 : ¬ w1.heap.size + 1 = b := (by omega); have nd1_0 : ¬ b = w1.heap.size := (by omega); have ne1_0 : ¬ b = w1.heap.size + 1 := (by omega); have nb1_1 : ¬ w1.heap.size = w.heap.size := (by omega); have nc1_1 : ¬ w1.heap.size + 1 = w.heap.size := (by omega); have nd1_1 : ¬ w.heap.size = w1.heap.size := (by omega); have ne1_1 : ¬ w.heap.size = w1.heap.size + 1 := (by omega); have kk1 := And.intro trivial (show w1.cell? ⟨w.heap.size, 0, none⟩ = some (.slice (some ⟨b, off, none⟩) n1 c1) ∧ w1.cell? ⟨w.heap.size, 1, none⟩ = some (.slice A2 n2 c2) ∧ w1.cell? ⟨w.heap.size, 2, none⟩ = some (.slice A3 n3 c3) ∧ w1.cell? ⟨b, off + k, none⟩ = some (.int .i64 y) from ⟨hB.c3.1, hB.c3.2.1, hB.c3.2.2, (hX.cell (p := ⟨b, off + k, none⟩) hbl).trans hc1⟩); have ka1 := fun (o : Obj) => And.intro trivial (show (w1.alloc o).cell? ⟨w.heap.size, 0, none⟩ = some (.slice (some ⟨b, off, none⟩) n1 c1) ∧ (w1.alloc o).cell? ⟨w.heap.size, 1, none⟩ = some (.slice A2 n2 c2) ∧ (w1.alloc o).cell? ⟨w.heap.size, 2, none⟩ = some (.slice A3 n3 c3) ∧ (w1.alloc o).cell? ⟨b, off + k, none⟩ = some (.int .i64 y) from ⟨(hB.alloc o).c3.1, (hB.alloc o).c3.2.1, (hB.alloc o).c3.2.2, ((hX.alloc o).cell (p := ⟨b, off + k, none⟩) hbl).trans hc1⟩); have kaa1 := fun (o o' : Obj) => And.intro trivial (show ((w1.alloc o).alloc o').cell? ⟨w.heap.size, 0, none⟩ = some (.slice (some ⟨b, off, none⟩) n1 c1) ∧ ((w1.alloc o).alloc o').cell? ⟨w.heap.size, 1, none⟩ = some (.slice A2 n2 c2) ∧ ((w1.alloc o).alloc o').cell? ⟨w.heap.size, 2, none⟩ = some (.slice A3 n3 c3) ∧ ((w1.alloc o).alloc o').cell? ⟨b, off + k, none⟩ = some (.int .i64 y) from ⟨((hB.alloc o).alloc o').c3.1, ((hB.alloc o).alloc o').c3.2.1, ((hB.alloc o).alloc o').c3.2.2, (((hX.alloc o).alloc o').cell (p := ⟨b, off + k, none⟩) hbl).trans hc1⟩); clear hx hE) | (go_at_call 62; (with_reducible refine (spec.l01Own_any ⟨A2, n2, c2⟩ l.y _ (ry.ext (by first | exact hX | exact (hX.alloc _) | exact ((hX.alloc _).alloc _)))).mono ?_); rintro e w2 ⟨t2, rfl, o2, hx⟩; have hE : Ext w1 w2 := Ext.trans (by first | exact Ext.refl _ | exact (Ext.refl _).alloc _ | exact ((Ext.refl _).alloc _).alloc _) hx; have hX : Ext w w2 := Ext.trans hX hE; have rg2 := o2.lt; (try simp at rg2); have z2 := hx.size; (try simp at z2); replace o2 := Own.mono (lo' := (w.heap.size + 1 + 1)) o2 (by first | assumption | (simp; done) | (simp; omega) | omega); replace o1 := o1.ext hE; have hB := Blk.ext hB hE; have hR := Blk.ext hR hE; (try have hO := Blk.ext hO hE); (try have hV := Blk.ext hV hE); (try have hO : Blk w2 (w1.heap.size) 40 #[.slice none 0 0, .slice none 0 0, .slice none 0 0] := Blk.ext (by first | with_reducible exact (Blk.new _ _ _) | with_reducible exact ((Blk.new _ _ _).alloc _) | fail) hx); (try have hO : Blk w2 (w1.heap.size + 1) 40 #[.slice none 0 0, .slice none 0 0, .slice none 0 0] := Blk.ext (by first | with_reducible exact (blk_at1 _ _ _ _) | fail) hx); (try have hV : Blk w2 (w1.heap.size) 2 #[.int .i64 y] := Blk.ext (by first | with_reducible exact (Blk.new _ _ _) | with_reducible exact ((Blk.new _ _ _).alloc _) | fail) hx); (try have hV : Blk w2 (w1.heap.size + 1) 2 #[.int .i64 y] := Blk.ext (by first | with_reducible exact (blk_at1 _ _ _ _) | fail) hx); have nb2_0 : ¬ w2.heap.size = b := (by omega); have nc2_0 : ¬ w2.heap.size + 1 = b := (by omega); have nd2_0 : ¬ b = w2.heap.size := (by omega); have ne2_0 : ¬ b = w2.heap.size + 1 := (by omega); have nb2_1 : ¬ w2.heap.size = w.heap.size := (by omega); have nc2_1 : ¬ w2.heap.size + 1 = w.heap.size := (by omega); have nd2_1 : ¬ w.heap.size = w2.heap.size := (by omega); have ne2_1 : ¬ w.heap.size = w2.heap.size + 1 := (by omega); have kk2 := And.intro trivial (show w2.cell? ⟨w.heap.size, 0, none⟩ = some (.slice (some ⟨b, off, none⟩) n1 c1) ∧ w2.cell? ⟨w.heap.size, 1, none⟩ = some (.slice A2 n2 c2) ∧ w2.cell? ⟨w.heap.size, 2, none⟩ = some (.slice A3 n3 c3) ∧ w2.cell? ⟨b, off + k, none⟩ = some (.int .i64 y) from ⟨hB.c3.1, hB.c3.2.1, hB.c3.2.2, (hX.cell (p := ⟨b, off + k, none⟩) hbl).trans hc1⟩); have ka2 := fun (o : Obj) => And.intro trivial (show (w2.alloc o).cell? ⟨w.heap.size, 0, none⟩ = some (.slice (some ⟨b, off, none⟩) n1 c1) ∧ (w2.alloc o).cell? ⟨w.heap.size, 1, none⟩ = some (.slice A2 n2 c2) ∧ (w2.alloc o).cell? ⟨w.heap.size, 2, none⟩ = some (.slice A3 n3 c3) ∧ (w2.alloc o).cell? ⟨b, off + k, none⟩ = some (.int .i64 y) from ⟨(hB.alloc o).c3.1, (hB.alloc o).c3.2.1, (hB.alloc o).c3.2.2, ((hX.alloc o).cell (p := ⟨b, off + k, none⟩) hbl).trans hc1⟩); have kaa2 := fun (o o' : Obj) => And.intro trivial (show ((w2.alloc o).alloc o').cell? ⟨w.heap.size, 0, none⟩ = some (.slice (some ⟨b, off, none⟩) n1 c1) ∧ ((w2.alloc o).alloc o').cell? ⟨w.heap.size, 1, none⟩ = some (.slice A2 n2 c2) ∧ ((w2.alloc o).alloc o').cell? ⟨w.heap.size, 2, none⟩ = some (.slice A3 n3 c3) ∧ ((w2.alloc o).alloc o').cell? ⟨b, off + k, none⟩ = some (.int .i64 y) from ⟨((hB.alloc o).alloc o').c3.1, ((hB.alloc o).alloc o').c3.2.1, ((hB.alloc o).alloc o').c3.2.2, (((hX.alloc o).alloc o').cell (p := ⟨b, off + k, none⟩) hbl).trans hc1⟩); clear hx hE) | (go_at_call 62; (with_reducible refine (spec.l01Own_any ⟨A3, n3, c3⟩ l.z _ (rz.ext (by first | exact hX | exact (hX.alloc _) | exact ((hX.alloc _).alloc _)))).mono ?_); rintro e w3 ⟨t3, rfl, o3, hx⟩; have hE : Ext w2 w3 := Ext.trans (by first | exact Ext.refl _ | exact (Ext.refl _).alloc _ | exact ((Ext.refl _).alloc _).alloc _) hx; have hX : Ext w w3 := Ext.trans hX hE; have rg3 := o3.lt; (try simp at rg3); have z3 := hx.size; (try simp at z3); replace o3 := Own.mono (lo' := (w.heap.size + 1 + 1)) o3 (by first | assumption | (simp; done) | (simp; omega) | omega); replace o1 := o1.ext hE; replace o2 := o2.ext hE; have hB := Blk.ext hB hE; have hR := Blk.ext hR hE; (try have hO := Blk.ext hO hE); (try have hV := Blk.ext hV hE); (try have hO : Blk w3 (w2.heap.size) 40 #[.slice none 0 0, .slice none 0 0, .slice none 0 0] := Blk.ext (by first | with_reducible exact (Blk.new _ _ _) | with_reducible exact ((Blk.new _ _ _).alloc _) | fail) hx); (try have hO : Blk w3 (w2.heap.size + 1) 40 #[.slice none 0 0, .slice none 0 0, .slice none 0 0] := Blk.ext (by first | with_reducible exact (blk_at1 _ _ _ _) | fail) hx); (try have hV : Blk w3 (w2.heap.size) 2 #[.int .i64 y] := Blk.ext (by first | with_reducible exact (Blk.new _ _ _) | with_reducible exact ((Blk.new _ _ _).alloc _) | fail) hx); (try have hV : Blk w3 (w2.heap.size + 1) 2 #[.int .i64 y] := Blk.ext (by first | with_reducible exact (blk_at1 _ _ _ _) | fail) hx); have nb3_0 : ¬ w3.heap.size = b := (by omega); have nc3_0 : ¬ w3.heap.size + 1 = b := (by omega); have nd3_0 : ¬ b = w3.heap.size := (by omega); have ne3_0 : ¬ b = w3.heap.size + 1 := (by omega); have nb3_1 : ¬ w3.heap.size = w.heap.size := (by omega); have nc3_1 : ¬ w3.heap.size + 1 = w.heap.size := (by omega); have nd3_1 : ¬ w.heap.size = w3.heap.size := (by omega); have ne3_1 : ¬ w.heap.size = w3.heap.size + 1 := (by omega); have kk3 := And.intro trivial (show w3.cell? ⟨w.heap.size, 0, none⟩ = some (.slice (some ⟨b, off, none⟩) n1 c1) ∧ w3.cell? ⟨w.heap.size, 1, none⟩ = some (.slice A2 n2 c2) ∧ w3.cell? ⟨w.heap.size, 2, none⟩ = some (.slice A3 n3 c3) ∧ w3.cell? ⟨b, off + k, none⟩ = some (.int .i64 y) from ⟨hB.c3.1, hB.c3.2.1, hB.c3.2.2, (hX.cell (p := ⟨b, off + k, none⟩) hbl).trans hc1⟩); have ka3 := fun (o : Obj) => And.intro trivial (show (w3.alloc o).cell? ⟨w.heap.size, 0, none⟩ = some (.slice (some ⟨b, off, none⟩) n1 c1) ∧ (w3.alloc o).cell? ⟨w.heap.size, 1, none⟩ = some (.slice A2 n2 c2) ∧ (w3.alloc o).cell? ⟨w.heap.size, 2, none⟩ = some (.slice A3 n3 c3) ∧ (w3.alloc o).cell? ⟨b, off + k, none⟩ = some (.int .i64 y) from ⟨(hB.alloc o).c3.1, (hB.alloc o).c3.2.1, (hB.alloc o).c3.2.2, ((hX.alloc o).cell (p := ⟨b, off + k, none⟩) hbl).trans hc1⟩); have kaa3 := fun (o o' : Obj) => And.intro trivial (show ((w3.alloc o).alloc o').cell? ⟨w.heap.size, 0, none⟩ = some (.slice (some ⟨b, off, none⟩) n1 c1) ∧ ((w3.alloc o).alloc o').cell? ⟨w.heap.size, 1, none⟩ = some (.slice A2 n2 c2) ∧ ((w3.alloc o).alloc o').cell? ⟨w.heap.size, 2, none⟩ = some (.slice A3 n3 c3) ∧ ((w3.alloc o).alloc o').cell? ⟨b, off + k, none⟩ = some (.int .i64 y) from ⟨((hB.alloc o).alloc o').c3.1, ((hB.alloc o).alloc o').c3.2.1, ((hB.alloc o).alloc o').c3.2.2, (((hX.alloc o).alloc o').cell (p := ⟨b, off + k, none⟩) hbl).trans hc1⟩); clear hx hE))
    all_goals
      go_wp2_with fail
      go_meet
      have hlen4 : t1.n + (t2.n + t4.n) ≤ 2097152 := by
        have e1 := o1.rd.1
        have e2 := o2.rd.1
        have e4 := o4.rd.1
        rw [List.length_append, List.length_singleton] at e4
        have h1 := hlx.out
        have h2 := hly.out
        have h3 := hlz.out
        omega
      have A12 : apart (.slice t1.A t1.n t1.c) (.slice t2.A t2.n t2.c) := fun k h1 h2 => by have a1 := rg1 k h1; have a2 := rg2 k h2; omega
      have A14 : apart (.slice t1.A t1.n t1.c) (.slice t4.A t4.n t4.c) := fun k h1 h2 => by
        rcases rg4 k h2 with h | h
        · have a1 := rg1 k h1; have a3 := rg3 k h; omega
        · have a1 := rg1 k h1; omega
      have A24 : apart (.slice t2.A t2.n t2.c) (.slice t4.A t4.n t4.c) := fun k h1 h2 => by
        rcases rg4 k h2 with h | h
        · have a1 := rg2 k h1; have a3 := rg3 k h; omega
        · have a1 := rg2 k h1; omega
      have h3 : Own3 w4 (w.heap.size + 1 + 1) ⟨t1, t2, t4⟩ ⟨l.x, l.y, l.z ++ [y]⟩ := ⟨o1, o2, o4, hlen4, A12, A14, A24⟩
      first
      | exact EmpPost.one (t := ⟨t1, t2, t4⟩) hX hO (by omega) h3 hB hR (fun k hk e => by
          subst e
          rcases hk with h | h | h
          · have := rg1 _ h; omega
          · have := rg2 _ h; omega
          · rcases hb4 with q | q
            · rw [q] at h; have := rg3 _ h; omega
            · rw [q] at h; injection h with h; first | omega | (simp at h; omega) | (simp at h))
      | exact EmpPost.two (t := ⟨t1, t2, t4⟩) hX (by omega) h3 hB hR
  case rest =>
    obtain ⟨g, ⟨⟨T1, m1, d1⟩, t2, t3⟩, rfl, hO, h3, hX, hB, hR, hg, ha⟩ := hcut
    obtain ⟨o1, o2, o3, htot, a12, a13, a23⟩ := h3
    simp only at o1 o2 o3 htot a12 a13 a23 hO
    have hlen := hide (show m1 = n1 by have h1 : m1 = l.x.length := o1.rd.1; have := hlx.out; omega)
    have hkm : k < m1 := by have := hlen.out; omega
    obtain ⟨g1, rfl, hg1, hg1s, ⟨u1, hu1⟩, hf1, hput⟩ := o1.put hkm
    have n1g : g1 ≠ g := ha g1 (.inl rfl)
    have nb2 : Value.ownBlock (.slice t2.A t2.n t2.c) ≠ some g1 := a12 g1 rfl
    have nb3 : Value.ownBlock (.slice t3.A t3.n t3.c) ≠ some g1 := a13 g1 rfl
    have hyk := hide (show l.x.getD k 0 = y by rw [List.getD_eq_getElem?_getD, hy.out]; rfl)
    have p1 := hput 0
    have p2 := o2.away nb2 k (.int .i64 0)
    have p3 := o3.away nb3 k (.int .i64 0)
    have pX := hX.off g1 k (by omega) (.int .i64 0)
    have pB := hB.off g1 k (by omega) (.int .i64 0)
    have pR := hR.off g1 k (by omega) (.int .i64 0)
    have pO := hO.off g1 k (by omega) (.int .i64 0)
    obtain ⟨bB0, bB1, bB2⟩ := hB.c3
    obtain ⟨bO0, bO1, bO2⟩ := hO.c3
    have hkm0 : (k : Int) < (m1 : Int) := by omega
    by_cases hn2 : n2 = 0
    · subst hn2
      have hy0 : l.y = [] := List.eq_nil_of_length_eq_zero hly.out.symm
      have pRr := res3 pR
      obtain ⟨q0, q1, q2⟩ := pO.c3
      obtain ⟨v0, v1, v2⟩ := pB.c3
      have hRf := ((pR.set_ 0 (.slice (some ⟨g1, 0, none⟩) m1 d1)).set_ 1 (.slice t2.A t2.n t2.c)).set_ 2 (.slice t3.A t3.n t3.c)
      obtain ⟨f0, f1, f2⟩ := hRf.c3
      go_wp2
      refine bodyPost_ret (v := .agg #[.slice (⟨⟨some ⟨g1, 0, none⟩, m1, d1⟩, t2, t3⟩ : S3).x.A (⟨⟨some ⟨g1, 0, none⟩, m1, d1⟩, t2, t3⟩ : S3).x.n (⟨⟨some ⟨g1, 0, none⟩, m1, d1⟩, t2, t3⟩ : S3).x.c, .slice (⟨⟨some ⟨g1, 0, none⟩, m1, d1⟩, t2, t3⟩ : S3).y.A (⟨⟨some ⟨g1, 0, none⟩, m1, d1⟩, t2, t3⟩ : S3).y.n (⟨⟨some ⟨g1, 0, none⟩, m1, d1⟩, t2, t3⟩ : S3).y.c, .slice (⟨⟨some ⟨g1, 0, none⟩, m1, d1⟩, t2, t3⟩ : S3).z.A (⟨⟨some ⟨g1, 0, none⟩, m1, d1⟩, t2, t3⟩ : S3).z.n (⟨⟨some ⟨g1, 0, none⟩, m1, d1⟩, t2, t3⟩ : S3).z.c]) (by simp [results, Tryz.results106, go_sem, f0, f1, f2]) rfl ⟨⟨⟨some ⟨g1, 0, none⟩, m1, d1⟩, t2, t3⟩, rfl, ?own1, ?ext1⟩
      case ext1 => exact ((pX.off _ 0 (by omega) _).off _ 1 (by omega) _).off _ 2 (by omega) _
      case own1 =>
        refine ⟨?_, ?_, ?_, htot, a12, a13, a23⟩
        · have := (((p1.off (w.heap.size + 1) 0 (by omega) (.slice (some ⟨g1, 0, none⟩) m1 d1)).off (w.heap.size + 1) 1 (by omega) (.slice t2.A t2.n t2.c)).off (w.heap.size + 1) 2 (by omega) (.slice t3.A t3.n t3.c)).mono (lo' := w.heap.size) (by omega)
          unfold empL
          rw [hy0]
          exact this
        · have := (((p2.off (w.heap.size + 1) 0 (by omega) (.slice (some ⟨g1, 0, none⟩) m1 d1)).off (w.heap.size + 1) 1 (by omega) (.slice t2.A t2.n t2.c)).off (w.heap.size + 1) 2 (by omega) (.slice t3.A t3.n t3.c)).mono (lo' := w.heap.size) (by omega)
          unfold empL
          rw [hy0] at this ⊢
          exact this
        · have := (((p3.off (w.heap.size + 1) 0 (by omega) (.slice (some ⟨g1, 0, none⟩) m1 d1)).off (w.heap.size + 1) 1 (by omega) (.slice t2.A t2.n t2.c)).off (w.heap.size + 1) 2 (by omega) (.slice t3.A t3.n t3.c)).mono (lo' := w.heap.size) (by omega)
          unfold empL
          rw [hyk.out]
          exact this
    · obtain ⟨bw, offw, y0, hA2, hbw, hcw, hy0⟩ := ry.el (k := 0) (by omega)
      subst hA2
      rw [Nat.add_zero] at hcw
      have hn20 : 0 < n2 := by omega
      have hg1w : ¬ g1 = w.heap.size := by omega
      have hg1b : ¬ g1 = bw := by omega
      have hn0 : ((n2 : Int) == 0) = false := by have : ¬ (n2 : Int) = 0 := by omega
                                                 simpa using this
      have cw := (hX.cell (p := ⟨bw, offw, none⟩) hbw).trans hcw
      have cw1 := (pX.cell (p := ⟨bw, offw, none⟩) hbw).trans hcw
      obtain ⟨q0, q1, q2⟩ := pO.c3
      obtain ⟨v0, v1, v2⟩ := pB.c3
      obtain ⟨g1', eg, _, _, ⟨u2, hu2⟩, hf2, hput2⟩ := p1.put hkm
      injection eg with eg
      injection eg with eg
      subst eg
      go_wp2_with fail
      go_region_held3 (fun w' => w'.cell? ⟨g, 0, none⟩ = some (.slice (some ⟨g1, 0, none⟩) m1 d1) ∧ w'.cell? ⟨w.heap.size, 1, none⟩ = some (.slice (some ⟨bw, offw, none⟩) n2 c2) ∧ w'.cell? ⟨bw, offw, none⟩ = some (.int .i64 y0)) (first | go_keep | trivial) (fail)
      clear q0 q1 q2 v0 v1 v2 bO0 bO1 bO2 bB0 bB1 bB2 hu1 hf1 hu2 hf2 cw cw1
      have r1 := (hput2 y0).drew
      have r2 := (p2.away nb2 k (.int .i64 y0)).drew
      have r3 := (p3.away nb3 k (.int .i64 y0)).drew
      have rX := (pX.off g1 k (by omega) (.int .i64 y0)).drew
      have rB := (pB.off g1 k (by omega) (.int .i64 y0)).drew
      have rR := (pR.off g1 k (by omega) (.int .i64 y0)).drew
      have rO := (pO.off g1 k (by omega) (.int .i64 y0)).drew
      obtain ⟨q0, q1, q2⟩ := rO.c3
      obtain ⟨v0, v1, v2⟩ := rB.c3
      have hset := hide (show (l.x.set k 0).set k y0 = l.x.set k (l.y.headD 0) by
        rw [List.set_set]
        congr 1
        have h := hy0.out
        cases hl : l.y
        · rw [hl] at h; cases h
        · rw [hl] at h; injection h with h; exact h.symm)
      have hgw1 : ¬ g = w.heap.size + 1 := by have h1 := hg; omega
      have hgw0 : ¬ g = w.heap.size := by omega
      have hrs := hX.size
      have hge := hO.lt
      rcases (show c2 = 1 ∨ ¬ c2 = 1 by omega) with hc2 | hc2
      · subst hc2
        obtain rfl : n2 = 1 := by have := cy.1; simp only at this; omega
        have htl : l.y.tail = [] := List.eq_nil_of_length_eq_zero (by have := hly.out; rw [List.length_tail]; omega)
        have hrT : Rd w (some ⟨bw, offw, none⟩) 0 l.y.tail := by rw [htl]; exact Rd.nil_ _ _
        clear htl
        go_wp2_with (first | (go_at_call 62; refine (spec.l01Own_any ⟨some ⟨_, _, none⟩, _, _⟩ l.y.tail _ (hrT.ext rX)).mono ?_; rintro e w5 ⟨t5, rfl, o5, hx5⟩; have sO := res3 (rO.ext hx5); have sR := res3 (rR.ext hx5); have zz5 := hx5.size; (try simp at zz5)))
        have s1 := r1.ext hx5
        have s2 := r2.ext hx5
        have s3 := r3.ext hx5
        have sX := rX.trans hx5
        have sOb := ((rO.ext hx5).set_ 1 (.slice t5.A t5.n t5.c))
        have hRf := ((((rR.ext hx5).off g 1 (by omega) (.slice t5.A t5.n t5.c)).set_ 0 (.slice (some ⟨g1, 0, none⟩) m1 d1)).set_ 1 (.slice t5.A t5.n t5.c)).set_ 2 (.slice t3.A t3.n t3.c)
        obtain ⟨f0, f1, f2⟩ := hRf.c3
        have hgk : ∀ k', Value.ownBlock (.slice (some ⟨g1, 0, none⟩) m1 d1) = some k' → k' ≠ g := fun k' h1 => ha k' (.inl h1)
        have o5' := Own.mono (lo' := wc.heap.size) o5 (by first | omega | (simp; done) | (simp; omega))
        have l5 := o5'.lt
        have e5 := o5'.rd.1
        have e3 := o3.rd.1
        have sum1 := htot
        refine bodyPost_ret (v := .agg #[.slice (⟨⟨some ⟨g1, 0, none⟩, m1, d1⟩, t5, t3⟩ : S3).x.A (⟨⟨some ⟨g1, 0, none⟩, m1, d1⟩, t5, t3⟩ : S3).x.n (⟨⟨some ⟨g1, 0, none⟩, m1, d1⟩, t5, t3⟩ : S3).x.c, .slice (⟨⟨some ⟨g1, 0, none⟩, m1, d1⟩, t5, t3⟩ : S3).y.A (⟨⟨some ⟨g1, 0, none⟩, m1, d1⟩, t5, t3⟩ : S3).y.n (⟨⟨some ⟨g1, 0, none⟩, m1, d1⟩, t5, t3⟩ : S3).y.c, .slice (⟨⟨some ⟨g1, 0, none⟩, m1, d1⟩, t5, t3⟩ : S3).z.A (⟨⟨some ⟨g1, 0, none⟩, m1, d1⟩, t5, t3⟩ : S3).z.n (⟨⟨some ⟨g1, 0, none⟩, m1, d1⟩, t5, t3⟩ : S3).z.c]) (by simp [results, Tryz.results106, go_sem, f0, f1, f2]) rfl ⟨⟨⟨some ⟨g1, 0, none⟩, m1, d1⟩, t5, t3⟩, rfl, ?ownP, ?extP⟩
        case extP => exact (((sX.off g 1 (by omega) _).off _ 0 (by omega) _).off _ 1 (by omega) _).off _ 2 (by omega) _
        case ownP =>
          refine ⟨?_, ?_, ?_, ?_, ?_, ?_, ?_⟩
          · have := ((((s1.away (g := g) (fun e => hgk g e rfl) 1 (.slice t5.A t5.n t5.c)).off (w.heap.size + 1) 0 (by omega) (.slice (some ⟨g1, 0, none⟩) m1 d1)).off (w.heap.size + 1) 1 (by omega) (.slice t5.A t5.n t5.c)).off (w.heap.size + 1) 2 (by omega) (.slice t3.A t3.n t3.c)).mono (lo' := w.heap.size) (by omega)
            rw [hset.out] at this
            exact this
          · exact ((((o5'.off g 1 (by omega) (.slice t5.A t5.n t5.c)).off (w.heap.size + 1) 0 (by omega) (.slice (some ⟨g1, 0, none⟩) m1 d1)).off (w.heap.size + 1) 1 (by omega) (.slice t5.A t5.n t5.c)).off (w.heap.size + 1) 2 (by omega) (.slice t3.A t3.n t3.c)).mono (lo' := w.heap.size) (by omega)
          · have := ((((s3.away (g := g) (fun e => ha g (.inr (.inr e)) rfl) 1 (.slice t5.A t5.n t5.c)).off (w.heap.size + 1) 0 (by omega) (.slice (some ⟨g1, 0, none⟩) m1 d1)).off (w.heap.size + 1) 1 (by omega) (.slice t5.A t5.n t5.c)).off (w.heap.size + 1) 2 (by omega) (.slice t3.A t3.n t3.c)).mono (lo' := w.heap.size) (by omega)
            unfold empL
            rw [hyk.out]
            exact this
          · have h1 := hly.out
            have h2 := hlz.out
            have h3 := hlen.out
            rw [List.length_tail] at e5
            rw [List.length_append, List.length_singleton] at e3
            simp only
            omega
          · exact fun k' h1 h2 => by have a1 := ownBlock_eq h1; have a2 := l5 k' h2; omega
          · exact a13
          · exact fun k' h1 h2 => by have a1 := (o3.lt k' h2).2; have a2 := l5 k' h1; omega
      · have hrT : Rd w (some ⟨bw, offw + 1, none⟩) (n2 - 1) l.y.tail := by
          have h := Rd.drop1 ry (by omega)
          exact h
        have hc20 : 1 ≤ c2 := by have := cy.1; simp only at this; omega
        go_wp2_with (first | (go_at_call 62; refine (spec.l01Own_any ⟨some ⟨_, _, none⟩, _, _⟩ l.y.tail _ (hrT.ext rX)).mono ?_; rintro e w5 ⟨t5, rfl, o5, hx5⟩; have sO := res3 (rO.ext hx5); have sR := res3 (rR.ext hx5); have zz5 := hx5.size; (try simp at zz5)))
        have s1 := r1.ext hx5
        have s2 := r2.ext hx5
        have s3 := r3.ext hx5
        have sX := rX.trans hx5
        have sOb := ((rO.ext hx5).set_ 1 (.slice t5.A t5.n t5.c))
        have hRf := ((((rR.ext hx5).off g 1 (by omega) (.slice t5.A t5.n t5.c)).set_ 0 (.slice (some ⟨g1, 0, none⟩) m1 d1)).set_ 1 (.slice t5.A t5.n t5.c)).set_ 2 (.slice t3.A t3.n t3.c)
        obtain ⟨f0, f1, f2⟩ := hRf.c3
        have hgk : ∀ k', Value.ownBlock (.slice (some ⟨g1, 0, none⟩) m1 d1) = some k' → k' ≠ g := fun k' h1 => ha k' (.inl h1)
        have o5' := Own.mono (lo' := wc.heap.size) o5 (by first | omega | (simp; done) | (simp; omega))
        have l5 := o5'.lt
        have e5 := o5'.rd.1
        have e3 := o3.rd.1
        have sum1 := htot
        refine bodyPost_ret (v := .agg #[.slice (⟨⟨some ⟨g1, 0, none⟩, m1, d1⟩, t5, t3⟩ : S3).x.A (⟨⟨some ⟨g1, 0, none⟩, m1, d1⟩, t5, t3⟩ : S3).x.n (⟨⟨some ⟨g1, 0, none⟩, m1, d1⟩, t5, t3⟩ : S3).x.c, .slice (⟨⟨some ⟨g1, 0, none⟩, m1, d1⟩, t5, t3⟩ : S3).y.A (⟨⟨some ⟨g1, 0, none⟩, m1, d1⟩, t5, t3⟩ : S3).y.n (⟨⟨some ⟨g1, 0, none⟩, m1, d1⟩, t5, t3⟩ : S3).y.c, .slice (⟨⟨some ⟨g1, 0, none⟩, m1, d1⟩, t5, t3⟩ : S3).z.A (⟨⟨some ⟨g1, 0, none⟩, m1, d1⟩, t5, t3⟩ : S3).z.n (⟨⟨some ⟨g1, 0, none⟩, m1, d1⟩, t5, t3⟩ : S3).z.c]) (by simp [results, Tryz.results106, go_sem, f0, f1, f2]) rfl ⟨⟨⟨some ⟨g1, 0, none⟩, m1, d1⟩, t5, t3⟩, rfl, ?ownQ, ?extQ⟩
        case extQ => exact (((sX.off g 1 (by omega) _).off _ 0 (by omega) _).off _ 1 (by omega) _).off _ 2 (by omega) _
        case ownQ =>
          refine ⟨?_, ?_, ?_, ?_, ?_, ?_, ?_⟩
          · have := ((((s1.away (g := g) (fun e => hgk g e rfl) 1 (.slice t5.A t5.n t5.c)).off (w.heap.size + 1) 0 (by omega) (.slice (some ⟨g1, 0, none⟩) m1 d1)).off (w.heap.size + 1) 1 (by omega) (.slice t5.A t5.n t5.c)).off (w.heap.size + 1) 2 (by omega) (.slice t3.A t3.n t3.c)).mono (lo' := w.heap.size) (by omega)
            rw [hset.out] at this
            exact this
          · exact ((((o5'.off g 1 (by omega) (.slice t5.A t5.n t5.c)).off (w.heap.size + 1) 0 (by omega) (.slice (some ⟨g1, 0, none⟩) m1 d1)).off (w.heap.size + 1) 1 (by omega) (.slice t5.A t5.n t5.c)).off (w.heap.size + 1) 2 (by omega) (.slice t3.A t3.n t3.c)).mono (lo' := w.heap.size) (by omega)
          · have := ((((s3.away (g := g) (fun e => ha g (.inr (.inr e)) rfl) 1 (.slice t5.A t5.n t5.c)).off (w.heap.size + 1) 0 (by omega) (.slice (some ⟨g1, 0, none⟩) m1 d1)).off (w.heap.size + 1) 1 (by omega) (.slice t5.A t5.n t5.c)).off (w.heap.size + 1) 2 (by omega) (.slice t3.A t3.n t3.c)).mono (lo' := w.heap.size) (by omega)
            unfold empL
            rw [hyk.out]
            exact this
          · have h1 := hly.out
            have h2 := hlz.out
            have h3 := hlen.out
            rw [List.length_tail] at e5
            rw [List.length_append, List.length_singleton] at e3
            simp only
            omega
          · exact fun k' h1 h2 => by have a1 := ownBlock_eq h1; have a2 := l5 k' h2; omega
          · exact a13
          · exact fun k' h1 h2 => by have a1 := (o3.lt k' h2).2; have a2 := l5 k' h1; omega
end Go.Proofs.YtofglgfjlbehmaaGreat.mem
