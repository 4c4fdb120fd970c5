/-
  Contracts of both programs' functions that make a panel anew: a copy, a panel with a seat emptied.
-/
import Derived.Test.YtofglgfjlbehmaaGreatMg9
import Derived.Deep.DeepCutAuto
import Derived.Deep.RegionLaw
namespace Go.Proofs.YtofglgfjlbehmaaGreat.mem
open Go.ChangeShapes Go.WideShapes Go.ChangeAt Go.RowKit

set_option maxHeartbeats 8000000 in
theorem impl.empty_any (p : S3) (l : L3) (k : Nat) (w : World) (hr : Rd3 w p l) (hk : k < p.x.n) (hsm : p.x.n + (p.y.n + p.z.n) ≤ 100000) :
    Calls Tryz.prog 104 #[.agg #[.slice p.x.A p.x.n p.x.c, .slice p.y.A p.y.n p.y.c, .slice p.z.A p.z.n p.z.c], .int .i64 k] w fun e w' => ∃ p' : S3, e = .returned (.agg #[.slice p'.x.A p'.x.n p'.x.c, .slice p'.y.A p'.y.n p'.y.c, .slice p'.z.A p'.z.n p'.z.c]) ∧ Own3 w' w.heap.size p' (empL l k) ∧ Ext w w' := by
  have hr0 := hr
  obtain ⟨⟨A1, n1, c1⟩, ⟨A2, n2, c2⟩, ⟨A3, n3, c3⟩⟩ := p
  obtain ⟨rx, ry, rz, hs, cx, cy, cz⟩ := hr
  simp only at rx ry rz hs hk hsm ⊢
  obtain ⟨b, off, y, rfl, hbl, hc1, hy⟩ := rx.el hk
  have hX0 := ((Ext.refl w).alloc (.cells #[.slice (some ⟨b, off, none⟩) n1 c1, .slice A2 n2 c2, .slice A3 n3 c3] 40)).alloc (.cells #[.slice none 0 0, .slice none 0 0, .slice none 0 0] 40)
  have hB := (Blk.new w 40 (#[.slice (some ⟨b, off, none⟩) n1 c1, .slice A2 n2 c2, .slice A3 n3 c3])).alloc (.cells #[.slice none 0 0, .slice none 0 0, .slice none 0 0] 40)
  have hR := Blk.new (w.alloc (.cells #[.slice (some ⟨b, off, none⟩) n1 c1, .slice A2 n2 c2, .slice A3 n3 c3] 40)) 40 (#[.slice none 0 0, .slice none 0 0, .slice none 0 0])
  rw [World.size_alloc] at hR
  have hi0 : (0 : Int) ≤ (k : Int) := by omega
  have hi1 : (k : Int) < (n1 : Int) := by omega
  have hlx := hide rx.1
  have hly := hide ry.1
  have hlz := hide rz.1
  obtain ⟨q0, q1, q2⟩ := hB.c3
  go_enter Tryz.func104, Tryz.ntmps104
  go_wp2_with fail
  refine (impl.copyPanel_any ⟨⟨some ⟨b, off, none⟩, n1, c1⟩, ⟨A2, n2, c2⟩, ⟨A3, n3, c3⟩⟩ l _ (hr0.ext hX0)).mono ?_
  rintro e w1 ⟨⟨⟨T1, m1, d1⟩, t2, t3⟩, rfl, h3, hx1⟩
  clear q0 q1 q2
  have hz1 := hx1.size
  simp at hz1
  have h3' := Own3.mono (lo' := w.heap.size + 1 + 1) h3 (by simp)
  obtain ⟨o1, o2, o3, htot, a12, a13, a23⟩ := h3'
  simp only at o1 o2 o3 htot a12 a13 a23
  have hX1 := (hX0.trans hx1).alloc (.cells #[.slice T1 m1 d1, .slice t2.A t2.n t2.c, .slice t3.A t3.n t3.c] 40)
  have hB1 := (hB.ext hx1).alloc (.cells #[.slice T1 m1 d1, .slice t2.A t2.n t2.c, .slice t3.A t3.n t3.c] 40)
  have hR1 := (hR.ext hx1).alloc (.cells #[.slice T1 m1 d1, .slice t2.A t2.n t2.c, .slice t3.A t3.n t3.c] 40)
  have hO1 := Blk.new w1 40 (#[.slice T1 m1 d1, .slice t2.A t2.n t2.c, .slice t3.A t3.n t3.c])
  have g1r := o1.lt
  have g2r := o2.lt
  have g3r := o3.lt
  obtain ⟨q0, q1, q2⟩ := hB1.c3
  obtain ⟨v0, v1, v2⟩ := hO1.c3
  have hcy := (hX1.cell (p := ⟨b, off + k, none⟩) hbl).trans hc1
  have hyk := hide (show l.x.getD k 0 = y by rw [List.getD_eq_getElem?_getD, hy.out]; rfl)
  have hlz1 := hide (show l.z.length + 1 ≤ 16777216 by have := hlz.out; omega)
  have e1 : ¬ b = w1.heap.size := by omega
  have e2 : ¬ w1.heap.size = b := by omega
  have e3 : ¬ w.heap.size = w1.heap.size := by omega
  have e4 : ¬ w1.heap.size = w.heap.size := by omega
  go_upto_region 2 with fail
  go_cut [5] (fun s5 wx => EmpPost w #[.slice (some ⟨b, off, none⟩) n1 c1, .slice A2 n2 c2, .slice A3 n3 c3] ⟨l.x, l.y, l.z ++ [y]⟩ s5 wx)
  case first =>
    go_region_law (refine step_app _ (by rfl) (.tmp 9) (.tmp 15) (by rfl) (w.heap.size + 1 + 1) _ _ (by rfl) (by first | exact ((o3.alloc _).alloc _).drew | exact (o3.alloc _).alloc _ | exact ((o3.alloc _).drew).alloc _ | fail) _ _ _ [y] (by rfl) (Rd.of_cell _ _ _ (by first | exact (blk_at1 _ _ _ _).drew.get 0 _ rfl | exact (blk_at1 _ _ _ _).get 0 _ rfl | exact (Blk.new _ _ _).get 0 _ rfl | fail)) (by have := hlz1.out; omega) (by first | (simp; omega) | simp) ?_; intro t4 w4 o4 hg hb4; have hO4 := Blk.fr (by first | exact (hO1.alloc (.cells #[.int .i64 y] 2)).drew | exact hO1.alloc (.cells #[.int .i64 y] 2) | fail) (Fr.of_grown hg) (fun e => by have := g3r _ e; omega); have sO4 := res3 hO4)
    all_goals
      go_wp2_with fail
      go_meet
      have hlen4 : m1 + (t2.n + t4.n) ≤ 2097152 := by
        have e1 : m1 = l.x.length := o1.rd.1
        have e2 := o2.rd.1
        have e4 := o4.rd.1
        rw [List.length_append, List.length_singleton] at e4
        have h1 := hlx.out
        have h2 := hly.out
        have h3 := hlz.out
        omega
      have hd4 : ∀ k, Value.ownBlock (.slice t4.A t4.n t4.c) = some k → (Value.ownBlock (.slice t3.A t3.n t3.c) = some k ∨ w1.heap.size < k) := fun k hk => Or.elim hb4 (fun h => Or.inl (h.symm.trans hk)) (fun h => Or.inr (by rw [h] at hk; injection hk with hk; (try simp at hk); omega))
      have A14 : apart (.slice T1 m1 d1) (.slice t4.A t4.n t4.c) := fun k h1 h2 => by
        rcases hd4 k h2 with h | h
        · exact a13 k h1 h
        · have := g1r k h1; omega
      have A24 : apart (.slice t2.A t2.n t2.c) (.slice t4.A t4.n t4.c) := fun k h1 h2 => by
        rcases hd4 k h2 with h | h
        · exact a23 k h1 h
        · have := g2r k h1; omega
      have O1 : Own w4 (w.heap.size + 1 + 1) (.slice T1 m1 d1) l.x := Own.fr (by first | exact ((o1.alloc _).alloc _).drew | exact (o1.alloc _).alloc _ | exact ((o1.alloc _).drew).alloc _ | fail) (Fr.of_grown hg) (fun k h1 h2 => a13 k h1 h2)
      have O2 : Own w4 (w.heap.size + 1 + 1) (.slice t2.A t2.n t2.c) l.y := Own.fr (by first | exact ((o2.alloc _).alloc _).drew | exact (o2.alloc _).alloc _ | exact ((o2.alloc _).drew).alloc _ | fail) (Fr.of_grown hg) (fun k h1 h2 => a23 k h1 h2)
      have X4 : Ext w w4 := Ext.grow (by first | exact (hX1.alloc _).drew | exact hX1.alloc _ | exact hX1.drew.alloc _ | fail) hg (fun k hk => by have := g3r k hk; omega)
      have B4 := Blk.fr (by first | exact (hB1.alloc (.cells #[.int .i64 y] 2)).drew | exact hB1.alloc (.cells #[.int .i64 y] 2) | fail) (Fr.of_grown hg) (fun e => by have := g3r _ e; omega)
      have R4 := Blk.fr (by first | exact (hR1.alloc (.cells #[.int .i64 y] 2)).drew | exact hR1.alloc (.cells #[.int .i64 y] 2) | fail) (Fr.of_grown hg) (fun e => by have := g3r _ e; omega)
      exact EmpPost.three (t := ⟨⟨T1, m1, d1⟩, t2, t4⟩) X4 hO4 (by omega) ⟨O1, O2, o4, hlen4, a12, A14, A24⟩ B4 R4 (fun k hk e => by
        subst e
        rcases hk with h | h | h
        · have := g1r _ h; omega
        · have := g2r _ h; omega
        · rcases hd4 _ h with q | q
          · have := g3r _ q; omega
          · omega)
  case rest =>
    clear q0 q1 q2 v0 v1 v2 o1 o2 o3 htot a12 a13 a23 g1r g2r g3r hO1 hR1 hB1 hX1 h3 hB hR hcy hyk
    obtain ⟨g, ⟨⟨T1, m1, d1⟩, t2, t3⟩, rfl, hO, h3, hX, hB, hR, hg, ha⟩ := hcut
    obtain ⟨o1, o2, o3, htot, a12, a13, a23⟩ := h3
    simp only at o1 o2 o3 htot a12 a13 a23 hO
    have hlen := hide (show m1 = n1 by have h1 : m1 = l.x.length := o1.rd.1; have := hlx.out; omega)
    have hkm : k < m1 := by have := hlen.out; omega
    obtain ⟨g1, rfl, hg1, hg1s, ⟨u1, hu1⟩, hf1, hput⟩ := o1.put hkm
    have n1g : g1 ≠ g := ha g1 (.inl rfl)
    have nb2 : Value.ownBlock (.slice t2.A t2.n t2.c) ≠ some g1 := a12 g1 rfl
    have nb3 : Value.ownBlock (.slice t3.A t3.n t3.c) ≠ some g1 := a13 g1 rfl
    have hyk := hide (show l.x.getD k 0 = y by rw [List.getD_eq_getElem?_getD, hy.out]; rfl)
    have p1 := hput 0
    have p2 := o2.away nb2 k (.int .i64 0)
    have p3 := o3.away nb3 k (.int .i64 0)
    have pX := hX.off g1 k (by omega) (.int .i64 0)
    have pB := hB.off g1 k (by omega) (.int .i64 0)
    have pR := hR.off g1 k (by omega) (.int .i64 0)
    have pO := hO.off g1 k (by omega) (.int .i64 0)
    obtain ⟨bB0, bB1, bB2⟩ := hB.c3
    obtain ⟨bO0, bO1, bO2⟩ := hO.c3
    have hkm0 : (k : Int) < (m1 : Int) := by omega
    by_cases hn2 : n2 = 0
    · subst hn2
      have hy0 : l.y = [] := List.eq_nil_of_length_eq_zero hly.out.symm
      have pRr := res3 pR
      obtain ⟨q0, q1, q2⟩ := pO.c3
      obtain ⟨v0, v1, v2⟩ := pB.c3
      have hRf := ((pR.set_ 0 (.slice (some ⟨g1, 0, none⟩) m1 d1)).set_ 1 (.slice t2.A t2.n t2.c)).set_ 2 (.slice t3.A t3.n t3.c)
      obtain ⟨f0, f1, f2⟩ := hRf.c3
      go_wp2
      refine bodyPost_ret (v := .agg #[.slice (⟨⟨some ⟨g1, 0, none⟩, m1, d1⟩, t2, t3⟩ : S3).x.A (⟨⟨some ⟨g1, 0, none⟩, m1, d1⟩, t2, t3⟩ : S3).x.n (⟨⟨some ⟨g1, 0, none⟩, m1, d1⟩, t2, t3⟩ : S3).x.c, .slice (⟨⟨some ⟨g1, 0, none⟩, m1, d1⟩, t2, t3⟩ : S3).y.A (⟨⟨some ⟨g1, 0, none⟩, m1, d1⟩, t2, t3⟩ : S3).y.n (⟨⟨some ⟨g1, 0, none⟩, m1, d1⟩, t2, t3⟩ : S3).y.c, .slice (⟨⟨some ⟨g1, 0, none⟩, m1, d1⟩, t2, t3⟩ : S3).z.A (⟨⟨some ⟨g1, 0, none⟩, m1, d1⟩, t2, t3⟩ : S3).z.n (⟨⟨some ⟨g1, 0, none⟩, m1, d1⟩, t2, t3⟩ : S3).z.c]) (by simp [results, Tryz.results104, go_sem, f0, f1, f2]) rfl ⟨⟨⟨some ⟨g1, 0, none⟩, m1, d1⟩, t2, t3⟩, rfl, ?own1, ?ext1⟩
      case ext1 => exact ((pX.off _ 0 (by omega) _).off _ 1 (by omega) _).off _ 2 (by omega) _
      case own1 =>
        refine ⟨?_, ?_, ?_, htot, a12, a13, a23⟩
        · have := (((p1.off (w.heap.size + 1) 0 (by omega) (.slice (some ⟨g1, 0, none⟩) m1 d1)).off (w.heap.size + 1) 1 (by omega) (.slice t2.A t2.n t2.c)).off (w.heap.size + 1) 2 (by omega) (.slice t3.A t3.n t3.c)).mono (lo' := w.heap.size) (by omega)
          unfold empL
          rw [hy0]
          exact this
        · have := (((p2.off (w.heap.size + 1) 0 (by omega) (.slice (some ⟨g1, 0, none⟩) m1 d1)).off (w.heap.size + 1) 1 (by omega) (.slice t2.A t2.n t2.c)).off (w.heap.size + 1) 2 (by omega) (.slice t3.A t3.n t3.c)).mono (lo' := w.heap.size) (by omega)
          unfold empL
          rw [hy0] at this ⊢
          exact this
        · have := (((p3.off (w.heap.size + 1) 0 (by omega) (.slice (some ⟨g1, 0, none⟩) m1 d1)).off (w.heap.size + 1) 1 (by omega) (.slice t2.A t2.n t2.c)).off (w.heap.size + 1) 2 (by omega) (.slice t3.A t3.n t3.c)).mono (lo' := w.heap.size) (by omega)
          unfold empL
          rw [hyk.out]
          exact this
    · obtain ⟨bw, offw, y0, hA2, hbw, hcw, hy0⟩ := ry.el (k := 0) (by omega)
      subst hA2
      rw [Nat.add_zero] at hcw
      have hn20 : 0 < n2 := by omega
      have hg1w : ¬ g1 = w.heap.size := by omega
      have hg1b : ¬ g1 = bw := by omega
      have hn0 : ((n2 : Int) == 0) = false := by have : ¬ (n2 : Int) = 0 := by omega
                                                 simpa using this
      have cw := (hX.cell (p := ⟨bw, offw, none⟩) hbw).trans hcw
      have cw1 := (pX.cell (p := ⟨bw, offw, none⟩) hbw).trans hcw
      obtain ⟨q0, q1, q2⟩ := pO.c3
      obtain ⟨v0, v1, v2⟩ := pB.c3
      obtain ⟨g1', eg, _, _, ⟨u2, hu2⟩, hf2, hput2⟩ := p1.put hkm
      injection eg with eg
      injection eg with eg
      subst eg
      clear q0 q1 q2 v0 v1 v2
      have hgb : ¬ g = bw := by omega
      have hgw0 : ¬ g = w.heap.size := by omega
      have hgw1 : ¬ g = w.heap.size + 1 := by omega
      have hge := hO.lt
      have hrs := hX.size
      have rX := pX.drew
      obtain ⟨q0, q1, q2⟩ := pO.c3
      obtain ⟨v0, v1, v2⟩ := pB.c3
      have hset := hide (show (l.x.set k 0).set k y0 = l.x.set k (l.y.headD 0) by
        rw [List.set_set]
        congr 1
        have h := hy0.out
        cases hl : l.y
        · rw [hl] at h; cases h
        · rw [hl] at h; injection h with h; exact h.symm)
      rcases (show c2 = 1 ∨ ¬ c2 = 1 by omega) with hc2 | hc2
      · subst hc2
        obtain rfl : n2 = 1 := by have := cy.1; simp only at this; omega
        have htl : l.y.tail = [] := List.eq_nil_of_length_eq_zero (by have := hly.out; rw [List.length_tail]; omega)
        have hrT : Rd w (some ⟨bw, offw, none⟩) 0 l.y.tail := by rw [htl]; exact Rd.nil_ _ _
        clear htl
        go_wp2_with fail
        go_region_held3 (fun w' => w'.cell? ⟨g, 0, none⟩ = some (.slice (some ⟨g1, 0, none⟩) m1 d1) ∧ w'.cell? ⟨w.heap.size, 1, none⟩ = some (.slice (some ⟨bw, offw, none⟩) 1 1) ∧ w'.cell? ⟨bw, offw, none⟩ = some (.int .i64 y0)) (first | with_reducible exact kk5.2 | (go_keep; done) | exact ⟨(((pO.drew.ext hx5).off g1 k (by omega) (.int .i64 y0)).set_ 1 (.slice t5.A t5.n t5.c)).get 0 _ rfl, (((pB.drew.ext hx5).off g1 k (by omega) (.int .i64 y0)).off g 1 (by omega) (.slice t5.A t5.n t5.c)).c3.2.1, ((((rX.trans hx5).off g1 k (by omega) (.int .i64 y0)).off g 1 (by omega) (.slice t5.A t5.n t5.c)).cell (p := ⟨bw, offw, none⟩) hbw).trans hcw⟩ | exact ⟨(((pO.drew.ext hx5).set_ 1 (.slice t5.A t5.n t5.c)).off g1 k (by omega) (.int .i64 y0)).get 0 _ rfl, (((pB.drew.ext hx5).off g 1 (by omega) (.slice t5.A t5.n t5.c)).off g1 k (by omega) (.int .i64 y0)).c3.2.1, ((((rX.trans hx5).off g 1 (by omega) (.slice t5.A t5.n t5.c)).off g1 k (by omega) (.int .i64 y0)).cell (p := ⟨bw, offw, none⟩) hbw).trans hcw⟩ | go_keep) (first | (go_at_call 95; refine (impl.clone_any ⟨some ⟨_, _, none⟩, _, _⟩ l.y.tail _ (hrT.ext rX)).mono ?_; rintro e w5 ⟨t5, rfl, o5, hx5⟩; have kk5 := And.intro trivial (show w5.cell? ⟨g, 0, none⟩ = some (.slice (some ⟨g1, 0, none⟩) m1 d1) ∧ w5.cell? ⟨w.heap.size, 1, none⟩ = some (.slice (some ⟨bw, offw, none⟩) 1 1) ∧ w5.cell? ⟨bw, offw, none⟩ = some (.int .i64 y0) from ⟨(pO.drew.ext hx5).c3.1, (pB.drew.ext hx5).c3.2.1, ((rX.trans hx5).cell (p := ⟨bw, offw, none⟩) hbw).trans hcw⟩); have s1 := p1.drew.ext hx5; have sO := res3 (pO.drew.ext hx5); have sR := res3 (pR.drew.ext hx5); obtain ⟨gq, eg, _, _, ⟨u5, hu5⟩, hf5, hput5⟩ := s1.put hkm; injection eg with eg; injection eg with eg; subst eg; have zz5 := hx5.size; (try simp at zz5)))
        all_goals
          have s2 := p2.drew.ext hx5
          have s3 := p3.drew.ext hx5
          have sX := rX.trans hx5
          have hOf := (pO.drew.ext hx5)
          have hRf0 := (pR.drew.ext hx5)
          have o5' := Own.mono (lo' := wc.heap.size) o5 (by first | omega | (simp; done) | (simp; omega))
          have l5 := o5'.lt
          have hRf := ((((hRf0.off g1 k (by omega) (.int .i64 y0)).off g 1 (by omega) (.slice t5.A t5.n t5.c)).set_ 0 (.slice (some ⟨g1, 0, none⟩) m1 d1)).set_ 1 (.slice t5.A t5.n t5.c)).set_ 2 (.slice t3.A t3.n t3.c)
          obtain ⟨f0, f1, f2⟩ := hRf.c3
          go_wp2
          have e5 := o5'.rd.1
          have e3 := o3.rd.1
          refine bodyPost_ret (v := .agg #[.slice (⟨⟨some ⟨g1, 0, none⟩, m1, d1⟩, t5, t3⟩ : S3).x.A (⟨⟨some ⟨g1, 0, none⟩, m1, d1⟩, t5, t3⟩ : S3).x.n (⟨⟨some ⟨g1, 0, none⟩, m1, d1⟩, t5, t3⟩ : S3).x.c, .slice (⟨⟨some ⟨g1, 0, none⟩, m1, d1⟩, t5, t3⟩ : S3).y.A (⟨⟨some ⟨g1, 0, none⟩, m1, d1⟩, t5, t3⟩ : S3).y.n (⟨⟨some ⟨g1, 0, none⟩, m1, d1⟩, t5, t3⟩ : S3).y.c, .slice (⟨⟨some ⟨g1, 0, none⟩, m1, d1⟩, t5, t3⟩ : S3).z.A (⟨⟨some ⟨g1, 0, none⟩, m1, d1⟩, t5, t3⟩ : S3).z.n (⟨⟨some ⟨g1, 0, none⟩, m1, d1⟩, t5, t3⟩ : S3).z.c]) (by simp [results, Tryz.results104, go_sem, f0, f1, f2]) rfl ⟨⟨⟨some ⟨g1, 0, none⟩, m1, d1⟩, t5, t3⟩, rfl, ?ownP, ?extP⟩
          case extP => exact ((((sX.off g1 k (by omega) _).off g 1 (by omega) _).off _ 0 (by omega) _).off _ 1 (by omega) _).off _ 2 (by omega) _
          case ownP =>
            refine ⟨?_, ?_, ?_, ?_, ?_, ?_, ?_⟩
            · have := (((((hput5 y0).away (g := g) (fun e => ha g (.inl e) rfl) 1 (.slice t5.A t5.n t5.c)).off (w.heap.size + 1) 0 (by omega) (.slice (some ⟨g1, 0, none⟩) m1 d1)).off (w.heap.size + 1) 1 (by omega) (.slice t5.A t5.n t5.c)).off (w.heap.size + 1) 2 (by omega) (.slice t3.A t3.n t3.c)).mono (lo' := w.heap.size) (by omega)
              rw [hset.out] at this
              exact this
            · exact (((((o5'.off g1 k (by omega) (.int .i64 y0)).off g 1 (by omega) (.slice t5.A t5.n t5.c)).off (w.heap.size + 1) 0 (by omega) (.slice (some ⟨g1, 0, none⟩) m1 d1)).off (w.heap.size + 1) 1 (by omega) (.slice t5.A t5.n t5.c)).off (w.heap.size + 1) 2 (by omega) (.slice t3.A t3.n t3.c)).mono (lo' := w.heap.size) (by omega)
            · have := (((((s3.away nb3 k (.int .i64 y0)).away (g := g) (fun e => ha g (.inr (.inr e)) rfl) 1 (.slice t5.A t5.n t5.c)).off (w.heap.size + 1) 0 (by omega) (.slice (some ⟨g1, 0, none⟩) m1 d1)).off (w.heap.size + 1) 1 (by omega) (.slice t5.A t5.n t5.c)).off (w.heap.size + 1) 2 (by omega) (.slice t3.A t3.n t3.c)).mono (lo' := w.heap.size) (by omega)
              unfold empL
              rw [hyk.out]
              exact this
            · have h1 := hly.out
              have h2 := hlz.out
              have h3 := hlen.out
              rw [List.length_tail] at e5
              rw [List.length_append, List.length_singleton] at e3
              simp only
              omega
            · exact fun k' h1 h2 => by have a1 := ownBlock_eq h1; have a2 := l5 k' h2; omega
            · exact a13
            · exact fun k' h1 h2 => by have a1 := (o3.lt k' h2).2; have a2 := l5 k' h1; omega
      · have hrT : Rd w (some ⟨bw, offw + 1, none⟩) (n2 - 1) l.y.tail := Rd.drop1 ry (by omega)
        have hc20 : 1 ≤ c2 := by have := cy.1; simp only at this; omega
        have hc21 : n2 ≤ c2 := by have := cy.1; simpa using this
        have hi2 : (1 : Int) ≤ (n2 : Int) := by omega
        have hi3 : (1 : Int) ≤ (c2 : Int) := by omega
        have hi4 : (n2 : Int) ≤ (c2 : Int) := by omega
        go_wp2_with fail
        go_region_held3 (fun w' => w'.cell? ⟨g, 0, none⟩ = some (.slice (some ⟨g1, 0, none⟩) m1 d1) ∧ w'.cell? ⟨w.heap.size, 1, none⟩ = some (.slice (some ⟨bw, offw, none⟩) n2 c2) ∧ w'.cell? ⟨bw, offw, none⟩ = some (.int .i64 y0)) (first | with_reducible exact kk5.2 | (go_keep; done) | exact ⟨(((pO.drew.ext hx5).off g1 k (by omega) (.int .i64 y0)).set_ 1 (.slice t5.A t5.n t5.c)).get 0 _ rfl, (((pB.drew.ext hx5).off g1 k (by omega) (.int .i64 y0)).off g 1 (by omega) (.slice t5.A t5.n t5.c)).c3.2.1, ((((rX.trans hx5).off g1 k (by omega) (.int .i64 y0)).off g 1 (by omega) (.slice t5.A t5.n t5.c)).cell (p := ⟨bw, offw, none⟩) hbw).trans hcw⟩ | exact ⟨(((pO.drew.ext hx5).set_ 1 (.slice t5.A t5.n t5.c)).off g1 k (by omega) (.int .i64 y0)).get 0 _ rfl, (((pB.drew.ext hx5).off g 1 (by omega) (.slice t5.A t5.n t5.c)).off g1 k (by omega) (.int .i64 y0)).c3.2.1, ((((rX.trans hx5).off g 1 (by omega) (.slice t5.A t5.n t5.c)).off g1 k (by omega) (.int .i64 y0)).cell (p := ⟨bw, offw, none⟩) hbw).trans hcw⟩ | go_keep) (first | (go_at_call 95; refine (impl.clone_any ⟨some ⟨_, _, none⟩, _, _⟩ l.y.tail _ (hrT.ext rX)).mono ?_; rintro e w5 ⟨t5, rfl, o5, hx5⟩; have kk5 := And.intro trivial (show w5.cell? ⟨g, 0, none⟩ = some (.slice (some ⟨g1, 0, none⟩) m1 d1) ∧ w5.cell? ⟨w.heap.size, 1, none⟩ = some (.slice (some ⟨bw, offw, none⟩) n2 c2) ∧ w5.cell? ⟨bw, offw, none⟩ = some (.int .i64 y0) from ⟨(pO.drew.ext hx5).c3.1, (pB.drew.ext hx5).c3.2.1, ((rX.trans hx5).cell (p := ⟨bw, offw, none⟩) hbw).trans hcw⟩); have s1 := p1.drew.ext hx5; have sO := res3 (pO.drew.ext hx5); have sR := res3 (pR.drew.ext hx5); obtain ⟨gq, eg, _, _, ⟨u5, hu5⟩, hf5, hput5⟩ := s1.put hkm; injection eg with eg; injection eg with eg; subst eg; have zz5 := hx5.size; (try simp at zz5)))
        all_goals
          have s2 := p2.drew.ext hx5
          have s3 := p3.drew.ext hx5
          have sX := rX.trans hx5
          have hOf := (pO.drew.ext hx5)
          have hRf0 := (pR.drew.ext hx5)
          have o5' := Own.mono (lo' := wc.heap.size) o5 (by first | omega | (simp; done) | (simp; omega))
          have l5 := o5'.lt
          have hRf := ((((hRf0.off g1 k (by omega) (.int .i64 y0)).off g 1 (by omega) (.slice t5.A t5.n t5.c)).set_ 0 (.slice (some ⟨g1, 0, none⟩) m1 d1)).set_ 1 (.slice t5.A t5.n t5.c)).set_ 2 (.slice t3.A t3.n t3.c)
          obtain ⟨f0, f1, f2⟩ := hRf.c3
          go_wp2
          have e5 := o5'.rd.1
          have e3 := o3.rd.1
          refine bodyPost_ret (v := .agg #[.slice (⟨⟨some ⟨g1, 0, none⟩, m1, d1⟩, t5, t3⟩ : S3).x.A (⟨⟨some ⟨g1, 0, none⟩, m1, d1⟩, t5, t3⟩ : S3).x.n (⟨⟨some ⟨g1, 0, none⟩, m1, d1⟩, t5, t3⟩ : S3).x.c, .slice (⟨⟨some ⟨g1, 0, none⟩, m1, d1⟩, t5, t3⟩ : S3).y.A (⟨⟨some ⟨g1, 0, none⟩, m1, d1⟩, t5, t3⟩ : S3).y.n (⟨⟨some ⟨g1, 0, none⟩, m1, d1⟩, t5, t3⟩ : S3).y.c, .slice (⟨⟨some ⟨g1, 0, none⟩, m1, d1⟩, t5, t3⟩ : S3).z.A (⟨⟨some ⟨g1, 0, none⟩, m1, d1⟩, t5, t3⟩ : S3).z.n (⟨⟨some ⟨g1, 0, none⟩, m1, d1⟩, t5, t3⟩ : S3).z.c]) (by simp [results, Tryz.results104, go_sem, f0, f1, f2]) rfl ⟨⟨⟨some ⟨g1, 0, none⟩, m1, d1⟩, t5, t3⟩, rfl, ?ownQ, ?extQ⟩
          case extQ => exact ((((sX.off g1 k (by omega) _).off g 1 (by omega) _).off _ 0 (by omega) _).off _ 1 (by omega) _).off _ 2 (by omega) _
          case ownQ =>
            refine ⟨?_, ?_, ?_, ?_, ?_, ?_, ?_⟩
            · have := (((((hput5 y0).away (g := g) (fun e => ha g (.inl e) rfl) 1 (.slice t5.A t5.n t5.c)).off (w.heap.size + 1) 0 (by omega) (.slice (some ⟨g1, 0, none⟩) m1 d1)).off (w.heap.size + 1) 1 (by omega) (.slice t5.A t5.n t5.c)).off (w.heap.size + 1) 2 (by omega) (.slice t3.A t3.n t3.c)).mono (lo' := w.heap.size) (by omega)
              rw [hset.out] at this
              exact this
            · exact (((((o5'.off g1 k (by omega) (.int .i64 y0)).off g 1 (by omega) (.slice t5.A t5.n t5.c)).off (w.heap.size + 1) 0 (by omega) (.slice (some ⟨g1, 0, none⟩) m1 d1)).off (w.heap.size + 1) 1 (by omega) (.slice t5.A t5.n t5.c)).off (w.heap.size + 1) 2 (by omega) (.slice t3.A t3.n t3.c)).mono (lo' := w.heap.size) (by omega)
            · have := (((((s3.away nb3 k (.int .i64 y0)).away (g := g) (fun e => ha g (.inr (.inr e)) rfl) 1 (.slice t5.A t5.n t5.c)).off (w.heap.size + 1) 0 (by omega) (.slice (some ⟨g1, 0, none⟩) m1 d1)).off (w.heap.size + 1) 1 (by omega) (.slice t5.A t5.n t5.c)).off (w.heap.size + 1) 2 (by omega) (.slice t3.A t3.n t3.c)).mono (lo' := w.heap.size) (by omega)
              unfold empL
              rw [hyk.out]
              exact this
            · have h1 := hly.out
              have h2 := hlz.out
              have h3 := hlen.out
              rw [List.length_tail] at e5
              rw [List.length_append, List.length_singleton] at e3
              simp only
              omega
            · exact fun k' h1 h2 => by have a1 := ownBlock_eq h1; have a2 := l5 k' h2; omega
            · exact a13
            · exact fun k' h1 h2 => by have a1 := (o3.lt k' h2).2; have a2 := l5 k' h1; omega
end Go.Proofs.YtofglgfjlbehmaaGreat.mem
