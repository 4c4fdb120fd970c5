/-
  Contracts of both programs' DropWaiting.
-/
import Derived.Test.YtkfjphjmffbpiaaEmpty
import Derived.Test.YtkfjphjmffbpiaaReg
namespace Go.Proofs.Ytkfjphjmffbpiaa.mem
open Go.ChangeShapes Go.WideShapes Go.ChangeAt Go.RowKit

def dwC (l : L3) (x : Int) : Int := if okP l = true then (if hasB l.y x = true then 0 else 4) else 1
def dwV (l : L3) (x : Int) : L3 := if dwC l x = 0 then ⟨l.x, kp [x] l.y, l.z ++ [x]⟩ else ⟨[], [], []⟩
theorem dwV_no {l : L3} {x c : Int} (h : dwC l x = c) (hc : c ≠ 0) : dwV l x = ⟨[], [], []⟩ := by
  unfold dwV
  rw [h, if_neg hc]
theorem dwV_yes {l : L3} {x : Int} (h : dwC l x = 0) : dwV l x = ⟨l.x, kp [x] l.y, l.z ++ [x]⟩ := by
  unfold dwV
  rw [if_pos h]
theorem kp_one {xs : List Int} {x : Int} (h : xs.Nodup) : kp [x] xs = xs.take (xs.idxOf x) ++ xs.drop (xs.idxOf x + 1) := by
  rw [← List.eraseIdx_eq_take_drop_succ, ← List.erase_eq_eraseIdx_of_idxOf rfl, h.erase_eq_filter]
  unfold kp hasB
  congr 1
  funext y
  by_cases e : y = x
  · subst e; simp
  · simp [e]
theorem Own.lift {w : World} {lo lo' : Nat} {v : Value} {xs : List Int} (h : Own w lo v xs) (hl : ∀ k, v.ownBlock = some k → lo' ≤ k) : Own w lo' v xs := by
  refine ⟨h.1, h.2.1, ?_⟩
  rcases h.2.2 with hn | ⟨g, cap, cur, e, hb, rest⟩
  · exact .inl hn
  · exact .inr ⟨g, cap, cur, e, hl g (by rw [e]; rfl), rest⟩
theorem okP_y {l : L3} (h : okP l = true) : l.y.Nodup := by
  have h1 := (okP_iff.1 h).2.2.1.2
  unfold allP at h1
  exact (List.nodup_append.1 (List.nodup_append.1 h1).2.1).1
set_option maxRecDepth 20000 in
set_option maxHeartbeats 8000000 in
theorem impl.DropWaiting_any (p : S3) (l : L3) (x : Int) (w : World) (hr : Rd3 w p l) :
    Calls Try.prog 24 #[.agg #[.slice p.x.A p.x.n p.x.c, .slice p.y.A p.y.n p.y.c, .slice p.z.A p.z.n p.z.c], .int .i64 x] w fun e w' => ∃ t : S3, e = .returned (.tuple #[.agg #[.slice t.x.A t.x.n t.x.c, .slice t.y.A t.y.n t.y.c, .slice t.z.A t.z.n t.z.c], .int .i64 (dwC l x)]) ∧ Own3 w' w.heap.size t (dwV l x) ∧ Ext w w' := by
  have hr0 := hr
  obtain ⟨⟨A1, n1, c1⟩, ⟨A2, n2, c2⟩, ⟨A3, n3, c3⟩⟩ := p
  have hX0 := ((Ext.refl w).alloc (.cells #[.slice A1 n1 c1, .slice A2 n2 c2, .slice A3 n3 c3] 38)).alloc (.cells #[.slice none 0 0, .slice none 0 0, .slice none 0 0] 38)
  have hB0 := (Blk.new w 38 (#[.slice A1 n1 c1, .slice A2 n2 c2, .slice A3 n3 c3])).alloc (.cells #[.slice none 0 0, .slice none 0 0, .slice none 0 0] 38)
  have hR0 := Blk.new (w.alloc (.cells #[.slice A1 n1 c1, .slice A2 n2 c2, .slice A3 n3 c3] 38)) 38 (#[.slice none 0 0, .slice none 0 0, .slice none 0 0])
  rw [World.size_alloc] at hR0
  obtain ⟨q0, q1, q2⟩ := hB0.c3
  go_enter Try.func24, Try.ntmps24
  go_wp2_with fail
  refine (impl.IsPanel_any ⟨⟨A1, n1, c1⟩, ⟨A2, n2, c2⟩, ⟨A3, n3, c3⟩⟩ l _ (hr.ext hX0)).mono ?_
  rintro e w1 ⟨rfl, hx1⟩
  clear q0 q1 q2
  have hX1 := hX0.trans hx1
  have hB1 := hB0.ext hx1
  have hR1 := hR0.ext hx1
  have hz1 : w.heap.size + 1 + 1 ≤ w1.heap.size := by have := hx1.size; simpa using this
  obtain ⟨q0, q1, q2⟩ := hB1.c3
  obtain ⟨r0, r1, r2, r3, r4, r5⟩ := res3 hR1
  have hRn := ((hR1.set_ 0 (.slice none 0 0)).set_ 1 (.slice none 0 0)).set_ 2 (.slice none 0 0)
  have m0 := hRn.get 0 _ rfl
  have m1 := hRn.get 1 _ rfl
  have m2 := hRn.get 2 _ rfl
  have hXn := ((hX1.off (w.heap.size + 1) 0 (by omega) (.slice none 0 0)).off (w.heap.size + 1) 1 (by omega) (.slice none 0 0)).off (w.heap.size + 1) 2 (by omega) (.slice none 0 0)
  obtain ⟨rx, ry, rz, hs, cx, cy, cz⟩ := hr
  simp only at rx ry rz hs
  have hlx := hide rx.1
  have hly := hide ry.1
  have hlz := hide rz.1
  cases hok : okP l
  · have E2 := hide (show dwC l x = 1 by unfold dwC; rw [hok]; rfl)
    have E1 := hide (dwV_no E2.out (by decide))
    go_wp2
    refine bodyPost_ret (v := .tuple #[.agg #[.slice nilP.x.A nilP.x.n nilP.x.c, .slice nilP.y.A nilP.y.n nilP.y.c, .slice nilP.z.A nilP.z.n nilP.z.c], .int .i64 1]) (by simp [results, Try.results24, go_sem, m0, m1, m2, nilP]) rfl ⟨nilP, by rw [E2.out], by rw [E1.out]; exact Own3.nilP _ _, hXn⟩
  have hsm := hide (show n1 + (n2 + n3) ≤ 100000 by have := okP_small hok; have h1 := hlx.out; have h2 := hly.out; have h3 := hlz.out; omega)
  have hh := fun W h => impl.has_any ⟨A2, n2, c2⟩ l.y x W h
  cases hin : hasB l.y x
  · have E2 := hide (show dwC l x = 4 by unfold dwC; rw [hok, hin]; rfl)
    have E1 := hide (dwV_no E2.out (by decide))
    rw [hin] at hh
    go_wp2_with (go_at_call 75; refine (hh _ (ry.ext hX1)).mono ?_; rintro e w' ⟨rfl, rfl⟩)
    refine bodyPost_ret (v := .tuple #[.agg #[.slice nilP.x.A nilP.x.n nilP.x.c, .slice nilP.y.A nilP.y.n nilP.y.c, .slice nilP.z.A nilP.z.n nilP.z.c], .int .i64 4]) (by simp [results, Try.results24, go_sem, m0, m1, m2, nilP]) rfl ⟨nilP, by rw [E2.out], by rw [E1.out]; exact Own3.nilP _ _, hXn⟩
  · have E2 := hide (show dwC l x = 0 by unfold dwC; rw [hok, hin]; rfl)
    have E1 := hide (dwV_yes E2.out)
    rw [hin] at hh
    clear hRn m0 m1 m2 hXn
    go_wp2_with (first | (go_at_call 75; refine (hh _ (ry.ext hX1)).mono ?_; rintro e w' ⟨rfl, rfl⟩) | fail)
    clear q1 q2
    refine (impl.copyPanel_any ⟨⟨A1, n1, c1⟩, ⟨A2, n2, c2⟩, ⟨A3, n3, c3⟩⟩ l _ (hr0.ext hX1)).mono ?_
    rintro e w2 ⟨⟨sx, sy, sz⟩, rfl, h3, hx2⟩
    obtain ⟨o1, _, o3, _, _, a13, _⟩ := h3
    simp only at o1 o3 a13
    clear q0 r0 r1 r2 r3 r4 r5
    have hz2 := hx2.size
    have g1 := o1.lt
    have g3 := o3.lt
    have hx3 := (hx2.alloc (.cells #[.slice sx.A sx.n sx.c, .slice sy.A sy.n sy.c, .slice sz.A sz.n sz.c] 38)).alloc (.cells #[.int .i64 x] 2)
    have hO := (Blk.new w2 38 (#[.slice sx.A sx.n sx.c, .slice sy.A sy.n sy.c, .slice sz.A sz.n sz.c])).alloc (.cells #[.int .i64 x] 2)
    have hF := Blk.new (w2.alloc (.cells #[.slice sx.A sx.n sx.c, .slice sy.A sy.n sy.c, .slice sz.A sz.n sz.c] 38)) 2 (#[.int .i64 x])
    rw [World.size_alloc] at hF
    have hB3 := hB1.ext hx3
    have hX3 := hX1.trans hx3
    have q1 : (w2.alloc (.cells #[.slice sx.A sx.n sx.c, .slice sy.A sy.n sy.c, .slice sz.A sz.n sz.c] 38)).cell? ⟨w.heap.size, 1, none⟩ = some (.slice A2 n2 c2) := ((hB1.ext hx2).alloc _).get 1 _ rfl
    obtain ⟨b0, b1, b2⟩ := hB3.c3
    go_wp2_with fail
    refine (impl.without_any ⟨A2, n2, c2⟩ ⟨some ⟨w2.heap.size + 1, 0, none⟩, 1, 1⟩ l.y [x] _ (ry.ext hX3) hF.rd1).mono ?_
    rintro e w4 ⟨t, rfl, ot, hx4⟩
    have hz4 : w2.heap.size + 1 + 1 ≤ w4.heap.size := by have := hx4.size; simpa using this
    have gt := ot.lt
    have o1' := ((o1.alloc (.cells #[.slice sx.A sx.n sx.c, .slice sy.A sy.n sy.c, .slice sz.A sz.n sz.c] 38)).alloc (.cells #[.int .i64 x] 2)).ext hx4
    have o3' := ((o3.alloc (.cells #[.slice sx.A sx.n sx.c, .slice sy.A sy.n sy.c, .slice sz.A sz.n sz.c] 38)).alloc (.cells #[.int .i64 x] 2)).ext hx4
    have hO4 := hO.ext hx4
    have x1 := hO4.frozen 1
    obtain ⟨d0, d1, d2⟩ := hO4.c3
    have hO5 := hO4.set_ 1 (.slice t.A t.n t.c)
    have o1'' := o1'.away (g := w2.heap.size) (fun e => by have := g1 _ e; omega) 1 (.slice t.A t.n t.c)
    have o3'' := o3'.away (g := w2.heap.size) (fun e => by have := g3 _ e; omega) 1 (.slice t.A t.n t.c)
    have ot'' := ot.away (g := w2.heap.size) (fun e => by have := gt _ e; simp at this; omega) 1 (.slice t.A t.n t.c)
    have hX5 := (hX3.trans hx4).off w2.heap.size 1 (by omega) (.slice t.A t.n t.c)
    have hR5 := ((hR1.ext hx3).ext hx4).off w2.heap.size 1 (by omega) (.slice t.A t.n t.c)
    have e2 : (w4.setCell ⟨w2.heap.size, 1, none⟩ (.slice t.A t.n t.c)).cell? ⟨w2.heap.size, 2, none⟩ = some (.slice sz.A sz.n sz.c) := hO5.get 2 _ rfl
    have hX6 := hX5.alloc (.cells #[.int .i64 x] 2)
    have hF6 := Blk.new (w4.setCell ⟨w2.heap.size, 1, none⟩ (.slice t.A t.n t.c)) 2 (#[.int .i64 x])
    rw [size_off] at hF6
    have hl3 := hide (show l.z.length + 1 ≤ 16777216 by have := hsm.out; have := hlz.out; omega)
    have e22 : ((w4.setCell ⟨w2.heap.size, 1, none⟩ (.slice t.A t.n t.c)).alloc (.cells #[.int .i64 x] 2)).cell? ⟨w2.heap.size, 2, none⟩ = some (.slice sz.A sz.n sz.c) := (hO5.alloc _).get 2 _ rfl
    go_wp2_with (at_builtin; refine wpList_app _ rfl (.tmp 26) (.tmp 28) rfl w1.heap.size _ _ rfl (o3''.alloc _) _ _ _ [x] rfl hF6.rd1 (by have := hl3.out; omega) (by simp; omega) ?_; intro t6 w6 o6 hg hb; have hO6 := (hO5.alloc (.cells #[.int .i64 x] 2)).fr (Fr.of_grown hg) (fun e => by have := g3 _ e; omega); have x2 := hO6.frozen 2; obtain ⟨f0, f1, f2⟩ := hO6.c3; have hO7 := hO6.set_ 2 (.slice t6.A t6.n t6.c); obtain ⟨e0, e1, e3⟩ := hO7.c3; have hR6 := (hR5.alloc (.cells #[.int .i64 x] 2)).fr (Fr.of_grown hg) (fun e => by have := g3 _ e; omega); obtain ⟨r0, r1, r2, r3, r4, r5⟩ := res3 hR6)
    have hR7 := hR6.off w2.heap.size 2 (by omega) (.slice t6.A t6.n t6.c)
    have hRf := ((hR7.set_ 0 (.slice sx.A sx.n sx.c)).set_ 1 (.slice t.A t.n t.c)).set_ 2 (.slice t6.A t6.n t6.c)
    obtain ⟨n0, n1', n2'⟩ := hRf.c3
    have hX7 := ((hX5.alloc (.cells #[.int .i64 x] 2)).grow hg (fun k hk => by have := g3 k hk; omega)).off w2.heap.size 2 (by omega) (.slice t6.A t6.n t6.c)
    have O1 := Own.away (Own.fr (o1''.alloc (.cells #[.int .i64 x] 2)) (Fr.of_grown hg) (fun k h1 h2 => a13 k h1 h2)) (g := w2.heap.size) (fun e => by have := g1 _ e; omega) 2 (.slice t6.A t6.n t6.c)
    have O2 := Own.away (Own.fr (ot''.alloc (.cells #[.int .i64 x] 2)) (Fr.of_grown hg) (fun k h1 h2 => by have a1 := gt k h1; have a2 := g3 k h2; simp at a1; omega)) (g := w2.heap.size) (fun e => by have := gt _ e; simp at this; omega) 2 (.slice t6.A t6.n t6.c)
    have h6 : ∀ k, Value.ownBlock (.slice t6.A t6.n t6.c) = some k → (w1.heap.size ≤ k ∧ k < w2.heap.size) ∨ k = w4.heap.size + 1 := fun k hk => by
      rcases hb with h | h
      · exact .inl (g3 k (h.symm.trans hk))
      · rw [h] at hk; injection hk with hk; (try simp at hk); omega
    have O3 := o6.away (g := w2.heap.size) (fun e => by have := h6 _ e; omega) 2 (.slice t6.A t6.n t6.c)
    have l1 := O1.rd.1
    have l2 := O2.rd.1
    have l3 := O3.rd.1
    have lk := kp_le [x] l.y
    rw [List.length_append, List.length_singleton] at l3
    have h7 : Own3 _ (w.heap.size + 1 + 1) ⟨sx, t, t6⟩ ⟨l.x, kp [x] l.y, l.z ++ [x]⟩ := ⟨O1.mono (by omega), O2.mono (by simp; omega), O3.mono (by omega), by have h1 := hlx.out; have h2 := hly.out; have h3 := hlz.out; have h4 := hsm.out; simp only; omega, fun k h1 h2 => by have a1 := g1 k h1; have a2 := gt k h2; simp at a2; omega, fun k h1 h2 => by rcases hb with h | h; exact a13 k h1 (h.symm.trans h2); (have a1 := g1 k h1; have a2 := h6 k h2; rw [h] at h2; injection h2 with h2; (try simp at h2); omega), fun k h1 h2 => by have a1 := gt k h1; have a2 := h6 k h2; simp at a1; omega⟩
    refine bodyPost_ret (v := .tuple #[.agg #[.slice (⟨sx, t, t6⟩ : S3).x.A (⟨sx, t, t6⟩ : S3).x.n (⟨sx, t, t6⟩ : S3).x.c, .slice (⟨sx, t, t6⟩ : S3).y.A (⟨sx, t, t6⟩ : S3).y.n (⟨sx, t, t6⟩ : S3).y.c, .slice (⟨sx, t, t6⟩ : S3).z.A (⟨sx, t, t6⟩ : S3).z.n (⟨sx, t, t6⟩ : S3).z.c], .int .i64 0]) (by simp [results, Try.results24, go_sem, n0, n1', n2']) rfl ⟨⟨sx, t, t6⟩, by rw [E2.out], ?_, ((hX7.off _ 0 (by omega) _).off _ 1 (by omega) _).off _ 2 (by omega) _⟩
    rw [E1.out]
    exact (((h7.offP (w.heap.size + 1) 0 (by omega) _).offP (w.heap.size + 1) 1 (by omega) _).offP (w.heap.size + 1) 2 (by omega) _).mono (by omega)
set_option maxRecDepth 20000 in
set_option maxHeartbeats 8000000 in
theorem spec.DropWaiting_any (p : S3) (l : L3) (x : Int) (w : World) (hr : Rd3 w p l) :
    Calls Try.prog 25 #[.agg #[.slice p.x.A p.x.n p.x.c, .slice p.y.A p.y.n p.y.c, .slice p.z.A p.z.n p.z.c], .int .i64 x] w fun e w' => ∃ t : S3, e = .returned (.tuple #[.agg #[.slice t.x.A t.x.n t.x.c, .slice t.y.A t.y.n t.y.c, .slice t.z.A t.z.n t.z.c], .int .i64 (dwC l x)]) ∧ Own3 w' w.heap.size t (dwV l x) ∧ Ext w w' := by
  have hr0 := hr
  obtain ⟨⟨A1, n1, c1⟩, ⟨A2, n2, c2⟩, ⟨A3, n3, c3⟩⟩ := p
  have hX0 := ((Ext.refl w).alloc (.cells #[.slice A1 n1 c1, .slice A2 n2 c2, .slice A3 n3 c3] 38)).alloc (.cells #[.slice none 0 0, .slice none 0 0, .slice none 0 0] 38)
  have hB0 := (Blk.new w 38 (#[.slice A1 n1 c1, .slice A2 n2 c2, .slice A3 n3 c3])).alloc (.cells #[.slice none 0 0, .slice none 0 0, .slice none 0 0] 38)
  have hR0 := Blk.new (w.alloc (.cells #[.slice A1 n1 c1, .slice A2 n2 c2, .slice A3 n3 c3] 38)) 38 (#[.slice none 0 0, .slice none 0 0, .slice none 0 0])
  rw [World.size_alloc] at hR0
  obtain ⟨q0, q1, q2⟩ := hB0.c3
  go_enter Try.func25, Try.ntmps25
  go_wp2_with fail
  refine (spec.IsPanel_any ⟨⟨A1, n1, c1⟩, ⟨A2, n2, c2⟩, ⟨A3, n3, c3⟩⟩ l _ (hr.ext hX0)).mono ?_
  rintro e w1 ⟨rfl, hx1⟩
  clear q0 q1 q2
  have hX1 := hX0.trans hx1
  have hB1 := hB0.ext hx1
  have hR1 := hR0.ext hx1
  have hz1 : w.heap.size + 1 + 1 ≤ w1.heap.size := by have := hx1.size; simpa using this
  obtain ⟨q0, q1, q2⟩ := hB1.c3
  obtain ⟨r0, r1, r2, r3, r4, r5⟩ := res3 hR1
  have hRn := ((hR1.set_ 0 (.slice none 0 0)).set_ 1 (.slice none 0 0)).set_ 2 (.slice none 0 0)
  have m0 := hRn.get 0 _ rfl
  have m1 := hRn.get 1 _ rfl
  have m2 := hRn.get 2 _ rfl
  have hXn := ((hX1.off (w.heap.size + 1) 0 (by omega) (.slice none 0 0)).off (w.heap.size + 1) 1 (by omega) (.slice none 0 0)).off (w.heap.size + 1) 2 (by omega) (.slice none 0 0)
  obtain ⟨rx, ry, rz, hs, cx, cy, cz⟩ := hr
  simp only at rx ry rz hs
  have hlx := hide rx.1
  have hly := hide ry.1
  have hlz := hide rz.1
  cases hok : okP l
  · have E2 := hide (show dwC l x = 1 by unfold dwC; rw [hok]; rfl)
    have E1 := hide (dwV_no E2.out (by decide))
    go_wp2
    refine bodyPost_ret (v := .tuple #[.agg #[.slice nilP.x.A nilP.x.n nilP.x.c, .slice nilP.y.A nilP.y.n nilP.y.c, .slice nilP.z.A nilP.z.n nilP.z.c], .int .i64 1]) (by simp [results, Try.results25, go_sem, m0, m1, m2, nilP]) rfl ⟨nilP, by rw [E2.out], by rw [E1.out]; exact Own3.nilP _ _, hXn⟩
  have hsm := hide (show n1 + (n2 + n3) ≤ 100000 by have := okP_small hok; have h1 := hlx.out; have h2 := hly.out; have h3 := hlz.out; omega)
  have hh := fun W h => spec.l12Find_any ⟨A2, n2, c2⟩ l.y x W h
  have hbd := plc_bd l.y x
  cases hin : hasB l.y x
  · have E2 := hide (show dwC l x = 4 by unfold dwC; rw [hok, hin]; rfl)
    have E1 := hide (dwV_no E2.out (by decide))
    have hneg : plc l.y x < 0 := plc_neg.2 (of_decide_eq_false hin)
    go_wp2_with (go_at_call 93; refine (hh _ (ry.ext hX1)).mono ?_; rintro e w' ⟨rfl, rfl⟩)
    refine bodyPost_ret (v := .tuple #[.agg #[.slice nilP.x.A nilP.x.n nilP.x.c, .slice nilP.y.A nilP.y.n nilP.y.c, .slice nilP.z.A nilP.z.n nilP.z.c], .int .i64 4]) (by simp [results, Try.results25, go_sem, m0, m1, m2, nilP]) rfl ⟨nilP, by rw [E2.out], by rw [E1.out]; exact Own3.nilP _ _, hXn⟩
  · have E2 := hide (show dwC l x = 0 by unfold dwC; rw [hok, hin]; rfl)
    have E1 := hide (dwV_yes E2.out)
    have hmem : x ∈ l.y := of_decide_eq_true hin
    obtain ⟨k, hk⟩ : ∃ k, k = l.y.idxOf x := ⟨_, rfl⟩
    have hpl : plc l.y x = (k : Int) := by unfold plc; rw [if_pos hmem, hk]
    have hkl : k < l.y.length := by rw [hk]; exact List.idxOf_lt_length_of_mem hmem
    have hkn : k < n2 := by have := hly.out; omega
    obtain ⟨k1, hk1⟩ : ∃ k1 : Nat, Hid (k1 = k + 1) := ⟨_, rfl⟩
    have hkp := hide (show kp [x] l.y = l.y.take k ++ l.y.drop k1 by rw [hk1.out, hk]; exact kp_one (okP_y hok))
    have hwr : IntKind.i64.wrap ((k : Int) + 1) = (k1 : Int) := by rw [Go.IntWalk.i64_in _ (by omega), hk1.out]; simp
    have hk1n : k1 ≤ n2 := by have := hk1.out; omega
    have hc21 : n2 ≤ c2 := cy.1
    have hkc : k ≤ c2 := by omega
    have hbd1 := hide (show (l.y.take k).length + (n2 - k1) ≤ 16777216 by rw [List.length_take]; have := hsm.out; omega)
    have hbd3 := hide (show l.z.length + 1 ≤ 16777216 by have := hsm.out; have := hlz.out; omega)
    have hge : ¬ ((k : Int) < 0) := by omega
    obtain ⟨b2, off2, _, rfl, _, _, _⟩ := ry.el hkn
    rw [hpl] at hh
    clear hRn m0 m1 m2 hXn hbd hpl hk hmem r0 r1 r2 r3 r4 r5 hX0 hB0 hR0 hx1
    go_upto_region 18 with (go_at_call 93; refine (hh _ (ry.ext hX1)).mono ?_; rintro e w' ⟨rfl, rfl⟩)
    clear q0 q1 q2
    replace hB1 := hB1.drew
    replace hR1 := hR1.drew
    have hX := hX1.drew
    have hz1' : w.heap.size + 1 + 1 ≤ w1.drew.heap.size := hz1
    clear hX1
    refine wp_region_sink (S := fun w' => w'.cell? ⟨w.heap.size, 0, none⟩ = some (.slice A1 n1 c1) ∧ w'.cell? ⟨w.heap.size, 1, none⟩ = some (.slice (some ⟨b2, off2, none⟩) n2 c2) ∧ w'.cell? ⟨w.heap.size, 2, none⟩ = some (.slice A3 n3 c3)) 22 (by kernel_rfl) ?_
    change wpAnyT _ _ _ _ _ _ _ _ _ (World.drew _)
    generalize hwd : World.drew w1 = wd at hB1 hR1 hX hz1' ⊢
    clear hwd
    have kk := hB1.c3
    refine wpAnyT_takeL (i := 0) 5 (v := ?_) rfl (by kernel_rfl) (by kernel_rfl) (by kernel_rfl) (by kernel_rfl) (by kernel_rfl) (fun _ _ _ h => h) (Or.inl ⟨by rfl, ?_⟩) kk ?_
    rotate_left 1
    · (intro W hSw; (try dsimp only at hSw); go_simp) <;> with_reducible rfl
    clear kk
    try simp only [Act.put, List.setIfInBounds_toArray, List.set_cons_zero, List.set_cons_succ]
    have kk := hB1.c3
    refine wpAnyT_takeL (i := 1) 5 (v := ?_) rfl (by kernel_rfl) (by kernel_rfl) (by kernel_rfl) (by kernel_rfl) (by kernel_rfl) (fun _ _ _ h => h) (Or.inl ⟨by rfl, ?_⟩) kk ?_
    rotate_left 1
    · (intro W hSw; (try dsimp only at hSw); go_simp) <;> with_reducible rfl
    clear kk
    try simp only [Act.put, List.setIfInBounds_toArray, List.set_cons_zero, List.set_cons_succ]
    have kk := hB1.c3
    refine wpAnyT_takeL (i := 3) 5 (v := ?_) rfl (by kernel_rfl) (by kernel_rfl) (by kernel_rfl) (by kernel_rfl) (by kernel_rfl) (fun _ _ _ h => h) (Or.inl ⟨by rfl, ?_⟩) kk ?_
    rotate_left 1
    · (intro W hSw; (try dsimp only at hSw); go_simp) <;> with_reducible rfl
    clear kk
    try simp only [Act.put, List.setIfInBounds_toArray, List.set_cons_zero, List.set_cons_succ]
    have kk := hB1.c3
    refine wpAnyT_takeL (i := 4) 5 (v := ?_) rfl (by kernel_rfl) (by kernel_rfl) (by kernel_rfl) (by kernel_rfl) (by kernel_rfl) (fun _ _ _ h => h) (Or.inl ⟨by rfl, ?_⟩) kk ?_
    rotate_left 1
    · (intro W hSw; (try dsimp only at hSw); go_simp) <;> with_reducible rfl
    clear kk
    try simp only [Act.put, List.setIfInBounds_toArray, List.set_cons_zero, List.set_cons_succ]
    have kk := hB1.c3
    refine wpAnyT_takeL (i := 5) 5 (v := ?_) rfl (by kernel_rfl) (by kernel_rfl) (by kernel_rfl) (by kernel_rfl) (by kernel_rfl) (fun _ _ _ h => h) (Or.inl ⟨by rfl, ?_⟩) kk ?_
    rotate_left 1
    · (intro W hSw; (try dsimp only at hSw); go_simp) <;> with_reducible rfl
    clear kk
    try simp only [Act.put, List.setIfInBounds_toArray, List.set_cons_zero, List.set_cons_succ]
    have kk := hB1.c3
    refine wpAnyT_takeL (i := 6) 5 (v := ?_) rfl (by kernel_rfl) (by kernel_rfl) (by kernel_rfl) (by kernel_rfl) (by kernel_rfl) (fun _ _ _ h => h) (Or.inl ⟨by rfl, ?_⟩) kk ?_
    rotate_left 1
    · intro W _; (refine (run_to W (.tmp 22) (.tmp 23) ?_ b2 off2 n2 c2 ?_ k ?_ hkc)); all_goals rfl
    clear kk
    try simp only [Act.put, List.setIfInBounds_toArray, List.set_cons_zero, List.set_cons_succ]
    have kk := hB1.c3
    refine wpAnyT_takeL (i := 8) 5 (v := ?_) rfl (by kernel_rfl) (by kernel_rfl) (by kernel_rfl) (by kernel_rfl) (by kernel_rfl) (fun _ _ _ h => h) (Or.inl ⟨by rfl, ?_⟩) kk ?_
    rotate_left 1
    · (intro W hSw; (try dsimp only at hSw); go_simp) <;> with_reducible rfl
    clear kk
    try simp only [Act.put, List.setIfInBounds_toArray, List.set_cons_zero, List.set_cons_succ]
    have kk := hB1.c3
    refine wpAnyT_takeL (i := 9) 5 (v := ?_) rfl (by kernel_rfl) (by kernel_rfl) (by kernel_rfl) (by kernel_rfl) (by kernel_rfl) (fun _ _ _ h => h) (Or.inl ⟨by rfl, ?_⟩) kk ?_
    rotate_left 1
    · (intro W hSw; (try dsimp only at hSw); go_simp) <;> with_reducible rfl
    clear kk
    try simp only [Act.put, List.setIfInBounds_toArray, List.set_cons_zero, List.set_cons_succ]
    have kk := hB1.c3
    refine wpAnyT_takeL (i := 10) 5 (v := ?_) rfl (by kernel_rfl) (by kernel_rfl) (by kernel_rfl) (by kernel_rfl) (by kernel_rfl) (fun _ _ _ h => h) (Or.inl ⟨by rfl, ?_⟩) kk ?_
    rotate_left 1
    · (intro W hSw; (try dsimp only at hSw); go_simp) <;> with_reducible rfl
    clear kk
    try simp only [Act.put, List.setIfInBounds_toArray, List.set_cons_zero, List.set_cons_succ]
    have kk := hB1.c3
    refine wpAnyT_takeL (i := 11) 5 (v := ?_) rfl (by kernel_rfl) (by kernel_rfl) (by kernel_rfl) (by kernel_rfl) (by kernel_rfl) (fun _ _ _ h => h) (Or.inl ⟨by rfl, ?_⟩) kk ?_
    rotate_left 1
    · (intro W hSw; (try dsimp only at hSw); go_simp) <;> with_reducible rfl
    clear kk
    try simp only [Act.put, List.setIfInBounds_toArray, List.set_cons_zero, List.set_cons_succ]
    have kk := hB1.c3
    refine wpAnyT_takeL (i := 12) 5 (v := ?_) rfl (by kernel_rfl) (by kernel_rfl) (by kernel_rfl) (by kernel_rfl) (by kernel_rfl) (fun _ _ _ h => h) (Or.inl ⟨by rfl, ?_⟩) kk ?_
    rotate_left 1
    · intro W _; (refine (run_from W (.tmp 27) (.tmp 29) ?_ (some ⟨b2, off2, none⟩) n2 c2 ?_ k1 ?_ hk1n)); all_goals rfl
    clear kk
    try simp only [Act.put, List.setIfInBounds_toArray, List.set_cons_zero, List.set_cons_succ]
    have kk := hB1.c3
    refine wpAnyT_takeL (i := 14) 5 (v := ?_) rfl (by kernel_rfl) (by kernel_rfl) (by kernel_rfl) (by kernel_rfl) (by kernel_rfl) (fun _ _ _ h => h) (Or.inl ⟨by rfl, ?_⟩) kk ?_
    rotate_left 1
    · (intro W hSw; (try dsimp only at hSw); go_simp) <;> with_reducible rfl
    clear kk
    try simp only [Act.put, List.setIfInBounds_toArray, List.set_cons_zero, List.set_cons_succ]
    have kk := hB1.c3
    refine wpAnyT_takeL (i := 15) 5 (v := ?_) rfl (by kernel_rfl) (by kernel_rfl) (by kernel_rfl) (by kernel_rfl) (by kernel_rfl) (fun _ _ _ h => h) (Or.inl ⟨by rfl, ?_⟩) kk ?_
    rotate_left 1
    · (intro W hSw; (try dsimp only at hSw); go_simp) <;> with_reducible rfl
    clear kk
    try simp only [Act.put, List.setIfInBounds_toArray, List.set_cons_zero, List.set_cons_succ]
    have kk := hB1.c3
    refine wpAnyT_takeL (i := 17) 5 (v := ?_) rfl (by kernel_rfl) (by kernel_rfl) (by kernel_rfl) (by kernel_rfl) (by kernel_rfl) (fun _ _ _ h => h) (Or.inl ⟨by rfl, ?_⟩) kk ?_
    rotate_left 1
    · (intro W hSw; (try dsimp only at hSw); go_simp) <;> with_reducible rfl
    clear kk
    try simp only [Act.put, List.setIfInBounds_toArray, List.set_cons_zero, List.set_cons_succ]
    refine wpAnyT_go2 (i := 2) (j := 18) rfl rfl (by kernel_rfl) (fun K hK => ?_) (fun K hK => ?_)
    · skip
      go_simp
      go_at_call 66
      refine (spec.l01Own_any ⟨A1, n1, c1⟩ l.x _ (rx.ext hX)).mono ?_
      rintro e w2_ ⟨tx, rfl, ox, hx⟩
      have hz2 := hx.size
      have gx := ox.lt
      replace hB1 := hB1.ext hx
      replace hR1 := hR1.ext hx
      replace hX := hX.trans hx
      clear hx
      go_simp
      refine hK _ _ ⟨fun _ => hB1.c3, ?_⟩
      clear hK K
      refine wpAnyT_go2 (i := 7) (j := 18) rfl rfl (by kernel_rfl) (fun K hK => ?_) (fun K hK => ?_)
      · skip
        go_simp
        go_at_call 66
        refine (spec.l01Own_any ⟨some ⟨b2, off2, none⟩, k, c2⟩ (l.y.take k) _ ((ry.ext hX).take (Nat.le_of_lt hkn))).mono ?_
        rintro e w3_ ⟨tb, rfl, ob, hx⟩
        have hz3 := hx.size
        have gb := ob.lt
        replace hB1 := hB1.ext hx
        replace hR1 := hR1.ext hx
        replace ox := ox.ext hx
        replace hX := hX.trans hx
        clear hx
        go_simp
        refine hK _ _ ⟨fun _ => hB1.c3, ?_⟩
        clear hK K
        refine wpAnyT_go2 (i := 13) (j := 18) rfl rfl (by kernel_rfl) (fun K hK => ?_) (fun K hK => ?_)
        · skip
          refine step_app _ rfl (.tmp 25) (.tmp 30) rfl _ _ _ rfl ob _ _ _ (l.y.drop k1) rfl (Rd.from_ _ (ry.ext hX) hk1n hc21) (by have := hbd1.out; omega) (by omega) ?_
          intro tc w4_ oc hg hb
          have hz4 := hg.size
          replace hB1 := hB1.fr (Fr.of_grown hg) (fun e => by have := gb _ e; omega)
          replace hR1 := hR1.fr (Fr.of_grown hg) (fun e => by have := gb _ e; omega)
          replace ox := ox.fr (Fr.of_grown hg) (fun k h1 h2 => by have a1 := gx k h1; have a2 := gb k h2; omega)
          replace hX := hX.grow hg (fun k hk => by have := gb k hk; omega)
          have gc : ∀ k, Value.ownBlock (.slice tc.A tc.n tc.c) = some k → Value.ownBlock (.slice tb.A tb.n tb.c) = some k ∨ k = w3_.heap.size := (fun k hk => by rcases hb with h | h; exact Or.inl (h.symm.trans hk); exact Or.inr (by rw [h] at hk; injection hk with hk; exact hk.symm))
          replace gc : ∀ k, Value.ownBlock (.slice tc.A tc.n tc.c) = some k → (((w2_.heap.size ≤ k ∧ k < w3_.heap.size) ∨ k = w3_.heap.size) ∧ k < w4_.heap.size) := (fun k hk => by have h0 := (oc.lt k hk).2; rcases gc k hk with h | h; have := gb k h; omega; omega)
          clear hg hb
          refine hK _ _ ⟨fun _ => hB1.c3, ?_⟩
          clear hK K
          refine wpAnyT_go2 (i := 16) (j := 18) rfl rfl (by kernel_rfl) (fun K hK => ?_) (fun K hK => ?_)
          · skip
            go_simp
            go_at_call 66
            refine (spec.l01Own_any ⟨A3, n3, c3⟩ l.z _ (rz.ext hX)).mono ?_
            rintro e w5_ ⟨tg, rfl, og, hx⟩
            have hz5 := hx.size
            have gg := og.lt
            replace hB1 := hB1.ext hx
            replace hR1 := hR1.ext hx
            replace ox := ox.ext hx
            replace oc := oc.ext hx
            replace hX := hX.trans hx
            clear hx
            go_simp
            refine hK _ _ ⟨fun _ => hB1.c3, ?_⟩
            clear hK K
            refine wpAnyT_go (i := 18) rfl (by kernel_rfl) fun K hK => ?_
            go_simp
            have hx := (Ext.refl w5_).alloc (.cells #[.int .i64 x] 2)
            have BF := Blk.new w5_ 2 (#[.int .i64 x])
            generalize hwF : (w5_).alloc (.cells #[.int .i64 x] 2) = w6_ at hx BF ⊢
            clear hwF
            have hz6 := BF.lt
            replace hB1 := hB1.ext hx
            replace hR1 := hR1.ext hx
            replace ox := ox.ext hx
            replace oc := oc.ext hx
            replace og := og.ext hx
            replace hX := hX.trans hx
            clear hx
            refine hK _ _ ⟨fun _ => hB1.c3, ?_⟩
            clear hK K
            refine wpAnyT_go (i := 19) rfl (by kernel_rfl) fun K hK => ?_
            refine step_app _ rfl (.tmp 34) (.tmp 36) rfl _ _ _ rfl og _ _ _ [x] rfl BF.rd1 (by have := hbd3.out; omega) (by omega) ?_
            intro td w7_ od hg hb
            have hz7 := hg.size
            replace hB1 := hB1.fr (Fr.of_grown hg) (fun e => by have := gg _ e; omega)
            replace hR1 := hR1.fr (Fr.of_grown hg) (fun e => by have := gg _ e; omega)
            replace BF := BF.fr (Fr.of_grown hg) (fun e => by have := gg _ e; omega)
            replace ox := ox.fr (Fr.of_grown hg) (fun k h1 h2 => by have a1 := gx k h1; have a2 := gg k h2; omega)
            replace oc := oc.fr (Fr.of_grown hg) (fun k h1 h2 => by have a1 := gc k h1; have a2 := gg k h2; omega)
            replace hX := hX.grow hg (fun k hk => by have := gg k hk; omega)
            have gd : ∀ k, Value.ownBlock (.slice td.A td.n td.c) = some k → Value.ownBlock (.slice tg.A tg.n tg.c) = some k ∨ k = w6_.heap.size := (fun k hk => by rcases hb with h | h; exact Or.inl (h.symm.trans hk); exact Or.inr (by rw [h] at hk; injection hk with hk; exact hk.symm))
            replace gd : ∀ k, Value.ownBlock (.slice td.A td.n td.c) = some k → (((w4_.heap.size ≤ k ∧ k < w5_.heap.size) ∨ k = w6_.heap.size) ∧ k < w7_.heap.size) := (fun k hk => by have h0 := (od.lt k hk).2; rcases gd k hk with h | h; have := gg k h; omega; omega)
            clear hg hb
            refine hK _ _ ⟨fun _ => hB1.c3, ?_⟩
            clear hK K
            have kk := hB1.c3
            refine wpAnyT_takeL (i := 20) 5 (v := ?_) rfl (by kernel_rfl) (by kernel_rfl) (by kernel_rfl) (by kernel_rfl) (by kernel_rfl) (fun _ _ _ h => h) (Or.inl ⟨by rfl, ?_⟩) kk ?_
            rotate_left 1
            · (intro W hSw; (try dsimp only at hSw); go_simp) <;> with_reducible rfl
            clear kk
            try simp only [Act.put, List.setIfInBounds_toArray, List.set_cons_zero, List.set_cons_succ]
            refine wpAnyT_go (i := 21) rfl (by kernel_rfl) fun K hK => ?_
            obtain ⟨r0, r1, r2, r3, r4, r5⟩ := res3 hR1
            go_simp
            refine hK _ _ ⟨fun _ => (((hB1.off (w.heap.size + 1) 0 (by omega) _).off (w.heap.size + 1) 1 (by omega) _).off (w.heap.size + 1) 2 (by omega) _).c3, ?_⟩
            clear hK K
            refine wpAnyT_go (i := 22) rfl (by kernel_rfl) fun K hK => ?_
            go_simp
            refine hK _ _ ⟨fun h => absurd rfl h, ?_⟩
            clear hK K
            refine wpAnyT_done (by kernel_rfl) ?_ _
            have hRf := ((hR1.set_ 0 (.slice tx.A tx.n tx.c)).set_ 1 (.slice tc.A tc.n tc.c)).set_ 2 (.slice td.A td.n td.c)
            obtain ⟨n0, n1', n2'⟩ := hRf.c3
            have l1 := ox.rd.1
            have l2 := oc.rd.1
            have l3 := od.rd.1
            rw [← hkp.out] at oc l2
            rw [List.length_append, List.length_singleton] at l3
            have lk := kp_le [x] l.y
            have h7 : Own3 w7_ (w.heap.size + 1 + 1) ⟨tx, tc, td⟩ ⟨l.x, kp [x] l.y, l.z ++ [x]⟩ := ⟨ox.mono (by omega), Own.lift oc (fun k h => by have := gc k h; omega), Own.lift od (fun k h => by have := gd k h; omega), by have h1 := hlx.out; have h2 := hly.out; have h3 := hlz.out; have h4 := hsm.out; simp only; omega, fun k h1 h2 => by have a1 := gx k h1; have a2 := gc k h2; omega, fun k h1 h2 => by have a1 := gx k h1; have a2 := gd k h2; omega, fun k h1 h2 => by have a1 := gc k h1; have a2 := gd k h2; omega⟩
            go_wp2_with fail
            refine bodyPost_ret (v := .tuple #[.agg #[.slice (⟨tx, tc, td⟩ : S3).x.A (⟨tx, tc, td⟩ : S3).x.n (⟨tx, tc, td⟩ : S3).x.c, .slice (⟨tx, tc, td⟩ : S3).y.A (⟨tx, tc, td⟩ : S3).y.n (⟨tx, tc, td⟩ : S3).y.c, .slice (⟨tx, tc, td⟩ : S3).z.A (⟨tx, tc, td⟩ : S3).z.n (⟨tx, tc, td⟩ : S3).z.c], .int .i64 0]) (by simp [results, Try.results25, go_sem, n0, n1', n2']) rfl ⟨⟨tx, tc, td⟩, by rw [E2.out], ?_, ((hX.off _ 0 (by omega) _).off _ 1 (by omega) _).off _ 2 (by omega) _⟩
            rw [E1.out]
            exact (((h7.offP (w.heap.size + 1) 0 (by omega) _).offP (w.heap.size + 1) 1 (by omega) _).offP (w.heap.size + 1) 2 (by omega) _).mono (by omega)
          · skip
            go_simp
            have hx := (Ext.refl w4_).alloc (.cells #[.int .i64 x] 2)
            have BF := Blk.new w4_ 2 (#[.int .i64 x])
            generalize hwF : (w4_).alloc (.cells #[.int .i64 x] 2) = w5_ at hx BF ⊢
            clear hwF
            have hz5 := BF.lt
            replace hB1 := hB1.ext hx
            replace hR1 := hR1.ext hx
            replace ox := ox.ext hx
            replace oc := oc.ext hx
            replace hX := hX.trans hx
            clear hx
            refine hK _ _ ⟨fun _ => hB1.c3, ?_⟩
            clear hK K
            refine wpAnyT_go (i := 16) rfl (by kernel_rfl) fun K hK => ?_
            go_simp
            go_at_call 66
            refine (spec.l01Own_any ⟨A3, n3, c3⟩ l.z _ (rz.ext hX)).mono ?_
            rintro e w6_ ⟨tg, rfl, og, hx⟩
            have hz6 := hx.size
            have gg := og.lt
            replace hB1 := hB1.ext hx
            replace hR1 := hR1.ext hx
            replace BF := BF.ext hx
            replace ox := ox.ext hx
            replace oc := oc.ext hx
            replace hX := hX.trans hx
            clear hx
            go_simp
            refine hK _ _ ⟨fun _ => hB1.c3, ?_⟩
            clear hK K
            refine wpAnyT_go (i := 19) rfl (by kernel_rfl) fun K hK => ?_
            refine step_app _ rfl (.tmp 34) (.tmp 36) rfl _ _ _ rfl og _ _ _ [x] rfl BF.rd1 (by have := hbd3.out; omega) (by omega) ?_
            intro td w7_ od hg hb
            have hz7 := hg.size
            replace hB1 := hB1.fr (Fr.of_grown hg) (fun e => by have := gg _ e; omega)
            replace hR1 := hR1.fr (Fr.of_grown hg) (fun e => by have := gg _ e; omega)
            replace BF := BF.fr (Fr.of_grown hg) (fun e => by have := gg _ e; omega)
            replace ox := ox.fr (Fr.of_grown hg) (fun k h1 h2 => by have a1 := gx k h1; have a2 := gg k h2; omega)
            replace oc := oc.fr (Fr.of_grown hg) (fun k h1 h2 => by have a1 := gc k h1; have a2 := gg k h2; omega)
            replace hX := hX.grow hg (fun k hk => by have := gg k hk; omega)
            have gd : ∀ k, Value.ownBlock (.slice td.A td.n td.c) = some k → Value.ownBlock (.slice tg.A tg.n tg.c) = some k ∨ k = w6_.heap.size := (fun k hk => by rcases hb with h | h; exact Or.inl (h.symm.trans hk); exact Or.inr (by rw [h] at hk; injection hk with hk; exact hk.symm))
            replace gd : ∀ k, Value.ownBlock (.slice td.A td.n td.c) = some k → (((w5_.heap.size ≤ k ∧ k < w6_.heap.size) ∨ k = w6_.heap.size) ∧ k < w7_.heap.size) := (fun k hk => by have h0 := (od.lt k hk).2; rcases gd k hk with h | h; have := gg k h; omega; omega)
            clear hg hb
            refine hK _ _ ⟨fun _ => hB1.c3, ?_⟩
            clear hK K
            have kk := hB1.c3
            refine wpAnyT_takeL (i := 20) 5 (v := ?_) rfl (by kernel_rfl) (by kernel_rfl) (by kernel_rfl) (by kernel_rfl) (by kernel_rfl) (fun _ _ _ h => h) (Or.inl ⟨by rfl, ?_⟩) kk ?_
            rotate_left 1
            · (intro W hSw; (try dsimp only at hSw); go_simp) <;> with_reducible rfl
            clear kk
            try simp only [Act.put, List.setIfInBounds_toArray, List.set_cons_zero, List.set_cons_succ]
            refine wpAnyT_go (i := 21) rfl (by kernel_rfl) fun K hK => ?_
            obtain ⟨r0, r1, r2, r3, r4, r5⟩ := res3 hR1
            go_simp
            refine hK _ _ ⟨fun _ => (((hB1.off (w.heap.size + 1) 0 (by omega) _).off (w.heap.size + 1) 1 (by omega) _).off (w.heap.size + 1) 2 (by omega) _).c3, ?_⟩
            clear hK K
            refine wpAnyT_go (i := 22) rfl (by kernel_rfl) fun K hK => ?_
            go_simp
            refine hK _ _ ⟨fun h => absurd rfl h, ?_⟩
            clear hK K
            refine wpAnyT_done (by kernel_rfl) ?_ _
            have hRf := ((hR1.set_ 0 (.slice tx.A tx.n tx.c)).set_ 1 (.slice tc.A tc.n tc.c)).set_ 2 (.slice td.A td.n td.c)
            obtain ⟨n0, n1', n2'⟩ := hRf.c3
            have l1 := ox.rd.1
            have l2 := oc.rd.1
            have l3 := od.rd.1
            rw [← hkp.out] at oc l2
            rw [List.length_append, List.length_singleton] at l3
            have lk := kp_le [x] l.y
            have h7 : Own3 w7_ (w.heap.size + 1 + 1) ⟨tx, tc, td⟩ ⟨l.x, kp [x] l.y, l.z ++ [x]⟩ := ⟨ox.mono (by omega), Own.lift oc (fun k h => by have := gc k h; omega), Own.lift od (fun k h => by have := gd k h; omega), by have h1 := hlx.out; have h2 := hly.out; have h3 := hlz.out; have h4 := hsm.out; simp only; omega, fun k h1 h2 => by have a1 := gx k h1; have a2 := gc k h2; omega, fun k h1 h2 => by have a1 := gx k h1; have a2 := gd k h2; omega, fun k h1 h2 => by have a1 := gc k h1; have a2 := gd k h2; omega⟩
            go_wp2_with fail
            refine bodyPost_ret (v := .tuple #[.agg #[.slice (⟨tx, tc, td⟩ : S3).x.A (⟨tx, tc, td⟩ : S3).x.n (⟨tx, tc, td⟩ : S3).x.c, .slice (⟨tx, tc, td⟩ : S3).y.A (⟨tx, tc, td⟩ : S3).y.n (⟨tx, tc, td⟩ : S3).y.c, .slice (⟨tx, tc, td⟩ : S3).z.A (⟨tx, tc, td⟩ : S3).z.n (⟨tx, tc, td⟩ : S3).z.c], .int .i64 0]) (by simp [results, Try.results25, go_sem, n0, n1', n2']) rfl ⟨⟨tx, tc, td⟩, by rw [E2.out], ?_, ((hX.off _ 0 (by omega) _).off _ 1 (by omega) _).off _ 2 (by omega) _⟩
            rw [E1.out]
            exact (((h7.offP (w.heap.size + 1) 0 (by omega) _).offP (w.heap.size + 1) 1 (by omega) _).offP (w.heap.size + 1) 2 (by omega) _).mono (by omega)
        · skip
          go_simp
          have hx := (Ext.refl w3_).alloc (.cells #[.int .i64 x] 2)
          have BF := Blk.new w3_ 2 (#[.int .i64 x])
          generalize hwF : (w3_).alloc (.cells #[.int .i64 x] 2) = w4_ at hx BF ⊢
          clear hwF
          have hz4 := BF.lt
          replace hB1 := hB1.ext hx
          replace hR1 := hR1.ext hx
          replace ox := ox.ext hx
          replace ob := ob.ext hx
          replace hX := hX.trans hx
          clear hx
          refine hK _ _ ⟨fun _ => hB1.c3, ?_⟩
          clear hK K
          refine wpAnyT_go (i := 13) rfl (by kernel_rfl) fun K hK => ?_
          refine step_app _ rfl (.tmp 25) (.tmp 30) rfl _ _ _ rfl ob _ _ _ (l.y.drop k1) rfl (Rd.from_ _ (ry.ext hX) hk1n hc21) (by have := hbd1.out; omega) (by omega) ?_
          intro tc w5_ oc hg hb
          have hz5 := hg.size
          replace hB1 := hB1.fr (Fr.of_grown hg) (fun e => by have := gb _ e; omega)
          replace hR1 := hR1.fr (Fr.of_grown hg) (fun e => by have := gb _ e; omega)
          replace BF := BF.fr (Fr.of_grown hg) (fun e => by have := gb _ e; omega)
          replace ox := ox.fr (Fr.of_grown hg) (fun k h1 h2 => by have a1 := gx k h1; have a2 := gb k h2; omega)
          replace hX := hX.grow hg (fun k hk => by have := gb k hk; omega)
          have gc : ∀ k, Value.ownBlock (.slice tc.A tc.n tc.c) = some k → Value.ownBlock (.slice tb.A tb.n tb.c) = some k ∨ k = w4_.heap.size := (fun k hk => by rcases hb with h | h; exact Or.inl (h.symm.trans hk); exact Or.inr (by rw [h] at hk; injection hk with hk; exact hk.symm))
          replace gc : ∀ k, Value.ownBlock (.slice tc.A tc.n tc.c) = some k → (((w2_.heap.size ≤ k ∧ k < w3_.heap.size) ∨ k = w4_.heap.size) ∧ k < w5_.heap.size) := (fun k hk => by have h0 := (oc.lt k hk).2; rcases gc k hk with h | h; have := gb k h; omega; omega)
          clear hg hb
          refine hK _ _ ⟨fun _ => hB1.c3, ?_⟩
          clear hK K
          refine wpAnyT_go (i := 16) rfl (by kernel_rfl) fun K hK => ?_
          go_simp
          go_at_call 66
          refine (spec.l01Own_any ⟨A3, n3, c3⟩ l.z _ (rz.ext hX)).mono ?_
          rintro e w6_ ⟨tg, rfl, og, hx⟩
          have hz6 := hx.size
          have gg := og.lt
          replace hB1 := hB1.ext hx
          replace hR1 := hR1.ext hx
          replace BF := BF.ext hx
          replace ox := ox.ext hx
          replace oc := oc.ext hx
          replace hX := hX.trans hx
          clear hx
          go_simp
          refine hK _ _ ⟨fun _ => hB1.c3, ?_⟩
          clear hK K
          refine wpAnyT_go (i := 19) rfl (by kernel_rfl) fun K hK => ?_
          refine step_app _ rfl (.tmp 34) (.tmp 36) rfl _ _ _ rfl og _ _ _ [x] rfl BF.rd1 (by have := hbd3.out; omega) (by omega) ?_
          intro td w7_ od hg hb
          have hz7 := hg.size
          replace hB1 := hB1.fr (Fr.of_grown hg) (fun e => by have := gg _ e; omega)
          replace hR1 := hR1.fr (Fr.of_grown hg) (fun e => by have := gg _ e; omega)
          replace BF := BF.fr (Fr.of_grown hg) (fun e => by have := gg _ e; omega)
          replace ox := ox.fr (Fr.of_grown hg) (fun k h1 h2 => by have a1 := gx k h1; have a2 := gg k h2; omega)
          replace oc := oc.fr (Fr.of_grown hg) (fun k h1 h2 => by have a1 := gc k h1; have a2 := gg k h2; omega)
          replace hX := hX.grow hg (fun k hk => by have := gg k hk; omega)
          have gd : ∀ k, Value.ownBlock (.slice td.A td.n td.c) = some k → Value.ownBlock (.slice tg.A tg.n tg.c) = some k ∨ k = w6_.heap.size := (fun k hk => by rcases hb with h | h; exact Or.inl (h.symm.trans hk); exact Or.inr (by rw [h] at hk; injection hk with hk; exact hk.symm))
          replace gd : ∀ k, Value.ownBlock (.slice td.A td.n td.c) = some k → (((w5_.heap.size ≤ k ∧ k < w6_.heap.size) ∨ k = w6_.heap.size) ∧ k < w7_.heap.size) := (fun k hk => by have h0 := (od.lt k hk).2; rcases gd k hk with h | h; have := gg k h; omega; omega)
          clear hg hb
          refine hK _ _ ⟨fun _ => hB1.c3, ?_⟩
          clear hK K
          have kk := hB1.c3
          refine wpAnyT_takeL (i := 20) 5 (v := ?_) rfl (by kernel_rfl) (by kernel_rfl) (by kernel_rfl) (by kernel_rfl) (by kernel_rfl) (fun _ _ _ h => h) (Or.inl ⟨by rfl, ?_⟩) kk ?_
          rotate_left 1
          · (intro W hSw; (try dsimp only at hSw); go_simp) <;> with_reducible rfl
          clear kk
          try simp only [Act.put, List.setIfInBounds_toArray, List.set_cons_zero, List.set_cons_succ]
          refine wpAnyT_go (i := 21) rfl (by kernel_rfl) fun K hK => ?_
          obtain ⟨r0, r1, r2, r3, r4, r5⟩ := res3 hR1
          go_simp
          refine hK _ _ ⟨fun _ => (((hB1.off (w.heap.size + 1) 0 (by omega) _).off (w.heap.size + 1) 1 (by omega) _).off (w.heap.size + 1) 2 (by omega) _).c3, ?_⟩
          clear hK K
          refine wpAnyT_go (i := 22) rfl (by kernel_rfl) fun K hK => ?_
          go_simp
          refine hK _ _ ⟨fun h => absurd rfl h, ?_⟩
          clear hK K
          refine wpAnyT_done (by kernel_rfl) ?_ _
          have hRf := ((hR1.set_ 0 (.slice tx.A tx.n tx.c)).set_ 1 (.slice tc.A tc.n tc.c)).set_ 2 (.slice td.A td.n td.c)
          obtain ⟨n0, n1', n2'⟩ := hRf.c3
          have l1 := ox.rd.1
          have l2 := oc.rd.1
          have l3 := od.rd.1
          rw [← hkp.out] at oc l2
          rw [List.length_append, List.length_singleton] at l3
          have lk := kp_le [x] l.y
          have h7 : Own3 w7_ (w.heap.size + 1 + 1) ⟨tx, tc, td⟩ ⟨l.x, kp [x] l.y, l.z ++ [x]⟩ := ⟨ox.mono (by omega), Own.lift oc (fun k h => by have := gc k h; omega), Own.lift od (fun k h => by have := gd k h; omega), by have h1 := hlx.out; have h2 := hly.out; have h3 := hlz.out; have h4 := hsm.out; simp only; omega, fun k h1 h2 => by have a1 := gx k h1; have a2 := gc k h2; omega, fun k h1 h2 => by have a1 := gx k h1; have a2 := gd k h2; omega, fun k h1 h2 => by have a1 := gc k h1; have a2 := gd k h2; omega⟩
          go_wp2_with fail
          refine bodyPost_ret (v := .tuple #[.agg #[.slice (⟨tx, tc, td⟩ : S3).x.A (⟨tx, tc, td⟩ : S3).x.n (⟨tx, tc, td⟩ : S3).x.c, .slice (⟨tx, tc, td⟩ : S3).y.A (⟨tx, tc, td⟩ : S3).y.n (⟨tx, tc, td⟩ : S3).y.c, .slice (⟨tx, tc, td⟩ : S3).z.A (⟨tx, tc, td⟩ : S3).z.n (⟨tx, tc, td⟩ : S3).z.c], .int .i64 0]) (by simp [results, Try.results25, go_sem, n0, n1', n2']) rfl ⟨⟨tx, tc, td⟩, by rw [E2.out], ?_, ((hX.off _ 0 (by omega) _).off _ 1 (by omega) _).off _ 2 (by omega) _⟩
          rw [E1.out]
          exact (((h7.offP (w.heap.size + 1) 0 (by omega) _).offP (w.heap.size + 1) 1 (by omega) _).offP (w.heap.size + 1) 2 (by omega) _).mono (by omega)
      · skip
        go_simp
        have hx := (Ext.refl w2_).alloc (.cells #[.int .i64 x] 2)
        have BF := Blk.new w2_ 2 (#[.int .i64 x])
        generalize hwF : (w2_).alloc (.cells #[.int .i64 x] 2) = w3_ at hx BF ⊢
        clear hwF
        have hz3 := BF.lt
        replace hB1 := hB1.ext hx
        replace hR1 := hR1.ext hx
        replace ox := ox.ext hx
        replace hX := hX.trans hx
        clear hx
        refine hK _ _ ⟨fun _ => hB1.c3, ?_⟩
        clear hK K
        refine wpAnyT_go (i := 7) rfl (by kernel_rfl) fun K hK => ?_
        go_simp
        go_at_call 66
        refine (spec.l01Own_any ⟨some ⟨b2, off2, none⟩, k, c2⟩ (l.y.take k) _ ((ry.ext hX).take (Nat.le_of_lt hkn))).mono ?_
        rintro e w4_ ⟨tb, rfl, ob, hx⟩
        have hz4 := hx.size
        have gb := ob.lt
        replace hB1 := hB1.ext hx
        replace hR1 := hR1.ext hx
        replace BF := BF.ext hx
        replace ox := ox.ext hx
        replace hX := hX.trans hx
        clear hx
        go_simp
        refine hK _ _ ⟨fun _ => hB1.c3, ?_⟩
        clear hK K
        refine wpAnyT_go (i := 13) rfl (by kernel_rfl) fun K hK => ?_
        refine step_app _ rfl (.tmp 25) (.tmp 30) rfl _ _ _ rfl ob _ _ _ (l.y.drop k1) rfl (Rd.from_ _ (ry.ext hX) hk1n hc21) (by have := hbd1.out; omega) (by omega) ?_
        intro tc w5_ oc hg hb
        have hz5 := hg.size
        replace hB1 := hB1.fr (Fr.of_grown hg) (fun e => by have := gb _ e; omega)
        replace hR1 := hR1.fr (Fr.of_grown hg) (fun e => by have := gb _ e; omega)
        replace BF := BF.fr (Fr.of_grown hg) (fun e => by have := gb _ e; omega)
        replace ox := ox.fr (Fr.of_grown hg) (fun k h1 h2 => by have a1 := gx k h1; have a2 := gb k h2; omega)
        replace hX := hX.grow hg (fun k hk => by have := gb k hk; omega)
        have gc : ∀ k, Value.ownBlock (.slice tc.A tc.n tc.c) = some k → Value.ownBlock (.slice tb.A tb.n tb.c) = some k ∨ k = w4_.heap.size := (fun k hk => by rcases hb with h | h; exact Or.inl (h.symm.trans hk); exact Or.inr (by rw [h] at hk; injection hk with hk; exact hk.symm))
        replace gc : ∀ k, Value.ownBlock (.slice tc.A tc.n tc.c) = some k → (((w3_.heap.size ≤ k ∧ k < w4_.heap.size) ∨ k = w4_.heap.size) ∧ k < w5_.heap.size) := (fun k hk => by have h0 := (oc.lt k hk).2; rcases gc k hk with h | h; have := gb k h; omega; omega)
        clear hg hb
        refine hK _ _ ⟨fun _ => hB1.c3, ?_⟩
        clear hK K
        refine wpAnyT_go (i := 16) rfl (by kernel_rfl) fun K hK => ?_
        go_simp
        go_at_call 66
        refine (spec.l01Own_any ⟨A3, n3, c3⟩ l.z _ (rz.ext hX)).mono ?_
        rintro e w6_ ⟨tg, rfl, og, hx⟩
        have hz6 := hx.size
        have gg := og.lt
        replace hB1 := hB1.ext hx
        replace hR1 := hR1.ext hx
        replace BF := BF.ext hx
        replace ox := ox.ext hx
        replace oc := oc.ext hx
        replace hX := hX.trans hx
        clear hx
        go_simp
        refine hK _ _ ⟨fun _ => hB1.c3, ?_⟩
        clear hK K
        refine wpAnyT_go (i := 19) rfl (by kernel_rfl) fun K hK => ?_
        refine step_app _ rfl (.tmp 34) (.tmp 36) rfl _ _ _ rfl og _ _ _ [x] rfl BF.rd1 (by have := hbd3.out; omega) (by omega) ?_
        intro td w7_ od hg hb
        have hz7 := hg.size
        replace hB1 := hB1.fr (Fr.of_grown hg) (fun e => by have := gg _ e; omega)
        replace hR1 := hR1.fr (Fr.of_grown hg) (fun e => by have := gg _ e; omega)
        replace BF := BF.fr (Fr.of_grown hg) (fun e => by have := gg _ e; omega)
        replace ox := ox.fr (Fr.of_grown hg) (fun k h1 h2 => by have a1 := gx k h1; have a2 := gg k h2; omega)
        replace oc := oc.fr (Fr.of_grown hg) (fun k h1 h2 => by have a1 := gc k h1; have a2 := gg k h2; omega)
        replace hX := hX.grow hg (fun k hk => by have := gg k hk; omega)
        have gd : ∀ k, Value.ownBlock (.slice td.A td.n td.c) = some k → Value.ownBlock (.slice tg.A tg.n tg.c) = some k ∨ k = w6_.heap.size := (fun k hk => by rcases hb with h | h; exact Or.inl (h.symm.trans hk); exact Or.inr (by rw [h] at hk; injection hk with hk; exact hk.symm))
        replace gd : ∀ k, Value.ownBlock (.slice td.A td.n td.c) = some k → (((w5_.heap.size ≤ k ∧ k < w6_.heap.size) ∨ k = w6_.heap.size) ∧ k < w7_.heap.size) := (fun k hk => by have h0 := (od.lt k hk).2; rcases gd k hk with h | h; have := gg k h; omega; omega)
        clear hg hb
        refine hK _ _ ⟨fun _ => hB1.c3, ?_⟩
        clear hK K
        have kk := hB1.c3
        refine wpAnyT_takeL (i := 20) 5 (v := ?_) rfl (by kernel_rfl) (by kernel_rfl) (by kernel_rfl) (by kernel_rfl) (by kernel_rfl) (fun _ _ _ h => h) (Or.inl ⟨by rfl, ?_⟩) kk ?_
        rotate_left 1
        · (intro W hSw; (try dsimp only at hSw); go_simp) <;> with_reducible rfl
        clear kk
        try simp only [Act.put, List.setIfInBounds_toArray, List.set_cons_zero, List.set_cons_succ]
        refine wpAnyT_go (i := 21) rfl (by kernel_rfl) fun K hK => ?_
        obtain ⟨r0, r1, r2, r3, r4, r5⟩ := res3 hR1
        go_simp
        refine hK _ _ ⟨fun _ => (((hB1.off (w.heap.size + 1) 0 (by omega) _).off (w.heap.size + 1) 1 (by omega) _).off (w.heap.size + 1) 2 (by omega) _).c3, ?_⟩
        clear hK K
        refine wpAnyT_go (i := 22) rfl (by kernel_rfl) fun K hK => ?_
        go_simp
        refine hK _ _ ⟨fun h => absurd rfl h, ?_⟩
        clear hK K
        refine wpAnyT_done (by kernel_rfl) ?_ _
        have hRf := ((hR1.set_ 0 (.slice tx.A tx.n tx.c)).set_ 1 (.slice tc.A tc.n tc.c)).set_ 2 (.slice td.A td.n td.c)
        obtain ⟨n0, n1', n2'⟩ := hRf.c3
        have l1 := ox.rd.1
        have l2 := oc.rd.1
        have l3 := od.rd.1
        rw [← hkp.out] at oc l2
        rw [List.length_append, List.length_singleton] at l3
        have lk := kp_le [x] l.y
        have h7 : Own3 w7_ (w.heap.size + 1 + 1) ⟨tx, tc, td⟩ ⟨l.x, kp [x] l.y, l.z ++ [x]⟩ := ⟨ox.mono (by omega), Own.lift oc (fun k h => by have := gc k h; omega), Own.lift od (fun k h => by have := gd k h; omega), by have h1 := hlx.out; have h2 := hly.out; have h3 := hlz.out; have h4 := hsm.out; simp only; omega, fun k h1 h2 => by have a1 := gx k h1; have a2 := gc k h2; omega, fun k h1 h2 => by have a1 := gx k h1; have a2 := gd k h2; omega, fun k h1 h2 => by have a1 := gc k h1; have a2 := gd k h2; omega⟩
        go_wp2_with fail
        refine bodyPost_ret (v := .tuple #[.agg #[.slice (⟨tx, tc, td⟩ : S3).x.A (⟨tx, tc, td⟩ : S3).x.n (⟨tx, tc, td⟩ : S3).x.c, .slice (⟨tx, tc, td⟩ : S3).y.A (⟨tx, tc, td⟩ : S3).y.n (⟨tx, tc, td⟩ : S3).y.c, .slice (⟨tx, tc, td⟩ : S3).z.A (⟨tx, tc, td⟩ : S3).z.n (⟨tx, tc, td⟩ : S3).z.c], .int .i64 0]) (by simp [results, Try.results25, go_sem, n0, n1', n2']) rfl ⟨⟨tx, tc, td⟩, by rw [E2.out], ?_, ((hX.off _ 0 (by omega) _).off _ 1 (by omega) _).off _ 2 (by omega) _⟩
        rw [E1.out]
        exact (((h7.offP (w.heap.size + 1) 0 (by omega) _).offP (w.heap.size + 1) 1 (by omega) _).offP (w.heap.size + 1) 2 (by omega) _).mono (by omega)
    · skip
      go_simp
      have hx := (Ext.refl wd).alloc (.cells #[.int .i64 x] 2)
      have BF := Blk.new wd 2 (#[.int .i64 x])
      generalize hwF : (wd).alloc (.cells #[.int .i64 x] 2) = w2_ at hx BF ⊢
      clear hwF
      have hz2 := BF.lt
      replace hB1 := hB1.ext hx
      replace hR1 := hR1.ext hx
      replace hX := hX.trans hx
      clear hx
      refine hK _ _ ⟨fun _ => hB1.c3, ?_⟩
      clear hK K
      refine wpAnyT_go (i := 2) rfl (by kernel_rfl) fun K hK => ?_
      go_simp
      go_at_call 66
      refine (spec.l01Own_any ⟨A1, n1, c1⟩ l.x _ (rx.ext hX)).mono ?_
      rintro e w3_ ⟨tx, rfl, ox, hx⟩
      have hz3 := hx.size
      have gx := ox.lt
      replace hB1 := hB1.ext hx
      replace hR1 := hR1.ext hx
      replace BF := BF.ext hx
      replace hX := hX.trans hx
      clear hx
      go_simp
      refine hK _ _ ⟨fun _ => hB1.c3, ?_⟩
      clear hK K
      refine wpAnyT_go (i := 7) rfl (by kernel_rfl) fun K hK => ?_
      go_simp
      go_at_call 66
      refine (spec.l01Own_any ⟨some ⟨b2, off2, none⟩, k, c2⟩ (l.y.take k) _ ((ry.ext hX).take (Nat.le_of_lt hkn))).mono ?_
      rintro e w4_ ⟨tb, rfl, ob, hx⟩
      have hz4 := hx.size
      have gb := ob.lt
      replace hB1 := hB1.ext hx
      replace hR1 := hR1.ext hx
      replace BF := BF.ext hx
      replace ox := ox.ext hx
      replace hX := hX.trans hx
      clear hx
      go_simp
      refine hK _ _ ⟨fun _ => hB1.c3, ?_⟩
      clear hK K
      refine wpAnyT_go (i := 13) rfl (by kernel_rfl) fun K hK => ?_
      refine step_app _ rfl (.tmp 25) (.tmp 30) rfl _ _ _ rfl ob _ _ _ (l.y.drop k1) rfl (Rd.from_ _ (ry.ext hX) hk1n hc21) (by have := hbd1.out; omega) (by omega) ?_
      intro tc w5_ oc hg hb
      have hz5 := hg.size
      replace hB1 := hB1.fr (Fr.of_grown hg) (fun e => by have := gb _ e; omega)
      replace hR1 := hR1.fr (Fr.of_grown hg) (fun e => by have := gb _ e; omega)
      replace BF := BF.fr (Fr.of_grown hg) (fun e => by have := gb _ e; omega)
      replace ox := ox.fr (Fr.of_grown hg) (fun k h1 h2 => by have a1 := gx k h1; have a2 := gb k h2; omega)
      replace hX := hX.grow hg (fun k hk => by have := gb k hk; omega)
      have gc : ∀ k, Value.ownBlock (.slice tc.A tc.n tc.c) = some k → Value.ownBlock (.slice tb.A tb.n tb.c) = some k ∨ k = w4_.heap.size := (fun k hk => by rcases hb with h | h; exact Or.inl (h.symm.trans hk); exact Or.inr (by rw [h] at hk; injection hk with hk; exact hk.symm))
      replace gc : ∀ k, Value.ownBlock (.slice tc.A tc.n tc.c) = some k → (((w3_.heap.size ≤ k ∧ k < w4_.heap.size) ∨ k = w4_.heap.size) ∧ k < w5_.heap.size) := (fun k hk => by have h0 := (oc.lt k hk).2; rcases gc k hk with h | h; have := gb k h; omega; omega)
      clear hg hb
      refine hK _ _ ⟨fun _ => hB1.c3, ?_⟩
      clear hK K
      refine wpAnyT_go (i := 16) rfl (by kernel_rfl) fun K hK => ?_
      go_simp
      go_at_call 66
      refine (spec.l01Own_any ⟨A3, n3, c3⟩ l.z _ (rz.ext hX)).mono ?_
      rintro e w6_ ⟨tg, rfl, og, hx⟩
      have hz6 := hx.size
      have gg := og.lt
      replace hB1 := hB1.ext hx
      replace hR1 := hR1.ext hx
      replace BF := BF.ext hx
      replace ox := ox.ext hx
      replace oc := oc.ext hx
      replace hX := hX.trans hx
      clear hx
      go_simp
      refine hK _ _ ⟨fun _ => hB1.c3, ?_⟩
      clear hK K
      refine wpAnyT_go (i := 19) rfl (by kernel_rfl) fun K hK => ?_
      refine step_app _ rfl (.tmp 34) (.tmp 36) rfl _ _ _ rfl og _ _ _ [x] rfl BF.rd1 (by have := hbd3.out; omega) (by omega) ?_
      intro td w7_ od hg hb
      have hz7 := hg.size
      replace hB1 := hB1.fr (Fr.of_grown hg) (fun e => by have := gg _ e; omega)
      replace hR1 := hR1.fr (Fr.of_grown hg) (fun e => by have := gg _ e; omega)
      replace BF := BF.fr (Fr.of_grown hg) (fun e => by have := gg _ e; omega)
      replace ox := ox.fr (Fr.of_grown hg) (fun k h1 h2 => by have a1 := gx k h1; have a2 := gg k h2; omega)
      replace oc := oc.fr (Fr.of_grown hg) (fun k h1 h2 => by have a1 := gc k h1; have a2 := gg k h2; omega)
      replace hX := hX.grow hg (fun k hk => by have := gg k hk; omega)
      have gd : ∀ k, Value.ownBlock (.slice td.A td.n td.c) = some k → Value.ownBlock (.slice tg.A tg.n tg.c) = some k ∨ k = w6_.heap.size := (fun k hk => by rcases hb with h | h; exact Or.inl (h.symm.trans hk); exact Or.inr (by rw [h] at hk; injection hk with hk; exact hk.symm))
      replace gd : ∀ k, Value.ownBlock (.slice td.A td.n td.c) = some k → (((w5_.heap.size ≤ k ∧ k < w6_.heap.size) ∨ k = w6_.heap.size) ∧ k < w7_.heap.size) := (fun k hk => by have h0 := (od.lt k hk).2; rcases gd k hk with h | h; have := gg k h; omega; omega)
      clear hg hb
      refine hK _ _ ⟨fun _ => hB1.c3, ?_⟩
      clear hK K
      have kk := hB1.c3
      refine wpAnyT_takeL (i := 20) 5 (v := ?_) rfl (by kernel_rfl) (by kernel_rfl) (by kernel_rfl) (by kernel_rfl) (by kernel_rfl) (fun _ _ _ h => h) (Or.inl ⟨by rfl, ?_⟩) kk ?_
      rotate_left 1
      · (intro W hSw; (try dsimp only at hSw); go_simp) <;> with_reducible rfl
      clear kk
      try simp only [Act.put, List.setIfInBounds_toArray, List.set_cons_zero, List.set_cons_succ]
      refine wpAnyT_go (i := 21) rfl (by kernel_rfl) fun K hK => ?_
      obtain ⟨r0, r1, r2, r3, r4, r5⟩ := res3 hR1
      go_simp
      refine hK _ _ ⟨fun _ => (((hB1.off (w.heap.size + 1) 0 (by omega) _).off (w.heap.size + 1) 1 (by omega) _).off (w.heap.size + 1) 2 (by omega) _).c3, ?_⟩
      clear hK K
      refine wpAnyT_go (i := 22) rfl (by kernel_rfl) fun K hK => ?_
      go_simp
      refine hK _ _ ⟨fun h => absurd rfl h, ?_⟩
      clear hK K
      refine wpAnyT_done (by kernel_rfl) ?_ _
      have hRf := ((hR1.set_ 0 (.slice tx.A tx.n tx.c)).set_ 1 (.slice tc.A tc.n tc.c)).set_ 2 (.slice td.A td.n td.c)
      obtain ⟨n0, n1', n2'⟩ := hRf.c3
      have l1 := ox.rd.1
      have l2 := oc.rd.1
      have l3 := od.rd.1
      rw [← hkp.out] at oc l2
      rw [List.length_append, List.length_singleton] at l3
      have lk := kp_le [x] l.y
      have h7 : Own3 w7_ (w.heap.size + 1 + 1) ⟨tx, tc, td⟩ ⟨l.x, kp [x] l.y, l.z ++ [x]⟩ := ⟨ox.mono (by omega), Own.lift oc (fun k h => by have := gc k h; omega), Own.lift od (fun k h => by have := gd k h; omega), by have h1 := hlx.out; have h2 := hly.out; have h3 := hlz.out; have h4 := hsm.out; simp only; omega, fun k h1 h2 => by have a1 := gx k h1; have a2 := gc k h2; omega, fun k h1 h2 => by have a1 := gx k h1; have a2 := gd k h2; omega, fun k h1 h2 => by have a1 := gc k h1; have a2 := gd k h2; omega⟩
      go_wp2_with fail
      refine bodyPost_ret (v := .tuple #[.agg #[.slice (⟨tx, tc, td⟩ : S3).x.A (⟨tx, tc, td⟩ : S3).x.n (⟨tx, tc, td⟩ : S3).x.c, .slice (⟨tx, tc, td⟩ : S3).y.A (⟨tx, tc, td⟩ : S3).y.n (⟨tx, tc, td⟩ : S3).y.c, .slice (⟨tx, tc, td⟩ : S3).z.A (⟨tx, tc, td⟩ : S3).z.n (⟨tx, tc, td⟩ : S3).z.c], .int .i64 0]) (by simp [results, Try.results25, go_sem, n0, n1', n2']) rfl ⟨⟨tx, tc, td⟩, by rw [E2.out], ?_, ((hX.off _ 0 (by omega) _).off _ 1 (by omega) _).off _ 2 (by omega) _⟩
      rw [E1.out]
      exact (((h7.offP (w.heap.size + 1) 0 (by omega) _).offP (w.heap.size + 1) 1 (by omega) _).offP (w.heap.size + 1) 2 (by omega) _).mono (by omega)
end Go.Proofs.Ytkfjphjmffbpiaa.mem
