/-
  Records in the laws: copy, size, compare; from the form's reading of an argument to my words.
-/
import Derived.Test.YtbjjiamfimgcgaaDoorOpen
import Derived.Deep.Strs
import Derived.Test.YtbjjiamfimgcgaaDoorRec
namespace Go.Proofs.YtbjjiamfimgcgaaDoor.mem
open Go.ChangeShapes Go.WideShapes Go.ChangeAt Go.RowKit Go.Joins

def OwnR (w : World) (lo : Nat) (x : RecA) (y : RecL) : Prop := Own3 w lo x.p y.p ∧ x.a = y.a ∧ x.b = y.b ∧ x.c = y.c ∧ x.d = y.d ∧ x.e = y.e ∧ x.f = y.f
section
variable {w w' : World} {lo : Nat} {x : RecA} {y : RecL}
theorem OwnR.ext (h : OwnR w lo x y) (hx : Ext w w') : OwnR w' lo x y := ⟨h.1.ext hx, h.2⟩
theorem OwnR.alloc (h : OwnR w lo x y) (o : Obj) : OwnR (w.alloc o) lo x y := h.ext ((Ext.refl w).alloc o)
theorem OwnR.drew (h : OwnR w lo x y) : OwnR w.drew lo x y := h
theorem OwnR.rd (h : OwnR w lo x y) : RdR w x y := ⟨h.1.rd, h.2⟩
def blksR (x : RecA) (k : Nat) : Prop := blks x.p k
theorem OwnR.lt (h : OwnR w lo x y) {k : Nat} (hk : blksR x k) : lo ≤ k ∧ k < w.heap.size := h.1.lt hk
def InR (w : World) (x : RecA) (y : RecL) : Prop := In3 w x.p y.p ∧ x.a = y.a ∧ x.b = y.b ∧ x.c = y.c ∧ x.d = y.d ∧ x.e = y.e ∧ x.f = y.f
def szR (left : Int) (x : RecA) : Int := sz3 left x.p
theorem szR_pos {left : Int} (h : 0 ≤ szR left x) (hl : left ≤ 1048576) : x.p.x.n + (x.p.y.n + x.p.z.n) ≤ 1048576 ∧ szR left x ≤ left := sz3_pos h hl
theorem InR.rds (h : InR w x y) {left : Int} (hz : 0 ≤ szR left x) (hl : left ≤ 1048576) : RdR w x y := ⟨h.1.rds hz hl, h.2⟩
end
set_option maxHeartbeats 4000000 in
theorem Blk.set9 {w : World} {g : Nat} {t : TypeId} {a b c d e f i j k : Value} (h : Blk w g t #[a, b, c, d, e, f, i, j, k]) (v0 v1 v2 v3 v4 v5 v6 v7 v8 : Value) :
    Blk (((((((((w.setCell ⟨g, 0, none⟩ v0).setCell ⟨g, 1, none⟩ v1).setCell ⟨g, 2, none⟩ v2).setCell ⟨g, 3, none⟩ v3).setCell ⟨g, 4, none⟩ v4).setCell ⟨g, 5, none⟩ v5).setCell ⟨g, 6, none⟩ v6).setCell ⟨g, 7, none⟩ v7).setCell ⟨g, 8, none⟩ v8) g t #[v0, v1, v2, v3, v4, v5, v6, v7, v8] := by
  have h1 : Blk _ g t #[v0, b, c, d, e, f, i, j, k] := h.set_ 0 v0
  have h2 : Blk _ g t #[v0, v1, c, d, e, f, i, j, k] := h1.set_ 1 v1
  have h3 : Blk _ g t #[v0, v1, v2, d, e, f, i, j, k] := h2.set_ 2 v2
  have h4 : Blk _ g t #[v0, v1, v2, v3, e, f, i, j, k] := h3.set_ 3 v3
  have h5 : Blk _ g t #[v0, v1, v2, v3, v4, f, i, j, k] := h4.set_ 4 v4
  have h6 : Blk _ g t #[v0, v1, v2, v3, v4, v5, i, j, k] := h5.set_ 5 v5
  have h7 : Blk _ g t #[v0, v1, v2, v3, v4, v5, v6, j, k] := h6.set_ 6 v6
  have h8 : Blk _ g t #[v0, v1, v2, v3, v4, v5, v6, v7, k] := h7.set_ 7 v7
  exact h8.set_ 8 v8
set_option maxHeartbeats 8000000 in
theorem toRecord_any (x : RecA) (y : RecL) (w : World) (hr : RdR w x y) :
    Calls Tryd.prog 17 #[.agg #[.int .i64 x.a, .int .i64 x.b, .int .i64 x.c, .slice x.p.x.A x.p.x.n x.p.x.c, .int .i64 x.d, .slice x.p.y.A x.p.y.n x.p.y.c, .slice x.p.z.A x.p.z.n x.p.z.c, .int .i64 x.e, .int .i64 x.f]] w fun e w' => ∃ x' : RecA, e = .returned (.agg #[.int .i64 x'.a, .int .i64 x'.b, .int .i64 x'.c, .slice x'.p.x.A x'.p.x.n x'.p.x.c, .int .i64 x'.d, .slice x'.p.y.A x'.p.y.n x'.p.y.c, .slice x'.p.z.A x'.p.z.n x'.p.z.c, .int .i64 x'.e, .int .i64 x'.f]) ∧ OwnR w' w.heap.size x' y ∧ Ext w w' := by
  obtain ⟨a, b, c, p, d, e, f⟩ := x
  obtain ⟨a', b', c', l, d', e', f'⟩ := y
  obtain ⟨hp, rfl, rfl, rfl, rfl, rfl, rfl⟩ := hr
  simp only at hp ⊢
  have hX0 := (((Ext.refl w).alloc (.cells #[.int .i64 a, .int .i64 b, .int .i64 c, .slice p.x.A p.x.n p.x.c, .int .i64 d, .slice p.y.A p.y.n p.y.c, .slice p.z.A p.z.n p.z.c, .int .i64 e, .int .i64 f] 37)).alloc (.cells #[.int .i64 0, .int .i64 0, .int .i64 0, .slice none 0 0, .int .i64 0, .slice none 0 0, .slice none 0 0, .int .i64 0, .int .i64 0] 40)).alloc (.cells #[.int .i64 a, .int .i64 b, .int .i64 c, .slice none 0 0, .int .i64 0, .slice none 0 0, .slice none 0 0, .int .i64 0, .int .i64 0] 40)
  have hP0 := ((Blk.new w 37 (#[.int .i64 a, .int .i64 b, .int .i64 c, .slice p.x.A p.x.n p.x.c, .int .i64 d, .slice p.y.A p.y.n p.y.c, .slice p.z.A p.z.n p.z.c, .int .i64 e, .int .i64 f])).alloc (.cells #[.int .i64 0, .int .i64 0, .int .i64 0, .slice none 0 0, .int .i64 0, .slice none 0 0, .slice none 0 0, .int .i64 0, .int .i64 0] 40)).alloc (.cells #[.int .i64 a, .int .i64 b, .int .i64 c, .slice none 0 0, .int .i64 0, .slice none 0 0, .slice none 0 0, .int .i64 0, .int .i64 0] 40)
  have hR0 := (Blk.new (w.alloc (.cells #[.int .i64 a, .int .i64 b, .int .i64 c, .slice p.x.A p.x.n p.x.c, .int .i64 d, .slice p.y.A p.y.n p.y.c, .slice p.z.A p.z.n p.z.c, .int .i64 e, .int .i64 f] 37)) 40 (#[.int .i64 0, .int .i64 0, .int .i64 0, .slice none 0 0, .int .i64 0, .slice none 0 0, .slice none 0 0, .int .i64 0, .int .i64 0])).alloc (.cells #[.int .i64 a, .int .i64 b, .int .i64 c, .slice none 0 0, .int .i64 0, .slice none 0 0, .slice none 0 0, .int .i64 0, .int .i64 0] 40)
  have hO0 := Blk.new ((w.alloc (.cells #[.int .i64 a, .int .i64 b, .int .i64 c, .slice p.x.A p.x.n p.x.c, .int .i64 d, .slice p.y.A p.y.n p.y.c, .slice p.z.A p.z.n p.z.c, .int .i64 e, .int .i64 f] 37)).alloc (.cells #[.int .i64 0, .int .i64 0, .int .i64 0, .slice none 0 0, .int .i64 0, .slice none 0 0, .slice none 0 0, .int .i64 0, .int .i64 0] 40)) 40 (#[.int .i64 a, .int .i64 b, .int .i64 c, .slice none 0 0, .int .i64 0, .slice none 0 0, .slice none 0 0, .int .i64 0, .int .i64 0])
  simp only [World.size_alloc] at hR0 hO0
  go_enter Tryd.func17, Tryd.ntmps17
  have q0 := hP0.get 0 _ rfl
  have q1 := hP0.get 1 _ rfl
  have q2 := hP0.get 2 _ rfl
  have q3 := hP0.get 3 _ rfl
  go_wp2_with fail
  refine (toInt64S_any p.x l.x _ ?c1).mono ?_
  case c1 => exact hp.1.ext hX0
  rintro e1 w1 ⟨s1, rfl, ho1, hx1⟩
  simp only [World.size_alloc] at ho1
  clear q0 q1 q2 q3
  have hX1 := hX0.trans hx1
  have hz1 : w.heap.size + 1 + 1 + 1 ≤ w1.heap.size := by have := hx1.size; simpa using this
  have hP1 := hP0.ext hx1
  have hR1 := hR0.ext hx1
  have hO1 : Blk w1 (w.heap.size + 1 + 1) 40 (#[.int .i64 a, .int .i64 b, .int .i64 c, .slice none 0 0, .int .i64 0, .slice none 0 0, .slice none 0 0, .int .i64 0, .int .i64 0]) := hO0.ext hx1
  have q4 := hP1.get 4 _ rfl
  have q5 := hP1.get 5 _ rfl
  have o3 := hO1.get 3 _ rfl
  have z3 := hO1.frozen 3
  have o4 := hO1.get 4 _ rfl
  have z4 := hO1.frozen 4
  go_wp2_with fail
  refine (toInt64S_any p.y l.y _ ?c2).mono ?_
  case c2 => exact hp.2.1.ext ((hX1.off (w.heap.size + 1 + 1) 3 (by omega) (.slice s1.A s1.n s1.c)).off (w.heap.size + 1 + 1) 4 (by omega) (.int .i64 d))
  rintro e2 w2 ⟨s2, rfl, ho2, hx2⟩
  simp only [size_off] at ho2
  clear q4 q5 o3 z3 o4 z4
  have hX2 := ((hX1.off (w.heap.size + 1 + 1) 3 (by omega) (.slice s1.A s1.n s1.c)).off (w.heap.size + 1 + 1) 4 (by omega) (.int .i64 d)).trans hx2
  have hz2 : w1.heap.size ≤ w2.heap.size := by have := hx2.size; simpa [size_off] using this
  have hP2 := ((hP1.off (w.heap.size + 1 + 1) 3 (by omega) (.slice s1.A s1.n s1.c)).off (w.heap.size + 1 + 1) 4 (by omega) (.int .i64 d)).ext hx2
  have hR2 := ((hR1.off (w.heap.size + 1 + 1) 3 (by omega) (.slice s1.A s1.n s1.c)).off (w.heap.size + 1 + 1) 4 (by omega) (.int .i64 d)).ext hx2
  have hO2 : Blk w2 (w.heap.size + 1 + 1) 40 (#[.int .i64 a, .int .i64 b, .int .i64 c, .slice s1.A s1.n s1.c, .int .i64 d, .slice none 0 0, .slice none 0 0, .int .i64 0, .int .i64 0]) := ((hO1.set_ 3 (.slice s1.A s1.n s1.c)).set_ 4 (.int .i64 d)).ext hx2
  have ho1_2 := ((ho1.off (w.heap.size + 1 + 1) 3 (by omega) (.slice s1.A s1.n s1.c)).off (w.heap.size + 1 + 1) 4 (by omega) (.int .i64 d)).ext hx2
  have q6 := hP2.get 6 _ rfl
  have o5 := hO2.get 5 _ rfl
  have z5 := hO2.frozen 5
  go_wp2_with fail
  refine (toInt64S_any p.z l.z _ ?c3).mono ?_
  case c3 => exact hp.2.2.1.ext (hX2.off (w.heap.size + 1 + 1) 5 (by omega) (.slice s2.A s2.n s2.c))
  rintro e3 w3 ⟨s3, rfl, ho3, hx3⟩
  simp only [size_off] at ho3
  clear q6 o5 z5
  have hX3 := (hX2.off (w.heap.size + 1 + 1) 5 (by omega) (.slice s2.A s2.n s2.c)).trans hx3
  have hz3 : w2.heap.size ≤ w3.heap.size := by have := hx3.size; simpa [size_off] using this
  have hP3 := (hP2.off (w.heap.size + 1 + 1) 5 (by omega) (.slice s2.A s2.n s2.c)).ext hx3
  have hR3 := (hR2.off (w.heap.size + 1 + 1) 5 (by omega) (.slice s2.A s2.n s2.c)).ext hx3
  have hO3 : Blk w3 (w.heap.size + 1 + 1) 40 (#[.int .i64 a, .int .i64 b, .int .i64 c, .slice s1.A s1.n s1.c, .int .i64 d, .slice s2.A s2.n s2.c, .slice none 0 0, .int .i64 0, .int .i64 0]) := (hO2.set_ 5 (.slice s2.A s2.n s2.c)).ext hx3
  have ho1_3 := (ho1_2.off (w.heap.size + 1 + 1) 5 (by omega) (.slice s2.A s2.n s2.c)).ext hx3
  have ho2_3 := (ho2.off (w.heap.size + 1 + 1) 5 (by omega) (.slice s2.A s2.n s2.c)).ext hx3
  have q7 := hP3.get 7 _ rfl
  have q8 := hP3.get 8 _ rfl
  have o6 := hO3.get 6 _ rfl
  have z6 := hO3.frozen 6
  have o7 := hO3.get 7 _ rfl
  have z7 := hO3.frozen 7
  have o8 := hO3.get 8 _ rfl
  have z8 := hO3.frozen 8
  have o0 := hO3.get 0 _ rfl
  have o1 := hO3.get 1 _ rfl
  have o2 := hO3.get 2 _ rfl
  have o3 := hO3.get 3 _ rfl
  have o4 := hO3.get 4 _ rfl
  have o5 := hO3.get 5 _ rfl
  have r0 := hR3.get 0 _ rfl
  have y0 := hR3.frozen 0
  have r1 := hR3.get 1 _ rfl
  have y1 := hR3.frozen 1
  have r2 := hR3.get 2 _ rfl
  have y2 := hR3.frozen 2
  have r3 := hR3.get 3 _ rfl
  have y3 := hR3.frozen 3
  have r4 := hR3.get 4 _ rfl
  have y4 := hR3.frozen 4
  have r5 := hR3.get 5 _ rfl
  have y5 := hR3.frozen 5
  have r6 := hR3.get 6 _ rfl
  have y6 := hR3.frozen 6
  have r7 := hR3.get 7 _ rfl
  have y7 := hR3.frozen 7
  have r8 := hR3.get 8 _ rfl
  have y8 := hR3.frozen 8
  have hRf := Blk.set9 (((hR3.off (w.heap.size + 1 + 1) 6 (by omega) (.slice s3.A s3.n s3.c)).off (w.heap.size + 1 + 1) 7 (by omega) (.int .i64 e)).off (w.heap.size + 1 + 1) 8 (by omega) (.int .i64 f)) (.int .i64 a) (.int .i64 b) (.int .i64 c) (.slice s1.A s1.n s1.c) (.int .i64 d) (.slice s2.A s2.n s2.c) (.slice s3.A s3.n s3.c) (.int .i64 e) (.int .i64 f)
  have f0 := hRf.get 0 _ rfl
  have f1 := hRf.get 1 _ rfl
  have f2 := hRf.get 2 _ rfl
  have f3 := hRf.get 3 _ rfl
  have f4 := hRf.get 4 _ rfl
  have f5 := hRf.get 5 _ rfl
  have f6 := hRf.get 6 _ rfl
  have f7 := hRf.get 7 _ rfl
  have f8 := hRf.get 8 _ rfl
  go_wp2
  refine bodyPost_ret (v := .agg #[.int .i64 (⟨a, b, c, ⟨s1, s2, s3⟩, d, e, f⟩ : RecA).a, .int .i64 (⟨a, b, c, ⟨s1, s2, s3⟩, d, e, f⟩ : RecA).b, .int .i64 (⟨a, b, c, ⟨s1, s2, s3⟩, d, e, f⟩ : RecA).c, .slice (⟨a, b, c, ⟨s1, s2, s3⟩, d, e, f⟩ : RecA).p.x.A (⟨a, b, c, ⟨s1, s2, s3⟩, d, e, f⟩ : RecA).p.x.n (⟨a, b, c, ⟨s1, s2, s3⟩, d, e, f⟩ : RecA).p.x.c, .int .i64 (⟨a, b, c, ⟨s1, s2, s3⟩, d, e, f⟩ : RecA).d, .slice (⟨a, b, c, ⟨s1, s2, s3⟩, d, e, f⟩ : RecA).p.y.A (⟨a, b, c, ⟨s1, s2, s3⟩, d, e, f⟩ : RecA).p.y.n (⟨a, b, c, ⟨s1, s2, s3⟩, d, e, f⟩ : RecA).p.y.c, .slice (⟨a, b, c, ⟨s1, s2, s3⟩, d, e, f⟩ : RecA).p.z.A (⟨a, b, c, ⟨s1, s2, s3⟩, d, e, f⟩ : RecA).p.z.n (⟨a, b, c, ⟨s1, s2, s3⟩, d, e, f⟩ : RecA).p.z.c, .int .i64 (⟨a, b, c, ⟨s1, s2, s3⟩, d, e, f⟩ : RecA).e, .int .i64 (⟨a, b, c, ⟨s1, s2, s3⟩, d, e, f⟩ : RecA).f]) (by simp [results, Tryd.results17, go_sem, f0, f1, f2, f3, f4, f5, f6, f7, f8]) rfl ⟨⟨a, b, c, ⟨s1, s2, s3⟩, d, e, f⟩, rfl, ⟨⟨?_, ?_, ?_, ?_, ?_, ?_, ?_⟩, rfl, rfl, rfl, rfl, rfl, rfl⟩, ?_⟩
  · exact (((((((((((((ho1_3.mono (lo' := w.heap.size + 1 + 1 + 1) (by omega)).off _ 6 (by omega) _).off _ 7 (by omega) _).off _ 8 (by omega) _).off _ 0 (by omega) _).off _ 1 (by omega) _).off _ 2 (by omega) _).off _ 3 (by omega) _).off _ 4 (by omega) _).off _ 5 (by omega) _).off _ 6 (by omega) _).off _ 7 (by omega) _).off _ 8 (by omega) _).mono (by omega)
  · exact (((((((((((((ho2_3.mono (lo' := w.heap.size + 1 + 1 + 1) (by omega)).off _ 6 (by omega) _).off _ 7 (by omega) _).off _ 8 (by omega) _).off _ 0 (by omega) _).off _ 1 (by omega) _).off _ 2 (by omega) _).off _ 3 (by omega) _).off _ 4 (by omega) _).off _ 5 (by omega) _).off _ 6 (by omega) _).off _ 7 (by omega) _).off _ 8 (by omega) _).mono (by omega)
  · exact (((((((((((((ho3.mono (lo' := w.heap.size + 1 + 1 + 1) (by omega)).off _ 6 (by omega) _).off _ 7 (by omega) _).off _ 8 (by omega) _).off _ 0 (by omega) _).off _ 1 (by omega) _).off _ 2 (by omega) _).off _ 3 (by omega) _).off _ 4 (by omega) _).off _ 5 (by omega) _).off _ 6 (by omega) _).off _ 7 (by omega) _).off _ 8 (by omega) _).mono (by omega)
  · have e1 := ho1.rd.1
    have e2 := ho2.rd.1
    have e3 := ho3.rd.1
    have i1 := hp.1.1
    have i2 := hp.2.1.1
    have i3 := hp.2.2.1.1
    have i4 := hp.2.2.2.1
    simp only
    omega
  · exact fun k h1 h2 => by have a1 := ho1.lt k h1; have a2 := ho2.lt k h2; omega
  · exact fun k h1 h2 => by have a1 := ho1.lt k h1; have a2 := ho3.lt k h2; omega
  · exact fun k h1 h2 => by have a1 := ho2.lt k h1; have a2 := ho3.lt k h2; omega
  · exact ((((((((((((hX3.off _ 6 (by omega) _).off _ 7 (by omega) _).off _ 8 (by omega) _).off _ 0 (by omega) _).off _ 1 (by omega) _).off _ 2 (by omega) _).off _ 3 (by omega) _).off _ 4 (by omega) _).off _ 5 (by omega) _).off _ 6 (by omega) _).off _ 7 (by omega) _).off _ 8 (by omega) _)
theorem szRecord_any (x : RecA) (left : Int) (w : World) (h0 : 0 ≤ left) (h1 : left ≤ 1048576) {y : RecL} {w0 : World} (hi : InR w0 x y) :
    Calls Tryd.prog 15 #[.agg #[.int .i64 x.a, .int .i64 x.b, .int .i64 x.c, .slice x.p.x.A x.p.x.n x.p.x.c, .int .i64 x.d, .slice x.p.y.A x.p.y.n x.p.y.c, .slice x.p.z.A x.p.z.n x.p.z.c, .int .i64 x.e, .int .i64 x.f], .int .i64 left] w fun e w' => e = .returned (.int .i64 (szR left x)) ∧ Ext w w' := by
  obtain ⟨a, b, c, p, d, e, f⟩ := x
  obtain ⟨⟨i1, i2, i3⟩, _⟩ := hi
  have hx := i1.max
  have hy := i2.max
  have hz := i3.max
  clear i1 i2 i3
  simp only at hx hy hz
  by_cases c1 : (p.x.n : Int) ≤ left
  · have e1 : szV left p.x.n = left - p.x.n := if_pos c1
    by_cases c2 : (p.y.n : Int) ≤ left - p.x.n
    · have e2 : szV (left - p.x.n) p.y.n = left - p.x.n - p.y.n := if_pos c2
      by_cases c3 : (p.z.n : Int) ≤ left - p.x.n - p.y.n
      · have e3 : szV (left - p.x.n - p.y.n) p.z.n = left - p.x.n - p.y.n - p.z.n := if_pos c3
        have E := hide (show szR left ⟨a, b, c, p, d, e, f⟩ = left - p.x.n - p.y.n - p.z.n from if_pos (by simp only; omega))
        go_enter Tryd.func15, Tryd.ntmps15
        go_wp2_with (go_at_call 25; refine (szInt64S_any _ _ _ (by omega) (by omega) (by assumption)).mono ?_; rintro e w' ⟨rfl, rfl⟩)
        go_ret
        exact ⟨by rw [E.out]; rfl, (Ext.refl _).alloc _⟩
      · have e3 : szV (left - p.x.n - p.y.n) p.z.n = -1 := if_neg c3
        have E := hide (show szR left ⟨a, b, c, p, d, e, f⟩ = -1 from if_neg (by simp only; omega))
        go_enter Tryd.func15, Tryd.ntmps15
        go_wp2_with (go_at_call 25; refine (szInt64S_any _ _ _ (by omega) (by omega) (by assumption)).mono ?_; rintro e w' ⟨rfl, rfl⟩)
        go_ret
        exact ⟨by rw [E.out]; rfl, (Ext.refl _).alloc _⟩
    · have e2 : szV (left - p.x.n) p.y.n = -1 := if_neg c2
      have E := hide (show szR left ⟨a, b, c, p, d, e, f⟩ = -1 from if_neg (by simp only; omega))
      go_enter Tryd.func15, Tryd.ntmps15
      go_wp2_with (go_at_call 25; refine (szInt64S_any _ _ _ (by omega) (by omega) (by assumption)).mono ?_; rintro e w' ⟨rfl, rfl⟩)
      go_ret
      exact ⟨by rw [E.out]; rfl, (Ext.refl _).alloc _⟩
  · have e1 : szV left p.x.n = -1 := if_neg c1
    have E := hide (show szR left ⟨a, b, c, p, d, e, f⟩ = -1 from if_neg (by simp only; omega))
    go_enter Tryd.func15, Tryd.ntmps15
    go_wp2_with (go_at_call 25; refine (szInt64S_any _ _ _ (by omega) (by omega) (by assumption)).mono ?_; rintro e w' ⟨rfl, rfl⟩)
    go_ret
    exact ⟨by rw [E.out]; rfl, (Ext.refl _).alloc _⟩
set_option maxHeartbeats 1000000 in
theorem eqRecord_yes (x x' : RecA) (y : RecL) (w : World) (hr : RdR w x y) (hr' : RdR w x' y) :
    Calls Tryd.prog 19 #[.agg #[.int .i64 x.a, .int .i64 x.b, .int .i64 x.c, .slice x.p.x.A x.p.x.n x.p.x.c, .int .i64 x.d, .slice x.p.y.A x.p.y.n x.p.y.c, .slice x.p.z.A x.p.z.n x.p.z.c, .int .i64 x.e, .int .i64 x.f], .agg #[.int .i64 x'.a, .int .i64 x'.b, .int .i64 x'.c, .slice x'.p.x.A x'.p.x.n x'.p.x.c, .int .i64 x'.d, .slice x'.p.y.A x'.p.y.n x'.p.y.c, .slice x'.p.z.A x'.p.z.n x'.p.z.c, .int .i64 x'.e, .int .i64 x'.f]] w fun e w' => e = .returned (.bool true) ∧ Ext w w' := by
  obtain ⟨a, b, c, p, d, e, f⟩ := x
  obtain ⟨a', b', c', p', d', e', f'⟩ := x'
  obtain ⟨a'', b'', c'', l, d'', e'', f''⟩ := y
  obtain ⟨hp, rfl, rfl, rfl, rfl, rfl, rfl⟩ := hr
  obtain ⟨hp', h1, h2, h3, h4, h5, h6⟩ := hr'
  simp only at hp hp' h1 h2 h3 h4 h5 h6 ⊢
  subst h1 h2 h3 h4 h5 h6
  have hX0 := ((Ext.refl w).alloc (.cells #[.int .i64 (⟨a', b', c', p, d', e', f'⟩ : RecA).a, .int .i64 (⟨a', b', c', p, d', e', f'⟩ : RecA).b, .int .i64 (⟨a', b', c', p, d', e', f'⟩ : RecA).c, .slice (⟨a', b', c', p, d', e', f'⟩ : RecA).p.x.A (⟨a', b', c', p, d', e', f'⟩ : RecA).p.x.n (⟨a', b', c', p, d', e', f'⟩ : RecA).p.x.c, .int .i64 (⟨a', b', c', p, d', e', f'⟩ : RecA).d, .slice (⟨a', b', c', p, d', e', f'⟩ : RecA).p.y.A (⟨a', b', c', p, d', e', f'⟩ : RecA).p.y.n (⟨a', b', c', p, d', e', f'⟩ : RecA).p.y.c, .slice (⟨a', b', c', p, d', e', f'⟩ : RecA).p.z.A (⟨a', b', c', p, d', e', f'⟩ : RecA).p.z.n (⟨a', b', c', p, d', e', f'⟩ : RecA).p.z.c, .int .i64 (⟨a', b', c', p, d', e', f'⟩ : RecA).e, .int .i64 (⟨a', b', c', p, d', e', f'⟩ : RecA).f] 40)).alloc (.cells #[.int .i64 (⟨a', b', c', p', d', e', f'⟩ : RecA).a, .int .i64 (⟨a', b', c', p', d', e', f'⟩ : RecA).b, .int .i64 (⟨a', b', c', p', d', e', f'⟩ : RecA).c, .slice (⟨a', b', c', p', d', e', f'⟩ : RecA).p.x.A (⟨a', b', c', p', d', e', f'⟩ : RecA).p.x.n (⟨a', b', c', p', d', e', f'⟩ : RecA).p.x.c, .int .i64 (⟨a', b', c', p', d', e', f'⟩ : RecA).d, .slice (⟨a', b', c', p', d', e', f'⟩ : RecA).p.y.A (⟨a', b', c', p', d', e', f'⟩ : RecA).p.y.n (⟨a', b', c', p', d', e', f'⟩ : RecA).p.y.c, .slice (⟨a', b', c', p', d', e', f'⟩ : RecA).p.z.A (⟨a', b', c', p', d', e', f'⟩ : RecA).p.z.n (⟨a', b', c', p', d', e', f'⟩ : RecA).p.z.c, .int .i64 (⟨a', b', c', p', d', e', f'⟩ : RecA).e, .int .i64 (⟨a', b', c', p', d', e', f'⟩ : RecA).f] 40)
  go_enter Tryd.func19, Tryd.ntmps19
  go_wp2_with fail
  refine (eqInt64S_any p.x p'.x l.x l.x _ (hp.1.ext hX0) (hp'.1.ext hX0)).mono ?_
  rintro e1 w1 ⟨q1, rfl, rfl⟩
  rw [decide_eq_true (rfl : l.x = l.x)]
  go_wp2_with fail
  refine (eqInt64S_any p.y p'.y l.y l.y _ (hp.2.1.ext (hX0.drewN _)) (hp'.2.1.ext (hX0.drewN _))).mono ?_
  rintro e2 w2 ⟨q2, rfl, rfl⟩
  rw [decide_eq_true (rfl : l.y = l.y)]
  go_wp2_with fail
  refine (eqInt64S_any p.z p'.z l.z l.z _ (hp.2.2.1.ext (hX0.drewN _)) (hp'.2.2.1.ext (hX0.drewN _))).mono ?_
  rintro e3 w3 ⟨q3, rfl, rfl⟩
  rw [decide_eq_true (rfl : l.z = l.z)]
  go_wp2
  go_ret
  exact ⟨rfl, hX0.drewN _⟩
section
variable {H : Type} {enc : TypeId × Value → H} {w : World} {spare : Nat → Bool} {held : Bool}
theorem array9 {α : Type} {cs : Array α} (h : cs.size = 9) : ∃ c0 c1 c2 c3 c4 c5 c6 c7 c8, cs = #[c0, c1, c2, c3, c4, c5, c6, c7, c8] := by
  obtain ⟨l⟩ := cs
  match l, h with
  | [c0, c1, c2, c3, c4, c5, c6, c7, c8], _ => exact ⟨c0, c1, c2, c3, c4, c5, c6, c7, c8, rfl⟩
theorem list9 {α : Type} {l : List α} (h : l.length = 9) : ∃ c0 c1 c2 c3 c4 c5 c6 c7 c8, l = [c0, c1, c2, c3, c4, c5, c6, c7, c8] := by
  match l, h with
  | [c0, c1, c2, c3, c4, c5, c6, c7, c8], _ => exact ⟨c0, c1, c2, c3, c4, c5, c6, c7, c8, rfl⟩
set_option maxRecDepth 20000 in
theorem open_Record {v : Value} {d : DataW H} {ps : List MemPlace} {r : Reach} {b0 : Nat} (hv : Value.okWide Tryd.prog w r b0 37 v) (h : DataW.Trod enc Tryd.prog w 0 spare held 37 v d ps) (hsp : ∀ b, spare b = true) :
    ∃ (x : RecA) (y : RecL), v = .agg #[.int .i64 x.a, .int .i64 x.b, .int .i64 x.c, .slice x.p.x.A x.p.x.n x.p.x.c, .int .i64 x.d, .slice x.p.y.A x.p.y.n x.p.y.c, .slice x.p.z.A x.p.z.n x.p.z.c, .int .i64 x.e, .int .i64 x.f] ∧ InR w x y := by
  obtain ⟨cs, rfl, hsz⟩ := okWide_struct Tryd.underlying37 hv
  obtain ⟨c0, c1, c2, c3, c4, c5, c6, c7, c8, rfl⟩ := array9 (hsz.trans (by kernel_rfl : Program.cellsOf Tryd.prog 37 = 9))
  obtain ⟨fuel, hf⟩ := h
  obtain ⟨xs, n, _, _, _, hlen, hall⟩ := DataW.trod_struct Tryd.underlying37 hf
  obtain ⟨y0, y1, y2, y3, y4, y5, y6, y7, y8, rfl⟩ := list9 hlen
  have e1 : Program.cellsOf Tryd.prog 22 = 1 := by kernel_rfl
  have e2 : Program.cellsOf Tryd.prog 2 = 1 := by kernel_rfl
  have h0 := hall 0 _ rfl
  have h1 := hall 1 _ rfl
  have h2 := hall 2 _ rfl
  have h3 := hall 3 _ rfl
  have h4 := hall 4 _ rfl
  have h5 := hall 5 _ rfl
  have h6 := hall 6 _ rfl
  have h7 := hall 7 _ rfl
  have h8 := hall 8 _ rfl
  simp [Value.cells, e1, e2] at h0 h1 h2 h3 h4 h5 h6 h7 h8
  obtain ⟨a0, hc0, _⟩ := DataW.trod_int Tryd.underlying2 h0
  cases hc0
  obtain ⟨a1, hc1, _⟩ := DataW.trod_int Tryd.underlying2 h1
  cases hc1
  obtain ⟨a2, hc2, _⟩ := DataW.trod_int Tryd.underlying2 h2
  cases hc2
  obtain ⟨s3, x3, rfl, i3⟩ := open_sl h3 hsp
  obtain ⟨a4, hc4, _⟩ := DataW.trod_int Tryd.underlying2 h4
  cases hc4
  obtain ⟨s5, x5, rfl, i5⟩ := open_sl h5 hsp
  obtain ⟨s6, x6, rfl, i6⟩ := open_sl h6 hsp
  obtain ⟨a7, hc7, _⟩ := DataW.trod_int Tryd.underlying2 h7
  cases hc7
  obtain ⟨a8, hc8, _⟩ := DataW.trod_int Tryd.underlying2 h8
  cases hc8
  exact ⟨⟨a0, a1, a2, ⟨s3, s5, s6⟩, a4, a7, a8⟩, ⟨a0, a1, a2, ⟨x3, x5, x6⟩, a4, a7, a8⟩, rfl, ⟨i3, i5, i6⟩, rfl, rfl, rfl, rfl, rfl, rfl⟩
end
end Go.Proofs.YtbjjiamfimgcgaaDoor.mem
