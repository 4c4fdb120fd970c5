/-
  Selections in the laws: copy, size, compare; from the form's reading of an argument to my words.
-/
import Derived.Test.YtfaiigihdokpjaaOpen
import Derived.Deep.Strs
import Derived.Test.YtfaiigihdokpjaaSel
namespace Go.Proofs.Ytfaiigihdokpjaa.mem
open Go.ChangeShapes Go.WideShapes Go.ChangeAt Go.RowKit Go.Joins

theorem Own3.off {w : World} {lo : Nat} {p : S3} {l : L3} (h : Own3 w lo p l) (b i : Nat) (hb : b < lo) (u : Value) : Own3 (w.setCell ⟨b, i, none⟩ u) lo p l :=
  ⟨h.1.off b i hb u, h.2.1.off b i hb u, h.2.2.1.off b i hb u, h.2.2.2⟩
def OwnS (w : World) (lo : Nat) (x : SelA) (y : SelL) : Prop := Own3 w lo x.p y.p ∧ Own w lo (.slice x.s.A x.s.n x.s.c) y.s ∧ (x.t = y.t ∧ x.q = y.q) ∧ (∀ k, blks x.p k → Value.ownBlock (.slice x.s.A x.s.n x.s.c) ≠ some k)
def blksS (x : SelA) (k : Nat) : Prop := blks x.p k ∨ Value.ownBlock (.slice x.s.A x.s.n x.s.c) = some k
section
variable {w w' : World} {lo : Nat} {x : SelA} {y : SelL}
theorem OwnS.ext (h : OwnS w lo x y) (hx : Ext w w') : OwnS w' lo x y := ⟨h.1.ext hx, h.2.1.ext hx, h.2.2⟩
theorem OwnS.alloc (h : OwnS w lo x y) (o : Obj) : OwnS (w.alloc o) lo x y := h.ext ((Ext.refl w).alloc o)
theorem OwnS.drew (h : OwnS w lo x y) : OwnS w.drew lo x y := h
theorem OwnS.rd (h : OwnS w lo x y) : RdS w x y := ⟨h.1.rd, h.2.1.rd, h.2.1.cap, h.2.2.1⟩
theorem OwnS.lt (h : OwnS w lo x y) {k : Nat} (hk : blksS x k) : lo ≤ k ∧ k < w.heap.size := by
  rcases hk with hk | hk
  · exact h.1.lt hk
  · exact h.2.1.lt k hk
theorem OwnS.fr {S : Nat → Prop} (h : OwnS w lo x y) (hf : Fr S w w') (hs : ∀ k, blksS x k → ¬ S k) : OwnS w' lo x y :=
  ⟨h.1.fr hf (fun k hk => hs k (.inl hk)), h.2.1.fr hf (fun k hk => hs k (.inr hk)), h.2.2⟩
def upS (k : Int) (x : SelA) : SelL := ⟨up3 k x.p, upL (k + len3 x.p) x.s.n, x.t, x.q⟩
def lenS (x : SelA) : Int := len3 x.p + x.s.n
theorem lenS_le (h : OwnS w lo x y) : 0 ≤ lenS x ∧ lenS x ≤ 20000000 := by
  have h1 := len3_le h.1
  have h2 := h.2.1.rd.le
  unfold lenS
  omega
def InS (w : World) (x : SelA) (y : SelL) : Prop := In3 w x.p y.p ∧ In1 w x.s y.s ∧ x.t = y.t ∧ x.q = y.q
def szS (left : Int) (x : SelA) : Int := if 0 ≤ sz3 left x.p then szV (sz3 left x.p) x.s.n else -1
theorem szS_pos {left : Int} (h : 0 ≤ szS left x) (hl : left ≤ 1048576) : (0 ≤ sz3 left x.p ∧ x.s.n ≤ 1048576) ∧ szS left x ≤ left := by
  unfold szS at h ⊢
  split at h
  · rename_i hh
    have h3 := (sz3_pos hh hl).2
    rw [if_pos hh]
    unfold szV at h ⊢
    split at h
    · rename_i h4
      rw [if_pos h4]
      refine ⟨⟨hh, ?_⟩, ?_⟩ <;> omega
    · omega
  · omega
theorem InS.rds (h : InS w x y) {left : Int} (hz : 0 ≤ szS left x) (hl : left ≤ 1048576) : RdS w x y :=
  ⟨h.1.rds (szS_pos hz hl).1.1 hl, h.2.1.rds (by have := (szS_pos hz hl).1.2; omega), h.2.1.2, h.2.2⟩
end
set_option maxHeartbeats 1000000 in
theorem szSelection_any (x : SelA) (left : Int) (w : World) (h0 : 0 ≤ left) (h1 : left ≤ 1048576) {y : SelL} {w0 : World} (hi : InS w0 x y) :
    Calls Try.prog 22 #[.agg #[.slice x.p.x.A x.p.x.n x.p.x.c, .slice x.p.y.A x.p.y.n x.p.y.c, .slice x.p.z.A x.p.z.n x.p.z.c, .slice x.s.A x.s.n x.s.c, .int .i64 x.t, .int .i64 x.q], .int .i64 left] w fun e w' => e = .returned (.int .i64 (szS left x)) ∧ Ext w w' := by
  have hX0 := (Ext.refl w).alloc (.cells #[.slice x.p.x.A x.p.x.n x.p.x.c, .slice x.p.y.A x.p.y.n x.p.y.c, .slice x.p.z.A x.p.z.n x.p.z.c, .slice x.s.A x.s.n x.s.c, .int .i64 x.t, .int .i64 x.q] 39)
  have hB0 := Blk.new w 39 (#[.slice x.p.x.A x.p.x.n x.p.x.c, .slice x.p.y.A x.p.y.n x.p.y.c, .slice x.p.z.A x.p.z.n x.p.z.c, .slice x.s.A x.s.n x.s.c, .int .i64 x.t, .int .i64 x.q])
  obtain ⟨q0, q1, q2, q3, q4, q5⟩ := hB0.c6
  have hc := szPanel_any x.p left (w.alloc (.cells #[.slice x.p.x.A x.p.x.n x.p.x.c, .slice x.p.y.A x.p.y.n x.p.y.c, .slice x.p.z.A x.p.z.n x.p.z.c, .slice x.s.A x.s.n x.s.c, .int .i64 x.t, .int .i64 x.q] 39)) h0 h1 hi.1.1.max hi.1.2.1.max hi.1.2.2.max
  have hm := hi.2.1.max
  by_cases c1 : 0 ≤ sz3 left x.p
  · have hl := (sz3_pos c1 h1).2
    have E := hide (show szS left x = szV (sz3 left x.p) x.s.n from if_pos c1)
    revert c1 hl E hc
    generalize sz3 left x.p = v
    intro hc c1 hl E
    by_cases c2 : (x.s.n : Int) ≤ v
    · have E2 := hide (show szV v x.s.n = v - x.s.n from if_pos c2)
      have hs := szInt64S_any x.s v
      rw [E2.out] at hs
      have c3 : 0 ≤ v - (x.s.n : Int) := by omega
      rw [E2.out] at E
      revert c3 E hs
      generalize v - (x.s.n : Int) = u
      intro E hs c3
      go_enter Try.func22, Try.ntmps22
      go_wp2_with fail
      refine hc.mono ?_
      rintro e w1 ⟨rfl, hx1⟩
      clear q0 q1 q2 q3 q4 q5
      obtain ⟨q0, q1, q2, q3, q4, q5⟩ := (hB0.ext hx1).c6
      go_wp2_with fail
      refine (hs _ c1 (by omega) hm).mono ?_
      rintro e w' ⟨rfl, rfl⟩
      go_wp2
      go_ret
      exact ⟨by rw [E.out]; rfl, hX0.trans hx1⟩
    · have E2 := hide (show szV v x.s.n = -1 from if_neg c2)
      have hs := szInt64S_any x.s v
      rw [E2.out] at hs
      rw [E2.out] at E
      go_enter Try.func22, Try.ntmps22
      go_wp2_with fail
      refine hc.mono ?_
      rintro e w1 ⟨rfl, hx1⟩
      clear q0 q1 q2 q3 q4 q5
      obtain ⟨q0, q1, q2, q3, q4, q5⟩ := (hB0.ext hx1).c6
      go_wp2_with fail
      refine (hs _ c1 (by omega) hm).mono ?_
      rintro e w' ⟨rfl, rfl⟩
      go_wp2
      go_ret
      exact ⟨by rw [E.out]; rfl, hX0.trans hx1⟩
  · have E := hide (show szS left x = -1 from if_neg c1)
    have e1 : sz3 left x.p = -1 := by
      unfold sz3 at c1 ⊢
      split at c1
      · omega
      · rename_i hh
        rw [if_neg hh]
    rw [e1] at hc
    clear c1 e1
    go_enter Try.func22, Try.ntmps22
    go_wp2_with fail
    refine hc.mono ?_
    rintro e w1 ⟨rfl, hx1⟩
    go_wp2
    go_ret
    exact ⟨by rw [E.out]; rfl, hX0.trans hx1⟩
set_option maxHeartbeats 1000000 in
theorem toSelection_any (x : SelA) (y : SelL) (w : World) (hr : RdS w x y) :
    Calls Try.prog 24 #[.agg #[.slice x.p.x.A x.p.x.n x.p.x.c, .slice x.p.y.A x.p.y.n x.p.y.c, .slice x.p.z.A x.p.z.n x.p.z.c, .slice x.s.A x.s.n x.s.c, .int .i64 x.t, .int .i64 x.q]] w fun e w' => ∃ x' : SelA, e = .returned (.agg #[.slice x'.p.x.A x'.p.x.n x'.p.x.c, .slice x'.p.y.A x'.p.y.n x'.p.y.c, .slice x'.p.z.A x'.p.z.n x'.p.z.c, .slice x'.s.A x'.s.n x'.s.c, .int .i64 x'.t, .int .i64 x'.q]) ∧ OwnS w' w.heap.size x' y ∧ Ext w w' := by
  obtain ⟨p, s, t, q⟩ := x
  obtain ⟨l, ls, t', q'⟩ := y
  obtain ⟨hp, hs, hcap, rfl, rfl⟩ := hr
  simp only at hp hs hcap ⊢
  have hX0 := (((Ext.refl w).alloc (.cells #[.slice p.x.A p.x.n p.x.c, .slice p.y.A p.y.n p.y.c, .slice p.z.A p.z.n p.z.c, .slice s.A s.n s.c, .int .i64 t, .int .i64 q] 39)).alloc (.cells #[.slice none 0 0, .slice none 0 0, .slice none 0 0, .slice none 0 0, .int .i64 0, .int .i64 0] 42)).alloc (.cells #[.slice none 0 0, .slice none 0 0, .slice none 0 0, .slice none 0 0, .int .i64 0, .int .i64 0] 42)
  have hP0 := ((Blk.new w 39 (#[.slice p.x.A p.x.n p.x.c, .slice p.y.A p.y.n p.y.c, .slice p.z.A p.z.n p.z.c, .slice s.A s.n s.c, .int .i64 t, .int .i64 q])).alloc (.cells #[.slice none 0 0, .slice none 0 0, .slice none 0 0, .slice none 0 0, .int .i64 0, .int .i64 0] 42)).alloc (.cells #[.slice none 0 0, .slice none 0 0, .slice none 0 0, .slice none 0 0, .int .i64 0, .int .i64 0] 42)
  have hR0 := (Blk.new (w.alloc (.cells #[.slice p.x.A p.x.n p.x.c, .slice p.y.A p.y.n p.y.c, .slice p.z.A p.z.n p.z.c, .slice s.A s.n s.c, .int .i64 t, .int .i64 q] 39)) 42 (#[.slice none 0 0, .slice none 0 0, .slice none 0 0, .slice none 0 0, .int .i64 0, .int .i64 0])).alloc (.cells #[.slice none 0 0, .slice none 0 0, .slice none 0 0, .slice none 0 0, .int .i64 0, .int .i64 0] 42)
  have hO0 := Blk.new ((w.alloc (.cells #[.slice p.x.A p.x.n p.x.c, .slice p.y.A p.y.n p.y.c, .slice p.z.A p.z.n p.z.c, .slice s.A s.n s.c, .int .i64 t, .int .i64 q] 39)).alloc (.cells #[.slice none 0 0, .slice none 0 0, .slice none 0 0, .slice none 0 0, .int .i64 0, .int .i64 0] 42)) 42 (#[.slice none 0 0, .slice none 0 0, .slice none 0 0, .slice none 0 0, .int .i64 0, .int .i64 0])
  obtain ⟨q0, q1, q2, q3, q4, q5⟩ := hP0.c6
  go_enter Try.func24, Try.ntmps24
  go_wp2_with fail
  refine (toPanel_any p l _ (hp.ext hX0)).mono ?_
  rintro e w1 ⟨p1, rfl, ho1, hx1⟩
  clear q0 q1 q2 q3 q4 q5
  have hX1 := hX0.trans hx1
  have hz1 : w.heap.size + 1 + 1 + 1 ≤ w1.heap.size := by have := hx1.size; simpa using this
  have hP1 := hP0.ext hx1
  have hR1 := hR0.ext hx1
  have hO1 := hO0.ext hx1
  simp only [World.size_alloc] at hR1 hO1 ho1
  have q3 := hP1.get 3 _ rfl
  have o0 := hO1.get 0 _ rfl
  have o1 := hO1.get 1 _ rfl
  have o2 := hO1.get 2 _ rfl
  have z0 := hO1.frozen 0
  have z1 := hO1.frozen 1
  have z2 := hO1.frozen 2
  go_wp2_with fail
  refine (toInt64S_any s ls _ ?c2).mono ?_
  case c2 => exact hs.ext (((hX1.off (w.heap.size + 1 + 1) 0 (by omega) _).off (w.heap.size + 1 + 1) 1 (by omega) _).off (w.heap.size + 1 + 1) 2 (by omega) _)
  rintro e w2 ⟨s2, rfl, ho2, hx2⟩
  rw [size_off, size_off, size_off] at ho2
  clear q3 o0 o1 o2 z0 z1 z2
  have hX2 := (((hX1.off (w.heap.size + 1 + 1) 0 (by omega) _).off (w.heap.size + 1 + 1) 1 (by omega) _).off (w.heap.size + 1 + 1) 2 (by omega) _).trans hx2
  have hz2 : w1.heap.size ≤ w2.heap.size := by have := hx2.size; simpa using this
  have hP2 := (((hP1.off (w.heap.size + 1 + 1) 0 (by omega) _).off (w.heap.size + 1 + 1) 1 (by omega) _).off (w.heap.size + 1 + 1) 2 (by omega) _).ext hx2
  have hR2 := (((hR1.off (w.heap.size + 1 + 1) 0 (by omega) _).off (w.heap.size + 1 + 1) 1 (by omega) _).off (w.heap.size + 1 + 1) 2 (by omega) _).ext hx2
  have hO2 := (((hO1.set_ 0 (.slice p1.x.A p1.x.n p1.x.c)).set_ 1 (.slice p1.y.A p1.y.n p1.y.c)).set_ 2 (.slice p1.z.A p1.z.n p1.z.c)).ext hx2
  have hp2 := (((ho1.off (w.heap.size + 1 + 1) 0 (by omega) _).off (w.heap.size + 1 + 1) 1 (by omega) _).off (w.heap.size + 1 + 1) 2 (by omega) _).ext hx2
  have q4 := hP2.get 4 _ rfl
  have q5 := hP2.get 5 _ rfl
  have o0 := hO2.get 0 _ rfl
  have o1 := hO2.get 1 _ rfl
  have o2 := hO2.get 2 _ rfl
  have o3 := hO2.get 3 _ rfl
  have o4 := hO2.get 4 _ rfl
  have o5 := hO2.get 5 _ rfl
  have z3 := hO2.frozen 3
  have z4 := hO2.frozen 4
  have z5 := hO2.frozen 5
  have r0 := hR2.get 0 _ rfl
  have r1 := hR2.get 1 _ rfl
  have r2 := hR2.get 2 _ rfl
  have r3 := hR2.get 3 _ rfl
  have r4 := hR2.get 4 _ rfl
  have r5 := hR2.get 5 _ rfl
  have y0 := hR2.frozen 0
  have y1 := hR2.frozen 1
  have y2 := hR2.frozen 2
  have y3 := hR2.frozen 3
  have y4 := hR2.frozen 4
  have y5 := hR2.frozen 5
  have hRf := ((((((((hR2.off (w.heap.size + 1 + 1) 3 (by omega) (.slice s2.A s2.n s2.c)).off (w.heap.size + 1 + 1) 4 (by omega) (.int .i64 t)).off (w.heap.size + 1 + 1) 5 (by omega) (.int .i64 q)).set_ 0 (.slice p1.x.A p1.x.n p1.x.c)).set_ 1 (.slice p1.y.A p1.y.n p1.y.c)).set_ 2 (.slice p1.z.A p1.z.n p1.z.c)).set_ 3 (.slice s2.A s2.n s2.c)).set_ 4 (.int .i64 t)).set_ 5 (.int .i64 q)
  have f0 := hRf.get 0 _ rfl
  have f1 := hRf.get 1 _ rfl
  have f2 := hRf.get 2 _ rfl
  have f3 := hRf.get 3 _ rfl
  have f4 := hRf.get 4 _ rfl
  have f5 := hRf.get 5 _ rfl
  go_wp2
  refine bodyPost_ret (v := .agg #[.slice (⟨p1, s2, t, q⟩ : SelA).p.x.A (⟨p1, s2, t, q⟩ : SelA).p.x.n (⟨p1, s2, t, q⟩ : SelA).p.x.c, .slice (⟨p1, s2, t, q⟩ : SelA).p.y.A (⟨p1, s2, t, q⟩ : SelA).p.y.n (⟨p1, s2, t, q⟩ : SelA).p.y.c, .slice (⟨p1, s2, t, q⟩ : SelA).p.z.A (⟨p1, s2, t, q⟩ : SelA).p.z.n (⟨p1, s2, t, q⟩ : SelA).p.z.c, .slice (⟨p1, s2, t, q⟩ : SelA).s.A (⟨p1, s2, t, q⟩ : SelA).s.n (⟨p1, s2, t, q⟩ : SelA).s.c, .int .i64 (⟨p1, s2, t, q⟩ : SelA).t, .int .i64 (⟨p1, s2, t, q⟩ : SelA).q]) (by simp [results, Try.results24, go_sem, f0, f1, f2, f3, f4, f5]) rfl ⟨⟨p1, s2, t, q⟩, rfl, ⟨?_, ?_, ⟨rfl, rfl⟩, fun k h1 h2 => by have a1 := ho1.lt h1; have a2 := ho2.lt k h2; omega⟩, ?_⟩
  · exact (((((((((hp2.off _ 3 (by omega) _).off _ 4 (by omega) _).off _ 5 (by omega) _).off _ 0 (by omega) _).off _ 1 (by omega) _).off _ 2 (by omega) _).off _ 3 (by omega) _).off _ 4 (by omega) _).off _ 5 (by omega) _).mono (by omega)
  · exact (((((((((ho2.off _ 3 (by omega) _).off _ 4 (by omega) _).off _ 5 (by omega) _).off _ 0 (by omega) _).off _ 1 (by omega) _).off _ 2 (by omega) _).off _ 3 (by omega) _).off _ 4 (by omega) _).off _ 5 (by omega) _).mono (by omega)
  · exact ((((((((hX2.off _ 3 (by omega) _).off _ 4 (by omega) _).off _ 5 (by omega) _).off _ 0 (by omega) _).off _ 1 (by omega) _).off _ 2 (by omega) _).off _ 3 (by omega) _).off _ 4 (by omega) _).off _ 5 (by omega) _
set_option maxHeartbeats 1000000 in
theorem eqSelection_yes (x x' : SelA) (y : SelL) (w : World) (hr : RdS w x y) (hr' : RdS w x' y) :
    Calls Try.prog 26 #[.agg #[.slice x.p.x.A x.p.x.n x.p.x.c, .slice x.p.y.A x.p.y.n x.p.y.c, .slice x.p.z.A x.p.z.n x.p.z.c, .slice x.s.A x.s.n x.s.c, .int .i64 x.t, .int .i64 x.q], .agg #[.slice x'.p.x.A x'.p.x.n x'.p.x.c, .slice x'.p.y.A x'.p.y.n x'.p.y.c, .slice x'.p.z.A x'.p.z.n x'.p.z.c, .slice x'.s.A x'.s.n x'.s.c, .int .i64 x'.t, .int .i64 x'.q]] w fun e w' => e = .returned (.bool true) ∧ Ext w w' := by
  obtain ⟨p, s, t, q⟩ := x
  obtain ⟨p', s', t', q'⟩ := x'
  obtain ⟨l, ls, t'', q''⟩ := y
  obtain ⟨hp, hs, hcap, rfl, rfl⟩ := hr
  obtain ⟨hp', hs', hcap', h1, h2⟩ := hr'
  simp only at hp hs hcap hp' hs' hcap' h1 h2 ⊢
  subst h1 h2
  have hX0 := ((Ext.refl w).alloc (.cells #[.slice p.x.A p.x.n p.x.c, .slice p.y.A p.y.n p.y.c, .slice p.z.A p.z.n p.z.c, .slice s.A s.n s.c, .int .i64 t', .int .i64 q'] 42)).alloc (.cells #[.slice p'.x.A p'.x.n p'.x.c, .slice p'.y.A p'.y.n p'.y.c, .slice p'.z.A p'.z.n p'.z.c, .slice s'.A s'.n s'.c, .int .i64 t', .int .i64 q'] 42)
  have hA := (Blk.new w 42 (#[.slice p.x.A p.x.n p.x.c, .slice p.y.A p.y.n p.y.c, .slice p.z.A p.z.n p.z.c, .slice s.A s.n s.c, .int .i64 t', .int .i64 q'])).alloc (.cells #[.slice p'.x.A p'.x.n p'.x.c, .slice p'.y.A p'.y.n p'.y.c, .slice p'.z.A p'.z.n p'.z.c, .slice s'.A s'.n s'.c, .int .i64 t', .int .i64 q'] 42)
  have hB := Blk.new (w.alloc (.cells #[.slice p.x.A p.x.n p.x.c, .slice p.y.A p.y.n p.y.c, .slice p.z.A p.z.n p.z.c, .slice s.A s.n s.c, .int .i64 t', .int .i64 q'] 42)) 42 (#[.slice p'.x.A p'.x.n p'.x.c, .slice p'.y.A p'.y.n p'.y.c, .slice p'.z.A p'.z.n p'.z.c, .slice s'.A s'.n s'.c, .int .i64 t', .int .i64 q'])
  rw [World.size_alloc] at hB
  obtain ⟨a0, a1, a2, a3, a4, a5⟩ := hA.c6
  obtain ⟨b0, b1, b2, b3, b4, b5⟩ := hB.c6
  go_enter Try.func26, Try.ntmps26
  go_wp2_with fail
  refine (eqPanel_yes p p' l _ (hp.ext hX0) (hp'.ext hX0)).mono ?_
  rintro e w1 ⟨rfl, hx1⟩
  clear a0 a1 a2 a3 a4 a5 b0 b1 b2 b3 b4 b5
  have hX1 := hX0.trans hx1
  have hA1 := hA.ext hx1
  have hB1 := hB.ext hx1
  obtain ⟨a0, a1, a2, a3, a4, a5⟩ := hA1.c6
  obtain ⟨b0, b1, b2, b3, b4, b5⟩ := hB1.c6
  go_wp2_with fail
  refine (eqInt64S_yes s s' ls _ (hs.ext hX1) (hs'.ext hX1)).mono ?_
  rintro e w2 ⟨rfl, hx2⟩
  clear a0 a1 a2 a3 a4 a5 b0 b1 b2 b3 b4 b5
  obtain ⟨a0, a1, a2, a3, a4, a5⟩ := (hA1.ext hx2).c6
  obtain ⟨b0, b1, b2, b3, b4, b5⟩ := (hB1.ext hx2).c6
  go_wp2
  go_ret
  exact ⟨rfl, hX1.trans hx2⟩
set_option maxHeartbeats 1000000 in
theorem markSelection_any (x : SelA) (y : SelL) (lo : Nat) (k0 : Int) (w : World) (ho : OwnS w lo x y) (h0 : 0 ≤ k0) (h1 : k0 ≤ 100000000) :
    Calls Try.prog 27 #[.agg #[.slice x.p.x.A x.p.x.n x.p.x.c, .slice x.p.y.A x.p.y.n x.p.y.c, .slice x.p.z.A x.p.z.n x.p.z.c, .slice x.s.A x.s.n x.s.c, .int .i64 x.t, .int .i64 x.q], .int .i64 k0] w fun e w' => e = .returned (.int .i64 (k0 + lenS x)) ∧ OwnS w' lo x (upS k0 x) ∧ Fr (blksS x) w w' := by
  obtain ⟨o3, os, ht, ha⟩ := ho
  clear ht
  have hB := Blk.new w 42 (#[.slice x.p.x.A x.p.x.n x.p.x.c, .slice x.p.y.A x.p.y.n x.p.y.c, .slice x.p.z.A x.p.z.n x.p.z.c, .slice x.s.A x.s.n x.s.c, .int .i64 x.t, .int .i64 x.q])
  have hX0 := (Ext.refl w).alloc (.cells #[.slice x.p.x.A x.p.x.n x.p.x.c, .slice x.p.y.A x.p.y.n x.p.y.c, .slice x.p.z.A x.p.z.n x.p.z.c, .slice x.s.A x.s.n x.s.c, .int .i64 x.t, .int .i64 x.q] 42)
  have n3 : ∀ k, blks x.p k → k < w.heap.size := fun k hk => (o3.lt hk).2
  have ns : ∀ k, Value.ownBlock (.slice x.s.A x.s.n x.s.c) = some k → k < w.heap.size := fun k hk => (os.lt k hk).2
  have le3 := len3_le o3
  obtain ⟨q0, q1, q2, q3, q4, q5⟩ := hB.c6
  go_enter Try.func27, Try.ntmps27
  go_wp2_with fail
  refine (markPanel_any x.p y.p lo k0 _ (o3.ext hX0) (by omega) (by omega)).mono ?_
  rintro e w1 ⟨rfl, o31, f1⟩
  clear q0 q1 q2 q3 q4 q5
  have hB1 := hB.fr f1 (fun e => absurd (n3 _ e) (by omega))
  have os1 := (os.ext hX0).fr f1 (fun k hk e => ha k e hk)
  have c1 := hB1.get 3 _ rfl
  go_wp2_with fail
  refine (markInt64S_any x.s lo _ y.s _ os1 (by omega) (by omega)).mono ?_
  rintro e w2 ⟨rfl, os2, f2⟩
  have o32 := o31.fr f2 (fun k hk e => ha k hk e)
  go_wp2
  go_ret
  refine ⟨?_, ⟨o32, os2, ⟨rfl, rfl⟩, ha⟩, ?_⟩
  · have e : k0 + lenS x = k0 + len3 x.p + x.s.n := by unfold lenS; omega
    rw [e]; rfl
  · exact ((hX0.fr).trans (f1.mono fun k _ e => .inl e)).trans (f2.mono fun k _ e => .inr e)
set_option maxHeartbeats 1000000 in
theorem heldSelection_any (x : SelA) (k0 : Int) (w : World) (hr : RdS w x (upS k0 x)) (h0 : 0 ≤ k0) (h1 : k0 ≤ 100000000) :
    Calls Try.prog 28 #[.agg #[.slice x.p.x.A x.p.x.n x.p.x.c, .slice x.p.y.A x.p.y.n x.p.y.c, .slice x.p.z.A x.p.z.n x.p.z.c, .slice x.s.A x.s.n x.s.c, .int .i64 x.t, .int .i64 x.q], .int .i64 k0] w fun e w' => e = .returned (.int .i64 (k0 + lenS x)) ∧ Ext w w' := by
  obtain ⟨r3, rs, hcap, ht⟩ := hr
  clear ht
  have hX0 := (Ext.refl w).alloc (.cells #[.slice x.p.x.A x.p.x.n x.p.x.c, .slice x.p.y.A x.p.y.n x.p.y.c, .slice x.p.z.A x.p.z.n x.p.z.c, .slice x.s.A x.s.n x.s.c, .int .i64 x.t, .int .i64 x.q] 42)
  have hB := Blk.new w 42 (#[.slice x.p.x.A x.p.x.n x.p.x.c, .slice x.p.y.A x.p.y.n x.p.y.c, .slice x.p.z.A x.p.z.n x.p.z.c, .slice x.s.A x.s.n x.s.c, .int .i64 x.t, .int .i64 x.q])
  have hsz := r3.2.2.2.1
  have le3 : 0 ≤ len3 x.p ∧ len3 x.p ≤ 2097152 := by unfold len3; omega
  have e := hide (show k0 + lenS x = k0 + len3 x.p + x.s.n by unfold lenS; omega)
  have ls := rs.le
  obtain ⟨q0, q1, q2, q3, q4, q5⟩ := hB.c6
  have hh := heldPanel_any x.p k0 _ (r3.ext hX0) h0 h1
  have hrs : Rd w x.s.A x.s.n (upL (k0 + len3 x.p) x.s.n) := rs
  obtain ⟨u, hu⟩ : ∃ u, u = k0 + len3 x.p := ⟨_, rfl⟩
  rw [← hu] at hh hrs
  have u0 : 0 ≤ u := by omega
  have u1 : u ≤ 200000000 := by omega
  have hi := heldInt64S_any x.s u
  obtain ⟨v, hv⟩ : ∃ v, v = u + (x.s.n : Int) := ⟨_, rfl⟩
  have v0 : 0 ≤ v := by omega
  rw [← hv] at hi
  have E := hide (show k0 + lenS x = v by rw [e.out, hv, hu])
  clear hu hv
  go_enter Try.func28, Try.ntmps28
  go_wp2_with fail
  refine hh.mono ?_
  rintro e w1 ⟨rfl, hx1⟩
  clear q0 q1 q2 q3 q4 q5
  obtain ⟨q0, q1, q2, q3, q4, q5⟩ := (hB.ext hx1).c6
  go_wp2_with fail
  refine (hi _ (hrs.ext (hX0.trans hx1)) (by omega) (by omega)).mono ?_
  rintro e w' ⟨rfl, rfl⟩
  go_wp2
  go_ret
  exact ⟨by rw [E.out]; rfl, hX0.trans hx1⟩
section
variable {H : Type} {enc : TypeId × Value → H} {w : World} {spare : Nat → Bool} {held : Bool}
theorem array6 {α : Type} {cs : Array α} (h : cs.size = 6) : ∃ c0 c1 c2 c3 c4 c5, cs = #[c0, c1, c2, c3, c4, c5] := by
  obtain ⟨l⟩ := cs
  match l, h with
  | [c0, c1, c2, c3, c4, c5], _ => exact ⟨c0, c1, c2, c3, c4, c5, rfl⟩
theorem open_Selection {v : Value} {d : DataW H} {ps : List MemPlace} {r : Reach} {b0 : Nat} (hv : Value.okWide Try.prog w r b0 39 v) (h : DataW.Trod enc Try.prog w 0 spare held 39 v d ps) (hsp : ∀ b, spare b = true) :
    ∃ (x : SelA) (y : SelL), v = .agg #[.slice x.p.x.A x.p.x.n x.p.x.c, .slice x.p.y.A x.p.y.n x.p.y.c, .slice x.p.z.A x.p.z.n x.p.z.c, .slice x.s.A x.s.n x.s.c, .int .i64 x.t, .int .i64 x.q] ∧ InS w x y := by
  obtain ⟨cs, rfl, hsz⟩ := okWide_struct Try.underlying39 hv
  obtain ⟨c0, c1, c2, c3, c4, c5, rfl⟩ := array6 (hsz.trans (by kernel_rfl : Program.cellsOf Try.prog 39 = 6))
  obtain ⟨fuel, hf⟩ := h
  obtain ⟨y0, y1, y2, y3, n, hx, _, h0, h1, h2, h3⟩ := trod_struct4 Try.underlying39 hf
  have e3 : Program.cellsOf Try.prog 33 = 3 := by kernel_rfl
  have e1 : Program.cellsOf Try.prog 22 = 1 := by kernel_rfl
  have e2 : Program.cellsOf Try.prog 2 = 1 := by kernel_rfl
  simp [Value.cells, e3, e1, e2] at h0 h1 h2 h3
  obtain ⟨z0, z1, z2, m, hx', _, g0, g1, g2⟩ := Go.Deep.trod_struct3 Try.underlying33 h0
  simp [e1] at g0 g1 g2
  obtain ⟨s0, x0, rfl, i0⟩ := open_sl g0 hsp
  obtain ⟨s1, x1, rfl, i1⟩ := open_sl g1 hsp
  obtain ⟨s2, x2, rfl, i2⟩ := open_sl g2 hsp
  obtain ⟨s3, x3, rfl, i3⟩ := open_sl h1 hsp
  obtain ⟨a0, hc1, _⟩ := DataW.trod_int Try.underlying2 h2
  obtain ⟨b0', hc2, _⟩ := DataW.trod_int Try.underlying2 h3
  cases hc1
  cases hc2
  exact ⟨⟨⟨s0, s1, s2⟩, s3, a0, b0'⟩, ⟨⟨x0, x1, x2⟩, x3, a0, b0'⟩, rfl, ⟨i0, i1, i2⟩, i3, rfl, rfl⟩
end
end Go.Proofs.Ytfaiigihdokpjaa.mem
