/-
  Contracts of both programs' FirstBadMove, ReplayRecord, IsTrueJury.
-/
import Derived.Test.YtofglgfjlbehmaaGreatMg13
import Derived.Test.YtofglgfjlbehmaaGreatSwear
namespace Go.Proofs.YtofglgfjlbehmaaGreat.mem
open Go.ChangeShapes Go.WideShapes Go.ChangeAt Go.RowKit

def fbm (ts : List Ti) (us : List ByteArray) (y : RecL) : Int × Int × Int :=
  if poC ts us y = 0 then (if (rpG ts us y).2.2 = 0 then (0, 0, 4) else ((rpG ts us y).2.1, (rpG ts us y).2.2, 0)) else (0, 0, 1)
def jyC (ts : List Ti) (us : List ByteArray) (y : RecL) : Int := if (rpG ts us y).2.2 = 0 then (if swC (rpG ts us y).1.p y.e y.f = 0 then 0 else 4) else 5
def jyV (ts : List Ti) (us : List ByteArray) (y : RecL) : L3 := if jyC ts us y = 0 then swV (rpG ts us y).1.p y.e y.f else nilL3
def rrC (ts : List Ti) (us : List ByteArray) (y : RecL) : Int := if poC ts us y = 0 then jyC ts us y else 1
def rrV (ts : List Ti) (us : List ByteArray) (y : RecL) : L3 := if poC ts us y = 0 then jyV ts us y else nilL3
def tjB (ts : List Ti) (us : List ByteArray) (y : RecL) (l : L3) : Bool :=
  decide (poC ts us y = 0) && (decide (jyC ts us y = 0) && (cmt y.b y.c == y.a) && decide ((jyV ts us y).x = l.x) && decide ((jyV ts us y).y = l.y) && decide ((jyV ts us y).z = l.z))
theorem jy_0 {ts : List Ti} {us : List ByteArray} {y : RecL} {g1 : SelL} {g2 : Nat} (h : rpG ts us y = (g1, g2, 0)) (hs : swC g1.p y.e y.f = 0) : jyC ts us y = 0 ∧ jyV ts us y = swV g1.p y.e y.f := by
  have e : jyC ts us y = 0 := by unfold jyC; rw [h]; simp only [hs, if_true]
  refine ⟨e, ?_⟩
  unfold jyV
  rw [e, h, if_pos rfl]
theorem jy_4 {ts : List Ti} {us : List ByteArray} {y : RecL} {g1 : SelL} {g2 : Nat} (h : rpG ts us y = (g1, g2, 0)) (hs : swC g1.p y.e y.f ≠ 0) : jyC ts us y = 4 ∧ jyV ts us y = nilL3 := by
  have e : jyC ts us y = 4 := by unfold jyC; rw [h]; simp only [if_neg hs, if_true]
  refine ⟨e, ?_⟩
  unfold jyV
  rw [e, if_neg (by decide)]
theorem jy_5 {ts : List Ti} {us : List ByteArray} {y : RecL} {g1 : SelL} {g2 : Nat} {g3 : Int} (h : rpG ts us y = (g1, g2, g3)) (hs : g3 ≠ 0) : jyC ts us y = 5 ∧ jyV ts us y = nilL3 := by
  have e : jyC ts us y = 5 := by unfold jyC; rw [h]; simp only [if_neg hs]
  refine ⟨e, ?_⟩
  unfold jyV
  rw [e, if_neg (by decide)]
theorem poC_no {ts : List Ti} {us : List ByteArray} {y : RecL} (hb : (okR y && okK ts us) = false) : poC ts us y = 1 := by
  unfold poC
  rw [if_neg]
  rintro ⟨h1, h2⟩
  rw [h1, h2] at hb
  cases hb
theorem poC_yes {ts : List Ti} {us : List ByteArray} {y : RecL} (hb : okR y = true ∧ okK ts us = true) : poC ts us y = 0 := by
  unfold poC
  rw [if_pos hb]
theorem poC_or (ts : List Ti) (us : List ByteArray) (y : RecL) : (poC ts us y = 1 ∧ (okR y && okK ts us) = false) ∨ (poC ts us y = 0 ∧ okR y = true ∧ okK ts us = true) := by
  cases hb : (okR y && okK ts us)
  · exact .inl ⟨poC_no hb, rfl⟩
  · rw [Bool.and_eq_true] at hb
    exact .inr ⟨poC_yes hb, hb⟩

/-- what the play on copies has brought: its selection in a block of its own -/
def RpPost (w1 : World) (g1 : SelL) (g2 : Nat) (g3 : Int) (s8 s9 s10 : Value) (wx : World) : Prop :=
  ∃ (g : Nat) (z : SelA), s8 = .pointer (some ⟨g, 0, none⟩) ∧ s9 = .int .i64 g2 ∧ s10 = .int .i64 g3 ∧ Blk wx g 70 #[.slice z.p.x.A z.p.x.n z.p.x.c, .slice z.p.y.A z.p.y.n z.p.y.c, .slice z.p.z.A z.p.z.n z.p.z.c, .slice z.s.A z.s.n z.s.c, .int .i64 z.t, .int .i64 z.q] ∧ OwnS wx w1.heap.size z g1 ∧ Ext w1 wx
theorem RpPost.new {w1 w3 : World} {g1 : SelL} {g2 : Nat} {g3 : Int} {lo : Nat} {z : SelA} (hE : Ext w1 w3) (oz : OwnS w3 lo z g1) (hl : w1.heap.size ≤ lo) :
    RpPost w1 g1 g2 g3 (.pointer (some ⟨w3.heap.size, 0, none⟩)) (.int .i64 g2) (.int .i64 g3) (w3.alloc (.cells #[.slice z.p.x.A z.p.x.n z.p.x.c, .slice z.p.y.A z.p.y.n z.p.y.c, .slice z.p.z.A z.p.z.n z.p.z.c, .slice z.s.A z.s.n z.s.c, .int .i64 z.t, .int .i64 z.q] 70)) :=
  ⟨_, z, rfl, rfl, rfl, Blk.new _ _ _, (oz.mono hl).alloc _, hE.alloc _⟩
theorem RpPost.old {w1 w3 : World} {g1 : SelL} {g2 g : Nat} {g3 : Int} {lo : Nat} {z : SelA} (hE : Ext w1 w3) (oz : OwnS w3 lo z g1) (hl : w1.heap.size ≤ lo) (hO : Blk w3 g 70 #[.slice none 0 0, .slice none 0 0, .slice none 0 0, .slice none 0 0, .int .i64 0, .int .i64 0]) (hg : g < lo) (hg1 : w1.heap.size ≤ g) :
    RpPost w1 g1 g2 g3 (.pointer (some ⟨g, 0, none⟩)) (.int .i64 g2) (.int .i64 g3) ((((((w3.setCell ⟨g, 0, none⟩ (.slice z.p.x.A z.p.x.n z.p.x.c)).setCell ⟨g, 1, none⟩ (.slice z.p.y.A z.p.y.n z.p.y.c)).setCell ⟨g, 2, none⟩ (.slice z.p.z.A z.p.z.n z.p.z.c)).setCell ⟨g, 3, none⟩ (.slice z.s.A z.s.n z.s.c)).setCell ⟨g, 4, none⟩ (.int .i64 z.t)).setCell ⟨g, 5, none⟩ (.int .i64 z.q)) :=
  have ha : ∀ k, blksS z k → k ≠ g := fun k hk e => by have := (oz.lt hk).1; omega
  ⟨g, z, rfl, rfl, rfl, hO.set6 _ _ _ _ _ _, ((((((oz.mono hl).away ha 0 _).away ha 1 _).away ha 2 _).away ha 3 _).away ha 4 _).away ha 5 _,
    (((((hE.off g 0 (by omega) _).off g 1 (by omega) _).off g 2 (by omega) _).off g 3 (by omega) _).off g 4 (by omega) _).off g 5 (by omega) _⟩
theorem spec.l01Same_any (s s' : Sl) (xs ys : List Int) (w : World) (hr : Rd w s.A s.n xs) (hr' : Rd w s'.A s'.n ys) :
    Calls Tryz.prog 37 #[.slice s.A s.n s.c, .slice s'.A s'.n s'.c] w fun e w' => ∃ q, e = .returned (.bool (decide (xs = ys))) ∧ w' = w.drewN q := by
  obtain ⟨A, n, c⟩ := s
  obtain ⟨A', n', c'⟩ := s'
  simp only at hr hr' ⊢
  have hn := hr.le
  have hn' := hr'.le
  by_cases hl : n = n'
  · have hl2 : ((n : Int) != n') = false := by simp [hl]
    subst hl
    go_enter Tryz.func37, Tryz.ntmps37
    go_wp2
    go_loopw [5] (fun i wr => ∃ k q : Nat, k ≤ n ∧ i = .int .i64 k ∧ wr = w.drewN q ∧ Hid (xs.take k = ys.take k)) (fun i _ => n - (intOf i).toNat)
    case atStart => exact ⟨0, 0, by omega, rfl, rfl, hide rfl⟩
    case round =>
      obtain ⟨k, q, hk, rfl, rfl, ht⟩ := hrel
      by_cases hlt : k < n
      · obtain ⟨b, off, x, rfl, hbl, hc1, hx⟩ := hr.el hlt
        obtain ⟨b', off', y, rfl, hbl', hc1', hy⟩ := hr'.el hlt
        by_cases he : x = y
        · subst he
          go_wp2
          go_region
          all_goals go_wp2
          all_goals go_roundw
          all_goals first | (case rel => exact ⟨k + 1, q + 1, by omega, by go_num, by simp, hide (by rw [take_more hx.out, take_more hy.out, ht.out])⟩) | (case measure => simp [intOf]; omega)
        · have hne : (x != y) = true := by simpa using he
          go_wp2
          go_region
          all_goals go_wp2
          all_goals go_ret
          all_goals exact ⟨q + 1, by rw [decide_eq_false (fun e : xs = ys => he (by have h1 := hx.out; have h2 := hy.out; rw [e, h2] at h1; injection h1 with h1; exact h1.symm))]; rfl, by simp⟩
      · go_wp2
        go_ret
        have hx : k = xs.length := by have := hr.1; omega
        have hy : k = ys.length := by have := hr'.1; omega
        have ht2 := ht.out
        rw [hx, List.take_length, ← hx, hy, List.take_length] at ht2
        exact ⟨q, by rw [decide_eq_true ht2]; rfl, rfl⟩
  · have hl2 : ((n : Int) != n') = true := by simp; omega
    go_enter Tryz.func37, Tryz.ntmps37
    go_wp2
    go_ret
    exact ⟨0, by rw [decide_eq_false (fun e => hl (by rw [hr.1, hr'.1, e]))]; rfl, rfl⟩
theorem spec.l01Same_ext (s s' : Sl) (xs ys : List Int) (w : World) (hr : Rd w s.A s.n xs) (hr' : Rd w s'.A s'.n ys) :
    Calls Tryz.prog 37 #[.slice s.A s.n s.c, .slice s'.A s'.n s'.c] w fun e w' => e = .returned (.bool (decide (xs = ys))) ∧ Ext w w' :=
  (spec.l01Same_any s s' xs ys w hr hr').mono fun e w' ⟨q, he, hw⟩ => ⟨he, by subst hw; exact (Ext.refl w).drewN q⟩
theorem impl.same_any (s s' : Sl) (xs ys : List Int) (w : World) (hr : Rd w s.A s.n xs) (hr' : Rd w s'.A s'.n ys) :
    Calls Tryz.prog 33 #[.slice s.A s.n s.c, .slice s'.A s'.n s'.c] w fun e w' => ∃ q, e = .returned (.bool (decide (xs = ys))) ∧ w' = w.drewN q := by
  obtain ⟨A, n, c⟩ := s
  obtain ⟨A', n', c'⟩ := s'
  simp only at hr hr' ⊢
  have hn := hr.le
  have hn' := hr'.le
  by_cases hl : n = n'
  · have hl2 : ((n : Int) != n') = false := by simp [hl]
    subst hl
    go_enter Tryz.func33, Tryz.ntmps33
    go_wp2
    go_loopw [5, 13] (fun _ i wr => ∃ k q : Nat, k ≤ n ∧ i = .int .i64 k ∧ wr = w.drewN q ∧ Hid (xs.take k = ys.take k)) (fun _ i _ => n - (intOf i).toNat)
    case atStart => exact ⟨0, 0, by omega, rfl, rfl, hide rfl⟩
    case round =>
      obtain ⟨k, q, hk, rfl, rfl, ht⟩ := hrel
      by_cases hlt : k < n
      · obtain ⟨b, off, x, rfl, hbl, hc1, hx⟩ := hr.el hlt
        obtain ⟨b', off', y, rfl, hbl', hc1', hy⟩ := hr'.el hlt
        by_cases he : x = y
        · subst he
          go_wp2
          go_region
          all_goals go_wp2
          all_goals go_roundw
          all_goals first | (case rel => exact ⟨k + 1, q + 1, by omega, by go_num, by simp, hide (by rw [take_more hx.out, take_more hy.out, ht.out])⟩) | (case measure => simp [intOf]; omega)
        · have hne : (x != y) = true := by simpa using he
          go_wp2
          go_region
          all_goals go_wp2
          all_goals go_ret
          all_goals exact ⟨q + 1, by rw [decide_eq_false (fun e : xs = ys => he (by have h1 := hx.out; have h2 := hy.out; rw [e, h2] at h1; injection h1 with h1; exact h1.symm))]; rfl, by simp⟩
      · go_wp2
        go_ret
        have hx : k = xs.length := by have := hr.1; omega
        have hy : k = ys.length := by have := hr'.1; omega
        have ht2 := ht.out
        rw [hx, List.take_length, ← hx, hy, List.take_length] at ht2
        exact ⟨q, by rw [decide_eq_true ht2]; rfl, rfl⟩
  · have hl2 : ((n : Int) != n') = true := by simp; omega
    go_enter Tryz.func33, Tryz.ntmps33
    go_wp2
    go_ret
    exact ⟨0, by rw [decide_eq_false (fun e => hl (by rw [hr.1, hr'.1, e]))]; rfl, rfl⟩
theorem impl.same_ext (s s' : Sl) (xs ys : List Int) (w : World) (hr : Rd w s.A s.n xs) (hr' : Rd w s'.A s'.n ys) :
    Calls Tryz.prog 33 #[.slice s.A s.n s.c, .slice s'.A s'.n s'.c] w fun e w' => e = .returned (.bool (decide (xs = ys))) ∧ Ext w w' :=
  (impl.same_any s s' xs ys w hr hr').mono fun e w' ⟨q, he, hw⟩ => ⟨he, by subst hw; exact (Ext.refl w).drewN q⟩
set_option maxHeartbeats 2500000 in
theorem impl.FirstBadMove_any (x : RecA) (y : RecL) (s : Sl) (ts : List Ti) (q : Sl) (us : List ByteArray) (w : World) (hr : RdR w x y) (ht : RdT w s.A s.n ts) (hq : RdW w q.A q.n us) (hc : cap1 s) :
    Calls Tryz.prog 13 #[.agg #[.int .i64 x.a, .int .i64 x.b, .int .i64 x.c, .slice x.p.x.A x.p.x.n x.p.x.c, .int .i64 x.d, .slice x.p.y.A x.p.y.n x.p.y.c, .slice x.p.z.A x.p.z.n x.p.z.c, .int .i64 x.e, .int .i64 x.f], .slice s.A s.n s.c, .slice q.A q.n q.c] w fun e w' => e = .returned (.tuple #[.int .i64 (fbm ts us y).1, .int .i64 (fbm ts us y).2.1, .int .i64 (fbm ts us y).2.2]) ∧ Ext w w' := by
  have hX0 := (Ext.refl w).alloc (.cells #[.int .i64 x.a, .int .i64 x.b, .int .i64 x.c, .slice x.p.x.A x.p.x.n x.p.x.c, .int .i64 x.d, .slice x.p.y.A x.p.y.n x.p.y.c, .slice x.p.z.A x.p.z.n x.p.z.c, .int .i64 x.e, .int .i64 x.f] 26)
  have hB0 := Blk.new w 26 (#[.int .i64 x.a, .int .i64 x.b, .int .i64 x.c, .slice x.p.x.A x.p.x.n x.p.x.c, .int .i64 x.d, .slice x.p.y.A x.p.y.n x.p.y.c, .slice x.p.z.A x.p.z.n x.p.z.c, .int .i64 x.e, .int .i64 x.f])
  obtain ⟨q0, q1, q2, q3, q4, q5, q6, q7, q8⟩ := hB0.c9
  have hk := impl.recordOk_any x y s ts q us _ (hr.ext hX0) (ht.ext hX0) (hq.ext hX0) hc
  rcases poC_or ts us y with ⟨hp, hb⟩ | ⟨hp, hok, hkk⟩
  · have E := hide (show fbm ts us y = (0, 0, 1) by unfold fbm; rw [hp]; rfl)
    rw [hb] at hk
    clear hp hb
    go_enter Tryz.func13, Tryz.ntmps13
    go_wp2_with fail
    refine hk.mono ?_
    rintro e w1 ⟨rfl, hx1⟩
    go_wp2
    refine bodyPost_ret (v := .tuple #[.int .i64 0, .int .i64 0, .int .i64 1]) (by simp [results, Tryz.results13, go_sem]) rfl ⟨by rw [E.out], hX0.trans hx1⟩
  · rw [hok, hkk] at hk
    have hpl := fun W h1 h2 h3 => impl.played_any x y s ts q us W h1 h2 h3 hok hkk
    obtain ⟨g1, g2, g3, hg⟩ : ∃ g1 g2 g3, Hid (rpG ts us y = (g1, g2, g3)) := ⟨_, _, _, rfl⟩
    simp only [hg.out] at hpl
    have E := hide (show fbm ts us y = if g3 = 0 then (0, 0, 4) else ((g2 : Int), g3, 0) by unfold fbm; rw [hp, hg.out]; rfl)
    clear hg hp hok hkk
    go_enter Tryz.func13, Tryz.ntmps13
    go_wp2_with fail
    refine hk.mono ?_
    rintro e w1 ⟨rfl, hx1⟩
    have hX1 := hX0.trans hx1
    clear q0 q1 q2 q3 q4 q5 q6 q7 q8
    obtain ⟨q0, q1, q2, q3, q4, q5, q6, q7, q8⟩ := (hB0.ext hx1).c9
    by_cases h0 : g3 = 0
    · subst h0
      go_wp2_with fail
      refine (hpl _ (hr.ext hX1) (ht.ext hX1) (hq.ext hX1)).mono ?_
      rintro e w2 ⟨z, rfl, oz, hx2⟩
      go_wp2
      refine bodyPost_ret (v := .tuple #[.int .i64 0, .int .i64 0, .int .i64 4]) (by simp [results, Tryz.results13, go_sem]) rfl ⟨by rw [E.out]; rfl, (hX1.trans hx2).alloc _⟩
    · have hn0 : (g3 == 0) = false := by simpa using h0
      rw [if_neg h0] at E
      clear h0
      go_wp2_with fail
      refine (hpl _ (hr.ext hX1) (ht.ext hX1) (hq.ext hX1)).mono ?_
      rintro e w2 ⟨z, rfl, oz, hx2⟩
      go_wp2
      refine bodyPost_ret (v := .tuple #[.int .i64 g2, .int .i64 g3, .int .i64 0]) (by simp [results, Tryz.results13, go_sem]) rfl ⟨by rw [E.out], (hX1.trans hx2).alloc _⟩
set_option maxHeartbeats 4000000 in
theorem spec.FirstBadMove_any (x : RecA) (y : RecL) (s : Sl) (ts : List Ti) (q : Sl) (us : List ByteArray) (w : World) (hr : RdR w x y) (ht : RdT w s.A s.n ts) (hq : RdW w q.A q.n us) :
    Calls Tryz.prog 14 #[.agg #[.int .i64 x.a, .int .i64 x.b, .int .i64 x.c, .slice x.p.x.A x.p.x.n x.p.x.c, .int .i64 x.d, .slice x.p.y.A x.p.y.n x.p.y.c, .slice x.p.z.A x.p.z.n x.p.z.c, .int .i64 x.e, .int .i64 x.f], .slice s.A s.n s.c, .slice q.A q.n q.c] w fun e w' => e = .returned (.tuple #[.int .i64 (fbm ts us y).1, .int .i64 (fbm ts us y).2.1, .int .i64 (fbm ts us y).2.2]) ∧ Ext w w' := by
  have hX0 := (Ext.refl w).alloc (.cells #[.int .i64 x.a, .int .i64 x.b, .int .i64 x.c, .slice x.p.x.A x.p.x.n x.p.x.c, .int .i64 x.d, .slice x.p.y.A x.p.y.n x.p.y.c, .slice x.p.z.A x.p.z.n x.p.z.c, .int .i64 x.e, .int .i64 x.f] 26)
  have hB0 := Blk.new w 26 (#[.int .i64 x.a, .int .i64 x.b, .int .i64 x.c, .slice x.p.x.A x.p.x.n x.p.x.c, .int .i64 x.d, .slice x.p.y.A x.p.y.n x.p.y.c, .slice x.p.z.A x.p.z.n x.p.z.c, .int .i64 x.e, .int .i64 x.f])
  obtain ⟨q0, q1, q2, q3, q4, q5, q6, q7, q8⟩ := hB0.c9
  have hk := spec.l16Code_any x y s ts q us _ (hr.ext hX0) (ht.ext hX0) (hq.ext hX0)
  rcases poC_or ts us y with ⟨hp, hb⟩ | ⟨hp, hok, hkk⟩
  · have E := hide (show fbm ts us y = (0, 0, 1) by unfold fbm; rw [hp]; rfl)
    rw [hp] at hk
    clear hp hb
    go_enter Tryz.func14, Tryz.ntmps14
    go_wp2_with fail
    refine hk.mono ?_
    rintro e w1 ⟨rfl, hx1⟩
    go_wp2
    refine bodyPost_ret (v := .tuple #[.int .i64 0, .int .i64 0, .int .i64 1]) (by simp [results, Tryz.results14, go_sem]) rfl ⟨by rw [E.out], hX0.trans hx1⟩
  · rw [hp] at hk
    have hpm := hide (pmR_bg hok hkk)
    obtain ⟨g1, g2, g3, hg⟩ : ∃ g1 g2 g3, Hid (rpG ts us y = (g1, g2, g3)) := ⟨_, _, _, rfl⟩
    rw [hg.out] at hpm
    have E := hide (show fbm ts us y = if g3 = 0 then (0, 0, 4) else ((g2 : Int), g3, 0) by unfold fbm; rw [hp, hg.out]; rfl)
    clear hg hp hkk
    go_enter Tryz.func14, Tryz.ntmps14
    go_wp2_with fail
    refine hk.mono ?_
    rintro e w1 ⟨rfl, hx1⟩
    have hX := hX0.trans hx1
    have hB := hB0.ext hx1
    have z1 := hx1.size
    simp only [World.size_alloc] at z1
    clear q0 q1 q2 q3 q4 q5 q6 q7 q8 hk hB0 hx1 hX0
    obtain ⟨q0, q1, q2, q3, q4, q5, q6, q7, q8⟩ := hB.c9
    have hGo : ∀ (T : Prop), True := fun _ => trivial
    clear hGo
    by_cases h0 : g3 = 0
    case' neg =>
      have hn0 : (g3 == 0) = false := by simpa using h0
      rw [if_neg h0] at E
      clear h0
    case' pos => subst h0
    all_goals go_wp2_with fail
    all_goals go_region_held3 (fun w' => w'.cell? ⟨w.heap.size, 0, none⟩ = some (.int .i64 x.a) ∧ w'.cell? ⟨w.heap.size, 1, none⟩ = some (.int .i64 x.b) ∧ w'.cell? ⟨w.heap.size, 2, none⟩ = some (.int .i64 x.c) ∧ w'.cell? ⟨w.heap.size, 3, none⟩ = some (.slice x.p.x.A x.p.x.n x.p.x.c) ∧ w'.cell? ⟨w.heap.size, 4, none⟩ = some (.int .i64 x.d) ∧ w'.cell? ⟨w.heap.size, 5, none⟩ = some (.slice x.p.y.A x.p.y.n x.p.y.c) ∧ w'.cell? ⟨w.heap.size, 6, none⟩ = some (.slice x.p.z.A x.p.z.n x.p.z.c) ∧ w'.cell? ⟨w.heap.size, 7, none⟩ = some (.int .i64 x.e) ∧ w'.cell? ⟨w.heap.size, 8, none⟩ = some (.int .i64 x.f)) (first | (with_reducible exact kk2) | (with_reducible exact (ka3 _)) | (with_reducible exact kk1) | (with_reducible exact ((((((hB.off _ 0 (by omega) _).off _ 1 (by omega) _).off _ 2 (by omega) _).off _ 3 (by omega) _).off _ 4 (by omega) _).off _ 5 (by omega) _).c9) | go_keep) (first | (go_at_call 43; refine (spec.l16Begin_any x y s ts q us _ (hr.ext (by first | exact hX.drew | exact (hX.alloc _).drew | fail)) (ht.ext (by first | exact hX.drew | exact (hX.alloc _).drew | fail)) (hq.ext (by first | exact hX.drew | exact (hX.alloc _).drew | fail)) hok).mono ?_; rintro e w2 ⟨zb, rfl, ob, hx⟩; have hE : Ext w1 w2 := Ext.trans (by first | exact (Ext.refl _).drew | exact ((Ext.refl _).alloc _).drew | fail) hx; have z2 := hE.size; have zs2 := hx.size; (try simp at zs2); replace hX := hX.trans hE; replace hB := hB.ext hE; (try have hO : Blk w2 (w1.heap.size) 70 #[.slice none 0 0, .slice none 0 0, .slice none 0 0, .slice none 0 0, .int .i64 0, .int .i64 0] := Blk.ext (by first | with_reducible exact (Blk.new _ _ _).drew | fail) hx); have kk1 := hB.c9; have hE2 := hE; clear hx hE) | (go_at_call 47; refine (spec.PlayMoves_any zb (bgL ts us y) x.p.z y.p.z _ (OwnS.rd (ob.ext (by first | exact Ext.refl _ | exact (Ext.refl _).alloc _ | fail))) (hr.ext (by first | exact hX | exact hX.alloc _ | fail)).1.2.2.1).mono ?_; rewrite [hpm.out]; rintro e w3 ⟨z, rfl, oz, hx⟩; have hE : Ext w2 w3 := Ext.trans (by first | exact Ext.refl _ | exact (Ext.refl _).alloc _ | fail) hx; have z3 := hE.size; have zs3 := hx.size; (try simp at zs3); replace hX := hX.trans hE; replace hB := hB.ext hE; (try have hO := Blk.ext hO hE); (try have hO : Blk w3 (w2.heap.size) 70 #[.slice none 0 0, .slice none 0 0, .slice none 0 0, .slice none 0 0, .int .i64 0, .int .i64 0] := Blk.ext (by first | with_reducible exact Blk.new _ _ _ | fail) hx); (try obtain ⟨so0, so1, so2, so3, so4, so5⟩ := hO.c6); (try have sy0 := hO.frozen 0); (try have sy1 := hO.frozen 1); (try have sy2 := hO.frozen 2); (try have sy3 := hO.frozen 3); (try have sy4 := hO.frozen 4); (try have sy5 := hO.frozen 5); have kk2 := hB.c9; have ka3 := (fun (o : Obj) => (show (w3.alloc o).cell? ⟨w.heap.size, 0, none⟩ = some (.int .i64 x.a) ∧ (w3.alloc o).cell? ⟨w.heap.size, 1, none⟩ = some (.int .i64 x.b) ∧ (w3.alloc o).cell? ⟨w.heap.size, 2, none⟩ = some (.int .i64 x.c) ∧ (w3.alloc o).cell? ⟨w.heap.size, 3, none⟩ = some (.slice x.p.x.A x.p.x.n x.p.x.c) ∧ (w3.alloc o).cell? ⟨w.heap.size, 4, none⟩ = some (.int .i64 x.d) ∧ (w3.alloc o).cell? ⟨w.heap.size, 5, none⟩ = some (.slice x.p.y.A x.p.y.n x.p.y.c) ∧ (w3.alloc o).cell? ⟨w.heap.size, 6, none⟩ = some (.slice x.p.z.A x.p.z.n x.p.z.c) ∧ (w3.alloc o).cell? ⟨w.heap.size, 7, none⟩ = some (.int .i64 x.e) ∧ (w3.alloc o).cell? ⟨w.heap.size, 8, none⟩ = some (.int .i64 x.f) from (hB.alloc o).c9)); have hE3 := hE; clear hx hE))
    all_goals go_wp2
    all_goals first
      | refine bodyPost_ret (v := .tuple #[.int .i64 0, .int .i64 0, .int .i64 4]) (by simp [results, Tryz.results14, go_sem]) rfl ⟨by rw [E.out]; rfl, ?_⟩
      | refine bodyPost_ret (v := .tuple #[.int .i64 g2, .int .i64 g3, .int .i64 0]) (by simp [results, Tryz.results14, go_sem]) rfl ⟨by rw [E.out], ?_⟩
    all_goals first | with_reducible exact hX.alloc _ | with_reducible exact ((((((hX.off _ 0 (by omega) _).off _ 1 (by omega) _).off _ 2 (by omega) _).off _ 3 (by omega) _).off _ 4 (by omega) _).off _ 5 (by omega) _) | fail
set_option maxRecDepth 20000 in
set_option maxHeartbeats 2500000 in
theorem impl.jury_any (x : RecA) (y : RecL) (s : Sl) (ts : List Ti) (q : Sl) (us : List ByteArray) (w : World) (hr : RdR w x y) (ht : RdT w s.A s.n ts) (hq : RdW w q.A q.n us) (hok : okR y = true) (hkk : okK ts us = true) :
    Calls Tryz.prog 31 #[.agg #[.int .i64 x.a, .int .i64 x.b, .int .i64 x.c, .slice x.p.x.A x.p.x.n x.p.x.c, .int .i64 x.d, .slice x.p.y.A x.p.y.n x.p.y.c, .slice x.p.z.A x.p.z.n x.p.z.c, .int .i64 x.e, .int .i64 x.f], .slice s.A s.n s.c, .slice q.A q.n q.c] w fun e w' => ∃ t : S3, e = .returned (.tuple #[.agg #[.slice t.x.A t.x.n t.x.c, .slice t.y.A t.y.n t.y.c, .slice t.z.A t.z.n t.z.c], .int .i64 (jyC ts us y)]) ∧ Own3 w' w.heap.size t (jyV ts us y) ∧ Ext w w' := by
  have hX0 := ((Ext.refl w).alloc (.cells #[.int .i64 x.a, .int .i64 x.b, .int .i64 x.c, .slice x.p.x.A x.p.x.n x.p.x.c, .int .i64 x.d, .slice x.p.y.A x.p.y.n x.p.y.c, .slice x.p.z.A x.p.z.n x.p.z.c, .int .i64 x.e, .int .i64 x.f] 26)).alloc (.cells #[.slice none 0 0, .slice none 0 0, .slice none 0 0] 30)
  have hB0 := (Blk.new w 26 (#[.int .i64 x.a, .int .i64 x.b, .int .i64 x.c, .slice x.p.x.A x.p.x.n x.p.x.c, .int .i64 x.d, .slice x.p.y.A x.p.y.n x.p.y.c, .slice x.p.z.A x.p.z.n x.p.z.c, .int .i64 x.e, .int .i64 x.f])).alloc (.cells #[.slice none 0 0, .slice none 0 0, .slice none 0 0] 30)
  have hR0 := Blk.new (w.alloc (.cells #[.int .i64 x.a, .int .i64 x.b, .int .i64 x.c, .slice x.p.x.A x.p.x.n x.p.x.c, .int .i64 x.d, .slice x.p.y.A x.p.y.n x.p.y.c, .slice x.p.z.A x.p.z.n x.p.z.c, .int .i64 x.e, .int .i64 x.f] 26)) 30 (#[.slice none 0 0, .slice none 0 0, .slice none 0 0])
  rw [World.size_alloc] at hR0
  obtain ⟨q0, q1, q2, q3, q4, q5, q6, q7, q8⟩ := hB0.c9
  have hpl := fun W h1 h2 h3 => impl.played_any x y s ts q us W h1 h2 h3 hok hkk
  obtain ⟨g1, g2, g3, hg⟩ : ∃ g1 g2 g3, Hid (rpG ts us y = (g1, g2, g3)) := ⟨_, _, _, rfl⟩
  simp only [hg.out] at hpl
  have hee := hide (show x.e = y.e from hr.2.2.2.2.2.1)
  have hff := hide (show x.f = y.f from hr.2.2.2.2.2.2)
  clear hok hkk
  have hz0 : w.heap.size + 1 + 1 ≤ ((w.alloc (.cells #[.int .i64 x.a, .int .i64 x.b, .int .i64 x.c, .slice x.p.x.A x.p.x.n x.p.x.c, .int .i64 x.d, .slice x.p.y.A x.p.y.n x.p.y.c, .slice x.p.z.A x.p.z.n x.p.z.c, .int .i64 x.e, .int .i64 x.f] 26)).alloc (.cells #[.slice none 0 0, .slice none 0 0, .slice none 0 0] 30)).heap.size := by simp
  go_enter Tryz.func31, Tryz.ntmps31
  by_cases h0 : g3 = 0
  · subst h0
    go_wp2_with fail
    refine (hpl _ (hr.ext hX0) (ht.ext hX0) (hq.ext hX0)).mono ?_
    rintro e w2 ⟨z, rfl, oz, hx2⟩
    have hx3 := hx2.alloc (.cells #[.slice z.p.x.A z.p.x.n z.p.x.c, .slice z.p.y.A z.p.y.n z.p.y.c, .slice z.p.z.A z.p.z.n z.p.z.c, .slice z.s.A z.s.n z.s.c, .int .i64 z.t, .int .i64 z.q] 70)
    have hX3 := hX0.trans hx3
    have hR3 := hR0.ext hx3
    have hB3 := hB0.ext hx3
    have hS := Blk.new w2 70 (#[.slice z.p.x.A z.p.x.n z.p.x.c, .slice z.p.y.A z.p.y.n z.p.y.c, .slice z.p.z.A z.p.z.n z.p.z.c, .slice z.s.A z.s.n z.s.c, .int .i64 z.t, .int .i64 z.q])
    have oz3 := oz.alloc (.cells #[.slice z.p.x.A z.p.x.n z.p.x.c, .slice z.p.y.A z.p.y.n z.p.y.c, .slice z.p.z.A z.p.z.n z.p.z.c, .slice z.s.A z.s.n z.s.c, .int .i64 z.t, .int .i64 z.q] 70)
    have z2 := hx3.size
    clear q0 q1 q2 q3 q4 q5 q6 q7 q8
    obtain ⟨v0, v1, v2, v3, v4, v5⟩ := hS.c6
    obtain ⟨c, hcc⟩ : ∃ c, Hid (swC g1.p x.e x.f = c) := ⟨_, rfl⟩
    have hsw := fun W h => impl.SwearJury_any z.p g1.p x.e x.f W h
    simp only [hcc.out] at hsw
    obtain ⟨q0, q1, q2, q3, q4, q5, q6, q7, q8⟩ := hB3.c9
    by_cases c0 : c = 0
    · subst c0
      have EC := hide (jy_0 hg.out (show swC g1.p y.e y.f = 0 by rw [← hee.out, ← hff.out]; exact hcc.out)).1
      have EV := hide (show jyV ts us y = swV g1.p x.e x.f by rw [hee.out, hff.out]; exact (jy_0 hg.out (show swC g1.p y.e y.f = 0 by rw [← hee.out, ← hff.out]; exact hcc.out)).2)
      go_wp2_with fail
      refine (hsw _ oz3.rd.1).mono ?_
      rintro e w5 ⟨t, rfl, ot, hx5⟩
      have z5 := hx5.size
      have hJ := Blk.new w5 30 (#[.slice t.x.A t.x.n t.x.c, .slice t.y.A t.y.n t.y.c, .slice t.z.A t.z.n t.z.c])
      obtain ⟨j0, j1, j2⟩ := hJ.c3
      have hx6 := hx5.alloc (.cells #[.slice t.x.A t.x.n t.x.c, .slice t.y.A t.y.n t.y.c, .slice t.z.A t.z.n t.z.c] 30)
      have hX6 := hX3.trans hx6
      have hR6 := hR3.ext hx6
      have zR := hR3.lt
      have ot6 := Own3.mono (lo' := w.heap.size + 1 + 1) (ot.alloc (.cells #[.slice t.x.A t.x.n t.x.c, .slice t.y.A t.y.n t.y.c, .slice t.z.A t.z.n t.z.c] 30)) (by omega)
      clear hX0 hR0 hB0
      obtain ⟨r0, r1, r2, r3, r4, r5⟩ := res3 hR6
      have hRn := ((hR6.set_ 0 (.slice t.x.A t.x.n t.x.c)).set_ 1 (.slice t.y.A t.y.n t.y.c)).set_ 2 (.slice t.z.A t.z.n t.z.c)
      go_wp2
      obtain ⟨n0, n1', n2'⟩ := hRn.c3
      refine bodyPost_ret (v := .tuple #[.agg #[.slice t.x.A t.x.n t.x.c, .slice t.y.A t.y.n t.y.c, .slice t.z.A t.z.n t.z.c], .int .i64 0]) (by simp [results, Tryz.results31, go_sem, n0, n1', n2']) rfl ⟨t, by rw [EC.out], ?_, ((hX6.off (w.heap.size + 1) 0 (by omega) _).off (w.heap.size + 1) 1 (by omega) _).off (w.heap.size + 1) 2 (by omega) _⟩
      rw [EV.out]
      exact Own3.mono (((ot6.offP (w.heap.size + 1) 0 (by omega) _).offP (w.heap.size + 1) 1 (by omega) _).offP (w.heap.size + 1) 2 (by omega) _) (by omega)
    · have cn : (c != 0) = true := by simpa using c0
      have EC := hide (jy_4 hg.out (show swC g1.p y.e y.f ≠ 0 by rw [← hee.out, ← hff.out, hcc.out]; exact c0)).1
      have EV := hide (jy_4 hg.out (show swC g1.p y.e y.f ≠ 0 by rw [← hee.out, ← hff.out, hcc.out]; exact c0)).2
      clear c0
      go_wp2_with fail
      refine (hsw _ oz3.rd.1).mono ?_
      rintro e w5 ⟨t, rfl, ot, hx5⟩
      have z5 := hx5.size
      have hx6 := hx5.alloc (.cells #[.slice t.x.A t.x.n t.x.c, .slice t.y.A t.y.n t.y.c, .slice t.z.A t.z.n t.z.c] 30)
      have hX6 := hX3.trans hx6
      have hR6 := hR3.ext hx6
      clear hX0 hR0 hB0
      obtain ⟨r0, r1, r2, r3, r4, r5⟩ := res3 hR6
      have hRn := ((hR6.set_ 0 (.slice none 0 0)).set_ 1 (.slice none 0 0)).set_ 2 (.slice none 0 0)
      go_wp2
      obtain ⟨n0, n1', n2'⟩ := hRn.c3
      refine bodyPost_ret (v := .tuple #[.agg #[.slice nilJ.x.A nilJ.x.n nilJ.x.c, .slice nilJ.y.A nilJ.y.n nilJ.y.c, .slice nilJ.z.A nilJ.z.n nilJ.z.c], .int .i64 4]) (by simp [results, Tryz.results31, go_sem, nilJ, n0, n1', n2']) rfl ⟨nilJ, by rw [EC.out], by rw [EV.out]; exact Own3.nilJ _ _, ((hX6.off (w.heap.size + 1) 0 (by omega) _).off (w.heap.size + 1) 1 (by omega) _).off (w.heap.size + 1) 2 (by omega) _⟩
  · have hn0 : (g3 != 0) = true := by simpa using h0
    have EC := hide (jy_5 hg.out h0).1
    have EV := hide (jy_5 hg.out h0).2
    clear h0
    go_wp2_with fail
    refine (hpl _ (hr.ext hX0) (ht.ext hX0) (hq.ext hX0)).mono ?_
    rintro e w2 ⟨z, rfl, oz, hx2⟩
    have hx3 := hx2.alloc (.cells #[.slice z.p.x.A z.p.x.n z.p.x.c, .slice z.p.y.A z.p.y.n z.p.y.c, .slice z.p.z.A z.p.z.n z.p.z.c, .slice z.s.A z.s.n z.s.c, .int .i64 z.t, .int .i64 z.q] 70)
    have hX3 := hX0.trans hx3
    have hR3 := hR0.ext hx3
    clear hX0 hR0 hB0
    obtain ⟨r0, r1, r2, r3, r4, r5⟩ := res3 hR3
    have hRn := ((hR3.set_ 0 (.slice none 0 0)).set_ 1 (.slice none 0 0)).set_ 2 (.slice none 0 0)
    go_wp2
    obtain ⟨n0, n1', n2'⟩ := hRn.c3
    refine bodyPost_ret (v := .tuple #[.agg #[.slice nilJ.x.A nilJ.x.n nilJ.x.c, .slice nilJ.y.A nilJ.y.n nilJ.y.c, .slice nilJ.z.A nilJ.z.n nilJ.z.c], .int .i64 5]) (by simp [results, Tryz.results31, go_sem, nilJ, n0, n1', n2']) rfl ⟨nilJ, by rw [EC.out], by rw [EV.out]; exact Own3.nilJ _ _, ((hX3.off (w.heap.size + 1) 0 (by omega) _).off (w.heap.size + 1) 1 (by omega) _).off (w.heap.size + 1) 2 (by omega) _⟩
set_option maxRecDepth 20000 in
set_option maxHeartbeats 4000000 in
theorem spec.l16Replay_any (x : RecA) (y : RecL) (s : Sl) (ts : List Ti) (q : Sl) (us : List ByteArray) (w : World) (hr : RdR w x y) (ht : RdT w s.A s.n ts) (hq : RdW w q.A q.n us) (hok : okR y = true) (hkk : okK ts us = true) :
    Calls Tryz.prog 35 #[.agg #[.int .i64 x.a, .int .i64 x.b, .int .i64 x.c, .slice x.p.x.A x.p.x.n x.p.x.c, .int .i64 x.d, .slice x.p.y.A x.p.y.n x.p.y.c, .slice x.p.z.A x.p.z.n x.p.z.c, .int .i64 x.e, .int .i64 x.f], .slice s.A s.n s.c, .slice q.A q.n q.c] w fun e w' => ∃ t : S3, e = .returned (.tuple #[.agg #[.slice t.x.A t.x.n t.x.c, .slice t.y.A t.y.n t.y.c, .slice t.z.A t.z.n t.z.c], .int .i64 (jyC ts us y)]) ∧ Own3 w' w.heap.size t (jyV ts us y) ∧ Ext w w' := by
  have hX0 := ((Ext.refl w).alloc (.cells #[.int .i64 x.a, .int .i64 x.b, .int .i64 x.c, .slice x.p.x.A x.p.x.n x.p.x.c, .int .i64 x.d, .slice x.p.y.A x.p.y.n x.p.y.c, .slice x.p.z.A x.p.z.n x.p.z.c, .int .i64 x.e, .int .i64 x.f] 26)).alloc (.cells #[.slice none 0 0, .slice none 0 0, .slice none 0 0] 30)
  have hB0 := (Blk.new w 26 (#[.int .i64 x.a, .int .i64 x.b, .int .i64 x.c, .slice x.p.x.A x.p.x.n x.p.x.c, .int .i64 x.d, .slice x.p.y.A x.p.y.n x.p.y.c, .slice x.p.z.A x.p.z.n x.p.z.c, .int .i64 x.e, .int .i64 x.f])).alloc (.cells #[.slice none 0 0, .slice none 0 0, .slice none 0 0] 30)
  have hR0 := Blk.new (w.alloc (.cells #[.int .i64 x.a, .int .i64 x.b, .int .i64 x.c, .slice x.p.x.A x.p.x.n x.p.x.c, .int .i64 x.d, .slice x.p.y.A x.p.y.n x.p.y.c, .slice x.p.z.A x.p.z.n x.p.z.c, .int .i64 x.e, .int .i64 x.f] 26)) 30 (#[.slice none 0 0, .slice none 0 0, .slice none 0 0])
  rw [World.size_alloc] at hR0
  obtain ⟨q0, q1, q2, q3, q4, q5, q6, q7, q8⟩ := hB0.c9
  have hpm := hide (pmR_bg hok hkk)
  obtain ⟨g1, g2, g3, hg⟩ : ∃ g1 g2 g3, Hid (rpG ts us y = (g1, g2, g3)) := ⟨_, _, _, rfl⟩
  rw [hg.out] at hpm
  have hee := hide (show x.e = y.e from hr.2.2.2.2.2.1)
  have hff := hide (show x.f = y.f from hr.2.2.2.2.2.2)
  clear hkk q0 q1 q2 q3 q4 q5 q6 q7 q8
  have hz0 : w.heap.size + 1 + 1 = ((w.alloc (.cells #[.int .i64 x.a, .int .i64 x.b, .int .i64 x.c, .slice x.p.x.A x.p.x.n x.p.x.c, .int .i64 x.d, .slice x.p.y.A x.p.y.n x.p.y.c, .slice x.p.z.A x.p.z.n x.p.z.c, .int .i64 x.e, .int .i64 x.f] 26)).alloc (.cells #[.slice none 0 0, .slice none 0 0, .slice none 0 0] 30)).heap.size := by simp
  obtain ⟨w1, hw1⟩ : ∃ w1 : World, w1 = ((w.alloc (.cells #[.int .i64 x.a, .int .i64 x.b, .int .i64 x.c, .slice x.p.x.A x.p.x.n x.p.x.c, .int .i64 x.d, .slice x.p.y.A x.p.y.n x.p.y.c, .slice x.p.z.A x.p.z.n x.p.z.c, .int .i64 x.e, .int .i64 x.f] 26)).alloc (.cells #[.slice none 0 0, .slice none 0 0, .slice none 0 0] 30)) := ⟨_, rfl⟩
  rw [← hw1] at hX0 hB0 hR0 hz0
  have hX := hX0
  have hB := hB0
  obtain ⟨q0, q1, q2, q3, q4, q5, q6, q7, q8⟩ := hB.c9
  go_enter Tryz.func35, Tryz.ntmps35
  go_upto_region 14 with fail
  rw [← hw1]
  clear hw1
  go_cut [8, 9, 10] (fun s8 s9 s10 wx => RpPost w1 g1 g2 g3 s8 s9 s10 wx)
  case first =>
    go_region_held3 (fun w' => w'.cell? ⟨w.heap.size, 0, none⟩ = some (.int .i64 x.a) ∧ w'.cell? ⟨w.heap.size, 1, none⟩ = some (.int .i64 x.b) ∧ w'.cell? ⟨w.heap.size, 2, none⟩ = some (.int .i64 x.c) ∧ w'.cell? ⟨w.heap.size, 3, none⟩ = some (.slice x.p.x.A x.p.x.n x.p.x.c) ∧ w'.cell? ⟨w.heap.size, 4, none⟩ = some (.int .i64 x.d) ∧ w'.cell? ⟨w.heap.size, 5, none⟩ = some (.slice x.p.y.A x.p.y.n x.p.y.c) ∧ w'.cell? ⟨w.heap.size, 6, none⟩ = some (.slice x.p.z.A x.p.z.n x.p.z.c) ∧ w'.cell? ⟨w.heap.size, 7, none⟩ = some (.int .i64 x.e) ∧ w'.cell? ⟨w.heap.size, 8, none⟩ = some (.int .i64 x.f)) (first | (with_reducible exact kk2) | (with_reducible exact (ka3 _)) | (with_reducible exact kk1) | (with_reducible exact ((((((hB.off _ 0 (by omega) _).off _ 1 (by omega) _).off _ 2 (by omega) _).off _ 3 (by omega) _).off _ 4 (by omega) _).off _ 5 (by omega) _).c9) | go_keep) (first | (go_at_call 43; refine (spec.l16Begin_any x y s ts q us _ (hr.ext (by first | exact hX.drew | exact (hX.alloc _).drew | fail)) (ht.ext (by first | exact hX.drew | exact (hX.alloc _).drew | fail)) (hq.ext (by first | exact hX.drew | exact (hX.alloc _).drew | fail)) hok).mono ?_; rintro e w2 ⟨zb, rfl, ob, hx⟩; have hE : Ext w1 w2 := Ext.trans (by first | exact (Ext.refl _).drew | exact ((Ext.refl _).alloc _).drew | fail) hx; have z2 := hE.size; have zs2 := hx.size; (try simp at zs2); replace hX := hX.trans hE; replace hB := hB.ext hE; (try have hO : Blk w2 (w1.heap.size) 70 #[.slice none 0 0, .slice none 0 0, .slice none 0 0, .slice none 0 0, .int .i64 0, .int .i64 0] := Blk.ext (by first | with_reducible exact (Blk.new _ _ _).drew | fail) hx); have kk1 := hB.c9; have hE2 := hE; clear hx hE) | (go_at_call 47; refine (spec.PlayMoves_any zb (bgL ts us y) x.p.z y.p.z _ (OwnS.rd (ob.ext (by first | exact Ext.refl _ | exact (Ext.refl _).alloc _ | fail))) (hr.ext (by first | exact hX | exact hX.alloc _ | fail)).1.2.2.1).mono ?_; rewrite [hpm.out]; rintro e w3 ⟨z, rfl, oz, hx⟩; have hE : Ext w2 w3 := Ext.trans (by first | exact Ext.refl _ | exact (Ext.refl _).alloc _ | fail) hx; have z3 := hE.size; have zs3 := hx.size; (try simp at zs3); replace hX := hX.trans hE; replace hB := hB.ext hE; (try have hO := Blk.ext hO hE); (try have hO : Blk w3 (w2.heap.size) 70 #[.slice none 0 0, .slice none 0 0, .slice none 0 0, .slice none 0 0, .int .i64 0, .int .i64 0] := Blk.ext (by first | with_reducible exact Blk.new _ _ _ | fail) hx); (try obtain ⟨so0, so1, so2, so3, so4, so5⟩ := hO.c6); (try have sy0 := hO.frozen 0); (try have sy1 := hO.frozen 1); (try have sy2 := hO.frozen 2); (try have sy3 := hO.frozen 3); (try have sy4 := hO.frozen 4); (try have sy5 := hO.frozen 5); have kk2 := hB.c9; have ka3 := (fun (o : Obj) => (show (w3.alloc o).cell? ⟨w.heap.size, 0, none⟩ = some (.int .i64 x.a) ∧ (w3.alloc o).cell? ⟨w.heap.size, 1, none⟩ = some (.int .i64 x.b) ∧ (w3.alloc o).cell? ⟨w.heap.size, 2, none⟩ = some (.int .i64 x.c) ∧ (w3.alloc o).cell? ⟨w.heap.size, 3, none⟩ = some (.slice x.p.x.A x.p.x.n x.p.x.c) ∧ (w3.alloc o).cell? ⟨w.heap.size, 4, none⟩ = some (.int .i64 x.d) ∧ (w3.alloc o).cell? ⟨w.heap.size, 5, none⟩ = some (.slice x.p.y.A x.p.y.n x.p.y.c) ∧ (w3.alloc o).cell? ⟨w.heap.size, 6, none⟩ = some (.slice x.p.z.A x.p.z.n x.p.z.c) ∧ (w3.alloc o).cell? ⟨w.heap.size, 7, none⟩ = some (.int .i64 x.e) ∧ (w3.alloc o).cell? ⟨w.heap.size, 8, none⟩ = some (.int .i64 x.f) from (hB.alloc o).c9)); have hE3 := hE; clear hx hE))
    all_goals (go_wp2_with fail)
    all_goals go_meet
    all_goals first
      | with_reducible exact RpPost.new (hE2.trans hE3) oz (by first | omega | (simp; done) | (simp; omega) | fail)
      | with_reducible exact RpPost.old (hE2.trans hE3) oz (by first | omega | (simp; done) | (simp; omega) | fail) hO (by first | omega | (simp; done) | (simp; omega) | fail) (by first | omega | (simp; done) | (simp; omega) | fail)
      | fail
  case rest =>
    clear hX hB q0 q1 q2 q3 q4 q5 q6 q7 q8
    obtain ⟨g, z, rfl, rfl, rfl, hS, oz3, hx3⟩ := hcut
    have hX3 := hX0.trans hx3
    have hR3 := hR0.ext hx3
    have hB3 := hB0.ext hx3
    have z2 := hx3.size
    by_cases h0 : g3 = 0
    · subst h0

      obtain ⟨v0, v1, v2, v3, v4, v5⟩ := hS.c6
      obtain ⟨c, hcc⟩ : ∃ c, Hid (swC g1.p x.e x.f = c) := ⟨_, rfl⟩
      have hsw := fun W h => spec.SwearJury_any z.p g1.p x.e x.f W h
      simp only [hcc.out] at hsw
      obtain ⟨q0, q1, q2, q3, q4, q5, q6, q7, q8⟩ := hB3.c9
      by_cases c0 : c = 0
      · subst c0
        have EC := hide (jy_0 hg.out (show swC g1.p y.e y.f = 0 by rw [← hee.out, ← hff.out]; exact hcc.out)).1
        have EV := hide (show jyV ts us y = swV g1.p x.e x.f by rw [hee.out, hff.out]; exact (jy_0 hg.out (show swC g1.p y.e y.f = 0 by rw [← hee.out, ← hff.out]; exact hcc.out)).2)
        go_wp2_with fail
        refine (hsw _ oz3.rd.1).mono ?_
        rintro e w5 ⟨t, rfl, ot, hx5⟩
        have z5 := hx5.size
        have hJ := Blk.new w5 30 (#[.slice t.x.A t.x.n t.x.c, .slice t.y.A t.y.n t.y.c, .slice t.z.A t.z.n t.z.c])
        obtain ⟨j0, j1, j2⟩ := hJ.c3
        have hx6 := hx5.alloc (.cells #[.slice t.x.A t.x.n t.x.c, .slice t.y.A t.y.n t.y.c, .slice t.z.A t.z.n t.z.c] 30)
        have hX6 := hX3.trans hx6
        have hR6 := hR3.ext hx6
        have zR := hR3.lt
        have ot6 := Own3.mono (lo' := w.heap.size + 1 + 1) (ot.alloc (.cells #[.slice t.x.A t.x.n t.x.c, .slice t.y.A t.y.n t.y.c, .slice t.z.A t.z.n t.z.c] 30)) (by omega)
        clear hX0 hR0 hB0
        obtain ⟨r0, r1, r2, r3, r4, r5⟩ := res3 hR6
        have hRn := ((hR6.set_ 0 (.slice t.x.A t.x.n t.x.c)).set_ 1 (.slice t.y.A t.y.n t.y.c)).set_ 2 (.slice t.z.A t.z.n t.z.c)
        go_wp2
        obtain ⟨n0, n1', n2'⟩ := hRn.c3
        refine bodyPost_ret (v := .tuple #[.agg #[.slice t.x.A t.x.n t.x.c, .slice t.y.A t.y.n t.y.c, .slice t.z.A t.z.n t.z.c], .int .i64 0]) (by simp [results, Tryz.results35, go_sem, n0, n1', n2']) rfl ⟨t, by rw [EC.out], ?_, ((hX6.off (w.heap.size + 1) 0 (by omega) _).off (w.heap.size + 1) 1 (by omega) _).off (w.heap.size + 1) 2 (by omega) _⟩
        rw [EV.out]
        exact Own3.mono (((ot6.offP (w.heap.size + 1) 0 (by omega) _).offP (w.heap.size + 1) 1 (by omega) _).offP (w.heap.size + 1) 2 (by omega) _) (by omega)
      · have cn : (c != 0) = true := by simpa using c0
        have EC := hide (jy_4 hg.out (show swC g1.p y.e y.f ≠ 0 by rw [← hee.out, ← hff.out, hcc.out]; exact c0)).1
        have EV := hide (jy_4 hg.out (show swC g1.p y.e y.f ≠ 0 by rw [← hee.out, ← hff.out, hcc.out]; exact c0)).2
        clear c0
        go_wp2_with fail
        refine (hsw _ oz3.rd.1).mono ?_
        rintro e w5 ⟨t, rfl, ot, hx5⟩
        have z5 := hx5.size
        have hx6 := hx5.alloc (.cells #[.slice t.x.A t.x.n t.x.c, .slice t.y.A t.y.n t.y.c, .slice t.z.A t.z.n t.z.c] 30)
        have hX6 := hX3.trans hx6
        have hR6 := hR3.ext hx6
        clear hX0 hR0 hB0
        obtain ⟨r0, r1, r2, r3, r4, r5⟩ := res3 hR6
        have hRn := ((hR6.set_ 0 (.slice none 0 0)).set_ 1 (.slice none 0 0)).set_ 2 (.slice none 0 0)
        go_wp2
        obtain ⟨n0, n1', n2'⟩ := hRn.c3
        refine bodyPost_ret (v := .tuple #[.agg #[.slice nilJ.x.A nilJ.x.n nilJ.x.c, .slice nilJ.y.A nilJ.y.n nilJ.y.c, .slice nilJ.z.A nilJ.z.n nilJ.z.c], .int .i64 4]) (by simp [results, Tryz.results35, go_sem, nilJ, n0, n1', n2']) rfl ⟨nilJ, by rw [EC.out], by rw [EV.out]; exact Own3.nilJ _ _, ((hX6.off (w.heap.size + 1) 0 (by omega) _).off (w.heap.size + 1) 1 (by omega) _).off (w.heap.size + 1) 2 (by omega) _⟩
    · have hn0 : (g3 != 0) = true := by simpa using h0
      have EC := hide (jy_5 hg.out h0).1
      have EV := hide (jy_5 hg.out h0).2
      clear h0 hX0 hR0 hB0
      obtain ⟨r0, r1, r2, r3, r4, r5⟩ := res3 hR3
      have hRn := ((hR3.set_ 0 (.slice none 0 0)).set_ 1 (.slice none 0 0)).set_ 2 (.slice none 0 0)
      go_wp2
      obtain ⟨n0, n1', n2'⟩ := hRn.c3
      refine bodyPost_ret (v := .tuple #[.agg #[.slice nilJ.x.A nilJ.x.n nilJ.x.c, .slice nilJ.y.A nilJ.y.n nilJ.y.c, .slice nilJ.z.A nilJ.z.n nilJ.z.c], .int .i64 5]) (by simp [results, Tryz.results35, go_sem, nilJ, n0, n1', n2']) rfl ⟨nilJ, by rw [EC.out], by rw [EV.out]; exact Own3.nilJ _ _, ((hX3.off (w.heap.size + 1) 0 (by omega) _).off (w.heap.size + 1) 1 (by omega) _).off (w.heap.size + 1) 2 (by omega) _⟩
set_option maxRecDepth 20000 in
set_option maxHeartbeats 2500000 in
theorem impl.ReplayRecord_any (x : RecA) (y : RecL) (s : Sl) (ts : List Ti) (q : Sl) (us : List ByteArray) (w : World) (hr : RdR w x y) (ht : RdT w s.A s.n ts) (hq : RdW w q.A q.n us) (hc : cap1 s) :
    Calls Tryz.prog 23 #[.agg #[.int .i64 x.a, .int .i64 x.b, .int .i64 x.c, .slice x.p.x.A x.p.x.n x.p.x.c, .int .i64 x.d, .slice x.p.y.A x.p.y.n x.p.y.c, .slice x.p.z.A x.p.z.n x.p.z.c, .int .i64 x.e, .int .i64 x.f], .slice s.A s.n s.c, .slice q.A q.n q.c] w fun e w' => ∃ t : S3, e = .returned (.tuple #[.agg #[.slice t.x.A t.x.n t.x.c, .slice t.y.A t.y.n t.y.c, .slice t.z.A t.z.n t.z.c], .int .i64 (rrC ts us y)]) ∧ Own3 w' w.heap.size t (rrV ts us y) ∧ Ext w w' := by
  have hX0 := ((Ext.refl w).alloc (.cells #[.int .i64 x.a, .int .i64 x.b, .int .i64 x.c, .slice x.p.x.A x.p.x.n x.p.x.c, .int .i64 x.d, .slice x.p.y.A x.p.y.n x.p.y.c, .slice x.p.z.A x.p.z.n x.p.z.c, .int .i64 x.e, .int .i64 x.f] 26)).alloc (.cells #[.slice none 0 0, .slice none 0 0, .slice none 0 0] 30)
  have hB0 := (Blk.new w 26 (#[.int .i64 x.a, .int .i64 x.b, .int .i64 x.c, .slice x.p.x.A x.p.x.n x.p.x.c, .int .i64 x.d, .slice x.p.y.A x.p.y.n x.p.y.c, .slice x.p.z.A x.p.z.n x.p.z.c, .int .i64 x.e, .int .i64 x.f])).alloc (.cells #[.slice none 0 0, .slice none 0 0, .slice none 0 0] 30)
  have hR0 := Blk.new (w.alloc (.cells #[.int .i64 x.a, .int .i64 x.b, .int .i64 x.c, .slice x.p.x.A x.p.x.n x.p.x.c, .int .i64 x.d, .slice x.p.y.A x.p.y.n x.p.y.c, .slice x.p.z.A x.p.z.n x.p.z.c, .int .i64 x.e, .int .i64 x.f] 26)) 30 (#[.slice none 0 0, .slice none 0 0, .slice none 0 0])
  rw [World.size_alloc] at hR0
  obtain ⟨q0, q1, q2, q3, q4, q5, q6, q7, q8⟩ := hB0.c9
  have hk := impl.recordOk_any x y s ts q us _ (hr.ext hX0) (ht.ext hX0) (hq.ext hX0) hc
  have hz0 : w.heap.size + 1 + 1 ≤ ((w.alloc (.cells #[.int .i64 x.a, .int .i64 x.b, .int .i64 x.c, .slice x.p.x.A x.p.x.n x.p.x.c, .int .i64 x.d, .slice x.p.y.A x.p.y.n x.p.y.c, .slice x.p.z.A x.p.z.n x.p.z.c, .int .i64 x.e, .int .i64 x.f] 26)).alloc (.cells #[.slice none 0 0, .slice none 0 0, .slice none 0 0] 30)).heap.size := by simp
  rcases poC_or ts us y with ⟨hp, hb⟩ | ⟨hp, hok, hkk⟩
  · have EC := hide (show rrC ts us y = 1 by unfold rrC; rw [hp]; rfl)
    have EV := hide (show rrV ts us y = nilL3 by unfold rrV; rw [hp]; rfl)
    rw [hb] at hk
    clear hp hb
    go_enter Tryz.func23, Tryz.ntmps23
    go_wp2_with fail
    refine hk.mono ?_
    rintro e w1 ⟨rfl, hx1⟩
    have hX1 := hX0.trans hx1
    have hR1 := hR0.ext hx1
    clear hX0 hR0 hB0
    obtain ⟨r0, r1, r2, r3, r4, r5⟩ := res3 hR1
    have hRn := ((hR1.set_ 0 (.slice none 0 0)).set_ 1 (.slice none 0 0)).set_ 2 (.slice none 0 0)
    go_wp2
    obtain ⟨n0, n1', n2'⟩ := hRn.c3
    refine bodyPost_ret (v := .tuple #[.agg #[.slice nilJ.x.A nilJ.x.n nilJ.x.c, .slice nilJ.y.A nilJ.y.n nilJ.y.c, .slice nilJ.z.A nilJ.z.n nilJ.z.c], .int .i64 1]) (by simp [results, Tryz.results23, go_sem, nilJ, n0, n1', n2']) rfl ⟨nilJ, by rw [EC.out], by rw [EV.out]; exact Own3.nilJ _ _, ((hX1.off (w.heap.size + 1) 0 (by omega) _).off (w.heap.size + 1) 1 (by omega) _).off (w.heap.size + 1) 2 (by omega) _⟩
  · have EC := hide (show rrC ts us y = jyC ts us y by unfold rrC; rw [hp]; rfl)
    have EV := hide (show rrV ts us y = jyV ts us y by unfold rrV; rw [hp]; rfl)
    rw [hok, hkk] at hk
    have hjy := fun W h1 h2 h3 => impl.jury_any x y s ts q us W h1 h2 h3 hok hkk
    obtain ⟨c, hcc⟩ : ∃ c, Hid (jyC ts us y = c) := ⟨_, rfl⟩
    simp only [hcc.out] at hjy
    rw [hcc.out] at EC
    clear hcc hp hok hkk
    go_enter Tryz.func23, Tryz.ntmps23
    go_wp2_with fail
    refine hk.mono ?_
    rintro e w1 ⟨rfl, hx1⟩
    have hX1 := hX0.trans hx1
    have hR1 := hR0.ext hx1
    have hB1 := hB0.ext hx1
    have z1 := hx1.size
    clear q0 q1 q2 q3 q4 q5 q6 q7 q8
    obtain ⟨q0, q1, q2, q3, q4, q5, q6, q7, q8⟩ := hB1.c9
    go_wp2_with fail
    refine (hjy _ (hr.ext hX1) (ht.ext hX1) (hq.ext hX1)).mono ?_
    rintro e w2 ⟨t, rfl, ot, hx2⟩
    have hX2 := hX1.trans hx2
    have hR2 := hR1.ext hx2
    have ot2 := Own3.mono (lo' := w.heap.size + 1 + 1) ot (by omega)
    clear hX0 hR0 hB0
    obtain ⟨r0, r1, r2, r3, r4, r5⟩ := res3 hR2
    have hRn := ((hR2.set_ 0 (.slice t.x.A t.x.n t.x.c)).set_ 1 (.slice t.y.A t.y.n t.y.c)).set_ 2 (.slice t.z.A t.z.n t.z.c)
    go_wp2
    obtain ⟨n0, n1', n2'⟩ := hRn.c3
    refine bodyPost_ret (v := .tuple #[.agg #[.slice t.x.A t.x.n t.x.c, .slice t.y.A t.y.n t.y.c, .slice t.z.A t.z.n t.z.c], .int .i64 c]) (by simp [results, Tryz.results23, go_sem, n0, n1', n2']) rfl ⟨t, by rw [EC.out], ?_, ((hX2.off (w.heap.size + 1) 0 (by omega) _).off (w.heap.size + 1) 1 (by omega) _).off (w.heap.size + 1) 2 (by omega) _⟩
    rw [EV.out]
    exact Own3.mono (((ot2.offP (w.heap.size + 1) 0 (by omega) _).offP (w.heap.size + 1) 1 (by omega) _).offP (w.heap.size + 1) 2 (by omega) _) (by omega)
set_option maxRecDepth 20000 in
set_option maxHeartbeats 2500000 in
theorem spec.ReplayRecord_any (x : RecA) (y : RecL) (s : Sl) (ts : List Ti) (q : Sl) (us : List ByteArray) (w : World) (hr : RdR w x y) (ht : RdT w s.A s.n ts) (hq : RdW w q.A q.n us) :
    Calls Tryz.prog 27 #[.agg #[.int .i64 x.a, .int .i64 x.b, .int .i64 x.c, .slice x.p.x.A x.p.x.n x.p.x.c, .int .i64 x.d, .slice x.p.y.A x.p.y.n x.p.y.c, .slice x.p.z.A x.p.z.n x.p.z.c, .int .i64 x.e, .int .i64 x.f], .slice s.A s.n s.c, .slice q.A q.n q.c] w fun e w' => ∃ t : S3, e = .returned (.tuple #[.agg #[.slice t.x.A t.x.n t.x.c, .slice t.y.A t.y.n t.y.c, .slice t.z.A t.z.n t.z.c], .int .i64 (rrC ts us y)]) ∧ Own3 w' w.heap.size t (rrV ts us y) ∧ Ext w w' := by
  have hX0 := ((Ext.refl w).alloc (.cells #[.int .i64 x.a, .int .i64 x.b, .int .i64 x.c, .slice x.p.x.A x.p.x.n x.p.x.c, .int .i64 x.d, .slice x.p.y.A x.p.y.n x.p.y.c, .slice x.p.z.A x.p.z.n x.p.z.c, .int .i64 x.e, .int .i64 x.f] 26)).alloc (.cells #[.slice none 0 0, .slice none 0 0, .slice none 0 0] 30)
  have hB0 := (Blk.new w 26 (#[.int .i64 x.a, .int .i64 x.b, .int .i64 x.c, .slice x.p.x.A x.p.x.n x.p.x.c, .int .i64 x.d, .slice x.p.y.A x.p.y.n x.p.y.c, .slice x.p.z.A x.p.z.n x.p.z.c, .int .i64 x.e, .int .i64 x.f])).alloc (.cells #[.slice none 0 0, .slice none 0 0, .slice none 0 0] 30)
  have hR0 := Blk.new (w.alloc (.cells #[.int .i64 x.a, .int .i64 x.b, .int .i64 x.c, .slice x.p.x.A x.p.x.n x.p.x.c, .int .i64 x.d, .slice x.p.y.A x.p.y.n x.p.y.c, .slice x.p.z.A x.p.z.n x.p.z.c, .int .i64 x.e, .int .i64 x.f] 26)) 30 (#[.slice none 0 0, .slice none 0 0, .slice none 0 0])
  rw [World.size_alloc] at hR0
  obtain ⟨q0, q1, q2, q3, q4, q5, q6, q7, q8⟩ := hB0.c9
  have hk := spec.l16Code_any x y s ts q us _ (hr.ext hX0) (ht.ext hX0) (hq.ext hX0)
  have hz0 : w.heap.size + 1 + 1 ≤ ((w.alloc (.cells #[.int .i64 x.a, .int .i64 x.b, .int .i64 x.c, .slice x.p.x.A x.p.x.n x.p.x.c, .int .i64 x.d, .slice x.p.y.A x.p.y.n x.p.y.c, .slice x.p.z.A x.p.z.n x.p.z.c, .int .i64 x.e, .int .i64 x.f] 26)).alloc (.cells #[.slice none 0 0, .slice none 0 0, .slice none 0 0] 30)).heap.size := by simp
  rcases poC_or ts us y with ⟨hp, hb⟩ | ⟨hp, hok, hkk⟩
  · have EC := hide (show rrC ts us y = 1 by unfold rrC; rw [hp]; rfl)
    have EV := hide (show rrV ts us y = nilL3 by unfold rrV; rw [hp]; rfl)
    rw [hp] at hk
    clear hp hb
    go_enter Tryz.func27, Tryz.ntmps27
    go_wp2_with fail
    refine hk.mono ?_
    rintro e w1 ⟨rfl, hx1⟩
    have hX1 := hX0.trans hx1
    have hR1 := hR0.ext hx1
    clear hX0 hR0 hB0
    obtain ⟨r0, r1, r2, r3, r4, r5⟩ := res3 hR1
    have hRn := ((hR1.set_ 0 (.slice none 0 0)).set_ 1 (.slice none 0 0)).set_ 2 (.slice none 0 0)
    go_wp2
    obtain ⟨n0, n1', n2'⟩ := hRn.c3
    refine bodyPost_ret (v := .tuple #[.agg #[.slice nilJ.x.A nilJ.x.n nilJ.x.c, .slice nilJ.y.A nilJ.y.n nilJ.y.c, .slice nilJ.z.A nilJ.z.n nilJ.z.c], .int .i64 1]) (by simp [results, Tryz.results27, go_sem, nilJ, n0, n1', n2']) rfl ⟨nilJ, by rw [EC.out], by rw [EV.out]; exact Own3.nilJ _ _, ((hX1.off (w.heap.size + 1) 0 (by omega) _).off (w.heap.size + 1) 1 (by omega) _).off (w.heap.size + 1) 2 (by omega) _⟩
  · have EC := hide (show rrC ts us y = jyC ts us y by unfold rrC; rw [hp]; rfl)
    have EV := hide (show rrV ts us y = jyV ts us y by unfold rrV; rw [hp]; rfl)
    rw [hp] at hk
    have hjy := fun W h1 h2 h3 => spec.l16Replay_any x y s ts q us W h1 h2 h3 hok hkk
    obtain ⟨c, hcc⟩ : ∃ c, Hid (jyC ts us y = c) := ⟨_, rfl⟩
    simp only [hcc.out] at hjy
    rw [hcc.out] at EC
    clear hcc hp hok hkk
    go_enter Tryz.func27, Tryz.ntmps27
    go_wp2_with fail
    refine hk.mono ?_
    rintro e w1 ⟨rfl, hx1⟩
    have hX1 := hX0.trans hx1
    have hR1 := hR0.ext hx1
    have hB1 := hB0.ext hx1
    have z1 := hx1.size
    clear q0 q1 q2 q3 q4 q5 q6 q7 q8
    obtain ⟨q0, q1, q2, q3, q4, q5, q6, q7, q8⟩ := hB1.c9
    go_wp2_with fail
    refine (hjy _ (hr.ext hX1) (ht.ext hX1) (hq.ext hX1)).mono ?_
    rintro e w2 ⟨t, rfl, ot, hx2⟩
    have hX2 := hX1.trans hx2
    have hR2 := hR1.ext hx2
    have ot2 := Own3.mono (lo' := w.heap.size + 1 + 1) ot (by omega)
    clear hX0 hR0 hB0
    obtain ⟨r0, r1, r2, r3, r4, r5⟩ := res3 hR2
    have hRn := ((hR2.set_ 0 (.slice t.x.A t.x.n t.x.c)).set_ 1 (.slice t.y.A t.y.n t.y.c)).set_ 2 (.slice t.z.A t.z.n t.z.c)
    go_wp2
    obtain ⟨n0, n1', n2'⟩ := hRn.c3
    refine bodyPost_ret (v := .tuple #[.agg #[.slice t.x.A t.x.n t.x.c, .slice t.y.A t.y.n t.y.c, .slice t.z.A t.z.n t.z.c], .int .i64 c]) (by simp [results, Tryz.results27, go_sem, n0, n1', n2']) rfl ⟨t, by rw [EC.out], ?_, ((hX2.off (w.heap.size + 1) 0 (by omega) _).off (w.heap.size + 1) 1 (by omega) _).off (w.heap.size + 1) 2 (by omega) _⟩
    rw [EV.out]
    exact Own3.mono (((ot2.offP (w.heap.size + 1) 0 (by omega) _).offP (w.heap.size + 1) 1 (by omega) _).offP (w.heap.size + 1) 2 (by omega) _) (by omega)
set_option maxRecDepth 20000 in
set_option maxHeartbeats 2500000 in
theorem impl.IsTrueJury_any (x : RecA) (y : RecL) (s : Sl) (ts : List Ti) (q : Sl) (us : List ByteArray) (p : S3) (l : L3) (w : World) (hr : RdR w x y) (ht : RdT w s.A s.n ts) (hq : RdW w q.A q.n us) (hj : Rd3 w p l) (hc : cap1 s) :
    Calls Tryz.prog 6 #[.agg #[.int .i64 x.a, .int .i64 x.b, .int .i64 x.c, .slice x.p.x.A x.p.x.n x.p.x.c, .int .i64 x.d, .slice x.p.y.A x.p.y.n x.p.y.c, .slice x.p.z.A x.p.z.n x.p.z.c, .int .i64 x.e, .int .i64 x.f], .slice s.A s.n s.c, .slice q.A q.n q.c, .agg #[.slice p.x.A p.x.n p.x.c, .slice p.y.A p.y.n p.y.c, .slice p.z.A p.z.n p.z.c]] w fun e w' => e = .returned (.tuple #[.bool (tjB ts us y l), .int .i64 (poC ts us y)]) ∧ Ext w w' := by
  have hX0 := ((Ext.refl w).alloc (.cells #[.int .i64 x.a, .int .i64 x.b, .int .i64 x.c, .slice x.p.x.A x.p.x.n x.p.x.c, .int .i64 x.d, .slice x.p.y.A x.p.y.n x.p.y.c, .slice x.p.z.A x.p.z.n x.p.z.c, .int .i64 x.e, .int .i64 x.f] 26)).alloc (.cells #[.slice p.x.A p.x.n p.x.c, .slice p.y.A p.y.n p.y.c, .slice p.z.A p.z.n p.z.c] 30)
  have hB0 := (Blk.new w 26 (#[.int .i64 x.a, .int .i64 x.b, .int .i64 x.c, .slice x.p.x.A x.p.x.n x.p.x.c, .int .i64 x.d, .slice x.p.y.A x.p.y.n x.p.y.c, .slice x.p.z.A x.p.z.n x.p.z.c, .int .i64 x.e, .int .i64 x.f])).alloc (.cells #[.slice p.x.A p.x.n p.x.c, .slice p.y.A p.y.n p.y.c, .slice p.z.A p.z.n p.z.c] 30)
  have hR0 := Blk.new (w.alloc (.cells #[.int .i64 x.a, .int .i64 x.b, .int .i64 x.c, .slice x.p.x.A x.p.x.n x.p.x.c, .int .i64 x.d, .slice x.p.y.A x.p.y.n x.p.y.c, .slice x.p.z.A x.p.z.n x.p.z.c, .int .i64 x.e, .int .i64 x.f] 26)) 30 (#[.slice p.x.A p.x.n p.x.c, .slice p.y.A p.y.n p.y.c, .slice p.z.A p.z.n p.z.c])
  rw [World.size_alloc] at hR0
  obtain ⟨q0, q1, q2, q3, q4, q5, q6, q7, q8⟩ := hB0.c9
  have hk := impl.recordOk_any x y s ts q us _ (hr.ext hX0) (ht.ext hX0) (hq.ext hX0) hc
  rcases poC_or ts us y with ⟨hp, hb⟩ | ⟨hp, hok, hkk⟩
  · have EC := hide hp
    have EV := hide (show tjB ts us y l = false by unfold tjB; rw [hp]; rfl)
    rw [hb] at hk
    clear hp hb
    go_enter Tryz.func6, Tryz.ntmps6
    go_wp2_with fail
    refine hk.mono ?_
    rintro e w1 ⟨rfl, hx1⟩
    go_wp2
    refine bodyPost_ret (v := .tuple #[.bool false, .int .i64 1]) (by simp [results, Tryz.results6, go_sem]) rfl ⟨by rw [EC.out, EV.out], hX0.trans hx1⟩
  · have EC := hide hp
    rw [hok, hkk] at hk
    have hjy := fun W h1 h2 h3 => impl.jury_any x y s ts q us W h1 h2 h3 hok hkk
    obtain ⟨c, hcc⟩ : ∃ c, Hid (jyC ts us y = c) := ⟨_, rfl⟩
    obtain ⟨J, hJJ⟩ : ∃ J, Hid (jyV ts us y = J) := ⟨_, rfl⟩
    have bd := okR_bd hok
    rw [← hr.2.2.1, ← hr.2.2.2.1] at bd
    obtain ⟨hon, hhon⟩ : ∃ b, Hid ((cmt x.b x.c == x.a) = b) := ⟨_, rfl⟩
    have hho := fun W => impl.honest_any x W bd.1 bd.2
    simp only [hhon.out] at hho
    have EV := hide (show tjB ts us y l = (decide (c = 0) && hon && decide (J.x = l.x) && decide (J.y = l.y) && decide (J.z = l.z)) by unfold tjB; rw [hp, hcc.out, hJJ.out, ← hr.2.1, ← hr.2.2.1, ← hr.2.2.2.1, hhon.out]; rfl)
    simp only [hcc.out, hJJ.out] at hjy
    clear hcc hJJ hhon hp hok hkk bd
    go_enter Tryz.func6, Tryz.ntmps6
    go_wp2_with fail
    refine hk.mono ?_
    rintro e w1 ⟨rfl, hx1⟩
    have hX1 := hX0.trans hx1
    have hR1 := hR0.ext hx1
    have hB1 := hB0.ext hx1
    clear q0 q1 q2 q3 q4 q5 q6 q7 q8
    obtain ⟨q0, q1, q2, q3, q4, q5, q6, q7, q8⟩ := hB1.c9
    go_wp2_with fail
    refine (hjy _ (hr.ext hX1) (ht.ext hX1) (hq.ext hX1)).mono ?_
    rintro e w2 ⟨t, rfl, ot, hx2⟩
    have hx3 := hx2.alloc (.cells #[.slice t.x.A t.x.n t.x.c, .slice t.y.A t.y.n t.y.c, .slice t.z.A t.z.n t.z.c] 30)
    have hX := hX1.trans hx3
    have hB := hB1.ext hx3
    have hR := hR1.ext hx3
    have hT := Blk.new w2 30 (#[.slice t.x.A t.x.n t.x.c, .slice t.y.A t.y.n t.y.c, .slice t.z.A t.z.n t.z.c])
    have oT := (ot.alloc (.cells #[.slice t.x.A t.x.n t.x.c, .slice t.y.A t.y.n t.y.c, .slice t.z.A t.z.n t.z.c] 30)).rd
    have zT := hX.size
    have hTl := hT.lt
    clear q0 q1 q2 q3 q4 q5 q6 q7 q8 hk hjy hX0 hB0 hR0 hx1 hX1 hR1 hB1 hx2 hx3 ot
    cases hon
    · skip
      (try clear q0 q1 q2 q3 q4 q5 q6 q7 q8 j0 j1 j2 t0 t1 t2)
      obtain ⟨q0, q1, q2, q3, q4, q5, q6, q7, q8⟩ := hB.c9
      obtain ⟨j0, j1, j2⟩ := hR.c3
      obtain ⟨t0, t1, t2⟩ := hT.c3
      go_wp2_with fail
      refine (hho _).mono ?_
      rintro e w4 ⟨rfl, hx⟩
      clear q0 q1 q2 q3 q4 q5 q6 q7 q8 j0 j1 j2 t0 t1 t2
      replace hB := hB.ext hx
      replace hR := hR.ext hx
      replace hT := hT.ext hx
      replace oT := oT.ext hx
      replace hX := hX.trans hx
      clear hx
      have E := hide (show tjB ts us y l = false by rw [EV.out]; simp [])
      obtain ⟨q0, q1, q2, q3, q4, q5, q6, q7, q8⟩ := hB.c9
      obtain ⟨j0, j1, j2⟩ := hR.c3
      obtain ⟨t0, t1, t2⟩ := hT.c3
      go_wp2
      refine bodyPost_ret (v := .tuple #[.bool false, .int .i64 0]) (by simp [results, Tryz.results6, go_sem]) rfl ⟨by rw [EC.out, E.out], hX⟩
    · skip
      (try clear q0 q1 q2 q3 q4 q5 q6 q7 q8 j0 j1 j2 t0 t1 t2)
      obtain ⟨q0, q1, q2, q3, q4, q5, q6, q7, q8⟩ := hB.c9
      obtain ⟨j0, j1, j2⟩ := hR.c3
      obtain ⟨t0, t1, t2⟩ := hT.c3
      go_wp2_with fail
      refine (hho _).mono ?_
      rintro e w4 ⟨rfl, hx⟩
      clear q0 q1 q2 q3 q4 q5 q6 q7 q8 j0 j1 j2 t0 t1 t2
      replace hB := hB.ext hx
      replace hR := hR.ext hx
      replace hT := hT.ext hx
      replace oT := oT.ext hx
      replace hX := hX.trans hx
      clear hx
      by_cases c0 : c = 0
      · subst c0
        have hs := fun W h1 h2 => impl.same_ext p.x t.x l.x J.x W h1 h2
        simp only [show decide (l.x = J.x) = decide (J.x = l.x) from decide_eq_decide.2 ⟨Eq.symm, Eq.symm⟩] at hs
        cases d0 : decide (J.x = l.x)
        · simp only [d0] at hs
          replace d0 := hide d0
          (try clear q0 q1 q2 q3 q4 q5 q6 q7 q8 j0 j1 j2 t0 t1 t2)
          obtain ⟨q0, q1, q2, q3, q4, q5, q6, q7, q8⟩ := hB.c9
          obtain ⟨j0, j1, j2⟩ := hR.c3
          obtain ⟨t0, t1, t2⟩ := hT.c3
          go_wp2_with fail
          refine (hs _ (hj.ext hX).1 oT.1).mono ?_
          rintro e w5 ⟨rfl, hx⟩
          clear q0 q1 q2 q3 q4 q5 q6 q7 q8 j0 j1 j2 t0 t1 t2 hs
          replace hB := hB.ext hx
          replace hR := hR.ext hx
          replace hT := hT.ext hx
          replace oT := oT.ext hx
          replace hX := hX.trans hx
          clear hx
          have E := hide (show tjB ts us y l = false by rw [EV.out]; simp [d0.out])
          obtain ⟨q0, q1, q2, q3, q4, q5, q6, q7, q8⟩ := hB.c9
          obtain ⟨j0, j1, j2⟩ := hR.c3
          obtain ⟨t0, t1, t2⟩ := hT.c3
          go_wp2
          refine bodyPost_ret (v := .tuple #[.bool false, .int .i64 0]) (by simp [results, Tryz.results6, go_sem]) rfl ⟨by rw [EC.out, E.out], hX⟩
        · simp only [d0] at hs
          replace d0 := hide d0
          (try clear q0 q1 q2 q3 q4 q5 q6 q7 q8 j0 j1 j2 t0 t1 t2)
          obtain ⟨q0, q1, q2, q3, q4, q5, q6, q7, q8⟩ := hB.c9
          obtain ⟨j0, j1, j2⟩ := hR.c3
          obtain ⟨t0, t1, t2⟩ := hT.c3
          go_wp2_with fail
          refine (hs _ (hj.ext hX).1 oT.1).mono ?_
          rintro e w5 ⟨rfl, hx⟩
          clear q0 q1 q2 q3 q4 q5 q6 q7 q8 j0 j1 j2 t0 t1 t2 hs
          replace hB := hB.ext hx
          replace hR := hR.ext hx
          replace hT := hT.ext hx
          replace oT := oT.ext hx
          replace hX := hX.trans hx
          clear hx
          have hs := fun W h1 h2 => impl.same_ext p.y t.y l.y J.y W h1 h2
          simp only [show decide (l.y = J.y) = decide (J.y = l.y) from decide_eq_decide.2 ⟨Eq.symm, Eq.symm⟩] at hs
          cases d1 : decide (J.y = l.y)
          · simp only [d1] at hs
            replace d1 := hide d1
            (try clear q0 q1 q2 q3 q4 q5 q6 q7 q8 j0 j1 j2 t0 t1 t2)
            obtain ⟨q0, q1, q2, q3, q4, q5, q6, q7, q8⟩ := hB.c9
            obtain ⟨j0, j1, j2⟩ := hR.c3
            obtain ⟨t0, t1, t2⟩ := hT.c3
            go_wp2_with fail
            refine (hs _ (hj.ext hX).2.1 oT.2.1).mono ?_
            rintro e w6 ⟨rfl, hx⟩
            clear q0 q1 q2 q3 q4 q5 q6 q7 q8 j0 j1 j2 t0 t1 t2 hs
            replace hB := hB.ext hx
            replace hR := hR.ext hx
            replace hT := hT.ext hx
            replace oT := oT.ext hx
            replace hX := hX.trans hx
            clear hx
            have E := hide (show tjB ts us y l = false by rw [EV.out]; simp [d0.out, d1.out])
            obtain ⟨q0, q1, q2, q3, q4, q5, q6, q7, q8⟩ := hB.c9
            obtain ⟨j0, j1, j2⟩ := hR.c3
            obtain ⟨t0, t1, t2⟩ := hT.c3
            go_wp2
            refine bodyPost_ret (v := .tuple #[.bool false, .int .i64 0]) (by simp [results, Tryz.results6, go_sem]) rfl ⟨by rw [EC.out, E.out], hX⟩
          · simp only [d1] at hs
            replace d1 := hide d1
            (try clear q0 q1 q2 q3 q4 q5 q6 q7 q8 j0 j1 j2 t0 t1 t2)
            obtain ⟨q0, q1, q2, q3, q4, q5, q6, q7, q8⟩ := hB.c9
            obtain ⟨j0, j1, j2⟩ := hR.c3
            obtain ⟨t0, t1, t2⟩ := hT.c3
            go_wp2_with fail
            refine (hs _ (hj.ext hX).2.1 oT.2.1).mono ?_
            rintro e w6 ⟨rfl, hx⟩
            clear q0 q1 q2 q3 q4 q5 q6 q7 q8 j0 j1 j2 t0 t1 t2 hs
            replace hB := hB.ext hx
            replace hR := hR.ext hx
            replace hT := hT.ext hx
            replace oT := oT.ext hx
            replace hX := hX.trans hx
            clear hx
            have hs := fun W h1 h2 => impl.same_ext p.z t.z l.z J.z W h1 h2
            simp only [show decide (l.z = J.z) = decide (J.z = l.z) from decide_eq_decide.2 ⟨Eq.symm, Eq.symm⟩] at hs
            cases d2 : decide (J.z = l.z)
            · simp only [d2] at hs
              replace d2 := hide d2
              (try clear q0 q1 q2 q3 q4 q5 q6 q7 q8 j0 j1 j2 t0 t1 t2)
              obtain ⟨q0, q1, q2, q3, q4, q5, q6, q7, q8⟩ := hB.c9
              obtain ⟨j0, j1, j2⟩ := hR.c3
              obtain ⟨t0, t1, t2⟩ := hT.c3
              go_wp2_with fail
              refine (hs _ (hj.ext hX).2.2.1 oT.2.2.1).mono ?_
              rintro e w7 ⟨rfl, hx⟩
              clear q0 q1 q2 q3 q4 q5 q6 q7 q8 j0 j1 j2 t0 t1 t2 hs
              replace hB := hB.ext hx
              replace hR := hR.ext hx
              replace hT := hT.ext hx
              replace oT := oT.ext hx
              replace hX := hX.trans hx
              clear hx
              have E := hide (show tjB ts us y l = false by rw [EV.out]; simp [d0.out, d1.out, d2.out])
              obtain ⟨q0, q1, q2, q3, q4, q5, q6, q7, q8⟩ := hB.c9
              obtain ⟨j0, j1, j2⟩ := hR.c3
              obtain ⟨t0, t1, t2⟩ := hT.c3
              go_wp2
              refine bodyPost_ret (v := .tuple #[.bool false, .int .i64 0]) (by simp [results, Tryz.results6, go_sem]) rfl ⟨by rw [EC.out, E.out], hX⟩
            · simp only [d2] at hs
              replace d2 := hide d2
              (try clear q0 q1 q2 q3 q4 q5 q6 q7 q8 j0 j1 j2 t0 t1 t2)
              obtain ⟨q0, q1, q2, q3, q4, q5, q6, q7, q8⟩ := hB.c9
              obtain ⟨j0, j1, j2⟩ := hR.c3
              obtain ⟨t0, t1, t2⟩ := hT.c3
              go_wp2_with fail
              refine (hs _ (hj.ext hX).2.2.1 oT.2.2.1).mono ?_
              rintro e w7 ⟨rfl, hx⟩
              clear q0 q1 q2 q3 q4 q5 q6 q7 q8 j0 j1 j2 t0 t1 t2 hs
              replace hB := hB.ext hx
              replace hR := hR.ext hx
              replace hT := hT.ext hx
              replace oT := oT.ext hx
              replace hX := hX.trans hx
              clear hx
              have E := hide (show tjB ts us y l = true by rw [EV.out]; simp [d0.out, d1.out, d2.out])
              obtain ⟨q0, q1, q2, q3, q4, q5, q6, q7, q8⟩ := hB.c9
              obtain ⟨j0, j1, j2⟩ := hR.c3
              obtain ⟨t0, t1, t2⟩ := hT.c3
              go_wp2
              refine bodyPost_ret (v := .tuple #[.bool true, .int .i64 0]) (by simp [results, Tryz.results6, go_sem]) rfl ⟨by rw [EC.out, E.out], hX⟩
      · have cn : (c == 0) = false := by simpa using c0
        have c1 := hide (show decide (c = 0) = false from decide_eq_false c0)
        clear c0
        have E := hide (show tjB ts us y l = false by rw [EV.out]; simp [c1.out])
        obtain ⟨q0, q1, q2, q3, q4, q5, q6, q7, q8⟩ := hB.c9
        obtain ⟨j0, j1, j2⟩ := hR.c3
        obtain ⟨t0, t1, t2⟩ := hT.c3
        go_wp2
        refine bodyPost_ret (v := .tuple #[.bool false, .int .i64 0]) (by simp [results, Tryz.results6, go_sem]) rfl ⟨by rw [EC.out, E.out], hX⟩
set_option maxRecDepth 20000 in
set_option maxHeartbeats 2500000 in
theorem spec.IsTrueJury_any (x : RecA) (y : RecL) (s : Sl) (ts : List Ti) (q : Sl) (us : List ByteArray) (p : S3) (l : L3) (w : World) (hr : RdR w x y) (ht : RdT w s.A s.n ts) (hq : RdW w q.A q.n us) (hj : Rd3 w p l) :
    Calls Tryz.prog 7 #[.agg #[.int .i64 x.a, .int .i64 x.b, .int .i64 x.c, .slice x.p.x.A x.p.x.n x.p.x.c, .int .i64 x.d, .slice x.p.y.A x.p.y.n x.p.y.c, .slice x.p.z.A x.p.z.n x.p.z.c, .int .i64 x.e, .int .i64 x.f], .slice s.A s.n s.c, .slice q.A q.n q.c, .agg #[.slice p.x.A p.x.n p.x.c, .slice p.y.A p.y.n p.y.c, .slice p.z.A p.z.n p.z.c]] w fun e w' => e = .returned (.tuple #[.bool (tjB ts us y l), .int .i64 (poC ts us y)]) ∧ Ext w w' := by
  have hX0 := ((Ext.refl w).alloc (.cells #[.int .i64 x.a, .int .i64 x.b, .int .i64 x.c, .slice x.p.x.A x.p.x.n x.p.x.c, .int .i64 x.d, .slice x.p.y.A x.p.y.n x.p.y.c, .slice x.p.z.A x.p.z.n x.p.z.c, .int .i64 x.e, .int .i64 x.f] 26)).alloc (.cells #[.slice p.x.A p.x.n p.x.c, .slice p.y.A p.y.n p.y.c, .slice p.z.A p.z.n p.z.c] 30)
  have hB0 := (Blk.new w 26 (#[.int .i64 x.a, .int .i64 x.b, .int .i64 x.c, .slice x.p.x.A x.p.x.n x.p.x.c, .int .i64 x.d, .slice x.p.y.A x.p.y.n x.p.y.c, .slice x.p.z.A x.p.z.n x.p.z.c, .int .i64 x.e, .int .i64 x.f])).alloc (.cells #[.slice p.x.A p.x.n p.x.c, .slice p.y.A p.y.n p.y.c, .slice p.z.A p.z.n p.z.c] 30)
  have hR0 := Blk.new (w.alloc (.cells #[.int .i64 x.a, .int .i64 x.b, .int .i64 x.c, .slice x.p.x.A x.p.x.n x.p.x.c, .int .i64 x.d, .slice x.p.y.A x.p.y.n x.p.y.c, .slice x.p.z.A x.p.z.n x.p.z.c, .int .i64 x.e, .int .i64 x.f] 26)) 30 (#[.slice p.x.A p.x.n p.x.c, .slice p.y.A p.y.n p.y.c, .slice p.z.A p.z.n p.z.c])
  rw [World.size_alloc] at hR0
  obtain ⟨q0, q1, q2, q3, q4, q5, q6, q7, q8⟩ := hB0.c9
  have hk := spec.l16Code_any x y s ts q us _ (hr.ext hX0) (ht.ext hX0) (hq.ext hX0)
  rcases poC_or ts us y with ⟨hp, hb⟩ | ⟨hp, hok, hkk⟩
  · have EC := hide hp
    have EV := hide (show tjB ts us y l = false by unfold tjB; rw [hp]; rfl)
    rw [hp] at hk
    clear hp hb
    go_enter Tryz.func7, Tryz.ntmps7
    go_wp2_with fail
    refine hk.mono ?_
    rintro e w1 ⟨rfl, hx1⟩
    go_wp2
    refine bodyPost_ret (v := .tuple #[.bool false, .int .i64 1]) (by simp [results, Tryz.results7, go_sem]) rfl ⟨by rw [EC.out, EV.out], hX0.trans hx1⟩
  · have EC := hide hp
    rw [hp] at hk
    have hjy := fun W h1 h2 h3 => spec.l16Replay_any x y s ts q us W h1 h2 h3 hok hkk
    obtain ⟨c, hcc⟩ : ∃ c, Hid (jyC ts us y = c) := ⟨_, rfl⟩
    obtain ⟨J, hJJ⟩ : ∃ J, Hid (jyV ts us y = J) := ⟨_, rfl⟩
    have bd := okR_bd hok
    rw [← hr.2.2.1, ← hr.2.2.2.1] at bd
    obtain ⟨hon, hhon⟩ : ∃ b, Hid ((cmt x.b x.c == x.a) = b) := ⟨_, rfl⟩
    have hho := fun W => spec.l16Honest_any x W bd.1 bd.2
    simp only [hhon.out] at hho
    have EV := hide (show tjB ts us y l = (decide (c = 0) && hon && decide (J.x = l.x) && decide (J.y = l.y) && decide (J.z = l.z)) by unfold tjB; rw [hp, hcc.out, hJJ.out, ← hr.2.1, ← hr.2.2.1, ← hr.2.2.2.1, hhon.out]; rfl)
    simp only [hcc.out, hJJ.out] at hjy
    clear hcc hJJ hhon hp hok hkk bd
    go_enter Tryz.func7, Tryz.ntmps7
    go_wp2_with fail
    refine hk.mono ?_
    rintro e w1 ⟨rfl, hx1⟩
    have hX1 := hX0.trans hx1
    have hR1 := hR0.ext hx1
    have hB1 := hB0.ext hx1
    clear q0 q1 q2 q3 q4 q5 q6 q7 q8
    obtain ⟨q0, q1, q2, q3, q4, q5, q6, q7, q8⟩ := hB1.c9
    go_wp2_with fail
    refine (hjy _ (hr.ext hX1) (ht.ext hX1) (hq.ext hX1)).mono ?_
    rintro e w2 ⟨t, rfl, ot, hx2⟩
    have hx3 := hx2.alloc (.cells #[.slice t.x.A t.x.n t.x.c, .slice t.y.A t.y.n t.y.c, .slice t.z.A t.z.n t.z.c] 30)
    have hX := hX1.trans hx3
    have hB := hB1.ext hx3
    have hR := hR1.ext hx3
    have hT := Blk.new w2 30 (#[.slice t.x.A t.x.n t.x.c, .slice t.y.A t.y.n t.y.c, .slice t.z.A t.z.n t.z.c])
    have oT := (ot.alloc (.cells #[.slice t.x.A t.x.n t.x.c, .slice t.y.A t.y.n t.y.c, .slice t.z.A t.z.n t.z.c] 30)).rd
    have zT := hX.size
    have hTl := hT.lt
    clear q0 q1 q2 q3 q4 q5 q6 q7 q8 hk hjy hX0 hB0 hR0 hx1 hX1 hR1 hB1 hx2 hx3 ot
    by_cases c0 : c = 0
    · subst c0
      obtain ⟨q0, q1, q2, q3, q4, q5, q6, q7, q8⟩ := hB.c9
      obtain ⟨j0, j1, j2⟩ := hR.c3
      obtain ⟨t0, t1, t2⟩ := hT.c3
      cases hon
      · skip
        (try clear q0 q1 q2 q3 q4 q5 q6 q7 q8 j0 j1 j2 t0 t1 t2)
        obtain ⟨q0, q1, q2, q3, q4, q5, q6, q7, q8⟩ := hB.c9
        obtain ⟨j0, j1, j2⟩ := hR.c3
        obtain ⟨t0, t1, t2⟩ := hT.c3
        go_wp2_with fail
        refine (hho _).mono ?_
        rintro e w4 ⟨rfl, hx⟩
        clear q0 q1 q2 q3 q4 q5 q6 q7 q8 j0 j1 j2 t0 t1 t2
        replace hB := hB.ext hx
        replace hR := hR.ext hx
        replace hT := hT.ext hx
        replace oT := oT.ext hx
        replace hX := hX.trans hx
        clear hx
        have E := hide (show tjB ts us y l = false by rw [EV.out]; simp [])
        obtain ⟨q0, q1, q2, q3, q4, q5, q6, q7, q8⟩ := hB.c9
        obtain ⟨j0, j1, j2⟩ := hR.c3
        obtain ⟨t0, t1, t2⟩ := hT.c3
        go_wp2
        refine bodyPost_ret (v := .tuple #[.bool false, .int .i64 0]) (by simp [results, Tryz.results7, go_sem]) rfl ⟨by rw [EC.out, E.out], hX⟩
      · skip
        (try clear q0 q1 q2 q3 q4 q5 q6 q7 q8 j0 j1 j2 t0 t1 t2)
        obtain ⟨q0, q1, q2, q3, q4, q5, q6, q7, q8⟩ := hB.c9
        obtain ⟨j0, j1, j2⟩ := hR.c3
        obtain ⟨t0, t1, t2⟩ := hT.c3
        go_wp2_with fail
        refine (hho _).mono ?_
        rintro e w4 ⟨rfl, hx⟩
        clear q0 q1 q2 q3 q4 q5 q6 q7 q8 j0 j1 j2 t0 t1 t2
        replace hB := hB.ext hx
        replace hR := hR.ext hx
        replace hT := hT.ext hx
        replace oT := oT.ext hx
        replace hX := hX.trans hx
        clear hx
        have hs := fun W h1 h2 => spec.l01Same_ext t.x p.x J.x l.x W h1 h2
        cases d0 : decide (J.x = l.x)
        · simp only [d0] at hs
          replace d0 := hide d0
          (try clear q0 q1 q2 q3 q4 q5 q6 q7 q8 j0 j1 j2 t0 t1 t2)
          obtain ⟨q0, q1, q2, q3, q4, q5, q6, q7, q8⟩ := hB.c9
          obtain ⟨j0, j1, j2⟩ := hR.c3
          obtain ⟨t0, t1, t2⟩ := hT.c3
          go_wp2_with fail
          refine (hs _ oT.1 (hj.ext hX).1).mono ?_
          rintro e w5 ⟨rfl, hx⟩
          clear q0 q1 q2 q3 q4 q5 q6 q7 q8 j0 j1 j2 t0 t1 t2 hs
          replace hB := hB.ext hx
          replace hR := hR.ext hx
          replace hT := hT.ext hx
          replace oT := oT.ext hx
          replace hX := hX.trans hx
          clear hx
          have E := hide (show tjB ts us y l = false by rw [EV.out]; simp [d0.out])
          obtain ⟨q0, q1, q2, q3, q4, q5, q6, q7, q8⟩ := hB.c9
          obtain ⟨j0, j1, j2⟩ := hR.c3
          obtain ⟨t0, t1, t2⟩ := hT.c3
          go_wp2
          refine bodyPost_ret (v := .tuple #[.bool false, .int .i64 0]) (by simp [results, Tryz.results7, go_sem]) rfl ⟨by rw [EC.out, E.out], hX⟩
        · simp only [d0] at hs
          replace d0 := hide d0
          (try clear q0 q1 q2 q3 q4 q5 q6 q7 q8 j0 j1 j2 t0 t1 t2)
          obtain ⟨q0, q1, q2, q3, q4, q5, q6, q7, q8⟩ := hB.c9
          obtain ⟨j0, j1, j2⟩ := hR.c3
          obtain ⟨t0, t1, t2⟩ := hT.c3
          go_wp2_with fail
          refine (hs _ oT.1 (hj.ext hX).1).mono ?_
          rintro e w5 ⟨rfl, hx⟩
          clear q0 q1 q2 q3 q4 q5 q6 q7 q8 j0 j1 j2 t0 t1 t2 hs
          replace hB := hB.ext hx
          replace hR := hR.ext hx
          replace hT := hT.ext hx
          replace oT := oT.ext hx
          replace hX := hX.trans hx
          clear hx
          have hs := fun W h1 h2 => spec.l01Same_ext t.y p.y J.y l.y W h1 h2
          cases d1 : decide (J.y = l.y)
          · simp only [d1] at hs
            replace d1 := hide d1
            (try clear q0 q1 q2 q3 q4 q5 q6 q7 q8 j0 j1 j2 t0 t1 t2)
            obtain ⟨q0, q1, q2, q3, q4, q5, q6, q7, q8⟩ := hB.c9
            obtain ⟨j0, j1, j2⟩ := hR.c3
            obtain ⟨t0, t1, t2⟩ := hT.c3
            go_wp2_with fail
            refine (hs _ oT.2.1 (hj.ext hX).2.1).mono ?_
            rintro e w6 ⟨rfl, hx⟩
            clear q0 q1 q2 q3 q4 q5 q6 q7 q8 j0 j1 j2 t0 t1 t2 hs
            replace hB := hB.ext hx
            replace hR := hR.ext hx
            replace hT := hT.ext hx
            replace oT := oT.ext hx
            replace hX := hX.trans hx
            clear hx
            have E := hide (show tjB ts us y l = false by rw [EV.out]; simp [d0.out, d1.out])
            obtain ⟨q0, q1, q2, q3, q4, q5, q6, q7, q8⟩ := hB.c9
            obtain ⟨j0, j1, j2⟩ := hR.c3
            obtain ⟨t0, t1, t2⟩ := hT.c3
            go_wp2
            refine bodyPost_ret (v := .tuple #[.bool false, .int .i64 0]) (by simp [results, Tryz.results7, go_sem]) rfl ⟨by rw [EC.out, E.out], hX⟩
          · simp only [d1] at hs
            replace d1 := hide d1
            (try clear q0 q1 q2 q3 q4 q5 q6 q7 q8 j0 j1 j2 t0 t1 t2)
            obtain ⟨q0, q1, q2, q3, q4, q5, q6, q7, q8⟩ := hB.c9
            obtain ⟨j0, j1, j2⟩ := hR.c3
            obtain ⟨t0, t1, t2⟩ := hT.c3
            go_wp2_with fail
            refine (hs _ oT.2.1 (hj.ext hX).2.1).mono ?_
            rintro e w6 ⟨rfl, hx⟩
            clear q0 q1 q2 q3 q4 q5 q6 q7 q8 j0 j1 j2 t0 t1 t2 hs
            replace hB := hB.ext hx
            replace hR := hR.ext hx
            replace hT := hT.ext hx
            replace oT := oT.ext hx
            replace hX := hX.trans hx
            clear hx
            have hs := fun W h1 h2 => spec.l01Same_ext t.z p.z J.z l.z W h1 h2
            cases d2 : decide (J.z = l.z)
            · simp only [d2] at hs
              replace d2 := hide d2
              (try clear q0 q1 q2 q3 q4 q5 q6 q7 q8 j0 j1 j2 t0 t1 t2)
              obtain ⟨q0, q1, q2, q3, q4, q5, q6, q7, q8⟩ := hB.c9
              obtain ⟨j0, j1, j2⟩ := hR.c3
              obtain ⟨t0, t1, t2⟩ := hT.c3
              go_wp2_with fail
              refine (hs _ oT.2.2.1 (hj.ext hX).2.2.1).mono ?_
              rintro e w7 ⟨rfl, hx⟩
              clear q0 q1 q2 q3 q4 q5 q6 q7 q8 j0 j1 j2 t0 t1 t2 hs
              replace hB := hB.ext hx
              replace hR := hR.ext hx
              replace hT := hT.ext hx
              replace oT := oT.ext hx
              replace hX := hX.trans hx
              clear hx
              have E := hide (show tjB ts us y l = false by rw [EV.out]; simp [d0.out, d1.out, d2.out])
              obtain ⟨q0, q1, q2, q3, q4, q5, q6, q7, q8⟩ := hB.c9
              obtain ⟨j0, j1, j2⟩ := hR.c3
              obtain ⟨t0, t1, t2⟩ := hT.c3
              go_wp2
              refine bodyPost_ret (v := .tuple #[.bool false, .int .i64 0]) (by simp [results, Tryz.results7, go_sem]) rfl ⟨by rw [EC.out, E.out], hX⟩
            · simp only [d2] at hs
              replace d2 := hide d2
              (try clear q0 q1 q2 q3 q4 q5 q6 q7 q8 j0 j1 j2 t0 t1 t2)
              obtain ⟨q0, q1, q2, q3, q4, q5, q6, q7, q8⟩ := hB.c9
              obtain ⟨j0, j1, j2⟩ := hR.c3
              obtain ⟨t0, t1, t2⟩ := hT.c3
              go_wp2_with fail
              refine (hs _ oT.2.2.1 (hj.ext hX).2.2.1).mono ?_
              rintro e w7 ⟨rfl, hx⟩
              clear q0 q1 q2 q3 q4 q5 q6 q7 q8 j0 j1 j2 t0 t1 t2 hs
              replace hB := hB.ext hx
              replace hR := hR.ext hx
              replace hT := hT.ext hx
              replace oT := oT.ext hx
              replace hX := hX.trans hx
              clear hx
              have E := hide (show tjB ts us y l = true by rw [EV.out]; simp [d0.out, d1.out, d2.out])
              obtain ⟨q0, q1, q2, q3, q4, q5, q6, q7, q8⟩ := hB.c9
              obtain ⟨j0, j1, j2⟩ := hR.c3
              obtain ⟨t0, t1, t2⟩ := hT.c3
              go_wp2
              refine bodyPost_ret (v := .tuple #[.bool true, .int .i64 0]) (by simp [results, Tryz.results7, go_sem]) rfl ⟨by rw [EC.out, E.out], hX⟩
    · have cn : (c == 0) = false := by simpa using c0
      have c1 := hide (show decide (c = 0) = false from decide_eq_false c0)
      clear c0
      have E := hide (show tjB ts us y l = false by rw [EV.out, c1.out]; simp)
      obtain ⟨q0, q1, q2, q3, q4, q5, q6, q7, q8⟩ := hB.c9
      obtain ⟨j0, j1, j2⟩ := hR.c3
      obtain ⟨t0, t1, t2⟩ := hT.c3
      skip
      go_wp2
      refine bodyPost_ret (v := .tuple #[.bool false, .int .i64 0]) (by simp [results, Tryz.results7, go_sem]) rfl ⟨by rw [EC.out, E.out], hX⟩
end Go.Proofs.YtofglgfjlbehmaaGreat.mem
