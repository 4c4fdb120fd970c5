/-
  Plain laws for PlayMoves and ClearPanel: a panel in which a seat is emptied is a panel.
  The contract of the program's move: a strike or a pass.
  The contract of the reference's move: a strike or a pass.
-/
import Derived.Test.YtofglgfjlbehmaaGreatStrS
import Derived.Test.YtofglgfjlbehmaaGreatMg7
namespace Go.Proofs.YtofglgfjlbehmaaGreat.mem
open Go.ChangeShapes Go.WideShapes Go.ChangeAt Go.RowKit

theorem strC_0 {y : SelL} {k : Int} (h : strC y k = 0) : overB y = false ∧ inB k 0 ((y.p.x.length : Int) - 1) = true ∧ y.p.x.getD k.toNat 0 ≠ 0 ∧ y.s.getD y.t.toNat 0 ≠ 0 := by
  unfold strC at h
  cases h1 : overB y
  · rw [h1] at h
    cases h2 : inB k 0 ((y.p.x.length : Int) - 1)
    · rw [h2] at h; simp at h
    · rw [h2] at h
      by_cases h3 : y.p.x.getD k.toNat 0 = 0
      · rw [if_neg (by decide), if_neg (by decide), if_pos h3] at h; cases h
      · by_cases h4 : y.s.getD y.t.toNat 0 = 0
        · rw [if_neg (by decide), if_neg (by decide), if_neg h3, if_pos h4] at h; cases h
        · exact ⟨rfl, rfl, h3, h4⟩
  · rw [h1] at h; simp at h
theorem okS_str {y : SelL} {k : Int} (hok : okS y = true) (h : strC y k = 0) : okS (strL y k) = true := by
  obtain ⟨h1, h2, h3, h4⟩ := strC_0 h
  have hk := inB_iff.1 h2
  have bd := okS_bd hok
  have hp := okS_p hok
  have hs := hok
  unfold okS areB at hs
  simp only [Bool.and_eq_true, decide_eq_true_eq] at hs
  obtain ⟨_, ⟨l2, s0, s1⟩, _⟩ := hs
  have i0 := inB_iff.1 s0
  have i1 := inB_iff.1 s1
  have hkl : k.toNat < y.p.x.length := by omega
  have hx : y.p.x[k.toNat]? = some (y.p.x.getD k.toNat 0) := by
    rw [List.getD_eq_getElem?_getD, List.getElem?_eq_getElem hkl]; rfl
  have hpo := okP_emp (k := k.toNat) hp hx h3
  unfold okS areB strL
  simp only [Bool.and_eq_true, decide_eq_true_eq, List.length_set]
  refine ⟨hpo, ⟨l2, ?_, ?_⟩, inB_yes (by omega), inB_yes (by omega)⟩
  · rcases (show y.t.toNat = 0 ∨ y.t.toNat = 1 by omega) with e | e
    · rw [e] at h4 ⊢
      refine inB_yes ?_
      rw [List.getD_eq_getElem?_getD, List.getElem?_set_self (by omega)]
      simp only [Option.getD_some]
      omega
    · rw [e]
      rw [List.getD_eq_getElem?_getD, List.getElem?_set_ne (by omega), ← List.getD_eq_getElem?_getD]
      exact s0
  · rcases (show y.t.toNat = 0 ∨ y.t.toNat = 1 by omega) with e | e
    · rw [e]
      rw [List.getD_eq_getElem?_getD, List.getElem?_set_ne (by omega), ← List.getD_eq_getElem?_getD]
      exact s1
    · rw [e] at h4 ⊢
      refine inB_yes ?_
      rw [List.getD_eq_getElem?_getD, List.getElem?_set_self (by omega)]
      simp only [Option.getD_some]
      omega
theorem okS_pass {y : SelL} (hok : okS y = true) (h : overB y = false) : okS (passL y) = true := by
  have bd := okS_bd hok
  have hs := hok
  unfold okS at hs
  simp only [Bool.and_eq_true] at hs
  have hq : y.q ≠ 2 := fun e => by
    unfold overB at h
    rw [e] at h
    simp at h
  unfold okS passL
  simp only [Bool.and_eq_true]
  exact ⟨hs.1, hs.2.1, inB_yes (by omega), inB_yes (by omega)⟩
end Go.Proofs.YtofglgfjlbehmaaGreat.mem
namespace Go.Proofs.YtofglgfjlbehmaaGreat.mem
open Go.ChangeShapes Go.WideShapes Go.ChangeAt Go.RowKit

def mvC (y : SelL) (m : Int) : Int := if m = -1 then passC y else strC y m
def mvV (y : SelL) (m : Int) : SelL := if m = -1 then passV y else strV y m
set_option maxHeartbeats 4000000 in
theorem impl.move_any (x : SelA) (y : SelL) (m : Int) (w : World) (hr : RdS w x y) (hok : okS y = true) :
    Calls Tryz.prog 41 #[.agg #[.slice x.p.x.A x.p.x.n x.p.x.c, .slice x.p.y.A x.p.y.n x.p.y.c, .slice x.p.z.A x.p.z.n x.p.z.c, .slice x.s.A x.s.n x.s.c, .int .i64 x.t, .int .i64 x.q], .int .i64 m] w fun e w' => ∃ x' : SelA, e = .returned (.tuple #[.agg #[.slice x'.p.x.A x'.p.x.n x'.p.x.c, .slice x'.p.y.A x'.p.y.n x'.p.y.c, .slice x'.p.z.A x'.p.z.n x'.p.z.c, .slice x'.s.A x'.s.n x'.s.c, .int .i64 x'.t, .int .i64 x'.q], .int .i64 (mvC y m)]) ∧ OwnS w' w.heap.size x' (mvV y m) ∧ Ext w w' := by
  have hX0 := ((Ext.refl w).alloc (.cells #[.slice x.p.x.A x.p.x.n x.p.x.c, .slice x.p.y.A x.p.y.n x.p.y.c, .slice x.p.z.A x.p.z.n x.p.z.c, .slice x.s.A x.s.n x.s.c, .int .i64 x.t, .int .i64 x.q] 70)).alloc (.cells #[.slice none 0 0, .slice none 0 0, .slice none 0 0, .slice none 0 0, .int .i64 0, .int .i64 0] 70)
  have hB0 := (Blk.new w 70 (#[.slice x.p.x.A x.p.x.n x.p.x.c, .slice x.p.y.A x.p.y.n x.p.y.c, .slice x.p.z.A x.p.z.n x.p.z.c, .slice x.s.A x.s.n x.s.c, .int .i64 x.t, .int .i64 x.q])).alloc (.cells #[.slice none 0 0, .slice none 0 0, .slice none 0 0, .slice none 0 0, .int .i64 0, .int .i64 0] 70)
  have hR0 := Blk.new (w.alloc (.cells #[.slice x.p.x.A x.p.x.n x.p.x.c, .slice x.p.y.A x.p.y.n x.p.y.c, .slice x.p.z.A x.p.z.n x.p.z.c, .slice x.s.A x.s.n x.s.c, .int .i64 x.t, .int .i64 x.q] 70)) 70 (#[.slice none 0 0, .slice none 0 0, .slice none 0 0, .slice none 0 0, .int .i64 0, .int .i64 0])
  rw [World.size_alloc] at hR0
  obtain ⟨q0, q1, q2, q3, q4, q5⟩ := hB0.c6
  by_cases hm : m = -1
  · have E1 := hide (show mvV y m = passV y from if_pos hm)
    have E2 := hide (show mvC y m = passC y from if_pos hm)
    have hmb : (m == -1) = true := by simpa using hm
    subst hm
    go_enter Tryz.func41, Tryz.ntmps41
    go_wp2_with fail
    refine (impl.pass_any x y _ (hr.ext hX0) hok).mono ?_
    rintro e w2 ⟨z, rfl, oz, hx2⟩
    have hX2 := hX0.trans hx2
    have hR2 := hR0.ext hx2
    have hz2 : w.heap.size + 1 + 1 ≤ w2.heap.size := by have := hx2.size; simpa using this
    obtain ⟨r0, r1, r2, r3, r4, r5⟩ := hR2.c6
    have y0 := hR2.frozen 0
    have y1 := hR2.frozen 1
    have y2 := hR2.frozen 2
    have y3 := hR2.frozen 3
    have y4 := hR2.frozen 4
    have y5 := hR2.frozen 5
    have hRn := hR2.set6 (.slice z.p.x.A z.p.x.n z.p.x.c) (.slice z.p.y.A z.p.y.n z.p.y.c) (.slice z.p.z.A z.p.z.n z.p.z.c) (.slice z.s.A z.s.n z.s.c) (.int .i64 z.t) (.int .i64 z.q)
    obtain ⟨n0, n1, n2, n3, n4, n5⟩ := hRn.c6
    go_wp2
    refine bodyPost_ret (v := .tuple #[.agg #[.slice z.p.x.A z.p.x.n z.p.x.c, .slice z.p.y.A z.p.y.n z.p.y.c, .slice z.p.z.A z.p.z.n z.p.z.c, .slice z.s.A z.s.n z.s.c, .int .i64 z.t, .int .i64 z.q], .int .i64 (passC y)]) (by simp [results, Tryz.results41, go_sem, n0, n1, n2, n3, n4, n5]) rfl ⟨z, by rw [E2.out], by rw [E1.out]; exact OwnS.mono (lo' := w.heap.size) (((((((OwnS.mono (lo' := w.heap.size + 1 + 1) oz (by simp)).off (w.heap.size + 1) 0 (by omega) _).off (w.heap.size + 1) 1 (by omega) _).off (w.heap.size + 1) 2 (by omega) _).off (w.heap.size + 1) 3 (by omega) _).off (w.heap.size + 1) 4 (by omega) _).off (w.heap.size + 1) 5 (by omega) _) (by omega), ?_⟩
    exact ((((((hX2.off (w.heap.size + 1) 0 (by omega) _).off (w.heap.size + 1) 1 (by omega) _).off (w.heap.size + 1) 2 (by omega) _).off (w.heap.size + 1) 3 (by omega) _).off (w.heap.size + 1) 4 (by omega) _).off (w.heap.size + 1) 5 (by omega) _)
  · have E1 := hide (show mvV y m = strV y m from if_neg hm)
    have E2 := hide (show mvC y m = strC y m from if_neg hm)
    have hmb : (m == -1) = false := by simpa using hm
    clear hm
    go_enter Tryz.func41, Tryz.ntmps41
    go_wp2_with fail
    refine (impl.strike_any x y m _ (hr.ext hX0) hok).mono ?_
    rintro e w2 ⟨z, rfl, oz, hx2⟩
    have hX2 := hX0.trans hx2
    have hR2 := hR0.ext hx2
    have hz2 : w.heap.size + 1 + 1 ≤ w2.heap.size := by have := hx2.size; simpa using this
    obtain ⟨r0, r1, r2, r3, r4, r5⟩ := hR2.c6
    have y0 := hR2.frozen 0
    have y1 := hR2.frozen 1
    have y2 := hR2.frozen 2
    have y3 := hR2.frozen 3
    have y4 := hR2.frozen 4
    have y5 := hR2.frozen 5
    have hRn := hR2.set6 (.slice z.p.x.A z.p.x.n z.p.x.c) (.slice z.p.y.A z.p.y.n z.p.y.c) (.slice z.p.z.A z.p.z.n z.p.z.c) (.slice z.s.A z.s.n z.s.c) (.int .i64 z.t) (.int .i64 z.q)
    obtain ⟨n0, n1, n2, n3, n4, n5⟩ := hRn.c6
    go_wp2
    refine bodyPost_ret (v := .tuple #[.agg #[.slice z.p.x.A z.p.x.n z.p.x.c, .slice z.p.y.A z.p.y.n z.p.y.c, .slice z.p.z.A z.p.z.n z.p.z.c, .slice z.s.A z.s.n z.s.c, .int .i64 z.t, .int .i64 z.q], .int .i64 (strC y m)]) (by simp [results, Tryz.results41, go_sem, n0, n1, n2, n3, n4, n5]) rfl ⟨z, by rw [E2.out], by rw [E1.out]; exact OwnS.mono (lo' := w.heap.size) (((((((OwnS.mono (lo' := w.heap.size + 1 + 1) oz (by simp)).off (w.heap.size + 1) 0 (by omega) _).off (w.heap.size + 1) 1 (by omega) _).off (w.heap.size + 1) 2 (by omega) _).off (w.heap.size + 1) 3 (by omega) _).off (w.heap.size + 1) 4 (by omega) _).off (w.heap.size + 1) 5 (by omega) _) (by omega), ?_⟩
    exact ((((((hX2.off (w.heap.size + 1) 0 (by omega) _).off (w.heap.size + 1) 1 (by omega) _).off (w.heap.size + 1) 2 (by omega) _).off (w.heap.size + 1) 3 (by omega) _).off (w.heap.size + 1) 4 (by omega) _).off (w.heap.size + 1) 5 (by omega) _)
end Go.Proofs.YtofglgfjlbehmaaGreat.mem
namespace Go.Proofs.YtofglgfjlbehmaaGreat.mem
open Go.ChangeShapes Go.WideShapes Go.ChangeAt Go.RowKit

set_option maxHeartbeats 4000000 in
theorem spec.l14Move_any (x : SelA) (y : SelL) (m : Int) (w : World) (hr : RdS w x y) (hok : okS y = true) :
    Calls Tryz.prog 44 #[.agg #[.slice x.p.x.A x.p.x.n x.p.x.c, .slice x.p.y.A x.p.y.n x.p.y.c, .slice x.p.z.A x.p.z.n x.p.z.c, .slice x.s.A x.s.n x.s.c, .int .i64 x.t, .int .i64 x.q], .int .i64 m] w fun e w' => ∃ x' : SelA, e = .returned (.tuple #[.agg #[.slice x'.p.x.A x'.p.x.n x'.p.x.c, .slice x'.p.y.A x'.p.y.n x'.p.y.c, .slice x'.p.z.A x'.p.z.n x'.p.z.c, .slice x'.s.A x'.s.n x'.s.c, .int .i64 x'.t, .int .i64 x'.q], .int .i64 (mvC y m)]) ∧ (mvC y m = 0 → OwnS w' w.heap.size x' (mvV y m)) ∧ Ext w w' := by
  have hX0 := ((Ext.refl w).alloc (.cells #[.slice x.p.x.A x.p.x.n x.p.x.c, .slice x.p.y.A x.p.y.n x.p.y.c, .slice x.p.z.A x.p.z.n x.p.z.c, .slice x.s.A x.s.n x.s.c, .int .i64 x.t, .int .i64 x.q] 70)).alloc (.cells #[.slice none 0 0, .slice none 0 0, .slice none 0 0, .slice none 0 0, .int .i64 0, .int .i64 0] 70)
  have hB0 := (Blk.new w 70 (#[.slice x.p.x.A x.p.x.n x.p.x.c, .slice x.p.y.A x.p.y.n x.p.y.c, .slice x.p.z.A x.p.z.n x.p.z.c, .slice x.s.A x.s.n x.s.c, .int .i64 x.t, .int .i64 x.q])).alloc (.cells #[.slice none 0 0, .slice none 0 0, .slice none 0 0, .slice none 0 0, .int .i64 0, .int .i64 0] 70)
  have hR0 := Blk.new (w.alloc (.cells #[.slice x.p.x.A x.p.x.n x.p.x.c, .slice x.p.y.A x.p.y.n x.p.y.c, .slice x.p.z.A x.p.z.n x.p.z.c, .slice x.s.A x.s.n x.s.c, .int .i64 x.t, .int .i64 x.q] 70)) 70 (#[.slice none 0 0, .slice none 0 0, .slice none 0 0, .slice none 0 0, .int .i64 0, .int .i64 0])
  rw [World.size_alloc] at hR0
  obtain ⟨q0, q1, q2, q3, q4, q5⟩ := hB0.c6
  by_cases hm : m = -1
  · have hc := spec.l14Code_any x y _ (hr.ext hX0)
    cases hov : overB y
    · have E1 := hide (show mvV y m = passL y by unfold mvV passV; rw [if_pos hm, hov]; rfl)
      have E2 := hide (show mvC y m = 0 by unfold mvC passC; rw [if_pos hm, hov]; rfl)
      rw [show ptC y = 0 by unfold ptC passC; rw [hok, hov]; rfl] at hc
      subst hm
      go_enter Tryz.func44, Tryz.ntmps44
      go_wp2_with fail
      refine hc.mono ?_
      rintro e w1 ⟨rfl, hx1⟩
      have hX1 := hX0.trans hx1
      have hR1 := hR0.ext hx1
      have hz1 : w.heap.size + 1 + 1 ≤ w1.heap.size := by have := hx1.size; simpa using this
      clear q0 q1 q2 q3 q4 q5
      obtain ⟨q0, q1, q2, q3, q4, q5⟩ := (hB0.ext hx1).c6
      go_wp2_with fail
      refine (spec.l14Pass_any x y _ (hr.ext hX1) hok).mono ?_
      rintro e w2 ⟨z, rfl, oz, hx2⟩
      have hX2 := hX1.trans hx2
      have hR2 := hR1.ext hx2
      have hz2 := hx2.size
      obtain ⟨r0, r1, r2, r3, r4, r5⟩ := hR2.c6
      have y0 := hR2.frozen 0
      have y1 := hR2.frozen 1
      have y2 := hR2.frozen 2
      have y3 := hR2.frozen 3
      have y4 := hR2.frozen 4
      have y5 := hR2.frozen 5
      have hRn := hR2.set6 (.slice z.p.x.A z.p.x.n z.p.x.c) (.slice z.p.y.A z.p.y.n z.p.y.c) (.slice z.p.z.A z.p.z.n z.p.z.c) (.slice z.s.A z.s.n z.s.c) (.int .i64 z.t) (.int .i64 z.q)
      obtain ⟨n0, n1, n2, n3, n4, n5⟩ := hRn.c6
      go_wp2
      refine bodyPost_ret (v := .tuple #[.agg #[.slice z.p.x.A z.p.x.n z.p.x.c, .slice z.p.y.A z.p.y.n z.p.y.c, .slice z.p.z.A z.p.z.n z.p.z.c, .slice z.s.A z.s.n z.s.c, .int .i64 z.t, .int .i64 z.q], .int .i64 0]) (by simp [results, Tryz.results44, go_sem, n0, n1, n2, n3, n4, n5]) rfl ⟨z, by rw [E2.out], fun _ => by rw [E1.out]; exact OwnS.mono ((((((oz.off (w.heap.size + 1) 0 (by omega) _).off (w.heap.size + 1) 1 (by omega) _).off (w.heap.size + 1) 2 (by omega) _).off (w.heap.size + 1) 3 (by omega) _).off (w.heap.size + 1) 4 (by omega) _).off (w.heap.size + 1) 5 (by omega) _) (by omega), ((((((hX2.off (w.heap.size + 1) 0 (by omega) _).off (w.heap.size + 1) 1 (by omega) _).off (w.heap.size + 1) 2 (by omega) _).off (w.heap.size + 1) 3 (by omega) _).off (w.heap.size + 1) 4 (by omega) _).off (w.heap.size + 1) 5 (by omega) _)⟩
    · have E2 := hide (show mvC y m = 5 by unfold mvC passC; rw [if_pos hm, hov]; rfl)
      rw [show ptC y = 5 by unfold ptC passC; rw [hok, hov]; rfl] at hc
      subst hm
      go_enter Tryz.func44, Tryz.ntmps44
      go_wp2_with fail
      refine hc.mono ?_
      rintro e w1 ⟨rfl, hx1⟩
      have hX1 := hX0.trans hx1
      have hR1 := hR0.ext hx1
      have hz1 : w.heap.size + 1 + 1 ≤ w1.heap.size := by have := hx1.size; simpa using this
      clear q0 q1 q2 q3 q4 q5
      obtain ⟨q0, q1, q2, q3, q4, q5⟩ := (hB0.ext hx1).c6
      obtain ⟨r0, r1, r2, r3, r4, r5⟩ := hR1.c6
      have y0 := hR1.frozen 0
      have y1 := hR1.frozen 1
      have y2 := hR1.frozen 2
      have y3 := hR1.frozen 3
      have y4 := hR1.frozen 4
      have y5 := hR1.frozen 5
      have hRn := hR1.set6 (.slice x.p.x.A x.p.x.n x.p.x.c) (.slice x.p.y.A x.p.y.n x.p.y.c) (.slice x.p.z.A x.p.z.n x.p.z.c) (.slice x.s.A x.s.n x.s.c) (.int .i64 x.t) (.int .i64 x.q)
      obtain ⟨n0, n1, n2, n3, n4, n5⟩ := hRn.c6
      go_wp2
      refine bodyPost_ret (v := .tuple #[.agg #[.slice x.p.x.A x.p.x.n x.p.x.c, .slice x.p.y.A x.p.y.n x.p.y.c, .slice x.p.z.A x.p.z.n x.p.z.c, .slice x.s.A x.s.n x.s.c, .int .i64 x.t, .int .i64 x.q], .int .i64 5]) (by simp [results, Tryz.results44, go_sem, n0, n1, n2, n3, n4, n5]) rfl ⟨x, by rw [E2.out], fun h => absurd (E2.out.symm.trans h) (by decide), ((((((hX1.off (w.heap.size + 1) 0 (by omega) _).off (w.heap.size + 1) 1 (by omega) _).off (w.heap.size + 1) 2 (by omega) _).off (w.heap.size + 1) 3 (by omega) _).off (w.heap.size + 1) 4 (by omega) _).off (w.heap.size + 1) 5 (by omega) _)⟩
  · have E1 := hide (show mvV y m = strV y m from if_neg hm)
    have E2 := hide (show mvC y m = ssC y m by rw [ssC_str hok]; exact if_neg hm)
    have hmb : (m != -1) = true := by simpa using hm
    clear hm
    have hc := spec.l14Strike_any x y m _ (hr.ext hX0)
    go_enter Tryz.func44, Tryz.ntmps44
    go_wp2_with fail
    refine hc.mono ?_
    rintro e w2 ⟨z, rfl, oz, hx2⟩
    have hX2 := hX0.trans hx2
    have hR2 := hR0.ext hx2
    have hz2 : w.heap.size + 1 + 1 ≤ w2.heap.size := by have := hx2.size; simpa using this
    obtain ⟨r0, r1, r2, r3, r4, r5⟩ := hR2.c6
    have y0 := hR2.frozen 0
    have y1 := hR2.frozen 1
    have y2 := hR2.frozen 2
    have y3 := hR2.frozen 3
    have y4 := hR2.frozen 4
    have y5 := hR2.frozen 5
    have hRn := hR2.set6 (.slice z.p.x.A z.p.x.n z.p.x.c) (.slice z.p.y.A z.p.y.n z.p.y.c) (.slice z.p.z.A z.p.z.n z.p.z.c) (.slice z.s.A z.s.n z.s.c) (.int .i64 z.t) (.int .i64 z.q)
    obtain ⟨n0, n1, n2, n3, n4, n5⟩ := hRn.c6
    go_wp2
    refine bodyPost_ret (v := .tuple #[.agg #[.slice z.p.x.A z.p.x.n z.p.x.c, .slice z.p.y.A z.p.y.n z.p.y.c, .slice z.p.z.A z.p.z.n z.p.z.c, .slice z.s.A z.s.n z.s.c, .int .i64 z.t, .int .i64 z.q], .int .i64 (ssC y m)]) (by simp [results, Tryz.results44, go_sem, n0, n1, n2, n3, n4, n5]) rfl ⟨z, by rw [E2.out], fun h => ?_, ((((((hX2.off (w.heap.size + 1) 0 (by omega) _).off (w.heap.size + 1) 1 (by omega) _).off (w.heap.size + 1) 2 (by omega) _).off (w.heap.size + 1) 3 (by omega) _).off (w.heap.size + 1) 4 (by omega) _).off (w.heap.size + 1) 5 (by omega) _)⟩
    have h0 : ssC y m = 0 := E2.out.symm.trans h
    rw [E1.out, strV_yes ((ssC_str hok).symm.trans h0)]
    exact OwnS.mono (lo' := w.heap.size) (((((((OwnS.mono (lo' := w.heap.size + 1 + 1) (oz h0) (by simp)).off (w.heap.size + 1) 0 (by omega) _).off (w.heap.size + 1) 1 (by omega) _).off (w.heap.size + 1) 2 (by omega) _).off (w.heap.size + 1) 3 (by omega) _).off (w.heap.size + 1) 4 (by omega) _).off (w.heap.size + 1) 5 (by omega) _) (by omega)
end Go.Proofs.YtofglgfjlbehmaaGreat.mem
