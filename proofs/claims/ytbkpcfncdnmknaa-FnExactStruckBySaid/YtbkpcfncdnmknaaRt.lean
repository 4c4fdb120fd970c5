/-
  Contracts of both programs' FirstBadMove, ReplayRecord, IsTrueJury.
-/
import Derived.Test.YtbkpcfncdnmknaaRb
import Derived.Test.YtbkpcfncdnmknaaSwear
namespace Go.Proofs.Ytbkpcfncdnmknaa.mem
open Go.ChangeShapes Go.WideShapes Go.ChangeAt Go.RowKit

def fbm (ts : List Ti) (us : List ByteArray) (y : RecL) : Int × Int × Int :=
  if poC ts us y = 0 then (if (rpG ts us y).2.2 = 0 then (0, 0, 4) else ((rpG ts us y).2.1, (rpG ts us y).2.2, 0)) else (0, 0, 1)
def jyC (ts : List Ti) (us : List ByteArray) (y : RecL) : Int := if (rpG ts us y).2.2 = 0 then (if swC (rpG ts us y).1.p y.e y.f = 0 then 0 else 4) else 5
def jyV (ts : List Ti) (us : List ByteArray) (y : RecL) : L3 := if jyC ts us y = 0 then swV (rpG ts us y).1.p y.e y.f else nilL3
def rrC (ts : List Ti) (us : List ByteArray) (y : RecL) : Int := if poC ts us y = 0 then jyC ts us y else 1
def rrV (ts : List Ti) (us : List ByteArray) (y : RecL) : L3 := if poC ts us y = 0 then jyV ts us y else nilL3
def tjB (ts : List Ti) (us : List ByteArray) (y : RecL) (l : L3) : Bool :=
  decide (poC ts us y = 0) && (decide (jyC ts us y = 0) && (cmt y.b y.c == y.a) && decide ((jyV ts us y).x = l.x) && decide ((jyV ts us y).y = l.y) && decide ((jyV ts us y).z = l.z))
theorem jy_0 {ts : List Ti} {us : List ByteArray} {y : RecL} {g1 : SelL} {g2 : Nat} (h : rpG ts us y = (g1, g2, 0)) (hs : swC g1.p y.e y.f = 0) : jyC ts us y = 0 ∧ jyV ts us y = swV g1.p y.e y.f := by
  have e : jyC ts us y = 0 := by unfold jyC; rw [h]; simp only [hs, if_true]
  refine ⟨e, ?_⟩
  unfold jyV
  rw [e, h, if_pos rfl]
theorem jy_4 {ts : List Ti} {us : List ByteArray} {y : RecL} {g1 : SelL} {g2 : Nat} (h : rpG ts us y = (g1, g2, 0)) (hs : swC g1.p y.e y.f ≠ 0) : jyC ts us y = 4 ∧ jyV ts us y = nilL3 := by
  have e : jyC ts us y = 4 := by unfold jyC; rw [h]; simp only [if_neg hs, if_true]
  refine ⟨e, ?_⟩
  unfold jyV
  rw [e, if_neg (by decide)]
theorem jy_5 {ts : List Ti} {us : List ByteArray} {y : RecL} {g1 : SelL} {g2 : Nat} {g3 : Int} (h : rpG ts us y = (g1, g2, g3)) (hs : g3 ≠ 0) : jyC ts us y = 5 ∧ jyV ts us y = nilL3 := by
  have e : jyC ts us y = 5 := by unfold jyC; rw [h]; simp only [if_neg hs]
  refine ⟨e, ?_⟩
  unfold jyV
  rw [e, if_neg (by decide)]
theorem poC_no {ts : List Ti} {us : List ByteArray} {y : RecL} (hb : (okR y && okK ts us) = false) : poC ts us y = 1 := by
  unfold poC
  rw [if_neg]
  rintro ⟨h1, h2⟩
  rw [h1, h2] at hb
  cases hb
theorem poC_yes {ts : List Ti} {us : List ByteArray} {y : RecL} (hb : okR y = true ∧ okK ts us = true) : poC ts us y = 0 := by
  unfold poC
  rw [if_pos hb]
theorem poC_or (ts : List Ti) (us : List ByteArray) (y : RecL) : (poC ts us y = 1 ∧ (okR y && okK ts us) = false) ∨ (poC ts us y = 0 ∧ okR y = true ∧ okK ts us = true) := by
  cases hb : (okR y && okK ts us)
  · exact .inl ⟨poC_no hb, rfl⟩
  · rw [Bool.and_eq_true] at hb
    exact .inr ⟨poC_yes hb, hb⟩

/-- what the play on copies has brought: its selection in a block of its own -/
def RpPost (w1 : World) (g1 : SelL) (g2 : Nat) (g3 : Int) (s8 s9 s10 : Value) (wx : World) : Prop :=
  ∃ (g : Nat) (z : SelA), s8 = .pointer (some ⟨g, 0, none⟩) ∧ s9 = .int .i64 g2 ∧ s10 = .int .i64 g3 ∧ Blk wx g 67 #[.slice z.p.x.A z.p.x.n z.p.x.c, .slice z.p.y.A z.p.y.n z.p.y.c, .slice z.p.z.A z.p.z.n z.p.z.c, .slice z.s.A z.s.n z.s.c, .int .i64 z.t, .int .i64 z.q] ∧ OwnS wx w1.heap.size z g1 ∧ Ext w1 wx
theorem RpPost.new {w1 w3 : World} {g1 : SelL} {g2 : Nat} {g3 : Int} {lo : Nat} {z : SelA} (hE : Ext w1 w3) (oz : OwnS w3 lo z g1) (hl : w1.heap.size ≤ lo) :
    RpPost w1 g1 g2 g3 (.pointer (some ⟨w3.heap.size, 0, none⟩)) (.int .i64 g2) (.int .i64 g3) (w3.alloc (.cells #[.slice z.p.x.A z.p.x.n z.p.x.c, .slice z.p.y.A z.p.y.n z.p.y.c, .slice z.p.z.A z.p.z.n z.p.z.c, .slice z.s.A z.s.n z.s.c, .int .i64 z.t, .int .i64 z.q] 67)) :=
  ⟨_, z, rfl, rfl, rfl, Blk.new _ _ _, (oz.mono hl).alloc _, hE.alloc _⟩
theorem RpPost.old {w1 w3 : World} {g1 : SelL} {g2 g : Nat} {g3 : Int} {lo : Nat} {z : SelA} (hE : Ext w1 w3) (oz : OwnS w3 lo z g1) (hl : w1.heap.size ≤ lo) (hO : Blk w3 g 67 #[.slice none 0 0, .slice none 0 0, .slice none 0 0, .slice none 0 0, .int .i64 0, .int .i64 0]) (hg : g < lo) (hg1 : w1.heap.size ≤ g) :
    RpPost w1 g1 g2 g3 (.pointer (some ⟨g, 0, none⟩)) (.int .i64 g2) (.int .i64 g3) ((((((w3.setCell ⟨g, 0, none⟩ (.slice z.p.x.A z.p.x.n z.p.x.c)).setCell ⟨g, 1, none⟩ (.slice z.p.y.A z.p.y.n z.p.y.c)).setCell ⟨g, 2, none⟩ (.slice z.p.z.A z.p.z.n z.p.z.c)).setCell ⟨g, 3, none⟩ (.slice z.s.A z.s.n z.s.c)).setCell ⟨g, 4, none⟩ (.int .i64 z.t)).setCell ⟨g, 5, none⟩ (.int .i64 z.q)) :=
  have ha : ∀ k, blksS z k → k ≠ g := fun k hk e => by have := (oz.lt hk).1; omega
  ⟨g, z, rfl, rfl, rfl, hO.set6 _ _ _ _ _ _, ((((((oz.mono hl).away ha 0 _).away ha 1 _).away ha 2 _).away ha 3 _).away ha 4 _).away ha 5 _,
    (((((hE.off g 0 (by omega) _).off g 1 (by omega) _).off g 2 (by omega) _).off g 3 (by omega) _).off g 4 (by omega) _).off g 5 (by omega) _⟩
set_option maxHeartbeats 2500000 in
theorem impl.FirstBadMove_any (x : RecA) (y : RecL) (s : Sl) (ts : List Ti) (q : Sl) (us : List ByteArray) (w : World) (hr : RdR w x y) (ht : RdT w s.A s.n ts) (hq : RdW w q.A q.n us) (hc : cap1 s) :
    Calls Try.prog 24 #[.agg #[.int .i64 x.a, .int .i64 x.b, .int .i64 x.c, .slice x.p.x.A x.p.x.n x.p.x.c, .int .i64 x.d, .slice x.p.y.A x.p.y.n x.p.y.c, .slice x.p.z.A x.p.z.n x.p.z.c, .int .i64 x.e, .int .i64 x.f], .slice s.A s.n s.c, .slice q.A q.n q.c] w fun e w' => e = .returned (.tuple #[.int .i64 (fbm ts us y).1, .int .i64 (fbm ts us y).2.1, .int .i64 (fbm ts us y).2.2]) ∧ Ext w w' := by
  have hX0 := (Ext.refl w).alloc (.cells #[.int .i64 x.a, .int .i64 x.b, .int .i64 x.c, .slice x.p.x.A x.p.x.n x.p.x.c, .int .i64 x.d, .slice x.p.y.A x.p.y.n x.p.y.c, .slice x.p.z.A x.p.z.n x.p.z.c, .int .i64 x.e, .int .i64 x.f] 34)
  have hB0 := Blk.new w 34 (#[.int .i64 x.a, .int .i64 x.b, .int .i64 x.c, .slice x.p.x.A x.p.x.n x.p.x.c, .int .i64 x.d, .slice x.p.y.A x.p.y.n x.p.y.c, .slice x.p.z.A x.p.z.n x.p.z.c, .int .i64 x.e, .int .i64 x.f])
  obtain ⟨q0, q1, q2, q3, q4, q5, q6, q7, q8⟩ := hB0.c9
  have hk := impl.recordOk_any x y s ts q us _ (hr.ext hX0) (ht.ext hX0) (hq.ext hX0) hc
  rcases poC_or ts us y with ⟨hp, hb⟩ | ⟨hp, hok, hkk⟩
  · have E := hide (show fbm ts us y = (0, 0, 1) by unfold fbm; rw [hp]; rfl)
    rw [hb] at hk
    clear hp hb
    go_enter Try.func24, Try.ntmps24
    go_wp2_with fail
    refine hk.mono ?_
    rintro e w1 ⟨rfl, hx1⟩
    go_wp2
    refine bodyPost_ret (v := .tuple #[.int .i64 0, .int .i64 0, .int .i64 1]) (by simp [results, Try.results24, go_sem]) rfl ⟨by rw [E.out], hX0.trans hx1⟩
  · rw [hok, hkk] at hk
    have hpl := fun W h1 h2 h3 => impl.played_any x y s ts q us W h1 h2 h3 hok hkk
    obtain ⟨g1, g2, g3, hg⟩ : ∃ g1 g2 g3, Hid (rpG ts us y = (g1, g2, g3)) := ⟨_, _, _, rfl⟩
    simp only [hg.out] at hpl
    have E := hide (show fbm ts us y = if g3 = 0 then (0, 0, 4) else ((g2 : Int), g3, 0) by unfold fbm; rw [hp, hg.out]; rfl)
    clear hg hp hok hkk
    go_enter Try.func24, Try.ntmps24
    go_wp2_with fail
    refine hk.mono ?_
    rintro e w1 ⟨rfl, hx1⟩
    have hX1 := hX0.trans hx1
    clear q0 q1 q2 q3 q4 q5 q6 q7 q8
    obtain ⟨q0, q1, q2, q3, q4, q5, q6, q7, q8⟩ := (hB0.ext hx1).c9
    by_cases h0 : g3 = 0
    · subst h0
      go_wp2_with fail
      refine (hpl _ (hr.ext hX1) (ht.ext hX1) (hq.ext hX1)).mono ?_
      rintro e w2 ⟨z, rfl, oz, hx2⟩
      go_wp2
      refine bodyPost_ret (v := .tuple #[.int .i64 0, .int .i64 0, .int .i64 4]) (by simp [results, Try.results24, go_sem]) rfl ⟨by rw [E.out]; rfl, (hX1.trans hx2).alloc _⟩
    · have hn0 : (g3 == 0) = false := by simpa using h0
      rw [if_neg h0] at E
      clear h0
      go_wp2_with fail
      refine (hpl _ (hr.ext hX1) (ht.ext hX1) (hq.ext hX1)).mono ?_
      rintro e w2 ⟨z, rfl, oz, hx2⟩
      go_wp2
      refine bodyPost_ret (v := .tuple #[.int .i64 g2, .int .i64 g3, .int .i64 0]) (by simp [results, Try.results24, go_sem]) rfl ⟨by rw [E.out], (hX1.trans hx2).alloc _⟩
set_option maxHeartbeats 4000000 in
theorem spec.FirstBadMove_any (x : RecA) (y : RecL) (s : Sl) (ts : List Ti) (q : Sl) (us : List ByteArray) (w : World) (hr : RdR w x y) (ht : RdT w s.A s.n ts) (hq : RdW w q.A q.n us) :
    Calls Try.prog 23 #[.agg #[.int .i64 x.a, .int .i64 x.b, .int .i64 x.c, .slice x.p.x.A x.p.x.n x.p.x.c, .int .i64 x.d, .slice x.p.y.A x.p.y.n x.p.y.c, .slice x.p.z.A x.p.z.n x.p.z.c, .int .i64 x.e, .int .i64 x.f], .slice s.A s.n s.c, .slice q.A q.n q.c] w fun e w' => e = .returned (.tuple #[.int .i64 (fbm ts us y).1, .int .i64 (fbm ts us y).2.1, .int .i64 (fbm ts us y).2.2]) ∧ Ext w w' := by
  have hX0 := (Ext.refl w).alloc (.cells #[.int .i64 x.a, .int .i64 x.b, .int .i64 x.c, .slice x.p.x.A x.p.x.n x.p.x.c, .int .i64 x.d, .slice x.p.y.A x.p.y.n x.p.y.c, .slice x.p.z.A x.p.z.n x.p.z.c, .int .i64 x.e, .int .i64 x.f] 34)
  have hB0 := Blk.new w 34 (#[.int .i64 x.a, .int .i64 x.b, .int .i64 x.c, .slice x.p.x.A x.p.x.n x.p.x.c, .int .i64 x.d, .slice x.p.y.A x.p.y.n x.p.y.c, .slice x.p.z.A x.p.z.n x.p.z.c, .int .i64 x.e, .int .i64 x.f])
  obtain ⟨q0, q1, q2, q3, q4, q5, q6, q7, q8⟩ := hB0.c9
  have hk := spec.l16Code_any x y s ts q us _ (hr.ext hX0) (ht.ext hX0) (hq.ext hX0)
  rcases poC_or ts us y with ⟨hp, hb⟩ | ⟨hp, hok, hkk⟩
  · have E := hide (show fbm ts us y = (0, 0, 1) by unfold fbm; rw [hp]; rfl)
    rw [hp] at hk
    clear hp hb
    go_enter Try.func23, Try.ntmps23
    go_wp2_with fail
    refine hk.mono ?_
    rintro e w1 ⟨rfl, hx1⟩
    go_wp2
    refine bodyPost_ret (v := .tuple #[.int .i64 0, .int .i64 0, .int .i64 1]) (by simp [results, Try.results23, go_sem]) rfl ⟨by rw [E.out], hX0.trans hx1⟩
  · rw [hp] at hk
    have hpm := hide (pmR_bg hok hkk)
    obtain ⟨g1, g2, g3, hg⟩ : ∃ g1 g2 g3, Hid (rpG ts us y = (g1, g2, g3)) := ⟨_, _, _, rfl⟩
    rw [hg.out] at hpm
    have E := hide (show fbm ts us y = if g3 = 0 then (0, 0, 4) else ((g2 : Int), g3, 0) by unfold fbm; rw [hp, hg.out]; rfl)
    clear hg hp hkk
    go_enter Try.func23, Try.ntmps23
    go_wp2_with fail
    refine hk.mono ?_
    rintro e w1 ⟨rfl, hx1⟩
    have hX := hX0.trans hx1
    have hB := hB0.ext hx1
    have z1 := hx1.size
    simp only [World.size_alloc] at z1
    clear q0 q1 q2 q3 q4 q5 q6 q7 q8 hk hB0 hx1 hX0
    obtain ⟨q0, q1, q2, q3, q4, q5, q6, q7, q8⟩ := hB.c9
    have hGo : ∀ (T : Prop), True := fun _ => trivial
    clear hGo
    by_cases h0 : g3 = 0
    case' neg =>
      have hn0 : (g3 == 0) = false := by simpa using h0
      rw [if_neg h0] at E
      clear h0
    case' pos => subst h0
    all_goals go_wp2_with fail
    all_goals go_region_held3 (fun w' => w'.cell? ⟨w.heap.size, 0, none⟩ = some (.int .i64 x.a) ∧ w'.cell? ⟨w.heap.size, 1, none⟩ = some (.int .i64 x.b) ∧ w'.cell? ⟨w.heap.size, 2, none⟩ = some (.int .i64 x.c) ∧ w'.cell? ⟨w.heap.size, 3, none⟩ = some (.slice x.p.x.A x.p.x.n x.p.x.c) ∧ w'.cell? ⟨w.heap.size, 4, none⟩ = some (.int .i64 x.d) ∧ w'.cell? ⟨w.heap.size, 5, none⟩ = some (.slice x.p.y.A x.p.y.n x.p.y.c) ∧ w'.cell? ⟨w.heap.size, 6, none⟩ = some (.slice x.p.z.A x.p.z.n x.p.z.c) ∧ w'.cell? ⟨w.heap.size, 7, none⟩ = some (.int .i64 x.e) ∧ w'.cell? ⟨w.heap.size, 8, none⟩ = some (.int .i64 x.f)) (first | (with_reducible exact kk2) | (with_reducible exact (ka3 _)) | (with_reducible exact kk1) | (with_reducible exact ((((((hB.off _ 0 (by omega) _).off _ 1 (by omega) _).off _ 2 (by omega) _).off _ 3 (by omega) _).off _ 4 (by omega) _).off _ 5 (by omega) _).c9) | go_keep) (first | (go_at_call 41; refine (spec.l16Begin_any x y s ts q us _ (hr.ext (by first | exact hX.drew | exact (hX.alloc _).drew | fail)) (ht.ext (by first | exact hX.drew | exact (hX.alloc _).drew | fail)) (hq.ext (by first | exact hX.drew | exact (hX.alloc _).drew | fail)) hok).mono ?_; rintro e w2 ⟨zb, rfl, ob, hx⟩; have hE : Ext w1 w2 := Ext.trans (by first | exact (Ext.refl _).drew | exact ((Ext.refl _).alloc _).drew | fail) hx; have z2 := hE.size; have zs2 := hx.size; (try simp at zs2); replace hX := hX.trans hE; replace hB := hB.ext hE; (try have hO : Blk w2 (w1.heap.size) 67 #[.slice none 0 0, .slice none 0 0, .slice none 0 0, .slice none 0 0, .int .i64 0, .int .i64 0] := Blk.ext (by first | with_reducible exact (Blk.new _ _ _).drew | fail) hx); have kk1 := hB.c9; have hE2 := hE; clear hx hE) | (go_at_call 40; refine (spec.PlayMoves_any zb (bgL ts us y) x.p.z y.p.z _ (OwnS.rd (ob.ext (by first | exact Ext.refl _ | exact (Ext.refl _).alloc _ | fail))) (hr.ext (by first | exact hX | exact hX.alloc _ | fail)).1.2.2.1).mono ?_; rewrite [hpm.out]; rintro e w3 ⟨z, rfl, oz, hx⟩; have hE : Ext w2 w3 := Ext.trans (by first | exact Ext.refl _ | exact (Ext.refl _).alloc _ | fail) hx; have z3 := hE.size; have zs3 := hx.size; (try simp at zs3); replace hX := hX.trans hE; replace hB := hB.ext hE; (try have hO := Blk.ext hO hE); (try have hO : Blk w3 (w2.heap.size) 67 #[.slice none 0 0, .slice none 0 0, .slice none 0 0, .slice none 0 0, .int .i64 0, .int .i64 0] := Blk.ext (by first | with_reducible exact Blk.new _ _ _ | fail) hx); (try obtain ⟨so0, so1, so2, so3, so4, so5⟩ := hO.c6); (try have sy0 := hO.frozen 0); (try have sy1 := hO.frozen 1); (try have sy2 := hO.frozen 2); (try have sy3 := hO.frozen 3); (try have sy4 := hO.frozen 4); (try have sy5 := hO.frozen 5); have kk2 := hB.c9; have ka3 := (fun (o : Obj) => (show (w3.alloc o).cell? ⟨w.heap.size, 0, none⟩ = some (.int .i64 x.a) ∧ (w3.alloc o).cell? ⟨w.heap.size, 1, none⟩ = some (.int .i64 x.b) ∧ (w3.alloc o).cell? ⟨w.heap.size, 2, none⟩ = some (.int .i64 x.c) ∧ (w3.alloc o).cell? ⟨w.heap.size, 3, none⟩ = some (.slice x.p.x.A x.p.x.n x.p.x.c) ∧ (w3.alloc o).cell? ⟨w.heap.size, 4, none⟩ = some (.int .i64 x.d) ∧ (w3.alloc o).cell? ⟨w.heap.size, 5, none⟩ = some (.slice x.p.y.A x.p.y.n x.p.y.c) ∧ (w3.alloc o).cell? ⟨w.heap.size, 6, none⟩ = some (.slice x.p.z.A x.p.z.n x.p.z.c) ∧ (w3.alloc o).cell? ⟨w.heap.size, 7, none⟩ = some (.int .i64 x.e) ∧ (w3.alloc o).cell? ⟨w.heap.size, 8, none⟩ = some (.int .i64 x.f) from (hB.alloc o).c9)); have hE3 := hE; clear hx hE))
    all_goals go_wp2
    all_goals first
      | refine bodyPost_ret (v := .tuple #[.int .i64 0, .int .i64 0, .int .i64 4]) (by simp [results, Try.results23, go_sem]) rfl ⟨by rw [E.out]; rfl, ?_⟩
      | refine bodyPost_ret (v := .tuple #[.int .i64 g2, .int .i64 g3, .int .i64 0]) (by simp [results, Try.results23, go_sem]) rfl ⟨by rw [E.out], ?_⟩
    all_goals first | with_reducible exact hX.alloc _ | with_reducible exact ((((((hX.off _ 0 (by omega) _).off _ 1 (by omega) _).off _ 2 (by omega) _).off _ 3 (by omega) _).off _ 4 (by omega) _).off _ 5 (by omega) _) | fail
end Go.Proofs.Ytbkpcfncdnmknaa.mem
