/-
  Contracts of both programs' PlayMoves.
-/
import Derived.Test.YtofglgfjlbehmaaGreatPlayG
import Derived.Test.YtofglgfjlbehmaaGreatMg2
namespace Go.Proofs.YtofglgfjlbehmaaGreat.mem
open Go.ChangeShapes Go.WideShapes Go.ChangeAt Go.RowKit

def pmR (y : SelL) (ms : List Int) : SelL × Nat × Int := if okS y = true then (if ms.length ≤ 40 then playG y ms 0 else (nilL, 0, 3)) else (nilL, 0, 1)
/-- a loop's state: a selection of the call's own in block g, which the call has made before it -/
theorem RunPost.step0 {w w4 : World} {y' : SelL} {g n : Nat} {z : SelA} {z0 : SelA} (hg : w.heap.size ≤ g) (hg1 : g ≠ w.heap.size + 1) (hO : Blk w4 g 70 #[.slice z0.p.x.A z0.p.x.n z0.p.x.c, .slice z0.p.y.A z0.p.y.n z0.p.y.c, .slice z0.p.z.A z0.p.z.n z0.p.z.c, .slice z0.s.A z0.s.n z0.s.c, .int .i64 z0.t, .int .i64 z0.q]) (hX : Ext w w4) (hR : Blk w4 (w.heap.size + 1) 70 #[.slice none 0 0, .slice none 0 0, .slice none 0 0, .slice none 0 0, .int .i64 0, .int .i64 0])
    (h3 : OwnS w4 n z y') (hn : w.heap.size + 1 + 1 ≤ n) (hgn : g < n) :
    RunPost w g z y' ((((((w4.setCell ⟨g, 0, none⟩ (.slice z.p.x.A z.p.x.n z.p.x.c)).setCell ⟨g, 1, none⟩ (.slice z.p.y.A z.p.y.n z.p.y.c)).setCell ⟨g, 2, none⟩ (.slice z.p.z.A z.p.z.n z.p.z.c)).setCell ⟨g, 3, none⟩ (.slice z.s.A z.s.n z.s.c)).setCell ⟨g, 4, none⟩ (.int .i64 z.t)).setCell ⟨g, 5, none⟩ (.int .i64 z.q)) :=
  have ha : ∀ k, blksS z k → k ≠ g := fun k hk e => by have := (h3.lt hk).1; omega
  ⟨hO.set6 _ _ _ _ _ _, ((((((h3.mono hn).away ha 0 _).away ha 1 _).away ha 2 _).away ha 3 _).away ha 4 _).away ha 5 _,
    ((((((hX.off g 0 (by omega) _).off g 1 (by omega) _).off g 2 (by omega) _).off g 3 (by omega) _).off g 4 (by omega) _).off g 5 (by omega) _), ((((((hR.off g 0 (by omega) _).off g 1 (by omega) _).off g 2 (by omega) _).off g 3 (by omega) _).off g 4 (by omega) _).off g 5 (by omega) _), ha⟩
/-- what a move, its selection in a new block, has brought -/
def MovPost (wr : World) (c : Int) (y' : SelL) (v8 v9 : Value) (wx : World) : Prop :=
  ∃ (g : Nat) (z : SelA), v8 = .pointer (some ⟨g, 0, none⟩) ∧ v9 = .int .i64 c ∧ Blk wx g 70 #[.slice z.p.x.A z.p.x.n z.p.x.c, .slice z.p.y.A z.p.y.n z.p.y.c, .slice z.p.z.A z.p.z.n z.p.z.c, .slice z.s.A z.s.n z.s.c, .int .i64 z.t, .int .i64 z.q] ∧ (c = 0 → OwnS wx wr.heap.size z y') ∧ Ext wr wx
theorem MovPost.two {wr w2 : World} {c : Int} {y' : SelL} {z : SelA} {lo : Nat} (h : c = 0 → OwnS w2 lo z y') (hl : wr.heap.size ≤ lo) (hX : Ext wr w2) :
    MovPost wr c y' (.pointer (some ⟨w2.heap.size, 0, none⟩)) (.int .i64 c) (w2.alloc (.cells #[.slice z.p.x.A z.p.x.n z.p.x.c, .slice z.p.y.A z.p.y.n z.p.y.c, .slice z.p.z.A z.p.z.n z.p.z.c, .slice z.s.A z.s.n z.s.c, .int .i64 z.t, .int .i64 z.q] 70)) :=
  ⟨_, z, rfl, rfl, Blk.new _ _ _, fun h0 => ((h h0).mono hl).alloc _, hX.alloc _⟩
theorem MovPost.one {wr w2 : World} {c : Int} {y' : SelL} {g n : Nat} {z : SelA} (hN : Blk w2 g 70 #[.slice none 0 0, .slice none 0 0, .slice none 0 0, .slice none 0 0, .int .i64 0, .int .i64 0]) (h : c = 0 → OwnS w2 n z y') (hg : wr.heap.size ≤ g) (hgn : g < n) (hX : Ext wr w2) :
    MovPost wr c y' (.pointer (some ⟨g, 0, none⟩)) (.int .i64 c) ((((((w2.setCell ⟨g, 0, none⟩ (.slice z.p.x.A z.p.x.n z.p.x.c)).setCell ⟨g, 1, none⟩ (.slice z.p.y.A z.p.y.n z.p.y.c)).setCell ⟨g, 2, none⟩ (.slice z.p.z.A z.p.z.n z.p.z.c)).setCell ⟨g, 3, none⟩ (.slice z.s.A z.s.n z.s.c)).setCell ⟨g, 4, none⟩ (.int .i64 z.t)).setCell ⟨g, 5, none⟩ (.int .i64 z.q)) :=
  ⟨g, z, rfl, rfl, hN.set6 _ _ _ _ _ _, fun h0 =>
    have h3 := h h0
    have ha : ∀ k, blksS z k → k ≠ g := fun k hk e => by have := (h3.lt hk).1; omega
    ((((((h3.mono (Nat.le_trans hg (Nat.le_of_lt hgn))).away ha 0 _).away ha 1 _).away ha 2 _).away ha 3 _).away ha 4 _).away ha 5 _, ((((((hX.off g 0 (by omega) _).off g 1 (by omega) _).off g 2 (by omega) _).off g 3 (by omega) _).off g 4 (by omega) _).off g 5 (by omega) _)⟩
set_option maxHeartbeats 8000000 in
theorem spec.PlayMoves_any (x : SelA) (y : SelL) (s1 : Sl) (ms : List Int) (w : World) (hr : RdS w x y) (hm : Rd w s1.A s1.n ms) :
    Calls Tryz.prog 47 #[.agg #[.slice x.p.x.A x.p.x.n x.p.x.c, .slice x.p.y.A x.p.y.n x.p.y.c, .slice x.p.z.A x.p.z.n x.p.z.c, .slice x.s.A x.s.n x.s.c, .int .i64 x.t, .int .i64 x.q], .slice s1.A s1.n s1.c] w fun e w' => ∃ x' : SelA, e = .returned (.tuple #[.agg #[.slice x'.p.x.A x'.p.x.n x'.p.x.c, .slice x'.p.y.A x'.p.y.n x'.p.y.c, .slice x'.p.z.A x'.p.z.n x'.p.z.c, .slice x'.s.A x'.s.n x'.s.c, .int .i64 x'.t, .int .i64 x'.q], .int .i64 (pmR y ms).2.1, .int .i64 (pmR y ms).2.2]) ∧ OwnS w' w.heap.size x' (pmR y ms).1 ∧ Ext w w' := by
  obtain ⟨A1, n1, c1⟩ := s1
  simp only at hm ⊢
  have hl := hide hm.1
  have hn1 := hm.le
  have hX0 := ((Ext.refl w).alloc (.cells #[.slice x.p.x.A x.p.x.n x.p.x.c, .slice x.p.y.A x.p.y.n x.p.y.c, .slice x.p.z.A x.p.z.n x.p.z.c, .slice x.s.A x.s.n x.s.c, .int .i64 x.t, .int .i64 x.q] 70)).alloc (.cells #[.slice none 0 0, .slice none 0 0, .slice none 0 0, .slice none 0 0, .int .i64 0, .int .i64 0] 70)
  have hB0 := (Blk.new w 70 (#[.slice x.p.x.A x.p.x.n x.p.x.c, .slice x.p.y.A x.p.y.n x.p.y.c, .slice x.p.z.A x.p.z.n x.p.z.c, .slice x.s.A x.s.n x.s.c, .int .i64 x.t, .int .i64 x.q])).alloc (.cells #[.slice none 0 0, .slice none 0 0, .slice none 0 0, .slice none 0 0, .int .i64 0, .int .i64 0] 70)
  have hR0 := Blk.new (w.alloc (.cells #[.slice x.p.x.A x.p.x.n x.p.x.c, .slice x.p.y.A x.p.y.n x.p.y.c, .slice x.p.z.A x.p.z.n x.p.z.c, .slice x.s.A x.s.n x.s.c, .int .i64 x.t, .int .i64 x.q] 70)) 70 (#[.slice none 0 0, .slice none 0 0, .slice none 0 0, .slice none 0 0, .int .i64 0, .int .i64 0])
  rw [World.size_alloc] at hR0
  obtain ⟨q0, q1, q2, q3, q4, q5⟩ := hB0.c6
  go_enter Tryz.func47, Tryz.ntmps47
  go_wp2_with fail
  refine (spec.IsSelection_any x y _ (hr.ext hX0)).mono ?_
  rintro e w1 ⟨rfl, hx1⟩
  have hX1 := hX0.trans hx1
  have hR1 := hR0.ext hx1
  have hB1 := hB0.ext hx1
  have hz1 : w.heap.size + 1 + 1 ≤ w1.heap.size := by have := hx1.size; simpa using this
  clear q0 q1 q2 q3 q4 q5
  obtain ⟨q0, q1, q2, q3, q4, q5⟩ := hB1.c6
  cases hok : okS y
  · have E2 := hide (show pmR y ms = (nilL, 0, 1) by unfold pmR; rw [hok]; rfl)
    obtain ⟨r0, r1, r2, r3, r4, r5⟩ := hR1.c6
    have y0 := hR1.frozen 0
    have y1 := hR1.frozen 1
    have y2 := hR1.frozen 2
    have y3 := hR1.frozen 3
    have y4 := hR1.frozen 4
    have y5 := hR1.frozen 5
    have hRn := hR1.set6 (.slice none 0 0) (.slice none 0 0) (.slice none 0 0) (.slice none 0 0) (.int .i64 0) (.int .i64 0)
    obtain ⟨n0, n1, n2, n3, n4, n5⟩ := hRn.c6
    go_wp2
    refine bodyPost_ret (v := .tuple #[.agg #[.slice nilS.p.x.A nilS.p.x.n nilS.p.x.c, .slice nilS.p.y.A nilS.p.y.n nilS.p.y.c, .slice nilS.p.z.A nilS.p.z.n nilS.p.z.c, .slice nilS.s.A nilS.s.n nilS.s.c, .int .i64 nilS.t, .int .i64 nilS.q], .int .i64 0, .int .i64 1]) (by simp [results, Tryz.results47, go_sem, nilS, nil3, n0, n1, n2, n3, n4, n5]) rfl ⟨nilS, by rw [E2.out]; rfl, ?_, ((((((hX1.off (w.heap.size + 1) 0 (by omega) _).off (w.heap.size + 1) 1 (by omega) _).off (w.heap.size + 1) 2 (by omega) _).off (w.heap.size + 1) 3 (by omega) _).off (w.heap.size + 1) 4 (by omega) _).off (w.heap.size + 1) 5 (by omega) _)⟩
    rw [E2.out]
    exact OwnS.nil _ _
  cases h40 : decide ((40 : Int) < (n1 : Int))
  case true =>
    have E2 := hide (show pmR y ms = (nilL, 0, 3) by unfold pmR; rw [hok]; have h := of_decide_eq_true h40; have h2 := hl.out; rw [if_pos rfl, if_neg (by omega)])
    obtain ⟨r0, r1, r2, r3, r4, r5⟩ := hR1.c6
    have y0 := hR1.frozen 0
    have y1 := hR1.frozen 1
    have y2 := hR1.frozen 2
    have y3 := hR1.frozen 3
    have y4 := hR1.frozen 4
    have y5 := hR1.frozen 5
    have hRn := hR1.set6 (.slice none 0 0) (.slice none 0 0) (.slice none 0 0) (.slice none 0 0) (.int .i64 0) (.int .i64 0)
    obtain ⟨n0, n1, n2, n3, n4, n5⟩ := hRn.c6
    go_wp2
    refine bodyPost_ret (v := .tuple #[.agg #[.slice nilS.p.x.A nilS.p.x.n nilS.p.x.c, .slice nilS.p.y.A nilS.p.y.n nilS.p.y.c, .slice nilS.p.z.A nilS.p.z.n nilS.p.z.c, .slice nilS.s.A nilS.s.n nilS.s.c, .int .i64 nilS.t, .int .i64 nilS.q], .int .i64 0, .int .i64 3]) (by simp [results, Tryz.results47, go_sem, nilS, nil3, n0, n1, n2, n3, n4, n5]) rfl ⟨nilS, by rw [E2.out]; rfl, ?_, ((((((hX1.off (w.heap.size + 1) 0 (by omega) _).off (w.heap.size + 1) 1 (by omega) _).off (w.heap.size + 1) 2 (by omega) _).off (w.heap.size + 1) 3 (by omega) _).off (w.heap.size + 1) 4 (by omega) _).off (w.heap.size + 1) 5 (by omega) _)⟩
    rw [E2.out]
    exact OwnS.nil _ _
  have E2 := hide (show pmR y ms = playG y ms 0 by unfold pmR; rw [hok]; have h := of_decide_eq_false h40; have h2 := hl.out; rw [if_pos rfl, if_pos (by omega)])
  clear q0 q1 q2 q3 q4 q5
  obtain ⟨⟨px, py, pz⟩, s, t, q⟩ := x
  obtain ⟨l, ls, t', q'⟩ := y
  obtain ⟨hp, hs, hcap, rfl, rfl⟩ := hr
  simp only at hp hs hcap hX1 hB1 ⊢
  replace hX1 := hX1.drew
  replace hB1 := hB1.drew
  replace hR1 := hR1.drew
  have q0 := hB1.frozen 0
  have q1 := hB1.frozen 1
  have q2 := hB1.frozen 2
  have q3 := hB1.frozen 3
  have q4 := hB1.frozen 4
  have q5 := hB1.frozen 5
  go_upto_region 18 with fail
  refine wp_region_sink (S := fun w' => (w').cell? ⟨w.heap.size, 0, none⟩ = some (.slice px.A px.n px.c) ∧ (w').cell? ⟨w.heap.size, 1, none⟩ = some (.slice py.A py.n py.c) ∧ (w').cell? ⟨w.heap.size, 2, none⟩ = some (.slice pz.A pz.n pz.c) ∧ (w').cell? ⟨w.heap.size, 3, none⟩ = some (.slice s.A s.n s.c) ∧ (w').cell? ⟨w.heap.size, 4, none⟩ = some (.int .i64 t) ∧ (w').cell? ⟨w.heap.size, 5, none⟩ = some (.int .i64 q)) 11 (by kernel_rfl) ?_
  have k1 := hB1.c6
  have z1 := hX1.size
  refine wpAnyT_takeL (i := 0) 4 (v := ?_) rfl (by kernel_rfl) (by kernel_rfl) (by kernel_rfl) (by kernel_rfl) (by kernel_rfl) (fun _ _ _ h => h) (Or.inl ⟨by rfl, ?_⟩) k1 ?_
  rotate_left 1
  · (intro W hSw; (try dsimp only at hSw); go_simp) <;> with_reducible rfl
  try simp only [Act.put, List.setIfInBounds_toArray, List.set_cons_zero, List.set_cons_succ]
  refine wpAnyT_takeL (i := 1) 4 (v := ?_) rfl (by kernel_rfl) (by kernel_rfl) (by kernel_rfl) (by kernel_rfl) (by kernel_rfl) (fun _ _ _ h => h) (Or.inl ⟨by rfl, ?_⟩) k1 ?_
  rotate_left 1
  · (intro W hSw; (try dsimp only at hSw); go_simp) <;> with_reducible rfl
  try simp only [Act.put, List.setIfInBounds_toArray, List.set_cons_zero, List.set_cons_succ]
  refine wpAnyT_takeL (i := 3) 4 (v := ?_) rfl (by kernel_rfl) (by kernel_rfl) (by kernel_rfl) (by kernel_rfl) (by kernel_rfl) (fun _ _ _ h => h) (Or.inl ⟨by rfl, ?_⟩) k1 ?_
  rotate_left 1
  · (intro W hSw; (try dsimp only at hSw); go_simp) <;> with_reducible rfl
  try simp only [Act.put, List.setIfInBounds_toArray, List.set_cons_zero, List.set_cons_succ]
  refine wpAnyT_takeL (i := 4) 4 (v := ?_) rfl (by kernel_rfl) (by kernel_rfl) (by kernel_rfl) (by kernel_rfl) (by kernel_rfl) (fun _ _ _ h => h) (Or.inl ⟨by rfl, ?_⟩) k1 ?_
  rotate_left 1
  · (intro W hSw; (try dsimp only at hSw); go_simp) <;> with_reducible rfl
  try simp only [Act.put, List.setIfInBounds_toArray, List.set_cons_zero, List.set_cons_succ]
  refine wpAnyT_takeL (i := 6) 4 (v := ?_) rfl (by kernel_rfl) (by kernel_rfl) (by kernel_rfl) (by kernel_rfl) (by kernel_rfl) (fun _ _ _ h => h) (Or.inl ⟨by rfl, ?_⟩) k1 ?_
  rotate_left 1
  · (intro W hSw; (try dsimp only at hSw); go_simp) <;> with_reducible rfl
  try simp only [Act.put, List.setIfInBounds_toArray, List.set_cons_zero, List.set_cons_succ]
  refine wpAnyT_takeL (i := 7) 4 (v := ?_) rfl (by kernel_rfl) (by kernel_rfl) (by kernel_rfl) (by kernel_rfl) (by kernel_rfl) (fun _ _ _ h => h) (Or.inl ⟨by rfl, ?_⟩) k1 ?_
  rotate_left 1
  · (intro W hSw; (try dsimp only at hSw); go_simp) <;> with_reducible rfl
  try simp only [Act.put, List.setIfInBounds_toArray, List.set_cons_zero, List.set_cons_succ]
  refine wpAnyT_takeL (i := 8) 4 (v := ?_) rfl (by kernel_rfl) (by kernel_rfl) (by kernel_rfl) (by kernel_rfl) (by kernel_rfl) (fun _ _ _ h => h) (Or.inl ⟨by rfl, ?_⟩) k1 ?_
  rotate_left 1
  · (intro W hSw; (try dsimp only at hSw); go_simp) <;> with_reducible rfl
  try simp only [Act.put, List.setIfInBounds_toArray, List.set_cons_zero, List.set_cons_succ]
  refine wpAnyT_takeL (i := 9) 4 (v := ?_) rfl (by kernel_rfl) (by kernel_rfl) (by kernel_rfl) (by kernel_rfl) (by kernel_rfl) (fun _ _ _ h => h) (Or.inl ⟨by rfl, ?_⟩) k1 ?_
  rotate_left 1
  · (intro W hSw; (try dsimp only at hSw); go_simp) <;> with_reducible rfl
  try simp only [Act.put, List.setIfInBounds_toArray, List.set_cons_zero, List.set_cons_succ]
  refine wpAnyT_go (i := 2) rfl (by kernel_rfl) fun K hK => ?_
  go_simp
  go_at_call 82
  refine (spec.l14Own_any ⟨px, py, pz⟩ l _ (hp.ext hX1)).mono ?_
  rintro e w2 ⟨p2, rfl, o2, hx2⟩
  have hX2 := hX1.trans hx2
  have hB2 := hB1.ext hx2
  have hR2 := hR1.ext hx2
  have hz2 := hx2.size
  have k2 := hB2.c6
  go_simp
  refine hK _ _ ⟨fun _ => k2, ?_⟩
  clear hK K
  refine wpAnyT_go (i := 5) rfl (by kernel_rfl) fun K hK => ?_
  go_simp
  go_at_call 62
  refine (spec.l01Own_any s ls _ (hs.ext hX2)).mono ?_
  rintro e w3 ⟨s3, rfl, o3, hx3⟩
  have hX3 := hX2.trans hx3
  have hB3 := hB2.ext hx3
  have hR3 := hR2.ext hx3
  have hz3 := hx3.size
  have k3 := hB3.c6
  have o23 := o2.ext hx3
  clear q0 q1 q2 q3 q4 q5
  have q0 := hB3.frozen 0
  have q1 := hB3.frozen 1
  have q2 := hB3.frozen 2
  have q3 := hB3.frozen 3
  have q4 := hB3.frozen 4
  have q5 := hB3.frozen 5
  obtain ⟨r0, r1, r2, r3, r4, r5⟩ := hB3.c6
  go_simp
  refine hK _ _ ⟨fun _ => k3, ?_⟩
  clear hK K
  refine wpAnyT_takeL (i := 10) 4 (v := ?_) rfl (by kernel_rfl) (by kernel_rfl) (by kernel_rfl) (by kernel_rfl) (by kernel_rfl) (fun _ _ _ h => h) (Or.inl ⟨by rfl, ?_⟩) k3 ?_
  rotate_left 1
  · (intro W hSw; (try dsimp only at hSw); go_simp) <;> with_reducible rfl
  try simp only [Act.put, List.setIfInBounds_toArray, List.set_cons_zero, List.set_cons_succ]
  refine wpAnyT_go (i := 11) rfl (by kernel_rfl) fun K hK => ?_
  go_simp
  refine hK _ _ ⟨fun h => absurd rfl h, ?_⟩
  clear hK K
  refine wpAnyT_done (by kernel_rfl) ?_ _
  have g2r := (fun k' (hk : blks p2 k') => Own3.lt o2 hk)
  have g3r := o3.lt
  have hs1 : w.heap.size + 1 + 1 ≤ w1.drew.heap.size := hz1
  have h3 : OwnS w3 (w.heap.size + 1 + 1) ⟨p2, s3, t, q⟩ ⟨l, ls, t, q⟩ := ⟨Own3.mono o23 (by omega), Own.mono o3 (by omega), ⟨rfl, rfl⟩, fun k h1 h2 => by have a1 := g2r k h1; have a2 := g3r k h2; omega⟩
  have hstart := RunPost.step0 (g := w.heap.size) (z0 := ⟨⟨px, py, pz⟩, s, t, q⟩) (Nat.le_refl _) (by omega) hB3 hX3 hR3 h3 (Nat.le_refl _) (by omega)
  clear q0 q1 q2 q3 q4 q5 r0 r1 r2 r3 r4 r5 k1 k2 k3 h3 o2 o23 o3 hB1 hB2 hB3 hR1 hR2 hR3 hx1 hx2 hx3
  go_wp2_with fail
  go_loopw [7, 8, 9] (fun i _ _ wr => ∃ (k : Nat) (z : SelA) (yk : SelL), k ≤ n1 ∧ i = .int .i64 k ∧ Hid (playG ⟨l, ls, t, q⟩ ms 0 = playG yk (ms.drop k) k) ∧ okS yk = true ∧ RunPost w w.heap.size z yk wr) (fun i _ _ _ => n1 - (intOf i).toNat)
  case atStart => exact ⟨0, _, _, by omega, rfl, hide rfl, hok, hstart⟩
  case round =>
    clear hstart
    obtain ⟨k, z, yk, hk, rfl, hG, hky, hO, oz, hX, hR, ha⟩ := hrel
    have hz := hX.size
    have hgr := hO.lt
    have hgR := hR.lt
    obtain ⟨q0, q1, q2, q3, q4, q5⟩ := hO.c6
    by_cases hlt : k < n1
    · obtain ⟨bm, offm, m, rfl, hbm, hcm, hmm⟩ := hm.el hlt
      have hcm1 := (hX.cell (p := ⟨bm, offm + k, none⟩) hbm).trans hcm
      have hk0 : (0 : Int) ≤ (k : Int) := by omega
      have hkn : (k : Int) < (n1 : Int) := by omega
      go_upto_region 36 with fail
      go_cut [8, 9] (fun v8 v9 wx => MovPost wr (mvC yk m) (mvV yk m) v8 v9 wx)
      case first =>
        have kk0 := hO.drew.c6
        have kc0 : wr.drew.cell? ⟨bm, offm + k, none⟩ = some (.int .i64 m) := hcm1
        have hbr : bm < wr.heap.size := by omega
        have ka1 := (fun (o : Obj) => (show (((wr.alloc o).drew).cell? ⟨w.heap.size, 0, none⟩ = some (.slice z.p.x.A z.p.x.n z.p.x.c) ∧ ((wr.alloc o).drew).cell? ⟨w.heap.size, 1, none⟩ = some (.slice z.p.y.A z.p.y.n z.p.y.c) ∧ ((wr.alloc o).drew).cell? ⟨w.heap.size, 2, none⟩ = some (.slice z.p.z.A z.p.z.n z.p.z.c) ∧ ((wr.alloc o).drew).cell? ⟨w.heap.size, 3, none⟩ = some (.slice z.s.A z.s.n z.s.c) ∧ ((wr.alloc o).drew).cell? ⟨w.heap.size, 4, none⟩ = some (.int .i64 z.t) ∧ ((wr.alloc o).drew).cell? ⟨w.heap.size, 5, none⟩ = some (.int .i64 z.q)) ∧ ((wr.alloc o).drew).cell? ⟨bm, offm + k, none⟩ = some (.int .i64 m) from And.intro (hO.alloc o).drew.c6 ((((Ext.refl wr).alloc o).drew.cell (p := ⟨bm, offm + k, none⟩) hbr).trans hcm1)))
        go_region_held3 (fun w' => ((w').cell? ⟨w.heap.size, 0, none⟩ = some (.slice z.p.x.A z.p.x.n z.p.x.c) ∧ (w').cell? ⟨w.heap.size, 1, none⟩ = some (.slice z.p.y.A z.p.y.n z.p.y.c) ∧ (w').cell? ⟨w.heap.size, 2, none⟩ = some (.slice z.p.z.A z.p.z.n z.p.z.c) ∧ (w').cell? ⟨w.heap.size, 3, none⟩ = some (.slice z.s.A z.s.n z.s.c) ∧ (w').cell? ⟨w.heap.size, 4, none⟩ = some (.int .i64 z.t) ∧ (w').cell? ⟨w.heap.size, 5, none⟩ = some (.int .i64 z.q)) ∧ w'.cell? ⟨bm, offm + k, none⟩ = some (.int .i64 m)) (first | (with_reducible exact kk2) | (with_reducible exact And.intro kk0 kc0) | (with_reducible exact (ka1 _)) | (with_reducible exact (ka2 _)) | (go_keep; done) | (with_reducible exact And.intro (hO.ext ((((((hE.off _ 0 (Nat.le_refl _) _).off _ 1 (Nat.le_refl _) _).off _ 2 (Nat.le_refl _) _).off _ 3 (Nat.le_refl _) _).off _ 4 (Nat.le_refl _) _).off _ 5 (Nat.le_refl _) _)).c6 ((Ext.cell ((((((hE.off _ 0 (Nat.le_refl _) _).off _ 1 (Nat.le_refl _) _).off _ 2 (Nat.le_refl _) _).off _ 3 (Nat.le_refl _) _).off _ 4 (Nat.le_refl _) _).off _ 5 (Nat.le_refl _) _) (p := ⟨bm, offm + k, none⟩) hbr).trans hcm1)) | go_keep) (first | (go_at_call 44; refine (spec.l14Move_any z yk m _ (oz.rd.ext (by first | exact (Ext.refl _).drew | exact ((Ext.refl _).drew).alloc _ | exact ((Ext.refl _).alloc _).drew | fail)) hky).mono ?_; rintro e w2 ⟨z2, rfl, oz2, hx2⟩; have hE : Ext wr w2 := Ext.trans (by first | exact (Ext.refl _).drew | exact ((Ext.refl _).drew).alloc _ | exact ((Ext.refl _).alloc _).drew | fail) hx2; have hO2 := hO.ext hE; have zs2 := hx2.size; (try simp at zs2); (try have hN : Blk w2 (wr.heap.size) 70 #[.slice none 0 0, .slice none 0 0, .slice none 0 0, .slice none 0 0, .int .i64 0, .int .i64 0] := Blk.ext (by first | with_reducible exact (Blk.new _ _ _).drew | fail) hx2); (try obtain ⟨so0, so1, so2, so3, so4, so5⟩ := hN.c6); (try have sy0 := hN.frozen 0); (try have sy1 := hN.frozen 1); (try have sy2 := hN.frozen 2); (try have sy3 := hN.frozen 3); (try have sy4 := hN.frozen 4); (try have sy5 := hN.frozen 5); have kk2 := And.intro hO2.c6 ((hE.cell (p := ⟨bm, offm + k, none⟩) hbr).trans hcm1); have ka2 := (fun (o : Obj) => (show ((w2.alloc o).cell? ⟨w.heap.size, 0, none⟩ = some (.slice z.p.x.A z.p.x.n z.p.x.c) ∧ (w2.alloc o).cell? ⟨w.heap.size, 1, none⟩ = some (.slice z.p.y.A z.p.y.n z.p.y.c) ∧ (w2.alloc o).cell? ⟨w.heap.size, 2, none⟩ = some (.slice z.p.z.A z.p.z.n z.p.z.c) ∧ (w2.alloc o).cell? ⟨w.heap.size, 3, none⟩ = some (.slice z.s.A z.s.n z.s.c) ∧ (w2.alloc o).cell? ⟨w.heap.size, 4, none⟩ = some (.int .i64 z.t) ∧ (w2.alloc o).cell? ⟨w.heap.size, 5, none⟩ = some (.int .i64 z.q)) ∧ (w2.alloc o).cell? ⟨bm, offm + k, none⟩ = some (.int .i64 m) from And.intro (hO2.alloc o).c6 (((hE.alloc o).cell (p := ⟨bm, offm + k, none⟩) hbr).trans hcm1)))))
        all_goals (go_wp2_with fail)
        all_goals go_meet
        · exact MovPost.two oz2 (by simp) hE
        · exact MovPost.one hN oz2 (Nat.le_refl _) (by simp) hE
      case rest =>
        clear q0 q1 q2 q3 q4 q5 hcm1 hk0 hkn hcm hbm
        obtain ⟨g8, z2, rfl, h9, hN, oz2, hE⟩ := hcut
        have hO2 := hO.ext hE
        have hR2 := hR.ext hE
        have hX2 := hX.trans hE
        have oz1 := oz.ext hE
        obtain ⟨q0, q1, q2, q3, q4, q5⟩ := hO2.c6
        by_cases h0 : mvC yk m = 0
        · have hG2 := hide (playG_go hG.out hmm.out h0)
          have hky2 := okS_mv hky h0
          have oz3 := oz2 h0
          rw [h0] at h9
          subst h9
          clear h0 oz2
          obtain ⟨v0, v1, v2, v3, v4, v5⟩ := hN.c6
          have x0 := hO2.frozen 0
          have x1 := hO2.frozen 1
          have x2 := hO2.frozen 2
          have x3 := hO2.frozen 3
          have x4 := hO2.frozen 4
          have x5 := hO2.frozen 5
          have hwr : IntKind.i64.wrap ((k : Int) + 1) = (k : Int) + 1 := Go.IntWalk.i64_in _ (by omega)
          go_wp2_with fail
          go_roundw
          case rel => exact ⟨k + 1, z2, _, by omega, by go_num, hG2, hky2, RunPost.step0 (Nat.le_refl _) (by omega) hO2 hX2 hR2 oz3 (by omega) (by omega)⟩
          case measure => simp [intOf]; omega
        · have hG2 := hide (playG_stop hG.out hmm.out h0)
          obtain ⟨c, hcc⟩ : ∃ c, c = mvC yk m := ⟨_, rfl⟩
          have hc0 : (c != 0) = true := by rw [hcc]; simpa using h0
          have hG3 := hide (show playG ⟨l, ls, t, q⟩ ms 0 = (yk, k, c) by rw [hcc]; exact hG2.out)
          rw [← hcc] at h9
          subst h9
          clear hcc h0 hG2 oz2
          obtain ⟨r0, r1, r2, r3, r4, r5⟩ := hR2.c6
          have y0 := hR2.frozen 0
          have y1 := hR2.frozen 1
          have y2 := hR2.frozen 2
          have y3 := hR2.frozen 3
          have y4 := hR2.frozen 4
          have y5 := hR2.frozen 5
          have hRn := hR2.set6 (.slice z.p.x.A z.p.x.n z.p.x.c) (.slice z.p.y.A z.p.y.n z.p.y.c) (.slice z.p.z.A z.p.z.n z.p.z.c) (.slice z.s.A z.s.n z.s.c) (.int .i64 z.t) (.int .i64 z.q)
          obtain ⟨n0, n1, n2, n3, n4, n5⟩ := hRn.c6
          go_wp2
          refine bodyPost_ret (v := .tuple #[.agg #[.slice z.p.x.A z.p.x.n z.p.x.c, .slice z.p.y.A z.p.y.n z.p.y.c, .slice z.p.z.A z.p.z.n z.p.z.c, .slice z.s.A z.s.n z.s.c, .int .i64 z.t, .int .i64 z.q], .int .i64 k, .int .i64 c]) (by simp [results, Tryz.results47, go_sem, n0, n1, n2, n3, n4, n5]) rfl ⟨z, by rw [E2.out, hG3.out], ?_, ((((((hX2.off (w.heap.size + 1) 0 (by omega) _).off (w.heap.size + 1) 1 (by omega) _).off (w.heap.size + 1) 2 (by omega) _).off (w.heap.size + 1) 3 (by omega) _).off (w.heap.size + 1) 4 (by omega) _).off (w.heap.size + 1) 5 (by omega) _)⟩
          rw [E2.out, hG3.out]
          exact OwnS.mono ((((((oz1.off (w.heap.size + 1) 0 (by omega) _).off (w.heap.size + 1) 1 (by omega) _).off (w.heap.size + 1) 2 (by omega) _).off (w.heap.size + 1) 3 (by omega) _).off (w.heap.size + 1) 4 (by omega) _).off (w.heap.size + 1) 5 (by omega) _) (by omega)
    · have e : k = n1 := by omega
      subst e
      have hG3 := hide (playG_end hG.out hl.out)
      obtain ⟨r0, r1, r2, r3, r4, r5⟩ := hR.c6
      have y0 := hR.frozen 0
      have y1 := hR.frozen 1
      have y2 := hR.frozen 2
      have y3 := hR.frozen 3
      have y4 := hR.frozen 4
      have y5 := hR.frozen 5
      have hRn := hR.set6 (.slice z.p.x.A z.p.x.n z.p.x.c) (.slice z.p.y.A z.p.y.n z.p.y.c) (.slice z.p.z.A z.p.z.n z.p.z.c) (.slice z.s.A z.s.n z.s.c) (.int .i64 z.t) (.int .i64 z.q)
      obtain ⟨n0, n1, n2, n3, n4, n5⟩ := hRn.c6
      go_wp2
      refine bodyPost_ret (v := .tuple #[.agg #[.slice z.p.x.A z.p.x.n z.p.x.c, .slice z.p.y.A z.p.y.n z.p.y.c, .slice z.p.z.A z.p.z.n z.p.z.c, .slice z.s.A z.s.n z.s.c, .int .i64 z.t, .int .i64 z.q], .int .i64 k, .int .i64 0]) (by simp [results, Tryz.results47, go_sem, n0, n1, n2, n3, n4, n5]) rfl ⟨z, by rw [E2.out, hG3.out], ?_, ((((((hX.off (w.heap.size + 1) 0 (by omega) _).off (w.heap.size + 1) 1 (by omega) _).off (w.heap.size + 1) 2 (by omega) _).off (w.heap.size + 1) 3 (by omega) _).off (w.heap.size + 1) 4 (by omega) _).off (w.heap.size + 1) 5 (by omega) _)⟩
      rw [E2.out, hG3.out]
      exact OwnS.mono ((((((oz.off (w.heap.size + 1) 0 (by omega) _).off (w.heap.size + 1) 1 (by omega) _).off (w.heap.size + 1) 2 (by omega) _).off (w.heap.size + 1) 3 (by omega) _).off (w.heap.size + 1) 4 (by omega) _).off (w.heap.size + 1) 5 (by omega) _) (by omega)
end Go.Proofs.YtofglgfjlbehmaaGreat.mem
