/-
  The contract of the program's play: moves, as long as none gives an error.
-/
import Derived.Test.YtofglgfjlbehmaaGreatMg12
namespace Go.Proofs.YtofglgfjlbehmaaGreat.mem
open Go.ChangeShapes Go.WideShapes Go.ChangeAt Go.RowKit

def playG : SelL → List Int → Nat → SelL × Nat × Int
  | y, [], k => (y, k, 0)
  | y, m :: ms, k => if mvC y m = 0 then playG (mvV y m) ms (k + 1) else (y, k, mvC y m)
theorem okS_mv {y : SelL} {m : Int} (hok : okS y = true) (h : mvC y m = 0) : okS (mvV y m) = true := by
  unfold mvC at h
  unfold mvV
  by_cases hm : m = -1
  · rw [if_pos hm] at h ⊢
    have ho : overB y = false := by
      unfold passC at h
      cases e : overB y
      · rfl
      · rw [e] at h; cases h
    unfold passV
    rw [ho]
    exact okS_pass hok ho
  · rw [if_neg hm] at h ⊢
    rw [strV_yes h]
    exact okS_str hok h
theorem drop_el {ms : List Int} {k : Nat} {m : Int} (h : ms[k]? = some m) : ms.drop k = m :: ms.drop (k + 1) := by
  obtain ⟨hk, e⟩ := List.getElem?_eq_some_iff.1 h
  rw [List.drop_eq_getElem_cons hk, e]
theorem playG_end {y yk : SelL} {ms : List Int} {k : Nat} (h : playG y ms 0 = playG yk (ms.drop k) k) (hk : k = ms.length) : playG y ms 0 = (yk, k, 0) := by
  rw [h, hk, List.drop_length]; rfl
theorem playG_go {y yk : SelL} {ms : List Int} {k : Nat} {m : Int} (h : playG y ms 0 = playG yk (ms.drop k) k) (hm : ms[k]? = some m) (h0 : mvC yk m = 0) : playG y ms 0 = playG (mvV yk m) (ms.drop (k + 1)) (k + 1) := by
  rw [h, drop_el hm]
  exact if_pos h0
theorem playG_stop {y yk : SelL} {ms : List Int} {k : Nat} {m : Int} (h : playG y ms 0 = playG yk (ms.drop k) k) (hm : ms[k]? = some m) (h0 : mvC yk m ≠ 0) : playG y ms 0 = (yk, k, mvC yk m) := by
  rw [h, drop_el hm]
  exact if_neg h0
/-- a loop's state: a selection of the call's own in block g -/
def RunPost (w : World) (g : Nat) (z : SelA) (y' : SelL) (wr : World) : Prop :=
  Blk wr g 70 #[.slice z.p.x.A z.p.x.n z.p.x.c, .slice z.p.y.A z.p.y.n z.p.y.c, .slice z.p.z.A z.p.z.n z.p.z.c, .slice z.s.A z.s.n z.s.c, .int .i64 z.t, .int .i64 z.q] ∧ OwnS wr (w.heap.size + 1 + 1) z y' ∧ Ext w wr ∧ Blk wr (w.heap.size + 1) 70 #[.slice none 0 0, .slice none 0 0, .slice none 0 0, .slice none 0 0, .int .i64 0, .int .i64 0] ∧ ∀ k, blksS z k → k ≠ g
theorem RunPost.step {w w4 : World} {y' : SelL} {g n : Nat} {z z0 : SelA} (hg : w.heap.size + 1 + 1 ≤ g) (hO : Blk w4 g 70 #[.slice z0.p.x.A z0.p.x.n z0.p.x.c, .slice z0.p.y.A z0.p.y.n z0.p.y.c, .slice z0.p.z.A z0.p.z.n z0.p.z.c, .slice z0.s.A z0.s.n z0.s.c, .int .i64 z0.t, .int .i64 z0.q]) (hX : Ext w w4) (hR : Blk w4 (w.heap.size + 1) 70 #[.slice none 0 0, .slice none 0 0, .slice none 0 0, .slice none 0 0, .int .i64 0, .int .i64 0])
    (h3 : OwnS w4 n z y') (hn : w.heap.size + 1 + 1 ≤ n) (hgn : g < n) :
    RunPost w g z y' ((((((w4.setCell ⟨g, 0, none⟩ (.slice z.p.x.A z.p.x.n z.p.x.c)).setCell ⟨g, 1, none⟩ (.slice z.p.y.A z.p.y.n z.p.y.c)).setCell ⟨g, 2, none⟩ (.slice z.p.z.A z.p.z.n z.p.z.c)).setCell ⟨g, 3, none⟩ (.slice z.s.A z.s.n z.s.c)).setCell ⟨g, 4, none⟩ (.int .i64 z.t)).setCell ⟨g, 5, none⟩ (.int .i64 z.q)) :=
  have ha : ∀ k, blksS z k → k ≠ g := fun k hk e => by have := (h3.lt hk).1; omega
  ⟨hO.set6 _ _ _ _ _ _, ((((((h3.mono hn).away ha 0 _).away ha 1 _).away ha 2 _).away ha 3 _).away ha 4 _).away ha 5 _,
    ((((((hX.off g 0 (by omega) _).off g 1 (by omega) _).off g 2 (by omega) _).off g 3 (by omega) _).off g 4 (by omega) _).off g 5 (by omega) _), ((((((hR.off g 0 (by omega) _).off g 1 (by omega) _).off g 2 (by omega) _).off g 3 (by omega) _).off g 4 (by omega) _).off g 5 (by omega) _), ha⟩
set_option maxHeartbeats 8000000 in
theorem impl.play_any (x : SelA) (y : SelL) (s1 : Sl) (ms : List Int) (w : World) (hr : RdS w x y) (hok : okS y = true) (hm : Rd w s1.A s1.n ms) :
    Calls Tryz.prog 80 #[.agg #[.slice x.p.x.A x.p.x.n x.p.x.c, .slice x.p.y.A x.p.y.n x.p.y.c, .slice x.p.z.A x.p.z.n x.p.z.c, .slice x.s.A x.s.n x.s.c, .int .i64 x.t, .int .i64 x.q], .slice s1.A s1.n s1.c] w fun e w' => ∃ x' : SelA, e = .returned (.tuple #[.agg #[.slice x'.p.x.A x'.p.x.n x'.p.x.c, .slice x'.p.y.A x'.p.y.n x'.p.y.c, .slice x'.p.z.A x'.p.z.n x'.p.z.c, .slice x'.s.A x'.s.n x'.s.c, .int .i64 x'.t, .int .i64 x'.q], .int .i64 (playG y ms 0).2.1, .int .i64 (playG y ms 0).2.2]) ∧ OwnS w' w.heap.size x' (playG y ms 0).1 ∧ Ext w w' := by
  obtain ⟨⟨px, py, pz⟩, s, t, q⟩ := x
  obtain ⟨l, ls, t', q'⟩ := y
  obtain ⟨A1, n1, c1⟩ := s1
  obtain ⟨hp, hs, hcap, rfl, rfl⟩ := hr
  simp only at hp hs hcap hm ⊢
  have hX := ((Ext.refl w).alloc (.cells #[.slice px.A px.n px.c, .slice py.A py.n py.c, .slice pz.A pz.n pz.c, .slice s.A s.n s.c, .int .i64 t, .int .i64 q] 70)).alloc (.cells #[.slice none 0 0, .slice none 0 0, .slice none 0 0, .slice none 0 0, .int .i64 0, .int .i64 0] 70)
  have hB := (Blk.new w 70 (#[.slice px.A px.n px.c, .slice py.A py.n py.c, .slice pz.A pz.n pz.c, .slice s.A s.n s.c, .int .i64 t, .int .i64 q])).alloc (.cells #[.slice none 0 0, .slice none 0 0, .slice none 0 0, .slice none 0 0, .int .i64 0, .int .i64 0] 70)
  have hR := Blk.new (w.alloc (.cells #[.slice px.A px.n px.c, .slice py.A py.n py.c, .slice pz.A pz.n pz.c, .slice s.A s.n s.c, .int .i64 t, .int .i64 q] 70)) 70 (#[.slice none 0 0, .slice none 0 0, .slice none 0 0, .slice none 0 0, .int .i64 0, .int .i64 0])
  rw [World.size_alloc] at hR
  have hz1 : w.heap.size + 1 + 1 = ((w.alloc (.cells #[.slice px.A px.n px.c, .slice py.A py.n py.c, .slice pz.A pz.n pz.c, .slice s.A s.n s.c, .int .i64 t, .int .i64 q] 70)).alloc (.cells #[.slice none 0 0, .slice none 0 0, .slice none 0 0, .slice none 0 0, .int .i64 0, .int .i64 0] 70)).heap.size := by simp
  obtain ⟨w1, hw1⟩ : ∃ w1 : World, w1 = ((w.alloc (.cells #[.slice px.A px.n px.c, .slice py.A py.n py.c, .slice pz.A pz.n pz.c, .slice s.A s.n s.c, .int .i64 t, .int .i64 q] 70)).alloc (.cells #[.slice none 0 0, .slice none 0 0, .slice none 0 0, .slice none 0 0, .int .i64 0, .int .i64 0] 70)) := ⟨_, rfl⟩
  rw [← hw1] at hX hB hR hz1
  have hn1 := hm.le
  go_enter Tryz.func80, Tryz.ntmps80
  go_upto_region 12 with fail
  rw [← hw1]
  clear hw1
  obtain ⟨b0, b1, b2, b3, b4, b5⟩ := hB.c6
  go_cut [7] (fun s7 wx => StrPost w #[.slice px.A px.n px.c, .slice py.A py.n py.c, .slice pz.A pz.n pz.c, .slice s.A s.n s.c, .int .i64 t, .int .i64 q] ⟨l, ls, t, q⟩ s7 wx)
  case first =>
    have nq7 : ¬ w1.heap.size = w.heap.size := by omega
    have nq8 : ¬ w.heap.size = w1.heap.size := by omega
    have nq9 : w.heap.size < w1.heap.size := by omega
    have ka1 := (fun (o : Obj) => (show ((w1.alloc o).drew).cell? ⟨w.heap.size, 0, none⟩ = some (.slice px.A px.n px.c) ∧ ((w1.alloc o).drew).cell? ⟨w.heap.size, 1, none⟩ = some (.slice py.A py.n py.c) ∧ ((w1.alloc o).drew).cell? ⟨w.heap.size, 2, none⟩ = some (.slice pz.A pz.n pz.c) ∧ ((w1.alloc o).drew).cell? ⟨w.heap.size, 3, none⟩ = some (.slice s.A s.n s.c) ∧ ((w1.alloc o).drew).cell? ⟨w.heap.size, 4, none⟩ = some (.int .i64 t) ∧ ((w1.alloc o).drew).cell? ⟨w.heap.size, 5, none⟩ = some (.int .i64 q) from (hB.alloc o).drew.c6))
    go_region_held3 (fun w' => (w').cell? ⟨w.heap.size, 0, none⟩ = some (.slice px.A px.n px.c) ∧ (w').cell? ⟨w.heap.size, 1, none⟩ = some (.slice py.A py.n py.c) ∧ (w').cell? ⟨w.heap.size, 2, none⟩ = some (.slice pz.A pz.n pz.c) ∧ (w').cell? ⟨w.heap.size, 3, none⟩ = some (.slice s.A s.n s.c) ∧ (w').cell? ⟨w.heap.size, 4, none⟩ = some (.int .i64 t) ∧ (w').cell? ⟨w.heap.size, 5, none⟩ = some (.int .i64 q)) (first | (with_reducible exact kk2) | (with_reducible exact kk1) | (with_reducible exact (ka1 _)) | (with_reducible exact (ka2 _)) | (with_reducible exact (ka3 _)) | (go_keep; done) | with_reducible exact ((((((hB.off _ 0 (by omega) _).off _ 1 (by omega) _).off _ 2 (by omega) _).off _ 3 (by omega) _).off _ 4 (by omega) _).off _ 5 (by omega) _).c6 | go_keep) (first | (go_at_call 95; refine (impl.clone_any s ls _ (hs.ext (by first | exact hX | exact hX.alloc _ | fail))).mono ?_; rintro e w3 ⟨s3, rfl, o3, hx⟩; have hE : Ext w2 w3 := Ext.trans (by first | exact Ext.refl _ | exact (Ext.refl _).alloc _ | fail) hx; have zz3 := hE.size; have zs3 := hx.size; (try simp at zs3); have g3r := o3.lt; (try simp at g3r); replace o3 := Own.mono (lo' := w.heap.size + 1 + 1) o3 (by first | omega | (simp; omega)); replace o2 := o2.ext hE; replace hX := hX.trans hE; replace hB := hB.ext hE; replace hR := hR.ext hE; (try have hO := Blk.ext hO hE); (try have hO : Blk w3 (w2.heap.size) 70 #[.slice none 0 0, .slice none 0 0, .slice none 0 0, .slice none 0 0, .int .i64 0, .int .i64 0] := Blk.ext (by first | with_reducible exact Blk.new _ _ _ | fail) hx); (try obtain ⟨so0, so1, so2, so3, so4, so5⟩ := hO.c6); (try have sy0 := hO.frozen 0); (try have sy1 := hO.frozen 1); (try have sy2 := hO.frozen 2); (try have sy3 := hO.frozen 3); (try have sy4 := hO.frozen 4); (try have sy5 := hO.frozen 5); have kk2 := hB.c6; have ka3 := (fun (o : Obj) => (show (w3.alloc o).cell? ⟨w.heap.size, 0, none⟩ = some (.slice px.A px.n px.c) ∧ (w3.alloc o).cell? ⟨w.heap.size, 1, none⟩ = some (.slice py.A py.n py.c) ∧ (w3.alloc o).cell? ⟨w.heap.size, 2, none⟩ = some (.slice pz.A pz.n pz.c) ∧ (w3.alloc o).cell? ⟨w.heap.size, 3, none⟩ = some (.slice s.A s.n s.c) ∧ (w3.alloc o).cell? ⟨w.heap.size, 4, none⟩ = some (.int .i64 t) ∧ (w3.alloc o).cell? ⟨w.heap.size, 5, none⟩ = some (.int .i64 q) from (hB.alloc o).c6)); have nq5 : ¬ w3.heap.size = w.heap.size := (by omega); have nq6 : ¬ w.heap.size = w3.heap.size := (by omega); clear hx hE) | (go_at_call 101; refine (impl.copyPanel_any ⟨px, py, pz⟩ l _ (hp.ext (by first | exact hX.drew | exact (hX.alloc _).drew | fail))).mono ?_; rintro e w2 ⟨p2, rfl, o2, hx⟩; have hE : Ext w1 w2 := Ext.trans (by first | exact (Ext.refl _).drew | exact ((Ext.refl _).alloc _).drew | fail) hx; have zz2 := hE.size; have zs2 := hx.size; (try simp at zs2); have g2r := (fun k' (hk : blks p2 k') => Own3.lt o2 hk); (try simp at g2r); replace o2 := Own3.mono (lo' := w.heap.size + 1 + 1) o2 (by first | omega | (simp; omega)); replace hX := hX.trans hE; replace hB := hB.ext hE; replace hR := hR.ext hE; (try have hO : Blk w2 (w1.heap.size) 70 #[.slice none 0 0, .slice none 0 0, .slice none 0 0, .slice none 0 0, .int .i64 0, .int .i64 0] := Blk.ext (by first | with_reducible exact (Blk.new _ _ _).drew | fail) hx); have kk1 := hB.c6; have ka2 := (fun (o : Obj) => (show (w2.alloc o).cell? ⟨w.heap.size, 0, none⟩ = some (.slice px.A px.n px.c) ∧ (w2.alloc o).cell? ⟨w.heap.size, 1, none⟩ = some (.slice py.A py.n py.c) ∧ (w2.alloc o).cell? ⟨w.heap.size, 2, none⟩ = some (.slice pz.A pz.n pz.c) ∧ (w2.alloc o).cell? ⟨w.heap.size, 3, none⟩ = some (.slice s.A s.n s.c) ∧ (w2.alloc o).cell? ⟨w.heap.size, 4, none⟩ = some (.int .i64 t) ∧ (w2.alloc o).cell? ⟨w.heap.size, 5, none⟩ = some (.int .i64 q) from (hB.alloc o).c6)); have nq1 : ¬ w1.heap.size = w.heap.size := (by omega); have nq2 : ¬ w.heap.size = w1.heap.size := (by omega); have nq3 : ¬ w2.heap.size = w.heap.size := (by omega); have nq4 : ¬ w.heap.size = w2.heap.size := (by omega); clear hx hE))
    all_goals (go_wp2_with fail)
    all_goals go_meet
    · have h3 : OwnS w3 (w.heap.size + 1 + 1) ⟨p2, s3, t, q⟩ ⟨l, ls, t, q⟩ := ⟨o2, o3, ⟨rfl, rfl⟩, fun k h1 h2 => by have a1 := g2r k h1; have a2 := g3r k h2; omega⟩
      exact StrPost.two (z := ⟨p2, s3, t, q⟩) hX (by omega) h3 hB hR
    · have h3 : OwnS w3 (w.heap.size + 1 + 1) ⟨p2, s3, t, q⟩ ⟨l, ls, t, q⟩ := ⟨o2, o3, ⟨rfl, rfl⟩, fun k h1 h2 => by have a1 := g2r k h1; have a2 := g3r k h2; omega⟩
      exact StrPost.one (z := ⟨p2, s3, t, q⟩) hX hO (by omega) h3 hB hR (fun k hk e => by
        subst e
        rcases hk with h | h
        · have h5 := g2r _ h; have h6 := hO.lt; omega
        · have h5 := g3r _ h; have h6 := hO.lt; omega)
    · have h3 : OwnS w3 (w.heap.size + 1 + 1) ⟨p2, s3, t, q⟩ ⟨l, ls, t, q⟩ := ⟨o2, o3, ⟨rfl, rfl⟩, fun k h1 h2 => by have a1 := g2r k h1; have a2 := g3r k h2; omega⟩
      exact StrPost.one (z := ⟨p2, s3, t, q⟩) hX hO (by omega) h3 hB hR (fun k hk e => by
        subst e
        rcases hk with h | h
        · have h5 := g2r _ h; have h6 := hO.lt; omega
        · have h5 := g3r _ h; have h6 := hO.lt; omega)
  case rest =>
    clear b0 b1 b2 b3 b4 b5 hB hR hX
    obtain ⟨g, z, rfl, hO, oz, hX, hB, hR, hg, ha⟩ := hcut
    have hl := hide hm.1
    have hm0 := hm
    go_wp2_with fail
    go_loopw [8, 9, 10, 11, 25] (fun _ _ _ _ i wr => ∃ (k : Nat) (z : SelA) (yk : SelL), k ≤ n1 ∧ i = .int .i64 k ∧ Hid (playG ⟨l, ls, t, q⟩ ms 0 = playG yk (ms.drop k) k) ∧ okS yk = true ∧ RunPost w g z yk wr) (fun _ _ _ _ i _ => n1 - (intOf i).toNat)
    case atStart => exact ⟨0, z, _, by omega, rfl, hide rfl, hok, hO, oz, hX, hR, ha⟩
    case round =>
      clear hO oz hX hB hR ha
      clear z
      obtain ⟨k, z, yk, hk, rfl, hG, hky, hO, oz, hX, hR, ha⟩ := hrel
      have hz := hX.size
      have hgr := hO.lt
      obtain ⟨q0, q1, q2, q3, q4, q5⟩ := hO.c6
      have x0 := hO.frozen 0
      have x1 := hO.frozen 1
      have x2 := hO.frozen 2
      have x3 := hO.frozen 3
      have x4 := hO.frozen 4
      have x5 := hO.frozen 5
      by_cases hlt : k < n1
      · obtain ⟨bm, offm, m, rfl, hbm, hcm, hmm⟩ := hm.el hlt
        have hcm1 := (hX.cell (p := ⟨bm, offm + k, none⟩) hbm).trans hcm
        have hc := impl.move_any z yk m wr oz.rd hky
        by_cases h0 : mvC yk m = 0
        · have hG2 := hide (playG_go hG.out hmm.out h0)
          have hky2 := okS_mv hky h0
          rw [h0] at hc
          clear h0
          go_wp2_with fail
          refine hc.mono ?_
          rintro e w2 ⟨z2, rfl, oz2, hx2⟩
          clear q0 q1 q2 q3 q4 q5
          have hE := hx2.alloc (.cells #[.slice z2.p.x.A z2.p.x.n z2.p.x.c, .slice z2.p.y.A z2.p.y.n z2.p.y.c, .slice z2.p.z.A z2.p.z.n z2.p.z.c, .slice z2.s.A z2.s.n z2.s.c, .int .i64 z2.t, .int .i64 z2.q] 70)
          have oz3 := oz2.alloc (.cells #[.slice z2.p.x.A z2.p.x.n z2.p.x.c, .slice z2.p.y.A z2.p.y.n z2.p.y.c, .slice z2.p.z.A z2.p.z.n z2.p.z.c, .slice z2.s.A z2.s.n z2.s.c, .int .i64 z2.t, .int .i64 z2.q] 70)
          have hO2 := hO.ext hE
          obtain ⟨q0, q1, q2, q3, q4, q5⟩ := hO2.c6
          have hN := Blk.new w2 70 (#[.slice z2.p.x.A z2.p.x.n z2.p.x.c, .slice z2.p.y.A z2.p.y.n z2.p.y.c, .slice z2.p.z.A z2.p.z.n z2.p.z.c, .slice z2.s.A z2.s.n z2.s.c, .int .i64 z2.t, .int .i64 z2.q])
          obtain ⟨v0, v1, v2, v3, v4, v5⟩ := hN.c6
          have x0 := hO2.frozen 0
          have x1 := hO2.frozen 1
          have x2 := hO2.frozen 2
          have x3 := hO2.frozen 3
          have x4 := hO2.frozen 4
          have x5 := hO2.frozen 5
          go_wp2
          go_roundw
          case rel => exact ⟨k + 1, z2, _, by omega, by go_num, hG2, hky2, RunPost.step hg hO2 (hX.trans hE) (hR.ext hE) oz3 (by omega) hgr⟩
          case measure => simp [intOf]; omega
        · have hG2 := hide (playG_stop hG.out hmm.out h0)
          obtain ⟨c, hcc⟩ : ∃ c, c = mvC yk m := ⟨_, rfl⟩
          have hc0 : (c != 0) = true := by rw [hcc]; simpa using h0
          have hG3 := hide (show playG ⟨l, ls, t, q⟩ ms 0 = (yk, k, c) by rw [hcc]; exact hG2.out)
          rw [← hcc] at hc
          clear hcc h0 hG2
          go_wp2_with fail
          refine hc.mono ?_
          rintro e w2 ⟨z2, rfl, oz2, hx2⟩
          clear q0 q1 q2 q3 q4 q5
          have hE := hx2.alloc (.cells #[.slice z2.p.x.A z2.p.x.n z2.p.x.c, .slice z2.p.y.A z2.p.y.n z2.p.y.c, .slice z2.p.z.A z2.p.z.n z2.p.z.c, .slice z2.s.A z2.s.n z2.s.c, .int .i64 z2.t, .int .i64 z2.q] 70)
          have hX2 := hX.trans hE
          have oz3 := oz.ext hE
          have hO2 := hO.ext hE
          have hR2 := hR.ext hE
          obtain ⟨q0, q1, q2, q3, q4, q5⟩ := hO2.c6
          obtain ⟨r0, r1, r2, r3, r4, r5⟩ := hR2.c6
          have y0 := hR2.frozen 0
          have y1 := hR2.frozen 1
          have y2 := hR2.frozen 2
          have y3 := hR2.frozen 3
          have y4 := hR2.frozen 4
          have y5 := hR2.frozen 5
          have hRn := hR2.set6 (.slice z.p.x.A z.p.x.n z.p.x.c) (.slice z.p.y.A z.p.y.n z.p.y.c) (.slice z.p.z.A z.p.z.n z.p.z.c) (.slice z.s.A z.s.n z.s.c) (.int .i64 z.t) (.int .i64 z.q)
          obtain ⟨n0, n1, n2, n3, n4, n5⟩ := hRn.c6
          go_wp2
          refine bodyPost_ret (v := .tuple #[.agg #[.slice z.p.x.A z.p.x.n z.p.x.c, .slice z.p.y.A z.p.y.n z.p.y.c, .slice z.p.z.A z.p.z.n z.p.z.c, .slice z.s.A z.s.n z.s.c, .int .i64 z.t, .int .i64 z.q], .int .i64 k, .int .i64 c]) (by simp [results, Tryz.results80, go_sem, n0, n1, n2, n3, n4, n5]) rfl ⟨z, by rw [hG3.out], ?_, ((((((hX2.off (w.heap.size + 1) 0 (by omega) _).off (w.heap.size + 1) 1 (by omega) _).off (w.heap.size + 1) 2 (by omega) _).off (w.heap.size + 1) 3 (by omega) _).off (w.heap.size + 1) 4 (by omega) _).off (w.heap.size + 1) 5 (by omega) _)⟩
          rw [hG3.out]
          exact OwnS.mono ((((((oz3.off (w.heap.size + 1) 0 (by omega) _).off (w.heap.size + 1) 1 (by omega) _).off (w.heap.size + 1) 2 (by omega) _).off (w.heap.size + 1) 3 (by omega) _).off (w.heap.size + 1) 4 (by omega) _).off (w.heap.size + 1) 5 (by omega) _) (by omega)
      · have e : k = n1 := by omega
        subst e
        have hG3 := hide (playG_end hG.out hl.out)
        obtain ⟨r0, r1, r2, r3, r4, r5⟩ := hR.c6
        have y0 := hR.frozen 0
        have y1 := hR.frozen 1
        have y2 := hR.frozen 2
        have y3 := hR.frozen 3
        have y4 := hR.frozen 4
        have y5 := hR.frozen 5
        have hRn := hR.set6 (.slice z.p.x.A z.p.x.n z.p.x.c) (.slice z.p.y.A z.p.y.n z.p.y.c) (.slice z.p.z.A z.p.z.n z.p.z.c) (.slice z.s.A z.s.n z.s.c) (.int .i64 z.t) (.int .i64 z.q)
        obtain ⟨n0, n1, n2, n3, n4, n5⟩ := hRn.c6
        go_wp2
        refine bodyPost_ret (v := .tuple #[.agg #[.slice z.p.x.A z.p.x.n z.p.x.c, .slice z.p.y.A z.p.y.n z.p.y.c, .slice z.p.z.A z.p.z.n z.p.z.c, .slice z.s.A z.s.n z.s.c, .int .i64 z.t, .int .i64 z.q], .int .i64 k, .int .i64 0]) (by simp [results, Tryz.results80, go_sem, n0, n1, n2, n3, n4, n5]) rfl ⟨z, by rw [hG3.out], ?_, ((((((hX.off (w.heap.size + 1) 0 (by omega) _).off (w.heap.size + 1) 1 (by omega) _).off (w.heap.size + 1) 2 (by omega) _).off (w.heap.size + 1) 3 (by omega) _).off (w.heap.size + 1) 4 (by omega) _).off (w.heap.size + 1) 5 (by omega) _)⟩
        rw [hG3.out]
        exact OwnS.mono ((((((oz.off (w.heap.size + 1) 0 (by omega) _).off (w.heap.size + 1) 1 (by omega) _).off (w.heap.size + 1) 2 (by omega) _).off (w.heap.size + 1) 3 (by omega) _).off (w.heap.size + 1) 4 (by omega) _).off (w.heap.size + 1) 5 (by omega) _) (by omega)
end Go.Proofs.YtofglgfjlbehmaaGreat.mem
