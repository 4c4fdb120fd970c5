/-
  Draws of a panel and a number, as the laws use them.
-/
import Derived.Test.YtkfjphjmffbpiaaDq
namespace Go.Proofs.Ytkfjphjmffbpiaa.mem
open Go.ChangeShapes Go.WideShapes Go.ChangeAt Go.RowKit

theorem Own.blkD {w : World} {lo b off n c : Nat} {xs : List Int} (h : Own w lo (.slice (some ⟨b, off, none⟩) n c) xs) : lo ≤ b := by
  rcases h.2.2 with ⟨e, _⟩ | ⟨g, cap, cur, e, hg, _⟩
  · cases e
  · injection e with e1
    injection e1 with e1
    injection e1 with e1
    omega
/-- a panel and a number are drawn -/
def PiP (w : World) (e : Ending) (w' : World) : Prop := ∃ (p : S3) (l : L3) (x : Int), e = .returned (.tuple #[.agg #[.slice p.x.A p.x.n p.x.c, .slice p.y.A p.y.n p.y.c, .slice p.z.A p.z.n p.z.c], .int .i64 x]) ∧ Own3 w' w.heap.size p l ∧ Ext w w'
set_option maxRecDepth 20000 in
set_option maxHeartbeats 4000000 in
theorem spec.DrawDropWaiting_any (s : Sl) (w : World) (hc : Code w s) :
    Calls Try.prog 23 #[.slice s.A s.n s.c] w fun e w' => PiP w e w' := by
  have hR := Blk.new w 38 #[.slice none 0 0, .slice none 0 0, .slice none 0 0]
  have hX := (Ext.refl w).alloc (.cells #[.slice none 0 0, .slice none 0 0, .slice none 0 0] 38)
  go_enter Try.func23, Try.ntmps23
  go_wp2_with fail
  refine (spec.l01From_any s w _ hX hc).mono ?_
  rintro e w1 ⟨g, rfl, hg, hD, hx1⟩
  rw [World.size_alloc] at hg
  replace hR := hR.ext hx1
  replace hX := hX.trans hx1
  have hz1 := hR.lt
  have hgl := hD.lt
  clear hx1
  go_wp2_with fail
  refine (spec.l12Draw_any g s w _ hD).mono ?_
  rintro e w2 ⟨p, l, rfl, hp, hb, hD2, hO⟩
  replace hR := hR.only hO (by omega)
  replace hX := hX.only hO (by omega)
  have hz2 := hO.size
  clear hD hO
  have hB := Blk.new w2 38 #[.slice p.x.A p.x.n p.x.c, .slice p.y.A p.y.n p.y.c, .slice p.z.A p.z.n p.z.c]
  replace hp := hp.alloc (.cells #[.slice p.x.A p.x.n p.x.c, .slice p.y.A p.y.n p.y.c, .slice p.z.A p.z.n p.z.c] 38)
  replace hR := hR.alloc (.cells #[.slice p.x.A p.x.n p.x.c, .slice p.y.A p.y.n p.y.c, .slice p.z.A p.z.n p.z.c] 38)
  replace hX := hX.alloc (.cells #[.slice p.x.A p.x.n p.x.c, .slice p.y.A p.y.n p.y.c, .slice p.z.A p.z.n p.z.c] 38)
  replace hD2 := hD2.alloc (.cells #[.slice p.x.A p.x.n p.x.c, .slice p.y.A p.y.n p.y.c, .slice p.z.A p.z.n p.z.c] 38)
  have hzb : w.heap.size < w2.heap.size := by omega
  have n1 : ¬ w.heap.size = w2.heap.size := by omega
  have n2 : ¬ w2.heap.size = w.heap.size := by omega
  have n3 : w2.heap.size ≠ w.heap.size := n2
  have hk3 := fun W h => spec.l01Next_any g s 3 w W h (by omega)
  obtain ⟨k0a, k0b, k0c⟩ := hB.c3
  by_cases hn : 0 < p.y.n
  · obtain ⟨bz, oz, _, hAz, hbz, _, _⟩ := hp.rd.2.1.el hn
    obtain ⟨px, ⟨Az, nn, cc⟩, pz⟩ := p
    simp only at hAz hn
    subst hAz
    have hn' : (0 : Int) < (nn : Int) := by omega
    go_wp2_with fail
    refine (hk3 _ hD2).mono ?_
    rintro e w4 ⟨x, rfl, ⟨x0, x1⟩, hD4, hO4⟩
    replace hB := hB.only hO4 (by omega)
    replace hR := hR.only hO4 (by omega)
    replace hX := hX.only hO4 (by omega)
    replace hp := hp.only hO4 (by omega)
    clear k0a k0b k0c hD2 hO4 hk3
    obtain ⟨k0a, k0b, k0c⟩ := hB.c3
    by_cases hx : 0 < x
    · clear x0 x1
      have hk := fun W h => spec.l01Next_any g s (nn : Int) w W h (by have := hp.rd.2.1.2.1; simp only at this; omega)
      go_wp2_with fail
      refine wp_region_sink (S := (fun w' => w'.cell? ⟨w2.heap.size, 0, none⟩ = some (.slice px.A px.n px.c) ∧ w'.cell? ⟨w2.heap.size, 1, none⟩ = some (.slice (some ⟨bz, oz, none⟩) nn cc) ∧ w'.cell? ⟨w2.heap.size, 2, none⟩ = some (.slice pz.A pz.n pz.c))) 11 (by kernel_rfl) ?_
      change wpAnyT _ _ _ _ _ _ _ _ _ (World.drew _)
      replace hp := hp.drew
      replace hR := hR.drew
      replace hX := hX.drew
      replace hB := hB.drew
      replace hD4 := hD4.drew
      generalize hwd : World.drew _ = wd at hp hR hX hB hD4 ⊢
      clear hwd k0a k0b k0c
      have kk := hB.c3
      refine wpAnyT_takeL (i := 0) 11 (v := ?_) rfl (by kernel_rfl) (by kernel_rfl) (by kernel_rfl) (by kernel_rfl) (by kernel_rfl) (fun _ _ _ h => h) (Or.inl ⟨by rfl, ?_⟩) kk ?_
      rotate_left 1
      · (intro W hSw; (try dsimp only at hSw); go_simp) <;> with_reducible rfl
      try simp only [Act.put, List.setIfInBounds_toArray, List.set_cons_zero, List.set_cons_succ]
      refine wpAnyT_takeL (i := 1) 11 (v := ?_) rfl (by kernel_rfl) (by kernel_rfl) (by kernel_rfl) (by kernel_rfl) (by kernel_rfl) (fun _ _ _ h => h) (Or.inl ⟨by rfl, ?_⟩) kk ?_
      rotate_left 1
      · (intro W hSw; (try dsimp only at hSw); go_simp) <;> with_reducible rfl
      try simp only [Act.put, List.setIfInBounds_toArray, List.set_cons_zero, List.set_cons_succ]
      refine wpAnyT_takeL (i := 2) 11 (v := ?_) rfl (by kernel_rfl) (by kernel_rfl) (by kernel_rfl) (by kernel_rfl) (by kernel_rfl) (fun _ _ _ h => h) (Or.inl ⟨by rfl, ?_⟩) kk ?_
      rotate_left 1
      · (intro W hSw; (try dsimp only at hSw); go_simp) <;> with_reducible rfl
      try simp only [Act.put, List.setIfInBounds_toArray, List.set_cons_zero, List.set_cons_succ]
      refine wpAnyT_takeL (i := 3) 11 (v := ?_) rfl (by kernel_rfl) (by kernel_rfl) (by kernel_rfl) (by kernel_rfl) (by kernel_rfl) (fun _ _ _ h => h) (Or.inl ⟨by rfl, ?_⟩) kk ?_
      rotate_left 1
      · (intro W hSw; (try dsimp only at hSw); go_simp) <;> with_reducible rfl
      try simp only [Act.put, List.setIfInBounds_toArray, List.set_cons_zero, List.set_cons_succ]
      refine wpAnyT_takeL (i := 4) 11 (v := ?_) rfl (by kernel_rfl) (by kernel_rfl) (by kernel_rfl) (by kernel_rfl) (by kernel_rfl) (fun _ _ _ h => h) (Or.inl ⟨by rfl, ?_⟩) kk ?_
      rotate_left 1
      · (intro W hSw; (try dsimp only at hSw); go_simp) <;> with_reducible rfl
      try simp only [Act.put, List.setIfInBounds_toArray, List.set_cons_zero, List.set_cons_succ]
      refine wpAnyT_takeL (i := 5) 11 (v := ?_) rfl (by kernel_rfl) (by kernel_rfl) (by kernel_rfl) (by kernel_rfl) (by kernel_rfl) (fun _ _ _ h => h) (Or.inl ⟨by rfl, ?_⟩) kk ?_
      rotate_left 1
      · (intro W hSw; (try dsimp only at hSw); go_simp) <;> with_reducible rfl
      try simp only [Act.put, List.setIfInBounds_toArray, List.set_cons_zero, List.set_cons_succ]
      refine wpAnyT_takeL (i := 6) 11 (v := ?_) rfl (by kernel_rfl) (by kernel_rfl) (by kernel_rfl) (by kernel_rfl) (by kernel_rfl) (fun _ _ _ h => h) (Or.inl ⟨by rfl, ?_⟩) kk ?_
      rotate_left 1
      · (intro W hSw; (try dsimp only at hSw); go_simp) <;> with_reducible rfl
      try simp only [Act.put, List.setIfInBounds_toArray, List.set_cons_zero, List.set_cons_succ]
      clear kk
      refine wpAnyT_go (i := 7) rfl (by kernel_rfl) fun K hK => ?_
      go_simp
      refine (hk _ hD4).mono ?_
      rintro e w9 ⟨x, rfl, ⟨x0, x1⟩, hD9, hO9⟩
      replace hB := hB.only hO9 (by omega)
      replace hR := hR.only hO9 (by omega)
      replace hX := hX.only hO9 (by omega)
      replace hp := hp.only hO9 (by omega)
      obtain ⟨q, rfl⟩ := Int.eq_ofNat_of_zero_le x0
      have hqn : q < nn := by omega
      have hqI : (q : Int) < (nn : Int) := by omega
      have hq0 : (0 : Int) ≤ (q : Int) := by omega
      obtain ⟨b5, o5, v5, hA5, hb5, hc5, hv5⟩ := hp.rd.2.1.el hqn
      injection hA5 with hA5
      injection hA5 with hA5 hA6
      subst hA5 hA6
      clear x0 x1
      go_simp
      refine hK _ _ ⟨fun _ => hB.c3, ?_⟩
      clear hK K
      have kk := hB.c3
      refine wpAnyT_takeL (i := 8) 11 (v := ?_) rfl (by kernel_rfl) (by kernel_rfl) (by kernel_rfl) (by kernel_rfl) (by kernel_rfl) (fun _ _ _ h => h) (Or.inl ⟨by rfl, ?_⟩) kk ?_
      rotate_left 1
      · (intro W hSw; (try dsimp only at hSw); go_simp) <;> with_reducible rfl
      try simp only [Act.put, List.setIfInBounds_toArray, List.set_cons_zero, List.set_cons_succ]
      clear kk
      have hbz : w.heap.size < bz := by have := hp.2.1.blkD; omega
      have n5 : ¬ w.heap.size = bz := by omega
      have n6 : ¬ bz = w.heap.size := by omega
      obtain ⟨r0, r1, r2, r3, r4, r5⟩ := res3 hR
      have k1 := hB.c3
      have k2 := (((hB.off w.heap.size 0 n3 (.slice px.A px.n px.c)).off w.heap.size 1 n3 (.slice (some ⟨bz, oz, none⟩) nn cc)).off w.heap.size 2 n3 (.slice pz.A pz.n pz.c)).c3
      refine wpAnyT_go2 (i := 9) (j := 10) rfl rfl (by kernel_rfl) (fun K hK => ?_) (fun K hK => ?_)
      · go_simp
        refine hK _ _ ⟨fun _ => hB.c3, ?_⟩
        clear hK K
        refine wpAnyT_go (i := 10) rfl (by kernel_rfl) fun K hK => ?_
        go_simp
        refine hK _ _ ⟨fun _ => k2, ?_⟩
        clear hK K
        refine wpAnyT_go (i := 11) rfl (by kernel_rfl) fun K hK => ?_
        go_simp
        refine hK _ _ ⟨fun h => absurd rfl h, ?_⟩
        clear hK K
        refine wpAnyT_done (by kernel_rfl) ?_ _
        have m := Blk.c3 (((hR.set_ 0 (.slice px.A px.n px.c)).set_ 1 (.slice (some ⟨bz, oz, none⟩) nn cc)).set_ 2 (.slice pz.A pz.n pz.c))
        have hpn := ((hp.awayP (g := w.heap.size) (by omega) 0 (.slice px.A px.n px.c)).awayP (g := w.heap.size) (by omega) 1 (.slice (some ⟨bz, oz, none⟩) nn cc)).awayP (g := w.heap.size) (by omega) 2 (.slice pz.A pz.n pz.c)
        have hXn := ((hX.off w.heap.size 0 (by omega) (.slice px.A px.n px.c)).off w.heap.size 1 (by omega) (.slice (some ⟨bz, oz, none⟩) nn cc)).off w.heap.size 2 (by omega) (.slice pz.A pz.n pz.c)
        clear k1 k2 hB
        go_wp2_with fail
        refine bodyPost_ret (v := .tuple #[.agg #[.slice px.A px.n px.c, .slice (some ⟨bz, oz, none⟩) nn cc, .slice pz.A pz.n pz.c], .int .i64 v5]) (by simp [results, Try.results23, go_sem, m.1, m.2.1, m.2.2]) rfl ⟨⟨px, ⟨some ⟨bz, oz, none⟩, nn, cc⟩, pz⟩, l, _, rfl, hpn.mono (by omega), hXn⟩
      · go_simp
        refine hK _ _ ⟨fun _ => k2, ?_⟩
        clear hK K
        refine wpAnyT_go (i := 9) rfl (by kernel_rfl) fun K hK => ?_
        go_simp
        refine hK _ _ ⟨fun _ => k2, ?_⟩
        clear hK K
        refine wpAnyT_go (i := 11) rfl (by kernel_rfl) fun K hK => ?_
        go_simp
        refine hK _ _ ⟨fun h => absurd rfl h, ?_⟩
        clear hK K
        refine wpAnyT_done (by kernel_rfl) ?_ _
        have m := Blk.c3 (((hR.set_ 0 (.slice px.A px.n px.c)).set_ 1 (.slice (some ⟨bz, oz, none⟩) nn cc)).set_ 2 (.slice pz.A pz.n pz.c))
        have hpn := ((hp.awayP (g := w.heap.size) (by omega) 0 (.slice px.A px.n px.c)).awayP (g := w.heap.size) (by omega) 1 (.slice (some ⟨bz, oz, none⟩) nn cc)).awayP (g := w.heap.size) (by omega) 2 (.slice pz.A pz.n pz.c)
        have hXn := ((hX.off w.heap.size 0 (by omega) (.slice px.A px.n px.c)).off w.heap.size 1 (by omega) (.slice (some ⟨bz, oz, none⟩) nn cc)).off w.heap.size 2 (by omega) (.slice pz.A pz.n pz.c)
        clear k1 k2 hB
        go_wp2_with fail
        refine bodyPost_ret (v := .tuple #[.agg #[.slice px.A px.n px.c, .slice (some ⟨bz, oz, none⟩) nn cc, .slice pz.A pz.n pz.c], .int .i64 v5]) (by simp [results, Try.results23, go_sem, m.1, m.2.1, m.2.2]) rfl ⟨⟨px, ⟨some ⟨bz, oz, none⟩, nn, cc⟩, pz⟩, l, _, rfl, hpn.mono (by omega), hXn⟩
    · have hx' : ¬ (0 : Int) < x := hx
      replace hp := hp.drew
      replace hR := hR.drew
      replace hX := hX.drew
      replace hB := hB.drew
      replace hD4 := hD4.drew
      have hk := spec.l12Number_any g s ⟨px, ⟨some ⟨bz, oz, none⟩, nn, cc⟩, pz⟩ l w _ hD4 hp.rd (by omega)
      have k0 := hB.c3
      go_wp2_with fail
      go_region_held3 (fun w' => w'.cell? ⟨w2.heap.size, 0, none⟩ = some (.slice px.A px.n px.c) ∧ w'.cell? ⟨w2.heap.size, 1, none⟩ = some (.slice (some ⟨bz, oz, none⟩) nn cc) ∧ w'.cell? ⟨w2.heap.size, 2, none⟩ = some (.slice pz.A pz.n pz.c)) (first | exact k2 | exact k1 | exact k0 | go_keep | fail) (first | (go_at_call 90; refine hk.mono ?_; rintro e w9 ⟨x, rfl, hD9, hO9⟩; replace hB := hB.only hO9 (by omega); replace hR := hR.only hO9 (by omega); replace hX := hX.only hO9 (by omega); replace hp := hp.only hO9 (by omega); obtain ⟨r0, r1, r2, r3, r4, r5⟩ := res3 hR; have k1 := hB.c3; have k2 := (((hB.off w.heap.size 0 n3 (.slice px.A px.n px.c)).off w.heap.size 1 n3 (.slice (some ⟨bz, oz, none⟩) nn cc)).off w.heap.size 2 n3 (.slice pz.A pz.n pz.c)).c3) | fail)
      have m := Blk.c3 (((hR.set_ 0 (.slice px.A px.n px.c)).set_ 1 (.slice (some ⟨bz, oz, none⟩) nn cc)).set_ 2 (.slice pz.A pz.n pz.c))
      have hpn := ((hp.awayP (g := w.heap.size) (by omega) 0 (.slice px.A px.n px.c)).awayP (g := w.heap.size) (by omega) 1 (.slice (some ⟨bz, oz, none⟩) nn cc)).awayP (g := w.heap.size) (by omega) 2 (.slice pz.A pz.n pz.c)
      have hXn := ((hX.off w.heap.size 0 (by omega) (.slice px.A px.n px.c)).off w.heap.size 1 (by omega) (.slice (some ⟨bz, oz, none⟩) nn cc)).off w.heap.size 2 (by omega) (.slice pz.A pz.n pz.c)
      clear k0 k1 k2 hB
      go_wp2_with fail
      refine bodyPost_ret (v := .tuple #[.agg #[.slice px.A px.n px.c, .slice (some ⟨bz, oz, none⟩) nn cc, .slice pz.A pz.n pz.c], .int .i64 x]) (by simp [results, Try.results23, go_sem, m.1, m.2.1, m.2.2]) rfl ⟨⟨px, ⟨some ⟨bz, oz, none⟩, nn, cc⟩, pz⟩, l, _, rfl, hpn.mono (by omega), hXn⟩
  · have hn' : ¬ (0 : Int) < (p.y.n : Int) := by omega
    replace hp := hp.drew
    replace hR := hR.drew
    replace hX := hX.drew
    replace hB := hB.drew
    replace hD2 := hD2.drew
    have hk := spec.l12Number_any g s p l w _ hD2 hp.rd (by omega)
    have k0 := hB.c3
    go_wp2_with fail
    go_region_held3 (fun w' => w'.cell? ⟨w2.heap.size, 0, none⟩ = some (.slice p.x.A p.x.n p.x.c) ∧ w'.cell? ⟨w2.heap.size, 1, none⟩ = some (.slice p.y.A p.y.n p.y.c) ∧ w'.cell? ⟨w2.heap.size, 2, none⟩ = some (.slice p.z.A p.z.n p.z.c)) (first | exact k2 | exact k1 | exact k0 | go_keep | fail) (first | (go_at_call 90; refine hk.mono ?_; rintro e w9 ⟨x, rfl, hD9, hO9⟩; replace hB := hB.only hO9 (by omega); replace hR := hR.only hO9 (by omega); replace hX := hX.only hO9 (by omega); replace hp := hp.only hO9 (by omega); obtain ⟨r0, r1, r2, r3, r4, r5⟩ := res3 hR; have k1 := hB.c3; have k2 := (((hB.off w.heap.size 0 n3 (.slice p.x.A p.x.n p.x.c)).off w.heap.size 1 n3 (.slice p.y.A p.y.n p.y.c)).off w.heap.size 2 n3 (.slice p.z.A p.z.n p.z.c)).c3) | fail)
    have m := Blk.c3 (((hR.set_ 0 (.slice p.x.A p.x.n p.x.c)).set_ 1 (.slice p.y.A p.y.n p.y.c)).set_ 2 (.slice p.z.A p.z.n p.z.c))
    have hpn := ((hp.awayP (g := w.heap.size) (by omega) 0 (.slice p.x.A p.x.n p.x.c)).awayP (g := w.heap.size) (by omega) 1 (.slice p.y.A p.y.n p.y.c)).awayP (g := w.heap.size) (by omega) 2 (.slice p.z.A p.z.n p.z.c)
    have hXn := ((hX.off w.heap.size 0 (by omega) (.slice p.x.A p.x.n p.x.c)).off w.heap.size 1 (by omega) (.slice p.y.A p.y.n p.y.c)).off w.heap.size 2 (by omega) (.slice p.z.A p.z.n p.z.c)
    clear k0 k1 k2 hB
    go_wp2_with fail
    refine bodyPost_ret (v := .tuple #[.agg #[.slice p.x.A p.x.n p.x.c, .slice p.y.A p.y.n p.y.c, .slice p.z.A p.z.n p.z.c], .int .i64 x]) (by simp [results, Try.results23, go_sem, m.1, m.2.1, m.2.2]) rfl ⟨p, l, _, rfl, hpn.mono (by omega), hXn⟩
set_option maxRecDepth 20000 in
set_option maxHeartbeats 4000000 in
theorem spec.DrawEmptySeat_any (s : Sl) (w : World) (hc : Code w s) :
    Calls Try.prog 17 #[.slice s.A s.n s.c] w fun e w' => PiP w e w' := by
  have hR := Blk.new w 38 #[.slice none 0 0, .slice none 0 0, .slice none 0 0]
  have hX := (Ext.refl w).alloc (.cells #[.slice none 0 0, .slice none 0 0, .slice none 0 0] 38)
  go_enter Try.func17, Try.ntmps17
  go_wp2_with fail
  refine (spec.l01From_any s w _ hX hc).mono ?_
  rintro e w1 ⟨g, rfl, hg, hD, hx1⟩
  rw [World.size_alloc] at hg
  replace hR := hR.ext hx1
  replace hX := hX.trans hx1
  have hz1 := hR.lt
  have hgl := hD.lt
  clear hx1
  go_wp2_with fail
  refine (spec.l12Draw_any g s w _ hD).mono ?_
  rintro e w2 ⟨p, l, rfl, hp, hb, hD2, hO⟩
  replace hR := hR.only hO (by omega)
  replace hX := hX.only hO (by omega)
  have hz2 := hO.size
  clear hD hO
  have hB := Blk.new w2 38 #[.slice p.x.A p.x.n p.x.c, .slice p.y.A p.y.n p.y.c, .slice p.z.A p.z.n p.z.c]
  replace hp := hp.alloc (.cells #[.slice p.x.A p.x.n p.x.c, .slice p.y.A p.y.n p.y.c, .slice p.z.A p.z.n p.z.c] 38)
  replace hR := hR.alloc (.cells #[.slice p.x.A p.x.n p.x.c, .slice p.y.A p.y.n p.y.c, .slice p.z.A p.z.n p.z.c] 38)
  replace hX := hX.alloc (.cells #[.slice p.x.A p.x.n p.x.c, .slice p.y.A p.y.n p.y.c, .slice p.z.A p.z.n p.z.c] 38)
  replace hD2 := hD2.alloc (.cells #[.slice p.x.A p.x.n p.x.c, .slice p.y.A p.y.n p.y.c, .slice p.z.A p.z.n p.z.c] 38)
  have hzb : w.heap.size < w2.heap.size := by omega
  have n1 : ¬ w.heap.size = w2.heap.size := by omega
  have n2 : ¬ w2.heap.size = w.heap.size := by omega
  have n3 : w2.heap.size ≠ w.heap.size := n2
  obtain ⟨N, hN⟩ : ∃ N, Hid (N = p.x.n + 1) := ⟨_, rfl⟩
  have hpx : p.x.n ≤ 12 := by have := hp.rd.1.1; omega
  have hNb : N ≤ 13 := by have := hN.out; omega
  have hwN : IntKind.i64.wrap ((p.x.n : Int) + 1) = (N : Int) := by rw [Go.IntWalk.i64_in _ (by omega), hN.out]; simp
  replace hp := hp.drew
  replace hR := hR.drew
  replace hX := hX.drew
  replace hB := hB.drew
  replace hD2 := hD2.drew
  have hkA := spec.l01Next_any g s (N : Int) w _ hD2 (by omega)
  have hkB := fun W h => spec.l01Next_any g s 24 w W h (by omega)
  have k0 := hB.c3
  go_wp2_with fail
  go_region_held3 (fun w' => w'.cell? ⟨w2.heap.size, 0, none⟩ = some (.slice p.x.A p.x.n p.x.c) ∧ w'.cell? ⟨w2.heap.size, 1, none⟩ = some (.slice p.y.A p.y.n p.y.c) ∧ w'.cell? ⟨w2.heap.size, 2, none⟩ = some (.slice p.z.A p.z.n p.z.c)) (first | exact k2 | exact k1 | exact kA | exact k0 | go_keep | fail) (first | (go_at_call 67; refine hkA.mono ?_; rintro e w8 ⟨a, rfl, ⟨a0, a1⟩, hD8, hO8⟩; clear hkA; replace hB := hB.only hO8 (by omega); replace hR := hR.only hO8 (by omega); replace hX := hX.only hO8 (by omega); replace hp := hp.only hO8 (by omega); have kA := hB.c3; have ha : a < 13 := (by omega)) | (go_at_call 67; refine (hkB _ hD8).mono ?_; rintro e w9 ⟨b, rfl, ⟨b0, b1⟩, hD9, hO9⟩; replace hB := hB.only hO9 (by omega); replace hR := hR.only hO9 (by omega); replace hX := hX.only hO9 (by omega); replace hp := hp.only hO9 (by omega); have hq0 : 0 ≤ b / 23 := Int.ediv_nonneg b0 (by decide); have hq1 : b / 23 ≤ 1 := (by omega); have hwq : IntKind.i64.wrap (b / 23) = b / 23 := Go.IntWalk.i64_in _ (by omega); have hws : IntKind.i64.wrap (a - b / 23) = a - b / 23 := Go.IntWalk.i64_in _ (by omega); have hwt : IntKind.i64.wrap (a - IntKind.i64.wrap (b.tdiv 23)) = a - b / 23 := (by rw [Int.tdiv_eq_ediv_of_nonneg b0, hwq, hws]); obtain ⟨r0, r1, r2, r3, r4, r5⟩ := res3 hR; have k1 := hB.c3; have k2 := (((hB.off w.heap.size 0 n3 (.slice p.x.A p.x.n p.x.c)).off w.heap.size 1 n3 (.slice p.y.A p.y.n p.y.c)).off w.heap.size 2 n3 (.slice p.z.A p.z.n p.z.c)).c3) | fail)
  have m := Blk.c3 (((hR.set_ 0 (.slice p.x.A p.x.n p.x.c)).set_ 1 (.slice p.y.A p.y.n p.y.c)).set_ 2 (.slice p.z.A p.z.n p.z.c))
  have hpn := ((hp.awayP (g := w.heap.size) (by omega) 0 (.slice p.x.A p.x.n p.x.c)).awayP (g := w.heap.size) (by omega) 1 (.slice p.y.A p.y.n p.y.c)).awayP (g := w.heap.size) (by omega) 2 (.slice p.z.A p.z.n p.z.c)
  have hXn := ((hX.off w.heap.size 0 (by omega) (.slice p.x.A p.x.n p.x.c)).off w.heap.size 1 (by omega) (.slice p.y.A p.y.n p.y.c)).off w.heap.size 2 (by omega) (.slice p.z.A p.z.n p.z.c)
  clear k0 kA k1 k2 hB
  go_wp2_with fail
  refine bodyPost_ret (v := .tuple #[.agg #[.slice p.x.A p.x.n p.x.c, .slice p.y.A p.y.n p.y.c, .slice p.z.A p.z.n p.z.c], .int .i64 (a - b / 23)]) (by simp [results, Try.results17, go_sem, m.1, m.2.1, m.2.2]) rfl ⟨p, l, _, rfl, hpn.mono (by omega), hXn⟩
set_option maxRecDepth 20000 in
set_option maxHeartbeats 2500000 in
theorem spec.DrawIsFull_any (s : Sl) (w : World) (hc : Code w s) :
    Calls Try.prog 26 #[.slice s.A s.n s.c] w fun e w' => ∃ (p : S3) (l : L3), e = .returned (.agg #[.slice p.x.A p.x.n p.x.c, .slice p.y.A p.y.n p.y.c, .slice p.z.A p.z.n p.z.c]) ∧ Own3 w' w.heap.size p l ∧ (l.x.length ≤ 12 ∧ l.y.length + l.z.length ≤ 70) ∧ Ext w w' := by
  have hR := Blk.new w 38 #[.slice none 0 0, .slice none 0 0, .slice none 0 0]
  have hX := (Ext.refl w).alloc (.cells #[.slice none 0 0, .slice none 0 0, .slice none 0 0] 38)
  go_enter Try.func26, Try.ntmps26
  go_wp2_with fail
  refine (spec.l01From_any s w _ hX hc).mono ?_
  rintro e w1 ⟨g, rfl, hg, hD, hx1⟩
  rw [World.size_alloc] at hg
  replace hR := hR.ext hx1
  replace hX := hX.trans hx1
  have hz1 := hR.lt
  clear hx1
  go_wp2_with fail
  refine (spec.l12Draw_any g s w _ hD).mono ?_
  rintro e w2 ⟨p, l, rfl, hp, hb, hD2, hO⟩
  replace hR := hR.only hO (by omega)
  replace hX := hX.only hO (by omega)
  clear hD hD2 hO
  obtain ⟨r0, r1, r2, r3, r4, r5⟩ := res3 hR
  have m := Blk.c3 (((hR.set_ 0 (.slice p.x.A p.x.n p.x.c)).set_ 1 (.slice p.y.A p.y.n p.y.c)).set_ 2 (.slice p.z.A p.z.n p.z.c))
  have hpn := ((hp.awayP (g := w.heap.size) (by omega) 0 (.slice p.x.A p.x.n p.x.c)).awayP (g := w.heap.size) (by omega) 1 (.slice p.y.A p.y.n p.y.c)).awayP (g := w.heap.size) (by omega) 2 (.slice p.z.A p.z.n p.z.c)
  have hXn := ((hX.off w.heap.size 0 (by omega) (.slice p.x.A p.x.n p.x.c)).off w.heap.size 1 (by omega) (.slice p.y.A p.y.n p.y.c)).off w.heap.size 2 (by omega) (.slice p.z.A p.z.n p.z.c)
  go_wp2_with fail
  refine bodyPost_ret (v := .agg #[.slice p.x.A p.x.n p.x.c, .slice p.y.A p.y.n p.y.c, .slice p.z.A p.z.n p.z.c]) (by simp [results, Try.results26, go_sem, m.1, m.2.1, m.2.2]) rfl ⟨p, l, rfl, hpn.mono (by omega), hb, hXn⟩
def LiP (w : World) (e : Ending) (w' : World) : Prop := ∃ (t : Sl) (xs : List Int) (n : Int), e = .returned (.tuple #[.slice t.A t.n t.c, .int .i64 n]) ∧ Own w' w.heap.size (.slice t.A t.n t.c) xs ∧ xs.length ≤ 70 ∧ Ext w w'
theorem Own.up {w : World} {lo : Nat} {t : Sl} {xs : List Int} (h : Own w lo (.slice t.A t.n t.c) xs) : t.n = xs.length := h.rd.1
set_option maxRecDepth 20000 in
set_option maxHeartbeats 4000000 in
theorem spec.DrawMakePanel_any (s : Sl) (w : World) (hc : Code w s) :
    Calls Try.prog 20 #[.slice s.A s.n s.c] w fun e w' => LiP w e w' := by
  go_enter Try.func20, Try.ntmps20
  go_wp2_with fail
  refine (spec.l01From_any s w _ (Ext.refl w) hc).mono ?_
  rintro e w1 ⟨g, rfl, hg, hD, hX⟩
  have hgl := hD.lt
  have hk14 := fun W h => spec.l01Next_any g s 14 w W h (by omega)
  have hk16 := fun W h => spec.l01Next_any g s 16 w W h (by omega)
  have hk2 := fun W h => spec.l01Next_any g s 2 w W h (by omega)
  have hk12 := fun W h => spec.l01Next_any g s 12 w W h (by omega)
  go_wp2_with fail
  refine (hk14 _ hD).mono ?_
  rintro e w2 ⟨x, rfl, ⟨x0, x1⟩, hD2, hO2⟩
  obtain ⟨n, rfl⟩ := Int.eq_ofNat_of_zero_le x0
  have hz2 := hO2.size
  replace hX := hX.only hO2 hg
  have hn : n ≤ 13 := by omega
  clear x0 x1 hD hO2 hk14
  go_wp2_with fail
  refine (spec.l12Numbers_any g s n w _ hD2 (by omega)).mono ?_
  rintro e w3 ⟨t, xs, rfl, ho, hxl, _, hD3, hO3⟩
  have hz3 := hO3.size
  replace hX := hX.only hO3 hg
  replace hxl := hide (show xs.length ≤ 13 by omega)
  clear hD2 hO3
  go_wp2_with fail
  refine (hk16 _ hD3).mono ?_
  rintro e w4 ⟨x, rfl, ⟨x0, x1⟩, hD4, hO4⟩
  obtain ⟨j, rfl⟩ := Int.eq_ofNat_of_zero_le x0
  have hz4 := hO4.size
  replace ho := (ho.only hO4 (by omega)).mono (lo' := g + 1) (by omega)
  replace hX := hX.only hO4 hg
  clear x0 x1 hD3 hO4 hk16
  have fin : ∀ (W : World) (t : Sl) (xs : List Int), Dr w W g s → Own W (g + 1) (.slice t.A t.n t.c) xs → xs.length ≤ 70 → Ext w W → (∀ (x6 : Int), True) → True := fun _ _ _ _ _ _ _ _ => trivial
  clear fin
  rcases (show j = 0 ∨ j = 1 ∨ 2 ≤ j by omega) with rfl | rfl | hj
  · have hp := spec.l01Pick_any g w4.heap.size s [0, 1, 1000001] w (w4.alloc (.cells #[.int .i64 0, .int .i64 1, .int .i64 1000001] 2)) (hD4.alloc _) (Blk.new w4 2 _) (by have := hD4.lt; omega) (by simp) (by simp)
    replace ho := ho.alloc (.cells #[.int .i64 0, .int .i64 1, .int .i64 1000001] 2)
    replace hX := hX.alloc (.cells #[.int .i64 0, .int .i64 1, .int .i64 1000001] 2)
    go_wp2_with fail
    refine hp.mono ?_
    rintro e w5 ⟨y, rfl, _, hD5, hO5⟩
    replace ho := ho.only hO5 (by omega)
    replace hX := hX.only hO5 hg
    have hgs := hD5.lt
    have hl1 : xs.length + 1 ≤ 16777216 := by have := hxl.out; omega
    have hlo := ho.lt
    have hV := Rd.one w5 y
    clear hp hO5
    go_wp2_with (at_builtin; refine wpList_app _ rfl (.tmp 16) (.tmp 20) rfl (g + 1) _ _ rfl (ho.alloc _) _ _ _ [y] rfl hV hl1 (by simp; omega) ?_; intro t1 w6 ho1 hg1 hb1)
    replace hX := (hX.alloc (.cells #[.int .i64 y] 2)).grow hg1 (fun k hk => by have := (hlo k hk).1; omega)
    have hD6 : Dr w w6 g s := (hD5.alloc (.cells #[.int .i64 y] 2)).keep (Fr.of_grown hg1) (fun e => by have := (hlo _ e).1; omega) (fun k e => by have := (hlo _ e).1; omega)
    have hl70 : (xs ++ [y]).length ≤ 70 := by have := hxl.out; simp; omega
    generalize xs ++ [y] = xs at ho1 hl70
    go_wp2_with fail
    refine (hk12 _ hD6).mono ?_
    rintro e w7 ⟨x, rfl, ⟨x0, x1⟩, hD7, hO7⟩
    have hw7 : IntKind.i64.wrap (1 + x) = 1 + x := Go.IntWalk.i64_in _ (by omega)
    have ho7 := (ho1.only hO7 (by omega)).alloc (.cells #[.int .i64 6, .int .i64 12, .int .i64 1, .int .i64 13, .int .i64 0, .int .i64 (1 + x)] 2)
    replace hX := (hX.only hO7 hg).alloc (.cells #[.int .i64 6, .int .i64 12, .int .i64 1, .int .i64 13, .int .i64 0, .int .i64 (1 + x)] 2)
    have hp7 := spec.l01Pick_any g w7.heap.size s [6, 12, 1, 13, 0, 1 + x] w (w7.alloc (.cells #[.int .i64 6, .int .i64 12, .int .i64 1, .int .i64 13, .int .i64 0, .int .i64 (1 + x)] 2)) (hD7.alloc _) (Blk.new w7 2 _) (by have := hD7.lt; omega) (by simp) (by simp)
    replace hl70 := hide hl70
    go_wp2_with fail
    refine hp7.mono ?_
    rintro e w8 ⟨z, rfl, _, hD8, hO8⟩
    replace hX := hX.only hO8 hg
    go_wp2_with fail
    go_ret2
    exact ⟨t1, xs, z, rfl, (ho7.only hO8 (by omega)).mono (by omega), hl70.out, hX⟩
  · go_wp2_with fail
    refine (hk2 _ hD4).mono ?_
    rintro e w5 ⟨x, rfl, ⟨x0, x1⟩, hD5, hO5⟩
    replace hX := hX.only hO5 hg
    obtain ⟨a, rfl⟩ := Int.eq_ofNat_of_zero_le x0
    obtain ⟨N, hN⟩ : ∃ N, Hid (N = 60 + a) := ⟨_, rfl⟩
    have hNb : N ≤ 61 := by have := hN.out; omega
    have hwa : IntKind.i64.wrap (60 + (a : Int)) = (N : Int) := by rw [Go.IntWalk.i64_in _ (by omega), hN.out]; simp
    have hgs := hD5.lt
    have hkN := spec.l12Numbers_any g s N w _ hD5 (by omega)
    clear x0 x1 hO5 ho hxl
    go_wp2_with fail
    refine hkN.mono ?_
    rintro e w6 ⟨t1, xs, rfl, ho1, hxl, _, hD6, hO6⟩
    replace hX := hX.only hO6 hg
    replace ho1 := ho1.mono (lo' := g + 1) (by omega)
    have hl70 : xs.length ≤ 70 := by omega
    clear hkN hO6 hxl
    go_wp2_with fail
    refine (hk12 _ hD6).mono ?_
    rintro e w7 ⟨x, rfl, ⟨x0, x1⟩, hD7, hO7⟩
    have hw7 : IntKind.i64.wrap (1 + x) = 1 + x := Go.IntWalk.i64_in _ (by omega)
    have ho7 := (ho1.only hO7 (by omega)).alloc (.cells #[.int .i64 6, .int .i64 12, .int .i64 1, .int .i64 13, .int .i64 0, .int .i64 (1 + x)] 2)
    replace hX := (hX.only hO7 hg).alloc (.cells #[.int .i64 6, .int .i64 12, .int .i64 1, .int .i64 13, .int .i64 0, .int .i64 (1 + x)] 2)
    have hp7 := spec.l01Pick_any g w7.heap.size s [6, 12, 1, 13, 0, 1 + x] w (w7.alloc (.cells #[.int .i64 6, .int .i64 12, .int .i64 1, .int .i64 13, .int .i64 0, .int .i64 (1 + x)] 2)) (hD7.alloc _) (Blk.new w7 2 _) (by have := hD7.lt; omega) (by simp) (by simp)
    replace hl70 := hide hl70
    go_wp2_with fail
    refine hp7.mono ?_
    rintro e w8 ⟨z, rfl, _, hD8, hO8⟩
    replace hX := hX.only hO8 hg
    go_wp2_with fail
    go_ret2
    exact ⟨t1, xs, z, rfl, (ho7.only hO8 (by omega)).mono (by omega), hl70.out, hX⟩
  · have e0 : ((j : Int) == 0) = false := by rw [beq_eq_false_iff_ne]; omega
    have e1 : ((j : Int) == 1) = false := by rw [beq_eq_false_iff_ne]; omega
    have hl70 : xs.length ≤ 70 := by have := hxl.out; omega
    go_wp2_with fail
    refine (hk12 _ hD4).mono ?_
    rintro e w7 ⟨x, rfl, ⟨x0, x1⟩, hD7, hO7⟩
    have hw7 : IntKind.i64.wrap (1 + x) = 1 + x := Go.IntWalk.i64_in _ (by omega)
    have ho7 := (ho.only hO7 (by omega)).alloc (.cells #[.int .i64 6, .int .i64 12, .int .i64 1, .int .i64 13, .int .i64 0, .int .i64 (1 + x)] 2)
    replace hX := (hX.only hO7 hg).alloc (.cells #[.int .i64 6, .int .i64 12, .int .i64 1, .int .i64 13, .int .i64 0, .int .i64 (1 + x)] 2)
    have hp7 := spec.l01Pick_any g w7.heap.size s [6, 12, 1, 13, 0, 1 + x] w (w7.alloc (.cells #[.int .i64 6, .int .i64 12, .int .i64 1, .int .i64 13, .int .i64 0, .int .i64 (1 + x)] 2)) (hD7.alloc _) (Blk.new w7 2 _) (by have := hD7.lt; omega) (by simp) (by simp)
    replace hl70 := hide hl70
    go_wp2_with fail
    refine hp7.mono ?_
    rintro e w8 ⟨z, rfl, _, hD8, hO8⟩
    replace hX := hX.only hO8 hg
    go_wp2_with fail
    go_ret2
    exact ⟨t, xs, z, rfl, (ho7.only hO8 (by omega)).mono (by omega), hl70.out, hX⟩
end Go.Proofs.Ytkfjphjmffbpiaa.mem
