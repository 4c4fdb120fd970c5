/-
  Draws of a panel and a number, as the laws use them.
-/
import Derived.Test.YtjedembbcmeoeaaDq
namespace Go.Proofs.Ytjedembbcmeoeaa.mem
open Go.ChangeShapes Go.WideShapes Go.ChangeAt Go.RowKit

theorem Own.blkD {w : World} {lo b off n c : Nat} {xs : List Int} (h : Own w lo (.slice (some ⟨b, off, none⟩) n c) xs) : lo ≤ b := by
  rcases h.2.2 with ⟨e, _⟩ | ⟨g, cap, cur, e, hg, _⟩
  · cases e
  · injection e with e1
    injection e1 with e1
    injection e1 with e1
    omega
/-- a panel and a number are drawn -/
def PiP (w : World) (e : Ending) (w' : World) : Prop := ∃ (p : S3) (l : L3) (x : Int), e = .returned (.tuple #[.agg #[.slice p.x.A p.x.n p.x.c, .slice p.y.A p.y.n p.y.c, .slice p.z.A p.z.n p.z.c], .int .i64 x]) ∧ Own3 w' w.heap.size p l ∧ Ext w w'
set_option maxRecDepth 20000 in
set_option maxHeartbeats 4000000 in
theorem spec.DrawSeatOf_any (s : Sl) (w : World) (hc : Code w s) :
    Calls Try.prog 9 #[.slice s.A s.n s.c] w fun e w' => PiP w e w' := by
  have hR := Blk.new w 26 #[.slice none 0 0, .slice none 0 0, .slice none 0 0]
  have hX := (Ext.refl w).alloc (.cells #[.slice none 0 0, .slice none 0 0, .slice none 0 0] 26)
  go_enter Try.func9, Try.ntmps9
  go_wp2_with fail
  refine (spec.l01From_any s w _ hX hc).mono ?_
  rintro e w1 ⟨g, rfl, hg, hD, hx1⟩
  rw [World.size_alloc] at hg
  replace hR := hR.ext hx1
  replace hX := hX.trans hx1
  have hz1 := hR.lt
  have hgl := hD.lt
  clear hx1
  go_wp2_with fail
  refine (spec.l12Draw_any g s w _ hD).mono ?_
  rintro e w2 ⟨p, l, rfl, hp, hb, hD2, hO⟩
  replace hR := hR.only hO (by omega)
  replace hX := hX.only hO (by omega)
  have hz2 := hO.size
  clear hD hO
  have hB := Blk.new w2 26 #[.slice p.x.A p.x.n p.x.c, .slice p.y.A p.y.n p.y.c, .slice p.z.A p.z.n p.z.c]
  replace hp := hp.alloc (.cells #[.slice p.x.A p.x.n p.x.c, .slice p.y.A p.y.n p.y.c, .slice p.z.A p.z.n p.z.c] 26)
  replace hR := hR.alloc (.cells #[.slice p.x.A p.x.n p.x.c, .slice p.y.A p.y.n p.y.c, .slice p.z.A p.z.n p.z.c] 26)
  replace hX := hX.alloc (.cells #[.slice p.x.A p.x.n p.x.c, .slice p.y.A p.y.n p.y.c, .slice p.z.A p.z.n p.z.c] 26)
  replace hD2 := hD2.alloc (.cells #[.slice p.x.A p.x.n p.x.c, .slice p.y.A p.y.n p.y.c, .slice p.z.A p.z.n p.z.c] 26)
  have hzb : w.heap.size < w2.heap.size := by omega
  have n1 : ¬ w.heap.size = w2.heap.size := by omega
  have n2 : ¬ w2.heap.size = w.heap.size := by omega
  have n3 : w2.heap.size ≠ w.heap.size := n2
  obtain ⟨k0a, k0b, k0c⟩ := hB.c3
  replace hp := hp.drew
  replace hR := hR.drew
  replace hX := hX.drew
  replace hB := hB.drew
  replace hD2 := hD2.drew
  have hk := spec.l12Number_any g s p l w _ hD2 hp.rd (by omega)
  have k0 := hB.c3
  go_wp2_with fail
  go_region_held3 (fun w' => w'.cell? ⟨w2.heap.size, 0, none⟩ = some (.slice p.x.A p.x.n p.x.c) ∧ w'.cell? ⟨w2.heap.size, 1, none⟩ = some (.slice p.y.A p.y.n p.y.c) ∧ w'.cell? ⟨w2.heap.size, 2, none⟩ = some (.slice p.z.A p.z.n p.z.c)) (first | exact k2 | exact k1 | exact k0 | go_keep | fail) (first | (go_at_call 73; refine hk.mono ?_; rintro e w9 ⟨x, rfl, hD9, hO9⟩; replace hB := hB.only hO9 (by omega); replace hR := hR.only hO9 (by omega); replace hX := hX.only hO9 (by omega); replace hp := hp.only hO9 (by omega); obtain ⟨r0, r1, r2, r3, r4, r5⟩ := res3 hR; have k1 := hB.c3; have k2 := (((hB.off w.heap.size 0 n3 (.slice p.x.A p.x.n p.x.c)).off w.heap.size 1 n3 (.slice p.y.A p.y.n p.y.c)).off w.heap.size 2 n3 (.slice p.z.A p.z.n p.z.c)).c3) | fail)
  have m := Blk.c3 (((hR.set_ 0 (.slice p.x.A p.x.n p.x.c)).set_ 1 (.slice p.y.A p.y.n p.y.c)).set_ 2 (.slice p.z.A p.z.n p.z.c))
  have hpn := ((hp.awayP (g := w.heap.size) (by omega) 0 (.slice p.x.A p.x.n p.x.c)).awayP (g := w.heap.size) (by omega) 1 (.slice p.y.A p.y.n p.y.c)).awayP (g := w.heap.size) (by omega) 2 (.slice p.z.A p.z.n p.z.c)
  have hXn := ((hX.off w.heap.size 0 (by omega) (.slice p.x.A p.x.n p.x.c)).off w.heap.size 1 (by omega) (.slice p.y.A p.y.n p.y.c)).off w.heap.size 2 (by omega) (.slice p.z.A p.z.n p.z.c)
  clear k0 k1 k2 hB
  go_wp2_with fail
  refine bodyPost_ret (v := .tuple #[.agg #[.slice p.x.A p.x.n p.x.c, .slice p.y.A p.y.n p.y.c, .slice p.z.A p.z.n p.z.c], .int .i64 x]) (by simp [results, Try.results9, go_sem, m.1, m.2.1, m.2.2]) rfl ⟨p, l, _, rfl, hpn.mono (by omega), hXn⟩
set_option maxRecDepth 20000 in
set_option maxHeartbeats 4000000 in
theorem spec.DrawGoneBefore_any (s : Sl) (w : World) (hc : Code w s) :
    Calls Try.prog 12 #[.slice s.A s.n s.c] w fun e w' => PiP w e w' := by
  have hR := Blk.new w 26 #[.slice none 0 0, .slice none 0 0, .slice none 0 0]
  have hX := (Ext.refl w).alloc (.cells #[.slice none 0 0, .slice none 0 0, .slice none 0 0] 26)
  go_enter Try.func12, Try.ntmps12
  go_wp2_with fail
  refine (spec.l01From_any s w _ hX hc).mono ?_
  rintro e w1 ⟨g, rfl, hg, hD, hx1⟩
  rw [World.size_alloc] at hg
  replace hR := hR.ext hx1
  replace hX := hX.trans hx1
  have hz1 := hR.lt
  have hgl := hD.lt
  clear hx1
  go_wp2_with fail
  refine (spec.l12Draw_any g s w _ hD).mono ?_
  rintro e w2 ⟨p, l, rfl, hp, hb, hD2, hO⟩
  replace hR := hR.only hO (by omega)
  replace hX := hX.only hO (by omega)
  have hz2 := hO.size
  clear hD hO
  have hB := Blk.new w2 26 #[.slice p.x.A p.x.n p.x.c, .slice p.y.A p.y.n p.y.c, .slice p.z.A p.z.n p.z.c]
  replace hp := hp.alloc (.cells #[.slice p.x.A p.x.n p.x.c, .slice p.y.A p.y.n p.y.c, .slice p.z.A p.z.n p.z.c] 26)
  replace hR := hR.alloc (.cells #[.slice p.x.A p.x.n p.x.c, .slice p.y.A p.y.n p.y.c, .slice p.z.A p.z.n p.z.c] 26)
  replace hX := hX.alloc (.cells #[.slice p.x.A p.x.n p.x.c, .slice p.y.A p.y.n p.y.c, .slice p.z.A p.z.n p.z.c] 26)
  replace hD2 := hD2.alloc (.cells #[.slice p.x.A p.x.n p.x.c, .slice p.y.A p.y.n p.y.c, .slice p.z.A p.z.n p.z.c] 26)
  have hzb : w.heap.size < w2.heap.size := by omega
  have n1 : ¬ w.heap.size = w2.heap.size := by omega
  have n2 : ¬ w2.heap.size = w.heap.size := by omega
  have n3 : w2.heap.size ≠ w.heap.size := n2
  have hk3 := fun W h => spec.l01Next_any g s 3 w W h (by omega)
  obtain ⟨k0a, k0b, k0c⟩ := hB.c3
  by_cases hn : 0 < p.z.n
  · obtain ⟨bz, oz, _, hAz, hbz, _, _⟩ := hp.rd.2.2.1.el hn
    obtain ⟨px, py, ⟨Az, nn, cc⟩⟩ := p
    simp only at hAz hn
    subst hAz
    have hn' : (0 : Int) < (nn : Int) := by omega
    go_wp2_with fail
    refine (hk3 _ hD2).mono ?_
    rintro e w4 ⟨x, rfl, ⟨x0, x1⟩, hD4, hO4⟩
    replace hB := hB.only hO4 (by omega)
    replace hR := hR.only hO4 (by omega)
    replace hX := hX.only hO4 (by omega)
    replace hp := hp.only hO4 (by omega)
    clear k0a k0b k0c hD2 hO4 hk3
    obtain ⟨k0a, k0b, k0c⟩ := hB.c3
    by_cases hx : 0 < x
    · clear x0 x1
      have hk := fun W h => spec.l01Next_any g s (nn : Int) w W h (by have := hp.rd.2.2.1.2.1; simp only at this; omega)
      go_wp2_with fail
      refine wp_region_sink (S := (fun w' => w'.cell? ⟨w2.heap.size, 0, none⟩ = some (.slice px.A px.n px.c) ∧ w'.cell? ⟨w2.heap.size, 1, none⟩ = some (.slice py.A py.n py.c) ∧ w'.cell? ⟨w2.heap.size, 2, none⟩ = some (.slice (some ⟨bz, oz, none⟩) nn cc))) 11 (by kernel_rfl) ?_
      change wpAnyT _ _ _ _ _ _ _ _ _ (World.drew _)
      replace hp := hp.drew
      replace hR := hR.drew
      replace hX := hX.drew
      replace hB := hB.drew
      replace hD4 := hD4.drew
      generalize hwd : World.drew _ = wd at hp hR hX hB hD4 ⊢
      clear hwd k0a k0b k0c
      have kk := hB.c3
      refine wpAnyT_takeL (i := 0) 11 (v := ?_) rfl (by kernel_rfl) (by kernel_rfl) (by kernel_rfl) (by kernel_rfl) (by kernel_rfl) (fun _ _ _ h => h) (Or.inl ⟨by rfl, ?_⟩) kk ?_
      rotate_left 1
      · (intro W hSw; (try dsimp only at hSw); go_simp) <;> with_reducible rfl
      try simp only [Act.put, List.setIfInBounds_toArray, List.set_cons_zero, List.set_cons_succ]
      refine wpAnyT_takeL (i := 1) 11 (v := ?_) rfl (by kernel_rfl) (by kernel_rfl) (by kernel_rfl) (by kernel_rfl) (by kernel_rfl) (fun _ _ _ h => h) (Or.inl ⟨by rfl, ?_⟩) kk ?_
      rotate_left 1
      · (intro W hSw; (try dsimp only at hSw); go_simp) <;> with_reducible rfl
      try simp only [Act.put, List.setIfInBounds_toArray, List.set_cons_zero, List.set_cons_succ]
      refine wpAnyT_takeL (i := 2) 11 (v := ?_) rfl (by kernel_rfl) (by kernel_rfl) (by kernel_rfl) (by kernel_rfl) (by kernel_rfl) (fun _ _ _ h => h) (Or.inl ⟨by rfl, ?_⟩) kk ?_
      rotate_left 1
      · (intro W hSw; (try dsimp only at hSw); go_simp) <;> with_reducible rfl
      try simp only [Act.put, List.setIfInBounds_toArray, List.set_cons_zero, List.set_cons_succ]
      refine wpAnyT_takeL (i := 3) 11 (v := ?_) rfl (by kernel_rfl) (by kernel_rfl) (by kernel_rfl) (by kernel_rfl) (by kernel_rfl) (fun _ _ _ h => h) (Or.inl ⟨by rfl, ?_⟩) kk ?_
      rotate_left 1
      · (intro W hSw; (try dsimp only at hSw); go_simp) <;> with_reducible rfl
      try simp only [Act.put, List.setIfInBounds_toArray, List.set_cons_zero, List.set_cons_succ]
      refine wpAnyT_takeL (i := 4) 11 (v := ?_) rfl (by kernel_rfl) (by kernel_rfl) (by kernel_rfl) (by kernel_rfl) (by kernel_rfl) (fun _ _ _ h => h) (Or.inl ⟨by rfl, ?_⟩) kk ?_
      rotate_left 1
      · (intro W hSw; (try dsimp only at hSw); go_simp) <;> with_reducible rfl
      try simp only [Act.put, List.setIfInBounds_toArray, List.set_cons_zero, List.set_cons_succ]
      refine wpAnyT_takeL (i := 5) 11 (v := ?_) rfl (by kernel_rfl) (by kernel_rfl) (by kernel_rfl) (by kernel_rfl) (by kernel_rfl) (fun _ _ _ h => h) (Or.inl ⟨by rfl, ?_⟩) kk ?_
      rotate_left 1
      · (intro W hSw; (try dsimp only at hSw); go_simp) <;> with_reducible rfl
      try simp only [Act.put, List.setIfInBounds_toArray, List.set_cons_zero, List.set_cons_succ]
      refine wpAnyT_takeL (i := 6) 11 (v := ?_) rfl (by kernel_rfl) (by kernel_rfl) (by kernel_rfl) (by kernel_rfl) (by kernel_rfl) (fun _ _ _ h => h) (Or.inl ⟨by rfl, ?_⟩) kk ?_
      rotate_left 1
      · (intro W hSw; (try dsimp only at hSw); go_simp) <;> with_reducible rfl
      try simp only [Act.put, List.setIfInBounds_toArray, List.set_cons_zero, List.set_cons_succ]
      clear kk
      refine wpAnyT_go (i := 7) rfl (by kernel_rfl) fun K hK => ?_
      go_simp
      refine (hk _ hD4).mono ?_
      rintro e w9 ⟨x, rfl, ⟨x0, x1⟩, hD9, hO9⟩
      replace hB := hB.only hO9 (by omega)
      replace hR := hR.only hO9 (by omega)
      replace hX := hX.only hO9 (by omega)
      replace hp := hp.only hO9 (by omega)
      obtain ⟨q, rfl⟩ := Int.eq_ofNat_of_zero_le x0
      have hqn : q < nn := by omega
      have hqI : (q : Int) < (nn : Int) := by omega
      have hq0 : (0 : Int) ≤ (q : Int) := by omega
      obtain ⟨b5, o5, v5, hA5, hb5, hc5, hv5⟩ := hp.rd.2.2.1.el hqn
      injection hA5 with hA5
      injection hA5 with hA5 hA6
      subst hA5 hA6
      clear x0 x1
      go_simp
      refine hK _ _ ⟨fun _ => hB.c3, ?_⟩
      clear hK K
      have kk := hB.c3
      refine wpAnyT_takeL (i := 8) 11 (v := ?_) rfl (by kernel_rfl) (by kernel_rfl) (by kernel_rfl) (by kernel_rfl) (by kernel_rfl) (fun _ _ _ h => h) (Or.inl ⟨by rfl, ?_⟩) kk ?_
      rotate_left 1
      · (intro W hSw; (try dsimp only at hSw); go_simp) <;> with_reducible rfl
      try simp only [Act.put, List.setIfInBounds_toArray, List.set_cons_zero, List.set_cons_succ]
      clear kk
      have hbz : w.heap.size < bz := by have := hp.2.2.1.blkD; omega
      have n5 : ¬ w.heap.size = bz := by omega
      have n6 : ¬ bz = w.heap.size := by omega
      obtain ⟨r0, r1, r2, r3, r4, r5⟩ := res3 hR
      have k1 := hB.c3
      have k2 := (((hB.off w.heap.size 0 n3 (.slice px.A px.n px.c)).off w.heap.size 1 n3 (.slice py.A py.n py.c)).off w.heap.size 2 n3 (.slice (some ⟨bz, oz, none⟩) nn cc)).c3
      refine wpAnyT_go2 (i := 9) (j := 10) rfl rfl (by kernel_rfl) (fun K hK => ?_) (fun K hK => ?_)
      · go_simp
        refine hK _ _ ⟨fun _ => hB.c3, ?_⟩
        clear hK K
        refine wpAnyT_go (i := 10) rfl (by kernel_rfl) fun K hK => ?_
        go_simp
        refine hK _ _ ⟨fun _ => k2, ?_⟩
        clear hK K
        refine wpAnyT_go (i := 11) rfl (by kernel_rfl) fun K hK => ?_
        go_simp
        refine hK _ _ ⟨fun h => absurd rfl h, ?_⟩
        clear hK K
        refine wpAnyT_done (by kernel_rfl) ?_ _
        have m := Blk.c3 (((hR.set_ 0 (.slice px.A px.n px.c)).set_ 1 (.slice py.A py.n py.c)).set_ 2 (.slice (some ⟨bz, oz, none⟩) nn cc))
        have hpn := ((hp.awayP (g := w.heap.size) (by omega) 0 (.slice px.A px.n px.c)).awayP (g := w.heap.size) (by omega) 1 (.slice py.A py.n py.c)).awayP (g := w.heap.size) (by omega) 2 (.slice (some ⟨bz, oz, none⟩) nn cc)
        have hXn := ((hX.off w.heap.size 0 (by omega) (.slice px.A px.n px.c)).off w.heap.size 1 (by omega) (.slice py.A py.n py.c)).off w.heap.size 2 (by omega) (.slice (some ⟨bz, oz, none⟩) nn cc)
        clear k1 k2 hB
        go_wp2_with fail
        refine bodyPost_ret (v := .tuple #[.agg #[.slice px.A px.n px.c, .slice py.A py.n py.c, .slice (some ⟨bz, oz, none⟩) nn cc], .int .i64 v5]) (by simp [results, Try.results12, go_sem, m.1, m.2.1, m.2.2]) rfl ⟨⟨px, py, ⟨some ⟨bz, oz, none⟩, nn, cc⟩⟩, l, _, rfl, hpn.mono (by omega), hXn⟩
      · go_simp
        refine hK _ _ ⟨fun _ => k2, ?_⟩
        clear hK K
        refine wpAnyT_go (i := 9) rfl (by kernel_rfl) fun K hK => ?_
        go_simp
        refine hK _ _ ⟨fun _ => k2, ?_⟩
        clear hK K
        refine wpAnyT_go (i := 11) rfl (by kernel_rfl) fun K hK => ?_
        go_simp
        refine hK _ _ ⟨fun h => absurd rfl h, ?_⟩
        clear hK K
        refine wpAnyT_done (by kernel_rfl) ?_ _
        have m := Blk.c3 (((hR.set_ 0 (.slice px.A px.n px.c)).set_ 1 (.slice py.A py.n py.c)).set_ 2 (.slice (some ⟨bz, oz, none⟩) nn cc))
        have hpn := ((hp.awayP (g := w.heap.size) (by omega) 0 (.slice px.A px.n px.c)).awayP (g := w.heap.size) (by omega) 1 (.slice py.A py.n py.c)).awayP (g := w.heap.size) (by omega) 2 (.slice (some ⟨bz, oz, none⟩) nn cc)
        have hXn := ((hX.off w.heap.size 0 (by omega) (.slice px.A px.n px.c)).off w.heap.size 1 (by omega) (.slice py.A py.n py.c)).off w.heap.size 2 (by omega) (.slice (some ⟨bz, oz, none⟩) nn cc)
        clear k1 k2 hB
        go_wp2_with fail
        refine bodyPost_ret (v := .tuple #[.agg #[.slice px.A px.n px.c, .slice py.A py.n py.c, .slice (some ⟨bz, oz, none⟩) nn cc], .int .i64 v5]) (by simp [results, Try.results12, go_sem, m.1, m.2.1, m.2.2]) rfl ⟨⟨px, py, ⟨some ⟨bz, oz, none⟩, nn, cc⟩⟩, l, _, rfl, hpn.mono (by omega), hXn⟩
    · have hx' : ¬ (0 : Int) < x := hx
      replace hp := hp.drew
      replace hR := hR.drew
      replace hX := hX.drew
      replace hB := hB.drew
      replace hD4 := hD4.drew
      have hk := spec.l12Number_any g s ⟨px, py, ⟨some ⟨bz, oz, none⟩, nn, cc⟩⟩ l w _ hD4 hp.rd (by omega)
      have k0 := hB.c3
      go_wp2_with fail
      go_region_held3 (fun w' => w'.cell? ⟨w2.heap.size, 0, none⟩ = some (.slice px.A px.n px.c) ∧ w'.cell? ⟨w2.heap.size, 1, none⟩ = some (.slice py.A py.n py.c) ∧ w'.cell? ⟨w2.heap.size, 2, none⟩ = some (.slice (some ⟨bz, oz, none⟩) nn cc)) (first | exact k2 | exact k1 | exact k0 | go_keep | fail) (first | (go_at_call 73; refine hk.mono ?_; rintro e w9 ⟨x, rfl, hD9, hO9⟩; replace hB := hB.only hO9 (by omega); replace hR := hR.only hO9 (by omega); replace hX := hX.only hO9 (by omega); replace hp := hp.only hO9 (by omega); obtain ⟨r0, r1, r2, r3, r4, r5⟩ := res3 hR; have k1 := hB.c3; have k2 := (((hB.off w.heap.size 0 n3 (.slice px.A px.n px.c)).off w.heap.size 1 n3 (.slice py.A py.n py.c)).off w.heap.size 2 n3 (.slice (some ⟨bz, oz, none⟩) nn cc)).c3) | fail)
      have m := Blk.c3 (((hR.set_ 0 (.slice px.A px.n px.c)).set_ 1 (.slice py.A py.n py.c)).set_ 2 (.slice (some ⟨bz, oz, none⟩) nn cc))
      have hpn := ((hp.awayP (g := w.heap.size) (by omega) 0 (.slice px.A px.n px.c)).awayP (g := w.heap.size) (by omega) 1 (.slice py.A py.n py.c)).awayP (g := w.heap.size) (by omega) 2 (.slice (some ⟨bz, oz, none⟩) nn cc)
      have hXn := ((hX.off w.heap.size 0 (by omega) (.slice px.A px.n px.c)).off w.heap.size 1 (by omega) (.slice py.A py.n py.c)).off w.heap.size 2 (by omega) (.slice (some ⟨bz, oz, none⟩) nn cc)
      clear k0 k1 k2 hB
      go_wp2_with fail
      refine bodyPost_ret (v := .tuple #[.agg #[.slice px.A px.n px.c, .slice py.A py.n py.c, .slice (some ⟨bz, oz, none⟩) nn cc], .int .i64 x]) (by simp [results, Try.results12, go_sem, m.1, m.2.1, m.2.2]) rfl ⟨⟨px, py, ⟨some ⟨bz, oz, none⟩, nn, cc⟩⟩, l, _, rfl, hpn.mono (by omega), hXn⟩
  · have hn' : ¬ (0 : Int) < (p.z.n : Int) := by omega
    replace hp := hp.drew
    replace hR := hR.drew
    replace hX := hX.drew
    replace hB := hB.drew
    replace hD2 := hD2.drew
    have hk := spec.l12Number_any g s p l w _ hD2 hp.rd (by omega)
    have k0 := hB.c3
    go_wp2_with fail
    go_region_held3 (fun w' => w'.cell? ⟨w2.heap.size, 0, none⟩ = some (.slice p.x.A p.x.n p.x.c) ∧ w'.cell? ⟨w2.heap.size, 1, none⟩ = some (.slice p.y.A p.y.n p.y.c) ∧ w'.cell? ⟨w2.heap.size, 2, none⟩ = some (.slice p.z.A p.z.n p.z.c)) (first | exact k2 | exact k1 | exact k0 | go_keep | fail) (first | (go_at_call 73; refine hk.mono ?_; rintro e w9 ⟨x, rfl, hD9, hO9⟩; replace hB := hB.only hO9 (by omega); replace hR := hR.only hO9 (by omega); replace hX := hX.only hO9 (by omega); replace hp := hp.only hO9 (by omega); obtain ⟨r0, r1, r2, r3, r4, r5⟩ := res3 hR; have k1 := hB.c3; have k2 := (((hB.off w.heap.size 0 n3 (.slice p.x.A p.x.n p.x.c)).off w.heap.size 1 n3 (.slice p.y.A p.y.n p.y.c)).off w.heap.size 2 n3 (.slice p.z.A p.z.n p.z.c)).c3) | fail)
    have m := Blk.c3 (((hR.set_ 0 (.slice p.x.A p.x.n p.x.c)).set_ 1 (.slice p.y.A p.y.n p.y.c)).set_ 2 (.slice p.z.A p.z.n p.z.c))
    have hpn := ((hp.awayP (g := w.heap.size) (by omega) 0 (.slice p.x.A p.x.n p.x.c)).awayP (g := w.heap.size) (by omega) 1 (.slice p.y.A p.y.n p.y.c)).awayP (g := w.heap.size) (by omega) 2 (.slice p.z.A p.z.n p.z.c)
    have hXn := ((hX.off w.heap.size 0 (by omega) (.slice p.x.A p.x.n p.x.c)).off w.heap.size 1 (by omega) (.slice p.y.A p.y.n p.y.c)).off w.heap.size 2 (by omega) (.slice p.z.A p.z.n p.z.c)
    clear k0 k1 k2 hB
    go_wp2_with fail
    refine bodyPost_ret (v := .tuple #[.agg #[.slice p.x.A p.x.n p.x.c, .slice p.y.A p.y.n p.y.c, .slice p.z.A p.z.n p.z.c], .int .i64 x]) (by simp [results, Try.results12, go_sem, m.1, m.2.1, m.2.2]) rfl ⟨p, l, _, rfl, hpn.mono (by omega), hXn⟩
end Go.Proofs.Ytjedembbcmeoeaa.mem
