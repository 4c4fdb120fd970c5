/-
  The contract of the reference's SeatHistory.
-/
import Derived.Test.YtkfjphjmffbpiaaSh
namespace Go.Proofs.Ytkfjphjmffbpiaa.mem
open Go.ChangeShapes Go.WideShapes Go.ChangeAt Go.RowKit

theorem Own3.aw2 {w : World} {lo g : Nat} {p : S3} {l : L3} (h : Own3 w lo p l) (hg : ∀ k, blks p k → k ≠ g) (i : Nat) (u : Value) : Own3 (w.setCell ⟨g, i, none⟩ u) lo p l :=
  ⟨h.1.away (fun e => hg g (.inl e) rfl) i u, h.2.1.away (fun e => hg g (.inr (.inl e)) rfl) i u, h.2.2.1.away (fun e => hg g (.inr (.inr e)) rfl) i u, h.2.2.2⟩
/-- what a leaving, its jury in a block of its own, has brought -/
def LvQ (wr : World) (l1 : L3) (m : Int) (s11 s12 : Value) (wx : World) : Prop :=
  ∃ (g : Nat) (t : S3), s11 = .pointer (some ⟨g, 0, none⟩) ∧ s12 = .int .i64 (lvC l1 m) ∧ Blk wx g 26 #[.slice t.x.A t.x.n t.x.c, .slice t.y.A t.y.n t.y.c, .slice t.z.A t.z.n t.z.c] ∧ (lvC l1 m = 0 → Own3 wx wr.heap.size t (lvV l1 m)) ∧ Ext wr wx
set_option maxRecDepth 20000 in
set_option maxHeartbeats 2500000 in
theorem spec.SeatHistory_any (p : S3) (l : L3) (s1 : Sl) (ms : List Int) (s : Int) (w : World) (hr : Rd3 w p l) (hm : Rd w s1.A s1.n ms) (hsz : s1.n ≤ 1048576) :
    Calls Try.prog 10 #[.agg #[.slice p.x.A p.x.n p.x.c, .slice p.y.A p.y.n p.y.c, .slice p.z.A p.z.n p.z.c], .slice s1.A s1.n s1.c, .int .i64 s] w fun e w' => ∃ t : Sl, e = .returned (.tuple #[.slice t.A t.n t.c, .int .i64 (shR l ms s).2]) ∧ Own w' w.heap.size (.slice t.A t.n t.c) (shR l ms s).1 ∧ Ext w w' := by
  obtain ⟨M1, m1, d1⟩ := s1
  simp only at hm hsz ⊢
  have hml := hide hm.1
  have hX0 := (Ext.refl w).alloc (.cells #[.slice p.x.A p.x.n p.x.c, .slice p.y.A p.y.n p.y.c, .slice p.z.A p.z.n p.z.c] 26)
  have hB0 := Blk.new w 26 (#[.slice p.x.A p.x.n p.x.c, .slice p.y.A p.y.n p.y.c, .slice p.z.A p.z.n p.z.c])
  obtain ⟨q0, q1, q2⟩ := hB0.c3
  go_enter Try.func10, Try.ntmps10
  go_wp2_with fail
  refine (spec.IsJury_any p l _ (hr.ext hX0)).mono ?_
  rintro e w1 ⟨rfl, hx1⟩
  have hX1 := hX0.trans hx1
  have hB1 := hB0.ext hx1
  clear q0 q1 q2
  obtain ⟨q0, q1, q2⟩ := hB1.c3
  cases hok : okJ l
  · have E2 := hide (show shR l ms s = ([], 1) by unfold shR; rw [hok]; rfl)
    go_wp2
    go_ret2
    exact ⟨⟨none, 0, 0⟩, by rw [E2.out]; rfl, by rw [E2.out]; exact Own.nil_ _ _, hX1⟩
  have hlx := hide hr.1.1
  have hn1 := hr.1.le
  have hat := fun W : World => spec.l01In_any s 0 ((p.x.n : Int) - 1) W
  have hwn : IntKind.i64.wrap ((p.x.n : Int) - 1) = (p.x.n : Int) - 1 := Go.IntWalk.i64_in _ (by omega)
  cases hin : inB s 0 ((p.x.n : Int) - 1)
  · rw [hin] at hat
    have E2 := hide (show shR l ms s = ([], 2) by unfold shR; rw [hok, ← hlx.out, hin]; rfl)
    go_wp2_with (go_at_call 70; refine (hat _).mono ?_; rintro e w' ⟨rfl, rfl⟩)
    go_ret2
    exact ⟨⟨none, 0, 0⟩, by rw [E2.out]; rfl, by rw [E2.out]; exact Own.nil_ _ _, hX1⟩
  rw [hin] at hat
  obtain ⟨hs1, hs2⟩ := inB_iff.1 hin
  obtain ⟨k, rfl⟩ : ∃ k : Nat, s = (k : Int) := ⟨s.toNat, by omega⟩
  obtain ⟨⟨A1, n1, c1⟩, p2, p3⟩ := p
  simp only at hs2 hlx hn1 hin hat hB1 hwn q0 q1 q2
  have hkn : k < n1 := by omega
  have hk0 : (0 : Int) ≤ (k : Int) := by omega
  have hk1 : (k : Int) < (n1 : Int) := by omega
  have E2 := hide (show shR l ms k = shG k l [l.x.getD k 0] (ms.drop 0) by unfold shR; rw [hok, ← hlx.out, hin]; rfl)
  obtain ⟨bk, offk, yk, hA1, hbk, hck, hyk⟩ := hr.1.el hkn
  simp only at hA1
  subst hA1
  have hck1 := (hX1.cell (p := ⟨bk, offk + k, none⟩) hbk).trans hck
  have hyk2 := hide (show l.x.getD k 0 = yk by rw [List.getD_eq_getElem?_getD, hyk.out]; rfl)
  have hX2 := hX1.alloc (.cells #[.int .i64 yk] 2)
  have hB2 := hB1.alloc (.cells #[.int .i64 yk] 2)
  have hz1 := hB1.lt
  have ho2 : Own (w1.alloc (.cells #[.int .i64 yk] 2)) (w.heap.size + 1) (.slice (some ⟨w1.heap.size, 0, none⟩) 1 1) [yk] := Own.of_blk (Blk.new w1 2 #[.int .i64 yk]) (by omega) 1 1 rfl (Nat.le_refl _) (by simp [maxLen]) rfl (by omega) rfl
  have hs0 : StJ w.heap.size ⟨some ⟨w1.heap.size, 0, none⟩, 1, 1⟩ ⟨⟨some ⟨bk, offk, none⟩, n1, c1⟩, p2, p3⟩ l (w1.alloc (.cells #[.int .i64 yk] 2)) := fun w' hf => hr.ext (Ext.fr_trans hX2 hf (fun j hj => by rcases hj with hj | hj; omega; (have := ownBlock_eq hj; omega)))
  go_wp2_with (go_at_call 70; refine (hat _).mono ?_; rintro e w' ⟨rfl, rfl⟩)
  go_loopw [8, 9, 10, 11, 12] (fun h i _ _ _ wr => ∃ (j : Nat) (v : Sl) (t : S3) (l1 : L3) (o : List Int), j ≤ m1 ∧ i = .int .i64 j ∧ h = .slice v.A v.n v.c ∧ Hid (shR l ms k = shG k l1 o (ms.drop j)) ∧ Hid (l1.x.length = n1) ∧ Hid (0 < o.length ∧ o.length ≤ j + 1) ∧ Own wr (w.heap.size + 1) (.slice v.A v.n v.c) o ∧ StJ w.heap.size v t l1 wr ∧ Blk wr w.heap.size 26 #[.slice t.x.A t.x.n t.x.c, .slice t.y.A t.y.n t.y.c, .slice t.z.A t.z.n t.z.c] ∧ Ext w wr) (fun _ i _ _ _ _ => m1 - (intOf i).toNat)
  case atStart => exact ⟨0, ⟨some ⟨w1.heap.size, 0, none⟩, 1, 1⟩, _, l, [yk], by omega, rfl, rfl, by rw [hyk2.out] at E2; exact E2, hlx.out.symm, ⟨by simp, by simp⟩, ho2, hs0, hB2, hX2⟩
  case round =>
    clear ho2 hs0 hB2 hX2 hB1 hX1 hX0 hB0 q0 q1 q2 hck1 hck hat hx1 hin hwn
    obtain ⟨j, v, t, l1, o, hj, rfl, rfl, hG, hxl, hol, ho, hs, hB, hX⟩ := hrel
    obtain ⟨q0, q1, q2⟩ := hB.c3
    by_cases hlt : j < m1
    · obtain ⟨bm, offm, m, rfl, hbm, hcm, hmm⟩ := hm.el hlt
      have hcm1 := (hX.cell (p := ⟨bm, offm + j, none⟩) hbm).trans hcm
      have hj0 : (0 : Int) ≤ (j : Int) := by omega
      have hjn : (j : Int) < (m1 : Int) := by omega
      have hwj : IntKind.i64.wrap ((j : Int) + 1) = (j : Int) + 1 := Go.IntWalk.i64_in _ (by omega)
      obtain ⟨cc, hcc'⟩ : ∃ cc, Hid (cc = codeC (okJ l1) (inB m 1 1000000)) := ⟨_, rfl⟩
      go_upto_region 35 with fail
      have hW0 := (Ext.refl wr).drew
      have hBd := hB.drew
      have hlwr := hB.lt
      have hbr : bm < wr.heap.size := by omega
      refine wp_region_sink (S := fun w' => (w'.cell? ⟨w.heap.size, 0, none⟩ = some (.slice t.x.A t.x.n t.x.c) ∧ w'.cell? ⟨w.heap.size, 1, none⟩ = some (.slice t.y.A t.y.n t.y.c) ∧ w'.cell? ⟨w.heap.size, 2, none⟩ = some (.slice t.z.A t.z.n t.z.c)) ∧ w'.cell? ⟨bm, offm + j, none⟩ = some (.int .i64 m)) 6 (by kernel_rfl) ?_
      change wpAnyT _ _ _ _ _ _ _ _ _ (World.drew _)
      generalize hwd : World.drew _ = wd at hW0 hBd ⊢
      clear hwd
      have kk := And.intro hBd.c3 ((hW0.cell (p := ⟨bm, offm + j, none⟩) hbr).trans hcm1)
      refine wpAnyT_takeL (i := 0) 7 (v := ?_) rfl (by kernel_rfl) (by kernel_rfl) (by kernel_rfl) (by kernel_rfl) (by kernel_rfl) (fun _ _ _ h => h) (Or.inl ⟨by rfl, ?_⟩) kk ?_
      rotate_left 1
      · (intro W hSw; (try dsimp only at hSw); go_simp) <;> with_reducible rfl
      try simp only [Act.put, List.setIfInBounds_toArray, List.set_cons_zero, List.set_cons_succ]
      refine wpAnyT_takeL (i := 1) 7 (v := ?_) rfl (by kernel_rfl) (by kernel_rfl) (by kernel_rfl) (by kernel_rfl) (by kernel_rfl) (fun _ _ _ h => h) (Or.inl ⟨by rfl, ?_⟩) kk ?_
      rotate_left 1
      · (intro W hSw; (try dsimp only at hSw); go_simp) <;> with_reducible rfl
      try simp only [Act.put, List.setIfInBounds_toArray, List.set_cons_zero, List.set_cons_succ]
      refine wpAnyT_takeL (i := 2) 7 (v := ?_) rfl (by kernel_rfl) (by kernel_rfl) (by kernel_rfl) (by kernel_rfl) (by kernel_rfl) (fun _ _ _ h => h) (Or.inl ⟨by rfl, ?_⟩) kk ?_
      rotate_left 1
      · (intro W hSw; (try dsimp only at hSw); go_simp) <;> with_reducible rfl
      try simp only [Act.put, List.setIfInBounds_toArray, List.set_cons_zero, List.set_cons_succ]
      refine wpAnyT_takeL (i := 3) 7 (v := ?_) rfl (by kernel_rfl) (by kernel_rfl) (by kernel_rfl) (by kernel_rfl) (by kernel_rfl) (fun _ _ _ h => h) (Or.inl ⟨by rfl, ?_⟩) kk ?_
      rotate_left 1
      · (intro W hSw; (try dsimp only at hSw); go_simp) <;> with_reducible rfl
      try simp only [Act.put, List.setIfInBounds_toArray, List.set_cons_zero, List.set_cons_succ]
      refine wpAnyT_takeL (i := 4) 7 (v := ?_) rfl (by kernel_rfl) (by kernel_rfl) (by kernel_rfl) (by kernel_rfl) (by kernel_rfl) (fun _ _ _ h => h) (Or.inl ⟨by rfl, ?_⟩) kk ?_
      rotate_left 1
      · (intro W hSw; (try dsimp only at hSw); go_simp) <;> with_reducible rfl
      try simp only [Act.put, List.setIfInBounds_toArray, List.set_cons_zero, List.set_cons_succ]
      refine wpAnyT_go (i := 5) rfl (by kernel_rfl) fun K hK => ?_
      go_simp
      go_at_call 71
      refine (spec.l15Code_any t l1 m _ (hs.rd.ext hW0)).mono ?_
      rintro e w2 ⟨rfl, hx2⟩
      rw [← hcc'.out]
      go_simp
      have hE := hW0.trans hx2
      have hB2 := hB.ext hE
      have hX2 := hX.trans hE
      have ho2 := ho.ext hE
      have hs2 := hs.ext hE
      have hcm2 := (hX2.cell (p := ⟨bm, offm + j, none⟩) hbm).trans hcm
      refine hK _ _ ⟨fun _ => And.intro hB2.c3 hcm2, ?_⟩
      clear hK K kk
      refine wpAnyT_go (i := 6) rfl (by kernel_rfl) fun K hK => ?_
      go_simp
      refine hK _ _ ⟨fun h => absurd rfl h, ?_⟩
      clear hK K
      refine wpAnyT_done (by kernel_rfl) ?_ _
      have hzr := hE.size
      have hcc := hcc'.out
      clear hcc'
      clear q0 q1 q2 hcm1 hcm hBd hW0 hx2 hE hB hs ho hX
      by_cases hc0 : cc = 0
      case neg =>
        have hcb : (cc == 0) = false := by simpa using hc0
        have hcb2 : (cc != 0) = true := by simpa using hc0
        have hjc : ljC l1 m = cc := by
          rw [hcc] at hc0 ⊢
          unfold ljC codeC at *
          cases h1 : okJ l1
          · rfl
          · cases h2 : inB m 1 1000000
            · rfl
            · rw [h1, h2] at hc0; exact absurd rfl hc0
        have hG3 := hide (show shR l ms k = ([], cc) by rw [← hjc]; exact shG_stop hG.out hmm.out (by rw [hjc]; exact hc0))
        clear hjc hcc hc0
        go_wp2_with fail
        go_ret2
        exact ⟨⟨none, 0, 0⟩, by rw [hG3.out]; rfl, by rw [hG3.out]; exact Own.nil_ _ _, hX2⟩
      have hokj : okJ l1 = true := by
        cases h1 : okJ l1
        · rw [h1] at hcc; rw [hc0] at hcc; cases hcc
        · rfl
      have hinm : inB m 1 1000000 = true := by
        cases h1 : inB m 1 1000000
        · rw [h1, hokj] at hcc; rw [hc0] at hcc; cases hcc
        · rfl
      have hm1' : 1 ≤ m := (inB_iff.1 hinm).1
      have hjc := hide (show ljC l1 m = lvC l1 m by unfold ljC; rw [hokj, hinm]; rfl)
      subst hc0
      clear hcc hinm
      go_upto_region 44 with fail
      go_cut [11, 12] (fun s11 s12 wx => LvQ w2 l1 m s11 s12 wx)
      case first =>
        have hW := (Ext.refl w2).drew
        have hBd := hB2.drew
        have hlw2 := hB2.lt
        have hbm2 : bm < w2.heap.size := by omega
        refine wp_region_sink (S := fun w' => (w'.cell? ⟨w.heap.size, 0, none⟩ = some (.slice t.x.A t.x.n t.x.c) ∧ w'.cell? ⟨w.heap.size, 1, none⟩ = some (.slice t.y.A t.y.n t.y.c) ∧ w'.cell? ⟨w.heap.size, 2, none⟩ = some (.slice t.z.A t.z.n t.z.c)) ∧ w'.cell? ⟨bm, offm + j, none⟩ = some (.int .i64 m)) 11 (by kernel_rfl) ?_
        change wpAnyT _ _ _ _ _ _ _ _ _ (World.drew _)
        generalize hwd : World.drew _ = wd at hW hBd ⊢
        clear hwd
        have kk := And.intro hBd.c3 ((hW.cell (p := ⟨bm, offm + j, none⟩) hbm2).trans hcm2)
        refine wpAnyT_takeL (i := 0) 7 (v := ?_) rfl (by kernel_rfl) (by kernel_rfl) (by kernel_rfl) (by kernel_rfl) (by kernel_rfl) (fun _ _ _ h => h) (Or.inl ⟨by rfl, ?_⟩) kk ?_
        rotate_left 1
        · (intro W hSw; (try dsimp only at hSw); go_simp) <;> with_reducible rfl
        try simp only [Act.put, List.setIfInBounds_toArray, List.set_cons_zero, List.set_cons_succ]
        refine wpAnyT_takeL (i := 1) 7 (v := ?_) rfl (by kernel_rfl) (by kernel_rfl) (by kernel_rfl) (by kernel_rfl) (by kernel_rfl) (fun _ _ _ h => h) (Or.inl ⟨by rfl, ?_⟩) kk ?_
        rotate_left 1
        · (intro W hSw; (try dsimp only at hSw); go_simp) <;> with_reducible rfl
        try simp only [Act.put, List.setIfInBounds_toArray, List.set_cons_zero, List.set_cons_succ]
        refine wpAnyT_takeL (i := 2) 7 (v := ?_) rfl (by kernel_rfl) (by kernel_rfl) (by kernel_rfl) (by kernel_rfl) (by kernel_rfl) (fun _ _ _ h => h) (Or.inl ⟨by rfl, ?_⟩) kk ?_
        rotate_left 1
        · (intro W hSw; (try dsimp only at hSw); go_simp) <;> with_reducible rfl
        try simp only [Act.put, List.setIfInBounds_toArray, List.set_cons_zero, List.set_cons_succ]
        refine wpAnyT_takeL (i := 3) 7 (v := ?_) rfl (by kernel_rfl) (by kernel_rfl) (by kernel_rfl) (by kernel_rfl) (by kernel_rfl) (fun _ _ _ h => h) (Or.inl ⟨by rfl, ?_⟩) kk ?_
        rotate_left 1
        · (intro W hSw; (try dsimp only at hSw); go_simp) <;> with_reducible rfl
        try simp only [Act.put, List.setIfInBounds_toArray, List.set_cons_zero, List.set_cons_succ]
        refine wpAnyT_takeL (i := 4) 7 (v := ?_) rfl (by kernel_rfl) (by kernel_rfl) (by kernel_rfl) (by kernel_rfl) (by kernel_rfl) (fun _ _ _ h => h) (Or.inl ⟨by rfl, ?_⟩) kk ?_
        rotate_left 1
        · (intro W hSw; (try dsimp only at hSw); go_simp) <;> with_reducible rfl
        try simp only [Act.put, List.setIfInBounds_toArray, List.set_cons_zero, List.set_cons_succ]
        refine wpAnyT_go2 (i := 5) (j := 9) rfl rfl (by kernel_rfl) (fun K hK => ?_) (fun K hK => ?_)
        · skip
          go_simp
          go_at_call 72
          refine (spec.l15Leave_any t l1 m _ (hs2.rd.ext hW) hokj hm1').mono ?_
          rintro e w4 ⟨tr, rfl, oR, hx⟩
          go_simp
          have hlo : w2.heap.size ≤ wd.heap.size := hW.size
          replace hBd := hBd.ext hx
          replace hW := hW.trans hx
          have kk5 := And.intro hBd.c3 ((hW.cell (p := ⟨bm, offm + j, none⟩) hbm2).trans hcm2)
          refine hK _ _ ⟨fun _ => kk5, ?_⟩
          clear hK K hx
          refine wpAnyT_takeL (i := 6) 7 (v := ?_) rfl (by kernel_rfl) (by kernel_rfl) (by kernel_rfl) (by kernel_rfl) (by kernel_rfl) (fun _ _ _ h => h) (Or.inl ⟨by rfl, ?_⟩) kk5 ?_
          rotate_left 1
          · (intro W hSw; (try dsimp only at hSw); go_simp) <;> with_reducible rfl
          try simp only [Act.put, List.setIfInBounds_toArray, List.set_cons_zero, List.set_cons_succ]
          refine wpAnyT_takeL (i := 7) 7 (v := ?_) rfl (by kernel_rfl) (by kernel_rfl) (by kernel_rfl) (by kernel_rfl) (by kernel_rfl) (fun _ _ _ h => h) (Or.inl ⟨by rfl, ?_⟩) kk5 ?_
          rotate_left 1
          · (intro W hSw; (try dsimp only at hSw); go_simp) <;> with_reducible rfl
          try simp only [Act.put, List.setIfInBounds_toArray, List.set_cons_zero, List.set_cons_succ]
          refine wpAnyT_takeL (i := 8) 7 (v := ?_) rfl (by kernel_rfl) (by kernel_rfl) (by kernel_rfl) (by kernel_rfl) (by kernel_rfl) (fun _ _ _ h => h) (Or.inl ⟨by rfl, ?_⟩) kk5 ?_
          rotate_left 1
          · (intro W hSw; (try dsimp only at hSw); go_simp) <;> with_reducible rfl
          try simp only [Act.put, List.setIfInBounds_toArray, List.set_cons_zero, List.set_cons_succ]
          refine wpAnyT_go (i := 9) rfl (by kernel_rfl) fun K hK => ?_
          go_simp
          have hx := (Ext.refl w4).alloc (.cells #[.slice none 0 0, .slice none 0 0, .slice none 0 0] 26)
          have BP := Blk.new w4 26 (#[.slice none 0 0, .slice none 0 0, .slice none 0 0])
          obtain ⟨bP, hb⟩ : ∃ b, b = w4.heap.size := ⟨_, rfl⟩
          have hne : lvC l1 m = 0 → ∀ k, blks tr k → k ≠ bP := fun h0 k hk e => by have := ((oR h0).lt hk).2; omega
          have oR := fun h0 => (oR h0).ext hx
          generalize hw : World.alloc w4 (.cells #[.slice none 0 0, .slice none 0 0, .slice none 0 0] 26) = w5 at hx BP oR ⊢
          rw [← hb] at BP ⊢
          have hbw : w2.heap.size ≤ bP := by have := hW.size; omega
          have hbo : w.heap.size ≠ bP := by omega
          replace hBd := hBd.ext hx
          replace hW := hW.trans hx
          refine hK _ _ ⟨fun _ => And.intro hBd.c3 ((hW.cell (p := ⟨bm, offm + j, none⟩) hbm2).trans hcm2), ?_⟩
          clear hK K kk5 hx hb hw
          refine wpAnyT_go (i := 10) rfl (by kernel_rfl) fun K hK => ?_
          obtain ⟨f0, f1, f2, f3, f4, f5⟩ := res3 BP
          go_simp
          refine hK _ _ ⟨fun _ => And.intro (((hBd.off bP 0 hbo _).off bP 1 hbo _).off bP 2 hbo _).c3 (((((hW.off bP 0 hbw _).off bP 1 hbw _).off bP 2 hbw _).cell (p := ⟨bm, offm + j, none⟩) hbm2).trans hcm2), ?_⟩
          clear hK K
          refine wpAnyT_go (i := 11) rfl (by kernel_rfl) fun K hK => ?_
          go_simp
          refine hK _ _ ⟨fun h => absurd rfl h, ?_⟩
          clear hK K
          refine wpAnyT_done (by kernel_rfl) ?_ _
          go_wp2_with fail
          go_meet
          exact ⟨bP, tr, rfl, rfl, ((BP.set_ 0 _).set_ 1 _).set_ 2 _, fun h0 => Own3.mono (((Own3.aw2 (oR h0) (hne h0) 0 _).aw2 (hne h0) 1 _).aw2 (hne h0) 2 _) hlo, ((hW.off bP 0 hbw _).off bP 1 hbw _).off bP 2 hbw _⟩
        · skip
          go_simp
          have hx := (Ext.refl wd).alloc (.cells #[.slice none 0 0, .slice none 0 0, .slice none 0 0] 26)
          have BP := Blk.new wd 26 (#[.slice none 0 0, .slice none 0 0, .slice none 0 0])
          obtain ⟨bP, hb⟩ : ∃ b, b = wd.heap.size := ⟨_, rfl⟩
          generalize hw : World.alloc wd (.cells #[.slice none 0 0, .slice none 0 0, .slice none 0 0] 26) = w4 at hx BP ⊢
          rw [← hb] at BP ⊢
          have hbw : w2.heap.size ≤ bP := by have := hW.size; omega
          have hbo : w.heap.size ≠ bP := by omega
          have hlo : w2.heap.size ≤ w4.heap.size := by have := hW.size; have := hx.size; omega
          have hbl := BP.lt
          replace hBd := hBd.ext hx
          replace hW := hW.trans hx
          refine hK _ _ ⟨fun _ => And.intro hBd.c3 ((hW.cell (p := ⟨bm, offm + j, none⟩) hbm2).trans hcm2), ?_⟩
          clear hK K hx hb hw
          refine wpAnyT_go (i := 5) rfl (by kernel_rfl) fun K hK => ?_
          go_simp
          go_at_call 72
          refine (spec.l15Leave_any t l1 m _ (hs2.rd.ext hW) hokj hm1').mono ?_
          rintro e w5 ⟨tr, rfl, oR, hx⟩
          go_simp
          have hne : lvC l1 m = 0 → ∀ k, blks tr k → k ≠ bP := fun h0 k hk e => by have := ((oR h0).lt hk).1; omega
          replace BP := BP.ext hx
          replace hBd := hBd.ext hx
          replace hW := hW.trans hx
          have kk5 := And.intro hBd.c3 ((hW.cell (p := ⟨bm, offm + j, none⟩) hbm2).trans hcm2)
          refine hK _ _ ⟨fun _ => kk5, ?_⟩
          clear hK K hx
          refine wpAnyT_takeL (i := 6) 7 (v := ?_) rfl (by kernel_rfl) (by kernel_rfl) (by kernel_rfl) (by kernel_rfl) (by kernel_rfl) (fun _ _ _ h => h) (Or.inl ⟨by rfl, ?_⟩) kk5 ?_
          rotate_left 1
          · (intro W hSw; (try dsimp only at hSw); go_simp) <;> with_reducible rfl
          try simp only [Act.put, List.setIfInBounds_toArray, List.set_cons_zero, List.set_cons_succ]
          refine wpAnyT_takeL (i := 7) 7 (v := ?_) rfl (by kernel_rfl) (by kernel_rfl) (by kernel_rfl) (by kernel_rfl) (by kernel_rfl) (fun _ _ _ h => h) (Or.inl ⟨by rfl, ?_⟩) kk5 ?_
          rotate_left 1
          · (intro W hSw; (try dsimp only at hSw); go_simp) <;> with_reducible rfl
          try simp only [Act.put, List.setIfInBounds_toArray, List.set_cons_zero, List.set_cons_succ]
          refine wpAnyT_takeL (i := 8) 7 (v := ?_) rfl (by kernel_rfl) (by kernel_rfl) (by kernel_rfl) (by kernel_rfl) (by kernel_rfl) (fun _ _ _ h => h) (Or.inl ⟨by rfl, ?_⟩) kk5 ?_
          rotate_left 1
          · (intro W hSw; (try dsimp only at hSw); go_simp) <;> with_reducible rfl
          try simp only [Act.put, List.setIfInBounds_toArray, List.set_cons_zero, List.set_cons_succ]
          refine wpAnyT_go (i := 10) rfl (by kernel_rfl) fun K hK => ?_
          obtain ⟨f0, f1, f2, f3, f4, f5⟩ := res3 BP
          go_simp
          refine hK _ _ ⟨fun _ => And.intro (((hBd.off bP 0 hbo _).off bP 1 hbo _).off bP 2 hbo _).c3 (((((hW.off bP 0 hbw _).off bP 1 hbw _).off bP 2 hbw _).cell (p := ⟨bm, offm + j, none⟩) hbm2).trans hcm2), ?_⟩
          clear hK K
          refine wpAnyT_go (i := 11) rfl (by kernel_rfl) fun K hK => ?_
          go_simp
          refine hK _ _ ⟨fun h => absurd rfl h, ?_⟩
          clear hK K
          refine wpAnyT_done (by kernel_rfl) ?_ _
          go_wp2_with fail
          go_meet
          exact ⟨bP, tr, rfl, rfl, ((BP.set_ 0 _).set_ 1 _).set_ 2 _, fun h0 => Own3.mono (((Own3.aw2 (oR h0) (hne h0) 0 _).aw2 (hne h0) 1 _).aw2 (hne h0) 2 _) hlo, ((hW.off bP 0 hbw _).off bP 1 hbw _).off bP 2 hbw _⟩
      case rest =>
        obtain ⟨g, ⟨⟨T1, n2, e2⟩, t2, t3⟩, rfl, h12, hN, h3i, hx⟩ := hcut
        have hB3 := hB2.ext hx
        have hX3 := hX2.trans hx
        have ho3 := ho2.ext hx
        have hzx := hx.size
        obtain ⟨wx, hwx⟩ : ∃ wx, wx = wc := ⟨_, rfl⟩
        subst hwx
        simp only at hN
        obtain ⟨v0, v1, v2⟩ := hN.c3
        obtain ⟨r0, r1, r2, r3, r4, r5⟩ := res3 hB3
        by_cases h0 : lvC l1 m = 0
        · have hG2 := hide (shG_go hG.out hmm.out (hjc.out.trans h0))
          have h33 := h3i h0
          rw [h0] at h12
          subst h12
          clear h3i h0
          have hn2 := hide (show n2 = n1 by have h1 : n2 = (lvV l1 m).x.length := h33.1.rd.1; rw [lvV_len] at h1; have := hxl.out; omega)
          obtain ⟨b2, off2, y2, hA2, hb2, hc2, hy2⟩ := h33.1.rd.el (k := k) (by show k < n2; have := hn2.out; omega)
          simp only at hA2
          subst hA2
          have hk2 : (k : Int) < (n2 : Int) := by have := hn2.out; omega
          have hlw := hB2.lt
          have gv := ho2.lt
          have hXs := ((hX3.off w.heap.size 0 (by omega) (.slice (some ⟨b2, off2, none⟩) n2 e2)).off w.heap.size 1 (by omega) (.slice t2.A t2.n t2.c)).off w.heap.size 2 (by omega) (.slice t3.A t3.n t3.c)
          have hBs := ((hB3.set_ 0 (.slice (some ⟨b2, off2, none⟩) n2 e2)).set_ 1 (.slice t2.A t2.n t2.c)).set_ 2 (.slice t3.A t3.n t3.c)
          have hos := ((ho3.off w.heap.size 0 (by omega) (.slice (some ⟨b2, off2, none⟩) n2 e2)).off w.heap.size 1 (by omega) (.slice t2.A t2.n t2.c)).off w.heap.size 2 (by omega) (.slice t3.A t3.n t3.c)
          have h3s := ((h33.awayP (g := w.heap.size) (by omega) 0 (.slice (some ⟨b2, off2, none⟩) n2 e2)).awayP (g := w.heap.size) (by omega) 1 (.slice t2.A t2.n t2.c)).awayP (g := w.heap.size) (by omega) 2 (.slice t3.A t3.n t3.c)
          have hss : StJ w.heap.size v ⟨⟨some ⟨b2, off2, none⟩, n2, e2⟩, t2, t3⟩ (lvV l1 m) _ := StJ.own h3s (by omega) (fun k' hk' => (gv k' hk').2)
          obtain ⟨b3, off3, y3, hA3, hb3, hc3, hy3⟩ := h3s.1.rd.el (k := k) (by show k < n2; have := hn2.out; omega)
          simp only at hA3
          injection hA3 with hA3
          injection hA3 with hA3 hA4
          subst hA3 hA4
          have hvo := hide (show v.n = o.length from ho2.rd.1)
          obtain ⟨bv, offv, z, hAv, hbv, hcv, hzv⟩ := hos.rd.el (k := v.n - 1) (by have := hol.out; have := hvo.out; omega)
          have hzv2 := hide (show o[o.length - 1]? = some z by rw [← hvo.out]; exact hzv.out)
          obtain ⟨Av, nv, cv⟩ := v
          simp only at hAv hcv hos hBs hss gv
          subst hAv
          have hnv0 : (0 : Int) ≤ (nv : Int) - 1 := by have := hol.out; have h : nv = o.length := hvo.out; omega
          have hnv1 : (nv : Int) - 1 < (nv : Int) := by omega
          have hnv3 : (1 : Int) ≤ (nv : Int) := by omega
          have hnv2 : ((nv : Int) - 1) = ((nv - 1 : Nat) : Int) := by have := hol.out; have h : nv = o.length := hvo.out; omega
          have hwv : IntKind.i64.wrap ((nv : Int) - 1) = (nv : Int) - 1 := Go.IntWalk.i64_in _ (by have := hol.out; have h : nv = o.length := hvo.out; omega)
          have hnt : ((nv : Int) - 1).toNat = nv - 1 := by omega
          clear hnv2
          go_upto_region 57 with fail
          clear v0 v1 v2 r0 r1 r2 r3 r4 r5
          replace hXs := hXs.drew
          replace hBs := hBs.drew
          replace hos := hos.drew
          replace h3s := h3s.drew
          replace hss := hss.ext ((Ext.refl _).drew)
          have hc3' : (World.drew (((wx.setCell ⟨w.heap.size, 0, none⟩ (.slice (some ⟨b2, off2, none⟩) n2 e2)).setCell ⟨w.heap.size, 1, none⟩ (.slice t2.A t2.n t2.c)).setCell ⟨w.heap.size, 2, none⟩ (.slice t3.A t3.n t3.c))).cell? _ = _ := hc3
          have hcv' : (World.drew (((wx.setCell ⟨w.heap.size, 0, none⟩ (.slice (some ⟨b2, off2, none⟩) n2 e2)).setCell ⟨w.heap.size, 1, none⟩ (.slice t2.A t2.n t2.c)).setCell ⟨w.heap.size, 2, none⟩ (.slice t3.A t3.n t3.c))).cell? _ = _ := hcv
          clear hc3 hcv
          refine wp_region_sink (S := fun w' => w'.cell? ⟨w.heap.size, 0, none⟩ = some (.slice (some ⟨b2, off2, none⟩) n2 e2) ∧ w'.cell? ⟨b2, off2 + k, none⟩ = some (.int .i64 y3) ∧ w'.cell? ⟨bv, offv + (nv - 1), none⟩ = some (.int .i64 z)) 11 (by kernel_rfl) ?_
          change wpAnyT _ _ _ _ _ _ _ _ _ (World.drew _)
          generalize hwd : World.drew _ = wy at hXs hBs hos h3s hss hc3' hcv' ⊢
          clear hwd
          have kk := And.intro (hBs.get 0 _ rfl) (And.intro hc3' hcv')
          refine wpAnyT_takeL (i := 0) 7 (v := ?_) rfl (by kernel_rfl) (by kernel_rfl) (by kernel_rfl) (by kernel_rfl) (by kernel_rfl) (fun _ _ _ h => h) (Or.inl ⟨by rfl, ?_⟩) kk ?_
          rotate_left 1
          · (intro W hSw; (try dsimp only at hSw); go_simp) <;> with_reducible rfl
          try simp only [Act.put, List.setIfInBounds_toArray, List.set_cons_zero, List.set_cons_succ]
          refine wpAnyT_takeL (i := 1) 7 (v := ?_) rfl (by kernel_rfl) (by kernel_rfl) (by kernel_rfl) (by kernel_rfl) (by kernel_rfl) (fun _ _ _ h => h) (Or.inl ⟨by rfl, ?_⟩) kk ?_
          rotate_left 1
          · (intro W hSw; (try dsimp only at hSw); go_simp) <;> with_reducible rfl
          try simp only [Act.put, List.setIfInBounds_toArray, List.set_cons_zero, List.set_cons_succ]
          refine wpAnyT_takeL (i := 2) 7 (v := ?_) rfl (by kernel_rfl) (by kernel_rfl) (by kernel_rfl) (by kernel_rfl) (by kernel_rfl) (fun _ _ _ h => h) (Or.inl ⟨by rfl, ?_⟩) kk ?_
          rotate_left 1
          · (intro W hSw; (try dsimp only at hSw); go_simp) <;> with_reducible rfl
          try simp only [Act.put, List.setIfInBounds_toArray, List.set_cons_zero, List.set_cons_succ]
          refine wpAnyT_takeL (i := 3) 7 (v := ?_) rfl (by kernel_rfl) (by kernel_rfl) (by kernel_rfl) (by kernel_rfl) (by kernel_rfl) (fun _ _ _ h => h) (Or.inl ⟨by rfl, ?_⟩) kk ?_
          rotate_left 1
          · (intro W hSw; (try dsimp only at hSw); go_simp) <;> with_reducible rfl
          try simp only [Act.put, List.setIfInBounds_toArray, List.set_cons_zero, List.set_cons_succ]
          refine wpAnyT_takeL (i := 4) 7 (v := ?_) rfl (by kernel_rfl) (by kernel_rfl) (by kernel_rfl) (by kernel_rfl) (by kernel_rfl) (fun _ _ _ h => h) (Or.inl ⟨by rfl, ?_⟩) kk ?_
          rotate_left 1
          · (intro W hSw; (try dsimp only at hSw); go_simp) <;> with_reducible rfl
          try simp only [Act.put, List.setIfInBounds_toArray, List.set_cons_zero, List.set_cons_succ]
          refine wpAnyT_takeL (i := 5) 7 (v := ?_) rfl (by kernel_rfl) (by kernel_rfl) (by kernel_rfl) (by kernel_rfl) (by kernel_rfl) (fun _ _ _ h => h) (Or.inl ⟨by rfl, ?_⟩) kk ?_
          rotate_left 1
          · (intro W hSw; (try dsimp only at hSw); go_simp) <;> with_reducible rfl
          try simp only [Act.put, List.setIfInBounds_toArray, List.set_cons_zero, List.set_cons_succ]
          refine wpAnyT_takeL (i := 6) 7 (v := ?_) rfl (by kernel_rfl) (by kernel_rfl) (by kernel_rfl) (by kernel_rfl) (by kernel_rfl) (fun _ _ _ h => h) (Or.inl ⟨by rfl, ?_⟩) kk ?_
          rotate_left 1
          · (intro W hSw; (try dsimp only at hSw); go_simp) <;> with_reducible rfl
          try simp only [Act.put, List.setIfInBounds_toArray, List.set_cons_zero, List.set_cons_succ]
          refine wpAnyT_takeL (i := 7) 7 (v := ?_) rfl (by kernel_rfl) (by kernel_rfl) (by kernel_rfl) (by kernel_rfl) (by kernel_rfl) (fun _ _ _ h => h) (Or.inl ⟨by rfl, ?_⟩) kk ?_
          rotate_left 1
          · (intro W hSw; (try dsimp only at hSw); go_simp) <;> with_reducible rfl
          try simp only [Act.put, List.setIfInBounds_toArray, List.set_cons_zero, List.set_cons_succ]
          refine wpAnyT_takeL (i := 8) 7 (v := ?_) rfl (by kernel_rfl) (by kernel_rfl) (by kernel_rfl) (by kernel_rfl) (by kernel_rfl) (fun _ _ _ h => h) (Or.inl ⟨by rfl, ?_⟩) kk ?_
          rotate_left 1
          · (intro W hSw; (try dsimp only at hSw); go_simp) <;> with_reducible rfl
          try simp only [Act.put, List.setIfInBounds_toArray, List.set_cons_zero, List.set_cons_succ]
          refine wpAnyT_takeL (i := 9) 7 (v := ?_) rfl (by kernel_rfl) (by kernel_rfl) (by kernel_rfl) (by kernel_rfl) (by kernel_rfl) (fun _ _ _ h => h) (Or.inl ⟨by rfl, ?_⟩) kk ?_
          rotate_left 1
          · (intro W hSw; (try dsimp only at hSw); go_simp) <;> with_reducible rfl
          try simp only [Act.put, List.setIfInBounds_toArray, List.set_cons_zero, List.set_cons_succ]
          refine wpAnyT_takeL (i := 10) 7 (v := ?_) rfl (by kernel_rfl) (by kernel_rfl) (by kernel_rfl) (by kernel_rfl) (by kernel_rfl) (fun _ _ _ h => h) (Or.inl ⟨by rfl, ?_⟩) kk ?_
          rotate_left 1
          · (intro W hSw; (try dsimp only at hSw); go_simp) <;> with_reducible rfl
          try simp only [Act.put, List.setIfInBounds_toArray, List.set_cons_zero, List.set_cons_succ]
          refine wpAnyT_go (i := 11) rfl (by kernel_rfl) fun K hK => ?_
          go_simp
          refine hK _ _ ⟨fun h => absurd rfl h, ?_⟩
          clear hK K
          refine wpAnyT_done (by kernel_rfl) ?_ _
          obtain ⟨u0, u1', u2⟩ := hBs.c3
          have hge := hos.lt
          clear kk
          by_cases hyz : y3 = z
          · have hyb : (y3 != z) = false := by simpa using hyz
            have hsn := hide (shN_eq hy3.out hzv2.out hyz)
            have hG3 := hide (show shR l ms k = shG k (lvV l1 m) o (ms.drop (j + 1)) by rw [← hsn.out]; exact hG2.out)
            clear hyz
            go_wp2_with fail
            go_roundw
            case rel => exact ⟨j + 1, ⟨_, nv, cv⟩, _, lvV l1 m, o, by omega, by go_num, rfl, hG3, by rw [hide (lvV_len l1 m)]; exact hxl, ⟨hol.out.1, by have := hol.out.2; omega⟩, hos, hss, hBs, hXs⟩
            case measure => simp [intOf]; omega
          · have hyb : (y3 != z) = true := by simpa using hyz
            have hsn := hide (shN_ne hy3.out hzv2.out hyz)
            have hG3 := hide (show shR l ms k = shG k (lvV l1 m) (o ++ [y3]) (ms.drop (j + 1)) by rw [← hsn.out]; exact hG2.out)
            have hF := Blk.new wy 2 (#[.int .i64 y3])
            have hlo : w.heap.size + 1 ≤ (World.alloc wy (.cells #[.int .i64 y3] 2)).heap.size := by rw [World.size_alloc]; have := hBs.lt; omega
            clear hyz
            go_wp2_with (at_builtin; refine wpList_app _ rfl (.tmp 69) (.tmp 75) rfl (w.heap.size + 1) _ _ rfl (hos.alloc _) _ _ _ [y3] rfl hF.rd1 (by have := hol.out.2; omega) hlo ?_; intro t4 w4 o4 hg hb)
            go_roundw
            case rel => exact ⟨j + 1, t4, _, lvV l1 m, o ++ [y3], by omega, by go_num, rfl, hG3, by rw [hide (lvV_len l1 m)]; exact hxl, ⟨by simp, by rw [List.length_append]; have := hol.out.2; simp; omega⟩, o4, StJ.grow (hss.ext ((Ext.refl _).alloc _)) hg hb, (hBs.alloc _).fr (Fr.of_grown hg) (fun e => by have := (hge _ e).1; omega), (hXs.alloc _).grow hg (fun k' hk' => by have := (hge k' hk').1; omega)⟩
            case measure => simp [intOf]; omega
        · obtain ⟨c, hcc⟩ : ∃ c, c = lvC l1 m := ⟨_, rfl⟩
          have hc0 : (c != 0) = true := by rw [hcc]; simpa using h0
          have hG3 := hide (show shR l ms k = ([], c) by rw [hcc, ← hjc.out]; exact shG_stop hG.out hmm.out (by rw [hjc.out]; exact h0))
          rw [← hcc] at h12
          subst h12
          clear hcc h0 h3i
          go_wp2_with fail
          go_ret2
          exact ⟨⟨none, 0, 0⟩, by rw [hG3.out]; rfl, by rw [hG3.out]; exact Own.nil_ _ _, ((hX3.off w.heap.size 0 (by omega) _).off w.heap.size 1 (by omega) _).off w.heap.size 2 (by omega) _⟩
    · have hG3 := hide (shG_end hG.out (show j = ms.length by have := hml.out; omega))
      go_wp2_with fail
      go_ret2
      exact ⟨v, by rw [hG3.out]; rfl, by rw [hG3.out]; exact ho.mono (by omega), hX⟩
end Go.Proofs.Ytkfjphjmffbpiaa.mem
