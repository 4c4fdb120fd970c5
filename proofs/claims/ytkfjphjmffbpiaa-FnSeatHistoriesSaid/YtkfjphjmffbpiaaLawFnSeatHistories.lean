/-
  The law FnSeatHistories holds of the given program for every input: it returns true, and its argument reads as it did.
-/
import Derived.Test.YtkfjphjmffbpiaaDjs
import Derived.Test.YtkfjphjmffbpiaaSh
import Derived.Test.YtkfjphjmffbpiaaShS
import Derived.Test.YtkfjphjmffbpiaaJTop
import Derived.Test.YtkfjphjmffbpiaaOpenC
import Derived.Test.Ytkfjphjmffbpiaa3s
namespace Go.Proofs.Ytkfjphjmffbpiaa.mem
open Go.ChangeShapes Go.WideShapes Go.ChangeAt Go.RowKit
set_option linter.unusedVariables false
set_option maxRecDepth 20000 in
set_option maxHeartbeats 16000000 in
theorem law_FnSeatHistories (s : Sl) (w : World) (hb0 : RdB w s.A s.n) (hcap : cap1 s) :
    Calls Try.prog 3 #[.slice s.A s.n s.c] w fun e w' => e = .returned (.bool true) ∧ Ext w w' := by
  have hX := Ext.refl w
  have hbig := laws.big_any s w hcap
  by_cases hs : 4096 < s.n
  · rw [decide_eq_true hs] at hbig
    clear hs
    go_enter Try.func3, Try.ntmps3
    go_wp2_with fail
    refine hbig.mono ?_
    rintro e w' ⟨rfl, rfl⟩
    go_wp2_with fail
    go_ret
    exact ⟨rfl, hX⟩
  rw [decide_eq_false hs] at hbig
  have hc : Code w s := ⟨hb0, by omega, hcap⟩
  clear hs hb0 hcap
  go_enter Try.func3, Try.ntmps3
  go_wp2_with fail
  refine hbig.mono ?_
  rintro e w' ⟨rfl, rfl⟩
  clear hbig
  go_wp2_with fail
  refine (spec.DrawSeatHistory_any s _ (hc.ext hX)).mono ?_
  rintro e w1 ⟨p, l, t, ms, x, rfl, op, ot, hml, hxb, hx⟩
  replace hX := hX.trans hx
  clear hx
  replace hml := hide hml
  have htn := hide (show t.n ≤ 1048576 by have := ot.rd.1; have := hml.out; omega)
  have hP := Blk.new w1 26 (#[.slice p.x.A p.x.n p.x.c, .slice p.y.A p.y.n p.y.c, .slice p.z.A p.z.n p.z.c])
  replace op := op.alloc (.cells #[.slice p.x.A p.x.n p.x.c, .slice p.y.A p.y.n p.y.c, .slice p.z.A p.z.n p.z.c] 26)
  replace ot := ot.alloc (.cells #[.slice p.x.A p.x.n p.x.c, .slice p.y.A p.y.n p.y.c, .slice p.z.A p.z.n p.z.c] 26)
  replace hX := hX.alloc (.cells #[.slice p.x.A p.x.n p.x.c, .slice p.y.A p.y.n p.y.c, .slice p.z.A p.z.n p.z.c] 26)
  obtain ⟨qhP0, qhP1, qhP2⟩ := hP.c3
  go_wp2_with fail
  refine (impl.SeatHistory_any p l t ms x _ op.rd ot.rd htn.out).mono ?_
  rintro e w2 ⟨h1, rfl, oh1, hx⟩
  clear qhP0 qhP1 qhP2
  replace op := op.ext hx
  replace ot := ot.ext hx
  replace hP := hP.ext hx
  replace hX := hX.trans hx
  clear hx
  obtain ⟨qhP0, qhP1, qhP2⟩ := hP.c3
  go_wp2_with fail
  refine (spec.SeatHistory_any p l t ms x _ op.rd ot.rd htn.out).mono ?_
  rintro e w3 ⟨h2, rfl, oh2, hx⟩
  clear qhP0 qhP1 qhP2
  replace op := op.ext hx
  replace ot := ot.ext hx
  replace oh1 := oh1.ext hx
  replace hP := hP.ext hx
  replace hX := hX.trans hx
  clear hx
  obtain ⟨qhP0, qhP1, qhP2⟩ := hP.c3
  go_wp2_with fail
  refine (spec.DrawMembersOf_any s _ (hc.ext hX)).mono ?_
  rintro e w4 ⟨q, lq, rfl, oq, hq, hx⟩
  clear qhP0 qhP1 qhP2
  replace op := op.ext hx
  replace ot := ot.ext hx
  replace oh1 := oh1.ext hx
  replace oh2 := oh2.ext hx
  replace hP := hP.ext hx
  replace hX := hX.trans hx
  clear hx
  have hQ := Blk.new w4 26 (#[.slice q.x.A q.x.n q.x.c, .slice q.y.A q.y.n q.y.c, .slice q.z.A q.z.n q.z.c])
  replace op := op.alloc (.cells #[.slice q.x.A q.x.n q.x.c, .slice q.y.A q.y.n q.y.c, .slice q.z.A q.z.n q.z.c] 26)
  replace ot := ot.alloc (.cells #[.slice q.x.A q.x.n q.x.c, .slice q.y.A q.y.n q.y.c, .slice q.z.A q.z.n q.z.c] 26)
  replace oh1 := oh1.alloc (.cells #[.slice q.x.A q.x.n q.x.c, .slice q.y.A q.y.n q.y.c, .slice q.z.A q.z.n q.z.c] 26)
  replace oh2 := oh2.alloc (.cells #[.slice q.x.A q.x.n q.x.c, .slice q.y.A q.y.n q.y.c, .slice q.z.A q.z.n q.z.c] 26)
  replace oq := oq.alloc (.cells #[.slice q.x.A q.x.n q.x.c, .slice q.y.A q.y.n q.y.c, .slice q.z.A q.z.n q.z.c] 26)
  replace hP := hP.alloc (.cells #[.slice q.x.A q.x.n q.x.c, .slice q.y.A q.y.n q.y.c, .slice q.z.A q.z.n q.z.c] 26)
  replace hX := hX.alloc (.cells #[.slice q.x.A q.x.n q.x.c, .slice q.y.A q.y.n q.y.c, .slice q.z.A q.z.n q.z.c] 26)
  clear hq
  obtain ⟨qhP0, qhP1, qhP2⟩ := hP.c3
  obtain ⟨qhQ0, qhQ1, qhQ2⟩ := hQ.c3
  go_wp2_with fail
  refine (impl.MembersOf_any q lq _ oq.rd).mono ?_
  rintro e w5 ⟨a1, rfl, oa1, hx⟩
  clear qhP0 qhP1 qhP2 qhQ0 qhQ1 qhQ2
  replace op := op.ext hx
  replace ot := ot.ext hx
  replace oh1 := oh1.ext hx
  replace oh2 := oh2.ext hx
  replace oq := oq.ext hx
  replace hP := hP.ext hx
  replace hQ := hQ.ext hx
  replace hX := hX.trans hx
  clear hx
  obtain ⟨qhP0, qhP1, qhP2⟩ := hP.c3
  obtain ⟨qhQ0, qhQ1, qhQ2⟩ := hQ.c3
  go_wp2_with fail
  refine (spec.MembersOf_any q lq _ oq.rd).mono ?_
  rintro e w6 ⟨a2, rfl, oa2, hx⟩
  clear qhP0 qhP1 qhP2 qhQ0 qhQ1 qhQ2
  replace op := op.ext hx
  replace ot := ot.ext hx
  replace oh1 := oh1.ext hx
  replace oh2 := oh2.ext hx
  replace oq := oq.ext hx
  replace oa1 := oa1.ext hx
  replace hP := hP.ext hx
  replace hQ := hQ.ext hx
  replace hX := hX.trans hx
  clear hx
  obtain ⟨qhP0, qhP1, qhP2⟩ := hP.c3
  obtain ⟨qhQ0, qhQ1, qhQ2⟩ := hQ.c3
  go_wp2_with fail
  refine (likeInts_yes h1 h2 _ _ oh1.rd oh2.rd).mono ?_
  rintro e w7 ⟨rfl, hx⟩
  clear qhP0 qhP1 qhP2 qhQ0 qhQ1 qhQ2
  replace op := op.ext hx
  replace ot := ot.ext hx
  replace oh1 := oh1.ext hx
  replace oh2 := oh2.ext hx
  replace oq := oq.ext hx
  replace oa1 := oa1.ext hx
  replace oa2 := oa2.ext hx
  replace hP := hP.ext hx
  replace hQ := hQ.ext hx
  replace hX := hX.trans hx
  clear hx
  obtain ⟨qhP0, qhP1, qhP2⟩ := hP.c3
  obtain ⟨qhQ0, qhQ1, qhQ2⟩ := hQ.c3
  go_wp2_with fail
  refine (likeInts_yes a1 a2 _ _ oa1.rd oa2.rd).mono ?_
  rintro e w8 ⟨rfl, hx⟩
  clear qhP0 qhP1 qhP2 qhQ0 qhQ1 qhQ2
  replace op := op.ext hx
  replace ot := ot.ext hx
  replace oh1 := oh1.ext hx
  replace oh2 := oh2.ext hx
  replace oq := oq.ext hx
  replace oa1 := oa1.ext hx
  replace oa2 := oa2.ext hx
  replace hP := hP.ext hx
  replace hQ := hQ.ext hx
  replace hX := hX.trans hx
  clear hx
  obtain ⟨qhP0, qhP1, qhP2⟩ := hP.c3
  obtain ⟨qhQ0, qhQ1, qhQ2⟩ := hQ.c3
  have hIq : okJ lq = (okJC lq == 0) := by unfold okJC; cases okJ lq <;> rfl
  have hIJ := fun W h => impl.IsJury_any q lq W h
  simp only [hIq] at hIJ
  clear hIq
  go_wp2_with fail
  refine (hIJ _ oq.rd).mono ?_
  rintro e w9 ⟨rfl, hx⟩
  clear qhP0 qhP1 qhP2 qhQ0 qhQ1 qhQ2
  replace op := op.ext hx
  replace ot := ot.ext hx
  replace oh1 := oh1.ext hx
  replace oh2 := oh2.ext hx
  replace oq := oq.ext hx
  replace oa1 := oa1.ext hx
  replace oa2 := oa2.ext hx
  replace hP := hP.ext hx
  replace hQ := hQ.ext hx
  replace hX := hX.trans hx
  clear hx
  clear hQ oq oa1 oa2 hIJ
  by_cases hbad : (shR l ms x).2 = 0
  case neg =>
    have hb1 : ((shR l ms x).2 != 0) = true := by rw [bne_iff_ne]; exact hbad
    clear hbad
    go_wp2_with fail
    go_ret
    exact ⟨rfl, hX⟩
  obtain ⟨hok, ⟨hx0, hxk⟩, hch, hhd, hlst⟩ := sh_ok hbad
  rw [hbad]
  obtain ⟨k, rfl⟩ := Int.eq_ofNat_of_zero_le hx0
  rw [Int.toNat_natCast] at hxk hhd hlst
  obtain ⟨H, hH⟩ : ∃ H, H = (shR l ms (k : Int)).1 := ⟨_, rfl⟩
  rw [← hH] at oh1 oh2 hhd hlst
  clear hH hbad hx0 hxb hok
  replace hch := hide hch
  replace hhd := hide hhd
  replace hlst := hide hlst
  have hH0 : 0 < H.length := by have := hhd.out; cases H with | nil => cases this | cons a b => simp
  have e1 : h1.n = H.length := oh1.rd.1
  have e2 : h2.n = H.length := oh2.rd.1
  have h1n : 0 < h1.n := by omega
  have h12 : h1.n = h2.n := by omega
  replace e1 := hide e1
  clear e2 hH0
  have hpx := op.rd.1.1
  have hkp : k < p.x.n := by omega
  replace hpx := hide hpx
  obtain ⟨b0, o0, u0, hA0, hb0, hc0, hu0⟩ := oh1.rd.el h1n
  obtain ⟨b9, o9, u3, hA9, hb9, hc9, hu9⟩ := oh1.rd.el (k := h1.n - 1) (by omega)
  obtain ⟨b1, o1, u1, hA1, hb1, hc1, hu1⟩ := op.rd.1.el hkp
  have eu : u0 = u1 := by have a := hhd.out; have b := hu0.out; have c := hu1.out; rw [List.head?_eq_getElem?] at a; rw [a] at b; injection b with b; rw [← b, List.getD_eq_getElem?_getD, c]; rfl
  have eu9 : u3 = (lvN l ms).x.getD k 0 := by have a := hlst.out; have b := hu9.out; rw [List.getLast?_eq_getElem?, ← e1.out] at a; rw [a] at b; injection b with b; exact b.symm
  subst eu
  replace eu9 := hide eu9
  clear hu0 hu1 hu9 hhd hlst hxk
  obtain ⟨Ah, nh, ch⟩ := h1
  obtain ⟨Ah2, nh2, ch2⟩ := h2
  obtain ⟨⟨A1, n1, k1⟩, py, pz⟩ := p
  simp only at hA0 hA9 hA1 h12 h1n e1 hkp hpx
  subst hA0
  injection hA9 with hA9
  injection hA9 with hA9 hA8
  subst hA9 hA8 hA1 h12
  rw [Nat.add_zero] at hc0
  have hlx : l.x.length = n1 := hpx.out.symm
  have hz := hP.lt
  have hnb := hide (show nh ≤ 16777216 from oh1.rd.le)
  clear oh1 oh2
  obtain ⟨v0, v1, v2⟩ := hP.c3
  have hcopy := Blk.new w9 26 (#[.slice (some ⟨b1, o1, none⟩) n1 k1, .slice py.A py.n py.c, .slice pz.A pz.n pz.c])
  have hs0 : StJ w9.heap.size ⟨none, 0, 0⟩ ⟨⟨some ⟨b1, o1, none⟩, n1, k1⟩, py, pz⟩ l (w9.alloc (.cells #[.slice (some ⟨b1, o1, none⟩) n1 k1, .slice py.A py.n py.c, .slice pz.A pz.n pz.c] 26)) := fun w' hf => op.rd.ext (Ext.fr_trans ((Ext.refl w9).alloc _) hf (fun j hj => by rcases hj with hj | hj; omega; (cases hj)))
  have hX0 := (Ext.refl w9).alloc (.cells #[.slice (some ⟨b1, o1, none⟩) n1 k1, .slice py.A py.n py.c, .slice pz.A pz.n pz.c] 26)
  go_wp2_with fail
  clear v0 v1 v2
  generalize hbk : w9.heap.size = bK at hcopy hs0 ⊢
  have hrt := ot.rd
  obtain ⟨At, nt, ct⟩ := t
  simp only at hrt htn
  have hntl := hide hrt.1
  go_loopw [16, 17, 18] (fun iv _ _ wr => ∃ (i : Nat) (q : S3) (lc : L3), iv = .int .i64 i ∧ i ≤ nt ∧ Hid (lc = lvN l (ms.take i)) ∧ StJ bK ⟨none, 0, 0⟩ q lc wr ∧ Blk wr bK 26 #[.slice q.x.A q.x.n q.x.c, .slice q.y.A q.y.n q.y.c, .slice q.z.A q.z.n q.z.c] ∧ Ext w9 wr) (fun iv _ _ _ => nt - (intOf iv).toNat)
  case atStart => exact ⟨0, ⟨⟨some ⟨b1, o1, none⟩, n1, k1⟩, py, pz⟩, l, rfl, by omega, hide (by simp [lvN]), hs0, hcopy, hX0⟩
  case round =>
    clear hcopy hs0 hX0
    obtain ⟨i, q, lc, rfl, hi, hlc, hs, hB, hE⟩ := hrel
    obtain ⟨q0, q1, q2⟩ := hB.c3
    by_cases hlt : i < nt
    · obtain ⟨bm, offm, m, rfl, hbm, hcm, hmm⟩ := hrt.el hlt
      have hcm1 := (hE.cell (p := ⟨bm, offm + i, none⟩) hbm).trans hcm
      have hi0 : (0 : Int) ≤ (i : Int) := by omega
      have hin : (i : Int) < (nt : Int) := by omega
      have hwi : IntKind.i64.wrap ((i : Int) + 1) = ((i + 1 : Nat) : Int) := by rw [Go.IntWalk.i64_in _ (by have := htn.out; omega)]; omega
      have hl0 : ljC lc m = 0 := by rw [hlc.out]; exact chain_at hch.out hmm.out
      have hlj := ljV_yes hl0
      have hLv := fun W h => impl.LeaveJury_any q lc m W h
      rw [hl0, hlj] at hLv
      have hlc2 := hide (show lvV lc m = lvN l (ms.take (i + 1)) by rw [hlc.out, List.take_add_one, hmm.out]; exact (lvN_snoc l (ms.take i) m).symm)
      clear hl0 hlj
      go_upto_region 17 with fail
      go_cut [17, 18] (fun s17 s18 wx => ∃ (g : Nat) (t : S3), s17 = .pointer (some ⟨g, 0, none⟩) ∧ s18 = .int .i64 0 ∧ Blk wx g 26 #[.slice t.x.A t.x.n t.x.c, .slice t.y.A t.y.n t.y.c, .slice t.z.A t.z.n t.z.c] ∧ Own3 wx wr.heap.size t (lvV lc m) ∧ Ext wr wx)
      case first =>
        have hW := (Ext.refl wr).drew
        have hBd := hB.drew
        have hlw := hB.lt
        have hbm2 : bm < wr.heap.size := Nat.lt_of_lt_of_le hbm hE.size
        refine wp_region_sink (S := fun w' => (w'.cell? ⟨bK, 0, none⟩ = some (.slice q.x.A q.x.n q.x.c) ∧ w'.cell? ⟨bK, 1, none⟩ = some (.slice q.y.A q.y.n q.y.c) ∧ w'.cell? ⟨bK, 2, none⟩ = some (.slice q.z.A q.z.n q.z.c)) ∧ w'.cell? ⟨bm, offm + i, none⟩ = some (.int .i64 m)) 11 (by kernel_rfl) ?_
        change wpAnyT _ _ _ _ _ _ _ _ _ (World.drew _)
        generalize hwd : World.drew _ = wd at hW hBd ⊢
        clear hwd
        have kk := And.intro hBd.c3 ((hW.cell (p := ⟨bm, offm + i, none⟩) hbm2).trans hcm1)
        refine wpAnyT_takeL (i := 0) 7 (v := ?_) rfl (by kernel_rfl) (by kernel_rfl) (by kernel_rfl) (by kernel_rfl) (by kernel_rfl) (fun _ _ _ h => h) (Or.inl ⟨by rfl, ?_⟩) kk ?_
        rotate_left 1
        · (intro W hSw; (try dsimp only at hSw); go_simp) <;> with_reducible rfl
        try simp only [Act.put, List.setIfInBounds_toArray, List.set_cons_zero, List.set_cons_succ]
        refine wpAnyT_takeL (i := 1) 7 (v := ?_) rfl (by kernel_rfl) (by kernel_rfl) (by kernel_rfl) (by kernel_rfl) (by kernel_rfl) (fun _ _ _ h => h) (Or.inl ⟨by rfl, ?_⟩) kk ?_
        rotate_left 1
        · (intro W hSw; (try dsimp only at hSw); go_simp) <;> with_reducible rfl
        try simp only [Act.put, List.setIfInBounds_toArray, List.set_cons_zero, List.set_cons_succ]
        refine wpAnyT_takeL (i := 2) 7 (v := ?_) rfl (by kernel_rfl) (by kernel_rfl) (by kernel_rfl) (by kernel_rfl) (by kernel_rfl) (fun _ _ _ h => h) (Or.inl ⟨by rfl, ?_⟩) kk ?_
        rotate_left 1
        · (intro W hSw; (try dsimp only at hSw); go_simp) <;> with_reducible rfl
        try simp only [Act.put, List.setIfInBounds_toArray, List.set_cons_zero, List.set_cons_succ]
        refine wpAnyT_takeL (i := 3) 7 (v := ?_) rfl (by kernel_rfl) (by kernel_rfl) (by kernel_rfl) (by kernel_rfl) (by kernel_rfl) (fun _ _ _ h => h) (Or.inl ⟨by rfl, ?_⟩) kk ?_
        rotate_left 1
        · (intro W hSw; (try dsimp only at hSw); go_simp) <;> with_reducible rfl
        try simp only [Act.put, List.setIfInBounds_toArray, List.set_cons_zero, List.set_cons_succ]
        refine wpAnyT_takeL (i := 4) 7 (v := ?_) rfl (by kernel_rfl) (by kernel_rfl) (by kernel_rfl) (by kernel_rfl) (by kernel_rfl) (fun _ _ _ h => h) (Or.inl ⟨by rfl, ?_⟩) kk ?_
        rotate_left 1
        · (intro W hSw; (try dsimp only at hSw); go_simp) <;> with_reducible rfl
        try simp only [Act.put, List.setIfInBounds_toArray, List.set_cons_zero, List.set_cons_succ]
        refine wpAnyT_go2 (i := 5) (j := 9) rfl rfl (by kernel_rfl) (fun K hK => ?_) (fun K hK => ?_)
        · go_simp
          go_at_call 16
          refine (hLv _ (hs.rd.ext hW)).mono ?_
          rintro e w4 ⟨tr, rfl, oR, hx⟩
          go_simp
          have hlo : wr.heap.size ≤ wd.heap.size := hW.size
          replace hBd := hBd.ext hx
          replace hW := hW.trans hx
          have kk5 := And.intro hBd.c3 ((hW.cell (p := ⟨bm, offm + i, none⟩) hbm2).trans hcm1)
          refine hK _ _ ⟨fun _ => kk5, ?_⟩
          clear hK K
          refine wpAnyT_takeL (i := 6) 7 (v := ?_) rfl (by kernel_rfl) (by kernel_rfl) (by kernel_rfl) (by kernel_rfl) (by kernel_rfl) (fun _ _ _ h => h) (Or.inl ⟨by rfl, ?_⟩) kk5 ?_
          rotate_left 1
          · (intro W hSw; (try dsimp only at hSw); go_simp) <;> with_reducible rfl
          try simp only [Act.put, List.setIfInBounds_toArray, List.set_cons_zero, List.set_cons_succ]
          refine wpAnyT_takeL (i := 7) 7 (v := ?_) rfl (by kernel_rfl) (by kernel_rfl) (by kernel_rfl) (by kernel_rfl) (by kernel_rfl) (fun _ _ _ h => h) (Or.inl ⟨by rfl, ?_⟩) kk5 ?_
          rotate_left 1
          · (intro W hSw; (try dsimp only at hSw); go_simp) <;> with_reducible rfl
          try simp only [Act.put, List.setIfInBounds_toArray, List.set_cons_zero, List.set_cons_succ]
          refine wpAnyT_takeL (i := 8) 7 (v := ?_) rfl (by kernel_rfl) (by kernel_rfl) (by kernel_rfl) (by kernel_rfl) (by kernel_rfl) (fun _ _ _ h => h) (Or.inl ⟨by rfl, ?_⟩) kk5 ?_
          rotate_left 1
          · (intro W hSw; (try dsimp only at hSw); go_simp) <;> with_reducible rfl
          try simp only [Act.put, List.setIfInBounds_toArray, List.set_cons_zero, List.set_cons_succ]
          clear hx
          refine wpAnyT_go (i := 9) rfl (by kernel_rfl) fun K hK => ?_
          go_simp
          have hx := (Ext.refl w4).alloc (.cells #[.slice none 0 0, .slice none 0 0, .slice none 0 0] 26)
          have BP := Blk.new w4 26 (#[.slice none 0 0, .slice none 0 0, .slice none 0 0])
          obtain ⟨bP, hb⟩ : ∃ b, b = w4.heap.size := ⟨_, rfl⟩
          have hne : ∀ k, blks tr k → k ≠ bP := fun k hk e => by have := (oR.lt hk).2; omega
          replace oR := oR.ext hx
          generalize hw : World.alloc w4 (.cells #[.slice none 0 0, .slice none 0 0, .slice none 0 0] 26) = w5 at hx BP oR ⊢
          rw [← hb] at BP ⊢
          have hbw : wr.heap.size ≤ bP := by have := hW.size; omega
          have hbo : bK ≠ bP := by omega
          replace hBd := hBd.ext hx
          replace hW := hW.trans hx
          refine hK _ _ ⟨fun _ => And.intro hBd.c3 ((hW.cell (p := ⟨bm, offm + i, none⟩) hbm2).trans hcm1), ?_⟩
          clear hK K kk5 hx hb hw
          refine wpAnyT_go (i := 10) rfl (by kernel_rfl) fun K hK => ?_
          obtain ⟨f0, f1, f2, f3, f4, f5⟩ := res3 BP
          go_simp
          refine hK _ _ ⟨fun _ => And.intro (((hBd.off bP 0 hbo _).off bP 1 hbo _).off bP 2 hbo _).c3 (((((hW.off bP 0 hbw _).off bP 1 hbw _).off bP 2 hbw _).cell (p := ⟨bm, offm + i, none⟩) hbm2).trans hcm1), ?_⟩
          clear hK K
          refine wpAnyT_go (i := 11) rfl (by kernel_rfl) fun K hK => ?_
          go_simp
          refine hK _ _ ⟨fun h => absurd rfl h, ?_⟩
          clear hK K
          refine wpAnyT_done (by kernel_rfl) ?_ _
          go_wp2_with fail
          go_meet
          exact ⟨bP, tr, rfl, rfl, ((BP.set_ 0 _).set_ 1 _).set_ 2 _, Own3.mono (((Own3.aw2 oR hne 0 _).aw2 hne 1 _).aw2 hne 2 _) hlo, ((hW.off bP 0 hbw _).off bP 1 hbw _).off bP 2 hbw _⟩
        · go_simp
          have hx := (Ext.refl wd).alloc (.cells #[.slice none 0 0, .slice none 0 0, .slice none 0 0] 26)
          have BP := Blk.new wd 26 (#[.slice none 0 0, .slice none 0 0, .slice none 0 0])
          obtain ⟨bP, hb⟩ : ∃ b, b = wd.heap.size := ⟨_, rfl⟩
          generalize hw : World.alloc wd (.cells #[.slice none 0 0, .slice none 0 0, .slice none 0 0] 26) = w4 at hx BP ⊢
          rw [← hb] at BP ⊢
          have hbw : wr.heap.size ≤ bP := by have := hW.size; omega
          have hbo : bK ≠ bP := by omega
          have hlo : wr.heap.size ≤ w4.heap.size := by have := hW.size; have := hx.size; omega
          have hbl := BP.lt
          replace hBd := hBd.ext hx
          replace hW := hW.trans hx
          refine hK _ _ ⟨fun _ => And.intro hBd.c3 ((hW.cell (p := ⟨bm, offm + i, none⟩) hbm2).trans hcm1), ?_⟩
          clear hK K hx hb hw
          refine wpAnyT_go (i := 5) rfl (by kernel_rfl) fun K hK => ?_
          go_simp
          go_at_call 16
          refine (hLv _ (hs.rd.ext hW)).mono ?_
          rintro e w5 ⟨tr, rfl, oR, hx⟩
          go_simp
          have hne : ∀ k, blks tr k → k ≠ bP := fun k hk e => by have := (oR.lt hk).1; omega
          replace BP := BP.ext hx
          replace hBd := hBd.ext hx
          replace hW := hW.trans hx
          have kk5 := And.intro hBd.c3 ((hW.cell (p := ⟨bm, offm + i, none⟩) hbm2).trans hcm1)
          refine hK _ _ ⟨fun _ => kk5, ?_⟩
          clear hK K
          refine wpAnyT_takeL (i := 6) 7 (v := ?_) rfl (by kernel_rfl) (by kernel_rfl) (by kernel_rfl) (by kernel_rfl) (by kernel_rfl) (fun _ _ _ h => h) (Or.inl ⟨by rfl, ?_⟩) kk5 ?_
          rotate_left 1
          · (intro W hSw; (try dsimp only at hSw); go_simp) <;> with_reducible rfl
          try simp only [Act.put, List.setIfInBounds_toArray, List.set_cons_zero, List.set_cons_succ]
          refine wpAnyT_takeL (i := 7) 7 (v := ?_) rfl (by kernel_rfl) (by kernel_rfl) (by kernel_rfl) (by kernel_rfl) (by kernel_rfl) (fun _ _ _ h => h) (Or.inl ⟨by rfl, ?_⟩) kk5 ?_
          rotate_left 1
          · (intro W hSw; (try dsimp only at hSw); go_simp) <;> with_reducible rfl
          try simp only [Act.put, List.setIfInBounds_toArray, List.set_cons_zero, List.set_cons_succ]
          refine wpAnyT_takeL (i := 8) 7 (v := ?_) rfl (by kernel_rfl) (by kernel_rfl) (by kernel_rfl) (by kernel_rfl) (by kernel_rfl) (fun _ _ _ h => h) (Or.inl ⟨by rfl, ?_⟩) kk5 ?_
          rotate_left 1
          · (intro W hSw; (try dsimp only at hSw); go_simp) <;> with_reducible rfl
          try simp only [Act.put, List.setIfInBounds_toArray, List.set_cons_zero, List.set_cons_succ]
          clear hx
          refine wpAnyT_go (i := 10) rfl (by kernel_rfl) fun K hK => ?_
          obtain ⟨f0, f1, f2, f3, f4, f5⟩ := res3 BP
          go_simp
          refine hK _ _ ⟨fun _ => And.intro (((hBd.off bP 0 hbo _).off bP 1 hbo _).off bP 2 hbo _).c3 (((((hW.off bP 0 hbw _).off bP 1 hbw _).off bP 2 hbw _).cell (p := ⟨bm, offm + i, none⟩) hbm2).trans hcm1), ?_⟩
          clear hK K
          refine wpAnyT_go (i := 11) rfl (by kernel_rfl) fun K hK => ?_
          go_simp
          refine hK _ _ ⟨fun h => absurd rfl h, ?_⟩
          clear hK K
          refine wpAnyT_done (by kernel_rfl) ?_ _
          go_wp2_with fail
          go_meet
          exact ⟨bP, tr, rfl, rfl, ((BP.set_ 0 _).set_ 1 _).set_ 2 _, Own3.mono (((Own3.aw2 oR hne 0 _).aw2 hne 1 _).aw2 hne 2 _) hlo, ((hW.off bP 0 hbw _).off bP 1 hbw _).off bP 2 hbw _⟩
      case rest =>
        obtain ⟨g, t, rfl, rfl, hN, h3, hx⟩ := hcut
        obtain ⟨wx, hwx⟩ : ∃ wx, wx = wc := ⟨_, rfl⟩
        subst hwx
        have hBx := hB.ext hx
        have hEx := hE.trans hx
        have hlw := hB.lt
        obtain ⟨v0, v1, v2⟩ := hN.c3
        obtain ⟨r0, r1, r2, r3, r4, r5⟩ := res3 hBx
        have hbE : w9.heap.size ≤ bK := by omega
        have h3s := ((h3.awayP (g := bK) (by omega) 0 (.slice t.x.A t.x.n t.x.c)).awayP (g := bK) (by omega) 1 (.slice t.y.A t.y.n t.y.c)).awayP (g := bK) (by omega) 2 (.slice t.z.A t.z.n t.z.c)
        have hss : StJ bK ⟨none, 0, 0⟩ t (lvV lc m) _ := StJ.own h3s (by omega) (fun k' hk' => by cases hk')
        have hBs := ((hBx.set_ 0 (.slice t.x.A t.x.n t.x.c)).set_ 1 (.slice t.y.A t.y.n t.y.c)).set_ 2 (.slice t.z.A t.z.n t.z.c)
        have hEs := ((hEx.off bK 0 hbE (.slice t.x.A t.x.n t.x.c)).off bK 1 hbE (.slice t.y.A t.y.n t.y.c)).off bK 2 hbE (.slice t.z.A t.z.n t.z.c)
        clear hcm1 hcm hLv q0 q1 q2
        go_wp2_with fail
        go_roundw
        case rel => exact ⟨i + 1, t, _, by go_num, by omega, hlc2, hss, hBs, hEs⟩
        case measure => simp [intOf]; omega
    · have hin : ¬ (i : Int) < (nt : Int) := by omega
      have hie : i = nt := by omega
      have hlf := hide (show lc = lvN l ms by rw [hlc.out, hie, hntl.out, List.take_length])
      have hqx := hs.rd.1.1
      have hkq : k < q.x.n := by rw [hqx, hlf.out, lvN_len]; omega
      obtain ⟨b2, o2, u2, hA2, hb2, hc2, hu2⟩ := hs.rd.1.el hkq
      have eu2 : u2 = u3 := by rw [eu9.out, List.getD_eq_getElem?_getD, ← hlf.out, hu2.out]; rfl
      subst eu2
      obtain ⟨⟨A2, n2, k2⟩, qy, qz⟩ := q
      simp only at hA2 hkq hqx
      subst hA2
      have hXf := hX.trans hE
      have hc0' := (hE.cell (p := ⟨b0, o0, none⟩) hb0).trans hc0
      have hc9' := (hE.cell (p := ⟨b0, o0 + (nh - 1), none⟩) hb0).trans hc9
      have hc1' := (hE.cell (p := ⟨b1, o1 + k, none⟩) hb1).trans hc1
      have hPE := hP.ext hE
      obtain ⟨p0, p1, p2⟩ := hPE.c3
      have hk0 : (0 : Int) ≤ (k : Int) := by omega
      have hk1 : (k : Int) < (n1 : Int) := by omega
      have hk2 : (k : Int) < (n2 : Int) := by omega
      have hn0 : (0 : Int) < (nh : Int) := by omega
      have hn1 : (0 : Int) ≤ (nh : Int) - 1 := by omega
      have hn2 : (nh : Int) - 1 < (nh : Int) := by omega
      have hnT : ((nh : Int) - 1).toNat = nh - 1 := by omega
      have hwn : IntKind.i64.wrap ((nh : Int) - 1) = (nh : Int) - 1 := Go.IntWalk.i64_in _ (by have := e1.out; have := hnb.out; omega)
      clear hc0 hc9 hc1 hP hqx hlx hpx hlc hie
      go_wp2_with fail
      go_quiet (fail)
      go_wp2_with fail
      go_ret
      exact ⟨rfl, hXf.drewN _⟩

theorem own_FnSeatHistories : ownKnob Try.prog.godebug = none := by kernel_rfl
set_option maxRecDepth 100000 in
theorem lifted_FnSeatHistories (os : Os) (started : os.Started) (H : Type) (enc : TypeId × Value → H) :
    ReturnsInHanded {} Try.checked os 3 .any (Rows.fnSeatHistoriesSpec.pre6 enc Try.prog Try.f3 Rows.fnSeatHistoriesRow.domain false) (Rows.fnSeatHistoriesSpec.post enc Try.prog Try.f3 false true false false) := by
  refine returnsInHanded_of_change (C := Try.checked) own_FnSeatHistories started (by kernel_rfl) Try.func3
    (ChangeSpec.witness6 (enc := enc) (C := Try.checked) false ⟨#[], #[.slice none 0 0], []⟩ 8 (by kernel_rfl) (by kernel_rfl) (by kernel_rfl) (by kernel_rfl)) ?_
  intro W base args ds gs before hval0 hW hcnd _
  have hval : ∀ (j : Nat) t v, Try.f3.params[j]? = some t → args[j]? = some v → Value.okWide Try.prog W .any base t v := hval0
  have hW' := hW
  obtain ⟨p, q, hA0, hV, rfl, hfz, hnd⟩ := hW
  have hA : DataW.TrodAll enc Try.prog W 0 (fun _ => true) true Try.f3.params.toList args.toList ds p := hA0
  rw [Try.params3] at hA hval
  obtain ⟨v0, vs0, d0, ds0, p0, q0, hargs, rfl, rfl, h0, r0⟩ := trodAll_cons hA
  obtain ⟨rfl, rfl, rfl⟩ := trodAll_nil r0
  obtain rfl : args = #[v0] := by cases args; simp_all
  obtain ⟨rfl, rfl⟩ := trodVars_none hV
  have k0 := h0
  have lt0 : ∀ x ∈ p0, x.block < W.heap.size := by obtain ⟨m, hm⟩ := k0; exact DataW.trod_lt m _ _ _ hm
  obtain ⟨s0, rfl, i0, c0⟩ := open_code (hval 0 22 v0 rfl rfl) h0 (fun _ => rfl)
  clear hA0 hval0
  refine (law_FnSeatHistories s0 W i0 c0).mono fun e W' ⟨he, bel⟩ => ?_
  subst he
  exact ⟨_, rfl, _, _, _, [], _, [], hW', trodAll_mk1 (shut_bool Try.underlying4 _), (trodAll_cons_mk (Below.trod laidOut (by kernel_rfl) (of_decide_eq_true (by kernel_rfl)) k0 bel lt0) trodAll_mk0), rfl, Below.frame bel _, fun h => by cases h⟩
theorem over_FnSeatHistories : Rows.fnSeatHistoriesRow.holds Try.pinned (OpenSpec.ofChange Rows.fnSeatHistoriesSpec) :=
  OpenClaim.holds_of_wide 3 Try.f3 rfl rfl rfl rfl rfl rfl rfl ⟨rfl, rfl, rfl, rfl, rfl⟩ rfl rfl rfl rfl rfl (by kernel_rfl) Try.func3 (by kernel_rfl)
    (of_decide_eq_true (by kernel_rfl)) (by unfold Func.isWrapper; first | (rw [if_pos (by decide +kernel)]; kernel_rfl) | (rw [if_neg (by decide +kernel)]; exact ⟨rfl, rfl⟩))
    (fun os started H enc _ => lifted_FnSeatHistories os started H enc)
/-- the statement -/
theorem proved_FnSeatHistories : Rows.FnSeatHistoriesSaid := over_FnSeatHistories
#print axioms proved_FnSeatHistories
end Go.Proofs.Ytkfjphjmffbpiaa.mem
