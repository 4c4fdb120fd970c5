/-
  The law FnCleared holds of the given program for every input: it returns true, and its argument reads as it did.
-/
import Derived.Test.YtmcnnbjgehmmoaaDxD
import Derived.Test.YtmcnnbjgehmmoaaClC
import Derived.Test.YtmcnnbjgehmmoaaOpenC
import Derived.Test.Ytmcnnbjgehmmoaa3s
import Derived.Test.YtmcnnbjgehmmoaaInts
import Derived.Test.YtmcnnbjgehmmoaaCauD
import Derived.Test.YtmcnnbjgehmmoaaFit
namespace Go.Proofs.Ytmcnnbjgehmmoaa.mem
open Go.ChangeShapes Go.WideShapes Go.ChangeAt Go.RowKit
set_option linter.unusedVariables false
set_option maxRecDepth 20000 in
set_option maxHeartbeats 24000000 in
theorem law_FnCleared (s : Sl) (w : World) (hb0 : RdB w s.A s.n) (hcap : cap1 s) :
    Calls Try.prog 6 #[.slice s.A s.n s.c] w fun e w' => e = .returned (.bool true) ∧ Ext w w' := by
  have hX := Ext.refl w
  have hbig := laws.big_any s w hcap
  by_cases hs : 4096 < s.n
  · rw [decide_eq_true hs] at hbig
    clear hs
    go_enter Try.func6, Try.ntmps6
    go_wp2_with fail
    refine hbig.mono ?_
    rintro e w' ⟨rfl, rfl⟩
    go_wp2_with fail
    go_ret
    exact ⟨rfl, hX⟩
  rw [decide_eq_false hs] at hbig
  have hc : Code w s := ⟨hb0, by omega, hcap⟩
  clear hs hb0 hcap
  go_enter Try.func6, Try.ntmps6
  go_wp2_with fail
  refine hbig.mono ?_
  rintro e w' ⟨rfl, rfl⟩
  clear hbig
  go_wp2_with fail
  refine (spec.DrawClearPanel_any s _ (hc.ext hX)).mono ?_
  rintro e w1 ⟨t, ts, u, us, p, l, rfl, hT, op, hx⟩
  replace hX := hX.trans hx
  clear hx
  have hP := Blk.new w1 50 (#[.slice p.x.A p.x.n p.x.c, .slice p.y.A p.y.n p.y.c, .slice p.z.A p.z.n p.z.c])
  replace hT := hT.alloc (.cells #[.slice p.x.A p.x.n p.x.c, .slice p.y.A p.y.n p.y.c, .slice p.z.A p.z.n p.z.c] 50)
  replace op := op.alloc (.cells #[.slice p.x.A p.x.n p.x.c, .slice p.y.A p.y.n p.y.c, .slice p.z.A p.z.n p.z.c] 50)
  replace hX := hX.alloc (.cells #[.slice p.x.A p.x.n p.x.c, .slice p.y.A p.y.n p.y.c, .slice p.z.A p.z.n p.z.c] 50)
  obtain ⟨qhP0, qhP1, qhP2⟩ := hP.c3
  obtain ⟨F, hF⟩ : ∃ F, F = fitC ts us l := ⟨_, rfl⟩
  obtain ⟨V, hV⟩ : ∃ V, V = fitV ts us l := ⟨_, rfl⟩
  have hg1 := fun W (h : TpR W t ts u us) => impl.ClearPanel_any t ts u us p l W h.1 h.2.2.1
  have hg2 := fun W (h : TpR W t ts u us) => spec.ClearPanel_any t ts u us p l W h.1 h.2.2.1
  have hg3 := fun W (h : TpR W t ts u us) => impl.FitFor_any t ts u us p l W h.1 h.2.2.1
  have hg4 := fun W (h : TpR W t ts u us) => spec.FitFor_any t ts u us p l W h.1 h.2.2.1
  have hcp := hT.2.1
  have hF0 : F = 0 → okK ts us = true ∧ okP l = true := fun e => fitC_ok (hF.symm.trans e)
  have hV0 : Hid (V = fitV ts us l) := hide hV
  simp only [← hF, ← hV] at hg1 hg2 hg3 hg4
  clear hF hV
  replace hF0 := hide hF0
  go_wp2_with fail
  refine (hg1 _ hT op.rd hcp).mono ?_
  rintro e w2 ⟨q, rfl, oq, hx⟩
  clear qhP0 qhP1 qhP2
  replace hT := hT.ext hx
  replace op := op.ext hx
  replace hP := hP.ext hx
  replace hX := hX.trans hx
  clear hx
  have hQ := Blk.new w2 50 (#[.slice q.x.A q.x.n q.x.c, .slice q.y.A q.y.n q.y.c, .slice q.z.A q.z.n q.z.c])
  replace hT := hT.alloc (.cells #[.slice q.x.A q.x.n q.x.c, .slice q.y.A q.y.n q.y.c, .slice q.z.A q.z.n q.z.c] 50)
  replace op := op.alloc (.cells #[.slice q.x.A q.x.n q.x.c, .slice q.y.A q.y.n q.y.c, .slice q.z.A q.z.n q.z.c] 50)
  replace oq := oq.alloc (.cells #[.slice q.x.A q.x.n q.x.c, .slice q.y.A q.y.n q.y.c, .slice q.z.A q.z.n q.z.c] 50)
  replace hP := hP.alloc (.cells #[.slice q.x.A q.x.n q.x.c, .slice q.y.A q.y.n q.y.c, .slice q.z.A q.z.n q.z.c] 50)
  replace hX := hX.alloc (.cells #[.slice q.x.A q.x.n q.x.c, .slice q.y.A q.y.n q.y.c, .slice q.z.A q.z.n q.z.c] 50)
  obtain ⟨qhP0, qhP1, qhP2⟩ := hP.c3
  obtain ⟨qhQ0, qhQ1, qhQ2⟩ := hQ.c3
  go_wp2_with fail
  refine (hg2 _ hT op.rd).mono ?_
  rintro e w3 ⟨m, rfl, om, hx⟩
  clear qhP0 qhP1 qhP2 qhQ0 qhQ1 qhQ2
  replace hT := hT.ext hx
  replace op := op.ext hx
  replace oq := oq.ext hx
  replace hP := hP.ext hx
  replace hQ := hQ.ext hx
  replace hX := hX.trans hx
  clear hx
  have hM := Blk.new w3 50 (#[.slice m.x.A m.x.n m.x.c, .slice m.y.A m.y.n m.y.c, .slice m.z.A m.z.n m.z.c])
  replace hT := hT.alloc (.cells #[.slice m.x.A m.x.n m.x.c, .slice m.y.A m.y.n m.y.c, .slice m.z.A m.z.n m.z.c] 50)
  replace op := op.alloc (.cells #[.slice m.x.A m.x.n m.x.c, .slice m.y.A m.y.n m.y.c, .slice m.z.A m.z.n m.z.c] 50)
  replace oq := oq.alloc (.cells #[.slice m.x.A m.x.n m.x.c, .slice m.y.A m.y.n m.y.c, .slice m.z.A m.z.n m.z.c] 50)
  replace om := om.alloc (.cells #[.slice m.x.A m.x.n m.x.c, .slice m.y.A m.y.n m.y.c, .slice m.z.A m.z.n m.z.c] 50)
  replace hP := hP.alloc (.cells #[.slice m.x.A m.x.n m.x.c, .slice m.y.A m.y.n m.y.c, .slice m.z.A m.z.n m.z.c] 50)
  replace hQ := hQ.alloc (.cells #[.slice m.x.A m.x.n m.x.c, .slice m.y.A m.y.n m.y.c, .slice m.z.A m.z.n m.z.c] 50)
  replace hX := hX.alloc (.cells #[.slice m.x.A m.x.n m.x.c, .slice m.y.A m.y.n m.y.c, .slice m.z.A m.z.n m.z.c] 50)
  obtain ⟨qhP0, qhP1, qhP2⟩ := hP.c3
  obtain ⟨qhQ0, qhQ1, qhQ2⟩ := hQ.c3
  obtain ⟨qhM0, qhM1, qhM2⟩ := hM.c3
  go_wp2_with fail
  refine (hg3 _ hT op.rd hcp).mono ?_
  rintro e w4 ⟨rfl, hx⟩
  clear qhP0 qhP1 qhP2 qhQ0 qhQ1 qhQ2 qhM0 qhM1 qhM2
  replace hT := hT.ext hx
  replace op := op.ext hx
  replace oq := oq.ext hx
  replace om := om.ext hx
  replace hP := hP.ext hx
  replace hQ := hQ.ext hx
  replace hM := hM.ext hx
  replace hX := hX.trans hx
  clear hx
  obtain ⟨qhP0, qhP1, qhP2⟩ := hP.c3
  obtain ⟨qhQ0, qhQ1, qhQ2⟩ := hQ.c3
  obtain ⟨qhM0, qhM1, qhM2⟩ := hM.c3
  go_wp2_with fail
  refine (hg4 _ hT op.rd).mono ?_
  rintro e w5 ⟨rfl, hx⟩
  clear qhP0 qhP1 qhP2 qhQ0 qhQ1 qhQ2 qhM0 qhM1 qhM2
  replace hT := hT.ext hx
  replace op := op.ext hx
  replace oq := oq.ext hx
  replace om := om.ext hx
  replace hP := hP.ext hx
  replace hQ := hQ.ext hx
  replace hM := hM.ext hx
  replace hX := hX.trans hx
  clear hx
  obtain ⟨qhP0, qhP1, qhP2⟩ := hP.c3
  obtain ⟨qhQ0, qhQ1, qhQ2⟩ := hQ.c3
  obtain ⟨qhM0, qhM1, qhM2⟩ := hM.c3
  clear hg1 hg2 hg3 hg4
  go_wp2_with fail
  refine (spec.DrawBiasedOf_any s _ (hc.ext hX)).mono ?_
  rintro e w6 ⟨t2, ts2, u2, us2, rfl, hT2, hx⟩
  clear qhP0 qhP1 qhP2 qhQ0 qhQ1 qhQ2 qhM0 qhM1 qhM2
  replace hT := hT.ext hx
  replace op := op.ext hx
  replace oq := oq.ext hx
  replace om := om.ext hx
  replace hP := hP.ext hx
  replace hQ := hQ.ext hx
  replace hM := hM.ext hx
  replace hX := hX.trans hx
  clear hx
  obtain ⟨qhP0, qhP1, qhP2⟩ := hP.c3
  obtain ⟨qhQ0, qhQ1, qhQ2⟩ := hQ.c3
  obtain ⟨qhM0, qhM1, qhM2⟩ := hM.c3
  obtain ⟨C2, hC⟩ : ∃ C, C = okcC ts2 us2 := ⟨_, rfl⟩
  obtain ⟨TB, hTB⟩ : ∃ b, b = tieB ts2 := ⟨_, rfl⟩
  have hg1 := fun W (h : TpR W t2 ts2 u2 us2) => impl.BiasedOf_any t2 ts2 u2 us2 W h.1 h.2.2.1 h.2.1
  have hg2 := fun W (h : TpR W t2 ts2 u2 us2) => spec.BiasedOf_any t2 ts2 u2 us2 W h.1 h.2.2.1
  have hg3 := fun W (h : TpR W t2 ts2 u2 us2) => impl.CountKinds_any t2 ts2 u2 us2 W h.1 h.2.2.1 h.2.1
  have hg4 := fun W (h : TpR W t2 ts2 u2 us2) => spec.CountKinds_any t2 ts2 u2 us2 W h.1 h.2.2.1
  have hg5 := fun W (h : TpR W t2 ts2 u2 us2) => impl.AreTies_any t2 ts2 W h.1 h.2.1
  have hg6 := fun W (h : TpR W t2 ts2 u2 us2) => spec.AreTies_any t2 ts2 W h.1
  have hC0 : C2 = 0 → okK ts2 us2 = true := fun e => by
    rw [hC] at e
    unfold okcC at e
    by_cases c : okK ts2 us2 = true
    · exact c
    · rw [if_neg c] at e; cases e
  simp only [← hC, ← hTB] at hg1 hg2 hg3 hg4 hg5 hg6
  clear hC hTB
  replace hC0 := hide hC0
  go_wp2_with fail
  refine (hg1 _ hT2).mono ?_
  rintro e w7 ⟨b, rfl, ob, hx⟩
  clear qhP0 qhP1 qhP2 qhQ0 qhQ1 qhQ2 qhM0 qhM1 qhM2
  replace hT := hT.ext hx
  replace op := op.ext hx
  replace oq := oq.ext hx
  replace om := om.ext hx
  replace hT2 := hT2.ext hx
  replace hP := hP.ext hx
  replace hQ := hQ.ext hx
  replace hM := hM.ext hx
  replace hX := hX.trans hx
  clear hx
  obtain ⟨qhP0, qhP1, qhP2⟩ := hP.c3
  obtain ⟨qhQ0, qhQ1, qhQ2⟩ := hQ.c3
  obtain ⟨qhM0, qhM1, qhM2⟩ := hM.c3
  go_wp2_with fail
  refine (hg2 _ hT2).mono ?_
  rintro e w8 ⟨bm, rfl, obm, hx⟩
  clear qhP0 qhP1 qhP2 qhQ0 qhQ1 qhQ2 qhM0 qhM1 qhM2
  replace hT := hT.ext hx
  replace op := op.ext hx
  replace oq := oq.ext hx
  replace om := om.ext hx
  replace hT2 := hT2.ext hx
  replace ob := ob.ext hx
  replace hP := hP.ext hx
  replace hQ := hQ.ext hx
  replace hM := hM.ext hx
  replace hX := hX.trans hx
  clear hx
  obtain ⟨qhP0, qhP1, qhP2⟩ := hP.c3
  obtain ⟨qhQ0, qhQ1, qhQ2⟩ := hQ.c3
  obtain ⟨qhM0, qhM1, qhM2⟩ := hM.c3
  go_wp2_with fail
  refine (hg3 _ hT2).mono ?_
  rintro e w9 ⟨kk, rfl, ok, hx⟩
  clear qhP0 qhP1 qhP2 qhQ0 qhQ1 qhQ2 qhM0 qhM1 qhM2
  replace hT := hT.ext hx
  replace op := op.ext hx
  replace oq := oq.ext hx
  replace om := om.ext hx
  replace hT2 := hT2.ext hx
  replace ob := ob.ext hx
  replace obm := obm.ext hx
  replace hP := hP.ext hx
  replace hQ := hQ.ext hx
  replace hM := hM.ext hx
  replace hX := hX.trans hx
  clear hx
  obtain ⟨qhP0, qhP1, qhP2⟩ := hP.c3
  obtain ⟨qhQ0, qhQ1, qhQ2⟩ := hQ.c3
  obtain ⟨qhM0, qhM1, qhM2⟩ := hM.c3
  go_wp2_with fail
  refine (hg4 _ hT2).mono ?_
  rintro e w10 ⟨km, rfl, okm, hx⟩
  clear qhP0 qhP1 qhP2 qhQ0 qhQ1 qhQ2 qhM0 qhM1 qhM2
  replace hT := hT.ext hx
  replace op := op.ext hx
  replace oq := oq.ext hx
  replace om := om.ext hx
  replace hT2 := hT2.ext hx
  replace ob := ob.ext hx
  replace obm := obm.ext hx
  replace ok := ok.ext hx
  replace hP := hP.ext hx
  replace hQ := hQ.ext hx
  replace hM := hM.ext hx
  replace hX := hX.trans hx
  clear hx
  obtain ⟨qhP0, qhP1, qhP2⟩ := hP.c3
  obtain ⟨qhQ0, qhQ1, qhQ2⟩ := hQ.c3
  obtain ⟨qhM0, qhM1, qhM2⟩ := hM.c3
  go_wp2_with fail
  refine (likePanel_yes q m _ _ oq.rd om.rd).mono ?_
  rintro e w11 ⟨rfl, hx⟩
  clear qhP0 qhP1 qhP2 qhQ0 qhQ1 qhQ2 qhM0 qhM1 qhM2
  replace hT := hT.ext hx
  replace op := op.ext hx
  replace oq := oq.ext hx
  replace om := om.ext hx
  replace hT2 := hT2.ext hx
  replace ob := ob.ext hx
  replace obm := obm.ext hx
  replace ok := ok.ext hx
  replace okm := okm.ext hx
  replace hP := hP.ext hx
  replace hQ := hQ.ext hx
  replace hM := hM.ext hx
  replace hX := hX.trans hx
  clear hx
  obtain ⟨qhP0, qhP1, qhP2⟩ := hP.c3
  obtain ⟨qhQ0, qhQ1, qhQ2⟩ := hQ.c3
  obtain ⟨qhM0, qhM1, qhM2⟩ := hM.c3
  go_wp2_with fail
  refine (likeInts_yes b bm _ _ ob.rd obm.rd).mono ?_
  rintro e w12 ⟨rfl, hx⟩
  clear qhP0 qhP1 qhP2 qhQ0 qhQ1 qhQ2 qhM0 qhM1 qhM2
  replace hT := hT.ext hx
  replace op := op.ext hx
  replace oq := oq.ext hx
  replace om := om.ext hx
  replace hT2 := hT2.ext hx
  replace ob := ob.ext hx
  replace obm := obm.ext hx
  replace ok := ok.ext hx
  replace okm := okm.ext hx
  replace hP := hP.ext hx
  replace hQ := hQ.ext hx
  replace hM := hM.ext hx
  replace hX := hX.trans hx
  clear hx
  obtain ⟨qhP0, qhP1, qhP2⟩ := hP.c3
  obtain ⟨qhQ0, qhQ1, qhQ2⟩ := hQ.c3
  obtain ⟨qhM0, qhM1, qhM2⟩ := hM.c3
  go_wp2_with fail
  refine (likeInts_yes kk km _ _ ok.rd okm.rd).mono ?_
  rintro e w13 ⟨rfl, hx⟩
  clear qhP0 qhP1 qhP2 qhQ0 qhQ1 qhQ2 qhM0 qhM1 qhM2
  replace hT := hT.ext hx
  replace op := op.ext hx
  replace oq := oq.ext hx
  replace om := om.ext hx
  replace hT2 := hT2.ext hx
  replace ob := ob.ext hx
  replace obm := obm.ext hx
  replace ok := ok.ext hx
  replace okm := okm.ext hx
  replace hP := hP.ext hx
  replace hQ := hQ.ext hx
  replace hM := hM.ext hx
  replace hX := hX.trans hx
  clear hx
  obtain ⟨qhP0, qhP1, qhP2⟩ := hP.c3
  obtain ⟨qhQ0, qhQ1, qhQ2⟩ := hQ.c3
  obtain ⟨qhM0, qhM1, qhM2⟩ := hM.c3
  go_wp2_with fail
  refine (hg5 _ hT2).mono ?_
  rintro e w14 ⟨rfl, hx⟩
  clear qhP0 qhP1 qhP2 qhQ0 qhQ1 qhQ2 qhM0 qhM1 qhM2
  replace hT := hT.ext hx
  replace op := op.ext hx
  replace oq := oq.ext hx
  replace om := om.ext hx
  replace hT2 := hT2.ext hx
  replace ob := ob.ext hx
  replace obm := obm.ext hx
  replace ok := ok.ext hx
  replace okm := okm.ext hx
  replace hP := hP.ext hx
  replace hQ := hQ.ext hx
  replace hM := hM.ext hx
  replace hX := hX.trans hx
  clear hx
  obtain ⟨qhP0, qhP1, qhP2⟩ := hP.c3
  obtain ⟨qhQ0, qhQ1, qhQ2⟩ := hQ.c3
  obtain ⟨qhM0, qhM1, qhM2⟩ := hM.c3
  go_wp2_with fail
  refine (hg6 _ hT2).mono ?_
  rintro e w15 ⟨rfl, hx⟩
  clear qhP0 qhP1 qhP2 qhQ0 qhQ1 qhQ2 qhM0 qhM1 qhM2
  replace hT := hT.ext hx
  replace op := op.ext hx
  replace oq := oq.ext hx
  replace om := om.ext hx
  replace hT2 := hT2.ext hx
  replace ob := ob.ext hx
  replace obm := obm.ext hx
  replace ok := ok.ext hx
  replace okm := okm.ext hx
  replace hP := hP.ext hx
  replace hQ := hQ.ext hx
  replace hM := hM.ext hx
  replace hX := hX.trans hx
  clear hx
  obtain ⟨qhP0, qhP1, qhP2⟩ := hP.c3
  obtain ⟨qhQ0, qhQ1, qhQ2⟩ := hQ.c3
  obtain ⟨qhM0, qhM1, qhM2⟩ := hM.c3
  clear hg1 hg2 hg3 hg4 hg5 hg6 om obm ok okm hM qhP0 qhP1 qhP2 qhQ0 qhQ1 qhQ2 qhM0 qhM1 qhM2
  have hb2 := fun W n (h : TpR W t2 ts2 u2 us2) => impl.IsBiased_any t2 ts2 u2 us2 n W h.1 h.2.2.1 h.2.1
  have hb1 := fun W n (h : TpR W t ts u us) => impl.IsBiased_any t ts u us n W h.1 h.2.2.1 h.2.1
  obtain ⟨wz, hwz⟩ : ∃ wz, wz = w15 := ⟨_, rfl⟩
  rw [← hwz] at hT op hP oq hQ hT2 ob hX ⊢
  clear hwz
  have hq0 := hide (fun (e : F = 0) => clrV_yes (ts := ts) (us := us) (l := l) (by have h1 := hF0.out e; unfold fitC; rw [if_pos h1]))
  go_upto_block 0 with fail
  go_cut [24, 25, 26] (fun _ _ _ wx => Ext wz wx)
  case first => as_aux_lemma =>
    clear hT op hP oq hQ hX hb1 hq0 hF0 hV0 hcp hc
    obtain ⟨Ab, nb, cb⟩ := b
    have hob := ob.rd
    have hnb := hob.le
    simp only at hob hnb
    by_cases hC : C2 = 0
    · have hok := hide (hC0.out hC)
      subst hC
      clear hC0 ob
      go_wp2_with fail
      go_loopw [24, 25, 26] (fun i _ _ wr => ∃ k : Nat, k ≤ nb ∧ i = .int .i64 k ∧ Ext wz wr) (fun i _ _ _ => nb - (intOf i).toNat)
      case atStart => exact ⟨0, by omega, rfl, Ext.refl _⟩
      case round =>
        obtain ⟨k, hk, rfl, hx⟩ := hrel
        by_cases hlt : k < nb
        · obtain ⟨b, off, x, rfl, hbl, hc1, hxx⟩ := (hob.ext hx).el hlt
          have hh := hb2 _ x (hT2.ext hx)
          obtain ⟨e1, e2⟩ := bof_at hok.out hxx.out
          rw [e1, e2] at hh
          clear e1 e2 hxx
          go_wp2_with fail
          refine hh.mono ?_
          rintro e w' ⟨rfl, hx1⟩
          go_wp2_with fail
          go_roundw
          case rel => exact ⟨k + 1, by omega, by go_num, hx.trans hx1⟩
          case measure => simp [intOf]; omega
        · go_wp2_with fail
          go_meet
          exact hx
    · have hb : (C2 == 0) = false := by rw [beq_eq_false_iff_ne]; exact hC
      clear hC hC0 ob
      go_wp2_with fail
      go_loopw [24, 25, 26] (fun i _ _ wr => i = .int .i64 0 ∧ wr = wz) (fun i _ _ _ => 0)
      case atStart => exact ⟨rfl, rfl⟩
      case round =>
        obtain ⟨rfl, rfl⟩ := hrel
        go_wp2_with fail
        go_meet
        exact Ext.refl _
  case rest => as_aux_lemma =>
    have hxc := hcut
    clear hT2 ob hC0 hb2 hcut
    replace hT := hT.ext hxc
    replace op := op.ext hxc
    replace hP := hP.ext hxc
    replace oq := oq.ext hxc
    replace hQ := hQ.ext hxc
    replace hX := hX.trans hxc
    obtain ⟨wy, hwy⟩ : ∃ wy, wy = wc := ⟨_, rfl⟩
    rw [← hwy] at hT op hP oq hQ hX ⊢
    clear hwy hxc
    obtain ⟨qhP0, qhP1, qhP2⟩ := hP.c3
    obtain ⟨qhQ0, qhQ1, qhQ2⟩ := hQ.c3
    by_cases hF : F = 0
    case neg =>
      have hb : (F != 0) = true := by rw [bne_iff_ne]; exact hF
      clear hF hF0 hq0 hV0 hT op oq hP hQ hb1
      go_wp2_with fail
      go_ret
      exact ⟨rfl, hX⟩
    obtain ⟨hkk, hll⟩ := hF0.out hF
    rw [hq0.out hF] at oq
    obtain ⟨f1, f2⟩ := fit_same hkk hll
    have hok2 := clr_ok (B := biaB ts us) l hll
    have hno := clr_no (B := biaB ts us) l
    obtain ⟨gs, hgs, hgB⟩ := clr_gone (B := biaB ts us) l
    have hin := okP_in hok2
    obtain ⟨lq, hlq⟩ : ∃ lq, lq = clr (biaB ts us) l := ⟨_, rfl⟩
    rw [← hlq] at oq f1 f2 hok2 hno hgs hin
    clear hlq
    have hs0 : okC lq = 0 := by unfold okC; rw [if_pos hok2]
    have hs1 : seatedV lq = nz lq.x := by unfold seatedV; rw [if_pos hok2]
    have hg1 := fun W (h : Rd3 W q lq) => impl.SeatedOf_any q lq W h
    have hg2 := fun W (h : Rd3 W q lq) => spec.SeatedOf_any q lq W h
    have hg3 := fun W (h : TpR W t ts u us) (hq : Rd3 W q lq) => impl.FitFor_any t ts u us q lq W h.1 h.2.2.1 hq h.2.1
    simp only [hs0, hs1] at hg1 hg2
    simp only [f1, f2, ← hV0.out] at hg3
    have hbs : ∀ x ∈ nz lq.x, codC ts us x = 0 ∧ biaV ts us x = false := fun x hx => by
      obtain ⟨h1, h2⟩ := biaV_at hkk (hin x (by unfold allP; exact List.mem_append_left _ hx))
      exact ⟨h1, by rw [h2]; exact hno x hx⟩
    have hbg : ∀ (k : Nat) (x : Int), l.z.length ≤ k → lq.z[k]? = some x → codC ts us x = 0 ∧ biaV ts us x = true := fun k x hk hx => by
      have hm : x ∈ lq.z := List.mem_of_getElem? hx
      obtain ⟨h1, h2⟩ := biaV_at hkk (hin x (by unfold allP; exact List.mem_append_right _ (List.mem_append_right _ hm)))
      refine ⟨h1, ?_⟩
      rw [h2]
      rw [hgs, List.getElem?_append_right hk] at hx
      exact hgB x (List.mem_of_getElem? hx)
    replace hbs := hide hbs
    replace hbg := hide hbg
    have hzl : l.z.length ≤ lq.z.length := by rw [hgs, List.length_append]; omega
    subst hF
    clear hF0 hq0 hV0 hkk hll f1 f2 hok2 hno hgs hgB hin hs0 hs1
    go_wp2_with fail
    refine (hg1 _ oq.rd).mono ?_
    rintro e w1 ⟨a1, rfl, oa, hx⟩
    clear qhP0 qhP1 qhP2 qhQ0 qhQ1 qhQ2
    replace hT := hT.ext hx
    replace op := op.ext hx
    replace hP := hP.ext hx
    replace oq := oq.ext hx
    replace hQ := hQ.ext hx
    replace hX := hX.trans hx
    clear hx
    obtain ⟨qhP0, qhP1, qhP2⟩ := hP.c3
    obtain ⟨qhQ0, qhQ1, qhQ2⟩ := hQ.c3
    go_wp2_with fail
    refine (hg2 _ oq.rd).mono ?_
    rintro e w2 ⟨a2, rfl, oa2, hx⟩
    clear qhP0 qhP1 qhP2 qhQ0 qhQ1 qhQ2
    replace hT := hT.ext hx
    replace op := op.ext hx
    replace hP := hP.ext hx
    replace oq := oq.ext hx
    replace hQ := hQ.ext hx
    replace oa := oa.ext hx
    replace hX := hX.trans hx
    clear hx
    obtain ⟨qhP0, qhP1, qhP2⟩ := hP.c3
    obtain ⟨qhQ0, qhQ1, qhQ2⟩ := hQ.c3
    go_wp2_with fail
    refine (likeInts_yes a1 a2 _ _ oa.rd oa2.rd).mono ?_
    rintro e w3 ⟨rfl, hx⟩
    clear qhP0 qhP1 qhP2 qhQ0 qhQ1 qhQ2
    replace hT := hT.ext hx
    replace op := op.ext hx
    replace hP := hP.ext hx
    replace oq := oq.ext hx
    replace hQ := hQ.ext hx
    replace oa := oa.ext hx
    replace hX := hX.trans hx
    clear hx
    obtain ⟨qhP0, qhP1, qhP2⟩ := hP.c3
    obtain ⟨qhQ0, qhQ1, qhQ2⟩ := hQ.c3
    clear hg1 hg2 oa2
    have har := oa.rd
    have opz := op.rd.2.2.1
    have oqz := oq.rd.2.2.1
    have oqr := oq.rd
    clear oa op oq
    obtain ⟨Aa, na, ca⟩ := a1
    have hna := har.le
    simp only at har hna
    have hpl : Hid (p.z.n = l.z.length) := hide opz.1
    have hql : Hid (q.z.n = lq.z.length) := hide oqz.1
    obtain ⟨w4, hw4⟩ : ∃ w4, w4 = w3 := ⟨_, rfl⟩
    rw [← hw4] at hT hP hQ hX har opz oqz oqr qhP0 qhP1 qhP2 qhQ0 qhQ1 qhQ2 ⊢
    clear hw4
    go_wp2_with fail
    go_loopw [31, 32, 33] (fun i _ _ wr => ∃ k : Nat, k ≤ na ∧ i = .int .i64 k ∧ Ext w4 wr) (fun i _ _ _ => na - (intOf i).toNat)
    case atStart => exact ⟨0, by omega, rfl, Ext.refl _⟩
    case round =>
      clear qhP0 qhP1 qhP2 qhQ0 qhQ1 qhQ2
      obtain ⟨k, hk, rfl, hx⟩ := hrel
      by_cases hlt : k < na
      · obtain ⟨b, off, x, rfl, hbl, hc1, hxx⟩ := (har.ext hx).el hlt
        have hh := hb1 _ x (hT.ext hx)
        obtain ⟨e1, e2⟩ := hbs.out x (List.mem_of_getElem? hxx.out)
        rw [e1, e2] at hh
        clear e1 e2 hxx
        go_wp2_with fail
        refine hh.mono ?_
        rintro e w' ⟨rfl, hx1⟩
        go_wp2_with fail
        go_roundw
        case rel => exact ⟨k + 1, by omega, by go_num, hx.trans hx1⟩
        case measure => simp [intOf]; omega
      · clear har hbs
        replace hT := hT.ext hx
        replace hP := hP.ext hx
        replace hQ := hQ.ext hx
        replace oqz := oqz.ext hx
        replace oqr := oqr.ext hx
        replace hX := hX.trans hx
        clear hx opz
        obtain ⟨w5, hw5⟩ : ∃ w5, w5 = wr := ⟨_, rfl⟩
        rw [← hw5] at hT hP hQ hX oqz oqr ⊢
        clear hw5
        obtain ⟨qhP0, qhP1, qhP2⟩ := hP.c3
        obtain ⟨qhQ0, qhQ1, qhQ2⟩ := hQ.c3
        obtain ⟨np, hnp⟩ : ∃ np, np = p.z.n := ⟨_, rfl⟩
        rw [← hnp] at qhP2 hpl
        clear hnp
        obtain ⟨qx, qy, Az, nz', cz⟩ := q
        simp only at oqz hql
        have hnz := oqz.le
        have hpz : np ≤ nz' := by have h1 := hpl.out; have h2 := hql.out; omega
        go_wp2_with fail
        go_loopw [34, 35, 36] (fun i _ _ wr => ∃ k : Nat, np ≤ k ∧ k ≤ nz' ∧ i = .int .i64 k ∧ Ext w5 wr) (fun i _ _ _ => nz' - (intOf i).toNat)
        case atStart => exact ⟨np, Nat.le_refl _, hpz, rfl, Ext.refl _⟩
        case round =>
          clear qhP0 qhP1 qhP2 qhQ0 qhQ1 qhQ2
          obtain ⟨k, hk0, hk, rfl, hx⟩ := hrel
          have hQ2 := hQ.ext hx
          obtain ⟨qhQ0, qhQ1, qhQ2⟩ := hQ2.c3
          by_cases hlt : k < nz'
          · obtain ⟨b, off, x, rfl, hbl, hc1, hxx⟩ := (oqz.ext hx).el hlt
            have hh := hb1 _ x (hT.ext hx)
            obtain ⟨e1, e2⟩ := hbg.out k x (by have := hpl.out; omega) hxx.out
            rw [e1, e2] at hh
            clear e1 e2 hxx hQ2
            go_wp2_with fail
            refine hh.mono ?_
            rintro e w' ⟨rfl, hx1⟩
            go_wp2_with fail
            go_roundw
            case rel => exact ⟨k + 1, by omega, by omega, by go_num, hx.trans hx1⟩
            case measure => simp [intOf]; omega
          · clear hbg hb1
            have hh := hg3 _ (hT.ext hx) (oqr.ext hx)
            clear hg3
            go_wp2_with fail
            refine hh.mono ?_
            rintro e w6 ⟨rfl, hx1⟩
            replace hX := (hX.trans hx).trans hx1
            clear qhQ0 qhQ1 qhQ2 hQ2
            go_wp2_with fail
            go_ret
            exact ⟨rfl, hX⟩

theorem own_FnCleared : ownKnob Try.prog.godebug = none := by kernel_rfl
set_option maxRecDepth 100000 in
theorem lifted_FnCleared (os : Os) (started : os.Started) (H : Type) (enc : TypeId × Value → H) :
    ReturnsInHanded {} Try.checked os 6 .any (Rows.fnClearedSpec.pre6 enc Try.prog Try.f6 Rows.fnClearedRow.domain false) (Rows.fnClearedSpec.post enc Try.prog Try.f6 false true false false) := by
  refine returnsInHanded_of_change (C := Try.checked) own_FnCleared started (by kernel_rfl) Try.func6
    (ChangeSpec.witness6 (enc := enc) (C := Try.checked) false ⟨#[], #[.slice none 0 0], []⟩ 8 (by kernel_rfl) (by kernel_rfl) (by kernel_rfl) (by kernel_rfl)) ?_
  intro W base args ds gs before hval0 hW hcnd _
  have hval : ∀ (j : Nat) t v, Try.f6.params[j]? = some t → args[j]? = some v → Value.okWide Try.prog W .any base t v := hval0
  have hW' := hW
  obtain ⟨p, q, hA0, hV, rfl, hfz, hnd⟩ := hW
  have hA : DataW.TrodAll enc Try.prog W 0 (fun _ => true) true Try.f6.params.toList args.toList ds p := hA0
  rw [Try.params6] at hA hval
  obtain ⟨v0, vs0, d0, ds0, p0, q0, hargs, rfl, rfl, h0, r0⟩ := trodAll_cons hA
  obtain ⟨rfl, rfl, rfl⟩ := trodAll_nil r0
  obtain rfl : args = #[v0] := by cases args; simp_all
  obtain ⟨rfl, rfl⟩ := trodVars_none hV
  have k0 := h0
  have lt0 : ∀ x ∈ p0, x.block < W.heap.size := by obtain ⟨m, hm⟩ := k0; exact DataW.trod_lt m _ _ _ hm
  obtain ⟨s0, rfl, i0, c0⟩ := open_code (hval 0 22 v0 rfl rfl) h0 (fun _ => rfl)
  clear hA0 hval0
  refine (law_FnCleared s0 W i0 c0).mono fun e W' ⟨he, bel⟩ => ?_
  subst he
  exact ⟨_, rfl, _, _, _, [], _, [], hW', trodAll_mk1 (shut_bool Try.underlying4 _), (trodAll_cons_mk (Below.trod laidOut (by kernel_rfl) (of_decide_eq_true (by kernel_rfl)) k0 bel lt0) trodAll_mk0), rfl, Below.frame bel _, fun h => by cases h⟩
theorem over_FnCleared : Rows.fnClearedRow.holds Try.pinned (OpenSpec.ofChange Rows.fnClearedSpec) :=
  OpenClaim.holds_of_wide 6 Try.f6 rfl rfl rfl rfl rfl rfl rfl ⟨rfl, rfl, rfl, rfl, rfl⟩ rfl rfl rfl rfl rfl (by kernel_rfl) Try.func6 (by kernel_rfl)
    (of_decide_eq_true (by kernel_rfl)) (by unfold Func.isWrapper; first | (rw [if_pos (by decide +kernel)]; kernel_rfl) | (rw [if_neg (by decide +kernel)]; exact ⟨rfl, rfl⟩))
    (fun os started H enc _ => lifted_FnCleared os started H enc)
/-- the statement -/
theorem proved_FnCleared : Rows.FnClearedSaid := over_FnCleared
#print axioms proved_FnCleared
end Go.Proofs.Ytmcnnbjgehmmoaa.mem
