/-
  The law FnPanelTexts holds of the given program for every input: it returns true, and its argument reads as it did.
-/
import Derived.Test.YtfojfndmaofahaaGreatDoorDxP
import Derived.Test.YtfojfndmaofahaaGreatDoorInw
import Derived.Test.YtfojfndmaofahaaGreatDoorRpn
import Derived.Test.YtfojfndmaofahaaGreatDoorOpenC
import Derived.Test.YtfojfndmaofahaaGreatDoorLbS
import Derived.Test.YtfojfndmaofahaaGreatDoor3s
import Derived.Test.YtfojfndmaofahaaGreatDoorTie
import Derived.Test.YtfojfndmaofahaaGreatDoorCards
import Derived.SevenTiedAt
import Derived.LaidMore
import Derived.Stop.Joined
import Derived.HandedShaped
import Derived.Stop.LaidErr
import Derived.Lib.SmallJoins
import Derived.Lib.LaidTab
import Derived.Lay
import Derived.ChangeMaps5
namespace Go.Proofs.YtfojfndmaofahaaGreatDoor.mem
open Go.ChangeShapes Go.WideShapes Go.ChangeAt Go.RowKit
set_option linter.unusedVariables false
set_option maxRecDepth 20000 in
set_option maxHeartbeats 4000000 in
theorem law_FnPanelTexts (s : Sl) (w : World) (hb0 : RdB w s.A s.n) (hcap : cap1 s) (hL : Lb w) :
    Calls Tryz.prog 3 #[.slice s.A s.n s.c] w fun e w' => e = .returned (.bool true) ∧ Ext w w' := by
  have hX := Ext.refl w
  have hbig := laws.big_any s w hcap
  by_cases hs : 4096 < s.n
  · rw [decide_eq_true hs] at hbig
    clear hs
    go_enter Tryz.func3, Tryz.ntmps3
    go_wp2_with fail
    refine hbig.mono ?_
    rintro e w' ⟨rfl, rfl⟩
    go_wp2_with fail
    go_ret
    exact ⟨rfl, hX⟩
  rw [decide_eq_false hs] at hbig
  have hc : Code w s := ⟨hb0, by omega, hcap⟩
  clear hs hb0 hcap
  go_enter Tryz.func3, Tryz.ntmps3
  go_wp2_with fail
  refine hbig.mono ?_
  rintro e w' ⟨rfl, rfl⟩
  clear hbig
  go_wp2_with fail
  refine (spec.DrawPanelText_any s _ (hc.ext hX)).mono ?_
  rintro e w1 ⟨p, l, rfl, hp, hbd, hx⟩
  replace hX := hX.trans hx
  have hP := Blk.new w1 26 #[.slice p.x.A p.x.n p.x.c, .slice p.y.A p.y.n p.y.c, .slice p.z.A p.z.n p.z.c]
  replace hp := hp.alloc (.cells #[.slice p.x.A p.x.n p.x.c, .slice p.y.A p.y.n p.y.c, .slice p.z.A p.z.n p.z.c] 26)
  replace hX := hX.alloc (.cells #[.slice p.x.A p.x.n p.x.c, .slice p.y.A p.y.n p.y.c, .slice p.z.A p.z.n p.z.c] 26)
  obtain ⟨a0, a1, a2⟩ := hP.c3
  have hIb := hide (show (okP l != (ptC l == 0)) = false by unfold ptC; cases okP l <;> rfl)
  clear hx hbd
  go_wp2_with fail
  refine (impl.PanelText_any p l _ hp.rd (hL.ext hX).tab).mono ?_
  rintro e w2 ⟨rfl, hx⟩
  replace hX := hX.trans hx
  replace hP := hP.ext hx
  replace hp := hp.ext hx
  clear hx a0 a1 a2
  obtain ⟨a0, a1, a2⟩ := hP.c3
  go_wp2_with fail
  refine (spec.PanelText_any p l _ hp.rd).mono ?_
  rintro e w3 ⟨rfl, hx⟩
  replace hX := hX.trans hx
  replace hP := hP.ext hx
  replace hp := hp.ext hx
  clear hx a0 a1 a2
  go_wp2_with fail
  refine (spec.DrawReadPanel_any s _ (hc.ext hX)).mono ?_
  rintro e w4 ⟨u, rfl, hu, hx⟩
  replace hX := hX.trans hx
  replace hP := hP.ext hx
  replace hp := hp.ext hx
  clear hx
  go_wp2_with fail
  refine (impl.ReadPanel_any u _ (by omega) (hL.ext hX)).mono ?_
  rintro e w5 ⟨y, rfl, hy, hx⟩
  replace hX := hX.trans hx
  replace hP := hP.ext hx
  replace hp := hp.ext hx
  clear hx
  have hY := Blk.new w5 26 #[.slice y.x.A y.x.n y.x.c, .slice y.y.A y.y.n y.y.c, .slice y.z.A y.z.n y.z.c]
  replace hy := hy.alloc (.cells #[.slice y.x.A y.x.n y.x.c, .slice y.y.A y.y.n y.y.c, .slice y.z.A y.z.n y.z.c] 26)
  replace hp := hp.alloc (.cells #[.slice y.x.A y.x.n y.x.c, .slice y.y.A y.y.n y.y.c, .slice y.z.A y.z.n y.z.c] 26)
  replace hP := hP.alloc (.cells #[.slice y.x.A y.x.n y.x.c, .slice y.y.A y.y.n y.y.c, .slice y.z.A y.z.n y.z.c] 26)
  replace hX := hX.alloc (.cells #[.slice y.x.A y.x.n y.x.c, .slice y.y.A y.y.n y.y.c, .slice y.z.A y.z.n y.z.c] 26)
  go_wp2_with fail
  refine (spec.ReadPanel_any u _ (by omega)).mono ?_
  rintro e w6 ⟨z, rfl, hz, hx⟩
  replace hP := hP.ext hx
  replace hp := hp.ext hx
  replace hy := hy.ext hx
  replace hY := hY.ext hx
  replace hX := hX.trans hx
  clear hx
  have hZ := Blk.new w6 26 #[.slice z.x.A z.x.n z.x.c, .slice z.y.A z.y.n z.y.c, .slice z.z.A z.z.n z.z.c]
  replace hz := hz.alloc (.cells #[.slice z.x.A z.x.n z.x.c, .slice z.y.A z.y.n z.y.c, .slice z.z.A z.z.n z.z.c] 26)
  replace hy := hy.alloc (.cells #[.slice z.x.A z.x.n z.x.c, .slice z.y.A z.y.n z.y.c, .slice z.z.A z.z.n z.z.c] 26)
  replace hY := hY.alloc (.cells #[.slice z.x.A z.x.n z.x.c, .slice z.y.A z.y.n z.y.c, .slice z.z.A z.z.n z.z.c] 26)
  replace hp := hp.alloc (.cells #[.slice z.x.A z.x.n z.x.c, .slice z.y.A z.y.n z.y.c, .slice z.z.A z.z.n z.z.c] 26)
  replace hP := hP.alloc (.cells #[.slice z.x.A z.x.n z.x.c, .slice z.y.A z.y.n z.y.c, .slice z.z.A z.z.n z.z.c] 26)
  replace hX := hX.alloc (.cells #[.slice z.x.A z.x.n z.x.c, .slice z.y.A z.y.n z.y.c, .slice z.z.A z.z.n z.z.c] 26)
  obtain ⟨a0, a1, a2⟩ := hP.c3
  obtain ⟨b0, b1, b2⟩ := hY.c3
  obtain ⟨c0, c1, c2⟩ := hZ.c3
  go_wp2_with fail
  refine (likePanel_yes y z _ _ hy.rd hz.rd).mono ?_
  rintro e w7 ⟨rfl, hx⟩
  replace hP := hP.ext hx
  replace hp := hp.ext hx
  replace hy := hy.ext hx
  replace hY := hY.ext hx
  replace hX := hX.trans hx
  clear hx a0 a1 a2 b0 b1 b2 c0 c1 c2 hz hZ
  obtain ⟨a0, a1, a2⟩ := hP.c3
  go_wp2_with fail
  refine (impl.IsPanel_any p l _ hp.rd).mono ?_
  rintro e w8 ⟨rfl, hx⟩
  replace hP := hP.ext hx
  replace hp := hp.ext hx
  replace hy := hy.ext hx
  replace hY := hY.ext hx
  replace hX := hX.trans hx
  clear hx a0 a1 a2
  have hIc := hIb.out
  obtain ⟨a0, a1, a2⟩ := hP.c3
  obtain ⟨b0, b1, b2⟩ := hY.c3
  cases hok : okP l
  · have e1 := hide (pt_no hok)
    rw [e1.out.1]
    clear hok hIc
    cases hr : rpO u with
    | none =>
      have r1 := hide (show rpC u = 6 by unfold rpC; rw [hr]; rfl)
      clear hr
      rw [r1.out]
      go_wp2_with fail
      go_ret
      exact ⟨rfl, hX⟩
    | some l2 =>
      have r1 := hide (show rpC u = 0 by unfold rpC; rw [hr]; rfl)
      have r2 := hide (show rpV u = l2 by unfold rpV; rw [hr]; rfl)
      have r3 := hide (rpO_text hr)
      have r4 := hide (pt_yes r3.out.2)
      rw [r2.out] at hy
      have hag := impl.PanelText_any y l2 w8 hy.rd (hL.ext hX).tab
      rw [r4.out.1, r4.out.2, ← r3.out.1] at hag
      rw [r1.out]
      clear hr
      go_wp2_with fail
      refine hag.mono ?_
      rintro e w9 ⟨rfl, hx⟩
      replace hP := hP.ext hx
      replace hp := hp.ext hx
      replace hX := hX.trans hx
      clear hx hag hy hY b0 b1 b2 a0 a1 a2
      obtain ⟨a0, a1, a2⟩ := hP.c3
      go_wp2_with fail
      go_ret
      exact ⟨rfl, hX⟩
  · have e1 := hide (pt_yes hok)
    have e2 := hide (rpO_panT hok)
    have hsz := panT_sz hok
    rw [e1.out.1, e1.out.2]
    clear hok hIc
    cases hr : rpO u with
    | none =>
      have r1 := hide (show rpC u = 6 by unfold rpC; rw [hr]; rfl)
      clear hr
      rw [r1.out]
      have hrd := impl.ReadPanel_any (panT l) w8 (by omega) (hL.ext hX)
      unfold RpP rpC rpV at hrd
      rw [e2.out] at hrd
      simp only [Option.isSome_some, if_pos, Option.getD_some] at hrd
      go_wp2_with fail
      refine hrd.mono ?_
      rintro e w10 ⟨k, rfl, hk, hx⟩
      replace hP := hP.ext hx
      replace hp := hp.ext hx
      replace hX := hX.trans hx
      clear hx hrd a0 a1 a2
      have hK := Blk.new w10 26 #[.slice k.x.A k.x.n k.x.c, .slice k.y.A k.y.n k.y.c, .slice k.z.A k.z.n k.z.c]
      replace hk := hk.alloc (.cells #[.slice k.x.A k.x.n k.x.c, .slice k.y.A k.y.n k.y.c, .slice k.z.A k.z.n k.z.c] 26)
      replace hp := hp.alloc (.cells #[.slice k.x.A k.x.n k.x.c, .slice k.y.A k.y.n k.y.c, .slice k.z.A k.z.n k.z.c] 26)
      replace hP := hP.alloc (.cells #[.slice k.x.A k.x.n k.x.c, .slice k.y.A k.y.n k.y.c, .slice k.z.A k.z.n k.z.c] 26)
      replace hX := hX.alloc (.cells #[.slice k.x.A k.x.n k.x.c, .slice k.y.A k.y.n k.y.c, .slice k.z.A k.z.n k.z.c] 26)
      obtain ⟨a0, a1, a2⟩ := hP.c3
      obtain ⟨d0, d1, d2⟩ := hK.c3
      go_wp2_with fail
      refine (likePanel_yes k p _ _ hk.rd hp.rd).mono ?_
      rintro e w11 ⟨rfl, hx⟩
      replace hX := hX.trans hx
      go_wp2_with fail
      go_ret
      exact ⟨rfl, hX⟩
    | some l2 =>
      have r1 := hide (show rpC u = 0 by unfold rpC; rw [hr]; rfl)
      have r2 := hide (show rpV u = l2 by unfold rpV; rw [hr]; rfl)
      have r3 := hide (rpO_text hr)
      have r4 := hide (pt_yes r3.out.2)
      rw [r2.out] at hy
      have hag := impl.PanelText_any y l2 w8 hy.rd (hL.ext hX).tab
      rw [r4.out.1, r4.out.2, ← r3.out.1] at hag
      rw [r1.out]
      clear hr
      go_wp2_with fail
      refine hag.mono ?_
      rintro e w9 ⟨rfl, hx⟩
      replace hP := hP.ext hx
      replace hp := hp.ext hx
      replace hX := hX.trans hx
      clear hx hag hy hY b0 b1 b2 a0 a1 a2
      obtain ⟨a0, a1, a2⟩ := hP.c3
      have hrd := impl.ReadPanel_any (panT l) w9 (by omega) (hL.ext hX)
      unfold RpP rpC rpV at hrd
      rw [e2.out] at hrd
      simp only [Option.isSome_some, if_pos, Option.getD_some] at hrd
      go_wp2_with fail
      refine hrd.mono ?_
      rintro e w10 ⟨k, rfl, hk, hx⟩
      replace hP := hP.ext hx
      replace hp := hp.ext hx
      replace hX := hX.trans hx
      clear hx hrd a0 a1 a2
      have hK := Blk.new w10 26 #[.slice k.x.A k.x.n k.x.c, .slice k.y.A k.y.n k.y.c, .slice k.z.A k.z.n k.z.c]
      replace hk := hk.alloc (.cells #[.slice k.x.A k.x.n k.x.c, .slice k.y.A k.y.n k.y.c, .slice k.z.A k.z.n k.z.c] 26)
      replace hp := hp.alloc (.cells #[.slice k.x.A k.x.n k.x.c, .slice k.y.A k.y.n k.y.c, .slice k.z.A k.z.n k.z.c] 26)
      replace hP := hP.alloc (.cells #[.slice k.x.A k.x.n k.x.c, .slice k.y.A k.y.n k.y.c, .slice k.z.A k.z.n k.z.c] 26)
      replace hX := hX.alloc (.cells #[.slice k.x.A k.x.n k.x.c, .slice k.y.A k.y.n k.y.c, .slice k.z.A k.z.n k.z.c] 26)
      obtain ⟨a0, a1, a2⟩ := hP.c3
      obtain ⟨d0, d1, d2⟩ := hK.c3
      go_wp2_with fail
      refine (likePanel_yes k p _ _ hk.rd hp.rd).mono ?_
      rintro e w11 ⟨rfl, hx⟩
      replace hX := hX.trans hx
      go_wp2_with fail
      go_ret
      exact ⟨rfl, hX⟩

theorem own_FnPanelTexts : ownKnob Tryz.prog.godebug = none := by kernel_rfl
theorem laid_FnPanelTexts {W : World} (h : laidMetH Tryz.prog (Rows.fnPanelTextsRow.laid) W) : laidMet Tryz.prog (Rows.fnPanelTextsRow.laid) W := by
  rw [MakeChecks.laidMetH_plain _ _ _ (by kernel_rfl)] at h
  exact h
/-- a world that holds what the row lists: the door's own run -/
theorem met_3 (os : Os) (args : Array Value) : laidMetH Tryz.prog (Rows.fnPanelTextsRow.laid) ((World.laidAll Tryz.prog os (Rows.fnPanelTextsRow.laid)).forCall (fun _ _ => 0) ⟨#[], args, []⟩).memory := by
  rw [MakeChecks.laidMetH_plain _ _ _ (by kernel_rfl)]; exact laidMet_laidAll _ (by kernel_rfl) (by kernel_rfl)
set_option maxRecDepth 100000 in
theorem lifted_3 (os : Os) (started : os.Started) (H : Type) (enc : TypeId × Value → H) :
    ReturnsInHanded {} Tryz.checked os 3 .any (fun w args => (Rows.fnPanelTextsSpec.pre enc Tryz.prog Tryz.f3 [] false w args ∧ laidMetH Tryz.prog (Rows.fnPanelTextsRow.laid) w) ∧ sizedMet enc Tryz.prog Tryz.f3 (OpenSpec.ofChange Rows.fnPanelTextsSpec) false w args)
      (Rows.fnPanelTextsSpec.post enc Tryz.prog Tryz.f3 false true false false) := by
  refine handed_both (C := Tryz.checked) (X := fun w _ => laidMetH Tryz.prog (Rows.fnPanelTextsRow.laid) w) (fun _ _ _ hh h => h.of_heap hh) own_FnPanelTexts started (by kernel_rfl) Tryz.func3
    (ChangeSpec.witness_shaped (enc := enc) (C := Tryz.checked) (os := os) (X := fun w _ => laidMetH Tryz.prog (Rows.fnPanelTextsRow.laid) w) false (World.laidAll Tryz.prog os (Rows.fnPanelTextsRow.laid)) #[.slice none 0 0] 8 (World.laidAll_os _ _ _) (World.shaped_of_ZipB (by kernel_rfl) (by kernel_rfl)) (by kernel_rfl) (by kernel_rfl) (by kernel_rfl) (met_3 os _)) ?_
  intro W base args ds gs before hval0 hW hL hShp
  have hval : ∀ (j : Nat) t v, Tryz.f3.params[j]? = some t → args[j]? = some v → Value.okWide Tryz.prog W .any base t v := hval0
  have hW' := hW
  obtain ⟨p, q, hA0, hV, rfl, hfz, hnd⟩ := hW
  have hA : DataW.TrodAll enc Tryz.prog W 0 (fun _ => true) true Tryz.f3.params.toList args.toList ds p := hA0
  rw [Tryz.params3] at hA hval
  obtain ⟨v0, vs0, d0, ds0, p0, q0, hargs, rfl, rfl, h0, r0⟩ := trodAll_cons hA
  obtain ⟨rfl, rfl, rfl⟩ := trodAll_nil r0
  obtain rfl : args = #[v0] := by cases args; simp_all
  obtain ⟨rfl, rfl⟩ := trodVars_none hV
  have k0 := h0
  have lt0 : ∀ x ∈ p0, x.block < W.heap.size := by obtain ⟨m, hm⟩ := k0; exact DataW.trod_lt m _ _ _ hm
  obtain ⟨s0, rfl, i0, c0⟩ := open_code (hval 0 22 v0 rfl rfl) h0 (fun _ => rfl)
  clear hA0 hval0
  refine (law_FnPanelTexts s0 W i0 c0 (Lb.of_list (laid_FnPanelTexts hL) hShp)).mono fun e W' ⟨he, bel⟩ => ?_
  subst he
  exact ⟨_, rfl, _, _, _, [], _, [], hW', trodAll_mk1 (shut_bool Tryz.underlying4 _), (trodAll_cons_mk (Below.trod laidOut (by kernel_rfl) (of_decide_eq_true (by kernel_rfl)) k0 bel lt0) trodAll_mk0), rfl, Below.frame bel _, fun h => by cases h⟩
theorem over_FnPanelTexts : Rows.FnPanelTextsSaid :=
  OpenClaim.holds_of_wide 3 Tryz.f3 rfl rfl rfl rfl rfl rfl rfl ⟨rfl, rfl, rfl, rfl, rfl⟩ rfl rfl rfl rfl rfl (by kernel_rfl) Tryz.func3 (by kernel_rfl)
    (of_decide_eq_true (by kernel_rfl)) (by unfold Func.isWrapper; first | (rw [if_pos (by decide +kernel)]; kernel_rfl) | (rw [if_neg (by decide +kernel)]; exact ⟨rfl, rfl⟩))
    (fun os started H enc _ => lifted_3 os started H enc)
/-- the statement: the tied card -/
theorem proved_FnPanelTexts : Rows.FnPanelTextsCardSaid :=
  Claim7.holds_tied_plain_at .later [] _ true _ _
    over_FnPanelTexts (fun _ h => by cases h) (by kernel_rfl) (fun _ h => by cases h) fnPanelTexts_row_tie rfl ⟨rfl, rfl⟩ (by kernel_rfl) rfl
    (fun f fn hf hfn => by
      obtain rfl : f = 3 := Option.some.inj ((show Tryz.prog.funcNamed Rows.fnPanelTextsRow.func = some 3 by kernel_rfl).symm.trans hf) |>.symm
      obtain rfl : fn = Tryz.f3 := (Option.some.inj (Tryz.func3.symm.trans hfn)).symm
      exact ⟨by kernel_rfl, fun j t ht => by
        have hall : (Tryz.f3.params.toList.all fun u => !Tryz.prog.wantsStandIn u) = true := by kernel_rfl
        have hm : t ∈ Tryz.f3.params.toList := by simpa using Array.mem_of_getElem? ht
        exact (show Tryz.prog.wantsStandIn t = false by simpa using List.all_eq_true.1 hall t hm)⟩)
    (by kernel_rfl)
#print axioms proved_FnPanelTexts
end Go.Proofs.YtfojfndmaofahaaGreatDoor.mem
