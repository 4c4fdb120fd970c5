/-
  The law FnMoveTexts holds of the given program for every input: it returns true, and its argument reads as it did.
-/
import Derived.Test.YtfojfndmaofahaaDoorDxM
import Derived.Test.YtfojfndmaofahaaDoorInw
import Derived.Test.YtfojfndmaofahaaDoorRli
import Derived.Test.YtfojfndmaofahaaDoorOpenC
import Derived.Test.YtfojfndmaofahaaDoorLbS
import Derived.Test.YtfojfndmaofahaaDoorLik
import Derived.Test.YtfojfndmaofahaaDoorTie
import Derived.Test.YtfojfndmaofahaaDoorCards
import Derived.SevenTiedAt
import Derived.LaidMore
import Derived.Stop.Joined
import Derived.HandedShaped
import Derived.Stop.LaidErr
import Derived.Lib.SmallJoins
import Derived.Lib.LaidTab
import Derived.Lay
import Derived.ChangeMaps5
namespace Go.Proofs.YtfojfndmaofahaaDoor.mem
open Go.ChangeShapes Go.WideShapes Go.ChangeAt Go.RowKit
set_option linter.unusedVariables false
set_option maxRecDepth 20000 in
set_option maxHeartbeats 4000000 in
theorem law_FnMoveTexts (s : Sl) (w : World) (hb0 : RdB w s.A s.n) (hcap : cap1 s) (hL : Lb w) :
    Calls Tryd.prog 3 #[.slice s.A s.n s.c] w fun e w' => e = .returned (.bool true) ∧ Ext w w' := by
  have hX := Ext.refl w
  have hbig := laws.big_any s w hcap
  by_cases hs : 4096 < s.n
  · rw [decide_eq_true hs] at hbig
    clear hs
    go_enter Tryd.func3, Tryd.ntmps3
    go_wp2_with fail
    refine hbig.mono ?_
    rintro e w' ⟨rfl, rfl⟩
    go_wp2_with fail
    go_ret
    exact ⟨rfl, hX⟩
  rw [decide_eq_false hs] at hbig
  have hc : Code w s := ⟨hb0, by omega, hcap⟩
  clear hs hb0 hcap
  go_enter Tryd.func3, Tryd.ntmps3
  go_wp2_with fail
  refine hbig.mono ?_
  rintro e w' ⟨rfl, rfl⟩
  clear hbig
  go_wp2_with fail
  refine (spec.DrawMovesText_any s _ (hc.ext hX)).mono ?_
  rintro e w1 ⟨p, l, rfl, hp, hm, hl, hx⟩
  replace hX := hX.trans hx
  clear hx
  go_wp2_with fail
  refine (impl.MovesText_any p l _ hp.rd).mono ?_
  rintro e w2 ⟨rfl, hx⟩
  replace hX := hX.trans hx
  replace hp := hp.ext hx
  clear hx
  go_wp2_with fail
  refine (spec.MovesText_any p l _ hp.rd).mono ?_
  rintro e w3 ⟨rfl, hx⟩
  replace hX := hX.trans hx
  replace hp := hp.ext hx
  clear hx
  go_wp2_with fail
  refine (spec.DrawReadMoves_any s _ (hc.ext hX)).mono ?_
  rintro e w4 ⟨u, rfl, hu, hx⟩
  replace hX := hX.trans hx
  replace hp := hp.ext hx
  clear hx
  go_wp2_with fail
  refine (impl.ReadMoves_any u _ (by omega) (hL.ext hX)).mono ?_
  rintro e w5 ⟨y, rfl, hy, hx⟩
  replace hX := hX.trans hx
  replace hp := hp.ext hx
  clear hx
  go_wp2_with fail
  refine (spec.ReadMoves_any u _ (by omega)).mono ?_
  rintro e w6 ⟨z, rfl, hz, hx⟩
  replace hX := hX.trans hx
  replace hp := hp.ext hx
  replace hy := hy.ext hx
  clear hx
  go_wp2_with fail
  refine (likeInts_yes y z _ _ hy.rd hz.rd).mono ?_
  rintro e w7 ⟨rfl, hx⟩
  replace hX := hX.trans hx
  replace hp := hp.ext hx
  replace hy := hy.ext hx
  clear hx hz
  by_cases hok : mtC l = 0
  · have e1 := hide (mt_yes hok)
    have e2 := hide (rmO_mvsT e1.out.2.1 e1.out.2.2)
    have hsz := mvsT_szM e1.out.2.1 e1.out.2.2
    rw [hok, e1.out.1]
    clear hok
    cases hr : rmO u with
    | none =>
      have r1 := hide (show rmC u = 6 by unfold rmC; rw [hr]; rfl)
      clear hr
      rw [r1.out]
      have hrd := impl.ReadMoves_any (mvsT l) w7 (by omega) (hL.ext hX)
      unfold RmP rmC rmV at hrd
      rw [e2.out] at hrd
      simp only [Option.isSome_some, if_pos, Option.getD_some] at hrd
      go_wp2_with fail
      refine hrd.mono ?_
      rintro e w10 ⟨k, rfl, hk, hx⟩
      replace hp := hp.ext hx
      replace hX := hX.trans hx
      clear hx hrd
      go_wp2_with fail
      refine (likeInts_yes k p _ _ hk.rd hp.rd).mono ?_
      rintro e w11 ⟨rfl, hx⟩
      replace hX := hX.trans hx
      go_wp2_with fail
      go_ret
      exact ⟨rfl, hX⟩
    | some l2 =>
      have r1 := hide (show rmC u = 0 by unfold rmC; rw [hr]; rfl)
      have r2 := hide (show rmV u = l2 by unfold rmV; rw [hr]; rfl)
      have r3 := hide (rmO_text hr)
      have r4 := hide (mt_of (rmO_ok hr).1 (rmO_ok hr).2)
      rw [r2.out] at hy
      have hag := impl.MovesText_any y l2 w7 hy.rd
      rw [r4.out.1, r4.out.2, ← r3.out] at hag
      rw [r1.out]
      clear hr
      go_wp2_with fail
      refine hag.mono ?_
      rintro e w9 ⟨rfl, hx⟩
      replace hp := hp.ext hx
      replace hX := hX.trans hx
      clear hx hag hy
      have hrd := impl.ReadMoves_any (mvsT l) w9 (by omega) (hL.ext hX)
      unfold RmP rmC rmV at hrd
      rw [e2.out] at hrd
      simp only [Option.isSome_some, if_pos, Option.getD_some] at hrd
      go_wp2_with fail
      refine hrd.mono ?_
      rintro e w10 ⟨k, rfl, hk, hx⟩
      replace hp := hp.ext hx
      replace hX := hX.trans hx
      clear hx hrd
      go_wp2_with fail
      refine (likeInts_yes k p _ _ hk.rd hp.rd).mono ?_
      rintro e w11 ⟨rfl, hx⟩
      replace hX := hX.trans hx
      go_wp2_with fail
      go_ret
      exact ⟨rfl, hX⟩
  · have e1 : (mtC l == 0) = false := by rw [beq_eq_false_iff_ne]; exact hok
    have e2 : (mtC l != 0) = true := by rw [bne_iff_ne]; exact hok
    clear hok
    cases hr : rmO u with
    | none =>
      have r1 := hide (show rmC u = 6 by unfold rmC; rw [hr]; rfl)
      clear hr
      rw [r1.out]
      go_wp2_with fail
      go_ret
      exact ⟨rfl, hX⟩
    | some l2 =>
      have r1 := hide (show rmC u = 0 by unfold rmC; rw [hr]; rfl)
      have r2 := hide (show rmV u = l2 by unfold rmV; rw [hr]; rfl)
      have r3 := hide (rmO_text hr)
      have r4 := hide (mt_of (rmO_ok hr).1 (rmO_ok hr).2)
      rw [r2.out] at hy
      have hag := impl.MovesText_any y l2 w7 hy.rd
      rw [r4.out.1, r4.out.2, ← r3.out] at hag
      rw [r1.out]
      clear hr
      go_wp2_with fail
      refine hag.mono ?_
      rintro e w9 ⟨rfl, hx⟩
      replace hp := hp.ext hx
      replace hX := hX.trans hx
      clear hx hag hy
      go_wp2_with fail
      go_ret
      exact ⟨rfl, hX⟩

theorem own_FnMoveTexts : ownKnob Tryd.prog.godebug = none := by kernel_rfl
theorem laid_FnMoveTexts {W : World} (h : laidMetH Tryd.prog (Rows.fnMoveTextsRow.laid) W) : laidMet Tryd.prog (Rows.fnMoveTextsRow.laid) W := by
  rw [MakeChecks.laidMetH_plain _ _ _ (by kernel_rfl)] at h
  exact h
/-- a world that holds what the row lists: the door's own run -/
theorem met_3 (os : Os) (args : Array Value) : laidMetH Tryd.prog (Rows.fnMoveTextsRow.laid) ((World.laidAll Tryd.prog os (Rows.fnMoveTextsRow.laid)).forCall (fun _ _ => 0) ⟨#[], args, []⟩).memory := by
  rw [MakeChecks.laidMetH_plain _ _ _ (by kernel_rfl)]; exact laidMet_laidAll _ (by kernel_rfl) (by kernel_rfl)
set_option maxRecDepth 100000 in
theorem lifted_3 (os : Os) (started : os.Started) (H : Type) (enc : TypeId × Value → H) :
    ReturnsInHanded {} Tryd.checked os 3 .any (fun w args => (Rows.fnMoveTextsSpec.pre enc Tryd.prog Tryd.f3 [] false w args ∧ laidMetH Tryd.prog (Rows.fnMoveTextsRow.laid) w) ∧ sizedMet enc Tryd.prog Tryd.f3 (OpenSpec.ofChange Rows.fnMoveTextsSpec) false w args)
      (Rows.fnMoveTextsSpec.post enc Tryd.prog Tryd.f3 false true false false) := by
  refine handed_both (C := Tryd.checked) (X := fun w _ => laidMetH Tryd.prog (Rows.fnMoveTextsRow.laid) w) (fun _ _ _ hh h => h.of_heap hh) own_FnMoveTexts started (by kernel_rfl) Tryd.func3
    (ChangeSpec.witness_shaped (enc := enc) (C := Tryd.checked) (os := os) (X := fun w _ => laidMetH Tryd.prog (Rows.fnMoveTextsRow.laid) w) false (World.laidAll Tryd.prog os (Rows.fnMoveTextsRow.laid)) #[.slice none 0 0] 8 (World.laidAll_os _ _ _) (World.shaped_of_ZipB (by kernel_rfl) (by kernel_rfl)) (by kernel_rfl) (by kernel_rfl) (by kernel_rfl) (met_3 os _)) ?_
  intro W base args ds gs before hval0 hW hL hShp
  have hval : ∀ (j : Nat) t v, Tryd.f3.params[j]? = some t → args[j]? = some v → Value.okWide Tryd.prog W .any base t v := hval0
  have hW' := hW
  obtain ⟨p, q, hA0, hV, rfl, hfz, hnd⟩ := hW
  have hA : DataW.TrodAll enc Tryd.prog W 0 (fun _ => true) true Tryd.f3.params.toList args.toList ds p := hA0
  rw [Tryd.params3] at hA hval
  obtain ⟨v0, vs0, d0, ds0, p0, q0, hargs, rfl, rfl, h0, r0⟩ := trodAll_cons hA
  obtain ⟨rfl, rfl, rfl⟩ := trodAll_nil r0
  obtain rfl : args = #[v0] := by cases args; simp_all
  obtain ⟨rfl, rfl⟩ := trodVars_none hV
  have k0 := h0
  have lt0 : ∀ x ∈ p0, x.block < W.heap.size := by obtain ⟨m, hm⟩ := k0; exact DataW.trod_lt m _ _ _ hm
  obtain ⟨s0, rfl, i0, c0⟩ := open_code (hval 0 22 v0 rfl rfl) h0 (fun _ => rfl)
  clear hA0 hval0
  refine (law_FnMoveTexts s0 W i0 c0 (Lb.of_list (laid_FnMoveTexts hL) hShp)).mono fun e W' ⟨he, bel⟩ => ?_
  subst he
  exact ⟨_, rfl, _, _, _, [], _, [], hW', trodAll_mk1 (shut_bool Tryd.underlying4 _), (trodAll_cons_mk (Below.trod laidOut (by kernel_rfl) (of_decide_eq_true (by kernel_rfl)) k0 bel lt0) trodAll_mk0), rfl, Below.frame bel _, fun h => by cases h⟩
theorem over_FnMoveTexts : Rows.FnMoveTextsSaid :=
  OpenClaim.holds_of_wide 3 Tryd.f3 rfl rfl rfl rfl rfl rfl rfl ⟨rfl, rfl, rfl, rfl, rfl⟩ rfl rfl rfl rfl rfl (by kernel_rfl) Tryd.func3 (by kernel_rfl)
    (of_decide_eq_true (by kernel_rfl)) (by unfold Func.isWrapper; first | (rw [if_pos (by decide +kernel)]; kernel_rfl) | (rw [if_neg (by decide +kernel)]; exact ⟨rfl, rfl⟩))
    (fun os started H enc _ => lifted_3 os started H enc)
/-- the statement: the tied card -/
theorem proved_FnMoveTexts : Rows.FnMoveTextsCardSaid :=
  Claim7.holds_tied_plain_at .later [] _ true _ _
    over_FnMoveTexts (fun _ h => by cases h) (by kernel_rfl) (fun _ h => by cases h) fnMoveTexts_row_tie rfl ⟨rfl, rfl⟩ (by kernel_rfl) rfl
    (fun f fn hf hfn => by
      obtain rfl : f = 3 := Option.some.inj ((show Tryd.prog.funcNamed Rows.fnMoveTextsRow.func = some 3 by kernel_rfl).symm.trans hf) |>.symm
      obtain rfl : fn = Tryd.f3 := (Option.some.inj (Tryd.func3.symm.trans hfn)).symm
      exact ⟨by kernel_rfl, fun j t ht => by
        have hall : (Tryd.f3.params.toList.all fun u => !Tryd.prog.wantsStandIn u) = true := by kernel_rfl
        have hm : t ∈ Tryd.f3.params.toList := by simpa using Array.mem_of_getElem? ht
        exact (show Tryd.prog.wantsStandIn t = false by simpa using List.all_eq_true.1 hall t hm)⟩)
    (by kernel_rfl)
#print axioms proved_FnMoveTexts
end Go.Proofs.YtfojfndmaofahaaDoor.mem
