/-
  The law FnRecordTexts holds of the given program for every input: it returns true, and its argument reads as it did.
-/
import Derived.Test.YtfojfndmaofahaaGreatDoorDxR
import Derived.Test.YtfojfndmaofahaaGreatDoorInw
import Derived.Test.YtfojfndmaofahaaGreatDoorRr
import Derived.Test.YtfojfndmaofahaaGreatDoorOpenC
import Derived.Test.YtfojfndmaofahaaGreatDoorLbS
import Derived.Test.YtfojfndmaofahaaGreatDoorRecMk
import Derived.Test.YtfojfndmaofahaaGreatDoorTie
import Derived.Test.YtfojfndmaofahaaGreatDoorCards
import Derived.SevenTiedAt
import Derived.LaidMore
import Derived.Stop.Joined
import Derived.HandedShaped
import Derived.Stop.LaidErr
import Derived.Lib.SmallJoins
import Derived.Lib.LaidTab
import Derived.Lay
import Derived.ChangeMaps5
namespace Go.Proofs.YtfojfndmaofahaaGreatDoor.mem
open Go.ChangeShapes Go.WideShapes Go.ChangeAt Go.RowKit
set_option linter.unusedVariables false
set_option maxRecDepth 20000 in
set_option maxHeartbeats 4000000 in
theorem law_FnRecordTexts (s : Sl) (w : World) (hb0 : RdB w s.A s.n) (hcap : cap1 s) (hL : Lb w) :
    Calls Tryz.prog 5 #[.slice s.A s.n s.c] w fun e w' => e = .returned (.bool true) ∧ Ext w w' := by
  have hX := Ext.refl w
  have hbig := laws.big_any s w hcap
  by_cases hs : 4096 < s.n
  · rw [decide_eq_true hs] at hbig
    clear hs
    go_enter Tryz.func5, Tryz.ntmps5
    go_wp2_with fail
    refine hbig.mono ?_
    rintro e w' ⟨rfl, rfl⟩
    go_wp2_with fail
    go_ret
    exact ⟨rfl, hX⟩
  rw [decide_eq_false hs] at hbig
  have hc : Code w s := ⟨hb0, by omega, hcap⟩
  clear hs hb0 hcap
  go_enter Tryz.func5, Tryz.ntmps5
  go_wp2_with fail
  refine hbig.mono ?_
  rintro e w' ⟨rfl, rfl⟩
  clear hbig
  go_wp2_with fail
  refine (spec.DrawRecordText_any s _ (hc.ext hX)).mono ?_
  rintro e w1 ⟨p, l, rfl, hp, hbd, hx⟩
  replace hX := hX.trans hx
  have hP := Blk.new w1 36 #[.int .i64 p.a, .int .i64 p.b, .int .i64 p.c, .slice p.p.x.A p.p.x.n p.p.x.c, .int .i64 p.d, .slice p.p.y.A p.p.y.n p.p.y.c, .slice p.p.z.A p.p.z.n p.p.z.c, .int .i64 p.e, .int .i64 p.f]
  replace hp := hp.alloc (.cells #[.int .i64 p.a, .int .i64 p.b, .int .i64 p.c, .slice p.p.x.A p.p.x.n p.p.x.c, .int .i64 p.d, .slice p.p.y.A p.p.y.n p.p.y.c, .slice p.p.z.A p.p.z.n p.p.z.c, .int .i64 p.e, .int .i64 p.f] 36)
  replace hX := hX.alloc (.cells #[.int .i64 p.a, .int .i64 p.b, .int .i64 p.c, .slice p.p.x.A p.p.x.n p.p.x.c, .int .i64 p.d, .slice p.p.y.A p.p.y.n p.p.y.c, .slice p.p.z.A p.p.z.n p.p.z.c, .int .i64 p.e, .int .i64 p.f] 36)
  obtain ⟨a0, a1, a2, a3, a4, a5, a6, a7, a8⟩ := hP.c9
  have hIb := hide (show (okR l != (rtC l == 0)) = false by unfold rtC; cases okR l <;> rfl)
  clear hx hbd
  go_wp2_with fail
  refine (impl.RecordText_any p l _ hp.rd (hL.ext hX).tab).mono ?_
  rintro e w2 ⟨rfl, hx⟩
  replace hX := hX.trans hx
  replace hP := hP.ext hx
  replace hp := hp.ext hx
  clear hx a0 a1 a2 a3 a4 a5 a6 a7 a8
  obtain ⟨a0, a1, a2, a3, a4, a5, a6, a7, a8⟩ := hP.c9
  go_wp2_with fail
  refine (spec.RecordText_any p l _ hp.rd).mono ?_
  rintro e w3 ⟨rfl, hx⟩
  replace hX := hX.trans hx
  replace hP := hP.ext hx
  replace hp := hp.ext hx
  clear hx a0 a1 a2 a3 a4 a5 a6 a7 a8
  go_wp2_with fail
  refine (spec.DrawReadRecord_any s _ (hc.ext hX)).mono ?_
  rintro e w4 ⟨u, rfl, hu, hx⟩
  replace hX := hX.trans hx
  replace hP := hP.ext hx
  replace hp := hp.ext hx
  clear hx
  go_wp2_with fail
  refine (impl.ReadRecord_any u _ (by omega) (hL.ext hX)).mono ?_
  rintro e w5 ⟨y, rfl, hy, hx⟩
  replace hX := hX.trans hx
  replace hP := hP.ext hx
  replace hp := hp.ext hx
  clear hx
  have hY := Blk.new w5 36 #[.int .i64 y.a, .int .i64 y.b, .int .i64 y.c, .slice y.p.x.A y.p.x.n y.p.x.c, .int .i64 y.d, .slice y.p.y.A y.p.y.n y.p.y.c, .slice y.p.z.A y.p.z.n y.p.z.c, .int .i64 y.e, .int .i64 y.f]
  replace hy := hy.alloc (.cells #[.int .i64 y.a, .int .i64 y.b, .int .i64 y.c, .slice y.p.x.A y.p.x.n y.p.x.c, .int .i64 y.d, .slice y.p.y.A y.p.y.n y.p.y.c, .slice y.p.z.A y.p.z.n y.p.z.c, .int .i64 y.e, .int .i64 y.f] 36)
  replace hp := hp.alloc (.cells #[.int .i64 y.a, .int .i64 y.b, .int .i64 y.c, .slice y.p.x.A y.p.x.n y.p.x.c, .int .i64 y.d, .slice y.p.y.A y.p.y.n y.p.y.c, .slice y.p.z.A y.p.z.n y.p.z.c, .int .i64 y.e, .int .i64 y.f] 36)
  replace hP := hP.alloc (.cells #[.int .i64 y.a, .int .i64 y.b, .int .i64 y.c, .slice y.p.x.A y.p.x.n y.p.x.c, .int .i64 y.d, .slice y.p.y.A y.p.y.n y.p.y.c, .slice y.p.z.A y.p.z.n y.p.z.c, .int .i64 y.e, .int .i64 y.f] 36)
  replace hX := hX.alloc (.cells #[.int .i64 y.a, .int .i64 y.b, .int .i64 y.c, .slice y.p.x.A y.p.x.n y.p.x.c, .int .i64 y.d, .slice y.p.y.A y.p.y.n y.p.y.c, .slice y.p.z.A y.p.z.n y.p.z.c, .int .i64 y.e, .int .i64 y.f] 36)
  go_wp2_with fail
  refine (spec.ReadRecord_any u _ (by omega)).mono ?_
  rintro e w6 ⟨z, rfl, hz, hx⟩
  replace hP := hP.ext hx
  replace hp := hp.ext hx
  replace hy := hy.ext hx
  replace hY := hY.ext hx
  replace hX := hX.trans hx
  clear hx
  have hZ := Blk.new w6 36 #[.int .i64 z.a, .int .i64 z.b, .int .i64 z.c, .slice z.p.x.A z.p.x.n z.p.x.c, .int .i64 z.d, .slice z.p.y.A z.p.y.n z.p.y.c, .slice z.p.z.A z.p.z.n z.p.z.c, .int .i64 z.e, .int .i64 z.f]
  replace hz := hz.alloc (.cells #[.int .i64 z.a, .int .i64 z.b, .int .i64 z.c, .slice z.p.x.A z.p.x.n z.p.x.c, .int .i64 z.d, .slice z.p.y.A z.p.y.n z.p.y.c, .slice z.p.z.A z.p.z.n z.p.z.c, .int .i64 z.e, .int .i64 z.f] 36)
  replace hy := hy.alloc (.cells #[.int .i64 z.a, .int .i64 z.b, .int .i64 z.c, .slice z.p.x.A z.p.x.n z.p.x.c, .int .i64 z.d, .slice z.p.y.A z.p.y.n z.p.y.c, .slice z.p.z.A z.p.z.n z.p.z.c, .int .i64 z.e, .int .i64 z.f] 36)
  replace hY := hY.alloc (.cells #[.int .i64 z.a, .int .i64 z.b, .int .i64 z.c, .slice z.p.x.A z.p.x.n z.p.x.c, .int .i64 z.d, .slice z.p.y.A z.p.y.n z.p.y.c, .slice z.p.z.A z.p.z.n z.p.z.c, .int .i64 z.e, .int .i64 z.f] 36)
  replace hp := hp.alloc (.cells #[.int .i64 z.a, .int .i64 z.b, .int .i64 z.c, .slice z.p.x.A z.p.x.n z.p.x.c, .int .i64 z.d, .slice z.p.y.A z.p.y.n z.p.y.c, .slice z.p.z.A z.p.z.n z.p.z.c, .int .i64 z.e, .int .i64 z.f] 36)
  replace hP := hP.alloc (.cells #[.int .i64 z.a, .int .i64 z.b, .int .i64 z.c, .slice z.p.x.A z.p.x.n z.p.x.c, .int .i64 z.d, .slice z.p.y.A z.p.y.n z.p.y.c, .slice z.p.z.A z.p.z.n z.p.z.c, .int .i64 z.e, .int .i64 z.f] 36)
  replace hX := hX.alloc (.cells #[.int .i64 z.a, .int .i64 z.b, .int .i64 z.c, .slice z.p.x.A z.p.x.n z.p.x.c, .int .i64 z.d, .slice z.p.y.A z.p.y.n z.p.y.c, .slice z.p.z.A z.p.z.n z.p.z.c, .int .i64 z.e, .int .i64 z.f] 36)
  obtain ⟨a0, a1, a2, a3, a4, a5, a6, a7, a8⟩ := hP.c9
  obtain ⟨b0, b1, b2, b3, b4, b5, b6, b7, b8⟩ := hY.c9
  obtain ⟨c0, c1, c2, c3, c4, c5, c6, c7, c8⟩ := hZ.c9
  go_wp2_with fail
  refine (likeRecord_yes y z _ _ hy.rd hz.rd).mono ?_
  rintro e w7 ⟨rfl, hx⟩
  replace hP := hP.ext hx
  replace hp := hp.ext hx
  replace hy := hy.ext hx
  replace hY := hY.ext hx
  replace hX := hX.trans hx
  clear hx a0 a1 a2 a3 a4 a5 a6 a7 a8 b0 b1 b2 b3 b4 b5 b6 b7 b8 c0 c1 c2 c3 c4 c5 c6 c7 c8 hz hZ
  obtain ⟨a0, a1, a2, a3, a4, a5, a6, a7, a8⟩ := hP.c9
  go_wp2_with fail
  refine (impl.IsRecord_any p l _ hp.rd).mono ?_
  rintro e w8 ⟨rfl, hx⟩
  replace hP := hP.ext hx
  replace hp := hp.ext hx
  replace hy := hy.ext hx
  replace hY := hY.ext hx
  replace hX := hX.trans hx
  clear hx a0 a1 a2 a3 a4 a5 a6 a7 a8
  have hIc := hIb.out
  obtain ⟨a0, a1, a2, a3, a4, a5, a6, a7, a8⟩ := hP.c9
  obtain ⟨b0, b1, b2, b3, b4, b5, b6, b7, b8⟩ := hY.c9
  cases hok : okR l
  · have e1 := hide (rt_no hok)
    rw [e1.out.1]
    clear hok hIc
    cases hr : rrO u with
    | none =>
      have r1 := hide (show rrC u = 6 by unfold rrC; rw [hr]; rfl)
      clear hr
      rw [r1.out]
      go_wp2_with fail
      go_ret
      exact ⟨rfl, hX⟩
    | some l2 =>
      have r1 := hide (show rrC u = 0 by unfold rrC; rw [hr]; rfl)
      have r2 := hide (show rrV u = l2 by unfold rrV; rw [hr]; rfl)
      have r3 := hide (rrO_text hr)
      have r4 := hide (rt_yes r3.out.2)
      rw [r2.out] at hy
      have hag := impl.RecordText_any y l2 w8 hy.rd (hL.ext hX).tab
      rw [r4.out.1, r4.out.2, ← r3.out.1] at hag
      rw [r1.out]
      clear hr
      go_wp2_with fail
      refine hag.mono ?_
      rintro e w9 ⟨rfl, hx⟩
      replace hP := hP.ext hx
      replace hp := hp.ext hx
      replace hX := hX.trans hx
      clear hx hag hy hY b0 b1 b2 b3 b4 b5 b6 b7 b8 a0 a1 a2 a3 a4 a5 a6 a7 a8
      obtain ⟨a0, a1, a2, a3, a4, a5, a6, a7, a8⟩ := hP.c9
      go_wp2_with fail
      go_ret
      exact ⟨rfl, hX⟩
  · have e1 := hide (rt_yes hok)
    have e2 := hide (rrO_recT hok)
    have hsz := recT_sz hok
    rw [e1.out.1, e1.out.2]
    clear hok hIc
    cases hr : rrO u with
    | none =>
      have r1 := hide (show rrC u = 6 by unfold rrC; rw [hr]; rfl)
      clear hr
      rw [r1.out]
      have hrd := impl.ReadRecord_any (recT l) w8 (by omega) (hL.ext hX)
      unfold RrP rrC rrV at hrd
      rw [e2.out] at hrd
      simp only [Option.isSome_some, if_pos, Option.getD_some] at hrd
      go_wp2_with fail
      refine hrd.mono ?_
      rintro e w10 ⟨k, rfl, hk, hx⟩
      replace hP := hP.ext hx
      replace hp := hp.ext hx
      replace hX := hX.trans hx
      clear hx hrd a0 a1 a2 a3 a4 a5 a6 a7 a8
      have hK := Blk.new w10 36 #[.int .i64 k.a, .int .i64 k.b, .int .i64 k.c, .slice k.p.x.A k.p.x.n k.p.x.c, .int .i64 k.d, .slice k.p.y.A k.p.y.n k.p.y.c, .slice k.p.z.A k.p.z.n k.p.z.c, .int .i64 k.e, .int .i64 k.f]
      replace hk := hk.alloc (.cells #[.int .i64 k.a, .int .i64 k.b, .int .i64 k.c, .slice k.p.x.A k.p.x.n k.p.x.c, .int .i64 k.d, .slice k.p.y.A k.p.y.n k.p.y.c, .slice k.p.z.A k.p.z.n k.p.z.c, .int .i64 k.e, .int .i64 k.f] 36)
      replace hp := hp.alloc (.cells #[.int .i64 k.a, .int .i64 k.b, .int .i64 k.c, .slice k.p.x.A k.p.x.n k.p.x.c, .int .i64 k.d, .slice k.p.y.A k.p.y.n k.p.y.c, .slice k.p.z.A k.p.z.n k.p.z.c, .int .i64 k.e, .int .i64 k.f] 36)
      replace hP := hP.alloc (.cells #[.int .i64 k.a, .int .i64 k.b, .int .i64 k.c, .slice k.p.x.A k.p.x.n k.p.x.c, .int .i64 k.d, .slice k.p.y.A k.p.y.n k.p.y.c, .slice k.p.z.A k.p.z.n k.p.z.c, .int .i64 k.e, .int .i64 k.f] 36)
      replace hX := hX.alloc (.cells #[.int .i64 k.a, .int .i64 k.b, .int .i64 k.c, .slice k.p.x.A k.p.x.n k.p.x.c, .int .i64 k.d, .slice k.p.y.A k.p.y.n k.p.y.c, .slice k.p.z.A k.p.z.n k.p.z.c, .int .i64 k.e, .int .i64 k.f] 36)
      obtain ⟨a0, a1, a2, a3, a4, a5, a6, a7, a8⟩ := hP.c9
      obtain ⟨d0, d1, d2, d3, d4, d5, d6, d7, d8⟩ := hK.c9
      go_wp2_with fail
      refine (likeRecord_yes k p _ _ hk.rd hp.rd).mono ?_
      rintro e w11 ⟨rfl, hx⟩
      replace hX := hX.trans hx
      go_wp2_with fail
      go_ret
      exact ⟨rfl, hX⟩
    | some l2 =>
      have r1 := hide (show rrC u = 0 by unfold rrC; rw [hr]; rfl)
      have r2 := hide (show rrV u = l2 by unfold rrV; rw [hr]; rfl)
      have r3 := hide (rrO_text hr)
      have r4 := hide (rt_yes r3.out.2)
      rw [r2.out] at hy
      have hag := impl.RecordText_any y l2 w8 hy.rd (hL.ext hX).tab
      rw [r4.out.1, r4.out.2, ← r3.out.1] at hag
      rw [r1.out]
      clear hr
      go_wp2_with fail
      refine hag.mono ?_
      rintro e w9 ⟨rfl, hx⟩
      replace hP := hP.ext hx
      replace hp := hp.ext hx
      replace hX := hX.trans hx
      clear hx hag hy hY b0 b1 b2 b3 b4 b5 b6 b7 b8 a0 a1 a2 a3 a4 a5 a6 a7 a8
      obtain ⟨a0, a1, a2, a3, a4, a5, a6, a7, a8⟩ := hP.c9
      have hrd := impl.ReadRecord_any (recT l) w9 (by omega) (hL.ext hX)
      unfold RrP rrC rrV at hrd
      rw [e2.out] at hrd
      simp only [Option.isSome_some, if_pos, Option.getD_some] at hrd
      go_wp2_with fail
      refine hrd.mono ?_
      rintro e w10 ⟨k, rfl, hk, hx⟩
      replace hP := hP.ext hx
      replace hp := hp.ext hx
      replace hX := hX.trans hx
      clear hx hrd a0 a1 a2 a3 a4 a5 a6 a7 a8
      have hK := Blk.new w10 36 #[.int .i64 k.a, .int .i64 k.b, .int .i64 k.c, .slice k.p.x.A k.p.x.n k.p.x.c, .int .i64 k.d, .slice k.p.y.A k.p.y.n k.p.y.c, .slice k.p.z.A k.p.z.n k.p.z.c, .int .i64 k.e, .int .i64 k.f]
      replace hk := hk.alloc (.cells #[.int .i64 k.a, .int .i64 k.b, .int .i64 k.c, .slice k.p.x.A k.p.x.n k.p.x.c, .int .i64 k.d, .slice k.p.y.A k.p.y.n k.p.y.c, .slice k.p.z.A k.p.z.n k.p.z.c, .int .i64 k.e, .int .i64 k.f] 36)
      replace hp := hp.alloc (.cells #[.int .i64 k.a, .int .i64 k.b, .int .i64 k.c, .slice k.p.x.A k.p.x.n k.p.x.c, .int .i64 k.d, .slice k.p.y.A k.p.y.n k.p.y.c, .slice k.p.z.A k.p.z.n k.p.z.c, .int .i64 k.e, .int .i64 k.f] 36)
      replace hP := hP.alloc (.cells #[.int .i64 k.a, .int .i64 k.b, .int .i64 k.c, .slice k.p.x.A k.p.x.n k.p.x.c, .int .i64 k.d, .slice k.p.y.A k.p.y.n k.p.y.c, .slice k.p.z.A k.p.z.n k.p.z.c, .int .i64 k.e, .int .i64 k.f] 36)
      replace hX := hX.alloc (.cells #[.int .i64 k.a, .int .i64 k.b, .int .i64 k.c, .slice k.p.x.A k.p.x.n k.p.x.c, .int .i64 k.d, .slice k.p.y.A k.p.y.n k.p.y.c, .slice k.p.z.A k.p.z.n k.p.z.c, .int .i64 k.e, .int .i64 k.f] 36)
      obtain ⟨a0, a1, a2, a3, a4, a5, a6, a7, a8⟩ := hP.c9
      obtain ⟨d0, d1, d2, d3, d4, d5, d6, d7, d8⟩ := hK.c9
      go_wp2_with fail
      refine (likeRecord_yes k p _ _ hk.rd hp.rd).mono ?_
      rintro e w11 ⟨rfl, hx⟩
      replace hX := hX.trans hx
      go_wp2_with fail
      go_ret
      exact ⟨rfl, hX⟩

theorem own_FnRecordTexts : ownKnob Tryz.prog.godebug = none := by kernel_rfl
theorem laid_FnRecordTexts {W : World} (h : laidMetH Tryz.prog (Rows.fnRecordTextsRow.laid) W) : laidMet Tryz.prog (Rows.fnRecordTextsRow.laid) W := by
  rw [MakeChecks.laidMetH_plain _ _ _ (by kernel_rfl)] at h
  exact h
/-- a world that holds what the row lists: the door's own run -/
theorem met_5 (os : Os) (args : Array Value) : laidMetH Tryz.prog (Rows.fnRecordTextsRow.laid) ((World.laidAll Tryz.prog os (Rows.fnRecordTextsRow.laid)).forCall (fun _ _ => 0) ⟨#[], args, []⟩).memory := by
  rw [MakeChecks.laidMetH_plain _ _ _ (by kernel_rfl)]; exact laidMet_laidAll _ (by kernel_rfl) (by kernel_rfl)
set_option maxRecDepth 100000 in
theorem lifted_5 (os : Os) (started : os.Started) (H : Type) (enc : TypeId × Value → H) :
    ReturnsInHanded {} Tryz.checked os 5 .any (fun w args => (Rows.fnRecordTextsSpec.pre enc Tryz.prog Tryz.f5 [] false w args ∧ laidMetH Tryz.prog (Rows.fnRecordTextsRow.laid) w) ∧ sizedMet enc Tryz.prog Tryz.f5 (OpenSpec.ofChange Rows.fnRecordTextsSpec) false w args)
      (Rows.fnRecordTextsSpec.post enc Tryz.prog Tryz.f5 false true false false) := by
  refine handed_both (C := Tryz.checked) (X := fun w _ => laidMetH Tryz.prog (Rows.fnRecordTextsRow.laid) w) (fun _ _ _ hh h => h.of_heap hh) own_FnRecordTexts started (by kernel_rfl) Tryz.func5
    (ChangeSpec.witness_shaped (enc := enc) (C := Tryz.checked) (os := os) (X := fun w _ => laidMetH Tryz.prog (Rows.fnRecordTextsRow.laid) w) false (World.laidAll Tryz.prog os (Rows.fnRecordTextsRow.laid)) #[.slice none 0 0] 8 (World.laidAll_os _ _ _) (World.shaped_of_ZipB (by kernel_rfl) (by kernel_rfl)) (by kernel_rfl) (by kernel_rfl) (by kernel_rfl) (met_5 os _)) ?_
  intro W base args ds gs before hval0 hW hL hShp
  have hval : ∀ (j : Nat) t v, Tryz.f5.params[j]? = some t → args[j]? = some v → Value.okWide Tryz.prog W .any base t v := hval0
  have hW' := hW
  obtain ⟨p, q, hA0, hV, rfl, hfz, hnd⟩ := hW
  have hA : DataW.TrodAll enc Tryz.prog W 0 (fun _ => true) true Tryz.f5.params.toList args.toList ds p := hA0
  rw [Tryz.params5] at hA hval
  obtain ⟨v0, vs0, d0, ds0, p0, q0, hargs, rfl, rfl, h0, r0⟩ := trodAll_cons hA
  obtain ⟨rfl, rfl, rfl⟩ := trodAll_nil r0
  obtain rfl : args = #[v0] := by cases args; simp_all
  obtain ⟨rfl, rfl⟩ := trodVars_none hV
  have k0 := h0
  have lt0 : ∀ x ∈ p0, x.block < W.heap.size := by obtain ⟨m, hm⟩ := k0; exact DataW.trod_lt m _ _ _ hm
  obtain ⟨s0, rfl, i0, c0⟩ := open_code (hval 0 22 v0 rfl rfl) h0 (fun _ => rfl)
  clear hA0 hval0
  refine (law_FnRecordTexts s0 W i0 c0 (Lb.of_list (laid_FnRecordTexts hL) hShp)).mono fun e W' ⟨he, bel⟩ => ?_
  subst he
  exact ⟨_, rfl, _, _, _, [], _, [], hW', trodAll_mk1 (shut_bool Tryz.underlying4 _), (trodAll_cons_mk (Below.trod laidOut (by kernel_rfl) (of_decide_eq_true (by kernel_rfl)) k0 bel lt0) trodAll_mk0), rfl, Below.frame bel _, fun h => by cases h⟩
theorem over_FnRecordTexts : Rows.FnRecordTextsSaid :=
  OpenClaim.holds_of_wide 5 Tryz.f5 rfl rfl rfl rfl rfl rfl rfl ⟨rfl, rfl, rfl, rfl, rfl⟩ rfl rfl rfl rfl rfl (by kernel_rfl) Tryz.func5 (by kernel_rfl)
    (of_decide_eq_true (by kernel_rfl)) (by unfold Func.isWrapper; first | (rw [if_pos (by decide +kernel)]; kernel_rfl) | (rw [if_neg (by decide +kernel)]; exact ⟨rfl, rfl⟩))
    (fun os started H enc _ => lifted_5 os started H enc)
/-- the statement: the tied card -/
theorem proved_FnRecordTexts : Rows.FnRecordTextsCardSaid :=
  Claim7.holds_tied_plain_at .later [] _ true _ _
    over_FnRecordTexts (fun _ h => by cases h) (by kernel_rfl) (fun _ h => by cases h) fnRecordTexts_row_tie rfl ⟨rfl, rfl⟩ (by kernel_rfl) rfl
    (fun f fn hf hfn => by
      obtain rfl : f = 5 := Option.some.inj ((show Tryz.prog.funcNamed Rows.fnRecordTextsRow.func = some 5 by kernel_rfl).symm.trans hf) |>.symm
      obtain rfl : fn = Tryz.f5 := (Option.some.inj (Tryz.func5.symm.trans hfn)).symm
      exact ⟨by kernel_rfl, fun j t ht => by
        have hall : (Tryz.f5.params.toList.all fun u => !Tryz.prog.wantsStandIn u) = true := by kernel_rfl
        have hm : t ∈ Tryz.f5.params.toList := by simpa using Array.mem_of_getElem? ht
        exact (show Tryz.prog.wantsStandIn t = false by simpa using List.all_eq_true.1 hall t hm)⟩)
    (by kernel_rfl)
#print axioms proved_FnRecordTexts
end Go.Proofs.YtfojfndmaofahaaGreatDoor.mem
