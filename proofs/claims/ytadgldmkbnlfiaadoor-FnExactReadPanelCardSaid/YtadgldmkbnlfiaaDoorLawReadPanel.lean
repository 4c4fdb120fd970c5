/-
  The law FnExactReadPanel holds of the given program for every input: it returns true, and each argument reads as it did.
-/
import Derived.Test.YtadgldmkbnlfiaaDoorOpen
import Derived.Test.YtadgldmkbnlfiaaDoorRpn
import Derived.Test.YtadgldmkbnlfiaaDoorLbS
import Derived.Test.YtadgldmkbnlfiaaDoorTie
import Derived.Test.YtadgldmkbnlfiaaDoorCards
import Derived.SevenTiedAt
import Derived.LaidMore
import Derived.Stop.Joined
import Derived.HandedShaped
import Derived.Stop.LaidErr
import Derived.Lib.SmallJoins
import Derived.Lib.LaidTab
import Derived.Lay
import Derived.ChangeMaps5
namespace Go.Proofs.YtadgldmkbnlfiaaDoor.mem
open Go.ChangeShapes Go.WideShapes Go.ChangeAt Go.RowKit
set_option linter.unusedVariables false
set_option maxHeartbeats 4000000 in
theorem law_ReadPanel (u : ByteArray) (w : World) (bu : u.size ≤ maxLen) (hL : Lb w) :
    Calls Tryd.prog 4 #[.string u] w fun e w' => e = .returned (.bool true) ∧ Ext w w' := by
  have hX := Ext.refl w
  have mu := bu
  unfold maxLen at mu
  by_cases hs : u.size ≤ 1048576
  case neg =>
    go_enter Tryd.func4, Tryd.ntmps4
    go_wp2
    go_ret
    exact ⟨rfl, hX⟩
  go_enter Tryd.func4, Tryd.ntmps4
  go_wp2_with fail
  refine (spec.ReadPanel_any u _  hs).mono ?_
  rintro e w1 ⟨tw0, rfl, otw0, hx⟩
  replace hX := hX.trans hx
  have z1 : w.heap.size ≤ w1.heap.size := (by have := hx.size; simpa using this)
  have rgotw0 : ∀ k, blks tw0 k → w.heap.size ≤ k ∧ k < w1.heap.size := (fun k hk => by have := otw0.lt hk; simpa using this)
  clear hx
  have hTw0 := Blk.new w1 29 (#[.slice tw0.x.A tw0.x.n tw0.x.c, .slice tw0.y.A tw0.y.n tw0.y.c, .slice tw0.z.A tw0.z.n tw0.z.c])
  replace otw0 := otw0.alloc (.cells #[.slice tw0.x.A tw0.x.n tw0.x.c, .slice tw0.y.A tw0.y.n tw0.y.c, .slice tw0.z.A tw0.z.n tw0.z.c] 29)
  replace hX := hX.alloc (.cells #[.slice tw0.x.A tw0.x.n tw0.x.c, .slice tw0.y.A tw0.y.n tw0.y.c, .slice tw0.z.A tw0.z.n tw0.z.c] 29)
  obtain ⟨qhTw00, qhTw01, qhTw02⟩ := hTw0.c3
  go_wp2_with fail
  refine (impl.ReadPanel_any u _  hs (hL.ext hX)).mono ?_
  rintro e w2 ⟨tg0, rfl, otg0, hx⟩
  clear qhTw00 qhTw01 qhTw02
  replace hX := hX.trans hx
  have z2 : w1.heap.size + 1 ≤ w2.heap.size := (by have := hx.size; simpa using this)
  replace hTw0 := hTw0.ext hx
  replace otw0 := otw0.ext hx
  have rgotg0 : ∀ k, blks tg0 k → w1.heap.size + 1 ≤ k ∧ k < w2.heap.size := (fun k hk => by have := otg0.lt hk; simpa using this)
  clear hx
  have hTg0 := Blk.new w2 29 (#[.slice tg0.x.A tg0.x.n tg0.x.c, .slice tg0.y.A tg0.y.n tg0.y.c, .slice tg0.z.A tg0.z.n tg0.z.c])
  replace hTw0 := hTw0.alloc (.cells #[.slice tg0.x.A tg0.x.n tg0.x.c, .slice tg0.y.A tg0.y.n tg0.y.c, .slice tg0.z.A tg0.z.n tg0.z.c] 29)
  replace otw0 := otw0.alloc (.cells #[.slice tg0.x.A tg0.x.n tg0.x.c, .slice tg0.y.A tg0.y.n tg0.y.c, .slice tg0.z.A tg0.z.n tg0.z.c] 29)
  replace otg0 := otg0.alloc (.cells #[.slice tg0.x.A tg0.x.n tg0.x.c, .slice tg0.y.A tg0.y.n tg0.y.c, .slice tg0.z.A tg0.z.n tg0.z.c] 29)
  replace hX := hX.alloc (.cells #[.slice tg0.x.A tg0.x.n tg0.x.c, .slice tg0.y.A tg0.y.n tg0.y.c, .slice tg0.z.A tg0.z.n tg0.z.c] 29)
  obtain ⟨qhTw00, qhTw01, qhTw02⟩ := hTw0.c3
  obtain ⟨qhTg00, qhTg01, qhTg02⟩ := hTg0.c3
  go_wp2_with fail
  refine (eqPanel_yes tg0 tw0 _ _ otg0.rd otw0.rd).mono ?_
  rintro e w3 ⟨rfl, hx⟩
  clear qhTw00 qhTw01 qhTw02 qhTg00 qhTg01 qhTg02
  replace hX := hX.trans hx
  have z3 : w2.heap.size + 1 ≤ w3.heap.size := (by have := hx.size; simpa using this)
  replace hTw0 := hTw0.ext hx
  replace hTg0 := hTg0.ext hx
  replace otw0 := otw0.ext hx
  replace otg0 := otg0.ext hx
  clear hx
  obtain ⟨qhTw00, qhTw01, qhTw02⟩ := hTw0.c3
  obtain ⟨qhTg00, qhTg01, qhTg02⟩ := hTg0.c3
  -- what came in is marked: the result is its own
  have leotg0 := len3_le otg0
  go_wp2_with fail
  refine (markPanel_any tg0 _ _ 1 _ otg0 (by omega) (by omega)).mono ?_
  rintro e w4 ⟨rfl, otg0', hf⟩
  clear qhTw00 qhTw01 qhTw02 qhTg00 qhTg01 qhTg02
  replace hX := hX.fr_trans hf (fun k hk => by have := rgotg0 k hk; omega)
  have z4 : w3.heap.size ≤ w4.heap.size := by have := hf.size; simpa using this
  replace hTw0 := hTw0.fr hf (fun hk => by have := rgotg0 _ hk; omega)
  replace hTg0 := hTg0.fr hf (fun hk => by have := rgotg0 _ hk; omega)
  replace otw0 := otw0.fr hf (fun k h1 h2 => by have a1 := rgotw0 k h1; have a2 := rgotg0 k h2; omega)
  clear hf otg0
  have otg0 := otg0'
  clear otg0'
  obtain ⟨qhTw00, qhTw01, qhTw02⟩ := hTw0.c3
  obtain ⟨qhTg00, qhTg01, qhTg02⟩ := hTg0.c3
  go_wp2_with fail
  refine (heldPanel_any tg0 1 _ otg0.rd (by omega) (by omega)).mono ?_
  rintro e w5 ⟨rfl, hx⟩
  clear qhTw00 qhTw01 qhTw02 qhTg00 qhTg01 qhTg02
  replace hX := hX.trans hx
  have z5 : w4.heap.size ≤ w5.heap.size := (by have := hx.size; simpa using this)
  replace hTw0 := hTw0.ext hx
  replace hTg0 := hTg0.ext hx
  replace otw0 := otw0.ext hx
  replace otg0 := otg0.ext hx
  clear hx
  obtain ⟨qhTw00, qhTw01, qhTw02⟩ := hTw0.c3
  obtain ⟨qhTg00, qhTg01, qhTg02⟩ := hTg0.c3
  go_wp2_with fail
  refine (impl.ReadPanel_any u _  hs (hL.ext hX)).mono ?_
  rintro e w6 ⟨th0, rfl, oth0, hx⟩
  clear qhTw00 qhTw01 qhTw02 qhTg00 qhTg01 qhTg02
  replace hX := hX.trans hx
  have z6 : w5.heap.size ≤ w6.heap.size := (by have := hx.size; simpa using this)
  replace hTw0 := hTw0.ext hx
  replace hTg0 := hTg0.ext hx
  replace otw0 := otw0.ext hx
  replace otg0 := otg0.ext hx
  have rgoth0 : ∀ k, blks th0 k → w5.heap.size ≤ k ∧ k < w6.heap.size := (fun k hk => by have := oth0.lt hk; simpa using this)
  clear hx
  have hTh0 := Blk.new w6 29 (#[.slice th0.x.A th0.x.n th0.x.c, .slice th0.y.A th0.y.n th0.y.c, .slice th0.z.A th0.z.n th0.z.c])
  replace hTw0 := hTw0.alloc (.cells #[.slice th0.x.A th0.x.n th0.x.c, .slice th0.y.A th0.y.n th0.y.c, .slice th0.z.A th0.z.n th0.z.c] 29)
  replace hTg0 := hTg0.alloc (.cells #[.slice th0.x.A th0.x.n th0.x.c, .slice th0.y.A th0.y.n th0.y.c, .slice th0.z.A th0.z.n th0.z.c] 29)
  replace otw0 := otw0.alloc (.cells #[.slice th0.x.A th0.x.n th0.x.c, .slice th0.y.A th0.y.n th0.y.c, .slice th0.z.A th0.z.n th0.z.c] 29)
  replace otg0 := otg0.alloc (.cells #[.slice th0.x.A th0.x.n th0.x.c, .slice th0.y.A th0.y.n th0.y.c, .slice th0.z.A th0.z.n th0.z.c] 29)
  replace oth0 := oth0.alloc (.cells #[.slice th0.x.A th0.x.n th0.x.c, .slice th0.y.A th0.y.n th0.y.c, .slice th0.z.A th0.z.n th0.z.c] 29)
  replace hX := hX.alloc (.cells #[.slice th0.x.A th0.x.n th0.x.c, .slice th0.y.A th0.y.n th0.y.c, .slice th0.z.A th0.z.n th0.z.c] 29)
  obtain ⟨qhTw00, qhTw01, qhTw02⟩ := hTw0.c3
  obtain ⟨qhTg00, qhTg01, qhTg02⟩ := hTg0.c3
  obtain ⟨qhTh00, qhTh01, qhTh02⟩ := hTh0.c3
  go_wp2_with fail
  refine (eqPanel_yes th0 tw0 _ _ oth0.rd otw0.rd).mono ?_
  rintro e w7 ⟨rfl, hx⟩
  clear qhTw00 qhTw01 qhTw02 qhTg00 qhTg01 qhTg02 qhTh00 qhTh01 qhTh02
  replace hX := hX.trans hx
  have z7 : w6.heap.size + 1 ≤ w7.heap.size := (by have := hx.size; simpa using this)
  replace hTw0 := hTw0.ext hx
  replace hTg0 := hTg0.ext hx
  replace hTh0 := hTh0.ext hx
  replace otw0 := otw0.ext hx
  replace otg0 := otg0.ext hx
  replace oth0 := oth0.ext hx
  clear hx
  obtain ⟨qhTw00, qhTw01, qhTw02⟩ := hTw0.c3
  obtain ⟨qhTg00, qhTg01, qhTg02⟩ := hTg0.c3
  obtain ⟨qhTh00, qhTh01, qhTh02⟩ := hTh0.c3
  go_wp2_with fail
  refine (heldPanel_any tg0 1 _ otg0.rd (by omega) (by omega)).mono ?_
  rintro e w8 ⟨rfl, hx⟩
  clear qhTw00 qhTw01 qhTw02 qhTg00 qhTg01 qhTg02 qhTh00 qhTh01 qhTh02
  replace hX := hX.trans hx
  have z8 : w7.heap.size ≤ w8.heap.size := (by have := hx.size; simpa using this)
  replace hTw0 := hTw0.ext hx
  replace hTg0 := hTg0.ext hx
  replace hTh0 := hTh0.ext hx
  replace otw0 := otw0.ext hx
  replace otg0 := otg0.ext hx
  replace oth0 := oth0.ext hx
  clear hx
  obtain ⟨qhTw00, qhTw01, qhTw02⟩ := hTw0.c3
  obtain ⟨qhTg00, qhTg01, qhTg02⟩ := hTg0.c3
  obtain ⟨qhTh00, qhTh01, qhTh02⟩ := hTh0.c3
  go_wp2
  go_ret
  exact ⟨rfl, hX⟩
theorem own_ReadPanel : ownKnob Tryd.prog.godebug = none := by kernel_rfl
theorem laid_ReadPanel {W : World} (h : laidMetH Tryd.prog (Rows.fnExactReadPanelRow.laid) W) : laidMet Tryd.prog (Rows.fnExactReadPanelRow.laid) W := by
  rw [MakeChecks.laidMetH_plain _ _ _ (by kernel_rfl)] at h
  exact h
/-- a world that holds what the row lists: the door's own run -/
theorem met_4 (os : Os) (args : Array Value) : laidMetH Tryd.prog (Rows.fnExactReadPanelRow.laid) ((World.laidAll Tryd.prog os (Rows.fnExactReadPanelRow.laid)).forCall (fun _ _ => 0) ⟨#[], args, []⟩).memory := by
  rw [MakeChecks.laidMetH_plain _ _ _ (by kernel_rfl)]; exact laidMet_laidAll _ (by kernel_rfl) (by kernel_rfl)
set_option maxRecDepth 100000 in
theorem lifted_4 (os : Os) (started : os.Started) (H : Type) (enc : TypeId × Value → H) :
    ReturnsInHanded {} Tryd.checked os 4 .any (fun w args => (Rows.fnExactReadPanelSpec.pre enc Tryd.prog Tryd.f4 [] false w args ∧ laidMetH Tryd.prog (Rows.fnExactReadPanelRow.laid) w) ∧ sizedMet enc Tryd.prog Tryd.f4 (OpenSpec.ofChange Rows.fnExactReadPanelSpec) false w args)
      (Rows.fnExactReadPanelSpec.post enc Tryd.prog Tryd.f4 false true false false) := by
  refine handed_both (C := Tryd.checked) (X := fun w _ => laidMetH Tryd.prog (Rows.fnExactReadPanelRow.laid) w) (fun _ _ _ hh h => h.of_heap hh) own_ReadPanel started (by kernel_rfl) Tryd.func4
    (ChangeSpec.witness_shaped (enc := enc) (C := Tryd.checked) (os := os) (X := fun w _ => laidMetH Tryd.prog (Rows.fnExactReadPanelRow.laid) w) false (World.laidAll Tryd.prog os (Rows.fnExactReadPanelRow.laid)) #[.string ⟨#[]⟩] 8 (World.laidAll_os _ _ _) (World.shaped_of_ZipB (by kernel_rfl) (by kernel_rfl)) (by kernel_rfl) (by kernel_rfl) (by kernel_rfl) (met_4 os _)) ?_
  intro W base args ds gs before hval0 hW hL hShp
  have hval : ∀ (j : Nat) t v, Tryd.f4.params[j]? = some t → args[j]? = some v → Value.okWide Tryd.prog W .any base t v := hval0
  have hW' := hW
  obtain ⟨p, q, hA0, hV, rfl, hfz, hnd⟩ := hW
  have hA : DataW.TrodAll enc Tryd.prog W 0 (fun _ => true) true Tryd.f4.params.toList args.toList ds p := hA0
  rw [Tryd.params4] at hA hval
  obtain ⟨v0, vs0, d0, ds0, p0, q0, hargs, rfl, rfl, h0, r0⟩ := trodAll_cons hA
  obtain ⟨rfl, rfl, rfl⟩ := trodAll_nil r0
  obtain rfl : args = #[v0] := by cases args; simp_all
  obtain ⟨rfl, rfl⟩ := trodVars_none hV
  have k0 := h0
  have lt0 : ∀ x ∈ p0, x.block < W.heap.size := by obtain ⟨m, hm⟩ := k0; exact DataW.trod_lt m _ _ _ hm
  obtain ⟨a0, rfl, _, _, w0⟩ := Go.ChangeMaps.open_string Tryd.underlying9 (hval 0 9 v0 rfl rfl) h0
  clear hA0 hval0
  refine (law_ReadPanel a0 W w0 (Lb.of_list (laid_ReadPanel hL) hShp)).mono fun e W' ⟨he, bel⟩ => ?_
  subst he
  exact ⟨_, rfl, _, _, _, [], _, [], hW', trodAll_mk1 (shut_bool Tryd.underlying4 _), (trodAll_cons_mk (Below.trod laidOut (by kernel_rfl) (of_decide_eq_true (by kernel_rfl)) k0 bel lt0) trodAll_mk0), rfl, Below.frame bel _, fun h => by cases h⟩
theorem over_ReadPanel : Rows.FnExactReadPanelSaid :=
  OpenClaim.holds_of_wide 4 Tryd.f4 rfl rfl rfl rfl rfl rfl rfl ⟨rfl, rfl, rfl, rfl, rfl⟩ rfl rfl rfl rfl rfl (by kernel_rfl) Tryd.func4 (by kernel_rfl)
    (of_decide_eq_true (by kernel_rfl)) (by unfold Func.isWrapper; first | (rw [if_pos (by decide +kernel)]; kernel_rfl) | (rw [if_neg (by decide +kernel)]; exact ⟨rfl, rfl⟩))
    (fun os started H enc _ => lifted_4 os started H enc)
/-- the statement: the tied card -/
theorem proved_ReadPanel : Rows.FnExactReadPanelCardSaid :=
  Claim7.holds_tied_plain_at .later [] _ true _ _
    over_ReadPanel (fun _ h => by cases h) (by kernel_rfl) (fun _ h => by cases h) fnExactReadPanel_row_tie rfl ⟨rfl, rfl⟩ (by kernel_rfl) rfl
    (fun f fn hf hfn => by
      obtain rfl : f = 4 := Option.some.inj ((show Tryd.prog.funcNamed Rows.fnExactReadPanelRow.func = some 4 by kernel_rfl).symm.trans hf) |>.symm
      obtain rfl : fn = Tryd.f4 := (Option.some.inj (Tryd.func4.symm.trans hfn)).symm
      exact ⟨by kernel_rfl, fun j t ht => by
        have hall : (Tryd.f4.params.toList.all fun u => !Tryd.prog.wantsStandIn u) = true := by kernel_rfl
        have hm : t ∈ Tryd.f4.params.toList := by simpa using Array.mem_of_getElem? ht
        exact (show Tryd.prog.wantsStandIn t = false by simpa using List.all_eq_true.1 hall t hm)⟩)
    (by kernel_rfl)
#print axioms proved_ReadPanel
end Go.Proofs.YtadgldmkbnlfiaaDoor.mem
