/-
  The law FnExactMovesText holds of the given program for every input: it returns true, and each argument reads as it did.
-/
import Derived.Test.YtbjjiamfimgcgaaDoorOpen
import Derived.Test.YtbjjiamfimgcgaaDoorTw
import Derived.Test.YtbjjiamfimgcgaaDoorTie
import Derived.Test.YtbjjiamfimgcgaaDoorCards
import Derived.SevenTiedAt
import Derived.LaidMore
import Derived.Stop.Joined
import Derived.HandedShaped
namespace Go.Proofs.YtbjjiamfimgcgaaDoor.mem
open Go.ChangeShapes Go.WideShapes Go.ChangeAt Go.RowKit
set_option linter.unusedVariables false
set_option maxHeartbeats 4000000 in
theorem law_MovesText (u : Sl) (us : List Int) (w : World) (iu : In1 w u us) :
    Calls Tryd.prog 3 #[.slice u.A u.n u.c] w fun e w' => e = .returned (.bool true) ∧ Ext w w' := by
  have hX := Ext.refl w
  have mu := iu.max
  unfold maxLen at mu
  by_cases hs : u.n ≤ 1048576
  case neg =>
    go_enter Tryd.func3, Tryd.ntmps3
    go_wp2
    go_ret
    exact ⟨rfl, hX⟩
  have ru := iu.rds (by omega)
  go_enter Tryd.func3, Tryd.ntmps3
  go_wp2_with fail
  refine (toInt64S_any u us _ (ru.ext hX)).mono ?_
  rintro e w1 ⟨ua, rfl, oua, hx⟩
  replace hX := hX.trans hx
  have z1 : w.heap.size ≤ w1.heap.size := (by have := hx.size; simpa using this)
  have rgoua : ∀ k, Value.ownBlock (.slice ua.A ua.n ua.c) = some k → w.heap.size ≤ k ∧ k < w1.heap.size := (fun k hk => by have := oua.lt k hk; simpa using this)
  clear hx
  go_wp2_with fail
  refine (spec.MovesText_any ua us _ oua.rd ).mono ?_
  rintro e w2 ⟨rfl, hx⟩
  replace hX := hX.trans hx
  have z2 : w1.heap.size ≤ w2.heap.size := (by have := hx.size; simpa using this)
  replace oua := oua.ext hx
  clear hx
  go_wp2_with fail
  refine (toInt64S_any u us _ (ru.ext hX)).mono ?_
  rintro e w3 ⟨ub, rfl, oub, hx⟩
  replace hX := hX.trans hx
  have z3 : w2.heap.size ≤ w3.heap.size := (by have := hx.size; simpa using this)
  replace oua := oua.ext hx
  have rgoub : ∀ k, Value.ownBlock (.slice ub.A ub.n ub.c) = some k → w2.heap.size ≤ k ∧ k < w3.heap.size := (fun k hk => by have := oub.lt k hk; simpa using this)
  clear hx
  go_wp2_with fail
  refine (impl.MovesText_any ub us _ oub.rd ).mono ?_
  rintro e w4 ⟨rfl, hx⟩
  replace hX := hX.trans hx
  have z4 : w3.heap.size ≤ w4.heap.size := (by have := hx.size; simpa using this)
  replace oua := oua.ext hx
  replace oub := oub.ext hx
  clear hx
  go_wp2_with fail
  refine (toInt64S_any u us _ (ru.ext hX)).mono ?_
  rintro e w5 ⟨ubc, rfl, oubc, hx⟩
  replace hX := hX.trans hx
  have z5 : w4.heap.size ≤ w5.heap.size := (by have := hx.size; simpa using this)
  replace oua := oua.ext hx
  replace oub := oub.ext hx
  clear hx
  go_wp2_with fail
  refine (eqInt64S_yes ub ubc _ _ oub.rd (oubc.ext (Ext.refl _)).rd).mono ?_
  rintro e w6 ⟨rfl, hx⟩
  replace hX := hX.trans hx
  have z6 : w5.heap.size ≤ w6.heap.size := (by have := hx.size; simpa using this)
  replace oua := oua.ext hx
  replace oub := oub.ext hx
  clear hx
  go_wp2
  go_ret
  exact ⟨rfl, hX⟩
theorem own_MovesText : ownKnob Tryd.prog.godebug = none := by kernel_rfl
/-- a world that holds what the row lists: the door's own run -/
theorem met_3 (os : Os) (args : Array Value) : laidMetH Tryd.prog (Rows.fnExactMovesTextRow.laid) ((World.doorLaid Tryd.prog 2000 os).forCall (fun _ _ => 0) ⟨#[], args, []⟩).memory :=
  laidMetH_of_parts3 (fuel := 8) (laidMet_of_run' 8 (by kernel_rfl) (by kernel_rfl)) (by kernel_rfl) (by kernel_rfl)
set_option maxRecDepth 100000 in
theorem lifted_3 (os : Os) (started : os.Started) (H : Type) (enc : TypeId × Value → H) :
    ReturnsInHanded {} Tryd.checked os 3 .any (fun w args => (Rows.fnExactMovesTextSpec.pre enc Tryd.prog Tryd.f3 [] false w args ∧ laidMetH Tryd.prog (Rows.fnExactMovesTextRow.laid) w) ∧ sizedMet enc Tryd.prog Tryd.f3 (OpenSpec.ofChange Rows.fnExactMovesTextSpec) false w args)
      (Rows.fnExactMovesTextSpec.post enc Tryd.prog Tryd.f3 false true false false) := by
  refine returnsInHanded_of_change_and (C := Tryd.checked) (X := fun w _ => laidMetH Tryd.prog (Rows.fnExactMovesTextRow.laid) w) (fun _ _ _ hh h => h.of_heap hh) own_MovesText started (by kernel_rfl) Tryd.func3
    (ChangeSpec.witness_shaped (enc := enc) (C := Tryd.checked) (os := os) (X := fun w _ => laidMetH Tryd.prog (Rows.fnExactMovesTextRow.laid) w) false (World.doorLaid Tryd.prog 2000 os) #[.slice none 0 0] 8 rfl (World.shaped_of_RefB (by kernel_rfl) (by kernel_rfl)) (by kernel_rfl) (by kernel_rfl) (by kernel_rfl) (met_3 os _)) ?_
  intro W base args ds gs before hval0 hW _ _ hL _
  have hval : ∀ (j : Nat) t v, Tryd.f3.params[j]? = some t → args[j]? = some v → Value.okWide Tryd.prog W .any base t v := hval0
  have hW' := hW
  obtain ⟨p, q, hA0, hV, rfl, hfz, hnd⟩ := hW
  have hA : DataW.TrodAll enc Tryd.prog W 0 (fun _ => true) true Tryd.f3.params.toList args.toList ds p := hA0
  rw [Tryd.params3] at hA hval
  obtain ⟨v0, vs0, d0, ds0, p0, q0, hargs, rfl, rfl, h0, r0⟩ := trodAll_cons hA
  obtain ⟨rfl, rfl, rfl⟩ := trodAll_nil r0
  obtain rfl : args = #[v0] := by cases args; simp_all
  obtain ⟨rfl, rfl⟩ := trodVars_none hV
  have k0 := h0
  have lt0 : ∀ x ∈ p0, x.block < W.heap.size := by obtain ⟨m, hm⟩ := k0; exact DataW.trod_lt m _ _ _ hm
  obtain ⟨s0, x0, rfl, i0⟩ := open_arg (hval 0 22 v0 rfl rfl) h0 (fun _ => rfl)
  clear hA0 hval0
  refine (law_MovesText s0 x0 W i0).mono fun e W' ⟨he, bel⟩ => ?_
  subst he
  exact ⟨_, rfl, _, _, _, [], _, [], hW', trodAll_mk1 (shut_bool Tryd.underlying4 _), (trodAll_cons_mk (Below.trod laidOut (by kernel_rfl) (of_decide_eq_true (by kernel_rfl)) k0 bel lt0) trodAll_mk0), rfl, Below.frame bel _, fun h => by cases h⟩
theorem over_MovesText : Rows.FnExactMovesTextSaid :=
  OpenClaim.holds_of_wide 3 Tryd.f3 rfl rfl rfl rfl rfl rfl rfl ⟨rfl, rfl, rfl, rfl, rfl⟩ rfl rfl rfl rfl rfl (by kernel_rfl) Tryd.func3 (by kernel_rfl)
    (of_decide_eq_true (by kernel_rfl)) (by unfold Func.isWrapper; first | (rw [if_pos (by decide +kernel)]; kernel_rfl) | (rw [if_neg (by decide +kernel)]; exact ⟨rfl, rfl⟩))
    (fun os started H enc _ => lifted_3 os started H enc)
/-- the statement: the tied card -/
theorem proved_MovesText : Rows.FnExactMovesTextCardSaid :=
  Claim7.holds_tied_plain_at .later [] [.data, .data, .data] true _ false
    over_MovesText (fun _ h => by cases h) (by kernel_rfl) (fun _ h => by cases h) fnExactMovesText_row_tie rfl ⟨rfl, rfl⟩ (by kernel_rfl) rfl
    (fun f fn hf hfn => by
      obtain rfl : f = 3 := Option.some.inj ((show Tryd.prog.funcNamed Rows.fnExactMovesTextRow.func = some 3 by kernel_rfl).symm.trans hf) |>.symm
      obtain rfl : fn = Tryd.f3 := (Option.some.inj (Tryd.func3.symm.trans hfn)).symm
      exact ⟨by kernel_rfl, fun j t ht => by
        have hall : (Tryd.f3.params.toList.all fun u => !Tryd.prog.wantsStandIn u) = true := by kernel_rfl
        have hm : t ∈ Tryd.f3.params.toList := by simpa using Array.mem_of_getElem? ht
        exact (show Tryd.prog.wantsStandIn t = false by simpa using List.all_eq_true.1 hall t hm)⟩)
    (by kernel_rfl)
#print axioms proved_MovesText
end Go.Proofs.YtbjjiamfimgcgaaDoor.mem
