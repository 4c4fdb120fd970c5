/-
  The law FnExactReadMoves holds of the given program for every input: it returns true, and each argument reads as it did.
-/
import Derived.Test.YtadgldmkbnlfiaaDoorOpen
import Derived.Test.YtadgldmkbnlfiaaDoorRli
import Derived.Test.YtadgldmkbnlfiaaDoorLbS
import Derived.Test.YtadgldmkbnlfiaaDoorTie
import Derived.Test.YtadgldmkbnlfiaaDoorCards
import Derived.SevenTiedAt
import Derived.LaidMore
import Derived.Stop.Joined
import Derived.HandedShaped
import Derived.Stop.LaidErr
import Derived.Lib.SmallJoins
import Derived.Lib.LaidTab
import Derived.Lay
import Derived.ChangeMaps5
namespace Go.Proofs.YtadgldmkbnlfiaaDoor.mem
open Go.ChangeShapes Go.WideShapes Go.ChangeAt Go.RowKit
set_option linter.unusedVariables false
set_option maxHeartbeats 4000000 in
theorem law_ReadMoves (u : ByteArray) (w : World) (bu : u.size ≤ maxLen) (hL : Lb w) :
    Calls Tryd.prog 3 #[.string u] w fun e w' => e = .returned (.bool true) ∧ Ext w w' := by
  have hX := Ext.refl w
  have mu := bu
  unfold maxLen at mu
  by_cases hs : u.size ≤ 1048576
  case neg =>
    go_enter Tryd.func3, Tryd.ntmps3
    go_wp2
    go_ret
    exact ⟨rfl, hX⟩
  go_enter Tryd.func3, Tryd.ntmps3
  go_wp2_with fail
  refine (spec.ReadMoves_any u _  hs).mono ?_
  rintro e w1 ⟨tw0, rfl, otw0, hx⟩
  replace hX := hX.trans hx
  have z1 : w.heap.size ≤ w1.heap.size := (by have := hx.size; simpa using this)
  have rgotw0 : ∀ k, Value.ownBlock (.slice tw0.A tw0.n tw0.c) = some k → w.heap.size ≤ k ∧ k < w1.heap.size := (fun k hk => by have := otw0.lt k hk; simpa using this)
  clear hx
  go_wp2_with fail
  refine (impl.ReadMoves_any u _  hs (hL.ext hX)).mono ?_
  rintro e w2 ⟨tg0, rfl, otg0, hx⟩
  replace hX := hX.trans hx
  have z2 : w1.heap.size ≤ w2.heap.size := (by have := hx.size; simpa using this)
  replace otw0 := otw0.ext hx
  have rgotg0 : ∀ k, Value.ownBlock (.slice tg0.A tg0.n tg0.c) = some k → w1.heap.size ≤ k ∧ k < w2.heap.size := (fun k hk => by have := otg0.lt k hk; simpa using this)
  clear hx
  go_wp2_with fail
  refine (eqInt64S_yes tg0 tw0 _ _ otg0.rd otw0.rd).mono ?_
  rintro e w3 ⟨rfl, hx⟩
  replace hX := hX.trans hx
  have z3 : w2.heap.size ≤ w3.heap.size := (by have := hx.size; simpa using this)
  replace otw0 := otw0.ext hx
  replace otg0 := otg0.ext hx
  clear hx
  -- what came in is marked: the result is its own
  have leotg0 := otg0.rd.le
  go_wp2_with fail
  refine (markInt64S_any tg0 _ 1 _ _ otg0 (by omega) (by omega)).mono ?_
  rintro e w4 ⟨rfl, otg0', hf⟩
  replace hX := hX.fr_trans hf (fun k hk => by have := rgotg0 k hk; omega)
  have z4 : w3.heap.size ≤ w4.heap.size := by have := hf.size; simpa using this
  replace otw0 := otw0.fr hf (fun k h1 h2 => by have a1 := rgotw0 k h1; have a2 := rgotg0 k h2; omega)
  clear hf otg0
  have otg0 := otg0'
  clear otg0'
  go_wp2_with fail
  refine (heldInt64S_any tg0 1 _ otg0.rd (by omega) (by omega)).mono ?_
  rintro e w' ⟨rfl, rfl⟩
  go_wp2_with fail
  refine (impl.ReadMoves_any u _  hs (hL.ext hX)).mono ?_
  rintro e w5 ⟨th0, rfl, oth0, hx⟩
  replace hX := hX.trans hx
  have z5 : w4.heap.size ≤ w5.heap.size := (by have := hx.size; simpa using this)
  replace otw0 := otw0.ext hx
  replace otg0 := otg0.ext hx
  have rgoth0 : ∀ k, Value.ownBlock (.slice th0.A th0.n th0.c) = some k → w4.heap.size ≤ k ∧ k < w5.heap.size := (fun k hk => by have := oth0.lt k hk; simpa using this)
  clear hx
  go_wp2_with fail
  refine (eqInt64S_yes th0 tw0 _ _ oth0.rd otw0.rd).mono ?_
  rintro e w6 ⟨rfl, hx⟩
  replace hX := hX.trans hx
  have z6 : w5.heap.size ≤ w6.heap.size := (by have := hx.size; simpa using this)
  replace otw0 := otw0.ext hx
  replace otg0 := otg0.ext hx
  replace oth0 := oth0.ext hx
  clear hx
  go_wp2_with fail
  refine (heldInt64S_any tg0 1 _ otg0.rd (by omega) (by omega)).mono ?_
  rintro e w' ⟨rfl, rfl⟩
  go_wp2
  go_ret
  exact ⟨rfl, hX⟩
theorem own_ReadMoves : ownKnob Tryd.prog.godebug = none := by kernel_rfl
theorem laid_ReadMoves {W : World} (h : laidMetH Tryd.prog (Rows.fnExactReadMovesRow.laid) W) : laidMet Tryd.prog (Rows.fnExactReadMovesRow.laid) W := by
  rw [MakeChecks.laidMetH_plain _ _ _ (by kernel_rfl)] at h
  exact h
/-- a world that holds what the row lists: the door's own run -/
theorem met_3 (os : Os) (args : Array Value) : laidMetH Tryd.prog (Rows.fnExactReadMovesRow.laid) ((World.laidAll Tryd.prog os (Rows.fnExactReadMovesRow.laid)).forCall (fun _ _ => 0) ⟨#[], args, []⟩).memory := by
  rw [MakeChecks.laidMetH_plain _ _ _ (by kernel_rfl)]; exact laidMet_laidAll _ (by kernel_rfl) (by kernel_rfl)
set_option maxRecDepth 100000 in
theorem lifted_3 (os : Os) (started : os.Started) (H : Type) (enc : TypeId × Value → H) :
    ReturnsInHanded {} Tryd.checked os 3 .any (fun w args => (Rows.fnExactReadMovesSpec.pre enc Tryd.prog Tryd.f3 [] false w args ∧ laidMetH Tryd.prog (Rows.fnExactReadMovesRow.laid) w) ∧ sizedMet enc Tryd.prog Tryd.f3 (OpenSpec.ofChange Rows.fnExactReadMovesSpec) false w args)
      (Rows.fnExactReadMovesSpec.post enc Tryd.prog Tryd.f3 false true false false) := by
  refine handed_both (C := Tryd.checked) (X := fun w _ => laidMetH Tryd.prog (Rows.fnExactReadMovesRow.laid) w) (fun _ _ _ hh h => h.of_heap hh) own_ReadMoves started (by kernel_rfl) Tryd.func3
    (ChangeSpec.witness_shaped (enc := enc) (C := Tryd.checked) (os := os) (X := fun w _ => laidMetH Tryd.prog (Rows.fnExactReadMovesRow.laid) w) false (World.laidAll Tryd.prog os (Rows.fnExactReadMovesRow.laid)) #[.string ⟨#[]⟩] 8 (World.laidAll_os _ _ _) (World.shaped_of_ZipB (by kernel_rfl) (by kernel_rfl)) (by kernel_rfl) (by kernel_rfl) (by kernel_rfl) (met_3 os _)) ?_
  intro W base args ds gs before hval0 hW hL hShp
  have hval : ∀ (j : Nat) t v, Tryd.f3.params[j]? = some t → args[j]? = some v → Value.okWide Tryd.prog W .any base t v := hval0
  have hW' := hW
  obtain ⟨p, q, hA0, hV, rfl, hfz, hnd⟩ := hW
  have hA : DataW.TrodAll enc Tryd.prog W 0 (fun _ => true) true Tryd.f3.params.toList args.toList ds p := hA0
  rw [Tryd.params3] at hA hval
  obtain ⟨v0, vs0, d0, ds0, p0, q0, hargs, rfl, rfl, h0, r0⟩ := trodAll_cons hA
  obtain ⟨rfl, rfl, rfl⟩ := trodAll_nil r0
  obtain rfl : args = #[v0] := by cases args; simp_all
  obtain ⟨rfl, rfl⟩ := trodVars_none hV
  have k0 := h0
  have lt0 : ∀ x ∈ p0, x.block < W.heap.size := by obtain ⟨m, hm⟩ := k0; exact DataW.trod_lt m _ _ _ hm
  obtain ⟨a0, rfl, _, _, w0⟩ := Go.ChangeMaps.open_string Tryd.underlying9 (hval 0 9 v0 rfl rfl) h0
  clear hA0 hval0
  refine (law_ReadMoves a0 W w0 (Lb.of_list (laid_ReadMoves hL) hShp)).mono fun e W' ⟨he, bel⟩ => ?_
  subst he
  exact ⟨_, rfl, _, _, _, [], _, [], hW', trodAll_mk1 (shut_bool Tryd.underlying4 _), (trodAll_cons_mk (Below.trod laidOut (by kernel_rfl) (of_decide_eq_true (by kernel_rfl)) k0 bel lt0) trodAll_mk0), rfl, Below.frame bel _, fun h => by cases h⟩
theorem over_ReadMoves : Rows.FnExactReadMovesSaid :=
  OpenClaim.holds_of_wide 3 Tryd.f3 rfl rfl rfl rfl rfl rfl rfl ⟨rfl, rfl, rfl, rfl, rfl⟩ rfl rfl rfl rfl rfl (by kernel_rfl) Tryd.func3 (by kernel_rfl)
    (of_decide_eq_true (by kernel_rfl)) (by unfold Func.isWrapper; first | (rw [if_pos (by decide +kernel)]; kernel_rfl) | (rw [if_neg (by decide +kernel)]; exact ⟨rfl, rfl⟩))
    (fun os started H enc _ => lifted_3 os started H enc)
/-- the statement: the tied card -/
theorem proved_ReadMoves : Rows.FnExactReadMovesCardSaid :=
  Claim7.holds_tied_plain_at .later [] _ true _ _
    over_ReadMoves (fun _ h => by cases h) (by kernel_rfl) (fun _ h => by cases h) fnExactReadMoves_row_tie rfl ⟨rfl, rfl⟩ (by kernel_rfl) rfl
    (fun f fn hf hfn => by
      obtain rfl : f = 3 := Option.some.inj ((show Tryd.prog.funcNamed Rows.fnExactReadMovesRow.func = some 3 by kernel_rfl).symm.trans hf) |>.symm
      obtain rfl : fn = Tryd.f3 := (Option.some.inj (Tryd.func3.symm.trans hfn)).symm
      exact ⟨by kernel_rfl, fun j t ht => by
        have hall : (Tryd.f3.params.toList.all fun u => !Tryd.prog.wantsStandIn u) = true := by kernel_rfl
        have hm : t ∈ Tryd.f3.params.toList := by simpa using Array.mem_of_getElem? ht
        exact (show Tryd.prog.wantsStandIn t = false by simpa using List.all_eq_true.1 hall t hm)⟩)
    (by kernel_rfl)
#print axioms proved_ReadMoves
end Go.Proofs.YtadgldmkbnlfiaaDoor.mem
