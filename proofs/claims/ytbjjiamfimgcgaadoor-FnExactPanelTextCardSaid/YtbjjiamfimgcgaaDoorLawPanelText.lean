/-
  The law FnExactPanelText holds of the given program for every input: it returns true, and each argument reads as it did.
-/
import Derived.Test.YtbjjiamfimgcgaaDoorOpen
import Derived.Test.YtbjjiamfimgcgaaDoorTn
import Derived.Test.YtbjjiamfimgcgaaDoorTie
import Derived.Test.YtbjjiamfimgcgaaDoorCards
import Derived.SevenTiedAt
import Derived.LaidMore
import Derived.Stop.Joined
import Derived.HandedShaped
import Derived.Stop.LaidErr
import Derived.Lib.SmallJoins
import Derived.Lib.LaidTab
namespace Go.Proofs.YtbjjiamfimgcgaaDoor.mem
open Go.ChangeShapes Go.WideShapes Go.ChangeAt Go.RowKit
set_option linter.unusedVariables false
set_option maxHeartbeats 4000000 in
theorem law_PanelText (p : S3) (l : L3) (w : World) (ip : In3 w p l) (hT0 : Tab w) :
    Calls Tryd.prog 4 #[.agg #[.slice p.x.A p.x.n p.x.c, .slice p.y.A p.y.n p.y.c, .slice p.z.A p.z.n p.z.c]] w fun e w' => e = .returned (.bool true) ∧ Ext w w' := by
  have hX := Ext.refl w
  have hPp := Blk.new w 29 (#[.slice p.x.A p.x.n p.x.c, .slice p.y.A p.y.n p.y.c, .slice p.z.A p.z.n p.z.c])
  replace hX := hX.alloc (.cells #[.slice p.x.A p.x.n p.x.c, .slice p.y.A p.y.n p.y.c, .slice p.z.A p.z.n p.z.c] 29)
  by_cases hsp : 0 ≤ sz3 1048576 p
  case neg =>
    go_enter Tryd.func4, Tryd.ntmps4
    obtain ⟨qhPp0, qhPp1, qhPp2⟩ := hPp.c3
    go_wp2_with fail
    refine (szPanel_any p _ _ (by omega) (by omega) ip.1.max ip.2.1.max ip.2.2.max).mono ?_
    rintro e w1 ⟨rfl, hx⟩
    clear qhPp0 qhPp1 qhPp2
    replace hX := hX.trans hx
    have z1 : w.heap.size + 1 ≤ w1.heap.size := (by have := hx.size; simpa using this)
    replace hPp := hPp.ext hx
    clear hx
    obtain ⟨qhPp0, qhPp1, qhPp2⟩ := hPp.c3
    go_wp2
    go_ret
    exact ⟨rfl, hX⟩
  have rp := ip.rds hsp (by omega)
  have hlp := (sz3_pos hsp (by omega)).2
  go_enter Tryd.func4, Tryd.ntmps4
  obtain ⟨qhPp0, qhPp1, qhPp2⟩ := hPp.c3
  go_wp2_with fail
  refine (szPanel_any p _ _ (by omega) (by omega) ip.1.max ip.2.1.max ip.2.2.max).mono ?_
  rintro e w1 ⟨rfl, hx⟩
  clear qhPp0 qhPp1 qhPp2
  replace hX := hX.trans hx
  have z1 : w.heap.size + 1 ≤ w1.heap.size := (by have := hx.size; simpa using this)
  replace hPp := hPp.ext hx
  clear hx
  obtain ⟨qhPp0, qhPp1, qhPp2⟩ := hPp.c3
  go_wp2_with fail
  refine (toPanel_any p l _ (rp.ext hX)).mono ?_
  rintro e w2 ⟨pa, rfl, opa, hx⟩
  clear qhPp0 qhPp1 qhPp2
  replace hX := hX.trans hx
  have z2 : w1.heap.size ≤ w2.heap.size := (by have := hx.size; simpa using this)
  replace hPp := hPp.ext hx
  have rgopa : ∀ k, blks pa k → w1.heap.size ≤ k ∧ k < w2.heap.size := (fun k hk => by have := opa.lt hk; simpa using this)
  clear hx
  obtain ⟨qhPp0, qhPp1, qhPp2⟩ := hPp.c3
  go_wp2_with fail
  refine (spec.PanelText_any pa l _ opa.rd ).mono ?_
  rintro e w3 ⟨rfl, hx⟩
  clear qhPp0 qhPp1 qhPp2
  replace hX := hX.trans hx
  have z3 : w2.heap.size ≤ w3.heap.size := (by have := hx.size; simpa using this)
  replace hPp := hPp.ext hx
  replace opa := opa.ext hx
  clear hx
  obtain ⟨qhPp0, qhPp1, qhPp2⟩ := hPp.c3
  go_wp2_with fail
  refine (toPanel_any p l _ (rp.ext hX)).mono ?_
  rintro e w4 ⟨pb, rfl, opb, hx⟩
  clear qhPp0 qhPp1 qhPp2
  replace hX := hX.trans hx
  have z4 : w3.heap.size ≤ w4.heap.size := (by have := hx.size; simpa using this)
  replace hPp := hPp.ext hx
  replace opa := opa.ext hx
  have rgopb : ∀ k, blks pb k → w3.heap.size ≤ k ∧ k < w4.heap.size := (fun k hk => by have := opb.lt hk; simpa using this)
  clear hx
  have hxpb := Blk.new w4 32 (#[.slice pb.x.A pb.x.n pb.x.c, .slice pb.y.A pb.y.n pb.y.c, .slice pb.z.A pb.z.n pb.z.c])
  replace hPp := hPp.alloc (.cells #[.slice pb.x.A pb.x.n pb.x.c, .slice pb.y.A pb.y.n pb.y.c, .slice pb.z.A pb.z.n pb.z.c] 32)
  replace opa := opa.alloc (.cells #[.slice pb.x.A pb.x.n pb.x.c, .slice pb.y.A pb.y.n pb.y.c, .slice pb.z.A pb.z.n pb.z.c] 32)
  replace opb := opb.alloc (.cells #[.slice pb.x.A pb.x.n pb.x.c, .slice pb.y.A pb.y.n pb.y.c, .slice pb.z.A pb.z.n pb.z.c] 32)
  replace hX := hX.alloc (.cells #[.slice pb.x.A pb.x.n pb.x.c, .slice pb.y.A pb.y.n pb.y.c, .slice pb.z.A pb.z.n pb.z.c] 32)
  obtain ⟨qhPp0, qhPp1, qhPp2⟩ := hPp.c3
  obtain ⟨qhxpb0, qhxpb1, qhxpb2⟩ := hxpb.c3
  go_wp2_with fail
  refine (impl.PanelText_any pb l _ opb.rd (hT0.ext hX)).mono ?_
  rintro e w5 ⟨rfl, hx⟩
  clear qhPp0 qhPp1 qhPp2 qhxpb0 qhxpb1 qhxpb2
  replace hX := hX.trans hx
  have z5 : w4.heap.size + 1 ≤ w5.heap.size := (by have := hx.size; simpa using this)
  replace hPp := hPp.ext hx
  replace hxpb := hxpb.ext hx
  replace opa := opa.ext hx
  replace opb := opb.ext hx
  clear hx
  obtain ⟨qhPp0, qhPp1, qhPp2⟩ := hPp.c3
  obtain ⟨qhxpb0, qhxpb1, qhxpb2⟩ := hxpb.c3
  replace hPp := hPp.drew
  replace hxpb := hxpb.drew
  replace opa := opa.drew
  replace opb := opb.drew
  replace hX := hX.drew
  go_wp2_with fail
  go_region_held3 (fun w' => w'.cell? ⟨w.heap.size, 0, none⟩ = some (.slice p.x.A p.x.n p.x.c) ∧ w'.cell? ⟨w.heap.size, 1, none⟩ = some (.slice p.y.A p.y.n p.y.c) ∧ w'.cell? ⟨w.heap.size, 2, none⟩ = some (.slice p.z.A p.z.n p.z.c) ∧ w'.cell? ⟨w4.heap.size, 0, none⟩ = some (.slice pb.x.A pb.x.n pb.x.c) ∧ w'.cell? ⟨w4.heap.size, 1, none⟩ = some (.slice pb.y.A pb.y.n pb.y.c) ∧ w'.cell? ⟨w4.heap.size, 2, none⟩ = some (.slice pb.z.A pb.z.n pb.z.c)) (first | exact kk2.2 | exact kk1.2 | go_keep) (first | (go_at_call 12; refine (toPanel_any p l _ (rp.ext hX)).mono ?_; rintro e w6 ⟨pbc, rfl, opbc, hx⟩; replace hX := hX.trans hx; have z6 : w5.heap.size ≤ w6.heap.size := (by have := hx.size; simpa using this); replace hPp := hPp.ext hx; replace hxpb := hxpb.ext hx; replace opa := opa.ext hx; replace opb := opb.ext hx; have kk1 := And.intro trivial (show w6.cell? ⟨w.heap.size, 0, none⟩ = some (.slice p.x.A p.x.n p.x.c) ∧ w6.cell? ⟨w.heap.size, 1, none⟩ = some (.slice p.y.A p.y.n p.y.c) ∧ w6.cell? ⟨w.heap.size, 2, none⟩ = some (.slice p.z.A p.z.n p.z.c) ∧ w6.cell? ⟨w4.heap.size, 0, none⟩ = some (.slice pb.x.A pb.x.n pb.x.c) ∧ w6.cell? ⟨w4.heap.size, 1, none⟩ = some (.slice pb.y.A pb.y.n pb.y.c) ∧ w6.cell? ⟨w4.heap.size, 2, none⟩ = some (.slice pb.z.A pb.z.n pb.z.c) from ⟨hPp.c3.1, hPp.c3.2.1, hPp.c3.2.2, hxpb.c3.1, hxpb.c3.2.1, hxpb.c3.2.2⟩); clear hx) | (go_at_call 14; refine (eqPanel_yes pb pbc _ _ opb.rd opbc.rd).mono ?_; rintro e w7 ⟨rfl, hx⟩; replace hX := hX.trans hx; have z7 : w6.heap.size ≤ w7.heap.size := (by have := hx.size; simpa using this); replace hPp := hPp.ext hx; replace hxpb := hxpb.ext hx; replace opa := opa.ext hx; replace opb := opb.ext hx; have kk2 := And.intro trivial (show w7.cell? ⟨w.heap.size, 0, none⟩ = some (.slice p.x.A p.x.n p.x.c) ∧ w7.cell? ⟨w.heap.size, 1, none⟩ = some (.slice p.y.A p.y.n p.y.c) ∧ w7.cell? ⟨w.heap.size, 2, none⟩ = some (.slice p.z.A p.z.n p.z.c) ∧ w7.cell? ⟨w4.heap.size, 0, none⟩ = some (.slice pb.x.A pb.x.n pb.x.c) ∧ w7.cell? ⟨w4.heap.size, 1, none⟩ = some (.slice pb.y.A pb.y.n pb.y.c) ∧ w7.cell? ⟨w4.heap.size, 2, none⟩ = some (.slice pb.z.A pb.z.n pb.z.c) from ⟨hPp.c3.1, hPp.c3.2.1, hPp.c3.2.2, hxpb.c3.1, hxpb.c3.2.1, hxpb.c3.2.2⟩); clear hx))
  clear kk1 kk2
  clear qhPp0 qhPp1 qhPp2 qhxpb0 qhxpb1 qhxpb2
  obtain ⟨qhPp0, qhPp1, qhPp2⟩ := hPp.c3
  obtain ⟨qhxpb0, qhxpb1, qhxpb2⟩ := hxpb.c3
  go_wp2
  go_ret
  exact ⟨rfl, hX⟩
theorem own_PanelText : ownKnob Tryd.prog.godebug = none := by kernel_rfl
theorem Tab.of_laid {W : World} (h : laidMetH Tryd.prog (Rows.fnExactPanelTextRow.laid) W) : Tab W := by
  rw [MakeChecks.laidMetH_plain _ _ _ (by kernel_rfl)] at h
  have h2 : laidMet Tryd.prog (("internal/strconv.uint64pow10", Lib.tabData .u64 Lib.pow10Tab) :: []) W := Go.laidMet.tail (Go.laidMet.tail h)
  have h3 : Lib.TabIs Tryd.prog W "internal/strconv.uint64pow10" .u64 Lib.pow10Tab := Lib.tabIs_of_head (g := 1) (by kernel_rfl) (by kernel_rfl) Tryd.underlying85 Tryd.underlying78 (by kernel_rfl) (by kernel_rfl) h2
  exact fun W1 hx => Go.Joins.tab_stays (g := 1) (by kernel_rfl) h3 hx (Nat.le_refl _)
/-- a world that holds what the row lists: the door's own run -/
theorem met_4 (os : Os) (args : Array Value) : laidMetH Tryd.prog (Rows.fnExactPanelTextRow.laid) ((World.doorLaid Tryd.prog 2000 os).forCall (fun _ _ => 0) ⟨#[], args, []⟩).memory :=
  laidMetH_of_parts3 (fuel := 8) (laidMet_of_run' 8 (by kernel_rfl) (by kernel_rfl)) (by kernel_rfl) (by kernel_rfl)
set_option maxRecDepth 100000 in
theorem lifted_4 (os : Os) (started : os.Started) (H : Type) (enc : TypeId × Value → H) :
    ReturnsInHanded {} Tryd.checked os 4 .any (fun w args => (Rows.fnExactPanelTextSpec.pre enc Tryd.prog Tryd.f4 [] false w args ∧ laidMetH Tryd.prog (Rows.fnExactPanelTextRow.laid) w) ∧ sizedMet enc Tryd.prog Tryd.f4 (OpenSpec.ofChange Rows.fnExactPanelTextSpec) false w args)
      (Rows.fnExactPanelTextSpec.post enc Tryd.prog Tryd.f4 false true false false) := by
  refine returnsInHanded_of_change_and (C := Tryd.checked) (X := fun w _ => laidMetH Tryd.prog (Rows.fnExactPanelTextRow.laid) w) (fun _ _ _ hh h => h.of_heap hh) own_PanelText started (by kernel_rfl) Tryd.func4
    (ChangeSpec.witness_shaped (enc := enc) (C := Tryd.checked) (os := os) (X := fun w _ => laidMetH Tryd.prog (Rows.fnExactPanelTextRow.laid) w) false (World.doorLaid Tryd.prog 2000 os) #[.agg #[.slice none 0 0, .slice none 0 0, .slice none 0 0]] 8 rfl (World.shaped_of_RefB (by kernel_rfl) (by kernel_rfl)) (by kernel_rfl) (by kernel_rfl) (by kernel_rfl) (met_4 os _)) ?_
  intro W base args ds gs before hval0 hW _ _ hL _
  have hval : ∀ (j : Nat) t v, Tryd.f4.params[j]? = some t → args[j]? = some v → Value.okWide Tryd.prog W .any base t v := hval0
  have hW' := hW
  obtain ⟨p, q, hA0, hV, rfl, hfz, hnd⟩ := hW
  have hA : DataW.TrodAll enc Tryd.prog W 0 (fun _ => true) true Tryd.f4.params.toList args.toList ds p := hA0
  rw [Tryd.params4] at hA hval
  obtain ⟨v0, vs0, d0, ds0, p0, q0, hargs, rfl, rfl, h0, r0⟩ := trodAll_cons hA
  obtain ⟨rfl, rfl, rfl⟩ := trodAll_nil r0
  obtain rfl : args = #[v0] := by cases args; simp_all
  obtain ⟨rfl, rfl⟩ := trodVars_none hV
  have k0 := h0
  have lt0 : ∀ x ∈ p0, x.block < W.heap.size := by obtain ⟨m, hm⟩ := k0; exact DataW.trod_lt m _ _ _ hm
  obtain ⟨s0, x0, rfl, i0⟩ := open_Panel (hval 0 29 v0 rfl rfl) h0 (fun _ => rfl)
  clear hA0 hval0
  refine (law_PanelText s0 x0 W i0 (Tab.of_laid hL)).mono fun e W' ⟨he, bel⟩ => ?_
  subst he
  exact ⟨_, rfl, _, _, _, [], _, [], hW', trodAll_mk1 (shut_bool Tryd.underlying4 _), (trodAll_cons_mk (Below.trod laidOut (by kernel_rfl) (of_decide_eq_true (by kernel_rfl)) k0 bel lt0) trodAll_mk0), rfl, Below.frame bel _, fun h => by cases h⟩
theorem over_PanelText : Rows.FnExactPanelTextSaid :=
  OpenClaim.holds_of_wide 4 Tryd.f4 rfl rfl rfl rfl rfl rfl rfl ⟨rfl, rfl, rfl, rfl, rfl⟩ rfl rfl rfl rfl rfl (by kernel_rfl) Tryd.func4 (by kernel_rfl)
    (of_decide_eq_true (by kernel_rfl)) (by unfold Func.isWrapper; first | (rw [if_pos (by decide +kernel)]; kernel_rfl) | (rw [if_neg (by decide +kernel)]; exact ⟨rfl, rfl⟩))
    (fun os started H enc _ => lifted_4 os started H enc)
/-- the statement: the tied card -/
theorem proved_PanelText : Rows.FnExactPanelTextCardSaid :=
  Claim7.holds_tied_plain_at .later [] [.data, .data, .data] true _ false
    over_PanelText (fun _ h => by cases h) (by kernel_rfl) (fun _ h => by cases h) fnExactPanelText_row_tie rfl ⟨rfl, rfl⟩ (by kernel_rfl) rfl
    (fun f fn hf hfn => by
      obtain rfl : f = 4 := Option.some.inj ((show Tryd.prog.funcNamed Rows.fnExactPanelTextRow.func = some 4 by kernel_rfl).symm.trans hf) |>.symm
      obtain rfl : fn = Tryd.f4 := (Option.some.inj (Tryd.func4.symm.trans hfn)).symm
      exact ⟨by kernel_rfl, fun j t ht => by
        have hall : (Tryd.f4.params.toList.all fun u => !Tryd.prog.wantsStandIn u) = true := by kernel_rfl
        have hm : t ∈ Tryd.f4.params.toList := by simpa using Array.mem_of_getElem? ht
        exact (show Tryd.prog.wantsStandIn t = false by simpa using List.all_eq_true.1 hall t hm)⟩)
    (by kernel_rfl)
#print axioms proved_PanelText
end Go.Proofs.YtbjjiamfimgcgaaDoor.mem
