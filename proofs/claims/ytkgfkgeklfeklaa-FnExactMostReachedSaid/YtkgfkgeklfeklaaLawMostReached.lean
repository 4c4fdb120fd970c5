/-
  The law FnExactMostReached holds of the given program for every input: it returns true, and each argument reads as it did.
-/
import Derived.Test.YtkgfkgeklfeklaaSelOpen
import Derived.Test.YtkgfkgeklfeklaaSelTop
namespace Go.Proofs.Ytkgfkgeklfeklaa.mem
open Go.ChangeShapes Go.WideShapes Go.ChangeAt Go.RowKit
set_option linter.unusedVariables false
theorem law_MostReached (p : SelA) (l : SelL) (w : World) (ip : InS w p l) :
    Calls Try.prog 6 #[.agg #[.slice p.p.x.A p.p.x.n p.p.x.c, .slice p.p.y.A p.p.y.n p.p.y.c, .slice p.p.z.A p.p.z.n p.p.z.c, .slice p.s.A p.s.n p.s.c, .int .i64 p.t, .int .i64 p.q]] w fun e w' => e = .returned (.bool true) ∧ Ext w w' := by
  have hX := Ext.refl w
  have hPp := Blk.new w 26 (#[.slice p.p.x.A p.p.x.n p.p.x.c, .slice p.p.y.A p.p.y.n p.p.y.c, .slice p.p.z.A p.p.z.n p.p.z.c, .slice p.s.A p.s.n p.s.c, .int .i64 p.t, .int .i64 p.q])
  replace hX := hX.alloc (.cells #[.slice p.p.x.A p.p.x.n p.p.x.c, .slice p.p.y.A p.p.y.n p.p.y.c, .slice p.p.z.A p.p.z.n p.p.z.c, .slice p.s.A p.s.n p.s.c, .int .i64 p.t, .int .i64 p.q] 26)
  by_cases hsp : 0 ≤ szS 1048576 p
  case neg =>
    go_enter Try.func6, Try.ntmps6
    obtain ⟨qhPp0, qhPp1, qhPp2, qhPp3, qhPp4, qhPp5⟩ := hPp.c6
    go_wp2_with fail
    refine (szSelection_any p _ _ (by omega) (by omega) ip).mono ?_
    rintro e w1 ⟨rfl, hx⟩
    clear qhPp0 qhPp1 qhPp2 qhPp3 qhPp4 qhPp5
    replace hX := hX.trans hx
    have z1 : w.heap.size + 1 ≤ w1.heap.size := (by have := hx.size; simpa using this)
    replace hPp := hPp.ext hx
    clear hx
    obtain ⟨qhPp0, qhPp1, qhPp2, qhPp3, qhPp4, qhPp5⟩ := hPp.c6
    go_wp2
    go_ret
    exact ⟨rfl, hX⟩
  have rp := ip.rds hsp (by omega)
  have hlp := (szS_pos hsp (by omega)).2
  go_enter Try.func6, Try.ntmps6
  obtain ⟨qhPp0, qhPp1, qhPp2, qhPp3, qhPp4, qhPp5⟩ := hPp.c6
  go_wp2_with fail
  refine (szSelection_any p _ _ (by omega) (by omega) ip).mono ?_
  rintro e w1 ⟨rfl, hx⟩
  clear qhPp0 qhPp1 qhPp2 qhPp3 qhPp4 qhPp5
  replace hX := hX.trans hx
  have z1 : w.heap.size + 1 ≤ w1.heap.size := (by have := hx.size; simpa using this)
  replace hPp := hPp.ext hx
  clear hx
  obtain ⟨qhPp0, qhPp1, qhPp2, qhPp3, qhPp4, qhPp5⟩ := hPp.c6
  go_wp2_with fail
  refine (toSelection_any p l _ (rp.ext hX)).mono ?_
  rintro e w2 ⟨pa, rfl, opa, hx⟩
  clear qhPp0 qhPp1 qhPp2 qhPp3 qhPp4 qhPp5
  replace hX := hX.trans hx
  have z2 : w1.heap.size ≤ w2.heap.size := (by have := hx.size; simpa using this)
  replace hPp := hPp.ext hx
  have rgopa : ∀ k, blksS pa k → w1.heap.size ≤ k ∧ k < w2.heap.size := fun k hk => by have := opa.lt hk; simpa using this
  clear hx
  obtain ⟨qhPp0, qhPp1, qhPp2, qhPp3, qhPp4, qhPp5⟩ := hPp.c6
  go_wp2_with fail
  refine (spec.MostReached_any pa l _ opa.rd ).mono ?_
  rintro e w3 ⟨rfl, hx⟩
  clear qhPp0 qhPp1 qhPp2 qhPp3 qhPp4 qhPp5
  replace hX := hX.trans hx
  have z3 : w2.heap.size ≤ w3.heap.size := (by have := hx.size; simpa using this)
  replace hPp := hPp.ext hx
  replace opa := opa.ext hx
  clear hx
  obtain ⟨qhPp0, qhPp1, qhPp2, qhPp3, qhPp4, qhPp5⟩ := hPp.c6
  go_wp2_with fail
  refine (toSelection_any p l _ (rp.ext hX)).mono ?_
  rintro e w4 ⟨pb, rfl, opb, hx⟩
  clear qhPp0 qhPp1 qhPp2 qhPp3 qhPp4 qhPp5
  replace hX := hX.trans hx
  have z4 : w3.heap.size ≤ w4.heap.size := (by have := hx.size; simpa using this)
  replace hPp := hPp.ext hx
  replace opa := opa.ext hx
  have rgopb : ∀ k, blksS pb k → w3.heap.size ≤ k ∧ k < w4.heap.size := fun k hk => by have := opb.lt hk; simpa using this
  clear hx
  have hxpb := Blk.new w4 31 (#[.slice pb.p.x.A pb.p.x.n pb.p.x.c, .slice pb.p.y.A pb.p.y.n pb.p.y.c, .slice pb.p.z.A pb.p.z.n pb.p.z.c, .slice pb.s.A pb.s.n pb.s.c, .int .i64 pb.t, .int .i64 pb.q])
  replace hPp := hPp.alloc (.cells #[.slice pb.p.x.A pb.p.x.n pb.p.x.c, .slice pb.p.y.A pb.p.y.n pb.p.y.c, .slice pb.p.z.A pb.p.z.n pb.p.z.c, .slice pb.s.A pb.s.n pb.s.c, .int .i64 pb.t, .int .i64 pb.q] 31)
  replace opa := opa.alloc (.cells #[.slice pb.p.x.A pb.p.x.n pb.p.x.c, .slice pb.p.y.A pb.p.y.n pb.p.y.c, .slice pb.p.z.A pb.p.z.n pb.p.z.c, .slice pb.s.A pb.s.n pb.s.c, .int .i64 pb.t, .int .i64 pb.q] 31)
  replace opb := opb.alloc (.cells #[.slice pb.p.x.A pb.p.x.n pb.p.x.c, .slice pb.p.y.A pb.p.y.n pb.p.y.c, .slice pb.p.z.A pb.p.z.n pb.p.z.c, .slice pb.s.A pb.s.n pb.s.c, .int .i64 pb.t, .int .i64 pb.q] 31)
  replace hX := hX.alloc (.cells #[.slice pb.p.x.A pb.p.x.n pb.p.x.c, .slice pb.p.y.A pb.p.y.n pb.p.y.c, .slice pb.p.z.A pb.p.z.n pb.p.z.c, .slice pb.s.A pb.s.n pb.s.c, .int .i64 pb.t, .int .i64 pb.q] 31)
  obtain ⟨qhPp0, qhPp1, qhPp2, qhPp3, qhPp4, qhPp5⟩ := hPp.c6
  obtain ⟨qhxpb0, qhxpb1, qhxpb2, qhxpb3, qhxpb4, qhxpb5⟩ := hxpb.c6
  go_wp2_with fail
  refine (impl.MostReached_any pb l _ opb.rd ).mono ?_
  rintro e w5 ⟨rfl, hx⟩
  clear qhPp0 qhPp1 qhPp2 qhPp3 qhPp4 qhPp5 qhxpb0 qhxpb1 qhxpb2 qhxpb3 qhxpb4 qhxpb5
  replace hX := hX.trans hx
  have z5 : w4.heap.size + 1 ≤ w5.heap.size := (by have := hx.size; simpa using this)
  replace hPp := hPp.ext hx
  replace hxpb := hxpb.ext hx
  replace opa := opa.ext hx
  replace opb := opb.ext hx
  clear hx
  obtain ⟨qhPp0, qhPp1, qhPp2, qhPp3, qhPp4, qhPp5⟩ := hPp.c6
  obtain ⟨qhxpb0, qhxpb1, qhxpb2, qhxpb3, qhxpb4, qhxpb5⟩ := hxpb.c6
  replace hPp := hPp.drew
  replace hxpb := hxpb.drew
  replace opa := opa.drew
  replace opb := opb.drew
  replace hX := hX.drew
  go_wp2_with fail
  go_region_held3 (fun w' => w'.cell? ⟨w.heap.size, 0, none⟩ = some (.slice p.p.x.A p.p.x.n p.p.x.c) ∧ w'.cell? ⟨w.heap.size, 1, none⟩ = some (.slice p.p.y.A p.p.y.n p.p.y.c) ∧ w'.cell? ⟨w.heap.size, 2, none⟩ = some (.slice p.p.z.A p.p.z.n p.p.z.c) ∧ w'.cell? ⟨w.heap.size, 3, none⟩ = some (.slice p.s.A p.s.n p.s.c) ∧ w'.cell? ⟨w.heap.size, 4, none⟩ = some (.int .i64 p.t) ∧ w'.cell? ⟨w.heap.size, 5, none⟩ = some (.int .i64 p.q) ∧ w'.cell? ⟨w4.heap.size, 0, none⟩ = some (.slice pb.p.x.A pb.p.x.n pb.p.x.c) ∧ w'.cell? ⟨w4.heap.size, 1, none⟩ = some (.slice pb.p.y.A pb.p.y.n pb.p.y.c) ∧ w'.cell? ⟨w4.heap.size, 2, none⟩ = some (.slice pb.p.z.A pb.p.z.n pb.p.z.c) ∧ w'.cell? ⟨w4.heap.size, 3, none⟩ = some (.slice pb.s.A pb.s.n pb.s.c) ∧ w'.cell? ⟨w4.heap.size, 4, none⟩ = some (.int .i64 pb.t) ∧ w'.cell? ⟨w4.heap.size, 5, none⟩ = some (.int .i64 pb.q)) (first | exact kk2.2 | exact kk1.2 | go_keep) (first | (go_at_call 13; refine (toSelection_any p l _ (rp.ext hX)).mono ?_; rintro e w6 ⟨pbc, rfl, opbc, hx⟩; replace hX := hX.trans hx; have z6 : w5.heap.size ≤ w6.heap.size := (by have := hx.size; simpa using this); replace hPp := hPp.ext hx; replace hxpb := hxpb.ext hx; replace opa := opa.ext hx; replace opb := opb.ext hx; have kk1 := And.intro trivial (show w6.cell? ⟨w.heap.size, 0, none⟩ = some (.slice p.p.x.A p.p.x.n p.p.x.c) ∧ w6.cell? ⟨w.heap.size, 1, none⟩ = some (.slice p.p.y.A p.p.y.n p.p.y.c) ∧ w6.cell? ⟨w.heap.size, 2, none⟩ = some (.slice p.p.z.A p.p.z.n p.p.z.c) ∧ w6.cell? ⟨w.heap.size, 3, none⟩ = some (.slice p.s.A p.s.n p.s.c) ∧ w6.cell? ⟨w.heap.size, 4, none⟩ = some (.int .i64 p.t) ∧ w6.cell? ⟨w.heap.size, 5, none⟩ = some (.int .i64 p.q) ∧ w6.cell? ⟨w4.heap.size, 0, none⟩ = some (.slice pb.p.x.A pb.p.x.n pb.p.x.c) ∧ w6.cell? ⟨w4.heap.size, 1, none⟩ = some (.slice pb.p.y.A pb.p.y.n pb.p.y.c) ∧ w6.cell? ⟨w4.heap.size, 2, none⟩ = some (.slice pb.p.z.A pb.p.z.n pb.p.z.c) ∧ w6.cell? ⟨w4.heap.size, 3, none⟩ = some (.slice pb.s.A pb.s.n pb.s.c) ∧ w6.cell? ⟨w4.heap.size, 4, none⟩ = some (.int .i64 pb.t) ∧ w6.cell? ⟨w4.heap.size, 5, none⟩ = some (.int .i64 pb.q) from ⟨hPp.c6.1, hPp.c6.2.1, hPp.c6.2.2.1, hPp.c6.2.2.2.1, hPp.c6.2.2.2.2.1, hPp.c6.2.2.2.2.2, hxpb.c6.1, hxpb.c6.2.1, hxpb.c6.2.2.1, hxpb.c6.2.2.2.1, hxpb.c6.2.2.2.2.1, hxpb.c6.2.2.2.2.2⟩); clear hx) | (go_at_call 15; refine (eqSelection_yes pb pbc _ _ opb.rd opbc.rd).mono ?_; rintro e w7 ⟨rfl, hx⟩; replace hX := hX.trans hx; have z7 : w6.heap.size ≤ w7.heap.size := (by have := hx.size; simpa using this); replace hPp := hPp.ext hx; replace hxpb := hxpb.ext hx; replace opa := opa.ext hx; replace opb := opb.ext hx; have kk2 := And.intro trivial (show w7.cell? ⟨w.heap.size, 0, none⟩ = some (.slice p.p.x.A p.p.x.n p.p.x.c) ∧ w7.cell? ⟨w.heap.size, 1, none⟩ = some (.slice p.p.y.A p.p.y.n p.p.y.c) ∧ w7.cell? ⟨w.heap.size, 2, none⟩ = some (.slice p.p.z.A p.p.z.n p.p.z.c) ∧ w7.cell? ⟨w.heap.size, 3, none⟩ = some (.slice p.s.A p.s.n p.s.c) ∧ w7.cell? ⟨w.heap.size, 4, none⟩ = some (.int .i64 p.t) ∧ w7.cell? ⟨w.heap.size, 5, none⟩ = some (.int .i64 p.q) ∧ w7.cell? ⟨w4.heap.size, 0, none⟩ = some (.slice pb.p.x.A pb.p.x.n pb.p.x.c) ∧ w7.cell? ⟨w4.heap.size, 1, none⟩ = some (.slice pb.p.y.A pb.p.y.n pb.p.y.c) ∧ w7.cell? ⟨w4.heap.size, 2, none⟩ = some (.slice pb.p.z.A pb.p.z.n pb.p.z.c) ∧ w7.cell? ⟨w4.heap.size, 3, none⟩ = some (.slice pb.s.A pb.s.n pb.s.c) ∧ w7.cell? ⟨w4.heap.size, 4, none⟩ = some (.int .i64 pb.t) ∧ w7.cell? ⟨w4.heap.size, 5, none⟩ = some (.int .i64 pb.q) from ⟨hPp.c6.1, hPp.c6.2.1, hPp.c6.2.2.1, hPp.c6.2.2.2.1, hPp.c6.2.2.2.2.1, hPp.c6.2.2.2.2.2, hxpb.c6.1, hxpb.c6.2.1, hxpb.c6.2.2.1, hxpb.c6.2.2.2.1, hxpb.c6.2.2.2.2.1, hxpb.c6.2.2.2.2.2⟩); clear hx))
  clear kk1 kk2
  clear qhPp0 qhPp1 qhPp2 qhPp3 qhPp4 qhPp5 qhxpb0 qhxpb1 qhxpb2 qhxpb3 qhxpb4 qhxpb5
  obtain ⟨qhPp0, qhPp1, qhPp2, qhPp3, qhPp4, qhPp5⟩ := hPp.c6
  obtain ⟨qhxpb0, qhxpb1, qhxpb2, qhxpb3, qhxpb4, qhxpb5⟩ := hxpb.c6
  go_wp2
  go_ret
  exact ⟨rfl, hX⟩
theorem own_MostReached : ownKnob Try.prog.godebug = none := by kernel_rfl
set_option maxRecDepth 100000 in
theorem lifted_MostReached (os : Os) (started : os.Started) (H : Type) (enc : TypeId × Value → H) :
    ReturnsInHanded {} Try.checked os 6 .any (Rows.fnExactMostReachedSpec.pre6 enc Try.prog Try.f6 Rows.fnExactMostReachedRow.domain false) (Rows.fnExactMostReachedSpec.post enc Try.prog Try.f6 false true false false) := by
  refine returnsInHanded_of_change (C := Try.checked) own_MostReached started (by kernel_rfl) Try.func6
    (ChangeSpec.witness6 (enc := enc) (C := Try.checked) false ⟨#[], #[.agg #[.slice none 0 0, .slice none 0 0, .slice none 0 0, .slice none 0 0, .int .i64 0, .int .i64 0]], []⟩ 8 (by kernel_rfl) (by kernel_rfl) (by kernel_rfl) (by kernel_rfl)) ?_
  intro W base args ds gs before hval0 hW hcnd _
  have hval : ∀ (j : Nat) t v, Try.f6.params[j]? = some t → args[j]? = some v → Value.okWide Try.prog W .any base t v := hval0
  have hW' := hW
  obtain ⟨p, q, hA0, hV, rfl, hfz, hnd⟩ := hW
  have hA : DataW.TrodAll enc Try.prog W 0 (fun _ => true) true Try.f6.params.toList args.toList ds p := hA0
  rw [Try.params6] at hA hval
  obtain ⟨v0, vs0, d0, ds0, p0, q0, hargs, rfl, rfl, h0, r0⟩ := trodAll_cons hA
  obtain ⟨rfl, rfl, rfl⟩ := trodAll_nil r0
  obtain rfl : args = #[v0] := by cases args; simp_all
  obtain ⟨rfl, rfl⟩ := trodVars_none hV
  have k0 := h0
  have lt0 : ∀ x ∈ p0, x.block < W.heap.size := by obtain ⟨m, hm⟩ := k0; exact DataW.trod_lt m _ _ _ hm
  obtain ⟨s0, x0, rfl, i0⟩ := open_Selection (hval 0 26 v0 rfl rfl) h0 (fun _ => rfl)
  clear hA0 hval0
  refine (law_MostReached s0 x0 W i0).mono fun e W' ⟨he, bel⟩ => ?_
  subst he
  exact ⟨_, rfl, _, _, _, [], _, [], hW', trodAll_mk1 (shut_bool Try.underlying4 _), (trodAll_cons_mk (Below.trod laidOut (by kernel_rfl) (of_decide_eq_true (by kernel_rfl)) k0 bel lt0) trodAll_mk0), rfl, Below.frame bel _, fun h => by cases h⟩
theorem over_MostReached : Rows.fnExactMostReachedRow.holds Try.pinned (OpenSpec.ofChange Rows.fnExactMostReachedSpec) :=
  OpenClaim.holds_of_wide 6 Try.f6 rfl rfl rfl rfl rfl rfl rfl ⟨rfl, rfl, rfl, rfl, rfl⟩ rfl rfl rfl rfl rfl (by kernel_rfl) Try.func6 (by kernel_rfl)
    (of_decide_eq_true (by kernel_rfl)) (by unfold Func.isWrapper; first | (rw [if_pos (by decide +kernel)]; kernel_rfl) | (rw [if_neg (by decide +kernel)]; exact ⟨rfl, rfl⟩))
    (fun os started H enc _ => lifted_MostReached os started H enc)
/-- the statement -/
theorem proved_MostReached : Rows.FnExactMostReachedSaid := over_MostReached
#print axioms proved_MostReached
end Go.Proofs.Ytkgfkgeklfeklaa.mem
