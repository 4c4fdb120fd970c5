/-
  The law FnExactLossesBorne holds of the given program for every input: it returns true, and each argument reads as it did.
-/
import Derived.Test.YtfehedaaenoleaaOpen
import Derived.Test.YtfehedaaenoleaaJTop
namespace Go.Proofs.Ytfehedaaenoleaa.mem
open Go.ChangeShapes Go.WideShapes Go.ChangeAt Go.RowKit
set_option linter.unusedVariables false
theorem law_LossesBorne (p : S3) (l : L3) (m : Int) (w : World) (ip : In3 w p l) (bm : -9223372036854775808 ≤ m ∧ m ≤ 9223372036854775807) :
    Calls Try.prog 7 #[.agg #[.slice p.x.A p.x.n p.x.c, .slice p.y.A p.y.n p.y.c, .slice p.z.A p.z.n p.z.c], .int .i64 m] w fun e w' => e = .returned (.bool true) ∧ Ext w w' := by
  have hX := Ext.refl w
  have hPp := Blk.new w 24 (#[.slice p.x.A p.x.n p.x.c, .slice p.y.A p.y.n p.y.c, .slice p.z.A p.z.n p.z.c])
  replace hX := hX.alloc (.cells #[.slice p.x.A p.x.n p.x.c, .slice p.y.A p.y.n p.y.c, .slice p.z.A p.z.n p.z.c] 24)
  by_cases hsp : 0 ≤ sz3 1048576 p
  case neg =>
    go_enter Try.func7, Try.ntmps7
    obtain ⟨qhPp0, qhPp1, qhPp2⟩ := hPp.c3
    go_wp2_with fail
    refine (szJury_any p _ _ (by omega) (by omega) ip.1.max ip.2.1.max ip.2.2.max).mono ?_
    rintro e w1 ⟨rfl, hx⟩
    clear qhPp0 qhPp1 qhPp2
    replace hX := hX.trans hx
    have z1 : w.heap.size + 1 ≤ w1.heap.size := (by have := hx.size; simpa using this)
    replace hPp := hPp.ext hx
    clear hx
    obtain ⟨qhPp0, qhPp1, qhPp2⟩ := hPp.c3
    go_wp2
    go_ret
    exact ⟨rfl, hX⟩
  have rp := ip.rds hsp (by omega)
  have hlp := (sz3_pos hsp (by omega)).2
  go_enter Try.func7, Try.ntmps7
  obtain ⟨qhPp0, qhPp1, qhPp2⟩ := hPp.c3
  go_wp2_with fail
  refine (szJury_any p _ _ (by omega) (by omega) ip.1.max ip.2.1.max ip.2.2.max).mono ?_
  rintro e w1 ⟨rfl, hx⟩
  clear qhPp0 qhPp1 qhPp2
  replace hX := hX.trans hx
  have z1 : w.heap.size + 1 ≤ w1.heap.size := (by have := hx.size; simpa using this)
  replace hPp := hPp.ext hx
  clear hx
  obtain ⟨qhPp0, qhPp1, qhPp2⟩ := hPp.c3
  go_wp2_with fail
  refine (toJury_any p l _ (rp.ext hX)).mono ?_
  rintro e w2 ⟨pa, rfl, opa, hx⟩
  clear qhPp0 qhPp1 qhPp2
  replace hX := hX.trans hx
  have z2 : w1.heap.size ≤ w2.heap.size := (by have := hx.size; simpa using this)
  replace hPp := hPp.ext hx
  have rgopa : ∀ k, blks pa k → w1.heap.size ≤ k ∧ k < w2.heap.size := fun k hk => by have := opa.lt hk; simpa using this
  clear hx
  obtain ⟨qhPp0, qhPp1, qhPp2⟩ := hPp.c3
  go_wp2_with fail
  refine (spec.LossesBorne_any pa l m _ opa.rd ).mono ?_
  rintro e w3 ⟨rfl, hx⟩
  clear qhPp0 qhPp1 qhPp2
  replace hX := hX.trans hx
  have z3 : w2.heap.size ≤ w3.heap.size := (by have := hx.size; simpa using this)
  replace hPp := hPp.ext hx
  replace opa := opa.ext hx
  clear hx
  obtain ⟨qhPp0, qhPp1, qhPp2⟩ := hPp.c3
  go_wp2_with fail
  refine (toJury_any p l _ (rp.ext hX)).mono ?_
  rintro e w4 ⟨pb, rfl, opb, hx⟩
  clear qhPp0 qhPp1 qhPp2
  replace hX := hX.trans hx
  have z4 : w3.heap.size ≤ w4.heap.size := (by have := hx.size; simpa using this)
  replace hPp := hPp.ext hx
  replace opa := opa.ext hx
  have rgopb : ∀ k, blks pb k → w3.heap.size ≤ k ∧ k < w4.heap.size := fun k hk => by have := opb.lt hk; simpa using this
  clear hx
  have hxpb := Blk.new w4 27 (#[.slice pb.x.A pb.x.n pb.x.c, .slice pb.y.A pb.y.n pb.y.c, .slice pb.z.A pb.z.n pb.z.c])
  replace hPp := hPp.alloc (.cells #[.slice pb.x.A pb.x.n pb.x.c, .slice pb.y.A pb.y.n pb.y.c, .slice pb.z.A pb.z.n pb.z.c] 27)
  replace opa := opa.alloc (.cells #[.slice pb.x.A pb.x.n pb.x.c, .slice pb.y.A pb.y.n pb.y.c, .slice pb.z.A pb.z.n pb.z.c] 27)
  replace opb := opb.alloc (.cells #[.slice pb.x.A pb.x.n pb.x.c, .slice pb.y.A pb.y.n pb.y.c, .slice pb.z.A pb.z.n pb.z.c] 27)
  replace hX := hX.alloc (.cells #[.slice pb.x.A pb.x.n pb.x.c, .slice pb.y.A pb.y.n pb.y.c, .slice pb.z.A pb.z.n pb.z.c] 27)
  obtain ⟨qhPp0, qhPp1, qhPp2⟩ := hPp.c3
  obtain ⟨qhxpb0, qhxpb1, qhxpb2⟩ := hxpb.c3
  go_wp2_with fail
  refine (impl.LossesBorne_any pb l m _ opb.rd ).mono ?_
  rintro e w5 ⟨rfl, hx⟩
  clear qhPp0 qhPp1 qhPp2 qhxpb0 qhxpb1 qhxpb2
  replace hX := hX.trans hx
  have z5 : w4.heap.size + 1 ≤ w5.heap.size := (by have := hx.size; simpa using this)
  replace hPp := hPp.ext hx
  replace hxpb := hxpb.ext hx
  replace opa := opa.ext hx
  replace opb := opb.ext hx
  clear hx
  obtain ⟨qhPp0, qhPp1, qhPp2⟩ := hPp.c3
  obtain ⟨qhxpb0, qhxpb1, qhxpb2⟩ := hxpb.c3
  replace hPp := hPp.drew
  replace hxpb := hxpb.drew
  replace opa := opa.drew
  replace opb := opb.drew
  replace hX := hX.drew
  go_wp2_with fail
  go_region_held3 (fun w' => w'.cell? ⟨w.heap.size, 0, none⟩ = some (.slice p.x.A p.x.n p.x.c) ∧ w'.cell? ⟨w.heap.size, 1, none⟩ = some (.slice p.y.A p.y.n p.y.c) ∧ w'.cell? ⟨w.heap.size, 2, none⟩ = some (.slice p.z.A p.z.n p.z.c) ∧ w'.cell? ⟨w4.heap.size, 0, none⟩ = some (.slice pb.x.A pb.x.n pb.x.c) ∧ w'.cell? ⟨w4.heap.size, 1, none⟩ = some (.slice pb.y.A pb.y.n pb.y.c) ∧ w'.cell? ⟨w4.heap.size, 2, none⟩ = some (.slice pb.z.A pb.z.n pb.z.c)) (first | exact kk2.2 | exact kk1.2 | go_keep) (first | (go_at_call 15; refine (toJury_any p l _ (rp.ext hX)).mono ?_; rintro e w6 ⟨pbc, rfl, opbc, hx⟩; replace hX := hX.trans hx; have z6 : w5.heap.size ≤ w6.heap.size := (by have := hx.size; simpa using this); replace hPp := hPp.ext hx; replace hxpb := hxpb.ext hx; replace opa := opa.ext hx; replace opb := opb.ext hx; have kk1 := And.intro trivial (show w6.cell? ⟨w.heap.size, 0, none⟩ = some (.slice p.x.A p.x.n p.x.c) ∧ w6.cell? ⟨w.heap.size, 1, none⟩ = some (.slice p.y.A p.y.n p.y.c) ∧ w6.cell? ⟨w.heap.size, 2, none⟩ = some (.slice p.z.A p.z.n p.z.c) ∧ w6.cell? ⟨w4.heap.size, 0, none⟩ = some (.slice pb.x.A pb.x.n pb.x.c) ∧ w6.cell? ⟨w4.heap.size, 1, none⟩ = some (.slice pb.y.A pb.y.n pb.y.c) ∧ w6.cell? ⟨w4.heap.size, 2, none⟩ = some (.slice pb.z.A pb.z.n pb.z.c) from ⟨hPp.c3.1, hPp.c3.2.1, hPp.c3.2.2, hxpb.c3.1, hxpb.c3.2.1, hxpb.c3.2.2⟩); clear hx) | (go_at_call 17; refine (eqJury_yes pb pbc _ _ opb.rd opbc.rd).mono ?_; rintro e w7 ⟨rfl, hx⟩; replace hX := hX.trans hx; have z7 : w6.heap.size ≤ w7.heap.size := (by have := hx.size; simpa using this); replace hPp := hPp.ext hx; replace hxpb := hxpb.ext hx; replace opa := opa.ext hx; replace opb := opb.ext hx; have kk2 := And.intro trivial (show w7.cell? ⟨w.heap.size, 0, none⟩ = some (.slice p.x.A p.x.n p.x.c) ∧ w7.cell? ⟨w.heap.size, 1, none⟩ = some (.slice p.y.A p.y.n p.y.c) ∧ w7.cell? ⟨w.heap.size, 2, none⟩ = some (.slice p.z.A p.z.n p.z.c) ∧ w7.cell? ⟨w4.heap.size, 0, none⟩ = some (.slice pb.x.A pb.x.n pb.x.c) ∧ w7.cell? ⟨w4.heap.size, 1, none⟩ = some (.slice pb.y.A pb.y.n pb.y.c) ∧ w7.cell? ⟨w4.heap.size, 2, none⟩ = some (.slice pb.z.A pb.z.n pb.z.c) from ⟨hPp.c3.1, hPp.c3.2.1, hPp.c3.2.2, hxpb.c3.1, hxpb.c3.2.1, hxpb.c3.2.2⟩); clear hx))
  clear kk1 kk2
  clear qhPp0 qhPp1 qhPp2 qhxpb0 qhxpb1 qhxpb2
  obtain ⟨qhPp0, qhPp1, qhPp2⟩ := hPp.c3
  obtain ⟨qhxpb0, qhxpb1, qhxpb2⟩ := hxpb.c3
  go_wp2
  go_ret
  exact ⟨rfl, hX⟩
theorem own_LossesBorne : ownKnob Try.prog.godebug = none := by kernel_rfl
set_option maxRecDepth 100000 in
theorem lifted_LossesBorne (os : Os) (started : os.Started) (H : Type) (enc : TypeId × Value → H) :
    ReturnsInHanded {} Try.checked os 7 .any (Rows.fnExactLossesBorneSpec.pre6 enc Try.prog Try.f7 Rows.fnExactLossesBorneRow.domain false) (Rows.fnExactLossesBorneSpec.post enc Try.prog Try.f7 false true false false) := by
  refine returnsInHanded_of_change (C := Try.checked) own_LossesBorne started (by kernel_rfl) Try.func7
    (ChangeSpec.witness6 (enc := enc) (C := Try.checked) false ⟨#[], #[.agg #[.slice none 0 0, .slice none 0 0, .slice none 0 0], .int .i64 0], []⟩ 8 (by kernel_rfl) (by kernel_rfl) (by kernel_rfl) (by kernel_rfl)) ?_
  intro W base args ds gs before hval0 hW hcnd _
  have hval : ∀ (j : Nat) t v, Try.f7.params[j]? = some t → args[j]? = some v → Value.okWide Try.prog W .any base t v := hval0
  have hW' := hW
  obtain ⟨p, q, hA0, hV, rfl, hfz, hnd⟩ := hW
  have hA : DataW.TrodAll enc Try.prog W 0 (fun _ => true) true Try.f7.params.toList args.toList ds p := hA0
  rw [Try.params7] at hA hval
  obtain ⟨v0, vs0, d0, ds0, p0, q0, hargs, rfl, rfl, h0, r0⟩ := trodAll_cons hA
  obtain ⟨v1, vs1, d1, ds1, p1, q1, rfl, rfl, rfl, h1, r1⟩ := trodAll_cons r0
  obtain ⟨rfl, rfl, rfl⟩ := trodAll_nil r1
  obtain rfl : args = #[v0, v1] := by cases args; simp_all
  obtain ⟨rfl, rfl⟩ := trodVars_none hV
  have k0 := h0
  have lt0 : ∀ x ∈ p0, x.block < W.heap.size := by obtain ⟨m, hm⟩ := k0; exact DataW.trod_lt m _ _ _ hm
  obtain ⟨s0, x0, rfl, i0⟩ := open_Jury (hval 0 24 v0 rfl rfl) h0 (fun _ => rfl)
  have k1 := h1
  have lt1 : ∀ x ∈ p1, x.block < W.heap.size := by obtain ⟨m, hm⟩ := k1; exact DataW.trod_lt m _ _ _ hm
  obtain ⟨a1, rfl, _, _, w1⟩ := open_int Try.underlying2 (hval 1 2 v1 rfl rfl) h1
  clear hA0 hval0
  refine (law_LossesBorne s0 x0 a1 W i0 (by simpa [Lit.wf, IntKind.min, IntKind.max, IntKind.signed, IntKind.bits] using w1)).mono fun e W' ⟨he, bel⟩ => ?_
  subst he
  exact ⟨_, rfl, _, _, _, [], _, [], hW', trodAll_mk1 (shut_bool Try.underlying4 _), (trodAll_cons_mk (Below.trod laidOut (by kernel_rfl) (of_decide_eq_true (by kernel_rfl)) k0 bel lt0) (trodAll_cons_mk (Below.trod laidOut (by kernel_rfl) (of_decide_eq_true (by kernel_rfl)) k1 bel lt1) trodAll_mk0)), rfl, Below.frame bel _, fun h => by cases h⟩
theorem over_LossesBorne : Rows.fnExactLossesBorneRow.holds Try.pinned (OpenSpec.ofChange Rows.fnExactLossesBorneSpec) :=
  OpenClaim.holds_of_wide 7 Try.f7 rfl rfl rfl rfl rfl rfl rfl ⟨rfl, rfl, rfl, rfl, rfl⟩ rfl rfl rfl rfl rfl (by kernel_rfl) Try.func7 (by kernel_rfl)
    (of_decide_eq_true (by kernel_rfl)) (by unfold Func.isWrapper; first | (rw [if_pos (by decide +kernel)]; kernel_rfl) | (rw [if_neg (by decide +kernel)]; exact ⟨rfl, rfl⟩))
    (fun os started H enc _ => lifted_LossesBorne os started H enc)
/-- the statement -/
theorem proved_LossesBorne : Rows.FnExactLossesBorneSaid := over_LossesBorne
#print axioms proved_LossesBorne
end Go.Proofs.Ytfehedaaenoleaa.mem
