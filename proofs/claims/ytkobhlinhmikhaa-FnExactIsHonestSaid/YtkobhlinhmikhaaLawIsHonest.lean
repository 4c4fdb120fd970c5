/-
  The law FnExactIsHonest holds of the given program for every input: it returns true, and each argument reads as it did.
-/
import Derived.Test.YtkobhlinhmikhaaRecOpen
namespace Go.Proofs.Ytkobhlinhmikhaa.mem
open Go.ChangeShapes Go.WideShapes Go.ChangeAt Go.RowKit
set_option linter.unusedVariables false
theorem law_IsHonest (r : RecA) (y : RecL) (w : World) (ir : InR w r y) :
    Calls Try.prog 4 #[.agg #[.int .i64 r.a, .int .i64 r.b, .int .i64 r.c, .slice r.p.x.A r.p.x.n r.p.x.c, .int .i64 r.d, .slice r.p.y.A r.p.y.n r.p.y.c, .slice r.p.z.A r.p.z.n r.p.z.c, .int .i64 r.e, .int .i64 r.f]] w fun e w' => e = .returned (.bool true) ∧ Ext w w' := by
  have hX := Ext.refl w
  have hPr := Blk.new w 24 (#[.int .i64 r.a, .int .i64 r.b, .int .i64 r.c, .slice r.p.x.A r.p.x.n r.p.x.c, .int .i64 r.d, .slice r.p.y.A r.p.y.n r.p.y.c, .slice r.p.z.A r.p.z.n r.p.z.c, .int .i64 r.e, .int .i64 r.f])
  replace hX := hX.alloc (.cells #[.int .i64 r.a, .int .i64 r.b, .int .i64 r.c, .slice r.p.x.A r.p.x.n r.p.x.c, .int .i64 r.d, .slice r.p.y.A r.p.y.n r.p.y.c, .slice r.p.z.A r.p.z.n r.p.z.c, .int .i64 r.e, .int .i64 r.f] 24)
  by_cases hsr : 0 ≤ szR 1048576 r
  case neg =>
    go_enter Try.func4, Try.ntmps4
    obtain ⟨qhPr0, qhPr1, qhPr2, qhPr3, qhPr4, qhPr5, qhPr6, qhPr7, qhPr8⟩ := hPr.c9
    go_wp2_with fail
    refine (szRecord_any r _ _ (by omega) (by omega) ir).mono ?_
    rintro e w1 ⟨rfl, hx⟩
    clear qhPr0 qhPr1 qhPr2 qhPr3 qhPr4 qhPr5 qhPr6 qhPr7 qhPr8
    replace hX := hX.trans hx
    have z1 : w.heap.size + 1 ≤ w1.heap.size := (by have := hx.size; simpa using this)
    replace hPr := hPr.ext hx
    clear hx
    obtain ⟨qhPr0, qhPr1, qhPr2, qhPr3, qhPr4, qhPr5, qhPr6, qhPr7, qhPr8⟩ := hPr.c9
    go_wp2
    go_ret
    exact ⟨rfl, hX⟩
  have rr := ir.rds hsr (by omega)
  have hlr := (szR_pos hsr (by omega)).2
  go_enter Try.func4, Try.ntmps4
  obtain ⟨qhPr0, qhPr1, qhPr2, qhPr3, qhPr4, qhPr5, qhPr6, qhPr7, qhPr8⟩ := hPr.c9
  go_wp2_with fail
  refine (szRecord_any r _ _ (by omega) (by omega) ir).mono ?_
  rintro e w1 ⟨rfl, hx⟩
  clear qhPr0 qhPr1 qhPr2 qhPr3 qhPr4 qhPr5 qhPr6 qhPr7 qhPr8
  replace hX := hX.trans hx
  have z1 : w.heap.size + 1 ≤ w1.heap.size := (by have := hx.size; simpa using this)
  replace hPr := hPr.ext hx
  clear hx
  obtain ⟨qhPr0, qhPr1, qhPr2, qhPr3, qhPr4, qhPr5, qhPr6, qhPr7, qhPr8⟩ := hPr.c9
  go_wp2_with fail
  refine (toRecord_any r y _ (rr.ext hX)).mono ?_
  rintro e w2 ⟨ra, rfl, ora, hx⟩
  clear qhPr0 qhPr1 qhPr2 qhPr3 qhPr4 qhPr5 qhPr6 qhPr7 qhPr8
  replace hX := hX.trans hx
  have z2 : w1.heap.size ≤ w2.heap.size := (by have := hx.size; simpa using this)
  replace hPr := hPr.ext hx
  have rgora : ∀ k, blksR ra k → w1.heap.size ≤ k ∧ k < w2.heap.size := (fun k hk => by have := ora.lt hk; simpa using this)
  clear hx
  obtain ⟨qhPr0, qhPr1, qhPr2, qhPr3, qhPr4, qhPr5, qhPr6, qhPr7, qhPr8⟩ := hPr.c9
  go_wp2_with fail
  refine (spec.IsHonest_any ra y _ ora.rd ).mono ?_
  rintro e w3 ⟨rfl, hx⟩
  clear qhPr0 qhPr1 qhPr2 qhPr3 qhPr4 qhPr5 qhPr6 qhPr7 qhPr8
  replace hX := hX.trans hx
  have z3 : w2.heap.size ≤ w3.heap.size := (by have := hx.size; simpa using this)
  replace hPr := hPr.ext hx
  replace ora := ora.ext hx
  clear hx
  obtain ⟨qhPr0, qhPr1, qhPr2, qhPr3, qhPr4, qhPr5, qhPr6, qhPr7, qhPr8⟩ := hPr.c9
  go_wp2_with fail
  refine (toRecord_any r y _ (rr.ext hX)).mono ?_
  rintro e w4 ⟨rb, rfl, orb, hx⟩
  clear qhPr0 qhPr1 qhPr2 qhPr3 qhPr4 qhPr5 qhPr6 qhPr7 qhPr8
  replace hX := hX.trans hx
  have z4 : w3.heap.size ≤ w4.heap.size := (by have := hx.size; simpa using this)
  replace hPr := hPr.ext hx
  replace ora := ora.ext hx
  have rgorb : ∀ k, blksR rb k → w3.heap.size ≤ k ∧ k < w4.heap.size := (fun k hk => by have := orb.lt hk; simpa using this)
  clear hx
  have hxrb := Blk.new w4 27 (#[.int .i64 rb.a, .int .i64 rb.b, .int .i64 rb.c, .slice rb.p.x.A rb.p.x.n rb.p.x.c, .int .i64 rb.d, .slice rb.p.y.A rb.p.y.n rb.p.y.c, .slice rb.p.z.A rb.p.z.n rb.p.z.c, .int .i64 rb.e, .int .i64 rb.f])
  replace hPr := hPr.alloc (.cells #[.int .i64 rb.a, .int .i64 rb.b, .int .i64 rb.c, .slice rb.p.x.A rb.p.x.n rb.p.x.c, .int .i64 rb.d, .slice rb.p.y.A rb.p.y.n rb.p.y.c, .slice rb.p.z.A rb.p.z.n rb.p.z.c, .int .i64 rb.e, .int .i64 rb.f] 27)
  replace ora := ora.alloc (.cells #[.int .i64 rb.a, .int .i64 rb.b, .int .i64 rb.c, .slice rb.p.x.A rb.p.x.n rb.p.x.c, .int .i64 rb.d, .slice rb.p.y.A rb.p.y.n rb.p.y.c, .slice rb.p.z.A rb.p.z.n rb.p.z.c, .int .i64 rb.e, .int .i64 rb.f] 27)
  replace orb := orb.alloc (.cells #[.int .i64 rb.a, .int .i64 rb.b, .int .i64 rb.c, .slice rb.p.x.A rb.p.x.n rb.p.x.c, .int .i64 rb.d, .slice rb.p.y.A rb.p.y.n rb.p.y.c, .slice rb.p.z.A rb.p.z.n rb.p.z.c, .int .i64 rb.e, .int .i64 rb.f] 27)
  replace hX := hX.alloc (.cells #[.int .i64 rb.a, .int .i64 rb.b, .int .i64 rb.c, .slice rb.p.x.A rb.p.x.n rb.p.x.c, .int .i64 rb.d, .slice rb.p.y.A rb.p.y.n rb.p.y.c, .slice rb.p.z.A rb.p.z.n rb.p.z.c, .int .i64 rb.e, .int .i64 rb.f] 27)
  obtain ⟨qhPr0, qhPr1, qhPr2, qhPr3, qhPr4, qhPr5, qhPr6, qhPr7, qhPr8⟩ := hPr.c9
  obtain ⟨qhxrb0, qhxrb1, qhxrb2, qhxrb3, qhxrb4, qhxrb5, qhxrb6, qhxrb7, qhxrb8⟩ := hxrb.c9
  go_wp2_with fail
  refine (impl.IsHonest_any rb y _ orb.rd ).mono ?_
  rintro e w5 ⟨rfl, hx⟩
  clear qhPr0 qhPr1 qhPr2 qhPr3 qhPr4 qhPr5 qhPr6 qhPr7 qhPr8 qhxrb0 qhxrb1 qhxrb2 qhxrb3 qhxrb4 qhxrb5 qhxrb6 qhxrb7 qhxrb8
  replace hX := hX.trans hx
  have z5 : w4.heap.size + 1 ≤ w5.heap.size := (by have := hx.size; simpa using this)
  replace hPr := hPr.ext hx
  replace hxrb := hxrb.ext hx
  replace ora := ora.ext hx
  replace orb := orb.ext hx
  clear hx
  obtain ⟨qhPr0, qhPr1, qhPr2, qhPr3, qhPr4, qhPr5, qhPr6, qhPr7, qhPr8⟩ := hPr.c9
  obtain ⟨qhxrb0, qhxrb1, qhxrb2, qhxrb3, qhxrb4, qhxrb5, qhxrb6, qhxrb7, qhxrb8⟩ := hxrb.c9
  replace hPr := hPr.drew
  replace hxrb := hxrb.drew
  replace ora := ora.drew
  replace orb := orb.drew
  replace hX := hX.drew
  go_wp2_with fail
  go_region_held3 (fun w' => w'.cell? ⟨w.heap.size, 0, none⟩ = some (.int .i64 r.a) ∧ w'.cell? ⟨w.heap.size, 1, none⟩ = some (.int .i64 r.b) ∧ w'.cell? ⟨w.heap.size, 2, none⟩ = some (.int .i64 r.c) ∧ w'.cell? ⟨w.heap.size, 3, none⟩ = some (.slice r.p.x.A r.p.x.n r.p.x.c) ∧ w'.cell? ⟨w.heap.size, 4, none⟩ = some (.int .i64 r.d) ∧ w'.cell? ⟨w.heap.size, 5, none⟩ = some (.slice r.p.y.A r.p.y.n r.p.y.c) ∧ w'.cell? ⟨w.heap.size, 6, none⟩ = some (.slice r.p.z.A r.p.z.n r.p.z.c) ∧ w'.cell? ⟨w.heap.size, 7, none⟩ = some (.int .i64 r.e) ∧ w'.cell? ⟨w.heap.size, 8, none⟩ = some (.int .i64 r.f) ∧ w'.cell? ⟨w4.heap.size, 0, none⟩ = some (.int .i64 rb.a) ∧ w'.cell? ⟨w4.heap.size, 1, none⟩ = some (.int .i64 rb.b) ∧ w'.cell? ⟨w4.heap.size, 2, none⟩ = some (.int .i64 rb.c) ∧ w'.cell? ⟨w4.heap.size, 3, none⟩ = some (.slice rb.p.x.A rb.p.x.n rb.p.x.c) ∧ w'.cell? ⟨w4.heap.size, 4, none⟩ = some (.int .i64 rb.d) ∧ w'.cell? ⟨w4.heap.size, 5, none⟩ = some (.slice rb.p.y.A rb.p.y.n rb.p.y.c) ∧ w'.cell? ⟨w4.heap.size, 6, none⟩ = some (.slice rb.p.z.A rb.p.z.n rb.p.z.c) ∧ w'.cell? ⟨w4.heap.size, 7, none⟩ = some (.int .i64 rb.e) ∧ w'.cell? ⟨w4.heap.size, 8, none⟩ = some (.int .i64 rb.f)) (first | exact kk2.2 | exact kk1.2 | go_keep) (first | (go_at_call 7; refine (toRecord_any r y _ (rr.ext hX)).mono ?_; rintro e w6 ⟨rbc, rfl, orbc, hx⟩; replace hX := hX.trans hx; have z6 : w5.heap.size ≤ w6.heap.size := (by have := hx.size; simpa using this); replace hPr := hPr.ext hx; replace hxrb := hxrb.ext hx; replace ora := ora.ext hx; replace orb := orb.ext hx; have kk1 := And.intro trivial (show w6.cell? ⟨w.heap.size, 0, none⟩ = some (.int .i64 r.a) ∧ w6.cell? ⟨w.heap.size, 1, none⟩ = some (.int .i64 r.b) ∧ w6.cell? ⟨w.heap.size, 2, none⟩ = some (.int .i64 r.c) ∧ w6.cell? ⟨w.heap.size, 3, none⟩ = some (.slice r.p.x.A r.p.x.n r.p.x.c) ∧ w6.cell? ⟨w.heap.size, 4, none⟩ = some (.int .i64 r.d) ∧ w6.cell? ⟨w.heap.size, 5, none⟩ = some (.slice r.p.y.A r.p.y.n r.p.y.c) ∧ w6.cell? ⟨w.heap.size, 6, none⟩ = some (.slice r.p.z.A r.p.z.n r.p.z.c) ∧ w6.cell? ⟨w.heap.size, 7, none⟩ = some (.int .i64 r.e) ∧ w6.cell? ⟨w.heap.size, 8, none⟩ = some (.int .i64 r.f) ∧ w6.cell? ⟨w4.heap.size, 0, none⟩ = some (.int .i64 rb.a) ∧ w6.cell? ⟨w4.heap.size, 1, none⟩ = some (.int .i64 rb.b) ∧ w6.cell? ⟨w4.heap.size, 2, none⟩ = some (.int .i64 rb.c) ∧ w6.cell? ⟨w4.heap.size, 3, none⟩ = some (.slice rb.p.x.A rb.p.x.n rb.p.x.c) ∧ w6.cell? ⟨w4.heap.size, 4, none⟩ = some (.int .i64 rb.d) ∧ w6.cell? ⟨w4.heap.size, 5, none⟩ = some (.slice rb.p.y.A rb.p.y.n rb.p.y.c) ∧ w6.cell? ⟨w4.heap.size, 6, none⟩ = some (.slice rb.p.z.A rb.p.z.n rb.p.z.c) ∧ w6.cell? ⟨w4.heap.size, 7, none⟩ = some (.int .i64 rb.e) ∧ w6.cell? ⟨w4.heap.size, 8, none⟩ = some (.int .i64 rb.f) from ⟨hPr.c9.1, hPr.c9.2.1, hPr.c9.2.2.1, hPr.c9.2.2.2.1, hPr.c9.2.2.2.2.1, hPr.c9.2.2.2.2.2.1, hPr.c9.2.2.2.2.2.2.1, hPr.c9.2.2.2.2.2.2.2.1, hPr.c9.2.2.2.2.2.2.2.2, hxrb.c9.1, hxrb.c9.2.1, hxrb.c9.2.2.1, hxrb.c9.2.2.2.1, hxrb.c9.2.2.2.2.1, hxrb.c9.2.2.2.2.2.1, hxrb.c9.2.2.2.2.2.2.1, hxrb.c9.2.2.2.2.2.2.2.1, hxrb.c9.2.2.2.2.2.2.2.2⟩); clear hx) | (go_at_call 9; refine (eqRecord_yes rb rbc _ _ orb.rd orbc.rd).mono ?_; rintro e w7 ⟨rfl, hx⟩; replace hX := hX.trans hx; have z7 : w6.heap.size ≤ w7.heap.size := (by have := hx.size; simpa using this); replace hPr := hPr.ext hx; replace hxrb := hxrb.ext hx; replace ora := ora.ext hx; replace orb := orb.ext hx; have kk2 := And.intro trivial (show w7.cell? ⟨w.heap.size, 0, none⟩ = some (.int .i64 r.a) ∧ w7.cell? ⟨w.heap.size, 1, none⟩ = some (.int .i64 r.b) ∧ w7.cell? ⟨w.heap.size, 2, none⟩ = some (.int .i64 r.c) ∧ w7.cell? ⟨w.heap.size, 3, none⟩ = some (.slice r.p.x.A r.p.x.n r.p.x.c) ∧ w7.cell? ⟨w.heap.size, 4, none⟩ = some (.int .i64 r.d) ∧ w7.cell? ⟨w.heap.size, 5, none⟩ = some (.slice r.p.y.A r.p.y.n r.p.y.c) ∧ w7.cell? ⟨w.heap.size, 6, none⟩ = some (.slice r.p.z.A r.p.z.n r.p.z.c) ∧ w7.cell? ⟨w.heap.size, 7, none⟩ = some (.int .i64 r.e) ∧ w7.cell? ⟨w.heap.size, 8, none⟩ = some (.int .i64 r.f) ∧ w7.cell? ⟨w4.heap.size, 0, none⟩ = some (.int .i64 rb.a) ∧ w7.cell? ⟨w4.heap.size, 1, none⟩ = some (.int .i64 rb.b) ∧ w7.cell? ⟨w4.heap.size, 2, none⟩ = some (.int .i64 rb.c) ∧ w7.cell? ⟨w4.heap.size, 3, none⟩ = some (.slice rb.p.x.A rb.p.x.n rb.p.x.c) ∧ w7.cell? ⟨w4.heap.size, 4, none⟩ = some (.int .i64 rb.d) ∧ w7.cell? ⟨w4.heap.size, 5, none⟩ = some (.slice rb.p.y.A rb.p.y.n rb.p.y.c) ∧ w7.cell? ⟨w4.heap.size, 6, none⟩ = some (.slice rb.p.z.A rb.p.z.n rb.p.z.c) ∧ w7.cell? ⟨w4.heap.size, 7, none⟩ = some (.int .i64 rb.e) ∧ w7.cell? ⟨w4.heap.size, 8, none⟩ = some (.int .i64 rb.f) from ⟨hPr.c9.1, hPr.c9.2.1, hPr.c9.2.2.1, hPr.c9.2.2.2.1, hPr.c9.2.2.2.2.1, hPr.c9.2.2.2.2.2.1, hPr.c9.2.2.2.2.2.2.1, hPr.c9.2.2.2.2.2.2.2.1, hPr.c9.2.2.2.2.2.2.2.2, hxrb.c9.1, hxrb.c9.2.1, hxrb.c9.2.2.1, hxrb.c9.2.2.2.1, hxrb.c9.2.2.2.2.1, hxrb.c9.2.2.2.2.2.1, hxrb.c9.2.2.2.2.2.2.1, hxrb.c9.2.2.2.2.2.2.2.1, hxrb.c9.2.2.2.2.2.2.2.2⟩); clear hx))
  clear kk1 kk2
  clear qhPr0 qhPr1 qhPr2 qhPr3 qhPr4 qhPr5 qhPr6 qhPr7 qhPr8 qhxrb0 qhxrb1 qhxrb2 qhxrb3 qhxrb4 qhxrb5 qhxrb6 qhxrb7 qhxrb8
  obtain ⟨qhPr0, qhPr1, qhPr2, qhPr3, qhPr4, qhPr5, qhPr6, qhPr7, qhPr8⟩ := hPr.c9
  obtain ⟨qhxrb0, qhxrb1, qhxrb2, qhxrb3, qhxrb4, qhxrb5, qhxrb6, qhxrb7, qhxrb8⟩ := hxrb.c9
  go_wp2
  go_ret
  exact ⟨rfl, hX⟩
theorem own_IsHonest : ownKnob Try.prog.godebug = none := by kernel_rfl
set_option maxRecDepth 100000 in
theorem lifted_IsHonest (os : Os) (started : os.Started) (H : Type) (enc : TypeId × Value → H) :
    ReturnsInHanded {} Try.checked os 4 .any (Rows.fnExactIsHonestSpec.pre6 enc Try.prog Try.f4 Rows.fnExactIsHonestRow.domain false) (Rows.fnExactIsHonestSpec.post enc Try.prog Try.f4 false true false false) := by
  refine returnsInHanded_of_change (C := Try.checked) own_IsHonest started (by kernel_rfl) Try.func4
    (ChangeSpec.witness6 (enc := enc) (C := Try.checked) false ⟨#[], #[.agg #[.int .i64 0, .int .i64 0, .int .i64 0, .slice none 0 0, .int .i64 0, .slice none 0 0, .slice none 0 0, .int .i64 0, .int .i64 0]], []⟩ 8 (by kernel_rfl) (by kernel_rfl) (by kernel_rfl) (by kernel_rfl)) ?_
  intro W base args ds gs before hval0 hW hcnd _
  have hval : ∀ (j : Nat) t v, Try.f4.params[j]? = some t → args[j]? = some v → Value.okWide Try.prog W .any base t v := hval0
  have hW' := hW
  obtain ⟨p, q, hA0, hV, rfl, hfz, hnd⟩ := hW
  have hA : DataW.TrodAll enc Try.prog W 0 (fun _ => true) true Try.f4.params.toList args.toList ds p := hA0
  rw [Try.params4] at hA hval
  obtain ⟨v0, vs0, d0, ds0, p0, q0, hargs, rfl, rfl, h0, r0⟩ := trodAll_cons hA
  obtain ⟨rfl, rfl, rfl⟩ := trodAll_nil r0
  obtain rfl : args = #[v0] := by cases args; simp_all
  obtain ⟨rfl, rfl⟩ := trodVars_none hV
  have k0 := h0
  have lt0 : ∀ x ∈ p0, x.block < W.heap.size := by obtain ⟨m, hm⟩ := k0; exact DataW.trod_lt m _ _ _ hm
  obtain ⟨s0, x0, rfl, i0⟩ := open_Record (hval 0 24 v0 rfl rfl) h0 (fun _ => rfl)
  clear hA0 hval0
  refine (law_IsHonest s0 x0 W i0).mono fun e W' ⟨he, bel⟩ => ?_
  subst he
  exact ⟨_, rfl, _, _, _, [], _, [], hW', trodAll_mk1 (shut_bool Try.underlying4 _), (trodAll_cons_mk (Below.trod laidOut (by kernel_rfl) (of_decide_eq_true (by kernel_rfl)) k0 bel lt0) trodAll_mk0), rfl, Below.frame bel _, fun h => by cases h⟩
theorem over_IsHonest : Rows.fnExactIsHonestRow.holds Try.pinned (OpenSpec.ofChange Rows.fnExactIsHonestSpec) :=
  OpenClaim.holds_of_wide 4 Try.f4 rfl rfl rfl rfl rfl rfl rfl ⟨rfl, rfl, rfl, rfl, rfl⟩ rfl rfl rfl rfl rfl (by kernel_rfl) Try.func4 (by kernel_rfl)
    (of_decide_eq_true (by kernel_rfl)) (by unfold Func.isWrapper; first | (rw [if_pos (by decide +kernel)]; kernel_rfl) | (rw [if_neg (by decide +kernel)]; exact ⟨rfl, rfl⟩))
    (fun os started H enc _ => lifted_IsHonest os started H enc)
/-- the statement -/
theorem proved_IsHonest : Rows.FnExactIsHonestSaid := over_IsHonest
#print axioms proved_IsHonest
end Go.Proofs.Ytkobhlinhmikhaa.mem
