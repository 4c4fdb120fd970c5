/-
  The law FnExactAreTies holds of the given program for every input: it returns true, and each argument reads as it did.
-/
import Derived.Test.YtnkljndopjcapaaCauOpen
namespace Go.Proofs.Ytnkljndopjcapaa.mem
open Go.ChangeShapes Go.WideShapes Go.ChangeAt Go.RowKit
set_option linter.unusedVariables false
theorem law_AreTies (s : Sl) (ts : List Ti) (w : World) (is : InT w s ts) :
    Calls Try.prog 3 #[.slice s.A s.n s.c] w fun e w' => e = .returned (.bool true) ∧ Ext w w' := by
  have hX := Ext.refl w
  by_cases hss : 0 ≤ szLs 1048576 (lensT ts)
  case neg =>
    go_enter Try.func3, Try.ntmps3
    go_wp2_with fail
    refine (szTieS_any s ts _ _ (by omega) (by omega) is hX).mono ?_
    rintro e w1 ⟨rfl, hx⟩
    replace hX := hX.trans hx
    have z1 : w.heap.size ≤ w1.heap.size := (by have := hx.size; simpa using this)
    clear hx
    go_wp2
    go_ret
    exact ⟨rfl, hX⟩
  have rs := is.rds hss (by omega)
  have hls := (szLt_pos hss (by omega)).2
  go_enter Try.func3, Try.ntmps3
  go_wp2_with fail
  refine (szTieS_any s ts _ _ (by omega) (by omega) is hX).mono ?_
  rintro e w1 ⟨rfl, hx⟩
  replace hX := hX.trans hx
  have z1 : w.heap.size ≤ w1.heap.size := (by have := hx.size; simpa using this)
  clear hx
  go_wp2_with fail
  refine (toTieS_any s ts _ (rs.ext hX)).mono ?_
  rintro e w2 ⟨sa, rfl, osa, hx⟩
  replace hX := hX.trans hx
  have z2 : w1.heap.size ≤ w2.heap.size := (by have := hx.size; simpa using this)
  have rgosa : ∀ k, Value.ownBlock (.slice sa.A sa.n sa.c) = some k → w1.heap.size ≤ k ∧ k < w2.heap.size := fun k hk => by have := osa.lt k hk; simpa using this
  clear hx
  go_wp2_with fail
  refine (spec.AreTies_any sa ts _ osa.rd ).mono ?_
  rintro e w3 ⟨rfl, hx⟩
  replace hX := hX.trans hx
  have z3 : w2.heap.size ≤ w3.heap.size := (by have := hx.size; simpa using this)
  replace osa := osa.ext hx
  clear hx
  go_wp2_with fail
  refine (toTieS_any s ts _ (rs.ext hX)).mono ?_
  rintro e w4 ⟨sb, rfl, osb, hx⟩
  replace hX := hX.trans hx
  have z4 : w3.heap.size ≤ w4.heap.size := (by have := hx.size; simpa using this)
  replace osa := osa.ext hx
  have rgosb : ∀ k, Value.ownBlock (.slice sb.A sb.n sb.c) = some k → w3.heap.size ≤ k ∧ k < w4.heap.size := fun k hk => by have := osb.lt k hk; simpa using this
  clear hx
  go_wp2_with fail
  refine (impl.AreTies_any sb ts _ osb.rd osb.cap).mono ?_
  rintro e w5 ⟨rfl, hx⟩
  replace hX := hX.trans hx
  have z5 : w4.heap.size ≤ w5.heap.size := (by have := hx.size; simpa using this)
  replace osa := osa.ext hx
  replace osb := osb.ext hx
  clear hx
  go_wp2_with fail
  refine (toTieS_any s ts _ (rs.ext hX)).mono ?_
  rintro e w6 ⟨sbc, rfl, osbc, hx⟩
  replace hX := hX.trans hx
  have z6 : w5.heap.size ≤ w6.heap.size := (by have := hx.size; simpa using this)
  replace osa := osa.ext hx
  replace osb := osb.ext hx
  clear hx
  go_wp2_with fail
  refine (eqTieS_yes sb sbc _ _ osb.rd (osbc.ext (Ext.refl _)).rd).mono ?_
  rintro e w7 ⟨rfl, hx⟩
  replace hX := hX.trans hx
  have z7 : w6.heap.size ≤ w7.heap.size := (by have := hx.size; simpa using this)
  replace osa := osa.ext hx
  replace osb := osb.ext hx
  clear hx
  go_wp2
  go_ret
  exact ⟨rfl, hX⟩
theorem own_AreTies : ownKnob Try.prog.godebug = none := by kernel_rfl
set_option maxRecDepth 100000 in
theorem lifted_AreTies (os : Os) (started : os.Started) (H : Type) (enc : TypeId × Value → H) :
    ReturnsInHanded {} Try.checked os 3 .any (Rows.fnExactAreTiesSpec.pre6 enc Try.prog Try.f3 Rows.fnExactAreTiesRow.domain false) (Rows.fnExactAreTiesSpec.post enc Try.prog Try.f3 false true false false) := by
  refine returnsInHanded_of_change (C := Try.checked) own_AreTies started (by kernel_rfl) Try.func3
    (ChangeSpec.witness6 (enc := enc) (C := Try.checked) false ⟨#[], #[.slice none 0 0], []⟩ 8 (by kernel_rfl) (by kernel_rfl) (by kernel_rfl) (by kernel_rfl)) ?_
  intro W base args ds gs before hval0 hW hcnd _
  have hval : ∀ (j : Nat) t v, Try.f3.params[j]? = some t → args[j]? = some v → Value.okWide Try.prog W .any base t v := hval0
  have hW' := hW
  obtain ⟨p, q, hA0, hV, rfl, hfz, hnd⟩ := hW
  have hA : DataW.TrodAll enc Try.prog W 0 (fun _ => true) true Try.f3.params.toList args.toList ds p := hA0
  rw [Try.params3] at hA hval
  obtain ⟨v0, vs0, d0, ds0, p0, q0, hargs, rfl, rfl, h0, r0⟩ := trodAll_cons hA
  obtain ⟨rfl, rfl, rfl⟩ := trodAll_nil r0
  obtain rfl : args = #[v0] := by cases args; simp_all
  obtain ⟨rfl, rfl⟩ := trodVars_none hV
  have k0 := h0
  have lt0 : ∀ x ∈ p0, x.block < W.heap.size := by obtain ⟨m, hm⟩ := k0; exact DataW.trod_lt m _ _ _ hm
  obtain ⟨s0, x0, rfl, i0⟩ := open_ties_arg (hval 0 22 v0 rfl rfl) h0 (fun _ => rfl)
  clear hA0 hval0
  refine (law_AreTies s0 x0 W i0).mono fun e W' ⟨he, bel⟩ => ?_
  subst he
  exact ⟨_, rfl, _, _, _, [], _, [], hW', trodAll_mk1 (shut_bool Try.underlying4 _), (trodAll_cons_mk (Below.trod laidOut (by kernel_rfl) (of_decide_eq_true (by kernel_rfl)) k0 bel lt0) trodAll_mk0), rfl, Below.frame bel _, fun h => by cases h⟩
theorem over_AreTies : Rows.fnExactAreTiesRow.holds Try.pinned (OpenSpec.ofChange Rows.fnExactAreTiesSpec) :=
  OpenClaim.holds_of_wide 3 Try.f3 rfl rfl rfl rfl rfl rfl rfl ⟨rfl, rfl, rfl, rfl, rfl⟩ rfl rfl rfl rfl rfl (by kernel_rfl) Try.func3 (by kernel_rfl)
    (of_decide_eq_true (by kernel_rfl)) (by unfold Func.isWrapper; first | (rw [if_pos (by decide +kernel)]; kernel_rfl) | (rw [if_neg (by decide +kernel)]; exact ⟨rfl, rfl⟩))
    (fun os started H enc _ => lifted_AreTies os started H enc)
/-- the statement -/
theorem proved_AreTies : Rows.FnExactAreTiesSaid := over_AreTies
#print axioms proved_AreTies
end Go.Proofs.Ytnkljndopjcapaa.mem
