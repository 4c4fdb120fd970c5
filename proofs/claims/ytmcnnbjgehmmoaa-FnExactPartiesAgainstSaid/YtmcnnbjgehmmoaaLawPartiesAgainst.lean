/-
  The law FnExactPartiesAgainst holds of the given program for every input: it returns true, and each argument reads as it did.
-/
import Derived.Test.YtmcnnbjgehmmoaaPag
import Derived.Test.YtmcnnbjgehmmoaaMkt
import Derived.Test.YtmcnnbjgehmmoaaInts
import Derived.Test.YtmcnnbjgehmmoaaCauOpen
import Derived.Test.YtmcnnbjgehmmoaaTieC
namespace Go.Proofs.Ytmcnnbjgehmmoaa.mem
open Go.ChangeShapes Go.WideShapes Go.ChangeAt Go.RowKit
set_option linter.unusedVariables false
set_option maxHeartbeats 4000000 in
theorem law_PartiesAgainst (s : Sl) (ts : List Ti) (u : Sl) (us : List ByteArray) (x : Int) (w : World) (is : InT w s ts) (iu : InW w u us) (bx : -9223372036854775808 ≤ x ∧ x ≤ 9223372036854775807) :
    Calls Try.prog 5 #[.slice s.A s.n s.c, .slice u.A u.n u.c, .int .i64 x] w fun e w' => e = .returned (.bool true) ∧ Ext w w' := by
  have hX := Ext.refl w
  by_cases hss : 0 ≤ szLs 1048576 (lensT ts)
  case neg =>
    go_enter Try.func5, Try.ntmps5
    go_wp2_with fail
    refine (szTieS_any s ts _ _ (by omega) (by omega) is hX).mono ?_
    rintro e w1 ⟨rfl, hx⟩
    replace hX := hX.trans hx
    have z1 : w.heap.size ≤ w1.heap.size := (by have := hx.size; simpa using this)
    clear hx
    go_wp2
    go_ret
    exact ⟨rfl, hX⟩
  have rs := is.rds hss (by omega)
  have hls := (szLt_pos hss (by omega)).2
  by_cases hsu : 0 ≤ szLs (szLs 1048576 (lensT ts)) (lensW us)
  case neg =>
    go_enter Try.func5, Try.ntmps5
    go_wp2_with fail
    refine (szTieS_any s ts _ _ (by omega) (by omega) is hX).mono ?_
    rintro e w1 ⟨rfl, hx⟩
    replace hX := hX.trans hx
    have z1 : w.heap.size ≤ w1.heap.size := (by have := hx.size; simpa using this)
    clear hx
    go_wp2_with fail
    refine (szStringS_any u us _ _ (by omega) (by omega) iu hX).mono ?_
    rintro e w2 ⟨rfl, hx⟩
    replace hX := hX.trans hx
    have z2 : w1.heap.size ≤ w2.heap.size := (by have := hx.size; simpa using this)
    clear hx
    go_wp2
    go_ret
    exact ⟨rfl, hX⟩
  have ru := iu.rds hsu (by omega)
  have hlu := (szLt_pos hsu (by omega)).2
  go_enter Try.func5, Try.ntmps5
  go_wp2_with fail
  refine (szTieS_any s ts _ _ (by omega) (by omega) is hX).mono ?_
  rintro e w1 ⟨rfl, hx⟩
  replace hX := hX.trans hx
  have z1 : w.heap.size ≤ w1.heap.size := (by have := hx.size; simpa using this)
  clear hx
  go_wp2_with fail
  refine (szStringS_any u us _ _ (by omega) (by omega) iu hX).mono ?_
  rintro e w2 ⟨rfl, hx⟩
  replace hX := hX.trans hx
  have z2 : w1.heap.size ≤ w2.heap.size := (by have := hx.size; simpa using this)
  clear hx
  go_wp2_with fail
  refine (toTieS_any s ts _ (rs.ext hX)).mono ?_
  rintro e w3 ⟨sa, rfl, osa, hx⟩
  replace hX := hX.trans hx
  have z3 : w2.heap.size ≤ w3.heap.size := (by have := hx.size; simpa using this)
  have rgosa : ∀ k, Value.ownBlock (.slice sa.A sa.n sa.c) = some k → w2.heap.size ≤ k ∧ k < w3.heap.size := (fun k hk => by have := osa.lt k hk; simpa using this)
  clear hx
  go_wp2_with fail
  refine (toStringS_any u us _ (ru.ext hX)).mono ?_
  rintro e w4 ⟨ua, rfl, oua, hx⟩
  replace hX := hX.trans hx
  have z4 : w3.heap.size ≤ w4.heap.size := (by have := hx.size; simpa using this)
  replace osa := osa.ext hx
  have rgoua : ∀ k, Value.ownBlock (.slice ua.A ua.n ua.c) = some k → w3.heap.size ≤ k ∧ k < w4.heap.size := (fun k hk => by have := oua.lt k hk; simpa using this)
  clear hx
  go_wp2_with fail
  have hps := pagL_size (us := us) (x := x) osa.rd.2.2.1
  refine (spec.PartiesAgainst_any sa ts ua us x _ osa.rd oua.rd ).mono ?_
  rintro e w5 ⟨tw0, rfl, otw0, hx⟩
  replace hX := hX.trans hx
  have z5 : w4.heap.size ≤ w5.heap.size := (by have := hx.size; simpa using this)
  replace osa := osa.ext hx
  replace oua := oua.ext hx
  have rgotw0 : ∀ k, Value.ownBlock (.slice tw0.A tw0.n tw0.c) = some k → w4.heap.size ≤ k ∧ k < w5.heap.size := (fun k hk => by have := otw0.lt k hk; simpa using this)
  clear hx
  go_wp2_with fail
  refine (toTieS_any s ts _ (rs.ext hX)).mono ?_
  rintro e w6 ⟨sb, rfl, osb, hx⟩
  replace hX := hX.trans hx
  have z6 : w5.heap.size ≤ w6.heap.size := (by have := hx.size; simpa using this)
  replace osa := osa.ext hx
  replace oua := oua.ext hx
  replace otw0 := otw0.ext hx
  have rgosb : ∀ k, Value.ownBlock (.slice sb.A sb.n sb.c) = some k → w5.heap.size ≤ k ∧ k < w6.heap.size := (fun k hk => by have := osb.lt k hk; simpa using this)
  clear hx
  go_wp2_with fail
  refine (toStringS_any u us _ (ru.ext hX)).mono ?_
  rintro e w7 ⟨ub, rfl, oub, hx⟩
  replace hX := hX.trans hx
  have z7 : w6.heap.size ≤ w7.heap.size := (by have := hx.size; simpa using this)
  replace osa := osa.ext hx
  replace oua := oua.ext hx
  replace otw0 := otw0.ext hx
  replace osb := osb.ext hx
  have rgoub : ∀ k, Value.ownBlock (.slice ub.A ub.n ub.c) = some k → w6.heap.size ≤ k ∧ k < w7.heap.size := (fun k hk => by have := oub.lt k hk; simpa using this)
  clear hx
  go_wp2_with fail
  refine (impl.PartiesAgainst_any sb ts ub us x _ osb.rd oub.rd osb.cap).mono ?_
  rintro e w8 ⟨tg0, rfl, otg0, hx⟩
  replace hX := hX.trans hx
  have z8 : w7.heap.size ≤ w8.heap.size := (by have := hx.size; simpa using this)
  replace osa := osa.ext hx
  replace oua := oua.ext hx
  replace otw0 := otw0.ext hx
  replace osb := osb.ext hx
  replace oub := oub.ext hx
  have rgotg0 : ∀ k, Value.ownBlock (.slice tg0.A tg0.n tg0.c) = some k → w7.heap.size ≤ k ∧ k < w8.heap.size := (fun k hk => by have := otg0.lt k hk; simpa using this)
  clear hx
  go_wp2_with fail
  refine (eqStringS_yes tg0 tw0 _ _ (otg0.rd hps) (otw0.rd hps)).mono ?_
  rintro e w9 ⟨rfl, hx⟩
  replace hX := hX.trans hx
  have z9 : w8.heap.size ≤ w9.heap.size := (by have := hx.size; simpa using this)
  replace osa := osa.ext hx
  replace oua := oua.ext hx
  replace otw0 := otw0.ext hx
  replace osb := osb.ext hx
  replace oub := oub.ext hx
  replace otg0 := otg0.ext hx
  clear hx
  go_wp2_with fail
  refine (toTieS_any s ts _ (rs.ext hX)).mono ?_
  rintro e w10 ⟨sbc, rfl, osbc, hx⟩
  replace hX := hX.trans hx
  have z10 : w9.heap.size ≤ w10.heap.size := (by have := hx.size; simpa using this)
  replace osa := osa.ext hx
  replace oua := oua.ext hx
  replace otw0 := otw0.ext hx
  replace osb := osb.ext hx
  replace oub := oub.ext hx
  replace otg0 := otg0.ext hx
  clear hx
  go_wp2_with fail
  refine (eqTieS_yes sb sbc _ _ osb.rd (osbc.ext (Ext.refl _)).rd).mono ?_
  rintro e w11 ⟨rfl, hx⟩
  replace hX := hX.trans hx
  have z11 : w10.heap.size ≤ w11.heap.size := (by have := hx.size; simpa using this)
  replace osa := osa.ext hx
  replace oua := oua.ext hx
  replace otw0 := otw0.ext hx
  replace osb := osb.ext hx
  replace oub := oub.ext hx
  replace otg0 := otg0.ext hx
  clear hx
  go_wp2_with fail
  refine (toStringS_any u us _ (ru.ext hX)).mono ?_
  rintro e w12 ⟨ubc, rfl, oubc, hx⟩
  replace hX := hX.trans hx
  have z12 : w11.heap.size ≤ w12.heap.size := (by have := hx.size; simpa using this)
  replace osa := osa.ext hx
  replace oua := oua.ext hx
  replace otw0 := otw0.ext hx
  replace osb := osb.ext hx
  replace oub := oub.ext hx
  replace otg0 := otg0.ext hx
  clear hx
  go_wp2_with fail
  refine (eqStringS_yes ub ubc _ _ oub.rd (oubc.ext (Ext.refl _)).rd).mono ?_
  rintro e w13 ⟨rfl, hx⟩
  replace hX := hX.trans hx
  have z13 : w12.heap.size ≤ w13.heap.size := (by have := hx.size; simpa using this)
  replace osa := osa.ext hx
  replace oua := oua.ext hx
  replace otw0 := otw0.ext hx
  replace osb := osb.ext hx
  replace oub := oub.ext hx
  replace otg0 := otg0.ext hx
  clear hx
  -- what came in is marked: the result is its own
  have leosb := osb.2.1
  go_wp2_with fail
  refine (markTieS_any sb _ 1 _ _ osb (by omega) (by omega)).mono ?_
  rintro e w14 ⟨rfl, hf⟩
  replace hX := hX.fr_trans hf (fun k hk => Or.elim hk (fun hk => by have := rgosb k hk; omega) (fun hk => by have := hX.size; (try simp at this hk); omega))
  have z14 : w13.heap.size ≤ w14.heap.size := by have := hf.size; simpa using this
  replace osa := osa.fr hf (fun k h1 h2 => Or.elim h2 (fun h2 => by have a1 := rgosa k h1; have a2 := rgosb k h2; omega) (fun h2 => by have a1 := rgosa k h1; (try simp at h2); omega))
  replace oua := oua.fr hf (fun k h1 h2 => Or.elim h2 (fun h2 => by have a1 := rgoua k h1; have a2 := rgosb k h2; omega) (fun h2 => by have a1 := rgoua k h1; (try simp at h2); omega))
  replace otw0 := otw0.fr hf (fun k h1 h2 => Or.elim h2 (fun h2 => by have a1 := rgotw0 k h1; have a2 := rgosb k h2; omega) (fun h2 => by have a1 := rgotw0 k h1; (try simp at h2); omega))
  replace oub := oub.fr hf (fun k h1 h2 => Or.elim h2 (fun h2 => by have a1 := rgoub k h1; have a2 := rgosb k h2; omega) (fun h2 => by have a1 := rgoub k h1; (try simp at h2); omega))
  replace otg0 := otg0.fr hf (fun k h1 h2 => Or.elim h2 (fun h2 => by have a1 := rgotg0 k h1; have a2 := rgosb k h2; omega) (fun h2 => by have a1 := rgotg0 k h1; (try simp at h2); omega))
  clear hf osb
  have leoub := oub.2.1
  go_wp2_with fail
  refine (markStringS_any ub _ (1 + 4 * (sb.n : Int)) _ _ oub (by omega) (by omega)).mono ?_
  rintro e w15 ⟨rfl, hf⟩
  replace hX := hX.fr_trans hf (fun k hk => Or.elim hk (fun hk => by have := rgoub k hk; omega) (fun hk => by have := hX.size; (try simp at this hk); omega))
  have z15 : w14.heap.size ≤ w15.heap.size := by have := hf.size; simpa using this
  replace osa := osa.fr hf (fun k h1 h2 => Or.elim h2 (fun h2 => by have a1 := rgosa k h1; have a2 := rgoub k h2; omega) (fun h2 => by have a1 := rgosa k h1; (try simp at h2); omega))
  replace oua := oua.fr hf (fun k h1 h2 => Or.elim h2 (fun h2 => by have a1 := rgoua k h1; have a2 := rgoub k h2; omega) (fun h2 => by have a1 := rgoua k h1; (try simp at h2); omega))
  replace otw0 := otw0.fr hf (fun k h1 h2 => Or.elim h2 (fun h2 => by have a1 := rgotw0 k h1; have a2 := rgoub k h2; omega) (fun h2 => by have a1 := rgotw0 k h1; (try simp at h2); omega))
  replace otg0 := otg0.fr hf (fun k h1 h2 => Or.elim h2 (fun h2 => by have a1 := rgotg0 k h1; have a2 := rgoub k h2; omega) (fun h2 => by have a1 := rgotg0 k h1; (try simp at h2); omega))
  clear hf oub
  go_wp2_with fail
  refine (eqStringS_yes tg0 tw0 _ _ (otg0.rd hps) (otw0.rd hps)).mono ?_
  rintro e w16 ⟨rfl, hx⟩
  replace hX := hX.trans hx
  have z16 : w15.heap.size ≤ w16.heap.size := (by have := hx.size; simpa using this)
  replace osa := osa.ext hx
  replace oua := oua.ext hx
  replace otw0 := otw0.ext hx
  replace otg0 := otg0.ext hx
  clear hx
  have leotg0 := (otg0.rd hps).2.1
  go_wp2_with fail
  refine (markStringS_own tg0 _ 1 _ _ otg0 (by omega) (by omega)).mono ?_
  rintro e w17 ⟨rfl, otg0', hf⟩
  replace hX := hX.fr_trans hf (fun k hk => by have := rgotg0 k hk; omega)
  have z17 : w16.heap.size ≤ w17.heap.size := by have := hf.size; simpa using this
  replace osa := osa.fr hf (fun k h1 h2 => by have a1 := rgosa k h1; have a2 := rgotg0 k h2; omega)
  replace oua := oua.fr hf (fun k h1 h2 => by have a1 := rgoua k h1; have a2 := rgotg0 k h2; omega)
  replace otw0 := otw0.fr hf (fun k h1 h2 => by have a1 := rgotw0 k h1; have a2 := rgotg0 k h2; omega)
  clear hf otg0
  have otg0 := otg0'
  clear otg0'
  go_wp2_with fail
  refine (heldStringS_any tg0 1 _ (otg0.rd (mtL_size (by omega) (by omega) leotg0)) (by omega) (by omega)).mono ?_
  rintro e wq1 ⟨rfl, hx⟩
  replace hX := hX.trans hx
  have zq1 := hx.size
  replace osa := osa.ext hx
  replace oua := oua.ext hx
  replace otw0 := otw0.ext hx
  replace otg0 := otg0.ext hx
  clear hx
  go_wp2_with fail
  refine (toTieS_any s ts _ (rs.ext hX)).mono ?_
  rintro e w18 ⟨sd, rfl, osd, hx⟩
  replace hX := hX.trans hx
  have z18 : w17.heap.size ≤ w18.heap.size := (by have := hx.size; (try simp at this); omega)
  replace osa := osa.ext hx
  replace oua := oua.ext hx
  replace otw0 := otw0.ext hx
  replace otg0 := otg0.ext hx
  have rgosd : ∀ k, Value.ownBlock (.slice sd.A sd.n sd.c) = some k → w17.heap.size ≤ k ∧ k < w18.heap.size := (fun k hk => by have := osd.lt k hk; (try simp at this); omega)
  clear hx
  go_wp2_with fail
  refine (toStringS_any u us _ (ru.ext hX)).mono ?_
  rintro e w19 ⟨ud, rfl, oud, hx⟩
  replace hX := hX.trans hx
  have z19 : w18.heap.size ≤ w19.heap.size := (by have := hx.size; simpa using this)
  replace osa := osa.ext hx
  replace oua := oua.ext hx
  replace otw0 := otw0.ext hx
  replace otg0 := otg0.ext hx
  replace osd := osd.ext hx
  have rgoud : ∀ k, Value.ownBlock (.slice ud.A ud.n ud.c) = some k → w18.heap.size ≤ k ∧ k < w19.heap.size := (fun k hk => by have := oud.lt k hk; simpa using this)
  clear hx
  go_wp2_with fail
  refine (impl.PartiesAgainst_any sd ts ud us x _ osd.rd oud.rd osd.cap).mono ?_
  rintro e w20 ⟨th0, rfl, oth0, hx⟩
  replace hX := hX.trans hx
  have z20 : w19.heap.size ≤ w20.heap.size := (by have := hx.size; simpa using this)
  replace osa := osa.ext hx
  replace oua := oua.ext hx
  replace otw0 := otw0.ext hx
  replace otg0 := otg0.ext hx
  replace osd := osd.ext hx
  replace oud := oud.ext hx
  have rgoth0 : ∀ k, Value.ownBlock (.slice th0.A th0.n th0.c) = some k → w19.heap.size ≤ k ∧ k < w20.heap.size := (fun k hk => by have := oth0.lt k hk; simpa using this)
  clear hx
  go_wp2_with fail
  refine (eqStringS_yes th0 tw0 _ _ (oth0.rd hps) (otw0.rd hps)).mono ?_
  rintro e w21 ⟨rfl, hx⟩
  replace hX := hX.trans hx
  have z21 : w20.heap.size ≤ w21.heap.size := (by have := hx.size; simpa using this)
  replace osa := osa.ext hx
  replace oua := oua.ext hx
  replace otw0 := otw0.ext hx
  replace otg0 := otg0.ext hx
  replace osd := osd.ext hx
  replace oud := oud.ext hx
  replace oth0 := oth0.ext hx
  clear hx
  go_wp2_with fail
  refine (heldStringS_any tg0 1 _ (otg0.rd (mtL_size (by omega) (by omega) leotg0)) (by omega) (by omega)).mono ?_
  rintro e wq2 ⟨rfl, hx⟩
  replace hX := hX.trans hx
  have zq2 := hx.size
  clear hx
  go_wp2
  go_ret
  exact ⟨rfl, hX⟩
theorem own_PartiesAgainst : ownKnob Try.prog.godebug = none := by kernel_rfl
set_option maxRecDepth 100000 in
theorem lifted_PartiesAgainst (os : Os) (started : os.Started) (H : Type) (enc : TypeId × Value → H) :
    ReturnsInHanded {} Try.checked os 5 .any (Rows.fnExactPartiesAgainstSpec.pre6 enc Try.prog Try.f5 Rows.fnExactPartiesAgainstRow.domain false) (Rows.fnExactPartiesAgainstSpec.post enc Try.prog Try.f5 false true false false) := by
  refine returnsInHanded_of_change (C := Try.checked) own_PartiesAgainst started (by kernel_rfl) Try.func5
    (ChangeSpec.witness6 (enc := enc) (C := Try.checked) false ⟨#[], #[.slice none 0 0, .slice none 0 0, .int .i64 0], []⟩ 8 (by kernel_rfl) (by kernel_rfl) (by kernel_rfl) (by kernel_rfl)) ?_
  intro W base args ds gs before hval0 hW hcnd _
  have hval : ∀ (j : Nat) t v, Try.f5.params[j]? = some t → args[j]? = some v → Value.okWide Try.prog W .any base t v := hval0
  have hW' := hW
  obtain ⟨p, q, hA0, hV, rfl, hfz, hnd⟩ := hW
  have hA : DataW.TrodAll enc Try.prog W 0 (fun _ => true) true Try.f5.params.toList args.toList ds p := hA0
  rw [Try.params5] at hA hval
  obtain ⟨v0, vs0, d0, ds0, p0, q0, hargs, rfl, rfl, h0, r0⟩ := trodAll_cons hA
  obtain ⟨v1, vs1, d1, ds1, p1, q1, rfl, rfl, rfl, h1, r1⟩ := trodAll_cons r0
  obtain ⟨v2, vs2, d2, ds2, p2, q2, rfl, rfl, rfl, h2, r2⟩ := trodAll_cons r1
  obtain ⟨rfl, rfl, rfl⟩ := trodAll_nil r2
  obtain rfl : args = #[v0, v1, v2] := by cases args; simp_all
  obtain ⟨rfl, rfl⟩ := trodVars_none hV
  have k0 := h0
  have lt0 : ∀ x ∈ p0, x.block < W.heap.size := by obtain ⟨m, hm⟩ := k0; exact DataW.trod_lt m _ _ _ hm
  obtain ⟨s0, x0, rfl, i0⟩ := open_ties_arg (hval 0 38 v0 rfl rfl) h0 (fun _ => rfl)
  have k1 := h1
  have lt1 : ∀ x ∈ p1, x.block < W.heap.size := by obtain ⟨m, hm⟩ := k1; exact DataW.trod_lt m _ _ _ hm
  obtain ⟨s1, x1, rfl, i1⟩ := open_strs_arg (hval 1 25 v1 rfl rfl) h1 (fun _ => rfl)
  have k2 := h2
  have lt2 : ∀ x ∈ p2, x.block < W.heap.size := by obtain ⟨m, hm⟩ := k2; exact DataW.trod_lt m _ _ _ hm
  obtain ⟨a2, rfl, _, _, w2⟩ := open_int Try.underlying2 (hval 2 2 v2 rfl rfl) h2
  clear hA0 hval0
  refine (law_PartiesAgainst s0 x0 s1 x1 a2 W i0 i1 (by simpa [Lit.wf, IntKind.min, IntKind.max, IntKind.signed, IntKind.bits] using w2)).mono fun e W' ⟨he, bel⟩ => ?_
  subst he
  exact ⟨_, rfl, _, _, _, [], _, [], hW', trodAll_mk1 (shut_bool Try.underlying4 _), (trodAll_cons_mk (Below.trod laidOut (by kernel_rfl) (of_decide_eq_true (by kernel_rfl)) k0 bel lt0) (trodAll_cons_mk (Below.trod laidOut (by kernel_rfl) (of_decide_eq_true (by kernel_rfl)) k1 bel lt1) (trodAll_cons_mk (Below.trod laidOut (by kernel_rfl) (of_decide_eq_true (by kernel_rfl)) k2 bel lt2) trodAll_mk0))), rfl, Below.frame bel _, fun h => by cases h⟩
theorem over_PartiesAgainst : Rows.fnExactPartiesAgainstRow.holds Try.pinned (OpenSpec.ofChange Rows.fnExactPartiesAgainstSpec) :=
  OpenClaim.holds_of_wide 5 Try.f5 rfl rfl rfl rfl rfl rfl rfl ⟨rfl, rfl, rfl, rfl, rfl⟩ rfl rfl rfl rfl rfl (by kernel_rfl) Try.func5 (by kernel_rfl)
    (of_decide_eq_true (by kernel_rfl)) (by unfold Func.isWrapper; first | (rw [if_pos (by decide +kernel)]; kernel_rfl) | (rw [if_neg (by decide +kernel)]; exact ⟨rfl, rfl⟩))
    (fun os started H enc _ => lifted_PartiesAgainst os started H enc)
/-- the statement -/
theorem proved_PartiesAgainst : Rows.FnExactPartiesAgainstSaid := over_PartiesAgainst
#print axioms proved_PartiesAgainst
end Go.Proofs.Ytmcnnbjgehmmoaa.mem
