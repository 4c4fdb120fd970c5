/-
  The law FnCauses holds of the given program for every input: it returns true, and its argument reads as it did.
-/
import Derived.Test.YtmcnnbjgehmmoaaPrc
import Derived.Test.YtmcnnbjgehmmoaaInts
namespace Go.Proofs.Ytmcnnbjgehmmoaa.mem
open Go.ChangeShapes Go.WideShapes Go.ChangeAt Go.RowKit
set_option linter.unusedVariables false
set_option maxRecDepth 20000 in
set_option maxHeartbeats 8000000 in
theorem law_FnCauses (s : Sl) (w : World) (hb0 : RdB w s.A s.n) (hcap : cap1 s) :
    Calls Try.prog 3 #[.slice s.A s.n s.c] w fun e w' => e = .returned (.bool true) ∧ Ext w w' := by
  have hX := Ext.refl w
  have hbig := laws.big_any s w hcap
  by_cases hs : 4096 < s.n
  · rw [decide_eq_true hs] at hbig
    clear hs
    go_enter Try.func3, Try.ntmps3
    go_wp2_with fail
    refine hbig.mono ?_
    rintro e w' ⟨rfl, rfl⟩
    go_wp2_with fail
    go_ret
    exact ⟨rfl, hX⟩
  rw [decide_eq_false hs] at hbig
  have hc : Code w s := ⟨hb0, by omega, hcap⟩
  clear hs hb0 hcap
  go_enter Try.func3, Try.ntmps3
  go_wp2_with fail
  refine hbig.mono ?_
  rintro e w' ⟨rfl, rfl⟩
  clear hbig
  go_wp2_with fail
  refine (spec.DrawCausesOf_any s _ (hc.ext hX)).mono ?_
  rintro e w1 ⟨t, ts, q, us, x, rfl, hT, hx⟩
  replace hX := hX.trans hx
  clear hx hc
  have hg1 := fun W (h : TpR W t ts q us) => impl.CausesOf_any t ts q us x W h.1 h.2.2.1 h.2.1
  have hg2 := fun W (h : TpR W t ts q us) => spec.CausesOf_any t ts q us x W h.1 h.2.2.1
  have hg3 := fun W (h : TpR W t ts q us) => impl.IsBiased_any t ts q us x W h.1 h.2.2.1 h.2.1
  have hg4 := fun W (h : TpR W t ts q us) => spec.IsBiased_any t ts q us x W h.1 h.2.2.1
  have hg5 := fun W (h : TpR W t ts q us) => impl.PartiesAgainst_any t ts q us x W h.1 h.2.2.1 h.2.1
  have hg6 := fun W (h : TpR W t ts q us) => spec.PartiesAgainst_any t ts q us x W h.1 h.2.2.1
  have hht := fun W y (h : TpR W t ts q us) => hasText_any q us y W h.2.2.1
  have hps := pagL_size (us := us) (x := x) hT.1.2.2.1
  have hph := fun k y => pag_has (ts := ts) (us := us) (x := x) (k := k) (y := y)
  have hpl := pag_len (ts := ts) (us := us) (x := x)
  have hbv : biaV ts us x = decide (0 < (cofL ts us x).length) := rfl
  obtain ⟨C, hC⟩ : ∃ C, C = codC ts us x := ⟨_, rfl⟩
  obtain ⟨bv, hbv0⟩ : ∃ b, b = biaV ts us x := ⟨_, rfl⟩
  obtain ⟨L, hL⟩ : ∃ L, L = cofL ts us x := ⟨_, rfl⟩
  obtain ⟨P, hP⟩ : ∃ P, P = pagL ts us x := ⟨_, rfl⟩
  simp only [← hC, ← hbv0, ← hL, ← hP] at hg1 hg2 hg3 hg4 hg5 hg6 hps hph hpl hbv
  clear hC hbv0 hL hP
  replace hps := hide hps
  replace hph := hide hph
  replace hpl := hide hpl
  replace hbv := hide hbv
  go_wp2_with fail
  refine (hg1 _ hT).mono ?_
  rintro e w2 ⟨c, rfl, oc, hx⟩
  replace hT := hT.ext hx
  replace hX := hX.trans hx
  clear hx
  go_wp2_with fail
  refine (hg2 _ hT).mono ?_
  rintro e w3 ⟨m, rfl, om, hx⟩
  replace hT := hT.ext hx
  replace oc := oc.ext hx
  replace hX := hX.trans hx
  clear hx
  go_wp2_with fail
  refine (hg3 _ hT).mono ?_
  rintro e w4 ⟨rfl, hx⟩
  replace hT := hT.ext hx
  replace oc := oc.ext hx
  replace om := om.ext hx
  replace hX := hX.trans hx
  clear hx
  go_wp2_with fail
  refine (hg4 _ hT).mono ?_
  rintro e w5 ⟨rfl, hx⟩
  replace hT := hT.ext hx
  replace oc := oc.ext hx
  replace om := om.ext hx
  replace hX := hX.trans hx
  clear hx
  go_wp2_with fail
  refine (hg5 _ hT).mono ?_
  rintro e w6 ⟨p, rfl, op, hx⟩
  replace hT := hT.ext hx
  replace oc := oc.ext hx
  replace om := om.ext hx
  replace hX := hX.trans hx
  clear hx
  go_wp2_with fail
  refine (hg6 _ hT).mono ?_
  rintro e w7 ⟨pm, rfl, opm, hx⟩
  replace hT := hT.ext hx
  replace oc := oc.ext hx
  replace om := om.ext hx
  replace op := op.ext hx
  replace hX := hX.trans hx
  clear hx
  have hcn : Hid (c.n = L.length) := hide oc.rd.1
  have hcc : ((C != C) = false) := by simp
  have hbb : ((bv != bv) = false) := by simp
  clear hg1 hg2 hg3 hg4 hg5 hg6
  go_wp2_with fail
  refine (likeInts_yes c m _ _ oc.rd om.rd).mono ?_
  rintro e w8 ⟨rfl, hx⟩
  replace hT := hT.ext hx
  replace oc := oc.ext hx
  replace om := om.ext hx
  replace op := op.ext hx
  replace opm := opm.ext hx
  replace hX := hX.trans hx
  clear hx
  go_wp2_with fail
  refine (likeTexts_yes p pm _ _ (op.rd hps.out) (opm.rd hps.out)).mono ?_
  rintro e w9 ⟨rfl, hx⟩
  replace hT := hT.ext hx
  replace oc := oc.ext hx
  replace om := om.ext hx
  replace op := op.ext hx
  replace opm := opm.ext hx
  replace hX := hX.trans hx
  clear hx
  have hpr := op.rd hps.out
  have hpn : Hid (p.n = P.length) := hide hpr.1
  clear opm om oc op
  obtain ⟨wz, hwz⟩ : ∃ wz, wz = w9 := ⟨_, rfl⟩
  rw [← hwz] at hT hX hpr ⊢
  clear hwz
  obtain ⟨Ap, np, cp⟩ := p
  obtain ⟨Ac, nc, cc⟩ := c
  simp only at hpr hpn hcn
  have hnp := hpr.2.1
  have hnc : (0 : Int) ≤ (nc : Int) := by omega
  go_wp2_with fail
  go_loop [18] (fun i => ∃ k : Nat, k ≤ np ∧ i = .int .i64 k) (fun i => np - (intOf i).toNat)
  case atStart => exact ⟨0, by omega, rfl⟩
  case round =>
    obtain ⟨k, hk, rfl⟩ := hrel
    by_cases hlt : k < np
    · obtain ⟨b, off, y, rfl, hbl, hc1, hys, hy⟩ := hpr.el hlt
      have hh := hht _ y hT
      rw [hph.out k y hy.out] at hh
      go_wp2_with fail
      refine hh.mono ?_
      rintro e w' ⟨rfl, rfl⟩
      go_wp2_with fail
      go_round
      case rel => exact ⟨k + 1, by omega, by go_num⟩
      case measure => simp [intOf]; omega
    · by_cases hC0 : C = 0
      · obtain ⟨l1, l2⟩ := hpl.out hC0
        have q1 := hcn.out
        have q2 := hpn.out
        have q3 := hbv.out
        subst hC0
        clear hht hph hpl hps hT hpr hcn hpn hbv
        by_cases hz : 0 < L.length
        · have e1 : (0 : Int) < (nc : Int) := by omega
          have e2 : (0 : Int) < (np : Int) := by omega
          have e3 : (np : Int) ≤ (nc : Int) := by omega
          have e4 : bv = true := by rw [q3]; exact decide_eq_true hz
          subst e4
          clear l1 l2 q1 q2 q3 hz
          go_wp2_with fail
          go_ret
          exact ⟨rfl, hX⟩
        · have e1 : nc = 0 := by omega
          have e2 : np = 0 := by omega
          have e4 : bv = false := by rw [q3]; exact decide_eq_false hz
          subst e4 e1 e2
          clear l1 l2 q1 q2 q3 hz
          go_wp2_with fail
          go_ret
          exact ⟨rfl, hX⟩
      · have hb : (C != 0) = true := by rw [bne_iff_ne]; exact hC0
        clear hC0 hht hph hpl hps hT hpr hcn hpn hbv
        go_wp2_with fail
        go_ret
        exact ⟨rfl, hX⟩

theorem own_FnCauses : ownKnob Try.prog.godebug = none := by kernel_rfl
set_option maxRecDepth 100000 in
theorem lifted_FnCauses (os : Os) (started : os.Started) (H : Type) (enc : TypeId × Value → H) :
    ReturnsInHanded {} Try.checked os 3 .any (Rows.fnCausesSpec.pre6 enc Try.prog Try.f3 Rows.fnCausesRow.domain false) (Rows.fnCausesSpec.post enc Try.prog Try.f3 false true false false) := by
  refine returnsInHanded_of_change (C := Try.checked) own_FnCauses started (by kernel_rfl) Try.func3
    (ChangeSpec.witness6 (enc := enc) (C := Try.checked) false ⟨#[], #[.slice none 0 0], []⟩ 8 (by kernel_rfl) (by kernel_rfl) (by kernel_rfl) (by kernel_rfl)) ?_
  intro W base args ds gs before hval0 hW hcnd _
  have hval : ∀ (j : Nat) t v, Try.f3.params[j]? = some t → args[j]? = some v → Value.okWide Try.prog W .any base t v := hval0
  have hW' := hW
  obtain ⟨p, q, hA0, hV, rfl, hfz, hnd⟩ := hW
  have hA : DataW.TrodAll enc Try.prog W 0 (fun _ => true) true Try.f3.params.toList args.toList ds p := hA0
  rw [Try.params3] at hA hval
  obtain ⟨v0, vs0, d0, ds0, p0, q0, hargs, rfl, rfl, h0, r0⟩ := trodAll_cons hA
  obtain ⟨rfl, rfl, rfl⟩ := trodAll_nil r0
  obtain rfl : args = #[v0] := by cases args; simp_all
  obtain ⟨rfl, rfl⟩ := trodVars_none hV
  have k0 := h0
  have lt0 : ∀ x ∈ p0, x.block < W.heap.size := by obtain ⟨m, hm⟩ := k0; exact DataW.trod_lt m _ _ _ hm
  obtain ⟨s0, rfl, i0, c0⟩ := open_code (hval 0 22 v0 rfl rfl) h0 (fun _ => rfl)
  clear hA0 hval0
  refine (law_FnCauses s0 W i0 c0).mono fun e W' ⟨he, bel⟩ => ?_
  subst he
  exact ⟨_, rfl, _, _, _, [], _, [], hW', trodAll_mk1 (shut_bool Try.underlying4 _), (trodAll_cons_mk (Below.trod laidOut (by kernel_rfl) (of_decide_eq_true (by kernel_rfl)) k0 bel lt0) trodAll_mk0), rfl, Below.frame bel _, fun h => by cases h⟩
theorem over_FnCauses : Rows.fnCausesRow.holds Try.pinned (OpenSpec.ofChange Rows.fnCausesSpec) :=
  OpenClaim.holds_of_wide 3 Try.f3 rfl rfl rfl rfl rfl rfl rfl ⟨rfl, rfl, rfl, rfl, rfl⟩ rfl rfl rfl rfl rfl (by kernel_rfl) Try.func3 (by kernel_rfl)
    (of_decide_eq_true (by kernel_rfl)) (by unfold Func.isWrapper; first | (rw [if_pos (by decide +kernel)]; kernel_rfl) | (rw [if_neg (by decide +kernel)]; exact ⟨rfl, rfl⟩))
    (fun os started H enc _ => lifted_FnCauses os started H enc)
/-- the statement -/
theorem proved_FnCauses : Rows.FnCausesSaid := over_FnCauses
#print axioms proved_FnCauses
end Go.Proofs.Ytmcnnbjgehmmoaa.mem
