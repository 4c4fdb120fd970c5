/-
  The law FnSeats holds of the given program for every input: it returns true, and its argument reads as it did.
-/
import Derived.Test.YtjedembbcmeoeaaDqs
import Derived.Test.YtjedembbcmeoeaaSeP
import Derived.Test.YtjedembbcmeoeaaOpenC
import Derived.Test.YtjedembbcmeoeaaPTop
namespace Go.Proofs.Ytjedembbcmeoeaa.mem
open Go.ChangeShapes Go.WideShapes Go.ChangeAt Go.RowKit
set_option linter.unusedVariables false
set_option maxRecDepth 20000 in
set_option maxHeartbeats 4000000 in
theorem law_FnSeats (s : Sl) (w : World) (hb0 : RdB w s.A s.n) (hcap : cap1 s) :
    Calls Try.prog 3 #[.slice s.A s.n s.c] w fun e w' => e = .returned (.bool true) ∧ Ext w w' := by
  have hX := Ext.refl w
  have hbig := laws.big_any s w hcap
  by_cases hs : 4096 < s.n
  · rw [decide_eq_true hs] at hbig
    clear hs
    go_enter Try.func3, Try.ntmps3
    go_wp2_with fail
    refine hbig.mono ?_
    rintro e w' ⟨rfl, rfl⟩
    go_wp2_with fail
    go_ret
    exact ⟨rfl, hX⟩
  rw [decide_eq_false hs] at hbig
  have hc : Code w s := ⟨hb0, by omega, hcap⟩
  clear hs hb0 hcap
  go_enter Try.func3, Try.ntmps3
  go_wp2_with fail
  refine hbig.mono ?_
  rintro e w' ⟨rfl, rfl⟩
  clear hbig
  go_wp2_with fail
  refine (spec.DrawSeatOf_any s _ (hc.ext hX)).mono ?_
  rintro e w1 ⟨p, l, x, rfl, op, hx⟩
  replace hX := hX.trans hx
  clear hx
  have hP := Blk.new w1 26 (#[.slice p.x.A p.x.n p.x.c, .slice p.y.A p.y.n p.y.c, .slice p.z.A p.z.n p.z.c])
  replace op := op.alloc (.cells #[.slice p.x.A p.x.n p.x.c, .slice p.y.A p.y.n p.y.c, .slice p.z.A p.z.n p.z.c] 26)
  replace hX := hX.alloc (.cells #[.slice p.x.A p.x.n p.x.c, .slice p.y.A p.y.n p.y.c, .slice p.z.A p.z.n p.z.c] 26)
  obtain ⟨qhP0, qhP1, qhP2⟩ := hP.c3
  go_wp2_with fail
  refine (impl.SeatOf_any p l x _ op.rd).mono ?_
  rintro e w2 ⟨rfl, hx⟩
  clear qhP0 qhP1 qhP2
  replace op := op.ext hx
  replace hP := hP.ext hx
  replace hX := hX.trans hx
  clear hx
  obtain ⟨qhP0, qhP1, qhP2⟩ := hP.c3
  go_wp2_with fail
  refine (spec.SeatOf_any p l x _ op.rd).mono ?_
  rintro e w3 ⟨rfl, hx⟩
  clear qhP0 qhP1 qhP2
  replace op := op.ext hx
  replace hP := hP.ext hx
  replace hX := hX.trans hx
  clear hx
  obtain ⟨qhP0, qhP1, qhP2⟩ := hP.c3
  go_wp2_with fail
  refine (spec.DrawGoneBefore_any s _ (hc.ext hX)).mono ?_
  rintro e w4 ⟨q, m, y, rfl, oq, hx⟩
  clear qhP0 qhP1 qhP2
  replace op := op.ext hx
  replace hP := hP.ext hx
  replace hX := hX.trans hx
  clear hx
  have hQ := Blk.new w4 26 (#[.slice q.x.A q.x.n q.x.c, .slice q.y.A q.y.n q.y.c, .slice q.z.A q.z.n q.z.c])
  replace op := op.alloc (.cells #[.slice q.x.A q.x.n q.x.c, .slice q.y.A q.y.n q.y.c, .slice q.z.A q.z.n q.z.c] 26)
  replace oq := oq.alloc (.cells #[.slice q.x.A q.x.n q.x.c, .slice q.y.A q.y.n q.y.c, .slice q.z.A q.z.n q.z.c] 26)
  replace hP := hP.alloc (.cells #[.slice q.x.A q.x.n q.x.c, .slice q.y.A q.y.n q.y.c, .slice q.z.A q.z.n q.z.c] 26)
  replace hX := hX.alloc (.cells #[.slice q.x.A q.x.n q.x.c, .slice q.y.A q.y.n q.y.c, .slice q.z.A q.z.n q.z.c] 26)
  obtain ⟨qhP0, qhP1, qhP2⟩ := hP.c3
  obtain ⟨qhQ0, qhQ1, qhQ2⟩ := hQ.c3
  go_wp2_with fail
  refine (impl.GoneBefore_any q m y _ oq.rd).mono ?_
  rintro e w5 ⟨rfl, hx⟩
  clear qhP0 qhP1 qhP2 qhQ0 qhQ1 qhQ2
  replace op := op.ext hx
  replace oq := oq.ext hx
  replace hP := hP.ext hx
  replace hQ := hQ.ext hx
  replace hX := hX.trans hx
  clear hx
  obtain ⟨qhP0, qhP1, qhP2⟩ := hP.c3
  obtain ⟨qhQ0, qhQ1, qhQ2⟩ := hQ.c3
  go_wp2_with fail
  refine (spec.GoneBefore_any q m y _ oq.rd).mono ?_
  rintro e w6 ⟨rfl, hx⟩
  clear qhP0 qhP1 qhP2 qhQ0 qhQ1 qhQ2
  replace op := op.ext hx
  replace oq := oq.ext hx
  replace hP := hP.ext hx
  replace hQ := hQ.ext hx
  replace hX := hX.trans hx
  clear hx
  obtain ⟨qhP0, qhP1, qhP2⟩ := hP.c3
  obtain ⟨qhQ0, qhQ1, qhQ2⟩ := hQ.c3
  by_cases h1 : plcC (okP m) m.z y = 0
  · obtain ⟨k, e1, hk⟩ := plcC_get h1
    have hkl : k < q.z.n := by have a := oq.rd.2.2.1.1; have b := (List.getElem?_eq_some_iff.1 hk).1; omega
    obtain ⟨b2, o2, u2, hA2, hb2, hc2, hu2⟩ := oq.rd.2.2.1.el hkl
    have eu2 : u2 = y := by have := hu2.out; rw [hk] at this; injection this with this; exact this.symm
    subst eu2
    have hk0 : (0 : Int) ≤ (k : Int) := by omega
    have hkI : (k : Int) < (q.z.n : Int) := by omega
    rw [h1, e1]
    clear h1 e1
    rw [hA2] at qhQ2
    by_cases h2 : seatC (okP l) l.x x = 0
    · obtain ⟨j, e2, hj⟩ := seatC_get h2
      have hjl : j < p.x.n := by have a := op.rd.1.1; have b := (List.getElem?_eq_some_iff.1 hj).1; omega
      obtain ⟨b1, o1, u1, hA1, hb1, hc1, hu1⟩ := op.rd.1.el hjl
      have eu1 : u1 = x := by have := hu1.out; rw [hj] at this; injection this with this; exact this.symm
      subst eu1
      have hj0 : (0 : Int) ≤ (j : Int) := by omega
      have hjI : (j : Int) < (p.x.n : Int) := by omega
      rw [h2, e2]
      clear h2 e2
      rw [hA1] at qhP0
      go_wp2_with fail
      go_ret
      exact ⟨rfl, hX⟩
    · have h2' : (seatC (okP l) l.x x != 0) = true := by rw [bne_iff_ne]; exact h2
      clear h2
      go_wp2_with fail
      go_ret
      exact ⟨rfl, hX⟩
  · have h1' : (plcC (okP m) m.z y == 0) = false := by rw [beq_eq_false_iff_ne]; exact h1
    clear h1
    by_cases h2 : seatC (okP l) l.x x = 0
    · obtain ⟨j, e2, hj⟩ := seatC_get h2
      have hjl : j < p.x.n := by have a := op.rd.1.1; have b := (List.getElem?_eq_some_iff.1 hj).1; omega
      obtain ⟨b1, o1, u1, hA1, hb1, hc1, hu1⟩ := op.rd.1.el hjl
      have eu1 : u1 = x := by have := hu1.out; rw [hj] at this; injection this with this; exact this.symm
      subst eu1
      have hj0 : (0 : Int) ≤ (j : Int) := by omega
      have hjI : (j : Int) < (p.x.n : Int) := by omega
      rw [h2, e2]
      clear h2 e2
      rw [hA1] at qhP0
      go_wp2_with fail
      go_ret
      exact ⟨rfl, hX⟩
    · have h2' : (seatC (okP l) l.x x != 0) = true := by rw [bne_iff_ne]; exact h2
      clear h2
      go_wp2_with fail
      go_ret
      exact ⟨rfl, hX⟩

theorem own_FnSeats : ownKnob Try.prog.godebug = none := by kernel_rfl
set_option maxRecDepth 100000 in
theorem lifted_FnSeats (os : Os) (started : os.Started) (H : Type) (enc : TypeId × Value → H) :
    ReturnsInHanded {} Try.checked os 3 .any (Rows.fnSeatsSpec.pre6 enc Try.prog Try.f3 Rows.fnSeatsRow.domain false) (Rows.fnSeatsSpec.post enc Try.prog Try.f3 false true false false) := by
  refine returnsInHanded_of_change (C := Try.checked) own_FnSeats started (by kernel_rfl) Try.func3
    (ChangeSpec.witness6 (enc := enc) (C := Try.checked) false ⟨#[], #[.slice none 0 0], []⟩ 8 (by kernel_rfl) (by kernel_rfl) (by kernel_rfl) (by kernel_rfl)) ?_
  intro W base args ds gs before hval0 hW hcnd _
  have hval : ∀ (j : Nat) t v, Try.f3.params[j]? = some t → args[j]? = some v → Value.okWide Try.prog W .any base t v := hval0
  have hW' := hW
  obtain ⟨p, q, hA0, hV, rfl, hfz, hnd⟩ := hW
  have hA : DataW.TrodAll enc Try.prog W 0 (fun _ => true) true Try.f3.params.toList args.toList ds p := hA0
  rw [Try.params3] at hA hval
  obtain ⟨v0, vs0, d0, ds0, p0, q0, hargs, rfl, rfl, h0, r0⟩ := trodAll_cons hA
  obtain ⟨rfl, rfl, rfl⟩ := trodAll_nil r0
  obtain rfl : args = #[v0] := by cases args; simp_all
  obtain ⟨rfl, rfl⟩ := trodVars_none hV
  have k0 := h0
  have lt0 : ∀ x ∈ p0, x.block < W.heap.size := by obtain ⟨m, hm⟩ := k0; exact DataW.trod_lt m _ _ _ hm
  obtain ⟨s0, rfl, i0, c0⟩ := open_code (hval 0 22 v0 rfl rfl) h0 (fun _ => rfl)
  clear hA0 hval0
  refine (law_FnSeats s0 W i0 c0).mono fun e W' ⟨he, bel⟩ => ?_
  subst he
  exact ⟨_, rfl, _, _, _, [], _, [], hW', trodAll_mk1 (shut_bool Try.underlying4 _), (trodAll_cons_mk (Below.trod laidOut (by kernel_rfl) (of_decide_eq_true (by kernel_rfl)) k0 bel lt0) trodAll_mk0), rfl, Below.frame bel _, fun h => by cases h⟩
theorem over_FnSeats : Rows.fnSeatsRow.holds Try.pinned (OpenSpec.ofChange Rows.fnSeatsSpec) :=
  OpenClaim.holds_of_wide 3 Try.f3 rfl rfl rfl rfl rfl rfl rfl ⟨rfl, rfl, rfl, rfl, rfl⟩ rfl rfl rfl rfl rfl (by kernel_rfl) Try.func3 (by kernel_rfl)
    (of_decide_eq_true (by kernel_rfl)) (by unfold Func.isWrapper; first | (rw [if_pos (by decide +kernel)]; kernel_rfl) | (rw [if_neg (by decide +kernel)]; exact ⟨rfl, rfl⟩))
    (fun os started H enc _ => lifted_FnSeats os started H enc)
/-- the statement -/
theorem proved_FnSeats : Rows.FnSeatsSaid := over_FnSeats
#print axioms proved_FnSeats
end Go.Proofs.Ytjedembbcmeoeaa.mem
