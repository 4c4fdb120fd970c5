/-
  The law FnPanels holds of the given program for every input: it returns true, and its argument reads as it did.
-/
import Derived.Test.YtkfjphjmffbpiaaDqs
import Derived.Test.YtkfjphjmffbpiaaPaP
import Derived.Test.YtkfjphjmffbpiaaOpenC
import Derived.Test.YtkfjphjmffbpiaaDrop
import Derived.Test.YtkfjphjmffbpiaaEmpty
import Derived.Test.YtkfjphjmffbpiaaMk
import Derived.Test.YtkfjphjmffbpiaaPTop
import Derived.Test.Ytkfjphjmffbpiaa3s
namespace Go.Proofs.Ytkfjphjmffbpiaa.mem
open Go.ChangeShapes Go.WideShapes Go.ChangeAt Go.RowKit
set_option linter.unusedVariables false
set_option maxRecDepth 20000 in
set_option maxHeartbeats 24000000 in
theorem law_FnPanels (s : Sl) (w : World) (hb0 : RdB w s.A s.n) (hcap : cap1 s) :
    Calls Try.prog 4 #[.slice s.A s.n s.c] w fun e w' => e = .returned (.bool true) ∧ Ext w w' := by
  have hX := Ext.refl w
  have hbig := laws.big_any s w hcap
  by_cases hs : 4096 < s.n
  · rw [decide_eq_true hs] at hbig
    clear hs
    go_enter Try.func4, Try.ntmps4
    go_wp2_with fail
    refine hbig.mono ?_
    rintro e w' ⟨rfl, rfl⟩
    go_wp2_with fail
    go_ret
    exact ⟨rfl, hX⟩
  rw [decide_eq_false hs] at hbig
  have hc : Code w s := ⟨hb0, by omega, hcap⟩
  clear hs hb0 hcap
  go_enter Try.func4, Try.ntmps4
  go_wp2_with fail
  refine hbig.mono ?_
  rintro e w' ⟨rfl, rfl⟩
  clear hbig
  go_wp2_with fail
  refine (spec.DrawEmptySeat_any s _ (hc.ext hX)).mono ?_
  rintro e w1 ⟨p, l, x, rfl, op, hx⟩
  replace hX := hX.trans hx
  clear hx
  have hP := Blk.new w1 38 (#[.slice p.x.A p.x.n p.x.c, .slice p.y.A p.y.n p.y.c, .slice p.z.A p.z.n p.z.c])
  replace op := op.alloc (.cells #[.slice p.x.A p.x.n p.x.c, .slice p.y.A p.y.n p.y.c, .slice p.z.A p.z.n p.z.c] 38)
  replace hX := hX.alloc (.cells #[.slice p.x.A p.x.n p.x.c, .slice p.y.A p.y.n p.y.c, .slice p.z.A p.z.n p.z.c] 38)
  obtain ⟨qhP0, qhP1, qhP2⟩ := hP.c3
  go_wp2_with fail
  refine (impl.EmptySeat_any p l x _ op.rd).mono ?_
  rintro e w2 ⟨q, rfl, oq, hx⟩
  clear qhP0 qhP1 qhP2
  replace op := op.ext hx
  replace hP := hP.ext hx
  replace hX := hX.trans hx
  clear hx
  have hQ := Blk.new w2 38 (#[.slice q.x.A q.x.n q.x.c, .slice q.y.A q.y.n q.y.c, .slice q.z.A q.z.n q.z.c])
  replace op := op.alloc (.cells #[.slice q.x.A q.x.n q.x.c, .slice q.y.A q.y.n q.y.c, .slice q.z.A q.z.n q.z.c] 38)
  replace oq := oq.alloc (.cells #[.slice q.x.A q.x.n q.x.c, .slice q.y.A q.y.n q.y.c, .slice q.z.A q.z.n q.z.c] 38)
  replace hP := hP.alloc (.cells #[.slice q.x.A q.x.n q.x.c, .slice q.y.A q.y.n q.y.c, .slice q.z.A q.z.n q.z.c] 38)
  replace hX := hX.alloc (.cells #[.slice q.x.A q.x.n q.x.c, .slice q.y.A q.y.n q.y.c, .slice q.z.A q.z.n q.z.c] 38)
  obtain ⟨qhP0, qhP1, qhP2⟩ := hP.c3
  obtain ⟨qhQ0, qhQ1, qhQ2⟩ := hQ.c3
  go_wp2_with fail
  refine (spec.EmptySeat_any p l x _ op.rd).mono ?_
  rintro e w3 ⟨q2, rfl, oq2, hx⟩
  clear qhP0 qhP1 qhP2 qhQ0 qhQ1 qhQ2
  replace op := op.ext hx
  replace oq := oq.ext hx
  replace hP := hP.ext hx
  replace hQ := hQ.ext hx
  replace hX := hX.trans hx
  clear hx
  have hQ2 := Blk.new w3 38 (#[.slice q2.x.A q2.x.n q2.x.c, .slice q2.y.A q2.y.n q2.y.c, .slice q2.z.A q2.z.n q2.z.c])
  replace op := op.alloc (.cells #[.slice q2.x.A q2.x.n q2.x.c, .slice q2.y.A q2.y.n q2.y.c, .slice q2.z.A q2.z.n q2.z.c] 38)
  replace oq := oq.alloc (.cells #[.slice q2.x.A q2.x.n q2.x.c, .slice q2.y.A q2.y.n q2.y.c, .slice q2.z.A q2.z.n q2.z.c] 38)
  replace oq2 := oq2.alloc (.cells #[.slice q2.x.A q2.x.n q2.x.c, .slice q2.y.A q2.y.n q2.y.c, .slice q2.z.A q2.z.n q2.z.c] 38)
  replace hP := hP.alloc (.cells #[.slice q2.x.A q2.x.n q2.x.c, .slice q2.y.A q2.y.n q2.y.c, .slice q2.z.A q2.z.n q2.z.c] 38)
  replace hQ := hQ.alloc (.cells #[.slice q2.x.A q2.x.n q2.x.c, .slice q2.y.A q2.y.n q2.y.c, .slice q2.z.A q2.z.n q2.z.c] 38)
  replace hX := hX.alloc (.cells #[.slice q2.x.A q2.x.n q2.x.c, .slice q2.y.A q2.y.n q2.y.c, .slice q2.z.A q2.z.n q2.z.c] 38)
  obtain ⟨qhP0, qhP1, qhP2⟩ := hP.c3
  obtain ⟨qhQ0, qhQ1, qhQ2⟩ := hQ.c3
  obtain ⟨qhQ20, qhQ21, qhQ22⟩ := hQ2.c3
  go_wp2_with fail
  refine (spec.DrawMakePanel_any s _ (hc.ext hX)).mono ?_
  rintro e w4 ⟨t, xs, n, rfl, ot, hxl, hx⟩
  clear qhP0 qhP1 qhP2 qhQ0 qhQ1 qhQ2 qhQ20 qhQ21 qhQ22
  replace op := op.ext hx
  replace oq := oq.ext hx
  replace oq2 := oq2.ext hx
  replace hP := hP.ext hx
  replace hQ := hQ.ext hx
  replace hQ2 := hQ2.ext hx
  replace hX := hX.trans hx
  clear hx
  replace hxl := hide hxl
  have htn := hide (show t.n ≤ 70 by have := ot.rd.1; have := hxl.out; omega)
  obtain ⟨qhP0, qhP1, qhP2⟩ := hP.c3
  obtain ⟨qhQ0, qhQ1, qhQ2⟩ := hQ.c3
  obtain ⟨qhQ20, qhQ21, qhQ22⟩ := hQ2.c3
  go_wp2_with fail
  refine (impl.MakePanel_any t xs n _ ot.rd (by have := htn.out; omega) ot.cap).mono ?_
  rintro e w5 ⟨m, rfl, om, hx⟩
  clear qhP0 qhP1 qhP2 qhQ0 qhQ1 qhQ2 qhQ20 qhQ21 qhQ22
  replace op := op.ext hx
  replace oq := oq.ext hx
  replace oq2 := oq2.ext hx
  replace ot := ot.ext hx
  replace hP := hP.ext hx
  replace hQ := hQ.ext hx
  replace hQ2 := hQ2.ext hx
  replace hX := hX.trans hx
  clear hx
  have hM := Blk.new w5 38 (#[.slice m.x.A m.x.n m.x.c, .slice m.y.A m.y.n m.y.c, .slice m.z.A m.z.n m.z.c])
  replace op := op.alloc (.cells #[.slice m.x.A m.x.n m.x.c, .slice m.y.A m.y.n m.y.c, .slice m.z.A m.z.n m.z.c] 38)
  replace oq := oq.alloc (.cells #[.slice m.x.A m.x.n m.x.c, .slice m.y.A m.y.n m.y.c, .slice m.z.A m.z.n m.z.c] 38)
  replace oq2 := oq2.alloc (.cells #[.slice m.x.A m.x.n m.x.c, .slice m.y.A m.y.n m.y.c, .slice m.z.A m.z.n m.z.c] 38)
  replace ot := ot.alloc (.cells #[.slice m.x.A m.x.n m.x.c, .slice m.y.A m.y.n m.y.c, .slice m.z.A m.z.n m.z.c] 38)
  replace om := om.alloc (.cells #[.slice m.x.A m.x.n m.x.c, .slice m.y.A m.y.n m.y.c, .slice m.z.A m.z.n m.z.c] 38)
  replace hP := hP.alloc (.cells #[.slice m.x.A m.x.n m.x.c, .slice m.y.A m.y.n m.y.c, .slice m.z.A m.z.n m.z.c] 38)
  replace hQ := hQ.alloc (.cells #[.slice m.x.A m.x.n m.x.c, .slice m.y.A m.y.n m.y.c, .slice m.z.A m.z.n m.z.c] 38)
  replace hQ2 := hQ2.alloc (.cells #[.slice m.x.A m.x.n m.x.c, .slice m.y.A m.y.n m.y.c, .slice m.z.A m.z.n m.z.c] 38)
  replace hX := hX.alloc (.cells #[.slice m.x.A m.x.n m.x.c, .slice m.y.A m.y.n m.y.c, .slice m.z.A m.z.n m.z.c] 38)
  obtain ⟨qhP0, qhP1, qhP2⟩ := hP.c3
  obtain ⟨qhQ0, qhQ1, qhQ2⟩ := hQ.c3
  obtain ⟨qhQ20, qhQ21, qhQ22⟩ := hQ2.c3
  obtain ⟨qhM0, qhM1, qhM2⟩ := hM.c3
  go_wp2_with fail
  refine (spec.MakePanel_any t xs n _ ot.rd (by have := htn.out; omega) ot.cap).mono ?_
  rintro e w6 ⟨m2, rfl, om2, hx⟩
  clear qhP0 qhP1 qhP2 qhQ0 qhQ1 qhQ2 qhQ20 qhQ21 qhQ22 qhM0 qhM1 qhM2
  replace op := op.ext hx
  replace oq := oq.ext hx
  replace oq2 := oq2.ext hx
  replace ot := ot.ext hx
  replace om := om.ext hx
  replace hP := hP.ext hx
  replace hQ := hQ.ext hx
  replace hQ2 := hQ2.ext hx
  replace hM := hM.ext hx
  replace hX := hX.trans hx
  clear hx
  have hM2 := Blk.new w6 38 (#[.slice m2.x.A m2.x.n m2.x.c, .slice m2.y.A m2.y.n m2.y.c, .slice m2.z.A m2.z.n m2.z.c])
  replace op := op.alloc (.cells #[.slice m2.x.A m2.x.n m2.x.c, .slice m2.y.A m2.y.n m2.y.c, .slice m2.z.A m2.z.n m2.z.c] 38)
  replace oq := oq.alloc (.cells #[.slice m2.x.A m2.x.n m2.x.c, .slice m2.y.A m2.y.n m2.y.c, .slice m2.z.A m2.z.n m2.z.c] 38)
  replace oq2 := oq2.alloc (.cells #[.slice m2.x.A m2.x.n m2.x.c, .slice m2.y.A m2.y.n m2.y.c, .slice m2.z.A m2.z.n m2.z.c] 38)
  replace ot := ot.alloc (.cells #[.slice m2.x.A m2.x.n m2.x.c, .slice m2.y.A m2.y.n m2.y.c, .slice m2.z.A m2.z.n m2.z.c] 38)
  replace om := om.alloc (.cells #[.slice m2.x.A m2.x.n m2.x.c, .slice m2.y.A m2.y.n m2.y.c, .slice m2.z.A m2.z.n m2.z.c] 38)
  replace om2 := om2.alloc (.cells #[.slice m2.x.A m2.x.n m2.x.c, .slice m2.y.A m2.y.n m2.y.c, .slice m2.z.A m2.z.n m2.z.c] 38)
  replace hP := hP.alloc (.cells #[.slice m2.x.A m2.x.n m2.x.c, .slice m2.y.A m2.y.n m2.y.c, .slice m2.z.A m2.z.n m2.z.c] 38)
  replace hQ := hQ.alloc (.cells #[.slice m2.x.A m2.x.n m2.x.c, .slice m2.y.A m2.y.n m2.y.c, .slice m2.z.A m2.z.n m2.z.c] 38)
  replace hQ2 := hQ2.alloc (.cells #[.slice m2.x.A m2.x.n m2.x.c, .slice m2.y.A m2.y.n m2.y.c, .slice m2.z.A m2.z.n m2.z.c] 38)
  replace hM := hM.alloc (.cells #[.slice m2.x.A m2.x.n m2.x.c, .slice m2.y.A m2.y.n m2.y.c, .slice m2.z.A m2.z.n m2.z.c] 38)
  replace hX := hX.alloc (.cells #[.slice m2.x.A m2.x.n m2.x.c, .slice m2.y.A m2.y.n m2.y.c, .slice m2.z.A m2.z.n m2.z.c] 38)
  obtain ⟨qhP0, qhP1, qhP2⟩ := hP.c3
  obtain ⟨qhQ0, qhQ1, qhQ2⟩ := hQ.c3
  obtain ⟨qhQ20, qhQ21, qhQ22⟩ := hQ2.c3
  obtain ⟨qhM0, qhM1, qhM2⟩ := hM.c3
  obtain ⟨qhM20, qhM21, qhM22⟩ := hM2.c3
  go_wp2_with fail
  refine (spec.DrawDropWaiting_any s _ (hc.ext hX)).mono ?_
  rintro e w7 ⟨v, lv, nv, rfl, ov, hx⟩
  clear qhP0 qhP1 qhP2 qhQ0 qhQ1 qhQ2 qhQ20 qhQ21 qhQ22 qhM0 qhM1 qhM2 qhM20 qhM21 qhM22
  replace op := op.ext hx
  replace oq := oq.ext hx
  replace oq2 := oq2.ext hx
  replace ot := ot.ext hx
  replace om := om.ext hx
  replace om2 := om2.ext hx
  replace hP := hP.ext hx
  replace hQ := hQ.ext hx
  replace hQ2 := hQ2.ext hx
  replace hM := hM.ext hx
  replace hM2 := hM2.ext hx
  replace hX := hX.trans hx
  clear hx
  have hV := Blk.new w7 38 (#[.slice v.x.A v.x.n v.x.c, .slice v.y.A v.y.n v.y.c, .slice v.z.A v.z.n v.z.c])
  replace op := op.alloc (.cells #[.slice v.x.A v.x.n v.x.c, .slice v.y.A v.y.n v.y.c, .slice v.z.A v.z.n v.z.c] 38)
  replace oq := oq.alloc (.cells #[.slice v.x.A v.x.n v.x.c, .slice v.y.A v.y.n v.y.c, .slice v.z.A v.z.n v.z.c] 38)
  replace oq2 := oq2.alloc (.cells #[.slice v.x.A v.x.n v.x.c, .slice v.y.A v.y.n v.y.c, .slice v.z.A v.z.n v.z.c] 38)
  replace ot := ot.alloc (.cells #[.slice v.x.A v.x.n v.x.c, .slice v.y.A v.y.n v.y.c, .slice v.z.A v.z.n v.z.c] 38)
  replace om := om.alloc (.cells #[.slice v.x.A v.x.n v.x.c, .slice v.y.A v.y.n v.y.c, .slice v.z.A v.z.n v.z.c] 38)
  replace om2 := om2.alloc (.cells #[.slice v.x.A v.x.n v.x.c, .slice v.y.A v.y.n v.y.c, .slice v.z.A v.z.n v.z.c] 38)
  replace ov := ov.alloc (.cells #[.slice v.x.A v.x.n v.x.c, .slice v.y.A v.y.n v.y.c, .slice v.z.A v.z.n v.z.c] 38)
  replace hP := hP.alloc (.cells #[.slice v.x.A v.x.n v.x.c, .slice v.y.A v.y.n v.y.c, .slice v.z.A v.z.n v.z.c] 38)
  replace hQ := hQ.alloc (.cells #[.slice v.x.A v.x.n v.x.c, .slice v.y.A v.y.n v.y.c, .slice v.z.A v.z.n v.z.c] 38)
  replace hQ2 := hQ2.alloc (.cells #[.slice v.x.A v.x.n v.x.c, .slice v.y.A v.y.n v.y.c, .slice v.z.A v.z.n v.z.c] 38)
  replace hM := hM.alloc (.cells #[.slice v.x.A v.x.n v.x.c, .slice v.y.A v.y.n v.y.c, .slice v.z.A v.z.n v.z.c] 38)
  replace hM2 := hM2.alloc (.cells #[.slice v.x.A v.x.n v.x.c, .slice v.y.A v.y.n v.y.c, .slice v.z.A v.z.n v.z.c] 38)
  replace hX := hX.alloc (.cells #[.slice v.x.A v.x.n v.x.c, .slice v.y.A v.y.n v.y.c, .slice v.z.A v.z.n v.z.c] 38)
  obtain ⟨qhP0, qhP1, qhP2⟩ := hP.c3
  obtain ⟨qhQ0, qhQ1, qhQ2⟩ := hQ.c3
  obtain ⟨qhQ20, qhQ21, qhQ22⟩ := hQ2.c3
  obtain ⟨qhM0, qhM1, qhM2⟩ := hM.c3
  obtain ⟨qhM20, qhM21, qhM22⟩ := hM2.c3
  obtain ⟨qhV0, qhV1, qhV2⟩ := hV.c3
  go_wp2_with fail
  refine (impl.DropWaiting_any v lv nv _ ov.rd).mono ?_
  rintro e w8 ⟨d, rfl, od, hx⟩
  clear qhP0 qhP1 qhP2 qhQ0 qhQ1 qhQ2 qhQ20 qhQ21 qhQ22 qhM0 qhM1 qhM2 qhM20 qhM21 qhM22 qhV0 qhV1 qhV2
  replace op := op.ext hx
  replace oq := oq.ext hx
  replace oq2 := oq2.ext hx
  replace ot := ot.ext hx
  replace om := om.ext hx
  replace om2 := om2.ext hx
  replace ov := ov.ext hx
  replace hP := hP.ext hx
  replace hQ := hQ.ext hx
  replace hQ2 := hQ2.ext hx
  replace hM := hM.ext hx
  replace hM2 := hM2.ext hx
  replace hV := hV.ext hx
  replace hX := hX.trans hx
  clear hx
  have hD := Blk.new w8 38 (#[.slice d.x.A d.x.n d.x.c, .slice d.y.A d.y.n d.y.c, .slice d.z.A d.z.n d.z.c])
  replace op := op.alloc (.cells #[.slice d.x.A d.x.n d.x.c, .slice d.y.A d.y.n d.y.c, .slice d.z.A d.z.n d.z.c] 38)
  replace oq := oq.alloc (.cells #[.slice d.x.A d.x.n d.x.c, .slice d.y.A d.y.n d.y.c, .slice d.z.A d.z.n d.z.c] 38)
  replace oq2 := oq2.alloc (.cells #[.slice d.x.A d.x.n d.x.c, .slice d.y.A d.y.n d.y.c, .slice d.z.A d.z.n d.z.c] 38)
  replace ot := ot.alloc (.cells #[.slice d.x.A d.x.n d.x.c, .slice d.y.A d.y.n d.y.c, .slice d.z.A d.z.n d.z.c] 38)
  replace om := om.alloc (.cells #[.slice d.x.A d.x.n d.x.c, .slice d.y.A d.y.n d.y.c, .slice d.z.A d.z.n d.z.c] 38)
  replace om2 := om2.alloc (.cells #[.slice d.x.A d.x.n d.x.c, .slice d.y.A d.y.n d.y.c, .slice d.z.A d.z.n d.z.c] 38)
  replace ov := ov.alloc (.cells #[.slice d.x.A d.x.n d.x.c, .slice d.y.A d.y.n d.y.c, .slice d.z.A d.z.n d.z.c] 38)
  replace od := od.alloc (.cells #[.slice d.x.A d.x.n d.x.c, .slice d.y.A d.y.n d.y.c, .slice d.z.A d.z.n d.z.c] 38)
  replace hP := hP.alloc (.cells #[.slice d.x.A d.x.n d.x.c, .slice d.y.A d.y.n d.y.c, .slice d.z.A d.z.n d.z.c] 38)
  replace hQ := hQ.alloc (.cells #[.slice d.x.A d.x.n d.x.c, .slice d.y.A d.y.n d.y.c, .slice d.z.A d.z.n d.z.c] 38)
  replace hQ2 := hQ2.alloc (.cells #[.slice d.x.A d.x.n d.x.c, .slice d.y.A d.y.n d.y.c, .slice d.z.A d.z.n d.z.c] 38)
  replace hM := hM.alloc (.cells #[.slice d.x.A d.x.n d.x.c, .slice d.y.A d.y.n d.y.c, .slice d.z.A d.z.n d.z.c] 38)
  replace hM2 := hM2.alloc (.cells #[.slice d.x.A d.x.n d.x.c, .slice d.y.A d.y.n d.y.c, .slice d.z.A d.z.n d.z.c] 38)
  replace hV := hV.alloc (.cells #[.slice d.x.A d.x.n d.x.c, .slice d.y.A d.y.n d.y.c, .slice d.z.A d.z.n d.z.c] 38)
  replace hX := hX.alloc (.cells #[.slice d.x.A d.x.n d.x.c, .slice d.y.A d.y.n d.y.c, .slice d.z.A d.z.n d.z.c] 38)
  obtain ⟨qhP0, qhP1, qhP2⟩ := hP.c3
  obtain ⟨qhQ0, qhQ1, qhQ2⟩ := hQ.c3
  obtain ⟨qhQ20, qhQ21, qhQ22⟩ := hQ2.c3
  obtain ⟨qhM0, qhM1, qhM2⟩ := hM.c3
  obtain ⟨qhM20, qhM21, qhM22⟩ := hM2.c3
  obtain ⟨qhV0, qhV1, qhV2⟩ := hV.c3
  obtain ⟨qhD0, qhD1, qhD2⟩ := hD.c3
  go_wp2_with fail
  refine (spec.DropWaiting_any v lv nv _ ov.rd).mono ?_
  rintro e w9 ⟨d2, rfl, od2, hx⟩
  clear qhP0 qhP1 qhP2 qhQ0 qhQ1 qhQ2 qhQ20 qhQ21 qhQ22 qhM0 qhM1 qhM2 qhM20 qhM21 qhM22 qhV0 qhV1 qhV2 qhD0 qhD1 qhD2
  replace op := op.ext hx
  replace oq := oq.ext hx
  replace oq2 := oq2.ext hx
  replace ot := ot.ext hx
  replace om := om.ext hx
  replace om2 := om2.ext hx
  replace ov := ov.ext hx
  replace od := od.ext hx
  replace hP := hP.ext hx
  replace hQ := hQ.ext hx
  replace hQ2 := hQ2.ext hx
  replace hM := hM.ext hx
  replace hM2 := hM2.ext hx
  replace hV := hV.ext hx
  replace hD := hD.ext hx
  replace hX := hX.trans hx
  clear hx
  have hD2 := Blk.new w9 38 (#[.slice d2.x.A d2.x.n d2.x.c, .slice d2.y.A d2.y.n d2.y.c, .slice d2.z.A d2.z.n d2.z.c])
  replace op := op.alloc (.cells #[.slice d2.x.A d2.x.n d2.x.c, .slice d2.y.A d2.y.n d2.y.c, .slice d2.z.A d2.z.n d2.z.c] 38)
  replace oq := oq.alloc (.cells #[.slice d2.x.A d2.x.n d2.x.c, .slice d2.y.A d2.y.n d2.y.c, .slice d2.z.A d2.z.n d2.z.c] 38)
  replace oq2 := oq2.alloc (.cells #[.slice d2.x.A d2.x.n d2.x.c, .slice d2.y.A d2.y.n d2.y.c, .slice d2.z.A d2.z.n d2.z.c] 38)
  replace ot := ot.alloc (.cells #[.slice d2.x.A d2.x.n d2.x.c, .slice d2.y.A d2.y.n d2.y.c, .slice d2.z.A d2.z.n d2.z.c] 38)
  replace om := om.alloc (.cells #[.slice d2.x.A d2.x.n d2.x.c, .slice d2.y.A d2.y.n d2.y.c, .slice d2.z.A d2.z.n d2.z.c] 38)
  replace om2 := om2.alloc (.cells #[.slice d2.x.A d2.x.n d2.x.c, .slice d2.y.A d2.y.n d2.y.c, .slice d2.z.A d2.z.n d2.z.c] 38)
  replace ov := ov.alloc (.cells #[.slice d2.x.A d2.x.n d2.x.c, .slice d2.y.A d2.y.n d2.y.c, .slice d2.z.A d2.z.n d2.z.c] 38)
  replace od := od.alloc (.cells #[.slice d2.x.A d2.x.n d2.x.c, .slice d2.y.A d2.y.n d2.y.c, .slice d2.z.A d2.z.n d2.z.c] 38)
  replace od2 := od2.alloc (.cells #[.slice d2.x.A d2.x.n d2.x.c, .slice d2.y.A d2.y.n d2.y.c, .slice d2.z.A d2.z.n d2.z.c] 38)
  replace hP := hP.alloc (.cells #[.slice d2.x.A d2.x.n d2.x.c, .slice d2.y.A d2.y.n d2.y.c, .slice d2.z.A d2.z.n d2.z.c] 38)
  replace hQ := hQ.alloc (.cells #[.slice d2.x.A d2.x.n d2.x.c, .slice d2.y.A d2.y.n d2.y.c, .slice d2.z.A d2.z.n d2.z.c] 38)
  replace hQ2 := hQ2.alloc (.cells #[.slice d2.x.A d2.x.n d2.x.c, .slice d2.y.A d2.y.n d2.y.c, .slice d2.z.A d2.z.n d2.z.c] 38)
  replace hM := hM.alloc (.cells #[.slice d2.x.A d2.x.n d2.x.c, .slice d2.y.A d2.y.n d2.y.c, .slice d2.z.A d2.z.n d2.z.c] 38)
  replace hM2 := hM2.alloc (.cells #[.slice d2.x.A d2.x.n d2.x.c, .slice d2.y.A d2.y.n d2.y.c, .slice d2.z.A d2.z.n d2.z.c] 38)
  replace hV := hV.alloc (.cells #[.slice d2.x.A d2.x.n d2.x.c, .slice d2.y.A d2.y.n d2.y.c, .slice d2.z.A d2.z.n d2.z.c] 38)
  replace hD := hD.alloc (.cells #[.slice d2.x.A d2.x.n d2.x.c, .slice d2.y.A d2.y.n d2.y.c, .slice d2.z.A d2.z.n d2.z.c] 38)
  replace hX := hX.alloc (.cells #[.slice d2.x.A d2.x.n d2.x.c, .slice d2.y.A d2.y.n d2.y.c, .slice d2.z.A d2.z.n d2.z.c] 38)
  obtain ⟨qhP0, qhP1, qhP2⟩ := hP.c3
  obtain ⟨qhQ0, qhQ1, qhQ2⟩ := hQ.c3
  obtain ⟨qhQ20, qhQ21, qhQ22⟩ := hQ2.c3
  obtain ⟨qhM0, qhM1, qhM2⟩ := hM.c3
  obtain ⟨qhM20, qhM21, qhM22⟩ := hM2.c3
  obtain ⟨qhV0, qhV1, qhV2⟩ := hV.c3
  obtain ⟨qhD0, qhD1, qhD2⟩ := hD.c3
  obtain ⟨qhD20, qhD21, qhD22⟩ := hD2.c3
  go_wp2_with fail
  refine (spec.DrawIsFull_any s _ (hc.ext hX)).mono ?_
  rintro e w10 ⟨y, ly, rfl, oy, _, hx⟩
  clear qhP0 qhP1 qhP2 qhQ0 qhQ1 qhQ2 qhQ20 qhQ21 qhQ22 qhM0 qhM1 qhM2 qhM20 qhM21 qhM22 qhV0 qhV1 qhV2 qhD0 qhD1 qhD2 qhD20 qhD21 qhD22
  replace op := op.ext hx
  replace oq := oq.ext hx
  replace oq2 := oq2.ext hx
  replace ot := ot.ext hx
  replace om := om.ext hx
  replace om2 := om2.ext hx
  replace ov := ov.ext hx
  replace od := od.ext hx
  replace od2 := od2.ext hx
  replace hP := hP.ext hx
  replace hQ := hQ.ext hx
  replace hQ2 := hQ2.ext hx
  replace hM := hM.ext hx
  replace hM2 := hM2.ext hx
  replace hV := hV.ext hx
  replace hD := hD.ext hx
  replace hD2 := hD2.ext hx
  replace hX := hX.trans hx
  clear hx
  have hY := Blk.new w10 38 (#[.slice y.x.A y.x.n y.x.c, .slice y.y.A y.y.n y.y.c, .slice y.z.A y.z.n y.z.c])
  replace op := op.alloc (.cells #[.slice y.x.A y.x.n y.x.c, .slice y.y.A y.y.n y.y.c, .slice y.z.A y.z.n y.z.c] 38)
  replace oq := oq.alloc (.cells #[.slice y.x.A y.x.n y.x.c, .slice y.y.A y.y.n y.y.c, .slice y.z.A y.z.n y.z.c] 38)
  replace oq2 := oq2.alloc (.cells #[.slice y.x.A y.x.n y.x.c, .slice y.y.A y.y.n y.y.c, .slice y.z.A y.z.n y.z.c] 38)
  replace ot := ot.alloc (.cells #[.slice y.x.A y.x.n y.x.c, .slice y.y.A y.y.n y.y.c, .slice y.z.A y.z.n y.z.c] 38)
  replace om := om.alloc (.cells #[.slice y.x.A y.x.n y.x.c, .slice y.y.A y.y.n y.y.c, .slice y.z.A y.z.n y.z.c] 38)
  replace om2 := om2.alloc (.cells #[.slice y.x.A y.x.n y.x.c, .slice y.y.A y.y.n y.y.c, .slice y.z.A y.z.n y.z.c] 38)
  replace ov := ov.alloc (.cells #[.slice y.x.A y.x.n y.x.c, .slice y.y.A y.y.n y.y.c, .slice y.z.A y.z.n y.z.c] 38)
  replace od := od.alloc (.cells #[.slice y.x.A y.x.n y.x.c, .slice y.y.A y.y.n y.y.c, .slice y.z.A y.z.n y.z.c] 38)
  replace od2 := od2.alloc (.cells #[.slice y.x.A y.x.n y.x.c, .slice y.y.A y.y.n y.y.c, .slice y.z.A y.z.n y.z.c] 38)
  replace oy := oy.alloc (.cells #[.slice y.x.A y.x.n y.x.c, .slice y.y.A y.y.n y.y.c, .slice y.z.A y.z.n y.z.c] 38)
  replace hP := hP.alloc (.cells #[.slice y.x.A y.x.n y.x.c, .slice y.y.A y.y.n y.y.c, .slice y.z.A y.z.n y.z.c] 38)
  replace hQ := hQ.alloc (.cells #[.slice y.x.A y.x.n y.x.c, .slice y.y.A y.y.n y.y.c, .slice y.z.A y.z.n y.z.c] 38)
  replace hQ2 := hQ2.alloc (.cells #[.slice y.x.A y.x.n y.x.c, .slice y.y.A y.y.n y.y.c, .slice y.z.A y.z.n y.z.c] 38)
  replace hM := hM.alloc (.cells #[.slice y.x.A y.x.n y.x.c, .slice y.y.A y.y.n y.y.c, .slice y.z.A y.z.n y.z.c] 38)
  replace hM2 := hM2.alloc (.cells #[.slice y.x.A y.x.n y.x.c, .slice y.y.A y.y.n y.y.c, .slice y.z.A y.z.n y.z.c] 38)
  replace hV := hV.alloc (.cells #[.slice y.x.A y.x.n y.x.c, .slice y.y.A y.y.n y.y.c, .slice y.z.A y.z.n y.z.c] 38)
  replace hD := hD.alloc (.cells #[.slice y.x.A y.x.n y.x.c, .slice y.y.A y.y.n y.y.c, .slice y.z.A y.z.n y.z.c] 38)
  replace hD2 := hD2.alloc (.cells #[.slice y.x.A y.x.n y.x.c, .slice y.y.A y.y.n y.y.c, .slice y.z.A y.z.n y.z.c] 38)
  replace hX := hX.alloc (.cells #[.slice y.x.A y.x.n y.x.c, .slice y.y.A y.y.n y.y.c, .slice y.z.A y.z.n y.z.c] 38)
  obtain ⟨qhP0, qhP1, qhP2⟩ := hP.c3
  obtain ⟨qhQ0, qhQ1, qhQ2⟩ := hQ.c3
  obtain ⟨qhQ20, qhQ21, qhQ22⟩ := hQ2.c3
  obtain ⟨qhM0, qhM1, qhM2⟩ := hM.c3
  obtain ⟨qhM20, qhM21, qhM22⟩ := hM2.c3
  obtain ⟨qhV0, qhV1, qhV2⟩ := hV.c3
  obtain ⟨qhD0, qhD1, qhD2⟩ := hD.c3
  obtain ⟨qhD20, qhD21, qhD22⟩ := hD2.c3
  obtain ⟨qhY0, qhY1, qhY2⟩ := hY.c3
  go_wp2_with fail
  refine (impl.IsFull_any y ly _ oy.rd).mono ?_
  rintro e w11 ⟨rfl, hx⟩
  clear qhP0 qhP1 qhP2 qhQ0 qhQ1 qhQ2 qhQ20 qhQ21 qhQ22 qhM0 qhM1 qhM2 qhM20 qhM21 qhM22 qhV0 qhV1 qhV2 qhD0 qhD1 qhD2 qhD20 qhD21 qhD22 qhY0 qhY1 qhY2
  replace op := op.ext hx
  replace oq := oq.ext hx
  replace oq2 := oq2.ext hx
  replace ot := ot.ext hx
  replace om := om.ext hx
  replace om2 := om2.ext hx
  replace ov := ov.ext hx
  replace od := od.ext hx
  replace od2 := od2.ext hx
  replace oy := oy.ext hx
  replace hP := hP.ext hx
  replace hQ := hQ.ext hx
  replace hQ2 := hQ2.ext hx
  replace hM := hM.ext hx
  replace hM2 := hM2.ext hx
  replace hV := hV.ext hx
  replace hD := hD.ext hx
  replace hD2 := hD2.ext hx
  replace hY := hY.ext hx
  replace hX := hX.trans hx
  clear hx
  obtain ⟨qhP0, qhP1, qhP2⟩ := hP.c3
  obtain ⟨qhQ0, qhQ1, qhQ2⟩ := hQ.c3
  obtain ⟨qhQ20, qhQ21, qhQ22⟩ := hQ2.c3
  obtain ⟨qhM0, qhM1, qhM2⟩ := hM.c3
  obtain ⟨qhM20, qhM21, qhM22⟩ := hM2.c3
  obtain ⟨qhV0, qhV1, qhV2⟩ := hV.c3
  obtain ⟨qhD0, qhD1, qhD2⟩ := hD.c3
  obtain ⟨qhD20, qhD21, qhD22⟩ := hD2.c3
  obtain ⟨qhY0, qhY1, qhY2⟩ := hY.c3
  go_wp2_with fail
  refine (spec.IsFull_any y ly _ oy.rd).mono ?_
  rintro e w12 ⟨rfl, hx⟩
  clear qhP0 qhP1 qhP2 qhQ0 qhQ1 qhQ2 qhQ20 qhQ21 qhQ22 qhM0 qhM1 qhM2 qhM20 qhM21 qhM22 qhV0 qhV1 qhV2 qhD0 qhD1 qhD2 qhD20 qhD21 qhD22 qhY0 qhY1 qhY2
  replace op := op.ext hx
  replace oq := oq.ext hx
  replace oq2 := oq2.ext hx
  replace ot := ot.ext hx
  replace om := om.ext hx
  replace om2 := om2.ext hx
  replace ov := ov.ext hx
  replace od := od.ext hx
  replace od2 := od2.ext hx
  replace oy := oy.ext hx
  replace hP := hP.ext hx
  replace hQ := hQ.ext hx
  replace hQ2 := hQ2.ext hx
  replace hM := hM.ext hx
  replace hM2 := hM2.ext hx
  replace hV := hV.ext hx
  replace hD := hD.ext hx
  replace hD2 := hD2.ext hx
  replace hY := hY.ext hx
  replace hX := hX.trans hx
  clear hx
  obtain ⟨qhP0, qhP1, qhP2⟩ := hP.c3
  obtain ⟨qhQ0, qhQ1, qhQ2⟩ := hQ.c3
  obtain ⟨qhQ20, qhQ21, qhQ22⟩ := hQ2.c3
  obtain ⟨qhM0, qhM1, qhM2⟩ := hM.c3
  obtain ⟨qhM20, qhM21, qhM22⟩ := hM2.c3
  obtain ⟨qhV0, qhV1, qhV2⟩ := hV.c3
  obtain ⟨qhD0, qhD1, qhD2⟩ := hD.c3
  obtain ⟨qhD20, qhD21, qhD22⟩ := hD2.c3
  obtain ⟨qhY0, qhY1, qhY2⟩ := hY.c3
  go_wp2_with fail
  refine (impl.SeatedOf_any y ly _ oy.rd).mono ?_
  rintro e w13 ⟨s1, rfl, os1, hx⟩
  clear qhP0 qhP1 qhP2 qhQ0 qhQ1 qhQ2 qhQ20 qhQ21 qhQ22 qhM0 qhM1 qhM2 qhM20 qhM21 qhM22 qhV0 qhV1 qhV2 qhD0 qhD1 qhD2 qhD20 qhD21 qhD22 qhY0 qhY1 qhY2
  replace op := op.ext hx
  replace oq := oq.ext hx
  replace oq2 := oq2.ext hx
  replace ot := ot.ext hx
  replace om := om.ext hx
  replace om2 := om2.ext hx
  replace ov := ov.ext hx
  replace od := od.ext hx
  replace od2 := od2.ext hx
  replace oy := oy.ext hx
  replace hP := hP.ext hx
  replace hQ := hQ.ext hx
  replace hQ2 := hQ2.ext hx
  replace hM := hM.ext hx
  replace hM2 := hM2.ext hx
  replace hV := hV.ext hx
  replace hD := hD.ext hx
  replace hD2 := hD2.ext hx
  replace hY := hY.ext hx
  replace hX := hX.trans hx
  clear hx
  obtain ⟨qhP0, qhP1, qhP2⟩ := hP.c3
  obtain ⟨qhQ0, qhQ1, qhQ2⟩ := hQ.c3
  obtain ⟨qhQ20, qhQ21, qhQ22⟩ := hQ2.c3
  obtain ⟨qhM0, qhM1, qhM2⟩ := hM.c3
  obtain ⟨qhM20, qhM21, qhM22⟩ := hM2.c3
  obtain ⟨qhV0, qhV1, qhV2⟩ := hV.c3
  obtain ⟨qhD0, qhD1, qhD2⟩ := hD.c3
  obtain ⟨qhD20, qhD21, qhD22⟩ := hD2.c3
  obtain ⟨qhY0, qhY1, qhY2⟩ := hY.c3
  go_wp2_with fail
  refine (spec.SeatedOf_any y ly _ oy.rd).mono ?_
  rintro e w14 ⟨s2, rfl, os2, hx⟩
  clear qhP0 qhP1 qhP2 qhQ0 qhQ1 qhQ2 qhQ20 qhQ21 qhQ22 qhM0 qhM1 qhM2 qhM20 qhM21 qhM22 qhV0 qhV1 qhV2 qhD0 qhD1 qhD2 qhD20 qhD21 qhD22 qhY0 qhY1 qhY2
  replace op := op.ext hx
  replace oq := oq.ext hx
  replace oq2 := oq2.ext hx
  replace ot := ot.ext hx
  replace om := om.ext hx
  replace om2 := om2.ext hx
  replace ov := ov.ext hx
  replace od := od.ext hx
  replace od2 := od2.ext hx
  replace oy := oy.ext hx
  replace os1 := os1.ext hx
  replace hP := hP.ext hx
  replace hQ := hQ.ext hx
  replace hQ2 := hQ2.ext hx
  replace hM := hM.ext hx
  replace hM2 := hM2.ext hx
  replace hV := hV.ext hx
  replace hD := hD.ext hx
  replace hD2 := hD2.ext hx
  replace hY := hY.ext hx
  replace hX := hX.trans hx
  clear hx
  obtain ⟨qhP0, qhP1, qhP2⟩ := hP.c3
  obtain ⟨qhQ0, qhQ1, qhQ2⟩ := hQ.c3
  obtain ⟨qhQ20, qhQ21, qhQ22⟩ := hQ2.c3
  obtain ⟨qhM0, qhM1, qhM2⟩ := hM.c3
  obtain ⟨qhM20, qhM21, qhM22⟩ := hM2.c3
  obtain ⟨qhV0, qhV1, qhV2⟩ := hV.c3
  obtain ⟨qhD0, qhD1, qhD2⟩ := hD.c3
  obtain ⟨qhD20, qhD21, qhD22⟩ := hD2.c3
  obtain ⟨qhY0, qhY1, qhY2⟩ := hY.c3
  go_wp2_with fail
  refine (likePanel_yes q q2 _ _ oq.rd oq2.rd).mono ?_
  rintro e w15 ⟨rfl, hx⟩
  clear qhP0 qhP1 qhP2 qhQ0 qhQ1 qhQ2 qhQ20 qhQ21 qhQ22 qhM0 qhM1 qhM2 qhM20 qhM21 qhM22 qhV0 qhV1 qhV2 qhD0 qhD1 qhD2 qhD20 qhD21 qhD22 qhY0 qhY1 qhY2
  replace op := op.ext hx
  replace oq := oq.ext hx
  replace oq2 := oq2.ext hx
  replace ot := ot.ext hx
  replace om := om.ext hx
  replace om2 := om2.ext hx
  replace ov := ov.ext hx
  replace od := od.ext hx
  replace od2 := od2.ext hx
  replace oy := oy.ext hx
  replace os1 := os1.ext hx
  replace os2 := os2.ext hx
  replace hP := hP.ext hx
  replace hQ := hQ.ext hx
  replace hQ2 := hQ2.ext hx
  replace hM := hM.ext hx
  replace hM2 := hM2.ext hx
  replace hV := hV.ext hx
  replace hD := hD.ext hx
  replace hD2 := hD2.ext hx
  replace hY := hY.ext hx
  replace hX := hX.trans hx
  clear hx
  obtain ⟨qhP0, qhP1, qhP2⟩ := hP.c3
  obtain ⟨qhQ0, qhQ1, qhQ2⟩ := hQ.c3
  obtain ⟨qhQ20, qhQ21, qhQ22⟩ := hQ2.c3
  obtain ⟨qhM0, qhM1, qhM2⟩ := hM.c3
  obtain ⟨qhM20, qhM21, qhM22⟩ := hM2.c3
  obtain ⟨qhV0, qhV1, qhV2⟩ := hV.c3
  obtain ⟨qhD0, qhD1, qhD2⟩ := hD.c3
  obtain ⟨qhD20, qhD21, qhD22⟩ := hD2.c3
  obtain ⟨qhY0, qhY1, qhY2⟩ := hY.c3
  go_wp2_with fail
  refine (likePanel_yes m m2 _ _ om.rd om2.rd).mono ?_
  rintro e w16 ⟨rfl, hx⟩
  clear qhP0 qhP1 qhP2 qhQ0 qhQ1 qhQ2 qhQ20 qhQ21 qhQ22 qhM0 qhM1 qhM2 qhM20 qhM21 qhM22 qhV0 qhV1 qhV2 qhD0 qhD1 qhD2 qhD20 qhD21 qhD22 qhY0 qhY1 qhY2
  replace op := op.ext hx
  replace oq := oq.ext hx
  replace oq2 := oq2.ext hx
  replace ot := ot.ext hx
  replace om := om.ext hx
  replace om2 := om2.ext hx
  replace ov := ov.ext hx
  replace od := od.ext hx
  replace od2 := od2.ext hx
  replace oy := oy.ext hx
  replace os1 := os1.ext hx
  replace os2 := os2.ext hx
  replace hP := hP.ext hx
  replace hQ := hQ.ext hx
  replace hQ2 := hQ2.ext hx
  replace hM := hM.ext hx
  replace hM2 := hM2.ext hx
  replace hV := hV.ext hx
  replace hD := hD.ext hx
  replace hD2 := hD2.ext hx
  replace hY := hY.ext hx
  replace hX := hX.trans hx
  clear hx
  obtain ⟨qhP0, qhP1, qhP2⟩ := hP.c3
  obtain ⟨qhQ0, qhQ1, qhQ2⟩ := hQ.c3
  obtain ⟨qhQ20, qhQ21, qhQ22⟩ := hQ2.c3
  obtain ⟨qhM0, qhM1, qhM2⟩ := hM.c3
  obtain ⟨qhM20, qhM21, qhM22⟩ := hM2.c3
  obtain ⟨qhV0, qhV1, qhV2⟩ := hV.c3
  obtain ⟨qhD0, qhD1, qhD2⟩ := hD.c3
  obtain ⟨qhD20, qhD21, qhD22⟩ := hD2.c3
  obtain ⟨qhY0, qhY1, qhY2⟩ := hY.c3
  go_wp2_with fail
  refine (likePanel_yes d d2 _ _ od.rd od2.rd).mono ?_
  rintro e w17 ⟨rfl, hx⟩
  clear qhP0 qhP1 qhP2 qhQ0 qhQ1 qhQ2 qhQ20 qhQ21 qhQ22 qhM0 qhM1 qhM2 qhM20 qhM21 qhM22 qhV0 qhV1 qhV2 qhD0 qhD1 qhD2 qhD20 qhD21 qhD22 qhY0 qhY1 qhY2
  replace op := op.ext hx
  replace oq := oq.ext hx
  replace oq2 := oq2.ext hx
  replace ot := ot.ext hx
  replace om := om.ext hx
  replace om2 := om2.ext hx
  replace ov := ov.ext hx
  replace od := od.ext hx
  replace od2 := od2.ext hx
  replace oy := oy.ext hx
  replace os1 := os1.ext hx
  replace os2 := os2.ext hx
  replace hP := hP.ext hx
  replace hQ := hQ.ext hx
  replace hQ2 := hQ2.ext hx
  replace hM := hM.ext hx
  replace hM2 := hM2.ext hx
  replace hV := hV.ext hx
  replace hD := hD.ext hx
  replace hD2 := hD2.ext hx
  replace hY := hY.ext hx
  replace hX := hX.trans hx
  clear hx
  obtain ⟨qhP0, qhP1, qhP2⟩ := hP.c3
  obtain ⟨qhQ0, qhQ1, qhQ2⟩ := hQ.c3
  obtain ⟨qhQ20, qhQ21, qhQ22⟩ := hQ2.c3
  obtain ⟨qhM0, qhM1, qhM2⟩ := hM.c3
  obtain ⟨qhM20, qhM21, qhM22⟩ := hM2.c3
  obtain ⟨qhV0, qhV1, qhV2⟩ := hV.c3
  obtain ⟨qhD0, qhD1, qhD2⟩ := hD.c3
  obtain ⟨qhD20, qhD21, qhD22⟩ := hD2.c3
  obtain ⟨qhY0, qhY1, qhY2⟩ := hY.c3
  go_wp2_with fail
  refine (likeInts_yes s1 s2 _ _ os1.rd os2.rd).mono ?_
  rintro e w18 ⟨rfl, hx⟩
  clear qhP0 qhP1 qhP2 qhQ0 qhQ1 qhQ2 qhQ20 qhQ21 qhQ22 qhM0 qhM1 qhM2 qhM20 qhM21 qhM22 qhV0 qhV1 qhV2 qhD0 qhD1 qhD2 qhD20 qhD21 qhD22 qhY0 qhY1 qhY2
  replace op := op.ext hx
  replace oq := oq.ext hx
  replace oq2 := oq2.ext hx
  replace ot := ot.ext hx
  replace om := om.ext hx
  replace om2 := om2.ext hx
  replace ov := ov.ext hx
  replace od := od.ext hx
  replace od2 := od2.ext hx
  replace oy := oy.ext hx
  replace os1 := os1.ext hx
  replace os2 := os2.ext hx
  replace hP := hP.ext hx
  replace hQ := hQ.ext hx
  replace hQ2 := hQ2.ext hx
  replace hM := hM.ext hx
  replace hM2 := hM2.ext hx
  replace hV := hV.ext hx
  replace hD := hD.ext hx
  replace hD2 := hD2.ext hx
  replace hY := hY.ext hx
  replace hX := hX.trans hx
  clear hx
  obtain ⟨qhP0, qhP1, qhP2⟩ := hP.c3
  obtain ⟨qhQ0, qhQ1, qhQ2⟩ := hQ.c3
  obtain ⟨qhQ20, qhQ21, qhQ22⟩ := hQ2.c3
  obtain ⟨qhM0, qhM1, qhM2⟩ := hM.c3
  obtain ⟨qhM20, qhM21, qhM22⟩ := hM2.c3
  obtain ⟨qhV0, qhV1, qhV2⟩ := hV.c3
  obtain ⟨qhD0, qhD1, qhD2⟩ := hD.c3
  obtain ⟨qhD20, qhD21, qhD22⟩ := hD2.c3
  obtain ⟨qhY0, qhY1, qhY2⟩ := hY.c3
  have hIq : okP ly = (okC ly == 0) := by unfold okC; cases okP ly <;> rfl
  have hIJ := fun W h => impl.IsPanel_any y ly W h
  simp only [hIq] at hIJ
  clear hIq
  go_wp2_with fail
  refine (hIJ _ oy.rd).mono ?_
  rintro e w19 ⟨rfl, hx⟩
  clear qhP0 qhP1 qhP2 qhQ0 qhQ1 qhQ2 qhQ20 qhQ21 qhQ22 qhM0 qhM1 qhM2 qhM20 qhM21 qhM22 qhV0 qhV1 qhV2 qhD0 qhD1 qhD2 qhD20 qhD21 qhD22 qhY0 qhY1 qhY2
  replace op := op.ext hx
  replace oq := oq.ext hx
  replace oq2 := oq2.ext hx
  replace ot := ot.ext hx
  replace om := om.ext hx
  replace om2 := om2.ext hx
  replace ov := ov.ext hx
  replace od := od.ext hx
  replace od2 := od2.ext hx
  replace oy := oy.ext hx
  replace os1 := os1.ext hx
  replace os2 := os2.ext hx
  replace hP := hP.ext hx
  replace hQ := hQ.ext hx
  replace hQ2 := hQ2.ext hx
  replace hM := hM.ext hx
  replace hM2 := hM2.ext hx
  replace hV := hV.ext hx
  replace hD := hD.ext hx
  replace hD2 := hD2.ext hx
  replace hY := hY.ext hx
  replace hX := hX.trans hx
  clear hx
  clear hQ2 hM2 hV hD hD2 oq2 om2 ov od od2 os2 hIJ
  obtain ⟨qhY0, qhY1, qhY2⟩ := hY.c3
  go_upto_region 19 with fail
  go_cut [181] (fun s181 wx => s181 = .bool false ∧ wx = w19)
  case first =>
    have hyn := oy.rd.1.1
    clear hP hQ hM op oq ot om hX hxl htn hc
    cases hoy : okP ly
    · have hcy : (okC ly == 0) = false := by unfold okC; rw [hoy]; rfl
      clear hoy hyn os1 oy hY
      go_wp2_with fail
      go_meet
      exact ⟨rfl, rfl⟩
    · have hcy0 : okC ly = 0 := by unfold okC; rw [hoy]; rfl
      have hfy := okC_full hcy0
      have hsy : seatedV ly = nz ly.x := by unfold seatedV; rw [hoy]; rfl
      rw [hsy] at os1
      have hs1n := os1.rd.1
      have hh : (fullV ly != ((s1.n : Int) == (y.x.n : Int))) = false := by
        rw [hfy]
        by_cases hnn : s1.n = y.x.n
        · have e1 : decide ((nz ly.x).length = ly.x.length) = true := decide_eq_true (by omega)
          rw [e1, hnn]; simp
        · have e1 : decide ((nz ly.x).length = ly.x.length) = false := decide_eq_false (by omega)
          have e2 : ((s1.n : Int) == (y.x.n : Int)) = false := by rw [beq_eq_false_iff_ne]; omega
          rw [e1, e2]; rfl
      have hcy : (okC ly == 0) = true := by rw [hcy0]; rfl
      replace hh := hide hh
      clear hoy hcy0 hfy hsy hs1n hyn os1 oy hY
      go_wp2_with fail
      go_meet
      exact ⟨congrArg Value.bool hh.out, rfl⟩
  case rest =>
    obtain ⟨rfl, hwc⟩ := hcut
    have hwc2 := hwc.symm
    subst hwc2
    clear hwc
    clear qhY0 qhY1 qhY2 hY oy os1
    obtain ⟨qhM0, qhM1, qhM2⟩ := hM.c3
    go_upto_if 183 with fail
    go_cut [30, 31] (fun _ _ wx => Ext w19 wx)
    case first =>
      clear hP hQ op oq hX hc
      by_cases hm : (mkR xs n).2 = 0
      · obtain ⟨hm1, hm2⟩ := mk_len hm
        have hsm := impl.SeatedOf_any m (mkR xs n).1 w19 om.rd
        have hcm : okC (mkR xs n).1 = 0 := by unfold okC; rw [hm2]; rfl
        have hvm : seatedV (mkR xs n).1 = nz (mkR xs n).1.x := by unfold seatedV; rw [hm2]; rfl
        rw [hcm, hvm] at hsm
        have hmb : ((mkR xs n).2 == 0) = true := by rw [hm]; rfl
        have hmy := om.rd.2.1.1
        have htt := ot.rd.1
        have hxl2 := hxl.out
        have hnum := hide (show (nz (mkR xs n).1.x).length + m.y.n = t.n by omega)
        clear hm hmy htt hm2 hcm hvm hxl2
        go_wp2_with fail
        refine hsm.mono ?_
        rintro e wa ⟨sa, rfl, osa, hx⟩
        have hsa := hide (show sa.n + m.y.n = t.n by have := osa.rd.1; have := hnum.out; omega)
        have hwa : IntKind.i64.wrap ((sa.n : Int) + (m.y.n : Int)) = (t.n : Int) := by rw [Go.IntWalk.i64_in _ (by have := hsa.out; have := htn.out; omega)]; have := hsa.out; omega
        clear qhM0 qhM1 qhM2 hsm osa hm1 om ot
        replace hM := hM.ext hx
        obtain ⟨qhM0, qhM1, qhM2⟩ := hM.c3
        go_wp2_with fail
        go_meet
        exact hx
      · have hm' : ((mkR xs n).2 == 0) = false := by rw [beq_eq_false_iff_ne]; exact hm
        clear hm
        go_wp2_with fail
        go_meet
        exact Ext.refl _
    case rest =>
      clear qhM0 qhM1 qhM2
      have hxc := hcut
      replace op := op.ext hxc
      replace oq := oq.ext hxc
      replace hP := hP.ext hxc
      replace hQ := hQ.ext hxc
      replace hX := hX.trans hxc
      clear hM om ot hxl htn
      obtain ⟨wg, hwg⟩ : ∃ wg, wg = wc := ⟨_, rfl⟩
      subst hwg
      obtain ⟨qhP0, qhP1, qhP2⟩ := hP.c3
      obtain ⟨qhQ0, qhQ1, qhQ2⟩ := hQ.c3
      by_cases he : empC l x = 0
      case neg =>
        have he' : (empC l x != 0) = true := by rw [bne_iff_ne]; exact he
        clear he
        go_wp2_with fail
        go_ret
        exact ⟨rfl, hX⟩
      obtain ⟨hok, ⟨hx0, hxk⟩, u, hu, hu0⟩ := emp_get he
      obtain ⟨hlen, hok2, hlx, hget⟩ := emp_len he
      have hv := empV_yes he
      rw [he]
      rw [hv] at oq
      obtain ⟨k, rfl⟩ := Int.eq_ofNat_of_zero_le hx0
      rw [Int.toNat_natCast] at *
      have hcp : okC l = 0 := by unfold okC; rw [hok]; rfl
      have hcq : okC (empL l k) = 0 := by unfold okC; rw [hok2]; rfl
      have hvp : seatedV l = nz l.x := by unfold seatedV; rw [hok]; rfl
      have hvq : seatedV (empL l k) = nz (empL l k).x := by unfold seatedV; rw [hok2]; rfl
      have hpx := op.rd.1.1
      have hpy := op.rd.2.1.1
      have hpz := op.rd.2.2.1.1
      have hqx := oq.rd.1.1
      have hqy := oq.rd.2.1.1
      have hqz := oq.rd.2.2.1.1
      have hsm := okP_sm hok
      have hkq : k < q.x.n := by omega
      have hkI : (k : Int) < (q.x.n : Int) := by omega
      have hkI0 : (0 : Int) ≤ (k : Int) := by omega
      have hq6 := okP_sm hok2
      obtain ⟨bk, ok_, uk, hAk, hbk, hck, huk⟩ := oq.rd.1.el hkq
      have huk2 : uk = l.y.headD 0 := by have h1 := huk.out; have h2 := hget; rw [List.getD_eq_getElem?_getD, h1] at h2; exact h2
      have hfin : ((uk != 0) == decide (0 < p.y.n)) = true := by rw [huk2, head_pos hok, hpy]; simp
      have hnums := hide (show (nz l.x).length + p.y.n + p.z.n = (nz (empL l k).x).length + q.y.n + q.z.n by omega)
      have hbds := hide (show (nz l.x).length ≤ 12 ∧ (nz (empL l k).x).length ≤ 12 ∧ p.y.n + p.z.n ≤ 60 ∧ q.y.n + q.z.n ≤ 60 by have := nz_le l.x; have := nz_le (empL l k).x; omega)
      clear hpx hpy hpz hqx hqy hqz hsm hq6 hlen hlx hget hu hu0 u huk2 huk hx0 hxk he hv
      obtain ⟨⟨Aq, nq, cq⟩, qy, qz⟩ := q
      simp only at hAk hkq hkI hQ qhQ0 qhQ1 qhQ2
      subst hAk
      have hs1 := fun W h => impl.SeatedOf_any p l W h
      rw [hcp, hvp] at hs1
      have hs2 := fun W h => impl.SeatedOf_any ⟨⟨some ⟨bk, ok_, none⟩, nq, cq⟩, qy, qz⟩ (empL l k) W h
      rw [hcq, hvq] at hs2
      clear hcp hvp hcq hvq
      go_wp2_with fail
      refine (hs1 _ op.rd).mono ?_
      rintro e wb ⟨sb, rfl, osb, hx⟩
      clear qhP0 qhP1 qhP2 qhQ0 qhQ1 qhQ2
      replace op := op.ext hx
      replace oq := oq.ext hx
      replace hP := hP.ext hx
      replace hQ := hQ.ext hx
      have hck2 := (hx.cell (p := ⟨bk, ok_ + k, none⟩) hbk).trans hck
      have hbk2 := Nat.lt_of_lt_of_le hbk hx.size
      replace hX := hX.trans hx
      have hsb : sb.n = (nz l.x).length := osb.rd.1
      replace hsb := hide hsb
      clear hx hs1 osb
      obtain ⟨qhP0, qhP1, qhP2⟩ := hP.c3
      obtain ⟨qhQ0, qhQ1, qhQ2⟩ := hQ.c3
      go_wp2_with fail
      refine (hs2 _ oq.rd).mono ?_
      rintro e we ⟨sc, rfl, osc, hx⟩
      clear qhP0 qhP1 qhP2 qhQ0 qhQ1 qhQ2
      replace op := op.ext hx
      replace oq := oq.ext hx
      replace hP := hP.ext hx
      replace hQ := hQ.ext hx
      have hck3 := (hx.cell (p := ⟨bk, ok_ + k, none⟩) hbk2).trans hck2
      replace hX := hX.trans hx
      have hx9 := hx.size
      have hsc : sc.n = (nz (empL l k).x).length := osc.rd.1
      replace hsc := hide hsc
      clear hx hs2 osc
      have e1 : IntKind.i64.wrap ((sb.n : Int) + (p.y.n : Int)) = (sb.n : Int) + (p.y.n : Int) := Go.IntWalk.i64_in _ (by have := hsb.out; have := hbds.out; omega)
      have e2 : IntKind.i64.wrap ((sb.n : Int) + (p.y.n : Int) + (p.z.n : Int)) = ((sb.n + p.y.n + p.z.n : Nat) : Int) := by rw [Go.IntWalk.i64_in _ (by have := hsb.out; have := hbds.out; omega)]; omega
      have e3 : IntKind.i64.wrap ((sc.n : Int) + (qy.n : Int)) = (sc.n : Int) + (qy.n : Int) := Go.IntWalk.i64_in _ (by have := hsc.out; have := hbds.out; omega)
      have e4 : IntKind.i64.wrap ((sc.n : Int) + (qy.n : Int) + (qz.n : Int)) = ((sb.n + p.y.n + p.z.n : Nat) : Int) := by have h1 := hnums.out; have h2 := hbds.out; rw [Go.IntWalk.i64_in _ (by have := hsc.out; omega)]; have := hsb.out; have := hsc.out; omega
      have hIs := impl.IsPanel_any ⟨⟨some ⟨bk, ok_, none⟩, nq, cq⟩, qy, qz⟩ (empL l k) _ (oq.rd.ext (Ext.refl we).drew)
      rw [hok2] at hIs
      have hbk3 := Nat.lt_of_lt_of_le hbk2 hx9
      have KK := hide (show ∀ X, Ext we X → X.cell? ⟨w1.heap.size, 0, none⟩ = some (.slice p.x.A p.x.n p.x.c) ∧ X.cell? ⟨w1.heap.size, 1, none⟩ = some (.slice p.y.A p.y.n p.y.c) ∧ X.cell? ⟨w1.heap.size, 2, none⟩ = some (.slice p.z.A p.z.n p.z.c) ∧ X.cell? ⟨w2.heap.size, 0, none⟩ = some (.slice (some ⟨bk, ok_, none⟩) nq cq) ∧ X.cell? ⟨w2.heap.size, 1, none⟩ = some (.slice qy.A qy.n qy.c) ∧ X.cell? ⟨w2.heap.size, 2, none⟩ = some (.slice qz.A qz.n qz.c) ∧ X.cell? ⟨bk, ok_ + k, none⟩ = some (.int .i64 uk) from fun X hx => ⟨(hP.ext hx).c3.1, (hP.ext hx).c3.2.1, (hP.ext hx).c3.2.2, (hQ.ext hx).c3.1, (hQ.ext hx).c3.2.1, (hQ.ext hx).c3.2.2, (hx.cell (p := ⟨bk, ok_ + k, none⟩) hbk3).trans hck3⟩)
      have k0 := KK.out _ (Ext.refl we).drew
      go_wp2_with fail
      go_region_held3 (fun w' => w'.cell? ⟨w1.heap.size, 0, none⟩ = some (.slice p.x.A p.x.n p.x.c) ∧ w'.cell? ⟨w1.heap.size, 1, none⟩ = some (.slice p.y.A p.y.n p.y.c) ∧ w'.cell? ⟨w1.heap.size, 2, none⟩ = some (.slice p.z.A p.z.n p.z.c) ∧ w'.cell? ⟨w2.heap.size, 0, none⟩ = some (.slice (some ⟨bk, ok_, none⟩) nq cq) ∧ w'.cell? ⟨w2.heap.size, 1, none⟩ = some (.slice qy.A qy.n qy.c) ∧ w'.cell? ⟨w2.heap.size, 2, none⟩ = some (.slice qz.A qz.n qz.c) ∧ w'.cell? ⟨bk, ok_ + k, none⟩ = some (.int .i64 uk)) (first | exact k1 | exact k0 | go_keep | fail) (first | (go_at_call 32; refine hIs.mono ?_; rintro e wd ⟨rfl, hx⟩; have k1 := KK.out _ ((Ext.refl we).drew.trans hx); replace hX := hX.drew.trans hx) | fail)
      go_wp2_with fail
      go_ret
      exact ⟨rfl, hX⟩

theorem own_FnPanels : ownKnob Try.prog.godebug = none := by kernel_rfl
set_option maxRecDepth 100000 in
theorem lifted_FnPanels (os : Os) (started : os.Started) (H : Type) (enc : TypeId × Value → H) :
    ReturnsInHanded {} Try.checked os 4 .any (Rows.fnPanelsSpec.pre6 enc Try.prog Try.f4 Rows.fnPanelsRow.domain false) (Rows.fnPanelsSpec.post enc Try.prog Try.f4 false true false false) := by
  refine returnsInHanded_of_change (C := Try.checked) own_FnPanels started (by kernel_rfl) Try.func4
    (ChangeSpec.witness6 (enc := enc) (C := Try.checked) false ⟨#[], #[.slice none 0 0], []⟩ 8 (by kernel_rfl) (by kernel_rfl) (by kernel_rfl) (by kernel_rfl)) ?_
  intro W base args ds gs before hval0 hW hcnd _
  have hval : ∀ (j : Nat) t v, Try.f4.params[j]? = some t → args[j]? = some v → Value.okWide Try.prog W .any base t v := hval0
  have hW' := hW
  obtain ⟨p, q, hA0, hV, rfl, hfz, hnd⟩ := hW
  have hA : DataW.TrodAll enc Try.prog W 0 (fun _ => true) true Try.f4.params.toList args.toList ds p := hA0
  rw [Try.params4] at hA hval
  obtain ⟨v0, vs0, d0, ds0, p0, q0, hargs, rfl, rfl, h0, r0⟩ := trodAll_cons hA
  obtain ⟨rfl, rfl, rfl⟩ := trodAll_nil r0
  obtain rfl : args = #[v0] := by cases args; simp_all
  obtain ⟨rfl, rfl⟩ := trodVars_none hV
  have k0 := h0
  have lt0 : ∀ x ∈ p0, x.block < W.heap.size := by obtain ⟨m, hm⟩ := k0; exact DataW.trod_lt m _ _ _ hm
  obtain ⟨s0, rfl, i0, c0⟩ := open_code (hval 0 22 v0 rfl rfl) h0 (fun _ => rfl)
  clear hA0 hval0
  refine (law_FnPanels s0 W i0 c0).mono fun e W' ⟨he, bel⟩ => ?_
  subst he
  exact ⟨_, rfl, _, _, _, [], _, [], hW', trodAll_mk1 (shut_bool Try.underlying4 _), (trodAll_cons_mk (Below.trod laidOut (by kernel_rfl) (of_decide_eq_true (by kernel_rfl)) k0 bel lt0) trodAll_mk0), rfl, Below.frame bel _, fun h => by cases h⟩
theorem over_FnPanels : Rows.fnPanelsRow.holds Try.pinned (OpenSpec.ofChange Rows.fnPanelsSpec) :=
  OpenClaim.holds_of_wide 4 Try.f4 rfl rfl rfl rfl rfl rfl rfl ⟨rfl, rfl, rfl, rfl, rfl⟩ rfl rfl rfl rfl rfl (by kernel_rfl) Try.func4 (by kernel_rfl)
    (of_decide_eq_true (by kernel_rfl)) (by unfold Func.isWrapper; first | (rw [if_pos (by decide +kernel)]; kernel_rfl) | (rw [if_neg (by decide +kernel)]; exact ⟨rfl, rfl⟩))
    (fun os started H enc _ => lifted_FnPanels os started H enc)
/-- the statement -/
theorem proved_FnPanels : Rows.FnPanelsSaid := over_FnPanels
#print axioms proved_FnPanels
end Go.Proofs.Ytkfjphjmffbpiaa.mem
