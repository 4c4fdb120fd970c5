/-
  The law FnJuries holds of the given program for every input: it returns true, and its argument reads as it did.
-/
import Derived.Test.YtkfjphjmffbpiaaDjs
import Derived.Test.YtkfjphjmffbpiaaSh
import Derived.Test.YtkfjphjmffbpiaaShS
import Derived.Test.YtkfjphjmffbpiaaJTop
import Derived.Test.YtkfjphjmffbpiaaSwear
import Derived.Test.YtkfjphjmffbpiaaOpenC
import Derived.Test.Ytkfjphjmffbpiaa3s
namespace Go.Proofs.Ytkfjphjmffbpiaa.mem
open Go.ChangeShapes Go.WideShapes Go.ChangeAt Go.RowKit
set_option linter.unusedVariables false
set_option maxRecDepth 20000 in
set_option maxHeartbeats 24000000 in
theorem law_FnJuries (s : Sl) (w : World) (hb0 : RdB w s.A s.n) (hcap : cap1 s) :
    Calls Try.prog 6 #[.slice s.A s.n s.c] w fun e w' => e = .returned (.bool true) ∧ Ext w w' := by
  have hX := Ext.refl w
  have hbig := laws.big_any s w hcap
  by_cases hs : 4096 < s.n
  · rw [decide_eq_true hs] at hbig
    clear hs
    go_enter Try.func6, Try.ntmps6
    go_wp2_with fail
    refine hbig.mono ?_
    rintro e w' ⟨rfl, rfl⟩
    go_wp2_with fail
    go_ret
    exact ⟨rfl, hX⟩
  rw [decide_eq_false hs] at hbig
  have hc : Code w s := ⟨hb0, by omega, hcap⟩
  clear hs hb0 hcap
  go_enter Try.func6, Try.ntmps6
  go_wp2_with fail
  refine hbig.mono ?_
  rintro e w' ⟨rfl, rfl⟩
  clear hbig
  go_wp2_with fail
  refine (spec.DrawLeaveJury_any s _ (hc.ext hX)).mono ?_
  rintro e w1 ⟨p, l, x, rfl, op, hx⟩
  replace hX := hX.trans hx
  clear hx
  have hP := Blk.new w1 26 (#[.slice p.x.A p.x.n p.x.c, .slice p.y.A p.y.n p.y.c, .slice p.z.A p.z.n p.z.c])
  replace op := op.alloc (.cells #[.slice p.x.A p.x.n p.x.c, .slice p.y.A p.y.n p.y.c, .slice p.z.A p.z.n p.z.c] 26)
  replace hX := hX.alloc (.cells #[.slice p.x.A p.x.n p.x.c, .slice p.y.A p.y.n p.y.c, .slice p.z.A p.z.n p.z.c] 26)
  obtain ⟨qhP0, qhP1, qhP2⟩ := hP.c3
  go_wp2_with fail
  refine (impl.LeaveJury_any p l x _ op.rd).mono ?_
  rintro e w2 ⟨q, rfl, oq, hx⟩
  clear qhP0 qhP1 qhP2
  replace op := op.ext hx
  replace hP := hP.ext hx
  replace hX := hX.trans hx
  clear hx
  have hQ := Blk.new w2 26 (#[.slice q.x.A q.x.n q.x.c, .slice q.y.A q.y.n q.y.c, .slice q.z.A q.z.n q.z.c])
  replace op := op.alloc (.cells #[.slice q.x.A q.x.n q.x.c, .slice q.y.A q.y.n q.y.c, .slice q.z.A q.z.n q.z.c] 26)
  replace oq := oq.alloc (.cells #[.slice q.x.A q.x.n q.x.c, .slice q.y.A q.y.n q.y.c, .slice q.z.A q.z.n q.z.c] 26)
  replace hP := hP.alloc (.cells #[.slice q.x.A q.x.n q.x.c, .slice q.y.A q.y.n q.y.c, .slice q.z.A q.z.n q.z.c] 26)
  replace hX := hX.alloc (.cells #[.slice q.x.A q.x.n q.x.c, .slice q.y.A q.y.n q.y.c, .slice q.z.A q.z.n q.z.c] 26)
  obtain ⟨qhP0, qhP1, qhP2⟩ := hP.c3
  obtain ⟨qhQ0, qhQ1, qhQ2⟩ := hQ.c3
  go_wp2_with fail
  refine (spec.LeaveJury_any p l x _ op.rd).mono ?_
  rintro e w3 ⟨q2, rfl, oq2, hx⟩
  clear qhP0 qhP1 qhP2 qhQ0 qhQ1 qhQ2
  replace op := op.ext hx
  replace oq := oq.ext hx
  replace hP := hP.ext hx
  replace hQ := hQ.ext hx
  replace hX := hX.trans hx
  clear hx
  have hQ2 := Blk.new w3 26 (#[.slice q2.x.A q2.x.n q2.x.c, .slice q2.y.A q2.y.n q2.y.c, .slice q2.z.A q2.z.n q2.z.c])
  replace op := op.alloc (.cells #[.slice q2.x.A q2.x.n q2.x.c, .slice q2.y.A q2.y.n q2.y.c, .slice q2.z.A q2.z.n q2.z.c] 26)
  replace oq := oq.alloc (.cells #[.slice q2.x.A q2.x.n q2.x.c, .slice q2.y.A q2.y.n q2.y.c, .slice q2.z.A q2.z.n q2.z.c] 26)
  replace oq2 := oq2.alloc (.cells #[.slice q2.x.A q2.x.n q2.x.c, .slice q2.y.A q2.y.n q2.y.c, .slice q2.z.A q2.z.n q2.z.c] 26)
  replace hP := hP.alloc (.cells #[.slice q2.x.A q2.x.n q2.x.c, .slice q2.y.A q2.y.n q2.y.c, .slice q2.z.A q2.z.n q2.z.c] 26)
  replace hQ := hQ.alloc (.cells #[.slice q2.x.A q2.x.n q2.x.c, .slice q2.y.A q2.y.n q2.y.c, .slice q2.z.A q2.z.n q2.z.c] 26)
  replace hX := hX.alloc (.cells #[.slice q2.x.A q2.x.n q2.x.c, .slice q2.y.A q2.y.n q2.y.c, .slice q2.z.A q2.z.n q2.z.c] 26)
  obtain ⟨qhP0, qhP1, qhP2⟩ := hP.c3
  obtain ⟨qhQ0, qhQ1, qhQ2⟩ := hQ.c3
  obtain ⟨qhQ20, qhQ21, qhQ22⟩ := hQ2.c3
  go_wp2_with fail
  refine (spec.DrawSwearJury_any s _ (hc.ext hX)).mono ?_
  rintro e w4 ⟨m, lm, y1, y2, rfl, om, hb1, hb2, hx⟩
  clear qhP0 qhP1 qhP2 qhQ0 qhQ1 qhQ2 qhQ20 qhQ21 qhQ22
  replace op := op.ext hx
  replace oq := oq.ext hx
  replace oq2 := oq2.ext hx
  replace hP := hP.ext hx
  replace hQ := hQ.ext hx
  replace hQ2 := hQ2.ext hx
  replace hX := hX.trans hx
  clear hx
  have hM := Blk.new w4 38 (#[.slice m.x.A m.x.n m.x.c, .slice m.y.A m.y.n m.y.c, .slice m.z.A m.z.n m.z.c])
  replace op := op.alloc (.cells #[.slice m.x.A m.x.n m.x.c, .slice m.y.A m.y.n m.y.c, .slice m.z.A m.z.n m.z.c] 38)
  replace oq := oq.alloc (.cells #[.slice m.x.A m.x.n m.x.c, .slice m.y.A m.y.n m.y.c, .slice m.z.A m.z.n m.z.c] 38)
  replace oq2 := oq2.alloc (.cells #[.slice m.x.A m.x.n m.x.c, .slice m.y.A m.y.n m.y.c, .slice m.z.A m.z.n m.z.c] 38)
  replace om := om.alloc (.cells #[.slice m.x.A m.x.n m.x.c, .slice m.y.A m.y.n m.y.c, .slice m.z.A m.z.n m.z.c] 38)
  replace hP := hP.alloc (.cells #[.slice m.x.A m.x.n m.x.c, .slice m.y.A m.y.n m.y.c, .slice m.z.A m.z.n m.z.c] 38)
  replace hQ := hQ.alloc (.cells #[.slice m.x.A m.x.n m.x.c, .slice m.y.A m.y.n m.y.c, .slice m.z.A m.z.n m.z.c] 38)
  replace hQ2 := hQ2.alloc (.cells #[.slice m.x.A m.x.n m.x.c, .slice m.y.A m.y.n m.y.c, .slice m.z.A m.z.n m.z.c] 38)
  replace hX := hX.alloc (.cells #[.slice m.x.A m.x.n m.x.c, .slice m.y.A m.y.n m.y.c, .slice m.z.A m.z.n m.z.c] 38)
  clear hb1 hb2
  obtain ⟨qhP0, qhP1, qhP2⟩ := hP.c3
  obtain ⟨qhQ0, qhQ1, qhQ2⟩ := hQ.c3
  obtain ⟨qhQ20, qhQ21, qhQ22⟩ := hQ2.c3
  obtain ⟨qhM0, qhM1, qhM2⟩ := hM.c3
  go_wp2_with fail
  refine (impl.SwearJury_any m lm y1 y2 _ om.rd).mono ?_
  rintro e w5 ⟨v, rfl, ov, hx⟩
  clear qhP0 qhP1 qhP2 qhQ0 qhQ1 qhQ2 qhQ20 qhQ21 qhQ22 qhM0 qhM1 qhM2
  replace op := op.ext hx
  replace oq := oq.ext hx
  replace oq2 := oq2.ext hx
  replace om := om.ext hx
  replace hP := hP.ext hx
  replace hQ := hQ.ext hx
  replace hQ2 := hQ2.ext hx
  replace hM := hM.ext hx
  replace hX := hX.trans hx
  clear hx
  have hV := Blk.new w5 26 (#[.slice v.x.A v.x.n v.x.c, .slice v.y.A v.y.n v.y.c, .slice v.z.A v.z.n v.z.c])
  replace op := op.alloc (.cells #[.slice v.x.A v.x.n v.x.c, .slice v.y.A v.y.n v.y.c, .slice v.z.A v.z.n v.z.c] 26)
  replace oq := oq.alloc (.cells #[.slice v.x.A v.x.n v.x.c, .slice v.y.A v.y.n v.y.c, .slice v.z.A v.z.n v.z.c] 26)
  replace oq2 := oq2.alloc (.cells #[.slice v.x.A v.x.n v.x.c, .slice v.y.A v.y.n v.y.c, .slice v.z.A v.z.n v.z.c] 26)
  replace om := om.alloc (.cells #[.slice v.x.A v.x.n v.x.c, .slice v.y.A v.y.n v.y.c, .slice v.z.A v.z.n v.z.c] 26)
  replace ov := ov.alloc (.cells #[.slice v.x.A v.x.n v.x.c, .slice v.y.A v.y.n v.y.c, .slice v.z.A v.z.n v.z.c] 26)
  replace hP := hP.alloc (.cells #[.slice v.x.A v.x.n v.x.c, .slice v.y.A v.y.n v.y.c, .slice v.z.A v.z.n v.z.c] 26)
  replace hQ := hQ.alloc (.cells #[.slice v.x.A v.x.n v.x.c, .slice v.y.A v.y.n v.y.c, .slice v.z.A v.z.n v.z.c] 26)
  replace hQ2 := hQ2.alloc (.cells #[.slice v.x.A v.x.n v.x.c, .slice v.y.A v.y.n v.y.c, .slice v.z.A v.z.n v.z.c] 26)
  replace hM := hM.alloc (.cells #[.slice v.x.A v.x.n v.x.c, .slice v.y.A v.y.n v.y.c, .slice v.z.A v.z.n v.z.c] 26)
  replace hX := hX.alloc (.cells #[.slice v.x.A v.x.n v.x.c, .slice v.y.A v.y.n v.y.c, .slice v.z.A v.z.n v.z.c] 26)
  obtain ⟨qhP0, qhP1, qhP2⟩ := hP.c3
  obtain ⟨qhQ0, qhQ1, qhQ2⟩ := hQ.c3
  obtain ⟨qhQ20, qhQ21, qhQ22⟩ := hQ2.c3
  obtain ⟨qhM0, qhM1, qhM2⟩ := hM.c3
  obtain ⟨qhV0, qhV1, qhV2⟩ := hV.c3
  go_wp2_with fail
  refine (spec.SwearJury_any m lm y1 y2 _ om.rd).mono ?_
  rintro e w6 ⟨v2, rfl, ov2, hx⟩
  clear qhP0 qhP1 qhP2 qhQ0 qhQ1 qhQ2 qhQ20 qhQ21 qhQ22 qhM0 qhM1 qhM2 qhV0 qhV1 qhV2
  replace op := op.ext hx
  replace oq := oq.ext hx
  replace oq2 := oq2.ext hx
  replace om := om.ext hx
  replace ov := ov.ext hx
  replace hP := hP.ext hx
  replace hQ := hQ.ext hx
  replace hQ2 := hQ2.ext hx
  replace hM := hM.ext hx
  replace hV := hV.ext hx
  replace hX := hX.trans hx
  clear hx
  have hV2 := Blk.new w6 26 (#[.slice v2.x.A v2.x.n v2.x.c, .slice v2.y.A v2.y.n v2.y.c, .slice v2.z.A v2.z.n v2.z.c])
  replace op := op.alloc (.cells #[.slice v2.x.A v2.x.n v2.x.c, .slice v2.y.A v2.y.n v2.y.c, .slice v2.z.A v2.z.n v2.z.c] 26)
  replace oq := oq.alloc (.cells #[.slice v2.x.A v2.x.n v2.x.c, .slice v2.y.A v2.y.n v2.y.c, .slice v2.z.A v2.z.n v2.z.c] 26)
  replace oq2 := oq2.alloc (.cells #[.slice v2.x.A v2.x.n v2.x.c, .slice v2.y.A v2.y.n v2.y.c, .slice v2.z.A v2.z.n v2.z.c] 26)
  replace om := om.alloc (.cells #[.slice v2.x.A v2.x.n v2.x.c, .slice v2.y.A v2.y.n v2.y.c, .slice v2.z.A v2.z.n v2.z.c] 26)
  replace ov := ov.alloc (.cells #[.slice v2.x.A v2.x.n v2.x.c, .slice v2.y.A v2.y.n v2.y.c, .slice v2.z.A v2.z.n v2.z.c] 26)
  replace ov2 := ov2.alloc (.cells #[.slice v2.x.A v2.x.n v2.x.c, .slice v2.y.A v2.y.n v2.y.c, .slice v2.z.A v2.z.n v2.z.c] 26)
  replace hP := hP.alloc (.cells #[.slice v2.x.A v2.x.n v2.x.c, .slice v2.y.A v2.y.n v2.y.c, .slice v2.z.A v2.z.n v2.z.c] 26)
  replace hQ := hQ.alloc (.cells #[.slice v2.x.A v2.x.n v2.x.c, .slice v2.y.A v2.y.n v2.y.c, .slice v2.z.A v2.z.n v2.z.c] 26)
  replace hQ2 := hQ2.alloc (.cells #[.slice v2.x.A v2.x.n v2.x.c, .slice v2.y.A v2.y.n v2.y.c, .slice v2.z.A v2.z.n v2.z.c] 26)
  replace hM := hM.alloc (.cells #[.slice v2.x.A v2.x.n v2.x.c, .slice v2.y.A v2.y.n v2.y.c, .slice v2.z.A v2.z.n v2.z.c] 26)
  replace hV := hV.alloc (.cells #[.slice v2.x.A v2.x.n v2.x.c, .slice v2.y.A v2.y.n v2.y.c, .slice v2.z.A v2.z.n v2.z.c] 26)
  replace hX := hX.alloc (.cells #[.slice v2.x.A v2.x.n v2.x.c, .slice v2.y.A v2.y.n v2.y.c, .slice v2.z.A v2.z.n v2.z.c] 26)
  obtain ⟨qhP0, qhP1, qhP2⟩ := hP.c3
  obtain ⟨qhQ0, qhQ1, qhQ2⟩ := hQ.c3
  obtain ⟨qhQ20, qhQ21, qhQ22⟩ := hQ2.c3
  obtain ⟨qhM0, qhM1, qhM2⟩ := hM.c3
  obtain ⟨qhV0, qhV1, qhV2⟩ := hV.c3
  obtain ⟨qhV20, qhV21, qhV22⟩ := hV2.c3
  go_wp2_with fail
  refine (spec.DrawLossesBorne_any s _ (hc.ext hX)).mono ?_
  rintro e w7 ⟨d, ld, z, rfl, od, hb3, hx⟩
  clear qhP0 qhP1 qhP2 qhQ0 qhQ1 qhQ2 qhQ20 qhQ21 qhQ22 qhM0 qhM1 qhM2 qhV0 qhV1 qhV2 qhV20 qhV21 qhV22
  replace op := op.ext hx
  replace oq := oq.ext hx
  replace oq2 := oq2.ext hx
  replace om := om.ext hx
  replace ov := ov.ext hx
  replace ov2 := ov2.ext hx
  replace hP := hP.ext hx
  replace hQ := hQ.ext hx
  replace hQ2 := hQ2.ext hx
  replace hM := hM.ext hx
  replace hV := hV.ext hx
  replace hV2 := hV2.ext hx
  replace hX := hX.trans hx
  clear hx
  have hD := Blk.new w7 26 (#[.slice d.x.A d.x.n d.x.c, .slice d.y.A d.y.n d.y.c, .slice d.z.A d.z.n d.z.c])
  replace op := op.alloc (.cells #[.slice d.x.A d.x.n d.x.c, .slice d.y.A d.y.n d.y.c, .slice d.z.A d.z.n d.z.c] 26)
  replace oq := oq.alloc (.cells #[.slice d.x.A d.x.n d.x.c, .slice d.y.A d.y.n d.y.c, .slice d.z.A d.z.n d.z.c] 26)
  replace oq2 := oq2.alloc (.cells #[.slice d.x.A d.x.n d.x.c, .slice d.y.A d.y.n d.y.c, .slice d.z.A d.z.n d.z.c] 26)
  replace om := om.alloc (.cells #[.slice d.x.A d.x.n d.x.c, .slice d.y.A d.y.n d.y.c, .slice d.z.A d.z.n d.z.c] 26)
  replace ov := ov.alloc (.cells #[.slice d.x.A d.x.n d.x.c, .slice d.y.A d.y.n d.y.c, .slice d.z.A d.z.n d.z.c] 26)
  replace ov2 := ov2.alloc (.cells #[.slice d.x.A d.x.n d.x.c, .slice d.y.A d.y.n d.y.c, .slice d.z.A d.z.n d.z.c] 26)
  replace od := od.alloc (.cells #[.slice d.x.A d.x.n d.x.c, .slice d.y.A d.y.n d.y.c, .slice d.z.A d.z.n d.z.c] 26)
  replace hP := hP.alloc (.cells #[.slice d.x.A d.x.n d.x.c, .slice d.y.A d.y.n d.y.c, .slice d.z.A d.z.n d.z.c] 26)
  replace hQ := hQ.alloc (.cells #[.slice d.x.A d.x.n d.x.c, .slice d.y.A d.y.n d.y.c, .slice d.z.A d.z.n d.z.c] 26)
  replace hQ2 := hQ2.alloc (.cells #[.slice d.x.A d.x.n d.x.c, .slice d.y.A d.y.n d.y.c, .slice d.z.A d.z.n d.z.c] 26)
  replace hM := hM.alloc (.cells #[.slice d.x.A d.x.n d.x.c, .slice d.y.A d.y.n d.y.c, .slice d.z.A d.z.n d.z.c] 26)
  replace hV := hV.alloc (.cells #[.slice d.x.A d.x.n d.x.c, .slice d.y.A d.y.n d.y.c, .slice d.z.A d.z.n d.z.c] 26)
  replace hV2 := hV2.alloc (.cells #[.slice d.x.A d.x.n d.x.c, .slice d.y.A d.y.n d.y.c, .slice d.z.A d.z.n d.z.c] 26)
  replace hX := hX.alloc (.cells #[.slice d.x.A d.x.n d.x.c, .slice d.y.A d.y.n d.y.c, .slice d.z.A d.z.n d.z.c] 26)
  clear hb3
  obtain ⟨qhP0, qhP1, qhP2⟩ := hP.c3
  obtain ⟨qhQ0, qhQ1, qhQ2⟩ := hQ.c3
  obtain ⟨qhQ20, qhQ21, qhQ22⟩ := hQ2.c3
  obtain ⟨qhM0, qhM1, qhM2⟩ := hM.c3
  obtain ⟨qhV0, qhV1, qhV2⟩ := hV.c3
  obtain ⟨qhV20, qhV21, qhV22⟩ := hV2.c3
  obtain ⟨qhD0, qhD1, qhD2⟩ := hD.c3
  go_wp2_with fail
  refine (impl.LossesBorne_any d ld z _ od.rd).mono ?_
  rintro e w8 ⟨rfl, hx⟩
  clear qhP0 qhP1 qhP2 qhQ0 qhQ1 qhQ2 qhQ20 qhQ21 qhQ22 qhM0 qhM1 qhM2 qhV0 qhV1 qhV2 qhV20 qhV21 qhV22 qhD0 qhD1 qhD2
  replace op := op.ext hx
  replace oq := oq.ext hx
  replace oq2 := oq2.ext hx
  replace om := om.ext hx
  replace ov := ov.ext hx
  replace ov2 := ov2.ext hx
  replace od := od.ext hx
  replace hP := hP.ext hx
  replace hQ := hQ.ext hx
  replace hQ2 := hQ2.ext hx
  replace hM := hM.ext hx
  replace hV := hV.ext hx
  replace hV2 := hV2.ext hx
  replace hD := hD.ext hx
  replace hX := hX.trans hx
  clear hx
  obtain ⟨qhP0, qhP1, qhP2⟩ := hP.c3
  obtain ⟨qhQ0, qhQ1, qhQ2⟩ := hQ.c3
  obtain ⟨qhQ20, qhQ21, qhQ22⟩ := hQ2.c3
  obtain ⟨qhM0, qhM1, qhM2⟩ := hM.c3
  obtain ⟨qhV0, qhV1, qhV2⟩ := hV.c3
  obtain ⟨qhV20, qhV21, qhV22⟩ := hV2.c3
  obtain ⟨qhD0, qhD1, qhD2⟩ := hD.c3
  go_wp2_with fail
  refine (spec.LossesBorne_any d ld z _ od.rd).mono ?_
  rintro e w9 ⟨rfl, hx⟩
  clear qhP0 qhP1 qhP2 qhQ0 qhQ1 qhQ2 qhQ20 qhQ21 qhQ22 qhM0 qhM1 qhM2 qhV0 qhV1 qhV2 qhV20 qhV21 qhV22 qhD0 qhD1 qhD2
  replace op := op.ext hx
  replace oq := oq.ext hx
  replace oq2 := oq2.ext hx
  replace om := om.ext hx
  replace ov := ov.ext hx
  replace ov2 := ov2.ext hx
  replace od := od.ext hx
  replace hP := hP.ext hx
  replace hQ := hQ.ext hx
  replace hQ2 := hQ2.ext hx
  replace hM := hM.ext hx
  replace hV := hV.ext hx
  replace hV2 := hV2.ext hx
  replace hD := hD.ext hx
  replace hX := hX.trans hx
  clear hx
  obtain ⟨qhP0, qhP1, qhP2⟩ := hP.c3
  obtain ⟨qhQ0, qhQ1, qhQ2⟩ := hQ.c3
  obtain ⟨qhQ20, qhQ21, qhQ22⟩ := hQ2.c3
  obtain ⟨qhM0, qhM1, qhM2⟩ := hM.c3
  obtain ⟨qhV0, qhV1, qhV2⟩ := hV.c3
  obtain ⟨qhV20, qhV21, qhV22⟩ := hV2.c3
  obtain ⟨qhD0, qhD1, qhD2⟩ := hD.c3
  go_wp2_with fail
  refine (impl.MayGoOn_any d ld z _ od.rd).mono ?_
  rintro e w10 ⟨rfl, hx⟩
  clear qhP0 qhP1 qhP2 qhQ0 qhQ1 qhQ2 qhQ20 qhQ21 qhQ22 qhM0 qhM1 qhM2 qhV0 qhV1 qhV2 qhV20 qhV21 qhV22 qhD0 qhD1 qhD2
  replace op := op.ext hx
  replace oq := oq.ext hx
  replace oq2 := oq2.ext hx
  replace om := om.ext hx
  replace ov := ov.ext hx
  replace ov2 := ov2.ext hx
  replace od := od.ext hx
  replace hP := hP.ext hx
  replace hQ := hQ.ext hx
  replace hQ2 := hQ2.ext hx
  replace hM := hM.ext hx
  replace hV := hV.ext hx
  replace hV2 := hV2.ext hx
  replace hD := hD.ext hx
  replace hX := hX.trans hx
  clear hx
  obtain ⟨qhP0, qhP1, qhP2⟩ := hP.c3
  obtain ⟨qhQ0, qhQ1, qhQ2⟩ := hQ.c3
  obtain ⟨qhQ20, qhQ21, qhQ22⟩ := hQ2.c3
  obtain ⟨qhM0, qhM1, qhM2⟩ := hM.c3
  obtain ⟨qhV0, qhV1, qhV2⟩ := hV.c3
  obtain ⟨qhV20, qhV21, qhV22⟩ := hV2.c3
  obtain ⟨qhD0, qhD1, qhD2⟩ := hD.c3
  go_wp2_with fail
  refine (spec.MayGoOn_any d ld z _ od.rd).mono ?_
  rintro e w11 ⟨rfl, hx⟩
  clear qhP0 qhP1 qhP2 qhQ0 qhQ1 qhQ2 qhQ20 qhQ21 qhQ22 qhM0 qhM1 qhM2 qhV0 qhV1 qhV2 qhV20 qhV21 qhV22 qhD0 qhD1 qhD2
  replace op := op.ext hx
  replace oq := oq.ext hx
  replace oq2 := oq2.ext hx
  replace om := om.ext hx
  replace ov := ov.ext hx
  replace ov2 := ov2.ext hx
  replace od := od.ext hx
  replace hP := hP.ext hx
  replace hQ := hQ.ext hx
  replace hQ2 := hQ2.ext hx
  replace hM := hM.ext hx
  replace hV := hV.ext hx
  replace hV2 := hV2.ext hx
  replace hD := hD.ext hx
  replace hX := hX.trans hx
  clear hx
  obtain ⟨qhP0, qhP1, qhP2⟩ := hP.c3
  obtain ⟨qhQ0, qhQ1, qhQ2⟩ := hQ.c3
  obtain ⟨qhQ20, qhQ21, qhQ22⟩ := hQ2.c3
  obtain ⟨qhM0, qhM1, qhM2⟩ := hM.c3
  obtain ⟨qhV0, qhV1, qhV2⟩ := hV.c3
  obtain ⟨qhV20, qhV21, qhV22⟩ := hV2.c3
  obtain ⟨qhD0, qhD1, qhD2⟩ := hD.c3
  go_wp2_with fail
  refine (spec.DrawSeatHistory_any s _ (hc.ext hX)).mono ?_
  rintro e w12 ⟨f, lf, t, ms, y3, rfl, of, ot, hml, hb4, hx⟩
  clear qhP0 qhP1 qhP2 qhQ0 qhQ1 qhQ2 qhQ20 qhQ21 qhQ22 qhM0 qhM1 qhM2 qhV0 qhV1 qhV2 qhV20 qhV21 qhV22 qhD0 qhD1 qhD2
  replace op := op.ext hx
  replace oq := oq.ext hx
  replace oq2 := oq2.ext hx
  replace om := om.ext hx
  replace ov := ov.ext hx
  replace ov2 := ov2.ext hx
  replace od := od.ext hx
  replace hP := hP.ext hx
  replace hQ := hQ.ext hx
  replace hQ2 := hQ2.ext hx
  replace hM := hM.ext hx
  replace hV := hV.ext hx
  replace hV2 := hV2.ext hx
  replace hD := hD.ext hx
  replace hX := hX.trans hx
  clear hx
  clear hb4
  replace hml := hide hml
  have htn := hide (show t.n ≤ 1048576 by have := ot.rd.1; have := hml.out; omega)
  have hF := Blk.new w12 26 (#[.slice f.x.A f.x.n f.x.c, .slice f.y.A f.y.n f.y.c, .slice f.z.A f.z.n f.z.c])
  replace op := op.alloc (.cells #[.slice f.x.A f.x.n f.x.c, .slice f.y.A f.y.n f.y.c, .slice f.z.A f.z.n f.z.c] 26)
  replace oq := oq.alloc (.cells #[.slice f.x.A f.x.n f.x.c, .slice f.y.A f.y.n f.y.c, .slice f.z.A f.z.n f.z.c] 26)
  replace oq2 := oq2.alloc (.cells #[.slice f.x.A f.x.n f.x.c, .slice f.y.A f.y.n f.y.c, .slice f.z.A f.z.n f.z.c] 26)
  replace om := om.alloc (.cells #[.slice f.x.A f.x.n f.x.c, .slice f.y.A f.y.n f.y.c, .slice f.z.A f.z.n f.z.c] 26)
  replace ov := ov.alloc (.cells #[.slice f.x.A f.x.n f.x.c, .slice f.y.A f.y.n f.y.c, .slice f.z.A f.z.n f.z.c] 26)
  replace ov2 := ov2.alloc (.cells #[.slice f.x.A f.x.n f.x.c, .slice f.y.A f.y.n f.y.c, .slice f.z.A f.z.n f.z.c] 26)
  replace od := od.alloc (.cells #[.slice f.x.A f.x.n f.x.c, .slice f.y.A f.y.n f.y.c, .slice f.z.A f.z.n f.z.c] 26)
  replace of := of.alloc (.cells #[.slice f.x.A f.x.n f.x.c, .slice f.y.A f.y.n f.y.c, .slice f.z.A f.z.n f.z.c] 26)
  replace ot := ot.alloc (.cells #[.slice f.x.A f.x.n f.x.c, .slice f.y.A f.y.n f.y.c, .slice f.z.A f.z.n f.z.c] 26)
  replace hP := hP.alloc (.cells #[.slice f.x.A f.x.n f.x.c, .slice f.y.A f.y.n f.y.c, .slice f.z.A f.z.n f.z.c] 26)
  replace hQ := hQ.alloc (.cells #[.slice f.x.A f.x.n f.x.c, .slice f.y.A f.y.n f.y.c, .slice f.z.A f.z.n f.z.c] 26)
  replace hQ2 := hQ2.alloc (.cells #[.slice f.x.A f.x.n f.x.c, .slice f.y.A f.y.n f.y.c, .slice f.z.A f.z.n f.z.c] 26)
  replace hM := hM.alloc (.cells #[.slice f.x.A f.x.n f.x.c, .slice f.y.A f.y.n f.y.c, .slice f.z.A f.z.n f.z.c] 26)
  replace hV := hV.alloc (.cells #[.slice f.x.A f.x.n f.x.c, .slice f.y.A f.y.n f.y.c, .slice f.z.A f.z.n f.z.c] 26)
  replace hV2 := hV2.alloc (.cells #[.slice f.x.A f.x.n f.x.c, .slice f.y.A f.y.n f.y.c, .slice f.z.A f.z.n f.z.c] 26)
  replace hD := hD.alloc (.cells #[.slice f.x.A f.x.n f.x.c, .slice f.y.A f.y.n f.y.c, .slice f.z.A f.z.n f.z.c] 26)
  replace hX := hX.alloc (.cells #[.slice f.x.A f.x.n f.x.c, .slice f.y.A f.y.n f.y.c, .slice f.z.A f.z.n f.z.c] 26)
  obtain ⟨qhP0, qhP1, qhP2⟩ := hP.c3
  obtain ⟨qhQ0, qhQ1, qhQ2⟩ := hQ.c3
  obtain ⟨qhQ20, qhQ21, qhQ22⟩ := hQ2.c3
  obtain ⟨qhM0, qhM1, qhM2⟩ := hM.c3
  obtain ⟨qhV0, qhV1, qhV2⟩ := hV.c3
  obtain ⟨qhV20, qhV21, qhV22⟩ := hV2.c3
  obtain ⟨qhD0, qhD1, qhD2⟩ := hD.c3
  obtain ⟨qhF0, qhF1, qhF2⟩ := hF.c3
  go_wp2_with fail
  refine (impl.SeatHistory_any f lf t ms y3 _ of.rd ot.rd htn.out).mono ?_
  rintro e w13 ⟨h1, rfl, oh1, hx⟩
  clear qhP0 qhP1 qhP2 qhQ0 qhQ1 qhQ2 qhQ20 qhQ21 qhQ22 qhM0 qhM1 qhM2 qhV0 qhV1 qhV2 qhV20 qhV21 qhV22 qhD0 qhD1 qhD2 qhF0 qhF1 qhF2
  replace op := op.ext hx
  replace oq := oq.ext hx
  replace oq2 := oq2.ext hx
  replace om := om.ext hx
  replace ov := ov.ext hx
  replace ov2 := ov2.ext hx
  replace od := od.ext hx
  replace of := of.ext hx
  replace ot := ot.ext hx
  replace hP := hP.ext hx
  replace hQ := hQ.ext hx
  replace hQ2 := hQ2.ext hx
  replace hM := hM.ext hx
  replace hV := hV.ext hx
  replace hV2 := hV2.ext hx
  replace hD := hD.ext hx
  replace hF := hF.ext hx
  replace hX := hX.trans hx
  clear hx
  obtain ⟨qhP0, qhP1, qhP2⟩ := hP.c3
  obtain ⟨qhQ0, qhQ1, qhQ2⟩ := hQ.c3
  obtain ⟨qhQ20, qhQ21, qhQ22⟩ := hQ2.c3
  obtain ⟨qhM0, qhM1, qhM2⟩ := hM.c3
  obtain ⟨qhV0, qhV1, qhV2⟩ := hV.c3
  obtain ⟨qhV20, qhV21, qhV22⟩ := hV2.c3
  obtain ⟨qhD0, qhD1, qhD2⟩ := hD.c3
  obtain ⟨qhF0, qhF1, qhF2⟩ := hF.c3
  go_wp2_with fail
  refine (spec.SeatHistory_any f lf t ms y3 _ of.rd ot.rd htn.out).mono ?_
  rintro e w14 ⟨h2, rfl, oh2, hx⟩
  clear qhP0 qhP1 qhP2 qhQ0 qhQ1 qhQ2 qhQ20 qhQ21 qhQ22 qhM0 qhM1 qhM2 qhV0 qhV1 qhV2 qhV20 qhV21 qhV22 qhD0 qhD1 qhD2 qhF0 qhF1 qhF2
  replace op := op.ext hx
  replace oq := oq.ext hx
  replace oq2 := oq2.ext hx
  replace om := om.ext hx
  replace ov := ov.ext hx
  replace ov2 := ov2.ext hx
  replace od := od.ext hx
  replace of := of.ext hx
  replace ot := ot.ext hx
  replace oh1 := oh1.ext hx
  replace hP := hP.ext hx
  replace hQ := hQ.ext hx
  replace hQ2 := hQ2.ext hx
  replace hM := hM.ext hx
  replace hV := hV.ext hx
  replace hV2 := hV2.ext hx
  replace hD := hD.ext hx
  replace hF := hF.ext hx
  replace hX := hX.trans hx
  clear hx
  obtain ⟨qhP0, qhP1, qhP2⟩ := hP.c3
  obtain ⟨qhQ0, qhQ1, qhQ2⟩ := hQ.c3
  obtain ⟨qhQ20, qhQ21, qhQ22⟩ := hQ2.c3
  obtain ⟨qhM0, qhM1, qhM2⟩ := hM.c3
  obtain ⟨qhV0, qhV1, qhV2⟩ := hV.c3
  obtain ⟨qhV20, qhV21, qhV22⟩ := hV2.c3
  obtain ⟨qhD0, qhD1, qhD2⟩ := hD.c3
  obtain ⟨qhF0, qhF1, qhF2⟩ := hF.c3
  go_wp2_with fail
  refine (spec.DrawRoleOf_any s _ (hc.ext hX)).mono ?_
  rintro e w15 ⟨a, la, y4, rfl, oa, hx⟩
  clear qhP0 qhP1 qhP2 qhQ0 qhQ1 qhQ2 qhQ20 qhQ21 qhQ22 qhM0 qhM1 qhM2 qhV0 qhV1 qhV2 qhV20 qhV21 qhV22 qhD0 qhD1 qhD2 qhF0 qhF1 qhF2
  replace op := op.ext hx
  replace oq := oq.ext hx
  replace oq2 := oq2.ext hx
  replace om := om.ext hx
  replace ov := ov.ext hx
  replace ov2 := ov2.ext hx
  replace od := od.ext hx
  replace of := of.ext hx
  replace ot := ot.ext hx
  replace oh1 := oh1.ext hx
  replace oh2 := oh2.ext hx
  replace hP := hP.ext hx
  replace hQ := hQ.ext hx
  replace hQ2 := hQ2.ext hx
  replace hM := hM.ext hx
  replace hV := hV.ext hx
  replace hV2 := hV2.ext hx
  replace hD := hD.ext hx
  replace hF := hF.ext hx
  replace hX := hX.trans hx
  clear hx
  have hA := Blk.new w15 26 (#[.slice a.x.A a.x.n a.x.c, .slice a.y.A a.y.n a.y.c, .slice a.z.A a.z.n a.z.c])
  replace op := op.alloc (.cells #[.slice a.x.A a.x.n a.x.c, .slice a.y.A a.y.n a.y.c, .slice a.z.A a.z.n a.z.c] 26)
  replace oq := oq.alloc (.cells #[.slice a.x.A a.x.n a.x.c, .slice a.y.A a.y.n a.y.c, .slice a.z.A a.z.n a.z.c] 26)
  replace oq2 := oq2.alloc (.cells #[.slice a.x.A a.x.n a.x.c, .slice a.y.A a.y.n a.y.c, .slice a.z.A a.z.n a.z.c] 26)
  replace om := om.alloc (.cells #[.slice a.x.A a.x.n a.x.c, .slice a.y.A a.y.n a.y.c, .slice a.z.A a.z.n a.z.c] 26)
  replace ov := ov.alloc (.cells #[.slice a.x.A a.x.n a.x.c, .slice a.y.A a.y.n a.y.c, .slice a.z.A a.z.n a.z.c] 26)
  replace ov2 := ov2.alloc (.cells #[.slice a.x.A a.x.n a.x.c, .slice a.y.A a.y.n a.y.c, .slice a.z.A a.z.n a.z.c] 26)
  replace od := od.alloc (.cells #[.slice a.x.A a.x.n a.x.c, .slice a.y.A a.y.n a.y.c, .slice a.z.A a.z.n a.z.c] 26)
  replace of := of.alloc (.cells #[.slice a.x.A a.x.n a.x.c, .slice a.y.A a.y.n a.y.c, .slice a.z.A a.z.n a.z.c] 26)
  replace ot := ot.alloc (.cells #[.slice a.x.A a.x.n a.x.c, .slice a.y.A a.y.n a.y.c, .slice a.z.A a.z.n a.z.c] 26)
  replace oh1 := oh1.alloc (.cells #[.slice a.x.A a.x.n a.x.c, .slice a.y.A a.y.n a.y.c, .slice a.z.A a.z.n a.z.c] 26)
  replace oh2 := oh2.alloc (.cells #[.slice a.x.A a.x.n a.x.c, .slice a.y.A a.y.n a.y.c, .slice a.z.A a.z.n a.z.c] 26)
  replace oa := oa.alloc (.cells #[.slice a.x.A a.x.n a.x.c, .slice a.y.A a.y.n a.y.c, .slice a.z.A a.z.n a.z.c] 26)
  replace hP := hP.alloc (.cells #[.slice a.x.A a.x.n a.x.c, .slice a.y.A a.y.n a.y.c, .slice a.z.A a.z.n a.z.c] 26)
  replace hQ := hQ.alloc (.cells #[.slice a.x.A a.x.n a.x.c, .slice a.y.A a.y.n a.y.c, .slice a.z.A a.z.n a.z.c] 26)
  replace hQ2 := hQ2.alloc (.cells #[.slice a.x.A a.x.n a.x.c, .slice a.y.A a.y.n a.y.c, .slice a.z.A a.z.n a.z.c] 26)
  replace hM := hM.alloc (.cells #[.slice a.x.A a.x.n a.x.c, .slice a.y.A a.y.n a.y.c, .slice a.z.A a.z.n a.z.c] 26)
  replace hV := hV.alloc (.cells #[.slice a.x.A a.x.n a.x.c, .slice a.y.A a.y.n a.y.c, .slice a.z.A a.z.n a.z.c] 26)
  replace hV2 := hV2.alloc (.cells #[.slice a.x.A a.x.n a.x.c, .slice a.y.A a.y.n a.y.c, .slice a.z.A a.z.n a.z.c] 26)
  replace hD := hD.alloc (.cells #[.slice a.x.A a.x.n a.x.c, .slice a.y.A a.y.n a.y.c, .slice a.z.A a.z.n a.z.c] 26)
  replace hF := hF.alloc (.cells #[.slice a.x.A a.x.n a.x.c, .slice a.y.A a.y.n a.y.c, .slice a.z.A a.z.n a.z.c] 26)
  replace hX := hX.alloc (.cells #[.slice a.x.A a.x.n a.x.c, .slice a.y.A a.y.n a.y.c, .slice a.z.A a.z.n a.z.c] 26)
  obtain ⟨qhP0, qhP1, qhP2⟩ := hP.c3
  obtain ⟨qhQ0, qhQ1, qhQ2⟩ := hQ.c3
  obtain ⟨qhQ20, qhQ21, qhQ22⟩ := hQ2.c3
  obtain ⟨qhM0, qhM1, qhM2⟩ := hM.c3
  obtain ⟨qhV0, qhV1, qhV2⟩ := hV.c3
  obtain ⟨qhV20, qhV21, qhV22⟩ := hV2.c3
  obtain ⟨qhD0, qhD1, qhD2⟩ := hD.c3
  obtain ⟨qhF0, qhF1, qhF2⟩ := hF.c3
  obtain ⟨qhA0, qhA1, qhA2⟩ := hA.c3
  go_wp2_with fail
  refine (impl.RoleOf_any a la y4 _ oa.rd).mono ?_
  rintro e w16 ⟨rfl, hx⟩
  clear qhP0 qhP1 qhP2 qhQ0 qhQ1 qhQ2 qhQ20 qhQ21 qhQ22 qhM0 qhM1 qhM2 qhV0 qhV1 qhV2 qhV20 qhV21 qhV22 qhD0 qhD1 qhD2 qhF0 qhF1 qhF2 qhA0 qhA1 qhA2
  replace op := op.ext hx
  replace oq := oq.ext hx
  replace oq2 := oq2.ext hx
  replace om := om.ext hx
  replace ov := ov.ext hx
  replace ov2 := ov2.ext hx
  replace od := od.ext hx
  replace of := of.ext hx
  replace ot := ot.ext hx
  replace oh1 := oh1.ext hx
  replace oh2 := oh2.ext hx
  replace oa := oa.ext hx
  replace hP := hP.ext hx
  replace hQ := hQ.ext hx
  replace hQ2 := hQ2.ext hx
  replace hM := hM.ext hx
  replace hV := hV.ext hx
  replace hV2 := hV2.ext hx
  replace hD := hD.ext hx
  replace hF := hF.ext hx
  replace hA := hA.ext hx
  replace hX := hX.trans hx
  clear hx
  obtain ⟨qhP0, qhP1, qhP2⟩ := hP.c3
  obtain ⟨qhQ0, qhQ1, qhQ2⟩ := hQ.c3
  obtain ⟨qhQ20, qhQ21, qhQ22⟩ := hQ2.c3
  obtain ⟨qhM0, qhM1, qhM2⟩ := hM.c3
  obtain ⟨qhV0, qhV1, qhV2⟩ := hV.c3
  obtain ⟨qhV20, qhV21, qhV22⟩ := hV2.c3
  obtain ⟨qhD0, qhD1, qhD2⟩ := hD.c3
  obtain ⟨qhF0, qhF1, qhF2⟩ := hF.c3
  obtain ⟨qhA0, qhA1, qhA2⟩ := hA.c3
  go_wp2_with fail
  refine (spec.RoleOf_any a la y4 _ oa.rd).mono ?_
  rintro e w17 ⟨rfl, hx⟩
  clear qhP0 qhP1 qhP2 qhQ0 qhQ1 qhQ2 qhQ20 qhQ21 qhQ22 qhM0 qhM1 qhM2 qhV0 qhV1 qhV2 qhV20 qhV21 qhV22 qhD0 qhD1 qhD2 qhF0 qhF1 qhF2 qhA0 qhA1 qhA2
  replace op := op.ext hx
  replace oq := oq.ext hx
  replace oq2 := oq2.ext hx
  replace om := om.ext hx
  replace ov := ov.ext hx
  replace ov2 := ov2.ext hx
  replace od := od.ext hx
  replace of := of.ext hx
  replace ot := ot.ext hx
  replace oh1 := oh1.ext hx
  replace oh2 := oh2.ext hx
  replace oa := oa.ext hx
  replace hP := hP.ext hx
  replace hQ := hQ.ext hx
  replace hQ2 := hQ2.ext hx
  replace hM := hM.ext hx
  replace hV := hV.ext hx
  replace hV2 := hV2.ext hx
  replace hD := hD.ext hx
  replace hF := hF.ext hx
  replace hA := hA.ext hx
  replace hX := hX.trans hx
  clear hx
  obtain ⟨qhP0, qhP1, qhP2⟩ := hP.c3
  obtain ⟨qhQ0, qhQ1, qhQ2⟩ := hQ.c3
  obtain ⟨qhQ20, qhQ21, qhQ22⟩ := hQ2.c3
  obtain ⟨qhM0, qhM1, qhM2⟩ := hM.c3
  obtain ⟨qhV0, qhV1, qhV2⟩ := hV.c3
  obtain ⟨qhV20, qhV21, qhV22⟩ := hV2.c3
  obtain ⟨qhD0, qhD1, qhD2⟩ := hD.c3
  obtain ⟨qhF0, qhF1, qhF2⟩ := hF.c3
  obtain ⟨qhA0, qhA1, qhA2⟩ := hA.c3
  go_wp2_with fail
  refine (likeJury_yes q q2 _ _ oq.rd oq2.rd).mono ?_
  rintro e w18 ⟨rfl, hx⟩
  clear qhP0 qhP1 qhP2 qhQ0 qhQ1 qhQ2 qhQ20 qhQ21 qhQ22 qhM0 qhM1 qhM2 qhV0 qhV1 qhV2 qhV20 qhV21 qhV22 qhD0 qhD1 qhD2 qhF0 qhF1 qhF2 qhA0 qhA1 qhA2
  replace op := op.ext hx
  replace oq := oq.ext hx
  replace oq2 := oq2.ext hx
  replace om := om.ext hx
  replace ov := ov.ext hx
  replace ov2 := ov2.ext hx
  replace od := od.ext hx
  replace of := of.ext hx
  replace ot := ot.ext hx
  replace oh1 := oh1.ext hx
  replace oh2 := oh2.ext hx
  replace oa := oa.ext hx
  replace hP := hP.ext hx
  replace hQ := hQ.ext hx
  replace hQ2 := hQ2.ext hx
  replace hM := hM.ext hx
  replace hV := hV.ext hx
  replace hV2 := hV2.ext hx
  replace hD := hD.ext hx
  replace hF := hF.ext hx
  replace hA := hA.ext hx
  replace hX := hX.trans hx
  clear hx
  obtain ⟨qhP0, qhP1, qhP2⟩ := hP.c3
  obtain ⟨qhQ0, qhQ1, qhQ2⟩ := hQ.c3
  obtain ⟨qhQ20, qhQ21, qhQ22⟩ := hQ2.c3
  obtain ⟨qhM0, qhM1, qhM2⟩ := hM.c3
  obtain ⟨qhV0, qhV1, qhV2⟩ := hV.c3
  obtain ⟨qhV20, qhV21, qhV22⟩ := hV2.c3
  obtain ⟨qhD0, qhD1, qhD2⟩ := hD.c3
  obtain ⟨qhF0, qhF1, qhF2⟩ := hF.c3
  obtain ⟨qhA0, qhA1, qhA2⟩ := hA.c3
  go_wp2_with fail
  refine (likeJury_yes v v2 _ _ ov.rd ov2.rd).mono ?_
  rintro e w19 ⟨rfl, hx⟩
  clear qhP0 qhP1 qhP2 qhQ0 qhQ1 qhQ2 qhQ20 qhQ21 qhQ22 qhM0 qhM1 qhM2 qhV0 qhV1 qhV2 qhV20 qhV21 qhV22 qhD0 qhD1 qhD2 qhF0 qhF1 qhF2 qhA0 qhA1 qhA2
  replace op := op.ext hx
  replace oq := oq.ext hx
  replace oq2 := oq2.ext hx
  replace om := om.ext hx
  replace ov := ov.ext hx
  replace ov2 := ov2.ext hx
  replace od := od.ext hx
  replace of := of.ext hx
  replace ot := ot.ext hx
  replace oh1 := oh1.ext hx
  replace oh2 := oh2.ext hx
  replace oa := oa.ext hx
  replace hP := hP.ext hx
  replace hQ := hQ.ext hx
  replace hQ2 := hQ2.ext hx
  replace hM := hM.ext hx
  replace hV := hV.ext hx
  replace hV2 := hV2.ext hx
  replace hD := hD.ext hx
  replace hF := hF.ext hx
  replace hA := hA.ext hx
  replace hX := hX.trans hx
  clear hx
  obtain ⟨qhP0, qhP1, qhP2⟩ := hP.c3
  obtain ⟨qhQ0, qhQ1, qhQ2⟩ := hQ.c3
  obtain ⟨qhQ20, qhQ21, qhQ22⟩ := hQ2.c3
  obtain ⟨qhM0, qhM1, qhM2⟩ := hM.c3
  obtain ⟨qhV0, qhV1, qhV2⟩ := hV.c3
  obtain ⟨qhV20, qhV21, qhV22⟩ := hV2.c3
  obtain ⟨qhD0, qhD1, qhD2⟩ := hD.c3
  obtain ⟨qhF0, qhF1, qhF2⟩ := hF.c3
  obtain ⟨qhA0, qhA1, qhA2⟩ := hA.c3
  go_wp2_with fail
  refine (likeInts_yes h1 h2 _ _ oh1.rd oh2.rd).mono ?_
  rintro e w20 ⟨rfl, hx⟩
  clear qhP0 qhP1 qhP2 qhQ0 qhQ1 qhQ2 qhQ20 qhQ21 qhQ22 qhM0 qhM1 qhM2 qhV0 qhV1 qhV2 qhV20 qhV21 qhV22 qhD0 qhD1 qhD2 qhF0 qhF1 qhF2 qhA0 qhA1 qhA2
  replace op := op.ext hx
  replace oq := oq.ext hx
  replace oq2 := oq2.ext hx
  replace om := om.ext hx
  replace ov := ov.ext hx
  replace ov2 := ov2.ext hx
  replace od := od.ext hx
  replace of := of.ext hx
  replace ot := ot.ext hx
  replace oh1 := oh1.ext hx
  replace oh2 := oh2.ext hx
  replace oa := oa.ext hx
  replace hP := hP.ext hx
  replace hQ := hQ.ext hx
  replace hQ2 := hQ2.ext hx
  replace hM := hM.ext hx
  replace hV := hV.ext hx
  replace hV2 := hV2.ext hx
  replace hD := hD.ext hx
  replace hF := hF.ext hx
  replace hA := hA.ext hx
  replace hX := hX.trans hx
  clear hx
  clear hQ2 hM hV hV2 hD hF hA oq2 om ov ov2 od of ot oh1 oh2 oa htn hml
  go_upto_region 22 with fail
  go_cut [218] (fun s218 wx => s218 = .bool false ∧ wx = w20)
  case first =>
    clear hP hQ op oq hX hc
    by_cases hcd : codeC (okJ ld) (inB z 1 12) = 0
    · have hok : okJ ld = true ∧ inB z 1 12 = true := by
        unfold codeC at hcd
        cases e1 : okJ ld
        · rw [e1] at hcd; cases hcd
        · cases e2 : inB z 1 12
          · rw [e1, e2] at hcd; cases hcd
          · exact ⟨rfl, rfl⟩
      have hh : (mayV ld z != decide (0 ≤ lossV ld z)) = false := by
        have e1 : lossV ld z = if ((nz ld.x).length : Int) < z then -1 else (nz ld.x).length - z + ld.y.length := by unfold lossV; rw [if_pos hok]
        have e2 : mayV ld z = decide (z ≤ ((nz ld.x).length : Int)) := by unfold mayV; rw [hok.1, hok.2]; rfl
        rw [e1, e2]
        by_cases hz : ((nz ld.x).length : Int) < z
        · rw [if_pos hz, decide_eq_false (show ¬ z ≤ ((nz ld.x).length : Int) by omega)]; rfl
        · rw [if_neg hz, decide_eq_true (show z ≤ ((nz ld.x).length : Int) by omega), decide_eq_true (show (0 : Int) ≤ (nz ld.x).length - z + ld.y.length by omega)]; rfl
      have hcb : (codeC (okJ ld) (inB z 1 12) == 0) = true := by rw [hcd]; rfl
      replace hh := hide hh
      clear hcd hok
      go_wp2_with fail
      go_meet
      exact ⟨congrArg Value.bool hh.out, rfl⟩
    · have hcb : (codeC (okJ ld) (inB z 1 12) == 0) = false := by rw [beq_eq_false_iff_ne]; exact hcd
      clear hcd
      go_wp2_with fail
      go_meet
      exact ⟨rfl, rfl⟩
  case rest =>
    obtain ⟨rfl, hwc⟩ := hcut
    have hwc2 := hwc.symm
    subst hwc2
    clear hwc
    obtain ⟨qhP0, qhP1, qhP2⟩ := hP.c3
    obtain ⟨qhQ0, qhQ1, qhQ2⟩ := hQ.c3
    by_cases he : ljC l x = 0
    case neg =>
      have he' : (ljC l x != 0) = true := by rw [bne_iff_ne]; exact he
      clear he
      go_wp2_with fail
      go_ret
      exact ⟨rfl, hX⟩
    obtain ⟨hok, hxb, hmem, hz60⟩ := ljC_0 he
    have hok2 := okJ_lv he
    have hrole := role_lv he
    obtain ⟨hct1, hct2⟩ := lv_count he
    have hv := ljV_yes he
    rw [hv] at oq
    have hs1 := fun W h => impl.MembersOf_any p l W h
    have hs2 := fun W h => impl.MembersOf_any q (lvV l x) W h
    have hs3 := fun W h => impl.RoleOf_any q (lvV l x) x W h
    have hs4 := fun W h => impl.IsJury_any q (lvV l x) W h
    have c1 : okJC l = 0 := by unfold okJC; rw [hok]; rfl
    have c2 : okJC (lvV l x) = 0 := by unfold okJC; rw [hok2]; rfl
    have c3 : codeC (okJ (lvV l x)) (inB x 1 1000000) = 0 := by unfold codeC; rw [hok2, inB_yes hxb]; rfl
    have v1 : membersV l = nz l.x := by unfold membersV; rw [hok]; rfl
    have v2 : membersV (lvV l x) = nz (lvV l x).x := by unfold membersV; rw [hok2]; rfl
    simp only [c1, v1] at hs1
    simp only [c2, v2] at hs2
    simp only [c3, hrole] at hs3
    simp only [hok2] at hs4
    have hpy := op.rd.2.1.1
    have hqy := oq.rd.2.1.1
    have hlx := okJ_small hok
    have hlx2 := okJ_small hok2
    replace hct1 := hide (show (nz l.x).length + p.y.n = (nz (lvV l x).x).length + q.y.n + 1 by omega)
    replace hct2 := hide (show p.y.n = 0 ∨ (nz (lvV l x).x).length = (nz l.x).length by omega)
    have hbd := hide (show p.y.n ≤ 6 ∧ q.y.n ≤ 6 ∧ (nz l.x).length ≤ 12 ∧ (nz (lvV l x).x).length ≤ 12 by have := nz_le l.x; have := nz_le (lvV l x).x; omega)
    rw [he]
    clear hok hok2 hrole hmem hz60 hxb hv c1 c2 c3 v1 v2 hpy hqy hlx hlx2 he
    go_wp2_with fail
    refine (hs1 _ op.rd).mono ?_
    rintro e wb ⟨sb, rfl, osb, hx⟩
    clear qhP0 qhP1 qhP2 qhQ0 qhQ1 qhQ2
    replace op := op.ext hx
    replace oq := oq.ext hx
    replace hP := hP.ext hx
    replace hQ := hQ.ext hx
    replace hX := hX.trans hx
    have hsb := hide (show sb.n = (nz l.x).length from osb.rd.1)
    clear hx hs1 osb
    obtain ⟨qhP0, qhP1, qhP2⟩ := hP.c3
    obtain ⟨qhQ0, qhQ1, qhQ2⟩ := hQ.c3
    go_wp2_with fail
    refine (hs2 _ oq.rd).mono ?_
    rintro e we ⟨sc, rfl, osc, hx⟩
    clear qhP0 qhP1 qhP2 qhQ0 qhQ1 qhQ2
    replace op := op.ext hx
    replace oq := oq.ext hx
    replace hP := hP.ext hx
    replace hQ := hQ.ext hx
    replace hX := hX.trans hx
    have hsc := hide (show sc.n = (nz (lvV l x).x).length from osc.rd.1)
    clear hx hs2 osc
    obtain ⟨qhP0, qhP1, qhP2⟩ := hP.c3
    obtain ⟨qhQ0, qhQ1, qhQ2⟩ := hQ.c3
    go_wp2_with fail
    refine (hs3 _ oq.rd).mono ?_
    rintro e wf ⟨rfl, hx⟩
    clear qhP0 qhP1 qhP2 qhQ0 qhQ1 qhQ2
    replace op := op.ext hx
    replace oq := oq.ext hx
    replace hP := hP.ext hx
    replace hQ := hQ.ext hx
    replace hX := hX.trans hx
    clear hx hs3
    obtain ⟨qhP0, qhP1, qhP2⟩ := hP.c3
    obtain ⟨qhQ0, qhQ1, qhQ2⟩ := hQ.c3
    obtain ⟨TT, hTT⟩ : ∃ TT : Nat, Hid (TT = sb.n + p.y.n) := ⟨_, rfl⟩
    have e1 : IntKind.i64.wrap ((sb.n : Int) + (p.y.n : Int)) = (TT : Int) := by rw [Go.IntWalk.i64_in _ (by have := hsb.out; have := hbd.out; omega), hTT.out]; simp
    have e2 : IntKind.i64.wrap ((sc.n : Int) + (q.y.n : Int)) = (sc.n : Int) + (q.y.n : Int) := Go.IntWalk.i64_in _ (by have := hsc.out; have := hbd.out; omega)
    have e3 : IntKind.i64.wrap ((sc.n : Int) + (q.y.n : Int) + 1) = (TT : Int) := by have a1 := hsb.out; have a2 := hsc.out; have a3 := hct1.out; have a4 := hbd.out; have a5 := hTT.out; rw [Go.IntWalk.i64_in _ (by omega)]; omega
    go_wp2_with fail
    refine (hs4 _ oq.rd).mono ?_
    rintro e wh ⟨rfl, hx⟩
    clear qhP0 qhP1 qhP2 qhQ0 qhQ1 qhQ2
    replace hP := hP.ext hx
    replace hQ := hQ.ext hx
    replace hX := hX.trans hx
    clear hx hs4
    obtain ⟨qhP0, qhP1, qhP2⟩ := hP.c3
    obtain ⟨qhQ0, qhQ1, qhQ2⟩ := hQ.c3
    by_cases hy0 : p.y.n = 0
    · have hy1 : ((p.y.n : Int) == 0) = true := by rw [hy0]; rfl
      clear hy0
      go_wp2_with fail
      go_ret
      exact ⟨rfl, hX⟩
    · have hy1 : ((p.y.n : Int) == 0) = false := by rw [beq_eq_false_iff_ne]; omega
      have hy2 : ((sc.n : Int) == (sb.n : Int)) = true := by have a1 := hsb.out; have a2 := hsc.out; have a3 := hct2.out; rw [beq_iff_eq]; omega
      clear hy0
      go_wp2_with fail
      go_ret
      exact ⟨rfl, hX⟩

theorem own_FnJuries : ownKnob Try.prog.godebug = none := by kernel_rfl
set_option maxRecDepth 100000 in
theorem lifted_FnJuries (os : Os) (started : os.Started) (H : Type) (enc : TypeId × Value → H) :
    ReturnsInHanded {} Try.checked os 6 .any (Rows.fnJuriesSpec.pre6 enc Try.prog Try.f6 Rows.fnJuriesRow.domain false) (Rows.fnJuriesSpec.post enc Try.prog Try.f6 false true false false) := by
  refine returnsInHanded_of_change (C := Try.checked) own_FnJuries started (by kernel_rfl) Try.func6
    (ChangeSpec.witness6 (enc := enc) (C := Try.checked) false ⟨#[], #[.slice none 0 0], []⟩ 8 (by kernel_rfl) (by kernel_rfl) (by kernel_rfl) (by kernel_rfl)) ?_
  intro W base args ds gs before hval0 hW hcnd _
  have hval : ∀ (j : Nat) t v, Try.f6.params[j]? = some t → args[j]? = some v → Value.okWide Try.prog W .any base t v := hval0
  have hW' := hW
  obtain ⟨p, q, hA0, hV, rfl, hfz, hnd⟩ := hW
  have hA : DataW.TrodAll enc Try.prog W 0 (fun _ => true) true Try.f6.params.toList args.toList ds p := hA0
  rw [Try.params6] at hA hval
  obtain ⟨v0, vs0, d0, ds0, p0, q0, hargs, rfl, rfl, h0, r0⟩ := trodAll_cons hA
  obtain ⟨rfl, rfl, rfl⟩ := trodAll_nil r0
  obtain rfl : args = #[v0] := by cases args; simp_all
  obtain ⟨rfl, rfl⟩ := trodVars_none hV
  have k0 := h0
  have lt0 : ∀ x ∈ p0, x.block < W.heap.size := by obtain ⟨m, hm⟩ := k0; exact DataW.trod_lt m _ _ _ hm
  obtain ⟨s0, rfl, i0, c0⟩ := open_code (hval 0 22 v0 rfl rfl) h0 (fun _ => rfl)
  clear hA0 hval0
  refine (law_FnJuries s0 W i0 c0).mono fun e W' ⟨he, bel⟩ => ?_
  subst he
  exact ⟨_, rfl, _, _, _, [], _, [], hW', trodAll_mk1 (shut_bool Try.underlying4 _), (trodAll_cons_mk (Below.trod laidOut (by kernel_rfl) (of_decide_eq_true (by kernel_rfl)) k0 bel lt0) trodAll_mk0), rfl, Below.frame bel _, fun h => by cases h⟩
theorem over_FnJuries : Rows.fnJuriesRow.holds Try.pinned (OpenSpec.ofChange Rows.fnJuriesSpec) :=
  OpenClaim.holds_of_wide 6 Try.f6 rfl rfl rfl rfl rfl rfl rfl ⟨rfl, rfl, rfl, rfl, rfl⟩ rfl rfl rfl rfl rfl (by kernel_rfl) Try.func6 (by kernel_rfl)
    (of_decide_eq_true (by kernel_rfl)) (by unfold Func.isWrapper; first | (rw [if_pos (by decide +kernel)]; kernel_rfl) | (rw [if_neg (by decide +kernel)]; exact ⟨rfl, rfl⟩))
    (fun os started H enc _ => lifted_FnJuries os started H enc)
/-- the statement -/
theorem proved_FnJuries : Rows.FnJuriesSaid := over_FnJuries
#print axioms proved_FnJuries
end Go.Proofs.Ytkfjphjmffbpiaa.mem
