/-
  The law FnStrikes holds of the given program for every input: it returns true, and its argument reads as it did.
-/
import Derived.Test.YtkfjphjmffbpiaaDrS
import Derived.Test.YtkfjphjmffbpiaaStP
import Derived.Test.YtkfjphjmffbpiaaSelTop
import Derived.Test.YtkfjphjmffbpiaaPlayM
import Derived.Test.YtkfjphjmffbpiaaPassTop
import Derived.Test.YtkfjphjmffbpiaaStrS
import Derived.Test.YtkfjphjmffbpiaaOpenC
import Derived.Test.Ytkfjphjmffbpiaa3s
import Derived.Test.YtkfjphjmffbpiaaReg
namespace Go.Proofs.Ytkfjphjmffbpiaa.mem
open Go.ChangeShapes Go.WideShapes Go.ChangeAt Go.RowKit
set_option linter.unusedVariables false
set_option maxRecDepth 20000 in
theorem run_toS (w : World) {o : Oper} {a : Act} (x l : Operand)
    (ho : o.op = .slice 24 x none (some l) none) (A : Option Addr) (n c : Nat) (hx : a.eval x = .slice A n c) (k : Nat) (hl : a.eval l = .int .i64 k) (hk : k ≤ c) (hA : A = none ∨ ∃ b off, A = some ⟨b, off, none⟩) :
    (execOp a.eval o).run Try.prog w = .ok (.value (.slice A k c)) w := by
  rcases hA with rfl | ⟨b, off, rfl⟩
  case inr => exact run_to w x l ho b off n c hx k hl hk
  obtain ⟨i, hi, hz0, hz1, hz2⟩ := info_parts ints_info
  have hu : Try.prog.underlying 24 = some (.slice (Try.prog.elem 24)) := by kernel_rfl
  have he : Try.prog.elem 24 = 2 := by kernel_rfl
  have hrun := run_slice_h (P := Try.prog) (w := w) 24 none n c hu .i64 (k : Int) (by omega) (by omega)
  have hs : (sizeOf 2).run Try.prog w = .ok 1 w := by simp [sizeOf, typeInfo, hi, hz1]
  rw [he, hs] at hrun
  simp only [Result.andThen_ok, sliced, Int.toNat_natCast, Nat.sub_zero, Option.map_none, Nat.zero_mul, ite_self] at hrun
  have hat : (Instr.sliceAt 24 (.slice none n c) none (some (.int .i64 (k : Int))) none).run Try.prog w = .ok (.slice none k c) w := by
    rw [run_sliceAt_slice (h := hu)]
    exact hrun
  unfold execOp
  simp only [ho, Option.map_some, Option.map_none, hx, hl, Sem.run_bind, Sem.run_pure, hat, Result.andThen_ok]
set_option maxRecDepth 20000 in
set_option maxHeartbeats 24000000 in
theorem law_FnStrikes (s : Sl) (w : World) (hb0 : RdB w s.A s.n) (hcap : cap1 s) :
    Calls Try.prog 5 #[.slice s.A s.n s.c] w fun e w' => e = .returned (.bool true) ∧ Ext w w' := by
  have hX := Ext.refl w
  have hbig := laws.big_any s w hcap
  by_cases hs : 4096 < s.n
  · rw [decide_eq_true hs] at hbig
    clear hs
    go_enter Try.func5, Try.ntmps5
    go_wp2_with fail
    refine hbig.mono ?_
    rintro e w' ⟨rfl, rfl⟩
    go_wp2_with fail
    go_ret
    exact ⟨rfl, hX⟩
  rw [decide_eq_false hs] at hbig
  have hc : Code w s := ⟨hb0, by omega, hcap⟩
  clear hs hb0 hcap
  go_enter Try.func5, Try.ntmps5
  go_wp2_with fail
  refine hbig.mono ?_
  rintro e w' ⟨rfl, rfl⟩
  clear hbig
  go_wp2_with fail
  refine (spec.DrawStrikeSeat_any s _ (hc.ext hX)).mono ?_
  rintro e w1 ⟨x, y, k, rfl, ox, hsx, hx⟩
  replace hX := hX.trans hx
  clear hx
  have hP := Blk.new w1 51 (#[.slice x.p.x.A x.p.x.n x.p.x.c, .slice x.p.y.A x.p.y.n x.p.y.c, .slice x.p.z.A x.p.z.n x.p.z.c, .slice x.s.A x.s.n x.s.c, .int .i64 x.t, .int .i64 x.q])
  replace ox := ox.alloc (.cells #[.slice x.p.x.A x.p.x.n x.p.x.c, .slice x.p.y.A x.p.y.n x.p.y.c, .slice x.p.z.A x.p.z.n x.p.z.c, .slice x.s.A x.s.n x.s.c, .int .i64 x.t, .int .i64 x.q] 51)
  replace hX := hX.alloc (.cells #[.slice x.p.x.A x.p.x.n x.p.x.c, .slice x.p.y.A x.p.y.n x.p.y.c, .slice x.p.z.A x.p.z.n x.p.z.c, .slice x.s.A x.s.n x.s.c, .int .i64 x.t, .int .i64 x.q] 51)
  clear hsx
  obtain ⟨qhP0, qhP1, qhP2, qhP3, qhP4, qhP5⟩ := hP.c6
  go_wp2_with fail
  refine (impl.StrikeSeat_any x y k _ ox.rd).mono ?_
  rintro e w2 ⟨u1, rfl, ou1, hx⟩
  clear qhP0 qhP1 qhP2 qhP3 qhP4 qhP5
  replace ox := ox.ext hx
  replace hP := hP.ext hx
  replace hX := hX.trans hx
  clear hx
  have hU1 := Blk.new w2 51 (#[.slice u1.p.x.A u1.p.x.n u1.p.x.c, .slice u1.p.y.A u1.p.y.n u1.p.y.c, .slice u1.p.z.A u1.p.z.n u1.p.z.c, .slice u1.s.A u1.s.n u1.s.c, .int .i64 u1.t, .int .i64 u1.q])
  replace ox := ox.alloc (.cells #[.slice u1.p.x.A u1.p.x.n u1.p.x.c, .slice u1.p.y.A u1.p.y.n u1.p.y.c, .slice u1.p.z.A u1.p.z.n u1.p.z.c, .slice u1.s.A u1.s.n u1.s.c, .int .i64 u1.t, .int .i64 u1.q] 51)
  replace ou1 := ou1.alloc (.cells #[.slice u1.p.x.A u1.p.x.n u1.p.x.c, .slice u1.p.y.A u1.p.y.n u1.p.y.c, .slice u1.p.z.A u1.p.z.n u1.p.z.c, .slice u1.s.A u1.s.n u1.s.c, .int .i64 u1.t, .int .i64 u1.q] 51)
  replace hP := hP.alloc (.cells #[.slice u1.p.x.A u1.p.x.n u1.p.x.c, .slice u1.p.y.A u1.p.y.n u1.p.y.c, .slice u1.p.z.A u1.p.z.n u1.p.z.c, .slice u1.s.A u1.s.n u1.s.c, .int .i64 u1.t, .int .i64 u1.q] 51)
  replace hX := hX.alloc (.cells #[.slice u1.p.x.A u1.p.x.n u1.p.x.c, .slice u1.p.y.A u1.p.y.n u1.p.y.c, .slice u1.p.z.A u1.p.z.n u1.p.z.c, .slice u1.s.A u1.s.n u1.s.c, .int .i64 u1.t, .int .i64 u1.q] 51)
  obtain ⟨qhP0, qhP1, qhP2, qhP3, qhP4, qhP5⟩ := hP.c6
  obtain ⟨qhU10, qhU11, qhU12, qhU13, qhU14, qhU15⟩ := hU1.c6
  go_wp2_with fail
  refine (spec.StrikeSeat_any x y k _ ox.rd).mono ?_
  rintro e w3 ⟨u2, rfl, ou2, hx⟩
  clear qhP0 qhP1 qhP2 qhP3 qhP4 qhP5 qhU10 qhU11 qhU12 qhU13 qhU14 qhU15
  replace ox := ox.ext hx
  replace ou1 := ou1.ext hx
  replace hP := hP.ext hx
  replace hU1 := hU1.ext hx
  replace hX := hX.trans hx
  clear hx
  have hU2 := Blk.new w3 51 (#[.slice u2.p.x.A u2.p.x.n u2.p.x.c, .slice u2.p.y.A u2.p.y.n u2.p.y.c, .slice u2.p.z.A u2.p.z.n u2.p.z.c, .slice u2.s.A u2.s.n u2.s.c, .int .i64 u2.t, .int .i64 u2.q])
  replace ox := ox.alloc (.cells #[.slice u2.p.x.A u2.p.x.n u2.p.x.c, .slice u2.p.y.A u2.p.y.n u2.p.y.c, .slice u2.p.z.A u2.p.z.n u2.p.z.c, .slice u2.s.A u2.s.n u2.s.c, .int .i64 u2.t, .int .i64 u2.q] 51)
  replace ou1 := ou1.alloc (.cells #[.slice u2.p.x.A u2.p.x.n u2.p.x.c, .slice u2.p.y.A u2.p.y.n u2.p.y.c, .slice u2.p.z.A u2.p.z.n u2.p.z.c, .slice u2.s.A u2.s.n u2.s.c, .int .i64 u2.t, .int .i64 u2.q] 51)
  replace ou2 := ou2.alloc (.cells #[.slice u2.p.x.A u2.p.x.n u2.p.x.c, .slice u2.p.y.A u2.p.y.n u2.p.y.c, .slice u2.p.z.A u2.p.z.n u2.p.z.c, .slice u2.s.A u2.s.n u2.s.c, .int .i64 u2.t, .int .i64 u2.q] 51)
  replace hP := hP.alloc (.cells #[.slice u2.p.x.A u2.p.x.n u2.p.x.c, .slice u2.p.y.A u2.p.y.n u2.p.y.c, .slice u2.p.z.A u2.p.z.n u2.p.z.c, .slice u2.s.A u2.s.n u2.s.c, .int .i64 u2.t, .int .i64 u2.q] 51)
  replace hU1 := hU1.alloc (.cells #[.slice u2.p.x.A u2.p.x.n u2.p.x.c, .slice u2.p.y.A u2.p.y.n u2.p.y.c, .slice u2.p.z.A u2.p.z.n u2.p.z.c, .slice u2.s.A u2.s.n u2.s.c, .int .i64 u2.t, .int .i64 u2.q] 51)
  replace hX := hX.alloc (.cells #[.slice u2.p.x.A u2.p.x.n u2.p.x.c, .slice u2.p.y.A u2.p.y.n u2.p.y.c, .slice u2.p.z.A u2.p.z.n u2.p.z.c, .slice u2.s.A u2.s.n u2.s.c, .int .i64 u2.t, .int .i64 u2.q] 51)
  obtain ⟨qhP0, qhP1, qhP2, qhP3, qhP4, qhP5⟩ := hP.c6
  obtain ⟨qhU10, qhU11, qhU12, qhU13, qhU14, qhU15⟩ := hU1.c6
  obtain ⟨qhU20, qhU21, qhU22, qhU23, qhU24, qhU25⟩ := hU2.c6
  go_wp2_with fail
  refine (spec.DrawPlayMoves_any s _ (hc.ext hX)).mono ?_
  rintro e w4 ⟨a, ya, t, ms, rfl, oa, hsa, ot, hml, hx⟩
  clear qhP0 qhP1 qhP2 qhP3 qhP4 qhP5 qhU10 qhU11 qhU12 qhU13 qhU14 qhU15 qhU20 qhU21 qhU22 qhU23 qhU24 qhU25
  replace ox := ox.ext hx
  replace ou1 := ou1.ext hx
  replace ou2 := ou2.ext hx
  replace hP := hP.ext hx
  replace hU1 := hU1.ext hx
  replace hU2 := hU2.ext hx
  replace hX := hX.trans hx
  clear hx
  have hA := Blk.new w4 51 (#[.slice a.p.x.A a.p.x.n a.p.x.c, .slice a.p.y.A a.p.y.n a.p.y.c, .slice a.p.z.A a.p.z.n a.p.z.c, .slice a.s.A a.s.n a.s.c, .int .i64 a.t, .int .i64 a.q])
  replace ox := ox.alloc (.cells #[.slice a.p.x.A a.p.x.n a.p.x.c, .slice a.p.y.A a.p.y.n a.p.y.c, .slice a.p.z.A a.p.z.n a.p.z.c, .slice a.s.A a.s.n a.s.c, .int .i64 a.t, .int .i64 a.q] 51)
  replace ou1 := ou1.alloc (.cells #[.slice a.p.x.A a.p.x.n a.p.x.c, .slice a.p.y.A a.p.y.n a.p.y.c, .slice a.p.z.A a.p.z.n a.p.z.c, .slice a.s.A a.s.n a.s.c, .int .i64 a.t, .int .i64 a.q] 51)
  replace ou2 := ou2.alloc (.cells #[.slice a.p.x.A a.p.x.n a.p.x.c, .slice a.p.y.A a.p.y.n a.p.y.c, .slice a.p.z.A a.p.z.n a.p.z.c, .slice a.s.A a.s.n a.s.c, .int .i64 a.t, .int .i64 a.q] 51)
  replace oa := oa.alloc (.cells #[.slice a.p.x.A a.p.x.n a.p.x.c, .slice a.p.y.A a.p.y.n a.p.y.c, .slice a.p.z.A a.p.z.n a.p.z.c, .slice a.s.A a.s.n a.s.c, .int .i64 a.t, .int .i64 a.q] 51)
  replace ot := ot.alloc (.cells #[.slice a.p.x.A a.p.x.n a.p.x.c, .slice a.p.y.A a.p.y.n a.p.y.c, .slice a.p.z.A a.p.z.n a.p.z.c, .slice a.s.A a.s.n a.s.c, .int .i64 a.t, .int .i64 a.q] 51)
  replace hP := hP.alloc (.cells #[.slice a.p.x.A a.p.x.n a.p.x.c, .slice a.p.y.A a.p.y.n a.p.y.c, .slice a.p.z.A a.p.z.n a.p.z.c, .slice a.s.A a.s.n a.s.c, .int .i64 a.t, .int .i64 a.q] 51)
  replace hU1 := hU1.alloc (.cells #[.slice a.p.x.A a.p.x.n a.p.x.c, .slice a.p.y.A a.p.y.n a.p.y.c, .slice a.p.z.A a.p.z.n a.p.z.c, .slice a.s.A a.s.n a.s.c, .int .i64 a.t, .int .i64 a.q] 51)
  replace hU2 := hU2.alloc (.cells #[.slice a.p.x.A a.p.x.n a.p.x.c, .slice a.p.y.A a.p.y.n a.p.y.c, .slice a.p.z.A a.p.z.n a.p.z.c, .slice a.s.A a.s.n a.s.c, .int .i64 a.t, .int .i64 a.q] 51)
  replace hX := hX.alloc (.cells #[.slice a.p.x.A a.p.x.n a.p.x.c, .slice a.p.y.A a.p.y.n a.p.y.c, .slice a.p.z.A a.p.z.n a.p.z.c, .slice a.s.A a.s.n a.s.c, .int .i64 a.t, .int .i64 a.q] 51)
  clear hsa
  replace hml := hide hml
  obtain ⟨qhP0, qhP1, qhP2, qhP3, qhP4, qhP5⟩ := hP.c6
  obtain ⟨qhU10, qhU11, qhU12, qhU13, qhU14, qhU15⟩ := hU1.c6
  obtain ⟨qhU20, qhU21, qhU22, qhU23, qhU24, qhU25⟩ := hU2.c6
  obtain ⟨qhA0, qhA1, qhA2, qhA3, qhA4, qhA5⟩ := hA.c6
  go_wp2_with fail
  refine (impl.PlayMoves_any a ya t ms _ oa.rd ot.rd).mono ?_
  rintro e w5 ⟨b1, rfl, ob1, hx⟩
  clear qhP0 qhP1 qhP2 qhP3 qhP4 qhP5 qhU10 qhU11 qhU12 qhU13 qhU14 qhU15 qhU20 qhU21 qhU22 qhU23 qhU24 qhU25 qhA0 qhA1 qhA2 qhA3 qhA4 qhA5
  replace ox := ox.ext hx
  replace ou1 := ou1.ext hx
  replace ou2 := ou2.ext hx
  replace oa := oa.ext hx
  replace ot := ot.ext hx
  replace hP := hP.ext hx
  replace hU1 := hU1.ext hx
  replace hU2 := hU2.ext hx
  replace hA := hA.ext hx
  replace hX := hX.trans hx
  clear hx
  have hB1 := Blk.new w5 51 (#[.slice b1.p.x.A b1.p.x.n b1.p.x.c, .slice b1.p.y.A b1.p.y.n b1.p.y.c, .slice b1.p.z.A b1.p.z.n b1.p.z.c, .slice b1.s.A b1.s.n b1.s.c, .int .i64 b1.t, .int .i64 b1.q])
  replace ox := ox.alloc (.cells #[.slice b1.p.x.A b1.p.x.n b1.p.x.c, .slice b1.p.y.A b1.p.y.n b1.p.y.c, .slice b1.p.z.A b1.p.z.n b1.p.z.c, .slice b1.s.A b1.s.n b1.s.c, .int .i64 b1.t, .int .i64 b1.q] 51)
  replace ou1 := ou1.alloc (.cells #[.slice b1.p.x.A b1.p.x.n b1.p.x.c, .slice b1.p.y.A b1.p.y.n b1.p.y.c, .slice b1.p.z.A b1.p.z.n b1.p.z.c, .slice b1.s.A b1.s.n b1.s.c, .int .i64 b1.t, .int .i64 b1.q] 51)
  replace ou2 := ou2.alloc (.cells #[.slice b1.p.x.A b1.p.x.n b1.p.x.c, .slice b1.p.y.A b1.p.y.n b1.p.y.c, .slice b1.p.z.A b1.p.z.n b1.p.z.c, .slice b1.s.A b1.s.n b1.s.c, .int .i64 b1.t, .int .i64 b1.q] 51)
  replace oa := oa.alloc (.cells #[.slice b1.p.x.A b1.p.x.n b1.p.x.c, .slice b1.p.y.A b1.p.y.n b1.p.y.c, .slice b1.p.z.A b1.p.z.n b1.p.z.c, .slice b1.s.A b1.s.n b1.s.c, .int .i64 b1.t, .int .i64 b1.q] 51)
  replace ot := ot.alloc (.cells #[.slice b1.p.x.A b1.p.x.n b1.p.x.c, .slice b1.p.y.A b1.p.y.n b1.p.y.c, .slice b1.p.z.A b1.p.z.n b1.p.z.c, .slice b1.s.A b1.s.n b1.s.c, .int .i64 b1.t, .int .i64 b1.q] 51)
  replace ob1 := ob1.alloc (.cells #[.slice b1.p.x.A b1.p.x.n b1.p.x.c, .slice b1.p.y.A b1.p.y.n b1.p.y.c, .slice b1.p.z.A b1.p.z.n b1.p.z.c, .slice b1.s.A b1.s.n b1.s.c, .int .i64 b1.t, .int .i64 b1.q] 51)
  replace hP := hP.alloc (.cells #[.slice b1.p.x.A b1.p.x.n b1.p.x.c, .slice b1.p.y.A b1.p.y.n b1.p.y.c, .slice b1.p.z.A b1.p.z.n b1.p.z.c, .slice b1.s.A b1.s.n b1.s.c, .int .i64 b1.t, .int .i64 b1.q] 51)
  replace hU1 := hU1.alloc (.cells #[.slice b1.p.x.A b1.p.x.n b1.p.x.c, .slice b1.p.y.A b1.p.y.n b1.p.y.c, .slice b1.p.z.A b1.p.z.n b1.p.z.c, .slice b1.s.A b1.s.n b1.s.c, .int .i64 b1.t, .int .i64 b1.q] 51)
  replace hU2 := hU2.alloc (.cells #[.slice b1.p.x.A b1.p.x.n b1.p.x.c, .slice b1.p.y.A b1.p.y.n b1.p.y.c, .slice b1.p.z.A b1.p.z.n b1.p.z.c, .slice b1.s.A b1.s.n b1.s.c, .int .i64 b1.t, .int .i64 b1.q] 51)
  replace hA := hA.alloc (.cells #[.slice b1.p.x.A b1.p.x.n b1.p.x.c, .slice b1.p.y.A b1.p.y.n b1.p.y.c, .slice b1.p.z.A b1.p.z.n b1.p.z.c, .slice b1.s.A b1.s.n b1.s.c, .int .i64 b1.t, .int .i64 b1.q] 51)
  replace hX := hX.alloc (.cells #[.slice b1.p.x.A b1.p.x.n b1.p.x.c, .slice b1.p.y.A b1.p.y.n b1.p.y.c, .slice b1.p.z.A b1.p.z.n b1.p.z.c, .slice b1.s.A b1.s.n b1.s.c, .int .i64 b1.t, .int .i64 b1.q] 51)
  obtain ⟨qhP0, qhP1, qhP2, qhP3, qhP4, qhP5⟩ := hP.c6
  obtain ⟨qhU10, qhU11, qhU12, qhU13, qhU14, qhU15⟩ := hU1.c6
  obtain ⟨qhU20, qhU21, qhU22, qhU23, qhU24, qhU25⟩ := hU2.c6
  obtain ⟨qhA0, qhA1, qhA2, qhA3, qhA4, qhA5⟩ := hA.c6
  obtain ⟨qhB10, qhB11, qhB12, qhB13, qhB14, qhB15⟩ := hB1.c6
  go_wp2_with fail
  refine (spec.PlayMoves_any a ya t ms _ oa.rd ot.rd).mono ?_
  rintro e w6 ⟨b2, rfl, ob2, hx⟩
  clear qhP0 qhP1 qhP2 qhP3 qhP4 qhP5 qhU10 qhU11 qhU12 qhU13 qhU14 qhU15 qhU20 qhU21 qhU22 qhU23 qhU24 qhU25 qhA0 qhA1 qhA2 qhA3 qhA4 qhA5 qhB10 qhB11 qhB12 qhB13 qhB14 qhB15
  replace ox := ox.ext hx
  replace ou1 := ou1.ext hx
  replace ou2 := ou2.ext hx
  replace oa := oa.ext hx
  replace ot := ot.ext hx
  replace ob1 := ob1.ext hx
  replace hP := hP.ext hx
  replace hU1 := hU1.ext hx
  replace hU2 := hU2.ext hx
  replace hA := hA.ext hx
  replace hB1 := hB1.ext hx
  replace hX := hX.trans hx
  clear hx
  have hB2 := Blk.new w6 51 (#[.slice b2.p.x.A b2.p.x.n b2.p.x.c, .slice b2.p.y.A b2.p.y.n b2.p.y.c, .slice b2.p.z.A b2.p.z.n b2.p.z.c, .slice b2.s.A b2.s.n b2.s.c, .int .i64 b2.t, .int .i64 b2.q])
  replace ox := ox.alloc (.cells #[.slice b2.p.x.A b2.p.x.n b2.p.x.c, .slice b2.p.y.A b2.p.y.n b2.p.y.c, .slice b2.p.z.A b2.p.z.n b2.p.z.c, .slice b2.s.A b2.s.n b2.s.c, .int .i64 b2.t, .int .i64 b2.q] 51)
  replace ou1 := ou1.alloc (.cells #[.slice b2.p.x.A b2.p.x.n b2.p.x.c, .slice b2.p.y.A b2.p.y.n b2.p.y.c, .slice b2.p.z.A b2.p.z.n b2.p.z.c, .slice b2.s.A b2.s.n b2.s.c, .int .i64 b2.t, .int .i64 b2.q] 51)
  replace ou2 := ou2.alloc (.cells #[.slice b2.p.x.A b2.p.x.n b2.p.x.c, .slice b2.p.y.A b2.p.y.n b2.p.y.c, .slice b2.p.z.A b2.p.z.n b2.p.z.c, .slice b2.s.A b2.s.n b2.s.c, .int .i64 b2.t, .int .i64 b2.q] 51)
  replace oa := oa.alloc (.cells #[.slice b2.p.x.A b2.p.x.n b2.p.x.c, .slice b2.p.y.A b2.p.y.n b2.p.y.c, .slice b2.p.z.A b2.p.z.n b2.p.z.c, .slice b2.s.A b2.s.n b2.s.c, .int .i64 b2.t, .int .i64 b2.q] 51)
  replace ot := ot.alloc (.cells #[.slice b2.p.x.A b2.p.x.n b2.p.x.c, .slice b2.p.y.A b2.p.y.n b2.p.y.c, .slice b2.p.z.A b2.p.z.n b2.p.z.c, .slice b2.s.A b2.s.n b2.s.c, .int .i64 b2.t, .int .i64 b2.q] 51)
  replace ob1 := ob1.alloc (.cells #[.slice b2.p.x.A b2.p.x.n b2.p.x.c, .slice b2.p.y.A b2.p.y.n b2.p.y.c, .slice b2.p.z.A b2.p.z.n b2.p.z.c, .slice b2.s.A b2.s.n b2.s.c, .int .i64 b2.t, .int .i64 b2.q] 51)
  replace ob2 := ob2.alloc (.cells #[.slice b2.p.x.A b2.p.x.n b2.p.x.c, .slice b2.p.y.A b2.p.y.n b2.p.y.c, .slice b2.p.z.A b2.p.z.n b2.p.z.c, .slice b2.s.A b2.s.n b2.s.c, .int .i64 b2.t, .int .i64 b2.q] 51)
  replace hP := hP.alloc (.cells #[.slice b2.p.x.A b2.p.x.n b2.p.x.c, .slice b2.p.y.A b2.p.y.n b2.p.y.c, .slice b2.p.z.A b2.p.z.n b2.p.z.c, .slice b2.s.A b2.s.n b2.s.c, .int .i64 b2.t, .int .i64 b2.q] 51)
  replace hU1 := hU1.alloc (.cells #[.slice b2.p.x.A b2.p.x.n b2.p.x.c, .slice b2.p.y.A b2.p.y.n b2.p.y.c, .slice b2.p.z.A b2.p.z.n b2.p.z.c, .slice b2.s.A b2.s.n b2.s.c, .int .i64 b2.t, .int .i64 b2.q] 51)
  replace hU2 := hU2.alloc (.cells #[.slice b2.p.x.A b2.p.x.n b2.p.x.c, .slice b2.p.y.A b2.p.y.n b2.p.y.c, .slice b2.p.z.A b2.p.z.n b2.p.z.c, .slice b2.s.A b2.s.n b2.s.c, .int .i64 b2.t, .int .i64 b2.q] 51)
  replace hA := hA.alloc (.cells #[.slice b2.p.x.A b2.p.x.n b2.p.x.c, .slice b2.p.y.A b2.p.y.n b2.p.y.c, .slice b2.p.z.A b2.p.z.n b2.p.z.c, .slice b2.s.A b2.s.n b2.s.c, .int .i64 b2.t, .int .i64 b2.q] 51)
  replace hB1 := hB1.alloc (.cells #[.slice b2.p.x.A b2.p.x.n b2.p.x.c, .slice b2.p.y.A b2.p.y.n b2.p.y.c, .slice b2.p.z.A b2.p.z.n b2.p.z.c, .slice b2.s.A b2.s.n b2.s.c, .int .i64 b2.t, .int .i64 b2.q] 51)
  replace hX := hX.alloc (.cells #[.slice b2.p.x.A b2.p.x.n b2.p.x.c, .slice b2.p.y.A b2.p.y.n b2.p.y.c, .slice b2.p.z.A b2.p.z.n b2.p.z.c, .slice b2.s.A b2.s.n b2.s.c, .int .i64 b2.t, .int .i64 b2.q] 51)
  obtain ⟨qhP0, qhP1, qhP2, qhP3, qhP4, qhP5⟩ := hP.c6
  obtain ⟨qhU10, qhU11, qhU12, qhU13, qhU14, qhU15⟩ := hU1.c6
  obtain ⟨qhU20, qhU21, qhU22, qhU23, qhU24, qhU25⟩ := hU2.c6
  obtain ⟨qhA0, qhA1, qhA2, qhA3, qhA4, qhA5⟩ := hA.c6
  obtain ⟨qhB10, qhB11, qhB12, qhB13, qhB14, qhB15⟩ := hB1.c6
  obtain ⟨qhB20, qhB21, qhB22, qhB23, qhB24, qhB25⟩ := hB2.c6
  go_wp2_with fail
  refine (spec.DrawPassTurn_any s _ (hc.ext hX)).mono ?_
  rintro e w7 ⟨p, yp, rfl, op, hsp, hx⟩
  clear qhP0 qhP1 qhP2 qhP3 qhP4 qhP5 qhU10 qhU11 qhU12 qhU13 qhU14 qhU15 qhU20 qhU21 qhU22 qhU23 qhU24 qhU25 qhA0 qhA1 qhA2 qhA3 qhA4 qhA5 qhB10 qhB11 qhB12 qhB13 qhB14 qhB15 qhB20 qhB21 qhB22 qhB23 qhB24 qhB25
  replace ox := ox.ext hx
  replace ou1 := ou1.ext hx
  replace ou2 := ou2.ext hx
  replace oa := oa.ext hx
  replace ot := ot.ext hx
  replace ob1 := ob1.ext hx
  replace ob2 := ob2.ext hx
  replace hP := hP.ext hx
  replace hU1 := hU1.ext hx
  replace hU2 := hU2.ext hx
  replace hA := hA.ext hx
  replace hB1 := hB1.ext hx
  replace hB2 := hB2.ext hx
  replace hX := hX.trans hx
  clear hx
  have hD := Blk.new w7 51 (#[.slice p.p.x.A p.p.x.n p.p.x.c, .slice p.p.y.A p.p.y.n p.p.y.c, .slice p.p.z.A p.p.z.n p.p.z.c, .slice p.s.A p.s.n p.s.c, .int .i64 p.t, .int .i64 p.q])
  replace ox := ox.alloc (.cells #[.slice p.p.x.A p.p.x.n p.p.x.c, .slice p.p.y.A p.p.y.n p.p.y.c, .slice p.p.z.A p.p.z.n p.p.z.c, .slice p.s.A p.s.n p.s.c, .int .i64 p.t, .int .i64 p.q] 51)
  replace ou1 := ou1.alloc (.cells #[.slice p.p.x.A p.p.x.n p.p.x.c, .slice p.p.y.A p.p.y.n p.p.y.c, .slice p.p.z.A p.p.z.n p.p.z.c, .slice p.s.A p.s.n p.s.c, .int .i64 p.t, .int .i64 p.q] 51)
  replace ou2 := ou2.alloc (.cells #[.slice p.p.x.A p.p.x.n p.p.x.c, .slice p.p.y.A p.p.y.n p.p.y.c, .slice p.p.z.A p.p.z.n p.p.z.c, .slice p.s.A p.s.n p.s.c, .int .i64 p.t, .int .i64 p.q] 51)
  replace oa := oa.alloc (.cells #[.slice p.p.x.A p.p.x.n p.p.x.c, .slice p.p.y.A p.p.y.n p.p.y.c, .slice p.p.z.A p.p.z.n p.p.z.c, .slice p.s.A p.s.n p.s.c, .int .i64 p.t, .int .i64 p.q] 51)
  replace ot := ot.alloc (.cells #[.slice p.p.x.A p.p.x.n p.p.x.c, .slice p.p.y.A p.p.y.n p.p.y.c, .slice p.p.z.A p.p.z.n p.p.z.c, .slice p.s.A p.s.n p.s.c, .int .i64 p.t, .int .i64 p.q] 51)
  replace ob1 := ob1.alloc (.cells #[.slice p.p.x.A p.p.x.n p.p.x.c, .slice p.p.y.A p.p.y.n p.p.y.c, .slice p.p.z.A p.p.z.n p.p.z.c, .slice p.s.A p.s.n p.s.c, .int .i64 p.t, .int .i64 p.q] 51)
  replace ob2 := ob2.alloc (.cells #[.slice p.p.x.A p.p.x.n p.p.x.c, .slice p.p.y.A p.p.y.n p.p.y.c, .slice p.p.z.A p.p.z.n p.p.z.c, .slice p.s.A p.s.n p.s.c, .int .i64 p.t, .int .i64 p.q] 51)
  replace op := op.alloc (.cells #[.slice p.p.x.A p.p.x.n p.p.x.c, .slice p.p.y.A p.p.y.n p.p.y.c, .slice p.p.z.A p.p.z.n p.p.z.c, .slice p.s.A p.s.n p.s.c, .int .i64 p.t, .int .i64 p.q] 51)
  replace hP := hP.alloc (.cells #[.slice p.p.x.A p.p.x.n p.p.x.c, .slice p.p.y.A p.p.y.n p.p.y.c, .slice p.p.z.A p.p.z.n p.p.z.c, .slice p.s.A p.s.n p.s.c, .int .i64 p.t, .int .i64 p.q] 51)
  replace hU1 := hU1.alloc (.cells #[.slice p.p.x.A p.p.x.n p.p.x.c, .slice p.p.y.A p.p.y.n p.p.y.c, .slice p.p.z.A p.p.z.n p.p.z.c, .slice p.s.A p.s.n p.s.c, .int .i64 p.t, .int .i64 p.q] 51)
  replace hU2 := hU2.alloc (.cells #[.slice p.p.x.A p.p.x.n p.p.x.c, .slice p.p.y.A p.p.y.n p.p.y.c, .slice p.p.z.A p.p.z.n p.p.z.c, .slice p.s.A p.s.n p.s.c, .int .i64 p.t, .int .i64 p.q] 51)
  replace hA := hA.alloc (.cells #[.slice p.p.x.A p.p.x.n p.p.x.c, .slice p.p.y.A p.p.y.n p.p.y.c, .slice p.p.z.A p.p.z.n p.p.z.c, .slice p.s.A p.s.n p.s.c, .int .i64 p.t, .int .i64 p.q] 51)
  replace hB1 := hB1.alloc (.cells #[.slice p.p.x.A p.p.x.n p.p.x.c, .slice p.p.y.A p.p.y.n p.p.y.c, .slice p.p.z.A p.p.z.n p.p.z.c, .slice p.s.A p.s.n p.s.c, .int .i64 p.t, .int .i64 p.q] 51)
  replace hB2 := hB2.alloc (.cells #[.slice p.p.x.A p.p.x.n p.p.x.c, .slice p.p.y.A p.p.y.n p.p.y.c, .slice p.p.z.A p.p.z.n p.p.z.c, .slice p.s.A p.s.n p.s.c, .int .i64 p.t, .int .i64 p.q] 51)
  replace hX := hX.alloc (.cells #[.slice p.p.x.A p.p.x.n p.p.x.c, .slice p.p.y.A p.p.y.n p.p.y.c, .slice p.p.z.A p.p.z.n p.p.z.c, .slice p.s.A p.s.n p.s.c, .int .i64 p.t, .int .i64 p.q] 51)
  clear hsp
  obtain ⟨qhP0, qhP1, qhP2, qhP3, qhP4, qhP5⟩ := hP.c6
  obtain ⟨qhU10, qhU11, qhU12, qhU13, qhU14, qhU15⟩ := hU1.c6
  obtain ⟨qhU20, qhU21, qhU22, qhU23, qhU24, qhU25⟩ := hU2.c6
  obtain ⟨qhA0, qhA1, qhA2, qhA3, qhA4, qhA5⟩ := hA.c6
  obtain ⟨qhB10, qhB11, qhB12, qhB13, qhB14, qhB15⟩ := hB1.c6
  obtain ⟨qhB20, qhB21, qhB22, qhB23, qhB24, qhB25⟩ := hB2.c6
  obtain ⟨qhD0, qhD1, qhD2, qhD3, qhD4, qhD5⟩ := hD.c6
  go_wp2_with fail
  refine (impl.PassTurn_any p yp _ op.rd).mono ?_
  rintro e w8 ⟨q1, rfl, oq1, hx⟩
  clear qhP0 qhP1 qhP2 qhP3 qhP4 qhP5 qhU10 qhU11 qhU12 qhU13 qhU14 qhU15 qhU20 qhU21 qhU22 qhU23 qhU24 qhU25 qhA0 qhA1 qhA2 qhA3 qhA4 qhA5 qhB10 qhB11 qhB12 qhB13 qhB14 qhB15 qhB20 qhB21 qhB22 qhB23 qhB24 qhB25 qhD0 qhD1 qhD2 qhD3 qhD4 qhD5
  replace ox := ox.ext hx
  replace ou1 := ou1.ext hx
  replace ou2 := ou2.ext hx
  replace oa := oa.ext hx
  replace ot := ot.ext hx
  replace ob1 := ob1.ext hx
  replace ob2 := ob2.ext hx
  replace op := op.ext hx
  replace hP := hP.ext hx
  replace hU1 := hU1.ext hx
  replace hU2 := hU2.ext hx
  replace hA := hA.ext hx
  replace hB1 := hB1.ext hx
  replace hB2 := hB2.ext hx
  replace hD := hD.ext hx
  replace hX := hX.trans hx
  clear hx
  have hQ1 := Blk.new w8 51 (#[.slice q1.p.x.A q1.p.x.n q1.p.x.c, .slice q1.p.y.A q1.p.y.n q1.p.y.c, .slice q1.p.z.A q1.p.z.n q1.p.z.c, .slice q1.s.A q1.s.n q1.s.c, .int .i64 q1.t, .int .i64 q1.q])
  replace ox := ox.alloc (.cells #[.slice q1.p.x.A q1.p.x.n q1.p.x.c, .slice q1.p.y.A q1.p.y.n q1.p.y.c, .slice q1.p.z.A q1.p.z.n q1.p.z.c, .slice q1.s.A q1.s.n q1.s.c, .int .i64 q1.t, .int .i64 q1.q] 51)
  replace ou1 := ou1.alloc (.cells #[.slice q1.p.x.A q1.p.x.n q1.p.x.c, .slice q1.p.y.A q1.p.y.n q1.p.y.c, .slice q1.p.z.A q1.p.z.n q1.p.z.c, .slice q1.s.A q1.s.n q1.s.c, .int .i64 q1.t, .int .i64 q1.q] 51)
  replace ou2 := ou2.alloc (.cells #[.slice q1.p.x.A q1.p.x.n q1.p.x.c, .slice q1.p.y.A q1.p.y.n q1.p.y.c, .slice q1.p.z.A q1.p.z.n q1.p.z.c, .slice q1.s.A q1.s.n q1.s.c, .int .i64 q1.t, .int .i64 q1.q] 51)
  replace oa := oa.alloc (.cells #[.slice q1.p.x.A q1.p.x.n q1.p.x.c, .slice q1.p.y.A q1.p.y.n q1.p.y.c, .slice q1.p.z.A q1.p.z.n q1.p.z.c, .slice q1.s.A q1.s.n q1.s.c, .int .i64 q1.t, .int .i64 q1.q] 51)
  replace ot := ot.alloc (.cells #[.slice q1.p.x.A q1.p.x.n q1.p.x.c, .slice q1.p.y.A q1.p.y.n q1.p.y.c, .slice q1.p.z.A q1.p.z.n q1.p.z.c, .slice q1.s.A q1.s.n q1.s.c, .int .i64 q1.t, .int .i64 q1.q] 51)
  replace ob1 := ob1.alloc (.cells #[.slice q1.p.x.A q1.p.x.n q1.p.x.c, .slice q1.p.y.A q1.p.y.n q1.p.y.c, .slice q1.p.z.A q1.p.z.n q1.p.z.c, .slice q1.s.A q1.s.n q1.s.c, .int .i64 q1.t, .int .i64 q1.q] 51)
  replace ob2 := ob2.alloc (.cells #[.slice q1.p.x.A q1.p.x.n q1.p.x.c, .slice q1.p.y.A q1.p.y.n q1.p.y.c, .slice q1.p.z.A q1.p.z.n q1.p.z.c, .slice q1.s.A q1.s.n q1.s.c, .int .i64 q1.t, .int .i64 q1.q] 51)
  replace op := op.alloc (.cells #[.slice q1.p.x.A q1.p.x.n q1.p.x.c, .slice q1.p.y.A q1.p.y.n q1.p.y.c, .slice q1.p.z.A q1.p.z.n q1.p.z.c, .slice q1.s.A q1.s.n q1.s.c, .int .i64 q1.t, .int .i64 q1.q] 51)
  replace oq1 := oq1.alloc (.cells #[.slice q1.p.x.A q1.p.x.n q1.p.x.c, .slice q1.p.y.A q1.p.y.n q1.p.y.c, .slice q1.p.z.A q1.p.z.n q1.p.z.c, .slice q1.s.A q1.s.n q1.s.c, .int .i64 q1.t, .int .i64 q1.q] 51)
  replace hP := hP.alloc (.cells #[.slice q1.p.x.A q1.p.x.n q1.p.x.c, .slice q1.p.y.A q1.p.y.n q1.p.y.c, .slice q1.p.z.A q1.p.z.n q1.p.z.c, .slice q1.s.A q1.s.n q1.s.c, .int .i64 q1.t, .int .i64 q1.q] 51)
  replace hU1 := hU1.alloc (.cells #[.slice q1.p.x.A q1.p.x.n q1.p.x.c, .slice q1.p.y.A q1.p.y.n q1.p.y.c, .slice q1.p.z.A q1.p.z.n q1.p.z.c, .slice q1.s.A q1.s.n q1.s.c, .int .i64 q1.t, .int .i64 q1.q] 51)
  replace hU2 := hU2.alloc (.cells #[.slice q1.p.x.A q1.p.x.n q1.p.x.c, .slice q1.p.y.A q1.p.y.n q1.p.y.c, .slice q1.p.z.A q1.p.z.n q1.p.z.c, .slice q1.s.A q1.s.n q1.s.c, .int .i64 q1.t, .int .i64 q1.q] 51)
  replace hA := hA.alloc (.cells #[.slice q1.p.x.A q1.p.x.n q1.p.x.c, .slice q1.p.y.A q1.p.y.n q1.p.y.c, .slice q1.p.z.A q1.p.z.n q1.p.z.c, .slice q1.s.A q1.s.n q1.s.c, .int .i64 q1.t, .int .i64 q1.q] 51)
  replace hB1 := hB1.alloc (.cells #[.slice q1.p.x.A q1.p.x.n q1.p.x.c, .slice q1.p.y.A q1.p.y.n q1.p.y.c, .slice q1.p.z.A q1.p.z.n q1.p.z.c, .slice q1.s.A q1.s.n q1.s.c, .int .i64 q1.t, .int .i64 q1.q] 51)
  replace hB2 := hB2.alloc (.cells #[.slice q1.p.x.A q1.p.x.n q1.p.x.c, .slice q1.p.y.A q1.p.y.n q1.p.y.c, .slice q1.p.z.A q1.p.z.n q1.p.z.c, .slice q1.s.A q1.s.n q1.s.c, .int .i64 q1.t, .int .i64 q1.q] 51)
  replace hD := hD.alloc (.cells #[.slice q1.p.x.A q1.p.x.n q1.p.x.c, .slice q1.p.y.A q1.p.y.n q1.p.y.c, .slice q1.p.z.A q1.p.z.n q1.p.z.c, .slice q1.s.A q1.s.n q1.s.c, .int .i64 q1.t, .int .i64 q1.q] 51)
  replace hX := hX.alloc (.cells #[.slice q1.p.x.A q1.p.x.n q1.p.x.c, .slice q1.p.y.A q1.p.y.n q1.p.y.c, .slice q1.p.z.A q1.p.z.n q1.p.z.c, .slice q1.s.A q1.s.n q1.s.c, .int .i64 q1.t, .int .i64 q1.q] 51)
  obtain ⟨qhP0, qhP1, qhP2, qhP3, qhP4, qhP5⟩ := hP.c6
  obtain ⟨qhU10, qhU11, qhU12, qhU13, qhU14, qhU15⟩ := hU1.c6
  obtain ⟨qhU20, qhU21, qhU22, qhU23, qhU24, qhU25⟩ := hU2.c6
  obtain ⟨qhA0, qhA1, qhA2, qhA3, qhA4, qhA5⟩ := hA.c6
  obtain ⟨qhB10, qhB11, qhB12, qhB13, qhB14, qhB15⟩ := hB1.c6
  obtain ⟨qhB20, qhB21, qhB22, qhB23, qhB24, qhB25⟩ := hB2.c6
  obtain ⟨qhD0, qhD1, qhD2, qhD3, qhD4, qhD5⟩ := hD.c6
  obtain ⟨qhQ10, qhQ11, qhQ12, qhQ13, qhQ14, qhQ15⟩ := hQ1.c6
  go_wp2_with fail
  refine (spec.PassTurn_any p yp _ op.rd).mono ?_
  rintro e w9 ⟨q2, rfl, oq2, hx⟩
  clear qhP0 qhP1 qhP2 qhP3 qhP4 qhP5 qhU10 qhU11 qhU12 qhU13 qhU14 qhU15 qhU20 qhU21 qhU22 qhU23 qhU24 qhU25 qhA0 qhA1 qhA2 qhA3 qhA4 qhA5 qhB10 qhB11 qhB12 qhB13 qhB14 qhB15 qhB20 qhB21 qhB22 qhB23 qhB24 qhB25 qhD0 qhD1 qhD2 qhD3 qhD4 qhD5 qhQ10 qhQ11 qhQ12 qhQ13 qhQ14 qhQ15
  replace ox := ox.ext hx
  replace ou1 := ou1.ext hx
  replace ou2 := ou2.ext hx
  replace oa := oa.ext hx
  replace ot := ot.ext hx
  replace ob1 := ob1.ext hx
  replace ob2 := ob2.ext hx
  replace op := op.ext hx
  replace oq1 := oq1.ext hx
  replace hP := hP.ext hx
  replace hU1 := hU1.ext hx
  replace hU2 := hU2.ext hx
  replace hA := hA.ext hx
  replace hB1 := hB1.ext hx
  replace hB2 := hB2.ext hx
  replace hD := hD.ext hx
  replace hQ1 := hQ1.ext hx
  replace hX := hX.trans hx
  clear hx
  have hQ2 := Blk.new w9 51 (#[.slice q2.p.x.A q2.p.x.n q2.p.x.c, .slice q2.p.y.A q2.p.y.n q2.p.y.c, .slice q2.p.z.A q2.p.z.n q2.p.z.c, .slice q2.s.A q2.s.n q2.s.c, .int .i64 q2.t, .int .i64 q2.q])
  replace ox := ox.alloc (.cells #[.slice q2.p.x.A q2.p.x.n q2.p.x.c, .slice q2.p.y.A q2.p.y.n q2.p.y.c, .slice q2.p.z.A q2.p.z.n q2.p.z.c, .slice q2.s.A q2.s.n q2.s.c, .int .i64 q2.t, .int .i64 q2.q] 51)
  replace ou1 := ou1.alloc (.cells #[.slice q2.p.x.A q2.p.x.n q2.p.x.c, .slice q2.p.y.A q2.p.y.n q2.p.y.c, .slice q2.p.z.A q2.p.z.n q2.p.z.c, .slice q2.s.A q2.s.n q2.s.c, .int .i64 q2.t, .int .i64 q2.q] 51)
  replace ou2 := ou2.alloc (.cells #[.slice q2.p.x.A q2.p.x.n q2.p.x.c, .slice q2.p.y.A q2.p.y.n q2.p.y.c, .slice q2.p.z.A q2.p.z.n q2.p.z.c, .slice q2.s.A q2.s.n q2.s.c, .int .i64 q2.t, .int .i64 q2.q] 51)
  replace oa := oa.alloc (.cells #[.slice q2.p.x.A q2.p.x.n q2.p.x.c, .slice q2.p.y.A q2.p.y.n q2.p.y.c, .slice q2.p.z.A q2.p.z.n q2.p.z.c, .slice q2.s.A q2.s.n q2.s.c, .int .i64 q2.t, .int .i64 q2.q] 51)
  replace ot := ot.alloc (.cells #[.slice q2.p.x.A q2.p.x.n q2.p.x.c, .slice q2.p.y.A q2.p.y.n q2.p.y.c, .slice q2.p.z.A q2.p.z.n q2.p.z.c, .slice q2.s.A q2.s.n q2.s.c, .int .i64 q2.t, .int .i64 q2.q] 51)
  replace ob1 := ob1.alloc (.cells #[.slice q2.p.x.A q2.p.x.n q2.p.x.c, .slice q2.p.y.A q2.p.y.n q2.p.y.c, .slice q2.p.z.A q2.p.z.n q2.p.z.c, .slice q2.s.A q2.s.n q2.s.c, .int .i64 q2.t, .int .i64 q2.q] 51)
  replace ob2 := ob2.alloc (.cells #[.slice q2.p.x.A q2.p.x.n q2.p.x.c, .slice q2.p.y.A q2.p.y.n q2.p.y.c, .slice q2.p.z.A q2.p.z.n q2.p.z.c, .slice q2.s.A q2.s.n q2.s.c, .int .i64 q2.t, .int .i64 q2.q] 51)
  replace op := op.alloc (.cells #[.slice q2.p.x.A q2.p.x.n q2.p.x.c, .slice q2.p.y.A q2.p.y.n q2.p.y.c, .slice q2.p.z.A q2.p.z.n q2.p.z.c, .slice q2.s.A q2.s.n q2.s.c, .int .i64 q2.t, .int .i64 q2.q] 51)
  replace oq1 := oq1.alloc (.cells #[.slice q2.p.x.A q2.p.x.n q2.p.x.c, .slice q2.p.y.A q2.p.y.n q2.p.y.c, .slice q2.p.z.A q2.p.z.n q2.p.z.c, .slice q2.s.A q2.s.n q2.s.c, .int .i64 q2.t, .int .i64 q2.q] 51)
  replace oq2 := oq2.alloc (.cells #[.slice q2.p.x.A q2.p.x.n q2.p.x.c, .slice q2.p.y.A q2.p.y.n q2.p.y.c, .slice q2.p.z.A q2.p.z.n q2.p.z.c, .slice q2.s.A q2.s.n q2.s.c, .int .i64 q2.t, .int .i64 q2.q] 51)
  replace hP := hP.alloc (.cells #[.slice q2.p.x.A q2.p.x.n q2.p.x.c, .slice q2.p.y.A q2.p.y.n q2.p.y.c, .slice q2.p.z.A q2.p.z.n q2.p.z.c, .slice q2.s.A q2.s.n q2.s.c, .int .i64 q2.t, .int .i64 q2.q] 51)
  replace hU1 := hU1.alloc (.cells #[.slice q2.p.x.A q2.p.x.n q2.p.x.c, .slice q2.p.y.A q2.p.y.n q2.p.y.c, .slice q2.p.z.A q2.p.z.n q2.p.z.c, .slice q2.s.A q2.s.n q2.s.c, .int .i64 q2.t, .int .i64 q2.q] 51)
  replace hU2 := hU2.alloc (.cells #[.slice q2.p.x.A q2.p.x.n q2.p.x.c, .slice q2.p.y.A q2.p.y.n q2.p.y.c, .slice q2.p.z.A q2.p.z.n q2.p.z.c, .slice q2.s.A q2.s.n q2.s.c, .int .i64 q2.t, .int .i64 q2.q] 51)
  replace hA := hA.alloc (.cells #[.slice q2.p.x.A q2.p.x.n q2.p.x.c, .slice q2.p.y.A q2.p.y.n q2.p.y.c, .slice q2.p.z.A q2.p.z.n q2.p.z.c, .slice q2.s.A q2.s.n q2.s.c, .int .i64 q2.t, .int .i64 q2.q] 51)
  replace hB1 := hB1.alloc (.cells #[.slice q2.p.x.A q2.p.x.n q2.p.x.c, .slice q2.p.y.A q2.p.y.n q2.p.y.c, .slice q2.p.z.A q2.p.z.n q2.p.z.c, .slice q2.s.A q2.s.n q2.s.c, .int .i64 q2.t, .int .i64 q2.q] 51)
  replace hB2 := hB2.alloc (.cells #[.slice q2.p.x.A q2.p.x.n q2.p.x.c, .slice q2.p.y.A q2.p.y.n q2.p.y.c, .slice q2.p.z.A q2.p.z.n q2.p.z.c, .slice q2.s.A q2.s.n q2.s.c, .int .i64 q2.t, .int .i64 q2.q] 51)
  replace hD := hD.alloc (.cells #[.slice q2.p.x.A q2.p.x.n q2.p.x.c, .slice q2.p.y.A q2.p.y.n q2.p.y.c, .slice q2.p.z.A q2.p.z.n q2.p.z.c, .slice q2.s.A q2.s.n q2.s.c, .int .i64 q2.t, .int .i64 q2.q] 51)
  replace hQ1 := hQ1.alloc (.cells #[.slice q2.p.x.A q2.p.x.n q2.p.x.c, .slice q2.p.y.A q2.p.y.n q2.p.y.c, .slice q2.p.z.A q2.p.z.n q2.p.z.c, .slice q2.s.A q2.s.n q2.s.c, .int .i64 q2.t, .int .i64 q2.q] 51)
  replace hX := hX.alloc (.cells #[.slice q2.p.x.A q2.p.x.n q2.p.x.c, .slice q2.p.y.A q2.p.y.n q2.p.y.c, .slice q2.p.z.A q2.p.z.n q2.p.z.c, .slice q2.s.A q2.s.n q2.s.c, .int .i64 q2.t, .int .i64 q2.q] 51)
  obtain ⟨qhP0, qhP1, qhP2, qhP3, qhP4, qhP5⟩ := hP.c6
  obtain ⟨qhU10, qhU11, qhU12, qhU13, qhU14, qhU15⟩ := hU1.c6
  obtain ⟨qhU20, qhU21, qhU22, qhU23, qhU24, qhU25⟩ := hU2.c6
  obtain ⟨qhA0, qhA1, qhA2, qhA3, qhA4, qhA5⟩ := hA.c6
  obtain ⟨qhB10, qhB11, qhB12, qhB13, qhB14, qhB15⟩ := hB1.c6
  obtain ⟨qhB20, qhB21, qhB22, qhB23, qhB24, qhB25⟩ := hB2.c6
  obtain ⟨qhD0, qhD1, qhD2, qhD3, qhD4, qhD5⟩ := hD.c6
  obtain ⟨qhQ10, qhQ11, qhQ12, qhQ13, qhQ14, qhQ15⟩ := hQ1.c6
  obtain ⟨qhQ20, qhQ21, qhQ22, qhQ23, qhQ24, qhQ25⟩ := hQ2.c6
  go_wp2_with fail
  refine (impl.IsOver_any p yp _ op.rd).mono ?_
  rintro e w10 ⟨rfl, hx⟩
  clear qhP0 qhP1 qhP2 qhP3 qhP4 qhP5 qhU10 qhU11 qhU12 qhU13 qhU14 qhU15 qhU20 qhU21 qhU22 qhU23 qhU24 qhU25 qhA0 qhA1 qhA2 qhA3 qhA4 qhA5 qhB10 qhB11 qhB12 qhB13 qhB14 qhB15 qhB20 qhB21 qhB22 qhB23 qhB24 qhB25 qhD0 qhD1 qhD2 qhD3 qhD4 qhD5 qhQ10 qhQ11 qhQ12 qhQ13 qhQ14 qhQ15 qhQ20 qhQ21 qhQ22 qhQ23 qhQ24 qhQ25
  replace ox := ox.ext hx
  replace ou1 := ou1.ext hx
  replace ou2 := ou2.ext hx
  replace oa := oa.ext hx
  replace ot := ot.ext hx
  replace ob1 := ob1.ext hx
  replace ob2 := ob2.ext hx
  replace op := op.ext hx
  replace oq1 := oq1.ext hx
  replace oq2 := oq2.ext hx
  replace hP := hP.ext hx
  replace hU1 := hU1.ext hx
  replace hU2 := hU2.ext hx
  replace hA := hA.ext hx
  replace hB1 := hB1.ext hx
  replace hB2 := hB2.ext hx
  replace hD := hD.ext hx
  replace hQ1 := hQ1.ext hx
  replace hQ2 := hQ2.ext hx
  replace hX := hX.trans hx
  clear hx
  obtain ⟨qhP0, qhP1, qhP2, qhP3, qhP4, qhP5⟩ := hP.c6
  obtain ⟨qhU10, qhU11, qhU12, qhU13, qhU14, qhU15⟩ := hU1.c6
  obtain ⟨qhU20, qhU21, qhU22, qhU23, qhU24, qhU25⟩ := hU2.c6
  obtain ⟨qhA0, qhA1, qhA2, qhA3, qhA4, qhA5⟩ := hA.c6
  obtain ⟨qhB10, qhB11, qhB12, qhB13, qhB14, qhB15⟩ := hB1.c6
  obtain ⟨qhB20, qhB21, qhB22, qhB23, qhB24, qhB25⟩ := hB2.c6
  obtain ⟨qhD0, qhD1, qhD2, qhD3, qhD4, qhD5⟩ := hD.c6
  obtain ⟨qhQ10, qhQ11, qhQ12, qhQ13, qhQ14, qhQ15⟩ := hQ1.c6
  obtain ⟨qhQ20, qhQ21, qhQ22, qhQ23, qhQ24, qhQ25⟩ := hQ2.c6
  go_wp2_with fail
  refine (spec.IsOver_any p yp _ op.rd).mono ?_
  rintro e w11 ⟨rfl, hx⟩
  clear qhP0 qhP1 qhP2 qhP3 qhP4 qhP5 qhU10 qhU11 qhU12 qhU13 qhU14 qhU15 qhU20 qhU21 qhU22 qhU23 qhU24 qhU25 qhA0 qhA1 qhA2 qhA3 qhA4 qhA5 qhB10 qhB11 qhB12 qhB13 qhB14 qhB15 qhB20 qhB21 qhB22 qhB23 qhB24 qhB25 qhD0 qhD1 qhD2 qhD3 qhD4 qhD5 qhQ10 qhQ11 qhQ12 qhQ13 qhQ14 qhQ15 qhQ20 qhQ21 qhQ22 qhQ23 qhQ24 qhQ25
  replace ox := ox.ext hx
  replace ou1 := ou1.ext hx
  replace ou2 := ou2.ext hx
  replace oa := oa.ext hx
  replace ot := ot.ext hx
  replace ob1 := ob1.ext hx
  replace ob2 := ob2.ext hx
  replace op := op.ext hx
  replace oq1 := oq1.ext hx
  replace oq2 := oq2.ext hx
  replace hP := hP.ext hx
  replace hU1 := hU1.ext hx
  replace hU2 := hU2.ext hx
  replace hA := hA.ext hx
  replace hB1 := hB1.ext hx
  replace hB2 := hB2.ext hx
  replace hD := hD.ext hx
  replace hQ1 := hQ1.ext hx
  replace hQ2 := hQ2.ext hx
  replace hX := hX.trans hx
  clear hx
  obtain ⟨qhP0, qhP1, qhP2, qhP3, qhP4, qhP5⟩ := hP.c6
  obtain ⟨qhU10, qhU11, qhU12, qhU13, qhU14, qhU15⟩ := hU1.c6
  obtain ⟨qhU20, qhU21, qhU22, qhU23, qhU24, qhU25⟩ := hU2.c6
  obtain ⟨qhA0, qhA1, qhA2, qhA3, qhA4, qhA5⟩ := hA.c6
  obtain ⟨qhB10, qhB11, qhB12, qhB13, qhB14, qhB15⟩ := hB1.c6
  obtain ⟨qhB20, qhB21, qhB22, qhB23, qhB24, qhB25⟩ := hB2.c6
  obtain ⟨qhD0, qhD1, qhD2, qhD3, qhD4, qhD5⟩ := hD.c6
  obtain ⟨qhQ10, qhQ11, qhQ12, qhQ13, qhQ14, qhQ15⟩ := hQ1.c6
  obtain ⟨qhQ20, qhQ21, qhQ22, qhQ23, qhQ24, qhQ25⟩ := hQ2.c6
  go_wp2_with fail
  refine (impl.StrikesLeft_any p yp _ op.rd).mono ?_
  rintro e w12 ⟨rfl, hx⟩
  clear qhP0 qhP1 qhP2 qhP3 qhP4 qhP5 qhU10 qhU11 qhU12 qhU13 qhU14 qhU15 qhU20 qhU21 qhU22 qhU23 qhU24 qhU25 qhA0 qhA1 qhA2 qhA3 qhA4 qhA5 qhB10 qhB11 qhB12 qhB13 qhB14 qhB15 qhB20 qhB21 qhB22 qhB23 qhB24 qhB25 qhD0 qhD1 qhD2 qhD3 qhD4 qhD5 qhQ10 qhQ11 qhQ12 qhQ13 qhQ14 qhQ15 qhQ20 qhQ21 qhQ22 qhQ23 qhQ24 qhQ25
  replace ox := ox.ext hx
  replace ou1 := ou1.ext hx
  replace ou2 := ou2.ext hx
  replace oa := oa.ext hx
  replace ot := ot.ext hx
  replace ob1 := ob1.ext hx
  replace ob2 := ob2.ext hx
  replace op := op.ext hx
  replace oq1 := oq1.ext hx
  replace oq2 := oq2.ext hx
  replace hP := hP.ext hx
  replace hU1 := hU1.ext hx
  replace hU2 := hU2.ext hx
  replace hA := hA.ext hx
  replace hB1 := hB1.ext hx
  replace hB2 := hB2.ext hx
  replace hD := hD.ext hx
  replace hQ1 := hQ1.ext hx
  replace hQ2 := hQ2.ext hx
  replace hX := hX.trans hx
  clear hx
  obtain ⟨qhP0, qhP1, qhP2, qhP3, qhP4, qhP5⟩ := hP.c6
  obtain ⟨qhU10, qhU11, qhU12, qhU13, qhU14, qhU15⟩ := hU1.c6
  obtain ⟨qhU20, qhU21, qhU22, qhU23, qhU24, qhU25⟩ := hU2.c6
  obtain ⟨qhA0, qhA1, qhA2, qhA3, qhA4, qhA5⟩ := hA.c6
  obtain ⟨qhB10, qhB11, qhB12, qhB13, qhB14, qhB15⟩ := hB1.c6
  obtain ⟨qhB20, qhB21, qhB22, qhB23, qhB24, qhB25⟩ := hB2.c6
  obtain ⟨qhD0, qhD1, qhD2, qhD3, qhD4, qhD5⟩ := hD.c6
  obtain ⟨qhQ10, qhQ11, qhQ12, qhQ13, qhQ14, qhQ15⟩ := hQ1.c6
  obtain ⟨qhQ20, qhQ21, qhQ22, qhQ23, qhQ24, qhQ25⟩ := hQ2.c6
  go_wp2_with fail
  refine (spec.StrikesLeft_any p yp _ op.rd).mono ?_
  rintro e w13 ⟨rfl, hx⟩
  clear qhP0 qhP1 qhP2 qhP3 qhP4 qhP5 qhU10 qhU11 qhU12 qhU13 qhU14 qhU15 qhU20 qhU21 qhU22 qhU23 qhU24 qhU25 qhA0 qhA1 qhA2 qhA3 qhA4 qhA5 qhB10 qhB11 qhB12 qhB13 qhB14 qhB15 qhB20 qhB21 qhB22 qhB23 qhB24 qhB25 qhD0 qhD1 qhD2 qhD3 qhD4 qhD5 qhQ10 qhQ11 qhQ12 qhQ13 qhQ14 qhQ15 qhQ20 qhQ21 qhQ22 qhQ23 qhQ24 qhQ25
  replace ox := ox.ext hx
  replace ou1 := ou1.ext hx
  replace ou2 := ou2.ext hx
  replace oa := oa.ext hx
  replace ot := ot.ext hx
  replace ob1 := ob1.ext hx
  replace ob2 := ob2.ext hx
  replace op := op.ext hx
  replace oq1 := oq1.ext hx
  replace oq2 := oq2.ext hx
  replace hP := hP.ext hx
  replace hU1 := hU1.ext hx
  replace hU2 := hU2.ext hx
  replace hA := hA.ext hx
  replace hB1 := hB1.ext hx
  replace hB2 := hB2.ext hx
  replace hD := hD.ext hx
  replace hQ1 := hQ1.ext hx
  replace hQ2 := hQ2.ext hx
  replace hX := hX.trans hx
  clear hx
  obtain ⟨qhP0, qhP1, qhP2, qhP3, qhP4, qhP5⟩ := hP.c6
  obtain ⟨qhU10, qhU11, qhU12, qhU13, qhU14, qhU15⟩ := hU1.c6
  obtain ⟨qhU20, qhU21, qhU22, qhU23, qhU24, qhU25⟩ := hU2.c6
  obtain ⟨qhA0, qhA1, qhA2, qhA3, qhA4, qhA5⟩ := hA.c6
  obtain ⟨qhB10, qhB11, qhB12, qhB13, qhB14, qhB15⟩ := hB1.c6
  obtain ⟨qhB20, qhB21, qhB22, qhB23, qhB24, qhB25⟩ := hB2.c6
  obtain ⟨qhD0, qhD1, qhD2, qhD3, qhD4, qhD5⟩ := hD.c6
  obtain ⟨qhQ10, qhQ11, qhQ12, qhQ13, qhQ14, qhQ15⟩ := hQ1.c6
  obtain ⟨qhQ20, qhQ21, qhQ22, qhQ23, qhQ24, qhQ25⟩ := hQ2.c6
  go_wp2_with fail
  refine (impl.MostReached_any p yp _ op.rd).mono ?_
  rintro e w14 ⟨rfl, hx⟩
  clear qhP0 qhP1 qhP2 qhP3 qhP4 qhP5 qhU10 qhU11 qhU12 qhU13 qhU14 qhU15 qhU20 qhU21 qhU22 qhU23 qhU24 qhU25 qhA0 qhA1 qhA2 qhA3 qhA4 qhA5 qhB10 qhB11 qhB12 qhB13 qhB14 qhB15 qhB20 qhB21 qhB22 qhB23 qhB24 qhB25 qhD0 qhD1 qhD2 qhD3 qhD4 qhD5 qhQ10 qhQ11 qhQ12 qhQ13 qhQ14 qhQ15 qhQ20 qhQ21 qhQ22 qhQ23 qhQ24 qhQ25
  replace ox := ox.ext hx
  replace ou1 := ou1.ext hx
  replace ou2 := ou2.ext hx
  replace oa := oa.ext hx
  replace ot := ot.ext hx
  replace ob1 := ob1.ext hx
  replace ob2 := ob2.ext hx
  replace op := op.ext hx
  replace oq1 := oq1.ext hx
  replace oq2 := oq2.ext hx
  replace hP := hP.ext hx
  replace hU1 := hU1.ext hx
  replace hU2 := hU2.ext hx
  replace hA := hA.ext hx
  replace hB1 := hB1.ext hx
  replace hB2 := hB2.ext hx
  replace hD := hD.ext hx
  replace hQ1 := hQ1.ext hx
  replace hQ2 := hQ2.ext hx
  replace hX := hX.trans hx
  clear hx
  obtain ⟨qhP0, qhP1, qhP2, qhP3, qhP4, qhP5⟩ := hP.c6
  obtain ⟨qhU10, qhU11, qhU12, qhU13, qhU14, qhU15⟩ := hU1.c6
  obtain ⟨qhU20, qhU21, qhU22, qhU23, qhU24, qhU25⟩ := hU2.c6
  obtain ⟨qhA0, qhA1, qhA2, qhA3, qhA4, qhA5⟩ := hA.c6
  obtain ⟨qhB10, qhB11, qhB12, qhB13, qhB14, qhB15⟩ := hB1.c6
  obtain ⟨qhB20, qhB21, qhB22, qhB23, qhB24, qhB25⟩ := hB2.c6
  obtain ⟨qhD0, qhD1, qhD2, qhD3, qhD4, qhD5⟩ := hD.c6
  obtain ⟨qhQ10, qhQ11, qhQ12, qhQ13, qhQ14, qhQ15⟩ := hQ1.c6
  obtain ⟨qhQ20, qhQ21, qhQ22, qhQ23, qhQ24, qhQ25⟩ := hQ2.c6
  go_wp2_with fail
  refine (spec.MostReached_any p yp _ op.rd).mono ?_
  rintro e w15 ⟨rfl, hx⟩
  clear qhP0 qhP1 qhP2 qhP3 qhP4 qhP5 qhU10 qhU11 qhU12 qhU13 qhU14 qhU15 qhU20 qhU21 qhU22 qhU23 qhU24 qhU25 qhA0 qhA1 qhA2 qhA3 qhA4 qhA5 qhB10 qhB11 qhB12 qhB13 qhB14 qhB15 qhB20 qhB21 qhB22 qhB23 qhB24 qhB25 qhD0 qhD1 qhD2 qhD3 qhD4 qhD5 qhQ10 qhQ11 qhQ12 qhQ13 qhQ14 qhQ15 qhQ20 qhQ21 qhQ22 qhQ23 qhQ24 qhQ25
  replace ox := ox.ext hx
  replace ou1 := ou1.ext hx
  replace ou2 := ou2.ext hx
  replace oa := oa.ext hx
  replace ot := ot.ext hx
  replace ob1 := ob1.ext hx
  replace ob2 := ob2.ext hx
  replace op := op.ext hx
  replace oq1 := oq1.ext hx
  replace oq2 := oq2.ext hx
  replace hP := hP.ext hx
  replace hU1 := hU1.ext hx
  replace hU2 := hU2.ext hx
  replace hA := hA.ext hx
  replace hB1 := hB1.ext hx
  replace hB2 := hB2.ext hx
  replace hD := hD.ext hx
  replace hQ1 := hQ1.ext hx
  replace hQ2 := hQ2.ext hx
  replace hX := hX.trans hx
  clear hx
  obtain ⟨qhP0, qhP1, qhP2, qhP3, qhP4, qhP5⟩ := hP.c6
  obtain ⟨qhU10, qhU11, qhU12, qhU13, qhU14, qhU15⟩ := hU1.c6
  obtain ⟨qhU20, qhU21, qhU22, qhU23, qhU24, qhU25⟩ := hU2.c6
  obtain ⟨qhA0, qhA1, qhA2, qhA3, qhA4, qhA5⟩ := hA.c6
  obtain ⟨qhB10, qhB11, qhB12, qhB13, qhB14, qhB15⟩ := hB1.c6
  obtain ⟨qhB20, qhB21, qhB22, qhB23, qhB24, qhB25⟩ := hB2.c6
  obtain ⟨qhD0, qhD1, qhD2, qhD3, qhD4, qhD5⟩ := hD.c6
  obtain ⟨qhQ10, qhQ11, qhQ12, qhQ13, qhQ14, qhQ15⟩ := hQ1.c6
  obtain ⟨qhQ20, qhQ21, qhQ22, qhQ23, qhQ24, qhQ25⟩ := hQ2.c6
  go_wp2_with fail
  refine (likeSelection_yes u1 u2 _ _ ou1.rd ou2.rd).mono ?_
  rintro e w16 ⟨rfl, hx⟩
  clear qhP0 qhP1 qhP2 qhP3 qhP4 qhP5 qhU10 qhU11 qhU12 qhU13 qhU14 qhU15 qhU20 qhU21 qhU22 qhU23 qhU24 qhU25 qhA0 qhA1 qhA2 qhA3 qhA4 qhA5 qhB10 qhB11 qhB12 qhB13 qhB14 qhB15 qhB20 qhB21 qhB22 qhB23 qhB24 qhB25 qhD0 qhD1 qhD2 qhD3 qhD4 qhD5 qhQ10 qhQ11 qhQ12 qhQ13 qhQ14 qhQ15 qhQ20 qhQ21 qhQ22 qhQ23 qhQ24 qhQ25
  replace ox := ox.ext hx
  replace ou1 := ou1.ext hx
  replace ou2 := ou2.ext hx
  replace oa := oa.ext hx
  replace ot := ot.ext hx
  replace ob1 := ob1.ext hx
  replace ob2 := ob2.ext hx
  replace op := op.ext hx
  replace oq1 := oq1.ext hx
  replace oq2 := oq2.ext hx
  replace hP := hP.ext hx
  replace hU1 := hU1.ext hx
  replace hU2 := hU2.ext hx
  replace hA := hA.ext hx
  replace hB1 := hB1.ext hx
  replace hB2 := hB2.ext hx
  replace hD := hD.ext hx
  replace hQ1 := hQ1.ext hx
  replace hQ2 := hQ2.ext hx
  replace hX := hX.trans hx
  clear hx
  obtain ⟨qhP0, qhP1, qhP2, qhP3, qhP4, qhP5⟩ := hP.c6
  obtain ⟨qhU10, qhU11, qhU12, qhU13, qhU14, qhU15⟩ := hU1.c6
  obtain ⟨qhU20, qhU21, qhU22, qhU23, qhU24, qhU25⟩ := hU2.c6
  obtain ⟨qhA0, qhA1, qhA2, qhA3, qhA4, qhA5⟩ := hA.c6
  obtain ⟨qhB10, qhB11, qhB12, qhB13, qhB14, qhB15⟩ := hB1.c6
  obtain ⟨qhB20, qhB21, qhB22, qhB23, qhB24, qhB25⟩ := hB2.c6
  obtain ⟨qhD0, qhD1, qhD2, qhD3, qhD4, qhD5⟩ := hD.c6
  obtain ⟨qhQ10, qhQ11, qhQ12, qhQ13, qhQ14, qhQ15⟩ := hQ1.c6
  obtain ⟨qhQ20, qhQ21, qhQ22, qhQ23, qhQ24, qhQ25⟩ := hQ2.c6
  go_wp2_with fail
  refine (likeSelection_yes b1 b2 _ _ ob1.rd ob2.rd).mono ?_
  rintro e w17 ⟨rfl, hx⟩
  clear qhP0 qhP1 qhP2 qhP3 qhP4 qhP5 qhU10 qhU11 qhU12 qhU13 qhU14 qhU15 qhU20 qhU21 qhU22 qhU23 qhU24 qhU25 qhA0 qhA1 qhA2 qhA3 qhA4 qhA5 qhB10 qhB11 qhB12 qhB13 qhB14 qhB15 qhB20 qhB21 qhB22 qhB23 qhB24 qhB25 qhD0 qhD1 qhD2 qhD3 qhD4 qhD5 qhQ10 qhQ11 qhQ12 qhQ13 qhQ14 qhQ15 qhQ20 qhQ21 qhQ22 qhQ23 qhQ24 qhQ25
  replace ox := ox.ext hx
  replace ou1 := ou1.ext hx
  replace ou2 := ou2.ext hx
  replace oa := oa.ext hx
  replace ot := ot.ext hx
  replace ob1 := ob1.ext hx
  replace ob2 := ob2.ext hx
  replace op := op.ext hx
  replace oq1 := oq1.ext hx
  replace oq2 := oq2.ext hx
  replace hP := hP.ext hx
  replace hU1 := hU1.ext hx
  replace hU2 := hU2.ext hx
  replace hA := hA.ext hx
  replace hB1 := hB1.ext hx
  replace hB2 := hB2.ext hx
  replace hD := hD.ext hx
  replace hQ1 := hQ1.ext hx
  replace hQ2 := hQ2.ext hx
  replace hX := hX.trans hx
  clear hx
  obtain ⟨qhP0, qhP1, qhP2, qhP3, qhP4, qhP5⟩ := hP.c6
  obtain ⟨qhU10, qhU11, qhU12, qhU13, qhU14, qhU15⟩ := hU1.c6
  obtain ⟨qhU20, qhU21, qhU22, qhU23, qhU24, qhU25⟩ := hU2.c6
  obtain ⟨qhA0, qhA1, qhA2, qhA3, qhA4, qhA5⟩ := hA.c6
  obtain ⟨qhB10, qhB11, qhB12, qhB13, qhB14, qhB15⟩ := hB1.c6
  obtain ⟨qhB20, qhB21, qhB22, qhB23, qhB24, qhB25⟩ := hB2.c6
  obtain ⟨qhD0, qhD1, qhD2, qhD3, qhD4, qhD5⟩ := hD.c6
  obtain ⟨qhQ10, qhQ11, qhQ12, qhQ13, qhQ14, qhQ15⟩ := hQ1.c6
  obtain ⟨qhQ20, qhQ21, qhQ22, qhQ23, qhQ24, qhQ25⟩ := hQ2.c6
  go_wp2_with fail
  refine (likeSelection_yes q1 q2 _ _ oq1.rd oq2.rd).mono ?_
  rintro e w18 ⟨rfl, hx⟩
  clear qhP0 qhP1 qhP2 qhP3 qhP4 qhP5 qhU10 qhU11 qhU12 qhU13 qhU14 qhU15 qhU20 qhU21 qhU22 qhU23 qhU24 qhU25 qhA0 qhA1 qhA2 qhA3 qhA4 qhA5 qhB10 qhB11 qhB12 qhB13 qhB14 qhB15 qhB20 qhB21 qhB22 qhB23 qhB24 qhB25 qhD0 qhD1 qhD2 qhD3 qhD4 qhD5 qhQ10 qhQ11 qhQ12 qhQ13 qhQ14 qhQ15 qhQ20 qhQ21 qhQ22 qhQ23 qhQ24 qhQ25
  replace ox := ox.ext hx
  replace ou1 := ou1.ext hx
  replace ou2 := ou2.ext hx
  replace oa := oa.ext hx
  replace ot := ot.ext hx
  replace ob1 := ob1.ext hx
  replace ob2 := ob2.ext hx
  replace op := op.ext hx
  replace oq1 := oq1.ext hx
  replace oq2 := oq2.ext hx
  replace hP := hP.ext hx
  replace hU1 := hU1.ext hx
  replace hU2 := hU2.ext hx
  replace hA := hA.ext hx
  replace hB1 := hB1.ext hx
  replace hB2 := hB2.ext hx
  replace hD := hD.ext hx
  replace hQ1 := hQ1.ext hx
  replace hQ2 := hQ2.ext hx
  replace hX := hX.trans hx
  clear hx
  obtain ⟨qhP0, qhP1, qhP2, qhP3, qhP4, qhP5⟩ := hP.c6
  obtain ⟨qhU10, qhU11, qhU12, qhU13, qhU14, qhU15⟩ := hU1.c6
  obtain ⟨qhU20, qhU21, qhU22, qhU23, qhU24, qhU25⟩ := hU2.c6
  obtain ⟨qhA0, qhA1, qhA2, qhA3, qhA4, qhA5⟩ := hA.c6
  obtain ⟨qhB10, qhB11, qhB12, qhB13, qhB14, qhB15⟩ := hB1.c6
  obtain ⟨qhB20, qhB21, qhB22, qhB23, qhB24, qhB25⟩ := hB2.c6
  obtain ⟨qhD0, qhD1, qhD2, qhD3, qhD4, qhD5⟩ := hD.c6
  obtain ⟨qhQ10, qhQ11, qhQ12, qhQ13, qhQ14, qhQ15⟩ := hQ1.c6
  obtain ⟨qhQ20, qhQ21, qhQ22, qhQ23, qhQ24, qhQ25⟩ := hQ2.c6
  have hIq : okS yp = (selC yp == 0) := by unfold selC; cases okS yp <;> rfl
  have hIJ := fun W h => impl.IsSelection_any p yp W h
  simp only [hIq] at hIJ
  clear hIq
  go_wp2_with fail
  refine (hIJ _ op.rd).mono ?_
  rintro e w19 ⟨rfl, hx⟩
  clear qhP0 qhP1 qhP2 qhP3 qhP4 qhP5 qhU10 qhU11 qhU12 qhU13 qhU14 qhU15 qhU20 qhU21 qhU22 qhU23 qhU24 qhU25 qhA0 qhA1 qhA2 qhA3 qhA4 qhA5 qhB10 qhB11 qhB12 qhB13 qhB14 qhB15 qhB20 qhB21 qhB22 qhB23 qhB24 qhB25 qhD0 qhD1 qhD2 qhD3 qhD4 qhD5 qhQ10 qhQ11 qhQ12 qhQ13 qhQ14 qhQ15 qhQ20 qhQ21 qhQ22 qhQ23 qhQ24 qhQ25
  replace ox := ox.ext hx
  replace ou1 := ou1.ext hx
  replace ou2 := ou2.ext hx
  replace oa := oa.ext hx
  replace ot := ot.ext hx
  replace ob1 := ob1.ext hx
  replace ob2 := ob2.ext hx
  replace op := op.ext hx
  replace oq1 := oq1.ext hx
  replace oq2 := oq2.ext hx
  replace hP := hP.ext hx
  replace hU1 := hU1.ext hx
  replace hU2 := hU2.ext hx
  replace hA := hA.ext hx
  replace hB1 := hB1.ext hx
  replace hB2 := hB2.ext hx
  replace hD := hD.ext hx
  replace hQ1 := hQ1.ext hx
  replace hQ2 := hQ2.ext hx
  replace hX := hX.trans hx
  clear hx
  clear hU2 hB2 hD hQ1 hQ2 ou2 ob2 op oq1 oq2 hIJ
  go_upto_region 20 with fail
  go_cut [216, 19, 21, 22, 23, 24, 25, 26, 27, 28, 29, 30, 31, 32, 33] (fun s216 s19 s21 s22 s23 s24 s25 s26 s27 s28 s29 s30 s31 s32 s33 wx => s216 = .bool false ∧ wx = w19)
  case first => as_aux_lemma =>
    clear hP hU1 hA hB1 ox ou1 oa ot ob1 hX hc
    by_cases hok : okS yp = true
    · have c1 : selC yp = 0 := by unfold selC; rw [if_pos hok]
      obtain ⟨r1, r2, r3⟩ := reach_ok hok
      cases hov : overB yp
      · have e1 : overV yp = false := by rw [r3, hov]
        have e2 : ptC yp = 0 := by unfold ptC passC; rw [if_pos hok, hov]; rfl
        have e3 : ¬ leftV yp < reachV yp := by omega
        clear r1 r2 r3 hov hok
        go_wp2_with fail
        go_meet
        exact ⟨rfl, rfl⟩
      · have e1 : overV yp = true := by rw [r3, hov]
        have e2 : ptC yp = 5 := by unfold ptC passC; rw [if_pos hok, hov]; rfl
        have e4 : reachV yp = 0 := r2 e1
        have e3 : ¬ leftV yp < 0 := by omega
        clear r1 r2 r3 hov hok
        go_wp2_with fail
        go_meet
        exact ⟨rfl, rfl⟩
    · have c1 : selC yp = 1 := by unfold selC; rw [if_neg hok]
      clear hok
      go_wp2_with fail
      go_meet
      exact ⟨rfl, rfl⟩
  case rest =>
    obtain ⟨rfl, hwc⟩ := hcut
    have hwc2 := hwc.symm
    subst hwc2
    clear hwc
    go_upto_if 218 with fail
    go_cut [34, 35, 36, 37, 38, 39] (fun _ _ _ _ _ _ wx => Ext w19 wx)
    case first => as_aux_lemma =>
      clear hP hU1 ox ou1 hX hc
      by_cases h1 : (pmR ya ms).2.2 = 0
      case neg =>
        have hb : ((pmR ya ms).2.2 == 0) = false := by rw [beq_eq_false_iff_ne]; exact h1
        clear h1 hA hB1 oa ot ob1
        go_wp2_with fail
        go_meet
        exact Ext.refl _
      obtain ⟨N, hN⟩ : ∃ N, Hid (N = t.n / 2) := ⟨_, rfl⟩
      have htl : t.n = ms.length := ot.rd.1
      have hNl : N ≤ ms.length := by have := hN.out; omega
      obtain ⟨f1, f2, f3⟩ := pm_half h1 hNl
      have hb : ((pmR ya ms).2.2 == 0) = true := by rw [h1]; rfl
      clear h1
      obtain ⟨At, nt, ct⟩ := t
      simp only at hN htl
      have hcp := Own.cap (s := ⟨At, nt, ct⟩) ot
      obtain ⟨hcp1, hcp2⟩ := hcp
      simp only at hcp1 hcp2
      have hn16 : nt ≤ 16777216 := ot.rd.le
      have hAt : At = none ∨ ∃ b off, At = some ⟨b, off, none⟩ := by
        rcases ot.2.2 with ⟨e, _⟩ | ⟨g, cap, cur, e, _⟩
        · injection e with e1; exact .inl e1
        · injection e with e1; exact .inr ⟨g, 0, e1⟩
      have hq0 : (nt : Int).tdiv 2 = ((N : Nat) : Int) := by rw [Int.tdiv_eq_ediv_of_nonneg (by omega), hN.out]; omega
      have hwN : IntKind.i64.wrap ((N : Int)) = (N : Int) := Go.IntWalk.i64_in _ (by omega)
      have hwq : IntKind.i64.wrap ((nt : Int).tdiv 2) = (N : Int) := by rw [hq0, hwN]
      have hNn : N ≤ nt := by omega
      have hNc : N ≤ ct := by omega
      have hrt : Rd w19 At nt ms := ot.rd
      have k1 := fun W h => impl.PlayMoves_any a ya ⟨At, N, ct⟩ (ms.take N) W h
      have e21 : (pmR ya (ms.take N)).2.1 = N := by rw [f2]
      have e22 : (pmR ya (ms.take N)).2.2 = 0 := by rw [f2]
      simp only [e21, e22] at k1
      obtain ⟨ym, hym⟩ : ∃ ym, ym = (pmR ya (ms.take N)).1 := ⟨_, rfl⟩
      rw [← hym] at k1 f3
      have hsum : N + (nt - N) = (pmR ya ms).2.1 := by rw [f1]; omega
      have hws : IntKind.i64.wrap ((N : Int) + ((nt - N : Nat) : Int)) = ((pmR ya ms).2.1 : Int) := by rw [← hsum, Go.IntWalk.i64_in _ (by omega)]; omega
      have hwd2 : IntKind.i64.wrap ((nt : Int) / 2) = (N : Int) := by have := hN.out; rw [show ((nt : Int) / 2) = (N : Int) by omega]; exact hwN
      replace htl := hide htl
      clear hsum f1 f2 e21 e22 hym
      go_upto_region 23 with fail
      have hlz := hA.lt
      go_cut [34, 35, 36] (fun s34 s35 s36 wx => ∃ (g : Nat) (x' : SelA), s34 = .pointer (some ⟨g, 0, none⟩) ∧ s35 = .int .i64 (N : Int) ∧ s36 = .int .i64 0 ∧ Blk wx g 51 #[.slice x'.p.x.A x'.p.x.n x'.p.x.c, .slice x'.p.y.A x'.p.y.n x'.p.y.c, .slice x'.p.z.A x'.p.z.n x'.p.z.c, .slice x'.s.A x'.s.n x'.s.c, .int .i64 x'.t, .int .i64 x'.q] ∧ RdS wx x' ym ∧ Ext w19 wx)
      case first => as_aux_lemma =>
        have hrd := hrt
        have hW := (Ext.refl w19).drew
        have hBd := hA.drew
        refine wp_region_sink (S := fun w' => w'.cell? ⟨w4.heap.size, 0, none⟩ = some (.slice a.p.x.A a.p.x.n a.p.x.c) ∧ w'.cell? ⟨w4.heap.size, 1, none⟩ = some (.slice a.p.y.A a.p.y.n a.p.y.c) ∧ w'.cell? ⟨w4.heap.size, 2, none⟩ = some (.slice a.p.z.A a.p.z.n a.p.z.c) ∧ w'.cell? ⟨w4.heap.size, 3, none⟩ = some (.slice a.s.A a.s.n a.s.c) ∧ w'.cell? ⟨w4.heap.size, 4, none⟩ = some (.int .i64 a.t) ∧ w'.cell? ⟨w4.heap.size, 5, none⟩ = some (.int .i64 a.q)) 14 (by kernel_rfl) ?_
        change wpAnyT _ _ _ _ _ _ _ _ _ (World.drew _)
        generalize hwd : World.drew _ = wd at hW hBd ⊢
        clear hwd
        have kk := hBd.c6
        refine wpAnyT_takeL (i := 0) 8 (v := ?_) rfl (by kernel_rfl) (by kernel_rfl) (by kernel_rfl) (by kernel_rfl) (by kernel_rfl) (fun _ _ _ h => h) (Or.inl ⟨by rfl, ?_⟩) kk ?_
        rotate_left 1
        · (intro W hSw; (try dsimp only at hSw); go_simp) <;> with_reducible rfl
        try simp only [Act.put, List.setIfInBounds_toArray, List.set_cons_zero, List.set_cons_succ]
        refine wpAnyT_takeL (i := 1) 8 (v := ?_) rfl (by kernel_rfl) (by kernel_rfl) (by kernel_rfl) (by kernel_rfl) (by kernel_rfl) (fun _ _ _ h => h) (Or.inl ⟨by rfl, ?_⟩) kk ?_
        rotate_left 1
        · (intro W hSw; (try dsimp only at hSw); go_simp) <;> with_reducible rfl
        try simp only [Act.put, List.setIfInBounds_toArray, List.set_cons_zero, List.set_cons_succ]
        refine wpAnyT_takeL (i := 2) 8 (v := ?_) rfl (by kernel_rfl) (by kernel_rfl) (by kernel_rfl) (by kernel_rfl) (by kernel_rfl) (fun _ _ _ h => h) (Or.inl ⟨by rfl, ?_⟩) kk ?_
        rotate_left 1
        · (intro W hSw; (try dsimp only at hSw); go_simp) <;> with_reducible rfl
        try simp only [Act.put, List.setIfInBounds_toArray, List.set_cons_zero, List.set_cons_succ]
        refine wpAnyT_takeL (i := 3) 8 (v := ?_) rfl (by kernel_rfl) (by kernel_rfl) (by kernel_rfl) (by kernel_rfl) (by kernel_rfl) (fun _ _ _ h => h) (Or.inl ⟨by rfl, ?_⟩) kk ?_
        rotate_left 1
        · (intro W hSw; (try dsimp only at hSw); go_simp) <;> with_reducible rfl
        try simp only [Act.put, List.setIfInBounds_toArray, List.set_cons_zero, List.set_cons_succ]
        refine wpAnyT_takeL (i := 4) 8 (v := ?_) rfl (by kernel_rfl) (by kernel_rfl) (by kernel_rfl) (by kernel_rfl) (by kernel_rfl) (fun _ _ _ h => h) (Or.inl ⟨by rfl, ?_⟩) kk ?_
        rotate_left 1
        · (intro W hSw; (try dsimp only at hSw); go_simp) <;> with_reducible rfl
        try simp only [Act.put, List.setIfInBounds_toArray, List.set_cons_zero, List.set_cons_succ]
        refine wpAnyT_takeL (i := 5) 8 (v := ?_) rfl (by kernel_rfl) (by kernel_rfl) (by kernel_rfl) (by kernel_rfl) (by kernel_rfl) (fun _ _ _ h => h) (Or.inl ⟨by rfl, ?_⟩) kk ?_
        rotate_left 1
        · intro W _; (refine (run_toS W (.tmp 221) (.tmp 224) ?_ At nt ct ?_ N ?_ hNc hAt)); all_goals (first | rfl | (go_simp <;> with_reducible rfl))
        try simp only [Act.put, List.setIfInBounds_toArray, List.set_cons_zero, List.set_cons_succ]
        refine wpAnyT_go2 (i := 6) (j := 11) rfl rfl (by kernel_rfl) (fun K hK => ?_) (fun K hK => ?_)
        · go_simp
          go_at_call 37
          refine (k1 _ (oa.rd.ext hW) ((hrt.take (k := N) hNn).ext hW)).mono ?_
          rintro e wk4 ⟨z, rfl, oz, hx⟩
          go_simp
          replace hBd := hBd.ext hx
          replace hW := hW.trans hx
          have kk5 := hBd.c6
          refine hK _ _ ⟨fun _ => kk5, ?_⟩
          clear hK K
          refine wpAnyT_takeL (i := 7) 8 (v := ?_) rfl (by kernel_rfl) (by kernel_rfl) (by kernel_rfl) (by kernel_rfl) (by kernel_rfl) (fun _ _ _ h => h) (Or.inl ⟨by rfl, ?_⟩) kk5 ?_
          rotate_left 1
          · (intro W hSw; (try dsimp only at hSw); go_simp) <;> with_reducible rfl
          try simp only [Act.put, List.setIfInBounds_toArray, List.set_cons_zero, List.set_cons_succ]
          refine wpAnyT_takeL (i := 8) 8 (v := ?_) rfl (by kernel_rfl) (by kernel_rfl) (by kernel_rfl) (by kernel_rfl) (by kernel_rfl) (fun _ _ _ h => h) (Or.inl ⟨by rfl, ?_⟩) kk5 ?_
          rotate_left 1
          · (intro W hSw; (try dsimp only at hSw); go_simp) <;> with_reducible rfl
          try simp only [Act.put, List.setIfInBounds_toArray, List.set_cons_zero, List.set_cons_succ]
          refine wpAnyT_takeL (i := 9) 8 (v := ?_) rfl (by kernel_rfl) (by kernel_rfl) (by kernel_rfl) (by kernel_rfl) (by kernel_rfl) (fun _ _ _ h => h) (Or.inl ⟨by rfl, ?_⟩) kk5 ?_
          rotate_left 1
          · (intro W hSw; (try dsimp only at hSw); go_simp) <;> with_reducible rfl
          try simp only [Act.put, List.setIfInBounds_toArray, List.set_cons_zero, List.set_cons_succ]
          refine wpAnyT_takeL (i := 10) 8 (v := ?_) rfl (by kernel_rfl) (by kernel_rfl) (by kernel_rfl) (by kernel_rfl) (by kernel_rfl) (fun _ _ _ h => h) (Or.inl ⟨by rfl, ?_⟩) kk5 ?_
          rotate_left 1
          · (intro W hSw; (try dsimp only at hSw); go_simp) <;> with_reducible rfl
          try simp only [Act.put, List.setIfInBounds_toArray, List.set_cons_zero, List.set_cons_succ]
          clear hx
          refine wpAnyT_go (i := 11) rfl (by kernel_rfl) fun K hK => ?_
          go_simp
          have hx := (Ext.refl wk4).alloc (.cells #[.slice none 0 0, .slice none 0 0, .slice none 0 0, .slice none 0 0, .int .i64 0, .int .i64 0] 51)
          have BP := Blk.new wk4 51 (#[.slice none 0 0, .slice none 0 0, .slice none 0 0, .slice none 0 0, .int .i64 0, .int .i64 0])
          obtain ⟨bP, hb⟩ : ∃ b, b = wk4.heap.size := ⟨_, rfl⟩
          have hne : ∀ k, blksS z k → k ≠ bP := fun k hk e => by have := (oz.lt hk).2; omega
          have hlB := hBd.lt
          replace oz := oz.ext hx
          generalize hw : World.alloc wk4 (.cells #[.slice none 0 0, .slice none 0 0, .slice none 0 0, .slice none 0 0, .int .i64 0, .int .i64 0] 51) = wk5 at hx BP oz ⊢
          rw [← hb] at BP ⊢
          have hbw : w19.heap.size ≤ bP := by have := hW.size; omega
          have hbo : w4.heap.size ≠ bP := by omega
          replace hBd := hBd.ext hx
          replace hW := hW.trans hx
          refine hK _ _ ⟨fun _ => hBd.c6, ?_⟩
          clear hK K kk5 hx hb hw
          refine wpAnyT_go (i := 12) rfl (by kernel_rfl) fun K hK => ?_
          obtain ⟨v0, v1, v2, v3, v4, v5⟩ := BP.c6
          have z0 := BP.frozen 0
          have z1 := BP.frozen 1
          have z2 := BP.frozen 2
          have z3 := BP.frozen 3
          have z4 := BP.frozen 4
          have z5 := BP.frozen 5
          go_simp
          refine hK _ _ ⟨fun _ => ((((((hBd.off bP 0 hbo _).off bP 1 hbo _).off bP 2 hbo _).off bP 3 hbo _).off bP 4 hbo _).off bP 5 hbo _).c6, ?_⟩
          clear hK K
          refine wpAnyT_go (i := 13) rfl (by kernel_rfl) fun K hK => ?_
          go_simp
          refine hK _ _ ⟨fun _ => ((((((hBd.off bP 0 hbo _).off bP 1 hbo _).off bP 2 hbo _).off bP 3 hbo _).off bP 4 hbo _).off bP 5 hbo _).c6, ?_⟩
          clear hK K
          refine wpAnyT_go (i := 14) rfl (by kernel_rfl) fun K hK => ?_
          go_simp
          refine hK _ _ ⟨fun h => absurd rfl h, ?_⟩
          clear hK K
          refine wpAnyT_done (by kernel_rfl) ?_ _
          go_wp2_with fail
          go_meet
          exact ⟨bP, z, rfl, rfl, rfl, BP.set6 _ _ _ _ _ _, (((((((oz.awD hne 0 _).awD hne 1 _).awD hne 2 _).awD hne 3 _).awD hne 4 _).awD hne 5 _)).rd, ((((((hW.off bP 0 hbw _).off bP 1 hbw _).off bP 2 hbw _).off bP 3 hbw _).off bP 4 hbw _).off bP 5 hbw _)⟩
        · go_simp
          have hx := (Ext.refl wd).alloc (.cells #[.slice none 0 0, .slice none 0 0, .slice none 0 0, .slice none 0 0, .int .i64 0, .int .i64 0] 51)
          have BP := Blk.new wd 51 (#[.slice none 0 0, .slice none 0 0, .slice none 0 0, .slice none 0 0, .int .i64 0, .int .i64 0])
          obtain ⟨bP, hb⟩ : ∃ b, b = wd.heap.size := ⟨_, rfl⟩
          have hlB := hBd.lt
          generalize hw : World.alloc wd (.cells #[.slice none 0 0, .slice none 0 0, .slice none 0 0, .slice none 0 0, .int .i64 0, .int .i64 0] 51) = wk4 at hx BP ⊢
          rw [← hb] at BP ⊢
          have hbw : w19.heap.size ≤ bP := by have := hW.size; omega
          have hbo : w4.heap.size ≠ bP := by omega
          have hbl := BP.lt
          replace hBd := hBd.ext hx
          replace hW := hW.trans hx
          refine hK _ _ ⟨fun _ => hBd.c6, ?_⟩
          clear hK K hx hb hw
          refine wpAnyT_go (i := 6) rfl (by kernel_rfl) fun K hK => ?_
          go_simp
          go_at_call 37
          refine (k1 _ (oa.rd.ext hW) ((hrt.take (k := N) hNn).ext hW)).mono ?_
          rintro e wk5 ⟨z, rfl, oz, hx⟩
          go_simp
          have hne : ∀ k, blksS z k → k ≠ bP := fun k hk e => by have := (oz.lt hk).1; omega
          replace BP := BP.ext hx
          replace hBd := hBd.ext hx
          replace hW := hW.trans hx
          have kk5 := hBd.c6
          refine hK _ _ ⟨fun _ => kk5, ?_⟩
          clear hK K
          refine wpAnyT_takeL (i := 7) 8 (v := ?_) rfl (by kernel_rfl) (by kernel_rfl) (by kernel_rfl) (by kernel_rfl) (by kernel_rfl) (fun _ _ _ h => h) (Or.inl ⟨by rfl, ?_⟩) kk5 ?_
          rotate_left 1
          · (intro W hSw; (try dsimp only at hSw); go_simp) <;> with_reducible rfl
          try simp only [Act.put, List.setIfInBounds_toArray, List.set_cons_zero, List.set_cons_succ]
          refine wpAnyT_takeL (i := 8) 8 (v := ?_) rfl (by kernel_rfl) (by kernel_rfl) (by kernel_rfl) (by kernel_rfl) (by kernel_rfl) (fun _ _ _ h => h) (Or.inl ⟨by rfl, ?_⟩) kk5 ?_
          rotate_left 1
          · (intro W hSw; (try dsimp only at hSw); go_simp) <;> with_reducible rfl
          try simp only [Act.put, List.setIfInBounds_toArray, List.set_cons_zero, List.set_cons_succ]
          refine wpAnyT_takeL (i := 9) 8 (v := ?_) rfl (by kernel_rfl) (by kernel_rfl) (by kernel_rfl) (by kernel_rfl) (by kernel_rfl) (fun _ _ _ h => h) (Or.inl ⟨by rfl, ?_⟩) kk5 ?_
          rotate_left 1
          · (intro W hSw; (try dsimp only at hSw); go_simp) <;> with_reducible rfl
          try simp only [Act.put, List.setIfInBounds_toArray, List.set_cons_zero, List.set_cons_succ]
          refine wpAnyT_takeL (i := 10) 8 (v := ?_) rfl (by kernel_rfl) (by kernel_rfl) (by kernel_rfl) (by kernel_rfl) (by kernel_rfl) (fun _ _ _ h => h) (Or.inl ⟨by rfl, ?_⟩) kk5 ?_
          rotate_left 1
          · (intro W hSw; (try dsimp only at hSw); go_simp) <;> with_reducible rfl
          try simp only [Act.put, List.setIfInBounds_toArray, List.set_cons_zero, List.set_cons_succ]
          clear hx
          refine wpAnyT_go (i := 12) rfl (by kernel_rfl) fun K hK => ?_
          obtain ⟨v0, v1, v2, v3, v4, v5⟩ := BP.c6
          have z0 := BP.frozen 0
          have z1 := BP.frozen 1
          have z2 := BP.frozen 2
          have z3 := BP.frozen 3
          have z4 := BP.frozen 4
          have z5 := BP.frozen 5
          go_simp
          refine hK _ _ ⟨fun _ => ((((((hBd.off bP 0 hbo _).off bP 1 hbo _).off bP 2 hbo _).off bP 3 hbo _).off bP 4 hbo _).off bP 5 hbo _).c6, ?_⟩
          clear hK K
          refine wpAnyT_go (i := 13) rfl (by kernel_rfl) fun K hK => ?_
          go_simp
          refine hK _ _ ⟨fun _ => ((((((hBd.off bP 0 hbo _).off bP 1 hbo _).off bP 2 hbo _).off bP 3 hbo _).off bP 4 hbo _).off bP 5 hbo _).c6, ?_⟩
          clear hK K
          refine wpAnyT_go (i := 14) rfl (by kernel_rfl) fun K hK => ?_
          go_simp
          refine hK _ _ ⟨fun h => absurd rfl h, ?_⟩
          clear hK K
          refine wpAnyT_done (by kernel_rfl) ?_ _
          go_wp2_with fail
          go_meet
          exact ⟨bP, z, rfl, rfl, rfl, BP.set6 _ _ _ _ _ _, (((((((oz.awD hne 0 _).awD hne 1 _).awD hne 2 _).awD hne 3 _).awD hne 4 _).awD hne 5 _)).rd, ((((((hW.off bP 0 hbw _).off bP 1 hbw _).off bP 2 hbw _).off bP 3 hbw _).off bP 4 hbw _).off bP 5 hbw _)⟩
      case rest =>
        obtain ⟨gM, xm, rfl, rfl, rfl, hM, om, hx⟩ := hcut
        obtain ⟨w40, hw40⟩ : ∃ wx, wx = wc := ⟨_, rfl⟩
        subst hw40
        replace hB1 := hB1.ext hx
        replace ob1 := ob1.ext hx
        have hrt2 := hrt.ext hx
        have hWx := hx
        clear hx hA oa ot k1
        have k2 := fun W h => impl.PlayMoves_any xm ym ⟨fromA At ct N, nt - N, ct - N⟩ (ms.drop N) W h
        have f31 : (pmR ym (ms.drop N)).1 = (pmR ya ms).1 := by rw [f3]
        have f32 : (pmR ym (ms.drop N)).2.1 = nt - N := by rw [f3, htl.out]
        have f33 : (pmR ym (ms.drop N)).2.2 = 0 := by rw [f3]
        simp only [f31, f32, f33] at k2
        clear f31 f32 f33 f3
        go_upto_region 24 with fail
        have hlz := hM.lt
        go_cut [37, 38, 39] (fun s37 s38 s39 wx => ∃ (g : Nat) (x' : SelA), s37 = .pointer (some ⟨g, 0, none⟩) ∧ s38 = .int .i64 ((nt - N : Nat) : Int) ∧ s39 = .int .i64 0 ∧ Blk wx g 51 #[.slice x'.p.x.A x'.p.x.n x'.p.x.c, .slice x'.p.y.A x'.p.y.n x'.p.y.c, .slice x'.p.z.A x'.p.z.n x'.p.z.c, .slice x'.s.A x'.s.n x'.s.c, .int .i64 x'.t, .int .i64 x'.q] ∧ RdS wx x' (pmR ya ms).1 ∧ Ext w40 wx)
        case first => as_aux_lemma =>
          have hW := (Ext.refl w40).drew
          have hBd := hM.drew
          refine wp_region_sink (S := fun w' => w'.cell? ⟨gM, 0, none⟩ = some (.slice xm.p.x.A xm.p.x.n xm.p.x.c) ∧ w'.cell? ⟨gM, 1, none⟩ = some (.slice xm.p.y.A xm.p.y.n xm.p.y.c) ∧ w'.cell? ⟨gM, 2, none⟩ = some (.slice xm.p.z.A xm.p.z.n xm.p.z.c) ∧ w'.cell? ⟨gM, 3, none⟩ = some (.slice xm.s.A xm.s.n xm.s.c) ∧ w'.cell? ⟨gM, 4, none⟩ = some (.int .i64 xm.t) ∧ w'.cell? ⟨gM, 5, none⟩ = some (.int .i64 xm.q)) 14 (by kernel_rfl) ?_
          change wpAnyT _ _ _ _ _ _ _ _ _ (World.drew _)
          generalize hwd : World.drew _ = wd at hW hBd ⊢
          clear hwd
          have kk := hBd.c6
          refine wpAnyT_takeL (i := 0) 8 (v := ?_) rfl (by kernel_rfl) (by kernel_rfl) (by kernel_rfl) (by kernel_rfl) (by kernel_rfl) (fun _ _ _ h => h) (Or.inl ⟨by rfl, ?_⟩) kk ?_
          rotate_left 1
          · (intro W hSw; (try dsimp only at hSw); go_simp) <;> with_reducible rfl
          try simp only [Act.put, List.setIfInBounds_toArray, List.set_cons_zero, List.set_cons_succ]
          refine wpAnyT_takeL (i := 1) 8 (v := ?_) rfl (by kernel_rfl) (by kernel_rfl) (by kernel_rfl) (by kernel_rfl) (by kernel_rfl) (fun _ _ _ h => h) (Or.inl ⟨by rfl, ?_⟩) kk ?_
          rotate_left 1
          · (intro W hSw; (try dsimp only at hSw); go_simp) <;> with_reducible rfl
          try simp only [Act.put, List.setIfInBounds_toArray, List.set_cons_zero, List.set_cons_succ]
          refine wpAnyT_takeL (i := 2) 8 (v := ?_) rfl (by kernel_rfl) (by kernel_rfl) (by kernel_rfl) (by kernel_rfl) (by kernel_rfl) (fun _ _ _ h => h) (Or.inl ⟨by rfl, ?_⟩) kk ?_
          rotate_left 1
          · (intro W hSw; (try dsimp only at hSw); go_simp) <;> with_reducible rfl
          try simp only [Act.put, List.setIfInBounds_toArray, List.set_cons_zero, List.set_cons_succ]
          refine wpAnyT_takeL (i := 3) 8 (v := ?_) rfl (by kernel_rfl) (by kernel_rfl) (by kernel_rfl) (by kernel_rfl) (by kernel_rfl) (fun _ _ _ h => h) (Or.inl ⟨by rfl, ?_⟩) kk ?_
          rotate_left 1
          · (intro W hSw; (try dsimp only at hSw); go_simp) <;> with_reducible rfl
          try simp only [Act.put, List.setIfInBounds_toArray, List.set_cons_zero, List.set_cons_succ]
          refine wpAnyT_takeL (i := 4) 8 (v := ?_) rfl (by kernel_rfl) (by kernel_rfl) (by kernel_rfl) (by kernel_rfl) (by kernel_rfl) (fun _ _ _ h => h) (Or.inl ⟨by rfl, ?_⟩) kk ?_
          rotate_left 1
          · (intro W hSw; (try dsimp only at hSw); go_simp) <;> with_reducible rfl
          try simp only [Act.put, List.setIfInBounds_toArray, List.set_cons_zero, List.set_cons_succ]
          refine wpAnyT_takeL (i := 5) 8 (v := ?_) rfl (by kernel_rfl) (by kernel_rfl) (by kernel_rfl) (by kernel_rfl) (by kernel_rfl) (fun _ _ _ h => h) (Or.inl ⟨by rfl, ?_⟩) kk ?_
          rotate_left 1
          · intro W _; (refine (run_from W (.tmp 232) (.tmp 235) ?_ At nt ct ?_ N ?_ hNn)); all_goals (first | rfl | (go_simp <;> with_reducible rfl))
          try simp only [Act.put, List.setIfInBounds_toArray, List.set_cons_zero, List.set_cons_succ]
          refine wpAnyT_go2 (i := 6) (j := 11) rfl rfl (by kernel_rfl) (fun K hK => ?_) (fun K hK => ?_)
          · go_simp
            go_at_call 37
            refine (k2 _ (om.ext hW) (Rd.ext (Rd.from_ _ hrt2 hNn hcp1) hW)).mono ?_
            rintro e wk4 ⟨z, rfl, oz, hx⟩
            go_simp
            replace hBd := hBd.ext hx
            replace hW := hW.trans hx
            have kk5 := hBd.c6
            refine hK _ _ ⟨fun _ => kk5, ?_⟩
            clear hK K
            refine wpAnyT_takeL (i := 7) 8 (v := ?_) rfl (by kernel_rfl) (by kernel_rfl) (by kernel_rfl) (by kernel_rfl) (by kernel_rfl) (fun _ _ _ h => h) (Or.inl ⟨by rfl, ?_⟩) kk5 ?_
            rotate_left 1
            · (intro W hSw; (try dsimp only at hSw); go_simp) <;> with_reducible rfl
            try simp only [Act.put, List.setIfInBounds_toArray, List.set_cons_zero, List.set_cons_succ]
            refine wpAnyT_takeL (i := 8) 8 (v := ?_) rfl (by kernel_rfl) (by kernel_rfl) (by kernel_rfl) (by kernel_rfl) (by kernel_rfl) (fun _ _ _ h => h) (Or.inl ⟨by rfl, ?_⟩) kk5 ?_
            rotate_left 1
            · (intro W hSw; (try dsimp only at hSw); go_simp) <;> with_reducible rfl
            try simp only [Act.put, List.setIfInBounds_toArray, List.set_cons_zero, List.set_cons_succ]
            refine wpAnyT_takeL (i := 9) 8 (v := ?_) rfl (by kernel_rfl) (by kernel_rfl) (by kernel_rfl) (by kernel_rfl) (by kernel_rfl) (fun _ _ _ h => h) (Or.inl ⟨by rfl, ?_⟩) kk5 ?_
            rotate_left 1
            · (intro W hSw; (try dsimp only at hSw); go_simp) <;> with_reducible rfl
            try simp only [Act.put, List.setIfInBounds_toArray, List.set_cons_zero, List.set_cons_succ]
            refine wpAnyT_takeL (i := 10) 8 (v := ?_) rfl (by kernel_rfl) (by kernel_rfl) (by kernel_rfl) (by kernel_rfl) (by kernel_rfl) (fun _ _ _ h => h) (Or.inl ⟨by rfl, ?_⟩) kk5 ?_
            rotate_left 1
            · (intro W hSw; (try dsimp only at hSw); go_simp) <;> with_reducible rfl
            try simp only [Act.put, List.setIfInBounds_toArray, List.set_cons_zero, List.set_cons_succ]
            clear hx
            refine wpAnyT_go (i := 11) rfl (by kernel_rfl) fun K hK => ?_
            go_simp
            have hx := (Ext.refl wk4).alloc (.cells #[.slice none 0 0, .slice none 0 0, .slice none 0 0, .slice none 0 0, .int .i64 0, .int .i64 0] 51)
            have BP := Blk.new wk4 51 (#[.slice none 0 0, .slice none 0 0, .slice none 0 0, .slice none 0 0, .int .i64 0, .int .i64 0])
            obtain ⟨bP, hb⟩ : ∃ b, b = wk4.heap.size := ⟨_, rfl⟩
            have hne : ∀ k, blksS z k → k ≠ bP := fun k hk e => by have := (oz.lt hk).2; omega
            have hlB := hBd.lt
            replace oz := oz.ext hx
            generalize hw : World.alloc wk4 (.cells #[.slice none 0 0, .slice none 0 0, .slice none 0 0, .slice none 0 0, .int .i64 0, .int .i64 0] 51) = wk5 at hx BP oz ⊢
            rw [← hb] at BP ⊢
            have hbw : w40.heap.size ≤ bP := by have := hW.size; omega
            have hbo : gM ≠ bP := by omega
            replace hBd := hBd.ext hx
            replace hW := hW.trans hx
            refine hK _ _ ⟨fun _ => hBd.c6, ?_⟩
            clear hK K kk5 hx hb hw
            refine wpAnyT_go (i := 12) rfl (by kernel_rfl) fun K hK => ?_
            obtain ⟨v0, v1, v2, v3, v4, v5⟩ := BP.c6
            have z0 := BP.frozen 0
            have z1 := BP.frozen 1
            have z2 := BP.frozen 2
            have z3 := BP.frozen 3
            have z4 := BP.frozen 4
            have z5 := BP.frozen 5
            go_simp
            refine hK _ _ ⟨fun _ => ((((((hBd.off bP 0 hbo _).off bP 1 hbo _).off bP 2 hbo _).off bP 3 hbo _).off bP 4 hbo _).off bP 5 hbo _).c6, ?_⟩
            clear hK K
            refine wpAnyT_go (i := 13) rfl (by kernel_rfl) fun K hK => ?_
            go_simp
            refine hK _ _ ⟨fun _ => ((((((hBd.off bP 0 hbo _).off bP 1 hbo _).off bP 2 hbo _).off bP 3 hbo _).off bP 4 hbo _).off bP 5 hbo _).c6, ?_⟩
            clear hK K
            refine wpAnyT_go (i := 14) rfl (by kernel_rfl) fun K hK => ?_
            go_simp
            refine hK _ _ ⟨fun h => absurd rfl h, ?_⟩
            clear hK K
            refine wpAnyT_done (by kernel_rfl) ?_ _
            go_wp2_with fail
            go_meet
            exact ⟨bP, z, rfl, rfl, rfl, BP.set6 _ _ _ _ _ _, (((((((oz.awD hne 0 _).awD hne 1 _).awD hne 2 _).awD hne 3 _).awD hne 4 _).awD hne 5 _)).rd, ((((((hW.off bP 0 hbw _).off bP 1 hbw _).off bP 2 hbw _).off bP 3 hbw _).off bP 4 hbw _).off bP 5 hbw _)⟩
          · go_simp
            have hx := (Ext.refl wd).alloc (.cells #[.slice none 0 0, .slice none 0 0, .slice none 0 0, .slice none 0 0, .int .i64 0, .int .i64 0] 51)
            have BP := Blk.new wd 51 (#[.slice none 0 0, .slice none 0 0, .slice none 0 0, .slice none 0 0, .int .i64 0, .int .i64 0])
            obtain ⟨bP, hb⟩ : ∃ b, b = wd.heap.size := ⟨_, rfl⟩
            have hlB := hBd.lt
            generalize hw : World.alloc wd (.cells #[.slice none 0 0, .slice none 0 0, .slice none 0 0, .slice none 0 0, .int .i64 0, .int .i64 0] 51) = wk4 at hx BP ⊢
            rw [← hb] at BP ⊢
            have hbw : w40.heap.size ≤ bP := by have := hW.size; omega
            have hbo : gM ≠ bP := by omega
            have hbl := BP.lt
            replace hBd := hBd.ext hx
            replace hW := hW.trans hx
            refine hK _ _ ⟨fun _ => hBd.c6, ?_⟩
            clear hK K hx hb hw
            refine wpAnyT_go (i := 6) rfl (by kernel_rfl) fun K hK => ?_
            go_simp
            go_at_call 37
            refine (k2 _ (om.ext hW) (Rd.ext (Rd.from_ _ hrt2 hNn hcp1) hW)).mono ?_
            rintro e wk5 ⟨z, rfl, oz, hx⟩
            go_simp
            have hne : ∀ k, blksS z k → k ≠ bP := fun k hk e => by have := (oz.lt hk).1; omega
            replace BP := BP.ext hx
            replace hBd := hBd.ext hx
            replace hW := hW.trans hx
            have kk5 := hBd.c6
            refine hK _ _ ⟨fun _ => kk5, ?_⟩
            clear hK K
            refine wpAnyT_takeL (i := 7) 8 (v := ?_) rfl (by kernel_rfl) (by kernel_rfl) (by kernel_rfl) (by kernel_rfl) (by kernel_rfl) (fun _ _ _ h => h) (Or.inl ⟨by rfl, ?_⟩) kk5 ?_
            rotate_left 1
            · (intro W hSw; (try dsimp only at hSw); go_simp) <;> with_reducible rfl
            try simp only [Act.put, List.setIfInBounds_toArray, List.set_cons_zero, List.set_cons_succ]
            refine wpAnyT_takeL (i := 8) 8 (v := ?_) rfl (by kernel_rfl) (by kernel_rfl) (by kernel_rfl) (by kernel_rfl) (by kernel_rfl) (fun _ _ _ h => h) (Or.inl ⟨by rfl, ?_⟩) kk5 ?_
            rotate_left 1
            · (intro W hSw; (try dsimp only at hSw); go_simp) <;> with_reducible rfl
            try simp only [Act.put, List.setIfInBounds_toArray, List.set_cons_zero, List.set_cons_succ]
            refine wpAnyT_takeL (i := 9) 8 (v := ?_) rfl (by kernel_rfl) (by kernel_rfl) (by kernel_rfl) (by kernel_rfl) (by kernel_rfl) (fun _ _ _ h => h) (Or.inl ⟨by rfl, ?_⟩) kk5 ?_
            rotate_left 1
            · (intro W hSw; (try dsimp only at hSw); go_simp) <;> with_reducible rfl
            try simp only [Act.put, List.setIfInBounds_toArray, List.set_cons_zero, List.set_cons_succ]
            refine wpAnyT_takeL (i := 10) 8 (v := ?_) rfl (by kernel_rfl) (by kernel_rfl) (by kernel_rfl) (by kernel_rfl) (by kernel_rfl) (fun _ _ _ h => h) (Or.inl ⟨by rfl, ?_⟩) kk5 ?_
            rotate_left 1
            · (intro W hSw; (try dsimp only at hSw); go_simp) <;> with_reducible rfl
            try simp only [Act.put, List.setIfInBounds_toArray, List.set_cons_zero, List.set_cons_succ]
            clear hx
            refine wpAnyT_go (i := 12) rfl (by kernel_rfl) fun K hK => ?_
            obtain ⟨v0, v1, v2, v3, v4, v5⟩ := BP.c6
            have z0 := BP.frozen 0
            have z1 := BP.frozen 1
            have z2 := BP.frozen 2
            have z3 := BP.frozen 3
            have z4 := BP.frozen 4
            have z5 := BP.frozen 5
            go_simp
            refine hK _ _ ⟨fun _ => ((((((hBd.off bP 0 hbo _).off bP 1 hbo _).off bP 2 hbo _).off bP 3 hbo _).off bP 4 hbo _).off bP 5 hbo _).c6, ?_⟩
            clear hK K
            refine wpAnyT_go (i := 13) rfl (by kernel_rfl) fun K hK => ?_
            go_simp
            refine hK _ _ ⟨fun _ => ((((((hBd.off bP 0 hbo _).off bP 1 hbo _).off bP 2 hbo _).off bP 3 hbo _).off bP 4 hbo _).off bP 5 hbo _).c6, ?_⟩
            clear hK K
            refine wpAnyT_go (i := 14) rfl (by kernel_rfl) fun K hK => ?_
            go_simp
            refine hK _ _ ⟨fun h => absurd rfl h, ?_⟩
            clear hK K
            refine wpAnyT_done (by kernel_rfl) ?_ _
            go_wp2_with fail
            go_meet
            exact ⟨bP, z, rfl, rfl, rfl, BP.set6 _ _ _ _ _ _, (((((((oz.awD hne 0 _).awD hne 1 _).awD hne 2 _).awD hne 3 _).awD hne 4 _).awD hne 5 _)).rd, ((((((hW.off bP 0 hbw _).off bP 1 hbw _).off bP 2 hbw _).off bP 3 hbw _).off bP 4 hbw _).off bP 5 hbw _)⟩
        case rest =>
          obtain ⟨gR, xr, rfl, rfl, rfl, hR, orr, hx⟩ := hcut
          obtain ⟨w50, hw50⟩ : ∃ wx, wx = wc := ⟨_, rfl⟩
          subst hw50
          replace hB1 := hB1.ext hx
          replace ob1 := ob1.ext hx
          replace hWx := hWx.trans hx
          clear hx hM om k2 hrt2
          obtain ⟨r0, r1, r2, r3, r4, r5⟩ := hR.c6
          obtain ⟨qhB10, qhB11, qhB12, qhB13, qhB14, qhB15⟩ := hB1.c6
          go_wp2_with fail
          refine (likeSelection_yes xr b1 _ _ orr ob1.rd).mono ?_
          rintro e w60 ⟨rfl, hx⟩
          dsimp only
          go_wp2_with fail
          go_meet
          exact hWx.trans hx
    case rest => as_aux_lemma =>
      have hxc := hcut
      replace ox := ox.ext hxc
      replace ou1 := ou1.ext hxc
      replace hP := hP.ext hxc
      replace hU1 := hU1.ext hxc
      replace hX := hX.trans hxc
      clear hA hB1 oa ot ob1 hml
      obtain ⟨wg, hwg⟩ : ∃ wg, wg = wc := ⟨_, rfl⟩
      subst hwg
      obtain ⟨qhP0, qhP1, qhP2, qhP3, qhP4, qhP5⟩ := hP.c6
      obtain ⟨qhU0, qhU1, qhU2, qhU3, qhU4, qhU5⟩ := hU1.c6
      by_cases he : ssC y k = 0
      case neg =>
        have he' : (ssC y k != 0) = true := by rw [bne_iff_ne]; exact he
        clear he
        go_wp2_with fail
        go_ret
        exact ⟨rfl, hX⟩
      obtain ⟨g1, g2, g3, g4, g5, g6⟩ := ss_ok he
      have hv := ssV_yes he
      rw [hv] at ou1
      obtain ⟨_, _, bb0, bb1, bt, _⟩ := okS_six g1
      have c1 : selC y = 0 := by unfold selC; rw [if_pos g1]
      have c2 : selC (strL y k) = 0 := by unfold selC; rw [if_pos g2]
      have hlv : 0 ≤ leftV y ∧ leftV y ≤ 20 := by unfold leftV; rw [if_pos g1]; omega
      have s1 := fun W h => impl.StrikesLeft_any x y W h
      have s2 := fun W h => impl.StrikesLeft_any u1 (strL y k) W h
      simp only [c1] at s1
      simp only [c2, g3] at s2
      have hxt : x.t = y.t := ox.2.2.1.1
      have hut : u1.t = 1 - x.t := by rw [ou1.2.2.1.1, g4, hxt]
      rw [← hxt] at bt g5
      have hl : x.t.toNat < u1.s.n := by rw [ou1.2.1.rd.1, g6]; omega
      obtain ⟨tt, htt⟩ : ∃ tt : Nat, x.t = (tt : Int) := ⟨x.t.toNat, by omega⟩
      have htn : x.t.toNat = tt := by omega
      rw [htn] at hl g5
      obtain ⟨bz, oz, uz, hAz, hbz, hcz, huz⟩ := ou1.2.1.rd.el hl
      have huz0 : 0 ≤ uz := by have := huz.out; rw [List.getD_eq_getElem?_getD, this] at g5; exact g5
      have hw1 : IntKind.i64.wrap (leftV y - 1) = leftV y - 1 := Go.IntWalk.i64_in _ (by omega)
      have hw2 : IntKind.i64.wrap (1 - x.t) = 1 - x.t := Go.IntWalk.i64_in _ (by omega)
      have hw3 : u1.t = IntKind.i64.wrap (1 - x.t) := by rw [hut, hw2]
      rw [he]
      clear g1 g2 g3 g4 g5 g6 hv bb0 bb1 c1 c2 he hxt
      obtain ⟨xp, xs, xt, xq⟩ := x
      obtain ⟨up, ⟨Au, nu, cu⟩, ut, uq⟩ := u1
      simp only at hAz hl hut hw2 hw3 htt htn bt
      subst hAz htt hut
      have ht0 : (0 : Int) ≤ (tt : Int) := by omega
      have ht1 : (tt : Int) < (nu : Int) := by omega
      clear hw3 htn bt hlv
      go_wp2_with fail
      refine (s1 _ ox.rd).mono ?_
      rintro e wb ⟨rfl, hx⟩
      clear qhP0 qhP1 qhP2 qhP3 qhP4 qhP5 qhU0 qhU1 qhU2 qhU3 qhU4 qhU5
      replace ou1 := ou1.ext hx
      replace hP := hP.ext hx
      replace hU1 := hU1.ext hx
      have hcz2 := (hx.cell (p := ⟨bz, oz + tt, none⟩) hbz).trans hcz
      have hbz2 := Nat.lt_of_lt_of_le hbz hx.size
      replace hX := hX.trans hx
      clear hx s1
      obtain ⟨qhP0, qhP1, qhP2, qhP3, qhP4, qhP5⟩ := hP.c6
      obtain ⟨qhU0, qhU1, qhU2, qhU3, qhU4, qhU5⟩ := hU1.c6
      go_wp2_with fail
      refine (s2 _ ou1.rd).mono ?_
      rintro e wd ⟨rfl, hx⟩
      clear qhP0 qhP1 qhP2 qhP3 qhP4 qhP5 qhU0 qhU1 qhU2 qhU3 qhU4 qhU5
      replace hP := hP.ext hx
      replace hU1 := hU1.ext hx
      have hcz3 := (hx.cell (p := ⟨bz, oz + tt, none⟩) hbz2).trans hcz2
      replace hX := hX.trans hx
      clear hx s2 hcz hcz2
      obtain ⟨qhP0, qhP1, qhP2, qhP3, qhP4, qhP5⟩ := hP.c6
      obtain ⟨qhU0, qhU1, qhU2, qhU3, qhU4, qhU5⟩ := hU1.c6
      go_wp2_with fail
      go_ret
      exact ⟨rfl, hX⟩

theorem own_FnStrikes : ownKnob Try.prog.godebug = none := by kernel_rfl
set_option maxRecDepth 100000 in
theorem lifted_FnStrikes (os : Os) (started : os.Started) (H : Type) (enc : TypeId × Value → H) :
    ReturnsInHanded {} Try.checked os 5 .any (Rows.fnStrikesSpec.pre6 enc Try.prog Try.f5 Rows.fnStrikesRow.domain false) (Rows.fnStrikesSpec.post enc Try.prog Try.f5 false true false false) := by
  refine returnsInHanded_of_change (C := Try.checked) own_FnStrikes started (by kernel_rfl) Try.func5
    (ChangeSpec.witness6 (enc := enc) (C := Try.checked) false ⟨#[], #[.slice none 0 0], []⟩ 8 (by kernel_rfl) (by kernel_rfl) (by kernel_rfl) (by kernel_rfl)) ?_
  intro W base args ds gs before hval0 hW hcnd _
  have hval : ∀ (j : Nat) t v, Try.f5.params[j]? = some t → args[j]? = some v → Value.okWide Try.prog W .any base t v := hval0
  have hW' := hW
  obtain ⟨p, q, hA0, hV, rfl, hfz, hnd⟩ := hW
  have hA : DataW.TrodAll enc Try.prog W 0 (fun _ => true) true Try.f5.params.toList args.toList ds p := hA0
  rw [Try.params5] at hA hval
  obtain ⟨v0, vs0, d0, ds0, p0, q0, hargs, rfl, rfl, h0, r0⟩ := trodAll_cons hA
  obtain ⟨rfl, rfl, rfl⟩ := trodAll_nil r0
  obtain rfl : args = #[v0] := by cases args; simp_all
  obtain ⟨rfl, rfl⟩ := trodVars_none hV
  have k0 := h0
  have lt0 : ∀ x ∈ p0, x.block < W.heap.size := by obtain ⟨m, hm⟩ := k0; exact DataW.trod_lt m _ _ _ hm
  obtain ⟨s0, rfl, i0, c0⟩ := open_code (hval 0 22 v0 rfl rfl) h0 (fun _ => rfl)
  clear hA0 hval0
  refine (law_FnStrikes s0 W i0 c0).mono fun e W' ⟨he, bel⟩ => ?_
  subst he
  exact ⟨_, rfl, _, _, _, [], _, [], hW', trodAll_mk1 (shut_bool Try.underlying4 _), (trodAll_cons_mk (Below.trod laidOut (by kernel_rfl) (of_decide_eq_true (by kernel_rfl)) k0 bel lt0) trodAll_mk0), rfl, Below.frame bel _, fun h => by cases h⟩
theorem over_FnStrikes : Rows.fnStrikesRow.holds Try.pinned (OpenSpec.ofChange Rows.fnStrikesSpec) :=
  OpenClaim.holds_of_wide 5 Try.f5 rfl rfl rfl rfl rfl rfl rfl ⟨rfl, rfl, rfl, rfl, rfl⟩ rfl rfl rfl rfl rfl (by kernel_rfl) Try.func5 (by kernel_rfl)
    (of_decide_eq_true (by kernel_rfl)) (by unfold Func.isWrapper; first | (rw [if_pos (by decide +kernel)]; kernel_rfl) | (rw [if_neg (by decide +kernel)]; exact ⟨rfl, rfl⟩))
    (fun os started H enc _ => lifted_FnStrikes os started H enc)
/-- the statement -/
theorem proved_FnStrikes : Rows.FnStrikesSaid := over_FnStrikes
#print axioms proved_FnStrikes
end Go.Proofs.Ytkfjphjmffbpiaa.mem
