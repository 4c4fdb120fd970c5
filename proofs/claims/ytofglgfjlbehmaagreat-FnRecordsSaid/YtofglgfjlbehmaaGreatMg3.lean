/-
  Contracts of impl.without and of the library's DeleteFunc, IndexFunc under its closure.
  Words for regions that draw their order: a slice cut taken first; which of two, of three comes up.
-/
import Derived.Test.YtofglgfjlbehmaaGreatMk
import Derived.Lib.SliceRun
namespace Go.Proofs.YtofglgfjlbehmaaGreat.mem
open Go.ChangeShapes Go.WideShapes Go.ChangeAt Go.RowKit

end Go.Proofs.YtofglgfjlbehmaaGreat.mem
namespace Go.Proofs.YtofglgfjlbehmaaGreat.mem
open Go.ChangeShapes Go.WideShapes Go.ChangeAt Go.RowKit

section
variable {P : Program} {ops : Array Oper} {Q : Exit → Act → World → Prop} {md : Region.Mode} {S : World → Prop}
theorem wpAnyT_go2 {n i j : Nat} {o o' : Oper} {fuel : Nat} {listed : Array Bool} {a : Act} {w : World} (ho : ops.toList[i]? = some o) (ho' : ops.toList[j]? = some o') (hr : Region.ready md ops listed = [i, j])
    (h : ∀ K' : Act → World → Prop, (∀ a w, ((i ≠ n → S w) ∧ wpAnyT P md ops Q S n fuel (listed.setIfInBounds i true) a w) → K' a w) → if Region.wanted o (yielded ops a.tmps) = true then Oper.wp P o a w K' Q else K' (a.put o.dst undef) w)
    (h' : ∀ K' : Act → World → Prop, (∀ a w, ((j ≠ n → S w) ∧ wpAnyT P md ops Q S n fuel (listed.setIfInBounds j true) a w) → K' a w) → if Region.wanted o' (yielded ops a.tmps) = true then Oper.wp P o' a w K' Q else K' (a.put o'.dst undef) w) :
    wpAnyT P md ops Q S n (fuel + 1) listed a w :=
  wpAnyT_two hr (wpOp_stepT (by simpa using ho) h) (wpOp_stepT (by simpa using ho') h')
theorem wpAnyT_go3 {n i j k : Nat} {o o' o'' : Oper} {fuel : Nat} {listed : Array Bool} {a : Act} {w : World} (hi : ops.toList[i]? = some o) (hj : ops.toList[j]? = some o') (hk : ops.toList[k]? = some o'') (hr : Region.ready md ops listed = [i, j, k])
    (gi : ∀ K' : Act → World → Prop, (∀ a w, ((i ≠ n → S w) ∧ wpAnyT P md ops Q S n fuel (listed.setIfInBounds i true) a w) → K' a w) → if Region.wanted o (yielded ops a.tmps) = true then Oper.wp P o a w K' Q else K' (a.put o.dst undef) w)
    (gj : ∀ K' : Act → World → Prop, (∀ a w, ((j ≠ n → S w) ∧ wpAnyT P md ops Q S n fuel (listed.setIfInBounds j true) a w) → K' a w) → if Region.wanted o' (yielded ops a.tmps) = true then Oper.wp P o' a w K' Q else K' (a.put o'.dst undef) w)
    (gk : ∀ K' : Act → World → Prop, (∀ a w, ((k ≠ n → S w) ∧ wpAnyT P md ops Q S n fuel (listed.setIfInBounds k true) a w) → K' a w) → if Region.wanted o'' (yielded ops a.tmps) = true then Oper.wp P o'' a w K' Q else K' (a.put o''.dst undef) w)
    : wpAnyT P md ops Q S n (fuel + 1) listed a w :=
  ⟨fun h0 => (by rw [hr] at h0; cases h0), fun x hx => by
    rw [hr] at hx
    simp only [List.mem_cons, List.not_mem_nil, or_false] at hx
    rcases hx with rfl | rfl | rfl
    · exact wpOp_stepT (by simpa using hi) gi
    · exact wpOp_stepT (by simpa using hj) gj
    · exact wpOp_stepT (by simpa using hk) gk⟩
theorem wpAnyT_go4 {n i j k m : Nat} {o o' o'' o''' : Oper} {fuel : Nat} {listed : Array Bool} {a : Act} {w : World} (hi : ops.toList[i]? = some o) (hj : ops.toList[j]? = some o') (hk : ops.toList[k]? = some o'') (hm : ops.toList[m]? = some o''') (hr : Region.ready md ops listed = [i, j, k, m])
    (gi : ∀ K' : Act → World → Prop, (∀ a w, ((i ≠ n → S w) ∧ wpAnyT P md ops Q S n fuel (listed.setIfInBounds i true) a w) → K' a w) → if Region.wanted o (yielded ops a.tmps) = true then Oper.wp P o a w K' Q else K' (a.put o.dst undef) w)
    (gj : ∀ K' : Act → World → Prop, (∀ a w, ((j ≠ n → S w) ∧ wpAnyT P md ops Q S n fuel (listed.setIfInBounds j true) a w) → K' a w) → if Region.wanted o' (yielded ops a.tmps) = true then Oper.wp P o' a w K' Q else K' (a.put o'.dst undef) w)
    (gk : ∀ K' : Act → World → Prop, (∀ a w, ((k ≠ n → S w) ∧ wpAnyT P md ops Q S n fuel (listed.setIfInBounds k true) a w) → K' a w) → if Region.wanted o'' (yielded ops a.tmps) = true then Oper.wp P o'' a w K' Q else K' (a.put o''.dst undef) w)
    (gm : ∀ K' : Act → World → Prop, (∀ a w, ((m ≠ n → S w) ∧ wpAnyT P md ops Q S n fuel (listed.setIfInBounds m true) a w) → K' a w) → if Region.wanted o''' (yielded ops a.tmps) = true then Oper.wp P o''' a w K' Q else K' (a.put o'''.dst undef) w)
    : wpAnyT P md ops Q S n (fuel + 1) listed a w :=
  ⟨fun h0 => (by rw [hr] at h0; cases h0), fun x hx => by
    rw [hr] at hx
    simp only [List.mem_cons, List.not_mem_nil, or_false] at hx
    rcases hx with rfl | rfl | rfl | rfl
    · exact wpOp_stepT (by simpa using hi) gi
    · exact wpOp_stepT (by simpa using hj) gj
    · exact wpOp_stepT (by simpa using hk) gk
    · exact wpOp_stepT (by simpa using hm) gm⟩
end
section
variable (w : World)
set_option maxRecDepth 20000 in
theorem run_from {o : Oper} {a : Act} (x l : Operand)
    (ho : o.op = .slice 24 x (some l) none none) (A : Option Addr) (n c : Nat) (hx : a.eval x = .slice A n c) (k : Nat) (hl : a.eval l = .int .i64 k) (hk : k ≤ n) :
    (execOp a.eval o).run Tryz.prog w = .ok (.value (.slice (fromA A c k) (n - k) (c - k))) w := by
  obtain ⟨i, hi, hz0, hz1, hz2⟩ := info_parts ints_info
  have hu : Tryz.prog.underlying 24 = some (.slice (Tryz.prog.elem 24)) := by kernel_rfl
  have he : Tryz.prog.elem 24 = 2 := by kernel_rfl
  have hrun := run_slice_l (P := Tryz.prog) (w := w) 24 A n c hu .i64 (k : Int) (by omega) (by omega)
  have hs : (sizeOf 2).run Tryz.prog w = .ok 1 w := by simp [sizeOf, typeInfo, hi, hz1]
  rw [he, hs] at hrun
  simp only [Result.andThen_ok, sliced, Int.toNat_natCast, Nat.mul_one] at hrun
  have hat : (Instr.sliceAt 24 (.slice A n c) (some (.int .i64 (k : Int))) none none).run Tryz.prog w = .ok (.slice (fromA A c k) (n - k) (c - k)) w := by
    rw [run_sliceAt_slice (h := hu)]
    exact hrun
  unfold execOp
  simp only [ho, Option.map_some, Option.map_none, hx, hl, Sem.run_bind, Sem.run_pure, hat, Result.andThen_ok]
set_option maxRecDepth 20000 in
theorem run_to {o : Oper} {a : Act} (x l : Operand)
    (ho : o.op = .slice 24 x none (some l) none) (b off n c : Nat) (hx : a.eval x = .slice (some ⟨b, off, none⟩) n c) (k : Nat) (hl : a.eval l = .int .i64 k) (hk : k ≤ c) :
    (execOp a.eval o).run Tryz.prog w = .ok (.value (.slice (some ⟨b, off, none⟩) k c)) w := by
  obtain ⟨i, hi, hz0, hz1, hz2⟩ := info_parts ints_info
  have hu : Tryz.prog.underlying 24 = some (.slice (Tryz.prog.elem 24)) := by kernel_rfl
  have he : Tryz.prog.elem 24 = 2 := by kernel_rfl
  have hrun := run_slice_h (P := Tryz.prog) (w := w) 24 (some ⟨b, off, none⟩) n c hu .i64 (k : Int) (by omega) (by omega)
  have hs : (sizeOf 2).run Tryz.prog w = .ok 1 w := by simp [sizeOf, typeInfo, hi, hz1]
  rw [he, hs] at hrun
  simp only [Result.andThen_ok, sliced, Int.toNat_natCast, Nat.sub_zero, Option.map_some, Go.WideShapes.add_plain, Nat.zero_mul, Nat.add_zero, ite_self] at hrun
  have hat : (Instr.sliceAt 24 (.slice (some ⟨b, off, none⟩) n c) none (some (.int .i64 (k : Int))) none).run Tryz.prog w = .ok (.slice (some ⟨b, off, none⟩) k c) w := by
    rw [run_sliceAt_slice (h := hu)]
    exact hrun
  unfold execOp
  simp only [ho, Option.map_some, Option.map_none, hx, hl, Sem.run_bind, Sem.run_pure, hat, Result.andThen_ok]
theorem Blk.rd1 {w : World} {g : Nat} {x : Int} (h : Blk w g 2 #[.int .i64 x]) : Rd w (some ⟨g, 0, none⟩) 1 [x] := Rd.of_cell _ _ _ (h.get 0 _ rfl)
end
end Go.Proofs.YtofglgfjlbehmaaGreat.mem
