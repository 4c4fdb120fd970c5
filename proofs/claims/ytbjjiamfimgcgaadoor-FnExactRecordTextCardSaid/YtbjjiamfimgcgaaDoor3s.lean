/-
  Contracts of the laws' own functions on structs of three lists (a panel, a jury): copy, size, compare, mark, hold.
-/
import Derived.Test.YtbjjiamfimgcgaaDoorInts
namespace Go.Proofs.YtbjjiamfimgcgaaDoor.mem
open Go.ChangeShapes Go.WideShapes Go.ChangeAt Go.RowKit

theorem Ext.cells {W w1 : World} (h : Ext W w1) : (∀ b o, b < W.heap.size → w1.cell? ⟨b, o, none⟩ = W.cell? ⟨b, o, none⟩) ∧ (∀ b o, b < W.heap.size → w1.frozen? ⟨b, o, none⟩ = W.frozen? ⟨b, o, none⟩) :=
  ⟨fun b o hb => Below.cell (p := ⟨b, o, none⟩) h hb, fun b o hb => Below.frozen (p := ⟨b, o, none⟩) h hb⟩

theorem toPanel_any (p : S3) (l : L3) (w : World) (hr : Rd3 w p l) :
    Calls Tryd.prog 12 #[.agg #[.slice p.x.A p.x.n p.x.c, .slice p.y.A p.y.n p.y.c, .slice p.z.A p.z.n p.z.c]] w fun e w' => ∃ p' : S3, e = .returned (.agg #[.slice p'.x.A p'.x.n p'.x.c, .slice p'.y.A p'.y.n p'.y.c, .slice p'.z.A p'.z.n p'.z.c]) ∧ Own3 w' w.heap.size p' l ∧ Ext w w' := by
  go_enter Tryd.func12, Tryd.ntmps12
  go_wp2_with fail
  refine (toInt64S_any p.x l.x _ ?c1).mono ?_
  case c1 => exact hr.1.ext ((((Ext.refl w).alloc _).alloc _).alloc _)
  rintro e w1 ⟨s1, rfl, ho1, hx1⟩
  have hX1 := ((((Ext.refl w).alloc _).alloc _).alloc _).trans hx1
  have hz1 : w.heap.size + 1 + 1 + 1 ≤ w1.heap.size := by have := hx1.size; simpa using this
  have hP1 := (((Blk.new w 29 (#[.slice p.x.A p.x.n p.x.c, .slice p.y.A p.y.n p.y.c, .slice p.z.A p.z.n p.z.c])).alloc (.cells #[.slice none 0 0, .slice none 0 0, .slice none 0 0] 32)).alloc (.cells #[.slice none 0 0, .slice none 0 0, .slice none 0 0] 32)).ext hx1
  have hR1 := (((Blk.new (w.alloc (.cells #[.slice p.x.A p.x.n p.x.c, .slice p.y.A p.y.n p.y.c, .slice p.z.A p.z.n p.z.c] 29)) 32 (#[.slice none 0 0, .slice none 0 0, .slice none 0 0]))).alloc (.cells #[.slice none 0 0, .slice none 0 0, .slice none 0 0] 32)).ext hx1
  have hO1 := (Blk.new ((w.alloc (.cells #[.slice p.x.A p.x.n p.x.c, .slice p.y.A p.y.n p.y.c, .slice p.z.A p.z.n p.z.c] 29)).alloc (.cells #[.slice none 0 0, .slice none 0 0, .slice none 0 0] 32)) 32 (#[.slice none 0 0, .slice none 0 0, .slice none 0 0])).ext hx1
  simp only [World.size_alloc] at hR1 hO1 ho1
  have q1 := hP1.get 1 _ rfl
  have q2 := hO1.get 0 _ rfl
  have q3 := hO1.frozen 0
  go_wp2_with fail
  refine (toInt64S_any p.y l.y _ ?c2).mono ?_
  case c2 => exact hr.2.1.ext (hX1.off (w.heap.size + 1 + 1) 0 (by omega) _)
  rintro e w2 ⟨s2, rfl, ho2, hx2⟩
  rw [size_off] at ho2
  clear q1 q2 q3
  have hX2 := (hX1.off (w.heap.size + 1 + 1) 0 (by omega) _).trans hx2
  have hz2 : w1.heap.size ≤ w2.heap.size := by have := hx2.size; simpa using this
  have hP2 := (hP1.off (w.heap.size + 1 + 1) 0 (by omega) _).ext hx2
  have hR2 := (hR1.off (w.heap.size + 1 + 1) 0 (by omega) _).ext hx2
  have hO2 := (hO1.set_ 0 (.slice s1.A s1.n s1.c)).ext hx2
  have hs2 := (ho1.off (w.heap.size + 1 + 1) 0 (by omega) _).ext hx2
  have q1 := hP2.get 2 _ rfl
  have q2 := hO2.get 1 _ rfl
  have q3 := hO2.frozen 1
  go_wp2_with fail
  refine (toInt64S_any p.z l.z _ ?c3).mono ?_
  case c3 => exact hr.2.2.1.ext (hX2.off (w.heap.size + 1 + 1) 1 (by omega) _)
  rintro e w3 ⟨s3, rfl, ho3, hx3⟩
  rw [size_off] at ho3
  clear q1 q2 q3
  have hX3 := (hX2.off (w.heap.size + 1 + 1) 1 (by omega) _).trans hx3
  have hz3 : w2.heap.size ≤ w3.heap.size := by have := hx3.size; simpa using this
  have hR3 := (hR2.off (w.heap.size + 1 + 1) 1 (by omega) _).ext hx3
  have hO3 := (hO2.set_ 1 (.slice s2.A s2.n s2.c)).ext hx3
  have hs3 := (hs2.off (w.heap.size + 1 + 1) 1 (by omega) _).ext hx3
  have ht3 := (ho2.off (w.heap.size + 1 + 1) 1 (by omega) _).ext hx3
  have q2 := hO3.get 2 _ rfl
  have q3 := hO3.frozen 2
  have q4 := hO3.get 0 _ rfl
  have q5 := hO3.get 1 _ rfl
  have q6 := hR3.get 0 _ rfl
  have q7 := hR3.get 1 _ rfl
  have q8 := hR3.get 2 _ rfl
  have q9 := hR3.frozen 0
  have q10 := hR3.frozen 1
  have q11 := hR3.frozen 2
  have hRf := (((hR3.off (w.heap.size + 1 + 1) 2 (by omega) (.slice s3.A s3.n s3.c)).set_ 0 (.slice s1.A s1.n s1.c)).set_ 1 (.slice s2.A s2.n s2.c)).set_ 2 (.slice s3.A s3.n s3.c)
  have f0 := hRf.get 0 _ rfl
  have f1 := hRf.get 1 _ rfl
  have f2 := hRf.get 2 _ rfl
  go_wp2
  refine bodyPost_ret (v := .agg #[.slice (⟨s1, s2, s3⟩ : S3).x.A (⟨s1, s2, s3⟩ : S3).x.n (⟨s1, s2, s3⟩ : S3).x.c, .slice (⟨s1, s2, s3⟩ : S3).y.A (⟨s1, s2, s3⟩ : S3).y.n (⟨s1, s2, s3⟩ : S3).y.c, .slice (⟨s1, s2, s3⟩ : S3).z.A (⟨s1, s2, s3⟩ : S3).z.n (⟨s1, s2, s3⟩ : S3).z.c]) (by simp [results, Tryd.results12, go_sem, f0, f1, f2]) rfl ⟨⟨s1, s2, s3⟩, rfl, ?_, ?_⟩
  · refine ⟨?_, ?_, ?_, ?_, apart_of_lt ho1 ho2 (Nat.le_refl _), apart_of_lt ho1 ho3 hz2, apart_of_lt ho2 ho3 (Nat.le_refl _)⟩
    · exact ((((hs3.off _ 2 (by omega) _).off _ 0 (by omega) _).off _ 1 (by omega) _).off _ 2 (by omega) _).mono (by omega)
    · exact ((((ht3.off _ 2 (by omega) _).off _ 0 (by omega) _).off _ 1 (by omega) _).off _ 2 (by omega) _).mono (by omega)
    · exact ((((ho3.off _ 2 (by omega) _).off _ 0 (by omega) _).off _ 1 (by omega) _).off _ 2 (by omega) _).mono (by omega)
    · have e1 := ho1.rd.1
      have e2 := ho2.rd.1
      have e3 := ho3.rd.1
      have i1 := hr.1.1
      have i2 := hr.2.1.1
      have i3 := hr.2.2.1.1
      have i4 := hr.2.2.2.1
      simp only
      omega
  · exact (((hX3.off _ 2 (by omega) _).off _ 0 (by omega) _).off _ 1 (by omega) _).off _ 2 (by omega) _
/-- what is left of a bound behind three slices -/
def sz3 (left : Int) (p : S3) : Int := if (p.x.n : Int) + p.y.n + p.z.n ≤ left then left - p.x.n - p.y.n - p.z.n else -1
theorem sz3_pos {left : Int} {p : S3} (h : 0 ≤ sz3 left p) (hl : left ≤ 1048576) : p.x.n + (p.y.n + p.z.n) ≤ 1048576 ∧ sz3 left p ≤ left := by
  unfold sz3 at h ⊢
  split at h
  · rename_i hh
    rw [if_pos hh]
    omega
  · omega
theorem szPanel_any (p : S3) (left : Int) (w : World) (h0 : 0 ≤ left) (h1 : left ≤ 1048576) (hx : p.x.n ≤ maxLen) (hy : p.y.n ≤ maxLen) (hz : p.z.n ≤ maxLen) :
    Calls Tryd.prog 10 #[.agg #[.slice p.x.A p.x.n p.x.c, .slice p.y.A p.y.n p.y.c, .slice p.z.A p.z.n p.z.c], .int .i64 left] w fun e w' => e = .returned (.int .i64 (sz3 left p)) ∧ Ext w w' := by
  by_cases c1 : (p.x.n : Int) ≤ left
  · have e1 : szV left p.x.n = left - p.x.n := if_pos c1
    by_cases c2 : (p.y.n : Int) ≤ left - p.x.n
    · have e2 : szV (left - p.x.n) p.y.n = left - p.x.n - p.y.n := if_pos c2
      by_cases c3 : (p.z.n : Int) ≤ left - p.x.n - p.y.n
      · have e3 : szV (left - p.x.n - p.y.n) p.z.n = left - p.x.n - p.y.n - p.z.n := if_pos c3
        have E := hide (show sz3 left p = left - p.x.n - p.y.n - p.z.n from if_pos (by omega))
        go_enter Tryd.func10, Tryd.ntmps10
        go_wp2_with (go_at_call 25; refine (szInt64S_any _ _ _ (by omega) (by omega) (by assumption)).mono ?_; rintro e w' ⟨rfl, rfl⟩)
        go_ret
        exact ⟨by rw [E.out]; rfl, (Ext.refl _).alloc _⟩
      · have e3 : szV (left - p.x.n - p.y.n) p.z.n = -1 := if_neg c3
        have E := hide (show sz3 left p = -1 from if_neg (by omega))
        go_enter Tryd.func10, Tryd.ntmps10
        go_wp2_with (go_at_call 25; refine (szInt64S_any _ _ _ (by omega) (by omega) (by assumption)).mono ?_; rintro e w' ⟨rfl, rfl⟩)
        go_ret
        exact ⟨by rw [E.out]; rfl, (Ext.refl _).alloc _⟩
    · have e2 : szV (left - p.x.n) p.y.n = -1 := if_neg c2
      have E := hide (show sz3 left p = -1 from if_neg (by omega))
      go_enter Tryd.func10, Tryd.ntmps10
      go_wp2_with (go_at_call 25; refine (szInt64S_any _ _ _ (by omega) (by omega) (by assumption)).mono ?_; rintro e w' ⟨rfl, rfl⟩)
      go_ret
      exact ⟨by rw [E.out]; rfl, (Ext.refl _).alloc _⟩
  · have e1 : szV left p.x.n = -1 := if_neg c1
    have E := hide (show sz3 left p = -1 from if_neg (by omega))
    go_enter Tryd.func10, Tryd.ntmps10
    go_wp2_with (go_at_call 25; refine (szInt64S_any _ _ _ (by omega) (by omega) (by assumption)).mono ?_; rintro e w' ⟨rfl, rfl⟩)
    go_ret
    exact ⟨by rw [E.out]; rfl, (Ext.refl _).alloc _⟩
theorem eqPanel_yes (p p' : S3) (l : L3) (w : World) (hr : Rd3 w p l) (hr' : Rd3 w p' l) :
    Calls Tryd.prog 14 #[.agg #[.slice p.x.A p.x.n p.x.c, .slice p.y.A p.y.n p.y.c, .slice p.z.A p.z.n p.z.c], .agg #[.slice p'.x.A p'.x.n p'.x.c, .slice p'.y.A p'.y.n p'.y.c, .slice p'.z.A p'.z.n p'.z.c]] w fun e w' => e = .returned (.bool true) ∧ Ext w w' := by
  go_enter Tryd.func14, Tryd.ntmps14
  go_wp2_with fail
  have hX0 := ((Ext.refl w).alloc (.cells #[.slice p.x.A p.x.n p.x.c, .slice p.y.A p.y.n p.y.c, .slice p.z.A p.z.n p.z.c] 32)).alloc (.cells #[.slice p'.x.A p'.x.n p'.x.c, .slice p'.y.A p'.y.n p'.y.c, .slice p'.z.A p'.z.n p'.z.c] 32)
  refine (eqInt64S_any p.x p'.x l.x l.x _ (hr.1.ext hX0) (hr'.1.ext hX0)).mono ?_
  rintro e w1 ⟨q1, rfl, rfl⟩
  rw [decide_eq_true (rfl : l.x = l.x)]
  go_wp2_with fail
  refine (eqInt64S_any p.y p'.y l.y l.y _ (hr.2.1.ext (hX0.drewN _)) (hr'.2.1.ext (hX0.drewN _))).mono ?_
  rintro e w2 ⟨q2, rfl, rfl⟩
  rw [decide_eq_true (rfl : l.y = l.y)]
  go_wp2_with fail
  refine (eqInt64S_any p.z p'.z l.z l.z _ (hr.2.2.1.ext (hX0.drewN _)) (hr'.2.2.1.ext (hX0.drewN _))).mono ?_
  rintro e w3 ⟨q3, rfl, rfl⟩
  rw [decide_eq_true (rfl : l.z = l.z)]
  go_wp2
  go_ret
  exact ⟨rfl, hX0.drewN _⟩
/-- the marks on three slices -/
def up3 (k : Int) (p : S3) : L3 := ⟨upL k p.x.n, upL (k + p.x.n) p.y.n, upL (k + p.x.n + p.y.n) p.z.n⟩
def len3 (p : S3) : Int := (p.x.n : Int) + p.y.n + p.z.n
theorem len3_le {w : World} {lo : Nat} {p : S3} {l : L3} (h : Own3 w lo p l) : 0 ≤ len3 p ∧ len3 p ≤ 2097152 := by
  have := h.2.2.2.1
  unfold len3
  omega
end Go.Proofs.YtbjjiamfimgcgaaDoor.mem
