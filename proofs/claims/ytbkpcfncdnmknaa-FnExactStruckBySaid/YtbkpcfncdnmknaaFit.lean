/-
  Contracts of both programs' FitFor.
-/
import Derived.Test.YtbkpcfncdnmknaaCauC
import Derived.Test.YtbkpcfncdnmknaaPTop
import Derived.Deep.RegionWith
namespace Go.Proofs.Ytbkpcfncdnmknaa.mem
open Go.ChangeShapes Go.WideShapes Go.ChangeAt Go.RowKit

def fitK (ts : List Ti) (us : List ByteArray) (xs : List Int) : Int := ((xs.filter (fun x => decide ((cauL us x ts).length = 0))).length : Int)
def fitV (ts : List Ti) (us : List ByteArray) (l : L3) : Int := if okK ts us = true ∧ okP l = true then fitK ts us (nz l.x ++ l.y) else 0
def fitC (ts : List Ti) (us : List ByteArray) (l : L3) : Int := if okK ts us = true ∧ okP l = true then 0 else 1
theorem fitK_le (ts : List Ti) (us : List ByteArray) (xs : List Int) (k : Nat) : 0 ≤ fitK ts us (xs.take k) ∧ fitK ts us (xs.take k) ≤ k := by
  unfold fitK
  have h1 := List.length_filter_le (fun x => decide ((cauL us x ts).length = 0)) (xs.take k)
  have h2 := List.length_take_le k xs
  omega
theorem fitK_yes {ts : List Ti} {us : List ByteArray} {xs : List Int} {k : Nat} {x : Int} (h : xs[k]? = some x) (hx : (cauL us x ts).length = 0) : fitK ts us (xs.take (k + 1)) = fitK ts us (xs.take k) + 1 := by
  unfold fitK
  rw [take_more h, List.filter_append]
  have : decide ((cauL us x ts).length = 0) = true := decide_eq_true hx
  simp only [List.filter_cons, this, List.filter_nil, if_true, List.length_append, List.length_cons, List.length_nil]
  omega
theorem fitK_no {ts : List Ti} {us : List ByteArray} {xs : List Int} {k : Nat} {x : Int} (h : xs[k]? = some x) (hx : ¬ (cauL us x ts).length = 0) : fitK ts us (xs.take (k + 1)) = fitK ts us (xs.take k) := by
  unfold fitK
  rw [take_more h, List.filter_append]
  have : decide ((cauL us x ts).length = 0) = false := decide_eq_false hx
  simp only [List.filter_cons, this, List.filter_nil, Bool.false_eq_true, if_false, List.append_nil]
theorem impl.biased_any (s : Sl) (ts : List Ti) (q : Sl) (us : List ByteArray) (x : Int) (w : World) (hr : RdT w s.A s.n ts) (hq : RdW w q.A q.n us) :
    Calls Try.prog 91 #[.slice s.A s.n s.c, .slice q.A q.n q.c, .int .i64 x] w fun e w' => e = .returned (.bool (decide (0 < (cauL us x ts).length))) ∧ Ext w w' := by
  go_enter Try.func91, Try.ntmps91
  go_wp2_with fail
  refine (impl.causes_any s ts q us x w hr hq).mono ?_
  rintro e w1 ⟨v, rfl, ho, hx1⟩
  have E := hide (show (cauL us x ts).length = v.n from ho.rd.1.symm)
  go_wp2
  go_ret
  exact ⟨by rw [E.out]; first | rfl | simp, hx1⟩
theorem spec.l13Panel_any (s : Sl) (ts : List Ti) (q : Sl) (us : List ByteArray) (p : S3) (l : L3) (w : World) (hr : RdT w s.A s.n ts) (hq : RdW w q.A q.n us) (hp : Rd3 w p l) :
    Calls Try.prog 72 #[.slice s.A s.n s.c, .slice q.A q.n q.c, .agg #[.slice p.x.A p.x.n p.x.c, .slice p.y.A p.y.n p.y.c, .slice p.z.A p.z.n p.z.c]] w fun e w' => e = .returned (.int .i64 (fitC ts us l)) ∧ Ext w w' := by
  have hX0 := (Ext.refl w).alloc (.cells #[.slice p.x.A p.x.n p.x.c, .slice p.y.A p.y.n p.y.c, .slice p.z.A p.z.n p.z.c] 31)
  obtain ⟨q0, q1, q2⟩ := (Blk.new w 31 (#[.slice p.x.A p.x.n p.x.c, .slice p.y.A p.y.n p.y.c, .slice p.z.A p.z.n p.z.c])).c3
  go_enter Try.func72, Try.ntmps72
  go_wp2_with fail
  refine (spec.IsPanel_any p l _ (hp.ext hX0)).mono ?_
  rintro e w1 ⟨rfl, hx1⟩
  clear q0 q1 q2
  have hX1 := hX0.trans hx1
  cases hpo : okP l
  · have E2 := hide (show fitC ts us l = 1 by unfold fitC; rw [hpo]; simp)
    go_wp2
    go_ret
    exact ⟨by rw [E2.out]; rfl, hX1⟩
  · have E2 := hide (show fitC ts us l = codC ts us 1 by
      unfold fitC codC
      rw [hpo]
      cases okK ts us <;> simp [inB])
    go_wp2_with (go_at_call 48; refine (spec.l13Code_any s ts q us 1 _ (hr.ext hX1) (hq.ext hX1)).mono ?_; rintro e w2 ⟨rfl, hx2⟩)
    go_ret
    exact ⟨by rw [E2.out]; rfl, hX1.trans hx2⟩
end Go.Proofs.Ytbkpcfncdnmknaa.mem
