/-
  Contracts of both programs' CausesOf and IsBiased.
-/
import Derived.Test.YtmcnnbjgehmmoaaCauB
namespace Go.Proofs.Ytmcnnbjgehmmoaa.mem
open Go.ChangeShapes Go.WideShapes Go.ChangeAt Go.RowKit

def cofL (ts : List Ti) (us : List ByteArray) (x : Int) : List Int := if codC ts us x = 0 then cauL us x ts else []
def biaV (ts : List Ti) (us : List ByteArray) (x : Int) : Bool := decide (0 < (cofL ts us x).length)
theorem codC_1 {ts : List Ti} {us : List ByteArray} (x : Int) (h : okK ts us = false) : codC ts us x = 1 := by unfold codC; rw [h]; rfl
theorem codC_2 {ts : List Ti} {us : List ByteArray} {x : Int} (h : okK ts us = true) (h2 : inB x 1 1000000 = false) : codC ts us x = 2 := by unfold codC; rw [h, h2]; rfl
theorem codC_0 {ts : List Ti} {us : List ByteArray} {x : Int} (h : okK ts us = true) (h2 : inB x 1 1000000 = true) : codC ts us x = 0 := by unfold codC; rw [h, h2]; rfl
theorem cofL_1 {ts : List Ti} {us : List ByteArray} {x : Int} (h : codC ts us x ≠ 0) : cofL ts us x = [] := by unfold cofL; rw [if_neg h]
theorem cofL_0 {ts : List Ti} {us : List ByteArray} {x : Int} (h : codC ts us x = 0) : cofL ts us x = cauL us x ts := by unfold cofL; rw [if_pos h]
theorem impl.CausesOf_any (s : Sl) (ts : List Ti) (q : Sl) (us : List ByteArray) (x : Int) (w : World) (hr : RdT w s.A s.n ts) (hq : RdW w q.A q.n us) (hc : cap1 s) :
    Calls Try.prog 9 #[.slice s.A s.n s.c, .slice q.A q.n q.c, .int .i64 x] w fun e w' => ∃ v : Sl, e = .returned (.tuple #[.slice v.A v.n v.c, .int .i64 (codC ts us x)]) ∧ Own w' w.heap.size (.slice v.A v.n v.c) (cofL ts us x) ∧ Ext w w' := by
  have ha := impl.areCase_any s ts q us w hr hc hq
  cases hok : okK ts us
  · have E1 := hide (codC_1 x hok)
    have E2 := hide (cofL_1 (by rw [E1.out]; decide))
    rw [hok] at ha
    go_enter Try.func9, Try.ntmps9
    go_wp2_with fail
    refine ha.mono ?_
    rintro e w1 ⟨rfl, hx1⟩
    go_wp2
    go_ret2
    exact ⟨⟨none, 0, 0⟩, by rw [E1.out]; rfl, by rw [E2.out]; exact Own.nil_ _ _, hx1⟩
  rw [hok] at ha
  cases hin : inB x 1 1000000
  · have E1 := hide (codC_2 hok hin)
    have E2 := hide (cofL_1 (by rw [E1.out]; decide))
    go_enter Try.func9, Try.ntmps9
    go_wp2_with fail
    refine ha.mono ?_
    rintro e w1 ⟨rfl, hx1⟩
    go_wp2_with (go_at_call 51; refine (impl.isNumber_any _ _).mono ?_; rintro e w' ⟨rfl, rfl⟩)
    go_ret2
    exact ⟨⟨none, 0, 0⟩, by rw [E1.out]; rfl, by rw [E2.out]; exact Own.nil_ _ _, hx1⟩
  · have E1 := hide (codC_0 hok hin)
    have E2 := hide (cofL_0 E1.out)
    go_enter Try.func9, Try.ntmps9
    go_wp2_with fail
    refine ha.mono ?_
    rintro e w1 ⟨rfl, hx1⟩
    have hz := hx1.size
    go_wp2_with (first | (go_at_call 51; refine (impl.isNumber_any _ _).mono ?_; rintro e w' ⟨rfl, rfl⟩) | (go_at_call 52; refine (impl.causes_any s ts q us x _ (hr.ext hx1) (hq.ext hx1)).mono ?_; rintro e w2 ⟨v, rfl, ho, hx2⟩))
    go_ret2
    exact ⟨v, by rw [E1.out]; rfl, by rw [E2.out]; exact ho.mono hz, hx1.trans hx2⟩
theorem spec.CausesOf_any (s : Sl) (ts : List Ti) (q : Sl) (us : List ByteArray) (x : Int) (w : World) (hr : RdT w s.A s.n ts) (hq : RdW w q.A q.n us) :
    Calls Try.prog 10 #[.slice s.A s.n s.c, .slice q.A q.n q.c, .int .i64 x] w fun e w' => ∃ v : Sl, e = .returned (.tuple #[.slice v.A v.n v.c, .int .i64 (codC ts us x)]) ∧ Own w' w.heap.size (.slice v.A v.n v.c) (cofL ts us x) ∧ Ext w w' := by
  have ha := spec.l13Code_any s ts q us x w hr hq
  cases hok : okK ts us
  · have E1 := hide (codC_1 x hok)
    have E2 := hide (cofL_1 (by rw [E1.out]; decide))
    rw [E1.out] at ha
    go_enter Try.func10, Try.ntmps10
    go_wp2_with fail
    refine ha.mono ?_
    rintro e w1 ⟨rfl, hx1⟩
    go_wp2
    go_ret2
    exact ⟨⟨none, 0, 0⟩, by rw [E1.out]; rfl, by rw [E2.out]; exact Own.nil_ _ _, hx1⟩
  cases hin : inB x 1 1000000
  · have E1 := hide (codC_2 hok hin)
    have E2 := hide (cofL_1 (by rw [E1.out]; decide))
    rw [E1.out] at ha
    go_enter Try.func10, Try.ntmps10
    go_wp2_with fail
    refine ha.mono ?_
    rintro e w1 ⟨rfl, hx1⟩
    go_wp2
    go_ret2
    exact ⟨⟨none, 0, 0⟩, by rw [E1.out]; rfl, by rw [E2.out]; exact Own.nil_ _ _, hx1⟩
  · have E1 := hide (codC_0 hok hin)
    have E2 := hide (cofL_0 E1.out)
    rw [E1.out] at ha
    go_enter Try.func10, Try.ntmps10
    go_wp2_with fail
    refine ha.mono ?_
    rintro e w1 ⟨rfl, hx1⟩
    have hz := hx1.size
    go_wp2_with (go_at_call 54; refine (spec.l13Causes_any s ts q us x _ (hr.ext hx1) (hq.ext hx1)).mono ?_; rintro e w2 ⟨v, rfl, ho, hx2⟩)
    go_ret2
    exact ⟨v, by rw [E1.out]; rfl, by rw [E2.out]; exact ho.mono hz, hx1.trans hx2⟩
theorem impl.IsBiased_any (s : Sl) (ts : List Ti) (q : Sl) (us : List ByteArray) (x : Int) (w : World) (hr : RdT w s.A s.n ts) (hq : RdW w q.A q.n us) (hc : cap1 s) :
    Calls Try.prog 11 #[.slice s.A s.n s.c, .slice q.A q.n q.c, .int .i64 x] w fun e w' => e = .returned (.tuple #[.bool (biaV ts us x), .int .i64 (codC ts us x)]) ∧ Ext w w' := by
  go_enter Try.func11, Try.ntmps11
  go_wp2_with fail
  refine (impl.CausesOf_any s ts q us x w hr hq hc).mono ?_
  rintro e w1 ⟨v, rfl, ho, hx1⟩
  have E := hide (show biaV ts us x = decide (0 < v.n) by unfold biaV; rw [ho.rd.1])
  go_wp2
  go_ret2
  exact ⟨by rw [E.out]; rfl, hx1⟩
theorem spec.IsBiased_any (s : Sl) (ts : List Ti) (q : Sl) (us : List ByteArray) (x : Int) (w : World) (hr : RdT w s.A s.n ts) (hq : RdW w q.A q.n us) :
    Calls Try.prog 12 #[.slice s.A s.n s.c, .slice q.A q.n q.c, .int .i64 x] w fun e w' => e = .returned (.tuple #[.bool (biaV ts us x), .int .i64 (codC ts us x)]) ∧ Ext w w' := by
  have ha := spec.l13Code_any s ts q us x w hr hq
  cases hok : okK ts us
  · have E1 := hide (codC_1 x hok)
    have E2 := hide (show biaV ts us x = false by unfold biaV; rw [cofL_1 (by rw [E1.out]; decide)]; rfl)
    rw [E1.out] at ha
    go_enter Try.func12, Try.ntmps12
    go_wp2_with fail
    refine ha.mono ?_
    rintro e w1 ⟨rfl, hx1⟩
    go_wp2
    go_ret2
    exact ⟨by rw [E1.out, E2.out]; rfl, hx1⟩
  cases hin : inB x 1 1000000
  · have E1 := hide (codC_2 hok hin)
    have E2 := hide (show biaV ts us x = false by unfold biaV; rw [cofL_1 (by rw [E1.out]; decide)]; rfl)
    rw [E1.out] at ha
    go_enter Try.func12, Try.ntmps12
    go_wp2_with fail
    refine ha.mono ?_
    rintro e w1 ⟨rfl, hx1⟩
    go_wp2
    go_ret2
    exact ⟨by rw [E1.out, E2.out]; rfl, hx1⟩
  · have E1 := hide (codC_0 hok hin)
    rw [E1.out] at ha
    go_enter Try.func12, Try.ntmps12
    go_wp2_with fail
    refine ha.mono ?_
    rintro e w1 ⟨rfl, hx1⟩
    go_wp2_with fail
    refine (spec.l13Causes_any s ts q us x _ (hr.ext hx1) (hq.ext hx1)).mono ?_
    rintro e w2 ⟨v, rfl, ho, hx2⟩
    have E := hide (show biaV ts us x = decide (0 < v.n) by unfold biaV; rw [cofL_0 E1.out, ho.rd.1])
    go_wp2
    go_ret2
    exact ⟨by rw [E1.out, E.out]; rfl, hx1.trans hx2⟩
end Go.Proofs.Ytmcnnbjgehmmoaa.mem
