/-
  Contracts of both programs' FitFor.
-/
import Derived.Test.YtmcnnbjgehmmoaaCauC
import Derived.Test.YtmcnnbjgehmmoaaPTop
import Derived.Deep.RegionWith
namespace Go.Proofs.Ytmcnnbjgehmmoaa.mem
open Go.ChangeShapes Go.WideShapes Go.ChangeAt Go.RowKit

def fitK (ts : List Ti) (us : List ByteArray) (xs : List Int) : Int := ((xs.filter (fun x => decide ((cauL us x ts).length = 0))).length : Int)
def fitV (ts : List Ti) (us : List ByteArray) (l : L3) : Int := if okK ts us = true ∧ okP l = true then fitK ts us (nz l.x ++ l.y) else 0
def fitC (ts : List Ti) (us : List ByteArray) (l : L3) : Int := if okK ts us = true ∧ okP l = true then 0 else 1
theorem fitK_le (ts : List Ti) (us : List ByteArray) (xs : List Int) (k : Nat) : 0 ≤ fitK ts us (xs.take k) ∧ fitK ts us (xs.take k) ≤ k := by
  unfold fitK
  have h1 := List.length_filter_le (fun x => decide ((cauL us x ts).length = 0)) (xs.take k)
  have h2 := List.length_take_le k xs
  omega
theorem fitK_yes {ts : List Ti} {us : List ByteArray} {xs : List Int} {k : Nat} {x : Int} (h : xs[k]? = some x) (hx : (cauL us x ts).length = 0) : fitK ts us (xs.take (k + 1)) = fitK ts us (xs.take k) + 1 := by
  unfold fitK
  rw [take_more h, List.filter_append]
  have : decide ((cauL us x ts).length = 0) = true := decide_eq_true hx
  simp only [List.filter_cons, this, List.filter_nil, if_true, List.length_append, List.length_cons, List.length_nil]
  omega
theorem fitK_no {ts : List Ti} {us : List ByteArray} {xs : List Int} {k : Nat} {x : Int} (h : xs[k]? = some x) (hx : ¬ (cauL us x ts).length = 0) : fitK ts us (xs.take (k + 1)) = fitK ts us (xs.take k) := by
  unfold fitK
  rw [take_more h, List.filter_append]
  have : decide ((cauL us x ts).length = 0) = false := decide_eq_false hx
  simp only [List.filter_cons, this, List.filter_nil, Bool.false_eq_true, if_false, List.append_nil]
theorem impl.biased_any (s : Sl) (ts : List Ti) (q : Sl) (us : List ByteArray) (x : Int) (w : World) (hr : RdT w s.A s.n ts) (hq : RdW w q.A q.n us) :
    Calls Try.prog 75 #[.slice s.A s.n s.c, .slice q.A q.n q.c, .int .i64 x] w fun e w' => e = .returned (.bool (decide (0 < (cauL us x ts).length))) ∧ Ext w w' := by
  go_enter Try.func75, Try.ntmps75
  go_wp2_with fail
  refine (impl.causes_any s ts q us x w hr hq).mono ?_
  rintro e w1 ⟨v, rfl, ho, hx1⟩
  have E := hide (show (cauL us x ts).length = v.n from ho.rd.1.symm)
  go_wp2
  go_ret
  exact ⟨by rw [E.out]; first | rfl | simp, hx1⟩
set_option maxHeartbeats 4000000 in
theorem impl.FitFor_any (s : Sl) (ts : List Ti) (q : Sl) (us : List ByteArray) (p : S3) (l : L3) (w : World) (hr : RdT w s.A s.n ts) (hq : RdW w q.A q.n us) (hp : Rd3 w p l) (hc : cap1 s) :
    Calls Try.prog 35 #[.slice s.A s.n s.c, .slice q.A q.n q.c, .agg #[.slice p.x.A p.x.n p.x.c, .slice p.y.A p.y.n p.y.c, .slice p.z.A p.z.n p.z.c]] w fun e w' => e = .returned (.tuple #[.int .i64 (fitV ts us l), .int .i64 (fitC ts us l)]) ∧ Ext w w' := by
  have hX0 := (Ext.refl w).alloc (.cells #[.slice p.x.A p.x.n p.x.c, .slice p.y.A p.y.n p.y.c, .slice p.z.A p.z.n p.z.c] 50)
  have hB0 := Blk.new w 50 (#[.slice p.x.A p.x.n p.x.c, .slice p.y.A p.y.n p.y.c, .slice p.z.A p.z.n p.z.c])
  have ha := impl.areCase_any s ts q us _ (hr.ext hX0) hc (hq.ext hX0)
  cases hok : okK ts us
  · have E1 := hide (show fitV ts us l = 0 by unfold fitV; rw [hok]; simp)
    have E2 := hide (show fitC ts us l = 1 by unfold fitC; rw [hok]; simp)
    rw [hok] at ha
    go_enter Try.func35, Try.ntmps35
    go_wp2_with fail
    refine ha.mono ?_
    rintro e w1 ⟨rfl, hx1⟩
    go_wp2
    go_ret2
    exact ⟨by rw [E1.out, E2.out]; rfl, hX0.trans hx1⟩
  rw [hok] at ha
  cases hpo : okP l
  · have E1 := hide (show fitV ts us l = 0 by unfold fitV; rw [hpo]; simp)
    have E2 := hide (show fitC ts us l = 1 by unfold fitC; rw [hpo]; simp)
    go_enter Try.func35, Try.ntmps35
    go_wp2_with fail
    refine ha.mono ?_
    rintro e w1 ⟨rfl, hx1⟩
    obtain ⟨q0, q1, q2⟩ := (hB0.ext hx1).c3
    go_wp2_with fail
    refine (impl.IsPanel_any p l _ (hp.ext (hX0.trans hx1))).mono ?_
    rintro e w2 ⟨rfl, hx2⟩
    clear q0 q1 q2
    go_wp2
    go_ret2
    exact ⟨by rw [E1.out, E2.out]; rfl, (hX0.trans hx1).trans hx2⟩
  have E1 := hide (show fitV ts us l = fitK ts us (nz l.x ++ l.y) by unfold fitV; rw [hok, hpo]; simp)
  have E2 := hide (show fitC ts us l = 0 by unfold fitC; rw [hok, hpo]; simp)
  clear hok
  have hp0 := hp
  obtain ⟨rx, ry, rz, hs, cx, cy, cz⟩ := hp
  have htot : (nz l.x ++ l.y).length ≤ 2097152 := by
    have h1 := nz_le l.x
    have e1 := rx.1
    have e2 := ry.1
    simp only [List.length_append]
    omega
  go_enter Try.func35, Try.ntmps35
  go_wp2_with fail
  refine ha.mono ?_
  rintro e w1 ⟨rfl, hx1⟩
  obtain ⟨q0, q1, q2⟩ := (hB0.ext hx1).c3
  go_wp2_with fail
  refine (impl.IsPanel_any p l _ (hp0.ext (hX0.trans hx1))).mono ?_
  rintro e w2 ⟨rfl, hx2⟩
  clear q0 q1 q2
  have hX2 := (hX0.trans hx1).trans hx2
  have hB2 := (hB0.ext hx1).ext hx2
  obtain ⟨q0, q1, q2⟩ := hB2.c3
  go_wp2_with fail
  go_region_held3 (fun w' => w'.cell? ⟨w.heap.size, 0, none⟩ = some (.slice p.x.A p.x.n p.x.c) ∧ w'.cell? ⟨w.heap.size, 1, none⟩ = some (.slice p.y.A p.y.n p.y.c) ∧ w'.cell? ⟨w.heap.size, 2, none⟩ = some (.slice p.z.A p.z.n p.z.c)) (first | exact k2 | exact k1 | go_keep) (first | (go_at_call 74; refine (impl.seated_any _ _ _ (rx.ext hX2.drew)).mono ?_; rintro e w3 ⟨t1, rfl, ho1, hx3⟩; have hB3 := hB2.drew.ext hx3; have k1 := hB3.c3) | (go_at_call 73; refine (impl.joined2 _ t1 p.y (nz l.x) l.y _ (Blk.new w3 28 (#[.slice t1.A t1.n t1.c, .slice p.y.A p.y.n p.y.c])) (ho1.rd.alloc _) ((ry.ext (hX2.drew.trans hx3)).alloc _) (by omega)).mono ?_; rintro e w4 ⟨t2, rfl, ho2, hx4⟩; have hB4 := (hB3.alloc (.cells #[.slice t1.A t1.n t1.c, .slice p.y.A p.y.n p.y.c] 28)).ext hx4; have k2 := hB4.c3))
  have hX4 : Ext w w4 := ((hX2.drew.trans hx3).alloc _).trans hx4
  obtain ⟨A2, n2, c2⟩ := t2
  have hr2 : Rd w4 A2 n2 (nz l.x ++ l.y) := ho2.rd
  have hn2 : n2 ≤ 2097152 := by have := hr2.1; omega
  have sl2 := hide hr2.1
  clear k1 k2 q0 q1 q2 hB0 hB2 hB3 hB4 htot ho2
  go_wp2
  go_loopw [8, 10, 28] (fun v _ i wr => ∃ k : Nat, k ≤ n2 ∧ i = .int .i64 k ∧ v = .int .i64 (fitK ts us ((nz l.x ++ l.y).take k)) ∧ Ext w4 wr) (fun _ _ i _ => n2 - (intOf i).toNat)
  case atStart => exact ⟨0, by omega, rfl, rfl, Ext.refl _⟩
  case round =>
    obtain ⟨k, hk, rfl, rfl, hx⟩ := hrel
    have hb := fitK_le ts us (nz l.x ++ l.y) k
    by_cases hlt : k < n2
    · obtain ⟨b, off, y, rfl, hbl, hc1, hy⟩ := (hr2.ext hx).el hlt
      have hXr := hX4.trans hx
      have kb := impl.biased_any s ts q us y wr (hr.ext hXr) (hq.ext hXr)
      by_cases hz : (cauL us y ts).length = 0
      · have hm := hide (fitK_yes (us := us) hy.out hz)
        rw [show decide (0 < (cauL us y ts).length) = false from decide_eq_false (by omega)] at kb
        clear hz
        revert hb hm
        generalize fitK ts us ((nz l.x ++ l.y).take k) = a
        intro hb hm
        go_wp2_with fail
        refine kb.mono ?_
        rintro e w5 ⟨rfl, hx5⟩
        go_wp2
        go_roundw
        case rel => exact ⟨k + 1, by omega, by go_num, by rw [hm.out], hx.trans hx5⟩
        case measure => simp [intOf]; omega
      · have hm := hide (fitK_no (us := us) hy.out hz)
        rw [show decide (0 < (cauL us y ts).length) = true from decide_eq_true (by omega)] at kb
        clear hz
        revert hb hm
        generalize fitK ts us ((nz l.x ++ l.y).take k) = a
        intro hb hm
        go_wp2_with fail
        refine kb.mono ?_
        rintro e w5 ⟨rfl, hx5⟩
        go_wp2
        go_roundw
        case rel => exact ⟨k + 1, by omega, by go_num, by rw [hm.out], hx.trans hx5⟩
        case measure => simp [intOf]; omega
    · have e : k = n2 := by omega
      subst e
      have hf := hide (show fitV ts us l = fitK ts us ((nz l.x ++ l.y).take k) by rw [E1.out, List.take_of_length_le (by rw [← sl2.out]; omega)])
      go_wp2
      go_ret2
      exact ⟨by rw [hf.out, E2.out]; rfl, hX4.trans hx⟩
theorem spec.l13Panel_any (s : Sl) (ts : List Ti) (q : Sl) (us : List ByteArray) (p : S3) (l : L3) (w : World) (hr : RdT w s.A s.n ts) (hq : RdW w q.A q.n us) (hp : Rd3 w p l) :
    Calls Try.prog 69 #[.slice s.A s.n s.c, .slice q.A q.n q.c, .agg #[.slice p.x.A p.x.n p.x.c, .slice p.y.A p.y.n p.y.c, .slice p.z.A p.z.n p.z.c]] w fun e w' => e = .returned (.int .i64 (fitC ts us l)) ∧ Ext w w' := by
  have hX0 := (Ext.refl w).alloc (.cells #[.slice p.x.A p.x.n p.x.c, .slice p.y.A p.y.n p.y.c, .slice p.z.A p.z.n p.z.c] 50)
  obtain ⟨q0, q1, q2⟩ := (Blk.new w 50 (#[.slice p.x.A p.x.n p.x.c, .slice p.y.A p.y.n p.y.c, .slice p.z.A p.z.n p.z.c])).c3
  go_enter Try.func69, Try.ntmps69
  go_wp2_with fail
  refine (spec.IsPanel_any p l _ (hp.ext hX0)).mono ?_
  rintro e w1 ⟨rfl, hx1⟩
  clear q0 q1 q2
  have hX1 := hX0.trans hx1
  cases hpo : okP l
  · have E2 := hide (show fitC ts us l = 1 by unfold fitC; rw [hpo]; simp)
    go_wp2
    go_ret
    exact ⟨by rw [E2.out]; rfl, hX1⟩
  · have E2 := hide (show fitC ts us l = codC ts us 1 by
      unfold fitC codC
      rw [hpo]
      cases okK ts us <;> simp [inB])
    go_wp2_with (go_at_call 53; refine (spec.l13Code_any s ts q us 1 _ (hr.ext hX1) (hq.ext hX1)).mono ?_; rintro e w2 ⟨rfl, hx2⟩)
    go_ret
    exact ⟨by rw [E2.out]; rfl, hX1.trans hx2⟩
set_option maxRecDepth 40000 in
set_option maxHeartbeats 4000000 in
theorem spec.FitFor_any (s : Sl) (ts : List Ti) (q : Sl) (us : List ByteArray) (p : S3) (l : L3) (w : World) (hr : RdT w s.A s.n ts) (hq : RdW w q.A q.n us) (hp : Rd3 w p l) :
    Calls Try.prog 36 #[.slice s.A s.n s.c, .slice q.A q.n q.c, .agg #[.slice p.x.A p.x.n p.x.c, .slice p.y.A p.y.n p.y.c, .slice p.z.A p.z.n p.z.c]] w fun e w' => e = .returned (.tuple #[.int .i64 (fitV ts us l), .int .i64 (fitC ts us l)]) ∧ Ext w w' := by
  have hX0 := (Ext.refl w).alloc (.cells #[.slice p.x.A p.x.n p.x.c, .slice p.y.A p.y.n p.y.c, .slice p.z.A p.z.n p.z.c] 50)
  have hB0 := Blk.new w 50 (#[.slice p.x.A p.x.n p.x.c, .slice p.y.A p.y.n p.y.c, .slice p.z.A p.z.n p.z.c])
  obtain ⟨q0, q1, q2⟩ := hB0.c3
  have ha := spec.l13Panel_any s ts q us p l _ (hr.ext hX0) (hq.ext hX0) (hp.ext hX0)
  by_cases hok : okK ts us = true ∧ okP l = true
  case neg =>
    have E1 := hide (show fitV ts us l = 0 from if_neg hok)
    have E2 := hide (show fitC ts us l = 1 from if_neg hok)
    rw [E2.out] at ha
    go_enter Try.func36, Try.ntmps36
    go_wp2_with fail
    refine ha.mono ?_
    rintro e w1 ⟨rfl, hx1⟩
    go_wp2
    go_ret2
    exact ⟨by rw [E1.out, E2.out]; rfl, hX0.trans hx1⟩
  have E1 := hide (show fitV ts us l = fitK ts us (nz l.x ++ l.y) from if_pos hok)
  have E2 := hide (show fitC ts us l = 0 from if_pos hok)
  rw [E2.out] at ha
  clear hok
  have hp0 := hp
  obtain ⟨rx, ry, rz, hs, cx, cy, cz⟩ := hp
  have htot : (nz l.x ++ l.y).length ≤ 2097152 := by
    have h1 := nz_le l.x
    have e1 := rx.1
    have e2 := ry.1
    simp only [List.length_append]
    omega
  have htot2 := hide (show (nz l.x).length + p.y.n ≤ 2097152 by
    have h1 := nz_le l.x
    have e1 := rx.1
    omega)
  go_enter Try.func36, Try.ntmps36
  go_wp2_with fail
  refine ha.mono ?_
  rintro e w2 ⟨rfl, hx2⟩
  clear q0 q1 q2
  have hX2 := hX0.trans hx2
  have hB2 := hB0.ext hx2
  have hz2 := hX2.size
  obtain ⟨q0, q1, q2⟩ := hB2.c3
  go_wp2_with fail
  go_region_held3 (fun w' => w'.cell? ⟨w.heap.size, 0, none⟩ = some (.slice p.x.A p.x.n p.x.c) ∧ w'.cell? ⟨w.heap.size, 1, none⟩ = some (.slice p.y.A p.y.n p.y.c) ∧ w'.cell? ⟨w.heap.size, 2, none⟩ = some (.slice p.z.A p.z.n p.z.c)) (first | exact k2 | exact k1 | go_keep) (first | ((refine step_app _ (by rfl) (.tmp 20) (.tmp 22) (by rfl) w2.heap.size _ _ (by rfl) ho1 _ _ _ l.y (by rfl) (ry.ext hX3) (by have := htot2.out; omega) (by have := hx3.size; simp at this; omega) ?_; intro t4 w4 ho4 hg4 hb4; have hX4 := hX3.grow hg4 (fun k hk => by have := (ho1.lt k hk).1; simp at this; omega); have hB4 := Blk.fr hB3 (Fr.of_grown hg4) (fun e => by have := (ho1.lt _ e).1; have h0 := hB0.lt; have h2 := hx2.size; simp at this h0 h2; omega); have k2 := hB4.c3)) | (go_at_call 76; refine (spec.l12Seated_any p l _ (hp0.ext hX2.drew)).mono ?_; rintro e w3 ⟨t1, rfl, ho1, hx3⟩; have hX3 := hX2.drew.trans hx3; have hB3 := hB2.drew.ext hx3; have k1 := hB3.c3))
  have hX5 : Ext w w4 := hX4
  obtain ⟨A2, n2, c2⟩ := t4
  have hr2 : Rd w4 A2 n2 (nz l.x ++ l.y) := ho4.rd
  have hn2 : n2 ≤ 2097152 := by have := hr2.1; omega
  have sl2 := hide hr2.1
  clear k1 k2 q0 q1 q2 hB0 hB2 hB3 hB4 htot ho4 ho1
  go_wp2
  go_loopw [9, 11] (fun v i wr => ∃ k : Nat, k ≤ n2 ∧ i = .int .i64 k ∧ v = .int .i64 (fitK ts us ((nz l.x ++ l.y).take k)) ∧ Ext w4 wr) (fun _ i _ => n2 - (intOf i).toNat)
  case atStart => exact ⟨0, by omega, rfl, rfl, Ext.refl _⟩
  case round =>
    obtain ⟨k, hk, rfl, rfl, hx⟩ := hrel
    have hb := fitK_le ts us (nz l.x ++ l.y) k
    by_cases hlt : k < n2
    · obtain ⟨b, off, y, rfl, hbl, hc1, hy⟩ := (hr2.ext hx).el hlt
      have hXr := hX4.trans hx
      have kb := spec.l13Causes_any s ts q us y wr (hr.ext hXr) (hq.ext hXr)
      by_cases hz : (cauL us y ts).length = 0
      · have hm := hide (fitK_yes (us := us) hy.out hz)
        replace hz := hide hz
        revert hb hm
        generalize fitK ts us ((nz l.x ++ l.y).take k) = a
        intro hb hm
        go_wp2_with fail
        refine kb.mono ?_
        rintro e w5 ⟨⟨A5, n5, c5⟩, rfl, ho5, hx5⟩
        obtain rfl : n5 = 0 := ho5.rd.1.trans hz.out
        clear ho5
        go_wp2
        go_roundw
        case rel => exact ⟨k + 1, by omega, by go_num, by rw [hm.out], hx.trans hx5⟩
        case measure => simp [intOf]; omega
      · have hm := hide (fitK_no (us := us) hy.out hz)
        replace hz := hide hz
        revert hb hm
        generalize fitK ts us ((nz l.x ++ l.y).take k) = a
        intro hb hm
        go_wp2_with fail
        refine kb.mono ?_
        rintro e w5 ⟨⟨A5, n5, c5⟩, rfl, ho5, hx5⟩
        have hne : ((n5 : Int) == 0) = false := by
          have h1 : n5 = (cauL us y ts).length := ho5.rd.1
          have h2 := hz.out
          have h3 : ¬ ((n5 : Int) = 0) := by omega
          simpa using h3
        clear ho5
        go_wp2
        go_roundw
        case rel => exact ⟨k + 1, by omega, by go_num, by rw [hm.out], hx.trans hx5⟩
        case measure => simp [intOf]; omega
    · have e : k = n2 := by omega
      subst e
      have hf := hide (show fitV ts us l = fitK ts us ((nz l.x ++ l.y).take k) by rw [E1.out, List.take_of_length_le (by rw [← sl2.out]; omega)])
      go_wp2
      go_ret2
      exact ⟨by rw [hf.out, E2.out]; rfl, hX4.trans hx⟩
end Go.Proofs.Ytmcnnbjgehmmoaa.mem
