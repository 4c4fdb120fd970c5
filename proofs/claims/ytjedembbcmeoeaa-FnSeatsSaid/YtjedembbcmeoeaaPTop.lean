/-
  Contracts of both programs' functions on panels that only look: SeatedOf, IsFull, SeatOf, GoneBefore.
-/
import Derived.Test.YtjedembbcmeoeaaPan
namespace Go.Proofs.Ytjedembbcmeoeaa.mem
open Go.ChangeShapes Go.WideShapes Go.ChangeAt Go.RowKit

theorem spec.l12Seated_any (p : S3) (l : L3) (w : World) (hr : Rd3 w p l) :
    Calls Try.prog 102 #[.agg #[.slice p.x.A p.x.n p.x.c, .slice p.y.A p.y.n p.y.c, .slice p.z.A p.z.n p.z.c]] w fun e w' => ∃ t : Sl, e = .returned (.slice t.A t.n t.c) ∧ Own w' w.heap.size (.slice t.A t.n t.c) (nz l.x) ∧ Ext w w' := by
  obtain ⟨⟨A1, n1, c1⟩, ⟨A2, n2, c2⟩, ⟨A3, n3, c3⟩⟩ := p
  obtain ⟨rx, ry, rz, hs, cx, cy, cz⟩ := hr
  simp only at rx ry rz hs ⊢
  have hn := rx.le
  have hX0 := (Ext.refl w).alloc (.cells #[.slice A1 n1 c1, .slice A2 n2 c2, .slice A3 n3 c3] 26)
  have hB0 := Blk.new w 26 (#[.slice A1 n1 c1, .slice A2 n2 c2, .slice A3 n3 c3])
  have hn0 := Own.new0 (w.alloc (.cells #[.slice A1 n1 c1, .slice A2 n2 c2, .slice A3 n3 c3] 26)) (w.heap.size + 1) (by simp)
  rw [World.size_alloc] at hn0
  have hBn := hB0.alloc (.cells #[] 2)
  go_enter Try.func102, Try.ntmps102
  go_wp2
  go_loopw [3, 4] (fun v i wr => ∃ k : Nat, k ≤ n1 ∧ i = .int .i64 k ∧ (∃ t : Sl, v = .slice t.A t.n t.c ∧ Own wr (w.heap.size + 1) (.slice t.A t.n t.c) (nz (l.x.take k))) ∧ Ext w wr ∧ w.heap.size + 1 ≤ wr.heap.size ∧ Blk wr w.heap.size 26 (#[.slice A1 n1 c1, .slice A2 n2 c2, .slice A3 n3 c3])) (fun _ i _ => n1 - (intOf i).toNat)
  case atStart => exact ⟨0, by omega, rfl, ⟨⟨_, _, _⟩, rfl, hn0⟩, hX0.alloc _, by simp, hBn⟩
  case round =>
    obtain ⟨k, hk, rfl, ⟨t, rfl, ho⟩, hx, hz, hB⟩ := hrel
    have hc0 := hB.get 0 _ rfl
    by_cases hlt : k < n1
    · obtain ⟨b, off, y, rfl, hbl, hc1, hy⟩ := (rx.ext hx).el hlt
      have hl1 : (nz (l.x.take k)).length ≤ k := Nat.le_trans (nz_le _) (List.length_take_le _ _)
      have hB' := hB.alloc (.cells #[.int .i64 y] 2)
      by_cases he : y = 0
      · have hne : (y != 0) = false := by simpa using he
        have hn1 := hide (nz_snoc0 l.x k (he ▸ hy.out))
        clear he
        go_wp2
        go_roundw
        case rel => exact ⟨k + 1, by omega, by go_num, ⟨t, rfl, by rw [hn1.out]; exact ho⟩, hx, hz, hB⟩
        case measure => simp [intOf]; omega
      · have hne : (y != 0) = true := by simpa using he
        have hn1 := hide (nz_snoc l.x k y hy.out he)
        clear he
        go_wp2_with (at_builtin; refine wpList_app _ rfl (.tmp 19) (.tmp 25) rfl (w.heap.size + 1) _ _ rfl (ho.alloc _) _ _ _ [y] rfl (Rd.one wr y) (by omega) (by first | (simp; done) | (simp; omega)) ?_; intro t1 w3 ho1 hg1 hb2)
        go_roundw
        case rel => exact ⟨k + 1, by omega, by go_num, ⟨t1, rfl, by rw [hn1.out]; exact ho1⟩, (hx.alloc _).grow hg1 (fun g hg => by have := (ho.lt g hg).1; omega), by have := hg1.size; simp at this; omega, hB'.fr (Fr.of_grown hg1) (fun e => by have := (ho.lt _ e).1; omega)⟩
        case measure => simp [intOf]; omega
    · go_wp2
      go_ret
      have e : k = n1 := by omega
      subst e
      exact ⟨t, rfl, by rw [List.take_of_length_le (by rw [← rx.1]; omega)] at ho; exact ho.mono (by omega), hx⟩

/-! ### what they answer -/
def fullV (l : L3) : Bool := okP l && !hasB l.x 0
def okC (l : L3) : Int := if okP l = true then 0 else 1
def plcV (ok : Bool) (xs : List Int) (x : Int) : Int := if ok = true then (if plc xs x < 0 then 0 else plc xs x) else 0
def plcC (ok : Bool) (xs : List Int) (x : Int) : Int := if ok = true then (if plc xs x < 0 then 4 else 0) else 1
def seatV (ok : Bool) (xs : List Int) (x : Int) : Int := if ok = true then (if plc xs x < 0 ∨ x = 0 then 0 else plc xs x) else 0
def seatC (ok : Bool) (xs : List Int) (x : Int) : Int := if ok = true then (if plc xs x < 0 ∨ x = 0 then 4 else 0) else 1
def seatedV (l : L3) : List Int := if okP l = true then nz l.x else []
theorem impl.IsFull_any (p : S3) (l : L3) (w : World) (hr : Rd3 w p l) :
    Calls Try.prog 34 #[.agg #[.slice p.x.A p.x.n p.x.c, .slice p.y.A p.y.n p.y.c, .slice p.z.A p.z.n p.z.c]] w fun e w' => e = .returned (.tuple #[.bool (fullV l), .int .i64 (okC l)]) ∧ Ext w w' := by
  have hX0 := (Ext.refl w).alloc (.cells #[.slice p.x.A p.x.n p.x.c, .slice p.y.A p.y.n p.y.c, .slice p.z.A p.z.n p.z.c] 26)
  have hB0 := Blk.new w 26 (#[.slice p.x.A p.x.n p.x.c, .slice p.y.A p.y.n p.y.c, .slice p.z.A p.z.n p.z.c])
  go_enter Try.func34, Try.ntmps34
  go_wp2_with fail
  refine (impl.IsPanel_any p l _ (hr.ext hX0)).mono ?_
  rintro e w1 ⟨rfl, hx1⟩
  have hX1 := hX0.trans hx1
  obtain ⟨q0, q1, q2⟩ := (hB0.ext hx1).c3
  cases hok : okP l
  · have E1 := hide (show fullV l = false by unfold fullV; rw [hok]; rfl)
    have E2 := hide (show okC l = 1 by unfold okC; rw [hok]; rfl)
    go_wp2
    go_ret2
    exact ⟨by rw [E1.out, E2.out]; rfl, hX1⟩
  · have E1 := hide (show fullV l = !hasB l.x 0 by unfold fullV; rw [hok]; rfl)
    have E2 := hide (show okC l = 0 by unfold okC; rw [hok]; rfl)
    go_wp2_with (go_at_call 87; refine (impl.has_any p.x l.x _ _ (hr.1.ext hX1)).mono ?_; rintro e w' ⟨rfl, rfl⟩)
    go_ret2
    exact ⟨by rw [E1.out, E2.out]; rfl, hX1⟩
theorem spec.IsFull_any (p : S3) (l : L3) (w : World) (hr : Rd3 w p l) :
    Calls Try.prog 35 #[.agg #[.slice p.x.A p.x.n p.x.c, .slice p.y.A p.y.n p.y.c, .slice p.z.A p.z.n p.z.c]] w fun e w' => e = .returned (.tuple #[.bool (fullV l), .int .i64 (okC l)]) ∧ Ext w w' := by
  have hX0 := (Ext.refl w).alloc (.cells #[.slice p.x.A p.x.n p.x.c, .slice p.y.A p.y.n p.y.c, .slice p.z.A p.z.n p.z.c] 26)
  have hB0 := Blk.new w 26 (#[.slice p.x.A p.x.n p.x.c, .slice p.y.A p.y.n p.y.c, .slice p.z.A p.z.n p.z.c])
  go_enter Try.func35, Try.ntmps35
  go_wp2_with fail
  refine (spec.IsPanel_any p l _ (hr.ext hX0)).mono ?_
  rintro e w1 ⟨rfl, hx1⟩
  have hX1 := hX0.trans hx1
  have hB1 := hB0.ext hx1
  obtain ⟨q0, q1, q2⟩ := hB1.c3
  cases hok : okP l
  · have E1 := hide (show fullV l = false by unfold fullV; rw [hok]; rfl)
    have E2 := hide (show okC l = 1 by unfold okC; rw [hok]; rfl)
    go_wp2
    go_ret2
    exact ⟨by rw [E1.out, E2.out]; rfl, hX1⟩
  · have E1 := hide (show fullV l = !hasB l.x 0 by unfold fullV; rw [hok]; rfl)
    have E2 := hide (show okC l = 0 by unfold okC; rw [hok]; rfl)
    have rx := hr.1
    go_wp2_with fail
    go_region_held3 (fun w' => w'.cell? ⟨w.heap.size, 0, none⟩ = some (.slice p.x.A p.x.n p.x.c) ∧ w'.cell? ⟨w.heap.size, 1, none⟩ = some (.slice p.y.A p.y.n p.y.c) ∧ w'.cell? ⟨w.heap.size, 2, none⟩ = some (.slice p.z.A p.z.n p.z.c)) (first | exact q3 | go_keep) (first | (go_at_call 102; refine (spec.l12Seated_any p l _ (hr.ext hX1.drew)).mono ?_; rintro e w2 ⟨t, rfl, ho, hx2⟩; have q3 := (hB1.drew.ext hx2).c3; have hX2 := hX1.drew.trans hx2))
    have ht := ho.rd.1
    have hb : ((t.n : Int) == p.x.n) = !hasB l.x 0 := by
      have h1 := nz_full l.x
      rw [Bool.eq_iff_iff]
      simp only [beq_iff_eq, Bool.not_eq_true', hasB, decide_eq_false_iff_not]
      rw [← h1, ← ht, ← rx.1]
      omega
    have HB := hide hb
    clear hb ht
    go_wp2
    go_ret2
    exact ⟨by rw [E1.out, E2.out, ← HB.out]; rfl, hX2⟩
theorem impl.GoneBefore_any (p : S3) (l : L3) (x : Int) (w : World) (hr : Rd3 w p l) :
    Calls Try.prog 13 #[.agg #[.slice p.x.A p.x.n p.x.c, .slice p.y.A p.y.n p.y.c, .slice p.z.A p.z.n p.z.c], .int .i64 x] w fun e w' => e = .returned (.tuple #[.int .i64 (plcV (okP l) l.z x), .int .i64 (plcC (okP l) l.z x)]) ∧ Ext w w' := by
  have hX0 := (Ext.refl w).alloc (.cells #[.slice p.x.A p.x.n p.x.c, .slice p.y.A p.y.n p.y.c, .slice p.z.A p.z.n p.z.c] 26)
  have hB0 := Blk.new w 26 (#[.slice p.x.A p.x.n p.x.c, .slice p.y.A p.y.n p.y.c, .slice p.z.A p.z.n p.z.c])
  go_enter Try.func13, Try.ntmps13
  go_wp2_with fail
  refine (impl.IsPanel_any p l _ (hr.ext hX0)).mono ?_
  rintro e w1 ⟨rfl, hx1⟩
  have hX1 := hX0.trans hx1
  obtain ⟨q0, q1, q2⟩ := (hB0.ext hx1).c3
  cases hok : okP l
  · have E1 := hide (show plcV (okP l) l.z x = 0 by rw [hok]; rfl)
    have E2 := hide (show plcC (okP l) l.z x = 1 by rw [hok]; rfl)
    go_wp2
    go_ret2
    exact ⟨by rw [E1.out, E2.out]; rfl, hX1⟩
  · by_cases hneg : plc l.z x < 0
    · have E1 := hide (show plcV (okP l) l.z x = 0 by rw [hok]; unfold plcV; rw [if_pos rfl, if_pos hneg])
      have E2 := hide (show plcC (okP l) l.z x = 4 by rw [hok]; unfold plcC; rw [if_pos rfl, if_pos hneg])
      go_wp2_with (first | (go_at_call 74; refine (impl.placeOf_any p.z l.z _ _ (hr.2.2.1.ext hX1)).mono ?_; rintro e w' ⟨rfl, rfl⟩) | (go_at_call 76; refine (spec.l12Find_any p.z l.z _ _ (hr.2.2.1.ext hX1)).mono ?_; rintro e w' ⟨rfl, rfl⟩))
      go_ret2
      exact ⟨by rw [E1.out, E2.out]; rfl, hX1⟩
    · have E1 := hide (show plcV (okP l) l.z x = plc l.z x by rw [hok]; unfold plcV; rw [if_pos rfl, if_neg hneg])
      have E2 := hide (show plcC (okP l) l.z x = 0 by rw [hok]; unfold plcC; rw [if_pos rfl, if_neg hneg])
      have hbd := plc_bd l.z x
      have hle := hr.2.2.1.le
      have hlen := hr.2.2.1.1
      have hb2 : plc l.z x < 16777216 := by omega
      clear hlen
      go_wp2_with (first | (go_at_call 74; refine (impl.placeOf_any p.z l.z _ _ (hr.2.2.1.ext hX1)).mono ?_; rintro e w' ⟨rfl, rfl⟩) | (go_at_call 76; refine (spec.l12Find_any p.z l.z _ _ (hr.2.2.1.ext hX1)).mono ?_; rintro e w' ⟨rfl, rfl⟩))
      go_ret2
      exact ⟨by rw [E1.out, E2.out]; rfl, hX1⟩
theorem impl.SeatOf_any (p : S3) (l : L3) (x : Int) (w : World) (hr : Rd3 w p l) :
    Calls Try.prog 10 #[.agg #[.slice p.x.A p.x.n p.x.c, .slice p.y.A p.y.n p.y.c, .slice p.z.A p.z.n p.z.c], .int .i64 x] w fun e w' => e = .returned (.tuple #[.int .i64 (seatV (okP l) l.x x), .int .i64 (seatC (okP l) l.x x)]) ∧ Ext w w' := by
  have hX0 := (Ext.refl w).alloc (.cells #[.slice p.x.A p.x.n p.x.c, .slice p.y.A p.y.n p.y.c, .slice p.z.A p.z.n p.z.c] 26)
  have hB0 := Blk.new w 26 (#[.slice p.x.A p.x.n p.x.c, .slice p.y.A p.y.n p.y.c, .slice p.z.A p.z.n p.z.c])
  go_enter Try.func10, Try.ntmps10
  go_wp2_with fail
  refine (impl.IsPanel_any p l _ (hr.ext hX0)).mono ?_
  rintro e w1 ⟨rfl, hx1⟩
  have hX1 := hX0.trans hx1
  obtain ⟨q0, q1, q2⟩ := (hB0.ext hx1).c3
  cases hok : okP l
  · have E1 := hide (show seatV (okP l) l.x x = 0 by rw [hok]; rfl)
    have E2 := hide (show seatC (okP l) l.x x = 1 by rw [hok]; rfl)
    go_wp2
    go_ret2
    exact ⟨by rw [E1.out, E2.out]; rfl, hX1⟩
  · by_cases hneg : plc l.x x < 0
    · have E1 := hide (show seatV (okP l) l.x x = 0 by rw [hok]; unfold seatV; rw [if_pos rfl, if_pos (.inl hneg)])
      have E2 := hide (show seatC (okP l) l.x x = 4 by rw [hok]; unfold seatC; rw [if_pos rfl, if_pos (.inl hneg)])
      go_wp2_with (first | (go_at_call 74; refine (impl.placeOf_any p.x l.x _ _ (hr.1.ext hX1)).mono ?_; rintro e w' ⟨rfl, rfl⟩) | (go_at_call 76; refine (spec.l12Find_any p.x l.x _ _ (hr.1.ext hX1)).mono ?_; rintro e w' ⟨rfl, rfl⟩))
      go_ret2
      exact ⟨by rw [E1.out, E2.out]; rfl, hX1⟩
    · by_cases hx0 : x = 0
      · have E1 := hide (show seatV (okP l) l.x x = 0 by rw [hok]; unfold seatV; rw [if_pos rfl, if_pos (.inr hx0)])
        have E2 := hide (show seatC (okP l) l.x x = 4 by rw [hok]; unfold seatC; rw [if_pos rfl, if_pos (.inr hx0)])
        have hx1' : (x == 0) = true := by simpa using hx0
        clear hx0
        go_wp2_with (first | (go_at_call 74; refine (impl.placeOf_any p.x l.x _ _ (hr.1.ext hX1)).mono ?_; rintro e w' ⟨rfl, rfl⟩) | (go_at_call 76; refine (spec.l12Find_any p.x l.x _ _ (hr.1.ext hX1)).mono ?_; rintro e w' ⟨rfl, rfl⟩))
        go_ret2
        exact ⟨by rw [E1.out, E2.out]; rfl, hX1⟩
      · have E1 := hide (show seatV (okP l) l.x x = plc l.x x by rw [hok]; unfold seatV; rw [if_pos rfl, if_neg (by omega)])
        have E2 := hide (show seatC (okP l) l.x x = 0 by rw [hok]; unfold seatC; rw [if_pos rfl, if_neg (by omega)])
        have hbd := plc_bd l.x x
        have hle := hr.1.le
        have hlen := hr.1.1
        have hb2 : plc l.x x < 16777216 := by omega
        have hx1' : (x == 0) = false := by simpa using hx0
        clear hlen hx0
        go_wp2_with (first | (go_at_call 74; refine (impl.placeOf_any p.x l.x _ _ (hr.1.ext hX1)).mono ?_; rintro e w' ⟨rfl, rfl⟩) | (go_at_call 76; refine (spec.l12Find_any p.x l.x _ _ (hr.1.ext hX1)).mono ?_; rintro e w' ⟨rfl, rfl⟩))
        go_ret2
        exact ⟨by rw [E1.out, E2.out]; rfl, hX1⟩
theorem impl.SeatedOf_any (p : S3) (l : L3) (w : World) (hr : Rd3 w p l) :
    Calls Try.prog 36 #[.agg #[.slice p.x.A p.x.n p.x.c, .slice p.y.A p.y.n p.y.c, .slice p.z.A p.z.n p.z.c]] w fun e w' => ∃ t : Sl, e = .returned (.tuple #[.slice t.A t.n t.c, .int .i64 (okC l)]) ∧ Own w' w.heap.size (.slice t.A t.n t.c) (seatedV l) ∧ Ext w w' := by
  have hX0 := (Ext.refl w).alloc (.cells #[.slice p.x.A p.x.n p.x.c, .slice p.y.A p.y.n p.y.c, .slice p.z.A p.z.n p.z.c] 26)
  have hB0 := Blk.new w 26 (#[.slice p.x.A p.x.n p.x.c, .slice p.y.A p.y.n p.y.c, .slice p.z.A p.z.n p.z.c])
  go_enter Try.func36, Try.ntmps36
  go_wp2_with fail
  refine (impl.IsPanel_any p l _ (hr.ext hX0)).mono ?_
  rintro e w1 ⟨rfl, hx1⟩
  have hX1 := hX0.trans hx1
  obtain ⟨q0, q1, q2⟩ := (hB0.ext hx1).c3
  cases hok : okP l
  · have E1 := hide (show seatedV l = [] by unfold seatedV; rw [hok]; rfl)
    have E2 := hide (show okC l = 1 by unfold okC; rw [hok]; rfl)
    go_wp2
    go_ret2
    exact ⟨⟨none, 0, 0⟩, by rw [E2.out]; rfl, by rw [E1.out]; exact Own.nil_ _ _, hX1⟩
  · have E1 := hide (show seatedV l = nz l.x by unfold seatedV; rw [hok]; rfl)
    have E2 := hide (show okC l = 0 by unfold okC; rw [hok]; rfl)
    have hs := hX1.size
    go_wp2_with (first | (go_at_call 85; refine (impl.seated_any p.x l.x _ (hr.1.ext hX1)).mono ?_; rintro e w2 ⟨t, rfl, ho, hx2⟩) | (go_at_call 102; refine (spec.l12Seated_any p l _ (hr.ext hX1)).mono ?_; rintro e w2 ⟨t, rfl, ho, hx2⟩))
    go_ret2
    exact ⟨t, by rw [E2.out]; rfl, by rw [E1.out]; exact ho.mono hs, hX1.trans hx2⟩
theorem spec.GoneBefore_any (p : S3) (l : L3) (x : Int) (w : World) (hr : Rd3 w p l) :
    Calls Try.prog 14 #[.agg #[.slice p.x.A p.x.n p.x.c, .slice p.y.A p.y.n p.y.c, .slice p.z.A p.z.n p.z.c], .int .i64 x] w fun e w' => e = .returned (.tuple #[.int .i64 (plcV (okP l) l.z x), .int .i64 (plcC (okP l) l.z x)]) ∧ Ext w w' := by
  have hX0 := (Ext.refl w).alloc (.cells #[.slice p.x.A p.x.n p.x.c, .slice p.y.A p.y.n p.y.c, .slice p.z.A p.z.n p.z.c] 26)
  have hB0 := Blk.new w 26 (#[.slice p.x.A p.x.n p.x.c, .slice p.y.A p.y.n p.y.c, .slice p.z.A p.z.n p.z.c])
  go_enter Try.func14, Try.ntmps14
  go_wp2_with fail
  refine (spec.IsPanel_any p l _ (hr.ext hX0)).mono ?_
  rintro e w1 ⟨rfl, hx1⟩
  have hX1 := hX0.trans hx1
  obtain ⟨q0, q1, q2⟩ := (hB0.ext hx1).c3
  cases hok : okP l
  · have E1 := hide (show plcV (okP l) l.z x = 0 by rw [hok]; rfl)
    have E2 := hide (show plcC (okP l) l.z x = 1 by rw [hok]; rfl)
    go_wp2
    go_ret2
    exact ⟨by rw [E1.out, E2.out]; rfl, hX1⟩
  · by_cases hneg : plc l.z x < 0
    · have E1 := hide (show plcV (okP l) l.z x = 0 by rw [hok]; unfold plcV; rw [if_pos rfl, if_pos hneg])
      have E2 := hide (show plcC (okP l) l.z x = 4 by rw [hok]; unfold plcC; rw [if_pos rfl, if_pos hneg])
      go_wp2_with (first | (go_at_call 74; refine (impl.placeOf_any p.z l.z _ _ (hr.2.2.1.ext hX1)).mono ?_; rintro e w' ⟨rfl, rfl⟩) | (go_at_call 76; refine (spec.l12Find_any p.z l.z _ _ (hr.2.2.1.ext hX1)).mono ?_; rintro e w' ⟨rfl, rfl⟩))
      go_ret2
      exact ⟨by rw [E1.out, E2.out]; rfl, hX1⟩
    · have E1 := hide (show plcV (okP l) l.z x = plc l.z x by rw [hok]; unfold plcV; rw [if_pos rfl, if_neg hneg])
      have E2 := hide (show plcC (okP l) l.z x = 0 by rw [hok]; unfold plcC; rw [if_pos rfl, if_neg hneg])
      have hbd := plc_bd l.z x
      have hle := hr.2.2.1.le
      have hlen := hr.2.2.1.1
      have hb2 : plc l.z x < 16777216 := by omega
      clear hlen
      go_wp2_with (first | (go_at_call 74; refine (impl.placeOf_any p.z l.z _ _ (hr.2.2.1.ext hX1)).mono ?_; rintro e w' ⟨rfl, rfl⟩) | (go_at_call 76; refine (spec.l12Find_any p.z l.z _ _ (hr.2.2.1.ext hX1)).mono ?_; rintro e w' ⟨rfl, rfl⟩))
      go_ret2
      exact ⟨by rw [E1.out, E2.out]; rfl, hX1⟩
theorem spec.SeatOf_any (p : S3) (l : L3) (x : Int) (w : World) (hr : Rd3 w p l) :
    Calls Try.prog 11 #[.agg #[.slice p.x.A p.x.n p.x.c, .slice p.y.A p.y.n p.y.c, .slice p.z.A p.z.n p.z.c], .int .i64 x] w fun e w' => e = .returned (.tuple #[.int .i64 (seatV (okP l) l.x x), .int .i64 (seatC (okP l) l.x x)]) ∧ Ext w w' := by
  have hX0 := (Ext.refl w).alloc (.cells #[.slice p.x.A p.x.n p.x.c, .slice p.y.A p.y.n p.y.c, .slice p.z.A p.z.n p.z.c] 26)
  have hB0 := Blk.new w 26 (#[.slice p.x.A p.x.n p.x.c, .slice p.y.A p.y.n p.y.c, .slice p.z.A p.z.n p.z.c])
  go_enter Try.func11, Try.ntmps11
  go_wp2_with fail
  refine (spec.IsPanel_any p l _ (hr.ext hX0)).mono ?_
  rintro e w1 ⟨rfl, hx1⟩
  have hX1 := hX0.trans hx1
  obtain ⟨q0, q1, q2⟩ := (hB0.ext hx1).c3
  cases hok : okP l
  · have E1 := hide (show seatV (okP l) l.x x = 0 by rw [hok]; rfl)
    have E2 := hide (show seatC (okP l) l.x x = 1 by rw [hok]; rfl)
    go_wp2
    go_ret2
    exact ⟨by rw [E1.out, E2.out]; rfl, hX1⟩
  · by_cases hneg : plc l.x x < 0
    · have E1 := hide (show seatV (okP l) l.x x = 0 by rw [hok]; unfold seatV; rw [if_pos rfl, if_pos (.inl hneg)])
      have E2 := hide (show seatC (okP l) l.x x = 4 by rw [hok]; unfold seatC; rw [if_pos rfl, if_pos (.inl hneg)])
      go_wp2_with (first | (go_at_call 74; refine (impl.placeOf_any p.x l.x _ _ (hr.1.ext hX1)).mono ?_; rintro e w' ⟨rfl, rfl⟩) | (go_at_call 76; refine (spec.l12Find_any p.x l.x _ _ (hr.1.ext hX1)).mono ?_; rintro e w' ⟨rfl, rfl⟩))
      go_ret2
      exact ⟨by rw [E1.out, E2.out]; rfl, hX1⟩
    · by_cases hx0 : x = 0
      · have E1 := hide (show seatV (okP l) l.x x = 0 by rw [hok]; unfold seatV; rw [if_pos rfl, if_pos (.inr hx0)])
        have E2 := hide (show seatC (okP l) l.x x = 4 by rw [hok]; unfold seatC; rw [if_pos rfl, if_pos (.inr hx0)])
        have hx1' : (x == 0) = true := by simpa using hx0
        clear hx0
        go_wp2_with (first | (go_at_call 74; refine (impl.placeOf_any p.x l.x _ _ (hr.1.ext hX1)).mono ?_; rintro e w' ⟨rfl, rfl⟩) | (go_at_call 76; refine (spec.l12Find_any p.x l.x _ _ (hr.1.ext hX1)).mono ?_; rintro e w' ⟨rfl, rfl⟩))
        go_ret2
        exact ⟨by rw [E1.out, E2.out]; rfl, hX1⟩
      · have E1 := hide (show seatV (okP l) l.x x = plc l.x x by rw [hok]; unfold seatV; rw [if_pos rfl, if_neg (by omega)])
        have E2 := hide (show seatC (okP l) l.x x = 0 by rw [hok]; unfold seatC; rw [if_pos rfl, if_neg (by omega)])
        have hbd := plc_bd l.x x
        have hle := hr.1.le
        have hlen := hr.1.1
        have hb2 : plc l.x x < 16777216 := by omega
        have hx1' : (x == 0) = false := by simpa using hx0
        clear hlen hx0
        go_wp2_with (first | (go_at_call 74; refine (impl.placeOf_any p.x l.x _ _ (hr.1.ext hX1)).mono ?_; rintro e w' ⟨rfl, rfl⟩) | (go_at_call 76; refine (spec.l12Find_any p.x l.x _ _ (hr.1.ext hX1)).mono ?_; rintro e w' ⟨rfl, rfl⟩))
        go_ret2
        exact ⟨by rw [E1.out, E2.out]; rfl, hX1⟩
theorem spec.SeatedOf_any (p : S3) (l : L3) (w : World) (hr : Rd3 w p l) :
    Calls Try.prog 37 #[.agg #[.slice p.x.A p.x.n p.x.c, .slice p.y.A p.y.n p.y.c, .slice p.z.A p.z.n p.z.c]] w fun e w' => ∃ t : Sl, e = .returned (.tuple #[.slice t.A t.n t.c, .int .i64 (okC l)]) ∧ Own w' w.heap.size (.slice t.A t.n t.c) (seatedV l) ∧ Ext w w' := by
  have hX0 := (Ext.refl w).alloc (.cells #[.slice p.x.A p.x.n p.x.c, .slice p.y.A p.y.n p.y.c, .slice p.z.A p.z.n p.z.c] 26)
  have hB0 := Blk.new w 26 (#[.slice p.x.A p.x.n p.x.c, .slice p.y.A p.y.n p.y.c, .slice p.z.A p.z.n p.z.c])
  go_enter Try.func37, Try.ntmps37
  go_wp2_with fail
  refine (spec.IsPanel_any p l _ (hr.ext hX0)).mono ?_
  rintro e w1 ⟨rfl, hx1⟩
  have hX1 := hX0.trans hx1
  obtain ⟨q0, q1, q2⟩ := (hB0.ext hx1).c3
  cases hok : okP l
  · have E1 := hide (show seatedV l = [] by unfold seatedV; rw [hok]; rfl)
    have E2 := hide (show okC l = 1 by unfold okC; rw [hok]; rfl)
    go_wp2
    go_ret2
    exact ⟨⟨none, 0, 0⟩, by rw [E2.out]; rfl, by rw [E1.out]; exact Own.nil_ _ _, hX1⟩
  · have E1 := hide (show seatedV l = nz l.x by unfold seatedV; rw [hok]; rfl)
    have E2 := hide (show okC l = 0 by unfold okC; rw [hok]; rfl)
    have hs := hX1.size
    go_wp2_with (first | (go_at_call 85; refine (impl.seated_any p.x l.x _ (hr.1.ext hX1)).mono ?_; rintro e w2 ⟨t, rfl, ho, hx2⟩) | (go_at_call 102; refine (spec.l12Seated_any p l _ (hr.ext hX1)).mono ?_; rintro e w2 ⟨t, rfl, ho, hx2⟩))
    go_ret2
    exact ⟨t, by rw [E2.out]; rfl, by rw [E1.out]; exact ho.mono hs, hX1.trans hx2⟩
end Go.Proofs.Ytjedembbcmeoeaa.mem
