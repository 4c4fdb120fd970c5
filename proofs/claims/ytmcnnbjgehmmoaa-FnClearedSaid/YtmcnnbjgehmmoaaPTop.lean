/-
  Contracts of both programs' functions on panels that only look: SeatedOf, IsFull, SeatOf, GoneBefore.
-/
import Derived.Test.YtmcnnbjgehmmoaaPan
namespace Go.Proofs.Ytmcnnbjgehmmoaa.mem
open Go.ChangeShapes Go.WideShapes Go.ChangeAt Go.RowKit

theorem spec.l12Seated_any (p : S3) (l : L3) (w : World) (hr : Rd3 w p l) :
    Calls Try.prog 76 #[.agg #[.slice p.x.A p.x.n p.x.c, .slice p.y.A p.y.n p.y.c, .slice p.z.A p.z.n p.z.c]] w fun e w' => ∃ t : Sl, e = .returned (.slice t.A t.n t.c) ∧ Own w' w.heap.size (.slice t.A t.n t.c) (nz l.x) ∧ Ext w w' := by
  obtain ⟨⟨A1, n1, c1⟩, ⟨A2, n2, c2⟩, ⟨A3, n3, c3⟩⟩ := p
  obtain ⟨rx, ry, rz, hs, cx, cy, cz⟩ := hr
  simp only at rx ry rz hs ⊢
  have hn := rx.le
  have hX0 := (Ext.refl w).alloc (.cells #[.slice A1 n1 c1, .slice A2 n2 c2, .slice A3 n3 c3] 50)
  have hB0 := Blk.new w 50 (#[.slice A1 n1 c1, .slice A2 n2 c2, .slice A3 n3 c3])
  have hn0 := Own.new0 (w.alloc (.cells #[.slice A1 n1 c1, .slice A2 n2 c2, .slice A3 n3 c3] 50)) (w.heap.size + 1) (by simp)
  rw [World.size_alloc] at hn0
  have hBn := hB0.alloc (.cells #[] 2)
  go_enter Try.func76, Try.ntmps76
  go_wp2
  go_loopw [3, 4] (fun v i wr => ∃ k : Nat, k ≤ n1 ∧ i = .int .i64 k ∧ (∃ t : Sl, v = .slice t.A t.n t.c ∧ Own wr (w.heap.size + 1) (.slice t.A t.n t.c) (nz (l.x.take k))) ∧ Ext w wr ∧ w.heap.size + 1 ≤ wr.heap.size ∧ Blk wr w.heap.size 50 (#[.slice A1 n1 c1, .slice A2 n2 c2, .slice A3 n3 c3])) (fun _ i _ => n1 - (intOf i).toNat)
  case atStart => exact ⟨0, by omega, rfl, ⟨⟨_, _, _⟩, rfl, hn0⟩, hX0.alloc _, by simp, hBn⟩
  case round =>
    obtain ⟨k, hk, rfl, ⟨t, rfl, ho⟩, hx, hz, hB⟩ := hrel
    have hc0 := hB.get 0 _ rfl
    by_cases hlt : k < n1
    · obtain ⟨b, off, y, rfl, hbl, hc1, hy⟩ := (rx.ext hx).el hlt
      have hl1 : (nz (l.x.take k)).length ≤ k := Nat.le_trans (nz_le _) (List.length_take_le _ _)
      have hB' := hB.alloc (.cells #[.int .i64 y] 2)
      by_cases he : y = 0
      · have hne : (y != 0) = false := by simpa using he
        have hn1 := hide (nz_snoc0 l.x k (he ▸ hy.out))
        clear he
        go_wp2
        go_roundw
        case rel => exact ⟨k + 1, by omega, by go_num, ⟨t, rfl, by rw [hn1.out]; exact ho⟩, hx, hz, hB⟩
        case measure => simp [intOf]; omega
      · have hne : (y != 0) = true := by simpa using he
        have hn1 := hide (nz_snoc l.x k y hy.out he)
        clear he
        go_wp2_with (at_builtin; refine wpList_app _ rfl (.tmp 19) (.tmp 25) rfl (w.heap.size + 1) _ _ rfl (ho.alloc _) _ _ _ [y] rfl (Rd.one wr y) (by omega) (by first | (simp; done) | (simp; omega)) ?_; intro t1 w3 ho1 hg1 hb2)
        go_roundw
        case rel => exact ⟨k + 1, by omega, by go_num, ⟨t1, rfl, by rw [hn1.out]; exact ho1⟩, (hx.alloc _).grow hg1 (fun g hg => by have := (ho.lt g hg).1; omega), by have := hg1.size; simp at this; omega, hB'.fr (Fr.of_grown hg1) (fun e => by have := (ho.lt _ e).1; omega)⟩
        case measure => simp [intOf]; omega
    · go_wp2
      go_ret
      have e : k = n1 := by omega
      subst e
      exact ⟨t, rfl, by rw [List.take_of_length_le (by rw [← rx.1]; omega)] at ho; exact ho.mono (by omega), hx⟩

/-! ### what they answer -/
def fullV (l : L3) : Bool := okP l && !hasB l.x 0
def okC (l : L3) : Int := if okP l = true then 0 else 1
def plcV (ok : Bool) (xs : List Int) (x : Int) : Int := if ok = true then (if plc xs x < 0 then 0 else plc xs x) else 0
def plcC (ok : Bool) (xs : List Int) (x : Int) : Int := if ok = true then (if plc xs x < 0 then 4 else 0) else 1
def seatV (ok : Bool) (xs : List Int) (x : Int) : Int := if ok = true then (if plc xs x < 0 ∨ x = 0 then 0 else plc xs x) else 0
def seatC (ok : Bool) (xs : List Int) (x : Int) : Int := if ok = true then (if plc xs x < 0 ∨ x = 0 then 4 else 0) else 1
def seatedV (l : L3) : List Int := if okP l = true then nz l.x else []
theorem impl.SeatedOf_any (p : S3) (l : L3) (w : World) (hr : Rd3 w p l) :
    Calls Try.prog 43 #[.agg #[.slice p.x.A p.x.n p.x.c, .slice p.y.A p.y.n p.y.c, .slice p.z.A p.z.n p.z.c]] w fun e w' => ∃ t : Sl, e = .returned (.tuple #[.slice t.A t.n t.c, .int .i64 (okC l)]) ∧ Own w' w.heap.size (.slice t.A t.n t.c) (seatedV l) ∧ Ext w w' := by
  have hX0 := (Ext.refl w).alloc (.cells #[.slice p.x.A p.x.n p.x.c, .slice p.y.A p.y.n p.y.c, .slice p.z.A p.z.n p.z.c] 50)
  have hB0 := Blk.new w 50 (#[.slice p.x.A p.x.n p.x.c, .slice p.y.A p.y.n p.y.c, .slice p.z.A p.z.n p.z.c])
  go_enter Try.func43, Try.ntmps43
  go_wp2_with fail
  refine (impl.IsPanel_any p l _ (hr.ext hX0)).mono ?_
  rintro e w1 ⟨rfl, hx1⟩
  have hX1 := hX0.trans hx1
  obtain ⟨q0, q1, q2⟩ := (hB0.ext hx1).c3
  cases hok : okP l
  · have E1 := hide (show seatedV l = [] by unfold seatedV; rw [hok]; rfl)
    have E2 := hide (show okC l = 1 by unfold okC; rw [hok]; rfl)
    go_wp2
    go_ret2
    exact ⟨⟨none, 0, 0⟩, by rw [E2.out]; rfl, by rw [E1.out]; exact Own.nil_ _ _, hX1⟩
  · have E1 := hide (show seatedV l = nz l.x by unfold seatedV; rw [hok]; rfl)
    have E2 := hide (show okC l = 0 by unfold okC; rw [hok]; rfl)
    have hs := hX1.size
    go_wp2_with (first | (go_at_call 74; refine (impl.seated_any p.x l.x _ (hr.1.ext hX1)).mono ?_; rintro e w2 ⟨t, rfl, ho, hx2⟩) | (go_at_call 76; refine (spec.l12Seated_any p l _ (hr.ext hX1)).mono ?_; rintro e w2 ⟨t, rfl, ho, hx2⟩))
    go_ret2
    exact ⟨t, by rw [E2.out]; rfl, by rw [E1.out]; exact ho.mono hs, hX1.trans hx2⟩
theorem spec.SeatedOf_any (p : S3) (l : L3) (w : World) (hr : Rd3 w p l) :
    Calls Try.prog 44 #[.agg #[.slice p.x.A p.x.n p.x.c, .slice p.y.A p.y.n p.y.c, .slice p.z.A p.z.n p.z.c]] w fun e w' => ∃ t : Sl, e = .returned (.tuple #[.slice t.A t.n t.c, .int .i64 (okC l)]) ∧ Own w' w.heap.size (.slice t.A t.n t.c) (seatedV l) ∧ Ext w w' := by
  have hX0 := (Ext.refl w).alloc (.cells #[.slice p.x.A p.x.n p.x.c, .slice p.y.A p.y.n p.y.c, .slice p.z.A p.z.n p.z.c] 50)
  have hB0 := Blk.new w 50 (#[.slice p.x.A p.x.n p.x.c, .slice p.y.A p.y.n p.y.c, .slice p.z.A p.z.n p.z.c])
  go_enter Try.func44, Try.ntmps44
  go_wp2_with fail
  refine (spec.IsPanel_any p l _ (hr.ext hX0)).mono ?_
  rintro e w1 ⟨rfl, hx1⟩
  have hX1 := hX0.trans hx1
  obtain ⟨q0, q1, q2⟩ := (hB0.ext hx1).c3
  cases hok : okP l
  · have E1 := hide (show seatedV l = [] by unfold seatedV; rw [hok]; rfl)
    have E2 := hide (show okC l = 1 by unfold okC; rw [hok]; rfl)
    go_wp2
    go_ret2
    exact ⟨⟨none, 0, 0⟩, by rw [E2.out]; rfl, by rw [E1.out]; exact Own.nil_ _ _, hX1⟩
  · have E1 := hide (show seatedV l = nz l.x by unfold seatedV; rw [hok]; rfl)
    have E2 := hide (show okC l = 0 by unfold okC; rw [hok]; rfl)
    have hs := hX1.size
    go_wp2_with (first | (go_at_call 74; refine (impl.seated_any p.x l.x _ (hr.1.ext hX1)).mono ?_; rintro e w2 ⟨t, rfl, ho, hx2⟩) | (go_at_call 76; refine (spec.l12Seated_any p l _ (hr.ext hX1)).mono ?_; rintro e w2 ⟨t, rfl, ho, hx2⟩))
    go_ret2
    exact ⟨t, by rw [E2.out]; rfl, by rw [E1.out]; exact ho.mono hs, hX1.trans hx2⟩
end Go.Proofs.Ytmcnnbjgehmmoaa.mem
