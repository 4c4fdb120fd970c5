/-
  Draws of a panel and a number.
-/
import Derived.Test.YtkfjphjmffbpiaaDrW
import Derived.Test.YtkfjphjmffbpiaaPTop
namespace Go.Proofs.Ytkfjphjmffbpiaa.mem
open Go.ChangeShapes Go.WideShapes Go.ChangeAt Go.RowKit

/-- some number is drawn -/
def DiP (w0 w : World) (g : Nat) (s : Sl) (e : Ending) (w' : World) : Prop := ∃ x : Int, e = .returned (.int .i64 x) ∧ Dr w0 w' g s ∧ Only g w w'
set_option maxRecDepth 20000 in
set_option maxHeartbeats 4000000 in
theorem spec.l12Number_any (g : Nat) (s : Sl) (p : S3) (l : L3) (w0 w : World) (h : Dr w0 w g s) (hr : Rd3 w p l) (hl : l.x.length + (l.y.length + l.z.length) ≤ 1000) :
    Calls Try.prog 90 #[.pointer (some ⟨g, 0, none⟩), .agg #[.slice p.x.A p.x.n p.x.c, .slice p.y.A p.y.n p.y.c, .slice p.z.A p.z.n p.z.c]] w fun e w' => DiP w0 w g s e w' := by
  obtain ⟨⟨A1, n1, c1⟩, ⟨A2, n2, c2⟩, ⟨A3, n3, c3⟩⟩ := p
  obtain ⟨rx, ry, rz, _, _, _, _⟩ := hr
  simp only at rx ry rz ⊢
  have hB0 := (Blk.new w 38 (#[.slice A1 n1 c1, .slice A2 n2 c2, .slice A3 n3 c3])).drew
  have hX0 := ((Ext.refl w).alloc (.cells #[.slice A1 n1 c1, .slice A2 n2 c2, .slice A3 n3 c3] 38)).drew
  have hlx := hide rx.1
  have hly := hide ry.1
  have hlz := hide rz.1
  have hk1 := spec.l01Own_any ⟨A1, n1, c1⟩ l.x _ (rx.ext hX0)
  have hb1 : l.x.length + n2 ≤ 16777216 := by have := hly.out; omega
  have hb2 : (l.x ++ l.y).length + n3 ≤ 16777216 := by have := hlz.out; rw [List.length_append]; omega
  have hg := h.lt
  obtain ⟨LO, hLO⟩ : ∃ LO, Hid (LO = w.heap.size + 1) := ⟨_, rfl⟩
  have k0 := hB0.c3
  go_enter Try.func90, Try.ntmps90
  go_wp2_with fail
  go_region_held3 (fun w' => w'.cell? ⟨w.heap.size, 0, none⟩ = some (.slice A1 n1 c1) ∧ w'.cell? ⟨w.heap.size, 1, none⟩ = some (.slice A2 n2 c2) ∧ w'.cell? ⟨w.heap.size, 2, none⟩ = some (.slice A3 n3 c3)) (first | exact k3 | exact k2 | exact k1 | exact k0 | go_keep | fail) (first | (go_at_call 66; refine hk1.mono ?_; rintro e w1 ⟨t1, rfl, ho1, hx1⟩; have hX1 := hX0.trans hx1; have hz1 := hx1.size; have k1 := (hB0.ext hx1).c3; have hB1 := hB0.ext hx1) | (refine step_app _ (by rfl) (.tmp 8) (.tmp 10) (by rfl) _ _ _ (by rfl) ho1 _ _ _ l.y (by rfl) (ry.ext hX1) hb1 hz1 ?_; intro t2 w2 ho2 hg2 hd2; have hX2 := hX1.grow hg2 (fun k hk => by have := (ho1.lt k hk).1; simp at this; omega); have hB2 := hB1.fr (Fr.of_grown hg2) (fun e => by have := (ho1.lt _ e).1; simp at this; omega); have k2 := hB2.c3; have hz2 := Nat.le_trans hz1 hg2.size) | (refine step_app _ (by rfl) (.tmp 11) (.tmp 13) (by rfl) _ _ _ (by rfl) ho2 _ _ _ l.z (by rfl) (rz.ext hX2) hb2 hz2 ?_; intro t3 w3 ho3 hg3 hd3; have hX3 := hX2.grow hg3 (fun k hk => by have := (ho2.lt k hk).1; simp at this; omega); have hB3 := hB2.fr (Fr.of_grown hg3) (fun e => by have := (ho2.lt _ e).1; simp at this; omega); have k3 := hB3.c3) | fail)
  replace ho3 := ho3.mono (lo' := w.heap.size + 1) (by simp)
  have hD3 := h.more hX3
  have hO3 : Only g w w3 := hX3.onl
  obtain ⟨A, n, c⟩ := t3
  have hn16 : n ≤ 16777216 := ho3.rd.2.1
  clear k0 k1 k2 k3 hB0 hB1 hB2 hB3 hk1 hX0 hX1 hX2 hX3 hg2 hg3 hd2 hd3 ho1 ho2 hz1 hz2 rx ry rz
  have hk40 := fun W h => spec.l01Next_any g s 40 w0 W h (by omega)
  have hk6 := fun W h => spec.l01Next_any g s 6 w0 W h (by omega)
  have hkn := fun W h => spec.l01Next_any g s (n : Int) w0 W h (by omega)
  by_cases hn : 0 < n
  · have hn' : (0 : Int) < (n : Int) := by omega
    go_wp2_with fail
    refine (hk6 _ hD3).mono ?_
    rintro e w4 ⟨x, rfl, ⟨x0, x1⟩, hD4, hO4⟩
    replace ho3 := ho3.only hO4 (by omega)
    replace hO4 := Fr.trans hO3 hO4
    clear hD3 hO3 hk6
    by_cases hx : 0 < x
    · go_wp2_with fail
      refine (hkn _ hD4).mono ?_
      rintro e w5 ⟨y, rfl, ⟨y0, y1⟩, hD5, hO5⟩
      replace ho3 := ho3.only hO5 (by omega)
      replace hO5 := Fr.trans hO4 hO5
      obtain ⟨k, rfl⟩ := Int.eq_ofNat_of_zero_le y0
      have hkl : k < n := by omega
      obtain ⟨b, off, v, rfl, hb, hc, hv⟩ := ho3.rd.el hkl
      have hkI : (k : Int) < (n : Int) := by omega
      have hk0 : (0 : Int) ≤ (k : Int) := by omega
      go_wp2_with fail
      go_ret
      exact ⟨v, rfl, hD5, hO5⟩
    · have hx' : ¬ (0 : Int) < x := hx
      go_wp2_with fail
      refine (hk40 _ hD4).mono ?_
      rintro e w5 ⟨y, rfl, _, hD5, hO5⟩
      go_wp2_with fail
      go_ret
      exact ⟨y, rfl, hD5, Fr.trans hO4 hO5⟩
  · have hn' : ¬ (0 : Int) < (n : Int) := by omega
    go_wp2_with fail
    refine (hk40 _ hD3).mono ?_
    rintro e w5 ⟨y, rfl, _, hD5, hO5⟩
    go_wp2_with fail
    go_ret
    exact ⟨y, rfl, hD5, Fr.trans hO3 hO5⟩
end Go.Proofs.Ytkfjphjmffbpiaa.mem
