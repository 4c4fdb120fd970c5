/-
  Marking a record of one's own.
-/
import Derived.Test.YtfojfndmaofahaaGreatDoorRecW
import Derived.Test.YtfojfndmaofahaaGreatDoor3s
namespace Go.Proofs.YtfojfndmaofahaaGreatDoor.mem
open Go.ChangeShapes Go.WideShapes Go.ChangeAt Go.RowKit
set_option maxHeartbeats 1000000 in
theorem markRecord_any (x : RecA) (y : RecL) (lo : Nat) (k0 : Int) (w : World) (ho : OwnR w lo x y) (h0 : 0 ≤ k0) (h1 : k0 ≤ 100000000) :
    Calls Tryz.prog 18 #[.agg #[.int .i64 x.a, .int .i64 x.b, .int .i64 x.c, .slice x.p.x.A x.p.x.n x.p.x.c, .int .i64 x.d, .slice x.p.y.A x.p.y.n x.p.y.c, .slice x.p.z.A x.p.z.n x.p.z.c, .int .i64 x.e, .int .i64 x.f], .int .i64 k0] w fun e w' => e = .returned (.int .i64 (k0 + len3 x.p)) ∧ OwnR w' lo x ⟨y.a, y.b, y.c, up3 k0 x.p, y.d, y.e, y.f⟩ ∧ Fr (blksR x) w w' := by
  obtain ⟨a, b, c, p, d, e, f⟩ := x
  obtain ⟨a', b', c', l, d', e', f'⟩ := y
  obtain ⟨⟨ox, oy, oz, hs, a1, a2, a3⟩, rfl, rfl, rfl, rfl, rfl, rfl⟩ := ho
  simp only at ox oy oz hs a1 a2 a3 ⊢
  have lx := ox.rd.le
  have ly := oy.rd.le
  have lz := oz.rd.le
  have hB := Blk.new w 36 (#[.int .i64 a, .int .i64 b, .int .i64 c, .slice p.x.A p.x.n p.x.c, .int .i64 d, .slice p.y.A p.y.n p.y.c, .slice p.z.A p.z.n p.z.c, .int .i64 e, .int .i64 f])
  have hX0 := (Ext.refl w).alloc (.cells #[.int .i64 a, .int .i64 b, .int .i64 c, .slice p.x.A p.x.n p.x.c, .int .i64 d, .slice p.y.A p.y.n p.y.c, .slice p.z.A p.z.n p.z.c, .int .i64 e, .int .i64 f] 36)
  have nx : ∀ k, Value.ownBlock (.slice p.x.A p.x.n p.x.c) = some k → k < w.heap.size := fun k hk => (ox.lt k hk).2
  have ny : ∀ k, Value.ownBlock (.slice p.y.A p.y.n p.y.c) = some k → k < w.heap.size := fun k hk => (oy.lt k hk).2
  have nz : ∀ k, Value.ownBlock (.slice p.z.A p.z.n p.z.c) = some k → k < w.heap.size := fun k hk => (oz.lt k hk).2
  have c1 := hB.get 3 _ rfl
  go_enter Tryz.func18, Tryz.ntmps18
  go_wp2_with fail
  refine (markInt64S_any p.x lo _ l.x _ (ox.ext hX0) (by omega) (by omega)).mono ?_
  rintro e1 w1 ⟨rfl, ox1, f1⟩
  clear c1
  have hB1 := hB.fr f1 (fun e => absurd (nx _ e) (by omega))
  have oy1 := (oy.ext hX0).fr f1 (fun k hk e => a1 k e hk)
  have oz1 := (oz.ext hX0).fr f1 (fun k hk e => a2 k e hk)
  have c1 := hB1.get 5 _ rfl
  go_wp2_with fail
  refine (markInt64S_any p.y lo _ l.y _ oy1 (by omega) (by omega)).mono ?_
  rintro e2 w2 ⟨rfl, oy2, f2⟩
  clear c1
  have hB2 := hB1.fr f2 (fun e => absurd (ny _ e) (by omega))
  have ox2 := ox1.fr f2 (fun k hk e => a1 k hk e)
  have oz2 := oz1.fr f2 (fun k hk e => a3 k e hk)
  have c1 := hB2.get 6 _ rfl
  go_wp2_with fail
  refine (markInt64S_any p.z lo _ l.z _ oz2 (by omega) (by omega)).mono ?_
  rintro e3 w3 ⟨rfl, oz3, f3⟩
  have ox3 := ox2.fr f3 (fun k hk e => a2 k hk e)
  have oy3 := oy2.fr f3 (fun k hk e => a3 k hk e)
  go_wp2
  go_ret
  refine ⟨?_, ⟨⟨ox3, oy3, oz3, hs, a1, a2, a3⟩, rfl, rfl, rfl, rfl, rfl, rfl⟩, ?_⟩
  · have ee : k0 + len3 p = k0 + p.x.n + p.y.n + p.z.n := by unfold len3; omega
    rw [ee]; rfl
  · exact (((hX0.fr).trans (f1.mono fun k _ e => .inl e)).trans (f2.mono fun k _ e => .inr (.inl e))).trans (f3.mono fun k _ e => .inr (.inr e))
theorem heldRecord_any (x : RecA) (k0 : Int) {a b c d e f : Int} (w : World) (hr : RdR w x ⟨a, b, c, up3 k0 x.p, d, e, f⟩) (h0 : 0 ≤ k0) (h1 : k0 ≤ 100000000) :
    Calls Tryz.prog 19 #[.agg #[.int .i64 x.a, .int .i64 x.b, .int .i64 x.c, .slice x.p.x.A x.p.x.n x.p.x.c, .int .i64 x.d, .slice x.p.y.A x.p.y.n x.p.y.c, .slice x.p.z.A x.p.z.n x.p.z.c, .int .i64 x.e, .int .i64 x.f], .int .i64 k0] w fun e w' => e = .returned (.int .i64 (k0 + len3 x.p)) ∧ Ext w w' := by
  obtain ⟨a', b', c', p, d', e', f'⟩ := x
  obtain ⟨⟨rx, ry, rz, hs⟩, hq⟩ := hr
  clear hq
  simp only at rx ry rz hs ⊢
  have hX0 := (Ext.refl w).alloc (.cells #[.int .i64 a', .int .i64 b', .int .i64 c', .slice p.x.A p.x.n p.x.c, .int .i64 d', .slice p.y.A p.y.n p.y.c, .slice p.z.A p.z.n p.z.c, .int .i64 e', .int .i64 f'] 36)
  have lx := rx.le
  have ly := ry.le
  have lz := rz.le
  go_enter Tryz.func19, Tryz.ntmps19
  go_wp2_with fail
  refine (heldInt64S_any p.x _ _ (rx.ext hX0) (by omega) (by omega)).mono ?_
  rintro e w1 ⟨rfl, rfl⟩
  go_wp2_with fail
  refine (heldInt64S_any p.y _ _ (ry.ext hX0) (by omega) (by omega)).mono ?_
  rintro e w1 ⟨rfl, rfl⟩
  go_wp2_with fail
  refine (heldInt64S_any p.z _ _ (rz.ext hX0) (by omega) (by omega)).mono ?_
  rintro e w1 ⟨rfl, rfl⟩
  go_wp2
  go_ret
  have e : k0 + len3 p = k0 + p.x.n + p.y.n + p.z.n := by unfold len3; omega
  exact ⟨by rw [e]; rfl, hX0⟩
set_option maxHeartbeats 1000000 in
theorem likeRecord_yes (x x' : RecA) (y : RecL) (w : World) (hr : RdR w x y) (hr' : RdR w x' y) :
    Calls Tryz.prog 24 #[.agg #[.int .i64 x.a, .int .i64 x.b, .int .i64 x.c, .slice x.p.x.A x.p.x.n x.p.x.c, .int .i64 x.d, .slice x.p.y.A x.p.y.n x.p.y.c, .slice x.p.z.A x.p.z.n x.p.z.c, .int .i64 x.e, .int .i64 x.f], .agg #[.int .i64 x'.a, .int .i64 x'.b, .int .i64 x'.c, .slice x'.p.x.A x'.p.x.n x'.p.x.c, .int .i64 x'.d, .slice x'.p.y.A x'.p.y.n x'.p.y.c, .slice x'.p.z.A x'.p.z.n x'.p.z.c, .int .i64 x'.e, .int .i64 x'.f]] w fun e w' => e = .returned (.bool true) ∧ Ext w w' := by
  obtain ⟨a, b, c, p, d, e, f⟩ := x
  obtain ⟨a', b', c', p', d', e', f'⟩ := x'
  obtain ⟨a'', b'', c'', l, d'', e'', f''⟩ := y
  obtain ⟨hp, rfl, rfl, rfl, rfl, rfl, rfl⟩ := hr
  obtain ⟨hp', h1, h2, h3, h4, h5, h6⟩ := hr'
  simp only at hp hp' h1 h2 h3 h4 h5 h6 ⊢
  subst h1 h2 h3 h4 h5 h6
  have hX0 := ((Ext.refl w).alloc (.cells #[.int .i64 (⟨a', b', c', p, d', e', f'⟩ : RecA).a, .int .i64 (⟨a', b', c', p, d', e', f'⟩ : RecA).b, .int .i64 (⟨a', b', c', p, d', e', f'⟩ : RecA).c, .slice (⟨a', b', c', p, d', e', f'⟩ : RecA).p.x.A (⟨a', b', c', p, d', e', f'⟩ : RecA).p.x.n (⟨a', b', c', p, d', e', f'⟩ : RecA).p.x.c, .int .i64 (⟨a', b', c', p, d', e', f'⟩ : RecA).d, .slice (⟨a', b', c', p, d', e', f'⟩ : RecA).p.y.A (⟨a', b', c', p, d', e', f'⟩ : RecA).p.y.n (⟨a', b', c', p, d', e', f'⟩ : RecA).p.y.c, .slice (⟨a', b', c', p, d', e', f'⟩ : RecA).p.z.A (⟨a', b', c', p, d', e', f'⟩ : RecA).p.z.n (⟨a', b', c', p, d', e', f'⟩ : RecA).p.z.c, .int .i64 (⟨a', b', c', p, d', e', f'⟩ : RecA).e, .int .i64 (⟨a', b', c', p, d', e', f'⟩ : RecA).f] 36)).alloc (.cells #[.int .i64 (⟨a', b', c', p', d', e', f'⟩ : RecA).a, .int .i64 (⟨a', b', c', p', d', e', f'⟩ : RecA).b, .int .i64 (⟨a', b', c', p', d', e', f'⟩ : RecA).c, .slice (⟨a', b', c', p', d', e', f'⟩ : RecA).p.x.A (⟨a', b', c', p', d', e', f'⟩ : RecA).p.x.n (⟨a', b', c', p', d', e', f'⟩ : RecA).p.x.c, .int .i64 (⟨a', b', c', p', d', e', f'⟩ : RecA).d, .slice (⟨a', b', c', p', d', e', f'⟩ : RecA).p.y.A (⟨a', b', c', p', d', e', f'⟩ : RecA).p.y.n (⟨a', b', c', p', d', e', f'⟩ : RecA).p.y.c, .slice (⟨a', b', c', p', d', e', f'⟩ : RecA).p.z.A (⟨a', b', c', p', d', e', f'⟩ : RecA).p.z.n (⟨a', b', c', p', d', e', f'⟩ : RecA).p.z.c, .int .i64 (⟨a', b', c', p', d', e', f'⟩ : RecA).e, .int .i64 (⟨a', b', c', p', d', e', f'⟩ : RecA).f] 36)
  go_enter Tryz.func24, Tryz.ntmps24
  go_wp2_with fail
  refine (likeInts_any p.x p'.x l.x l.x _ (hp.1.ext hX0) (hp'.1.ext hX0)).mono ?_
  rintro e1 w1 ⟨q1, rfl, rfl⟩
  rw [decide_eq_true (rfl : l.x = l.x)]
  go_wp2_with fail
  refine (likeInts_any p.y p'.y l.y l.y _ (hp.2.1.ext (hX0.drewN _)) (hp'.2.1.ext (hX0.drewN _))).mono ?_
  rintro e2 w2 ⟨q2, rfl, rfl⟩
  rw [decide_eq_true (rfl : l.y = l.y)]
  go_wp2_with fail
  refine (likeInts_any p.z p'.z l.z l.z _ (hp.2.2.1.ext (hX0.drewN _)) (hp'.2.2.1.ext (hX0.drewN _))).mono ?_
  rintro e3 w3 ⟨q3, rfl, rfl⟩
  rw [decide_eq_true (rfl : l.z = l.z)]
  go_wp2
  go_ret
  exact ⟨rfl, hX0.drewN _⟩
end Go.Proofs.YtfojfndmaofahaaGreatDoor.mem
