/-
  Draws for the law of records: a record, ties and parties; these and a jury; these and a side; a record.
-/
import Derived.Test.YtofglgfjlbehmaaGreatDrR
import Derived.Test.YtofglgfjlbehmaaGreatDrV
import Derived.Test.YtofglgfjlbehmaaGreatDrJ
import Derived.Test.YtofglgfjlbehmaaGreatRt
namespace Go.Proofs.YtofglgfjlbehmaaGreat.mem
open Go.ChangeShapes Go.WideShapes Go.ChangeAt Go.RowKit
set_option linter.unusedVariables false

/-- ties and parties as drawn: each in a block of its own -/
def TpO (w : World) (lo : Nat) (t : Sl) (ts : List Ti) (q : Sl) (us : List ByteArray) : Prop := OwX w lo (.slice t.A t.n t.c) ts ∧ (∀ t ∈ ts, t.s.size ≤ 100) ∧ OwS w lo (.slice q.A q.n q.c) us ∧ (∀ y ∈ us, y.size ≤ 100)
section
variable {w w' : World} {lo : Nat} {t q : Sl} {ts : List Ti} {us : List ByteArray}
theorem TpO.ext (h : TpO w lo t ts q us) (hx : Ext w w') : TpO w' lo t ts q us := ⟨h.1.ext hx, h.2.1, h.2.2.1.ext hx, h.2.2.2⟩
theorem TpO.alloc (h : TpO w lo t ts q us) (o : Obj) : TpO (w.alloc o) lo t ts q us := h.ext ((Ext.refl w).alloc o)
theorem TpO.drew (h : TpO w lo t ts q us) : TpO w.drew lo t ts q us := h.ext (Ext.refl w).drew
theorem TpO.only {g : Nat} (h : TpO w lo t ts q us) (hf : Only g w w') (hl : g < lo) : TpO w' lo t ts q us := ⟨h.1.only hf hl, h.2.1, h.2.2.1.only hf hl, h.2.2.2⟩
theorem TpO.mono {lo' : Nat} (h : TpO w lo t ts q us) (hl : lo' ≤ lo) : TpO w lo' t ts q us := ⟨h.1.mono hl, h.2.1, h.2.2.1.mono hl, h.2.2.2⟩
theorem TpO.off (h : TpO w lo t ts q us) (b i : Nat) (hb : b < lo) (u : Value) : TpO (w.setCell ⟨b, i, none⟩ u) lo t ts q us :=
  ⟨h.1.keep fun k hk => Below.heap_setCell _ _ _ _ (by show k ≠ b; have := (h.1.lt k hk).1; omega), h.2.1, h.2.2.1.keep fun k hk => Below.heap_setCell _ _ _ _ (by show k ≠ b; have := (h.2.2.1.lt k hk).1; omega), h.2.2.2⟩
theorem TpO.aw (h : TpO w lo t ts q us) (b i : Nat) (h1 : ∀ k, Value.ownBlock (.slice t.A t.n t.c) = some k → k ≠ b) (h2 : ∀ k, Value.ownBlock (.slice q.A q.n q.c) = some k → k ≠ b) (u : Value) : TpO (w.setCell ⟨b, i, none⟩ u) lo t ts q us :=
  ⟨h.1.keep fun k hk => Below.heap_setCell _ _ _ _ (h1 k hk), h.2.1, h.2.2.1.keep fun k hk => Below.heap_setCell _ _ _ _ (h2 k hk), h.2.2.2⟩
theorem TpO.rt (h : TpO w lo t ts q us) : RdT w t.A t.n ts := h.1.rd (sz100 h.2.1)
theorem TpO.rw_ (h : TpO w lo t ts q us) : RdW w q.A q.n us := h.2.2.1.rd fun y hy => by have := h.2.2.2 y hy; unfold maxLen; omega
theorem TpO.cap (h : TpO w lo t ts q us) : cap1 t := h.1.cap
end
set_option maxRecDepth 20000 in
set_option maxHeartbeats 4000000 in
theorem spec.DrawIsHonest_any (s : Sl) (w : World) (hc : Code w s) :
    Calls Tryz.prog 15 #[.slice s.A s.n s.c] w fun e w' => ∃ (x : RecA) (y : RecL), e = .returned (.agg #[.int .i64 x.a, .int .i64 x.b, .int .i64 x.c, .slice x.p.x.A x.p.x.n x.p.x.c, .int .i64 x.d, .slice x.p.y.A x.p.y.n x.p.y.c, .slice x.p.z.A x.p.z.n x.p.z.c, .int .i64 x.e, .int .i64 x.f]) ∧ OwnR w' w.heap.size x y ∧ (y.p.x.length ≤ 60 ∧ y.p.y.length ≤ 60 ∧ y.p.z.length ≤ 60) ∧ Ext w w' := by
  have hR := Blk.new w 26 #[.int .i64 0, .int .i64 0, .int .i64 0, .slice none 0 0, .int .i64 0, .slice none 0 0, .slice none 0 0, .int .i64 0, .int .i64 0]
  have hX := (Ext.refl w).alloc (.cells #[.int .i64 0, .int .i64 0, .int .i64 0, .slice none 0 0, .int .i64 0, .slice none 0 0, .slice none 0 0, .int .i64 0, .int .i64 0] 26)
  go_enter Tryz.func15, Tryz.ntmps15
  go_wp2_with fail
  refine (spec.l01From_any s w _ hX hc).mono ?_
  rintro e w1 ⟨g, rfl, hg, hD, hx1⟩
  rw [World.size_alloc] at hg
  replace hR := hR.ext hx1
  replace hX := hX.trans hx1
  have hz1 := hR.lt
  clear hx1
  go_wp2_with fail
  refine (spec.l16Draw_any g s w _ hD).mono ?_
  rintro e w2 ⟨x, y, rfl, hp, hb, hD2, hO⟩
  replace hR := hR.only hO (by omega)
  replace hX := hX.only hO (by omega)
  clear hD hD2 hO
  obtain ⟨r_0, r_1, r_2, r_3, r_4, r_5, r_6, r_7, r_8⟩ := hR.c9
  have z0 := hR.frozen 0
  have z1 := hR.frozen 1
  have z2 := hR.frozen 2
  have z3 := hR.frozen 3
  have z4 := hR.frozen 4
  have z5 := hR.frozen 5
  have z6 := hR.frozen 6
  have z7 := hR.frozen 7
  have z8 := hR.frozen 8
  obtain ⟨m0, m1, m2, m3, m4, m5, m6, m7, m8⟩ := (hR.set9 (.int .i64 x.a) (.int .i64 x.b) (.int .i64 x.c) (.slice x.p.x.A x.p.x.n x.p.x.c) (.int .i64 x.d) (.slice x.p.y.A x.p.y.n x.p.y.c) (.slice x.p.z.A x.p.z.n x.p.z.c) (.int .i64 x.e) (.int .i64 x.f)).c9
  have hon := (((((((((hp.awP (b := w.heap.size) (by omega) 0 (.int .i64 x.a)).awP (b := w.heap.size) (by omega) 1 (.int .i64 x.b)).awP (b := w.heap.size) (by omega) 2 (.int .i64 x.c)).awP (b := w.heap.size) (by omega) 3 (.slice x.p.x.A x.p.x.n x.p.x.c)).awP (b := w.heap.size) (by omega) 4 (.int .i64 x.d)).awP (b := w.heap.size) (by omega) 5 (.slice x.p.y.A x.p.y.n x.p.y.c)).awP (b := w.heap.size) (by omega) 6 (.slice x.p.z.A x.p.z.n x.p.z.c)).awP (b := w.heap.size) (by omega) 7 (.int .i64 x.e)).awP (b := w.heap.size) (by omega) 8 (.int .i64 x.f))
  have hXn := (((((((((hX.off w.heap.size 0 (by omega) (.int .i64 x.a)).off w.heap.size 1 (by omega) (.int .i64 x.b)).off w.heap.size 2 (by omega) (.int .i64 x.c)).off w.heap.size 3 (by omega) (.slice x.p.x.A x.p.x.n x.p.x.c)).off w.heap.size 4 (by omega) (.int .i64 x.d)).off w.heap.size 5 (by omega) (.slice x.p.y.A x.p.y.n x.p.y.c)).off w.heap.size 6 (by omega) (.slice x.p.z.A x.p.z.n x.p.z.c)).off w.heap.size 7 (by omega) (.int .i64 x.e)).off w.heap.size 8 (by omega) (.int .i64 x.f))
  skip
  go_wp2_with fail
  refine bodyPost_ret (v := .agg #[.int .i64 x.a, .int .i64 x.b, .int .i64 x.c, .slice x.p.x.A x.p.x.n x.p.x.c, .int .i64 x.d, .slice x.p.y.A x.p.y.n x.p.y.c, .slice x.p.z.A x.p.z.n x.p.z.c, .int .i64 x.e, .int .i64 x.f]) (by simp [results, Tryz.results15, go_sem, m0, m1, m2, m3, m4, m5, m6, m7, m8]) rfl ⟨x, y, rfl, hon.mono (by omega), hb, hXn⟩
set_option maxRecDepth 20000 in
set_option maxHeartbeats 4000000 in
theorem spec.DrawPanelOfRecord_any (s : Sl) (w : World) (hc : Code w s) :
    Calls Tryz.prog 26 #[.slice s.A s.n s.c] w fun e w' => ∃ (x : RecA) (y : RecL) (t : Sl) (ts : List Ti) (q : Sl) (us : List ByteArray), e = .returned (.tuple #[.agg #[.int .i64 x.a, .int .i64 x.b, .int .i64 x.c, .slice x.p.x.A x.p.x.n x.p.x.c, .int .i64 x.d, .slice x.p.y.A x.p.y.n x.p.y.c, .slice x.p.z.A x.p.z.n x.p.z.c, .int .i64 x.e, .int .i64 x.f], .slice t.A t.n t.c, .slice q.A q.n q.c]) ∧ OwnR w' w.heap.size x y ∧ TpO w' w.heap.size t ts q us ∧ Ext w w' := by
  have hR := Blk.new w 26 #[.int .i64 0, .int .i64 0, .int .i64 0, .slice none 0 0, .int .i64 0, .slice none 0 0, .slice none 0 0, .int .i64 0, .int .i64 0]
  have hX := (Ext.refl w).alloc (.cells #[.int .i64 0, .int .i64 0, .int .i64 0, .slice none 0 0, .int .i64 0, .slice none 0 0, .slice none 0 0, .int .i64 0, .int .i64 0] 26)
  go_enter Tryz.func26, Tryz.ntmps26
  go_wp2_with fail
  refine (spec.l01From_any s w _ hX hc).mono ?_
  rintro e w1 ⟨g, rfl, hg, hD1, hx1⟩
  rw [World.size_alloc] at hg
  replace hR := hR.ext hx1
  replace hX := hX.trans hx1
  have hz1 := hR.lt
  have hgl := hD1.lt
  clear hx1
  go_wp2_with fail
  refine (spec.l16Draw_any g s w _ hD1).mono ?_
  rintro e w2 ⟨x, y, rfl, hp, _, hD2, hO2⟩
  replace hR := hR.only hO2 (by omega)
  replace hX := Ext.only hX hO2 (by omega)
  have hz2 := hO2.size
  clear hD1 hO2
  have hB := Blk.new w2 26 #[.int .i64 x.a, .int .i64 x.b, .int .i64 x.c, .slice x.p.x.A x.p.x.n x.p.x.c, .int .i64 x.d, .slice x.p.y.A x.p.y.n x.p.y.c, .slice x.p.z.A x.p.z.n x.p.z.c, .int .i64 x.e, .int .i64 x.f]
  replace hp := hp.alloc (.cells #[.int .i64 x.a, .int .i64 x.b, .int .i64 x.c, .slice x.p.x.A x.p.x.n x.p.x.c, .int .i64 x.d, .slice x.p.y.A x.p.y.n x.p.y.c, .slice x.p.z.A x.p.z.n x.p.z.c, .int .i64 x.e, .int .i64 x.f] 26)
  replace hR := hR.alloc (.cells #[.int .i64 x.a, .int .i64 x.b, .int .i64 x.c, .slice x.p.x.A x.p.x.n x.p.x.c, .int .i64 x.d, .slice x.p.y.A x.p.y.n x.p.y.c, .slice x.p.z.A x.p.z.n x.p.z.c, .int .i64 x.e, .int .i64 x.f] 26)
  replace hX := hX.alloc (.cells #[.int .i64 x.a, .int .i64 x.b, .int .i64 x.c, .slice x.p.x.A x.p.x.n x.p.x.c, .int .i64 x.d, .slice x.p.y.A x.p.y.n x.p.y.c, .slice x.p.z.A x.p.z.n x.p.z.c, .int .i64 x.e, .int .i64 x.f] 26)
  replace hD2 := hD2.alloc (.cells #[.int .i64 x.a, .int .i64 x.b, .int .i64 x.c, .slice x.p.x.A x.p.x.n x.p.x.c, .int .i64 x.d, .slice x.p.y.A x.p.y.n x.p.y.c, .slice x.p.z.A x.p.z.n x.p.z.c, .int .i64 x.e, .int .i64 x.f] 26)
  have hzb : w.heap.size < w2.heap.size := by omega
  go_wp2_with fail
  refine (spec.l13Ties_any g s w _ hD2).mono ?_
  rintro e w3 ⟨t, ts, rfl, ho, _, hts, hD3, hO3⟩
  rw [World.size_alloc] at ho
  replace hR := hR.only hO3 (by omega)
  replace hB := hB.only hO3 (by omega)
  replace hp := hp.only hO3 (by omega)
  replace hX := Ext.only hX hO3 (by omega)
  have hz3 : w2.heap.size + 1 ≤ w3.heap.size := by have := hO3.size; simpa using this
  clear hD2 hO3
  replace hts := hide hts
  have hgb : g < w2.heap.size := by omega
  generalize hb2 : w2.heap.size = b at hB ho hz3 hzb hgb ⊢
  clear hb2 hz2
  generalize hbR : w.heap.size = r at hR hzb hz1 hg ⊢
  replace hbR := hide hbR
  go_upto_region 4 with fail
  replace ho := ho.ext (Ext.refl w3).drew
  refine wp_region_sink (S := (fun w' => w'.cell? ⟨b, 0, none⟩ = some (.int .i64 x.a) ∧ w'.cell? ⟨b, 1, none⟩ = some (.int .i64 x.b) ∧ w'.cell? ⟨b, 2, none⟩ = some (.int .i64 x.c) ∧ w'.cell? ⟨b, 3, none⟩ = some (.slice x.p.x.A x.p.x.n x.p.x.c) ∧ w'.cell? ⟨b, 4, none⟩ = some (.int .i64 x.d) ∧ w'.cell? ⟨b, 5, none⟩ = some (.slice x.p.y.A x.p.y.n x.p.y.c) ∧ w'.cell? ⟨b, 6, none⟩ = some (.slice x.p.z.A x.p.z.n x.p.z.c) ∧ w'.cell? ⟨b, 7, none⟩ = some (.int .i64 x.e) ∧ w'.cell? ⟨b, 8, none⟩ = some (.int .i64 x.f))) 6 (by kernel_rfl) ?_
  change wpAnyT _ _ _ _ _ _ _ _ _ (World.drew _)
  replace hp := hp.drew
  replace hR := hR.drew
  replace hB := hB.drew
  replace hX := hX.drew
  replace hD3 := hD3.drew
  generalize hwd : World.drew _ = wd at ho hp hR hB hX hD3 ⊢
  clear hwd
  have hzd := hB.lt
  have kk := hB.c9
  refine wpAnyT_takeL (i := 0) 8 (v := ?_) rfl (by kernel_rfl) (by kernel_rfl) (by kernel_rfl) (by kernel_rfl) (by kernel_rfl) (fun _ _ _ h => h) (Or.inl ⟨by rfl, ?_⟩) kk ?_
  rotate_left 1
  · (intro W hSw; (try dsimp only at hSw); go_simp) <;> with_reducible rfl
  try simp only [Act.put, List.setIfInBounds_toArray, List.set_cons_zero, List.set_cons_succ]
  refine wpAnyT_takeL (i := 1) 8 (v := ?_) rfl (by kernel_rfl) (by kernel_rfl) (by kernel_rfl) (by kernel_rfl) (by kernel_rfl) (fun _ _ _ h => h) (Or.inl ⟨by rfl, ?_⟩) kk ?_
  rotate_left 1
  · (intro W hSw; (try dsimp only at hSw); go_simp) <;> with_reducible rfl
  try simp only [Act.put, List.setIfInBounds_toArray, List.set_cons_zero, List.set_cons_succ]
  refine wpAnyT_takeL (i := 2) 8 (v := ?_) rfl (by kernel_rfl) (by kernel_rfl) (by kernel_rfl) (by kernel_rfl) (by kernel_rfl) (fun _ _ _ h => h) (Or.inl ⟨by rfl, ?_⟩) kk ?_
  rotate_left 1
  · (intro W hSw; (try dsimp only at hSw); go_simp) <;> with_reducible rfl
  try simp only [Act.put, List.setIfInBounds_toArray, List.set_cons_zero, List.set_cons_succ]
  clear kk
  refine wpAnyT_go (i := 3) rfl (by kernel_rfl) fun K hK => ?_
  go_simp
  go_at_call 60
  refine (spec.l13Parties_any g s w _ hD3).mono ?_
  rintro e w4 ⟨q, us, rfl, hq, _, hus, hD4, hO4⟩
  have hzq := hD3.lt
  replace hR := hR.only hO4 (by omega)
  replace hB := hB.only hO4 (by omega)
  replace hp := hp.only hO4 (by omega)
  replace ho := ho.only hO4 (by omega)
  replace hX := Ext.only hX hO4 (by have := hbR.out; omega)
  have htp : TpO w4 (r + 1) t ts q us := ⟨ho.mono (by omega), hts.out, hq.mono (by have := hR.lt; have := hzd; omega), hus⟩
  clear ho hq hD3 hD4 hO4
  go_simp
  refine hK _ _ ⟨fun _ => hB.c9, ?_⟩
  clear hK K
  obtain ⟨r0, r1, r2, r3, r4, r5, r6, r7, r8⟩ := hR.c9
  have z0 := hR.frozen 0
  have z1 := hR.frozen 1
  have z2 := hR.frozen 2
  have z3 := hR.frozen 3
  have z4 := hR.frozen 4
  have z5 := hR.frozen 5
  have z6 := hR.frozen 6
  have z7 := hR.frozen 7
  have z8 := hR.frozen 8
  refine wpAnyT_go (i := 4) rfl (by kernel_rfl) fun K hK => ?_
  go_simp
  have hbl : w.heap.size ≤ r := Nat.le_of_eq hbR.out
  have hBn := (((((((((hB.off r 0 (by omega) (.int .i64 x.a)).off r 1 (by omega) (.int .i64 x.b)).off r 2 (by omega) (.int .i64 x.c)).off r 3 (by omega) (.slice x.p.x.A x.p.x.n x.p.x.c)).off r 4 (by omega) (.int .i64 x.d)).off r 5 (by omega) (.slice x.p.y.A x.p.y.n x.p.y.c)).off r 6 (by omega) (.slice x.p.z.A x.p.z.n x.p.z.c)).off r 7 (by omega) (.int .i64 x.e)).off r 8 (by omega) (.int .i64 x.f))
  have hRn := hR.set9 (.int .i64 x.a) (.int .i64 x.b) (.int .i64 x.c) (.slice x.p.x.A x.p.x.n x.p.x.c) (.int .i64 x.d) (.slice x.p.y.A x.p.y.n x.p.y.c) (.slice x.p.z.A x.p.z.n x.p.z.c) (.int .i64 x.e) (.int .i64 x.f)
  have hpn := (((((((((hp.awP (b := r) (by omega) 0 (.int .i64 x.a)).awP (b := r) (by omega) 1 (.int .i64 x.b)).awP (b := r) (by omega) 2 (.int .i64 x.c)).awP (b := r) (by omega) 3 (.slice x.p.x.A x.p.x.n x.p.x.c)).awP (b := r) (by omega) 4 (.int .i64 x.d)).awP (b := r) (by omega) 5 (.slice x.p.y.A x.p.y.n x.p.y.c)).awP (b := r) (by omega) 6 (.slice x.p.z.A x.p.z.n x.p.z.c)).awP (b := r) (by omega) 7 (.int .i64 x.e)).awP (b := r) (by omega) 8 (.int .i64 x.f))
  have htn := (((((((((htp.off r 0 (by omega) (.int .i64 x.a)).off r 1 (by omega) (.int .i64 x.b)).off r 2 (by omega) (.int .i64 x.c)).off r 3 (by omega) (.slice x.p.x.A x.p.x.n x.p.x.c)).off r 4 (by omega) (.int .i64 x.d)).off r 5 (by omega) (.slice x.p.y.A x.p.y.n x.p.y.c)).off r 6 (by omega) (.slice x.p.z.A x.p.z.n x.p.z.c)).off r 7 (by omega) (.int .i64 x.e)).off r 8 (by omega) (.int .i64 x.f))
  have hXn := (((((((((hX.off r 0 hbl (.int .i64 x.a)).off r 1 hbl (.int .i64 x.b)).off r 2 hbl (.int .i64 x.c)).off r 3 hbl (.slice x.p.x.A x.p.x.n x.p.x.c)).off r 4 hbl (.int .i64 x.d)).off r 5 hbl (.slice x.p.y.A x.p.y.n x.p.y.c)).off r 6 hbl (.slice x.p.z.A x.p.z.n x.p.z.c)).off r 7 hbl (.int .i64 x.e)).off r 8 hbl (.int .i64 x.f))
  refine hK _ _ ⟨fun _ => hBn.c9, ?_⟩
  clear hK K
  clear r0 r1 r2 r3 r4 r5 r6 r7 r8 z0 z1 z2 z3 z4 z5 z6 z7 z8 hR hB hp htp hX
  generalize hwe : World.setCell _ _ _ = we at hBn hRn hpn htn hXn ⊢
  clear hwe
  refine wpAnyT_go (i := 5) rfl (by kernel_rfl) fun K hK => ?_
  go_simp
  refine hK _ _ ⟨fun _ => hBn.c9, ?_⟩
  clear hK K
  refine wpAnyT_go (i := 6) rfl (by kernel_rfl) fun K hK => ?_
  go_simp
  refine hK _ _ ⟨fun h => absurd rfl h, ?_⟩
  clear hK K
  refine wpAnyT_done (by kernel_rfl) ?_ _
  obtain ⟨m0, m1, m2, m3, m4, m5, m6, m7, m8⟩ := hRn.c9
  clear hBn hRn
  go_wp2_with fail
  refine bodyPost_ret (v := .tuple #[.agg #[.int .i64 x.a, .int .i64 x.b, .int .i64 x.c, .slice x.p.x.A x.p.x.n x.p.x.c, .int .i64 x.d, .slice x.p.y.A x.p.y.n x.p.y.c, .slice x.p.z.A x.p.z.n x.p.z.c, .int .i64 x.e, .int .i64 x.f], .slice t.A t.n t.c, .slice q.A q.n q.c]) (by simp [results, Tryz.results26, go_sem, m0, m1, m2, m3, m4, m5, m6, m7, m8]) rfl ⟨x, y, t, ts, q, us, rfl, hpn.mono (by omega), htn.mono (by omega), hXn⟩
set_option maxRecDepth 20000 in
set_option maxHeartbeats 4000000 in
theorem spec.DrawStruckBy_any (s : Sl) (w : World) (hc : Code w s) :
    Calls Tryz.prog 8 #[.slice s.A s.n s.c] w fun e w' => ∃ (x : RecA) (y : RecL) (t : Sl) (ts : List Ti) (q : Sl) (us : List ByteArray) (sd : Int), e = .returned (.tuple #[.agg #[.int .i64 x.a, .int .i64 x.b, .int .i64 x.c, .slice x.p.x.A x.p.x.n x.p.x.c, .int .i64 x.d, .slice x.p.y.A x.p.y.n x.p.y.c, .slice x.p.z.A x.p.z.n x.p.z.c, .int .i64 x.e, .int .i64 x.f], .slice t.A t.n t.c, .slice q.A q.n q.c, .int .i64 sd]) ∧ OwnR w' w.heap.size x y ∧ TpO w' w.heap.size t ts q us ∧ Ext w w' := by
  have hR := Blk.new w 26 #[.int .i64 0, .int .i64 0, .int .i64 0, .slice none 0 0, .int .i64 0, .slice none 0 0, .slice none 0 0, .int .i64 0, .int .i64 0]
  have hX := (Ext.refl w).alloc (.cells #[.int .i64 0, .int .i64 0, .int .i64 0, .slice none 0 0, .int .i64 0, .slice none 0 0, .slice none 0 0, .int .i64 0, .int .i64 0] 26)
  go_enter Tryz.func8, Tryz.ntmps8
  go_wp2_with fail
  refine (spec.l01From_any s w _ hX hc).mono ?_
  rintro e w1 ⟨g, rfl, hg, hD1, hx1⟩
  rw [World.size_alloc] at hg
  replace hR := hR.ext hx1
  replace hX := hX.trans hx1
  have hz1 := hR.lt
  have hgl := hD1.lt
  clear hx1
  go_wp2_with fail
  refine (spec.DrawPanelOfRecord_any s _ (hc.ext hX)).mono ?_
  rintro e w2 ⟨x, y, t, ts, q, us, rfl, hp, ht, hx2⟩
  replace hR := hR.ext hx2
  have hD2 := hD1.more hx2
  have hz2 := hx2.size
  replace hX := hX.trans hx2
  replace hp := hp.mono (lo' := g + 1) (by omega)
  replace ht := ht.mono (lo' := g + 1) (by omega)
  clear hD1 hx2
  have hB := Blk.new w2 26 #[.int .i64 x.a, .int .i64 x.b, .int .i64 x.c, .slice x.p.x.A x.p.x.n x.p.x.c, .int .i64 x.d, .slice x.p.y.A x.p.y.n x.p.y.c, .slice x.p.z.A x.p.z.n x.p.z.c, .int .i64 x.e, .int .i64 x.f]
  replace hp := hp.alloc (.cells #[.int .i64 x.a, .int .i64 x.b, .int .i64 x.c, .slice x.p.x.A x.p.x.n x.p.x.c, .int .i64 x.d, .slice x.p.y.A x.p.y.n x.p.y.c, .slice x.p.z.A x.p.z.n x.p.z.c, .int .i64 x.e, .int .i64 x.f] 26)
  replace ht := ht.alloc (.cells #[.int .i64 x.a, .int .i64 x.b, .int .i64 x.c, .slice x.p.x.A x.p.x.n x.p.x.c, .int .i64 x.d, .slice x.p.y.A x.p.y.n x.p.y.c, .slice x.p.z.A x.p.z.n x.p.z.c, .int .i64 x.e, .int .i64 x.f] 26)
  replace hR := hR.alloc (.cells #[.int .i64 x.a, .int .i64 x.b, .int .i64 x.c, .slice x.p.x.A x.p.x.n x.p.x.c, .int .i64 x.d, .slice x.p.y.A x.p.y.n x.p.y.c, .slice x.p.z.A x.p.z.n x.p.z.c, .int .i64 x.e, .int .i64 x.f] 26)
  replace hX := hX.alloc (.cells #[.int .i64 x.a, .int .i64 x.b, .int .i64 x.c, .slice x.p.x.A x.p.x.n x.p.x.c, .int .i64 x.d, .slice x.p.y.A x.p.y.n x.p.y.c, .slice x.p.z.A x.p.z.n x.p.z.c, .int .i64 x.e, .int .i64 x.f] 26)
  replace hD2 := hD2.alloc (.cells #[.int .i64 x.a, .int .i64 x.b, .int .i64 x.c, .slice x.p.x.A x.p.x.n x.p.x.c, .int .i64 x.d, .slice x.p.y.A x.p.y.n x.p.y.c, .slice x.p.z.A x.p.z.n x.p.z.c, .int .i64 x.e, .int .i64 x.f] 26)
  have hzb : w.heap.size < w2.heap.size := by omega
  have hgb : g < w2.heap.size := by omega
  go_upto_region 3 with fail
  generalize hwv : World.alloc w2 _ = wv at hB hp ht hR hX hD2 ⊢
  clear hwv
  generalize hb2 : w2.heap.size = b at hB hzb hgb ⊢
  clear hb2 hz2
  generalize hbR : w.heap.size = r at hR hzb hz1 hg ⊢
  replace hbR := hide hbR
  refine wp_region_sink (S := (fun w' => w'.cell? ⟨b, 0, none⟩ = some (.int .i64 x.a) ∧ w'.cell? ⟨b, 1, none⟩ = some (.int .i64 x.b) ∧ w'.cell? ⟨b, 2, none⟩ = some (.int .i64 x.c) ∧ w'.cell? ⟨b, 3, none⟩ = some (.slice x.p.x.A x.p.x.n x.p.x.c) ∧ w'.cell? ⟨b, 4, none⟩ = some (.int .i64 x.d) ∧ w'.cell? ⟨b, 5, none⟩ = some (.slice x.p.y.A x.p.y.n x.p.y.c) ∧ w'.cell? ⟨b, 6, none⟩ = some (.slice x.p.z.A x.p.z.n x.p.z.c) ∧ w'.cell? ⟨b, 7, none⟩ = some (.int .i64 x.e) ∧ w'.cell? ⟨b, 8, none⟩ = some (.int .i64 x.f))) 9 (by kernel_rfl) ?_
  change wpAnyT _ _ _ _ _ _ _ _ _ (World.drew _)
  replace hp := hp.drew
  replace ht := ht.drew
  replace hR := hR.drew
  replace hB := hB.drew
  replace hX := hX.drew
  replace hD2 := hD2.drew
  generalize hwd : World.drew _ = wd at hp ht hR hB hX hD2 ⊢
  clear hwd
  have kk := hB.c9
  refine wpAnyT_takeL (i := 0) 8 (v := ?_) rfl (by kernel_rfl) (by kernel_rfl) (by kernel_rfl) (by kernel_rfl) (by kernel_rfl) (fun _ _ _ h => h) (Or.inl ⟨by rfl, ?_⟩) kk ?_
  rotate_left 1
  · (intro W hSw; (try dsimp only at hSw); go_simp) <;> with_reducible rfl
  try simp only [Act.put, List.setIfInBounds_toArray, List.set_cons_zero, List.set_cons_succ]
  refine wpAnyT_takeL (i := 1) 8 (v := ?_) rfl (by kernel_rfl) (by kernel_rfl) (by kernel_rfl) (by kernel_rfl) (by kernel_rfl) (fun _ _ _ h => h) (Or.inl ⟨by rfl, ?_⟩) kk ?_
  rotate_left 1
  · (intro W hSw; (try dsimp only at hSw); go_simp) <;> with_reducible rfl
  try simp only [Act.put, List.setIfInBounds_toArray, List.set_cons_zero, List.set_cons_succ]
  refine wpAnyT_takeL (i := 2) 8 (v := ?_) rfl (by kernel_rfl) (by kernel_rfl) (by kernel_rfl) (by kernel_rfl) (by kernel_rfl) (fun _ _ _ h => h) (Or.inl ⟨by rfl, ?_⟩) kk ?_
  rotate_left 1
  · (intro W hSw; (try dsimp only at hSw); go_simp) <;> with_reducible rfl
  try simp only [Act.put, List.setIfInBounds_toArray, List.set_cons_zero, List.set_cons_succ]
  refine wpAnyT_takeL (i := 3) 8 (v := ?_) rfl (by kernel_rfl) (by kernel_rfl) (by kernel_rfl) (by kernel_rfl) (by kernel_rfl) (fun _ _ _ h => h) (Or.inl ⟨by rfl, ?_⟩) kk ?_
  rotate_left 1
  · (intro W hSw; (try dsimp only at hSw); go_simp) <;> with_reducible rfl
  try simp only [Act.put, List.setIfInBounds_toArray, List.set_cons_zero, List.set_cons_succ]
  clear kk
  refine wpAnyT_go (i := 4) rfl (by kernel_rfl) fun K hK => ?_
  go_simp
  refine hK _ _ ⟨fun _ => (hB.alloc _).c9, ?_⟩
  clear hK K
  have hk := spec.l01Pick_any g _ s [0, 1, 0, 1, 2, -1] w _ (hD2.alloc (.cells #[.int .i64 0, .int .i64 1, .int .i64 0, .int .i64 1, .int .i64 2, .int .i64 (-1)] 2)) (Blk.new wd 2 #[.int .i64 0, .int .i64 1, .int .i64 0, .int .i64 1, .int .i64 2, .int .i64 (-1)]) (by have := hB.lt; omega) (by simp) (by simp)
  replace hp := hp.alloc (.cells #[.int .i64 0, .int .i64 1, .int .i64 0, .int .i64 1, .int .i64 2, .int .i64 (-1)] 2)
  replace ht := ht.alloc (.cells #[.int .i64 0, .int .i64 1, .int .i64 0, .int .i64 1, .int .i64 2, .int .i64 (-1)] 2)
  replace hR := hR.alloc (.cells #[.int .i64 0, .int .i64 1, .int .i64 0, .int .i64 1, .int .i64 2, .int .i64 (-1)] 2)
  replace hX := hX.alloc (.cells #[.int .i64 0, .int .i64 1, .int .i64 0, .int .i64 1, .int .i64 2, .int .i64 (-1)] 2)
  replace hB := hB.alloc (.cells #[.int .i64 0, .int .i64 1, .int .i64 0, .int .i64 1, .int .i64 2, .int .i64 (-1)] 2)
  refine wpAnyT_go (i := 5) rfl (by kernel_rfl) fun K hK => ?_
  go_simp
  go_at_call 38
  refine hk.mono ?_
  rintro e w4 ⟨sd, rfl, _, hD4, hO4⟩
  replace hR := hR.only hO4 (by omega)
  replace hB := hB.only hO4 (by omega)
  replace hp := hp.only hO4 (by omega)
  replace ht := ht.only hO4 (by omega)
  replace hX := Ext.only hX hO4 (by have := hbR.out; omega)
  clear hk hD2 hD4 hO4
  go_simp
  refine hK _ _ ⟨fun _ => hB.c9, ?_⟩
  clear hK K
  obtain ⟨r0, r1, r2, r3, r4, r5, r6, r7, r8⟩ := hR.c9
  have z0 := hR.frozen 0
  have z1 := hR.frozen 1
  have z2 := hR.frozen 2
  have z3 := hR.frozen 3
  have z4 := hR.frozen 4
  have z5 := hR.frozen 5
  have z6 := hR.frozen 6
  have z7 := hR.frozen 7
  have z8 := hR.frozen 8
  refine wpAnyT_go (i := 6) rfl (by kernel_rfl) fun K hK => ?_
  go_simp
  have hbl : w.heap.size ≤ r := Nat.le_of_eq hbR.out
  have hBn := (((((((((hB.off r 0 (by omega) (.int .i64 x.a)).off r 1 (by omega) (.int .i64 x.b)).off r 2 (by omega) (.int .i64 x.c)).off r 3 (by omega) (.slice x.p.x.A x.p.x.n x.p.x.c)).off r 4 (by omega) (.int .i64 x.d)).off r 5 (by omega) (.slice x.p.y.A x.p.y.n x.p.y.c)).off r 6 (by omega) (.slice x.p.z.A x.p.z.n x.p.z.c)).off r 7 (by omega) (.int .i64 x.e)).off r 8 (by omega) (.int .i64 x.f))
  have hRn := hR.set9 (.int .i64 x.a) (.int .i64 x.b) (.int .i64 x.c) (.slice x.p.x.A x.p.x.n x.p.x.c) (.int .i64 x.d) (.slice x.p.y.A x.p.y.n x.p.y.c) (.slice x.p.z.A x.p.z.n x.p.z.c) (.int .i64 x.e) (.int .i64 x.f)
  have hpn := (((((((((hp.awP (b := r) (by omega) 0 (.int .i64 x.a)).awP (b := r) (by omega) 1 (.int .i64 x.b)).awP (b := r) (by omega) 2 (.int .i64 x.c)).awP (b := r) (by omega) 3 (.slice x.p.x.A x.p.x.n x.p.x.c)).awP (b := r) (by omega) 4 (.int .i64 x.d)).awP (b := r) (by omega) 5 (.slice x.p.y.A x.p.y.n x.p.y.c)).awP (b := r) (by omega) 6 (.slice x.p.z.A x.p.z.n x.p.z.c)).awP (b := r) (by omega) 7 (.int .i64 x.e)).awP (b := r) (by omega) 8 (.int .i64 x.f))
  have htn := (((((((((ht.off r 0 (by omega) (.int .i64 x.a)).off r 1 (by omega) (.int .i64 x.b)).off r 2 (by omega) (.int .i64 x.c)).off r 3 (by omega) (.slice x.p.x.A x.p.x.n x.p.x.c)).off r 4 (by omega) (.int .i64 x.d)).off r 5 (by omega) (.slice x.p.y.A x.p.y.n x.p.y.c)).off r 6 (by omega) (.slice x.p.z.A x.p.z.n x.p.z.c)).off r 7 (by omega) (.int .i64 x.e)).off r 8 (by omega) (.int .i64 x.f))
  have hXn := (((((((((hX.off r 0 hbl (.int .i64 x.a)).off r 1 hbl (.int .i64 x.b)).off r 2 hbl (.int .i64 x.c)).off r 3 hbl (.slice x.p.x.A x.p.x.n x.p.x.c)).off r 4 hbl (.int .i64 x.d)).off r 5 hbl (.slice x.p.y.A x.p.y.n x.p.y.c)).off r 6 hbl (.slice x.p.z.A x.p.z.n x.p.z.c)).off r 7 hbl (.int .i64 x.e)).off r 8 hbl (.int .i64 x.f))
  refine hK _ _ ⟨fun _ => hBn.c9, ?_⟩
  clear hK K
  clear r0 r1 r2 r3 r4 r5 r6 r7 r8 z0 z1 z2 z3 z4 z5 z6 z7 z8 hR hB hp ht hX
  generalize hwe : World.setCell _ _ _ = we at hBn hRn hpn htn hXn ⊢
  clear hwe
  refine wpAnyT_go (i := 7) rfl (by kernel_rfl) fun K hK => ?_
  go_simp
  refine hK _ _ ⟨fun _ => hBn.c9, ?_⟩
  clear hK K
  refine wpAnyT_go (i := 8) rfl (by kernel_rfl) fun K hK => ?_
  go_simp
  refine hK _ _ ⟨fun _ => hBn.c9, ?_⟩
  clear hK K
  refine wpAnyT_go (i := 9) rfl (by kernel_rfl) fun K hK => ?_
  go_simp
  refine hK _ _ ⟨fun h => absurd rfl h, ?_⟩
  clear hK K
  refine wpAnyT_done (by kernel_rfl) ?_ _
  obtain ⟨m0, m1, m2, m3, m4, m5, m6, m7, m8⟩ := hRn.c9
  clear hBn hRn
  go_wp2_with fail
  refine bodyPost_ret (v := .tuple #[.agg #[.int .i64 x.a, .int .i64 x.b, .int .i64 x.c, .slice x.p.x.A x.p.x.n x.p.x.c, .int .i64 x.d, .slice x.p.y.A x.p.y.n x.p.y.c, .slice x.p.z.A x.p.z.n x.p.z.c, .int .i64 x.e, .int .i64 x.f], .slice t.A t.n t.c, .slice q.A q.n q.c, .int .i64 sd]) (by simp [results, Tryz.results8, go_sem, m0, m1, m2, m3, m4, m5, m6, m7, m8]) rfl ⟨x, y, t, ts, q, us, sd, rfl, hpn.mono (by omega), htn.mono (by omega), hXn⟩
set_option maxRecDepth 20000 in
set_option maxHeartbeats 4000000 in
theorem spec.DrawIsTrueJury_any (s : Sl) (w : World) (hc : Code w s) :
    Calls Tryz.prog 5 #[.slice s.A s.n s.c] w fun e w' => ∃ (x : RecA) (y : RecL) (t : Sl) (ts : List Ti) (q : Sl) (us : List ByteArray) (j : S3) (l : L3), e = .returned (.tuple #[.agg #[.int .i64 x.a, .int .i64 x.b, .int .i64 x.c, .slice x.p.x.A x.p.x.n x.p.x.c, .int .i64 x.d, .slice x.p.y.A x.p.y.n x.p.y.c, .slice x.p.z.A x.p.z.n x.p.z.c, .int .i64 x.e, .int .i64 x.f], .slice t.A t.n t.c, .slice q.A q.n q.c, .agg #[.slice j.x.A j.x.n j.x.c, .slice j.y.A j.y.n j.y.c, .slice j.z.A j.z.n j.z.c]]) ∧ OwnR w' w.heap.size x y ∧ TpO w' w.heap.size t ts q us ∧ Own3 w' w.heap.size j l ∧ Ext w w' := by
  have hR := Blk.new w 26 #[.int .i64 0, .int .i64 0, .int .i64 0, .slice none 0 0, .int .i64 0, .slice none 0 0, .slice none 0 0, .int .i64 0, .int .i64 0]
  have hX := (Ext.refl w).alloc (.cells #[.int .i64 0, .int .i64 0, .int .i64 0, .slice none 0 0, .int .i64 0, .slice none 0 0, .slice none 0 0, .int .i64 0, .int .i64 0] 26)
  replace hR := hR.alloc (.cells #[.slice none 0 0, .slice none 0 0, .slice none 0 0] 30)
  have hQ := Blk.new (w.alloc (.cells #[.int .i64 0, .int .i64 0, .int .i64 0, .slice none 0 0, .int .i64 0, .slice none 0 0, .slice none 0 0, .int .i64 0, .int .i64 0] 26)) 30 #[.slice none 0 0, .slice none 0 0, .slice none 0 0]
  replace hX := hX.alloc (.cells #[.slice none 0 0, .slice none 0 0, .slice none 0 0] 30)
  rw [World.size_alloc] at hQ
  go_enter Tryz.func5, Tryz.ntmps5
  go_wp2_with fail
  refine (spec.l01From_any s w _ hX hc).mono ?_
  rintro e w1 ⟨g, rfl, hg, hD1, hx1⟩
  rw [World.size_alloc, World.size_alloc] at hg
  replace hR := hR.ext hx1
  replace hQ := hQ.ext hx1
  replace hX := hX.trans hx1
  have hz1 := hR.lt
  have hgl := hD1.lt
  clear hx1
  go_wp2_with fail
  refine (spec.DrawPanelOfRecord_any s _ (hc.ext hX)).mono ?_
  rintro e w2 ⟨x, y, t, ts, q, us, rfl, hp, ht, hx2⟩
  replace hR := hR.ext hx2
  replace hQ := hQ.ext hx2
  have hD2 := hD1.more hx2
  have hz2 := hx2.size
  replace hX := hX.trans hx2
  replace hp := hp.mono (lo' := g + 1) (by omega)
  replace ht := ht.mono (lo' := g + 1) (by omega)
  clear hD1 hx2
  have hpl := fun k (hk : blksR x k) => (hp.lt hk).2
  have htl := fun k (hk : Value.ownBlock (.slice t.A t.n t.c) = some k) => (ht.1.lt k hk).2
  have hql := fun k (hk : Value.ownBlock (.slice q.A q.n q.c) = some k) => (ht.2.2.1.lt k hk).2
  have hB := Blk.new w2 26 #[.int .i64 x.a, .int .i64 x.b, .int .i64 x.c, .slice x.p.x.A x.p.x.n x.p.x.c, .int .i64 x.d, .slice x.p.y.A x.p.y.n x.p.y.c, .slice x.p.z.A x.p.z.n x.p.z.c, .int .i64 x.e, .int .i64 x.f]
  replace hp := hp.alloc (.cells #[.int .i64 x.a, .int .i64 x.b, .int .i64 x.c, .slice x.p.x.A x.p.x.n x.p.x.c, .int .i64 x.d, .slice x.p.y.A x.p.y.n x.p.y.c, .slice x.p.z.A x.p.z.n x.p.z.c, .int .i64 x.e, .int .i64 x.f] 26)
  replace ht := ht.alloc (.cells #[.int .i64 x.a, .int .i64 x.b, .int .i64 x.c, .slice x.p.x.A x.p.x.n x.p.x.c, .int .i64 x.d, .slice x.p.y.A x.p.y.n x.p.y.c, .slice x.p.z.A x.p.z.n x.p.z.c, .int .i64 x.e, .int .i64 x.f] 26)
  replace hR := hR.alloc (.cells #[.int .i64 x.a, .int .i64 x.b, .int .i64 x.c, .slice x.p.x.A x.p.x.n x.p.x.c, .int .i64 x.d, .slice x.p.y.A x.p.y.n x.p.y.c, .slice x.p.z.A x.p.z.n x.p.z.c, .int .i64 x.e, .int .i64 x.f] 26)
  replace hQ := hQ.alloc (.cells #[.int .i64 x.a, .int .i64 x.b, .int .i64 x.c, .slice x.p.x.A x.p.x.n x.p.x.c, .int .i64 x.d, .slice x.p.y.A x.p.y.n x.p.y.c, .slice x.p.z.A x.p.z.n x.p.z.c, .int .i64 x.e, .int .i64 x.f] 26)
  replace hX := hX.alloc (.cells #[.int .i64 x.a, .int .i64 x.b, .int .i64 x.c, .slice x.p.x.A x.p.x.n x.p.x.c, .int .i64 x.d, .slice x.p.y.A x.p.y.n x.p.y.c, .slice x.p.z.A x.p.z.n x.p.z.c, .int .i64 x.e, .int .i64 x.f] 26)
  replace hD2 := hD2.alloc (.cells #[.int .i64 x.a, .int .i64 x.b, .int .i64 x.c, .slice x.p.x.A x.p.x.n x.p.x.c, .int .i64 x.d, .slice x.p.y.A x.p.y.n x.p.y.c, .slice x.p.z.A x.p.z.n x.p.z.c, .int .i64 x.e, .int .i64 x.f] 26)
  obtain ⟨c0, c1, c2, c3, c4, c5, c6, c7, c8⟩ := hB.c9
  go_wp2_with fail
  refine (spec.ReplayRecord_any x y t ts q us _ hp.rd ht.rt ht.rw_).mono ?_
  rintro e w3 ⟨j, rfl, hj, hx3⟩
  rw [World.size_alloc] at hj
  clear c0 c1 c2 c3 c4 c5 c6 c7 c8
  replace hp := hp.ext hx3
  replace ht := ht.ext hx3
  replace hR := hR.ext hx3
  replace hQ := hQ.ext hx3
  replace hB := hB.ext hx3
  replace hD2 := hD2.more hx3
  have hz3 : w2.heap.size + 1 ≤ w3.heap.size := by have := hx3.size; simpa using this
  replace hX := hX.trans hx3
  clear hx3
  have hJ := Blk.new w3 30 #[.slice j.x.A j.x.n j.x.c, .slice j.y.A j.y.n j.y.c, .slice j.z.A j.z.n j.z.c]
  replace hp := hp.alloc (.cells #[.slice j.x.A j.x.n j.x.c, .slice j.y.A j.y.n j.y.c, .slice j.z.A j.z.n j.z.c] 30)
  replace ht := ht.alloc (.cells #[.slice j.x.A j.x.n j.x.c, .slice j.y.A j.y.n j.y.c, .slice j.z.A j.z.n j.z.c] 30)
  replace hj := hj.alloc (.cells #[.slice j.x.A j.x.n j.x.c, .slice j.y.A j.y.n j.y.c, .slice j.z.A j.z.n j.z.c] 30)
  replace hR := hR.alloc (.cells #[.slice j.x.A j.x.n j.x.c, .slice j.y.A j.y.n j.y.c, .slice j.z.A j.z.n j.z.c] 30)
  replace hQ := hQ.alloc (.cells #[.slice j.x.A j.x.n j.x.c, .slice j.y.A j.y.n j.y.c, .slice j.z.A j.z.n j.z.c] 30)
  replace hB := hB.alloc (.cells #[.slice j.x.A j.x.n j.x.c, .slice j.y.A j.y.n j.y.c, .slice j.z.A j.z.n j.z.c] 30)
  replace hX := hX.alloc (.cells #[.slice j.x.A j.x.n j.x.c, .slice j.y.A j.y.n j.y.c, .slice j.z.A j.z.n j.z.c] 30)
  replace hD2 := hD2.alloc (.cells #[.slice j.x.A j.x.n j.x.c, .slice j.y.A j.y.n j.y.c, .slice j.z.A j.z.n j.z.c] 30)
  replace hj := hj.mono (lo' := g + 1) (by omega)
  obtain ⟨C, hC⟩ : ∃ C, Hid (C = rrC ts us y) := ⟨_, rfl⟩
  rw [← hC.out]
  generalize rrV ts us y = l at hj
  clear hC
  have hg2 : g < w2.heap.size := by omega
  have hk6 := fun W h => spec.l01Next_any g s 6 w W h (by omega)
  by_cases hC0 : C = 0
  · subst hC0
    go_wp2_with fail
    refine (hk6 _ hD2).mono ?_
    rintro e w4 ⟨n, rfl, _, hD4, hO4⟩
    have hz4 := hO4.size
    replace hp := hp.only hO4 (by omega)
    replace ht := ht.only hO4 (by omega)
    replace hj := hj.only hO4 (by omega)
    replace hR := hR.only hO4 (by omega)
    replace hQ := hQ.only hO4 (by omega)
    replace hB := hB.only hO4 (by omega)
    replace hJ := hJ.only hO4 (by omega)
    replace hX := Ext.only hX hO4 (by omega)
    clear hO4 hD2 hk6
    by_cases hn0 : n = 0
    · subst hn0
      go_wp2_with fail
      refine (spec.l15Good_any g s w _ hD4).mono ?_
      rintro e w6 ⟨j6, l6, rfl, hj6, _, _, hO6⟩
      have hz6 : w3.heap.size + 1 ≤ w4.heap.size := by simpa using hz4
      have hz7 := hO6.size
      replace hp := hp.only hO6 (by omega)
      replace ht := ht.only hO6 (by omega)
      replace hR := hR.only hO6 (by omega)
      replace hQ := hQ.only hO6 (by omega)
      replace hB := hB.only hO6 (by omega)
      replace hJ := hJ.only hO6 (by omega)
      replace hX := Ext.only hX hO6 (by omega)
      obtain ⟨c0, c1, c2, c3, c4, c5⟩ := res3 hJ
      clear hO6 hj hD4
      go_upto_region 6 with fail
      clear c0 c1 c2 c3 c4 c5
      generalize hwg : World.setCell _ _ _ = wg
      have hJ2 : Blk wg w3.heap.size 30 #[.slice j6.x.A j6.x.n j6.x.c, .slice j6.y.A j6.y.n j6.y.c, .slice j6.z.A j6.z.n j6.z.c] := by rw [← hwg]; exact ((hJ.set_ 0 (.slice j6.x.A j6.x.n j6.x.c)).set_ 1 (.slice j6.y.A j6.y.n j6.y.c)).set_ 2 (.slice j6.z.A j6.z.n j6.z.c)
      have hp2 : OwnR wg (g + 1) x y := by rw [← hwg]; exact (((hp.awD (b := w3.heap.size) (fun k hk e => by have := hpl k hk; omega) 0 (.slice j6.x.A j6.x.n j6.x.c)).awD (b := w3.heap.size) (fun k hk e => by have := hpl k hk; omega) 1 (.slice j6.y.A j6.y.n j6.y.c)).awD (b := w3.heap.size) (fun k hk e => by have := hpl k hk; omega) 2 (.slice j6.z.A j6.z.n j6.z.c))
      have ht2 : TpO wg (g + 1) t ts q us := by rw [← hwg]; exact (((ht.aw w3.heap.size 0 (fun k hk e => by have := htl k hk; omega) (fun k hk e => by have := hql k hk; omega) (.slice j6.x.A j6.x.n j6.x.c)).aw w3.heap.size 1 (fun k hk e => by have := htl k hk; omega) (fun k hk e => by have := hql k hk; omega) (.slice j6.y.A j6.y.n j6.y.c)).aw w3.heap.size 2 (fun k hk e => by have := htl k hk; omega) (fun k hk e => by have := hql k hk; omega) (.slice j6.z.A j6.z.n j6.z.c))
      have hB2 : Blk wg w2.heap.size 26 #[.int .i64 x.a, .int .i64 x.b, .int .i64 x.c, .slice x.p.x.A x.p.x.n x.p.x.c, .int .i64 x.d, .slice x.p.y.A x.p.y.n x.p.y.c, .slice x.p.z.A x.p.z.n x.p.z.c, .int .i64 x.e, .int .i64 x.f] := by rw [← hwg]; exact (((hB.off w3.heap.size 0 (by omega) (.slice j6.x.A j6.x.n j6.x.c)).off w3.heap.size 1 (by omega) (.slice j6.y.A j6.y.n j6.y.c)).off w3.heap.size 2 (by omega) (.slice j6.z.A j6.z.n j6.z.c))
      have hR2 : Blk wg w.heap.size 26 #[.int .i64 0, .int .i64 0, .int .i64 0, .slice none 0 0, .int .i64 0, .slice none 0 0, .slice none 0 0, .int .i64 0, .int .i64 0] := by rw [← hwg]; exact (((hR.off w3.heap.size 0 (by omega) (.slice j6.x.A j6.x.n j6.x.c)).off w3.heap.size 1 (by omega) (.slice j6.y.A j6.y.n j6.y.c)).off w3.heap.size 2 (by omega) (.slice j6.z.A j6.z.n j6.z.c))
      have hQ2 : Blk wg (w.heap.size + 1) 30 #[.slice none 0 0, .slice none 0 0, .slice none 0 0] := by rw [← hwg]; exact (((hQ.off w3.heap.size 0 (by omega) (.slice j6.x.A j6.x.n j6.x.c)).off w3.heap.size 1 (by omega) (.slice j6.y.A j6.y.n j6.y.c)).off w3.heap.size 2 (by omega) (.slice j6.z.A j6.z.n j6.z.c))
      have hX2 : Ext w wg := by rw [← hwg]; exact (((hX.off w3.heap.size 0 (by omega) (.slice j6.x.A j6.x.n j6.x.c)).off w3.heap.size 1 (by omega) (.slice j6.y.A j6.y.n j6.y.c)).off w3.heap.size 2 (by omega) (.slice j6.z.A j6.z.n j6.z.c))
      have hj2 : Own3 wg (g + 1) j6 l6 := by rw [← hwg]; exact Own3.mono (((hj6.awayP (g := w3.heap.size) (by omega) 0 (.slice j6.x.A j6.x.n j6.x.c)).awayP (g := w3.heap.size) (by omega) 1 (.slice j6.y.A j6.y.n j6.y.c)).awayP (g := w3.heap.size) (by omega) 2 (.slice j6.z.A j6.z.n j6.z.c)) (by omega)
      clear hJ hp ht hB hR hQ hX
      clear hj6 hwg
      have hJ := hJ2
      have hp := hp2
      have ht := ht2
      have hB := hB2
      have hR := hR2
      have hQ := hQ2
      have hX := hX2
      have hj := hj2
      clear hJ2 hp2 ht2 hB2 hR2 hQ2 hX2 hj2
      obtain ⟨j, hjj⟩ : ∃ j, j = j6 := ⟨_, rfl⟩
      rw [← hjj] at hj hJ ⊢
      clear hjj
      obtain ⟨l, hll⟩ : ∃ l, l = l6 := ⟨_, rfl⟩
      rw [← hll] at hj
      clear hll
      have n3 : w.heap.size < w2.heap.size := by omega
      have n4 : w2.heap.size < w3.heap.size := by omega
      generalize hb3 : w3.heap.size = c at hJ n4 ⊢
      generalize hb2 : w2.heap.size = b at hB n3 n4 ⊢
      generalize hbR : w.heap.size = r at hR hQ hz1 hg n3 ⊢
      replace hbR := hide hbR
      clear hb2 hb3
      refine wp_region_sink (S := (fun w' => (w'.cell? ⟨b, 0, none⟩ = some (.int .i64 x.a) ∧ w'.cell? ⟨b, 1, none⟩ = some (.int .i64 x.b) ∧ w'.cell? ⟨b, 2, none⟩ = some (.int .i64 x.c) ∧ w'.cell? ⟨b, 3, none⟩ = some (.slice x.p.x.A x.p.x.n x.p.x.c) ∧ w'.cell? ⟨b, 4, none⟩ = some (.int .i64 x.d) ∧ w'.cell? ⟨b, 5, none⟩ = some (.slice x.p.y.A x.p.y.n x.p.y.c) ∧ w'.cell? ⟨b, 6, none⟩ = some (.slice x.p.z.A x.p.z.n x.p.z.c) ∧ w'.cell? ⟨b, 7, none⟩ = some (.int .i64 x.e) ∧ w'.cell? ⟨b, 8, none⟩ = some (.int .i64 x.f)) ∧ (w'.cell? ⟨c, 0, none⟩ = some (.slice j.x.A j.x.n j.x.c) ∧ w'.cell? ⟨c, 1, none⟩ = some (.slice j.y.A j.y.n j.y.c) ∧ w'.cell? ⟨c, 2, none⟩ = some (.slice j.z.A j.z.n j.z.c)))) 7 (by kernel_rfl) ?_
      change wpAnyT _ _ _ _ _ _ _ _ _ (World.drew _)
      replace hp := hp.drew
      replace ht := ht.drew
      replace hj := hj.drew
      replace hR := hR.drew
      replace hQ := hQ.drew
      replace hB := hB.drew
      replace hJ := hJ.drew
      replace hX := hX.drew
      generalize hwd : World.drew _ = wd at hp ht hj hR hQ hB hJ hX ⊢
      clear hwd
      have kk := And.intro hB.c9 hJ.c3
      refine wpAnyT_takeL (i := 0) 8 (v := ?_) rfl (by kernel_rfl) (by kernel_rfl) (by kernel_rfl) (by kernel_rfl) (by kernel_rfl) (fun _ _ _ h => h) (Or.inl ⟨by rfl, ?_⟩) kk ?_
      rotate_left 1
      · (intro W hSw; (try dsimp only at hSw); go_simp) <;> with_reducible rfl
      try simp only [Act.put, List.setIfInBounds_toArray, List.set_cons_zero, List.set_cons_succ]
      refine wpAnyT_takeL (i := 1) 8 (v := ?_) rfl (by kernel_rfl) (by kernel_rfl) (by kernel_rfl) (by kernel_rfl) (by kernel_rfl) (fun _ _ _ h => h) (Or.inl ⟨by rfl, ?_⟩) kk ?_
      rotate_left 1
      · (intro W hSw; (try dsimp only at hSw); go_simp) <;> with_reducible rfl
      try simp only [Act.put, List.setIfInBounds_toArray, List.set_cons_zero, List.set_cons_succ]
      refine wpAnyT_takeL (i := 2) 8 (v := ?_) rfl (by kernel_rfl) (by kernel_rfl) (by kernel_rfl) (by kernel_rfl) (by kernel_rfl) (fun _ _ _ h => h) (Or.inl ⟨by rfl, ?_⟩) kk ?_
      rotate_left 1
      · (intro W hSw; (try dsimp only at hSw); go_simp) <;> with_reducible rfl
      try simp only [Act.put, List.setIfInBounds_toArray, List.set_cons_zero, List.set_cons_succ]
      refine wpAnyT_takeL (i := 3) 8 (v := ?_) rfl (by kernel_rfl) (by kernel_rfl) (by kernel_rfl) (by kernel_rfl) (by kernel_rfl) (fun _ _ _ h => h) (Or.inl ⟨by rfl, ?_⟩) kk ?_
      rotate_left 1
      · (intro W hSw; (try dsimp only at hSw); go_simp) <;> with_reducible rfl
      try simp only [Act.put, List.setIfInBounds_toArray, List.set_cons_zero, List.set_cons_succ]
      clear kk
      obtain ⟨r0, r1, r2, r3, r4, r5, r6, r7, r8⟩ := hR.c9
      have z0 := hR.frozen 0
      have z1 := hR.frozen 1
      have z2 := hR.frozen 2
      have z3 := hR.frozen 3
      have z4 := hR.frozen 4
      have z5 := hR.frozen 5
      have z6 := hR.frozen 6
      have z7 := hR.frozen 7
      have z8 := hR.frozen 8
      refine wpAnyT_go (i := 4) rfl (by kernel_rfl) fun K hK => ?_
      go_simp
      have hbl : w.heap.size ≤ r := Nat.le_of_eq hbR.out
      have hBn := (((((((((hB.off r 0 (by omega) (.int .i64 x.a)).off r 1 (by omega) (.int .i64 x.b)).off r 2 (by omega) (.int .i64 x.c)).off r 3 (by omega) (.slice x.p.x.A x.p.x.n x.p.x.c)).off r 4 (by omega) (.int .i64 x.d)).off r 5 (by omega) (.slice x.p.y.A x.p.y.n x.p.y.c)).off r 6 (by omega) (.slice x.p.z.A x.p.z.n x.p.z.c)).off r 7 (by omega) (.int .i64 x.e)).off r 8 (by omega) (.int .i64 x.f))
      have hRn := hR.set9 (.int .i64 x.a) (.int .i64 x.b) (.int .i64 x.c) (.slice x.p.x.A x.p.x.n x.p.x.c) (.int .i64 x.d) (.slice x.p.y.A x.p.y.n x.p.y.c) (.slice x.p.z.A x.p.z.n x.p.z.c) (.int .i64 x.e) (.int .i64 x.f)
      have hpn := (((((((((hp.awP (b := r) (by omega) 0 (.int .i64 x.a)).awP (b := r) (by omega) 1 (.int .i64 x.b)).awP (b := r) (by omega) 2 (.int .i64 x.c)).awP (b := r) (by omega) 3 (.slice x.p.x.A x.p.x.n x.p.x.c)).awP (b := r) (by omega) 4 (.int .i64 x.d)).awP (b := r) (by omega) 5 (.slice x.p.y.A x.p.y.n x.p.y.c)).awP (b := r) (by omega) 6 (.slice x.p.z.A x.p.z.n x.p.z.c)).awP (b := r) (by omega) 7 (.int .i64 x.e)).awP (b := r) (by omega) 8 (.int .i64 x.f))
      have htn := (((((((((ht.off r 0 (by omega) (.int .i64 x.a)).off r 1 (by omega) (.int .i64 x.b)).off r 2 (by omega) (.int .i64 x.c)).off r 3 (by omega) (.slice x.p.x.A x.p.x.n x.p.x.c)).off r 4 (by omega) (.int .i64 x.d)).off r 5 (by omega) (.slice x.p.y.A x.p.y.n x.p.y.c)).off r 6 (by omega) (.slice x.p.z.A x.p.z.n x.p.z.c)).off r 7 (by omega) (.int .i64 x.e)).off r 8 (by omega) (.int .i64 x.f))
      have hXn := (((((((((hX.off r 0 hbl (.int .i64 x.a)).off r 1 hbl (.int .i64 x.b)).off r 2 hbl (.int .i64 x.c)).off r 3 hbl (.slice x.p.x.A x.p.x.n x.p.x.c)).off r 4 hbl (.int .i64 x.d)).off r 5 hbl (.slice x.p.y.A x.p.y.n x.p.y.c)).off r 6 hbl (.slice x.p.z.A x.p.z.n x.p.z.c)).off r 7 hbl (.int .i64 x.e)).off r 8 hbl (.int .i64 x.f))
      have hJn := (((((((((hJ.off r 0 (by omega) (.int .i64 x.a)).off r 1 (by omega) (.int .i64 x.b)).off r 2 (by omega) (.int .i64 x.c)).off r 3 (by omega) (.slice x.p.x.A x.p.x.n x.p.x.c)).off r 4 (by omega) (.int .i64 x.d)).off r 5 (by omega) (.slice x.p.y.A x.p.y.n x.p.y.c)).off r 6 (by omega) (.slice x.p.z.A x.p.z.n x.p.z.c)).off r 7 (by omega) (.int .i64 x.e)).off r 8 (by omega) (.int .i64 x.f))
      have hQn := (((((((((hQ.off r 0 (by omega) (.int .i64 x.a)).off r 1 (by omega) (.int .i64 x.b)).off r 2 (by omega) (.int .i64 x.c)).off r 3 (by omega) (.slice x.p.x.A x.p.x.n x.p.x.c)).off r 4 (by omega) (.int .i64 x.d)).off r 5 (by omega) (.slice x.p.y.A x.p.y.n x.p.y.c)).off r 6 (by omega) (.slice x.p.z.A x.p.z.n x.p.z.c)).off r 7 (by omega) (.int .i64 x.e)).off r 8 (by omega) (.int .i64 x.f))
      have hjn := (((((((((hj.awayP (g := r) (by omega) 0 (.int .i64 x.a)).awayP (g := r) (by omega) 1 (.int .i64 x.b)).awayP (g := r) (by omega) 2 (.int .i64 x.c)).awayP (g := r) (by omega) 3 (.slice x.p.x.A x.p.x.n x.p.x.c)).awayP (g := r) (by omega) 4 (.int .i64 x.d)).awayP (g := r) (by omega) 5 (.slice x.p.y.A x.p.y.n x.p.y.c)).awayP (g := r) (by omega) 6 (.slice x.p.z.A x.p.z.n x.p.z.c)).awayP (g := r) (by omega) 7 (.int .i64 x.e)).awayP (g := r) (by omega) 8 (.int .i64 x.f))
      refine hK _ _ ⟨fun _ => And.intro hBn.c9 hJn.c3, ?_⟩
      clear hK K
      clear r0 r1 r2 r3 r4 r5 r6 r7 r8 z0 z1 z2 z3 z4 z5 z6 z7 z8 hR hB hp ht hX hJ hQ hj
      generalize hwe : World.setCell _ _ _ = we at hBn hRn hpn htn hXn hJn hQn hjn ⊢
      clear hwe
      refine wpAnyT_go (i := 5) rfl (by kernel_rfl) fun K hK => ?_
      go_simp
      refine hK _ _ ⟨fun _ => And.intro hBn.c9 hJn.c3, ?_⟩
      clear hK K
      refine wpAnyT_go (i := 6) rfl (by kernel_rfl) fun K hK => ?_
      go_simp
      refine hK _ _ ⟨fun _ => And.intro hBn.c9 hJn.c3, ?_⟩
      clear hK K
      obtain ⟨i0, i1, i2, y0, y1, y2⟩ := res3 hQn
      have hbl2 : w.heap.size ≤ r + 1 := by omega
      refine wpAnyT_go (i := 7) rfl (by kernel_rfl) fun K hK => ?_
      go_simp
      refine hK _ _ ⟨fun h => absurd rfl h, ?_⟩
      clear hK K
      have hQz := ((hQn.set_ 0 (.slice j.x.A j.x.n j.x.c)).set_ 1 (.slice j.y.A j.y.n j.y.c)).set_ 2 (.slice j.z.A j.z.n j.z.c)
      replace hRn := (((hRn.off (r + 1) 0 (by omega) (.slice j.x.A j.x.n j.x.c)).off (r + 1) 1 (by omega) (.slice j.y.A j.y.n j.y.c)).off (r + 1) 2 (by omega) (.slice j.z.A j.z.n j.z.c))
      replace hpn := (((hpn.awP (b := r + 1) (by omega) 0 (.slice j.x.A j.x.n j.x.c)).awP (b := r + 1) (by omega) 1 (.slice j.y.A j.y.n j.y.c)).awP (b := r + 1) (by omega) 2 (.slice j.z.A j.z.n j.z.c))
      replace htn := (((htn.off (r + 1) 0 (by omega) (.slice j.x.A j.x.n j.x.c)).off (r + 1) 1 (by omega) (.slice j.y.A j.y.n j.y.c)).off (r + 1) 2 (by omega) (.slice j.z.A j.z.n j.z.c))
      replace hjn := (((hjn.awayP (g := r + 1) (by omega) 0 (.slice j.x.A j.x.n j.x.c)).awayP (g := r + 1) (by omega) 1 (.slice j.y.A j.y.n j.y.c)).awayP (g := r + 1) (by omega) 2 (.slice j.z.A j.z.n j.z.c))
      replace hXn := (((hXn.off (r + 1) 0 hbl2 (.slice j.x.A j.x.n j.x.c)).off (r + 1) 1 hbl2 (.slice j.y.A j.y.n j.y.c)).off (r + 1) 2 hbl2 (.slice j.z.A j.z.n j.z.c))
      clear i0 i1 i2 y0 y1 y2 hJn hQn
      refine wpAnyT_done (by kernel_rfl) ?_ _
      obtain ⟨m0, m1, m2, m3, m4, m5, m6, m7, m8⟩ := hRn.c9
      obtain ⟨d0, d1, d2⟩ := hQz.c3
      clear hBn hRn hQz
      go_wp2_with fail
      refine bodyPost_ret (v := .tuple #[.agg #[.int .i64 x.a, .int .i64 x.b, .int .i64 x.c, .slice x.p.x.A x.p.x.n x.p.x.c, .int .i64 x.d, .slice x.p.y.A x.p.y.n x.p.y.c, .slice x.p.z.A x.p.z.n x.p.z.c, .int .i64 x.e, .int .i64 x.f], .slice t.A t.n t.c, .slice q.A q.n q.c, .agg #[.slice j.x.A j.x.n j.x.c, .slice j.y.A j.y.n j.y.c, .slice j.z.A j.z.n j.z.c]]) (by simp [results, Tryz.results5, go_sem, m0, m1, m2, m3, m4, m5, m6, m7, m8, d0, d1, d2]) rfl ⟨x, y, t, ts, q, us, j, l, rfl, hpn.mono (by omega), htn.mono (by omega), hjn.mono (by omega), hXn⟩
    · have hnb : (n == 0) = false := by rw [beq_eq_false_iff_ne]; exact hn0
      clear hn0
      have n3 : w.heap.size < w2.heap.size := by omega
      have n4 : w2.heap.size < w3.heap.size := by omega
      go_upto_region 6 with fail
      generalize hb3 : w3.heap.size = c at hJ n4 ⊢
      generalize hb2 : w2.heap.size = b at hB n3 n4 ⊢
      generalize hbR : w.heap.size = r at hR hQ hz1 hg n3 ⊢
      replace hbR := hide hbR
      clear hb2 hb3
      refine wp_region_sink (S := (fun w' => (w'.cell? ⟨b, 0, none⟩ = some (.int .i64 x.a) ∧ w'.cell? ⟨b, 1, none⟩ = some (.int .i64 x.b) ∧ w'.cell? ⟨b, 2, none⟩ = some (.int .i64 x.c) ∧ w'.cell? ⟨b, 3, none⟩ = some (.slice x.p.x.A x.p.x.n x.p.x.c) ∧ w'.cell? ⟨b, 4, none⟩ = some (.int .i64 x.d) ∧ w'.cell? ⟨b, 5, none⟩ = some (.slice x.p.y.A x.p.y.n x.p.y.c) ∧ w'.cell? ⟨b, 6, none⟩ = some (.slice x.p.z.A x.p.z.n x.p.z.c) ∧ w'.cell? ⟨b, 7, none⟩ = some (.int .i64 x.e) ∧ w'.cell? ⟨b, 8, none⟩ = some (.int .i64 x.f)) ∧ (w'.cell? ⟨c, 0, none⟩ = some (.slice j.x.A j.x.n j.x.c) ∧ w'.cell? ⟨c, 1, none⟩ = some (.slice j.y.A j.y.n j.y.c) ∧ w'.cell? ⟨c, 2, none⟩ = some (.slice j.z.A j.z.n j.z.c)))) 7 (by kernel_rfl) ?_
      change wpAnyT _ _ _ _ _ _ _ _ _ (World.drew _)
      replace hp := hp.drew
      replace ht := ht.drew
      replace hj := hj.drew
      replace hR := hR.drew
      replace hQ := hQ.drew
      replace hB := hB.drew
      replace hJ := hJ.drew
      replace hX := hX.drew
      generalize hwd : World.drew _ = wd at hp ht hj hR hQ hB hJ hX ⊢
      clear hwd
      have kk := And.intro hB.c9 hJ.c3
      refine wpAnyT_takeL (i := 0) 8 (v := ?_) rfl (by kernel_rfl) (by kernel_rfl) (by kernel_rfl) (by kernel_rfl) (by kernel_rfl) (fun _ _ _ h => h) (Or.inl ⟨by rfl, ?_⟩) kk ?_
      rotate_left 1
      · (intro W hSw; (try dsimp only at hSw); go_simp) <;> with_reducible rfl
      try simp only [Act.put, List.setIfInBounds_toArray, List.set_cons_zero, List.set_cons_succ]
      refine wpAnyT_takeL (i := 1) 8 (v := ?_) rfl (by kernel_rfl) (by kernel_rfl) (by kernel_rfl) (by kernel_rfl) (by kernel_rfl) (fun _ _ _ h => h) (Or.inl ⟨by rfl, ?_⟩) kk ?_
      rotate_left 1
      · (intro W hSw; (try dsimp only at hSw); go_simp) <;> with_reducible rfl
      try simp only [Act.put, List.setIfInBounds_toArray, List.set_cons_zero, List.set_cons_succ]
      refine wpAnyT_takeL (i := 2) 8 (v := ?_) rfl (by kernel_rfl) (by kernel_rfl) (by kernel_rfl) (by kernel_rfl) (by kernel_rfl) (fun _ _ _ h => h) (Or.inl ⟨by rfl, ?_⟩) kk ?_
      rotate_left 1
      · (intro W hSw; (try dsimp only at hSw); go_simp) <;> with_reducible rfl
      try simp only [Act.put, List.setIfInBounds_toArray, List.set_cons_zero, List.set_cons_succ]
      refine wpAnyT_takeL (i := 3) 8 (v := ?_) rfl (by kernel_rfl) (by kernel_rfl) (by kernel_rfl) (by kernel_rfl) (by kernel_rfl) (fun _ _ _ h => h) (Or.inl ⟨by rfl, ?_⟩) kk ?_
      rotate_left 1
      · (intro W hSw; (try dsimp only at hSw); go_simp) <;> with_reducible rfl
      try simp only [Act.put, List.setIfInBounds_toArray, List.set_cons_zero, List.set_cons_succ]
      clear kk
      obtain ⟨r0, r1, r2, r3, r4, r5, r6, r7, r8⟩ := hR.c9
      have z0 := hR.frozen 0
      have z1 := hR.frozen 1
      have z2 := hR.frozen 2
      have z3 := hR.frozen 3
      have z4 := hR.frozen 4
      have z5 := hR.frozen 5
      have z6 := hR.frozen 6
      have z7 := hR.frozen 7
      have z8 := hR.frozen 8
      refine wpAnyT_go (i := 4) rfl (by kernel_rfl) fun K hK => ?_
      go_simp
      have hbl : w.heap.size ≤ r := Nat.le_of_eq hbR.out
      have hBn := (((((((((hB.off r 0 (by omega) (.int .i64 x.a)).off r 1 (by omega) (.int .i64 x.b)).off r 2 (by omega) (.int .i64 x.c)).off r 3 (by omega) (.slice x.p.x.A x.p.x.n x.p.x.c)).off r 4 (by omega) (.int .i64 x.d)).off r 5 (by omega) (.slice x.p.y.A x.p.y.n x.p.y.c)).off r 6 (by omega) (.slice x.p.z.A x.p.z.n x.p.z.c)).off r 7 (by omega) (.int .i64 x.e)).off r 8 (by omega) (.int .i64 x.f))
      have hRn := hR.set9 (.int .i64 x.a) (.int .i64 x.b) (.int .i64 x.c) (.slice x.p.x.A x.p.x.n x.p.x.c) (.int .i64 x.d) (.slice x.p.y.A x.p.y.n x.p.y.c) (.slice x.p.z.A x.p.z.n x.p.z.c) (.int .i64 x.e) (.int .i64 x.f)
      have hpn := (((((((((hp.awP (b := r) (by omega) 0 (.int .i64 x.a)).awP (b := r) (by omega) 1 (.int .i64 x.b)).awP (b := r) (by omega) 2 (.int .i64 x.c)).awP (b := r) (by omega) 3 (.slice x.p.x.A x.p.x.n x.p.x.c)).awP (b := r) (by omega) 4 (.int .i64 x.d)).awP (b := r) (by omega) 5 (.slice x.p.y.A x.p.y.n x.p.y.c)).awP (b := r) (by omega) 6 (.slice x.p.z.A x.p.z.n x.p.z.c)).awP (b := r) (by omega) 7 (.int .i64 x.e)).awP (b := r) (by omega) 8 (.int .i64 x.f))
      have htn := (((((((((ht.off r 0 (by omega) (.int .i64 x.a)).off r 1 (by omega) (.int .i64 x.b)).off r 2 (by omega) (.int .i64 x.c)).off r 3 (by omega) (.slice x.p.x.A x.p.x.n x.p.x.c)).off r 4 (by omega) (.int .i64 x.d)).off r 5 (by omega) (.slice x.p.y.A x.p.y.n x.p.y.c)).off r 6 (by omega) (.slice x.p.z.A x.p.z.n x.p.z.c)).off r 7 (by omega) (.int .i64 x.e)).off r 8 (by omega) (.int .i64 x.f))
      have hXn := (((((((((hX.off r 0 hbl (.int .i64 x.a)).off r 1 hbl (.int .i64 x.b)).off r 2 hbl (.int .i64 x.c)).off r 3 hbl (.slice x.p.x.A x.p.x.n x.p.x.c)).off r 4 hbl (.int .i64 x.d)).off r 5 hbl (.slice x.p.y.A x.p.y.n x.p.y.c)).off r 6 hbl (.slice x.p.z.A x.p.z.n x.p.z.c)).off r 7 hbl (.int .i64 x.e)).off r 8 hbl (.int .i64 x.f))
      have hJn := (((((((((hJ.off r 0 (by omega) (.int .i64 x.a)).off r 1 (by omega) (.int .i64 x.b)).off r 2 (by omega) (.int .i64 x.c)).off r 3 (by omega) (.slice x.p.x.A x.p.x.n x.p.x.c)).off r 4 (by omega) (.int .i64 x.d)).off r 5 (by omega) (.slice x.p.y.A x.p.y.n x.p.y.c)).off r 6 (by omega) (.slice x.p.z.A x.p.z.n x.p.z.c)).off r 7 (by omega) (.int .i64 x.e)).off r 8 (by omega) (.int .i64 x.f))
      have hQn := (((((((((hQ.off r 0 (by omega) (.int .i64 x.a)).off r 1 (by omega) (.int .i64 x.b)).off r 2 (by omega) (.int .i64 x.c)).off r 3 (by omega) (.slice x.p.x.A x.p.x.n x.p.x.c)).off r 4 (by omega) (.int .i64 x.d)).off r 5 (by omega) (.slice x.p.y.A x.p.y.n x.p.y.c)).off r 6 (by omega) (.slice x.p.z.A x.p.z.n x.p.z.c)).off r 7 (by omega) (.int .i64 x.e)).off r 8 (by omega) (.int .i64 x.f))
      have hjn := (((((((((hj.awayP (g := r) (by omega) 0 (.int .i64 x.a)).awayP (g := r) (by omega) 1 (.int .i64 x.b)).awayP (g := r) (by omega) 2 (.int .i64 x.c)).awayP (g := r) (by omega) 3 (.slice x.p.x.A x.p.x.n x.p.x.c)).awayP (g := r) (by omega) 4 (.int .i64 x.d)).awayP (g := r) (by omega) 5 (.slice x.p.y.A x.p.y.n x.p.y.c)).awayP (g := r) (by omega) 6 (.slice x.p.z.A x.p.z.n x.p.z.c)).awayP (g := r) (by omega) 7 (.int .i64 x.e)).awayP (g := r) (by omega) 8 (.int .i64 x.f))
      refine hK _ _ ⟨fun _ => And.intro hBn.c9 hJn.c3, ?_⟩
      clear hK K
      clear r0 r1 r2 r3 r4 r5 r6 r7 r8 z0 z1 z2 z3 z4 z5 z6 z7 z8 hR hB hp ht hX hJ hQ hj
      generalize hwe : World.setCell _ _ _ = we at hBn hRn hpn htn hXn hJn hQn hjn ⊢
      clear hwe
      refine wpAnyT_go (i := 5) rfl (by kernel_rfl) fun K hK => ?_
      go_simp
      refine hK _ _ ⟨fun _ => And.intro hBn.c9 hJn.c3, ?_⟩
      clear hK K
      refine wpAnyT_go (i := 6) rfl (by kernel_rfl) fun K hK => ?_
      go_simp
      refine hK _ _ ⟨fun _ => And.intro hBn.c9 hJn.c3, ?_⟩
      clear hK K
      obtain ⟨i0, i1, i2, y0, y1, y2⟩ := res3 hQn
      have hbl2 : w.heap.size ≤ r + 1 := by omega
      refine wpAnyT_go (i := 7) rfl (by kernel_rfl) fun K hK => ?_
      go_simp
      refine hK _ _ ⟨fun h => absurd rfl h, ?_⟩
      clear hK K
      have hQz := ((hQn.set_ 0 (.slice j.x.A j.x.n j.x.c)).set_ 1 (.slice j.y.A j.y.n j.y.c)).set_ 2 (.slice j.z.A j.z.n j.z.c)
      replace hRn := (((hRn.off (r + 1) 0 (by omega) (.slice j.x.A j.x.n j.x.c)).off (r + 1) 1 (by omega) (.slice j.y.A j.y.n j.y.c)).off (r + 1) 2 (by omega) (.slice j.z.A j.z.n j.z.c))
      replace hpn := (((hpn.awP (b := r + 1) (by omega) 0 (.slice j.x.A j.x.n j.x.c)).awP (b := r + 1) (by omega) 1 (.slice j.y.A j.y.n j.y.c)).awP (b := r + 1) (by omega) 2 (.slice j.z.A j.z.n j.z.c))
      replace htn := (((htn.off (r + 1) 0 (by omega) (.slice j.x.A j.x.n j.x.c)).off (r + 1) 1 (by omega) (.slice j.y.A j.y.n j.y.c)).off (r + 1) 2 (by omega) (.slice j.z.A j.z.n j.z.c))
      replace hjn := (((hjn.awayP (g := r + 1) (by omega) 0 (.slice j.x.A j.x.n j.x.c)).awayP (g := r + 1) (by omega) 1 (.slice j.y.A j.y.n j.y.c)).awayP (g := r + 1) (by omega) 2 (.slice j.z.A j.z.n j.z.c))
      replace hXn := (((hXn.off (r + 1) 0 hbl2 (.slice j.x.A j.x.n j.x.c)).off (r + 1) 1 hbl2 (.slice j.y.A j.y.n j.y.c)).off (r + 1) 2 hbl2 (.slice j.z.A j.z.n j.z.c))
      clear i0 i1 i2 y0 y1 y2 hJn hQn
      refine wpAnyT_done (by kernel_rfl) ?_ _
      obtain ⟨m0, m1, m2, m3, m4, m5, m6, m7, m8⟩ := hRn.c9
      obtain ⟨d0, d1, d2⟩ := hQz.c3
      clear hBn hRn hQz
      go_wp2_with fail
      refine bodyPost_ret (v := .tuple #[.agg #[.int .i64 x.a, .int .i64 x.b, .int .i64 x.c, .slice x.p.x.A x.p.x.n x.p.x.c, .int .i64 x.d, .slice x.p.y.A x.p.y.n x.p.y.c, .slice x.p.z.A x.p.z.n x.p.z.c, .int .i64 x.e, .int .i64 x.f], .slice t.A t.n t.c, .slice q.A q.n q.c, .agg #[.slice j.x.A j.x.n j.x.c, .slice j.y.A j.y.n j.y.c, .slice j.z.A j.z.n j.z.c]]) (by simp [results, Tryz.results5, go_sem, m0, m1, m2, m3, m4, m5, m6, m7, m8, d0, d1, d2]) rfl ⟨x, y, t, ts, q, us, j, l, rfl, hpn.mono (by omega), htn.mono (by omega), hjn.mono (by omega), hXn⟩
  · have hCb : (C != 0) = true := by rw [bne_iff_ne]; exact hC0
    clear hC0 hk6
    go_wp2_with fail
    refine (spec.l15Good_any g s w _ hD2).mono ?_
    rintro e w6 ⟨j6, l6, rfl, hj6, _, _, hO6⟩
    have hz6 : w3.heap.size + 1 ≤ (w3.alloc (.cells #[.slice j.x.A j.x.n j.x.c, .slice j.y.A j.y.n j.y.c, .slice j.z.A j.z.n j.z.c] 30)).heap.size := by simp
    have hz7 := hO6.size
    replace hp := hp.only hO6 (by omega)
    replace ht := ht.only hO6 (by omega)
    replace hR := hR.only hO6 (by omega)
    replace hQ := hQ.only hO6 (by omega)
    replace hB := hB.only hO6 (by omega)
    replace hJ := hJ.only hO6 (by omega)
    replace hX := Ext.only hX hO6 (by omega)
    obtain ⟨c0, c1, c2, c3, c4, c5⟩ := res3 hJ
    clear hO6 hj hD2
    go_upto_region 6 with fail
    clear c0 c1 c2 c3 c4 c5
    generalize hwg : World.setCell _ _ _ = wg
    have hJ2 : Blk wg w3.heap.size 30 #[.slice j6.x.A j6.x.n j6.x.c, .slice j6.y.A j6.y.n j6.y.c, .slice j6.z.A j6.z.n j6.z.c] := by rw [← hwg]; exact ((hJ.set_ 0 (.slice j6.x.A j6.x.n j6.x.c)).set_ 1 (.slice j6.y.A j6.y.n j6.y.c)).set_ 2 (.slice j6.z.A j6.z.n j6.z.c)
    have hp2 : OwnR wg (g + 1) x y := by rw [← hwg]; exact (((hp.awD (b := w3.heap.size) (fun k hk e => by have := hpl k hk; omega) 0 (.slice j6.x.A j6.x.n j6.x.c)).awD (b := w3.heap.size) (fun k hk e => by have := hpl k hk; omega) 1 (.slice j6.y.A j6.y.n j6.y.c)).awD (b := w3.heap.size) (fun k hk e => by have := hpl k hk; omega) 2 (.slice j6.z.A j6.z.n j6.z.c))
    have ht2 : TpO wg (g + 1) t ts q us := by rw [← hwg]; exact (((ht.aw w3.heap.size 0 (fun k hk e => by have := htl k hk; omega) (fun k hk e => by have := hql k hk; omega) (.slice j6.x.A j6.x.n j6.x.c)).aw w3.heap.size 1 (fun k hk e => by have := htl k hk; omega) (fun k hk e => by have := hql k hk; omega) (.slice j6.y.A j6.y.n j6.y.c)).aw w3.heap.size 2 (fun k hk e => by have := htl k hk; omega) (fun k hk e => by have := hql k hk; omega) (.slice j6.z.A j6.z.n j6.z.c))
    have hB2 : Blk wg w2.heap.size 26 #[.int .i64 x.a, .int .i64 x.b, .int .i64 x.c, .slice x.p.x.A x.p.x.n x.p.x.c, .int .i64 x.d, .slice x.p.y.A x.p.y.n x.p.y.c, .slice x.p.z.A x.p.z.n x.p.z.c, .int .i64 x.e, .int .i64 x.f] := by rw [← hwg]; exact (((hB.off w3.heap.size 0 (by omega) (.slice j6.x.A j6.x.n j6.x.c)).off w3.heap.size 1 (by omega) (.slice j6.y.A j6.y.n j6.y.c)).off w3.heap.size 2 (by omega) (.slice j6.z.A j6.z.n j6.z.c))
    have hR2 : Blk wg w.heap.size 26 #[.int .i64 0, .int .i64 0, .int .i64 0, .slice none 0 0, .int .i64 0, .slice none 0 0, .slice none 0 0, .int .i64 0, .int .i64 0] := by rw [← hwg]; exact (((hR.off w3.heap.size 0 (by omega) (.slice j6.x.A j6.x.n j6.x.c)).off w3.heap.size 1 (by omega) (.slice j6.y.A j6.y.n j6.y.c)).off w3.heap.size 2 (by omega) (.slice j6.z.A j6.z.n j6.z.c))
    have hQ2 : Blk wg (w.heap.size + 1) 30 #[.slice none 0 0, .slice none 0 0, .slice none 0 0] := by rw [← hwg]; exact (((hQ.off w3.heap.size 0 (by omega) (.slice j6.x.A j6.x.n j6.x.c)).off w3.heap.size 1 (by omega) (.slice j6.y.A j6.y.n j6.y.c)).off w3.heap.size 2 (by omega) (.slice j6.z.A j6.z.n j6.z.c))
    have hX2 : Ext w wg := by rw [← hwg]; exact (((hX.off w3.heap.size 0 (by omega) (.slice j6.x.A j6.x.n j6.x.c)).off w3.heap.size 1 (by omega) (.slice j6.y.A j6.y.n j6.y.c)).off w3.heap.size 2 (by omega) (.slice j6.z.A j6.z.n j6.z.c))
    have hj2 : Own3 wg (g + 1) j6 l6 := by rw [← hwg]; exact Own3.mono (((hj6.awayP (g := w3.heap.size) (by omega) 0 (.slice j6.x.A j6.x.n j6.x.c)).awayP (g := w3.heap.size) (by omega) 1 (.slice j6.y.A j6.y.n j6.y.c)).awayP (g := w3.heap.size) (by omega) 2 (.slice j6.z.A j6.z.n j6.z.c)) (by omega)
    clear hJ hp ht hB hR hQ hX
    clear hj6 hwg
    have hJ := hJ2
    have hp := hp2
    have ht := ht2
    have hB := hB2
    have hR := hR2
    have hQ := hQ2
    have hX := hX2
    have hj := hj2
    clear hJ2 hp2 ht2 hB2 hR2 hQ2 hX2 hj2
    obtain ⟨j, hjj⟩ : ∃ j, j = j6 := ⟨_, rfl⟩
    rw [← hjj] at hj hJ ⊢
    clear hjj
    obtain ⟨l, hll⟩ : ∃ l, l = l6 := ⟨_, rfl⟩
    rw [← hll] at hj
    clear hll
    have n3 : w.heap.size < w2.heap.size := by omega
    have n4 : w2.heap.size < w3.heap.size := by omega
    generalize hb3 : w3.heap.size = c at hJ n4 ⊢
    generalize hb2 : w2.heap.size = b at hB n3 n4 ⊢
    generalize hbR : w.heap.size = r at hR hQ hz1 hg n3 ⊢
    replace hbR := hide hbR
    clear hb2 hb3
    refine wp_region_sink (S := (fun w' => (w'.cell? ⟨b, 0, none⟩ = some (.int .i64 x.a) ∧ w'.cell? ⟨b, 1, none⟩ = some (.int .i64 x.b) ∧ w'.cell? ⟨b, 2, none⟩ = some (.int .i64 x.c) ∧ w'.cell? ⟨b, 3, none⟩ = some (.slice x.p.x.A x.p.x.n x.p.x.c) ∧ w'.cell? ⟨b, 4, none⟩ = some (.int .i64 x.d) ∧ w'.cell? ⟨b, 5, none⟩ = some (.slice x.p.y.A x.p.y.n x.p.y.c) ∧ w'.cell? ⟨b, 6, none⟩ = some (.slice x.p.z.A x.p.z.n x.p.z.c) ∧ w'.cell? ⟨b, 7, none⟩ = some (.int .i64 x.e) ∧ w'.cell? ⟨b, 8, none⟩ = some (.int .i64 x.f)) ∧ (w'.cell? ⟨c, 0, none⟩ = some (.slice j.x.A j.x.n j.x.c) ∧ w'.cell? ⟨c, 1, none⟩ = some (.slice j.y.A j.y.n j.y.c) ∧ w'.cell? ⟨c, 2, none⟩ = some (.slice j.z.A j.z.n j.z.c)))) 7 (by kernel_rfl) ?_
    change wpAnyT _ _ _ _ _ _ _ _ _ (World.drew _)
    replace hp := hp.drew
    replace ht := ht.drew
    replace hj := hj.drew
    replace hR := hR.drew
    replace hQ := hQ.drew
    replace hB := hB.drew
    replace hJ := hJ.drew
    replace hX := hX.drew
    generalize hwd : World.drew _ = wd at hp ht hj hR hQ hB hJ hX ⊢
    clear hwd
    have kk := And.intro hB.c9 hJ.c3
    refine wpAnyT_takeL (i := 0) 8 (v := ?_) rfl (by kernel_rfl) (by kernel_rfl) (by kernel_rfl) (by kernel_rfl) (by kernel_rfl) (fun _ _ _ h => h) (Or.inl ⟨by rfl, ?_⟩) kk ?_
    rotate_left 1
    · (intro W hSw; (try dsimp only at hSw); go_simp) <;> with_reducible rfl
    try simp only [Act.put, List.setIfInBounds_toArray, List.set_cons_zero, List.set_cons_succ]
    refine wpAnyT_takeL (i := 1) 8 (v := ?_) rfl (by kernel_rfl) (by kernel_rfl) (by kernel_rfl) (by kernel_rfl) (by kernel_rfl) (fun _ _ _ h => h) (Or.inl ⟨by rfl, ?_⟩) kk ?_
    rotate_left 1
    · (intro W hSw; (try dsimp only at hSw); go_simp) <;> with_reducible rfl
    try simp only [Act.put, List.setIfInBounds_toArray, List.set_cons_zero, List.set_cons_succ]
    refine wpAnyT_takeL (i := 2) 8 (v := ?_) rfl (by kernel_rfl) (by kernel_rfl) (by kernel_rfl) (by kernel_rfl) (by kernel_rfl) (fun _ _ _ h => h) (Or.inl ⟨by rfl, ?_⟩) kk ?_
    rotate_left 1
    · (intro W hSw; (try dsimp only at hSw); go_simp) <;> with_reducible rfl
    try simp only [Act.put, List.setIfInBounds_toArray, List.set_cons_zero, List.set_cons_succ]
    refine wpAnyT_takeL (i := 3) 8 (v := ?_) rfl (by kernel_rfl) (by kernel_rfl) (by kernel_rfl) (by kernel_rfl) (by kernel_rfl) (fun _ _ _ h => h) (Or.inl ⟨by rfl, ?_⟩) kk ?_
    rotate_left 1
    · (intro W hSw; (try dsimp only at hSw); go_simp) <;> with_reducible rfl
    try simp only [Act.put, List.setIfInBounds_toArray, List.set_cons_zero, List.set_cons_succ]
    clear kk
    obtain ⟨r0, r1, r2, r3, r4, r5, r6, r7, r8⟩ := hR.c9
    have z0 := hR.frozen 0
    have z1 := hR.frozen 1
    have z2 := hR.frozen 2
    have z3 := hR.frozen 3
    have z4 := hR.frozen 4
    have z5 := hR.frozen 5
    have z6 := hR.frozen 6
    have z7 := hR.frozen 7
    have z8 := hR.frozen 8
    refine wpAnyT_go (i := 4) rfl (by kernel_rfl) fun K hK => ?_
    go_simp
    have hbl : w.heap.size ≤ r := Nat.le_of_eq hbR.out
    have hBn := (((((((((hB.off r 0 (by omega) (.int .i64 x.a)).off r 1 (by omega) (.int .i64 x.b)).off r 2 (by omega) (.int .i64 x.c)).off r 3 (by omega) (.slice x.p.x.A x.p.x.n x.p.x.c)).off r 4 (by omega) (.int .i64 x.d)).off r 5 (by omega) (.slice x.p.y.A x.p.y.n x.p.y.c)).off r 6 (by omega) (.slice x.p.z.A x.p.z.n x.p.z.c)).off r 7 (by omega) (.int .i64 x.e)).off r 8 (by omega) (.int .i64 x.f))
    have hRn := hR.set9 (.int .i64 x.a) (.int .i64 x.b) (.int .i64 x.c) (.slice x.p.x.A x.p.x.n x.p.x.c) (.int .i64 x.d) (.slice x.p.y.A x.p.y.n x.p.y.c) (.slice x.p.z.A x.p.z.n x.p.z.c) (.int .i64 x.e) (.int .i64 x.f)
    have hpn := (((((((((hp.awP (b := r) (by omega) 0 (.int .i64 x.a)).awP (b := r) (by omega) 1 (.int .i64 x.b)).awP (b := r) (by omega) 2 (.int .i64 x.c)).awP (b := r) (by omega) 3 (.slice x.p.x.A x.p.x.n x.p.x.c)).awP (b := r) (by omega) 4 (.int .i64 x.d)).awP (b := r) (by omega) 5 (.slice x.p.y.A x.p.y.n x.p.y.c)).awP (b := r) (by omega) 6 (.slice x.p.z.A x.p.z.n x.p.z.c)).awP (b := r) (by omega) 7 (.int .i64 x.e)).awP (b := r) (by omega) 8 (.int .i64 x.f))
    have htn := (((((((((ht.off r 0 (by omega) (.int .i64 x.a)).off r 1 (by omega) (.int .i64 x.b)).off r 2 (by omega) (.int .i64 x.c)).off r 3 (by omega) (.slice x.p.x.A x.p.x.n x.p.x.c)).off r 4 (by omega) (.int .i64 x.d)).off r 5 (by omega) (.slice x.p.y.A x.p.y.n x.p.y.c)).off r 6 (by omega) (.slice x.p.z.A x.p.z.n x.p.z.c)).off r 7 (by omega) (.int .i64 x.e)).off r 8 (by omega) (.int .i64 x.f))
    have hXn := (((((((((hX.off r 0 hbl (.int .i64 x.a)).off r 1 hbl (.int .i64 x.b)).off r 2 hbl (.int .i64 x.c)).off r 3 hbl (.slice x.p.x.A x.p.x.n x.p.x.c)).off r 4 hbl (.int .i64 x.d)).off r 5 hbl (.slice x.p.y.A x.p.y.n x.p.y.c)).off r 6 hbl (.slice x.p.z.A x.p.z.n x.p.z.c)).off r 7 hbl (.int .i64 x.e)).off r 8 hbl (.int .i64 x.f))
    have hJn := (((((((((hJ.off r 0 (by omega) (.int .i64 x.a)).off r 1 (by omega) (.int .i64 x.b)).off r 2 (by omega) (.int .i64 x.c)).off r 3 (by omega) (.slice x.p.x.A x.p.x.n x.p.x.c)).off r 4 (by omega) (.int .i64 x.d)).off r 5 (by omega) (.slice x.p.y.A x.p.y.n x.p.y.c)).off r 6 (by omega) (.slice x.p.z.A x.p.z.n x.p.z.c)).off r 7 (by omega) (.int .i64 x.e)).off r 8 (by omega) (.int .i64 x.f))
    have hQn := (((((((((hQ.off r 0 (by omega) (.int .i64 x.a)).off r 1 (by omega) (.int .i64 x.b)).off r 2 (by omega) (.int .i64 x.c)).off r 3 (by omega) (.slice x.p.x.A x.p.x.n x.p.x.c)).off r 4 (by omega) (.int .i64 x.d)).off r 5 (by omega) (.slice x.p.y.A x.p.y.n x.p.y.c)).off r 6 (by omega) (.slice x.p.z.A x.p.z.n x.p.z.c)).off r 7 (by omega) (.int .i64 x.e)).off r 8 (by omega) (.int .i64 x.f))
    have hjn := (((((((((hj.awayP (g := r) (by omega) 0 (.int .i64 x.a)).awayP (g := r) (by omega) 1 (.int .i64 x.b)).awayP (g := r) (by omega) 2 (.int .i64 x.c)).awayP (g := r) (by omega) 3 (.slice x.p.x.A x.p.x.n x.p.x.c)).awayP (g := r) (by omega) 4 (.int .i64 x.d)).awayP (g := r) (by omega) 5 (.slice x.p.y.A x.p.y.n x.p.y.c)).awayP (g := r) (by omega) 6 (.slice x.p.z.A x.p.z.n x.p.z.c)).awayP (g := r) (by omega) 7 (.int .i64 x.e)).awayP (g := r) (by omega) 8 (.int .i64 x.f))
    refine hK _ _ ⟨fun _ => And.intro hBn.c9 hJn.c3, ?_⟩
    clear hK K
    clear r0 r1 r2 r3 r4 r5 r6 r7 r8 z0 z1 z2 z3 z4 z5 z6 z7 z8 hR hB hp ht hX hJ hQ hj
    generalize hwe : World.setCell _ _ _ = we at hBn hRn hpn htn hXn hJn hQn hjn ⊢
    clear hwe
    refine wpAnyT_go (i := 5) rfl (by kernel_rfl) fun K hK => ?_
    go_simp
    refine hK _ _ ⟨fun _ => And.intro hBn.c9 hJn.c3, ?_⟩
    clear hK K
    refine wpAnyT_go (i := 6) rfl (by kernel_rfl) fun K hK => ?_
    go_simp
    refine hK _ _ ⟨fun _ => And.intro hBn.c9 hJn.c3, ?_⟩
    clear hK K
    obtain ⟨i0, i1, i2, y0, y1, y2⟩ := res3 hQn
    have hbl2 : w.heap.size ≤ r + 1 := by omega
    refine wpAnyT_go (i := 7) rfl (by kernel_rfl) fun K hK => ?_
    go_simp
    refine hK _ _ ⟨fun h => absurd rfl h, ?_⟩
    clear hK K
    have hQz := ((hQn.set_ 0 (.slice j.x.A j.x.n j.x.c)).set_ 1 (.slice j.y.A j.y.n j.y.c)).set_ 2 (.slice j.z.A j.z.n j.z.c)
    replace hRn := (((hRn.off (r + 1) 0 (by omega) (.slice j.x.A j.x.n j.x.c)).off (r + 1) 1 (by omega) (.slice j.y.A j.y.n j.y.c)).off (r + 1) 2 (by omega) (.slice j.z.A j.z.n j.z.c))
    replace hpn := (((hpn.awP (b := r + 1) (by omega) 0 (.slice j.x.A j.x.n j.x.c)).awP (b := r + 1) (by omega) 1 (.slice j.y.A j.y.n j.y.c)).awP (b := r + 1) (by omega) 2 (.slice j.z.A j.z.n j.z.c))
    replace htn := (((htn.off (r + 1) 0 (by omega) (.slice j.x.A j.x.n j.x.c)).off (r + 1) 1 (by omega) (.slice j.y.A j.y.n j.y.c)).off (r + 1) 2 (by omega) (.slice j.z.A j.z.n j.z.c))
    replace hjn := (((hjn.awayP (g := r + 1) (by omega) 0 (.slice j.x.A j.x.n j.x.c)).awayP (g := r + 1) (by omega) 1 (.slice j.y.A j.y.n j.y.c)).awayP (g := r + 1) (by omega) 2 (.slice j.z.A j.z.n j.z.c))
    replace hXn := (((hXn.off (r + 1) 0 hbl2 (.slice j.x.A j.x.n j.x.c)).off (r + 1) 1 hbl2 (.slice j.y.A j.y.n j.y.c)).off (r + 1) 2 hbl2 (.slice j.z.A j.z.n j.z.c))
    clear i0 i1 i2 y0 y1 y2 hJn hQn
    refine wpAnyT_done (by kernel_rfl) ?_ _
    obtain ⟨m0, m1, m2, m3, m4, m5, m6, m7, m8⟩ := hRn.c9
    obtain ⟨d0, d1, d2⟩ := hQz.c3
    clear hBn hRn hQz
    go_wp2_with fail
    refine bodyPost_ret (v := .tuple #[.agg #[.int .i64 x.a, .int .i64 x.b, .int .i64 x.c, .slice x.p.x.A x.p.x.n x.p.x.c, .int .i64 x.d, .slice x.p.y.A x.p.y.n x.p.y.c, .slice x.p.z.A x.p.z.n x.p.z.c, .int .i64 x.e, .int .i64 x.f], .slice t.A t.n t.c, .slice q.A q.n q.c, .agg #[.slice j.x.A j.x.n j.x.c, .slice j.y.A j.y.n j.y.c, .slice j.z.A j.z.n j.z.c]]) (by simp [results, Tryz.results5, go_sem, m0, m1, m2, m3, m4, m5, m6, m7, m8, d0, d1, d2]) rfl ⟨x, y, t, ts, q, us, j, l, rfl, hpn.mono (by omega), htn.mono (by omega), hjn.mono (by omega), hXn⟩
end Go.Proofs.YtofglgfjlbehmaaGreat.mem
