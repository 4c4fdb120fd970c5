/-
  Draws of ties, parties and a number; of ties and parties.
-/
import Derived.Test.YtmcnnbjgehmmoaaDrV
import Derived.Test.YtmcnnbjgehmmoaaReg
namespace Go.Proofs.Ytmcnnbjgehmmoaa.mem
open Go.ChangeShapes Go.WideShapes Go.ChangeAt Go.RowKit
set_option linter.unusedVariables false
theorem OwS.mono_low {w : World} {lo lo' : Nat} {v : Value} {xs : List ByteArray} (h : OwS w lo v xs) (hl : lo' ≤ lo) : OwS w lo' v xs := h.mono hl
/-- ties and parties as drawn: each read -/
def TpR (w : World) (t : Sl) (ts : List Ti) (q : Sl) (us : List ByteArray) : Prop := RdT w t.A t.n ts ∧ cap1 t ∧ RdW w q.A q.n us ∧ cap1 q
theorem TpR.ext {w w' : World} {t : Sl} {ts : List Ti} {q : Sl} {us : List ByteArray} (h : TpR w t ts q us) (hx : Ext w w') : TpR w' t ts q us := ⟨h.1.ext hx, h.2.1, h.2.2.1.ext hx, h.2.2.2⟩
theorem TpR.alloc {w : World} {t : Sl} {ts : List Ti} {q : Sl} {us : List ByteArray} (h : TpR w t ts q us) (o : Obj) : TpR (w.alloc o) t ts q us := h.ext ((Ext.refl w).alloc o)
theorem TpR.of {w : World} {lo lo' : Nat} {t : Sl} {ts : List Ti} {q : Sl} {us : List ByteArray} (h1 : OwX w lo (.slice t.A t.n t.c) ts) (h2 : ∀ t ∈ ts, t.s.size ≤ 100) (h3 : OwS w lo' (.slice q.A q.n q.c) us) (h4 : ∀ y ∈ us, y.size ≤ 100) : TpR w t ts q us :=
  ⟨h1.rd (sz100 h2), h1.cap, h3.rd (fun y hy => by have := h4 y hy; unfold maxLen; omega), h3.cap⟩
set_option maxRecDepth 20000 in
set_option maxHeartbeats 4000000 in
theorem spec.DrawCausesOf_any (s : Sl) (w : World) (hc : Code w s) :
    Calls Try.prog 8 #[.slice s.A s.n s.c] w fun e w' => ∃ (t : Sl) (ts : List Ti) (q : Sl) (us : List ByteArray) (x : Int), e = .returned (.tuple #[.slice t.A t.n t.c, .slice q.A q.n q.c, .int .i64 x]) ∧ TpR w' t ts q us ∧ Ext w w' := by
  go_enter Try.func8, Try.ntmps8
  go_wp2_with fail
  refine (spec.l01From_any s w _ (Ext.refl w) hc).mono ?_
  rintro e w1 ⟨g, rfl, hg, hD1, hx1⟩
  have hgl := hD1.lt
  go_wp2_with fail
  refine (spec.l13Ties_any g s w _ hD1).mono ?_
  rintro e w2 ⟨t, ts, rfl, ho2, hl2, hs2, hD2, hO2⟩
  go_wp2_with fail
  refine (spec.l13Parties_any g s w _ hD2).mono ?_
  rintro e w3 ⟨q, us, rfl, hp3, hl3, hs3, hD3, hO3⟩
  have hz2 := hO2.size
  replace ho2 := ho2.only hO3 hgl
  replace hO3 := Fr.trans hO2 hO3
  have hx3 : Ext w w3 := Ext.only hx1 hO3 hg
  have hk3 := fun W h => spec.l01Next_any g s 3 w W h (by omega)
  have hk12 := fun W h => spec.l01Next_any g s 12 w W h (by omega)
  replace hs2 := hide hs2
  replace hs3 := hide hs3
  have htn : t.n = ts.length := (ho2.rd (sz100 hs2.out)).1
  have hkn := fun W h => spec.l01Next_any g s (t.n : Int) w W h (by omega)
  replace htn := hide htn
  clear hD2 hO2 hx1
  by_cases hn : 0 < t.n
  · have hnI : (0 : Int) < (t.n : Int) := by omega
    go_wp2_with fail
    refine (hk3 _ hD3).mono ?_
    rintro e w4 ⟨y, rfl, ⟨y0, y1⟩, hD4, hO4⟩
    replace ho2 := ho2.only hO4 hgl
    replace hp3 := hp3.only hO4 (by omega)
    replace hx3 := Ext.only hx3 hO4 hg
    replace hD3 := hD4
    have hz3 := hO4.size
    clear hk3 hD4 hO4
    by_cases hy : 0 < y
    · go_upto_region 5 with fail
      obtain ⟨A, n, c⟩ := t
      simp only at hn hnI htn hkn
      refine wp_region_sink (S := fun _ => True) 12 (by kernel_rfl) ?_
      change wpAnyT _ _ _ _ _ _ _ _ _ (World.drew _)
      have hoD := ho2.ext (Ext.refl _).drew
      have hpD := hp3.ext (Ext.refl _).drew
      have hxD := hx3.drew
      have hDD := hD3.drew
      clear ho2 hp3 hx3 hD3
      generalize hw : World.drew _ = wd at hoD hpD hxD hDD ⊢
      clear hw
      refine wpAnyT_takeL (i := 0) 8 (v := ?_) rfl (by kernel_rfl) (by kernel_rfl) (by kernel_rfl) (by kernel_rfl) (by kernel_rfl) (fun _ _ _ h => h) (Or.inl ⟨by rfl, ?_⟩) trivial ?_
      rotate_left 1
      · (intro W hSw; (try dsimp only at hSw); go_simp) <;> with_reducible rfl
      try simp only [Act.put, List.setIfInBounds_toArray, List.set_cons_zero, List.set_cons_succ]
      refine wpAnyT_takeL (i := 1) 8 (v := ?_) rfl (by kernel_rfl) (by kernel_rfl) (by kernel_rfl) (by kernel_rfl) (by kernel_rfl) (fun _ _ _ h => h) (Or.inl ⟨by rfl, ?_⟩) trivial ?_
      rotate_left 1
      · (intro W hSw; (try dsimp only at hSw); go_simp) <;> with_reducible rfl
      try simp only [Act.put, List.setIfInBounds_toArray, List.set_cons_zero, List.set_cons_succ]
      refine wpAnyT_takeL (i := 2) 8 (v := ?_) rfl (by kernel_rfl) (by kernel_rfl) (by kernel_rfl) (by kernel_rfl) (by kernel_rfl) (fun _ _ _ h => h) (Or.inl ⟨by rfl, ?_⟩) trivial ?_
      rotate_left 1
      · (intro W hSw; (try dsimp only at hSw); go_simp) <;> with_reducible rfl
      try simp only [Act.put, List.setIfInBounds_toArray, List.set_cons_zero, List.set_cons_succ]
      refine wpAnyT_takeL (i := 3) 8 (v := ?_) rfl (by kernel_rfl) (by kernel_rfl) (by kernel_rfl) (by kernel_rfl) (by kernel_rfl) (fun _ _ _ h => h) (Or.inl ⟨by rfl, ?_⟩) trivial ?_
      rotate_left 1
      · (intro W hSw; (try dsimp only at hSw); go_simp) <;> with_reducible rfl
      try simp only [Act.put, List.setIfInBounds_toArray, List.set_cons_zero, List.set_cons_succ]
      refine wpAnyT_takeL (i := 4) 8 (v := ?_) rfl (by kernel_rfl) (by kernel_rfl) (by kernel_rfl) (by kernel_rfl) (by kernel_rfl) (fun _ _ _ h => h) (Or.inl ⟨by rfl, ?_⟩) trivial ?_
      rotate_left 1
      · (intro W hSw; (try dsimp only at hSw); go_simp) <;> with_reducible rfl
      try simp only [Act.put, List.setIfInBounds_toArray, List.set_cons_zero, List.set_cons_succ]
      refine wpAnyT_takeL (i := 5) 8 (v := ?_) rfl (by kernel_rfl) (by kernel_rfl) (by kernel_rfl) (by kernel_rfl) (by kernel_rfl) (fun _ _ _ h => h) (Or.inl ⟨by rfl, ?_⟩) trivial ?_
      rotate_left 1
      · (intro W hSw; (try dsimp only at hSw); go_simp) <;> with_reducible rfl
      try simp only [Act.put, List.setIfInBounds_toArray, List.set_cons_zero, List.set_cons_succ]
      refine wpAnyT_go (i := 6) rfl (by kernel_rfl) fun K hK => ?_
      go_simp
      go_at_call 48
      refine (hkn _ hDD).mono ?_
      rintro e w5 ⟨z, rfl, ⟨z0, z1⟩, hD5, hO5⟩
      have ho2 := hoD.only hO5 hgl
      have hp3 := hpD.only hO5 (by omega)
      have hx3 := Ext.only hxD hO5 hg
      obtain ⟨k, rfl⟩ := Int.eq_ofNat_of_zero_le z0
      have hkl : k < n := by omega
      obtain ⟨b, off, tt, rfl, hb, ⟨c0, c1, c2, c3⟩, _, _⟩ := (ho2.rd (sz100 hs2.out)).el hkl
      have hkI : (k : Int) < (n : Int) := by omega
      have hk0 : (0 : Int) ≤ (k : Int) := by omega
      go_simp
      refine hK _ _ ⟨fun _ => trivial, ?_⟩
      clear hK K
      refine wpAnyT_takeL (i := 7) 8 (v := ?_) rfl (by kernel_rfl) (by kernel_rfl) (by kernel_rfl) (by kernel_rfl) (by kernel_rfl) (fun _ _ _ h => h) (Or.inl ⟨by rfl, ?_⟩) trivial ?_
      rotate_left 1
      · (intro W hSw; (try dsimp only at hSw); go_simp) <;> with_reducible rfl
      try simp only [Act.put, List.setIfInBounds_toArray, List.set_cons_zero, List.set_cons_succ]
      refine wpAnyT_takeL (i := 8) 8 (v := ?_) rfl (by kernel_rfl) (by kernel_rfl) (by kernel_rfl) (by kernel_rfl) (by kernel_rfl) (fun _ _ _ h => h) (Or.inl ⟨by rfl, ?_⟩) trivial ?_
      rotate_left 1
      · (intro W hSw; (try dsimp only at hSw); go_simp) <;> with_reducible rfl
      try simp only [Act.put, List.setIfInBounds_toArray, List.set_cons_zero, List.set_cons_succ]
      refine wpAnyT_takeL (i := 10) 8 (v := ?_) rfl (by kernel_rfl) (by kernel_rfl) (by kernel_rfl) (by kernel_rfl) (by kernel_rfl) (fun _ _ _ h => h) (Or.inl ⟨by rfl, ?_⟩) trivial ?_
      rotate_left 1
      · (intro W hSw; (try dsimp only at hSw); go_simp) <;> with_reducible rfl
      try simp only [Act.put, List.setIfInBounds_toArray, List.set_cons_zero, List.set_cons_succ]
      refine wpAnyT_takeL (i := 11) 8 (v := ?_) rfl (by kernel_rfl) (by kernel_rfl) (by kernel_rfl) (by kernel_rfl) (by kernel_rfl) (fun _ _ _ h => h) (Or.inl ⟨by rfl, ?_⟩) trivial ?_
      rotate_left 1
      · (intro W hSw; (try dsimp only at hSw); go_simp) <;> with_reducible rfl
      try simp only [Act.put, List.setIfInBounds_toArray, List.set_cons_zero, List.set_cons_succ]
      refine wpAnyT_go (i := 9) rfl (by kernel_rfl) fun K hK => ?_
      go_simp
      refine hK _ _ ⟨fun _ => trivial, ?_⟩
      clear hK K
      refine wpAnyT_go (i := 12) rfl (by kernel_rfl) fun K hK => ?_
      go_simp
      refine hK _ _ ⟨fun h => absurd rfl h, ?_⟩
      clear hK K
      refine wpAnyT_done (by kernel_rfl) ?_ _
      go_wp2_with fail
      refine bodyPost_ret (v := .tuple #[.slice (some ⟨b, off, none⟩) n c, .slice q.A q.n q.c, .int .i64 tt.n]) (by simp [results, Try.results8, go_sem]) rfl ?_
      exact ⟨⟨some ⟨b, off, none⟩, n, c⟩, ts, q, ⟨tt.n, rfl⟩, ⟨us, TpR.of (t := ⟨some ⟨b, off, none⟩, n, c⟩) ho2 hs2.out hp3 hs3.out⟩, hx3⟩
    · have hy' : ¬ (0 : Int) < y := hy
      go_wp2_with fail
      refine (hk12 _ hD3).mono ?_
      rintro e w5 ⟨z, rfl, ⟨z0, z1⟩, hD5, hO5⟩
      replace ho2 := ho2.only hO5 hgl
      replace hp3 := hp3.only hO5 (by omega)
      replace hx3 := Ext.only hx3 hO5 hg
      have hg5 := hD5.lt
      have hwz : IntKind.i64.wrap (1 + z) = 1 + z := Go.IntWalk.i64_in _ (by omega)
      have hB := Blk.new w5 2 #[.int .i64 (1 + z), .int .i64 0, .int .i64 1000001]
      have hp9 := spec.l01Pick_any g w5.heap.size s [1 + z, 0, 1000001] w (w5.alloc (.cells #[.int .i64 (1 + z), .int .i64 0, .int .i64 1000001] 2)) (hD5.alloc _) hB (by omega) (by simp) (by simp)
      replace ho2 := ho2.alloc (.cells #[.int .i64 (1 + z), .int .i64 0, .int .i64 1000001] 2)
      replace hp3 := hp3.alloc (.cells #[.int .i64 (1 + z), .int .i64 0, .int .i64 1000001] 2)
      replace hx3 := hx3.alloc (.cells #[.int .i64 (1 + z), .int .i64 0, .int .i64 1000001] 2)
      clear hD3 hB
      go_wp2_with fail
      refine hp9.mono ?_
      rintro e w6 ⟨v, rfl, hm, hD6, hO6⟩
      replace ho2 := ho2.only hO6 hgl
      replace hp3 := hp3.only hO6 (by omega)
      replace hx3 := Ext.only hx3 hO6 hg
      go_wp2_with fail
      exact bodyPost_ret (v := .tuple #[.slice t.A t.n t.c, .slice q.A q.n q.c, .int .i64 v]) (by simp [results, Try.results8, go_sem]) rfl ⟨t, ts, q, us, v, rfl, TpR.of ho2 hs2.out hp3 hs3.out, hx3⟩
  · have hnI : ¬ (0 : Int) < (t.n : Int) := by omega
    go_wp2_with fail
    refine (hk12 _ hD3).mono ?_
    rintro e w5 ⟨z, rfl, ⟨z0, z1⟩, hD5, hO5⟩
    replace ho2 := ho2.only hO5 hgl
    replace hp3 := hp3.only hO5 (by omega)
    replace hx3 := Ext.only hx3 hO5 hg
    have hg5 := hD5.lt
    have hwz : IntKind.i64.wrap (1 + z) = 1 + z := Go.IntWalk.i64_in _ (by omega)
    have hB := Blk.new w5 2 #[.int .i64 (1 + z), .int .i64 0, .int .i64 1000001]
    have hp9 := spec.l01Pick_any g w5.heap.size s [1 + z, 0, 1000001] w (w5.alloc (.cells #[.int .i64 (1 + z), .int .i64 0, .int .i64 1000001] 2)) (hD5.alloc _) hB (by omega) (by simp) (by simp)
    replace ho2 := ho2.alloc (.cells #[.int .i64 (1 + z), .int .i64 0, .int .i64 1000001] 2)
    replace hp3 := hp3.alloc (.cells #[.int .i64 (1 + z), .int .i64 0, .int .i64 1000001] 2)
    replace hx3 := hx3.alloc (.cells #[.int .i64 (1 + z), .int .i64 0, .int .i64 1000001] 2)
    clear hD3 hB
    go_wp2_with fail
    refine hp9.mono ?_
    rintro e w6 ⟨v, rfl, hm, hD6, hO6⟩
    replace ho2 := ho2.only hO6 hgl
    replace hp3 := hp3.only hO6 (by omega)
    replace hx3 := Ext.only hx3 hO6 hg
    go_wp2_with fail
    exact bodyPost_ret (v := .tuple #[.slice t.A t.n t.c, .slice q.A q.n q.c, .int .i64 v]) (by simp [results, Try.results8, go_sem]) rfl ⟨t, ts, q, us, v, rfl, TpR.of ho2 hs2.out hp3 hs3.out, hx3⟩
theorem spec.DrawBiasedOf_any (s : Sl) (w : World) (hc : Code w s) :
    Calls Try.prog 37 #[.slice s.A s.n s.c] w fun e w' => ∃ (t : Sl) (ts : List Ti) (q : Sl) (us : List ByteArray), e = .returned (.tuple #[.slice t.A t.n t.c, .slice q.A q.n q.c]) ∧ TpR w' t ts q us ∧ Ext w w' := by
  go_enter Try.func37, Try.ntmps37
  go_wp2_with fail
  refine (spec.l01From_any s w _ (Ext.refl w) hc).mono ?_
  rintro e w1 ⟨g, rfl, hg, hD1, hx1⟩
  have hgl := hD1.lt
  go_wp2_with fail
  refine (spec.l13Ties_any g s w _ hD1).mono ?_
  rintro e w2 ⟨t, ts, rfl, ho2, hl2, hs2, hD2, hO2⟩
  go_wp2_with fail
  refine (spec.l13Parties_any g s w _ hD2).mono ?_
  rintro e w3 ⟨q, us, rfl, hp3, hl3, hs3, hD3, hO3⟩
  replace ho2 := ho2.only hO3 hgl
  replace hO3 := Fr.trans hO2 hO3
  have hx3 : Ext w w3 := Ext.only hx1 hO3 hg
  go_wp2_with fail
  go_ret2
  exact ⟨t, ts, q, us, rfl, TpR.of ho2 hs2 hp3 hs3, hx3⟩
end Go.Proofs.Ytmcnnbjgehmmoaa.mem
