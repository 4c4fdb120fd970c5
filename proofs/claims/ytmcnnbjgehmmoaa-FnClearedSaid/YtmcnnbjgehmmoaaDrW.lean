/-
  A panel is drawn, or something like a panel, in the reference.
-/
import Derived.Test.YtmcnnbjgehmmoaaDrP
import Derived.Deep.RegionHeld3
namespace Go.Proofs.Ytmcnnbjgehmmoaa.mem
open Go.ChangeShapes Go.WideShapes Go.ChangeAt Go.RowKit

section
variable {w : World} {lo lo' : Nat} {p : S3} {l : L3} {t : Sl} {xs : List Int}
theorem Own3.setz (h : Own3 w lo p l) (ht : Own w lo' (.slice t.A t.n t.c) xs) (hl : lo ≤ lo') (hb : ∀ k, blks p k → k < lo') (h1 : p.x.n + (p.y.n + p.z.n) ≤ 100000) (h2 : xs.length ≤ 100000) : Own3 w lo ⟨p.x, p.y, t⟩ ⟨l.x, l.y, xs⟩ :=
  ⟨h.1, h.2.1, ht.mono hl, by have := ht.rd.1; simp only; omega, h.2.2.2.2.1, fun k a b => by have a1 := hb k (.inl a); have a2 := (ht.lt k b).1; omega, fun k a b => by have a1 := hb k (.inr (.inl a)); have a2 := (ht.lt k b).1; omega⟩
theorem Own3.sety (h : Own3 w lo p l) (ht : Own w lo' (.slice t.A t.n t.c) xs) (hl : lo ≤ lo') (hb : ∀ k, blks p k → k < lo') (h1 : p.x.n + (p.y.n + p.z.n) ≤ 100000) (h2 : xs.length ≤ 100000) : Own3 w lo ⟨p.x, t, p.z⟩ ⟨l.x, xs, l.z⟩ :=
  ⟨h.1, ht.mono hl, h.2.2.1, by have := ht.rd.1; simp only; omega, fun k a b => by have a1 := hb k (.inl a); have a2 := (ht.lt k b).1; omega, h.2.2.2.2.2.1, fun k a b => by have a1 := hb k (.inr (.inr b)); have a2 := (ht.lt k a).1; omega⟩
theorem Own3.setx (h : Own3 w lo p l) (ht : Own w lo' (.slice t.A t.n t.c) xs) (hl : lo ≤ lo') (hb : ∀ k, blks p k → k < lo') (h1 : p.x.n + (p.y.n + p.z.n) ≤ 100000) (h2 : xs.length ≤ 100000) : Own3 w lo ⟨t, p.y, p.z⟩ ⟨xs, l.y, l.z⟩ :=
  ⟨ht.mono hl, h.2.1, h.2.2.1, by have := ht.rd.1; simp only; omega, fun k a b => by have a1 := hb k (.inr (.inl b)); have a2 := (ht.lt k a).1; omega, fun k a b => by have a1 := hb k (.inr (.inr b)); have a2 := (ht.lt k a).1; omega, h.2.2.2.2.2.2⟩
end
theorem rd_blk {w : World} {b : Nat} {xs : List Int} (h : Blk w b 2 (xs.map (Value.int .i64)).toArray) (hl : xs.length ≤ 16777216) : Rd w (some ⟨b, 0, none⟩) xs.length xs :=
  ⟨rfl, hl, fun hn => ⟨b, 0, rfl, h.lt, fun j hj => by
    rw [Nat.zero_add]
    refine h.get j _ ?_
    simp [List.getElem?_eq_getElem hj]⟩⟩
def DdP (w0 w : World) (g : Nat) (s : Sl) (e : Ending) (w' : World) : Prop :=
  ∃ (p : S3) (l : L3), e = .returned (.agg #[.slice p.x.A p.x.n p.x.c, .slice p.y.A p.y.n p.y.c, .slice p.z.A p.z.n p.z.c]) ∧ Own3 w' w.heap.size p l ∧ (l.x.length ≤ 12 ∧ l.y.length + l.z.length ≤ 70) ∧ Dr w0 w' g s ∧ Only g w w'
set_option maxRecDepth 20000 in
set_option maxHeartbeats 4000000 in
theorem spec.l12Draw_any (g : Nat) (s : Sl) (w0 w : World) (h : Dr w0 w g s) :
    Calls Try.prog 66 #[.pointer (some ⟨g, 0, none⟩)] w fun e w' => DdP w0 w g s e w' := by
  have hk30 := fun W h => spec.l01Next_any g s 30 w0 W h (by omega)
  have hg := h.lt
  have hR := Blk.new w 50 #[.slice none 0 0, .slice none 0 0, .slice none 0 0]
  have hO0 : Only g w (w.alloc (.cells #[.slice none 0 0, .slice none 0 0, .slice none 0 0] 50)) := ((Ext.refl w).alloc _).onl
  go_enter Try.func66, Try.ntmps66
  go_wp2_with fail
  refine (spec.l12Good_any g s w0 _ (h.alloc _)).mono ?_
  rintro e w1 ⟨p, l, rfl, hp, hok, hD1, hO1⟩
  rw [World.size_alloc] at hp
  replace hR := hR.only hO1 (by omega)
  have hz1 := hR.lt
  replace hO0 := Fr.trans hO0 hO1
  have hbl : ∀ k, blks p k → k < w1.heap.size := fun k hk => (hp.lt hk).2
  have hB := Blk.new w1 50 #[.slice p.x.A p.x.n p.x.c, .slice p.y.A p.y.n p.y.c, .slice p.z.A p.z.n p.z.c]
  go_wp2_with fail
  refine (hk30 _ (hD1.alloc _)).mono ?_
  rintro e w2 ⟨x, rfl, ⟨x0, x1⟩, hD, hO2⟩
  replace hp := (hp.alloc (.cells #[.slice p.x.A p.x.n p.x.c, .slice p.y.A p.y.n p.y.c, .slice p.z.A p.z.n p.z.c] 50)).only hO2 (by omega)
  replace hR := (hR.alloc (.cells #[.slice p.x.A p.x.n p.x.c, .slice p.y.A p.y.n p.y.c, .slice p.z.A p.z.n p.z.c] 50)).only hO2 (by omega)
  replace hB := hB.only hO2 (by omega)
  have hO := Fr.trans (Fr.trans hO0 (Ext.fr ((Ext.refl w1).alloc (.cells #[.slice p.x.A p.x.n p.x.c, .slice p.y.A p.y.n p.y.c, .slice p.z.A p.z.n p.z.c] 50)))) hO2
  have hz2 := hB.lt
  obtain ⟨j, rfl⟩ := Int.eq_ofNat_of_zero_le x0
  generalize w1.heap.size = b at hbl hB hz1 hz2
  have hbd : (1 ≤ p.x.n ∧ p.x.n ≤ 12) ∧ p.x.n + (p.y.n + p.z.n) ≤ 100000 := by
    have hsm := okP_sm hok
    have hx1 := hp.rd.1.1
    have hx2 := hp.rd.2.1.1
    have hx3 := hp.rd.2.2.1.1
    omega
  obtain ⟨⟨hb1, hb2⟩, hb3⟩ := hbd
  have hsm := hide (okP_sm hok)
  have hgb : b ≠ g := by have := hD1.lt; omega
  clear hok hD1 hO1 hO2 hO0 x0 x1 hk30
  obtain ⟨c0, c1, c2, f0, f1, f2⟩ := res3 hB
  obtain ⟨rc0, rc1, rc2, rf0, rf1, rf2⟩ := res3 hR
  rcases (show j = 0 ∨ j = 1 ∨ j = 2 ∨ j = 3 ∨ 4 ≤ j by omega) with rfl | rfl | rfl | rfl | hj
  · clear rc0 rc1 rc2 rf0 rf1 rf2
    go_wp2_with fail
    refine (spec.l01Own_any p.z l.z _ hp.rd.2.2.1).mono ?_
    rintro e w3 ⟨t, rfl, ho, hx3⟩
    have hBk := Blk.new w3 2 (([3, 3] : List Int).map (Value.int .i64)).toArray
    have hr33 : Rd (w3.alloc (.cells #[.int .i64 3, .int .i64 3] 2)) (some ⟨w3.heap.size, 0, none⟩) 2 [3, 3] := rd_blk hBk (by simp)
    have hlz := hide (show (l.z ++ [3, 3]).length ≤ 72 by have := hsm.out; simp; omega)
    have hl1 : l.z.length + 2 ≤ 16777216 := by have := hlz.out; simp at this; omega
    have hzz := hx3.size
    clear c0 c1 c2 f0 f1 f2
    go_wp2_with (at_builtin; refine wpList_app _ rfl (.tmp 12) (.tmp 13) rfl w2.heap.size _ _ rfl (ho.alloc _) _ _ _ [3, 3] rfl hr33 hl1 (by simp; omega) ?_; intro t1 w4 ho1 hg1 hb1; have hX4 : Ext w2 w4 := (hx3.alloc _).grow hg1 (fun k hk => (ho.lt k hk).1); clear hr33 hBk; obtain ⟨c0, c1, c2, f0, f1, f2⟩ := res3 (hB.ext hX4); obtain ⟨rc0, rc1, rc2, rf0, rf1, rf2⟩ := res3 (hR.ext hX4))
    have hlt1 : ∀ k, Value.ownBlock (.slice t1.A t1.n t1.c) = some k → w2.heap.size ≤ k := fun k hk => (ho1.lt k hk).1
    have hblF : ∀ k, blks ⟨p.x, p.y, t1⟩ k → k ≠ b := by
      rintro k (hk | hk | hk)
      · have := hbl k (.inl hk); omega
      · have := hbl k (.inr (.inl hk)); omega
      · have := hlt1 k hk; omega
    have m := Blk.c3 (Blk.set_ ((Blk.set_ ((Blk.set_ ((Blk.off (Blk.ext hR hX4) b 2 (by omega) (.slice t1.A t1.n t1.c))) 0 (.slice p.x.A p.x.n p.x.c))) 1 (.slice p.y.A p.y.n p.y.c))) 2 (.slice t1.A t1.n t1.c))
    have hpn := (Own3.awayP ((Own3.awayP ((Own3.awayP ((Own3.awD (Own3.setz (Own3.ext hp hX4) ho1 (by omega) (fun k hk => (hp.lt hk).2) hb3 (by have := hlz.out; omega)) hblF 2 (.slice t1.A t1.n t1.c))) (g := w.heap.size) (by omega) 0 (.slice p.x.A p.x.n p.x.c))) (g := w.heap.size) (by omega) 1 (.slice p.y.A p.y.n p.y.c))) (g := w.heap.size) (by omega) 2 (.slice t1.A t1.n t1.c))
    have hDn := (Dr.off ((Dr.off ((Dr.off ((Dr.off (Dr.more hD hX4) b 2 (by omega) (.slice t1.A t1.n t1.c))) w.heap.size 0 (by omega) (.slice p.x.A p.x.n p.x.c))) w.heap.size 1 (by omega) (.slice p.y.A p.y.n p.y.c))) w.heap.size 2 (by omega) (.slice t1.A t1.n t1.c))
    have hOn := (Only.off ((Only.off ((Only.off ((Only.off (Only.more hO hX4) b 2 (by omega) (.slice t1.A t1.n t1.c))) w.heap.size 0 (by omega) (.slice p.x.A p.x.n p.x.c))) w.heap.size 1 (by omega) (.slice p.y.A p.y.n p.y.c))) w.heap.size 2 (by omega) (.slice t1.A t1.n t1.c))
    refine bodyPost_ret (v := .agg #[.slice p.x.A p.x.n p.x.c, .slice p.y.A p.y.n p.y.c, .slice t1.A t1.n t1.c]) (by simp [results, Try.results66, go_sem, m.1, m.2.1, m.2.2]) rfl ⟨⟨p.x, p.y, t1⟩, ⟨l.x, l.y, l.z ++ [3, 3]⟩, rfl, Own3.mono hpn (by omega), (by have := hsm.out; simp only [List.length_append, List.length_cons, List.length_nil]; omega), hDn, hOn⟩
  · obtain ⟨⟨A1, n1, k1⟩, ⟨A2, n2, k2⟩, ⟨A3, n3, k3⟩⟩ := p
    simp only at hb1 hb2 hb3 hB c0 c1 c2 hbl
    obtain ⟨b1, rfl, hl1, hl2, ⟨u0, hu0⟩, hfz, hput⟩ := hp.1.put (show 0 < n1 by omega)
    have hbb1 : b1 < b := hbl b1 (.inl rfl)
    have hne1 : b1 ≠ b := by omega
    have hbg : b1 ≠ g := by omega
    have hWd : Dr w0 (w2.alloc (.cells #[.int .i64 0, .int .i64 (-1), .int .i64 1000000, .int .i64 1000001] 2)).drew g s := (hD.alloc _).drew
    have hBk : Blk (w2.alloc (.cells #[.int .i64 0, .int .i64 (-1), .int .i64 1000000, .int .i64 1000001] 2)).drew w2.heap.size 2 (([0, -1, 1000000, 1000001] : List Int).map (Value.int .i64)).toArray := (Blk.new w2 2 _).drew
    have hkp := spec.l01Pick_any g w2.heap.size s [0, -1, 1000000, 1000001] w0 _ hWd hBk (by omega) (by simp) (by simp)
    have hp4 : Own3 (w2.alloc (.cells #[.int .i64 0, .int .i64 (-1), .int .i64 1000000, .int .i64 1000001] 2)).drew (w.heap.size + 1) ⟨⟨some ⟨b1, 0, none⟩, n1, k1⟩, ⟨A2, n2, k2⟩, ⟨A3, n3, k3⟩⟩ l := (hp.alloc _).drew
    have hB4 : Blk (w2.alloc (.cells #[.int .i64 0, .int .i64 (-1), .int .i64 1000000, .int .i64 1000001] 2)).drew b 50 _ := (hB.alloc _).drew
    have hR4 : Blk (w2.alloc (.cells #[.int .i64 0, .int .i64 (-1), .int .i64 1000000, .int .i64 1000001] 2)).drew w.heap.size 50 _ := (hR.alloc _).drew
    have hO4 : Only g w (w2.alloc (.cells #[.int .i64 0, .int .i64 (-1), .int .i64 1000000, .int .i64 1000001] 2)).drew := Only.more hO ((Ext.refl w2).alloc _).drew
    have hin : (0 : Int) < (n1 : Int) := by omega
    have hin2 : 0 < n1 := by omega
    have nb1 : ¬ b = b1 := by omega
    have nb2 : ¬ b1 = b := by omega
    have nr1 : ¬ w.heap.size = b1 := by omega
    have nr2 : ¬ b1 = w.heap.size := by omega
    clear hu0 hfz hput rc0 rc1 rc2 rf0 rf1 rf2 c1 c2 f0 f1 f2
    go_wp2_with fail
    go_region_held3 (fun w' => w'.cell? ⟨b, 0, none⟩ = some (.slice (some ⟨b1, 0, none⟩) n1 k1)) (first | exact q3.1 | go_keep) (first | (go_at_call 49; refine hkp.mono ?_; rintro e w3 ⟨y, rfl, hy, hD5, hO5⟩; replace hp4 := hp4.only hO5 (by omega); replace hB4 := hB4.only hO5 hgb; replace hR4 := hR4.only hO5 (by omega); replace hO4 := Fr.trans hO4 hO5; have q3 := hB4.c3; obtain ⟨b1', e1', _, _, ⟨u1, hu1⟩, hfz1, hput1⟩ := hp4.1.put (show 0 < n1 by omega); injection e1' with e1'; injection e1' with e1'; subst e1'))
    have hpN : Own3 (w3.setCell ⟨b1, 0, none⟩ (.int .i64 y)) (w.heap.size + 1) ⟨⟨some ⟨b1, 0, none⟩, n1, k1⟩, ⟨A2, n2, k2⟩, ⟨A3, n3, k3⟩⟩ ⟨l.x.set 0 y, l.y, l.z⟩ :=
      ⟨hput1 y, hp4.2.1.away (fun e => hp4.2.2.2.2.1 b1 rfl e) 0 _, hp4.2.2.1.away (fun e => hp4.2.2.2.2.2.1 b1 rfl e) 0 _, hp4.2.2.2⟩
    have m := Blk.c3 (Blk.set_ ((Blk.set_ ((Blk.set_ ((Blk.off hR4 b1 0 (by omega) (.int .i64 y))) 0 (.slice (some ⟨b1, 0, none⟩) n1 k1))) 1 (.slice A2 n2 k2))) 2 (.slice A3 n3 k3))
    have hpn := (Own3.awayP ((Own3.awayP ((Own3.awayP (hpN) (g := w.heap.size) (by omega) 0 (.slice (some ⟨b1, 0, none⟩) n1 k1))) (g := w.heap.size) (by omega) 1 (.slice A2 n2 k2))) (g := w.heap.size) (by omega) 2 (.slice A3 n3 k3))
    have hDn := (Dr.off ((Dr.off ((Dr.off ((Dr.off hD5 b1 0 (by omega) (.int .i64 y))) w.heap.size 0 (by omega) (.slice (some ⟨b1, 0, none⟩) n1 k1))) w.heap.size 1 (by omega) (.slice A2 n2 k2))) w.heap.size 2 (by omega) (.slice A3 n3 k3))
    have hOn := (Only.off ((Only.off ((Only.off ((Only.off hO4 b1 0 (by omega) (.int .i64 y))) w.heap.size 0 (by omega) (.slice (some ⟨b1, 0, none⟩) n1 k1))) w.heap.size 1 (by omega) (.slice A2 n2 k2))) w.heap.size 2 (by omega) (.slice A3 n3 k3))
    obtain ⟨c0, c1, c2, f0, f1, f2⟩ := res3 hB4
    obtain ⟨rc0, rc1, rc2, rf0, rf1, rf2⟩ := res3 hR4
    clear q3 hput1 hB4 hR4
    go_wp2_with fail
    refine bodyPost_ret (v := .agg #[.slice (some ⟨b1, 0, none⟩) n1 k1, .slice A2 n2 k2, .slice A3 n3 k3]) (by simp [results, Try.results66, go_sem, m.1, m.2.1, m.2.2]) rfl ⟨⟨⟨some ⟨b1, 0, none⟩, n1, k1⟩, ⟨A2, n2, k2⟩, ⟨A3, n3, k3⟩⟩, ⟨l.x.set 0 y, l.y, l.z⟩, rfl, Own3.mono hpn (by omega), (by have := hsm.out; simp only [List.length_set]; omega), hDn, hOn⟩
  · have hX4 : Ext w2 (w2.alloc (.cells #[] 2)) := (Ext.refl w2).alloc _
    have ho1 := Own.new0 w2 w2.heap.size (Nat.le_refl _)
    have hBx := hB.ext hX4
    have hRx := hR.ext hX4
    obtain ⟨c0', c1', c2', f0', f1', f2'⟩ := res3 hBx
    obtain ⟨rc0', rc1', rc2', rf0', rf1', rf2'⟩ := res3 hRx
    have hblF : ∀ k, blks ⟨⟨some ⟨w2.heap.size, 0, none⟩, 0, 0⟩, p.y, p.z⟩ k → k ≠ b := by
      rintro k (hk | hk | hk)
      · have := (ho1.lt k hk).1; omega
      · have := hbl k (.inr (.inl hk)); omega
      · have := hbl k (.inr (.inr hk)); omega
    have m := Blk.c3 (Blk.set_ ((Blk.set_ ((Blk.set_ ((Blk.off (Blk.ext hR hX4) b 0 (by omega) (.slice (some ⟨w2.heap.size, 0, none⟩) 0 0))) 0 (.slice (some ⟨w2.heap.size, 0, none⟩) 0 0))) 1 (.slice p.y.A p.y.n p.y.c))) 2 (.slice p.z.A p.z.n p.z.c))
    have hpn := (Own3.awayP ((Own3.awayP ((Own3.awayP ((Own3.awD (Own3.setx (t := ⟨some ⟨w2.heap.size, 0, none⟩, 0, 0⟩) (Own3.ext hp hX4) ho1 (by omega) (fun k hk => (hp.lt hk).2) hb3 (by simp)) hblF 0 (.slice (some ⟨w2.heap.size, 0, none⟩) 0 0))) (g := w.heap.size) (by omega) 0 (.slice (some ⟨w2.heap.size, 0, none⟩) 0 0))) (g := w.heap.size) (by omega) 1 (.slice p.y.A p.y.n p.y.c))) (g := w.heap.size) (by omega) 2 (.slice p.z.A p.z.n p.z.c))
    have hDn := (Dr.off ((Dr.off ((Dr.off ((Dr.off (Dr.more hD hX4) b 0 (by omega) (.slice (some ⟨w2.heap.size, 0, none⟩) 0 0))) w.heap.size 0 (by omega) (.slice (some ⟨w2.heap.size, 0, none⟩) 0 0))) w.heap.size 1 (by omega) (.slice p.y.A p.y.n p.y.c))) w.heap.size 2 (by omega) (.slice p.z.A p.z.n p.z.c))
    have hOn := (Only.off ((Only.off ((Only.off ((Only.off (Only.more hO hX4) b 0 (by omega) (.slice (some ⟨w2.heap.size, 0, none⟩) 0 0))) w.heap.size 0 (by omega) (.slice (some ⟨w2.heap.size, 0, none⟩) 0 0))) w.heap.size 1 (by omega) (.slice p.y.A p.y.n p.y.c))) w.heap.size 2 (by omega) (.slice p.z.A p.z.n p.z.c))
    clear hRx hBx
    have hwz : w.heap.size < w2.heap.size := by omega
    have hzc : ∀ (X : World) (a : Addr) (u : Value) (n : Nat), n < X.heap.size → n < (X.setCell a u).heap.size := fun X a u n h => by rw [size_off]; exact h
    rw [World.setCell_alloc_past _ _ _ _ hz2, World.setCell_alloc_past _ _ _ _ (hzc _ _ _ _ hwz), World.setCell_alloc_past _ _ _ _ (hzc _ _ _ _ (hzc _ _ _ _ hwz)), World.setCell_alloc_past _ _ _ _ (hzc _ _ _ _ (hzc _ _ _ _ (hzc _ _ _ _ hwz)))] at hpn hDn hOn m
    clear hzc
    go_wp2_with fail
    refine bodyPost_ret (v := .agg #[.slice (some ⟨w2.heap.size, 0, none⟩) 0 0, .slice p.y.A p.y.n p.y.c, .slice p.z.A p.z.n p.z.c]) (by simp [results, Try.results66, go_sem, m.1, m.2.1, m.2.2]) rfl ⟨⟨⟨some ⟨w2.heap.size, 0, none⟩, 0, 0⟩, p.y, p.z⟩, ⟨[], l.y, l.z⟩, rfl, Own3.mono hpn (by omega), (by have := hsm.out; simp only [List.length_nil]; omega), hDn, hOn⟩
  · obtain ⟨⟨A1, n1, k1⟩, ⟨A2, n2, k2⟩, ⟨A3, n3, k3⟩⟩ := p
    simp only at hb1 hb2 hb3 hB c0 c1 c2 hbl
    obtain ⟨b1, o1, y, hA1, hlt1, hcy, hy⟩ := hp.1.rd.el (show 0 < n1 by omega)
    obtain ⟨b1', e1, _, _, _⟩ := hp.1.put (show 0 < n1 by omega)
    subst e1
    injection hA1 with hA1
    injection hA1 with hA1 hA2
    subst hA1 hA2
    have hly := hide (show (l.y ++ [y]).length ≤ 72 by have := hsm.out; simp; omega)
    have hin : (0 : Int) < (n1 : Int) := by omega
    have hin2 : 0 < n1 := by omega
    have hl1 : l.y.length + 1 ≤ 16777216 := by have := hly.out; simp at this; omega
    have hb1w : (⟨b1', 0, none⟩ : Addr).block < w2.heap.size := by simp only; omega
    have KK := hide (show ∀ X, Ext w2 X → X.cell? ⟨b, 0, none⟩ = some (.slice (some ⟨b1', 0, none⟩) n1 k1) ∧ X.cell? ⟨b, 1, none⟩ = some (.slice A2 n2 k2) ∧ X.cell? ⟨b1', 0, none⟩ = some (.int .i64 y) from fun X hx => ⟨(hB.ext hx).c3.1, (hB.ext hx).c3.2.1, (hx.cell (p := ⟨b1', 0, none⟩) hb1w).trans hcy⟩)
    clear c0 c1 c2 f0 f1 f2 rc0 rc1 rc2 rf0 rf1 rf2
    have hW := (Ext.refl w2).drew
    go_wp2_with fail
    refine wp_region_sink (S := fun w' => w'.cell? ⟨b, 0, none⟩ = some (.slice (some ⟨b1', 0, none⟩) n1 k1) ∧ w'.cell? ⟨b, 1, none⟩ = some (.slice A2 n2 k2) ∧ w'.cell? ⟨b1', 0, none⟩ = some (.int .i64 y)) 10 (by kernel_rfl) ?_
    change wpAnyT _ _ _ _ _ _ _ _ _ (World.drew _)
    generalize hwd : World.drew w2 = wd at hW ⊢
    clear hwd
    have kk := KK.out wd hW
    refine wpAnyT_takeL (i := 0) 10 (v := ?_) rfl (by kernel_rfl) (by kernel_rfl) (by kernel_rfl) (by kernel_rfl) (by kernel_rfl) (fun _ _ _ h => h) (Or.inl ⟨by rfl, ?_⟩) kk ?_
    rotate_left 1
    · (intro W hSw; (try dsimp only at hSw); go_simp) <;> with_reducible rfl
    try simp only [Act.put, List.setIfInBounds_toArray, List.set_cons_zero, List.set_cons_succ]
    refine wpAnyT_takeL (i := 1) 10 (v := ?_) rfl (by kernel_rfl) (by kernel_rfl) (by kernel_rfl) (by kernel_rfl) (by kernel_rfl) (fun _ _ _ h => h) (Or.inl ⟨by rfl, ?_⟩) kk ?_
    rotate_left 1
    · (intro W hSw; (try dsimp only at hSw); go_simp) <;> with_reducible rfl
    try simp only [Act.put, List.setIfInBounds_toArray, List.set_cons_zero, List.set_cons_succ]
    refine wpAnyT_takeL (i := 3) 10 (v := ?_) rfl (by kernel_rfl) (by kernel_rfl) (by kernel_rfl) (by kernel_rfl) (by kernel_rfl) (fun _ _ _ h => h) (Or.inl ⟨by rfl, ?_⟩) kk ?_
    rotate_left 1
    · (intro W hSw; (try dsimp only at hSw); go_simp) <;> with_reducible rfl
    try simp only [Act.put, List.setIfInBounds_toArray, List.set_cons_zero, List.set_cons_succ]
    refine wpAnyT_takeL (i := 4) 10 (v := ?_) rfl (by kernel_rfl) (by kernel_rfl) (by kernel_rfl) (by kernel_rfl) (by kernel_rfl) (fun _ _ _ h => h) (Or.inl ⟨by rfl, ?_⟩) kk ?_
    rotate_left 1
    · (intro W hSw; (try dsimp only at hSw); go_simp) <;> with_reducible rfl
    try simp only [Act.put, List.setIfInBounds_toArray, List.set_cons_zero, List.set_cons_succ]
    refine wpAnyT_takeL (i := 5) 10 (v := ?_) rfl (by kernel_rfl) (by kernel_rfl) (by kernel_rfl) (by kernel_rfl) (by kernel_rfl) (fun _ _ _ h => h) (Or.inl ⟨by rfl, ?_⟩) kk ?_
    rotate_left 1
    · (intro W hSw; (try dsimp only at hSw); go_simp) <;> with_reducible rfl
    try simp only [Act.put, List.setIfInBounds_toArray, List.set_cons_zero, List.set_cons_succ]
    refine wpAnyT_takeL (i := 6) 10 (v := ?_) rfl (by kernel_rfl) (by kernel_rfl) (by kernel_rfl) (by kernel_rfl) (by kernel_rfl) (fun _ _ _ h => h) (Or.inl ⟨by rfl, ?_⟩) kk ?_
    rotate_left 1
    · (intro W hSw; (try dsimp only at hSw); go_simp) <;> with_reducible rfl
    try simp only [Act.put, List.setIfInBounds_toArray, List.set_cons_zero, List.set_cons_succ]
    clear kk
    refine wpAnyT_go2 (i := 2) (j := 7) rfl rfl (by kernel_rfl) (fun K hK => ?_) (fun K hK => ?_)
    · go_simp
      go_at_call 71
      refine (spec.l01Own_any ⟨A2, n2, k2⟩ l.y _ (hp.rd.2.1.ext hW)).mono ?_
      rintro e w3 ⟨t, rfl, ho, hx3⟩
      replace ho := ho.mono hW.size
      replace hW := hW.trans hx3
      go_simp
      refine hK _ _ ⟨fun _ => KK.out _ hW, ?_⟩
      clear hK K hx3
      refine wpAnyT_go (i := 7) rfl (by kernel_rfl) fun K hK => ?_
      go_simp
      have hV := Rd.one w3 y
      replace ho := ho.alloc (.cells #[.int .i64 y] 2)
      replace hW := hW.alloc (.cells #[.int .i64 y] 2)
      refine hK _ _ ⟨fun _ => KK.out _ hW, ?_⟩
      clear hK K
      refine wpAnyT_go (i := 8) rfl (by kernel_rfl) fun K hK => ?_
      refine step_app _ rfl (.tmp 32) (.tmp 37) rfl w2.heap.size _ _ rfl ho _ _ _ [y] rfl hV hl1 hW.size ?_
      intro t1 w4 ho1 hg1 hb1
      have hX4 : Ext w2 w4 := Ext.grow hW hg1 (fun k hk => (ho.lt k hk).1)
      refine hK _ _ ⟨fun _ => KK.out _ hX4, ?_⟩
      clear hK K hW
      obtain ⟨c0, c1, c2, f0, f1, f2⟩ := res3 (hB.ext hX4)
      obtain ⟨rc0, rc1, rc2, rf0, rf1, rf2⟩ := res3 (hR.ext hX4)
      refine wpAnyT_go (i := 9) rfl (by kernel_rfl) fun K hK => ?_
      go_simp
      refine hK _ _ ⟨fun _ => KK.out _ hX4, ?_⟩
      clear hK K
      refine wpAnyT_go (i := 10) rfl (by kernel_rfl) fun K hK => ?_
      go_simp
      refine hK _ _ ⟨fun h => absurd rfl h, ?_⟩
      clear hK K
      refine wpAnyT_done (by kernel_rfl) ?_ _
      have hlt1' : ∀ k, Value.ownBlock (.slice t1.A t1.n t1.c) = some k → w2.heap.size ≤ k := fun k hk => (ho1.lt k hk).1
      have hblF : ∀ k, blks ⟨⟨some ⟨b1', 0, none⟩, n1, k1⟩, t1, ⟨A3, n3, k3⟩⟩ k → k ≠ b := by
        rintro k (hk | hk | hk)
        · have := hbl k (.inl hk); omega
        · have := hlt1' k hk; omega
        · have := hbl k (.inr (.inr hk)); omega
      have m := Blk.c3 (Blk.set_ ((Blk.set_ ((Blk.set_ ((Blk.off (Blk.ext hR hX4) b 1 (by omega) (.slice t1.A t1.n t1.c))) 0 (.slice (some ⟨b1', 0, none⟩) n1 k1))) 1 (.slice t1.A t1.n t1.c))) 2 (.slice A3 n3 k3))
      have hpn := (Own3.awayP ((Own3.awayP ((Own3.awayP ((Own3.awD (Own3.sety (Own3.ext hp hX4) ho1 (by omega) (fun k hk => (hp.lt hk).2) hb3 (by have := hly.out; omega)) hblF 1 (.slice t1.A t1.n t1.c))) (g := w.heap.size) (by omega) 0 (.slice (some ⟨b1', 0, none⟩) n1 k1))) (g := w.heap.size) (by omega) 1 (.slice t1.A t1.n t1.c))) (g := w.heap.size) (by omega) 2 (.slice A3 n3 k3))
      have hDn := (Dr.off ((Dr.off ((Dr.off ((Dr.off (Dr.more hD hX4) b 1 (by omega) (.slice t1.A t1.n t1.c))) w.heap.size 0 (by omega) (.slice (some ⟨b1', 0, none⟩) n1 k1))) w.heap.size 1 (by omega) (.slice t1.A t1.n t1.c))) w.heap.size 2 (by omega) (.slice A3 n3 k3))
      have hOn := (Only.off ((Only.off ((Only.off ((Only.off (Only.more hO hX4) b 1 (by omega) (.slice t1.A t1.n t1.c))) w.heap.size 0 (by omega) (.slice (some ⟨b1', 0, none⟩) n1 k1))) w.heap.size 1 (by omega) (.slice t1.A t1.n t1.c))) w.heap.size 2 (by omega) (.slice A3 n3 k3))
      go_wp2_with fail
      refine bodyPost_ret (v := .agg #[.slice (some ⟨b1', 0, none⟩) n1 k1, .slice t1.A t1.n t1.c, .slice A3 n3 k3]) (by simp [results, Try.results66, go_sem, m.1, m.2.1, m.2.2]) rfl ⟨⟨⟨some ⟨b1', 0, none⟩, n1, k1⟩, t1, ⟨A3, n3, k3⟩⟩, ⟨l.x, l.y ++ [y], l.z⟩, rfl, Own3.mono hpn (by omega), (by have := hsm.out; simp only [List.length_append, List.length_cons, List.length_nil]; omega), hDn, hOn⟩
    · go_simp
      have hV := Rd.one wd y
      replace hW := hW.alloc (.cells #[.int .i64 y] 2)
      refine hK _ _ ⟨fun _ => KK.out _ hW, ?_⟩
      clear hK K
      refine wpAnyT_go (i := 2) rfl (by kernel_rfl) fun K hK => ?_
      go_simp
      go_at_call 71
      refine (spec.l01Own_any ⟨A2, n2, k2⟩ l.y _ (hp.rd.2.1.ext hW)).mono ?_
      rintro e w3 ⟨t, rfl, ho, hx3⟩
      replace ho := ho.mono hW.size
      replace hV := hV.ext hx3
      replace hW := hW.trans hx3
      go_simp
      refine hK _ _ ⟨fun _ => KK.out _ hW, ?_⟩
      clear hK K hx3
      refine wpAnyT_go (i := 8) rfl (by kernel_rfl) fun K hK => ?_
      refine step_app _ rfl (.tmp 32) (.tmp 37) rfl w2.heap.size _ _ rfl ho _ _ _ [y] rfl hV hl1 hW.size ?_
      intro t1 w4 ho1 hg1 hb1
      have hX4 : Ext w2 w4 := Ext.grow hW hg1 (fun k hk => (ho.lt k hk).1)
      refine hK _ _ ⟨fun _ => KK.out _ hX4, ?_⟩
      clear hK K hW
      obtain ⟨c0, c1, c2, f0, f1, f2⟩ := res3 (hB.ext hX4)
      obtain ⟨rc0, rc1, rc2, rf0, rf1, rf2⟩ := res3 (hR.ext hX4)
      refine wpAnyT_go (i := 9) rfl (by kernel_rfl) fun K hK => ?_
      go_simp
      refine hK _ _ ⟨fun _ => KK.out _ hX4, ?_⟩
      clear hK K
      refine wpAnyT_go (i := 10) rfl (by kernel_rfl) fun K hK => ?_
      go_simp
      refine hK _ _ ⟨fun h => absurd rfl h, ?_⟩
      clear hK K
      refine wpAnyT_done (by kernel_rfl) ?_ _
      have hlt1' : ∀ k, Value.ownBlock (.slice t1.A t1.n t1.c) = some k → w2.heap.size ≤ k := fun k hk => (ho1.lt k hk).1
      have hblF : ∀ k, blks ⟨⟨some ⟨b1', 0, none⟩, n1, k1⟩, t1, ⟨A3, n3, k3⟩⟩ k → k ≠ b := by
        rintro k (hk | hk | hk)
        · have := hbl k (.inl hk); omega
        · have := hlt1' k hk; omega
        · have := hbl k (.inr (.inr hk)); omega
      have m := Blk.c3 (Blk.set_ ((Blk.set_ ((Blk.set_ ((Blk.off (Blk.ext hR hX4) b 1 (by omega) (.slice t1.A t1.n t1.c))) 0 (.slice (some ⟨b1', 0, none⟩) n1 k1))) 1 (.slice t1.A t1.n t1.c))) 2 (.slice A3 n3 k3))
      have hpn := (Own3.awayP ((Own3.awayP ((Own3.awayP ((Own3.awD (Own3.sety (Own3.ext hp hX4) ho1 (by omega) (fun k hk => (hp.lt hk).2) hb3 (by have := hly.out; omega)) hblF 1 (.slice t1.A t1.n t1.c))) (g := w.heap.size) (by omega) 0 (.slice (some ⟨b1', 0, none⟩) n1 k1))) (g := w.heap.size) (by omega) 1 (.slice t1.A t1.n t1.c))) (g := w.heap.size) (by omega) 2 (.slice A3 n3 k3))
      have hDn := (Dr.off ((Dr.off ((Dr.off ((Dr.off (Dr.more hD hX4) b 1 (by omega) (.slice t1.A t1.n t1.c))) w.heap.size 0 (by omega) (.slice (some ⟨b1', 0, none⟩) n1 k1))) w.heap.size 1 (by omega) (.slice t1.A t1.n t1.c))) w.heap.size 2 (by omega) (.slice A3 n3 k3))
      have hOn := (Only.off ((Only.off ((Only.off ((Only.off (Only.more hO hX4) b 1 (by omega) (.slice t1.A t1.n t1.c))) w.heap.size 0 (by omega) (.slice (some ⟨b1', 0, none⟩) n1 k1))) w.heap.size 1 (by omega) (.slice t1.A t1.n t1.c))) w.heap.size 2 (by omega) (.slice A3 n3 k3))
      go_wp2_with fail
      refine bodyPost_ret (v := .agg #[.slice (some ⟨b1', 0, none⟩) n1 k1, .slice t1.A t1.n t1.c, .slice A3 n3 k3]) (by simp [results, Try.results66, go_sem, m.1, m.2.1, m.2.2]) rfl ⟨⟨⟨some ⟨b1', 0, none⟩, n1, k1⟩, t1, ⟨A3, n3, k3⟩⟩, ⟨l.x, l.y ++ [y], l.z⟩, rfl, Own3.mono hpn (by omega), (by have := hsm.out; simp only [List.length_append, List.length_cons, List.length_nil]; omega), hDn, hOn⟩
  · have e0 : ((j : Int) == 0) = false := by rw [beq_eq_false_iff_ne]; omega
    have e1 : ((j : Int) == 1) = false := by rw [beq_eq_false_iff_ne]; omega
    have e2 : ((j : Int) == 2) = false := by rw [beq_eq_false_iff_ne]; omega
    have e3 : ((j : Int) == 3) = false := by rw [beq_eq_false_iff_ne]; omega
    have m := Blk.c3 (Blk.set_ ((Blk.set_ ((Blk.set_ (hR) 0 (.slice p.x.A p.x.n p.x.c))) 1 (.slice p.y.A p.y.n p.y.c))) 2 (.slice p.z.A p.z.n p.z.c))
    have hpn := (Own3.awayP ((Own3.awayP ((Own3.awayP (hp) (g := w.heap.size) (by omega) 0 (.slice p.x.A p.x.n p.x.c))) (g := w.heap.size) (by omega) 1 (.slice p.y.A p.y.n p.y.c))) (g := w.heap.size) (by omega) 2 (.slice p.z.A p.z.n p.z.c))
    have hDn := (Dr.off ((Dr.off ((Dr.off (hD) w.heap.size 0 (by omega) (.slice p.x.A p.x.n p.x.c))) w.heap.size 1 (by omega) (.slice p.y.A p.y.n p.y.c))) w.heap.size 2 (by omega) (.slice p.z.A p.z.n p.z.c))
    have hOn := (Only.off ((Only.off ((Only.off (hO) w.heap.size 0 (by omega) (.slice p.x.A p.x.n p.x.c))) w.heap.size 1 (by omega) (.slice p.y.A p.y.n p.y.c))) w.heap.size 2 (by omega) (.slice p.z.A p.z.n p.z.c))
    go_wp2_with fail
    refine bodyPost_ret (v := .agg #[.slice p.x.A p.x.n p.x.c, .slice p.y.A p.y.n p.y.c, .slice p.z.A p.z.n p.z.c]) (by simp [results, Try.results66, go_sem, m.1, m.2.1, m.2.2]) rfl ⟨⟨p.x, p.y, p.z⟩, l, rfl, Own3.mono hpn (by omega), (by have := hsm.out; omega), hDn, hOn⟩
end Go.Proofs.Ytmcnnbjgehmmoaa.mem
