/-
  Draws of selections and moves, in the reference.
-/
import Derived.Test.YtkfjphjmffbpiaaDrW
import Derived.Test.YtkfjphjmffbpiaaPassTop
import Derived.Test.YtkfjphjmffbpiaaStr
import Derived.Test.Ytkfjphjmffbpiaa3s
import Derived.Deep.RegionHeld3
import Derived.Deep.DeepCutAuto
import Derived.Deep.CutBlock
namespace Go.Proofs.Ytkfjphjmffbpiaa.mem
open Go.ChangeShapes Go.WideShapes Go.ChangeAt Go.RowKit

section
variable {w w' w0 wr wr2 : World} {lo g b r : Nat} {s : Sl} {x x' : SelA} {y y' : SelL} {p' : S3} {l' : L3} {t : Sl} {xs : List Int}
theorem OwnS.only (h : OwnS w lo x y) (hf : Only g w w') (hl : g < lo) : OwnS w' lo x y := h.fr hf (fun k hk e => by have := (h.lt hk).1; omega)
theorem OwnS.awD (h : OwnS w lo x y) (hg : ∀ k, blksS x k → k ≠ b) (i : Nat) (u : Value) : OwnS (w.setCell ⟨b, i, none⟩ u) lo x y := ⟨h.1.awD (fun k hk => hg k (.inl hk)) i u, h.2.1.away (fun e => hg b (.inr e) rfl) i u, h.2.2⟩
/-- the selection as far as it has been drawn: its variable lies in block b, the result's in block r -/
structure GsI (w0 w : World) (g : Nat) (s : Sl) (r b : Nat) (x : SelA) (y : SelL) (wr : World) : Prop where
  res : Blk wr r 51 #[.slice none 0 0, .slice none 0 0, .slice none 0 0, .slice none 0 0, .int .i64 0, .int .i64 0]
  var : Blk wr b 51 #[.slice x.p.x.A x.p.x.n x.p.x.c, .slice x.p.y.A x.p.y.n x.p.y.c, .slice x.p.z.A x.p.z.n x.p.z.c, .slice x.s.A x.s.n x.s.c, .int .i64 x.t, .int .i64 x.q]
  own : OwnS wr (r + 1) x y
  apt : ∀ k, blksS x k → k ≠ b
  dr : Dr w0 wr g s
  onl : Only g w wr
  gl : g < w.heap.size
  rl : w.heap.size ≤ r
  bl : r < b
theorem GsI.only (h : GsI w0 w g s r b x y wr) (hO : Only g wr wr2) (hD : Dr w0 wr2 g s) : GsI w0 w g s r b x y wr2 := by
  have h1 := h.gl
  have h2 := h.rl
  have h3 := h.bl
  exact ⟨h.res.only hO (by omega), h.var.only hO (by omega), h.own.only hO (by omega), h.apt, hD, Fr.trans h.onl hO, h1, h2, h3⟩
theorem GsI.ext (h : GsI w0 w g s r b x y wr) (hx : Ext wr wr2) : GsI w0 w g s r b x y wr2 :=
  ⟨h.res.ext hx, h.var.ext hx, h.own.ext hx, h.apt, h.dr.more hx, Only.more h.onl hx, h.gl, h.rl, h.bl⟩
theorem GsI.put (h : GsI w0 w g s r b x y wr) (i : Nat) (u : Value) (hc : (#[.slice x.p.x.A x.p.x.n x.p.x.c, .slice x.p.y.A x.p.y.n x.p.y.c, .slice x.p.z.A x.p.z.n x.p.z.c, .slice x.s.A x.s.n x.s.c, .int .i64 x.t, .int .i64 x.q] : Array Value).setIfInBounds i u = #[.slice x'.p.x.A x'.p.x.n x'.p.x.c, .slice x'.p.y.A x'.p.y.n x'.p.y.c, .slice x'.p.z.A x'.p.z.n x'.p.z.c, .slice x'.s.A x'.s.n x'.s.c, .int .i64 x'.t, .int .i64 x'.q]) (ho : OwnS wr (r + 1) x' y') (ha : ∀ k, blksS x' k → k ≠ b) :
    GsI w0 w g s r b x' y' (wr.setCell ⟨b, i, none⟩ u) := by
  have h1 := h.gl
  have h2 := h.rl
  have h3 := h.bl
  exact ⟨h.res.off b i (by omega) u, hc ▸ h.var.set_ i u, ho.awD ha i u, ha, h.dr.off b i (by omega) u, h.onl.off b i (by omega) u, h1, h2, h3⟩
theorem GsI.putt (h : GsI w0 w g s r b x y wr) (v : Int) : GsI w0 w g s r b ⟨x.p, x.s, v, x.q⟩ ⟨y.p, y.s, v, y.q⟩ (wr.setCell ⟨b, 4, none⟩ (.int .i64 v)) :=
  h.put 4 _ rfl ⟨h.own.1, h.own.2.1, ⟨rfl, h.own.2.2.1.2⟩, h.own.2.2.2⟩ h.apt
theorem GsI.putq (h : GsI w0 w g s r b x y wr) (v : Int) : GsI w0 w g s r b ⟨x.p, x.s, x.t, v⟩ ⟨y.p, y.s, y.t, v⟩ (wr.setCell ⟨b, 5, none⟩ (.int .i64 v)) :=
  h.put 5 _ rfl ⟨h.own.1, h.own.2.1, ⟨h.own.2.2.1.1, rfl⟩, h.own.2.2.2⟩ h.apt
theorem GsI.puts {LO : Nat} (h : GsI w0 w g s r b x y wr) (ho : Own wr LO (.slice t.A t.n t.c) xs) (hk : ∀ k, blksS x k → k < LO) (hb : b < LO) : GsI w0 w g s r b ⟨x.p, t, x.t, x.q⟩ ⟨y.p, xs, y.t, y.q⟩ (wr.setCell ⟨b, 3, none⟩ (.slice t.A t.n t.c)) := by
  have h3 := h.bl
  refine h.put 3 _ rfl ⟨h.own.1, ho.mono (by omega), h.own.2.2.1, fun k h1 h2 => by have a1 := hk k (.inl h1); have a2 := (ho.lt k h2).1; omega⟩ ?_
  rintro k (hk' | hk')
  · exact h.apt k (.inl hk')
  · have := (ho.lt k hk').1; omega
theorem GsI.putp {LO : Nat} (h : GsI w0 w g s r b x y wr) (ho : Own3 wr LO p' l') (hk : ∀ k, blksS x k → k < LO) (hb : b < LO) :
    GsI w0 w g s r b ⟨p', x.s, x.t, x.q⟩ ⟨l', y.s, y.t, y.q⟩ (((wr.setCell ⟨b, 0, none⟩ (.slice p'.x.A p'.x.n p'.x.c)).setCell ⟨b, 1, none⟩ (.slice p'.y.A p'.y.n p'.y.c)).setCell ⟨b, 2, none⟩ (.slice p'.z.A p'.z.n p'.z.c)) := by
  have h1 := h.gl
  have h2 := h.rl
  have h3 := h.bl
  have hO : OwnS wr (r + 1) ⟨p', x.s, x.t, x.q⟩ ⟨l', y.s, y.t, y.q⟩ := ⟨ho.mono (by omega), h.own.2.1, h.own.2.2.1, fun k h1 h2 => by have a1 := (ho.lt h1).1; have a2 := hk k (.inr h2); omega⟩
  have ha : ∀ k, blksS (⟨p', x.s, x.t, x.q⟩ : SelA) k → k ≠ b := by
    rintro k (hk' | hk')
    · have := (ho.lt hk').1; omega
    · exact h.apt k (.inr hk')
  exact ⟨((h.res.off b 0 (by omega) _).off b 1 (by omega) _).off b 2 (by omega) _, ((h.var.set_ 0 _).set_ 1 _).set_ 2 _, ((hO.awD ha 0 _).awD ha 1 _).awD ha 2 _, ha, ((h.dr.off b 0 (by omega) _).off b 1 (by omega) _).off b 2 (by omega) _, ((h.onl.off b 0 (by omega) _).off b 1 (by omega) _).off b 2 (by omega) _, h1, h2, h3⟩
end
/-- what is drawn is not large -/
def smS (y : SelL) : Prop := (y.p.x.length ≤ 12 ∧ y.p.y.length + y.p.z.length ≤ 70) ∧ y.s.length ≤ 2 ∧ (-1 ≤ y.t ∧ y.t ≤ 2) ∧ (-1 ≤ y.q ∧ y.q ≤ 3)
def DsP (w0 w : World) (g : Nat) (s : Sl) (e : Ending) (w' : World) : Prop :=
  ∃ (x : SelA) (y : SelL), e = .returned (.agg #[.slice x.p.x.A x.p.x.n x.p.x.c, .slice x.p.y.A x.p.y.n x.p.y.c, .slice x.p.z.A x.p.z.n x.p.z.c, .slice x.s.A x.s.n x.s.c, .int .i64 x.t, .int .i64 x.q]) ∧ OwnS w' w.heap.size x y ∧ smS y ∧ Dr w0 w' g s ∧ Only g w w'
set_option maxRecDepth 20000 in
set_option maxHeartbeats 4000000 in
theorem spec.l14Good_any (g : Nat) (s : Sl) (w0 w : World) (h : Dr w0 w g s) :
    Calls Try.prog 122 #[.pointer (some ⟨g, 0, none⟩)] w fun e w' => DsP w0 w g s e w' := by
  have hk4 := fun W h => spec.l01Next_any g s 4 w0 W h (by omega)
  have hk2 := fun W h => spec.l01Next_any g s 2 w0 W h (by omega)
  have hg := h.lt
  have hR := Blk.new w 51 #[.slice none 0 0, .slice none 0 0, .slice none 0 0, .slice none 0 0, .int .i64 0, .int .i64 0]
  have hO : Only g w (w.alloc (.cells #[.slice none 0 0, .slice none 0 0, .slice none 0 0, .slice none 0 0, .int .i64 0, .int .i64 0] 51)) := ((Ext.refl w).alloc _).onl
  go_enter Try.func122, Try.ntmps122
  go_wp2_with fail
  refine (spec.l12Good_any g s w0 _ (h.alloc _)).mono ?_
  rintro e w1 ⟨p, l, rfl, hp, hok, hD1, hO1⟩
  rw [World.size_alloc] at hp
  replace hR := hR.only hO1 (by omega)
  replace hO := Fr.trans hO hO1
  go_wp2_with fail
  refine (hk4 _ hD1).mono ?_
  rintro e w2 ⟨n1, rfl, ⟨n10, n11⟩, hD2, hO2⟩
  replace hR := hR.only hO2 (by omega)
  replace hp := hp.only hO2 (by omega)
  replace hO := Fr.trans hO hO2
  go_wp2_with fail
  refine (hk4 _ hD2).mono ?_
  rintro e w3 ⟨n2, rfl, ⟨n20, n21⟩, hD3, hO3⟩
  replace hR := hR.only hO3 (by omega)
  replace hp := hp.only hO3 (by omega)
  replace hO := Fr.trans hO hO3
  have hz3 := hR.lt
  have oB := Own.of_blk (xs := [n1, n2]) (Blk.new w3 2 #[.int .i64 n1, .int .i64 n2]) (Nat.le_refl w3.heap.size) 2 2 rfl (by omega) (by unfold maxLen; omega) rfl (by omega) rfl
  have hpk := fun k (hk : blks p k) => (hp.lt hk).2
  have hg3 := hD3.lt
  replace hp := hp.alloc (.cells #[.int .i64 n1, .int .i64 n2] 2)
  replace hR := hR.alloc (.cells #[.int .i64 n1, .int .i64 n2] 2)
  replace hO := Only.more hO ((Ext.refl w3).alloc (.cells #[.int .i64 n1, .int .i64 n2] 2))
  go_wp2_with fail
  refine (hk2 _ (hD3.alloc _)).mono ?_
  rintro e w4 ⟨n3, rfl, ⟨n30, n31⟩, hD4, hO4⟩
  replace hR := hR.only hO4 (by omega)
  replace hp := hp.only hO4 (by omega)
  replace hO := Fr.trans hO hO4
  replace oB := oB.only hO4 (by omega)
  have hz4 : w3.heap.size + 1 ≤ w4.heap.size := by have := hO4.size; simpa using this
  have hp5 := spec.l01Pick_any g w4.heap.size s [0, 0, 1, 0, 2] w0 (w4.alloc (.cells #[.int .i64 0, .int .i64 0, .int .i64 1, .int .i64 0, .int .i64 2] 2)) (hD4.alloc _) (Blk.new w4 2 _) (by omega) (by simp) (by simp)
  replace hp := hp.alloc (.cells #[.int .i64 0, .int .i64 0, .int .i64 1, .int .i64 0, .int .i64 2] 2)
  replace hR := hR.alloc (.cells #[.int .i64 0, .int .i64 0, .int .i64 1, .int .i64 0, .int .i64 2] 2)
  replace oB := oB.alloc (.cells #[.int .i64 0, .int .i64 0, .int .i64 1, .int .i64 0, .int .i64 2] 2)
  replace hO := Only.more hO ((Ext.refl w4).alloc (.cells #[.int .i64 0, .int .i64 0, .int .i64 1, .int .i64 0, .int .i64 2] 2))
  go_wp2_with fail
  refine hp5.mono ?_
  rintro e w5 ⟨v, rfl, hv, hD5, hO5⟩
  replace hR := hR.only hO5 (by omega)
  replace hp := hp.only hO5 (by omega)
  replace hO := Fr.trans hO hO5
  replace oB := oB.only hO5 (by omega)
  have hvb : 0 ≤ v ∧ v ≤ 2 := by simp only [List.mem_cons, List.not_mem_nil, or_false] at hv; omega
  have hS : OwnS w5 (w.heap.size + 1) ⟨p, ⟨some ⟨w3.heap.size, 0, none⟩, 2, 2⟩, n3, v⟩ ⟨l, [n1, n2], n3, v⟩ := ⟨hp, oB.mono (by omega), ⟨rfl, rfl⟩, fun k h1 h2 => by have a := hpk k h1; have b := ownBlock_eq h2; omega⟩
  have hsm := okP_sm hok
  clear hp oB hp5 hD1 hD2 hD3 hD4 hO1 hO2 hO3 hO4 hO5 hv hok hk4 hk2 hpk
  obtain ⟨r_0, r_1, r_2, r_3, r_4, r_5⟩ := hR.c6
  have z0 := hR.frozen 0
  have z1 := hR.frozen 1
  have z2 := hR.frozen 2
  have z3 := hR.frozen 3
  have z4 := hR.frozen 4
  have z5 := hR.frozen 5
  obtain ⟨m0, m1, m2, m3, m4, m5⟩ := (hR.set6 (.slice p.x.A p.x.n p.x.c) (.slice p.y.A p.y.n p.y.c) (.slice p.z.A p.z.n p.z.c) (.slice (some ⟨w3.heap.size, 0, none⟩) 2 2) (.int .i64 n3) (.int .i64 v)).c6
  have hon := ((((((hS.off w.heap.size 0 (by omega) (.slice p.x.A p.x.n p.x.c)).off w.heap.size 1 (by omega) (.slice p.y.A p.y.n p.y.c)).off w.heap.size 2 (by omega) (.slice p.z.A p.z.n p.z.c)).off w.heap.size 3 (by omega) (.slice (some ⟨w3.heap.size, 0, none⟩) 2 2)).off w.heap.size 4 (by omega) (.int .i64 n3)).off w.heap.size 5 (by omega) (.int .i64 v))
  have hDn := ((((((hD5.off w.heap.size 0 (by omega) (.slice p.x.A p.x.n p.x.c)).off w.heap.size 1 (by omega) (.slice p.y.A p.y.n p.y.c)).off w.heap.size 2 (by omega) (.slice p.z.A p.z.n p.z.c)).off w.heap.size 3 (by omega) (.slice (some ⟨w3.heap.size, 0, none⟩) 2 2)).off w.heap.size 4 (by omega) (.int .i64 n3)).off w.heap.size 5 (by omega) (.int .i64 v))
  have hOn := (Only.off (Only.off (Only.off (Only.off (Only.off (Only.off hO w.heap.size 0 (by omega) (.slice p.x.A p.x.n p.x.c)) w.heap.size 1 (by omega) (.slice p.y.A p.y.n p.y.c)) w.heap.size 2 (by omega) (.slice p.z.A p.z.n p.z.c)) w.heap.size 3 (by omega) (.slice (some ⟨w3.heap.size, 0, none⟩) 2 2)) w.heap.size 4 (by omega) (.int .i64 n3)) w.heap.size 5 (by omega) (.int .i64 v))
  go_wp2_with fail
  refine bodyPost_ret (v := .agg #[.slice p.x.A p.x.n p.x.c, .slice p.y.A p.y.n p.y.c, .slice p.z.A p.z.n p.z.c, .slice (some ⟨w3.heap.size, 0, none⟩) 2 2, .int .i64 n3, .int .i64 v]) (by simp [results, Try.results122, go_sem, m0, m1, m2, m3, m4, m5]) rfl ⟨⟨p, ⟨some ⟨w3.heap.size, 0, none⟩, 2, 2⟩, n3, v⟩, ⟨l, [n1, n2], n3, v⟩, rfl, hon.mono (by omega), ⟨by simp only; omega, by simp, by simp only; omega, by simp only; omega⟩, hDn, hOn⟩
set_option maxRecDepth 20000 in
set_option maxHeartbeats 8000000 in
theorem spec.l14Draw_any (g : Nat) (s : Sl) (w0 w : World) (h : Dr w0 w g s) :
    Calls Try.prog 95 #[.pointer (some ⟨g, 0, none⟩)] w fun e w' => DsP w0 w g s e w' := by
  have hk40 := fun W h => spec.l01Next_any g s 40 w0 W h (by omega)
  have hg := h.lt
  have hR := Blk.new w 51 #[.slice none 0 0, .slice none 0 0, .slice none 0 0, .slice none 0 0, .int .i64 0, .int .i64 0]
  have hO0 : Only g w (w.alloc (.cells #[.slice none 0 0, .slice none 0 0, .slice none 0 0, .slice none 0 0, .int .i64 0, .int .i64 0] 51)) := ((Ext.refl w).alloc _).onl
  go_enter Try.func95, Try.ntmps95
  go_wp2_with fail
  refine (spec.l14Good_any g s w0 _ (h.alloc _)).mono ?_
  rintro e w1 ⟨x, y, rfl, hp, hsm, hD1, hO1⟩
  rw [World.size_alloc] at hp
  replace hR := hR.only hO1 (by omega)
  have hz1 := hR.lt
  replace hO0 := Fr.trans hO0 hO1
  have hG : GsI w0 w g s w.heap.size w1.heap.size x y (w1.alloc (.cells #[.slice x.p.x.A x.p.x.n x.p.x.c, .slice x.p.y.A x.p.y.n x.p.y.c, .slice x.p.z.A x.p.z.n x.p.z.c, .slice x.s.A x.s.n x.s.c, .int .i64 x.t, .int .i64 x.q] 51)) := ⟨hR.alloc _, Blk.new w1 _ _, hp.alloc _, fun k hk => by have := (hp.lt hk).2; omega, hD1.alloc _, Only.more hO0 ((Ext.refl w1).alloc _), hg, Nat.le_refl _, hz1⟩
  replace hsm := hide hsm
  clear hR hO0 hp hD1 hO1
  go_wp2_with fail
  refine (hk40 _ hG.dr).mono ?_
  rintro e w2 ⟨j0, rfl, ⟨j1, j2⟩, hD, hO⟩
  replace hG := hG.only hO hD
  obtain ⟨j, rfl⟩ := Int.eq_ofNat_of_zero_le j1
  clear hD hO hk40 j1 j2
  generalize w1.heap.size = b at hG ⊢
  go_upto_block 0 with fail
  go_cut [] (fun wx => ∃ (x : SelA) (y : SelL), GsI w0 w g s w.heap.size b x y wx ∧ Hid (smS y))
  case first =>
    have hbl := hG.bl
    have hvl := hG.var.lt
    have hgl := hG.dr.lt
    have hbk := fun k (hk : blksS x k) => (hG.own.lt hk).2
    rcases (show j = 0 ∨ j = 1 ∨ j = 2 ∨ j = 3 ∨ j = 4 ∨ 5 ≤ j by omega) with rfl | rfl | rfl | rfl | rfl | hj
    · have cc0 := hG.var.get 0 _ rfl
      go_wp2_with fail
      refine (spec.l12Draw_any g s w0 _ hG.dr).mono ?_
      rintro e w3 ⟨p, l, rfl, hq, hb, hD, hO⟩
      clear cc0
      replace hG := hG.only hO hD
      obtain ⟨c0, c1, c2, c3, c4, c5⟩ := hG.var.c6
      have f0 := hG.var.frozen 0
      have f1 := hG.var.frozen 1
      have f2 := hG.var.frozen 2
      go_wp2_with fail
      go_meet
      exact ⟨_, _, hG.putp hq hbk hvl, hide ⟨hb, hsm.out.2⟩⟩
    · have hp := spec.l01Pick_any g w2.heap.size s [10, 11, -1] w0 (w2.alloc (.cells #[.int .i64 10, .int .i64 11, .int .i64 (-1)] 2)) (hG.dr.alloc _) (Blk.new w2 2 _) (by omega) (by simp) (by simp)
      replace hG := hG.ext ((Ext.refl w2).alloc (.cells #[.int .i64 10, .int .i64 11, .int .i64 (-1)] 2))
      go_wp2_with fail
      refine hp.mono ?_
      rintro e w3 ⟨v, rfl, hv, hD, hO⟩
      have hz3 : w2.heap.size + 1 ≤ w3.heap.size := by have := hO.size; simpa using this
      replace hG := hG.only hO hD
      have hvl3 := hG.var.lt
      simp only [List.mem_cons, List.not_mem_nil, or_false] at hv
      clear hD hO hp
      have hN := (hG.ext ((Ext.refl w3).alloc (.cells #[.int .i64 v, .int .i64 2] 2))).puts (t := ⟨some ⟨w3.heap.size, 0, none⟩, 2, 2⟩) (xs := [v, 2]) (LO := w3.heap.size) (Own.of_blk (Blk.new w3 2 _) (Nat.le_refl _) 2 2 rfl (by omega) (by unfold maxLen; omega) rfl (by omega) rfl) (fun k hk => by have := hbk k hk; omega) (by omega)
      rw [World.setCell_alloc_past _ _ _ _ hvl3] at hN
      have cc := hG.var.get 3 _ rfl
      have ff := hG.var.frozen 3
      go_wp2_with fail
      go_meet
      exact ⟨_, _, hN, hide ⟨hsm.out.1, by simp, hsm.out.2.2⟩⟩
    · have hN := (hG.ext ((Ext.refl w2).alloc (.cells #[.int .i64 2] 2))).puts (t := ⟨some ⟨w2.heap.size, 0, none⟩, 1, 1⟩) (xs := [2]) (LO := w2.heap.size) (Own.of_blk (Blk.new w2 2 _) (Nat.le_refl _) 1 1 rfl (by omega) (by unfold maxLen; omega) rfl (by omega) rfl) (fun k hk => by have := hbk k hk; omega) (by omega)
      rw [World.setCell_alloc_past _ _ _ _ hvl] at hN
      have cc := hG.var.get 3 _ rfl
      have ff := hG.var.frozen 3
      go_wp2_with fail
      go_meet
      exact ⟨_, _, hN, hide ⟨hsm.out.1, by simp, hsm.out.2.2⟩⟩
    · have hp := spec.l01Pick_any g w2.heap.size s [-1, 2] w0 (w2.alloc (.cells #[.int .i64 (-1), .int .i64 2] 2)) (hG.dr.alloc _) (Blk.new w2 2 _) (by omega) (by simp) (by simp)
      replace hG := hG.ext ((Ext.refl w2).alloc (.cells #[.int .i64 (-1), .int .i64 2] 2))
      go_wp2_with fail
      refine hp.mono ?_
      rintro e w3 ⟨v, rfl, hv, hD, hO⟩
      have hz3 : w2.heap.size + 1 ≤ w3.heap.size := by have := hO.size; simpa using this
      replace hG := hG.only hO hD
      have hvl3 := hG.var.lt
      simp only [List.mem_cons, List.not_mem_nil, or_false] at hv
      clear hD hO hp
      have cc := hG.var.get 4 _ rfl
      have ff := hG.var.frozen 4
      go_wp2_with fail
      go_meet
      exact ⟨_, _, hG.putt v, hide ⟨hsm.out.1, hsm.out.2.1, by simp only; omega, hsm.out.2.2.2⟩⟩
    · have hp := spec.l01Pick_any g w2.heap.size s [-1, 3] w0 (w2.alloc (.cells #[.int .i64 (-1), .int .i64 3] 2)) (hG.dr.alloc _) (Blk.new w2 2 _) (by omega) (by simp) (by simp)
      replace hG := hG.ext ((Ext.refl w2).alloc (.cells #[.int .i64 (-1), .int .i64 3] 2))
      go_wp2_with fail
      refine hp.mono ?_
      rintro e w3 ⟨v, rfl, hv, hD, hO⟩
      have hz3 : w2.heap.size + 1 ≤ w3.heap.size := by have := hO.size; simpa using this
      replace hG := hG.only hO hD
      have hvl3 := hG.var.lt
      simp only [List.mem_cons, List.not_mem_nil, or_false] at hv
      clear hD hO hp
      have cc := hG.var.get 5 _ rfl
      have ff := hG.var.frozen 5
      go_wp2_with fail
      go_meet
      exact ⟨_, _, hG.putq v, hide ⟨hsm.out.1, hsm.out.2.1, hsm.out.2.2.1, by simp only; omega⟩⟩
    · have e0 : ((j : Int) == 0) = false := by rw [beq_eq_false_iff_ne]; omega
      have e1 : ((j : Int) == 1) = false := by rw [beq_eq_false_iff_ne]; omega
      have e2 : ((j : Int) == 2) = false := by rw [beq_eq_false_iff_ne]; omega
      have e3 : ((j : Int) == 3) = false := by rw [beq_eq_false_iff_ne]; omega
      have e4 : ((j : Int) == 4) = false := by rw [beq_eq_false_iff_ne]; omega
      go_wp2_with fail
      go_meet
      exact ⟨_, _, hG, hsm⟩
  case rest =>
    clear hG hsm
    obtain ⟨x, y, hG, hsm⟩ := hcut
    have hR := hG.res
    have hS := hG.own
    have hD5 := hG.dr
    have hO := hG.onl
    have hgl := hG.gl
    have hbl := hG.bl
    obtain ⟨c0, c1, c2, c3, c4, c5⟩ := hG.var.c6
    obtain ⟨r_0, r_1, r_2, r_3, r_4, r_5⟩ := hR.c6
    have z0 := hR.frozen 0
    have z1 := hR.frozen 1
    have z2 := hR.frozen 2
    have z3 := hR.frozen 3
    have z4 := hR.frozen 4
    have z5 := hR.frozen 5
    obtain ⟨m0, m1, m2, m3, m4, m5⟩ := (hR.set6 (.slice x.p.x.A x.p.x.n x.p.x.c) (.slice x.p.y.A x.p.y.n x.p.y.c) (.slice x.p.z.A x.p.z.n x.p.z.c) (.slice x.s.A x.s.n x.s.c) (.int .i64 x.t) (.int .i64 x.q)).c6
    have hon := ((((((hS.off w.heap.size 0 (by omega) (.slice x.p.x.A x.p.x.n x.p.x.c)).off w.heap.size 1 (by omega) (.slice x.p.y.A x.p.y.n x.p.y.c)).off w.heap.size 2 (by omega) (.slice x.p.z.A x.p.z.n x.p.z.c)).off w.heap.size 3 (by omega) (.slice x.s.A x.s.n x.s.c)).off w.heap.size 4 (by omega) (.int .i64 x.t)).off w.heap.size 5 (by omega) (.int .i64 x.q))
    have hDn := ((((((hD5.off w.heap.size 0 (by omega) (.slice x.p.x.A x.p.x.n x.p.x.c)).off w.heap.size 1 (by omega) (.slice x.p.y.A x.p.y.n x.p.y.c)).off w.heap.size 2 (by omega) (.slice x.p.z.A x.p.z.n x.p.z.c)).off w.heap.size 3 (by omega) (.slice x.s.A x.s.n x.s.c)).off w.heap.size 4 (by omega) (.int .i64 x.t)).off w.heap.size 5 (by omega) (.int .i64 x.q))
    have hOn := (Only.off (Only.off (Only.off (Only.off (Only.off (Only.off hO w.heap.size 0 (by omega) (.slice x.p.x.A x.p.x.n x.p.x.c)) w.heap.size 1 (by omega) (.slice x.p.y.A x.p.y.n x.p.y.c)) w.heap.size 2 (by omega) (.slice x.p.z.A x.p.z.n x.p.z.c)) w.heap.size 3 (by omega) (.slice x.s.A x.s.n x.s.c)) w.heap.size 4 (by omega) (.int .i64 x.t)) w.heap.size 5 (by omega) (.int .i64 x.q))
    go_wp2_with fail
    refine bodyPost_ret (v := .agg #[.slice x.p.x.A x.p.x.n x.p.x.c, .slice x.p.y.A x.p.y.n x.p.y.c, .slice x.p.z.A x.p.z.n x.p.z.c, .slice x.s.A x.s.n x.s.c, .int .i64 x.t, .int .i64 x.q]) (by simp [results, Try.results95, go_sem, m0, m1, m2, m3, m4, m5]) rfl ⟨x, y, rfl, hon.mono (by omega), hsm.out, hDn, hOn⟩
section
variable (w : World)
set_option maxRecDepth 20000 in
theorem run_mknS (n : Nat) (hn : n ≤ 16777216) : (Instr.makeSlice 24 (.int .i64 (n : Int)) (.int .i64 (n : Int))).run Try.prog w = .ok (.slice (some ⟨w.heap.size, 0, none⟩) n n) (w.alloc (.cells (madeCells #[.int .i64 0] n) 2)) := by
  obtain ⟨i, hi, hz0, hz1, hz2⟩ := info_parts ints_info
  have hr := run_make (P := Try.prog) w 24 2 i (.int .i64 0) Try.underlying24 hi hz0 .i64 .i64 n n (by omega) (by omega) (by rw [hz2]; omega) (by omega)
  simp only [hz1, Int.toNat_natCast, Nat.mul_one] at hr
  exact hr
theorem Own.mknS (lo n : Nat) (hl : lo ≤ w.heap.size) (hn : n ≤ 16777216) : Own (w.alloc (.cells (madeCells #[.int .i64 0] n) 2)) lo (.slice (some ⟨w.heap.size, 0, none⟩) n n) (List.replicate n 0) :=
  Own.of_blk (Blk.new w 2 _) hl n n (by simp) (Nat.le_refl _) (by unfold maxLen; omega) (by rw [← Array.length_toList, toList_madeCells_one, List.length_replicate]) hn (by rw [toList_madeCells_one]; simp)
end
/-- moves, or nearly -/
def mvR (xs : List Int) : Prop := ∀ x ∈ xs, -2 ≤ x ∧ x ≤ 12
theorem mvR_app {xs : List Int} {y : Int} (h : mvR xs) (h1 : -2 ≤ y) (h2 : y ≤ 12) : mvR (xs ++ [y]) := fun x hx => by
  rcases List.mem_append.1 hx with h' | h'
  · exact h x h'
  · have := List.mem_singleton.1 h'
    omega
theorem mvR_zeros (n : Nat) : mvR (List.replicate n 0) := fun x hx => by
  have := List.eq_of_mem_replicate hx
  omega
theorem Only.grow {g : Nat} {w w' w'' : World} {row : Option Nat} (h : Only g w w') (hg : w'.grownBy w'' row) (hr : ∀ k, row = some k → w.heap.size ≤ k) : Only g w w'' :=
  ⟨hg.os.trans h.os, hg.tape.trans h.tape, hg.output.trans h.output, Nat.le_trans h.size hg.size, fun k hk hne => (hg.block k (Nat.lt_of_lt_of_le hk h.size) (fun e => by have := hr k e.symm; omega)).trans (h.block k hk hne)⟩
def DmP (w0 w : World) (g : Nat) (s : Sl) (e : Ending) (w' : World) : Prop :=
  ∃ (t : Sl) (xs : List Int), e = .returned (.slice t.A t.n t.c) ∧ Own w' w.heap.size (.slice t.A t.n t.c) xs ∧ mvR xs ∧ xs.length ≤ 41 ∧ Dr w0 w' g s ∧ Only g w w'
set_option maxRecDepth 20000 in
set_option maxHeartbeats 4000000 in
theorem spec.l14Moves_any (g : Nat) (s : Sl) (w0 w : World) (h : Dr w0 w g s) :
    Calls Try.prog 98 #[.pointer (some ⟨g, 0, none⟩)] w fun e w' => DmP w0 w g s e w' := by
  have hk7 := fun W h => spec.l01Next_any g s 7 w0 W h (by omega)
  have hk5 := fun W h => spec.l01Next_any g s 5 w0 W h (by omega)
  have hk30 := fun W h => spec.l01Next_any g s 30 w0 W h (by omega)
  have hk2 := fun W h => spec.l01Next_any g s 2 w0 W h (by omega)
  have hg := h.lt
  have ho0 := Own.new0 w w.heap.size (Nat.le_refl _)
  have hX0 := (Ext.refl w).alloc (.cells #[] 2)
  go_enter Try.func98, Try.ntmps98
  go_wp2_with fail
  refine (hk7 _ (h.more hX0)).mono ?_
  rintro e w1 ⟨x, rfl, ⟨x0, x1⟩, hD, hO⟩
  obtain ⟨j, rfl⟩ := Int.eq_ofNat_of_zero_le x0
  have hj : j ≤ 6 := by omega
  have hI : ∃ (t : Sl) (xs : List Int), Value.slice (some ⟨w.heap.size, 0, none⟩) 0 0 = .slice t.A t.n t.c ∧ Own w1 w.heap.size (.slice t.A t.n t.c) xs ∧ mvR xs ∧ xs.length + j ≤ 6 ∧ Dr w0 w1 g s ∧ Only g w w1 :=
    ⟨⟨_, _, _⟩, [], rfl, ho0.fr hO (fun k hk e => by have := (ho0.lt k hk).1; omega), (fun x hx => by cases hx), by simpa using hj, hD, Fr.trans hX0.fr hO⟩
  clear hk7 x0 x1 hD hO ho0 hX0
  go_wp2_with fail
  go_loopw [3, 4] (fun tv nv wr => ∃ (m : Nat) (t : Sl) (xs : List Int), nv = .int .i64 m ∧ tv = .slice t.A t.n t.c ∧ Own wr w.heap.size (.slice t.A t.n t.c) xs ∧ mvR xs ∧ xs.length + m ≤ 6 ∧ Dr w0 wr g s ∧ Only g w wr) (fun _ nv _ => (intOf nv).toNat)
  case atStart =>
    obtain ⟨t, xs, e, a, b, c, d, f⟩ := hI
    exact ⟨j, t, xs, rfl, e, a, b, c, d, f⟩
  case round =>
    clear hI
    obtain ⟨m, t, xs, rfl, rfl, ho, hm, hl, hD, hO⟩ := hrel
    have hz := hO.size
    have hbl := ho.lt
    by_cases hi : 0 < m
    · have hi' : (0 : Int) < (m : Int) := by omega
      have hwi : IntKind.i64.wrap ((m : Int) - 1) = ((m - 1 : Nat) : Int) := by rw [Go.IntWalk.i64_in _ (by omega)]; omega
      go_wp2_with fail
      refine (hk5 _ hD).mono ?_
      rintro e w2 ⟨a, rfl, ⟨a0, a1⟩, hD2, hO2⟩
      replace ho := ho.fr hO2 (fun k hk e => by have := (ho.lt k hk).1; omega)
      replace hO := Fr.trans hO hO2
      clear hD hO2
      go_wp2_with fail
      refine (hk5 _ hD2).mono ?_
      rintro e w3 ⟨b, rfl, ⟨b0, b1⟩, hD3, hO3⟩
      replace ho := ho.fr hO3 (fun k hk e => by have := (ho.lt k hk).1; omega)
      replace hO := Fr.trans hO hO3
      clear hD2 hO3
      have hp := spec.l01Pick_any g w3.heap.size s [a, b, -1] w0 (w3.alloc (.cells #[.int .i64 a, .int .i64 b, .int .i64 (-1)] 2)) (hD3.alloc _) (Blk.new w3 2 _) (by have := hD3.lt; omega) (by simp) (by simp)
      replace ho := ho.ext ((Ext.refl w3).alloc (.cells #[.int .i64 a, .int .i64 b, .int .i64 (-1)] 2))
      replace hO := Only.more hO ((Ext.refl w3).alloc (.cells #[.int .i64 a, .int .i64 b, .int .i64 (-1)] 2))
      have hz3 := hO.size
      go_wp2_with fail
      refine hp.mono ?_
      rintro e w4 ⟨y, rfl, hy, hD4, hO4⟩
      have hyb : -2 ≤ y ∧ y ≤ 12 := by
        simp only [List.mem_cons, List.not_mem_nil, or_false] at hy
        omega
      replace ho := ho.fr hO4 (fun k hk e => by have := (ho.lt k hk).1; omega)
      replace hO := Fr.trans hO hO4
      have hz4 := hO.size
      have hlo := ho.lt
      clear hD3 hO4 hp hy hz3
      have hV := Rd.one w4 y
      go_wp2_with (at_builtin; refine wpList_app _ rfl (.tmp 12) (.tmp 20) rfl w.heap.size _ _ rfl (ho.alloc _) _ _ _ [y] rfl hV (by omega) (by simp; omega) ?_; intro t1 w5 ho1 hg1 hb1)
      go_roundw
      case rel => exact ⟨m - 1, t1, xs ++ [y], by go_num, rfl, ho1, mvR_app hm hyb.1 hyb.2, by simp; omega, (hD4.alloc _).keep (Fr.of_grown hg1) (fun e => by have := (hlo _ e).1; omega) (fun k e => by have := (hlo _ e).1; have := h.ext.size; omega), Only.grow (Only.more hO ((Ext.refl w4).alloc _)) hg1 (fun k e => (hlo k e).1)⟩
      case measure => simp [intOf]; omega
    · have hi' : ¬ (0 : Int) < (m : Int) := by omega
      go_wp2_with fail
      refine (hk30 _ hD).mono ?_
      rintro e w2 ⟨x, rfl, ⟨x0, x1⟩, hD2, hO2⟩
      replace ho := ho.fr hO2 (fun k hk e => by have := (ho.lt k hk).1; omega)
      replace hO := Fr.trans hO hO2
      obtain ⟨j2, rfl⟩ := Int.eq_ofNat_of_zero_le x0
      clear hD hO2 hk5 hk30 x0 x1
      have hz2 := hO.size
      rcases (show j2 = 0 ∨ j2 = 1 ∨ 2 ≤ j2 by omega) with rfl | rfl | hj2
      · have hp := spec.l01Pick_any g w2.heap.size s [11, 12, -2] w0 (w2.alloc (.cells #[.int .i64 11, .int .i64 12, .int .i64 (-2)] 2)) (hD2.alloc _) (Blk.new w2 2 _) (by have := hD2.lt; omega) (by simp) (by simp)
        replace ho := ho.ext ((Ext.refl w2).alloc (.cells #[.int .i64 11, .int .i64 12, .int .i64 (-2)] 2))
        replace hO := Only.more hO ((Ext.refl w2).alloc (.cells #[.int .i64 11, .int .i64 12, .int .i64 (-2)] 2))
        go_wp2_with fail
        refine hp.mono ?_
        rintro e w4 ⟨y, rfl, hy, hD4, hO4⟩
        have hyb : -2 ≤ y ∧ y ≤ 12 := by
          simp only [List.mem_cons, List.not_mem_nil, or_false] at hy
          omega
        replace ho := ho.fr hO4 (fun k hk e => by have := (ho.lt k hk).1; omega)
        replace hO := Fr.trans hO hO4
        have hz4 := hO.size
        have hlo := ho.lt
        clear hD2 hO4 hp hy
        have hV := Rd.one w4 y
        go_wp2_with (at_builtin; refine wpList_app _ rfl (.tmp 26) (.tmp 30) rfl w.heap.size _ _ rfl (ho.alloc _) _ _ _ [y] rfl hV (by omega) (by simp; omega) ?_; intro t1 w5 ho1 hg1 hb1)
        go_ret
        exact ⟨t1, xs ++ [y], rfl, ho1, mvR_app hm hyb.1 hyb.2, by simp; omega, (hD4.alloc _).keep (Fr.of_grown hg1) (fun e => by have := (hlo _ e).1; omega) (fun k e => by have := (hlo _ e).1; have := h.ext.size; omega), Only.grow (Only.more hO ((Ext.refl w4).alloc _)) hg1 (fun k e => (hlo k e).1)⟩
      · go_wp2_with fail
        refine (hk2 _ hD2).mono ?_
        rintro e w4 ⟨x, rfl, ⟨x0, x1⟩, hD4, hO4⟩
        replace hO := Fr.trans hO hO4
        have hz4 := hO.size
        obtain ⟨a, rfl⟩ := Int.eq_ofNat_of_zero_le x0
        obtain ⟨N, hN⟩ : ∃ N, Hid (N = 40 + a) := ⟨_, rfl⟩
        have hNb : N ≤ 41 := by have := hN.out; omega
        have hwa : IntKind.i64.wrap (40 + (a : Int)) = (N : Int) := by rw [Go.IntWalk.i64_in _ (by omega), hN.out]; simp
        have hmk := fun W : World => run_mknS W N (by omega)
        have ho1 := Own.mknS w4 w.heap.size N hz4 (by omega)
        clear hD2 hO4 x0 x1 hk2
        go_wp2_with fail
        go_ret
        exact ⟨⟨_, _, _⟩, _, rfl, ho1, mvR_zeros N, by simpa using hNb, hD4.alloc _, Only.more hO ((Ext.refl w4).alloc _)⟩
      · have e0 : ((j2 : Int) == 0) = false := by rw [beq_eq_false_iff_ne]; omega
        have e1 : ((j2 : Int) == 1) = false := by rw [beq_eq_false_iff_ne]; omega
        go_wp2_with fail
        go_ret
        exact ⟨t, xs, rfl, ho, hm, by omega, hD2, hO⟩
set_option maxRecDepth 20000 in
set_option maxHeartbeats 4000000 in
theorem spec.DrawPassTurn_any (s : Sl) (w : World) (hc : Code w s) :
    Calls Try.prog 39 #[.slice s.A s.n s.c] w fun e w' => ∃ (x : SelA) (y : SelL), e = .returned (.agg #[.slice x.p.x.A x.p.x.n x.p.x.c, .slice x.p.y.A x.p.y.n x.p.y.c, .slice x.p.z.A x.p.z.n x.p.z.c, .slice x.s.A x.s.n x.s.c, .int .i64 x.t, .int .i64 x.q]) ∧ OwnS w' w.heap.size x y ∧ smS y ∧ Ext w w' := by
  have hR := Blk.new w 51 #[.slice none 0 0, .slice none 0 0, .slice none 0 0, .slice none 0 0, .int .i64 0, .int .i64 0]
  have hX := (Ext.refl w).alloc (.cells #[.slice none 0 0, .slice none 0 0, .slice none 0 0, .slice none 0 0, .int .i64 0, .int .i64 0] 51)
  go_enter Try.func39, Try.ntmps39
  go_wp2_with fail
  refine (spec.l01From_any s w _ hX hc).mono ?_
  rintro e w1 ⟨g, rfl, hg, hD, hx1⟩
  rw [World.size_alloc] at hg
  replace hR := hR.ext hx1
  replace hX := hX.trans hx1
  have hz1 := hR.lt
  have hgl := hD.lt
  clear hx1
  go_wp2_with fail
  refine (spec.l14Draw_any g s w _ hD).mono ?_
  rintro e w2 ⟨x, y, rfl, hp, hsm, hD2, hO⟩
  replace hR := hR.only hO (by omega)
  replace hX := hX.only hO (by omega)
  have hz2 := hO.size
  have hpn : ∀ k, blksS x k → k ≠ w2.heap.size := fun k hk => by have := (hp.lt hk).2; omega
  clear hD hO
  replace hsm := hide hsm
  clear hD2
  obtain ⟨r_0, r_1, r_2, r_3, r_4, r_5⟩ := hR.c6
  have z0 := hR.frozen 0
  have z1 := hR.frozen 1
  have z2 := hR.frozen 2
  have z3 := hR.frozen 3
  have z4 := hR.frozen 4
  have z5 := hR.frozen 5
  obtain ⟨m0, m1, m2, m3, m4, m5⟩ := (hR.set6 (.slice x.p.x.A x.p.x.n x.p.x.c) (.slice x.p.y.A x.p.y.n x.p.y.c) (.slice x.p.z.A x.p.z.n x.p.z.c) (.slice x.s.A x.s.n x.s.c) (.int .i64 x.t) (.int .i64 x.q)).c6
  have hon := ((((((hp.off w.heap.size 0 (by omega) (.slice x.p.x.A x.p.x.n x.p.x.c)).off w.heap.size 1 (by omega) (.slice x.p.y.A x.p.y.n x.p.y.c)).off w.heap.size 2 (by omega) (.slice x.p.z.A x.p.z.n x.p.z.c)).off w.heap.size 3 (by omega) (.slice x.s.A x.s.n x.s.c)).off w.heap.size 4 (by omega) (.int .i64 x.t)).off w.heap.size 5 (by omega) (.int .i64 x.q))
  have hOn := ((((((hX.off w.heap.size 0 (by omega) (.slice x.p.x.A x.p.x.n x.p.x.c)).off w.heap.size 1 (by omega) (.slice x.p.y.A x.p.y.n x.p.y.c)).off w.heap.size 2 (by omega) (.slice x.p.z.A x.p.z.n x.p.z.c)).off w.heap.size 3 (by omega) (.slice x.s.A x.s.n x.s.c)).off w.heap.size 4 (by omega) (.int .i64 x.t)).off w.heap.size 5 (by omega) (.int .i64 x.q))
  go_wp2_with fail
  refine bodyPost_ret (v := .agg #[.slice x.p.x.A x.p.x.n x.p.x.c, .slice x.p.y.A x.p.y.n x.p.y.c, .slice x.p.z.A x.p.z.n x.p.z.c, .slice x.s.A x.s.n x.s.c, .int .i64 x.t, .int .i64 x.q]) (by simp [results, Try.results39, go_sem, m0, m1, m2, m3, m4, m5]) rfl ⟨x, y, rfl, hon.mono (by omega), hsm.out, hOn⟩
set_option maxRecDepth 20000 in
set_option maxHeartbeats 4000000 in
theorem spec.DrawStrikeSeat_any (s : Sl) (w : World) (hc : Code w s) :
    Calls Try.prog 33 #[.slice s.A s.n s.c] w fun e w' => ∃ (x : SelA) (y : SelL) (k : Int), e = .returned (.tuple #[.agg #[.slice x.p.x.A x.p.x.n x.p.x.c, .slice x.p.y.A x.p.y.n x.p.y.c, .slice x.p.z.A x.p.z.n x.p.z.c, .slice x.s.A x.s.n x.s.c, .int .i64 x.t, .int .i64 x.q], .int .i64 k]) ∧ OwnS w' w.heap.size x y ∧ smS y ∧ Ext w w' := by
  have hR := Blk.new w 51 #[.slice none 0 0, .slice none 0 0, .slice none 0 0, .slice none 0 0, .int .i64 0, .int .i64 0]
  have hX := (Ext.refl w).alloc (.cells #[.slice none 0 0, .slice none 0 0, .slice none 0 0, .slice none 0 0, .int .i64 0, .int .i64 0] 51)
  go_enter Try.func33, Try.ntmps33
  go_wp2_with fail
  refine (spec.l01From_any s w _ hX hc).mono ?_
  rintro e w1 ⟨g, rfl, hg, hD, hx1⟩
  rw [World.size_alloc] at hg
  replace hR := hR.ext hx1
  replace hX := hX.trans hx1
  have hz1 := hR.lt
  have hgl := hD.lt
  clear hx1
  go_wp2_with fail
  refine (spec.l14Draw_any g s w _ hD).mono ?_
  rintro e w2 ⟨x, y, rfl, hp, hsm, hD2, hO⟩
  replace hR := hR.only hO (by omega)
  replace hX := hX.only hO (by omega)
  have hz2 := hO.size
  have hpn : ∀ k, blksS x k → k ≠ w2.heap.size := fun k hk => by have := (hp.lt hk).2; omega
  clear hD hO
  replace hsm := hide hsm
  have hB := Blk.new w2 51 #[.slice x.p.x.A x.p.x.n x.p.x.c, .slice x.p.y.A x.p.y.n x.p.y.c, .slice x.p.z.A x.p.z.n x.p.z.c, .slice x.s.A x.s.n x.s.c, .int .i64 x.t, .int .i64 x.q]
  replace hp := hp.alloc (.cells #[.slice x.p.x.A x.p.x.n x.p.x.c, .slice x.p.y.A x.p.y.n x.p.y.c, .slice x.p.z.A x.p.z.n x.p.z.c, .slice x.s.A x.s.n x.s.c, .int .i64 x.t, .int .i64 x.q] 51)
  replace hR := hR.alloc (.cells #[.slice x.p.x.A x.p.x.n x.p.x.c, .slice x.p.y.A x.p.y.n x.p.y.c, .slice x.p.z.A x.p.z.n x.p.z.c, .slice x.s.A x.s.n x.s.c, .int .i64 x.t, .int .i64 x.q] 51)
  replace hX := hX.alloc (.cells #[.slice x.p.x.A x.p.x.n x.p.x.c, .slice x.p.y.A x.p.y.n x.p.y.c, .slice x.p.z.A x.p.z.n x.p.z.c, .slice x.s.A x.s.n x.s.c, .int .i64 x.t, .int .i64 x.q] 51)
  replace hD2 := hD2.alloc (.cells #[.slice x.p.x.A x.p.x.n x.p.x.c, .slice x.p.y.A x.p.y.n x.p.y.c, .slice x.p.z.A x.p.z.n x.p.z.c, .slice x.s.A x.s.n x.s.c, .int .i64 x.t, .int .i64 x.q] 51)
  have n1 : ¬ w.heap.size = w2.heap.size := by omega
  have n2 : ¬ w2.heap.size = w.heap.size := by omega
  have n3 : w2.heap.size ≠ w.heap.size := n2
  have hpx : x.p.x.n ≤ 12 := by have a := hp.1.rd.1.1; have b := hsm.out.1.1; omega
  obtain ⟨N, hN⟩ : ∃ N, Hid (N = x.p.x.n + 1) := ⟨_, rfl⟩
  have hNb : N ≤ 13 := by have := hN.out; omega
  have hwN : IntKind.i64.wrap ((x.p.x.n : Int) + 1) = (N : Int) := by rw [Go.IntWalk.i64_in _ (by omega), hN.out]; simp
  replace hp := hp.drew
  replace hR := hR.drew
  replace hX := hX.drew
  replace hB := hB.drew
  replace hD2 := hD2.drew
  have hkA := spec.l01Next_any g s (N : Int) w _ hD2 (by omega)
  have hkB := fun W h => spec.l01Next_any g s 24 w W h (by omega)
  have k0 := hB.c6
  go_wp2_with fail
  go_region_held3 (fun w' => w'.cell? ⟨w2.heap.size, 0, none⟩ = some (.slice x.p.x.A x.p.x.n x.p.x.c) ∧ w'.cell? ⟨w2.heap.size, 1, none⟩ = some (.slice x.p.y.A x.p.y.n x.p.y.c) ∧ w'.cell? ⟨w2.heap.size, 2, none⟩ = some (.slice x.p.z.A x.p.z.n x.p.z.c) ∧ w'.cell? ⟨w2.heap.size, 3, none⟩ = some (.slice x.s.A x.s.n x.s.c) ∧ w'.cell? ⟨w2.heap.size, 4, none⟩ = some (.int .i64 x.t) ∧ w'.cell? ⟨w2.heap.size, 5, none⟩ = some (.int .i64 x.q)) (first | with_reducible exact k2 | with_reducible exact k1 | with_reducible exact kA | with_reducible exact k0 | go_keep | fail) (first | (go_at_call 67; refine hkA.mono ?_; rintro e w8 ⟨a, rfl, ⟨a0, a1⟩, hD8, hO8⟩; clear hkA; replace hB := hB.only hO8 (by omega); replace hR := hR.only hO8 (by omega); replace hX := hX.only hO8 (by omega); replace hp := hp.only hO8 (by omega); have kA := hB.c6; have ha : a < 13 := (by omega)) | (go_at_call 67; refine (hkB _ hD8).mono ?_; rintro e w9 ⟨b, rfl, ⟨b0, b1⟩, hD9, hO9⟩; replace hB := hB.only hO9 (by omega); replace hR := hR.only hO9 (by omega); replace hX := hX.only hO9 (by omega); replace hp := hp.only hO9 (by omega); have hq0 : 0 ≤ b / 23 := Int.ediv_nonneg b0 (by decide); have hq1 : b / 23 ≤ 1 := (by omega); have hwq : IntKind.i64.wrap (b / 23) = b / 23 := Go.IntWalk.i64_in _ (by omega); have hws : IntKind.i64.wrap (a - b / 23) = a - b / 23 := Go.IntWalk.i64_in _ (by omega); have hwt : IntKind.i64.wrap (a - IntKind.i64.wrap (b.tdiv 23)) = a - b / 23 := (by rw [Int.tdiv_eq_ediv_of_nonneg b0, hwq, hws]); obtain ⟨r_0, r_1, r_2, r_3, r_4, r_5⟩ := hR.c6; have z0 := hR.frozen 0; have z1 := hR.frozen 1; have z2 := hR.frozen 2; have z3 := hR.frozen 3; have z4 := hR.frozen 4; have z5 := hR.frozen 5; have k1 := hB.c6; have k2 := ((((((hB.off w.heap.size 0 n3 (.slice x.p.x.A x.p.x.n x.p.x.c)).off w.heap.size 1 n3 (.slice x.p.y.A x.p.y.n x.p.y.c)).off w.heap.size 2 n3 (.slice x.p.z.A x.p.z.n x.p.z.c)).off w.heap.size 3 n3 (.slice x.s.A x.s.n x.s.c)).off w.heap.size 4 n3 (.int .i64 x.t)).off w.heap.size 5 n3 (.int .i64 x.q)).c6) | fail)
  clear k0 kA k1 k2
  obtain ⟨m0, m1, m2, m3, m4, m5⟩ := (hR.set6 (.slice x.p.x.A x.p.x.n x.p.x.c) (.slice x.p.y.A x.p.y.n x.p.y.c) (.slice x.p.z.A x.p.z.n x.p.z.c) (.slice x.s.A x.s.n x.s.c) (.int .i64 x.t) (.int .i64 x.q)).c6
  have hon := ((((((hp.off w.heap.size 0 (by omega) (.slice x.p.x.A x.p.x.n x.p.x.c)).off w.heap.size 1 (by omega) (.slice x.p.y.A x.p.y.n x.p.y.c)).off w.heap.size 2 (by omega) (.slice x.p.z.A x.p.z.n x.p.z.c)).off w.heap.size 3 (by omega) (.slice x.s.A x.s.n x.s.c)).off w.heap.size 4 (by omega) (.int .i64 x.t)).off w.heap.size 5 (by omega) (.int .i64 x.q))
  have hOn := ((((((hX.off w.heap.size 0 (by omega) (.slice x.p.x.A x.p.x.n x.p.x.c)).off w.heap.size 1 (by omega) (.slice x.p.y.A x.p.y.n x.p.y.c)).off w.heap.size 2 (by omega) (.slice x.p.z.A x.p.z.n x.p.z.c)).off w.heap.size 3 (by omega) (.slice x.s.A x.s.n x.s.c)).off w.heap.size 4 (by omega) (.int .i64 x.t)).off w.heap.size 5 (by omega) (.int .i64 x.q))
  go_wp2_with fail
  refine bodyPost_ret (v := .tuple #[.agg #[.slice x.p.x.A x.p.x.n x.p.x.c, .slice x.p.y.A x.p.y.n x.p.y.c, .slice x.p.z.A x.p.z.n x.p.z.c, .slice x.s.A x.s.n x.s.c, .int .i64 x.t, .int .i64 x.q], .int .i64 (a - b / 23)]) (by simp [results, Try.results33, go_sem, m0, m1, m2, m3, m4, m5]) rfl ⟨x, y, _, rfl, hon.mono (by omega), hsm.out, hOn⟩
set_option maxRecDepth 20000 in
set_option maxHeartbeats 4000000 in
theorem spec.DrawPlayMoves_any (s : Sl) (w : World) (hc : Code w s) :
    Calls Try.prog 36 #[.slice s.A s.n s.c] w fun e w' => ∃ (x : SelA) (y : SelL) (t : Sl) (ms : List Int), e = .returned (.tuple #[.agg #[.slice x.p.x.A x.p.x.n x.p.x.c, .slice x.p.y.A x.p.y.n x.p.y.c, .slice x.p.z.A x.p.z.n x.p.z.c, .slice x.s.A x.s.n x.s.c, .int .i64 x.t, .int .i64 x.q], .slice t.A t.n t.c]) ∧ OwnS w' w.heap.size x y ∧ smS y ∧ Own w' w.heap.size (.slice t.A t.n t.c) ms ∧ ms.length ≤ 41 ∧ Ext w w' := by
  have hR := Blk.new w 51 #[.slice none 0 0, .slice none 0 0, .slice none 0 0, .slice none 0 0, .int .i64 0, .int .i64 0]
  have hX := (Ext.refl w).alloc (.cells #[.slice none 0 0, .slice none 0 0, .slice none 0 0, .slice none 0 0, .int .i64 0, .int .i64 0] 51)
  go_enter Try.func36, Try.ntmps36
  go_wp2_with fail
  refine (spec.l01From_any s w _ hX hc).mono ?_
  rintro e w1 ⟨g, rfl, hg, hD, hx1⟩
  rw [World.size_alloc] at hg
  replace hR := hR.ext hx1
  replace hX := hX.trans hx1
  have hz1 := hR.lt
  have hgl := hD.lt
  clear hx1
  go_wp2_with fail
  refine (spec.l14Draw_any g s w _ hD).mono ?_
  rintro e w2 ⟨x, y, rfl, hp, hsm, hD2, hO⟩
  replace hR := hR.only hO (by omega)
  replace hX := hX.only hO (by omega)
  have hz2 := hO.size
  have hpn : ∀ k, blksS x k → k ≠ w2.heap.size := fun k hk => by have := (hp.lt hk).2; omega
  clear hD hO
  replace hsm := hide hsm
  have hB := Blk.new w2 51 #[.slice x.p.x.A x.p.x.n x.p.x.c, .slice x.p.y.A x.p.y.n x.p.y.c, .slice x.p.z.A x.p.z.n x.p.z.c, .slice x.s.A x.s.n x.s.c, .int .i64 x.t, .int .i64 x.q]
  replace hp := hp.alloc (.cells #[.slice x.p.x.A x.p.x.n x.p.x.c, .slice x.p.y.A x.p.y.n x.p.y.c, .slice x.p.z.A x.p.z.n x.p.z.c, .slice x.s.A x.s.n x.s.c, .int .i64 x.t, .int .i64 x.q] 51)
  replace hR := hR.alloc (.cells #[.slice x.p.x.A x.p.x.n x.p.x.c, .slice x.p.y.A x.p.y.n x.p.y.c, .slice x.p.z.A x.p.z.n x.p.z.c, .slice x.s.A x.s.n x.s.c, .int .i64 x.t, .int .i64 x.q] 51)
  replace hX := hX.alloc (.cells #[.slice x.p.x.A x.p.x.n x.p.x.c, .slice x.p.y.A x.p.y.n x.p.y.c, .slice x.p.z.A x.p.z.n x.p.z.c, .slice x.s.A x.s.n x.s.c, .int .i64 x.t, .int .i64 x.q] 51)
  replace hD2 := hD2.alloc (.cells #[.slice x.p.x.A x.p.x.n x.p.x.c, .slice x.p.y.A x.p.y.n x.p.y.c, .slice x.p.z.A x.p.z.n x.p.z.c, .slice x.s.A x.s.n x.s.c, .int .i64 x.t, .int .i64 x.q] 51)
  have n1 : ¬ w.heap.size = w2.heap.size := by omega
  have n2 : ¬ w2.heap.size = w.heap.size := by omega
  have n3 : w2.heap.size ≠ w.heap.size := n2
  have hpb := fun k (hk : blksS x k) => (hp.lt hk)
  have hk3 := fun W h => spec.l01Next_any g s 3 w W h (by omega)
  go_wp2_with fail
  refine (hk3 _ hD2).mono ?_
  rintro e w3 ⟨j, rfl, ⟨j0, j1⟩, hD3, hO3⟩
  replace hB := hB.only hO3 (by omega)
  replace hR := hR.only hO3 (by omega)
  replace hX := hX.only hO3 (by omega)
  replace hp := hp.only hO3 (by omega)
  clear hD2 hk3
  go_upto_if 12 with fail
  go_cut [] (fun wx => ∃ (x : SelA) (y : SelL), Blk wx w2.heap.size 51 #[.slice x.p.x.A x.p.x.n x.p.x.c, .slice x.p.y.A x.p.y.n x.p.y.c, .slice x.p.z.A x.p.z.n x.p.z.c, .slice x.s.A x.s.n x.s.c, .int .i64 x.t, .int .i64 x.q] ∧ Blk wx w.heap.size 51 #[.slice none 0 0, .slice none 0 0, .slice none 0 0, .slice none 0 0, .int .i64 0, .int .i64 0] ∧ OwnS wx w1.heap.size x y ∧ Hid (smS y) ∧ Ext w wx ∧ Dr w wx g s)
  case first =>
    by_cases hj : 0 < j
    · have cc := hB.get 5 _ rfl
      have ff := hB.frozen 5
      go_wp2_with fail
      go_meet
      exact ⟨⟨x.p, x.s, x.t, 0⟩, ⟨y.p, y.s, y.t, 0⟩, hB.set_ 5 _, hR.off _ 5 n1 _, ⟨hp.1.awD (fun k hk => hpn k (.inl hk)) 5 _, hp.2.1.away (fun e => hpn _ (.inr e) rfl) 5 _, ⟨hp.2.2.1.1, rfl⟩, hp.2.2.2⟩, hide ⟨hsm.out.1, hsm.out.2.1, hsm.out.2.2.1, by simp only; omega⟩, hX.off _ 5 (by omega) _, hD3.off _ 5 (by omega) _⟩
    · have hj' : ¬ (0 : Int) < j := hj
      go_wp2_with fail
      go_meet
      exact ⟨x, y, hB, hR, hp, hsm, hX, hD3⟩
  case rest =>
    clear hB hR hp hsm hX hD3
    obtain ⟨x, y, hB, hR, hp, hsm, hX, hD2⟩ := hcut
    replace hp := hp.drew
    replace hR := hR.drew
    replace hX := hX.drew
    replace hB := hB.drew
    replace hD2 := hD2.drew
    have hk := spec.l14Moves_any g s w _ hD2
    have k0 := hB.c6
    have hzd := hR.lt
    go_wp2_with fail
    go_region_held3 (fun w' => w'.cell? ⟨w2.heap.size, 0, none⟩ = some (.slice x.p.x.A x.p.x.n x.p.x.c) ∧ w'.cell? ⟨w2.heap.size, 1, none⟩ = some (.slice x.p.y.A x.p.y.n x.p.y.c) ∧ w'.cell? ⟨w2.heap.size, 2, none⟩ = some (.slice x.p.z.A x.p.z.n x.p.z.c) ∧ w'.cell? ⟨w2.heap.size, 3, none⟩ = some (.slice x.s.A x.s.n x.s.c) ∧ w'.cell? ⟨w2.heap.size, 4, none⟩ = some (.int .i64 x.t) ∧ w'.cell? ⟨w2.heap.size, 5, none⟩ = some (.int .i64 x.q)) (first | with_reducible exact k2 | with_reducible exact k1 | with_reducible exact k0 | go_keep | fail) (first | (go_at_call 98; refine hk.mono ?_; rintro e w9 ⟨t, ms, rfl, hot, hmr, hml, hD9, hO9⟩; replace hB := hB.only hO9 (by omega); replace hR := hR.only hO9 (by omega); replace hX := hX.only hO9 (by omega); replace hp := hp.only hO9 (by omega); obtain ⟨r_0, r_1, r_2, r_3, r_4, r_5⟩ := hR.c6; have z0 := hR.frozen 0; have z1 := hR.frozen 1; have z2 := hR.frozen 2; have z3 := hR.frozen 3; have z4 := hR.frozen 4; have z5 := hR.frozen 5; have k1 := hB.c6; have k2 := ((((((hB.off w.heap.size 0 n3 (.slice x.p.x.A x.p.x.n x.p.x.c)).off w.heap.size 1 n3 (.slice x.p.y.A x.p.y.n x.p.y.c)).off w.heap.size 2 n3 (.slice x.p.z.A x.p.z.n x.p.z.c)).off w.heap.size 3 n3 (.slice x.s.A x.s.n x.s.c)).off w.heap.size 4 n3 (.int .i64 x.t)).off w.heap.size 5 n3 (.int .i64 x.q)).c6) | fail)
    clear k0 k1 k2
    replace hot := hot.mono (lo' := w.heap.size + 1) (by omega)
    have hott := ((((((hot.off w.heap.size 0 (by omega) (.slice x.p.x.A x.p.x.n x.p.x.c)).off w.heap.size 1 (by omega) (.slice x.p.y.A x.p.y.n x.p.y.c)).off w.heap.size 2 (by omega) (.slice x.p.z.A x.p.z.n x.p.z.c)).off w.heap.size 3 (by omega) (.slice x.s.A x.s.n x.s.c)).off w.heap.size 4 (by omega) (.int .i64 x.t)).off w.heap.size 5 (by omega) (.int .i64 x.q))
    obtain ⟨m0, m1, m2, m3, m4, m5⟩ := (hR.set6 (.slice x.p.x.A x.p.x.n x.p.x.c) (.slice x.p.y.A x.p.y.n x.p.y.c) (.slice x.p.z.A x.p.z.n x.p.z.c) (.slice x.s.A x.s.n x.s.c) (.int .i64 x.t) (.int .i64 x.q)).c6
    have hon := ((((((hp.off w.heap.size 0 (by omega) (.slice x.p.x.A x.p.x.n x.p.x.c)).off w.heap.size 1 (by omega) (.slice x.p.y.A x.p.y.n x.p.y.c)).off w.heap.size 2 (by omega) (.slice x.p.z.A x.p.z.n x.p.z.c)).off w.heap.size 3 (by omega) (.slice x.s.A x.s.n x.s.c)).off w.heap.size 4 (by omega) (.int .i64 x.t)).off w.heap.size 5 (by omega) (.int .i64 x.q))
    have hOn := ((((((hX.off w.heap.size 0 (by omega) (.slice x.p.x.A x.p.x.n x.p.x.c)).off w.heap.size 1 (by omega) (.slice x.p.y.A x.p.y.n x.p.y.c)).off w.heap.size 2 (by omega) (.slice x.p.z.A x.p.z.n x.p.z.c)).off w.heap.size 3 (by omega) (.slice x.s.A x.s.n x.s.c)).off w.heap.size 4 (by omega) (.int .i64 x.t)).off w.heap.size 5 (by omega) (.int .i64 x.q))
    go_wp2_with fail
    refine bodyPost_ret (v := .tuple #[.agg #[.slice x.p.x.A x.p.x.n x.p.x.c, .slice x.p.y.A x.p.y.n x.p.y.c, .slice x.p.z.A x.p.z.n x.p.z.c, .slice x.s.A x.s.n x.s.c, .int .i64 x.t, .int .i64 x.q], .slice t.A t.n t.c]) (by simp [results, Try.results36, go_sem, m0, m1, m2, m3, m4, m5]) rfl ⟨x, y, t, ms, rfl, hon.mono (by omega), hsm.out, hott.mono (by omega), hml, hOn⟩
set_option maxHeartbeats 1000000 in
theorem likeSelection_yes (x x' : SelA) (y : SelL) (w : World) (hr : RdS w x y) (hr' : RdS w x' y) :
    Calls Try.prog 48 #[.agg #[.slice x.p.x.A x.p.x.n x.p.x.c, .slice x.p.y.A x.p.y.n x.p.y.c, .slice x.p.z.A x.p.z.n x.p.z.c, .slice x.s.A x.s.n x.s.c, .int .i64 x.t, .int .i64 x.q], .agg #[.slice x'.p.x.A x'.p.x.n x'.p.x.c, .slice x'.p.y.A x'.p.y.n x'.p.y.c, .slice x'.p.z.A x'.p.z.n x'.p.z.c, .slice x'.s.A x'.s.n x'.s.c, .int .i64 x'.t, .int .i64 x'.q]] w fun e w' => e = .returned (.bool true) ∧ Ext w w' := by
  obtain ⟨p, s, t, q⟩ := x
  obtain ⟨p', s', t', q'⟩ := x'
  obtain ⟨l, ls, t'', q''⟩ := y
  obtain ⟨hp, hs, hcap, rfl, rfl⟩ := hr
  obtain ⟨hp', hs', hcap', h1, h2⟩ := hr'
  simp only at hp hs hcap hp' hs' hcap' h1 h2 ⊢
  subst h1 h2
  have hX0 := ((Ext.refl w).alloc (.cells #[.slice p.x.A p.x.n p.x.c, .slice p.y.A p.y.n p.y.c, .slice p.z.A p.z.n p.z.c, .slice s.A s.n s.c, .int .i64 t', .int .i64 q'] 51)).alloc (.cells #[.slice p'.x.A p'.x.n p'.x.c, .slice p'.y.A p'.y.n p'.y.c, .slice p'.z.A p'.z.n p'.z.c, .slice s'.A s'.n s'.c, .int .i64 t', .int .i64 q'] 51)
  have hA := (Blk.new w 51 (#[.slice p.x.A p.x.n p.x.c, .slice p.y.A p.y.n p.y.c, .slice p.z.A p.z.n p.z.c, .slice s.A s.n s.c, .int .i64 t', .int .i64 q'])).alloc (.cells #[.slice p'.x.A p'.x.n p'.x.c, .slice p'.y.A p'.y.n p'.y.c, .slice p'.z.A p'.z.n p'.z.c, .slice s'.A s'.n s'.c, .int .i64 t', .int .i64 q'] 51)
  have hB := Blk.new (w.alloc (.cells #[.slice p.x.A p.x.n p.x.c, .slice p.y.A p.y.n p.y.c, .slice p.z.A p.z.n p.z.c, .slice s.A s.n s.c, .int .i64 t', .int .i64 q'] 51)) 51 (#[.slice p'.x.A p'.x.n p'.x.c, .slice p'.y.A p'.y.n p'.y.c, .slice p'.z.A p'.z.n p'.z.c, .slice s'.A s'.n s'.c, .int .i64 t', .int .i64 q'])
  rw [World.size_alloc] at hB
  obtain ⟨a0, a1, a2, a3, a4, a5⟩ := hA.c6
  obtain ⟨b0, b1, b2, b3, b4, b5⟩ := hB.c6
  go_enter Try.func48, Try.ntmps48
  go_wp2_with fail
  refine (likeInts_yes s s' ls _ (hs.ext hX0) (hs'.ext hX0)).mono ?_
  rintro e w1 ⟨rfl, hx1⟩
  clear a0 a1 a2 a3 a4 a5 b0 b1 b2 b3 b4 b5
  have hX1 := hX0.trans hx1
  have hA1 := hA.ext hx1
  have hB1 := hB.ext hx1
  obtain ⟨a0, a1, a2, a3, a4, a5⟩ := hA1.c6
  obtain ⟨b0, b1, b2, b3, b4, b5⟩ := hB1.c6
  go_wp2_with fail
  refine (likePanel_yes p p' l _ (hp.ext hX1) (hp'.ext hX1)).mono ?_
  rintro e w2 ⟨rfl, hx2⟩
  clear a0 a1 a2 a3 a4 a5 b0 b1 b2 b3 b4 b5
  go_wp2
  go_ret
  exact ⟨rfl, hX1.trans hx2⟩
end Go.Proofs.Ytkfjphjmffbpiaa.mem
