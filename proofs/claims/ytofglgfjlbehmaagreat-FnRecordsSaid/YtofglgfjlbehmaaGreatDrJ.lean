/-
  Draws of juries, in the reference.
-/
import Derived.Test.YtofglgfjlbehmaaGreatMg6
import Derived.Test.YtofglgfjlbehmaaGreatMg7
import Derived.Test.YtofglgfjlbehmaaGreatMg3
import Derived.Deep.RegionHeld3
import Derived.Deep.DeepCutAuto
import Derived.Deep.CutBlock
namespace Go.Proofs.YtofglgfjlbehmaaGreat.mem
open Go.ChangeShapes Go.WideShapes Go.ChangeAt Go.RowKit

section
variable {w w' w0 wr wr2 : World} {lo g b r : Nat} {s : Sl} {p p' : S3} {l l' : L3} {t : Sl} {xs : List Int} {tj : TypeId}
theorem Only.growJ {row : Option Nat} {w'' : World} (h : Only g w w') (hg : w'.grownBy w'' row) (hr : ∀ k, row = some k → w.heap.size ≤ k) : Only g w w'' :=
  ⟨hg.os.trans h.os, hg.tape.trans h.tape, hg.output.trans h.output, Nat.le_trans h.size hg.size, fun k hk hne => (hg.block k (Nat.lt_of_lt_of_le hk h.size) (fun e => by have := hr k e.symm; omega)).trans (h.block k hk hne)⟩
/-- a value of three slices as far as it has been drawn: its variable lies in block b, the result's in block r -/
structure GjI (tj : TypeId) (w0 w : World) (g : Nat) (s : Sl) (r b : Nat) (p : S3) (l : L3) (wr : World) : Prop where
  res : Blk wr r tj #[.slice none 0 0, .slice none 0 0, .slice none 0 0]
  var : Blk wr b tj #[.slice p.x.A p.x.n p.x.c, .slice p.y.A p.y.n p.y.c, .slice p.z.A p.z.n p.z.c]
  own : Own3 wr (r + 1) p l
  apt : ∀ k, blks p k → k ≠ b
  dr : Dr w0 wr g s
  onl : Only g w wr
  gl : g < w.heap.size
  rl : w.heap.size ≤ r
  bl : r < b
theorem GjI.only (h : GjI tj w0 w g s r b p l wr) (hO : Only g wr wr2) (hD : Dr w0 wr2 g s) : GjI tj w0 w g s r b p l wr2 := by
  have h1 := h.gl
  have h2 := h.rl
  have h3 := h.bl
  exact ⟨h.res.only hO (by omega), h.var.only hO (by omega), h.own.only hO (by omega), h.apt, hD, Fr.trans h.onl hO, h1, h2, h3⟩
theorem GjI.ext (h : GjI tj w0 w g s r b p l wr) (hx : Ext wr wr2) : GjI tj w0 w g s r b p l wr2 :=
  ⟨h.res.ext hx, h.var.ext hx, h.own.ext hx, h.apt, h.dr.more hx, Only.more h.onl hx, h.gl, h.rl, h.bl⟩
theorem GjI.away (h : GjI tj w0 w g s r b p l wr) (k i : Nat) (hk : k ≠ b) (hr : r < k) (hb : ∀ j, blks p j → j ≠ k) (u : Value) : GjI tj w0 w g s r b p l (wr.setCell ⟨k, i, none⟩ u) := by
  have h1 := h.gl
  have h2 := h.rl
  exact ⟨h.res.off k i (by omega) u, h.var.off k i (fun e => hk e.symm) u, h.own.awD hb i u, h.apt, h.dr.off k i (by omega) u, h.onl.off k i (by omega) u, h1, h2, h.bl⟩
theorem GjI.put (h : GjI tj w0 w g s r b p l wr) (i : Nat) (u : Value) (hc : (#[.slice p.x.A p.x.n p.x.c, .slice p.y.A p.y.n p.y.c, .slice p.z.A p.z.n p.z.c] : Array Value).setIfInBounds i u = #[.slice p'.x.A p'.x.n p'.x.c, .slice p'.y.A p'.y.n p'.y.c, .slice p'.z.A p'.z.n p'.z.c]) (ho : Own3 wr (r + 1) p' l') (ha : ∀ k, blks p' k → k ≠ b) :
    GjI tj w0 w g s r b p' l' (wr.setCell ⟨b, i, none⟩ u) := by
  have h1 := h.gl
  have h2 := h.rl
  have h3 := h.bl
  exact ⟨h.res.off b i (by omega) u, hc ▸ h.var.set_ i u, ho.awD ha i u, ha, h.dr.off b i (by omega) u, h.onl.off b i (by omega) u, h1, h2, h3⟩
/-- another value is laid into the variable -/
theorem GjI.put3 (h : GjI tj w0 w g s r b p l wr) (ho : Own3 wr (r + 1) p' l') (ha : ∀ k, blks p' k → k ≠ b) :
    GjI tj w0 w g s r b p' l' (((wr.setCell ⟨b, 0, none⟩ (.slice p'.x.A p'.x.n p'.x.c)).setCell ⟨b, 1, none⟩ (.slice p'.y.A p'.y.n p'.y.c)).setCell ⟨b, 2, none⟩ (.slice p'.z.A p'.z.n p'.z.c)) := by
  have h1 := h.gl
  have h2 := h.rl
  have h3 := h.bl
  exact ⟨((h.res.off b 0 (by omega) _).off b 1 (by omega) _).off b 2 (by omega) _, ((h.var.set_ 0 _).set_ 1 _).set_ 2 _, ((ho.awD ha 0 _).awD ha 1 _).awD ha 2 _, ha, ((h.dr.off b 0 (by omega) _).off b 1 (by omega) _).off b 2 (by omega) _, ((h.onl.off b 0 (by omega) _).off b 1 (by omega) _).off b 2 (by omega) _, h1, h2, h3⟩
theorem GjI.setx {LO : Nat} (h : GjI tj w0 w g s r b p l wr) (ho : Own wr LO (.slice t.A t.n t.c) xs) (hk : ∀ k, blks p k → k < LO) (hb : b < LO) (hs : p.x.n + (p.y.n + p.z.n) ≤ 100000) (hs2 : xs.length ≤ 100000) :
    GjI tj w0 w g s r b ⟨t, p.y, p.z⟩ ⟨xs, l.y, l.z⟩ (wr.setCell ⟨b, 0, none⟩ (.slice t.A t.n t.c)) := by
  have h3 := h.bl
  have htn : t.n = xs.length := ho.rd.1
  refine h.put 0 _ rfl ⟨ho.mono (by omega), h.own.2.1, h.own.2.2.1, by simp only; omega, (fun k h1 h2 => by have a1 := (ho.lt k h1).1; have a2 := hk k (.inr (.inl (h2))); omega), (fun k h1 h2 => by have a1 := (ho.lt k h1).1; have a2 := hk k (.inr (.inr (h2))); omega), h.own.2.2.2.2.2.2⟩ ?_
  rintro k (hk' | hk' | hk')
  · have := (ho.lt k hk').1; omega
  · exact h.apt k (.inr (.inl (hk')))
  · exact h.apt k (.inr (.inr (hk')))
theorem GjI.sety {LO : Nat} (h : GjI tj w0 w g s r b p l wr) (ho : Own wr LO (.slice t.A t.n t.c) xs) (hk : ∀ k, blks p k → k < LO) (hb : b < LO) (hs : p.x.n + (p.y.n + p.z.n) ≤ 100000) (hs2 : xs.length ≤ 100000) :
    GjI tj w0 w g s r b ⟨p.x, t, p.z⟩ ⟨l.x, xs, l.z⟩ (wr.setCell ⟨b, 1, none⟩ (.slice t.A t.n t.c)) := by
  have h3 := h.bl
  have htn : t.n = xs.length := ho.rd.1
  refine h.put 1 _ rfl ⟨h.own.1, ho.mono (by omega), h.own.2.2.1, by simp only; omega, (fun k h1 h2 => by have a1 := hk k (.inl (h1)); have a2 := (ho.lt k h2).1; omega), h.own.2.2.2.2.2.1, (fun k h1 h2 => by have a1 := (ho.lt k h1).1; have a2 := hk k (.inr (.inr (h2))); omega)⟩ ?_
  rintro k (hk' | hk' | hk')
  · exact h.apt k (.inl (hk'))
  · have := (ho.lt k hk').1; omega
  · exact h.apt k (.inr (.inr (hk')))
theorem GjI.setz {LO : Nat} (h : GjI tj w0 w g s r b p l wr) (ho : Own wr LO (.slice t.A t.n t.c) xs) (hk : ∀ k, blks p k → k < LO) (hb : b < LO) (hs : p.x.n + (p.y.n + p.z.n) ≤ 100000) (hs2 : xs.length ≤ 100000) :
    GjI tj w0 w g s r b ⟨p.x, p.y, t⟩ ⟨l.x, l.y, xs⟩ (wr.setCell ⟨b, 2, none⟩ (.slice t.A t.n t.c)) := by
  have h3 := h.bl
  have htn : t.n = xs.length := ho.rd.1
  refine h.put 2 _ rfl ⟨h.own.1, h.own.2.1, ho.mono (by omega), by simp only; omega, h.own.2.2.2.2.1, (fun k h1 h2 => by have a1 := hk k (.inl (h1)); have a2 := (ho.lt k h2).1; omega), (fun k h1 h2 => by have a1 := hk k (.inr (.inl (h1))); have a2 := (ho.lt k h2).1; omega)⟩ ?_
  rintro k (hk' | hk' | hk')
  · exact h.apt k (.inl (hk'))
  · exact h.apt k (.inr (.inl (hk')))
  · have := (ho.lt k hk').1; omega
theorem GjI.grow {row : Option Nat} (h : GjI tj w0 w g s r b p l wr) (hg : wr.grownBy wr2 row) (hr : ∀ k, row = some k → w.heap.size ≤ k ∧ k ≠ r ∧ k ≠ b ∧ ¬ blks p k) : GjI tj w0 w g s r b p l wr2 := by
  have hF := Fr.of_grown hg
  have h1 := h.gl
  exact ⟨h.res.fr hF (fun e => (hr _ e).2.1 rfl), h.var.fr hF (fun e => (hr _ e).2.2.1 rfl), h.own.fr hF (fun k hk e => (hr k e).2.2.2 hk), h.apt, h.dr.keep hF (fun e => by have := (hr _ e).1; omega) (fun k e => by have := (hr k e).1; have := h.dr.low; omega), Only.growJ h.onl hg (fun k e => (hr k e).1), h1, h.rl, h.bl⟩
theorem Rd.ofJ {b : Nat} (h : Blk w b 2 (xs.map (Value.int .i64)).toArray) (hl : xs.length ≤ 16777216) : Rd w (some ⟨b, 0, none⟩) xs.length xs :=
  ⟨rfl, hl, fun hn => ⟨b, 0, rfl, h.lt, fun j hj => by
    rw [Nat.zero_add]
    refine h.get j _ ?_
    simp [List.getElem?_eq_getElem hj]⟩⟩
theorem GjI.appz (h : GjI tj w0 w g s r b p l wr) (ho : Own wr2 (r + 1) (.slice t.A t.n t.c) xs) (hg : wr.grownBy wr2 (Value.ownBlock (.slice p.z.A p.z.n p.z.c))) (hb : Value.ownBlock (.slice t.A t.n t.c) = Value.ownBlock (.slice p.z.A p.z.n p.z.c) ∨ Value.ownBlock (.slice t.A t.n t.c) = some wr.heap.size) (hs : p.x.n + (p.y.n + p.z.n) ≤ 100000) (hs2 : xs.length ≤ 100000) :
    GjI tj w0 w g s r b ⟨p.x, p.y, t⟩ ⟨l.x, l.y, xs⟩ (wr2.setCell ⟨b, 2, none⟩ (.slice t.A t.n t.c)) := by
  have h1 := h.gl
  have h2 := h.rl
  have h3 := h.bl
  have hF := Fr.of_grown hg
  have hlt : ∀ k, Value.ownBlock (.slice p.z.A p.z.n p.z.c) = some k → r + 1 ≤ k ∧ k < wr.heap.size := h.own.2.2.1.lt
  have hvb := h.var.lt
  have htn : t.n = xs.length := ho.rd.1
  have hnb : ∀ k, Value.ownBlock (.slice p.z.A p.z.n p.z.c) = some k → k ≠ b := fun k hk => h.apt k (.inr (.inr (hk)))
  have hapx : ∀ k, Value.ownBlock (.slice t.A t.n t.c) = some k → Value.ownBlock (.slice p.x.A p.x.n p.x.c) ≠ some k := fun k hk hq => by
    rcases hb with e | e
    · rw [e] at hk
      exact h.own.2.2.2.2.2.1 k hq hk
    · rw [e] at hk; injection hk with hk; have := (h.own.1.lt k hq).2; omega
  have hapy : ∀ k, Value.ownBlock (.slice t.A t.n t.c) = some k → Value.ownBlock (.slice p.y.A p.y.n p.y.c) ≠ some k := fun k hk hq => by
    rcases hb with e | e
    · rw [e] at hk
      exact h.own.2.2.2.2.2.2 k hq hk
    · rw [e] at hk; injection hk with hk; have := (h.own.2.1.lt k hq).2; omega
  have hoR : Own3 wr2 (r + 1) (⟨p.x, p.y, t⟩ : S3) (⟨l.x, l.y, xs⟩ : L3) := ⟨h.own.1.fr hF (fun k hk e => h.own.2.2.2.2.2.1 k hk e), h.own.2.1.fr hF (fun k hk e => h.own.2.2.2.2.2.2 k hk e), ho, by simp only; omega, h.own.2.2.2.2.1, (fun k hk e => hapx k e hk), (fun k hk e => hapy k e hk)⟩
  have hap : ∀ k, blks (⟨p.x, p.y, t⟩ : S3) k → k ≠ b := by
    rintro k (hk | hk | hk)
    · exact h.apt k (.inl (hk))
    · exact h.apt k (.inr (.inl (hk)))
    · rcases hb with e | e
      · exact hnb k (by rw [← e]; exact hk)
      · have hk2 := hk; simp only at hk2; rw [e] at hk2; injection hk2 with hk2; omega
  exact ⟨(h.res.fr hF (fun e => by have := (hlt _ e).1; omega)).off b 2 (by omega) _, (h.var.fr hF (fun e => hnb _ e rfl)).set_ 2 _, hoR.awD hap 2 _, hap, (h.dr.keep hF (fun e => by have := (hlt _ e).1; omega) (fun k e => by have := (hlt k e).1; have := h.dr.low; omega)).off b 2 (by omega) _, (Only.growJ h.onl hg (fun k e => by have := (hlt k e).1; omega)).off b 2 (by omega) _, h1, h2, h3⟩
theorem Rd.all {b n : Nat} (h : Rd w (some ⟨b, 0, none⟩) n xs) : ∀ j, j < n → w.cell? ⟨b, j, none⟩ = some (.int .i64 (xs.getD j 0)) := fun j hj => by
  obtain ⟨b', off', e, _, hc⟩ := h.2.2 (by omega)
  injection e with e
  injection e with e1 e2
  subst e1 e2
  have := hc j hj
  rwa [Nat.zero_add] at this
end
theorem Rd.midJ {w : World} {b off n k a : Nat} {xs : List Int} (h : Rd w (some ⟨b, off, none⟩) n xs) (hk : k + a ≤ n) : Rd w (some ⟨b, off + k, none⟩) a ((xs.drop k).take a) := by
  have h1 := h.1
  have h2 := h.2.1
  refine ⟨by rw [List.length_take, List.length_drop]; omega, by omega, fun ha => ?_⟩
  obtain ⟨b', off', e, hb, hc⟩ := h.2.2 (by omega)
  injection e with e
  injection e with e1 e2
  subst e1 e2
  refine ⟨b, off + k, rfl, hb, fun j hj => ?_⟩
  rw [Nat.add_assoc, hc (k + j) (by omega)]
  congr 2
  simp only [List.getD_eq_getElem?_getD]
  rw [List.getElem?_take_of_lt hj, List.getElem?_drop]
theorem smallJ {tj : TypeId} {w0 w wr : World} {g : Nat} {s : Sl} {r b : Nat} {p : S3} {l : L3} (h : GjI tj w0 w g s r b p l wr) : p.x.n = l.x.length ∧ p.y.n = l.y.length ∧ p.z.n = l.z.length := ⟨h.own.1.rd.1, h.own.2.1.rd.1, h.own.2.2.1.rd.1⟩
theorem distP_pos {xs : List Int} (h : distP xs) {k : Nat} (hk : k < xs.length) : 1 ≤ xs.getD k 0 ∧ xs.getD k 0 ≤ 1000000 := by
  have : xs.getD k 0 ∈ xs := by rw [List.getD_eq_getElem?_getD, List.getElem?_eq_getElem hk]; exact List.getElem_mem hk
  exact h.1 _ this
theorem jury_ok {xs : List Int} {N M : Nat} (h : distP xs) (h1 : 1 ≤ N) (h2 : N ≤ 12) (h3 : M ≤ 6) (h4 : N + M ≤ xs.length) : okJ ⟨xs.take N, (xs.drop N).take M, []⟩ = true := by
  have h0 : (0 : Int) ∉ xs := fun hm => by have := (h.1 0 hm).1; omega
  have hn0 : (0 : Int) ∉ xs.take N := fun hm => h0 (List.mem_of_mem_take hm)
  refine okJ_iff.2 ⟨by simp only [List.length_take]; omega, by simp only [List.length_take, List.length_drop]; omega, by simp, ?_, fun hh => hn0 hh.1⟩
  have e : allP ⟨xs.take N, (xs.drop N).take M, []⟩ = xs.take (N + M) := by
    unfold allP
    simp only [List.append_nil]
    rw [nz_self hn0, List.take_add]
  rw [e]
  exact distP_take h _
def DjP (w0 w : World) (g : Nat) (s : Sl) (e : Ending) (w' : World) : Prop :=
  ∃ (p : S3) (l : L3), e = .returned (.agg #[.slice p.x.A p.x.n p.x.c, .slice p.y.A p.y.n p.y.c, .slice p.z.A p.z.n p.z.c]) ∧ Own3 w' w.heap.size p l ∧ okJ l = true ∧ Dr w0 w' g s ∧ Only g w w'
/-- the same, of any jury that is not large -/
def DkP (w0 w : World) (g : Nat) (s : Sl) (e : Ending) (w' : World) : Prop :=
  ∃ (p : S3) (l : L3), e = .returned (.agg #[.slice p.x.A p.x.n p.x.c, .slice p.y.A p.y.n p.y.c, .slice p.z.A p.z.n p.z.c]) ∧ Own3 w' w.heap.size p l ∧ (l.x.length ≤ 70 ∧ l.y.length ≤ 70 ∧ l.z.length ≤ 70) ∧ Dr w0 w' g s ∧ Only g w w'
/-- a leaving has been tried: its jury in a block of its own -/
def LdP (w0 w : World) (g : Nat) (s : Sl) (b : Nat) (p : S3) (l : L3) (v : Value) (xs : List Int) (s8 s9 : Value) (wx : World) : Prop :=
  ∃ (q : Nat) (t : S3) (y : Int), s8 = .pointer (some ⟨q, 0, none⟩) ∧ s9 = .int .i64 (lvC l y) ∧ (1 ≤ y ∧ y ≤ 1000000) ∧ Blk wx q 30 #[.slice t.x.A t.x.n t.x.c, .slice t.y.A t.y.n t.y.c, .slice t.z.A t.z.n t.z.c] ∧ (lvC l y = 0 → Own3 wx (w.heap.size + 1) t (lvV l y) ∧ ∀ k, blks t k → k ≠ b) ∧ GjI 30 w0 w g s w.heap.size b p l wx ∧ Own wx (w.heap.size + 1) v xs
set_option maxRecDepth 20000 in
set_option maxHeartbeats 8000000 in
theorem spec.l15Good_any (g : Nat) (s : Sl) (w0 w : World) (h : Dr w0 w g s) :
    Calls Tryz.prog 29 #[.pointer (some ⟨g, 0, none⟩)] w fun e w' => DjP w0 w g s e w' := by
  have hk6 := fun W h => spec.l01Next_any g s 6 w0 W h (by omega)
  have hk4 := fun W h => spec.l01Next_any g s 4 w0 W h (by omega)
  have hk5 := fun W h => spec.l01Next_any g s 5 w0 W h (by omega)
  have hkN : ∀ W, Dr w0 W g s → Calls Tryz.prog 61 #[.pointer (some ⟨g, 0, none⟩), .int .i64 12] W fun e w' => DnP w0 W g s 12 e w' := fun W h => spec.l12Numbers_any g s 12 w0 W h (by omega)
  have hg := h.lt
  have hR := Blk.new w 30 #[.slice none 0 0, .slice none 0 0, .slice none 0 0]
  have hO0 : Only g w (w.alloc (.cells #[.slice none 0 0, .slice none 0 0, .slice none 0 0] 30)) := ((Ext.refl w).alloc _).onl
  go_enter Tryz.func29, Tryz.ntmps29
  go_wp2_with fail
  refine (hkN _ (h.alloc _)).mono ?_
  rintro e w1 ⟨t, xs, rfl, ho, hxl, hxd, hD1, hO1⟩
  rw [World.size_alloc] at ho
  replace hR := hR.only hO1 (by omega)
  replace hO0 := Fr.trans hO0 hO1
  clear hO1 hkN
  go_wp2_with fail
  refine (hk6 _ hD1).mono ?_
  rintro e w2 ⟨x, rfl, ⟨x0, x1⟩, hD2, hO2⟩
  obtain ⟨N', rfl⟩ := Int.eq_ofNat_of_zero_le x0
  obtain ⟨N, hN⟩ : ∃ N, Hid (N = 1 + N') := ⟨_, rfl⟩
  have hwN : IntKind.i64.wrap (1 + (N' : Int)) = (N : Int) := by rw [Go.IntWalk.i64_in _ (by omega), hN.out]; simp
  have hN1 : 1 ≤ N := by have := hN.out; omega
  have hN2 : N ≤ 6 := by have := hN.out; omega
  replace hR := hR.only hO2 (by omega)
  replace ho := ho.only hO2 (by omega)
  replace hO0 := Fr.trans hO0 hO2
  clear hO2 hD1 x0 x1
  go_wp2_with fail
  refine (hk4 _ hD2).mono ?_
  rintro e w3 ⟨x, rfl, ⟨x0, x1⟩, hD3, hO3⟩
  obtain ⟨M, rfl⟩ := Int.eq_ofNat_of_zero_le x0
  have hM3 : M ≤ 3 := by omega
  replace hR := hR.only hO3 (by omega)
  replace ho := ho.only hO3 (by omega)
  replace hO0 := Fr.trans hO0 hO3
  clear hO3 hD2 x0 x1
  obtain ⟨At, nt, ct⟩ := t
  have hnt : nt = 12 := ho.rd.1.trans hxl
  subst hnt
  obtain ⟨bt, rfl, _, hbt, _, _, _⟩ := ho.put (show 0 < 12 by omega)
  have hcp := Own.cap (s := ⟨some ⟨bt, 0, none⟩, 12, ct⟩) ho
  obtain ⟨hct, hcm⟩ := hcp
  simp only at hct hcm
  replace hxl := hide hxl
  replace hxd := hide hxd
  have hrt : Rd w3 (some ⟨bt, 0, none⟩) 12 xs := ho.rd
  have h1 := hrt.take (k := N) (by omega)
  have h2 := Rd.midJ hrt (show N + M ≤ 12 by omega)
  rw [Nat.zero_add] at h2
  clear hrt
  have g1 : N ≤ ct := by omega
  have g2 : N + M ≤ ct := by omega
  have g3 : (N : Int) ≤ (ct : Int) := by omega
  have g4 : (N : Int) + (M : Int) ≤ (ct : Int) := by omega
  have g5 : (N : Int) ≤ (N : Int) + (M : Int) := by omega
  have g6 : (0 : Int) ≤ (N : Int) := by omega
  have g7 : (0 : Int) ≤ (N : Int) + (M : Int) := by omega
  have g9 : IntKind.i64.wrap ((N : Int) + (M : Int)) = (N : Int) + (M : Int) := Go.IntWalk.i64_in _ (by omega)
  have g10 : (0 : Int) ≤ (M : Int) := by omega
  have g8 : ((N : Int) + (M : Int)).toNat = N + M := by omega
  have hne : ¬ ct = N := by omega
  have g11 : N + M - N = M := by omega
  have g12 : ¬ N = ct := by omega
  clear hN hwN
  have hzl := hR.lt
  have hX := (Ext.refl w3).drew
  have hRd := hR.drew
  go_upto_region 3 with fail
  refine wp_region_sink (S := fun _ => True) 14 (by kernel_rfl) ?_
  change wpAnyT _ _ _ _ _ _ _ _ _ (World.drew _)
  generalize hwd : World.drew _ = wd at hX hRd ⊢
  clear hwd hR
  have hR := hRd
  clear hRd
  have kk := trivial
  refine wpAnyT_takeL (i := 0) 8 (v := ?_) rfl (by kernel_rfl) (by kernel_rfl) (by kernel_rfl) (by kernel_rfl) (by kernel_rfl) (fun _ _ _ h => h) (Or.inl ⟨by rfl, ?_⟩) kk ?_
  rotate_left 1
  · (intro W hSw; (try dsimp only at hSw); go_simp) <;> with_reducible rfl
  clear kk
  try simp only [Act.put, List.setIfInBounds_toArray, List.set_cons_zero, List.set_cons_succ]
  have kk := trivial
  refine wpAnyT_takeL (i := 1) 8 (v := ?_) rfl (by kernel_rfl) (by kernel_rfl) (by kernel_rfl) (by kernel_rfl) (by kernel_rfl) (fun _ _ _ h => h) (Or.inl ⟨by rfl, ?_⟩) kk ?_
  rotate_left 1
  · (intro W hSw; (try dsimp only at hSw); go_simp) <;> with_reducible rfl
  clear kk
  try simp only [Act.put, List.setIfInBounds_toArray, List.set_cons_zero, List.set_cons_succ]
  have kk := trivial
  refine wpAnyT_takeL (i := 2) 8 (v := ?_) rfl (by kernel_rfl) (by kernel_rfl) (by kernel_rfl) (by kernel_rfl) (by kernel_rfl) (fun _ _ _ h => h) (Or.inl ⟨by rfl, ?_⟩) kk ?_
  rotate_left 1
  · (intro W hSw; (try dsimp only at hSw); go_simp) <;> with_reducible rfl
  clear kk
  try simp only [Act.put, List.setIfInBounds_toArray, List.set_cons_zero, List.set_cons_succ]
  have kk := trivial
  refine wpAnyT_takeL (i := 4) 8 (v := ?_) rfl (by kernel_rfl) (by kernel_rfl) (by kernel_rfl) (by kernel_rfl) (by kernel_rfl) (fun _ _ _ h => h) (Or.inl ⟨by rfl, ?_⟩) kk ?_
  rotate_left 1
  · (intro W hSw; (try dsimp only at hSw); go_simp) <;> with_reducible rfl
  clear kk
  try simp only [Act.put, List.setIfInBounds_toArray, List.set_cons_zero, List.set_cons_succ]
  have kk := trivial
  refine wpAnyT_takeL (i := 5) 8 (v := ?_) rfl (by kernel_rfl) (by kernel_rfl) (by kernel_rfl) (by kernel_rfl) (by kernel_rfl) (fun _ _ _ h => h) (Or.inl ⟨by rfl, ?_⟩) kk ?_
  rotate_left 1
  · (intro W hSw; (try dsimp only at hSw); go_simp) <;> with_reducible rfl
  clear kk
  try simp only [Act.put, List.setIfInBounds_toArray, List.set_cons_zero, List.set_cons_succ]
  have kk := trivial
  refine wpAnyT_takeL (i := 6) 8 (v := ?_) rfl (by kernel_rfl) (by kernel_rfl) (by kernel_rfl) (by kernel_rfl) (by kernel_rfl) (fun _ _ _ h => h) (Or.inl ⟨by rfl, ?_⟩) kk ?_
  rotate_left 1
  · (intro W hSw; (try dsimp only at hSw); go_simp) <;> with_reducible rfl
  clear kk
  try simp only [Act.put, List.setIfInBounds_toArray, List.set_cons_zero, List.set_cons_succ]
  have kk := trivial
  refine wpAnyT_takeL (i := 7) 8 (v := ?_) rfl (by kernel_rfl) (by kernel_rfl) (by kernel_rfl) (by kernel_rfl) (by kernel_rfl) (fun _ _ _ h => h) (Or.inl ⟨by rfl, ?_⟩) kk ?_
  rotate_left 1
  · (intro W hSw; (try dsimp only at hSw); go_simp) <;> with_reducible rfl
  clear kk
  try simp only [Act.put, List.setIfInBounds_toArray, List.set_cons_zero, List.set_cons_succ]
  have kk := trivial
  refine wpAnyT_takeL (i := 8) 8 (v := ?_) rfl (by kernel_rfl) (by kernel_rfl) (by kernel_rfl) (by kernel_rfl) (by kernel_rfl) (fun _ _ _ h => h) (Or.inl ⟨by rfl, ?_⟩) kk ?_
  rotate_left 1
  · (intro W hSw; (try dsimp only at hSw); go_simp) <;> with_reducible rfl
  clear kk
  try simp only [Act.put, List.setIfInBounds_toArray, List.set_cons_zero, List.set_cons_succ]
  have kk := trivial
  refine wpAnyT_takeL (i := 9) 8 (v := ?_) rfl (by kernel_rfl) (by kernel_rfl) (by kernel_rfl) (by kernel_rfl) (by kernel_rfl) (fun _ _ _ h => h) (Or.inl ⟨by rfl, ?_⟩) kk ?_
  rotate_left 1
  · (intro W hSw; (try dsimp only at hSw); go_simp) <;> with_reducible rfl
  clear kk
  try simp only [Act.put, List.setIfInBounds_toArray, List.set_cons_zero, List.set_cons_succ]
  refine wpAnyT_go3 (i := 3) (j := 11) (k := 13) rfl rfl rfl (by kernel_rfl) (fun K hK => ?_) (fun K hK => ?_) (fun K hK => ?_)
  go_simp
  go_at_call 62
  refine (spec.l01Own_any ⟨some ⟨bt, 0, none⟩, N, ct⟩ (xs.take N) _ (h1.ext hX)).mono ?_
  rintro e w_10n ⟨tx, rfl, ox, hx⟩
  go_simp
  have z0 := hX.size
  replace ox := Own.mono (lo' := w3.heap.size) ox (by omega)
  replace hR := hR.ext hx
  replace hX := hX.trans hx
  refine hK _ _ ⟨fun _ => trivial, ?_⟩
  clear hK K hx z0
  revert ox; revert hR; revert hX; revert tx; revert w_10n
  refine ?ng_1
  rotate_left 1
  go_simp
  have hx := (Ext.refl wd).alloc (.cells #[] 2)
  have BA := Blk.new wd 2 (#[])
  obtain ⟨bA, hb⟩ : ∃ b, b = wd.heap.size := ⟨_, rfl⟩
  generalize hw : World.alloc wd (.cells #[] 2) = w_10n at hx BA ⊢
  rw [← hb] at BA ⊢
  have lA : w3.heap.size ≤ bA := by have := hX.size; omega
  replace hR := hR.ext hx
  replace hX := hX.trans hx
  refine hK _ _ ⟨fun _ => trivial, ?_⟩
  clear hK K hx hb hw
  revert lA; revert BA; revert hR; revert hX; revert bA; revert w_10n
  refine ?ng_2
  rotate_left 1
  go_simp
  have hx := (Ext.refl wd).alloc (.cells #[.slice none 0 0, .slice none 0 0, .slice none 0 0] 30)
  have BP := Blk.new wd 30 (#[.slice none 0 0, .slice none 0 0, .slice none 0 0])
  obtain ⟨bP, hb⟩ : ∃ b, b = wd.heap.size := ⟨_, rfl⟩
  generalize hw : World.alloc wd (.cells #[.slice none 0 0, .slice none 0 0, .slice none 0 0] 30) = w_10n at hx BP ⊢
  rw [← hb] at BP ⊢
  have lP : w3.heap.size ≤ bP := by have := hX.size; omega
  replace hR := hR.ext hx
  replace hX := hX.trans hx
  refine hK _ _ ⟨fun _ => trivial, ?_⟩
  clear hK K hx hb hw
  revert lP; revert BP; revert hR; revert hX; revert bP; revert w_10n
  refine ?ng_3
  rotate_left 1
  -- ng_1
  intro w_10 tx hX hR ox
  refine wpAnyT_go3 (i := 10) (j := 11) (k := 13) rfl rfl rfl (by kernel_rfl) (fun K hK => ?_) (fun K hK => ?_) (fun K hK => ?_)
  go_simp
  go_at_call 62
  refine (spec.l01Own_any ⟨some ⟨bt, N, none⟩, M, ct - N⟩ ((xs.drop N).take M) _ (h2.ext hX)).mono ?_
  rintro e w_11n ⟨ty, rfl, oy, hx⟩
  go_simp
  have p_x_y : apart (.slice tx.A tx.n tx.c) (.slice ty.A ty.n ty.c) := fun k h1 h2 => by have a1 := (ox.lt k h1).2; have a2 := (oy.lt k h2).1; omega
  have z0 := hX.size
  replace oy := Own.mono (lo' := w3.heap.size) oy (by omega)
  replace hR := hR.ext hx
  replace ox := ox.ext hx
  replace hX := hX.trans hx
  refine hK _ _ ⟨fun _ => trivial, ?_⟩
  clear hK K hx z0
  revert p_x_y; revert oy; revert ox; revert hR; revert hX; revert ty; revert tx; revert w_11n
  clear w_10
  refine ?ng_4
  rotate_left 1
  go_simp
  have hx := (Ext.refl w_10).alloc (.cells #[] 2)
  have BA := Blk.new w_10 2 (#[])
  obtain ⟨bA, hb⟩ : ∃ b, b = w_10.heap.size := ⟨_, rfl⟩
  generalize hw : World.alloc w_10 (.cells #[] 2) = w_11n at hx BA ⊢
  rw [← hb] at BA ⊢
  have lA : w3.heap.size ≤ bA := by have := hX.size; omega
  have p_x_A : ∀ k, Value.ownBlock (.slice tx.A tx.n tx.c) = some k → k ≠ bA := fun k h1 e => by have a1 := (ox.lt k h1).2; omega
  replace hR := hR.ext hx
  replace ox := ox.ext hx
  replace hX := hX.trans hx
  refine hK _ _ ⟨fun _ => trivial, ?_⟩
  clear hK K hx hb hw
  revert p_x_A; revert lA; revert BA; revert ox; revert hR; revert hX; revert bA; revert tx; revert w_11n
  clear w_10
  refine ?ng_5
  rotate_left 1
  go_simp
  have hx := (Ext.refl w_10).alloc (.cells #[.slice none 0 0, .slice none 0 0, .slice none 0 0] 30)
  have BP := Blk.new w_10 30 (#[.slice none 0 0, .slice none 0 0, .slice none 0 0])
  obtain ⟨bP, hb⟩ : ∃ b, b = w_10.heap.size := ⟨_, rfl⟩
  generalize hw : World.alloc w_10 (.cells #[.slice none 0 0, .slice none 0 0, .slice none 0 0] 30) = w_11n at hx BP ⊢
  rw [← hb] at BP ⊢
  have lP : w3.heap.size ≤ bP := by have := hX.size; omega
  have p_x_P : ∀ k, Value.ownBlock (.slice tx.A tx.n tx.c) = some k → k ≠ bP := fun k h1 e => by have a1 := (ox.lt k h1).2; omega
  replace hR := hR.ext hx
  replace ox := ox.ext hx
  replace hX := hX.trans hx
  refine hK _ _ ⟨fun _ => trivial, ?_⟩
  clear hK K hx hb hw
  revert p_x_P; revert lP; revert BP; revert ox; revert hR; revert hX; revert bP; revert tx; revert w_11n
  clear w_10
  refine ?ng_6
  rotate_left 1
  -- ng_2
  intro w_10 bA hX hR BA lA
  refine wpAnyT_go2 (i := 3) (j := 13) rfl rfl (by kernel_rfl) (fun K hK => ?_) (fun K hK => ?_)
  go_simp
  go_at_call 62
  refine (spec.l01Own_any ⟨some ⟨bt, 0, none⟩, N, ct⟩ (xs.take N) _ (h1.ext hX)).mono ?_
  rintro e w_11n ⟨tx, rfl, ox, hx⟩
  go_simp
  have p_x_A : ∀ k, Value.ownBlock (.slice tx.A tx.n tx.c) = some k → k ≠ bA := fun k h1 e => by have a1 := (ox.lt k h1).1; have a2 := BA.lt; omega
  have z0 := hX.size
  replace ox := Own.mono (lo' := w3.heap.size) ox (by omega)
  replace hR := hR.ext hx
  replace BA := BA.ext hx
  replace hX := hX.trans hx
  refine hK _ _ ⟨fun _ => trivial, ?_⟩
  clear hK K hx z0
  revert p_x_A; revert lA; revert BA; revert ox; revert hR; revert hX; revert bA; revert tx; revert w_11n
  clear w_10
  exact ?ng_5
  go_simp
  have hx := (Ext.refl w_10).alloc (.cells #[.slice none 0 0, .slice none 0 0, .slice none 0 0] 30)
  have BP := Blk.new w_10 30 (#[.slice none 0 0, .slice none 0 0, .slice none 0 0])
  obtain ⟨bP, hb⟩ : ∃ b, b = w_10.heap.size := ⟨_, rfl⟩
  generalize hw : World.alloc w_10 (.cells #[.slice none 0 0, .slice none 0 0, .slice none 0 0] 30) = w_11n at hx BP ⊢
  rw [← hb] at BP ⊢
  have lP : w3.heap.size ≤ bP := by have := hX.size; omega
  have p_A_P : bA ≠ bP := by have := BA.lt; omega
  replace hR := hR.ext hx
  replace BA := BA.ext hx
  replace hX := hX.trans hx
  refine hK _ _ ⟨fun _ => trivial, ?_⟩
  clear hK K hx hb hw
  revert p_A_P; revert lP; revert lA; revert BP; revert BA; revert hR; revert hX; revert bP; revert bA; revert w_11n
  clear w_10
  refine ?ng_7
  rotate_left 1
  -- ng_3
  intro w_10 bP hX hR BP lP
  refine wpAnyT_go2 (i := 3) (j := 11) rfl rfl (by kernel_rfl) (fun K hK => ?_) (fun K hK => ?_)
  go_simp
  go_at_call 62
  refine (spec.l01Own_any ⟨some ⟨bt, 0, none⟩, N, ct⟩ (xs.take N) _ (h1.ext hX)).mono ?_
  rintro e w_11n ⟨tx, rfl, ox, hx⟩
  go_simp
  have p_x_P : ∀ k, Value.ownBlock (.slice tx.A tx.n tx.c) = some k → k ≠ bP := fun k h1 e => by have a1 := (ox.lt k h1).1; have a2 := BP.lt; omega
  have z0 := hX.size
  replace ox := Own.mono (lo' := w3.heap.size) ox (by omega)
  replace hR := hR.ext hx
  replace BP := BP.ext hx
  replace hX := hX.trans hx
  refine hK _ _ ⟨fun _ => trivial, ?_⟩
  clear hK K hx z0
  revert p_x_P; revert lP; revert BP; revert ox; revert hR; revert hX; revert bP; revert tx; revert w_11n
  clear w_10
  exact ?ng_6
  go_simp
  have hx := (Ext.refl w_10).alloc (.cells #[] 2)
  have BA := Blk.new w_10 2 (#[])
  obtain ⟨bA, hb⟩ : ∃ b, b = w_10.heap.size := ⟨_, rfl⟩
  generalize hw : World.alloc w_10 (.cells #[] 2) = w_11n at hx BA ⊢
  rw [← hb] at BA ⊢
  have lA : w3.heap.size ≤ bA := by have := hX.size; omega
  have p_A_P : bA ≠ bP := by have := BP.lt; omega
  replace hR := hR.ext hx
  replace BP := BP.ext hx
  replace hX := hX.trans hx
  refine hK _ _ ⟨fun _ => trivial, ?_⟩
  clear hK K hx hb hw
  revert p_A_P; revert lP; revert lA; revert BP; revert BA; revert hR; revert hX; revert bP; revert bA; revert w_11n
  clear w_10
  exact ?ng_7
  -- ng_4
  intro w_11 tx ty hX hR ox oy p_x_y
  refine wpAnyT_go2 (i := 11) (j := 13) rfl rfl (by kernel_rfl) (fun K hK => ?_) (fun K hK => ?_)
  go_simp
  have hx := (Ext.refl w_11).alloc (.cells #[] 2)
  have BA := Blk.new w_11 2 (#[])
  obtain ⟨bA, hb⟩ : ∃ b, b = w_11.heap.size := ⟨_, rfl⟩
  generalize hw : World.alloc w_11 (.cells #[] 2) = w_12n at hx BA ⊢
  rw [← hb] at BA ⊢
  have lA : w3.heap.size ≤ bA := by have := hX.size; omega
  have p_x_A : ∀ k, Value.ownBlock (.slice tx.A tx.n tx.c) = some k → k ≠ bA := fun k h1 e => by have a1 := (ox.lt k h1).2; omega
  have p_y_A : ∀ k, Value.ownBlock (.slice ty.A ty.n ty.c) = some k → k ≠ bA := fun k h1 e => by have a1 := (oy.lt k h1).2; omega
  replace hR := hR.ext hx
  replace ox := ox.ext hx
  replace oy := oy.ext hx
  replace hX := hX.trans hx
  refine hK _ _ ⟨fun _ => trivial, ?_⟩
  clear hK K hx hb hw
  have kk := trivial
  refine wpAnyT_takeL (i := 12) 8 (v := ?_) rfl (by kernel_rfl) (by kernel_rfl) (by kernel_rfl) (by kernel_rfl) (by kernel_rfl) (fun _ _ _ h => h) (Or.inl ⟨by rfl, ?_⟩) kk ?_
  rotate_left 1
  · (intro W hSw; (try dsimp only at hSw); go_simp) <;> with_reducible rfl
  clear kk
  try simp only [Act.put, List.setIfInBounds_toArray, List.set_cons_zero, List.set_cons_succ]
  revert p_y_A; revert p_x_A; revert p_x_y; revert lA; revert BA; revert oy; revert ox; revert hR; revert hX; revert bA; revert ty; revert tx; revert w_12n
  clear w_11
  refine ?ng_8
  rotate_left 1
  go_simp
  have hx := (Ext.refl w_11).alloc (.cells #[.slice none 0 0, .slice none 0 0, .slice none 0 0] 30)
  have BP := Blk.new w_11 30 (#[.slice none 0 0, .slice none 0 0, .slice none 0 0])
  obtain ⟨bP, hb⟩ : ∃ b, b = w_11.heap.size := ⟨_, rfl⟩
  generalize hw : World.alloc w_11 (.cells #[.slice none 0 0, .slice none 0 0, .slice none 0 0] 30) = w_12n at hx BP ⊢
  rw [← hb] at BP ⊢
  have lP : w3.heap.size ≤ bP := by have := hX.size; omega
  have p_x_P : ∀ k, Value.ownBlock (.slice tx.A tx.n tx.c) = some k → k ≠ bP := fun k h1 e => by have a1 := (ox.lt k h1).2; omega
  have p_y_P : ∀ k, Value.ownBlock (.slice ty.A ty.n ty.c) = some k → k ≠ bP := fun k h1 e => by have a1 := (oy.lt k h1).2; omega
  replace hR := hR.ext hx
  replace ox := ox.ext hx
  replace oy := oy.ext hx
  replace hX := hX.trans hx
  refine hK _ _ ⟨fun _ => trivial, ?_⟩
  clear hK K hx hb hw
  revert p_y_P; revert p_x_P; revert p_x_y; revert lP; revert BP; revert oy; revert ox; revert hR; revert hX; revert bP; revert ty; revert tx; revert w_12n
  clear w_11
  refine ?ng_9
  rotate_left 1
  -- ng_5
  intro w_11 tx bA hX hR ox BA lA p_x_A
  refine wpAnyT_go2 (i := 10) (j := 13) rfl rfl (by kernel_rfl) (fun K hK => ?_) (fun K hK => ?_)
  go_simp
  go_at_call 62
  refine (spec.l01Own_any ⟨some ⟨bt, N, none⟩, M, ct - N⟩ ((xs.drop N).take M) _ (h2.ext hX)).mono ?_
  rintro e w_12n ⟨ty, rfl, oy, hx⟩
  go_simp
  have p_x_y : apart (.slice tx.A tx.n tx.c) (.slice ty.A ty.n ty.c) := fun k h1 h2 => by have a1 := (ox.lt k h1).2; have a2 := (oy.lt k h2).1; omega
  have p_y_A : ∀ k, Value.ownBlock (.slice ty.A ty.n ty.c) = some k → k ≠ bA := fun k h1 e => by have a1 := (oy.lt k h1).1; have a2 := BA.lt; omega
  have z0 := hX.size
  replace oy := Own.mono (lo' := w3.heap.size) oy (by omega)
  replace hR := hR.ext hx
  replace ox := ox.ext hx
  replace BA := BA.ext hx
  replace hX := hX.trans hx
  refine hK _ _ ⟨fun _ => trivial, ?_⟩
  clear hK K hx z0
  have kk := trivial
  refine wpAnyT_takeL (i := 12) 8 (v := ?_) rfl (by kernel_rfl) (by kernel_rfl) (by kernel_rfl) (by kernel_rfl) (by kernel_rfl) (fun _ _ _ h => h) (Or.inl ⟨by rfl, ?_⟩) kk ?_
  rotate_left 1
  · (intro W hSw; (try dsimp only at hSw); go_simp) <;> with_reducible rfl
  clear kk
  try simp only [Act.put, List.setIfInBounds_toArray, List.set_cons_zero, List.set_cons_succ]
  revert p_y_A; revert p_x_A; revert p_x_y; revert lA; revert BA; revert oy; revert ox; revert hR; revert hX; revert bA; revert ty; revert tx; revert w_12n
  clear w_11
  exact ?ng_8
  go_simp
  have hx := (Ext.refl w_11).alloc (.cells #[.slice none 0 0, .slice none 0 0, .slice none 0 0] 30)
  have BP := Blk.new w_11 30 (#[.slice none 0 0, .slice none 0 0, .slice none 0 0])
  obtain ⟨bP, hb⟩ : ∃ b, b = w_11.heap.size := ⟨_, rfl⟩
  generalize hw : World.alloc w_11 (.cells #[.slice none 0 0, .slice none 0 0, .slice none 0 0] 30) = w_12n at hx BP ⊢
  rw [← hb] at BP ⊢
  have lP : w3.heap.size ≤ bP := by have := hX.size; omega
  have p_x_P : ∀ k, Value.ownBlock (.slice tx.A tx.n tx.c) = some k → k ≠ bP := fun k h1 e => by have a1 := (ox.lt k h1).2; omega
  have p_A_P : bA ≠ bP := by have := BA.lt; omega
  replace hR := hR.ext hx
  replace ox := ox.ext hx
  replace BA := BA.ext hx
  replace hX := hX.trans hx
  refine hK _ _ ⟨fun _ => trivial, ?_⟩
  clear hK K hx hb hw
  revert p_A_P; revert p_x_P; revert p_x_A; revert lP; revert lA; revert BP; revert BA; revert ox; revert hR; revert hX; revert bP; revert bA; revert tx; revert w_12n
  clear w_11
  refine ?ng_10
  rotate_left 1
  -- ng_6
  intro w_11 tx bP hX hR ox BP lP p_x_P
  refine wpAnyT_go2 (i := 10) (j := 11) rfl rfl (by kernel_rfl) (fun K hK => ?_) (fun K hK => ?_)
  go_simp
  go_at_call 62
  refine (spec.l01Own_any ⟨some ⟨bt, N, none⟩, M, ct - N⟩ ((xs.drop N).take M) _ (h2.ext hX)).mono ?_
  rintro e w_12n ⟨ty, rfl, oy, hx⟩
  go_simp
  have p_x_y : apart (.slice tx.A tx.n tx.c) (.slice ty.A ty.n ty.c) := fun k h1 h2 => by have a1 := (ox.lt k h1).2; have a2 := (oy.lt k h2).1; omega
  have p_y_P : ∀ k, Value.ownBlock (.slice ty.A ty.n ty.c) = some k → k ≠ bP := fun k h1 e => by have a1 := (oy.lt k h1).1; have a2 := BP.lt; omega
  have z0 := hX.size
  replace oy := Own.mono (lo' := w3.heap.size) oy (by omega)
  replace hR := hR.ext hx
  replace ox := ox.ext hx
  replace BP := BP.ext hx
  replace hX := hX.trans hx
  refine hK _ _ ⟨fun _ => trivial, ?_⟩
  clear hK K hx z0
  revert p_y_P; revert p_x_P; revert p_x_y; revert lP; revert BP; revert oy; revert ox; revert hR; revert hX; revert bP; revert ty; revert tx; revert w_12n
  clear w_11
  exact ?ng_9
  go_simp
  have hx := (Ext.refl w_11).alloc (.cells #[] 2)
  have BA := Blk.new w_11 2 (#[])
  obtain ⟨bA, hb⟩ : ∃ b, b = w_11.heap.size := ⟨_, rfl⟩
  generalize hw : World.alloc w_11 (.cells #[] 2) = w_12n at hx BA ⊢
  rw [← hb] at BA ⊢
  have lA : w3.heap.size ≤ bA := by have := hX.size; omega
  have p_x_A : ∀ k, Value.ownBlock (.slice tx.A tx.n tx.c) = some k → k ≠ bA := fun k h1 e => by have a1 := (ox.lt k h1).2; omega
  have p_A_P : bA ≠ bP := by have := BP.lt; omega
  replace hR := hR.ext hx
  replace ox := ox.ext hx
  replace BP := BP.ext hx
  replace hX := hX.trans hx
  refine hK _ _ ⟨fun _ => trivial, ?_⟩
  clear hK K hx hb hw
  revert p_A_P; revert p_x_P; revert p_x_A; revert lP; revert lA; revert BP; revert BA; revert ox; revert hR; revert hX; revert bP; revert bA; revert tx; revert w_12n
  clear w_11
  exact ?ng_10
  -- ng_7
  intro w_11 bA bP hX hR BA BP lA lP p_A_P
  refine wpAnyT_go (i := 3) rfl (by kernel_rfl) fun K hK => ?_
  go_simp
  go_at_call 62
  refine (spec.l01Own_any ⟨some ⟨bt, 0, none⟩, N, ct⟩ (xs.take N) _ (h1.ext hX)).mono ?_
  rintro e w_12n ⟨tx, rfl, ox, hx⟩
  go_simp
  have p_x_A : ∀ k, Value.ownBlock (.slice tx.A tx.n tx.c) = some k → k ≠ bA := fun k h1 e => by have a1 := (ox.lt k h1).1; have a2 := BA.lt; omega
  have p_x_P : ∀ k, Value.ownBlock (.slice tx.A tx.n tx.c) = some k → k ≠ bP := fun k h1 e => by have a1 := (ox.lt k h1).1; have a2 := BP.lt; omega
  have z0 := hX.size
  replace ox := Own.mono (lo' := w3.heap.size) ox (by omega)
  replace hR := hR.ext hx
  replace BA := BA.ext hx
  replace BP := BP.ext hx
  replace hX := hX.trans hx
  refine hK _ _ ⟨fun _ => trivial, ?_⟩
  clear hK K hx z0
  revert p_A_P; revert p_x_P; revert p_x_A; revert lP; revert lA; revert BP; revert BA; revert ox; revert hR; revert hX; revert bP; revert bA; revert tx; revert w_12n
  clear w_11
  exact ?ng_10
  -- ng_8
  intro w_13 tx ty bA hX hR ox oy BA lA p_x_y p_x_A p_y_A
  refine wpAnyT_go (i := 13) rfl (by kernel_rfl) fun K hK => ?_
  go_simp
  have hx := (Ext.refl w_13).alloc (.cells #[.slice none 0 0, .slice none 0 0, .slice none 0 0] 30)
  have BP := Blk.new w_13 30 (#[.slice none 0 0, .slice none 0 0, .slice none 0 0])
  obtain ⟨bP, hb⟩ : ∃ b, b = w_13.heap.size := ⟨_, rfl⟩
  generalize hw : World.alloc w_13 (.cells #[.slice none 0 0, .slice none 0 0, .slice none 0 0] 30) = w_14n at hx BP ⊢
  rw [← hb] at BP ⊢
  have lP : w3.heap.size ≤ bP := by have := hX.size; omega
  have p_x_P : ∀ k, Value.ownBlock (.slice tx.A tx.n tx.c) = some k → k ≠ bP := fun k h1 e => by have a1 := (ox.lt k h1).2; omega
  have p_y_P : ∀ k, Value.ownBlock (.slice ty.A ty.n ty.c) = some k → k ≠ bP := fun k h1 e => by have a1 := (oy.lt k h1).2; omega
  have p_A_P : bA ≠ bP := by have := BA.lt; omega
  replace hR := hR.ext hx
  replace ox := ox.ext hx
  replace oy := oy.ext hx
  replace BA := BA.ext hx
  replace hX := hX.trans hx
  refine hK _ _ ⟨fun _ => trivial, ?_⟩
  clear hK K hx hb hw
  revert p_A_P; revert p_y_P; revert p_y_A; revert p_x_P; revert p_x_A; revert p_x_y; revert lP; revert lA; revert BP; revert BA; revert oy; revert ox; revert hR; revert hX; revert bP; revert bA; revert ty; revert tx; revert w_14n
  clear w_13
  refine ?ng_11
  rotate_left 1
  -- ng_9
  intro w_12 tx ty bP hX hR ox oy BP lP p_x_y p_x_P p_y_P
  refine wpAnyT_go (i := 11) rfl (by kernel_rfl) fun K hK => ?_
  go_simp
  have hx := (Ext.refl w_12).alloc (.cells #[] 2)
  have BA := Blk.new w_12 2 (#[])
  obtain ⟨bA, hb⟩ : ∃ b, b = w_12.heap.size := ⟨_, rfl⟩
  generalize hw : World.alloc w_12 (.cells #[] 2) = w_13n at hx BA ⊢
  rw [← hb] at BA ⊢
  have lA : w3.heap.size ≤ bA := by have := hX.size; omega
  have p_x_A : ∀ k, Value.ownBlock (.slice tx.A tx.n tx.c) = some k → k ≠ bA := fun k h1 e => by have a1 := (ox.lt k h1).2; omega
  have p_y_A : ∀ k, Value.ownBlock (.slice ty.A ty.n ty.c) = some k → k ≠ bA := fun k h1 e => by have a1 := (oy.lt k h1).2; omega
  have p_A_P : bA ≠ bP := by have := BP.lt; omega
  replace hR := hR.ext hx
  replace ox := ox.ext hx
  replace oy := oy.ext hx
  replace BP := BP.ext hx
  replace hX := hX.trans hx
  refine hK _ _ ⟨fun _ => trivial, ?_⟩
  clear hK K hx hb hw
  have kk := trivial
  refine wpAnyT_takeL (i := 12) 8 (v := ?_) rfl (by kernel_rfl) (by kernel_rfl) (by kernel_rfl) (by kernel_rfl) (by kernel_rfl) (fun _ _ _ h => h) (Or.inl ⟨by rfl, ?_⟩) kk ?_
  rotate_left 1
  · (intro W hSw; (try dsimp only at hSw); go_simp) <;> with_reducible rfl
  clear kk
  try simp only [Act.put, List.setIfInBounds_toArray, List.set_cons_zero, List.set_cons_succ]
  revert p_A_P; revert p_y_P; revert p_y_A; revert p_x_P; revert p_x_A; revert p_x_y; revert lP; revert lA; revert BP; revert BA; revert oy; revert ox; revert hR; revert hX; revert bP; revert bA; revert ty; revert tx; revert w_13n
  clear w_12
  exact ?ng_11
  -- ng_10
  intro w_12 tx bA bP hX hR ox BA BP lA lP p_x_A p_x_P p_A_P
  refine wpAnyT_go (i := 10) rfl (by kernel_rfl) fun K hK => ?_
  go_simp
  go_at_call 62
  refine (spec.l01Own_any ⟨some ⟨bt, N, none⟩, M, ct - N⟩ ((xs.drop N).take M) _ (h2.ext hX)).mono ?_
  rintro e w_13n ⟨ty, rfl, oy, hx⟩
  go_simp
  have p_x_y : apart (.slice tx.A tx.n tx.c) (.slice ty.A ty.n ty.c) := fun k h1 h2 => by have a1 := (ox.lt k h1).2; have a2 := (oy.lt k h2).1; omega
  have p_y_A : ∀ k, Value.ownBlock (.slice ty.A ty.n ty.c) = some k → k ≠ bA := fun k h1 e => by have a1 := (oy.lt k h1).1; have a2 := BA.lt; omega
  have p_y_P : ∀ k, Value.ownBlock (.slice ty.A ty.n ty.c) = some k → k ≠ bP := fun k h1 e => by have a1 := (oy.lt k h1).1; have a2 := BP.lt; omega
  have z0 := hX.size
  replace oy := Own.mono (lo' := w3.heap.size) oy (by omega)
  replace hR := hR.ext hx
  replace ox := ox.ext hx
  replace BA := BA.ext hx
  replace BP := BP.ext hx
  replace hX := hX.trans hx
  refine hK _ _ ⟨fun _ => trivial, ?_⟩
  clear hK K hx z0
  have kk := trivial
  refine wpAnyT_takeL (i := 12) 8 (v := ?_) rfl (by kernel_rfl) (by kernel_rfl) (by kernel_rfl) (by kernel_rfl) (by kernel_rfl) (fun _ _ _ h => h) (Or.inl ⟨by rfl, ?_⟩) kk ?_
  rotate_left 1
  · (intro W hSw; (try dsimp only at hSw); go_simp) <;> with_reducible rfl
  clear kk
  try simp only [Act.put, List.setIfInBounds_toArray, List.set_cons_zero, List.set_cons_succ]
  revert p_A_P; revert p_y_P; revert p_y_A; revert p_x_P; revert p_x_A; revert p_x_y; revert lP; revert lA; revert BP; revert BA; revert oy; revert ox; revert hR; revert hX; revert bP; revert bA; revert ty; revert tx; revert w_13n
  clear w_12
  exact ?ng_11
  -- ng_11
  intro w_14 tx ty bA bP hX hR ox oy BA BP lA lP p_x_y p_x_A p_x_P p_y_A p_y_P p_A_P
  refine wpAnyT_go (i := 14) rfl (by kernel_rfl) fun K hK => ?_
  obtain ⟨q0, q1, q2, q3, q4, q5⟩ := res3 BP
  go_simp
  refine hK _ _ ⟨fun h => absurd rfl h, ?_⟩
  clear hK K
  refine wpAnyT_done (by kernel_rfl) ?_ _
  have hlen : tx.n + (ty.n + 0) ≤ 2097152 := by
    have e1 := ox.rd.1
    have e2 := oy.rd.1
    rw [List.length_take] at e1 e2
    omega
  have n1' : Value.ownBlock (.slice tx.A tx.n tx.c) ≠ some bP := fun e => p_x_P _ e rfl
  have n2' : Value.ownBlock (.slice ty.A ty.n ty.c) ≠ some bP := fun e => p_y_P _ e rfl
  have oA := Own.of_blk (xs := []) BA lA 0 0 rfl (by omega) (by decide) rfl (by omega) rfl
  have n3' : Value.ownBlock (.slice (some ⟨bA, 0, none⟩) 0 0) ≠ some bP := fun e => p_A_P (ownBlock_eq e)
  have hbtP : Value.ownBlock (.slice (some ⟨bt, 0, none⟩) 12 ct) ≠ some bP := fun e => by have := ownBlock_eq e; omega
  have hl := (((ho.ext hX).away hbtP 0 (.slice tx.A tx.n tx.c)).away hbtP 1 (.slice ty.A ty.n ty.c)).away hbtP 2 (.slice (some ⟨bA, 0, none⟩) 0 0)
  have hG : GjI 30 w0 w g s w.heap.size bP ⟨tx, ty, ⟨some ⟨bA, 0, none⟩, 0, 0⟩⟩ ⟨xs.take N, (xs.drop N).take M, []⟩ ((((w_14).setCell ⟨bP, 0, none⟩ (.slice tx.A tx.n tx.c)).setCell ⟨bP, 1, none⟩ (.slice ty.A ty.n ty.c)).setCell ⟨bP, 2, none⟩ (.slice (some ⟨bA, 0, none⟩) 0 0)) :=
    ⟨((hR.off bP 0 (by omega) _).off bP 1 (by omega) _).off bP 2 (by omega) _, ((BP.set_ 0 _).set_ 1 _).set_ 2 _, ⟨(((ox.away n1' 0 _).away n1' 1 _).away n1' 2 _).mono (by omega), (((oy.away n2' 0 _).away n2' 1 _).away n2' 2 _).mono (by omega), (((oA.away n3' 0 _).away n3' 1 _).away n3' 2 _).mono (by omega), hlen, p_x_y, (fun k h1 h2 => p_x_A k h1 (ownBlock_eq h2).symm), (fun k h1 h2 => p_y_A k h1 (ownBlock_eq h2).symm)⟩, fun k hk => Or.elim hk (fun h => p_x_P k h) (fun h => Or.elim h (fun h => p_y_P k h) (fun h => by have := ownBlock_eq h; have := p_A_P; omega)), (((hD3.more hX).off bP 0 (by omega) _).off bP 1 (by omega) _).off bP 2 (by omega) _, (((Only.more hO0 hX).off bP 0 (by omega) _).off bP 1 (by omega) _).off bP 2 (by omega) _, hg, Nat.le_refl _, by omega⟩
  have hok := jury_ok (N := N) (M := M) hxd.out hN1 (by omega) (by omega) (by have := hxl.out; omega)
  obtain ⟨p, l, hG, hok⟩ : ∃ (p : S3) (l : L3), GjI 30 w0 w g s w.heap.size bP p l ((((w_14).setCell ⟨bP, 0, none⟩ (.slice tx.A tx.n tx.c)).setCell ⟨bP, 1, none⟩ (.slice ty.A ty.n ty.c)).setCell ⟨bP, 2, none⟩ (.slice (some ⟨bA, 0, none⟩) 0 0)) ∧ Hid (okJ l = true) := ⟨_, _, hG, hok⟩
  have hbtb : bt < bP := by omega
  clear ox oy oA BA BP hR q0 q1 q2 q3 q4 q5 n1' n2' n3' hbtP hlen p_x_y p_x_A p_x_P p_y_A p_y_P p_A_P h1 h2 hX ho hO0 hD3 hzl h
  go_wp2_with fail
  refine (hk5 _ hG.dr).mono ?_
  rintro e w5 ⟨x, rfl, ⟨x0, x1⟩, hD, hO⟩
  replace hl := hl.only hO (by omega)
  replace hG := hG.only hO hD
  obtain ⟨m0, rfl⟩ := Int.eq_ofNat_of_zero_le x0
  have hm0 : m0 ≤ 4 := by omega
  clear hD hO x0 x1 hk5 hk4 hk6
  have hkq := fun W h => spec.l01Next_any g s ((N : Int) + (M : Int)) w0 W h (by omega)
  clear lA lP hbt
  generalize bP = b at hG hbtb ⊢
  go_wp2_with fail
  go_loopw [7, 8, 9] (fun nv _ _ wr => ∃ (m : Nat) (p : S3) (l : L3), nv = .int .i64 m ∧ m ≤ 4 ∧ GjI 30 w0 w g s w.heap.size b p l wr ∧ Hid (okJ l = true) ∧ Own wr (w.heap.size + 1) (.slice (some ⟨bt, 0, none⟩) 12 ct) xs) (fun nv _ _ _ => (intOf nv).toNat)
  case atStart => exact ⟨m0, p, l, rfl, hm0, hG, hok, hl⟩
  case round =>
    clear hG hok hl hm0
    obtain ⟨m, p, l, rfl, hm4, hG, hok, hl⟩ := hrel
    by_cases hm : 0 < m
    · have hm' : (0 : Int) < (m : Int) := by omega
      have hwm : IntKind.i64.wrap ((m : Int) - 1) = ((m - 1 : Nat) : Int) := by rw [Go.IntWalk.i64_in _ (by omega)]; omega
      go_upto_region 7 with fail
      go_cut [8, 9] (fun s8 s9 wx => LdP w0 w g s b p l (.slice (some ⟨bt, 0, none⟩) 12 ct) xs s8 s9 wx)
      case first =>
        refine wp_region_sink (S := fun w' => (w'.cell? ⟨b, 0, none⟩ = some (.slice p.x.A p.x.n p.x.c) ∧ w'.cell? ⟨b, 1, none⟩ = some (.slice p.y.A p.y.n p.y.c) ∧ w'.cell? ⟨b, 2, none⟩ = some (.slice p.z.A p.z.n p.z.c)) ∧ Hid (∀ j, j < 12 → w'.cell? ⟨bt, j, none⟩ = some (.int .i64 (xs.getD j 0)))) 15 (by kernel_rfl) ?_
        change wpAnyT _ _ _ _ _ _ _ _ _ (World.drew _)
        replace hG := hG.ext (Ext.refl _).drew
        replace hl := hl.drew
        generalize hwd : World.drew _ = wd at hG hl ⊢
        clear hwd
        have kk := And.intro hG.var.c3 (hide (Rd.all hl.rd))
        refine wpAnyT_takeL (i := 0) 15 (v := ?_) rfl (by kernel_rfl) (by kernel_rfl) (by kernel_rfl) (by kernel_rfl) (by kernel_rfl) (fun _ _ _ h => h) (Or.inl ⟨by rfl, ?_⟩) kk ?_
        rotate_left 1
        · (intro W hSw; (try dsimp only at hSw); go_simp) <;> with_reducible rfl
        try simp only [Act.put, List.setIfInBounds_toArray, List.set_cons_zero, List.set_cons_succ]
        refine wpAnyT_takeL (i := 1) 15 (v := ?_) rfl (by kernel_rfl) (by kernel_rfl) (by kernel_rfl) (by kernel_rfl) (by kernel_rfl) (fun _ _ _ h => h) (Or.inl ⟨by rfl, ?_⟩) kk ?_
        rotate_left 1
        · (intro W hSw; (try dsimp only at hSw); go_simp) <;> with_reducible rfl
        try simp only [Act.put, List.setIfInBounds_toArray, List.set_cons_zero, List.set_cons_succ]
        refine wpAnyT_takeL (i := 2) 15 (v := ?_) rfl (by kernel_rfl) (by kernel_rfl) (by kernel_rfl) (by kernel_rfl) (by kernel_rfl) (fun _ _ _ h => h) (Or.inl ⟨by rfl, ?_⟩) kk ?_
        rotate_left 1
        · (intro W hSw; (try dsimp only at hSw); go_simp) <;> with_reducible rfl
        try simp only [Act.put, List.setIfInBounds_toArray, List.set_cons_zero, List.set_cons_succ]
        refine wpAnyT_takeL (i := 3) 15 (v := ?_) rfl (by kernel_rfl) (by kernel_rfl) (by kernel_rfl) (by kernel_rfl) (by kernel_rfl) (fun _ _ _ h => h) (Or.inl ⟨by rfl, ?_⟩) kk ?_
        rotate_left 1
        · (intro W hSw; (try dsimp only at hSw); go_simp) <;> with_reducible rfl
        try simp only [Act.put, List.setIfInBounds_toArray, List.set_cons_zero, List.set_cons_succ]
        refine wpAnyT_takeL (i := 4) 15 (v := ?_) rfl (by kernel_rfl) (by kernel_rfl) (by kernel_rfl) (by kernel_rfl) (by kernel_rfl) (fun _ _ _ h => h) (Or.inl ⟨by rfl, ?_⟩) kk ?_
        rotate_left 1
        · (intro W hSw; (try dsimp only at hSw); go_simp) <;> with_reducible rfl
        try simp only [Act.put, List.setIfInBounds_toArray, List.set_cons_zero, List.set_cons_succ]
        refine wpAnyT_takeL (i := 5) 15 (v := ?_) rfl (by kernel_rfl) (by kernel_rfl) (by kernel_rfl) (by kernel_rfl) (by kernel_rfl) (fun _ _ _ h => h) (Or.inl ⟨by rfl, ?_⟩) kk ?_
        rotate_left 1
        · (intro W hSw; (try dsimp only at hSw); go_simp) <;> with_reducible rfl
        try simp only [Act.put, List.setIfInBounds_toArray, List.set_cons_zero, List.set_cons_succ]
        refine wpAnyT_go2 (i := 6) (j := 13) rfl rfl (by kernel_rfl) (fun K hK => ?_) (fun K hK => ?_)
        · go_simp
          refine (hkq _ hG.dr).mono ?_
          rintro e w6 ⟨q, rfl, ⟨q0, q1⟩, hD, hO⟩
          go_simp
          replace hl := hl.only hO (by have := hG.gl; omega)
          replace hG := hG.only hO hD
          obtain ⟨q, rfl⟩ := Int.eq_ofNat_of_zero_le q0
          have hq12 : q < 12 := by omega
          have hqI : (q : Int) < 12 := by omega
          have hq0 : (0 : Int) ≤ (q : Int) := by omega
          clear q0 q1
          refine hK _ _ ⟨fun _ => And.intro hG.var.c3 (hide (Rd.all hl.rd)), ?_⟩
          clear hK K kk hD hO
          have kk := And.intro hG.var.c3 (hide (Rd.all hl.rd))
          obtain ⟨y, hyv⟩ : ∃ y, Hid (xs.getD q 0 = y) := ⟨_, rfl⟩
          have hy : 1 ≤ y ∧ y ≤ 1000000 := by rw [← hyv.out]; exact distP_pos hxd.out (show q < xs.length by have := hxl.out; omega)
          refine wpAnyT_takeL (i := 7) 15 (v := ?_) rfl (by kernel_rfl) (by kernel_rfl) (by kernel_rfl) (by kernel_rfl) (by kernel_rfl) (fun _ _ _ h => h) (Or.inl ⟨by rfl, ?_⟩) kk ?_
          rotate_left 1
          · (intro W hSw; (try dsimp only at hSw); go_simp) <;> with_reducible rfl
          try simp only [Act.put, List.setIfInBounds_toArray, List.set_cons_zero, List.set_cons_succ]
          refine wpAnyT_takeL (i := 8) 15 (v := ?_) rfl (by kernel_rfl) (by kernel_rfl) (by kernel_rfl) (by kernel_rfl) (by kernel_rfl) (fun _ _ _ h => h) (Or.inl ⟨by rfl, ?_⟩) kk ?_
          rotate_left 1
          · (intro W hSw; (try dsimp only at hSw); have hqc : W.cell? ⟨bt, q, none⟩ = some (.int .i64 y) := (by rw [← hyv.out]; exact hSw.2.out q hq12); go_simp) <;> with_reducible rfl
          try simp only [Act.put, List.setIfInBounds_toArray, List.set_cons_zero, List.set_cons_succ]
          have hzz : w.heap.size + 1 ≤ w6.heap.size := by have := hG.res.lt; omega
          have hzv : b < w6.heap.size := hG.var.lt
          refine wpAnyT_go2 (i := 9) (j := 13) rfl rfl (by kernel_rfl) (fun K hK => ?_) (fun K hK => ?_)
          · go_simp
            refine (spec.l15Leave_any p l y _ hG.own.rd hok.out hy.1).mono ?_
            rintro e w7 ⟨t, rfl, oR, hx⟩
            go_simp
            replace hl := hl.ext hx
            replace hG := hG.ext hx
            have oR : lvC l y = 0 → Own3 w7 (w.heap.size + 1) t (lvV l y) ∧ ∀ k, blks t k → k ≠ b := fun h0 => ⟨((oR h0).ext (Ext.refl _)).mono (by have := hzz; omega), fun k hk => by have := ((oR h0).lt hk).1; have := hzv; omega⟩
            refine hK _ _ ⟨fun _ => And.intro hG.var.c3 (hide (Rd.all hl.rd)), ?_⟩
            clear hK K
            have kk := And.intro hG.var.c3 (hide (Rd.all hl.rd))
            refine wpAnyT_takeL (i := 10) 15 (v := ?_) rfl (by kernel_rfl) (by kernel_rfl) (by kernel_rfl) (by kernel_rfl) (by kernel_rfl) (fun _ _ _ h => h) (Or.inl ⟨by rfl, ?_⟩) kk ?_
            rotate_left 1
            · (intro W hSw; (try dsimp only at hSw); go_simp) <;> with_reducible rfl
            try simp only [Act.put, List.setIfInBounds_toArray, List.set_cons_zero, List.set_cons_succ]
            refine wpAnyT_takeL (i := 11) 15 (v := ?_) rfl (by kernel_rfl) (by kernel_rfl) (by kernel_rfl) (by kernel_rfl) (by kernel_rfl) (fun _ _ _ h => h) (Or.inl ⟨by rfl, ?_⟩) kk ?_
            rotate_left 1
            · (intro W hSw; (try dsimp only at hSw); go_simp) <;> with_reducible rfl
            try simp only [Act.put, List.setIfInBounds_toArray, List.set_cons_zero, List.set_cons_succ]
            refine wpAnyT_takeL (i := 12) 15 (v := ?_) rfl (by kernel_rfl) (by kernel_rfl) (by kernel_rfl) (by kernel_rfl) (by kernel_rfl) (fun _ _ _ h => h) (Or.inl ⟨by rfl, ?_⟩) kk ?_
            rotate_left 1
            · (intro W hSw; (try dsimp only at hSw); go_simp) <;> with_reducible rfl
            try simp only [Act.put, List.setIfInBounds_toArray, List.set_cons_zero, List.set_cons_succ]
            clear hx kk
            refine wpAnyT_go (i := 13) rfl (by kernel_rfl) fun K hK => ?_
            have kl := fun h0 k hk => ((oR h0).1.lt (k := k) hk).2
            replace oR := fun h0 => And.intro ((oR h0).1.ext ((Ext.refl w7).alloc (.cells #[.slice none 0 0, .slice none 0 0, .slice none 0 0] 30))) (oR h0).2
            go_simp
            have hx := (Ext.refl w7).alloc (.cells #[.slice none 0 0, .slice none 0 0, .slice none 0 0] 30)
            have BP := Blk.new w7 30 #[.slice none 0 0, .slice none 0 0, .slice none 0 0]
            obtain ⟨bP, hb⟩ : ∃ b, b = w7.heap.size := ⟨_, rfl⟩
            have hvl := hG.var.lt
            have hrl := hG.res.lt
            have hll := hl.lt
            have hgo := fun {k : Nat} (hk : blks p k) => hG.own.lt hk
            generalize hw : World.alloc w7 (.cells #[.slice none 0 0, .slice none 0 0, .slice none 0 0] 30) = w8 at hx BP oR ⊢
            rw [← hb] at BP ⊢
            replace hl := hl.ext hx
            replace hG := hG.ext hx
            refine hK _ _ ⟨fun _ => And.intro hG.var.c3 (hide (Rd.all hl.rd)), ?_⟩
            clear hK K
            have hbw : w.heap.size < bP := by omega
            have hbb : bP ≠ b := by omega
            have hpb : ∀ j, blks p j → j ≠ bP := fun j hj => by have := (hgo hj).2; omega
            have hlb : Value.ownBlock (.slice (some ⟨bt, 0, none⟩) 12 ct) ≠ some bP := fun e => by have := (hll _ e).2; omega
            have hne : lvC l y = 0 → ∀ k, blks t k → k ≠ bP := fun h0 k hk => by have := kl h0 k hk; omega
            clear hvl hrl hll hgo hb hw kl
            clear hx
            refine wpAnyT_go (i := 14) rfl (by kernel_rfl) fun K hK => ?_
            obtain ⟨f0, f1, f2, f3, f4, f5⟩ := res3 BP
            go_simp
            have hG2 := ((hG.away bP 0 hbb hbw hpb (.slice t.x.A t.x.n t.x.c)).away bP 1 hbb hbw hpb (.slice t.y.A t.y.n t.y.c)).away bP 2 hbb hbw hpb (.slice t.z.A t.z.n t.z.c)
            have hl2 := ((hl.away hlb 0 (.slice t.x.A t.x.n t.x.c)).away hlb 1 (.slice t.y.A t.y.n t.y.c)).away hlb 2 (.slice t.z.A t.z.n t.z.c)
            refine hK _ _ ⟨fun _ => And.intro hG2.var.c3 (hide (Rd.all hl2.rd)), ?_⟩
            clear hK K
            refine wpAnyT_go (i := 15) rfl (by kernel_rfl) fun K hK => ?_
            go_simp
            refine hK _ _ ⟨fun h => absurd rfl h, ?_⟩
            clear hK K
            refine wpAnyT_done (by kernel_rfl) ?_ _
            go_wp2_with fail
            go_meet
            exact ⟨bP, t, y, rfl, rfl, hy, ((BP.set_ 0 _).set_ 1 _).set_ 2 _, fun h0 => ⟨(((oR h0).1.awD (hne h0) 0 _).awD (hne h0) 1 _).awD (hne h0) 2 _, (oR h0).2⟩, hG2, hl2⟩
          · go_simp
            have hx := (Ext.refl w6).alloc (.cells #[.slice none 0 0, .slice none 0 0, .slice none 0 0] 30)
            have BP := Blk.new w6 30 #[.slice none 0 0, .slice none 0 0, .slice none 0 0]
            obtain ⟨bP, hb⟩ : ∃ b, b = w6.heap.size := ⟨_, rfl⟩
            have hvl := hG.var.lt
            have hrl := hG.res.lt
            have hll := hl.lt
            have hgo := fun {k : Nat} (hk : blks p k) => hG.own.lt hk
            generalize hw : World.alloc w6 (.cells #[.slice none 0 0, .slice none 0 0, .slice none 0 0] 30) = w7 at hx BP ⊢
            rw [← hb] at BP ⊢
            replace hl := hl.ext hx
            replace hG := hG.ext hx
            refine hK _ _ ⟨fun _ => And.intro hG.var.c3 (hide (Rd.all hl.rd)), ?_⟩
            clear hK K
            have hbw : w.heap.size < bP := by omega
            have hbb : bP ≠ b := by omega
            have hpb : ∀ j, blks p j → j ≠ bP := fun j hj => by have := (hgo hj).2; omega
            have hlb : Value.ownBlock (.slice (some ⟨bt, 0, none⟩) 12 ct) ≠ some bP := fun e => by have := (hll _ e).2; omega
            clear hvl hrl hll hgo hb hw
            have hzz7 : w6.heap.size ≤ w7.heap.size := hx.size
            have hbl7 := BP.lt
            clear hx kk
            refine wpAnyT_go (i := 9) rfl (by kernel_rfl) fun K hK => ?_
            go_simp
            refine (spec.l15Leave_any p l y _ hG.own.rd hok.out hy.1).mono ?_
            rintro e w8 ⟨t, rfl, oR, hx⟩
            go_simp
            replace hl := hl.ext hx
            replace hG := hG.ext hx
            replace BP := BP.ext hx
            have hne : lvC l y = 0 → ∀ k, blks t k → k ≠ bP := fun h0 k hk => by have := ((oR h0).lt hk).1; omega
            have oR : lvC l y = 0 → Own3 w8 (w.heap.size + 1) t (lvV l y) ∧ ∀ k, blks t k → k ≠ b := fun h0 => ⟨((oR h0).ext (Ext.refl _)).mono (by have := hzz; omega), fun k hk => by have := ((oR h0).lt hk).1; have := hzv; omega⟩
            refine hK _ _ ⟨fun _ => And.intro hG.var.c3 (hide (Rd.all hl.rd)), ?_⟩
            clear hK K
            have kk := And.intro hG.var.c3 (hide (Rd.all hl.rd))
            refine wpAnyT_takeL (i := 10) 15 (v := ?_) rfl (by kernel_rfl) (by kernel_rfl) (by kernel_rfl) (by kernel_rfl) (by kernel_rfl) (fun _ _ _ h => h) (Or.inl ⟨by rfl, ?_⟩) kk ?_
            rotate_left 1
            · (intro W hSw; (try dsimp only at hSw); go_simp) <;> with_reducible rfl
            try simp only [Act.put, List.setIfInBounds_toArray, List.set_cons_zero, List.set_cons_succ]
            refine wpAnyT_takeL (i := 11) 15 (v := ?_) rfl (by kernel_rfl) (by kernel_rfl) (by kernel_rfl) (by kernel_rfl) (by kernel_rfl) (fun _ _ _ h => h) (Or.inl ⟨by rfl, ?_⟩) kk ?_
            rotate_left 1
            · (intro W hSw; (try dsimp only at hSw); go_simp) <;> with_reducible rfl
            try simp only [Act.put, List.setIfInBounds_toArray, List.set_cons_zero, List.set_cons_succ]
            refine wpAnyT_takeL (i := 12) 15 (v := ?_) rfl (by kernel_rfl) (by kernel_rfl) (by kernel_rfl) (by kernel_rfl) (by kernel_rfl) (fun _ _ _ h => h) (Or.inl ⟨by rfl, ?_⟩) kk ?_
            rotate_left 1
            · (intro W hSw; (try dsimp only at hSw); go_simp) <;> with_reducible rfl
            try simp only [Act.put, List.setIfInBounds_toArray, List.set_cons_zero, List.set_cons_succ]
            clear hx kk
            refine wpAnyT_go (i := 14) rfl (by kernel_rfl) fun K hK => ?_
            obtain ⟨f0, f1, f2, f3, f4, f5⟩ := res3 BP
            go_simp
            have hG2 := ((hG.away bP 0 hbb hbw hpb (.slice t.x.A t.x.n t.x.c)).away bP 1 hbb hbw hpb (.slice t.y.A t.y.n t.y.c)).away bP 2 hbb hbw hpb (.slice t.z.A t.z.n t.z.c)
            have hl2 := ((hl.away hlb 0 (.slice t.x.A t.x.n t.x.c)).away hlb 1 (.slice t.y.A t.y.n t.y.c)).away hlb 2 (.slice t.z.A t.z.n t.z.c)
            refine hK _ _ ⟨fun _ => And.intro hG2.var.c3 (hide (Rd.all hl2.rd)), ?_⟩
            clear hK K
            refine wpAnyT_go (i := 15) rfl (by kernel_rfl) fun K hK => ?_
            go_simp
            refine hK _ _ ⟨fun h => absurd rfl h, ?_⟩
            clear hK K
            refine wpAnyT_done (by kernel_rfl) ?_ _
            go_wp2_with fail
            go_meet
            exact ⟨bP, t, y, rfl, rfl, hy, ((BP.set_ 0 _).set_ 1 _).set_ 2 _, fun h0 => ⟨(((oR h0).1.awD (hne h0) 0 _).awD (hne h0) 1 _).awD (hne h0) 2 _, (oR h0).2⟩, hG2, hl2⟩
        · have hzz : w.heap.size + 1 ≤ wd.heap.size := by have := hG.res.lt; omega
          have hzv : b < wd.heap.size := hG.var.lt
          go_simp
          have hx := (Ext.refl wd).alloc (.cells #[.slice none 0 0, .slice none 0 0, .slice none 0 0] 30)
          have BP := Blk.new wd 30 #[.slice none 0 0, .slice none 0 0, .slice none 0 0]
          obtain ⟨bP, hb⟩ : ∃ b, b = wd.heap.size := ⟨_, rfl⟩
          have hvl := hG.var.lt
          have hrl := hG.res.lt
          have hll := hl.lt
          have hgo := fun {k : Nat} (hk : blks p k) => hG.own.lt hk
          generalize hw : World.alloc wd (.cells #[.slice none 0 0, .slice none 0 0, .slice none 0 0] 30) = w6 at hx BP ⊢
          rw [← hb] at BP ⊢
          replace hl := hl.ext hx
          replace hG := hG.ext hx
          refine hK _ _ ⟨fun _ => And.intro hG.var.c3 (hide (Rd.all hl.rd)), ?_⟩
          clear hK K
          have hbw : w.heap.size < bP := by omega
          have hbb : bP ≠ b := by omega
          have hpb : ∀ j, blks p j → j ≠ bP := fun j hj => by have := (hgo hj).2; omega
          have hlb : Value.ownBlock (.slice (some ⟨bt, 0, none⟩) 12 ct) ≠ some bP := fun e => by have := (hll _ e).2; omega
          clear hvl hrl hll hgo hb hw
          have hzz6 : wd.heap.size ≤ w6.heap.size := hx.size
          clear hx
          refine wpAnyT_go (i := 6) rfl (by kernel_rfl) fun K hK => ?_
          go_simp
          refine (hkq _ hG.dr).mono ?_
          rintro e w7 ⟨q, rfl, ⟨q0, q1⟩, hD, hO⟩
          go_simp
          replace hl := hl.only hO (by have := hG.gl; omega)
          replace hG := hG.only hO hD
          have hzz7 := hO.size; replace BP := BP.only hO (by have := hG.gl; omega)
          obtain ⟨q, rfl⟩ := Int.eq_ofNat_of_zero_le q0
          have hq12 : q < 12 := by omega
          have hqI : (q : Int) < 12 := by omega
          have hq0 : (0 : Int) ≤ (q : Int) := by omega
          clear q0 q1
          refine hK _ _ ⟨fun _ => And.intro hG.var.c3 (hide (Rd.all hl.rd)), ?_⟩
          clear hK K kk hD hO
          have kk := And.intro hG.var.c3 (hide (Rd.all hl.rd))
          obtain ⟨y, hyv⟩ : ∃ y, Hid (xs.getD q 0 = y) := ⟨_, rfl⟩
          have hy : 1 ≤ y ∧ y ≤ 1000000 := by rw [← hyv.out]; exact distP_pos hxd.out (show q < xs.length by have := hxl.out; omega)
          refine wpAnyT_takeL (i := 7) 15 (v := ?_) rfl (by kernel_rfl) (by kernel_rfl) (by kernel_rfl) (by kernel_rfl) (by kernel_rfl) (fun _ _ _ h => h) (Or.inl ⟨by rfl, ?_⟩) kk ?_
          rotate_left 1
          · (intro W hSw; (try dsimp only at hSw); go_simp) <;> with_reducible rfl
          try simp only [Act.put, List.setIfInBounds_toArray, List.set_cons_zero, List.set_cons_succ]
          refine wpAnyT_takeL (i := 8) 15 (v := ?_) rfl (by kernel_rfl) (by kernel_rfl) (by kernel_rfl) (by kernel_rfl) (by kernel_rfl) (fun _ _ _ h => h) (Or.inl ⟨by rfl, ?_⟩) kk ?_
          rotate_left 1
          · (intro W hSw; (try dsimp only at hSw); have hqc : W.cell? ⟨bt, q, none⟩ = some (.int .i64 y) := (by rw [← hyv.out]; exact hSw.2.out q hq12); go_simp) <;> with_reducible rfl
          try simp only [Act.put, List.setIfInBounds_toArray, List.set_cons_zero, List.set_cons_succ]
          have hbl7 := BP.lt
          refine wpAnyT_go (i := 9) rfl (by kernel_rfl) fun K hK => ?_
          go_simp
          refine (spec.l15Leave_any p l y _ hG.own.rd hok.out hy.1).mono ?_
          rintro e w8 ⟨t, rfl, oR, hx⟩
          go_simp
          replace hl := hl.ext hx
          replace hG := hG.ext hx
          replace BP := BP.ext hx
          have hne : lvC l y = 0 → ∀ k, blks t k → k ≠ bP := fun h0 k hk => by have := ((oR h0).lt hk).1; omega
          have oR : lvC l y = 0 → Own3 w8 (w.heap.size + 1) t (lvV l y) ∧ ∀ k, blks t k → k ≠ b := fun h0 => ⟨((oR h0).ext (Ext.refl _)).mono (by have := hzz; omega), fun k hk => by have := ((oR h0).lt hk).1; have := hzv; omega⟩
          refine hK _ _ ⟨fun _ => And.intro hG.var.c3 (hide (Rd.all hl.rd)), ?_⟩
          clear hK K
          have kk := And.intro hG.var.c3 (hide (Rd.all hl.rd))
          refine wpAnyT_takeL (i := 10) 15 (v := ?_) rfl (by kernel_rfl) (by kernel_rfl) (by kernel_rfl) (by kernel_rfl) (by kernel_rfl) (fun _ _ _ h => h) (Or.inl ⟨by rfl, ?_⟩) kk ?_
          rotate_left 1
          · (intro W hSw; (try dsimp only at hSw); go_simp) <;> with_reducible rfl
          try simp only [Act.put, List.setIfInBounds_toArray, List.set_cons_zero, List.set_cons_succ]
          refine wpAnyT_takeL (i := 11) 15 (v := ?_) rfl (by kernel_rfl) (by kernel_rfl) (by kernel_rfl) (by kernel_rfl) (by kernel_rfl) (fun _ _ _ h => h) (Or.inl ⟨by rfl, ?_⟩) kk ?_
          rotate_left 1
          · (intro W hSw; (try dsimp only at hSw); go_simp) <;> with_reducible rfl
          try simp only [Act.put, List.setIfInBounds_toArray, List.set_cons_zero, List.set_cons_succ]
          refine wpAnyT_takeL (i := 12) 15 (v := ?_) rfl (by kernel_rfl) (by kernel_rfl) (by kernel_rfl) (by kernel_rfl) (by kernel_rfl) (fun _ _ _ h => h) (Or.inl ⟨by rfl, ?_⟩) kk ?_
          rotate_left 1
          · (intro W hSw; (try dsimp only at hSw); go_simp) <;> with_reducible rfl
          try simp only [Act.put, List.setIfInBounds_toArray, List.set_cons_zero, List.set_cons_succ]
          clear hx kk
          refine wpAnyT_go (i := 14) rfl (by kernel_rfl) fun K hK => ?_
          obtain ⟨f0, f1, f2, f3, f4, f5⟩ := res3 BP
          go_simp
          have hG2 := ((hG.away bP 0 hbb hbw hpb (.slice t.x.A t.x.n t.x.c)).away bP 1 hbb hbw hpb (.slice t.y.A t.y.n t.y.c)).away bP 2 hbb hbw hpb (.slice t.z.A t.z.n t.z.c)
          have hl2 := ((hl.away hlb 0 (.slice t.x.A t.x.n t.x.c)).away hlb 1 (.slice t.y.A t.y.n t.y.c)).away hlb 2 (.slice t.z.A t.z.n t.z.c)
          refine hK _ _ ⟨fun _ => And.intro hG2.var.c3 (hide (Rd.all hl2.rd)), ?_⟩
          clear hK K
          refine wpAnyT_go (i := 15) rfl (by kernel_rfl) fun K hK => ?_
          go_simp
          refine hK _ _ ⟨fun h => absurd rfl h, ?_⟩
          clear hK K
          refine wpAnyT_done (by kernel_rfl) ?_ _
          go_wp2_with fail
          go_meet
          exact ⟨bP, t, y, rfl, rfl, hy, ((BP.set_ 0 _).set_ 1 _).set_ 2 _, fun h0 => ⟨(((oR h0).1.awD (hne h0) 0 _).awD (hne h0) 1 _).awD (hne h0) 2 _, (oR h0).2⟩, hG2, hl2⟩
      case rest =>
        clear hG hl
        obtain ⟨q, t, y, rfl, rfl, hy, hQ, hO, hG, hl⟩ := hcut
        obtain ⟨wx, hwx⟩ : ∃ wx, wx = wc := ⟨_, rfl⟩
        subst hwx
        obtain ⟨c0, c1, c2, f0, f1, f2⟩ := res3 hG.var
        obtain ⟨v0, v1, v2⟩ := hQ.c3
        by_cases h0 : lvC l y = 0
        · obtain ⟨ho, ha⟩ := hO h0
          have hbo : Value.ownBlock (.slice (some ⟨bt, 0, none⟩) 12 ct) ≠ some b := fun e => by have := hbtb; have := ownBlock_eq e; omega
          have hG2 := hG.put3 ho ha
          have hl2 := ((hl.away hbo 0 (.slice t.x.A t.x.n t.x.c)).away hbo 1 (.slice t.y.A t.y.n t.y.c)).away hbo 2 (.slice t.z.A t.z.n t.z.c)
          have hok2 := hide (okJ_lv (show ljC l y = 0 by unfold ljC; rw [hok.out, inB_yes hy]; exact h0))
          rw [h0]
          clear hO h0 hbo
          go_wp2_with fail
          go_roundw
          case rel => exact ⟨m - 1, _, _, by go_num, by omega, hG2, hok2, hl2⟩
          case measure => simp [intOf]; omega
        · have hb0 : (lvC l y == 0) = false := by rw [beq_eq_false_iff_ne]; exact h0
          clear hO h0
          go_wp2_with fail
          go_roundw
          case rel => exact ⟨m - 1, _, _, by go_num, by omega, hG, hok, hl⟩
          case measure => simp [intOf]; omega
    · have hm' : ¬ (0 : Int) < (m : Int) := by omega
      have hRr := hG.res
      have hrl := hG.bl
      obtain ⟨r0, r1, r2, r3, r4, r5⟩ := res3 hRr
      obtain ⟨c0, c1, c2⟩ := hG.var.c3
      have m := (((hRr.set_ 0 (.slice p.x.A p.x.n p.x.c)).set_ 1 (.slice p.y.A p.y.n p.y.c)).set_ 2 (.slice p.z.A p.z.n p.z.c)).c3
      have hgl := hG.gl
      have hon := ((hG.own.awayP (g := w.heap.size) (by omega) 0 (.slice p.x.A p.x.n p.x.c)).awayP (g := w.heap.size) (by omega) 1 (.slice p.y.A p.y.n p.y.c)).awayP (g := w.heap.size) (by omega) 2 (.slice p.z.A p.z.n p.z.c)
      have hDn := ((hG.dr.off w.heap.size 0 (by omega) (.slice p.x.A p.x.n p.x.c)).off w.heap.size 1 (by omega) (.slice p.y.A p.y.n p.y.c)).off w.heap.size 2 (by omega) (.slice p.z.A p.z.n p.z.c)
      have hOn := ((Only.off hG.onl w.heap.size 0 (by omega) (.slice p.x.A p.x.n p.x.c)).off w.heap.size 1 (by omega) (.slice p.y.A p.y.n p.y.c)).off w.heap.size 2 (by omega) (.slice p.z.A p.z.n p.z.c)
      go_wp2_with fail
      refine bodyPost_ret (v := .agg #[.slice p.x.A p.x.n p.x.c, .slice p.y.A p.y.n p.y.c, .slice p.z.A p.z.n p.z.c]) (by simp [results, Tryz.results29, go_sem, m.1, m.2.1, m.2.2]) rfl ⟨p, l, rfl, hon.mono (by omega), hok.out, hDn, hOn⟩
end Go.Proofs.YtofglgfjlbehmaaGreat.mem
