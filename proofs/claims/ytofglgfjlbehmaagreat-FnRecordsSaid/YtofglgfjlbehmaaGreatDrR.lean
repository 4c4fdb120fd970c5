/-
  Draws of records, in the reference.
-/
import Derived.Test.YtofglgfjlbehmaaGreatDrA
import Derived.Test.YtofglgfjlbehmaaGreatRecW
import Derived.Test.YtofglgfjlbehmaaGreatMk
import Derived.Deep.RegionHeld3
import Derived.Deep.DeepCutAuto
import Derived.Deep.CutBlock
namespace Go.Proofs.YtofglgfjlbehmaaGreat.mem
open Go.ChangeShapes Go.WideShapes Go.ChangeAt Go.RowKit

section
variable {w w' w0 wr wr2 : World} {lo g b r : Nat} {s : Sl} {x x' : RecA} {y y' : RecL} {t : Sl} {xs : List Int}
theorem Only.growR {row : Option Nat} {w'' : World} (h : Only g w w') (hg : w'.grownBy w'' row) (hr : ∀ k, row = some k → w.heap.size ≤ k) : Only g w w'' :=
  ⟨hg.os.trans h.os, hg.tape.trans h.tape, hg.output.trans h.output, Nat.le_trans h.size hg.size, fun k hk hne => (hg.block k (Nat.lt_of_lt_of_le hk h.size) (fun e => by have := hr k e.symm; omega)).trans (h.block k hk hne)⟩
theorem OwnR.only (h : OwnR w lo x y) (hf : Only g w w') (hl : g < lo) : OwnR w' lo x y := ⟨h.1.only hf hl, h.2⟩
theorem OwnR.awD (h : OwnR w lo x y) (hg : ∀ k, blksR x k → k ≠ b) (i : Nat) (u : Value) : OwnR (w.setCell ⟨b, i, none⟩ u) lo x y := ⟨h.1.awD hg i u, h.2⟩
theorem OwnR.awP (h : OwnR w lo x y) (hg : b < lo) (i : Nat) (u : Value) : OwnR (w.setCell ⟨b, i, none⟩ u) lo x y := ⟨h.1.awayP hg i u, h.2⟩
/-- the record as far as it has been drawn: its variable lies in block b, the result's in block r -/
structure GrI (w0 w : World) (g : Nat) (s : Sl) (r b : Nat) (x : RecA) (y : RecL) (wr : World) : Prop where
  res : Blk wr r 26 #[.int .i64 0, .int .i64 0, .int .i64 0, .slice none 0 0, .int .i64 0, .slice none 0 0, .slice none 0 0, .int .i64 0, .int .i64 0]
  var : Blk wr b 26 #[.int .i64 x.a, .int .i64 x.b, .int .i64 x.c, .slice x.p.x.A x.p.x.n x.p.x.c, .int .i64 x.d, .slice x.p.y.A x.p.y.n x.p.y.c, .slice x.p.z.A x.p.z.n x.p.z.c, .int .i64 x.e, .int .i64 x.f]
  own : OwnR wr (r + 1) x y
  apt : ∀ k, blksR x k → k ≠ b
  dr : Dr w0 wr g s
  onl : Only g w wr
  gl : g < w.heap.size
  rl : w.heap.size ≤ r
  bl : r < b
theorem GrI.only (h : GrI w0 w g s r b x y wr) (hO : Only g wr wr2) (hD : Dr w0 wr2 g s) : GrI w0 w g s r b x y wr2 := by
  have h1 := h.gl
  have h2 := h.rl
  have h3 := h.bl
  exact ⟨h.res.only hO (by omega), h.var.only hO (by omega), h.own.only hO (by omega), h.apt, hD, Fr.trans h.onl hO, h1, h2, h3⟩
theorem GrI.ext (h : GrI w0 w g s r b x y wr) (hx : Ext wr wr2) : GrI w0 w g s r b x y wr2 :=
  ⟨h.res.ext hx, h.var.ext hx, h.own.ext hx, h.apt, h.dr.more hx, Only.more h.onl hx, h.gl, h.rl, h.bl⟩
theorem GrI.put (h : GrI w0 w g s r b x y wr) (i : Nat) (u : Value) (hc : (#[.int .i64 x.a, .int .i64 x.b, .int .i64 x.c, .slice x.p.x.A x.p.x.n x.p.x.c, .int .i64 x.d, .slice x.p.y.A x.p.y.n x.p.y.c, .slice x.p.z.A x.p.z.n x.p.z.c, .int .i64 x.e, .int .i64 x.f] : Array Value).setIfInBounds i u = #[.int .i64 x'.a, .int .i64 x'.b, .int .i64 x'.c, .slice x'.p.x.A x'.p.x.n x'.p.x.c, .int .i64 x'.d, .slice x'.p.y.A x'.p.y.n x'.p.y.c, .slice x'.p.z.A x'.p.z.n x'.p.z.c, .int .i64 x'.e, .int .i64 x'.f]) (ho : OwnR wr (r + 1) x' y') (ha : ∀ k, blksR x' k → k ≠ b) :
    GrI w0 w g s r b x' y' (wr.setCell ⟨b, i, none⟩ u) := by
  have h1 := h.gl
  have h2 := h.rl
  have h3 := h.bl
  exact ⟨h.res.off b i (by omega) u, hc ▸ h.var.set_ i u, ho.awD ha i u, ha, h.dr.off b i (by omega) u, h.onl.off b i (by omega) u, h1, h2, h3⟩
theorem GrI.puta (h : GrI w0 w g s r b x y wr) (v : Int) : GrI w0 w g s r b ⟨v, x.b, x.c, x.p, x.d, x.e, x.f⟩ ⟨v, y.b, y.c, y.p, y.d, y.e, y.f⟩ (wr.setCell ⟨b, 0, none⟩ (.int .i64 v)) :=
  h.put 0 _ rfl ⟨h.own.1, rfl, h.own.2.2⟩ h.apt
theorem GrI.putb (h : GrI w0 w g s r b x y wr) (v : Int) : GrI w0 w g s r b ⟨x.a, v, x.c, x.p, x.d, x.e, x.f⟩ ⟨y.a, v, y.c, y.p, y.d, y.e, y.f⟩ (wr.setCell ⟨b, 1, none⟩ (.int .i64 v)) :=
  h.put 1 _ rfl ⟨h.own.1, h.own.2.1, rfl, h.own.2.2.2⟩ h.apt
theorem GrI.putd (h : GrI w0 w g s r b x y wr) (v : Int) : GrI w0 w g s r b ⟨x.a, x.b, x.c, x.p, v, x.e, x.f⟩ ⟨y.a, y.b, y.c, y.p, v, y.e, y.f⟩ (wr.setCell ⟨b, 4, none⟩ (.int .i64 v)) :=
  h.put 4 _ rfl ⟨h.own.1, h.own.2.1, h.own.2.2.1, h.own.2.2.2.1, rfl, h.own.2.2.2.2.2⟩ h.apt
theorem GrI.pute (h : GrI w0 w g s r b x y wr) (v : Int) : GrI w0 w g s r b ⟨x.a, x.b, x.c, x.p, x.d, v, x.f⟩ ⟨y.a, y.b, y.c, y.p, y.d, v, y.f⟩ (wr.setCell ⟨b, 7, none⟩ (.int .i64 v)) :=
  h.put 7 _ rfl ⟨h.own.1, h.own.2.1, h.own.2.2.1, h.own.2.2.2.1, h.own.2.2.2.2.1, rfl, h.own.2.2.2.2.2.2⟩ h.apt
theorem GrI.appx (h : GrI w0 w g s r b x y wr) (ho : Own wr2 (r + 1) (.slice t.A t.n t.c) xs) (hg : wr.grownBy wr2 (Value.ownBlock (.slice x.p.x.A x.p.x.n x.p.x.c))) (hb : Value.ownBlock (.slice t.A t.n t.c) = Value.ownBlock (.slice x.p.x.A x.p.x.n x.p.x.c) ∨ Value.ownBlock (.slice t.A t.n t.c) = some wr.heap.size) (hs : x.p.x.n + (x.p.y.n + x.p.z.n) ≤ 100000) (hs2 : xs.length ≤ 100000) :
    GrI w0 w g s r b ⟨x.a, x.b, x.c, ⟨t, x.p.y, x.p.z⟩, x.d, x.e, x.f⟩ ⟨y.a, y.b, y.c, ⟨xs, y.p.y, y.p.z⟩, y.d, y.e, y.f⟩ (wr2.setCell ⟨b, 3, none⟩ (.slice t.A t.n t.c)) := by
  have h1 := h.gl
  have h2 := h.rl
  have h3 := h.bl
  have hF := Fr.of_grown hg
  have hlt : ∀ k, Value.ownBlock (.slice x.p.x.A x.p.x.n x.p.x.c) = some k → r + 1 ≤ k ∧ k < wr.heap.size := h.own.1.1.lt
  have hvb := h.var.lt
  have htn : t.n = xs.length := ho.rd.1
  have hnb : ∀ k, Value.ownBlock (.slice x.p.x.A x.p.x.n x.p.x.c) = some k → k ≠ b := fun k hk => h.apt k (.inl (hk))
  have hapy : ∀ k, Value.ownBlock (.slice t.A t.n t.c) = some k → Value.ownBlock (.slice x.p.y.A x.p.y.n x.p.y.c) ≠ some k := fun k hk hq => by
    rcases hb with e | e
    · rw [e] at hk
      exact h.own.1.2.2.2.2.1 k hk hq
    · rw [e] at hk; injection hk with hk; have := (h.own.1.2.1.lt k hq).2; omega
  have hapz : ∀ k, Value.ownBlock (.slice t.A t.n t.c) = some k → Value.ownBlock (.slice x.p.z.A x.p.z.n x.p.z.c) ≠ some k := fun k hk hq => by
    rcases hb with e | e
    · rw [e] at hk
      exact h.own.1.2.2.2.2.2.1 k hk hq
    · rw [e] at hk; injection hk with hk; have := (h.own.1.2.2.1.lt k hq).2; omega
  have hkeep : GrI w0 w g s r b ⟨x.a, x.b, x.c, ⟨t, x.p.y, x.p.z⟩, x.d, x.e, x.f⟩ ⟨y.a, y.b, y.c, ⟨xs, y.p.y, y.p.z⟩, y.d, y.e, y.f⟩ (wr2.setCell ⟨b, 3, none⟩ (.slice t.A t.n t.c)) := by
    have hoR : OwnR wr2 (r + 1) (⟨x.a, x.b, x.c, ⟨t, x.p.y, x.p.z⟩, x.d, x.e, x.f⟩ : RecA) (⟨y.a, y.b, y.c, ⟨xs, y.p.y, y.p.z⟩, y.d, y.e, y.f⟩ : RecL) := ⟨⟨ho, h.own.1.2.1.fr hF (fun k hk e => h.own.1.2.2.2.2.1 k e hk), h.own.1.2.2.1.fr hF (fun k hk e => h.own.1.2.2.2.2.2.1 k e hk), by simp only; omega, hapy, hapz, h.own.1.2.2.2.2.2.2⟩, h.own.2⟩
    have hap : ∀ k, blksR (⟨x.a, x.b, x.c, ⟨t, x.p.y, x.p.z⟩, x.d, x.e, x.f⟩ : RecA) k → k ≠ b := by
      rintro k (hk | hk | hk)
      · rcases hb with e | e
        · exact hnb k (by rw [← e]; exact hk)
        · have hk2 := hk; simp only at hk2; rw [e] at hk2; injection hk2 with hk2; omega
      · exact h.apt k (.inr (.inl (hk)))
      · exact h.apt k (.inr (.inr (hk)))
    exact ⟨(h.res.fr hF (fun e => by have := (hlt _ e).1; omega)).off b 3 (by omega) _, (h.var.fr hF (fun e => hnb _ e rfl)).set_ 3 _, hoR.awD hap 3 _, hap, (h.dr.keep hF (fun e => by have := (hlt _ e).1; omega) (fun k e => by have := (hlt k e).1; have := h.dr.low; omega)).off b 3 (by omega) _, (Only.growR h.onl hg (fun k e => by have := (hlt k e).1; omega)).off b 3 (by omega) _, h1, h2, h3⟩
  exact hkeep
theorem GrI.appz (h : GrI w0 w g s r b x y wr) (ho : Own wr2 (r + 1) (.slice t.A t.n t.c) xs) (hg : wr.grownBy wr2 (Value.ownBlock (.slice x.p.z.A x.p.z.n x.p.z.c))) (hb : Value.ownBlock (.slice t.A t.n t.c) = Value.ownBlock (.slice x.p.z.A x.p.z.n x.p.z.c) ∨ Value.ownBlock (.slice t.A t.n t.c) = some wr.heap.size) (hs : x.p.x.n + (x.p.y.n + x.p.z.n) ≤ 100000) (hs2 : xs.length ≤ 100000) :
    GrI w0 w g s r b ⟨x.a, x.b, x.c, ⟨x.p.x, x.p.y, t⟩, x.d, x.e, x.f⟩ ⟨y.a, y.b, y.c, ⟨y.p.x, y.p.y, xs⟩, y.d, y.e, y.f⟩ (wr2.setCell ⟨b, 6, none⟩ (.slice t.A t.n t.c)) := by
  have h1 := h.gl
  have h2 := h.rl
  have h3 := h.bl
  have hF := Fr.of_grown hg
  have hlt : ∀ k, Value.ownBlock (.slice x.p.z.A x.p.z.n x.p.z.c) = some k → r + 1 ≤ k ∧ k < wr.heap.size := h.own.1.2.2.1.lt
  have hvb := h.var.lt
  have htn : t.n = xs.length := ho.rd.1
  have hnb : ∀ k, Value.ownBlock (.slice x.p.z.A x.p.z.n x.p.z.c) = some k → k ≠ b := fun k hk => h.apt k (.inr (.inr (hk)))
  have hapx : ∀ k, Value.ownBlock (.slice t.A t.n t.c) = some k → Value.ownBlock (.slice x.p.x.A x.p.x.n x.p.x.c) ≠ some k := fun k hk hq => by
    rcases hb with e | e
    · rw [e] at hk
      exact h.own.1.2.2.2.2.2.1 k hq hk
    · rw [e] at hk; injection hk with hk; have := (h.own.1.1.lt k hq).2; omega
  have hapy : ∀ k, Value.ownBlock (.slice t.A t.n t.c) = some k → Value.ownBlock (.slice x.p.y.A x.p.y.n x.p.y.c) ≠ some k := fun k hk hq => by
    rcases hb with e | e
    · rw [e] at hk
      exact h.own.1.2.2.2.2.2.2 k hq hk
    · rw [e] at hk; injection hk with hk; have := (h.own.1.2.1.lt k hq).2; omega
  have hkeep : GrI w0 w g s r b ⟨x.a, x.b, x.c, ⟨x.p.x, x.p.y, t⟩, x.d, x.e, x.f⟩ ⟨y.a, y.b, y.c, ⟨y.p.x, y.p.y, xs⟩, y.d, y.e, y.f⟩ (wr2.setCell ⟨b, 6, none⟩ (.slice t.A t.n t.c)) := by
    have hoR : OwnR wr2 (r + 1) (⟨x.a, x.b, x.c, ⟨x.p.x, x.p.y, t⟩, x.d, x.e, x.f⟩ : RecA) (⟨y.a, y.b, y.c, ⟨y.p.x, y.p.y, xs⟩, y.d, y.e, y.f⟩ : RecL) := ⟨⟨h.own.1.1.fr hF (fun k hk e => h.own.1.2.2.2.2.2.1 k hk e), h.own.1.2.1.fr hF (fun k hk e => h.own.1.2.2.2.2.2.2 k hk e), ho, by simp only; omega, h.own.1.2.2.2.2.1, (fun k hk e => hapx k e hk), (fun k hk e => hapy k e hk)⟩, h.own.2⟩
    have hap : ∀ k, blksR (⟨x.a, x.b, x.c, ⟨x.p.x, x.p.y, t⟩, x.d, x.e, x.f⟩ : RecA) k → k ≠ b := by
      rintro k (hk | hk | hk)
      · exact h.apt k (.inl (hk))
      · exact h.apt k (.inr (.inl (hk)))
      · rcases hb with e | e
        · exact hnb k (by rw [← e]; exact hk)
        · have hk2 := hk; simp only at hk2; rw [e] at hk2; injection hk2 with hk2; omega
    exact ⟨(h.res.fr hF (fun e => by have := (hlt _ e).1; omega)).off b 6 (by omega) _, (h.var.fr hF (fun e => hnb _ e rfl)).set_ 6 _, hoR.awD hap 6 _, hap, (h.dr.keep hF (fun e => by have := (hlt _ e).1; omega) (fun k e => by have := (hlt k e).1; have := h.dr.low; omega)).off b 6 (by omega) _, (Only.growR h.onl hg (fun k e => by have := (hlt k e).1; omega)).off b 6 (by omega) _, h1, h2, h3⟩
  exact hkeep
theorem GrI.newx (h : GrI w0 w g s r b x y wr) (hx : Ext wr wr2) (ho : Own wr2 wr.heap.size (.slice t.A t.n t.c) xs) (hs : x.p.x.n + (x.p.y.n + x.p.z.n) ≤ 100000) (hs2 : xs.length ≤ 100000) :
    GrI w0 w g s r b ⟨x.a, x.b, x.c, ⟨t, x.p.y, x.p.z⟩, x.d, x.e, x.f⟩ ⟨y.a, y.b, y.c, ⟨xs, y.p.y, y.p.z⟩, y.d, y.e, y.f⟩ (wr2.setCell ⟨b, 3, none⟩ (.slice t.A t.n t.c)) := by
  have h3 := h.bl
  have hvb := h.var.lt
  have htn : t.n = xs.length := ho.rd.1
  refine (h.ext hx).put 3 _ rfl ⟨⟨ho.mono (by omega), h.own.1.2.1.ext hx, h.own.1.2.2.1.ext hx, by simp only; omega, (fun k h1 h2 => by have a1 := (ho.lt k h1).1; have a2 := (h.own.1.2.1.lt k h2).2; omega), (fun k h1 h2 => by have a1 := (ho.lt k h1).1; have a2 := (h.own.1.2.2.1.lt k h2).2; omega), h.own.1.2.2.2.2.2.2⟩, h.own.2⟩ ?_
  rintro k (hk | hk | hk)
  · have := (ho.lt k hk).1; omega
  · exact h.apt k (.inr (.inl (hk)))
  · exact h.apt k (.inr (.inr (hk)))
theorem GrI.newy (h : GrI w0 w g s r b x y wr) (hx : Ext wr wr2) (ho : Own wr2 wr.heap.size (.slice t.A t.n t.c) xs) (hs : x.p.x.n + (x.p.y.n + x.p.z.n) ≤ 100000) (hs2 : xs.length ≤ 100000) :
    GrI w0 w g s r b ⟨x.a, x.b, x.c, ⟨x.p.x, t, x.p.z⟩, x.d, x.e, x.f⟩ ⟨y.a, y.b, y.c, ⟨y.p.x, xs, y.p.z⟩, y.d, y.e, y.f⟩ (wr2.setCell ⟨b, 5, none⟩ (.slice t.A t.n t.c)) := by
  have h3 := h.bl
  have hvb := h.var.lt
  have htn : t.n = xs.length := ho.rd.1
  refine (h.ext hx).put 5 _ rfl ⟨⟨h.own.1.1.ext hx, ho.mono (by omega), h.own.1.2.2.1.ext hx, by simp only; omega, (fun k h1 h2 => by have a1 := (h.own.1.1.lt k h1).2; have a2 := (ho.lt k h2).1; omega), h.own.1.2.2.2.2.2.1, (fun k h1 h2 => by have a1 := (ho.lt k h1).1; have a2 := (h.own.1.2.2.1.lt k h2).2; omega)⟩, h.own.2⟩ ?_
  rintro k (hk | hk | hk)
  · exact h.apt k (.inl (hk))
  · have := (ho.lt k hk).1; omega
  · exact h.apt k (.inr (.inr (hk)))
theorem GrI.newz (h : GrI w0 w g s r b x y wr) (hx : Ext wr wr2) (ho : Own wr2 wr.heap.size (.slice t.A t.n t.c) xs) (hs : x.p.x.n + (x.p.y.n + x.p.z.n) ≤ 100000) (hs2 : xs.length ≤ 100000) :
    GrI w0 w g s r b ⟨x.a, x.b, x.c, ⟨x.p.x, x.p.y, t⟩, x.d, x.e, x.f⟩ ⟨y.a, y.b, y.c, ⟨y.p.x, y.p.y, xs⟩, y.d, y.e, y.f⟩ (wr2.setCell ⟨b, 6, none⟩ (.slice t.A t.n t.c)) := by
  have h3 := h.bl
  have hvb := h.var.lt
  have htn : t.n = xs.length := ho.rd.1
  refine (h.ext hx).put 6 _ rfl ⟨⟨h.own.1.1.ext hx, h.own.1.2.1.ext hx, ho.mono (by omega), by simp only; omega, h.own.1.2.2.2.2.1, (fun k h1 h2 => by have a1 := (h.own.1.1.lt k h1).2; have a2 := (ho.lt k h2).1; omega), (fun k h1 h2 => by have a1 := (h.own.1.2.1.lt k h1).2; have a2 := (ho.lt k h2).1; omega)⟩, h.own.2⟩ ?_
  rintro k (hk | hk | hk)
  · exact h.apt k (.inl (hk))
  · exact h.apt k (.inr (.inl (hk)))
  · have := (ho.lt k hk).1; omega
end
theorem up_get {xs : List Int} {n : Int} {k : Nat} (hk : k ≤ xs.length) : (xs ++ [n]).getD k 0 = if k < xs.length then xs.getD k 0 else n := by
  split
  · rename_i h
    simp [List.getD_eq_getElem?_getD, List.getElem?_append_left h]
  · rename_i h
    obtain rfl : k = xs.length := by omega
    simp [List.getD_eq_getElem?_getD]
theorem inc_snoc {xs : List Int} {n : Int} (h : incB xs = true) (hb : ∀ x ∈ xs, x < n) (h1 : 1 ≤ n) (h2 : n ≤ 1000000) : incB (xs ++ [n]) = true := by
  refine incB_yes fun k hk => ?_
  rw [List.length_append, List.length_singleton] at hk
  unfold upAt
  rw [up_get (by omega), up_get (k := k - 1) (by omega)]
  split
  · rename_i hlt
    rw [if_pos (by omega)]
    unfold incB at h
    exact List.all_eq_true.1 h k (List.mem_range.2 hlt)
  · rename_i hge
    rw [inB_yes ⟨h1, h2⟩, Bool.true_and]
    by_cases hk0 : k = 0
    · rw [decide_eq_true hk0]; rfl
    · have hl : k - 1 < xs.length := by omega
      rw [if_pos hl]
      have : xs.getD (k - 1) 0 < n := hb _ (by rw [List.getD_eq_getElem?_getD, List.getElem?_eq_getElem hl]; exact List.getElem_mem hl)
      rw [decide_eq_true this, Bool.or_true]
theorem mov_snoc {xs : List Int} {n : Int} (h : movB xs = true) (h1 : -1 ≤ n) (h2 : n ≤ 11) : movB (xs ++ [n]) = true := by
  unfold movB at h ⊢
  rw [List.all_append, h, List.all_cons, inB_yes ⟨h1, h2⟩]
  rfl
theorem below_snoc {xs : List Int} {n m : Int} (h : ∀ x ∈ xs, x < n) (hm : n < m) : ∀ x ∈ xs ++ [n], x < m := fun x hx => by
  rcases List.mem_append.1 hx with h1 | h1
  · have := h x h1; omega
  · rw [List.mem_singleton] at h1; omega
theorem cmt_bd (b c : Int) : 0 ≤ cmt b c ∧ cmt b c ≤ 2147483646 := by
  unfold cmt
  have h1 := Int.emod_nonneg ((b * 16807 + c) % 2147483647 * 65539 + b) (show (2147483647 : Int) ≠ 0 by decide)
  have h2 := Int.emod_lt_of_pos ((b * 16807 + c) % 2147483647 * 65539 + b) (show (0 : Int) < 2147483647 by decide)
  omega
/-- what a drawn record holds beside its numbers and moves -/
def GrP (y : RecL) : Prop := (0 ≤ y.a ∧ y.a ≤ 2147483646) ∧ (1 ≤ y.b ∧ y.b ≤ 2147483646) ∧ (0 ≤ y.c ∧ y.c ≤ 2147483646) ∧ (1 ≤ y.d ∧ y.d ≤ 12) ∧ strB y.p.y = true ∧ (1 ≤ y.e ∧ y.e ≤ 12) ∧ (0 ≤ y.f ∧ y.f ≤ 6) ∧ y.p.y.length = 2
theorem GrP.ok {y : RecL} (h : GrP y) (h1 : incB y.p.x = true) (h2 : y.p.x.length ≤ 60) (h3 : movB y.p.z = true) (h4 : y.p.z.length ≤ 40) : okR y = true := by
  obtain ⟨a, b, c, d, e, f, g, _⟩ := h
  unfold okR
  rw [inB_yes a, inB_yes b, inB_yes c, inB_yes d, inB_yes f, inB_yes g, e, h1, h3, decide_eq_true h2, decide_eq_true h4]
  rfl
def DrP (w0 w : World) (g : Nat) (s : Sl) (e : Ending) (w' : World) : Prop :=
  ∃ (x : RecA) (y : RecL), e = .returned (.agg #[.int .i64 x.a, .int .i64 x.b, .int .i64 x.c, .slice x.p.x.A x.p.x.n x.p.x.c, .int .i64 x.d, .slice x.p.y.A x.p.y.n x.p.y.c, .slice x.p.z.A x.p.z.n x.p.z.c, .int .i64 x.e, .int .i64 x.f]) ∧ OwnR w' w.heap.size x y ∧ okR y = true ∧ (y.p.x.length ≤ 60 ∧ y.p.y.length ≤ 60 ∧ y.p.z.length ≤ 60) ∧ Dr w0 w' g s ∧ Only g w w'
/-- the same, of any record that is not large -/
def DqP (w0 w : World) (g : Nat) (s : Sl) (e : Ending) (w' : World) : Prop :=
  ∃ (x : RecA) (y : RecL), e = .returned (.agg #[.int .i64 x.a, .int .i64 x.b, .int .i64 x.c, .slice x.p.x.A x.p.x.n x.p.x.c, .int .i64 x.d, .slice x.p.y.A x.p.y.n x.p.y.c, .slice x.p.z.A x.p.z.n x.p.z.c, .int .i64 x.e, .int .i64 x.f]) ∧ OwnR w' w.heap.size x y ∧ (y.p.x.length ≤ 60 ∧ y.p.y.length ≤ 60 ∧ y.p.z.length ≤ 60) ∧ Dr w0 w' g s ∧ Only g w w'
theorem smallG {w0 w wr : World} {g : Nat} {s : Sl} {r b : Nat} {x : RecA} {y : RecL} (h : GrI w0 w g s r b x y wr) : x.p.x.n = y.p.x.length ∧ x.p.y.n = y.p.y.length ∧ x.p.z.n = y.p.z.length := ⟨h.own.1.1.rd.1, h.own.1.2.1.rd.1, h.own.1.2.2.1.rd.1⟩
set_option maxRecDepth 20000 in
set_option maxHeartbeats 8000000 in
theorem spec.l16Good_any (g : Nat) (s : Sl) (w0 w : World) (h : Dr w0 w g s) :
    Calls Tryz.prog 83 #[.pointer (some ⟨g, 0, none⟩)] w fun e w' => DrP w0 w g s e w' := by
  have hk2000000000 := fun W h => spec.l01Next_any g s 2000000000 w0 W h (by omega)
  have hk5 := fun W h => spec.l01Next_any g s 5 w0 W h (by omega)
  have hk4 := fun W h => spec.l01Next_any g s 4 w0 W h (by omega)
  have hk2 := fun W h => spec.l01Next_any g s 2 w0 W h (by omega)
  have hk8 := fun W h => spec.l01Next_any g s 8 w0 W h (by omega)
  have hk14 := fun W h => spec.l01Next_any g s 14 w0 W h (by omega)
  have hk6 := fun W h => spec.l01Next_any g s 6 w0 W h (by omega)
  have hg := h.lt
  have hR := Blk.new w 26 #[.int .i64 0, .int .i64 0, .int .i64 0, .slice none 0 0, .int .i64 0, .slice none 0 0, .slice none 0 0, .int .i64 0, .int .i64 0]
  have hD0 := h.alloc (.cells #[.int .i64 0, .int .i64 0, .int .i64 0, .slice none 0 0, .int .i64 0, .slice none 0 0, .slice none 0 0, .int .i64 0, .int .i64 0] 26)
  have hO0 : Only g w (w.alloc (.cells #[.int .i64 0, .int .i64 0, .int .i64 0, .slice none 0 0, .int .i64 0, .slice none 0 0, .slice none 0 0, .int .i64 0, .int .i64 0] 26)) := ((Ext.refl w).alloc _).onl
  go_enter Tryz.func83, Tryz.ntmps83
  go_wp2_with fail
  refine (hk2000000000 _ hD0).mono ?_
  rintro e w1 ⟨n1, rfl, ⟨n10, n11⟩, hDw1, hOw1⟩
  have hwn1 : IntKind.i64.wrap (1 + n1) = 1 + n1 := Go.IntWalk.i64_in _ (by omega)
  replace hR := hR.only hOw1 (by omega)
  replace hO0 := Fr.trans hO0 hOw1
  clear hOw1 hD0
  go_wp2_with fail
  refine (hk2000000000 _ hDw1).mono ?_
  rintro e w2 ⟨n2, rfl, ⟨n20, n21⟩, hDw2, hOw2⟩
  replace hR := hR.only hOw2 (by omega)
  replace hO0 := Fr.trans hO0 hOw2
  clear hOw2 hDw1
  have hz2 := hR.lt
  have oA := Own.new0 w2 (w.heap.size + 1) (by omega)
  replace hR := hR.alloc (.cells #[] 2)
  replace hO0 := Only.more hO0 ((Ext.refl w2).alloc (.cells #[] 2))
  go_wp2_with fail
  refine (hk5 _ (hDw2.alloc _)).mono ?_
  rintro e w3 ⟨n3, rfl, ⟨n30, n31⟩, hDw3, hOw3⟩
  have hwn3 : IntKind.i64.wrap (2 + n3) = 2 + n3 := Go.IntWalk.i64_in _ (by omega)
  replace hR := hR.only hOw3 (by omega)
  replace oA := oA.only hOw3 (by omega)
  replace hO0 := Fr.trans hO0 hOw3
  have hz3 : w2.heap.size + 1 ≤ w3.heap.size := by have := hOw3.size; simpa using this
  clear hOw3 hDw2
  go_wp2_with fail
  refine (hk4 _ hDw3).mono ?_
  rintro e w4 ⟨n4, rfl, ⟨n40, n41⟩, hDw4, hOw4⟩
  replace hR := hR.only hOw4 (by omega)
  replace oA := oA.only hOw4 (by omega)
  replace hO0 := Fr.trans hO0 hOw4
  have hz4 := hOw4.size
  clear hOw4 hDw3
  go_wp2_with fail
  refine (hk4 _ hDw4).mono ?_
  rintro e w5 ⟨n5, rfl, ⟨n50, n51⟩, hDw5, hOw5⟩
  replace hR := hR.only hOw5 (by omega)
  replace oA := oA.only hOw5 (by omega)
  replace hO0 := Fr.trans hO0 hOw5
  have hz5 := hOw5.size
  clear hOw5 hDw4
  have oB := Own.of_blk (xs := [n4, n5]) (Blk.new w5 2 #[.int .i64 n4, .int .i64 n5]) (lo := w.heap.size + 1) (by omega) 2 2 rfl (by omega) (by unfold maxLen; omega) rfl (by omega) rfl
  have oC := Own.new0 (w5.alloc (.cells #[.int .i64 n4, .int .i64 n5] 2)) (w.heap.size + 1) (by simp; omega)
  rw [World.size_alloc] at oC
  replace oB := oB.alloc (.cells #[] 2)
  replace oA := (oA.alloc (.cells #[.int .i64 n4, .int .i64 n5] 2)).alloc (.cells #[] 2)
  replace hR := (hR.alloc (.cells #[.int .i64 n4, .int .i64 n5] 2)).alloc (.cells #[] 2)
  replace hO0 := Only.more hO0 (((Ext.refl w5).alloc (.cells #[.int .i64 n4, .int .i64 n5] 2)).alloc (.cells #[] 2))
  go_wp2_with fail
  refine (hk4 _ ((hDw5.alloc _).alloc _)).mono ?_
  rintro e w6 ⟨n6, rfl, ⟨n60, n61⟩, hDw6, hOw6⟩
  have hwn6 : IntKind.i64.wrap (1 + n6) = 1 + n6 := Go.IntWalk.i64_in _ (by omega)
  replace hR := hR.only hOw6 (by omega)
  replace oA := oA.only hOw6 (by omega)
  replace oB := oB.only hOw6 (by omega)
  replace oC := oC.only hOw6 (by omega)
  replace hO0 := Fr.trans hO0 hOw6
  have hz6 : w5.heap.size + 1 + 1 ≤ w6.heap.size := by have := hOw6.size; simpa using this
  clear hOw6 hDw5
  go_wp2_with fail
  refine (hk2 _ hDw6).mono ?_
  rintro e w7 ⟨n7, rfl, ⟨n70, n71⟩, hDw7, hOw7⟩
  replace hR := hR.only hOw7 (by omega)
  replace oA := oA.only hOw7 (by omega)
  replace oB := oB.only hOw7 (by omega)
  replace oC := oC.only hOw7 (by omega)
  replace hO0 := Fr.trans hO0 hOw7
  have hz7 := hOw7.size
  clear hOw7 hDw6
  have hG : ∀ cm : Int, GrI w0 w g s w.heap.size w7.heap.size (⟨cm, 1 + n1, n2, ⟨⟨some ⟨w2.heap.size, 0, none⟩, 0, 0⟩, ⟨some ⟨w5.heap.size, 0, none⟩, 2, 2⟩, ⟨some ⟨w5.heap.size + 1, 0, none⟩, 0, 0⟩⟩, 2 + n3, 1 + n6, n7⟩ : RecA) (⟨cm, 1 + n1, n2, ⟨[], [n4, n5], []⟩, 2 + n3, 1 + n6, n7⟩ : RecL) (w7.alloc (.cells #[.int .i64 cm, .int .i64 (1 + n1), .int .i64 n2, .slice (some ⟨w2.heap.size, 0, none⟩) 0 0, .int .i64 (2 + n3), .slice (some ⟨w5.heap.size, 0, none⟩) 2 2, .slice (some ⟨w5.heap.size + 1, 0, none⟩) 0 0, .int .i64 (1 + n6), .int .i64 n7] 26)) := fun cm => by
    refine ⟨hR.alloc _, Blk.new w7 _ _, ⟨⟨(oA.alloc _), (oB.alloc _), (oC.alloc _), by simp only; omega, ?_, ?_, ?_⟩, rfl, rfl, rfl, rfl, rfl, rfl⟩, ?_, hDw7.alloc _, Only.more hO0 ((Ext.refl w7).alloc _), hg, Nat.le_refl _, by omega⟩
    · intro k h1 h2; have := ownBlock_eq h1; have := ownBlock_eq h2; omega
    · intro k h1 h2; have := ownBlock_eq h1; have := ownBlock_eq h2; omega
    · intro k h1 h2; have := ownBlock_eq h1; have := ownBlock_eq h2; omega
    · rintro k (hk | hk | hk) <;> (have := ownBlock_eq hk; omega)
  have hbw : w.heap.size < w7.heap.size := by omega
  clear oA oB oC hR hO0 hDw7
  obtain ⟨c0, c1, c2, c3, c4, c5, c6, c7, c8⟩ := (hG 0).var.c9
  have f0 := (hG 0).var.frozen 0
  have hcm := fun W => spec.l03Commit_any (1 + n1) n2 W (by omega) (by omega)
  obtain ⟨cm, hcmt⟩ : ∃ cm, Hid (cm = cmt (1 + n1) n2) := ⟨_, rfl⟩
  rw [← hcmt.out] at hcm
  have hcb := hide (show 0 ≤ cm ∧ cm ≤ 2147483646 by rw [hcmt.out]; exact cmt_bd _ _)
  clear hcmt
  go_wp2_with fail
  refine (hcm _).mono ?_
  rintro e w8 ⟨rfl, rfl⟩
  have hG1 := hG cm
  clear hcm
  have hGP : GrP (⟨cm, 1 + n1, n2, ⟨[], [n4, n5], []⟩, 2 + n3, 1 + n6, n7⟩ : RecL) := ⟨hcb.out, by simp only; omega, by simp only; omega, by simp only; omega, by unfold strB; simp [inB]; omega, by simp only; omega, by simp only; omega, rfl⟩
  go_wp2_with fail
  refine (hk8 _ hG1.dr).mono ?_
  rintro e w9 ⟨n8, rfl, ⟨n80, n81⟩, hDw9, hOw9⟩
  have hG2 := hG1.only hOw9 hDw9
  clear hG1 hG c0 c1 c2 c3 c4 c5 c6 c7 c8 f0 hk8
  obtain ⟨x, y, hG, hGP, hx0, hz0⟩ : ∃ (x : RecA) (y : RecL), GrI w0 w g s w.heap.size w7.heap.size x y w9 ∧ GrP y ∧ y.p.x = [] ∧ y.p.z = [] := ⟨_, _, hG2, hGP, rfl, rfl⟩
  clear hG2 hDw9 hOw9 hz2 hz3 hz4 hz5 hz6 hz7 hwn1 hwn3 hwn6 n10 n11 n20 n21 n30 n31 n40 n41 n50 n51 n60 n61 n70 n71
  generalize w7.heap.size = b at hG hbw ⊢
  replace hGP := hide hGP
  replace hx0 := hide hx0
  replace hz0 := hide hz0
  go_upto_if 36 with fail
  go_cut [] (fun wx => ∃ (x : RecA) (y : RecL), GrI w0 w g s w.heap.size b x y wx ∧ Hid (GrP y) ∧ Hid (y.p.x = []) ∧ Hid (y.p.z = []))
  case first =>
    by_cases h8 : n8 = 0
    · subst h8
      go_wp2_with fail
      refine (hk2000000000 _ hG.dr).mono ?_
      rintro e w10 ⟨n9, rfl, ⟨n90, n91⟩, hD, hO⟩
      have hG3 := hG.only hO hD
      obtain ⟨c0, c1, c2, c3, c4, c5, c6, c7, c8⟩ := hG3.var.c9
      have f0 := hG3.var.frozen 0
      go_wp2_with fail
      go_meet
      exact ⟨_, _, hG3.puta n9, ⟨by simp only; omega, hGP.out.2⟩, hx0, hz0⟩
    · have e8 : (n8 == 0) = false := by rw [beq_eq_false_iff_ne]; exact h8
      go_wp2_with fail
      go_meet
      exact ⟨x, y, hG, hGP, hx0, hz0⟩
  case rest =>
    clear hG hGP hx0 hz0 n80 n81
    obtain ⟨x, y, hG, hGP, hx0, hz0⟩ := hcut
    go_wp2_with fail
    refine (hk2 _ hG.dr).mono ?_
    rintro e w11 ⟨n10, rfl, ⟨n100, n101⟩, hD, hO⟩
    replace hG := hG.only hO hD
    have hw10 : IntKind.i64.wrap (1 + n10) = 1 + n10 := Go.IntWalk.i64_in _ (by omega)
    clear hD hO
    go_wp2_with fail
    refine (hk14 _ hG.dr).mono ?_
    rintro e w12 ⟨n11, rfl, ⟨n110, n111⟩, hD, hO⟩
    replace hG := hG.only hO hD
    obtain ⟨m0, rfl⟩ := Int.eq_ofNat_of_zero_le n110
    have hm0 : m0 ≤ 13 := by omega
    clear hD hO hw10
    go_wp2_with fail
    go_loopw [4, 5] (fun xv nv wr => ∃ (X : Int) (m : Nat) (x : RecA) (y : RecL), xv = .int .i64 X ∧ nv = .int .i64 m ∧ GrI w0 w g s w.heap.size b x y wr ∧ Hid (GrP y) ∧ Hid (incB y.p.x = true) ∧ Hid (y.p.z = []) ∧ (1 ≤ X ∧ X + 2 * m ≤ 100) ∧ Hid (∀ v ∈ y.p.x, v < X) ∧ Hid (y.p.x.length + m ≤ 13)) (fun _ nv _ => (intOf nv).toNat)
    case atStart => exact ⟨_, m0, x, y, rfl, rfl, hG, hGP, hide (by rw [hx0.out]; rfl), hz0, by omega, hide (by rw [hx0.out]; intro v hv; cases hv), hide (by rw [hx0.out]; simpa using hm0)⟩
    case round =>
      clear hG hGP hx0 hz0 n100 n101 n110 n111
      obtain ⟨X, m, x, y, rfl, rfl, hG, hGP, hin, hz0, ⟨hX1, hX2⟩, hlt, hlen⟩ := hrel
      by_cases hm : 0 < m
      · have hm' : (0 : Int) < (m : Int) := by omega
        have hwm : IntKind.i64.wrap ((m : Int) - 1) = ((m - 1 : Nat) : Int) := by rw [Go.IntWalk.i64_in _ (by omega)]; omega
        have hwX : IntKind.i64.wrap (X + 1) = X + 1 := Go.IntWalk.i64_in _ (by omega)
        have hsz := smallG hG
        have hly := hGP.out.2.2.2.2.2.2.2
        have hl1 : y.p.x.length + 1 ≤ 16777216 := by have := hlen.out; omega
        have hs3 := hide (show x.p.x.n + (x.p.y.n + x.p.z.n) ≤ 100000 by have a := hsz; have b := hlen.out; have c := hz0.out; rw [c] at a; simp at a; omega)
        have hs4 := hide (show (y.p.x ++ [X]).length ≤ 100000 by have b := hlen.out; simp; omega)
        clear hsz hly
        obtain ⟨xa, xb, xc, ⟨⟨A1, m1, k1⟩, p2, p3⟩, xd, xe, xf⟩ := x
        obtain ⟨c0, c1, c2, c3, c4, c5, c6, c7, c8⟩ := hG.var.c9
        have hA := hG.ext ((Ext.refl wr).alloc (.cells #[.int .i64 X] 2))
        have hV := Rd.one wr X
        have hbl := hG.bl
        go_wp2_with (at_builtin; refine wpList_app _ rfl (.tmp 50) (.tmp 52) rfl (w.heap.size + 1) _ _ rfl (hA.own.1.1) _ _ _ [X] rfl hV hl1 (by have := hA.var.lt; omega) ?_; intro t1 w13 ho1 hg1 hb1; have hv := hA.var.fr (Fr.of_grown hg1) (fun e => hA.apt _ (.inl e) rfl); have f3 := hv.frozen 3; clear c0 c1 c2 c3 c4 c5 c6 c7 c8; obtain ⟨c0, c1, c2, c3, c4, c5, c6, c7, c8⟩ := hv.c9)
        have hG5 := hA.appx ho1 hg1 hb1 hs3.out hs4.out
        clear c0 c1 c2 c3 c4 c5 c6 c7 c8 f3 hA hG hV hv ho1 hg1 hb1
        refine (hk2 _ hG5.dr).mono ?_
        rintro e w14 ⟨n12, rfl, ⟨n120, n121⟩, hD, hO⟩
        replace hG5 := hG5.only hO hD
        have hwY : IntKind.i64.wrap (X + 1 + n12) = X + 1 + n12 := Go.IntWalk.i64_in _ (by omega)
        go_wp2_with fail
        go_roundw
        case rel => exact ⟨X + 1 + n12, m - 1, _, _, by go_num, by go_num, hG5, hGP, hide (inc_snoc hin.out hlt.out hX1 (by omega)), hz0, by omega, hide (below_snoc hlt.out (by omega)), hide (by have := hlen.out; simp; omega)⟩
        case measure => simp [intOf]; omega
      · have hm' : ¬ (0 : Int) < (m : Int) := by omega
        have hlen2 := hide (show y.p.x.length ≤ 13 by have := hlen.out; omega)
        clear hlt hlen hX1 hX2
        go_wp2_with fail
        refine (hk6 _ hG.dr).mono ?_
        rintro e w15 ⟨n13, rfl, ⟨n130, n131⟩, hD, hO⟩
        replace hG := hG.only hO hD
        obtain ⟨m0, rfl⟩ := Int.eq_ofNat_of_zero_le n130
        have hm0 : m0 ≤ 5 := by omega
        clear hD hO hk2 hk14 hk6 hk5 hk2000000000
        go_wp2_with fail
        go_loopw [6] (fun nv wr => ∃ (m : Nat) (x : RecA) (y : RecL), nv = .int .i64 m ∧ GrI w0 w g s w.heap.size b x y wr ∧ Hid (GrP y) ∧ Hid (incB y.p.x = true) ∧ Hid (y.p.x.length ≤ 13) ∧ Hid (movB y.p.z = true) ∧ Hid (y.p.z.length + m ≤ 5)) (fun nv _ => (intOf nv).toNat)
        case atStart => exact ⟨m0, x, y, rfl, hG, hGP, hin, hlen2, hide (by rw [hz0.out]; rfl), hide (by rw [hz0.out]; simpa using hm0)⟩
        case round =>
        clear hG hGP hin hlen2 hz0 hm0 n130 n131
        obtain ⟨m, x, y, rfl, hG, hGP, hin, hlen2, hmv, hlen⟩ := hrel
        by_cases hm : 0 < m
        · have hm' : (0 : Int) < (m : Int) := by omega
          have hwm : IntKind.i64.wrap ((m : Int) - 1) = ((m - 1 : Nat) : Int) := by rw [Go.IntWalk.i64_in _ (by have := hlen.out; omega)]; omega
          have hsz := smallG hG
          have hly := hGP.out.2.2.2.2.2.2.2
          have hl1 : y.p.z.length + 1 ≤ 16777216 := by have := hlen.out; omega
          have hs3 := hide (show x.p.x.n + (x.p.y.n + x.p.z.n) ≤ 100000 by have a := hsz; have b := hlen.out; have c := hlen2.out; omega)
          have hbl := hG.bl
          clear hsz hly
          obtain ⟨xa, xb, xc, ⟨p1, p2, ⟨A3, m3, k3⟩⟩, xd, xe, xf⟩ := x
          obtain ⟨c0, c1, c2, c3, c4, c5, c6, c7, c8⟩ := hG.var.c9
          go_wp2_with fail
          refine wp_region_sink (S := fun w' => w'.cell? ⟨b, 6, none⟩ = some (.slice A3 m3 k3)) 12 (by kernel_rfl) ?_
          change wpAnyT _ _ _ _ _ _ _ _ _ (World.drew _)
          replace hG := hG.ext (Ext.refl _).drew
          clear c0 c1 c2 c3 c4 c5 c6 c7 c8
          generalize hwd : World.drew _ = wd at hG ⊢
          clear hwd
          have kk := hG.var.get 6 _ rfl
          refine wpAnyT_takeL (i := 0) 12 (v := ?_) rfl (by kernel_rfl) (by kernel_rfl) (by kernel_rfl) (by kernel_rfl) (by kernel_rfl) (fun _ _ _ h => h) (Or.inl ⟨by rfl, ?_⟩) kk ?_
          rotate_left 1
          · (intro W hSw; (try dsimp only at hSw); go_simp) <;> with_reducible rfl
          try simp only [Act.put, List.setIfInBounds_toArray, List.set_cons_zero, List.set_cons_succ]
          refine wpAnyT_takeL (i := 1) 12 (v := ?_) rfl (by kernel_rfl) (by kernel_rfl) (by kernel_rfl) (by kernel_rfl) (by kernel_rfl) (fun _ _ _ h => h) (Or.inl ⟨by rfl, ?_⟩) kk ?_
          rotate_left 1
          · (intro W hSw; (try dsimp only at hSw); go_simp) <;> with_reducible rfl
          try simp only [Act.put, List.setIfInBounds_toArray, List.set_cons_zero, List.set_cons_succ]
          refine wpAnyT_takeL (i := 2) 12 (v := ?_) rfl (by kernel_rfl) (by kernel_rfl) (by kernel_rfl) (by kernel_rfl) (by kernel_rfl) (fun _ _ _ h => h) (Or.inl ⟨by rfl, ?_⟩) kk ?_
          rotate_left 1
          · (intro W hSw; (try dsimp only at hSw); go_simp) <;> with_reducible rfl
          try simp only [Act.put, List.setIfInBounds_toArray, List.set_cons_zero, List.set_cons_succ]
          refine wpAnyT_takeL (i := 3) 12 (v := ?_) rfl (by kernel_rfl) (by kernel_rfl) (by kernel_rfl) (by kernel_rfl) (by kernel_rfl) (fun _ _ _ h => h) (Or.inl ⟨by rfl, ?_⟩) kk ?_
          rotate_left 1
          · (intro W hSw; (try dsimp only at hSw); go_simp) <;> with_reducible rfl
          try simp only [Act.put, List.setIfInBounds_toArray, List.set_cons_zero, List.set_cons_succ]
          refine wpAnyT_takeL (i := 5) 12 (v := ?_) rfl (by kernel_rfl) (by kernel_rfl) (by kernel_rfl) (by kernel_rfl) (by kernel_rfl) (fun _ _ _ h => h) (Or.inl ⟨by rfl, ?_⟩) kk ?_
          rotate_left 1
          · (intro W hSw; (try dsimp only at hSw); go_simp) <;> with_reducible rfl
          try simp only [Act.put, List.setIfInBounds_toArray, List.set_cons_zero, List.set_cons_succ]
          clear kk
          refine wpAnyT_go (i := 4) rfl (by kernel_rfl) fun K hK => ?_
          go_simp
          refine (hk4 _ hG.dr).mono ?_
          rintro e w16 ⟨q1, rfl, ⟨q10, q11⟩, hD, hO⟩
          replace hG := hG.only hO hD
          go_simp
          refine hK _ _ ⟨fun _ => hG.var.get 6 _ rfl, ?_⟩
          clear hK K hD hO
          refine wpAnyT_go (i := 6) rfl (by kernel_rfl) fun K hK => ?_
          go_simp
          refine (hk4 _ hG.dr).mono ?_
          rintro e w17 ⟨q2, rfl, ⟨q20, q21⟩, hD, hO⟩
          replace hG := hG.only hO hD
          go_simp
          refine hK _ _ ⟨fun _ => hG.var.get 6 _ rfl, ?_⟩
          clear hK K hD hO
          have hg17 := hG.dr.lt
          refine wpAnyT_go (i := 7) rfl (by kernel_rfl) fun K hK => ?_
          go_simp
          replace hG := hG.ext ((Ext.refl _).alloc (.cells #[.int .i64 q1, .int .i64 q2, .int .i64 (-1)] 2))
          refine hK _ _ ⟨fun _ => hG.var.get 6 _ rfl, ?_⟩
          clear hK K
          have hp := spec.l01Pick_any g w17.heap.size s [q1, q2, -1] w0 _ hG.dr (Blk.new w17 2 _) (by omega) (by simp) (by simp)
          refine wpAnyT_go (i := 8) rfl (by kernel_rfl) fun K hK => ?_
          go_simp
          refine hp.mono ?_
          rintro e w18 ⟨v, rfl, hv, hD, hO⟩
          have hvb : -1 ≤ v ∧ v ≤ 11 := by simp only [List.mem_cons, List.not_mem_nil, or_false] at hv; omega
          replace hG := hG.only hO hD
          go_simp
          refine hK _ _ ⟨fun _ => hG.var.get 6 _ rfl, ?_⟩
          clear hK K hD hO hp hv
          refine wpAnyT_go (i := 9) rfl (by kernel_rfl) fun K hK => ?_
          go_simp
          have hV := Rd.one w18 v
          replace hG := hG.ext ((Ext.refl _).alloc (.cells #[.int .i64 v] 2))
          refine hK _ _ ⟨fun _ => hG.var.get 6 _ rfl, ?_⟩
          clear hK K
          refine wpAnyT_go (i := 10) rfl (by kernel_rfl) fun K hK => ?_
          refine step_app _ rfl (.tmp 67) (.tmp 75) rfl (w.heap.size + 1) _ _ rfl hG.own.1.2.2.1 _ _ _ [v] rfl hV hl1 (by have := hG.var.lt; omega) ?_
          intro t1 w19 ho1 hg1 hb1
          have hv := hG.var.fr (Fr.of_grown hg1) (fun e => hG.apt _ (.inr (.inr e)) rfl)
          refine hK _ _ ⟨fun _ => hv.get 6 _ rfl, ?_⟩
          clear hK K
          have f6 := hv.frozen 6
          obtain ⟨c0, c1, c2, c3, c4, c5, c6, c7, c8⟩ := hv.c9
          refine wpAnyT_go (i := 11) rfl (by kernel_rfl) fun K hK => ?_
          go_simp
          refine hK _ _ ⟨fun _ => hv.get 6 _ rfl, ?_⟩
          clear hK K
          refine wpAnyT_go (i := 12) rfl (by kernel_rfl) fun K hK => ?_
          go_simp
          refine hK _ _ ⟨fun h => absurd rfl h, ?_⟩
          clear hK K
          refine wpAnyT_done (by kernel_rfl) ?_ _
          have hG5 := hG.appz ho1 hg1 hb1 hs3.out (by have := hlen.out; simp; omega)
          clear c0 c1 c2 c3 c4 c5 c6 c7 c8 f6 hv hV ho1 hg1 hb1 hG
          go_wp2_with fail
          go_roundw
          case rel => exact ⟨m - 1, _, _, by go_num, hG5, hGP, hin, hlen2, hide (mov_snoc hmv.out hvb.1 hvb.2), hide (by have := hlen.out; simp; omega)⟩
          case measure => simp [intOf]; omega
        · have hm' : ¬ (0 : Int) < (m : Int) := by omega
          have hfin := hide (hGP.out.ok hin.out (by have := hlen2.out; omega) hmv.out (by have := hlen.out; omega))
          have hsm := hide (show y.p.x.length ≤ 60 ∧ y.p.y.length ≤ 60 ∧ y.p.z.length ≤ 60 by have a := hlen2.out; have b := hlen.out; have c := hGP.out.2.2.2.2.2.2.2; omega)
          have hR := hG.res
          have hrb : b ≠ w.heap.size := by have := hG.bl; omega
          obtain ⟨c0, c1, c2, c3, c4, c5, c6, c7, c8⟩ := hG.var.c9
          obtain ⟨r_0, r_1, r_2, r_3, r_4, r_5, r_6, r_7, r_8⟩ := hR.c9
          have z0 := hR.frozen 0
          have z1 := hR.frozen 1
          have z2 := hR.frozen 2
          have z3 := hR.frozen 3
          have z4 := hR.frozen 4
          have z5 := hR.frozen 5
          have z6 := hR.frozen 6
          have z7 := hR.frozen 7
          have z8 := hR.frozen 8
          have m := (hR.set9 (.int .i64 x.a) (.int .i64 x.b) (.int .i64 x.c) (.slice x.p.x.A x.p.x.n x.p.x.c) (.int .i64 x.d) (.slice x.p.y.A x.p.y.n x.p.y.c) (.slice x.p.z.A x.p.z.n x.p.z.c) (.int .i64 x.e) (.int .i64 x.f)).c9
          have hgl := hG.gl
          have hon := (((((((((hG.own.awP (b := w.heap.size) (by omega) 0 (.int .i64 x.a)).awP (b := w.heap.size) (by omega) 1 (.int .i64 x.b)).awP (b := w.heap.size) (by omega) 2 (.int .i64 x.c)).awP (b := w.heap.size) (by omega) 3 (.slice x.p.x.A x.p.x.n x.p.x.c)).awP (b := w.heap.size) (by omega) 4 (.int .i64 x.d)).awP (b := w.heap.size) (by omega) 5 (.slice x.p.y.A x.p.y.n x.p.y.c)).awP (b := w.heap.size) (by omega) 6 (.slice x.p.z.A x.p.z.n x.p.z.c)).awP (b := w.heap.size) (by omega) 7 (.int .i64 x.e)).awP (b := w.heap.size) (by omega) 8 (.int .i64 x.f))
          have hDn := (((((((((hG.dr.off w.heap.size 0 (by omega) (.int .i64 x.a)).off w.heap.size 1 (by omega) (.int .i64 x.b)).off w.heap.size 2 (by omega) (.int .i64 x.c)).off w.heap.size 3 (by omega) (.slice x.p.x.A x.p.x.n x.p.x.c)).off w.heap.size 4 (by omega) (.int .i64 x.d)).off w.heap.size 5 (by omega) (.slice x.p.y.A x.p.y.n x.p.y.c)).off w.heap.size 6 (by omega) (.slice x.p.z.A x.p.z.n x.p.z.c)).off w.heap.size 7 (by omega) (.int .i64 x.e)).off w.heap.size 8 (by omega) (.int .i64 x.f))
          have hOn := (((((((((hG.onl.off w.heap.size 0 (by omega) (.int .i64 x.a)).off w.heap.size 1 (by omega) (.int .i64 x.b)).off w.heap.size 2 (by omega) (.int .i64 x.c)).off w.heap.size 3 (by omega) (.slice x.p.x.A x.p.x.n x.p.x.c)).off w.heap.size 4 (by omega) (.int .i64 x.d)).off w.heap.size 5 (by omega) (.slice x.p.y.A x.p.y.n x.p.y.c)).off w.heap.size 6 (by omega) (.slice x.p.z.A x.p.z.n x.p.z.c)).off w.heap.size 7 (by omega) (.int .i64 x.e)).off w.heap.size 8 (by omega) (.int .i64 x.f))
          obtain ⟨m0, m1, m2, m3, m4, m5, m6, m7, m8⟩ := m
          go_wp2_with fail
          refine bodyPost_ret (v := .agg #[.int .i64 x.a, .int .i64 x.b, .int .i64 x.c, .slice x.p.x.A x.p.x.n x.p.x.c, .int .i64 x.d, .slice x.p.y.A x.p.y.n x.p.y.c, .slice x.p.z.A x.p.z.n x.p.z.c, .int .i64 x.e, .int .i64 x.f]) (by simp [results, Tryz.results83, go_sem, m0, m1, m2, m3, m4, m5, m6, m7, m8]) rfl ⟨x, y, rfl, hon.mono (by omega), hfin.out, hsm.out, hDn, hOn⟩
set_option maxRecDepth 20000 in
set_option maxHeartbeats 4000000 in
theorem spec.l03State_any (g : Nat) (s : Sl) (w0 w : World) (h : Dr w0 w g s) :
    Calls Tryz.prog 84 #[.pointer (some ⟨g, 0, none⟩)] w fun e w' => ∃ x : Int, e = .returned (.int .i64 x) ∧ Dr w0 w' g s ∧ Only g w w' := by
  have hk2000000000 := fun W h => spec.l01Next_any g s 2000000000 w0 W h (by omega)
  have hk1000 := fun W h => spec.l01Next_any g s 1000 w0 W h (by omega)
  have hk20 := fun W h => spec.l01Next_any g s 20 w0 W h (by omega)
  have hO := Only.refl_ g w
  go_enter Tryz.func84, Tryz.ntmps84
  go_wp2_with fail
  refine (hk2000000000 _ h).mono ?_
  rintro e w1 ⟨a, rfl, ⟨a0, a1⟩, hD1, hO1⟩
  replace hO := Fr.trans hO hO1
  clear hO1
  have hwa : IntKind.i64.wrap (1 + a) = 1 + a := Go.IntWalk.i64_in _ (by omega)
  go_wp2_with fail
  refine (hk2000000000 _ hD1).mono ?_
  rintro e w2 ⟨b, rfl, ⟨b0, b1⟩, hD2, hO1⟩
  replace hO := Fr.trans hO hO1
  clear hO1
  have hwb : IntKind.i64.wrap (1 + b) = 1 + b := Go.IntWalk.i64_in _ (by omega)
  go_wp2_with fail
  refine (hk1000 _ hD2).mono ?_
  rintro e w3 ⟨c, rfl, ⟨c0, c1⟩, hD3, hO1⟩
  replace hO := Fr.trans hO hO1
  clear hO1
  have hwc : IntKind.i64.wrap (1 + c) = 1 + c := Go.IntWalk.i64_in _ (by omega)
  go_wp2_with fail
  refine (hk20 _ hD3).mono ?_
  rintro e w4 ⟨d, rfl, ⟨d0, d1⟩, hD4, hO1⟩
  replace hO := Fr.trans hO hO1
  clear hO1
  have hq0 : 0 ≤ d / 19 := Int.ediv_nonneg d0 (by decide)
  have hq1 : d / 19 ≤ 1 := by omega
  have hwq : IntKind.i64.wrap (d / 19) = d / 19 := Go.IntWalk.i64_in _ (by omega)
  have hwt : IntKind.i64.wrap (2147483646 - IntKind.i64.wrap (d.tdiv 19)) = 2147483646 - d / 19 := by rw [Int.tdiv_eq_ediv_of_nonneg d0, hwq]; exact Go.IntWalk.i64_in _ (by omega)
  have hz4 := hD4.lt
  have hp := spec.l01Pick_any g w4.heap.size s [1, 2, 0, 2147483647, -1] w0 (w4.alloc (.cells #[.int .i64 1, .int .i64 2, .int .i64 0, .int .i64 2147483647, .int .i64 (-1)] 2)) (hD4.alloc _) (Blk.new w4 2 _) (by omega) (by simp) (by simp)
  replace hO := Only.more hO ((Ext.refl w4).alloc (.cells #[.int .i64 1, .int .i64 2, .int .i64 0, .int .i64 2147483647, .int .i64 (-1)] 2))
  go_wp2_with fail
  refine hp.mono ?_
  rintro e w5 ⟨v, rfl, _, hD5, hO1⟩
  replace hO := Fr.trans hO hO1
  clear hO1 hp
  go_wp2_with fail
  refine (hk2000000000 _ hD5).mono ?_
  rintro e w6 ⟨f, rfl, ⟨f0, f1⟩, hD6, hO1⟩
  replace hO := Fr.trans hO hO1
  clear hO1
  have hwf : IntKind.i64.wrap (1 + f) = 1 + f := Go.IntWalk.i64_in _ (by omega)
  have hz6 := hD6.lt
  have hp := spec.l01Pick_any g w6.heap.size s [1 + a, 1 + b, 1 + c, 2147483646 - d / 19, v, 1 + f] w0 (w6.alloc (.cells #[.int .i64 (1 + a), .int .i64 (1 + b), .int .i64 (1 + c), .int .i64 (2147483646 - d / 19), .int .i64 v, .int .i64 (1 + f)] 2)) (hD6.alloc _) (Blk.new w6 2 _) (by omega) (by simp) (by simp)
  replace hO := Only.more hO ((Ext.refl w6).alloc (.cells #[.int .i64 (1 + a), .int .i64 (1 + b), .int .i64 (1 + c), .int .i64 (2147483646 - d / 19), .int .i64 v, .int .i64 (1 + f)] 2))
  go_wp2_with fail
  refine hp.mono ?_
  rintro e w7 ⟨q, rfl, _, hD7, hO1⟩
  go_wp2_with fail
  go_ret
  exact ⟨q, rfl, hD7, Fr.trans hO hO1⟩
set_option maxRecDepth 20000 in
set_option maxHeartbeats 8000000 in
theorem spec.l16Draw_any (g : Nat) (s : Sl) (w0 w : World) (h : Dr w0 w g s) :
    Calls Tryz.prog 48 #[.pointer (some ⟨g, 0, none⟩)] w fun e w' => DqP w0 w g s e w' := by
  have hk40 := fun W h => spec.l01Next_any g s 40 w0 W h (by omega)
  have hks := fun W h => spec.l03State_any g s w0 W h
  have hg := h.lt
  have hR := Blk.new w 26 #[.int .i64 0, .int .i64 0, .int .i64 0, .slice none 0 0, .int .i64 0, .slice none 0 0, .slice none 0 0, .int .i64 0, .int .i64 0]
  have hO0 : Only g w (w.alloc (.cells #[.int .i64 0, .int .i64 0, .int .i64 0, .slice none 0 0, .int .i64 0, .slice none 0 0, .slice none 0 0, .int .i64 0, .int .i64 0] 26)) := ((Ext.refl w).alloc _).onl
  go_enter Tryz.func48, Tryz.ntmps48
  go_wp2_with fail
  refine (spec.l16Good_any g s w0 _ (h.alloc _)).mono ?_
  rintro e w1 ⟨x, y, rfl, hp, hok, hsm, hD1, hO1⟩
  rw [World.size_alloc] at hp
  replace hR := hR.only hO1 (by omega)
  have hz1 := hR.lt
  replace hO0 := Fr.trans hO0 hO1
  have hG : GrI w0 w g s w.heap.size w1.heap.size x y (w1.alloc (.cells #[.int .i64 x.a, .int .i64 x.b, .int .i64 x.c, .slice x.p.x.A x.p.x.n x.p.x.c, .int .i64 x.d, .slice x.p.y.A x.p.y.n x.p.y.c, .slice x.p.z.A x.p.z.n x.p.z.c, .int .i64 x.e, .int .i64 x.f] 26)) := ⟨hR.alloc _, Blk.new w1 _ _, hp.alloc _, fun k hk => by have := (hp.lt hk).2; omega, hD1.alloc _, Only.more hO0 ((Ext.refl w1).alloc _), hg, Nat.le_refl _, hz1⟩
  replace hsm := hide hsm
  clear hR hO0 hp hok hD1 hO1
  go_wp2_with fail
  refine (hk40 _ hG.dr).mono ?_
  rintro e w2 ⟨j0, rfl, ⟨j1, j2⟩, hD, hO⟩
  replace hG := hG.only hO hD
  obtain ⟨j, rfl⟩ := Int.eq_ofNat_of_zero_le j1
  clear hD hO hk40 j1 j2
  generalize w1.heap.size = b at hG ⊢
  go_upto_block 0 with fail
  go_cut [] (fun wx => ∃ (x : RecA) (y : RecL), GrI w0 w g s w.heap.size b x y wx ∧ Hid (y.p.x.length ≤ 60 ∧ y.p.y.length ≤ 60 ∧ y.p.z.length ≤ 60))
  case first =>
    have hbl := hG.bl
    have hvl := hG.var.lt
    have hgl := hG.dr.lt
    have hsl := smallG hG
    have hs3 := hide (show x.p.x.n + (x.p.y.n + x.p.z.n) ≤ 100000 by have := hsm.out; omega)
    clear hsl
    rcases (show j = 0 ∨ j = 1 ∨ j = 2 ∨ j = 3 ∨ j = 4 ∨ j = 5 ∨ 6 ≤ j by omega) with rfl | rfl | rfl | rfl | rfl | rfl | hj
    · go_wp2_with fail
      refine (hks _ hG.dr).mono ?_
      rintro e w3 ⟨v, rfl, hD, hO⟩
      replace hG := hG.only hO hD
      have cc := hG.var.get 1 _ rfl
      have ff := hG.var.frozen 1
      go_wp2_with fail
      go_meet
      exact ⟨_, _, hG.putb v, hsm⟩
    · have hN := hG.newx (t := ⟨some ⟨w2.heap.size, 0, none⟩, 2, 2⟩) (xs := [5, 5]) ((Ext.refl w2).alloc (.cells #[.int .i64 5, .int .i64 5] 2)) (Own.of_blk (Blk.new w2 2 _) (Nat.le_refl _) 2 2 rfl (by omega) (by unfold maxLen; omega) rfl (by omega) rfl) hs3.out (by simp)
      rw [World.setCell_alloc_past _ _ _ _ hvl] at hN
      have cc := hG.var.get 3 _ rfl
      have ff := hG.var.frozen 3
      go_wp2_with fail
      go_meet
      exact ⟨_, _, hN, hide (by have := hsm.out; simp only [List.length_cons, List.length_nil]; omega)⟩
    · have hp := spec.l01Pick_any g w2.heap.size s [10, 11] w0 (w2.alloc (.cells #[.int .i64 10, .int .i64 11] 2)) (hG.dr.alloc _) (Blk.new w2 2 _) (by omega) (by simp) (by simp)
      replace hG := hG.ext ((Ext.refl w2).alloc (.cells #[.int .i64 10, .int .i64 11] 2))
      go_wp2_with fail
      refine hp.mono ?_
      rintro e w3 ⟨v, rfl, hv, hD, hO⟩
      replace hG := hG.only hO hD
      have hvl := hG.var.lt
      clear hD hO hp
      have hN := hG.newy (t := ⟨some ⟨w3.heap.size, 0, none⟩, 2, 2⟩) (xs := [v, 1]) ((Ext.refl w3).alloc (.cells #[.int .i64 v, .int .i64 1] 2)) (Own.of_blk (Blk.new w3 2 _) (Nat.le_refl _) 2 2 rfl (by omega) (by unfold maxLen; omega) rfl (by omega) rfl) hs3.out (by simp)
      rw [World.setCell_alloc_past _ _ _ _ hvl] at hN
      have cc := hG.var.get 5 _ rfl
      have ff := hG.var.frozen 5
      go_wp2_with fail
      go_meet
      exact ⟨_, _, hN, hide (by have := hsm.out; simp only [List.length_cons, List.length_nil]; omega)⟩
    · have hp := spec.l01Pick_any g w2.heap.size s [0, 12, 13] w0 (w2.alloc (.cells #[.int .i64 0, .int .i64 12, .int .i64 13] 2)) (hG.dr.alloc _) (Blk.new w2 2 _) (by omega) (by simp) (by simp)
      replace hG := hG.ext ((Ext.refl w2).alloc (.cells #[.int .i64 0, .int .i64 12, .int .i64 13] 2))
      go_wp2_with fail
      refine hp.mono ?_
      rintro e w3 ⟨v, rfl, hv, hD, hO⟩
      replace hG := hG.only hO hD
      have hvl := hG.var.lt
      clear hD hO hp
      have cc := hG.var.get 4 _ rfl
      have ff := hG.var.frozen 4
      go_wp2_with fail
      go_meet
      exact ⟨_, _, hG.putd v, hsm⟩
    · have hp := spec.l01Pick_any g w2.heap.size s [11, 12, -2] w0 (w2.alloc (.cells #[.int .i64 11, .int .i64 12, .int .i64 (-2)] 2)) (hG.dr.alloc _) (Blk.new w2 2 _) (by omega) (by simp) (by simp)
      replace hG := hG.ext ((Ext.refl w2).alloc (.cells #[.int .i64 11, .int .i64 12, .int .i64 (-2)] 2))
      go_wp2_with fail
      refine hp.mono ?_
      rintro e w3 ⟨v, rfl, hv, hD, hO⟩
      replace hG := hG.only hO hD
      have hvl := hG.var.lt
      clear hD hO hp
      have hN := hG.newz (t := ⟨some ⟨w3.heap.size, 0, none⟩, 1, 1⟩) (xs := [v]) ((Ext.refl w3).alloc (.cells #[.int .i64 v] 2)) (Own.of_blk (Blk.new w3 2 _) (Nat.le_refl _) 1 1 rfl (by omega) (by unfold maxLen; omega) rfl (by omega) rfl) hs3.out (by simp)
      rw [World.setCell_alloc_past _ _ _ _ hvl] at hN
      have cc := hG.var.get 6 _ rfl
      have ff := hG.var.frozen 6
      go_wp2_with fail
      go_meet
      exact ⟨_, _, hN, hide (by have := hsm.out; simp only [List.length_cons, List.length_nil]; omega)⟩
    · have hp := spec.l01Pick_any g w2.heap.size s [0, 12, 13] w0 (w2.alloc (.cells #[.int .i64 0, .int .i64 12, .int .i64 13] 2)) (hG.dr.alloc _) (Blk.new w2 2 _) (by omega) (by simp) (by simp)
      replace hG := hG.ext ((Ext.refl w2).alloc (.cells #[.int .i64 0, .int .i64 12, .int .i64 13] 2))
      go_wp2_with fail
      refine hp.mono ?_
      rintro e w3 ⟨v, rfl, hv, hD, hO⟩
      replace hG := hG.only hO hD
      have hvl := hG.var.lt
      clear hD hO hp
      have cc := hG.var.get 7 _ rfl
      have ff := hG.var.frozen 7
      go_wp2_with fail
      go_meet
      exact ⟨_, _, hG.pute v, hsm⟩
    · have e0 : ((j : Int) == 0) = false := by rw [beq_eq_false_iff_ne]; omega
      have e1 : ((j : Int) == 1) = false := by rw [beq_eq_false_iff_ne]; omega
      have e2 : ((j : Int) == 2) = false := by rw [beq_eq_false_iff_ne]; omega
      have e3 : ((j : Int) == 3) = false := by rw [beq_eq_false_iff_ne]; omega
      have e4 : ((j : Int) == 4) = false := by rw [beq_eq_false_iff_ne]; omega
      have e5 : ((j : Int) == 5) = false := by rw [beq_eq_false_iff_ne]; omega
      go_wp2_with fail
      go_meet
      exact ⟨_, _, hG, hsm⟩
  case rest =>
    clear hG hsm
    obtain ⟨x, y, hG, hsm⟩ := hcut
    have hR := hG.res
    have hrb : b ≠ w.heap.size := by have := hG.bl; omega
    obtain ⟨c0, c1, c2, c3, c4, c5, c6, c7, c8⟩ := hG.var.c9
    obtain ⟨r_0, r_1, r_2, r_3, r_4, r_5, r_6, r_7, r_8⟩ := hR.c9
    have z0 := hR.frozen 0
    have z1 := hR.frozen 1
    have z2 := hR.frozen 2
    have z3 := hR.frozen 3
    have z4 := hR.frozen 4
    have z5 := hR.frozen 5
    have z6 := hR.frozen 6
    have z7 := hR.frozen 7
    have z8 := hR.frozen 8
    have m := (hR.set9 (.int .i64 x.a) (.int .i64 x.b) (.int .i64 x.c) (.slice x.p.x.A x.p.x.n x.p.x.c) (.int .i64 x.d) (.slice x.p.y.A x.p.y.n x.p.y.c) (.slice x.p.z.A x.p.z.n x.p.z.c) (.int .i64 x.e) (.int .i64 x.f)).c9
    have hgl := hG.gl
    have hon := (((((((((hG.own.awP (b := w.heap.size) (by omega) 0 (.int .i64 x.a)).awP (b := w.heap.size) (by omega) 1 (.int .i64 x.b)).awP (b := w.heap.size) (by omega) 2 (.int .i64 x.c)).awP (b := w.heap.size) (by omega) 3 (.slice x.p.x.A x.p.x.n x.p.x.c)).awP (b := w.heap.size) (by omega) 4 (.int .i64 x.d)).awP (b := w.heap.size) (by omega) 5 (.slice x.p.y.A x.p.y.n x.p.y.c)).awP (b := w.heap.size) (by omega) 6 (.slice x.p.z.A x.p.z.n x.p.z.c)).awP (b := w.heap.size) (by omega) 7 (.int .i64 x.e)).awP (b := w.heap.size) (by omega) 8 (.int .i64 x.f))
    have hDn := (((((((((hG.dr.off w.heap.size 0 (by omega) (.int .i64 x.a)).off w.heap.size 1 (by omega) (.int .i64 x.b)).off w.heap.size 2 (by omega) (.int .i64 x.c)).off w.heap.size 3 (by omega) (.slice x.p.x.A x.p.x.n x.p.x.c)).off w.heap.size 4 (by omega) (.int .i64 x.d)).off w.heap.size 5 (by omega) (.slice x.p.y.A x.p.y.n x.p.y.c)).off w.heap.size 6 (by omega) (.slice x.p.z.A x.p.z.n x.p.z.c)).off w.heap.size 7 (by omega) (.int .i64 x.e)).off w.heap.size 8 (by omega) (.int .i64 x.f))
    have hOn := (((((((((hG.onl.off w.heap.size 0 (by omega) (.int .i64 x.a)).off w.heap.size 1 (by omega) (.int .i64 x.b)).off w.heap.size 2 (by omega) (.int .i64 x.c)).off w.heap.size 3 (by omega) (.slice x.p.x.A x.p.x.n x.p.x.c)).off w.heap.size 4 (by omega) (.int .i64 x.d)).off w.heap.size 5 (by omega) (.slice x.p.y.A x.p.y.n x.p.y.c)).off w.heap.size 6 (by omega) (.slice x.p.z.A x.p.z.n x.p.z.c)).off w.heap.size 7 (by omega) (.int .i64 x.e)).off w.heap.size 8 (by omega) (.int .i64 x.f))
    obtain ⟨m0, m1, m2, m3, m4, m5, m6, m7, m8⟩ := m
    go_wp2_with fail
    refine bodyPost_ret (v := .agg #[.int .i64 x.a, .int .i64 x.b, .int .i64 x.c, .slice x.p.x.A x.p.x.n x.p.x.c, .int .i64 x.d, .slice x.p.y.A x.p.y.n x.p.y.c, .slice x.p.z.A x.p.z.n x.p.z.c, .int .i64 x.e, .int .i64 x.f]) (by simp [results, Tryz.results48, go_sem, m0, m1, m2, m3, m4, m5, m6, m7, m8]) rfl ⟨x, y, rfl, hon.mono (by omega), hsm.out, hDn, hOn⟩
end Go.Proofs.YtofglgfjlbehmaaGreat.mem
