/-
  Words for memory, over the seat's program: a slice that reads as a list of numbers, a slice of the call's own, what a call leaves alone.
-/
import Derived.Test.YtofglgfjlbehmaaGreatRows
import Derived.WalkKit
import Derived.ProofKit
import Derived.OpenShut
import Derived.Deep.QuietTactic
import Derived.BigQuiet
import Derived.Laws.OwnMore
import Derived.Deep.Draws
import Derived.Deep.OwnRows
namespace Go.Proofs.YtofglgfjlbehmaaGreat.mem
open Go.ChangeShapes Go.WideShapes Go.ChangeAt Go.RowKit

theorem hide {p : Prop} (h : p) : Hid p := h

/-- a slice: where it lies, its length, its capacity -/
structure Sl where
  A : Option Addr
  n : Nat
  c : Nat
/-- three slices: a panel, a jury -/
structure S3 where
  x : Sl
  y : Sl
  z : Sl
/-- three lists -/
structure L3 where
  x : List Int
  y : List Int
  z : List Int

/-- the slice at A, of n elements, reads as the numbers xs -/
def Rd (w : World) (A : Option Addr) (n : Nat) (xs : List Int) : Prop :=
  n = xs.length ∧ n ≤ 16777216 ∧ (0 < n → ∃ b off, A = some ⟨b, off, none⟩ ∧ b < w.heap.size ∧ ∀ j, j < n → w.cell? ⟨b, off + j, none⟩ = some (.int .i64 (xs.getD j 0)))

/-- of what was there nothing has turned -/
def Ext (w w' : World) : Prop := Below w.heap.size w w'

section
variable {w w' w'' : World} {A : Option Addr} {n : Nat} {xs : List Int}
theorem Ext.refl (w : World) : Ext w w := Below.refl _ _
theorem Ext.trans (h : Ext w w') (k : Ext w' w'') : Ext w w'' := Below.trans h (Below.mono k h.size)
theorem Ext.drew (h : Ext w w') : Ext w w'.drew := Below.drew h
theorem Ext.drewN (h : Ext w w') (n : Nat) : Ext w (w'.drewN n) := ⟨h.os, h.tape, h.output, h.size, h.block⟩
theorem Ext.alloc (h : Ext w w') (o : Obj) : Ext w (w'.alloc o) := Below.alloc h h.size o
theorem Ext.setCell (h : Ext w w') {p : Addr} (hp : w.heap.size ≤ p.block) (u : Value) : Ext w (w'.setCell p u) := Below.setCell h hp u
theorem Ext.off (h : Ext w w') (b i : Nat) (hb : w.heap.size ≤ b) (u : Value) : Ext w (w'.setCell ⟨b, i, none⟩ u) := h.setCell hb u
theorem Ext.grow {row : Option Nat} (h : Ext w w') (hg : w'.grownBy w'' row) (hr : ∀ k, row = some k → w.heap.size ≤ k) : Ext w w'' := Below.grown h hg h.size hr
theorem Ext.cell (h : Ext w w') {p : Addr} (hp : p.block < w.heap.size) : w'.cell? p = w.cell? p := Below.cell h hp

theorem Rd.len (h : Rd w A n xs) : n = xs.length := h.1
theorem Rd.le (h : Rd w A n xs) : n ≤ 16777216 := h.2.1
theorem Rd.nil_ (w : World) (A : Option Addr) : Rd w A 0 [] := ⟨rfl, by omega, fun h => absurd h (by omega)⟩
theorem Rd.keep (h : Rd w A n xs) (hs : w.heap.size ≤ w'.heap.size) (hk : ∀ p : Addr, p.block < w.heap.size → w'.cell? p = w.cell? p) : Rd w' A n xs :=
  ⟨h.1, h.2.1, fun hn => by
    obtain ⟨b, off, e, hb, hc⟩ := h.2.2 hn
    exact ⟨b, off, e, by omega, fun j hj => (hk _ hb).trans (hc j hj)⟩⟩
theorem Rd.ext (h : Rd w A n xs) (hx : Ext w w') : Rd w' A n xs := h.keep hx.size fun _ hp => hx.cell hp
theorem Rd.at_ (h : Rd w A n xs) {k : Nat} (hk : k < n) : ∃ b off, A = some ⟨b, off, none⟩ ∧ b < w.heap.size ∧ w.cell? ⟨b, off + k, none⟩ = some (.int .i64 (xs.getD k 0)) := by
  obtain ⟨b, off, e, hb, hc⟩ := h.2.2 (by omega)
  exact ⟨b, off, e, hb, hc k hk⟩
theorem Rd.take (h : Rd w A n xs) {k : Nat} (hk : k ≤ n) : Rd w A k (xs.take k) := by
  have hl := h.1
  refine ⟨by rw [List.length_take]; omega, by have := h.2.1; omega, fun hk0 => ?_⟩
  obtain ⟨b, off, e, hb, hc⟩ := h.2.2 (by omega)
  refine ⟨b, off, e, hb, fun j hj => ?_⟩
  rw [hc j (by omega)]
  simp [List.getElem?_take_of_lt hj]
theorem Rd.el (h : Rd w A n xs) {k : Nat} (hk : k < n) : ∃ b off x, A = some ⟨b, off, none⟩ ∧ b < w.heap.size ∧ w.cell? ⟨b, off + k, none⟩ = some (.int .i64 x) ∧ Hid (xs[k]? = some x) := by
  obtain ⟨b, off, e, hb, hc⟩ := h.2.2 (by omega)
  have hk' : k < xs.length := by have := h.1; omega
  refine ⟨b, off, xs[k], e, hb, ?_, List.getElem?_eq_getElem hk'⟩
  have := hc k hk
  simpa [List.getElem?_eq_getElem hk'] using this
end
theorem grow_set {w w' : World} {g : Nat} (h : w.grownBy w' (some g)) (i : Nat) (u : Value) : w.grownBy (w'.setCell ⟨g, i, none⟩ u) (some g) :=
  ⟨h.os, h.tape, h.output, by simpa [World.setCell] using h.size, fun k hk hne => by
    rw [Below.heap_setCell _ _ _ _ (by intro e; exact hne (by rw [e]))]
    exact h.block k hk hne⟩
theorem take_more {xs : List Int} {k : Nat} {x : Int} (h : xs[k]? = some x) : xs.take (k + 1) = xs.take k ++ [x] := by
  rw [List.take_add_one, h]; rfl

/-- block g is just these cells, none frozen -/
def Blk (w : World) (g : Nat) (t : TypeId) (cs : Array Value) : Prop := w.heap[g]? = some (.cells cs t (0, 0))
section
variable {w w' : World} {g : Nat} {t : TypeId} {cs : Array Value}
theorem Blk.lt (h : Blk w g t cs) : g < w.heap.size := by
  rcases Nat.lt_or_ge g w.heap.size with hlt | hge
  · exact hlt
  · unfold Blk at h; rw [Array.getElem?_eq_none hge] at h; cases h
theorem Blk.cell (h : Blk w g t cs) (i : Nat) : w.cell? ⟨g, i, none⟩ = cs[i]? := cell_of_row w g i cs t (0, 0) h
theorem Blk.frozen (h : Blk w g t cs) (i : Nat) : w.frozen? ⟨g, i, none⟩ = false := by
  unfold Blk at h
  simp [World.frozen?, h]
theorem Blk.get (h : Blk w g t cs) (i : Nat) (u : Value) (hu : cs[i]? = some u) : w.cell? ⟨g, i, none⟩ = some u := (h.cell i).trans hu
theorem Blk.ext (h : Blk w g t cs) (hx : Ext w w') : Blk w' g t cs := (hx.block g h.lt).trans h
theorem Blk.alloc (h : Blk w g t cs) (o : Obj) : Blk (w.alloc o) g t cs := (Below.heap_alloc w o g h.lt).trans h
theorem Blk.drew (h : Blk w g t cs) : Blk w.drew g t cs := h
theorem Blk.drewN (h : Blk w g t cs) (n : Nat) : Blk (w.drewN n) g t cs := h
theorem Blk.far (h : Blk w g t cs) {p : Addr} (hp : g ≠ p.block) (u : Value) : Blk (w.setCell p u) g t cs := (Below.heap_setCell w p u g hp).trans h
theorem Blk.off (h : Blk w g t cs) (b i : Nat) (hb : g ≠ b) (u : Value) : Blk (w.setCell ⟨b, i, none⟩ u) g t cs := h.far hb u
theorem Blk.c3 {a b c : Value} (h : Blk w g t #[a, b, c]) : w.cell? ⟨g, 0, none⟩ = some a ∧ w.cell? ⟨g, 1, none⟩ = some b ∧ w.cell? ⟨g, 2, none⟩ = some c := ⟨h.get 0 _ rfl, h.get 1 _ rfl, h.get 2 _ rfl⟩
theorem Blk.c2 {a b : Value} (h : Blk w g t #[a, b]) : w.cell? ⟨g, 0, none⟩ = some a ∧ w.cell? ⟨g, 1, none⟩ = some b := ⟨h.get 0 _ rfl, h.get 1 _ rfl⟩
theorem Blk.c4 {a b c d : Value} (h : Blk w g t #[a, b, c, d]) : w.cell? ⟨g, 0, none⟩ = some a ∧ w.cell? ⟨g, 1, none⟩ = some b ∧ w.cell? ⟨g, 2, none⟩ = some c ∧ w.cell? ⟨g, 3, none⟩ = some d := ⟨h.get 0 _ rfl, h.get 1 _ rfl, h.get 2 _ rfl, h.get 3 _ rfl⟩
theorem Blk.c6 {a b c d e f : Value} (h : Blk w g t #[a, b, c, d, e, f]) : w.cell? ⟨g, 0, none⟩ = some a ∧ w.cell? ⟨g, 1, none⟩ = some b ∧ w.cell? ⟨g, 2, none⟩ = some c ∧ w.cell? ⟨g, 3, none⟩ = some d ∧ w.cell? ⟨g, 4, none⟩ = some e ∧ w.cell? ⟨g, 5, none⟩ = some f :=
  ⟨h.get 0 _ rfl, h.get 1 _ rfl, h.get 2 _ rfl, h.get 3 _ rfl, h.get 4 _ rfl, h.get 5 _ rfl⟩
theorem Blk.c9 {a b c d e f i j k : Value} (h : Blk w g t #[a, b, c, d, e, f, i, j, k]) : w.cell? ⟨g, 0, none⟩ = some a ∧ w.cell? ⟨g, 1, none⟩ = some b ∧ w.cell? ⟨g, 2, none⟩ = some c ∧ w.cell? ⟨g, 3, none⟩ = some d ∧ w.cell? ⟨g, 4, none⟩ = some e ∧ w.cell? ⟨g, 5, none⟩ = some f ∧ w.cell? ⟨g, 6, none⟩ = some i ∧ w.cell? ⟨g, 7, none⟩ = some j ∧ w.cell? ⟨g, 8, none⟩ = some k :=
  ⟨h.get 0 _ rfl, h.get 1 _ rfl, h.get 2 _ rfl, h.get 3 _ rfl, h.get 4 _ rfl, h.get 5 _ rfl, h.get 6 _ rfl, h.get 7 _ rfl, h.get 8 _ rfl⟩
theorem Blk.new (w : World) (t : TypeId) (cs : Array Value) : Blk (w.alloc (.cells cs t)) w.heap.size t cs := heap_alloc_new w _
theorem Blk.set_ (h : Blk w g t cs) (i : Nat) (u : Value) : Blk (w.setCell ⟨g, i, none⟩ u) g t (cs.setIfInBounds i u) := by
  unfold Blk at h ⊢
  simp [World.setCell, Array.getElem?_modify, h]
end

theorem res3 {w : World} {g : Nat} {t : TypeId} {a b c : Value} (h : Blk w g t #[a, b, c]) : w.cell? ⟨g, 0, none⟩ = some a ∧ w.cell? ⟨g, 1, none⟩ = some b ∧ w.cell? ⟨g, 2, none⟩ = some c ∧ w.frozen? ⟨g, 0, none⟩ = false ∧ w.frozen? ⟨g, 1, none⟩ = false ∧ w.frozen? ⟨g, 2, none⟩ = false :=
  ⟨h.c3.1, h.c3.2.1, h.c3.2.2, h.frozen 0, h.frozen 1, h.frozen 2⟩
/-- a slice of the call's own: nil, or the head of a block from 'lo' on; it holds the numbers xs -/
def Own (w : World) (lo : Nat) (v : Value) (xs : List Int) : Prop := xs.length ≤ 16777216 ∧ w.ownsRow lo 2 1 v xs.length (xs.map (Value.int .i64))
section
variable {w w' : World} {lo : Nat} {v : Value} {xs : List Int}
theorem Own.rd {A : Option Addr} {n c : Nat} (h : Own w lo (.slice A n c) xs) : Rd w A n xs := by
  obtain ⟨h0, h1, h2⟩ := h
  rcases h2 with ⟨e, hn⟩ | ⟨g, cap, cur, e, hg, hh, hcap, _, _, ht⟩
  · injection e with e1 e2 e3
    subst e2
    exact ⟨hn.symm, by omega, fun h => absurd h (by omega)⟩
  · injection e with e1 e2 e3
    subst e1 e2 e3
    refine ⟨rfl, h0, fun hn => ⟨g, 0, rfl, Blk.lt (t := 2) (cs := cur) hh, fun j hj => ?_⟩⟩
    rw [Blk.cell (t := 2) (cs := cur) hh]
    have : (cur.toList.take (xs.length * 1))[j]? = (xs.map (Value.int .i64))[j]? := by rw [ht]
    rw [List.getElem?_take_of_lt (by omega)] at this
    simp only [Array.getElem?_toList, Nat.zero_add] at this ⊢
    rw [this]
    simp [List.getElem?_map, List.getElem?_eq_getElem hj]
theorem Own.shape (h : Own w lo v xs) : ∃ s : Sl, v = .slice s.A s.n s.c ∧ s.n = xs.length := by
  rcases h.2.2 with ⟨e, hn⟩ | ⟨g, cap, cur, e, _⟩
  · exact ⟨⟨none, 0, 0⟩, e, hn.symm⟩
  · exact ⟨⟨_, _, _⟩, e, rfl⟩
theorem Own.lt (h : Own w lo v xs) : ∀ k, v.ownBlock = some k → lo ≤ k ∧ k < w.heap.size := World.ownsRow.lt h.2
theorem Own.keep (h : Own w lo v xs) (hk : ∀ k, v.ownBlock = some k → w'.heap[k]? = w.heap[k]?) : Own w' lo v xs := by
  refine ⟨h.1, h.2.1, ?_⟩
  rcases h.2.2 with hn | ⟨g, cap, cur, rfl, hb, hgg, rest⟩
  · exact .inl hn
  · exact .inr ⟨g, cap, cur, rfl, hb, by rw [hk g rfl]; exact hgg, rest⟩
theorem Own.ext (h : Own w lo v xs) (hx : Ext w w') : Own w' lo v xs := h.keep fun k hk => hx.block k (h.lt k hk).2
theorem Own.far (h : Own w lo v xs) {p : Addr} (hp : p.block < lo) (u : Value) : Own (w.setCell p u) lo v xs := h.keep fun k hk => Below.heap_setCell _ _ _ _ (by have := (h.lt k hk).1; omega)
theorem Own.off (h : Own w lo v xs) (b i : Nat) (hb : b < lo) (u : Value) : Own (w.setCell ⟨b, i, none⟩ u) lo v xs := h.far hb u
theorem Own.mono {lo' : Nat} (h : Own w lo v xs) (hl : lo' ≤ lo) : Own w lo' v xs := by
  refine ⟨h.1, h.2.1, ?_⟩
  rcases h.2.2 with hn | ⟨g, cap, cur, e, hb, rest⟩
  · exact .inl hn
  · exact .inr ⟨g, cap, cur, e, by omega, rest⟩
/-- a block known whole, from its head on -/
theorem Own.of_blk {g : Nat} {cs : Array Value} (hb : Blk w g 2 cs) (hl : lo ≤ g) (n cap : Nat) (hn : n = xs.length) (hc : n ≤ cap) (hm : cap ≤ maxLen) (hs : cs.size = cap) (h24 : n ≤ 16777216) (ht : cs.toList.take n = xs.map (Value.int .i64)) :
    Own w lo (.slice (some ⟨g, 0, none⟩) n cap) xs := by
  subst hn
  exact ⟨h24, by simp, .inr ⟨g, cap, cs, rfl, hl, hb, hc, hm, by omega, by simpa using ht⟩⟩
theorem Own.nil_ (w : World) (lo : Nat) : Own w lo (.slice none 0 0) [] := ⟨by simp, World.ownsRow_nil _ _ _ _⟩
end

theorem ownBlock_eq {b n c k : Nat} (h : Value.ownBlock (.slice (some ⟨b, 0, none⟩) n c) = some k) : b = k := by injection h
/-- only these blocks have turned -/
structure Fr (S : Nat → Prop) (w w' : World) : Prop where
  os : w'.os = w.os
  tape : w'.tape = w.tape
  output : w'.output = w.output
  size : w.heap.size ≤ w'.heap.size
  block : ∀ k, k < w.heap.size → ¬ S k → w'.heap[k]? = w.heap[k]?
section
variable {w w' w'' : World} {S S' : Nat → Prop}
theorem Fr.refl (S : Nat → Prop) (w : World) : Fr S w w := ⟨rfl, rfl, rfl, Nat.le_refl _, fun _ _ _ => rfl⟩
theorem Fr.trans (h : Fr S w w') (k : Fr S w' w'') : Fr S w w'' :=
  ⟨k.os.trans h.os, k.tape.trans h.tape, k.output.trans h.output, Nat.le_trans h.size k.size, fun i hi hs => (k.block i (Nat.lt_of_lt_of_le hi h.size) hs).trans (h.block i hi hs)⟩
theorem Fr.mono (h : Fr S w w') (hs : ∀ k, k < w.heap.size → S k → S' k) : Fr S' w w' := ⟨h.os, h.tape, h.output, h.size, fun k hk hn => h.block k hk (fun e => hn (hs k hk e))⟩
theorem Ext.fr (h : Ext w w') : Fr S w w' := ⟨h.os, h.tape, h.output, h.size, fun k hk _ => h.block k hk⟩
theorem Fr.of_grown {row : Option Nat} (h : w.grownBy w' row) : Fr (fun k => row = some k) w w' := ⟨h.os, h.tape, h.output, h.size, fun k hk hn => h.block k hk (fun e => hn e.symm)⟩
theorem Fr.ext (h : Fr S w w') (hs : ∀ k, k < w.heap.size → ¬ S k) : Ext w w' := ⟨h.os, h.tape, h.output, h.size, fun k hk => h.block k hk (hs k hk)⟩
theorem Own.fr {lo : Nat} {v : Value} {xs : List Int} (h : Own w lo v xs) (hf : Fr S w w') (hs : ∀ k, v.ownBlock = some k → ¬ S k) : Own w' lo v xs := h.keep fun k hk => hf.block k (h.lt k hk).2 (hs k hk)
theorem Blk.fr {g : Nat} {t : TypeId} {cs : Array Value} (h : Blk w g t cs) (f : Fr S w w') (hs : ¬ S g) : Blk w' g t cs := (f.block g h.lt hs).trans h
/-- all that turned lies from 'lo' on: what lay below reads as it did -/
theorem Ext.fr_trans {w0 : World} (h0 : Ext w0 w) (h : Fr S w w') (hs : ∀ k, S k → w0.heap.size ≤ k) : Ext w0 w' :=
  ⟨h.os.trans h0.os, h.tape.trans h0.tape, h.output.trans h0.output, Nat.le_trans h0.size h.size, fun k hk => (h.block k (Nat.lt_of_lt_of_le hk h0.size) (fun e => by have := hs k e; omega)).trans (h0.block k hk)⟩
end

theorem size_off (w : World) (a : Addr) (u : Value) : (w.setCell a u).heap.size = w.heap.size := by simp [World.setCell]
theorem apart_of_lt {u v : Value} {lo lo' : Nat} {w w' : World} {xs ys : List Int} (h : Own w lo u xs) (h' : Own w' lo' v ys) (hs : w.heap.size ≤ lo') : ∀ k, u.ownBlock = some k → v.ownBlock ≠ some k := by
  intro k hk hk'
  have h1 := (h.lt k hk).2
  have h2 := (h'.lt k hk').1
  omega

/-! ### three slices at once -/
def cap1 (s : Sl) : Prop := s.n ≤ s.c ∧ s.c ≤ 9223372036854775807
def Rd3 (w : World) (p : S3) (l : L3) : Prop := Rd w p.x.A p.x.n l.x ∧ Rd w p.y.A p.y.n l.y ∧ Rd w p.z.A p.z.n l.z ∧ p.x.n + (p.y.n + p.z.n) ≤ 2097152 ∧ cap1 p.x ∧ cap1 p.y ∧ cap1 p.z
theorem Own.cap {w : World} {lo : Nat} {s : Sl} {xs : List Int} (h : Own w lo (.slice s.A s.n s.c) xs) : cap1 s := by
  rcases h.2.2 with ⟨e, _⟩ | ⟨g, cap, cur, e, _, _, h1, h2, _⟩
  · injection e with e1 e2 e3
    unfold cap1; omega
  · injection e with e1 e2 e3
    unfold cap1
    unfold maxLen at h2
    omega
def apart (u v : Value) : Prop := ∀ k, u.ownBlock = some k → v.ownBlock ≠ some k
def Own3 (w : World) (lo : Nat) (p : S3) (l : L3) : Prop :=
  Own w lo (.slice p.x.A p.x.n p.x.c) l.x ∧ Own w lo (.slice p.y.A p.y.n p.y.c) l.y ∧ Own w lo (.slice p.z.A p.z.n p.z.c) l.z ∧ p.x.n + (p.y.n + p.z.n) ≤ 2097152 ∧
  apart (.slice p.x.A p.x.n p.x.c) (.slice p.y.A p.y.n p.y.c) ∧ apart (.slice p.x.A p.x.n p.x.c) (.slice p.z.A p.z.n p.z.c) ∧ apart (.slice p.y.A p.y.n p.y.c) (.slice p.z.A p.z.n p.z.c)
section
variable {w w' : World} {p : S3} {l : L3} {lo : Nat}
theorem Rd3.ext (h : Rd3 w p l) (hx : Ext w w') : Rd3 w' p l := ⟨h.1.ext hx, h.2.1.ext hx, h.2.2.1.ext hx, h.2.2.2⟩
theorem Own3.rd (h : Own3 w lo p l) : Rd3 w p l := ⟨h.1.rd, h.2.1.rd, h.2.2.1.rd, h.2.2.2.1, h.1.cap, h.2.1.cap, h.2.2.1.cap⟩
theorem Own3.ext (h : Own3 w lo p l) (hx : Ext w w') : Own3 w' lo p l := ⟨h.1.ext hx, h.2.1.ext hx, h.2.2.1.ext hx, h.2.2.2⟩
theorem Own3.alloc (h : Own3 w lo p l) (o : Obj) : Own3 (w.alloc o) lo p l := h.ext ((Ext.refl w).alloc o)
theorem Own3.drew (h : Own3 w lo p l) : Own3 w.drew lo p l := h
theorem Own3.mono {lo' : Nat} (h : Own3 w lo p l) (hl : lo' ≤ lo) : Own3 w lo' p l := ⟨h.1.mono hl, h.2.1.mono hl, h.2.2.1.mono hl, h.2.2.2⟩
/-- the blocks of three slices -/
def blks (p : S3) (k : Nat) : Prop := Value.ownBlock (.slice p.x.A p.x.n p.x.c) = some k ∨ Value.ownBlock (.slice p.y.A p.y.n p.y.c) = some k ∨ Value.ownBlock (.slice p.z.A p.z.n p.z.c) = some k
theorem Own3.lt (h : Own3 w lo p l) {k : Nat} (hk : blks p k) : lo ≤ k ∧ k < w.heap.size := by
  rcases hk with hk | hk | hk
  · exact h.1.lt k hk
  · exact h.2.1.lt k hk
  · exact h.2.2.1.lt k hk
theorem Own3.fr {S : Nat → Prop} (h : Own3 w lo p l) (hf : Fr S w w') (hs : ∀ k, blks p k → ¬ S k) : Own3 w' lo p l :=
  ⟨h.1.fr hf fun k hk => hs k (.inl hk), h.2.1.fr hf fun k hk => hs k (.inr (.inl hk)), h.2.2.1.fr hf fun k hk => hs k (.inr (.inr hk)), h.2.2.2⟩
end

theorem ints_info : (Tryz.prog.info? 2).map (fun i => (i.zero, i.size, i.bytes)) = some (some (.int .i64 0), 1, 8) := by kernel_rfl
end Go.Proofs.YtofglgfjlbehmaaGreat.mem
