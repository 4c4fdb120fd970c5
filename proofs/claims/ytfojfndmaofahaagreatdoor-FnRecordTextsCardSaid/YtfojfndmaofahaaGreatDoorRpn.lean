/-
  Reading a panel, in both programs.
-/
import Derived.Test.YtfojfndmaofahaaGreatDoorRli
namespace Go.Proofs.YtfojfndmaofahaaGreatDoor.mem
open Go.ChangeShapes Go.WideShapes Go.ChangeAt Go.RowKit

def rpO (s : ByteArray) : Option L3 := match splitW 47 s with
  | [a, b, c] => match rlO a, rlO b, rlO c with
    | some x, some y, some z => if okP ⟨x, y, z⟩ = true then some ⟨x, y, z⟩ else none
    | _, _, _ => none
  | _ => none
theorem rpO_len {s : ByteArray} (h : (splitW 47 s).length ≠ 3) : rpO s = none := by
  unfold rpO
  split
  · rename_i a b c e; rw [e] at h; exact absurd rfl h
  · rfl
theorem rpO_none {s a b c : ByteArray} (h : splitW 47 s = [a, b, c]) (hn : rlO a = none ∨ rlO b = none ∨ rlO c = none) : rpO s = none := by
  unfold rpO
  rw [h]
  simp only
  split
  · rename_i x y z e1 e2 e3
    rcases hn with e | e | e
    · rw [e] at e1; cases e1
    · rw [e] at e2; cases e2
    · rw [e] at e3; cases e3
  · rfl
theorem rpO_three {s a b c : ByteArray} {l : L3} (h : splitW 47 s = [a, b, c]) (h1 : rlO a = some l.x) (h2 : rlO b = some l.y) (h3 : rlO c = some l.z) : rpO s = if okP l = true then some l else none := by
  unfold rpO
  rw [h]
  simp only [h1, h2, h3]
def rpC (s : ByteArray) : Int := if (rpO s).isSome = true then 0 else 6
def rpV (s : ByteArray) : L3 := (rpO s).getD ⟨[], [], []⟩
def RpP (w w' : World) (s : ByteArray) (e : Ending) : Prop :=
  ∃ p : S3, e = .returned (.tuple #[.agg #[.slice p.x.A p.x.n p.x.c, .slice p.y.A p.y.n p.y.c, .slice p.z.A p.z.n p.z.c], .int .i64 (rpC s)]) ∧ Own3 w' w.heap.size p (rpV s) ∧ Ext w w'
def nilR : S3 := ⟨⟨none, 0, 0⟩, ⟨none, 0, 0⟩, ⟨none, 0, 0⟩⟩
theorem Own3.nilR (w : World) (lo : Nat) : Own3 w lo nilR ⟨[], [], []⟩ :=
  ⟨Own.nil_ _ _, Own.nil_ _ _, Own.nil_ _ _, by simp [mem.nilR], (by intro k hk; cases hk), (by intro k hk; cases hk), (by intro k hk; cases hk)⟩
theorem RpP.bad {w w' : World} {s : ByteArray} (h : rpO s = none) (hx : Ext w w') : RpP w w' s (.returned (.tuple #[.agg #[.slice nilR.x.A nilR.x.n nilR.x.c, .slice nilR.y.A nilR.y.n nilR.y.c, .slice nilR.z.A nilR.z.n nilR.z.c], .int .i64 6])) :=
  ⟨nilR, by unfold rpC; rw [h]; rfl, by unfold rpV; rw [h]; exact Own3.nilR _ _, hx⟩
theorem RpP.good {w w' : World} {s : ByteArray} {l : L3} {p : S3} (h : rpO s = some l) (ho : Own3 w' w.heap.size p l) (hx : Ext w w') : RpP w w' s (.returned (.tuple #[.agg #[.slice p.x.A p.x.n p.x.c, .slice p.y.A p.y.n p.y.c, .slice p.z.A p.z.n p.z.c], .int .i64 0])) :=
  ⟨p, by unfold rpC; rw [h]; rfl, by unfold rpV; rw [h]; exact ho, hx⟩
def RlY (w w' : World) (x : List Int) (e : Ending) : Prop := ∃ v : Sl, e = .returned (.tuple #[.slice v.A v.n v.c, .int .i64 0]) ∧ Own w' w.heap.size (.slice v.A v.n v.c) x ∧ Ext w w'
def RlN (w w' : World) (e : Ending) : Prop := ∃ v : Sl, e = .returned (.tuple #[.slice v.A v.n v.c, .int .i64 6]) ∧ Ext w w'
theorem RlP.yes {w w' : World} {s : ByteArray} {e : Ending} {x : List Int} (h : RlP w w' s e) (hx : rlO s = some x) : RlY w w' x e := by
  obtain ⟨v, h1, h2, h3⟩ := h
  rw [(rl_some hx).1] at h1
  rw [(rl_some hx).2] at h2
  exact ⟨v, h1, h2, h3⟩
theorem RlP.no {w w' : World} {s : ByteArray} {e : Ending} (h : RlP w w' s e) (hx : rlO s = none) : RlN w w' e := by
  obtain ⟨v, h1, _, h3⟩ := h
  rw [(rl_none hx).1] at h1
  exact ⟨v, h1, h3⟩
theorem rlO_le {s : ByteArray} {x : List Int} (h : rlO s = some x) : x.length ≤ 60 := by
  unfold rlO at h
  split at h
  · injection h with h; subst h; simp
  · split at h
    · split at h
      · rename_i hb; injection h with h; subst h; exact hb.2
      · cases h
    · cases h
theorem list_three {α : Type} {l : List α} (h : l.length = 3) : ∃ a b c, l = [a, b, c] := by
  match l, h with
  | [a, b, c], _ => exact ⟨a, b, c, rfl⟩
theorem words3 {w : World} {A : Option Addr} {n : Nat} {a b c : ByteArray} (h : RdU w A n [a, b, c]) :
    ∃ bw off, A = some ⟨bw, off, none⟩ ∧ bw < w.heap.size ∧ w.cell? ⟨bw, off, none⟩ = some (.string a) ∧ w.cell? ⟨bw, off + 1, none⟩ = some (.string b) ∧ w.cell? ⟨bw, off + 2, none⟩ = some (.string c) := by
  obtain ⟨bw, off, e, hb, hc⟩ := RdU.get w h (by have := h.1; simp at this; omega)
  exact ⟨bw, off, e, hb, by simpa using hc 0 a rfl, hc 1 b rfl, hc 2 c rfl⟩
theorem Own3.offR {w : World} {lo : Nat} {p : S3} {l : L3} (h : Own3 w lo p l) (b i : Nat) (hb : b < lo) (u : Value) : Own3 (w.setCell ⟨b, i, none⟩ u) lo p l :=
  ⟨h.1.off b i hb u, h.2.1.off b i hb u, h.2.2.1.off b i hb u, h.2.2.2⟩
theorem Own3.of3 {w : World} {lo : Nat} {p : S3} {l : L3} (h1 : Own w lo (.slice p.x.A p.x.n p.x.c) l.x) (h2 : Own w lo (.slice p.y.A p.y.n p.y.c) l.y) (h3 : Own w lo (.slice p.z.A p.z.n p.z.c) l.z) (b1 : l.x.length ≤ 60) (b2 : l.y.length ≤ 60) (b3 : l.z.length ≤ 60)
    (a1 : apart (.slice p.x.A p.x.n p.x.c) (.slice p.y.A p.y.n p.y.c)) (a2 : apart (.slice p.x.A p.x.n p.x.c) (.slice p.z.A p.z.n p.z.c)) (a3 : apart (.slice p.y.A p.y.n p.y.c) (.slice p.z.A p.z.n p.z.c)) : Own3 w lo p l :=
  ⟨h1, h2, h3, by have := h1.rd.1; have := h2.rd.1; have := h3.rd.1; omega, a1, a2, a3⟩
set_option maxHeartbeats 4000000 in
theorem spec.ReadPanel_any (s : ByteArray) (w : World) (hs : s.size ≤ 1048576) :
    Calls Tryz.prog 12 #[.string s] w fun e w' => RpP w w' s e := by
  have hX0 := (Ext.refl w).alloc (.cells #[.slice none 0 0, .slice none 0 0, .slice none 0 0] 26)
  have hR0 := Blk.new w 26 (#[.slice none 0 0, .slice none 0 0, .slice none 0 0])
  have hsp := fun W => spec.l01Split_any s 47 W hs
  have hle := hide (fun x hx => Nat.le_trans (splitW_le 47 s x hx) hs)
  go_enter Tryz.func12, Tryz.ntmps12
  go_wp2_with fail
  go_fit (hsp _)
  rintro e w1 ⟨v0, rfl, ov, hx1⟩
  have hX1 := hX0.trans hx1
  have hR1 := hR0.ext hx1
  have hz1 : w.heap.size + 1 ≤ w1.heap.size := by have := hx1.size; simpa using this
  clear hx1 hX0 hR0
  obtain ⟨ws, hws⟩ : ∃ ws, Hid (splitW 47 s = ws) := ⟨_, rfl⟩
  rw [hws.out] at ov hle
  have hlen := hide (show v0.n = ws.length from ov.rd.1)
  have hru := ov.rd
  obtain ⟨A, n, c⟩ := v0
  simp only at hlen hru ⊢
  clear ov
  by_cases h3 : n = 3
  case neg =>
    have hne : ((n : Int) == 3) = false := by rw [beq_eq_false_iff_ne]; omega
    have hN := hide (rpO_len (s := s) (by rw [hws.out, ← hlen.out]; exact h3))
    have hRn := ((hR1.set_ 0 (.slice none 0 0)).set_ 1 (.slice none 0 0)).set_ 2 (.slice none 0 0)
    obtain ⟨m0, m1, m2⟩ := hRn.c3
    have hXn := ((hX1.off w.heap.size 0 (Nat.le_refl _) (.slice none 0 0)).off w.heap.size 1 (Nat.le_refl _) (.slice none 0 0)).off w.heap.size 2 (Nat.le_refl _) (.slice none 0 0)
    obtain ⟨r0, r1, r2, r3, r4, r5⟩ := res3 hR1
    replace h3 := hide h3
    clear hRn hru
    go_wp2
    refine bodyPost_ret (v := .tuple #[.agg #[.slice nilR.x.A nilR.x.n nilR.x.c, .slice nilR.y.A nilR.y.n nilR.y.c, .slice nilR.z.A nilR.z.n nilR.z.c], .int .i64 6]) (by simp [results, Tryz.results12, go_sem, m0, m1, m2, nilR]) rfl (RpP.bad hN.out hXn)
  subst h3
  obtain ⟨a, b, d, rfl⟩ := list_three hlen.out.symm
  obtain ⟨bw, off, rfl, hbw, wa, wb, wd⟩ := words3 hru
  have ha := hle.out a (by simp)
  have hb := hle.out b (by simp)
  have hd := hle.out d (by simp)
  clear hru hlen
  cases ea : rlO a with
  | none =>
    have hN := hide (rpO_none hws.out (.inl ea))
    have c1 := fun W => (spec.ReadList_any a W ha).mono fun e w' h => RlP.no h ea
    have c2 := fun W => spec.ReadList_any b W hb
    have c3 := fun W => spec.ReadList_any d W hd
    clear ea
    go_wp2_with fail
    go_fit (c1 _)
    rintro e w2 ⟨v1, rfl, hx2⟩
    have wb2 := (hx2.cell (p := ⟨bw, off + 1, none⟩) hbw).trans wb
    have wd2 := (hx2.cell (p := ⟨bw, off + 2, none⟩) hbw).trans wd
    have hbw2 := Nat.lt_of_lt_of_le hbw hx2.size
    clear wa wb wd
    go_wp2_with fail
    go_fit (c2 _)
    rintro e w3 ⟨v2, rfl, _, hx3⟩
    have wd3 := (hx3.cell (p := ⟨bw, off + 2, none⟩) hbw2).trans wd2
    clear wb2 wd2
    go_wp2_with fail
    go_fit (c3 _)
    rintro e w4 ⟨v3, rfl, _, hx4⟩
    clear wd3
    have hx := (hx2.trans hx3).trans hx4
    have hXs := hx.size
    have hX4 := (hX1.trans hx).alloc (.cells #[.slice v1.A v1.n v1.c, .slice v2.A v2.n v2.c, .slice v3.A v3.n v3.c] 26)
    have hR4 := (hR1.ext hx).alloc (.cells #[.slice v1.A v1.n v1.c, .slice v2.A v2.n v2.c, .slice v3.A v3.n v3.c] 26)
    have hRn := ((hR4.set_ 0 (.slice none 0 0)).set_ 1 (.slice none 0 0)).set_ 2 (.slice none 0 0)
    obtain ⟨m0, m1, m2⟩ := hRn.c3
    have hXn := ((hX4.off w.heap.size 0 (Nat.le_refl _) (.slice none 0 0)).off w.heap.size 1 (Nat.le_refl _) (.slice none 0 0)).off w.heap.size 2 (Nat.le_refl _) (.slice none 0 0)
    obtain ⟨r0, r1, r2, r3, r4, r5⟩ := res3 hR4
    clear hRn
    go_wp2
    refine bodyPost_ret (v := .tuple #[.agg #[.slice nilR.x.A nilR.x.n nilR.x.c, .slice nilR.y.A nilR.y.n nilR.y.c, .slice nilR.z.A nilR.z.n nilR.z.c], .int .i64 6]) (by simp [results, Tryz.results12, go_sem, m0, m1, m2, nilR]) rfl (RpP.bad hN.out hXn)
  | some x =>
  have c1 := fun W => (spec.ReadList_any a W ha).mono fun e w' h => RlP.yes h ea
  replace ea := hide ea
  go_wp2_with fail
  go_fit (c1 _)
  rintro e w2 ⟨v1, rfl, o1, hx2⟩
  have wb2 := (hx2.cell (p := ⟨bw, off + 1, none⟩) hbw).trans wb
  have wd2 := (hx2.cell (p := ⟨bw, off + 2, none⟩) hbw).trans wd
  have hbw2 := Nat.lt_of_lt_of_le hbw hx2.size
  have hXs2 := hx2.size
  clear wa wb wd
  cases eb : rlO b with
  | none =>
    have hN := hide (rpO_none hws.out (.inr (.inl eb)))
    have c2 := fun W => (spec.ReadList_any b W hb).mono fun e w' h => RlP.no h eb
    have c3 := fun W => spec.ReadList_any d W hd
    clear eb
    go_wp2_with fail
    go_fit (c2 _)
    rintro e w3 ⟨v2, rfl, hx3⟩
    have wd3 := (hx3.cell (p := ⟨bw, off + 2, none⟩) hbw2).trans wd2
    clear wb2 wd2
    go_wp2_with fail
    go_fit (c3 _)
    rintro e w4 ⟨v3, rfl, _, hx4⟩
    clear wd3
    have hx := (hx2.trans hx3).trans hx4
    have hXs := hx.size
    have hX4 := (hX1.trans hx).alloc (.cells #[.slice v1.A v1.n v1.c, .slice v2.A v2.n v2.c, .slice v3.A v3.n v3.c] 26)
    have hR4 := (hR1.ext hx).alloc (.cells #[.slice v1.A v1.n v1.c, .slice v2.A v2.n v2.c, .slice v3.A v3.n v3.c] 26)
    have hRn := ((hR4.set_ 0 (.slice none 0 0)).set_ 1 (.slice none 0 0)).set_ 2 (.slice none 0 0)
    obtain ⟨m0, m1, m2⟩ := hRn.c3
    have hXn := ((hX4.off w.heap.size 0 (Nat.le_refl _) (.slice none 0 0)).off w.heap.size 1 (Nat.le_refl _) (.slice none 0 0)).off w.heap.size 2 (Nat.le_refl _) (.slice none 0 0)
    obtain ⟨r0, r1, r2, r3, r4, r5⟩ := res3 hR4
    clear hRn
    go_wp2
    refine bodyPost_ret (v := .tuple #[.agg #[.slice nilR.x.A nilR.x.n nilR.x.c, .slice nilR.y.A nilR.y.n nilR.y.c, .slice nilR.z.A nilR.z.n nilR.z.c], .int .i64 6]) (by simp [results, Tryz.results12, go_sem, m0, m1, m2, nilR]) rfl (RpP.bad hN.out hXn)
  | some y =>
  have c2 := fun W => (spec.ReadList_any b W hb).mono fun e w' h => RlP.yes h eb
  replace eb := hide eb
  go_wp2_with fail
  go_fit (c2 _)
  rintro e w3 ⟨v2, rfl, o2, hx3⟩
  have wd3 := (hx3.cell (p := ⟨bw, off + 2, none⟩) hbw2).trans wd2
  have hXs3 := hx3.size
  clear wb2 wd2
  cases ed : rlO d with
  | none =>
    have hN := hide (rpO_none hws.out (.inr (.inr ed)))
    have c3 := fun W => (spec.ReadList_any d W hd).mono fun e w' h => RlP.no h ed
    clear ed
    go_wp2_with fail
    go_fit (c3 _)
    rintro e w4 ⟨v3, rfl, hx4⟩
    clear wd3
    have hx := (hx2.trans hx3).trans hx4
    have hXs := hx.size
    have hX4 := (hX1.trans hx).alloc (.cells #[.slice v1.A v1.n v1.c, .slice v2.A v2.n v2.c, .slice v3.A v3.n v3.c] 26)
    have hR4 := (hR1.ext hx).alloc (.cells #[.slice v1.A v1.n v1.c, .slice v2.A v2.n v2.c, .slice v3.A v3.n v3.c] 26)
    have hRn := ((hR4.set_ 0 (.slice none 0 0)).set_ 1 (.slice none 0 0)).set_ 2 (.slice none 0 0)
    obtain ⟨m0, m1, m2⟩ := hRn.c3
    have hXn := ((hX4.off w.heap.size 0 (Nat.le_refl _) (.slice none 0 0)).off w.heap.size 1 (Nat.le_refl _) (.slice none 0 0)).off w.heap.size 2 (Nat.le_refl _) (.slice none 0 0)
    obtain ⟨r0, r1, r2, r3, r4, r5⟩ := res3 hR4
    clear hRn
    go_wp2
    refine bodyPost_ret (v := .tuple #[.agg #[.slice nilR.x.A nilR.x.n nilR.x.c, .slice nilR.y.A nilR.y.n nilR.y.c, .slice nilR.z.A nilR.z.n nilR.z.c], .int .i64 6]) (by simp [results, Tryz.results12, go_sem, m0, m1, m2, nilR]) rfl (RpP.bad hN.out hXn)
  | some z =>
  have c3 := fun W => (spec.ReadList_any d W hd).mono fun e w' h => RlP.yes h ed
  have hThree := hide (rpO_three (l := ⟨x, y, z⟩) hws.out ea.out eb.out ed)
  have hlx := hide (rlO_le ea.out)
  have hly := hide (rlO_le eb.out)
  have hlz := hide (rlO_le ed)
  clear ed
  go_wp2_with fail
  go_fit (c3 _)
  rintro e w4 ⟨v3, rfl, o3, hx4⟩
  clear wd3
  have hXs4 := hx4.size
  have hO3 : Own3 w4 (w.heap.size + 1) ⟨v1, v2, v3⟩ ⟨x, y, z⟩ :=
    Own3.of3 (((o1.mono hz1).ext hx3).ext hx4) ((o2.mono (by omega)).ext hx4) (o3.mono (by omega)) hlx.out hly.out hlz.out (apart_of_lt o1 o2 (Nat.le_refl _)) (apart_of_lt o1 o3 hXs3) (apart_of_lt o2 o3 (Nat.le_refl _))
  have hx := (hx2.trans hx3).trans hx4
  have hX4 := (hX1.trans hx).alloc (.cells #[.slice v1.A v1.n v1.c, .slice v2.A v2.n v2.c, .slice v3.A v3.n v3.c] 26)
  have hR4 := (hR1.ext hx).alloc (.cells #[.slice v1.A v1.n v1.c, .slice v2.A v2.n v2.c, .slice v3.A v3.n v3.c] 26)
  have hP4 := Blk.new w4 26 (#[.slice v1.A v1.n v1.c, .slice v2.A v2.n v2.c, .slice v3.A v3.n v3.c])
  have hO4 := hO3.alloc (.cells #[.slice v1.A v1.n v1.c, .slice v2.A v2.n v2.c, .slice v3.A v3.n v3.c] 26)
  have hz4 : w.heap.size < w4.heap.size := by omega
  clear o1 o2 o3 hO3 hX1 hR1
  have hk := fun W h => spec.IsPanel_any ⟨v1, v2, v3⟩ ⟨x, y, z⟩ W h
  obtain ⟨q0, q1, q2⟩ := hP4.c3
  cases hok : okP ⟨x, y, z⟩
  · have hN := hide (hThree.out.trans (by rw [hok] <;> rfl))
    rw [hok] at hk
    clear hok
    go_wp2_with fail
    go_fit (hk _ hO4.rd)
    rintro e w5 ⟨rfl, hx5⟩
    have hX5 := hX4.trans hx5
    have hR5 := hR4.ext hx5
    have hRn := ((hR5.set_ 0 (.slice none 0 0)).set_ 1 (.slice none 0 0)).set_ 2 (.slice none 0 0)
    obtain ⟨m0, m1, m2⟩ := hRn.c3
    have hXn := ((hX5.off w.heap.size 0 (Nat.le_refl _) (.slice none 0 0)).off w.heap.size 1 (Nat.le_refl _) (.slice none 0 0)).off w.heap.size 2 (Nat.le_refl _) (.slice none 0 0)
    obtain ⟨r0, r1, r2, r3, r4, r5⟩ := res3 hR5
    clear hRn q0 q1 q2
    go_wp2
    refine bodyPost_ret (v := .tuple #[.agg #[.slice nilR.x.A nilR.x.n nilR.x.c, .slice nilR.y.A nilR.y.n nilR.y.c, .slice nilR.z.A nilR.z.n nilR.z.c], .int .i64 6]) (by simp [results, Tryz.results12, go_sem, m0, m1, m2, nilR]) rfl (RpP.bad hN.out hXn)
  · have hN := hide (hThree.out.trans (by rw [hok] <;> rfl))
    rw [hok] at hk
    clear hok
    go_wp2_with fail
    go_fit (hk _ hO4.rd)
    rintro e w5 ⟨rfl, hx5⟩
    have hX5 := hX4.trans hx5
    have hR5 := hR4.ext hx5
    have hP5 := hP4.ext hx5
    have hO5 := hO4.ext hx5
    clear q0 q1 q2
    obtain ⟨q0, q1, q2⟩ := hP5.c3
    have hRn := ((hR5.set_ 0 (.slice v1.A v1.n v1.c)).set_ 1 (.slice v2.A v2.n v2.c)).set_ 2 (.slice v3.A v3.n v3.c)
    obtain ⟨m0, m1, m2⟩ := hRn.c3
    have hXn := ((hX5.off w.heap.size 0 (Nat.le_refl _) (.slice v1.A v1.n v1.c)).off w.heap.size 1 (Nat.le_refl _) (.slice v2.A v2.n v2.c)).off w.heap.size 2 (Nat.le_refl _) (.slice v3.A v3.n v3.c)
    have hOn := (((hO5.offR w.heap.size 0 (by omega) (.slice v1.A v1.n v1.c)).offR w.heap.size 1 (by omega) (.slice v2.A v2.n v2.c)).offR w.heap.size 2 (by omega) (.slice v3.A v3.n v3.c)).mono (lo' := w.heap.size) (by omega)
    obtain ⟨r0, r1, r2, r3, r4, r5⟩ := res3 hR5
    clear hRn
    go_wp2
    refine bodyPost_ret (v := .tuple #[.agg #[.slice (⟨v1, v2, v3⟩ : S3).x.A (⟨v1, v2, v3⟩ : S3).x.n (⟨v1, v2, v3⟩ : S3).x.c, .slice (⟨v1, v2, v3⟩ : S3).y.A (⟨v1, v2, v3⟩ : S3).y.n (⟨v1, v2, v3⟩ : S3).y.c, .slice (⟨v1, v2, v3⟩ : S3).z.A (⟨v1, v2, v3⟩ : S3).z.n (⟨v1, v2, v3⟩ : S3).z.c], .int .i64 0]) (by simp [results, Tryz.results12, go_sem, m0, m1, m2]) rfl (RpP.good hN.out hOn hXn)
/-- the three lists as far as they have been read -/
def RpInv (w : World) (lo k : Nat) (a b c : ByteArray) (p : S3) (l : L3) : Prop :=
  Own3 w lo p l ∧ (l.x.length ≤ 60 ∧ l.y.length ≤ 60 ∧ l.z.length ≤ 60) ∧ (0 < k → rlO a = some l.x) ∧ (1 < k → rlO b = some l.y) ∧ (2 < k → rlO c = some l.z)
theorem RpInv.ext {w w' : World} {lo k : Nat} {a b c : ByteArray} {p : S3} {l : L3} (h : RpInv w lo k a b c p l) (hx : Ext w w') : RpInv w' lo k a b c p l := ⟨h.1.ext hx, h.2⟩
theorem RpInv.off {w : World} {lo k : Nat} {a b c : ByteArray} {p : S3} {l : L3} (h : RpInv w lo k a b c p l) (g i : Nat) (hg : g < lo) (u : Value) : RpInv (w.setCell ⟨g, i, none⟩ u) lo k a b c p l := ⟨h.1.offR g i hg u, h.2⟩
theorem apart_symm {u v : Value} (h : apart u v) : apart v u := fun k h1 h2 => h k h2 h1
theorem apart_low {u v : Value} {lo : Nat} {w w' : World} {xs ys : List Int} (h : Own w lo u xs) (h' : Own w' w.heap.size v ys) : apart u v := apart_of_lt h h' (Nat.le_refl _)
theorem RpInv.put0 {w w' : World} {lo : Nat} {a b c : ByteArray} {p : S3} {l : L3} {v : Sl} {x : List Int} (h : RpInv w lo 0 a b c p l) (hx : Ext w w') (ho : Own w' w.heap.size (.slice v.A v.n v.c) x) (hl : lo ≤ w.heap.size) (e : rlO a = some x) :
    RpInv w' lo 1 a b c ⟨v, p.y, p.z⟩ ⟨x, l.y, l.z⟩ := by
  obtain ⟨⟨o1, o2, o3, _, a1, a2, a3⟩, ⟨l1, l2, l3⟩, _, _, _⟩ := h
  exact ⟨Own3.of3 (ho.mono hl) (o2.ext hx) (o3.ext hx) (rlO_le e) l2 l3 (apart_symm (apart_low o2 ho)) (apart_symm (apart_low o3 ho)) a3, ⟨rlO_le e, l2, l3⟩, fun _ => e, fun h => absurd h (by omega), fun h => absurd h (by omega)⟩
theorem RpInv.put1 {w w' : World} {lo : Nat} {a b c : ByteArray} {p : S3} {l : L3} {v : Sl} {x : List Int} (h : RpInv w lo 1 a b c p l) (hx : Ext w w') (ho : Own w' w.heap.size (.slice v.A v.n v.c) x) (hl : lo ≤ w.heap.size) (e : rlO b = some x) :
    RpInv w' lo 2 a b c ⟨p.x, v, p.z⟩ ⟨l.x, x, l.z⟩ := by
  obtain ⟨⟨o1, o2, o3, _, a1, a2, a3⟩, ⟨l1, l2, l3⟩, e1, _, _⟩ := h
  exact ⟨Own3.of3 (o1.ext hx) (ho.mono hl) (o3.ext hx) l1 (rlO_le e) l3 (apart_low o1 ho) a2 (apart_symm (apart_low o3 ho)), ⟨l1, rlO_le e, l3⟩, fun _ => e1 (by omega), fun _ => e, fun h => absurd h (by omega)⟩
theorem RpInv.put2 {w w' : World} {lo : Nat} {a b c : ByteArray} {p : S3} {l : L3} {v : Sl} {x : List Int} (h : RpInv w lo 2 a b c p l) (hx : Ext w w') (ho : Own w' w.heap.size (.slice v.A v.n v.c) x) (hl : lo ≤ w.heap.size) (e : rlO c = some x) :
    RpInv w' lo 3 a b c ⟨p.x, p.y, v⟩ ⟨l.x, l.y, x⟩ := by
  obtain ⟨⟨o1, o2, o3, _, a1, a2, a3⟩, ⟨l1, l2, l3⟩, e1, e2, _⟩ := h
  exact ⟨Own3.of3 (o1.ext hx) (o2.ext hx) (ho.mono hl) l1 l2 (rlO_le e) a1 (apart_low o1 ho) (apart_low o2 ho), ⟨l1, l2, rlO_le e⟩, fun _ => e1 (by omega), fun _ => e2 (by omega), fun _ => e⟩
set_option maxHeartbeats 4000000 in
theorem impl.ReadPanel_any (s : ByteArray) (w : World) (hs : s.size ≤ 1048576) (hL : Lb w) :
    Calls Tryz.prog 11 #[.string s] w fun e w' => RpP w w' s e := by
  have hX0 := (Ext.refl w).alloc (.cells #[.slice none 0 0, .slice none 0 0, .slice none 0 0] 26)
  have hR0 := Blk.new w 26 (#[.slice none 0 0, .slice none 0 0, .slice none 0 0])
  have hsp := fun W h => split_one s 47 W hs h
  have hle := hide (fun x hx => Nat.le_trans (splitW_le 47 s x hx) hs)
  go_enter Tryz.func11, Tryz.ntmps11
  go_wp2_with fail
  go_fit (hsp _ (hL.ext hX0))
  rintro e w1 ⟨v0, rfl, ov, hx1⟩
  have hX1 := hX0.trans hx1
  have hR1 := hR0.ext hx1
  have hz1 : w.heap.size + 1 ≤ w1.heap.size := by have := hx1.size; simpa using this
  clear hx1 hX0 hR0
  obtain ⟨ws, hws⟩ : ∃ ws, Hid (splitW 47 s = ws) := ⟨_, rfl⟩
  rw [hws.out] at ov hle
  have hlen := hide (show v0.n = ws.length from ov.rd.1)
  have hru := ov.rd
  obtain ⟨A, n, c⟩ := v0
  simp only at hlen hru ⊢
  clear ov
  by_cases h3 : n = 3
  case neg =>
    have hne : ((n : Int) == 3) = false := by rw [beq_eq_false_iff_ne]; omega
    have hN := hide (rpO_len (s := s) (by rw [hws.out, ← hlen.out]; exact h3))
    have hRn := ((hR1.set_ 0 (.slice none 0 0)).set_ 1 (.slice none 0 0)).set_ 2 (.slice none 0 0)
    obtain ⟨m0, m1, m2⟩ := hRn.c3
    have hXn := ((hX1.off w.heap.size 0 (Nat.le_refl _) (.slice none 0 0)).off w.heap.size 1 (Nat.le_refl _) (.slice none 0 0)).off w.heap.size 2 (Nat.le_refl _) (.slice none 0 0)
    obtain ⟨r0, r1, r2, r3, r4, r5⟩ := res3 hR1
    replace h3 := hide h3
    clear hRn hru
    go_wp2
    refine bodyPost_ret (v := .tuple #[.agg #[.slice nilR.x.A nilR.x.n nilR.x.c, .slice nilR.y.A nilR.y.n nilR.y.c, .slice nilR.z.A nilR.z.n nilR.z.c], .int .i64 6]) (by simp [results, Tryz.results11, go_sem, m0, m1, m2, nilR]) rfl (RpP.bad hN.out hXn)
  subst h3
  obtain ⟨a, b, d, rfl⟩ := list_three hlen.out.symm
  obtain ⟨bw, off, rfl, hbw, wa, wb, wd⟩ := words3 hru
  have ha := hle.out a (by simp)
  have hb := hle.out b (by simp)
  have hd := hle.out d (by simp)
  have hB0 := Blk.new w1 54 (#[.slice none 0 0, .slice none 0 0, .slice none 0 0])
  have hX2 := hX1.alloc (.cells #[.slice none 0 0, .slice none 0 0, .slice none 0 0] 54)
  have hE0 := (Ext.refl w1).alloc (.cells #[.slice none 0 0, .slice none 0 0, .slice none 0 0] 54)
  have hR2 := hR1.ext hE0
  have hI0 := hide (show RpInv (w1.alloc (.cells #[.slice none 0 0, .slice none 0 0, .slice none 0 0] 54)) (w1.heap.size + 1) 0 a b d nilR ⟨[], [], []⟩ from ⟨Own3.nilR _ _, ⟨by simp, by simp, by simp⟩, fun h => absurd h (by omega), fun h => absurd h (by omega), fun h => absurd h (by omega)⟩)
  clear hru hlen hX1 hR1
  go_wp2
  go_loopw [6, 7, 8, 9, 20] (fun _ _ _ _ i wr => ∃ (k : Nat) (p : S3) (l : L3), k ≤ 3 ∧ i = .int .i64 k ∧ Blk wr w1.heap.size 54 #[.slice p.x.A p.x.n p.x.c, .slice p.y.A p.y.n p.y.c, .slice p.z.A p.z.n p.z.c] ∧ Blk wr w.heap.size 26 #[.slice none 0 0, .slice none 0 0, .slice none 0 0] ∧ Ext w wr ∧ Ext w1 wr ∧ w1.heap.size + 1 ≤ wr.heap.size ∧ Hid (RpInv wr (w1.heap.size + 1) k a b d p l)) (fun _ _ _ _ i _ => 3 - (intOf i).toNat)
  case atStart => exact ⟨0, nilR, ⟨[], [], []⟩, by omega, rfl, hB0, hR2, hX2, hE0, by simp, hI0⟩
  case round =>
    clear hB0 hR2 hX2 hE0 hI0
    obtain ⟨k, p, l, hk, rfl, hB, hR, hX, hE, hsz, hI⟩ := hrel
    have kb := hB.c3
    have wa1 := (hE.cell (p := ⟨bw, off, none⟩) hbw).trans wa
    have wb1 := (hE.cell (p := ⟨bw, off + 1, none⟩) hbw).trans wb
    have wd1 := (hE.cell (p := ⟨bw, off + 2, none⟩) hbw).trans wd
    rcases (show k = 0 ∨ k = 1 ∨ k = 2 ∨ k = 3 by omega) with rfl | rfl | rfl | rfl
    · have hwk : IntKind.i64.wrap (0 + 1) = 0 + 1 := Go.IntWalk.i64_in _ (by omega)
      cases en : rlO a with
      | none =>
        have hN := hide (rpO_none hws.out (.inl en))
        have c1 := fun W h => (impl.ReadList_any a W ha h).mono fun e w' h => RlP.no h en
        clear en
        go_wp2_with fail
        go_fit (c1 _ (hL.ext hX))
        rintro e w2 ⟨v, rfl, hx2⟩
        have hXx := hX.trans hx2
        have hR2 := hR.ext hx2
        have hRn := ((hR2.set_ 0 (.slice none 0 0)).set_ 1 (.slice none 0 0)).set_ 2 (.slice none 0 0)
        obtain ⟨m0, m1, m2⟩ := hRn.c3
        have hXn := ((hXx.off w.heap.size 0 (Nat.le_refl _) (.slice none 0 0)).off w.heap.size 1 (Nat.le_refl _) (.slice none 0 0)).off w.heap.size 2 (Nat.le_refl _) (.slice none 0 0)
        obtain ⟨r0, r1, r2, r3, r4, r5⟩ := res3 hR2
        clear hRn kb
        go_wp2
        refine bodyPost_ret (v := .tuple #[.agg #[.slice nilR.x.A nilR.x.n nilR.x.c, .slice nilR.y.A nilR.y.n nilR.y.c, .slice nilR.z.A nilR.z.n nilR.z.c], .int .i64 6]) (by simp [results, Tryz.results11, go_sem, m0, m1, m2, nilR]) rfl (RpP.bad hN.out hXn)
      | some x =>
        have c1 := fun W h => (impl.ReadList_any a W ha h).mono fun e w' h => RlP.yes h en
        replace en := hide en
        go_wp2_with fail
        go_fit (c1 _ (hL.ext hX))
        rintro e w2 ⟨v, rfl, ho, hx2⟩
        have hs2 := hx2.size
        have hB2 := hB.ext hx2
        obtain ⟨b0, b1, b2, b3, b4, b5⟩ := res3 hB2
        have hI2 := hide (hI.out.put0 hx2 ho hsz en.out)
        have hBn := hB2.set_ 0 (.slice v.A v.n v.c)
        have hRn := (hR.ext hx2).off w1.heap.size 0 (by omega) (.slice v.A v.n v.c)
        have hXn := (hX.trans hx2).off w1.heap.size 0 (by omega) (.slice v.A v.n v.c)
        have hEn := (hE.trans hx2).off w1.heap.size 0 (Nat.le_refl _) (.slice v.A v.n v.c)
        have hIn := hide (hI2.out.off w1.heap.size 0 (by omega) (.slice v.A v.n v.c))
        have hsn := size_off w2 ⟨w1.heap.size, 0, none⟩ (.slice v.A v.n v.c)
        replace hsn := hide hsn
        clear kb
        go_wp2
        go_roundw
        case rel => exact ⟨1, ⟨v, p.y, p.z⟩, ⟨x, l.y, l.z⟩, by omega, by go_num, hBn, hRn, hXn, hEn, by rw [hsn.out]; omega, hIn⟩
        case measure => simp [intOf]
    · have hwk : IntKind.i64.wrap (1 + 1) = 1 + 1 := Go.IntWalk.i64_in _ (by omega)
      cases en : rlO b with
      | none =>
        have hN := hide (rpO_none hws.out (.inr (.inl en)))
        have c1 := fun W h => (impl.ReadList_any b W hb h).mono fun e w' h => RlP.no h en
        clear en
        go_wp2_with fail
        go_fit (c1 _ (hL.ext hX))
        rintro e w2 ⟨v, rfl, hx2⟩
        have hXx := hX.trans hx2
        have hR2 := hR.ext hx2
        have hRn := ((hR2.set_ 0 (.slice none 0 0)).set_ 1 (.slice none 0 0)).set_ 2 (.slice none 0 0)
        obtain ⟨m0, m1, m2⟩ := hRn.c3
        have hXn := ((hXx.off w.heap.size 0 (Nat.le_refl _) (.slice none 0 0)).off w.heap.size 1 (Nat.le_refl _) (.slice none 0 0)).off w.heap.size 2 (Nat.le_refl _) (.slice none 0 0)
        obtain ⟨r0, r1, r2, r3, r4, r5⟩ := res3 hR2
        clear hRn kb
        go_wp2
        refine bodyPost_ret (v := .tuple #[.agg #[.slice nilR.x.A nilR.x.n nilR.x.c, .slice nilR.y.A nilR.y.n nilR.y.c, .slice nilR.z.A nilR.z.n nilR.z.c], .int .i64 6]) (by simp [results, Tryz.results11, go_sem, m0, m1, m2, nilR]) rfl (RpP.bad hN.out hXn)
      | some x =>
        have c1 := fun W h => (impl.ReadList_any b W hb h).mono fun e w' h => RlP.yes h en
        replace en := hide en
        go_wp2_with fail
        go_fit (c1 _ (hL.ext hX))
        rintro e w2 ⟨v, rfl, ho, hx2⟩
        have hs2 := hx2.size
        have hB2 := hB.ext hx2
        obtain ⟨b0, b1, b2, b3, b4, b5⟩ := res3 hB2
        have hI2 := hide (hI.out.put1 hx2 ho hsz en.out)
        have hBn := hB2.set_ 1 (.slice v.A v.n v.c)
        have hRn := (hR.ext hx2).off w1.heap.size 1 (by omega) (.slice v.A v.n v.c)
        have hXn := (hX.trans hx2).off w1.heap.size 1 (by omega) (.slice v.A v.n v.c)
        have hEn := (hE.trans hx2).off w1.heap.size 1 (Nat.le_refl _) (.slice v.A v.n v.c)
        have hIn := hide (hI2.out.off w1.heap.size 1 (by omega) (.slice v.A v.n v.c))
        have hsn := size_off w2 ⟨w1.heap.size, 1, none⟩ (.slice v.A v.n v.c)
        replace hsn := hide hsn
        clear kb
        go_wp2
        go_roundw
        case rel => exact ⟨2, ⟨p.x, v, p.z⟩, ⟨l.x, x, l.z⟩, by omega, by go_num, hBn, hRn, hXn, hEn, by rw [hsn.out]; omega, hIn⟩
        case measure => simp [intOf]
    · have hwk : IntKind.i64.wrap (2 + 1) = 2 + 1 := Go.IntWalk.i64_in _ (by omega)
      cases en : rlO d with
      | none =>
        have hN := hide (rpO_none hws.out (.inr (.inr en)))
        have c1 := fun W h => (impl.ReadList_any d W hd h).mono fun e w' h => RlP.no h en
        clear en
        go_wp2_with fail
        go_fit (c1 _ (hL.ext hX))
        rintro e w2 ⟨v, rfl, hx2⟩
        have hXx := hX.trans hx2
        have hR2 := hR.ext hx2
        have hRn := ((hR2.set_ 0 (.slice none 0 0)).set_ 1 (.slice none 0 0)).set_ 2 (.slice none 0 0)
        obtain ⟨m0, m1, m2⟩ := hRn.c3
        have hXn := ((hXx.off w.heap.size 0 (Nat.le_refl _) (.slice none 0 0)).off w.heap.size 1 (Nat.le_refl _) (.slice none 0 0)).off w.heap.size 2 (Nat.le_refl _) (.slice none 0 0)
        obtain ⟨r0, r1, r2, r3, r4, r5⟩ := res3 hR2
        clear hRn kb
        go_wp2
        refine bodyPost_ret (v := .tuple #[.agg #[.slice nilR.x.A nilR.x.n nilR.x.c, .slice nilR.y.A nilR.y.n nilR.y.c, .slice nilR.z.A nilR.z.n nilR.z.c], .int .i64 6]) (by simp [results, Tryz.results11, go_sem, m0, m1, m2, nilR]) rfl (RpP.bad hN.out hXn)
      | some x =>
        have c1 := fun W h => (impl.ReadList_any d W hd h).mono fun e w' h => RlP.yes h en
        replace en := hide en
        go_wp2_with fail
        go_fit (c1 _ (hL.ext hX))
        rintro e w2 ⟨v, rfl, ho, hx2⟩
        have hs2 := hx2.size
        have hB2 := hB.ext hx2
        obtain ⟨b0, b1, b2, b3, b4, b5⟩ := res3 hB2
        have hI2 := hide (hI.out.put2 hx2 ho hsz en.out)
        have hBn := hB2.set_ 2 (.slice v.A v.n v.c)
        have hRn := (hR.ext hx2).off w1.heap.size 2 (by omega) (.slice v.A v.n v.c)
        have hXn := (hX.trans hx2).off w1.heap.size 2 (by omega) (.slice v.A v.n v.c)
        have hEn := (hE.trans hx2).off w1.heap.size 2 (Nat.le_refl _) (.slice v.A v.n v.c)
        have hIn := hide (hI2.out.off w1.heap.size 2 (by omega) (.slice v.A v.n v.c))
        have hsn := size_off w2 ⟨w1.heap.size, 2, none⟩ (.slice v.A v.n v.c)
        replace hsn := hide hsn
        clear kb
        go_wp2
        go_roundw
        case rel => exact ⟨3, ⟨p.x, p.y, v⟩, ⟨l.x, l.y, x⟩, by omega, by go_num, hBn, hRn, hXn, hEn, by rw [hsn.out]; omega, hIn⟩
        case measure => simp [intOf]
    · obtain ⟨hO, _, e1, e2, e3⟩ := hI.out
      have hThree := hide (rpO_three (l := l) hws.out (e1 (by omega)) (e2 (by omega)) (e3 (by omega)))
      clear e1 e2 e3
      have hX4 := hX.alloc (.cells #[.slice p.x.A p.x.n p.x.c, .slice p.y.A p.y.n p.y.c, .slice p.z.A p.z.n p.z.c] 26)
      have hR4 := hR.alloc (.cells #[.slice p.x.A p.x.n p.x.c, .slice p.y.A p.y.n p.y.c, .slice p.z.A p.z.n p.z.c] 26)
      have hP4 := Blk.new wr 26 (#[.slice p.x.A p.x.n p.x.c, .slice p.y.A p.y.n p.y.c, .slice p.z.A p.z.n p.z.c])
      have hO4 := hO.alloc (.cells #[.slice p.x.A p.x.n p.x.c, .slice p.y.A p.y.n p.y.c, .slice p.z.A p.z.n p.z.c] 26)
      have hz4 : w.heap.size < wr.heap.size := by omega
      clear hO
      have hk := fun W h => impl.IsPanel_any p l W h
      obtain ⟨q0, q1, q2⟩ := hP4.c3
      obtain ⟨kb0, kb1, kb2⟩ := kb
      cases hok : okP l
      · have hN := hide (hThree.out.trans (by rw [hok] <;> rfl))
        rw [hok] at hk
        clear hok
        go_wp2_with fail
        go_fit (hk _ hO4.rd)
        rintro e w5 ⟨rfl, hx5⟩
        have hX5 := hX4.trans hx5
        have hR5 := hR4.ext hx5
        have hRn := ((hR5.set_ 0 (.slice none 0 0)).set_ 1 (.slice none 0 0)).set_ 2 (.slice none 0 0)
        obtain ⟨m0, m1, m2⟩ := hRn.c3
        have hXn := ((hX5.off w.heap.size 0 (Nat.le_refl _) (.slice none 0 0)).off w.heap.size 1 (Nat.le_refl _) (.slice none 0 0)).off w.heap.size 2 (Nat.le_refl _) (.slice none 0 0)
        obtain ⟨r0, r1, r2, r3, r4, r5⟩ := res3 hR5
        clear hRn q0 q1 q2
        go_wp2
        refine bodyPost_ret (v := .tuple #[.agg #[.slice nilR.x.A nilR.x.n nilR.x.c, .slice nilR.y.A nilR.y.n nilR.y.c, .slice nilR.z.A nilR.z.n nilR.z.c], .int .i64 6]) (by simp [results, Tryz.results11, go_sem, m0, m1, m2, nilR]) rfl (RpP.bad hN.out hXn)
      · have hN := hide (hThree.out.trans (by rw [hok] <;> rfl))
        rw [hok] at hk
        clear hok
        go_wp2_with fail
        go_fit (hk _ hO4.rd)
        rintro e w5 ⟨rfl, hx5⟩
        have hX5 := hX4.trans hx5
        have hR5 := hR4.ext hx5
        have hP5 := hP4.ext hx5
        have hO5 := hO4.ext hx5
        clear q0 q1 q2
        obtain ⟨q0, q1, q2⟩ := hP5.c3
        have hRn := ((hR5.set_ 0 (.slice p.x.A p.x.n p.x.c)).set_ 1 (.slice p.y.A p.y.n p.y.c)).set_ 2 (.slice p.z.A p.z.n p.z.c)
        obtain ⟨m0, m1, m2⟩ := hRn.c3
        have hXn := ((hX5.off w.heap.size 0 (Nat.le_refl _) (.slice p.x.A p.x.n p.x.c)).off w.heap.size 1 (Nat.le_refl _) (.slice p.y.A p.y.n p.y.c)).off w.heap.size 2 (Nat.le_refl _) (.slice p.z.A p.z.n p.z.c)
        have hOn := (((hO5.offR w.heap.size 0 (by omega) (.slice p.x.A p.x.n p.x.c)).offR w.heap.size 1 (by omega) (.slice p.y.A p.y.n p.y.c)).offR w.heap.size 2 (by omega) (.slice p.z.A p.z.n p.z.c)).mono (lo' := w.heap.size) (by omega)
        obtain ⟨r0, r1, r2, r3, r4, r5⟩ := res3 hR5
        clear hRn
        go_wp2
        refine bodyPost_ret (v := .tuple #[.agg #[.slice p.x.A p.x.n p.x.c, .slice p.y.A p.y.n p.y.c, .slice p.z.A p.z.n p.z.c], .int .i64 0]) (by simp [results, Tryz.results11, go_sem, m0, m1, m2]) rfl (RpP.good hN.out hOn hXn)
end Go.Proofs.YtfojfndmaofahaaGreatDoor.mem
