/-
  Contracts of both programs' functions on selections that only look: areStrikes, sum, IsSelection, over, StrikesLeft, IsOver, MostReached.
  Contracts of both programs' functions on selections: over, StrikesLeft, IsOver, MostReached.
  Selections in the laws: copy, size, compare; from the form's reading of an argument to my words.
-/
import Derived.Test.YtofglgfjlbehmaaGreatPan
import Derived.BigQuiet
import Derived.Deep.RegionWith
import Derived.Deep.RegionHeld3
import Derived.Test.YtofglgfjlbehmaaGreatMg8
import Derived.Deep.Strs
namespace Go.Proofs.YtofglgfjlbehmaaGreat.mem
open Go.ChangeShapes Go.WideShapes Go.ChangeAt Go.RowKit

structure SelA where
  p : S3
  s : Sl
  t : Int
  q : Int
structure SelL where
  p : L3
  s : List Int
  t : Int
  q : Int
def RdS (w : World) (x : SelA) (y : SelL) : Prop := Rd3 w x.p y.p ∧ Rd w x.s.A x.s.n y.s ∧ cap1 x.s ∧ x.t = y.t ∧ x.q = y.q
theorem RdS.ext {w w' : World} {x : SelA} {y : SelL} (h : RdS w x y) (hx : Ext w w') : RdS w' x y := ⟨h.1.ext hx, h.2.1.ext hx, h.2.2⟩
def areB (xs : List Int) : Bool := decide (xs.length = 2) && (inB (xs.getD 0 0) 0 10 && inB (xs.getD 1 0) 0 10)
def okS (y : SelL) : Bool := okP y.p && (areB y.s && (inB y.t 0 1 && inB y.q 0 2))
def overB (y : SelL) : Bool := (y.q == 2) || (y.s.getD 0 0 + y.s.getD 1 0 == 0)

/-- two numbers -/
def Two (w : World) (s : Sl) (a b : Int) : Prop := s.n = 2 ∧ ∃ k off, s.A = some ⟨k, off, none⟩ ∧ w.cell? ⟨k, off, none⟩ = some (.int .i64 a) ∧ w.cell? ⟨k, off + 1, none⟩ = some (.int .i64 b)
theorem Rd.two {w : World} {s : Sl} {xs : List Int} (hr : Rd w s.A s.n xs) (h2 : s.n = 2) : Two w s (xs.getD 0 0) (xs.getD 1 0) := by
  obtain ⟨b, off, hA, hb, hc0⟩ := hr.at_ (k := 0) (by omega)
  obtain ⟨b', off', hA', _, hc1⟩ := hr.at_ (k := 1) (by omega)
  rw [hA] at hA'
  injection hA' with e
  injection e with e1 e2
  subst e1 e2
  exact ⟨h2, b, off, hA, hc0, hc1⟩
theorem okS_two {w : World} {x : SelA} {y : SelL} (hr : RdS w x y) (h : okS y = true) : Two w x.s (y.s.getD 0 0) (y.s.getD 1 0) ∧ (0 ≤ y.s.getD 0 0 ∧ y.s.getD 0 0 ≤ 10) ∧ (0 ≤ y.s.getD 1 0 ∧ y.s.getD 1 0 ≤ 10) := by
  unfold okS areB at h
  simp only [Bool.and_eq_true, decide_eq_true_eq] at h
  exact ⟨hr.2.1.two (by rw [hr.2.1.1]; exact h.2.1.1), inB_iff.1 h.2.1.2.1, inB_iff.1 h.2.1.2.2⟩

theorem impl.areStrikes_any (s : Sl) (xs : List Int) (w : World) (hr : Rd w s.A s.n xs) :
    Calls Tryz.prog 54 #[.slice s.A s.n s.c] w fun e w' => e = .returned (.bool (areB xs)) ∧ w = w' := by
  obtain ⟨A, n, c⟩ := s
  simp only at hr ⊢
  by_cases h2 : n = 2
  · obtain ⟨_, b, off, hA, hc0, hc1⟩ := Rd.two (s := ⟨A, n, c⟩) hr h2
    simp only at hA
    subst h2 hA
    have hk := hide (show areB xs = (inB (xs.getD 0 0) 0 10 && inB (xs.getD 1 0) 0 10) by unfold areB; rw [← hr.1]; rfl)
    revert hc0 hc1 hk
    generalize xs.getD 0 0 = a
    generalize xs.getD 1 0 = d
    intro hc0 hc1 hk
    cases b1 : inB a 0 10 <;> cases b2 : inB d 0 10
    all_goals
      go_enter Tryz.func54, Tryz.ntmps54
      go_wp2_with (go_at_call 39; refine (impl.within_any _ _ _ _).mono ?_; rintro e w' ⟨rfl, rfl⟩)
      go_ret
      exact ⟨by rw [hk.out, b1, b2]; rfl, rfl⟩
  · have hne : ((n : Int) == 2) = false := by simp; omega
    have hk := hide (show areB xs = false by unfold areB; rw [← hr.1, decide_eq_false h2]; rfl)
    clear h2
    go_enter Tryz.func54, Tryz.ntmps54
    go_wp2
    go_ret
    exact ⟨by rw [hk.out]; rfl, rfl⟩
theorem impl.sum_two (s : Sl) (a b : Int) (w : World) (h : Two w s a b) (ha : 0 ≤ a ∧ a ≤ 10) (hb : 0 ≤ b ∧ b ≤ 10) :
    Calls Tryz.prog 120 #[.slice s.A s.n s.c] w fun e w' => e = .returned (.int .i64 (a + b)) ∧ w = w' := by
  obtain ⟨A, n, c⟩ := s
  obtain ⟨hn, k, off, hA, hc0, hc1⟩ := h
  simp only at hn hA
  subst hn hA
  go_enter Tryz.func120, Tryz.ntmps120
  go_wp2
  go_loopw [3, 5, 8] (fun v _ i wr => wr = w ∧ ((i = .int .i64 0 ∧ v = .int .i64 0) ∨ (i = .int .i64 1 ∧ v = .int .i64 a) ∨ (i = .int .i64 2 ∧ v = .int .i64 (a + b)))) (fun _ _ i _ => 2 - (intOf i).toNat)
  case atStart => exact ⟨rfl, .inl ⟨rfl, rfl⟩⟩
  case round =>
    obtain ⟨rfl, ⟨rfl, rfl⟩ | ⟨rfl, rfl⟩ | ⟨rfl, rfl⟩⟩ := hrel
    · go_wp2
      go_roundw
      case rel => exact ⟨by trivial, .inr (.inl ⟨by first | rfl | go_num, by first | rfl | go_num⟩)⟩
      case measure => simp [intOf]
    · go_wp2
      go_roundw
      case rel => exact ⟨by trivial, .inr (.inr ⟨by first | rfl | go_num, by first | rfl | go_num⟩)⟩
      case measure => simp [intOf]
    · go_wp2
      go_ret
      exact ⟨rfl, rfl⟩
set_option maxHeartbeats 2000000 in
theorem spec.IsSelection_any (x : SelA) (y : SelL) (w : World) (hr : RdS w x y) :
    Calls Tryz.prog 81 #[.agg #[.slice x.p.x.A x.p.x.n x.p.x.c, .slice x.p.y.A x.p.y.n x.p.y.c, .slice x.p.z.A x.p.z.n x.p.z.c, .slice x.s.A x.s.n x.s.c, .int .i64 x.t, .int .i64 x.q]] w fun e w' => e = .returned (.bool (okS y)) ∧ Ext w w' := by
  obtain ⟨p, ⟨As, ns, cs⟩, t, q⟩ := x
  obtain ⟨l, ls, t', q'⟩ := y
  obtain ⟨hp, hs, hcap, rfl, rfl⟩ := hr
  simp only at hp hs hcap ⊢
  have hX0 := (Ext.refl w).alloc (.cells #[.slice p.x.A p.x.n p.x.c, .slice p.y.A p.y.n p.y.c, .slice p.z.A p.z.n p.z.c, .slice As ns cs, .int .i64 t, .int .i64 q] 70)
  have hB0 := Blk.new w 70 (#[.slice p.x.A p.x.n p.x.c, .slice p.y.A p.y.n p.y.c, .slice p.z.A p.z.n p.z.c, .slice As ns cs, .int .i64 t, .int .i64 q])
  obtain ⟨q0, q1, q2, q3, q4, q5⟩ := hB0.c6
  have hok := hide (show okS ⟨l, ls, t, q⟩ = (okP l && (areB ls && (inB t 0 1 && inB q 0 2))) from rfl)
  go_enter Tryz.func81, Tryz.ntmps81
  by_cases h2 : ns = 2
  · obtain ⟨_, b, off, hA, hc0, hc1⟩ := Rd.two (s := ⟨As, ns, cs⟩) hs h2
    simp only at hA
    subst h2 hA
    have hk := hide (show areB ls = (inB (ls.getD 0 0) 0 10 && inB (ls.getD 1 0) 0 10) by unfold areB; rw [← hs.1]; rfl)
    have hbl := World.block_lt_of_cell? w _ hc0
    simp only at hbl
    revert hc0 hc1 hk
    generalize ls.getD 0 0 = a
    generalize ls.getD 1 0 = d
    intro hc0 hc1 hk
    cases b1 : okP l <;> cases e1 : inB a 0 10 <;> cases e2 : inB d 0 10 <;> cases b3 : inB t 0 1 <;> cases b4 : inB q 0 2
    all_goals
      go_wp2_with (first | (go_at_call 97; refine (spec.IsPanel_any p l _ (hp.ext hX0)).mono ?_; rintro e w1 ⟨rfl, hx1⟩; have hX1 := hX0.trans hx1; obtain ⟨r0, r1, r2, r3, r4, r5⟩ := (hB0.ext hx1).c6; have r6 := (hX1.cell (p := ⟨b, off, none⟩) hbl).trans hc0; have r7 := (hX1.cell (p := ⟨b, off + 1, none⟩) hbl).trans hc1) | (go_at_call 42; refine (spec.l01In_any _ _ _ _).mono ?_; rintro e w' ⟨rfl, rfl⟩))
      go_ret
      exact ⟨by rw [hok.out, hk.out, b1, e1, e2, b3, b4]; rfl, hX1⟩
  · have hne : ((ns : Int) == 2) = false := by simp; omega
    have hk := hide (show areB ls = false by unfold areB; rw [← hs.1, decide_eq_false h2]; rfl)
    clear h2
    cases b1 : okP l
    all_goals
      go_wp2_with (first | (go_at_call 97; refine (spec.IsPanel_any p l _ (hp.ext hX0)).mono ?_; rintro e w1 ⟨rfl, hx1⟩; have hX1 := hX0.trans hx1; obtain ⟨r0, r1, r2, r3, r4, r5⟩ := (hB0.ext hx1).c6) | (go_at_call 42; refine (spec.l01In_any _ _ _ _).mono ?_; rintro e w' ⟨rfl, rfl⟩))
      go_ret
      exact ⟨by rw [hok.out, hk.out, b1]; rfl, hX1⟩
end Go.Proofs.YtofglgfjlbehmaaGreat.mem
namespace Go.Proofs.YtofglgfjlbehmaaGreat.mem
open Go.ChangeShapes Go.WideShapes Go.ChangeAt Go.RowKit

def selC (y : SelL) : Int := if okS y = true then 0 else 1
def leftV (y : SelL) : Int := if okS y = true then y.s.getD 0 0 + y.s.getD 1 0 else 0
def overV (y : SelL) : Bool := okS y && overB y
def reachV (y : SelL) : Int := if okS y = true ∧ overB y = false then min (y.s.getD 0 0 + y.s.getD 1 0) y.p.y.length else 0

theorem impl.over_any (x : SelA) (a b : Int) (w : World) (h2 : Two w x.s a b) (ha : 0 ≤ a ∧ a ≤ 10) (hb : 0 ≤ b ∧ b ≤ 10) :
    Calls Tryz.prog 105 #[.agg #[.slice x.p.x.A x.p.x.n x.p.x.c, .slice x.p.y.A x.p.y.n x.p.y.c, .slice x.p.z.A x.p.z.n x.p.z.c, .slice x.s.A x.s.n x.s.c, .int .i64 x.t, .int .i64 x.q]] w fun e w' => e = .returned (.bool ((x.q == 2) || (a + b == 0))) ∧ Ext w w' := by
  obtain ⟨p, ⟨As, ns, cs⟩, t, q⟩ := x
  obtain ⟨hn, k, off, hA, hc0, hc1⟩ := h2
  simp only at hn hA
  subst hn hA
  simp only
  have hX0 := (Ext.refl w).alloc (.cells #[.slice p.x.A p.x.n p.x.c, .slice p.y.A p.y.n p.y.c, .slice p.z.A p.z.n p.z.c, .slice (some ⟨k, off, none⟩) 2 cs, .int .i64 t, .int .i64 q] 70)
  obtain ⟨q0, q1, q2, q3, q4, q5⟩ := (Blk.new w 70 (#[.slice p.x.A p.x.n p.x.c, .slice p.y.A p.y.n p.y.c, .slice p.z.A p.z.n p.z.c, .slice (some ⟨k, off, none⟩) 2 cs, .int .i64 t, .int .i64 q])).c6
  have hbl := World.block_lt_of_cell? w _ hc0
  simp only at hbl
  have h2' : Two (w.alloc (.cells #[.slice p.x.A p.x.n p.x.c, .slice p.y.A p.y.n p.y.c, .slice p.z.A p.z.n p.z.c, .slice (some ⟨k, off, none⟩) 2 cs, .int .i64 t, .int .i64 q] 70)) ⟨some ⟨k, off, none⟩, 2, cs⟩ a b :=
    ⟨rfl, k, off, rfl, (hX0.cell (p := ⟨k, off, none⟩) hbl).trans hc0, (hX0.cell (p := ⟨k, off + 1, none⟩) hbl).trans hc1⟩
  go_enter Tryz.func105, Tryz.ntmps105
  cases b1 : (q == 2)
  · cases b2 : (a + b == 0)
    all_goals
      go_wp2_with (go_at_call 120; refine (impl.sum_two ⟨_, 2, cs⟩ a b _ h2' ha hb).mono ?_; rintro e w' ⟨rfl, rfl⟩)
      go_ret
      exact ⟨by first | rfl | (rw [b2]; rfl), hX0⟩
  · go_wp2_with (go_at_call 120; refine (impl.sum_two ⟨_, 2, cs⟩ a b _ h2' ha hb).mono ?_; rintro e w' ⟨rfl, rfl⟩)
    go_ret
    exact ⟨by first | rfl | simp, hX0⟩
theorem spec.l14Over_any (x : SelA) (a b : Int) (w : World) (h2 : Two w x.s a b) (ha : 0 ≤ a ∧ a ≤ 10) (hb : 0 ≤ b ∧ b ≤ 10) :
    Calls Tryz.prog 107 #[.agg #[.slice x.p.x.A x.p.x.n x.p.x.c, .slice x.p.y.A x.p.y.n x.p.y.c, .slice x.p.z.A x.p.z.n x.p.z.c, .slice x.s.A x.s.n x.s.c, .int .i64 x.t, .int .i64 x.q]] w fun e w' => e = .returned (.bool ((x.q == 2) || (a + b == 0))) ∧ Ext w w' := by
  obtain ⟨p, ⟨As, ns, cs⟩, t, q⟩ := x
  obtain ⟨hn, k, off, hA, hc0, hc1⟩ := h2
  simp only at hn hA
  subst hn hA
  simp only
  have hX0 := (Ext.refl w).alloc (.cells #[.slice p.x.A p.x.n p.x.c, .slice p.y.A p.y.n p.y.c, .slice p.z.A p.z.n p.z.c, .slice (some ⟨k, off, none⟩) 2 cs, .int .i64 t, .int .i64 q] 70)
  obtain ⟨q0, q1, q2, q3, q4, q5⟩ := (Blk.new w 70 (#[.slice p.x.A p.x.n p.x.c, .slice p.y.A p.y.n p.y.c, .slice p.z.A p.z.n p.z.c, .slice (some ⟨k, off, none⟩) 2 cs, .int .i64 t, .int .i64 q])).c6
  have hbl := World.block_lt_of_cell? w _ hc0
  simp only at hbl
  have r0 := (hX0.cell (p := ⟨k, off, none⟩) hbl).trans hc0
  have r1 := (hX0.cell (p := ⟨k, off + 1, none⟩) hbl).trans hc1
  go_enter Tryz.func107, Tryz.ntmps107
  cases b1 : (q == 2)
  · go_wp2
    go_quiet (fail)
    go_wp2
    go_ret
    exact ⟨by first | rfl | simp | go_num, hX0.drewN _⟩
  · go_wp2
    go_quiet (fail)
    go_wp2
    go_ret
    exact ⟨by first | rfl | simp, hX0.drewN _⟩
end Go.Proofs.YtofglgfjlbehmaaGreat.mem
namespace Go.Proofs.YtofglgfjlbehmaaGreat.mem
open Go.ChangeShapes Go.WideShapes Go.ChangeAt Go.RowKit Go.Joins

theorem Own3.off {w : World} {lo : Nat} {p : S3} {l : L3} (h : Own3 w lo p l) (b i : Nat) (hb : b < lo) (u : Value) : Own3 (w.setCell ⟨b, i, none⟩ u) lo p l :=
  ⟨h.1.off b i hb u, h.2.1.off b i hb u, h.2.2.1.off b i hb u, h.2.2.2⟩
def OwnS (w : World) (lo : Nat) (x : SelA) (y : SelL) : Prop := Own3 w lo x.p y.p ∧ Own w lo (.slice x.s.A x.s.n x.s.c) y.s ∧ (x.t = y.t ∧ x.q = y.q) ∧ (∀ k, blks x.p k → Value.ownBlock (.slice x.s.A x.s.n x.s.c) ≠ some k)
def blksS (x : SelA) (k : Nat) : Prop := blks x.p k ∨ Value.ownBlock (.slice x.s.A x.s.n x.s.c) = some k
section
variable {w w' : World} {lo : Nat} {x : SelA} {y : SelL}
theorem OwnS.ext (h : OwnS w lo x y) (hx : Ext w w') : OwnS w' lo x y := ⟨h.1.ext hx, h.2.1.ext hx, h.2.2⟩
theorem OwnS.alloc (h : OwnS w lo x y) (o : Obj) : OwnS (w.alloc o) lo x y := h.ext ((Ext.refl w).alloc o)
theorem OwnS.drew (h : OwnS w lo x y) : OwnS w.drew lo x y := h
theorem OwnS.rd (h : OwnS w lo x y) : RdS w x y := ⟨h.1.rd, h.2.1.rd, h.2.1.cap, h.2.2.1⟩
theorem OwnS.lt (h : OwnS w lo x y) {k : Nat} (hk : blksS x k) : lo ≤ k ∧ k < w.heap.size := by
  rcases hk with hk | hk
  · exact h.1.lt hk
  · exact h.2.1.lt k hk
theorem OwnS.fr {S : Nat → Prop} (h : OwnS w lo x y) (hf : Fr S w w') (hs : ∀ k, blksS x k → ¬ S k) : OwnS w' lo x y :=
  ⟨h.1.fr hf (fun k hk => hs k (.inl hk)), h.2.1.fr hf (fun k hk => hs k (.inr hk)), h.2.2⟩
def upS (k : Int) (x : SelA) : SelL := ⟨up3 k x.p, upL (k + len3 x.p) x.s.n, x.t, x.q⟩
def lenS (x : SelA) : Int := len3 x.p + x.s.n
theorem lenS_le (h : OwnS w lo x y) : 0 ≤ lenS x ∧ lenS x ≤ 20000000 := by
  have h1 := len3_le h.1
  have h2 := h.2.1.rd.le
  unfold lenS
  omega
def InS (w : World) (x : SelA) (y : SelL) : Prop := In3 w x.p y.p ∧ In1 w x.s y.s ∧ x.t = y.t ∧ x.q = y.q
end
section
variable {H : Type} {enc : TypeId × Value → H} {w : World} {spare : Nat → Bool} {held : Bool}
theorem array6 {α : Type} {cs : Array α} (h : cs.size = 6) : ∃ c0 c1 c2 c3 c4 c5, cs = #[c0, c1, c2, c3, c4, c5] := by
  obtain ⟨l⟩ := cs
  match l, h with
  | [c0, c1, c2, c3, c4, c5], _ => exact ⟨c0, c1, c2, c3, c4, c5, rfl⟩
end
end Go.Proofs.YtofglgfjlbehmaaGreat.mem
