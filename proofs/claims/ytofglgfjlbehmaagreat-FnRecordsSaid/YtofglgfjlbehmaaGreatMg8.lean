/-
  Contracts of the laws' own functions on lists of numbers: copy, compare, mark, hold.
  Contracts of the laws' own functions on structs of three lists (a panel, a jury): copy, size, compare, mark, hold.
  From the form's reading of an argument to my words: a slice of numbers, a struct of three such slices.
  Ties and texts in the laws: the words that the laws' proofs share.
-/
import Derived.Test.YtofglgfjlbehmaaGreatMem
import Derived.Lib.SmallJoins
import Derived.Test.YtofglgfjlbehmaaGreatCau
import Derived.Deep.RegionHeld3
namespace Go.Proofs.YtofglgfjlbehmaaGreat.mem
open Go.ChangeShapes Go.WideShapes Go.ChangeAt Go.RowKit

theorem likeInts_any (s s' : Sl) (xs ys : List Int) (w : World) (hr : Rd w s.A s.n xs) (hr' : Rd w s'.A s'.n ys) :
    Calls Tryz.prog 18 #[.slice s.A s.n s.c, .slice s'.A s'.n s'.c] w fun e w' => ∃ q, e = .returned (.bool (decide (xs = ys))) ∧ w' = w.drewN q := by
  obtain ⟨A, n, c⟩ := s
  obtain ⟨A', n', c'⟩ := s'
  simp only at hr hr' ⊢
  have hn := hr.le
  have hn' := hr'.le
  by_cases hl : n = n'
  · have hl2 : ((n : Int) != n') = false := by simp [hl]
    subst hl
    go_enter Tryz.func18, Tryz.ntmps18
    go_wp2
    go_loopw [5] (fun i wr => ∃ k q : Nat, k ≤ n ∧ i = .int .i64 k ∧ wr = w.drewN q ∧ Hid (xs.take k = ys.take k)) (fun i _ => n - (intOf i).toNat)
    case atStart => exact ⟨0, 0, by omega, rfl, rfl, hide rfl⟩
    case round =>
      obtain ⟨k, q, hk, rfl, rfl, ht⟩ := hrel
      by_cases hlt : k < n
      · obtain ⟨b, off, x, rfl, hbl, hc1, hx⟩ := hr.el hlt
        obtain ⟨b', off', y, rfl, hbl', hc1', hy⟩ := hr'.el hlt
        by_cases he : x = y
        · subst he
          go_wp2
          go_region
          all_goals go_wp2
          all_goals go_roundw
          all_goals first | (case rel => exact ⟨k + 1, q + 1, by omega, by go_num, by simp, hide (by rw [take_more hx.out, take_more hy.out, ht.out])⟩) | (case measure => simp [intOf]; omega)
        · have hne : (x != y) = true := by simpa using he
          go_wp2
          go_region
          all_goals go_wp2
          all_goals go_ret
          all_goals exact ⟨q + 1, by rw [decide_eq_false (fun e : xs = ys => he (by have h1 := hx.out; have h2 := hy.out; rw [e, h2] at h1; injection h1 with h1; exact h1.symm))]; rfl, by simp⟩
      · go_wp2
        go_ret
        have e : k = n := by omega
        subst e
        refine ⟨q, ?_, rfl⟩
        have h1 := ht.out
        rw [List.take_of_length_le (by rw [← hr.1]; omega), List.take_of_length_le (by rw [← hr'.1]; omega)] at h1
        rw [decide_eq_true h1]; rfl
  · have hl2 : ((n : Int) != n') = true := by simp; omega
    go_enter Tryz.func18, Tryz.ntmps18
    go_wp2
    go_ret
    exact ⟨0, by rw [decide_eq_false (fun e : xs = ys => hl (by rw [hr.1, hr'.1, e]))]; rfl, rfl⟩

theorem likeInts_yes (s s' : Sl) (xs : List Int) (w : World) (hr : Rd w s.A s.n xs) (hr' : Rd w s'.A s'.n xs) :
    Calls Tryz.prog 18 #[.slice s.A s.n s.c, .slice s'.A s'.n s'.c] w fun e w' => e = .returned (.bool true) ∧ Ext w w' :=
  (likeInts_any s s' xs xs w hr hr').mono fun e w' ⟨q, he, hw⟩ => ⟨by rw [he, decide_eq_true rfl], by subst hw; exact (Ext.refl w).drewN q⟩
/-- the numbers k, k+1, .. -/
def upL (k : Int) : Nat → List Int
  | 0 => []
  | n + 1 => k :: upL (k + 1) n
theorem upL_len (k : Int) : ∀ n, (upL k n).length = n
  | 0 => rfl
  | n + 1 => by simp [upL, upL_len (k + 1) n]
theorem upL_get (k : Int) : ∀ (n j : Nat), j < n → (upL k n)[j]? = some (k + j)
  | 0, j, h => by omega
  | n + 1, 0, _ => by simp [upL]
  | n + 1, j + 1, h => by
    simp only [upL, List.getElem?_cons_succ]
    rw [upL_get (k + 1) n j (by omega)]
    congr 1
    omega
end Go.Proofs.YtofglgfjlbehmaaGreat.mem
namespace Go.Proofs.YtofglgfjlbehmaaGreat.mem
open Go.ChangeShapes Go.WideShapes Go.ChangeAt Go.RowKit

theorem Ext.cells {W w1 : World} (h : Ext W w1) : (∀ b o, b < W.heap.size → w1.cell? ⟨b, o, none⟩ = W.cell? ⟨b, o, none⟩) ∧ (∀ b o, b < W.heap.size → w1.frozen? ⟨b, o, none⟩ = W.frozen? ⟨b, o, none⟩) :=
  ⟨fun b o hb => Below.cell (p := ⟨b, o, none⟩) h hb, fun b o hb => Below.frozen (p := ⟨b, o, none⟩) h hb⟩

/-- what is left of a bound behind three slices -/
def sz3 (left : Int) (p : S3) : Int := if (p.x.n : Int) + p.y.n + p.z.n ≤ left then left - p.x.n - p.y.n - p.z.n else -1
theorem sz3_pos {left : Int} {p : S3} (h : 0 ≤ sz3 left p) (hl : left ≤ 1048576) : p.x.n + (p.y.n + p.z.n) ≤ 1048576 ∧ sz3 left p ≤ left := by
  unfold sz3 at h ⊢
  split at h
  · rename_i hh
    rw [if_pos hh]
    omega
  · omega
theorem likePanel_yes (p p' : S3) (l : L3) (w : World) (hr : Rd3 w p l) (hr' : Rd3 w p' l) :
    Calls Tryz.prog 19 #[.agg #[.slice p.x.A p.x.n p.x.c, .slice p.y.A p.y.n p.y.c, .slice p.z.A p.z.n p.z.c], .agg #[.slice p'.x.A p'.x.n p'.x.c, .slice p'.y.A p'.y.n p'.y.c, .slice p'.z.A p'.z.n p'.z.c]] w fun e w' => e = .returned (.bool true) ∧ Ext w w' := by
  go_enter Tryz.func19, Tryz.ntmps19
  go_wp2_with fail
  have hX0 := ((Ext.refl w).alloc (.cells #[.slice p.x.A p.x.n p.x.c, .slice p.y.A p.y.n p.y.c, .slice p.z.A p.z.n p.z.c] 40)).alloc (.cells #[.slice p'.x.A p'.x.n p'.x.c, .slice p'.y.A p'.y.n p'.y.c, .slice p'.z.A p'.z.n p'.z.c] 40)
  refine (likeInts_any p.x p'.x l.x l.x _ (hr.1.ext hX0) (hr'.1.ext hX0)).mono ?_
  rintro e w1 ⟨q1, rfl, rfl⟩
  rw [decide_eq_true (rfl : l.x = l.x)]
  go_wp2_with fail
  refine (likeInts_any p.y p'.y l.y l.y _ (hr.2.1.ext (hX0.drewN _)) (hr'.2.1.ext (hX0.drewN _))).mono ?_
  rintro e w2 ⟨q2, rfl, rfl⟩
  rw [decide_eq_true (rfl : l.y = l.y)]
  go_wp2_with fail
  refine (likeInts_any p.z p'.z l.z l.z _ (hr.2.2.1.ext (hX0.drewN _)) (hr'.2.2.1.ext (hX0.drewN _))).mono ?_
  rintro e w3 ⟨q3, rfl, rfl⟩
  rw [decide_eq_true (rfl : l.z = l.z)]
  go_wp2
  go_ret
  exact ⟨rfl, hX0.drewN _⟩
theorem likeJury_yes (p p' : S3) (l : L3) (w : World) (hr : Rd3 w p l) (hr' : Rd3 w p' l) :
    Calls Tryz.prog 24 #[.agg #[.slice p.x.A p.x.n p.x.c, .slice p.y.A p.y.n p.y.c, .slice p.z.A p.z.n p.z.c], .agg #[.slice p'.x.A p'.x.n p'.x.c, .slice p'.y.A p'.y.n p'.y.c, .slice p'.z.A p'.z.n p'.z.c]] w fun e w' => e = .returned (.bool true) ∧ Ext w w' := by
  go_enter Tryz.func24, Tryz.ntmps24
  go_wp2_with fail
  have hX0 := ((Ext.refl w).alloc (.cells #[.slice p.x.A p.x.n p.x.c, .slice p.y.A p.y.n p.y.c, .slice p.z.A p.z.n p.z.c] 30)).alloc (.cells #[.slice p'.x.A p'.x.n p'.x.c, .slice p'.y.A p'.y.n p'.y.c, .slice p'.z.A p'.z.n p'.z.c] 30)
  refine (likeInts_any p.x p'.x l.x l.x _ (hr.1.ext hX0) (hr'.1.ext hX0)).mono ?_
  rintro e w1 ⟨q1, rfl, rfl⟩
  rw [decide_eq_true (rfl : l.x = l.x)]
  go_wp2_with fail
  refine (likeInts_any p.y p'.y l.y l.y _ (hr.2.1.ext (hX0.drewN _)) (hr'.2.1.ext (hX0.drewN _))).mono ?_
  rintro e w2 ⟨q2, rfl, rfl⟩
  rw [decide_eq_true (rfl : l.y = l.y)]
  go_wp2_with fail
  refine (likeInts_any p.z p'.z l.z l.z _ (hr.2.2.1.ext (hX0.drewN _)) (hr'.2.2.1.ext (hX0.drewN _))).mono ?_
  rintro e w3 ⟨q3, rfl, rfl⟩
  rw [decide_eq_true (rfl : l.z = l.z)]
  go_wp2
  go_ret
  exact ⟨rfl, hX0.drewN _⟩
/-- the marks on three slices -/
def up3 (k : Int) (p : S3) : L3 := ⟨upL k p.x.n, upL (k + p.x.n) p.y.n, upL (k + p.x.n + p.y.n) p.z.n⟩
def len3 (p : S3) : Int := (p.x.n : Int) + p.y.n + p.z.n
theorem len3_le {w : World} {lo : Nat} {p : S3} {l : L3} (h : Own3 w lo p l) : 0 ≤ len3 p ∧ len3 p ≤ 2097152 := by
  have := h.2.2.2.1
  unfold len3
  omega
end Go.Proofs.YtofglgfjlbehmaaGreat.mem
namespace Go.Proofs.YtofglgfjlbehmaaGreat.mem
open Go.ChangeShapes Go.WideShapes Go.ChangeAt Go.RowKit Go.Joins

/-- a slice that came in, of whatever length -/
def RdI (w : World) (A : Option Addr) (n : Nat) (xs : List Int) : Prop :=
  n = xs.length ∧ (0 < n → ∃ b off, A = some ⟨b, off, none⟩ ∧ b < w.heap.size ∧ ∀ j, j < n → w.cell? ⟨b, off + j, none⟩ = some (.int .i64 (xs.getD j 0)))
theorem RdI.rd {w : World} {A : Option Addr} {n : Nat} {xs : List Int} (h : RdI w A n xs) (hn : n ≤ 16777216) : Rd w A n xs := ⟨h.1, hn, h.2⟩
def In1 (w : World) (s : Sl) (xs : List Int) : Prop := RdI w s.A s.n xs ∧ cap1 s
def In3 (w : World) (p : S3) (l : L3) : Prop := In1 w p.x l.x ∧ In1 w p.y l.y ∧ In1 w p.z l.z
theorem In3.rd {w : World} {p : S3} {l : L3} (h : In3 w p l) (hs : p.x.n + (p.y.n + p.z.n) ≤ 2097152) : Rd3 w p l :=
  ⟨h.1.1.rd (by omega), h.2.1.1.rd (by omega), h.2.2.1.rd (by omega), hs, h.1.2, h.2.1.2, h.2.2.2⟩
theorem In3.rds {w : World} {p : S3} {l : L3} (h : In3 w p l) {left : Int} (hz : 0 ≤ sz3 left p) (hl : left ≤ 1048576) : Rd3 w p l := h.rd (by have := (sz3_pos hz hl).1; omega)
theorem In1.rds {w : World} {s : Sl} {xs : List Int} (h : In1 w s xs) (hn : s.n ≤ 16777216) : Rd w s.A s.n xs := h.1.rd hn
theorem In1.max {w : World} {s : Sl} {xs : List Int} (h : In1 w s xs) : s.n ≤ maxLen := by
  have := h.2
  unfold cap1 at this
  unfold maxLen
  omega

section
variable {H : Type} {enc : TypeId × Value → H} {w : World} {spare : Nat → Bool} {held : Bool}
set_option maxRecDepth 20000 in
theorem open_sl {fuel : Nat} {v : Value} {x : DataW H × List MemPlace} (h : DataW.trod enc Tryz.prog w 0 spare held fuel 24 [v] = some x) (hsp : ∀ b, spare b = true) :
    ∃ (s : Sl) (xs : List Int), v = .slice s.A s.n s.c ∧ In1 w s xs := by
  rcases open_ints Tryz.underlying24 Tryz.underlying2 (by kernel_rfl) h with ⟨hcs, _⟩ | ⟨a, len, cap, zs, hcs, _, hl, hm, hz, _, hcell, _⟩
  · injection hcs with hcs
    exact ⟨⟨none, 0, 0⟩, [], hcs, ⟨rfl, fun h => absurd h (Nat.lt_irrefl 0)⟩, by simp [cap1]⟩
  · injection hcs with hcs
    rw [hsp, if_pos rfl] at hz
    refine ⟨⟨some a, len, cap⟩, zs.take len, hcs, ⟨by rw [List.length_take]; simp only; omega, fun hn => ?_⟩, by unfold maxLen at hm; exact ⟨hl, by simp only; omega⟩⟩
    simp only at hn ⊢
    have h0 := hcell 0 (by omega)
    obtain ⟨b, off, spot⟩ := a
    have hspot : spot = none := by simpa [Addr.add] using World.cell?_spot h0
    subst hspot
    refine ⟨b, off, rfl, ?_, fun j hj => ?_⟩
    · have := World.block_lt_of_cell? w _ h0
      simpa [Go.WideShapes.add_plain] using this
    · have := hcell j (by omega)
      rw [Go.WideShapes.add_plain] at this
      rw [this]
      simp [List.getElem?_take_of_lt hj]
set_option maxRecDepth 20000 in
theorem open_arg {v : Value} {d : DataW H} {ps : List MemPlace} {r : Reach} {b0 : Nat} (hv : Value.okWide Tryz.prog w r b0 24 v) (h : DataW.Trod enc Tryz.prog w 0 spare held 24 v d ps) (hsp : ∀ b, spare b = true) :
    ∃ (s : Sl) (xs : List Int), v = .slice s.A s.n s.c ∧ In1 w s xs := by
  obtain ⟨a0, len, cap, rfl⟩ := okWide_slice Tryz.underlying24 hv
  obtain ⟨fuel, hf⟩ := h
  exact open_sl (v := .slice a0 len cap) hf hsp
end
theorem laidOut : laidOutB Tryz.prog = true := by kernel_rfl
end Go.Proofs.YtofglgfjlbehmaaGreat.mem
namespace Go.Proofs.YtofglgfjlbehmaaGreat.mem
open Go.ChangeShapes Go.WideShapes Go.ChangeAt Go.RowKit

section
variable {w : World} {lo : Nat} {s : Sl} {ts : List Ti} {ss : List ByteArray}
theorem InT.rds (h : InT w s ts) {left : Int} (hz : 0 ≤ szLs left (lensT ts)) (hl : left ≤ 1048576) : RdT w s.A s.n ts :=
  h.2.2 (by have h1 := (szLs_pos hz).1; have h2 := h.1; rw [show (lensT ts).length = ts.length from List.length_map _] at h1; omega)
theorem InW.rds (h : InW w s ss) {left : Int} (hz : 0 ≤ szLs left (lensW ss)) (hl : left ≤ 1048576) : RdW w s.A s.n ss :=
  h.2.2 (by have h1 := (szLs_pos hz).1; have h2 := h.1; rw [show (lensW ss).length = ss.length from List.length_map _] at h1; omega)
theorem szLt_pos {left : Int} {ms : List Nat} (h : 0 ≤ szLs left ms) (_ : left ≤ 1048576) : (ms.length : Int) ≤ left ∧ szLs left ms ≤ left := szLs_pos h
theorem OwnT.cap (h : OwnT w lo s ts) : cap1 s := h.2.2.2.1
theorem OwnW.cap (h : OwnW w lo s ss) : cap1 s := h.2.2.2.1
end
end Go.Proofs.YtofglgfjlbehmaaGreat.mem
