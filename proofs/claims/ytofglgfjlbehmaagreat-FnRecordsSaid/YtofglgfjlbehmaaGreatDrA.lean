/-
  A source of numbers that follow from a code: what it holds, and its next number lies in its range.
-/
import Derived.Test.YtofglgfjlbehmaaGreatMg1
import Derived.Test.YtofglgfjlbehmaaGreatEmpL
namespace Go.Proofs.YtofglgfjlbehmaaGreat.mem
open Go.ChangeShapes Go.WideShapes Go.ChangeAt Go.RowKit

/-- the slice at A holds n bytes -/
def RdB (w : World) (A : Option Addr) (n : Nat) : Prop :=
  0 < n → ∃ b off, A = some ⟨b, off, none⟩ ∧ b < w.heap.size ∧ ∀ j, j < n → ∃ v : Int, w.cell? ⟨b, off + j, none⟩ = some (.int .u8 v) ∧ 0 ≤ v ∧ v < 256
theorem RdB.at_ {w w' : World} {A : Option Addr} {n k : Nat} (h : RdB w A n) (hx : Ext w w') (hk : k < n) :
    ∃ b off v, A = some ⟨b, off, none⟩ ∧ b < w.heap.size ∧ w'.cell? ⟨b, off + k, none⟩ = some (.int .u8 v) ∧ 0 ≤ v ∧ v < 256 := by
  obtain ⟨b, off, e, hb, hc⟩ := h (by omega)
  obtain ⟨v, h1, h2⟩ := hc k hk
  exact ⟨b, off, v, e, hb, (hx.cell hb).trans h1, h2⟩
theorem RdB.ext {w w' : World} {A : Option Addr} {n : Nat} (h : RdB w A n) (hx : Ext w w') : RdB w' A n := fun hn => by
  obtain ⟨b, off, e, hb, hc⟩ := h hn
  refine ⟨b, off, e, Nat.lt_of_lt_of_le hb hx.size, fun j hj => ?_⟩
  obtain ⟨v, h1, h2⟩ := hc j hj
  exact ⟨v, (hx.cell (p := ⟨b, off + j, none⟩) hb).trans h1, h2⟩
/-- only block g has turned -/
abbrev Only (g : Nat) (w w' : World) : Prop := Fr (fun k => k = g) w w'
/-- what a code is: so many bytes, as they lie at the call -/
structure Code (w0 : World) (s : Sl) : Prop where
  code : RdB w0 s.A s.n
  small : s.n ≤ 4096
  cap : cap1 s
/-- block g is a source of the code s; all below w0 reads as at w0 -/
structure Dr (w0 w : World) (g : Nat) (s : Sl) : Prop where
  ext : Ext w0 w
  low : w0.heap.size ≤ g
  is : Code w0 s
  src : ∃ (a : Nat) (e : Int), Blk w g 85 #[.slice s.A s.n s.c, .int .i64 a, .int .i64 e] ∧ a ≤ s.n ∧ 0 ≤ e ∧ e < 2147483647
section
variable {w0 w w' : World} {g : Nat} {s : Sl}
theorem Code.ext (h : Code w0 s) (hx : Ext w0 w) : Code w s := ⟨h.code.ext hx, h.small, h.cap⟩
theorem Dr.lt (h : Dr w0 w g s) : g < w.heap.size := by obtain ⟨a, e, hb, _⟩ := h.src; exact hb.lt
theorem Dr.keep (h : Dr w0 w g s) {S : Nat → Prop} (f : Fr S w w') (hs : ¬ S g) (hl : ∀ k, S k → w0.heap.size ≤ k) : Dr w0 w' g s := by
  obtain ⟨a, e, hb, h2⟩ := h.src
  exact ⟨h.ext.fr_trans f hl, h.low, h.is, a, e, hb.fr f hs, h2⟩
theorem Dr.more (h : Dr w0 w g s) (hx : Ext w w') : Dr w0 w' g s := by
  obtain ⟨a, e, hb, h2⟩ := h.src
  exact ⟨h.ext.trans hx, h.low, h.is, a, e, hb.ext hx, h2⟩
theorem Dr.alloc (h : Dr w0 w g s) (o : Obj) : Dr w0 (w.alloc o) g s := h.more ((Ext.refl w).alloc o)
theorem Dr.drew (h : Dr w0 w g s) : Dr w0 w.drew g s := h.more ((Ext.refl w).drew)
theorem Dr.drewN (h : Dr w0 w g s) (n : Nat) : Dr w0 (w.drewN n) g s := h.more ((Ext.refl w).drewN n)
theorem Dr.off (h : Dr w0 w g s) (b i : Nat) (hb : g < b) (u : Value) : Dr w0 (w.setCell ⟨b, i, none⟩ u) g s := by
  obtain ⟨a, e, hB, h2⟩ := h.src
  exact ⟨h.ext.off b i (by have := h.low; omega) u, h.low, h.is, a, e, hB.off b i (by omega) u, h2⟩
theorem Own.only {lo : Nat} {v : Value} {xs : List Int} (h : Own w lo v xs) (hf : Only g w w') (hl : g < lo) : Own w' lo v xs := h.fr hf fun k hk e => by have := (h.lt k hk).1; omega
theorem Blk.only {b : Nat} {t : TypeId} {cs : Array Value} (h : Blk w b t cs) (hf : Only g w w') (hl : b ≠ g) : Blk w' b t cs := h.fr hf hl
theorem Ext.only (hx : Ext w0 w) (hf : Only g w w') (hl : w0.heap.size ≤ g) : Ext w0 w' := hx.fr_trans hf fun k hk => by omega
theorem Only.refl_ (g : Nat) (w : World) : Only g w w := Fr.refl _ _
theorem Ext.onl (h : Ext w w') : Only g w w' := h.fr
theorem Only.put {w1 : World} (h : Only g w w1) (i : Nat) (u : Value) : Only g w (w1.setCell ⟨g, i, none⟩ u) :=
  ⟨h.os, h.tape, h.output, by simpa [World.setCell] using h.size, fun k hk hne => (Below.heap_setCell _ _ _ _ (by intro e; exact hne (by rw [e]))).trans (h.block k hk hne)⟩
end
section
variable {w0 w w' : World} {g : Nat} {s : Sl}
theorem Only.off (h : Only g w w') (b i : Nat) (hb : w.heap.size ≤ b) (u : Value) : Only g w (w'.setCell ⟨b, i, none⟩ u) :=
  ⟨h.os, h.tape, h.output, by simpa [World.setCell] using h.size, fun k hk hne => (Below.heap_setCell _ _ _ _ (by simp only; omega)).trans (h.block k hk hne)⟩
theorem Only.more {w'' : World} (h : Only g w w') (hx : Ext w' w'') : Only g w w'' := Fr.trans h (Ext.fr hx)
theorem Own3.only {lo : Nat} {p : S3} {l : L3} (h : Own3 w lo p l) (hf : Only g w w') (hl : g < lo) : Own3 w' lo p l := h.fr hf fun k hk e => by have := (h.lt hk).1; omega
theorem Own3.awD {lo b : Nat} {p : S3} {l : L3} (h : Own3 w lo p l) (hg : ∀ k, blks p k → k ≠ b) (i : Nat) (u : Value) : Own3 (w.setCell ⟨b, i, none⟩ u) lo p l :=
  ⟨h.1.away (fun e => hg b (.inl e) rfl) i u, h.2.1.away (fun e => hg b (.inr (.inl e)) rfl) i u, h.2.2.1.away (fun e => hg b (.inr (.inr e)) rfl) i u, h.2.2.2⟩
theorem Own.to_ {lo b n c m : Nat} {xs : List Int} (h : Own w lo (.slice (some ⟨b, 0, none⟩) n c) xs) (hm : m ≤ n) : Own w lo (.slice (some ⟨b, 0, none⟩) m c) (xs.take m) := by
  have hn : n = xs.length := h.rd.1
  have hle := h.rd.le
  rcases h.2.2 with ⟨e, hn0⟩ | ⟨g, cap, cur, e, hg, hh, hcap, hmx, hs, ht⟩
  · cases e
  · injection e with e1 e2 e3
    injection e1 with e1
    injection e1 with e1
    subst e1 e3
    have hb : Blk w b 2 cur := hh
    refine Own.of_blk hb hg m c (by rw [List.length_take]; omega) (by omega) hmx (by omega) (by omega) ?_
    rw [List.map_take, ← ht, List.take_take, ← hn]
    simp [Nat.min_eq_left hm]
end
theorem src_set {w : World} {g : Nat} {t : TypeId} {a b c : Value} (h : Blk w g t #[a, b, c]) (u v : Value) : Blk ((w.setCell ⟨g, 2, none⟩ u).setCell ⟨g, 1, none⟩ v) g t #[a, v, u] := (h.set_ 2 u).set_ 1 v
theorem seed_bd (e : Int) : 0 ≤ (e * 48271 + 29) % 2147483647 ∧ (e * 48271 + 29) % 2147483647 < 2147483647 := ⟨Int.emod_nonneg _ (by decide), Int.emod_lt_of_pos _ (by decide)⟩
/-- what is drawn lies in its range -/
def NxP (w0 w : World) (g : Nat) (s : Sl) (n : Int) (e : Ending) (w' : World) : Prop :=
  ∃ x : Int, e = .returned (.int .i64 x) ∧ (0 ≤ x ∧ (x < n ∨ x = 0)) ∧ Dr w0 w' g s ∧ Only g w w'
set_option maxHeartbeats 2500000 in
theorem spec.l01Next_any (g : Nat) (s : Sl) (n : Int) (w0 w : World) (h : Dr w0 w g s) (hn : -9223372036854775808 ≤ n ∧ n ≤ 9223372036854775807) :
    Calls Tryz.prog 28 #[.pointer (some ⟨g, 0, none⟩), .int .i64 n] w fun e w' => NxP w0 w g s n e w' := by
  by_cases h1 : n ≤ 1
  · go_enter Tryz.func28, Tryz.ntmps28
    go_wp2_with fail
    go_ret
    exact ⟨0, rfl, ⟨by omega, .inr rfl⟩, h, Only.refl_ _ _⟩
  · obtain ⟨a, e, hb, ha, e0, e1⟩ := h.src
    obtain ⟨n0, n1⟩ := hn
    obtain ⟨k0, k1⟩ := seed_bd e
    obtain ⟨q, hq⟩ : ∃ q : Int, Hid (q = (e * 48271 + 29) % 2147483647) := ⟨_, rfl⟩
    rw [← hq.out] at k0 k1
    have hm1 : IntKind.i64.wrap (e * 48271) = e * 48271 := Go.IntWalk.i64_in _ (by omega)
    have hm2 : IntKind.i64.wrap (e * 48271 + 29) = e * 48271 + 29 := Go.IntWalk.i64_in _ (by omega)
    have hm3 : (e * 48271 + 29) % 2147483647 = q := hq.out.symm
    obtain ⟨c0, c1, c2⟩ := hb.c3
    have f2 := hb.frozen 2
    have f1 := hb.frozen 1
    have hsm := h.is.small
    have hS : ∀ (u : Nat) (v : Int), u ≤ s.n → 0 ≤ v → v < 2147483647 → Dr w0 ((w.setCell ⟨g, 2, none⟩ (.int .i64 v)).setCell ⟨g, 1, none⟩ (.int .i64 u)) g s := fun u v hu h1 h2 =>
      ⟨(h.ext.off g 2 h.low _).off g 1 h.low _, h.low, h.is, u, v, src_set hb _ _, hu, h1, h2⟩
    have hS2 : ∀ (v : Int), 0 ≤ v → v < 2147483647 → Dr w0 (w.setCell ⟨g, 2, none⟩ (.int .i64 v)) g s := fun v h1 h2 =>
      ⟨h.ext.off g 2 h.low _, h.low, h.is, a, v, hb.set_ 2 _, ha, h1, h2⟩
    replace hS := hide hS
    replace hS2 := hide hS2
    have hO := (Only.refl_ g w).put 2 (.int .i64 q)
    have hO1 : ∀ v : Value, Only g w ((w.setCell ⟨g, 2, none⟩ (.int .i64 q)).setCell ⟨g, 1, none⟩ v) := fun v => hO.put 1 v
    have hmod : ∀ x : Int, 0 ≤ x → 0 ≤ x % n ∧ (x % n < n ∨ x % n = 0) := fun x hx => ⟨Int.emod_nonneg _ (by omega), .inl (Int.emod_lt_of_pos _ (by omega))⟩
    replace hmod := hide hmod
    have hq0 : 0 ≤ q / 31 := Int.ediv_nonneg k0 (by decide)
    have hq1 : q / 31 < 69273667 := by omega
    by_cases hlt : a < s.n
    · obtain ⟨b, off, v, hA, hbl, hv, v0, v1⟩ := h.is.code.at_ h.ext hlt
      obtain ⟨A, m, c⟩ := s
      simp only at hA ha hlt hsm c0
      subst hA
      have hlow := h.low
      have n1' : ¬ g = b := by omega
      have n2' : ¬ b = g := by omega
      have hlt' : (a : Int) < (m : Int) := by omega
      have hw1 : IntKind.i64.wrap (q / 31 + v) = q / 31 + v := Go.IntWalk.i64_in _ (by omega)
      have hw2 : IntKind.i64.wrap ((a : Int) + 1) = (a : Int) + 1 := Go.IntWalk.i64_in _ (by omega)
      have hw3 : IntKind.i64.wrap ((a : Int) + 1 - 1) = (a : Int) := by rw [Go.IntWalk.i64_in _ (by omega)]; omega
      have hfin : ∀ N : Nat, Dr w0 (((w.setCell ⟨g, 2, none⟩ (.int .i64 q)).drewN N).setCell ⟨g, 1, none⟩ (.int .i64 ((a : Int) + 1))) g ⟨some ⟨b, off, none⟩, m, c⟩ ∧ Only g w (((w.setCell ⟨g, 2, none⟩ (.int .i64 q)).drewN N).setCell ⟨g, 1, none⟩ (.int .i64 ((a : Int) + 1))) := fun N => by
        have h1 : Dr w0 ((w.setCell ⟨g, 2, none⟩ (.int .i64 q)).drewN N) g ⟨some ⟨b, off, none⟩, m, c⟩ := (hS2.out q k0 k1).drewN N
        refine ⟨⟨h1.ext.off g 1 hlow _, hlow, h.is, a + 1, q, ?_, by simp only; omega, k0, k1⟩, Only.put (Fr.trans hO (Ext.fr ((Ext.refl _).drewN N))) 1 _⟩
        have h2 := ((hb.set_ 2 (.int .i64 q)).drewN N).set_ 1 (.int .i64 ((a : Int) + 1))
        rw [show (((a + 1 : Nat) : Int)) = (a : Int) + 1 by simp]
        exact h2
      replace hfin := hide hfin
      clear hS hS2 hO hO1
      by_cases h256 : n ≤ 256
      · go_enter Tryz.func28, Tryz.ntmps28
        go_wp2_with fail
        go_quiet (fail)
        go_wp2_with fail
        go_quiet (fail)
        cases hpar : decide (((a : Int) + 1) % 2 = 0)
        · have hpar' : (((a : Int) + 1) % 2 == 0) = false := by simpa using hpar
          clear hpar
          go_wp2_with fail
          go_ret
          exact ⟨_, rfl, hmod.out _ (by omega), (hfin.out _).1, (hfin.out _).2⟩
        · have hpar' : (((a : Int) + 1) % 2 == 0) = true := by simpa using hpar
          clear hpar
          go_wp2_with fail
          go_quiet (fail)
          go_wp2_with fail
          go_ret
          exact ⟨_, rfl, hmod.out _ (by omega), (hfin.out _).1.drewN _, Fr.trans (hfin.out _).2 (Ext.fr ((Ext.refl _).drewN _))⟩
      · go_enter Tryz.func28, Tryz.ntmps28
        go_wp2_with fail
        go_quiet (fail)
        go_wp2_with fail
        go_quiet (fail)
        go_wp2_with fail
        go_ret
        exact ⟨_, rfl, hmod.out _ (by omega), (hfin.out _).1, (hfin.out _).2⟩
    · have hlt' : ¬ (a : Int) < (s.n : Int) := by omega
      go_enter Tryz.func28, Tryz.ntmps28
      go_wp2_with fail
      go_quiet (fail)
      go_wp2_with fail
      go_ret
      exact ⟨_, rfl, hmod.out _ hq0, (hS2.out q k0 k1).drewN _, Fr.trans hO (Ext.fr ((Ext.refl _).drewN _))⟩
/-- one of some numbers is drawn -/
theorem spec.l01Pick_any (g b : Nat) (s : Sl) (xs : List Int) (w0 w : World) (h : Dr w0 w g s) (hb : Blk w b 2 (xs.map (Value.int .i64)).toArray) (hne : b ≠ g) (hl : 0 < xs.length) (hm : xs.length ≤ 1000) :
    Calls Tryz.prog 38 #[.pointer (some ⟨g, 0, none⟩), .slice (some ⟨b, 0, none⟩) xs.length xs.length] w fun e w' => ∃ x : Int, e = .returned (.int .i64 x) ∧ x ∈ xs ∧ Dr w0 w' g s ∧ Only g w w' := by
  obtain ⟨n, hn⟩ : ∃ n, Hid (n = xs.length) := ⟨_, rfl⟩
  rw [← hn.out] at hl hm ⊢
  have hk := fun W h => spec.l01Next_any g s (n : Int) w0 W h (by omega)
  go_enter Tryz.func38, Tryz.ntmps38
  go_wp2_with fail
  refine (hk _ h).mono ?_
  rintro e w1 ⟨x, rfl, ⟨hx0, hx1⟩, hD, hO⟩
  obtain ⟨k, rfl⟩ := Int.eq_ofNat_of_zero_le hx0
  have hkn : k < n := by omega
  have hkn' : (k : Int) < (n : Int) := by omega
  have hk0 : (0 : Int) ≤ (k : Int) := by omega
  have hkx : k < xs.length := by have := hn.out; omega
  have hc : w1.cell? ⟨b, k, none⟩ = some (.int .i64 xs[k]) := (hb.only hO hne).get k _ (by simp [List.getElem?_eq_getElem hkx])
  obtain ⟨y, hy⟩ : ∃ y, Hid (y = xs[k]'hkx) := ⟨xs[k]'hkx, rfl⟩
  rw [← hy.out] at hc
  go_wp2_with fail
  go_ret
  exact ⟨y, rfl, by rw [hy.out]; exact List.getElem_mem hkx, hD, hO⟩
/-- a new source -/
theorem spec.l01From_any (s : Sl) (w0 w : World) (hx : Ext w0 w) (hc : Code w0 s) :
    Calls Tryz.prog 25 #[.slice s.A s.n s.c] w fun e w' => ∃ g : Nat, e = .returned (.pointer (some ⟨g, 0, none⟩)) ∧ w.heap.size ≤ g ∧ Dr w0 w' g s ∧ Ext w w' := by
  have hsm := hc.small
  have hlow := hx.size
  go_enter Tryz.func25, Tryz.ntmps25
  go_wp2_with fail
  go_loopw [4] (fun i wr => ∃ (k : Nat) (e : Int), k ≤ s.n ∧ i = .int .i64 k ∧ Blk wr w.heap.size 85 #[.slice s.A s.n s.c, .int .i64 (0 : Nat), .int .i64 e] ∧ 0 ≤ e ∧ e < 2147483647 ∧ Ext w wr) (fun i _ => s.n - (intOf i).toNat)
  case atStart => exact ⟨0, 61043, by omega, rfl, Blk.new _ _ _, by omega, by omega, (Ext.refl w).alloc _⟩
  case round =>
    obtain ⟨k, e, hk, rfl, hB, e0, e1, hX⟩ := hrel
    obtain ⟨c0, c1, c2⟩ := hB.c3
    have f2 := hB.frozen 2
    by_cases hlt : k < s.n
    · by_cases h64 : k < 64
      · obtain ⟨b, off, v, hA, hbl, hv, v0, v1⟩ := hc.code.at_ (hx.trans hX) hlt
        obtain ⟨A, m, c⟩ := s
        simp only at hA hk hlt hsm c0
        subst hA
        obtain ⟨q, hq⟩ : ∃ q : Int, Hid (q = (e * 83 + v) % 2147483647) := ⟨_, rfl⟩
        have k0 : 0 ≤ q := by rw [hq.out]; exact Int.emod_nonneg _ (by decide)
        have k1 : q < 2147483647 := by rw [hq.out]; exact Int.emod_lt_of_pos _ (by decide)
        have hm1 : IntKind.i64.wrap (e * 83) = e * 83 := Go.IntWalk.i64_in _ (by omega)
        have hm2 : IntKind.i64.wrap (e * 83 + v) = e * 83 + v := Go.IntWalk.i64_in _ (by omega)
        have hm3 : (e * 83 + v) % 2147483647 = q := hq.out.symm
        have n1' : ¬ w.heap.size = b := by omega
        have n2' : ¬ b = w.heap.size := by omega
        have hlt' : (k : Int) < (m : Int) := by omega
        have h64' : (k : Int) < 64 := by omega
        have hw2 : IntKind.i64.wrap ((k : Int) + 1) = (k : Int) + 1 := Go.IntWalk.i64_in _ (by omega)
        have hB' := (hB.set_ 2 (.int .i64 q)).drew
        have hX' := (hX.off w.heap.size 2 (Nat.le_refl _) (.int .i64 q)).drew
        go_wp2_with fail
        go_region
        all_goals
          go_wp2_with fail
          go_roundw
          case rel => exact ⟨k + 1, q, by omega, by go_num, hB', k0, k1, hX'⟩
          case measure => simp [intOf]; omega
      · have h64' : ¬ (k : Int) < 64 := by omega
        have hlt' : (k : Int) < (s.n : Int) := by omega
        go_wp2_with fail
        go_ret
        exact ⟨_, rfl, Nat.le_refl _, ⟨hx.trans hX, hlow, hc, 0, e, hB, by omega, e0, e1⟩, hX⟩
    · have hlt' : ¬ (k : Int) < (s.n : Int) := by omega
      go_wp2_with fail
      go_ret
      exact ⟨_, rfl, Nat.le_refl _, ⟨hx.trans hX, hlow, hc, 0, e, hB, by omega, e0, e1⟩, hX⟩
end Go.Proofs.YtofglgfjlbehmaaGreat.mem
