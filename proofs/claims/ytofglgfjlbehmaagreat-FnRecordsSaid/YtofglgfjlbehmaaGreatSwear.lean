/-
  Contracts of both programs' SwearJury.
-/
import Derived.Test.YtofglgfjlbehmaaGreatMg2
import Derived.Deep.RegionWith
import Derived.Deep.RegionHeld3
namespace Go.Proofs.YtofglgfjlbehmaaGreat.mem
open Go.ChangeShapes Go.WideShapes Go.ChangeAt Go.RowKit

def swOk (l : L3) (m a : Int) : Bool := okP l && (inB m 1 12 && (inB a 0 6 && decide (m + a ≤ ((nz l.x).length : Int))))
def swV (l : L3) (m a : Int) : L3 := if swOk l m a = true then ⟨(nz l.x).take m.toNat, ((nz l.x).drop m.toNat).take a.toNat, []⟩ else ⟨[], [], []⟩
def swC (l : L3) (m a : Int) : Int := if okP l = true then (if inB m 1 12 = true ∧ inB a 0 6 = true then (if m + a ≤ ((nz l.x).length : Int) then 0 else 5) else 2) else 1
def nilJ : S3 := ⟨⟨none, 0, 0⟩, ⟨none, 0, 0⟩, ⟨none, 0, 0⟩⟩
theorem Own3.nilJ (w : World) (lo : Nat) : Own3 w lo nilJ ⟨[], [], []⟩ :=
  ⟨Own.nil_ _ _, Own.nil_ _ _, Own.nil_ _ _, (show 0 + (0 + 0) ≤ 2097152 by omega), (by intro k hk; cases hk), (by intro k hk; cases hk), (by intro k hk; cases hk)⟩
theorem Rd.mid {w : World} {b off n k a : Nat} {xs : List Int} (h : Rd w (some ⟨b, off, none⟩) n xs) (hk : k + a ≤ n) : Rd w (some ⟨b, off + k, none⟩) a ((xs.drop k).take a) := by
  have h1 := h.1
  have h2 := h.2.1
  refine ⟨by rw [List.length_take, List.length_drop]; omega, by omega, fun ha => ?_⟩
  obtain ⟨b', off', e, hb, hc⟩ := h.2.2 (by omega)
  injection e with e
  injection e with e1 e2
  subst e1 e2
  refine ⟨b, off + k, rfl, hb, fun j hj => ?_⟩
  rw [Nat.add_assoc, hc (k + j) (by omega)]
  congr 2
  simp only [List.getD_eq_getElem?_getD]
  rw [List.getElem?_take_of_lt hj, List.getElem?_drop]

set_option maxRecDepth 20000 in
set_option maxHeartbeats 4000000 in
theorem impl.SwearJury_any (p : S3) (l : L3) (m a : Int) (w : World) (hr : Rd3 w p l) :
    Calls Tryz.prog 65 #[.agg #[.slice p.x.A p.x.n p.x.c, .slice p.y.A p.y.n p.y.c, .slice p.z.A p.z.n p.z.c], .int .i64 m, .int .i64 a] w fun e w' => ∃ t : S3, e = .returned (.tuple #[.agg #[.slice t.x.A t.x.n t.x.c, .slice t.y.A t.y.n t.y.c, .slice t.z.A t.z.n t.z.c], .int .i64 (swC l m a)]) ∧ Own3 w' w.heap.size t (swV l m a) ∧ Ext w w' := by
  have hX0 := ((Ext.refl w).alloc (.cells #[.slice p.x.A p.x.n p.x.c, .slice p.y.A p.y.n p.y.c, .slice p.z.A p.z.n p.z.c] 40)).alloc (.cells #[.slice none 0 0, .slice none 0 0, .slice none 0 0] 30)
  have hB0 := (Blk.new w 40 (#[.slice p.x.A p.x.n p.x.c, .slice p.y.A p.y.n p.y.c, .slice p.z.A p.z.n p.z.c])).alloc (.cells #[.slice none 0 0, .slice none 0 0, .slice none 0 0] 30)
  have hR0 := Blk.new (w.alloc (.cells #[.slice p.x.A p.x.n p.x.c, .slice p.y.A p.y.n p.y.c, .slice p.z.A p.z.n p.z.c] 40)) 30 (#[.slice none 0 0, .slice none 0 0, .slice none 0 0])
  rw [World.size_alloc] at hR0
  obtain ⟨q0, q1, q2⟩ := hB0.c3
  go_enter Tryz.func65, Tryz.ntmps65
  go_wp2_with fail
  refine (impl.seated_any p.x l.x _ (hr.1.ext hX0)).mono ?_
  rintro e w0 ⟨t, rfl, ho', hx0⟩
  clear q0 q1 q2
  obtain ⟨At, nt, ct⟩ := t
  have hX0' := hX0.trans hx0
  have hB0' := hB0.ext hx0
  have hR0' := hR0.ext hx0
  simp only [World.size_alloc] at ho'
  obtain ⟨q0, q1, q2⟩ := hB0'.c3
  go_wp2_with fail
  refine (impl.IsPanel_any p l _ (hr.ext hX0')).mono ?_
  rintro e w1 ⟨rfl, hx1⟩
  clear q0 q1 q2
  have hX1 := hX0'.trans hx1
  have hB1 := hB0'.ext hx1
  have hR1 := hR0'.ext hx1
  have ho := ho'.ext hx1
  have hz1 : w.heap.size + 1 + 1 ≤ w1.heap.size := by have h1 := hx1.size; have h0 := hx0.size; simp at h0; omega
  have et := hide (show nt = (nz l.x).length from ho.rd.1)
  have hct : nt ≤ ct := (Own.cap (s := ⟨At, nt, ct⟩) ho).1
  have hcm := (Own.cap (s := ⟨At, nt, ct⟩) ho).2
  (try simp only at hcm)
  obtain ⟨r0, r1, r2, r3, r4, r5⟩ := res3 hR1
  have hRn := ((hR1.set_ 0 (.slice none 0 0)).set_ 1 (.slice none 0 0)).set_ 2 (.slice none 0 0)
  have n0 := hRn.get 0 _ rfl
  have n1 := hRn.get 1 _ rfl
  have n2 := hRn.get 2 _ rfl
  have hXn := ((hX1.off (w.heap.size + 1) 0 (by omega) (.slice none 0 0)).off (w.heap.size + 1) 1 (by omega) (.slice none 0 0)).off (w.heap.size + 1) 2 (by omega) (.slice none 0 0)
  cases hok : okP l
  · have E1 := hide (show swV l m a = ⟨[], [], []⟩ by unfold swV swOk; rw [hok]; rfl)
    have E2 := hide (show swC l m a = 1 by unfold swC; rw [hok]; rfl)
    go_wp2_with (first | (go_at_call 53; refine (impl.isSeats_any _ _).mono ?_; rintro e w' ⟨rfl, rfl⟩) | (go_at_call 57; refine (impl.isAlternates_any _ _).mono ?_; rintro e w' ⟨rfl, rfl⟩))
    refine bodyPost_ret (v := .tuple #[.agg #[.slice nilJ.x.A nilJ.x.n nilJ.x.c, .slice nilJ.y.A nilJ.y.n nilJ.y.c, .slice nilJ.z.A nilJ.z.n nilJ.z.c], .int .i64 1]) (by simp [results, Tryz.results65, go_sem, n0, n1, n2, nilJ]) rfl ⟨nilJ, by rw [E2.out], by rw [E1.out]; exact Own3.nilJ _ _, hXn⟩
  cases b1 : inB m 1 12
  · have E1 := hide (show swV l m a = ⟨[], [], []⟩ by unfold swV swOk; rw [hok, b1]; rfl)
    have E2 := hide (show swC l m a = 2 by unfold swC; rw [hok, b1]; rfl)
    go_wp2_with (first | (go_at_call 53; refine (impl.isSeats_any _ _).mono ?_; rintro e w' ⟨rfl, rfl⟩) | (go_at_call 57; refine (impl.isAlternates_any _ _).mono ?_; rintro e w' ⟨rfl, rfl⟩))
    refine bodyPost_ret (v := .tuple #[.agg #[.slice nilJ.x.A nilJ.x.n nilJ.x.c, .slice nilJ.y.A nilJ.y.n nilJ.y.c, .slice nilJ.z.A nilJ.z.n nilJ.z.c], .int .i64 2]) (by simp [results, Tryz.results65, go_sem, n0, n1, n2, nilJ]) rfl ⟨nilJ, by rw [E2.out], by rw [E1.out]; exact Own3.nilJ _ _, hXn⟩
  cases b2 : inB a 0 6
  · have E1 := hide (show swV l m a = ⟨[], [], []⟩ by unfold swV swOk; rw [hok, b1, b2]; rfl)
    have E2 := hide (show swC l m a = 2 by unfold swC; rw [hok, b1, b2]; rfl)
    go_wp2_with (first | (go_at_call 53; refine (impl.isSeats_any _ _).mono ?_; rintro e w' ⟨rfl, rfl⟩) | (go_at_call 57; refine (impl.isAlternates_any _ _).mono ?_; rintro e w' ⟨rfl, rfl⟩))
    refine bodyPost_ret (v := .tuple #[.agg #[.slice nilJ.x.A nilJ.x.n nilJ.x.c, .slice nilJ.y.A nilJ.y.n nilJ.y.c, .slice nilJ.z.A nilJ.z.n nilJ.z.c], .int .i64 2]) (by simp [results, Tryz.results65, go_sem, n0, n1, n2, nilJ]) rfl ⟨nilJ, by rw [E2.out], by rw [E1.out]; exact Own3.nilJ _ _, hXn⟩
  have i1 := inB_iff.1 b1
  have i2 := inB_iff.1 b2
  obtain ⟨k, rfl⟩ : ∃ k : Nat, m = k := ⟨m.toNat, by omega⟩
  obtain ⟨j, rfl⟩ : ∃ j : Nat, a = j := ⟨a.toNat, by omega⟩
  by_cases hgt : (nt : Int) < (k : Int) + (j : Int)
  · have E1 := hide (show swV l k j = ⟨[], [], []⟩ by unfold swV swOk; rw [hok, b1, b2, decide_eq_false (show ¬ ((k : Int) + j ≤ ((nz l.x).length : Int)) by rw [← et.out]; omega)]; rfl)
    have E2 := hide (show swC l k j = 5 by unfold swC; rw [hok, b1, b2, if_neg (show ¬ ((k : Int) + j ≤ ((nz l.x).length : Int)) by rw [← et.out]; omega)]; rfl)
    go_wp2_with (first | (go_at_call 53; refine (impl.isSeats_any _ _).mono ?_; rintro e w' ⟨rfl, rfl⟩) | (go_at_call 57; refine (impl.isAlternates_any _ _).mono ?_; rintro e w' ⟨rfl, rfl⟩))
    refine bodyPost_ret (v := .tuple #[.agg #[.slice nilJ.x.A nilJ.x.n nilJ.x.c, .slice nilJ.y.A nilJ.y.n nilJ.y.c, .slice nilJ.z.A nilJ.z.n nilJ.z.c], .int .i64 5]) (by simp [results, Tryz.results65, go_sem, n0, n1, n2, nilJ]) rfl ⟨nilJ, by rw [E2.out], by rw [E1.out]; exact Own3.nilJ _ _, hXn⟩
  have E1 := hide (show swV l k j = ⟨(nz l.x).take k, ((nz l.x).drop k).take j, []⟩ by unfold swV swOk; rw [hok, b1, b2, decide_eq_true (show ((k : Int) + j ≤ ((nz l.x).length : Int)) by rw [← et.out]; omega)]; rfl)
  have E2 := hide (show swC l k j = 0 by unfold swC; rw [hok, b1, b2, if_pos (show ((k : Int) + j ≤ ((nz l.x).length : Int)) by rw [← et.out]; omega)]; rfl)
  have hkj : k + j ≤ nt := by omega
  have hk1 : 1 ≤ k := by omega
  have hrt0 : Rd w1 At nt (nz l.x) := ho.rd
  obtain ⟨b, off, _, rfl, hbl, _, _⟩ := hrt0.el (k := 0) (by omega)
  have hrt := hrt0
  have h1 := hrt.take (k := k) (by omega)
  clear hRn n0 n1 n2 hXn
  obtain ⟨i11, i12⟩ := i1
  obtain ⟨i21, i22⟩ := i2
  have g1 : k ≤ ct := by omega
  have g2 : k + j ≤ ct := by omega
  have g3 : (k : Int) ≤ (ct : Int) := by omega
  have g4 : (k : Int) + (j : Int) ≤ (ct : Int) := by omega
  have g5 : (k : Int) ≤ (k : Int) + (j : Int) := by omega
  have g6 : (0 : Int) ≤ (k : Int) := by omega
  have g7 : (0 : Int) ≤ (k : Int) + (j : Int) := by omega
  have g9 : IntKind.i64.wrap ((k : Int) + (j : Int)) = (k : Int) + (j : Int) := Go.IntWalk.i64_in _ (by omega)
  have g10 : (0 : Int) ≤ (j : Int) := by omega
  have g8 : ((k : Int) + (j : Int)).toNat = k + j := by omega
  rcases (show (ct = k ∧ j = 0) ∨ ¬ ct = k by omega) with ⟨rfl, rfl⟩ | hne
  · have h2 : Rd w1 (some ⟨b, off, none⟩) 0 (((nz l.x).drop ct).take 0) := by simp; exact Rd.nil_ _ _
    have g11 : IntKind.i64.wrap (ct : Int) = (ct : Int) := Go.IntWalk.i64_in _ (by omega)
    go_wp2_with (first | (go_at_call 53; refine (impl.isSeats_any _ _).mono ?_; rintro e w' ⟨rfl, rfl⟩) | (go_at_call 57; refine (impl.isAlternates_any _ _).mono ?_; rintro e w' ⟨rfl, rfl⟩))
    go_region_held3 (fun _ => True) (first | trivial | go_keep) (first | (go_at_call 95; refine (impl.clone_any ⟨some ⟨_, _, none⟩, _, _⟩ _ _ (h2.ext hY3)).mono ?_; rintro e w4 ⟨t4, rfl, ho4, hx4⟩; have hX4 := hX3.trans hx4; have hR4 := hR3.ext hx4; have s4 := res3 hR4; have ho3' := ho3.ext hx4; have zz4 := hx4.size; have zz3 := hx3.size; have lt4 := ho4.lt) | (go_at_call 95; refine (impl.clone_any ⟨some ⟨_, _, none⟩, _, _⟩ _ _ h1.drew).mono ?_; rintro e w3 ⟨t3, rfl, ho3, hx3⟩; have hY3 := ((Ext.refl w1).drew).trans hx3; have lt3 := ho3.lt; have hX3 := hX1.drew.trans hx3; have hR3 := hR1.drew.ext hx3; have s3 := res3 hR3))
    have hRf := ((hR4.set_ 0 (.slice t3.A t3.n t3.c)).set_ 1 (.slice t4.A t4.n t4.c)).set_ 2 (.slice none 0 0)
    obtain ⟨f0, f1, f2⟩ := hRf.c3
    have e3 := ho3.rd.1
    have e4 := ho4.rd.1
    rw [List.length_take] at e3 e4
    replace lt3 : ∀ k, Value.ownBlock (.slice t3.A t3.n t3.c) = some k → w1.heap.size ≤ k ∧ k < w3.heap.size := lt3
    replace zz3 : w1.heap.size ≤ w3.heap.size := zz3
    go_wp2
    refine bodyPost_ret (v := .tuple #[.agg #[.slice (⟨t3, t4, ⟨none, 0, 0⟩⟩ : S3).x.A (⟨t3, t4, ⟨none, 0, 0⟩⟩ : S3).x.n (⟨t3, t4, ⟨none, 0, 0⟩⟩ : S3).x.c, .slice (⟨t3, t4, ⟨none, 0, 0⟩⟩ : S3).y.A (⟨t3, t4, ⟨none, 0, 0⟩⟩ : S3).y.n (⟨t3, t4, ⟨none, 0, 0⟩⟩ : S3).y.c, .slice (⟨t3, t4, ⟨none, 0, 0⟩⟩ : S3).z.A (⟨t3, t4, ⟨none, 0, 0⟩⟩ : S3).z.n (⟨t3, t4, ⟨none, 0, 0⟩⟩ : S3).z.c], .int .i64 0]) (by simp [results, Tryz.results65, go_sem, f0, f1, f2]) rfl ⟨⟨t3, t4, ⟨none, 0, 0⟩⟩, by rw [E2.out], ?own, ?ext⟩
    case ext => exact ((hX4.off (w.heap.size + 1) 0 (by omega) _).off _ 1 (by omega) _).off _ 2 (by omega) _
    rw [E1.out]
    refine ⟨?_, ?_, Own.nil_ _ _, ?_, ?_, ?_, ?_⟩
    · exact (((ho3'.mono (lo' := w.heap.size + 1 + 1) (by first | omega | (simp; omega))).off _ 0 (by omega) _).off _ 1 (by omega) _).off _ 2 (by omega) _ |>.mono (by omega)
    · exact (((ho4.mono (lo' := w.heap.size + 1 + 1) (by first | omega | (simp; omega))).off _ 0 (by omega) _).off _ 1 (by omega) _).off _ 2 (by omega) _ |>.mono (by omega)
    · simp only
      omega
    · exact fun k h1 h2 => by have a1 := lt3 k h1; have a2 := lt4 k h2; omega
    · exact fun k h1 h2 => by cases h2
    · exact fun k h1 h2 => by cases h2
  · have h2 := Rd.mid hrt hkj
    go_wp2_with (first | (go_at_call 53; refine (impl.isSeats_any _ _).mono ?_; rintro e w' ⟨rfl, rfl⟩) | (go_at_call 57; refine (impl.isAlternates_any _ _).mono ?_; rintro e w' ⟨rfl, rfl⟩))
    go_region_held3 (fun _ => True) (first | trivial | go_keep) (first | (go_at_call 95; refine (impl.clone_any ⟨some ⟨_, _, none⟩, _, _⟩ _ _ (h2.ext hY3)).mono ?_; rintro e w4 ⟨t4, rfl, ho4, hx4⟩; have hX4 := hX3.trans hx4; have hR4 := hR3.ext hx4; have s4 := res3 hR4; have ho3' := ho3.ext hx4; have zz4 := hx4.size; have zz3 := hx3.size; have lt4 := ho4.lt) | (go_at_call 95; refine (impl.clone_any ⟨some ⟨_, _, none⟩, _, _⟩ _ _ h1.drew).mono ?_; rintro e w3 ⟨t3, rfl, ho3, hx3⟩; have hY3 := ((Ext.refl w1).drew).trans hx3; have lt3 := ho3.lt; have hX3 := hX1.drew.trans hx3; have hR3 := hR1.drew.ext hx3; have s3 := res3 hR3))
    have hRf := ((hR4.set_ 0 (.slice t3.A t3.n t3.c)).set_ 1 (.slice t4.A t4.n t4.c)).set_ 2 (.slice none 0 0)
    obtain ⟨f0, f1, f2⟩ := hRf.c3
    have e3 := ho3.rd.1
    have e4 := ho4.rd.1
    rw [List.length_take] at e3 e4
    replace lt3 : ∀ k, Value.ownBlock (.slice t3.A t3.n t3.c) = some k → w1.heap.size ≤ k ∧ k < w3.heap.size := lt3
    replace zz3 : w1.heap.size ≤ w3.heap.size := zz3
    go_wp2
    refine bodyPost_ret (v := .tuple #[.agg #[.slice (⟨t3, t4, ⟨none, 0, 0⟩⟩ : S3).x.A (⟨t3, t4, ⟨none, 0, 0⟩⟩ : S3).x.n (⟨t3, t4, ⟨none, 0, 0⟩⟩ : S3).x.c, .slice (⟨t3, t4, ⟨none, 0, 0⟩⟩ : S3).y.A (⟨t3, t4, ⟨none, 0, 0⟩⟩ : S3).y.n (⟨t3, t4, ⟨none, 0, 0⟩⟩ : S3).y.c, .slice (⟨t3, t4, ⟨none, 0, 0⟩⟩ : S3).z.A (⟨t3, t4, ⟨none, 0, 0⟩⟩ : S3).z.n (⟨t3, t4, ⟨none, 0, 0⟩⟩ : S3).z.c], .int .i64 0]) (by simp [results, Tryz.results65, go_sem, f0, f1, f2]) rfl ⟨⟨t3, t4, ⟨none, 0, 0⟩⟩, by rw [E2.out], ?own2, ?ext2⟩
    case ext2 => exact ((hX4.off (w.heap.size + 1) 0 (by omega) _).off _ 1 (by omega) _).off _ 2 (by omega) _
    rw [E1.out]
    refine ⟨?_, ?_, Own.nil_ _ _, ?_, ?_, ?_, ?_⟩
    · exact (((ho3'.mono (lo' := w.heap.size + 1 + 1) (by first | omega | (simp; omega))).off _ 0 (by omega) _).off _ 1 (by omega) _).off _ 2 (by omega) _ |>.mono (by omega)
    · exact (((ho4.mono (lo' := w.heap.size + 1 + 1) (by first | omega | (simp; omega))).off _ 0 (by omega) _).off _ 1 (by omega) _).off _ 2 (by omega) _ |>.mono (by omega)
    · simp only
      omega
    · exact fun k h1 h2 => by have a1 := lt3 k h1; have a2 := lt4 k h2; omega
    · exact fun k h1 h2 => by cases h2
    · exact fun k h1 h2 => by cases h2
set_option maxRecDepth 20000 in
set_option maxHeartbeats 4000000 in
theorem spec.SwearJury_any (p : S3) (l : L3) (m a : Int) (w : World) (hr : Rd3 w p l) :
    Calls Tryz.prog 67 #[.agg #[.slice p.x.A p.x.n p.x.c, .slice p.y.A p.y.n p.y.c, .slice p.z.A p.z.n p.z.c], .int .i64 m, .int .i64 a] w fun e w' => ∃ t : S3, e = .returned (.tuple #[.agg #[.slice t.x.A t.x.n t.x.c, .slice t.y.A t.y.n t.y.c, .slice t.z.A t.z.n t.z.c], .int .i64 (swC l m a)]) ∧ Own3 w' w.heap.size t (swV l m a) ∧ Ext w w' := by
  have hX0 := ((Ext.refl w).alloc (.cells #[.slice p.x.A p.x.n p.x.c, .slice p.y.A p.y.n p.y.c, .slice p.z.A p.z.n p.z.c] 40)).alloc (.cells #[.slice none 0 0, .slice none 0 0, .slice none 0 0] 30)
  have hB0 := (Blk.new w 40 (#[.slice p.x.A p.x.n p.x.c, .slice p.y.A p.y.n p.y.c, .slice p.z.A p.z.n p.z.c])).alloc (.cells #[.slice none 0 0, .slice none 0 0, .slice none 0 0] 30)
  have hR0 := Blk.new (w.alloc (.cells #[.slice p.x.A p.x.n p.x.c, .slice p.y.A p.y.n p.y.c, .slice p.z.A p.z.n p.z.c] 40)) 30 (#[.slice none 0 0, .slice none 0 0, .slice none 0 0])
  rw [World.size_alloc] at hR0
  obtain ⟨q0, q1, q2⟩ := hB0.c3
  go_enter Tryz.func67, Tryz.ntmps67
  go_wp2_with fail
  refine (spec.IsPanel_any p l _ (hr.ext hX0)).mono ?_
  rintro e w1 ⟨rfl, hx1⟩
  clear q0 q1 q2
  have hX1 := hX0.trans hx1
  have hB1 := hB0.ext hx1
  have hR1 := hR0.ext hx1
  have hz1 : w.heap.size + 1 + 1 ≤ w1.heap.size := by have := hx1.size; simpa using this
  obtain ⟨q0, q1, q2⟩ := hB1.c3
  obtain ⟨r0, r1, r2, r3, r4, r5⟩ := res3 hR1
  have hRn := ((hR1.set_ 0 (.slice none 0 0)).set_ 1 (.slice none 0 0)).set_ 2 (.slice none 0 0)
  have n0 := hRn.get 0 _ rfl
  have n1 := hRn.get 1 _ rfl
  have n2 := hRn.get 2 _ rfl
  have hXn := ((hX1.off (w.heap.size + 1) 0 (by omega) (.slice none 0 0)).off (w.heap.size + 1) 1 (by omega) (.slice none 0 0)).off (w.heap.size + 1) 2 (by omega) (.slice none 0 0)
  cases hok : okP l
  · have E1 := hide (show swV l m a = ⟨[], [], []⟩ by unfold swV swOk; rw [hok]; rfl)
    have E2 := hide (show swC l m a = 1 by unfold swC; rw [hok]; rfl)
    go_wp2_with (go_at_call 42; refine (spec.l01In_any _ _ _ _).mono ?_; rintro e w' ⟨rfl, rfl⟩)
    refine bodyPost_ret (v := .tuple #[.agg #[.slice nilJ.x.A nilJ.x.n nilJ.x.c, .slice nilJ.y.A nilJ.y.n nilJ.y.c, .slice nilJ.z.A nilJ.z.n nilJ.z.c], .int .i64 1]) (by simp [results, Tryz.results67, go_sem, n0, n1, n2, nilJ]) rfl ⟨nilJ, by rw [E2.out], by rw [E1.out]; exact Own3.nilJ _ _, hXn⟩
  cases b1 : inB m 1 12
  · have E1 := hide (show swV l m a = ⟨[], [], []⟩ by unfold swV swOk; rw [hok, b1]; rfl)
    have E2 := hide (show swC l m a = 2 by unfold swC; rw [hok, b1]; rfl)
    go_wp2_with (go_at_call 42; refine (spec.l01In_any _ _ _ _).mono ?_; rintro e w' ⟨rfl, rfl⟩)
    refine bodyPost_ret (v := .tuple #[.agg #[.slice nilJ.x.A nilJ.x.n nilJ.x.c, .slice nilJ.y.A nilJ.y.n nilJ.y.c, .slice nilJ.z.A nilJ.z.n nilJ.z.c], .int .i64 2]) (by simp [results, Tryz.results67, go_sem, n0, n1, n2, nilJ]) rfl ⟨nilJ, by rw [E2.out], by rw [E1.out]; exact Own3.nilJ _ _, hXn⟩
  cases b2 : inB a 0 6
  · have E1 := hide (show swV l m a = ⟨[], [], []⟩ by unfold swV swOk; rw [hok, b1, b2]; rfl)
    have E2 := hide (show swC l m a = 2 by unfold swC; rw [hok, b1, b2]; rfl)
    go_wp2_with (go_at_call 42; refine (spec.l01In_any _ _ _ _).mono ?_; rintro e w' ⟨rfl, rfl⟩)
    refine bodyPost_ret (v := .tuple #[.agg #[.slice nilJ.x.A nilJ.x.n nilJ.x.c, .slice nilJ.y.A nilJ.y.n nilJ.y.c, .slice nilJ.z.A nilJ.z.n nilJ.z.c], .int .i64 2]) (by simp [results, Tryz.results67, go_sem, n0, n1, n2, nilJ]) rfl ⟨nilJ, by rw [E2.out], by rw [E1.out]; exact Own3.nilJ _ _, hXn⟩
  have i1 := inB_iff.1 b1
  have i2 := inB_iff.1 b2
  obtain ⟨k, rfl⟩ : ∃ k : Nat, m = k := ⟨m.toNat, by omega⟩
  obtain ⟨j, rfl⟩ : ∃ j : Nat, a = j := ⟨a.toNat, by omega⟩
  clear hRn n0 n1 n2 hXn
  go_wp2_with (first | (go_at_call 42; refine (spec.l01In_any _ _ _ _).mono ?_; rintro e w' ⟨rfl, rfl⟩) | fail)
  refine (spec.l12Seated_any p l _ (hr.ext hX1)).mono ?_
  rintro e w2 ⟨t, rfl, ho', hx2⟩
  obtain ⟨At, nt, ct⟩ := t
  have ho := ho'.mono (lo' := w.heap.size + 1 + 1) hz1
  have hX2 := hX1.trans hx2
  have hR2 := hR1.ext hx2
  have hz2 : w.heap.size + 1 + 1 ≤ w2.heap.size := by have := hx2.size; omega
  have et := hide (show nt = (nz l.x).length from ho.rd.1)
  have hct : nt ≤ ct := (Own.cap (s := ⟨At, nt, ct⟩) ho).1
  have hcm := (Own.cap (s := ⟨At, nt, ct⟩) ho).2
  (try simp only at hcm)
  clear r0 r1 r2 r3 r4 r5 q0 q1 q2
  obtain ⟨r0, r1, r2, r3, r4, r5⟩ := res3 hR2
  have hRn := ((hR2.set_ 0 (.slice none 0 0)).set_ 1 (.slice none 0 0)).set_ 2 (.slice none 0 0)
  have n0 := hRn.get 0 _ rfl
  have n1 := hRn.get 1 _ rfl
  have n2 := hRn.get 2 _ rfl
  have hXn := ((hX2.off (w.heap.size + 1) 0 (by omega) (.slice none 0 0)).off (w.heap.size + 1) 1 (by omega) (.slice none 0 0)).off (w.heap.size + 1) 2 (by omega) (.slice none 0 0)
  by_cases hgt : (nt : Int) < (k : Int) + (j : Int)
  · have E1 := hide (show swV l k j = ⟨[], [], []⟩ by unfold swV swOk; rw [hok, b1, b2, decide_eq_false (show ¬ ((k : Int) + j ≤ ((nz l.x).length : Int)) by rw [← et.out]; omega)]; rfl)
    have E2 := hide (show swC l k j = 5 by unfold swC; rw [hok, b1, b2, if_neg (show ¬ ((k : Int) + j ≤ ((nz l.x).length : Int)) by rw [← et.out]; omega)]; rfl)
    go_wp2_with (go_at_call 42; refine (spec.l01In_any _ _ _ _).mono ?_; rintro e w' ⟨rfl, rfl⟩)
    refine bodyPost_ret (v := .tuple #[.agg #[.slice nilJ.x.A nilJ.x.n nilJ.x.c, .slice nilJ.y.A nilJ.y.n nilJ.y.c, .slice nilJ.z.A nilJ.z.n nilJ.z.c], .int .i64 5]) (by simp [results, Tryz.results67, go_sem, n0, n1, n2, nilJ]) rfl ⟨nilJ, by rw [E2.out], by rw [E1.out]; exact Own3.nilJ _ _, hXn⟩
  have E1 := hide (show swV l k j = ⟨(nz l.x).take k, ((nz l.x).drop k).take j, []⟩ by unfold swV swOk; rw [hok, b1, b2, decide_eq_true (show ((k : Int) + j ≤ ((nz l.x).length : Int)) by rw [← et.out]; omega)]; rfl)
  have E2 := hide (show swC l k j = 0 by unfold swC; rw [hok, b1, b2, if_pos (show ((k : Int) + j ≤ ((nz l.x).length : Int)) by rw [← et.out]; omega)]; rfl)
  have hkj : k + j ≤ nt := by omega
  have hk1 : 1 ≤ k := by omega
  have hrt0 : Rd w2 At nt (nz l.x) := ho.rd
  obtain ⟨b, off, _, rfl, hbl, _, _⟩ := hrt0.el (k := 0) (by omega)
  have hrt := hrt0
  have h1 := hrt.take (k := k) (by omega)
  clear hRn n0 n1 n2 hXn
  obtain ⟨i11, i12⟩ := i1
  obtain ⟨i21, i22⟩ := i2
  have g1 : k ≤ ct := by omega
  have g2 : k + j ≤ ct := by omega
  have g3 : (k : Int) ≤ (ct : Int) := by omega
  have g4 : (k : Int) + (j : Int) ≤ (ct : Int) := by omega
  have g5 : (k : Int) ≤ (k : Int) + (j : Int) := by omega
  have g6 : (0 : Int) ≤ (k : Int) := by omega
  have g7 : (0 : Int) ≤ (k : Int) + (j : Int) := by omega
  have g9 : IntKind.i64.wrap ((k : Int) + (j : Int)) = (k : Int) + (j : Int) := Go.IntWalk.i64_in _ (by omega)
  have g10 : (0 : Int) ≤ (j : Int) := by omega
  have g8 : ((k : Int) + (j : Int)).toNat = k + j := by omega
  rcases (show (ct = k ∧ j = 0) ∨ ¬ ct = k by omega) with ⟨rfl, rfl⟩ | hne
  · have h2 : Rd w2 (some ⟨b, off, none⟩) 0 (((nz l.x).drop ct).take 0) := by simp; exact Rd.nil_ _ _
    have g11 : IntKind.i64.wrap (ct : Int) = (ct : Int) := Go.IntWalk.i64_in _ (by omega)
    go_wp2_with (go_at_call 42; refine (spec.l01In_any _ _ _ _).mono ?_; rintro e w' ⟨rfl, rfl⟩)
    go_region_held3 (fun _ => True) (first | trivial | go_keep) (first | (go_at_call 62; have hYY := hY3; refine (spec.l01Own_any ⟨some ⟨_, _, none⟩, _, _⟩ _ _ (h2.ext (by first | exact hY3 | exact hY3.alloc _))).mono ?_; rintro e w4 ⟨t4, rfl, ho4, hx4⟩; have hX4 : Ext w w4 := Ext.trans (by first | exact hX3 | exact hX3.alloc _) hx4; have hR4 := Blk.ext (by first | exact hR3 | exact hR3.alloc _) hx4; have s4 := res3 hR4; have hY4 : Ext w3 w4 := Ext.trans (by first | exact Ext.refl _ | exact (Ext.refl _).alloc _) hx4; have ho3' := ho3.ext hY4; have zz4 := hY4.size; have zz3 := hY3.size; have lt4 := ho4.lt; have n4a : w.heap.size + 1 < w4.heap.size := (by have := hY4.size; omega); have n4b : ¬ w.heap.size + 1 = w4.heap.size := (by omega); have n4c : ¬ w4.heap.size = w.heap.size + 1 := (by omega); (try have hb4 : Blk w4 w2.heap.size 2 #[] := hb3.ext hx4); (try have hb4 : Blk w4 w3.heap.size 2 #[] := (Blk.new w3 2 #[]).ext hx4)) | (go_at_call 62; refine (spec.l01Own_any ⟨some ⟨_, _, none⟩, _, _⟩ _ _ (by first | exact h1.drew | exact h1.drew.alloc _)).mono ?_; rintro e w3 ⟨t3, rfl, ho3, hx3⟩; have hY3 : Ext w2 w3 := Ext.trans (by first | exact (Ext.refl w2).drew | exact (Ext.refl w2).drew.alloc _) hx3; have lt3 := ho3.lt; have hX3 := hX2.trans hY3; have hR3 := hR2.ext hY3; have s3 := res3 hR3; have n3a : w.heap.size + 1 < w3.heap.size := (by have := hY3.size; omega); have n3b : ¬ w.heap.size + 1 = w3.heap.size := (by omega); have n3c : ¬ w3.heap.size = w.heap.size + 1 := (by omega); (try have hb3 : Blk w3 w2.heap.size 2 #[] := (Blk.new w2.drew 2 #[]).ext hx3)))
    · have hRf := (((hR4.set_ 0 (.slice t3.A t3.n t3.c)).set_ 1 (.slice t4.A t4.n t4.c)).set_ 2 (.slice (some ⟨w4.heap.size, 0, none⟩) 0 0)).alloc (.cells #[] 2)
      obtain ⟨f0, f1, f2⟩ := hRf.c3
      have e3 := ho3.rd.1
      have e4 := ho4.rd.1
      rw [List.length_take] at e3 e4
      replace lt3 : ∀ k, Value.ownBlock (.slice t3.A t3.n t3.c) = some k → w2.heap.size ≤ k ∧ k < w3.heap.size := fun k hk => by have := lt3 k hk; (try simp at this); omega
      replace lt4 : ∀ k, Value.ownBlock (.slice t4.A t4.n t4.c) = some k → w3.heap.size ≤ k ∧ k < w4.heap.size := fun k hk => by have := lt4 k hk; (try simp at this); omega
      replace zz3 : w2.heap.size ≤ w3.heap.size := by (try simp at zz3); omega
      replace zz4 : w3.heap.size ≤ w4.heap.size := by (try simp at zz4); omega
      have hb5 := Blk.new (((w4.setCell ⟨w.heap.size + 1, 0, none⟩ (.slice t3.A t3.n t3.c)).setCell ⟨w.heap.size + 1, 1, none⟩ (.slice t4.A t4.n t4.c)).setCell ⟨w.heap.size + 1, 2, none⟩ (.slice (some ⟨w4.heap.size, 0, none⟩) 0 0)) 2 #[]
      rw [size_off, size_off, size_off] at hb5
      have o5 : Own ((((w4.setCell ⟨w.heap.size + 1, 0, none⟩ (.slice t3.A t3.n t3.c)).setCell ⟨w.heap.size + 1, 1, none⟩ (.slice t4.A t4.n t4.c)).setCell ⟨w.heap.size + 1, 2, none⟩ (.slice (some ⟨w4.heap.size, 0, none⟩) 0 0)).alloc (.cells #[] 2)) (w.heap.size + 1 + 1) (.slice (some ⟨w4.heap.size, 0, none⟩) 0 0) [] := Own.of_blk hb5 (by omega) 0 0 rfl (by omega) (by decide) rfl (by omega) rfl
      clear hb5
      go_wp2
      refine bodyPost_ret (v := .tuple #[.agg #[.slice (⟨t3, t4, ⟨some ⟨w4.heap.size, 0, none⟩, 0, 0⟩⟩ : S3).x.A (⟨t3, t4, ⟨some ⟨w4.heap.size, 0, none⟩, 0, 0⟩⟩ : S3).x.n (⟨t3, t4, ⟨some ⟨w4.heap.size, 0, none⟩, 0, 0⟩⟩ : S3).x.c, .slice (⟨t3, t4, ⟨some ⟨w4.heap.size, 0, none⟩, 0, 0⟩⟩ : S3).y.A (⟨t3, t4, ⟨some ⟨w4.heap.size, 0, none⟩, 0, 0⟩⟩ : S3).y.n (⟨t3, t4, ⟨some ⟨w4.heap.size, 0, none⟩, 0, 0⟩⟩ : S3).y.c, .slice (⟨t3, t4, ⟨some ⟨w4.heap.size, 0, none⟩, 0, 0⟩⟩ : S3).z.A (⟨t3, t4, ⟨some ⟨w4.heap.size, 0, none⟩, 0, 0⟩⟩ : S3).z.n (⟨t3, t4, ⟨some ⟨w4.heap.size, 0, none⟩, 0, 0⟩⟩ : S3).z.c], .int .i64 0]) (by simp [results, Tryz.results67, go_sem, f0, f1, f2]) rfl ⟨⟨t3, t4, ⟨some ⟨w4.heap.size, 0, none⟩, 0, 0⟩⟩, by rw [E2.out], ?ownC, ?extC⟩
      case extC => exact (((hX4.off (w.heap.size + 1) 0 (by omega) _).off _ 1 (by omega) _).off _ 2 (by omega) _).alloc _
      rw [E1.out]
      refine ⟨?_, ?_, ?_, ?_, ?_, ?_, ?_⟩
      · exact ((((ho3'.mono (lo' := w.heap.size + 1 + 1) (by first | omega | (simp; omega))).off _ 0 (by omega) _).off _ 1 (by omega) _).off _ 2 (by omega) _).alloc _ |>.mono (by omega)
      · exact ((((ho4.mono (lo' := w.heap.size + 1 + 1) (by first | omega | (simp; omega))).off _ 0 (by omega) _).off _ 1 (by omega) _).off _ 2 (by omega) _).alloc _ |>.mono (by omega)
      · exact o5.mono (by omega)
      · simp only
        omega
      · exact fun k h1 h2 => by have a1 := lt3 k h1; have a2 := lt4 k h2; omega
      · exact fun k h1 h2 => by have a1 := lt3 k h1; have a2 := ownBlock_eq h2; omega
      · exact fun k h1 h2 => by have a1 := lt4 k h1; have a2 := ownBlock_eq h2; omega
    · have hb5 : Blk w4 (w3.heap.size) 2 #[] := hb4
      have hX5 : Ext w4 w4 := by first | exact Ext.refl _ | exact (Ext.refl _).alloc _
      have hR5 := hR4.ext hX5
      have o3 := ho3'.ext hX5
      have o4 := ho4.ext hX5
      have hXf := hX4.trans hX5
      have hz5 := hX5.size
      have hRf := ((hR5.set_ 0 (.slice t3.A t3.n t3.c)).set_ 1 (.slice t4.A t4.n t4.c)).set_ 2 (.slice (some ⟨w3.heap.size, 0, none⟩) 0 0)
      obtain ⟨f0, f1, f2⟩ := hRf.c3
      have e3 := ho3.rd.1
      have e4 := ho4.rd.1
      rw [List.length_take] at e3 e4
      replace lt3 : ∀ k, Value.ownBlock (.slice t3.A t3.n t3.c) = some k → w2.heap.size ≤ k ∧ k < w3.heap.size := fun k hk => by have := lt3 k hk; (try simp at this); omega
      replace lt4 : ∀ k, Value.ownBlock (.slice t4.A t4.n t4.c) = some k → w3.heap.size + 1 ≤ k ∧ k < w4.heap.size := fun k hk => by have := lt4 k hk; (try simp at this); omega
      replace zz3 : w2.heap.size ≤ w3.heap.size := by (try simp at zz3); omega
      replace zz4 : w3.heap.size ≤ w4.heap.size := by (try simp at zz4); omega
      have o5 : Own w4 (w.heap.size + 1 + 1) (.slice (some ⟨w3.heap.size, 0, none⟩) 0 0) [] := Own.of_blk hb5 (by omega) 0 0 rfl (by omega) (by decide) rfl (by omega) rfl
      go_wp2
      refine bodyPost_ret (v := .tuple #[.agg #[.slice (⟨t3, t4, ⟨some ⟨w3.heap.size, 0, none⟩, 0, 0⟩⟩ : S3).x.A (⟨t3, t4, ⟨some ⟨w3.heap.size, 0, none⟩, 0, 0⟩⟩ : S3).x.n (⟨t3, t4, ⟨some ⟨w3.heap.size, 0, none⟩, 0, 0⟩⟩ : S3).x.c, .slice (⟨t3, t4, ⟨some ⟨w3.heap.size, 0, none⟩, 0, 0⟩⟩ : S3).y.A (⟨t3, t4, ⟨some ⟨w3.heap.size, 0, none⟩, 0, 0⟩⟩ : S3).y.n (⟨t3, t4, ⟨some ⟨w3.heap.size, 0, none⟩, 0, 0⟩⟩ : S3).y.c, .slice (⟨t3, t4, ⟨some ⟨w3.heap.size, 0, none⟩, 0, 0⟩⟩ : S3).z.A (⟨t3, t4, ⟨some ⟨w3.heap.size, 0, none⟩, 0, 0⟩⟩ : S3).z.n (⟨t3, t4, ⟨some ⟨w3.heap.size, 0, none⟩, 0, 0⟩⟩ : S3).z.c], .int .i64 0]) (by simp [results, Tryz.results67, go_sem, f0, f1, f2]) rfl ⟨⟨t3, t4, ⟨some ⟨w3.heap.size, 0, none⟩, 0, 0⟩⟩, by rw [E2.out], ?ownB, ?extB⟩
      case extB => exact ((hXf.off (w.heap.size + 1) 0 (by omega) _).off _ 1 (by omega) _).off _ 2 (by omega) _
      rw [E1.out]
      refine ⟨?_, ?_, ?_, ?_, ?_, ?_, ?_⟩
      · exact (((o3.mono (lo' := w.heap.size + 1 + 1) (by first | omega | (simp; omega))).off _ 0 (by omega) _).off _ 1 (by omega) _).off _ 2 (by omega) _ |>.mono (by omega)
      · exact (((o4.mono (lo' := w.heap.size + 1 + 1) (by first | omega | (simp; omega))).off _ 0 (by omega) _).off _ 1 (by omega) _).off _ 2 (by omega) _ |>.mono (by omega)
      · exact ((o5.off _ 0 (by omega) _).off _ 1 (by omega) _).off _ 2 (by omega) _ |>.mono (by omega)
      · simp only
        omega
      · exact fun k h1 h2 => by have a1 := lt3 k h1; have a2 := lt4 k h2; omega
      · exact fun k h1 h2 => by have a1 := lt3 k h1; have a2 := ownBlock_eq h2; omega
      · exact fun k h1 h2 => by have a1 := lt4 k h1; have a2 := ownBlock_eq h2; omega
    · have hb5 : Blk w4 (w2.heap.size) 2 #[] := hb4
      have hlt3 := hb3.lt
      have hX5 : Ext w4 w4 := by first | exact Ext.refl _ | exact (Ext.refl _).alloc _
      have hR5 := hR4.ext hX5
      have o3 := ho3'.ext hX5
      have o4 := ho4.ext hX5
      have hXf := hX4.trans hX5
      have hz5 := hX5.size
      have hRf := ((hR5.set_ 0 (.slice t3.A t3.n t3.c)).set_ 1 (.slice t4.A t4.n t4.c)).set_ 2 (.slice (some ⟨w2.heap.size, 0, none⟩) 0 0)
      obtain ⟨f0, f1, f2⟩ := hRf.c3
      have e3 := ho3.rd.1
      have e4 := ho4.rd.1
      rw [List.length_take] at e3 e4
      replace lt3 : ∀ k, Value.ownBlock (.slice t3.A t3.n t3.c) = some k → w2.heap.size + 1 ≤ k ∧ k < w3.heap.size := fun k hk => by have := lt3 k hk; (try simp at this); omega
      replace lt4 : ∀ k, Value.ownBlock (.slice t4.A t4.n t4.c) = some k → w3.heap.size ≤ k ∧ k < w4.heap.size := fun k hk => by have := lt4 k hk; (try simp at this); omega
      replace zz3 : w2.heap.size ≤ w3.heap.size := by (try simp at zz3); omega
      replace zz4 : w3.heap.size ≤ w4.heap.size := by (try simp at zz4); omega
      have o5 : Own w4 (w.heap.size + 1 + 1) (.slice (some ⟨w2.heap.size, 0, none⟩) 0 0) [] := Own.of_blk hb5 (by omega) 0 0 rfl (by omega) (by decide) rfl (by omega) rfl
      go_wp2
      refine bodyPost_ret (v := .tuple #[.agg #[.slice (⟨t3, t4, ⟨some ⟨w2.heap.size, 0, none⟩, 0, 0⟩⟩ : S3).x.A (⟨t3, t4, ⟨some ⟨w2.heap.size, 0, none⟩, 0, 0⟩⟩ : S3).x.n (⟨t3, t4, ⟨some ⟨w2.heap.size, 0, none⟩, 0, 0⟩⟩ : S3).x.c, .slice (⟨t3, t4, ⟨some ⟨w2.heap.size, 0, none⟩, 0, 0⟩⟩ : S3).y.A (⟨t3, t4, ⟨some ⟨w2.heap.size, 0, none⟩, 0, 0⟩⟩ : S3).y.n (⟨t3, t4, ⟨some ⟨w2.heap.size, 0, none⟩, 0, 0⟩⟩ : S3).y.c, .slice (⟨t3, t4, ⟨some ⟨w2.heap.size, 0, none⟩, 0, 0⟩⟩ : S3).z.A (⟨t3, t4, ⟨some ⟨w2.heap.size, 0, none⟩, 0, 0⟩⟩ : S3).z.n (⟨t3, t4, ⟨some ⟨w2.heap.size, 0, none⟩, 0, 0⟩⟩ : S3).z.c], .int .i64 0]) (by simp [results, Tryz.results67, go_sem, f0, f1, f2]) rfl ⟨⟨t3, t4, ⟨some ⟨w2.heap.size, 0, none⟩, 0, 0⟩⟩, by rw [E2.out], ?ownA, ?extA⟩
      case extA => exact ((hXf.off (w.heap.size + 1) 0 (by omega) _).off _ 1 (by omega) _).off _ 2 (by omega) _
      rw [E1.out]
      refine ⟨?_, ?_, ?_, ?_, ?_, ?_, ?_⟩
      · exact (((o3.mono (lo' := w.heap.size + 1 + 1) (by first | omega | (simp; omega))).off _ 0 (by omega) _).off _ 1 (by omega) _).off _ 2 (by omega) _ |>.mono (by omega)
      · exact (((o4.mono (lo' := w.heap.size + 1 + 1) (by first | omega | (simp; omega))).off _ 0 (by omega) _).off _ 1 (by omega) _).off _ 2 (by omega) _ |>.mono (by omega)
      · exact ((o5.off _ 0 (by omega) _).off _ 1 (by omega) _).off _ 2 (by omega) _ |>.mono (by omega)
      · simp only
        omega
      · exact fun k h1 h2 => by have a1 := lt3 k h1; have a2 := lt4 k h2; omega
      · exact fun k h1 h2 => by have a1 := lt3 k h1; have a2 := ownBlock_eq h2; omega
      · exact fun k h1 h2 => by have a1 := lt4 k h1; have a2 := ownBlock_eq h2; omega
  · have h2 := Rd.mid hrt hkj
    go_wp2_with (go_at_call 42; refine (spec.l01In_any _ _ _ _).mono ?_; rintro e w' ⟨rfl, rfl⟩)
    go_region_held3 (fun _ => True) (first | trivial | go_keep) (first | (go_at_call 62; have hYY := hY3; refine (spec.l01Own_any ⟨some ⟨_, _, none⟩, _, _⟩ _ _ (h2.ext (by first | exact hY3 | exact hY3.alloc _))).mono ?_; rintro e w4 ⟨t4, rfl, ho4, hx4⟩; have hX4 : Ext w w4 := Ext.trans (by first | exact hX3 | exact hX3.alloc _) hx4; have hR4 := Blk.ext (by first | exact hR3 | exact hR3.alloc _) hx4; have s4 := res3 hR4; have hY4 : Ext w3 w4 := Ext.trans (by first | exact Ext.refl _ | exact (Ext.refl _).alloc _) hx4; have ho3' := ho3.ext hY4; have zz4 := hY4.size; have zz3 := hY3.size; have lt4 := ho4.lt; have n4a : w.heap.size + 1 < w4.heap.size := (by have := hY4.size; omega); have n4b : ¬ w.heap.size + 1 = w4.heap.size := (by omega); have n4c : ¬ w4.heap.size = w.heap.size + 1 := (by omega); (try have hb4 : Blk w4 w2.heap.size 2 #[] := hb3.ext hx4); (try have hb4 : Blk w4 w3.heap.size 2 #[] := (Blk.new w3 2 #[]).ext hx4)) | (go_at_call 62; refine (spec.l01Own_any ⟨some ⟨_, _, none⟩, _, _⟩ _ _ (by first | exact h1.drew | exact h1.drew.alloc _)).mono ?_; rintro e w3 ⟨t3, rfl, ho3, hx3⟩; have hY3 : Ext w2 w3 := Ext.trans (by first | exact (Ext.refl w2).drew | exact (Ext.refl w2).drew.alloc _) hx3; have lt3 := ho3.lt; have hX3 := hX2.trans hY3; have hR3 := hR2.ext hY3; have s3 := res3 hR3; have n3a : w.heap.size + 1 < w3.heap.size := (by have := hY3.size; omega); have n3b : ¬ w.heap.size + 1 = w3.heap.size := (by omega); have n3c : ¬ w3.heap.size = w.heap.size + 1 := (by omega); (try have hb3 : Blk w3 w2.heap.size 2 #[] := (Blk.new w2.drew 2 #[]).ext hx3)))
    · have hRf := (((hR4.set_ 0 (.slice t3.A t3.n t3.c)).set_ 1 (.slice t4.A t4.n t4.c)).set_ 2 (.slice (some ⟨w4.heap.size, 0, none⟩) 0 0)).alloc (.cells #[] 2)
      obtain ⟨f0, f1, f2⟩ := hRf.c3
      have e3 := ho3.rd.1
      have e4 := ho4.rd.1
      rw [List.length_take] at e3 e4
      replace lt3 : ∀ k, Value.ownBlock (.slice t3.A t3.n t3.c) = some k → w2.heap.size ≤ k ∧ k < w3.heap.size := fun k hk => by have := lt3 k hk; (try simp at this); omega
      replace lt4 : ∀ k, Value.ownBlock (.slice t4.A t4.n t4.c) = some k → w3.heap.size ≤ k ∧ k < w4.heap.size := fun k hk => by have := lt4 k hk; (try simp at this); omega
      replace zz3 : w2.heap.size ≤ w3.heap.size := by (try simp at zz3); omega
      replace zz4 : w3.heap.size ≤ w4.heap.size := by (try simp at zz4); omega
      have hb5 := Blk.new (((w4.setCell ⟨w.heap.size + 1, 0, none⟩ (.slice t3.A t3.n t3.c)).setCell ⟨w.heap.size + 1, 1, none⟩ (.slice t4.A t4.n t4.c)).setCell ⟨w.heap.size + 1, 2, none⟩ (.slice (some ⟨w4.heap.size, 0, none⟩) 0 0)) 2 #[]
      rw [size_off, size_off, size_off] at hb5
      have o5 : Own ((((w4.setCell ⟨w.heap.size + 1, 0, none⟩ (.slice t3.A t3.n t3.c)).setCell ⟨w.heap.size + 1, 1, none⟩ (.slice t4.A t4.n t4.c)).setCell ⟨w.heap.size + 1, 2, none⟩ (.slice (some ⟨w4.heap.size, 0, none⟩) 0 0)).alloc (.cells #[] 2)) (w.heap.size + 1 + 1) (.slice (some ⟨w4.heap.size, 0, none⟩) 0 0) [] := Own.of_blk hb5 (by omega) 0 0 rfl (by omega) (by decide) rfl (by omega) rfl
      clear hb5
      go_wp2
      refine bodyPost_ret (v := .tuple #[.agg #[.slice (⟨t3, t4, ⟨some ⟨w4.heap.size, 0, none⟩, 0, 0⟩⟩ : S3).x.A (⟨t3, t4, ⟨some ⟨w4.heap.size, 0, none⟩, 0, 0⟩⟩ : S3).x.n (⟨t3, t4, ⟨some ⟨w4.heap.size, 0, none⟩, 0, 0⟩⟩ : S3).x.c, .slice (⟨t3, t4, ⟨some ⟨w4.heap.size, 0, none⟩, 0, 0⟩⟩ : S3).y.A (⟨t3, t4, ⟨some ⟨w4.heap.size, 0, none⟩, 0, 0⟩⟩ : S3).y.n (⟨t3, t4, ⟨some ⟨w4.heap.size, 0, none⟩, 0, 0⟩⟩ : S3).y.c, .slice (⟨t3, t4, ⟨some ⟨w4.heap.size, 0, none⟩, 0, 0⟩⟩ : S3).z.A (⟨t3, t4, ⟨some ⟨w4.heap.size, 0, none⟩, 0, 0⟩⟩ : S3).z.n (⟨t3, t4, ⟨some ⟨w4.heap.size, 0, none⟩, 0, 0⟩⟩ : S3).z.c], .int .i64 0]) (by simp [results, Tryz.results67, go_sem, f0, f1, f2]) rfl ⟨⟨t3, t4, ⟨some ⟨w4.heap.size, 0, none⟩, 0, 0⟩⟩, by rw [E2.out], ?ownC2, ?extC2⟩
      case extC2 => exact (((hX4.off (w.heap.size + 1) 0 (by omega) _).off _ 1 (by omega) _).off _ 2 (by omega) _).alloc _
      rw [E1.out]
      refine ⟨?_, ?_, ?_, ?_, ?_, ?_, ?_⟩
      · exact ((((ho3'.mono (lo' := w.heap.size + 1 + 1) (by first | omega | (simp; omega))).off _ 0 (by omega) _).off _ 1 (by omega) _).off _ 2 (by omega) _).alloc _ |>.mono (by omega)
      · exact ((((ho4.mono (lo' := w.heap.size + 1 + 1) (by first | omega | (simp; omega))).off _ 0 (by omega) _).off _ 1 (by omega) _).off _ 2 (by omega) _).alloc _ |>.mono (by omega)
      · exact o5.mono (by omega)
      · simp only
        omega
      · exact fun k h1 h2 => by have a1 := lt3 k h1; have a2 := lt4 k h2; omega
      · exact fun k h1 h2 => by have a1 := lt3 k h1; have a2 := ownBlock_eq h2; omega
      · exact fun k h1 h2 => by have a1 := lt4 k h1; have a2 := ownBlock_eq h2; omega
    · have hb5 : Blk w4 (w3.heap.size) 2 #[] := hb4
      have hX5 : Ext w4 w4 := by first | exact Ext.refl _ | exact (Ext.refl _).alloc _
      have hR5 := hR4.ext hX5
      have o3 := ho3'.ext hX5
      have o4 := ho4.ext hX5
      have hXf := hX4.trans hX5
      have hz5 := hX5.size
      have hRf := ((hR5.set_ 0 (.slice t3.A t3.n t3.c)).set_ 1 (.slice t4.A t4.n t4.c)).set_ 2 (.slice (some ⟨w3.heap.size, 0, none⟩) 0 0)
      obtain ⟨f0, f1, f2⟩ := hRf.c3
      have e3 := ho3.rd.1
      have e4 := ho4.rd.1
      rw [List.length_take] at e3 e4
      replace lt3 : ∀ k, Value.ownBlock (.slice t3.A t3.n t3.c) = some k → w2.heap.size ≤ k ∧ k < w3.heap.size := fun k hk => by have := lt3 k hk; (try simp at this); omega
      replace lt4 : ∀ k, Value.ownBlock (.slice t4.A t4.n t4.c) = some k → w3.heap.size + 1 ≤ k ∧ k < w4.heap.size := fun k hk => by have := lt4 k hk; (try simp at this); omega
      replace zz3 : w2.heap.size ≤ w3.heap.size := by (try simp at zz3); omega
      replace zz4 : w3.heap.size ≤ w4.heap.size := by (try simp at zz4); omega
      have o5 : Own w4 (w.heap.size + 1 + 1) (.slice (some ⟨w3.heap.size, 0, none⟩) 0 0) [] := Own.of_blk hb5 (by omega) 0 0 rfl (by omega) (by decide) rfl (by omega) rfl
      go_wp2
      refine bodyPost_ret (v := .tuple #[.agg #[.slice (⟨t3, t4, ⟨some ⟨w3.heap.size, 0, none⟩, 0, 0⟩⟩ : S3).x.A (⟨t3, t4, ⟨some ⟨w3.heap.size, 0, none⟩, 0, 0⟩⟩ : S3).x.n (⟨t3, t4, ⟨some ⟨w3.heap.size, 0, none⟩, 0, 0⟩⟩ : S3).x.c, .slice (⟨t3, t4, ⟨some ⟨w3.heap.size, 0, none⟩, 0, 0⟩⟩ : S3).y.A (⟨t3, t4, ⟨some ⟨w3.heap.size, 0, none⟩, 0, 0⟩⟩ : S3).y.n (⟨t3, t4, ⟨some ⟨w3.heap.size, 0, none⟩, 0, 0⟩⟩ : S3).y.c, .slice (⟨t3, t4, ⟨some ⟨w3.heap.size, 0, none⟩, 0, 0⟩⟩ : S3).z.A (⟨t3, t4, ⟨some ⟨w3.heap.size, 0, none⟩, 0, 0⟩⟩ : S3).z.n (⟨t3, t4, ⟨some ⟨w3.heap.size, 0, none⟩, 0, 0⟩⟩ : S3).z.c], .int .i64 0]) (by simp [results, Tryz.results67, go_sem, f0, f1, f2]) rfl ⟨⟨t3, t4, ⟨some ⟨w3.heap.size, 0, none⟩, 0, 0⟩⟩, by rw [E2.out], ?ownB2, ?extB2⟩
      case extB2 => exact ((hXf.off (w.heap.size + 1) 0 (by omega) _).off _ 1 (by omega) _).off _ 2 (by omega) _
      rw [E1.out]
      refine ⟨?_, ?_, ?_, ?_, ?_, ?_, ?_⟩
      · exact (((o3.mono (lo' := w.heap.size + 1 + 1) (by first | omega | (simp; omega))).off _ 0 (by omega) _).off _ 1 (by omega) _).off _ 2 (by omega) _ |>.mono (by omega)
      · exact (((o4.mono (lo' := w.heap.size + 1 + 1) (by first | omega | (simp; omega))).off _ 0 (by omega) _).off _ 1 (by omega) _).off _ 2 (by omega) _ |>.mono (by omega)
      · exact ((o5.off _ 0 (by omega) _).off _ 1 (by omega) _).off _ 2 (by omega) _ |>.mono (by omega)
      · simp only
        omega
      · exact fun k h1 h2 => by have a1 := lt3 k h1; have a2 := lt4 k h2; omega
      · exact fun k h1 h2 => by have a1 := lt3 k h1; have a2 := ownBlock_eq h2; omega
      · exact fun k h1 h2 => by have a1 := lt4 k h1; have a2 := ownBlock_eq h2; omega
    · have hb5 : Blk w4 (w2.heap.size) 2 #[] := hb4
      have hlt3 := hb3.lt
      have hX5 : Ext w4 w4 := by first | exact Ext.refl _ | exact (Ext.refl _).alloc _
      have hR5 := hR4.ext hX5
      have o3 := ho3'.ext hX5
      have o4 := ho4.ext hX5
      have hXf := hX4.trans hX5
      have hz5 := hX5.size
      have hRf := ((hR5.set_ 0 (.slice t3.A t3.n t3.c)).set_ 1 (.slice t4.A t4.n t4.c)).set_ 2 (.slice (some ⟨w2.heap.size, 0, none⟩) 0 0)
      obtain ⟨f0, f1, f2⟩ := hRf.c3
      have e3 := ho3.rd.1
      have e4 := ho4.rd.1
      rw [List.length_take] at e3 e4
      replace lt3 : ∀ k, Value.ownBlock (.slice t3.A t3.n t3.c) = some k → w2.heap.size + 1 ≤ k ∧ k < w3.heap.size := fun k hk => by have := lt3 k hk; (try simp at this); omega
      replace lt4 : ∀ k, Value.ownBlock (.slice t4.A t4.n t4.c) = some k → w3.heap.size ≤ k ∧ k < w4.heap.size := fun k hk => by have := lt4 k hk; (try simp at this); omega
      replace zz3 : w2.heap.size ≤ w3.heap.size := by (try simp at zz3); omega
      replace zz4 : w3.heap.size ≤ w4.heap.size := by (try simp at zz4); omega
      have o5 : Own w4 (w.heap.size + 1 + 1) (.slice (some ⟨w2.heap.size, 0, none⟩) 0 0) [] := Own.of_blk hb5 (by omega) 0 0 rfl (by omega) (by decide) rfl (by omega) rfl
      go_wp2
      refine bodyPost_ret (v := .tuple #[.agg #[.slice (⟨t3, t4, ⟨some ⟨w2.heap.size, 0, none⟩, 0, 0⟩⟩ : S3).x.A (⟨t3, t4, ⟨some ⟨w2.heap.size, 0, none⟩, 0, 0⟩⟩ : S3).x.n (⟨t3, t4, ⟨some ⟨w2.heap.size, 0, none⟩, 0, 0⟩⟩ : S3).x.c, .slice (⟨t3, t4, ⟨some ⟨w2.heap.size, 0, none⟩, 0, 0⟩⟩ : S3).y.A (⟨t3, t4, ⟨some ⟨w2.heap.size, 0, none⟩, 0, 0⟩⟩ : S3).y.n (⟨t3, t4, ⟨some ⟨w2.heap.size, 0, none⟩, 0, 0⟩⟩ : S3).y.c, .slice (⟨t3, t4, ⟨some ⟨w2.heap.size, 0, none⟩, 0, 0⟩⟩ : S3).z.A (⟨t3, t4, ⟨some ⟨w2.heap.size, 0, none⟩, 0, 0⟩⟩ : S3).z.n (⟨t3, t4, ⟨some ⟨w2.heap.size, 0, none⟩, 0, 0⟩⟩ : S3).z.c], .int .i64 0]) (by simp [results, Tryz.results67, go_sem, f0, f1, f2]) rfl ⟨⟨t3, t4, ⟨some ⟨w2.heap.size, 0, none⟩, 0, 0⟩⟩, by rw [E2.out], ?ownA2, ?extA2⟩
      case extA2 => exact ((hXf.off (w.heap.size + 1) 0 (by omega) _).off _ 1 (by omega) _).off _ 2 (by omega) _
      rw [E1.out]
      refine ⟨?_, ?_, ?_, ?_, ?_, ?_, ?_⟩
      · exact (((o3.mono (lo' := w.heap.size + 1 + 1) (by first | omega | (simp; omega))).off _ 0 (by omega) _).off _ 1 (by omega) _).off _ 2 (by omega) _ |>.mono (by omega)
      · exact (((o4.mono (lo' := w.heap.size + 1 + 1) (by first | omega | (simp; omega))).off _ 0 (by omega) _).off _ 1 (by omega) _).off _ 2 (by omega) _ |>.mono (by omega)
      · exact ((o5.off _ 0 (by omega) _).off _ 1 (by omega) _).off _ 2 (by omega) _ |>.mono (by omega)
      · simp only
        omega
      · exact fun k h1 h2 => by have a1 := lt3 k h1; have a2 := lt4 k h2; omega
      · exact fun k h1 h2 => by have a1 := lt3 k h1; have a2 := ownBlock_eq h2; omega
      · exact fun k h1 h2 => by have a1 := lt4 k h1; have a2 := ownBlock_eq h2; omega
end Go.Proofs.YtofglgfjlbehmaaGreat.mem
