/-
  Contracts of both programs' functions on records that only look: increasing, areNumbers, areMoves, areStrikes, IsRecord, commitment, IsHonest.
-/
import Derived.Test.YtofglgfjlbehmaaGreatList
import Derived.BigQuiet
import Derived.Deep.QuietTactic
import Derived.Deep.RegionHeld3
namespace Go.Proofs.YtofglgfjlbehmaaGreat.mem
open Go.ChangeShapes Go.WideShapes Go.ChangeAt Go.RowKit

structure RecA where
  a : Int
  b : Int
  c : Int
  p : S3
  d : Int
  e : Int
  f : Int
structure RecL where
  a : Int
  b : Int
  c : Int
  p : L3
  d : Int
  e : Int
  f : Int
def RdR (w : World) (x : RecA) (y : RecL) : Prop := Rd3 w x.p y.p ∧ x.a = y.a ∧ x.b = y.b ∧ x.c = y.c ∧ x.d = y.d ∧ x.e = y.e ∧ x.f = y.f
theorem RdR.ext {w w' : World} {x : RecA} {y : RecL} (h : RdR w x y) (hx : Ext w w') : RdR w' x y := ⟨h.1.ext hx, h.2⟩
/-- the test of one index: in range, and greater than the one ahead -/
def upAt (xs : List Int) (k : Nat) : Bool := inB (xs.getD k 0) 1 1000000 && (decide (k = 0) || decide (xs.getD (k - 1) 0 < xs.getD k 0))
def incB (xs : List Int) : Bool := (List.range xs.length).all (upAt xs)
def movB (xs : List Int) : Bool := xs.all (fun m => inB m (-1) 11)
def strB (xs : List Int) : Bool := decide (xs.length = 2) && (inB (xs.getD 0 0) 0 10 && inB (xs.getD 1 0) 0 10)
def okR (y : RecL) : Bool :=
  inB y.a 0 2147483646 && (inB y.b 1 2147483646 && (inB y.c 0 2147483646 && (decide (y.p.x.length ≤ 60) && (incB y.p.x && (inB y.d 1 12 && (strB y.p.y && (decide (y.p.z.length ≤ 40) && (movB y.p.z && (inB y.e 1 12 && inB y.f 0 6)))))))))
theorem incB_no {xs : List Int} {k : Nat} (hk : k < xs.length) (h : upAt xs k = false) : incB xs = false := by
  unfold incB
  rw [List.all_eq_false]
  exact ⟨k, List.mem_range.2 hk, by rw [h]; exact Bool.false_ne_true⟩
theorem incB_yes {xs : List Int} (h : ∀ k, k < xs.length → upAt xs k = true) : incB xs = true := by
  unfold incB
  rw [List.all_eq_true]
  exact fun k hk => h k (List.mem_range.1 hk)
theorem movB_no {xs : List Int} {k : Nat} {x : Int} (h : xs[k]? = some x) (hn : inB x (-1) 11 = false) : movB xs = false := by
  unfold movB
  rw [List.all_eq_false]
  exact ⟨x, List.mem_of_getElem? h, by rw [hn]; exact Bool.false_ne_true⟩
theorem movB_yes {xs : List Int} (h : ∀ (j : Nat) (x : Int), j < xs.length → xs[j]? = some x → inB x (-1) 11 = true) : movB xs = true := by
  unfold movB
  rw [List.all_eq_true]
  intro x hx
  obtain ⟨j, hj⟩ := List.mem_iff_getElem?.1 hx
  exact h j x (List.getElem?_eq_some_iff.1 hj).1 hj
theorem uptoR_more {P : Nat → Prop} {k : Nat} (h : ∀ j, j < k → P j) (hk : P k) : ∀ j, j < k + 1 → P j := fun j hj => by
  rcases Nat.lt_or_ge j k with hlt | hge
  · exact h j hlt
  · obtain rfl : j = k := by omega
    exact hk
theorem uptoM_more {P : Int → Prop} {l : List Int} {k : Nat} {x : Int} (h : ∀ (j : Nat) (y : Int), j < k → l[j]? = some y → P y) (hk : l[k]? = some x) (hx : P x) : ∀ (j : Nat) (y : Int), j < k + 1 → l[j]? = some y → P y := fun j y hj hy => by
  rcases Nat.lt_or_ge j k with hlt | hge
  · exact h j y hlt hy
  · obtain rfl : j = k := by omega
    rw [hk] at hy
    injection hy with hy
    exact hy ▸ hx
theorem getD_of {xs : List Int} {k : Nat} {x : Int} (h : xs[k]? = some x) : xs.getD k 0 = x := by
  rw [List.getD_eq_getElem?_getD, h]; rfl
/-- two numbers -/
def TwoR (w : World) (A : Option Addr) (a b : Int) : Prop := ∃ k off, A = some ⟨k, off, none⟩ ∧ k < w.heap.size ∧ w.cell? ⟨k, off, none⟩ = some (.int .i64 a) ∧ w.cell? ⟨k, off + 1, none⟩ = some (.int .i64 b)
theorem Rd.twoR {w : World} {A : Option Addr} {n : Nat} {xs : List Int} (hr : Rd w A n xs) (h2 : n = 2) : TwoR w A (xs.getD 0 0) (xs.getD 1 0) := by
  obtain ⟨b, off, hA, hb, hc0⟩ := hr.at_ (k := 0) (by omega)
  obtain ⟨b', off', hA', _, hc1⟩ := hr.at_ (k := 1) (by omega)
  rw [hA] at hA'
  injection hA' with e
  injection e with e1 e2
  subst e1 e2
  exact ⟨b, off, hA, hb, hc0, hc1⟩
theorem impl.isSalt_any (n : Int) (w : World) : Calls Tryz.prog 50 #[.int .i64 n] w fun e w' => e = .returned (.bool (inB n 0 2147483646)) ∧ w = w' := by
  go_enter Tryz.func50, Tryz.ntmps50
  go_wp2_with (go_at_call 39; refine (impl.within_any _ _ _ _).mono ?_; rintro e w' ⟨rfl, rfl⟩)
  go_ret
  exact ⟨rfl, rfl⟩
theorem impl.isState_any (n : Int) (w : World) : Calls Tryz.prog 51 #[.int .i64 n] w fun e w' => e = .returned (.bool (inB n 1 2147483646)) ∧ w = w' := by
  go_enter Tryz.func51, Tryz.ntmps51
  go_wp2_with (go_at_call 39; refine (impl.within_any _ _ _ _).mono ?_; rintro e w' ⟨rfl, rfl⟩)
  go_ret
  exact ⟨rfl, rfl⟩
theorem spec.l03Is_any (n : Int) (w : World) : Calls Tryz.prog 85 #[.int .i64 n] w fun e w' => e = .returned (.bool (inB n 1 2147483646)) ∧ w = w' := by
  go_enter Tryz.func85, Tryz.ntmps85
  go_wp2_with (go_at_call 42; refine (spec.l01In_any _ _ _ _).mono ?_; rintro e w' ⟨rfl, rfl⟩)
  go_ret
  exact ⟨rfl, rfl⟩
set_option maxHeartbeats 1000000 in
theorem impl.increasing_any (s : Sl) (xs : List Int) (w : World) (hr : Rd w s.A s.n xs) :
    Calls Tryz.prog 86 #[.slice s.A s.n s.c, .int .i64 1, .int .i64 1000000] w fun e w' => e = .returned (.bool (incB xs)) ∧ w = w' := by
  obtain ⟨A, n, c⟩ := s
  simp only at hr ⊢
  have hn := hr.le
  go_enter Tryz.func86, Tryz.ntmps86
  go_wp2
  go_loop [7, 8, 11] (fun _ _ i => ∃ k : Nat, k ≤ n ∧ i = .int .i64 k ∧ Hid (∀ j, j < k → upAt xs j = true)) (fun _ _ i => n - (intOf i).toNat)
  case atStart => exact ⟨0, by omega, rfl, hide fun j h => absurd h (by omega)⟩
  case round =>
    obtain ⟨k, hk, rfl, hno⟩ := hrel
    by_cases hlt : k < n
    · obtain ⟨b, off, y, rfl, hbl, hc1, hy⟩ := hr.el hlt
      have hkl := hide (show k < xs.length by have := hr.1; omega)
      cases b1 : inB y 1 1000000
      · have hf := hide (incB_no hkl.out (show upAt xs k = false by unfold upAt; rw [getD_of hy.out, b1]; rfl))
        go_wp2_with (go_at_call 39; refine (impl.within_any _ _ _ _).mono ?_; rintro e w' ⟨rfl, rfl⟩)
        go_ret
        exact ⟨by rw [hf.out]; rfl, rfl⟩
      rcases Nat.eq_zero_or_pos k with hz | hz
      · subst hz
        rw [Nat.add_zero] at hc1
        have hm := hide (uptoR_more hno.out (show upAt xs 0 = true by unfold upAt; rw [getD_of hy.out, b1]; rfl))
        go_wp2_with (go_at_call 39; refine (impl.within_any _ _ _ _).mono ?_; rintro e w' ⟨rfl, rfl⟩)
        go_round
        case rel => exact ⟨1, by omega, by go_num, hm⟩
        case measure => simp [intOf]; omega
      · obtain ⟨j, rfl⟩ : ∃ j, k = j + 1 := ⟨k - 1, by omega⟩
        obtain ⟨b', off', z, hbe, _, hc0, hyz⟩ := hr.el (show j < n by omega)
        injection hbe with hbe
        injection hbe with e1 e2
        subst e1 e2
        by_cases hlz : z < y
        · have hm := hide (uptoR_more hno.out (show upAt xs (j + 1) = true by unfold upAt; rw [getD_of hy.out, b1, show j + 1 - 1 = j from rfl, getD_of hyz.out, decide_eq_true hlz]; simp))
          go_wp2_with (go_at_call 39; refine (impl.within_any _ _ _ _).mono ?_; rintro e w' ⟨rfl, rfl⟩)
          go_round
          case rel => exact ⟨j + 1 + 1, by omega, by go_num, hm⟩
          case measure => simp [intOf]; omega
        · have hf := hide (incB_no hkl.out (show upAt xs (j + 1) = false by unfold upAt; rw [getD_of hy.out, b1, show j + 1 - 1 = j from rfl, getD_of hyz.out, decide_eq_false hlz]; simp))
          go_wp2_with (go_at_call 39; refine (impl.within_any _ _ _ _).mono ?_; rintro e w' ⟨rfl, rfl⟩)
          go_ret
          exact ⟨by rw [hf.out]; rfl, rfl⟩
    · have e : k = n := by omega
      subst e
      have hf := hide (incB_yes (by rw [← hr.1]; exact hno.out))
      go_wp2
      go_ret
      exact ⟨by rw [hf.out]; rfl, rfl⟩
theorem impl.areNumbers_any (s : Sl) (xs : List Int) (w : World) (hr : Rd w s.A s.n xs) :
    Calls Tryz.prog 52 #[.slice s.A s.n s.c, .int .i64 60] w fun e w' => e = .returned (.bool (decide (xs.length ≤ 60) && incB xs)) ∧ w = w' := by
  obtain ⟨A, n, c⟩ := s
  have hl := hr.1
  have hn := hr.le
  simp only at hl hn
  have kf := impl.few_any (n : Int) 60 w
  cases h : decide (xs.length ≤ 60)
  · rw [show decide ((n : Int) ≤ 60) = false by rw [hl]; simp at h ⊢; omega] at kf
    clear hl
    go_enter Tryz.func52, Tryz.ntmps52
    go_wp2_with (go_at_call 55; refine kf.mono ?_; rintro e w' ⟨rfl, rfl⟩)
    go_ret
    exact ⟨rfl, rfl⟩
  · rw [show decide ((n : Int) ≤ 60) = true by rw [hl]; simp at h ⊢; omega] at kf
    clear hl
    go_enter Tryz.func52, Tryz.ntmps52
    go_wp2_with (first | (go_at_call 55; refine kf.mono ?_; rintro e w' ⟨rfl, rfl⟩) | (go_at_call 86; refine (impl.increasing_any ⟨_, _, _⟩ xs _ hr).mono ?_; rintro e w' ⟨rfl, rfl⟩))
    go_ret
    exact ⟨by simp, rfl⟩
theorem impl.areMoves_any (s : Sl) (xs : List Int) (w : World) (hr : Rd w s.A s.n xs) :
    Calls Tryz.prog 56 #[.slice s.A s.n s.c] w fun e w' => e = .returned (.bool (movB xs)) ∧ w = w' := by
  obtain ⟨A, n, c⟩ := s
  simp only at hr ⊢
  have hn := hr.le
  go_enter Tryz.func56, Tryz.ntmps56
  go_wp2
  go_loop [4, 7] (fun _ i => ∃ k : Nat, k ≤ n ∧ i = .int .i64 k ∧ Hid (∀ (j : Nat) (x : Int), j < k → xs[j]? = some x → inB x (-1) 11 = true)) (fun _ i => n - (intOf i).toNat)
  case atStart => exact ⟨0, by omega, rfl, hide fun j x h => absurd h (by omega)⟩
  case round =>
    obtain ⟨k, hk, rfl, hno⟩ := hrel
    by_cases hlt : k < n
    · obtain ⟨b, off, y, rfl, hbl, hc1, hy⟩ := hr.el hlt
      cases b1 : inB y (-1) 11
      · have hf := hide (movB_no hy.out b1)
        go_wp2_with (go_at_call 39; refine (impl.within_any _ _ _ _).mono ?_; rintro e w' ⟨rfl, rfl⟩)
        go_ret
        exact ⟨by rw [hf.out]; rfl, rfl⟩
      · have hm := hide (uptoM_more (P := fun x => inB x (-1) 11 = true) hno.out hy.out b1)
        go_wp2_with (go_at_call 39; refine (impl.within_any _ _ _ _).mono ?_; rintro e w' ⟨rfl, rfl⟩)
        go_round
        case rel => exact ⟨k + 1, by omega, by go_num, hm⟩
        case measure => simp [intOf]; omega
    · have e : k = n := by omega
      subst e
      have hf := hide (movB_yes (by rw [← hr.1]; exact hno.out))
      go_wp2
      go_ret
      exact ⟨by rw [hf.out]; rfl, rfl⟩
theorem impl.areStrikesR_any (s : Sl) (xs : List Int) (w : World) (hr : Rd w s.A s.n xs) :
    Calls Tryz.prog 54 #[.slice s.A s.n s.c] w fun e w' => e = .returned (.bool (strB xs)) ∧ w = w' := by
  obtain ⟨A, n, c⟩ := s
  simp only at hr ⊢
  by_cases h2 : n = 2
  · obtain ⟨b, off, hA, _, hc0, hc1⟩ := hr.twoR h2
    subst h2 hA
    have hk := hide (show strB xs = (inB (xs.getD 0 0) 0 10 && inB (xs.getD 1 0) 0 10) by unfold strB; rw [← hr.1]; rfl)
    revert hc0 hc1 hk
    generalize xs.getD 0 0 = a
    generalize xs.getD 1 0 = d
    intro hc0 hc1 hk
    cases b1 : inB a 0 10 <;> cases b2 : inB d 0 10
    all_goals
      go_enter Tryz.func54, Tryz.ntmps54
      go_wp2_with (go_at_call 39; refine (impl.within_any _ _ _ _).mono ?_; rintro e w' ⟨rfl, rfl⟩)
      go_ret
      exact ⟨by rw [hk.out, b1, b2]; rfl, rfl⟩
  · have hne : ((n : Int) == 2) = false := by simp; omega
    have hk := hide (show strB xs = false by unfold strB; rw [← hr.1, decide_eq_false h2]; rfl)
    clear h2
    go_enter Tryz.func54, Tryz.ntmps54
    go_wp2
    go_ret
    exact ⟨by rw [hk.out]; rfl, rfl⟩
set_option maxHeartbeats 4000000 in
theorem impl.IsRecord_any (x : RecA) (y : RecL) (w : World) (hr : RdR w x y) :
    Calls Tryz.prog 20 #[.agg #[.int .i64 x.a, .int .i64 x.b, .int .i64 x.c, .slice x.p.x.A x.p.x.n x.p.x.c, .int .i64 x.d, .slice x.p.y.A x.p.y.n x.p.y.c, .slice x.p.z.A x.p.z.n x.p.z.c, .int .i64 x.e, .int .i64 x.f]] w fun e w' => e = .returned (.bool (okR y)) ∧ Ext w w' := by
  obtain ⟨a, b, c, ⟨⟨A1, n1, c1⟩, ⟨A2, n2, c2⟩, ⟨A3, n3, c3⟩⟩, d, e, f⟩ := x
  obtain ⟨a', b', c', ⟨xs, ys, zs⟩, d', e', f'⟩ := y
  obtain ⟨⟨rx, ry, rz, hs, cx, cy, cz⟩, rfl, rfl, rfl, rfl, rfl, rfl⟩ := hr
  simp only at rx ry rz hs ⊢
  have hX := (Ext.refl w).alloc (.cells #[.int .i64 a, .int .i64 b, .int .i64 c, .slice A1 n1 c1, .int .i64 d, .slice A2 n2 c2, .slice A3 n3 c3, .int .i64 e, .int .i64 f] 26)
  obtain ⟨q0, q1, q2, q3, q4, q5, q6, q7, q8⟩ := (Blk.new w 26 (#[.int .i64 a, .int .i64 b, .int .i64 c, .slice A1 n1 c1, .int .i64 d, .slice A2 n2 c2, .slice A3 n3 c3, .int .i64 e, .int .i64 f])).c9
  have E := hide (show okR ⟨a, b, c, ⟨xs, ys, zs⟩, d, e, f⟩ = (inB a 0 2147483646 && (inB b 1 2147483646 && (inB c 0 2147483646 && (decide (xs.length ≤ 60) && (incB xs && (inB d 1 12 && (strB ys && (decide (zs.length ≤ 40) && (movB zs && (inB e 1 12 && inB f 0 6)))))))))) from rfl)
  have hz3 := hide rz.1
  have kn := impl.areNumbers_any ⟨A1, n1, c1⟩ xs _ (rx.ext hX)
  have ks := impl.areStrikesR_any ⟨A2, n2, c2⟩ ys _ (ry.ext hX)
  have km := impl.areMoves_any ⟨A3, n3, c3⟩ zs _ (rz.ext hX)
  have kf := fun W => impl.few_any (n3 : Int) 40 W
  have l3 := rz.le
  simp only at kn ks km
  revert kn
  generalize hB : (decide (xs.length ≤ 60) && incB xs) = nb
  intro kn
  have E' := hide (show (decide (xs.length ≤ 60) && (incB xs && (inB d 1 12 && (strB ys && (decide (zs.length ≤ 40) && (movB zs && (inB e 1 12 && inB f 0 6))))))) = (nb && (inB d 1 12 && (strB ys && (decide (zs.length ≤ 40) && (movB zs && (inB e 1 12 && inB f 0 6)))))) by rw [← hB, Bool.and_assoc])
  clear hB rx ry rz
  cases b1 : inB a 0 2147483646
  · go_enter Tryz.func20, Tryz.ntmps20
    go_wp2_with (first | (go_at_call 50; refine (impl.isSalt_any _ _).mono ?_; rintro e w' ⟨rfl, rfl⟩) | (go_at_call 51; refine (impl.isState_any _ _).mono ?_; rintro e w' ⟨rfl, rfl⟩) | (go_at_call 52; refine kn.mono ?_; rintro e w' ⟨rfl, rfl⟩) | (go_at_call 53; refine (impl.isSeats_any _ _).mono ?_; rintro e w' ⟨rfl, rfl⟩) | (go_at_call 54; refine ks.mono ?_; rintro e w' ⟨rfl, rfl⟩) | (go_at_call 55; refine (kf _).mono ?_; rintro e w' ⟨rfl, rfl⟩) | (go_at_call 56; refine km.mono ?_; rintro e w' ⟨rfl, rfl⟩) | (go_at_call 57; refine (impl.isAlternates_any _ _).mono ?_; rintro e w' ⟨rfl, rfl⟩))
    go_ret
    exact ⟨by rw [E.out, E'.out]; simp [b1], hX⟩
  cases b2 : inB b 1 2147483646
  · go_enter Tryz.func20, Tryz.ntmps20
    go_wp2_with (first | (go_at_call 50; refine (impl.isSalt_any _ _).mono ?_; rintro e w' ⟨rfl, rfl⟩) | (go_at_call 51; refine (impl.isState_any _ _).mono ?_; rintro e w' ⟨rfl, rfl⟩) | (go_at_call 52; refine kn.mono ?_; rintro e w' ⟨rfl, rfl⟩) | (go_at_call 53; refine (impl.isSeats_any _ _).mono ?_; rintro e w' ⟨rfl, rfl⟩) | (go_at_call 54; refine ks.mono ?_; rintro e w' ⟨rfl, rfl⟩) | (go_at_call 55; refine (kf _).mono ?_; rintro e w' ⟨rfl, rfl⟩) | (go_at_call 56; refine km.mono ?_; rintro e w' ⟨rfl, rfl⟩) | (go_at_call 57; refine (impl.isAlternates_any _ _).mono ?_; rintro e w' ⟨rfl, rfl⟩))
    go_ret
    exact ⟨by rw [E.out, E'.out]; simp [b1, b2], hX⟩
  cases b3 : inB c 0 2147483646
  · go_enter Tryz.func20, Tryz.ntmps20
    go_wp2_with (first | (go_at_call 50; refine (impl.isSalt_any _ _).mono ?_; rintro e w' ⟨rfl, rfl⟩) | (go_at_call 51; refine (impl.isState_any _ _).mono ?_; rintro e w' ⟨rfl, rfl⟩) | (go_at_call 52; refine kn.mono ?_; rintro e w' ⟨rfl, rfl⟩) | (go_at_call 53; refine (impl.isSeats_any _ _).mono ?_; rintro e w' ⟨rfl, rfl⟩) | (go_at_call 54; refine ks.mono ?_; rintro e w' ⟨rfl, rfl⟩) | (go_at_call 55; refine (kf _).mono ?_; rintro e w' ⟨rfl, rfl⟩) | (go_at_call 56; refine km.mono ?_; rintro e w' ⟨rfl, rfl⟩) | (go_at_call 57; refine (impl.isAlternates_any _ _).mono ?_; rintro e w' ⟨rfl, rfl⟩))
    go_ret
    exact ⟨by rw [E.out, E'.out]; simp [b1, b2, b3], hX⟩
  cases b4 : nb
  · go_enter Tryz.func20, Tryz.ntmps20
    go_wp2_with (first | (go_at_call 50; refine (impl.isSalt_any _ _).mono ?_; rintro e w' ⟨rfl, rfl⟩) | (go_at_call 51; refine (impl.isState_any _ _).mono ?_; rintro e w' ⟨rfl, rfl⟩) | (go_at_call 52; refine kn.mono ?_; rintro e w' ⟨rfl, rfl⟩) | (go_at_call 53; refine (impl.isSeats_any _ _).mono ?_; rintro e w' ⟨rfl, rfl⟩) | (go_at_call 54; refine ks.mono ?_; rintro e w' ⟨rfl, rfl⟩) | (go_at_call 55; refine (kf _).mono ?_; rintro e w' ⟨rfl, rfl⟩) | (go_at_call 56; refine km.mono ?_; rintro e w' ⟨rfl, rfl⟩) | (go_at_call 57; refine (impl.isAlternates_any _ _).mono ?_; rintro e w' ⟨rfl, rfl⟩))
    go_ret
    exact ⟨by rw [E.out, E'.out]; simp [b1, b2, b3, b4], hX⟩
  cases b5 : inB d 1 12
  · go_enter Tryz.func20, Tryz.ntmps20
    go_wp2_with (first | (go_at_call 50; refine (impl.isSalt_any _ _).mono ?_; rintro e w' ⟨rfl, rfl⟩) | (go_at_call 51; refine (impl.isState_any _ _).mono ?_; rintro e w' ⟨rfl, rfl⟩) | (go_at_call 52; refine kn.mono ?_; rintro e w' ⟨rfl, rfl⟩) | (go_at_call 53; refine (impl.isSeats_any _ _).mono ?_; rintro e w' ⟨rfl, rfl⟩) | (go_at_call 54; refine ks.mono ?_; rintro e w' ⟨rfl, rfl⟩) | (go_at_call 55; refine (kf _).mono ?_; rintro e w' ⟨rfl, rfl⟩) | (go_at_call 56; refine km.mono ?_; rintro e w' ⟨rfl, rfl⟩) | (go_at_call 57; refine (impl.isAlternates_any _ _).mono ?_; rintro e w' ⟨rfl, rfl⟩))
    go_ret
    exact ⟨by rw [E.out, E'.out]; simp [b1, b2, b3, b4, b5], hX⟩
  cases b6 : strB ys
  · go_enter Tryz.func20, Tryz.ntmps20
    go_wp2_with (first | (go_at_call 50; refine (impl.isSalt_any _ _).mono ?_; rintro e w' ⟨rfl, rfl⟩) | (go_at_call 51; refine (impl.isState_any _ _).mono ?_; rintro e w' ⟨rfl, rfl⟩) | (go_at_call 52; refine kn.mono ?_; rintro e w' ⟨rfl, rfl⟩) | (go_at_call 53; refine (impl.isSeats_any _ _).mono ?_; rintro e w' ⟨rfl, rfl⟩) | (go_at_call 54; refine ks.mono ?_; rintro e w' ⟨rfl, rfl⟩) | (go_at_call 55; refine (kf _).mono ?_; rintro e w' ⟨rfl, rfl⟩) | (go_at_call 56; refine km.mono ?_; rintro e w' ⟨rfl, rfl⟩) | (go_at_call 57; refine (impl.isAlternates_any _ _).mono ?_; rintro e w' ⟨rfl, rfl⟩))
    go_ret
    exact ⟨by rw [E.out, E'.out]; simp [b1, b2, b3, b4, b5, b6], hX⟩
  by_cases h40 : zs.length ≤ 40
  case neg =>
    have h7 : decide (zs.length ≤ 40) = false := decide_eq_false h40
    have kf7 : decide ((n3 : Int) ≤ 40) = false := by rw [hz3.out]; simp; omega
    simp only [kf7] at kf
    clear h40 kf7
    go_enter Tryz.func20, Tryz.ntmps20
    go_wp2_with (first | (go_at_call 50; refine (impl.isSalt_any _ _).mono ?_; rintro e w' ⟨rfl, rfl⟩) | (go_at_call 51; refine (impl.isState_any _ _).mono ?_; rintro e w' ⟨rfl, rfl⟩) | (go_at_call 52; refine kn.mono ?_; rintro e w' ⟨rfl, rfl⟩) | (go_at_call 53; refine (impl.isSeats_any _ _).mono ?_; rintro e w' ⟨rfl, rfl⟩) | (go_at_call 54; refine ks.mono ?_; rintro e w' ⟨rfl, rfl⟩) | (go_at_call 55; refine (kf _).mono ?_; rintro e w' ⟨rfl, rfl⟩) | (go_at_call 56; refine km.mono ?_; rintro e w' ⟨rfl, rfl⟩) | (go_at_call 57; refine (impl.isAlternates_any _ _).mono ?_; rintro e w' ⟨rfl, rfl⟩))
    go_ret
    exact ⟨by rw [E.out, E'.out]; simp [b1, b2, b3, b4, b5, b6, h7], hX⟩
  have h7 : decide (zs.length ≤ 40) = true := decide_eq_true h40
  have kf7 : decide ((n3 : Int) ≤ 40) = true := by rw [hz3.out]; simp; omega
  simp only [kf7] at kf
  clear h40 kf7
  cases b8 : movB zs
  · go_enter Tryz.func20, Tryz.ntmps20
    go_wp2_with (first | (go_at_call 50; refine (impl.isSalt_any _ _).mono ?_; rintro e w' ⟨rfl, rfl⟩) | (go_at_call 51; refine (impl.isState_any _ _).mono ?_; rintro e w' ⟨rfl, rfl⟩) | (go_at_call 52; refine kn.mono ?_; rintro e w' ⟨rfl, rfl⟩) | (go_at_call 53; refine (impl.isSeats_any _ _).mono ?_; rintro e w' ⟨rfl, rfl⟩) | (go_at_call 54; refine ks.mono ?_; rintro e w' ⟨rfl, rfl⟩) | (go_at_call 55; refine (kf _).mono ?_; rintro e w' ⟨rfl, rfl⟩) | (go_at_call 56; refine km.mono ?_; rintro e w' ⟨rfl, rfl⟩) | (go_at_call 57; refine (impl.isAlternates_any _ _).mono ?_; rintro e w' ⟨rfl, rfl⟩))
    go_ret
    exact ⟨by rw [E.out, E'.out]; simp [b1, b2, b3, b4, b5, b6, h7, b8], hX⟩
  cases b9 : inB e 1 12
  · go_enter Tryz.func20, Tryz.ntmps20
    go_wp2_with (first | (go_at_call 50; refine (impl.isSalt_any _ _).mono ?_; rintro e w' ⟨rfl, rfl⟩) | (go_at_call 51; refine (impl.isState_any _ _).mono ?_; rintro e w' ⟨rfl, rfl⟩) | (go_at_call 52; refine kn.mono ?_; rintro e w' ⟨rfl, rfl⟩) | (go_at_call 53; refine (impl.isSeats_any _ _).mono ?_; rintro e w' ⟨rfl, rfl⟩) | (go_at_call 54; refine ks.mono ?_; rintro e w' ⟨rfl, rfl⟩) | (go_at_call 55; refine (kf _).mono ?_; rintro e w' ⟨rfl, rfl⟩) | (go_at_call 56; refine km.mono ?_; rintro e w' ⟨rfl, rfl⟩) | (go_at_call 57; refine (impl.isAlternates_any _ _).mono ?_; rintro e w' ⟨rfl, rfl⟩))
    go_ret
    exact ⟨by rw [E.out, E'.out]; simp [b1, b2, b3, b4, b5, b6, h7, b8, b9], hX⟩
  cases b10 : inB f 0 6
  · go_enter Tryz.func20, Tryz.ntmps20
    go_wp2_with (first | (go_at_call 50; refine (impl.isSalt_any _ _).mono ?_; rintro e w' ⟨rfl, rfl⟩) | (go_at_call 51; refine (impl.isState_any _ _).mono ?_; rintro e w' ⟨rfl, rfl⟩) | (go_at_call 52; refine kn.mono ?_; rintro e w' ⟨rfl, rfl⟩) | (go_at_call 53; refine (impl.isSeats_any _ _).mono ?_; rintro e w' ⟨rfl, rfl⟩) | (go_at_call 54; refine ks.mono ?_; rintro e w' ⟨rfl, rfl⟩) | (go_at_call 55; refine (kf _).mono ?_; rintro e w' ⟨rfl, rfl⟩) | (go_at_call 56; refine km.mono ?_; rintro e w' ⟨rfl, rfl⟩) | (go_at_call 57; refine (impl.isAlternates_any _ _).mono ?_; rintro e w' ⟨rfl, rfl⟩))
    go_ret
    exact ⟨by rw [E.out, E'.out]; simp [b1, b2, b3, b4, b5, b6, h7, b8, b9, b10], hX⟩
  go_enter Tryz.func20, Tryz.ntmps20
  go_wp2_with (first | (go_at_call 50; refine (impl.isSalt_any _ _).mono ?_; rintro e w' ⟨rfl, rfl⟩) | (go_at_call 51; refine (impl.isState_any _ _).mono ?_; rintro e w' ⟨rfl, rfl⟩) | (go_at_call 52; refine kn.mono ?_; rintro e w' ⟨rfl, rfl⟩) | (go_at_call 53; refine (impl.isSeats_any _ _).mono ?_; rintro e w' ⟨rfl, rfl⟩) | (go_at_call 54; refine ks.mono ?_; rintro e w' ⟨rfl, rfl⟩) | (go_at_call 55; refine (kf _).mono ?_; rintro e w' ⟨rfl, rfl⟩) | (go_at_call 56; refine km.mono ?_; rintro e w' ⟨rfl, rfl⟩) | (go_at_call 57; refine (impl.isAlternates_any _ _).mono ?_; rintro e w' ⟨rfl, rfl⟩))
  go_ret
  exact ⟨by rw [E.out, E'.out]; simp [b1, b2, b3, b4, b5, b6, h7, b8, b9, b10], hX⟩
set_option maxHeartbeats 8000000 in
theorem spec.IsRecord_any (x : RecA) (y : RecL) (w : World) (hr : RdR w x y) :
    Calls Tryz.prog 49 #[.agg #[.int .i64 x.a, .int .i64 x.b, .int .i64 x.c, .slice x.p.x.A x.p.x.n x.p.x.c, .int .i64 x.d, .slice x.p.y.A x.p.y.n x.p.y.c, .slice x.p.z.A x.p.z.n x.p.z.c, .int .i64 x.e, .int .i64 x.f]] w fun e w' => e = .returned (.bool (okR y)) ∧ Ext w w' := by
  obtain ⟨a, b, c, ⟨⟨A1, n1, c1⟩, ⟨A2, n2, c2⟩, ⟨A3, n3, c3⟩⟩, d, e, f⟩ := x
  obtain ⟨a', b', c', ⟨xs, ys, zs⟩, d', e', f'⟩ := y
  obtain ⟨⟨rx, ry, rz, hs, cx, cy, cz⟩, rfl, rfl, rfl, rfl, rfl, rfl⟩ := hr
  simp only at rx ry rz hs ⊢
  have hX := (Ext.refl w).alloc (.cells #[.int .i64 a, .int .i64 b, .int .i64 c, .slice A1 n1 c1, .int .i64 d, .slice A2 n2 c2, .slice A3 n3 c3, .int .i64 e, .int .i64 f] 26)
  obtain ⟨q0, q1, q2, q3, q4, q5, q6, q7, q8⟩ := (Blk.new w 26 (#[.int .i64 a, .int .i64 b, .int .i64 c, .slice A1 n1 c1, .int .i64 d, .slice A2 n2 c2, .slice A3 n3 c3, .int .i64 e, .int .i64 f])).c9
  have E := hide (show okR ⟨a, b, c, ⟨xs, ys, zs⟩, d, e, f⟩ = (inB a 0 2147483646 && (inB b 1 2147483646 && (inB c 0 2147483646 && (decide (xs.length ≤ 60) && (incB xs && (inB d 1 12 && (strB ys && (decide (zs.length ≤ 40) && (movB zs && (inB e 1 12 && inB f 0 6)))))))))) from rfl)
  have hn1 := rx.le
  have hn3 := rz.le
  have sx := hide rx.1
  have sy := hide ry.1
  have sz := hide rz.1
  go_enter Tryz.func49, Tryz.ntmps49
  go_wp2
  go_loopw [3] (fun i wr => ∃ k q : Nat, k ≤ n1 ∧ i = .int .i64 k ∧ wr = (w.alloc (.cells #[.int .i64 a, .int .i64 b, .int .i64 c, .slice A1 n1 c1, .int .i64 d, .slice A2 n2 c2, .slice A3 n3 c3, .int .i64 e, .int .i64 f] 26)).drewN q ∧ Hid (∀ j, j < k → upAt xs j = true)) (fun i _ => n1 - (intOf i).toNat)
  case atStart => exact ⟨0, 0, by omega, rfl, rfl, hide fun j h => absurd h (by omega)⟩
  case round =>
    obtain ⟨k, q, hk, rfl, rfl, hno⟩ := hrel
    have hXq := hX.drewN q
    by_cases hlt : k < n1
    · obtain ⟨b0, off, v, rfl, hbl, hc1, hy⟩ := (rx.ext hX).el hlt
      have hkl := hide (show k < xs.length by rw [← sx.out]; omega)
      have k1 := fun W => spec.l01In_any v 1 1000000 W
      cases b1 : inB v 1 1000000
      · simp only [b1] at k1
        have hf := hide (incB_no hkl.out (show upAt xs k = false by unfold upAt; rw [getD_of hy.out, b1]; rfl))
        go_wp2
        go_quiet ((go_at_call 42; exact quietL (k1 _)))
        go_wp2
        go_ret
        exact ⟨by rw [E.out, hf.out]; simp, hXq.drewN _⟩
      simp only [b1] at k1
      rcases Nat.eq_zero_or_pos k with hz | hz
      · subst hz
        rw [Nat.add_zero] at hc1
        have hm := hide (uptoR_more hno.out (show upAt xs 0 = true by unfold upAt; rw [getD_of hy.out, b1]; rfl))
        go_wp2
        go_quiet ((go_at_call 42; exact quietL (k1 _)))
        go_wp2
        go_roundw
        case rel => exact ⟨1, _, by omega, by go_num, rfl, hm⟩
        case measure => simp [intOf]; omega
      · obtain ⟨j, rfl⟩ : ∃ j, k = j + 1 := ⟨k - 1, by omega⟩
        obtain ⟨b', off', z, hbe, _, hc0, hyz⟩ := (rx.ext hX).el (show j < n1 by omega)
        injection hbe with hbe
        injection hbe with e1 e2
        subst e1 e2
        have hjn : j < n1 := by omega
        have g0 : IntKind.i64.wrap (j : Int) = (j : Int) := Go.IntWalk.i64_in _ (by omega)
        have g1 : IntKind.i64.wrap ((j : Int) + 1 - 1) = (j : Int) := by rw [Int.add_sub_cancel]; exact g0
        have g2 : (0 : Int) < (j : Int) + 1 := by omega
        by_cases hlz : z < v
        · have hm := hide (uptoR_more hno.out (show upAt xs (j + 1) = true by unfold upAt; rw [getD_of hy.out, b1, show j + 1 - 1 = j from rfl, getD_of hyz.out, decide_eq_true hlz]; simp))
          have g3 : ¬ v ≤ z := by omega
          go_wp2
          go_quiet ((go_at_call 42; exact quietL (k1 _)))
          go_wp2
          go_roundw
          case rel => exact ⟨j + 1 + 1, _, by omega, by go_num, rfl, hm⟩
          case measure => simp [intOf]; omega
        · have hf := hide (incB_no hkl.out (show upAt xs (j + 1) = false by unfold upAt; rw [getD_of hy.out, b1, show j + 1 - 1 = j from rfl, getD_of hyz.out, decide_eq_false hlz]; simp))
          have g3 : v ≤ z := by omega
          go_wp2
          go_quiet ((go_at_call 42; exact quietL (k1 _)))
          go_wp2
          go_ret
          exact ⟨by rw [E.out, hf.out]; simp, hXq.drewN _⟩
    · have ek : k = n1 := by omega
      subst ek
      have hinc := hide (incB_yes (by rw [← sx.out]; exact hno.out))
      go_wp2
      go_loop [4] (fun i => ∃ j : Nat, j ≤ n3 ∧ i = .int .i64 j ∧ Hid (∀ (m : Nat) (u : Int), m < j → zs[m]? = some u → inB u (-1) 11 = true)) (fun i => n3 - (intOf i).toNat)
      case atStart => exact ⟨0, by omega, rfl, hide fun m u h => absurd h (by omega)⟩
      case round =>
        obtain ⟨j, hj, rfl, hnm⟩ := hrel
        by_cases hlj : j < n3
        · obtain ⟨b0, off, v, rfl, hbl, hc1, hy⟩ := (rz.ext hXq).el hlj
          cases b1 : inB v (-1) 11
          · have hf := hide (movB_no hy.out b1)
            go_wp2_with (go_at_call 42; refine (spec.l01In_any _ _ _ _).mono ?_; rintro e w' ⟨rfl, rfl⟩)
            go_ret
            exact ⟨by rw [E.out, hf.out]; simp, hXq⟩
          · have hm := hide (uptoM_more (P := fun u => inB u (-1) 11 = true) hnm.out hy.out b1)
            go_wp2_with (go_at_call 42; refine (spec.l01In_any _ _ _ _).mono ?_; rintro e w' ⟨rfl, rfl⟩)
            go_round
            case rel => exact ⟨j + 1, by omega, by go_num, hm⟩
            case measure => simp [intOf]; omega
        · have ej : j = n3 := by omega
          subst ej
          have hmov := hide (movB_yes (by rw [← sz.out]; exact hnm.out))
          clear hno hnm hk hj hlt hlj
          by_cases h60 : 60 < k
          · have hf := hide (show decide (xs.length ≤ 60) = false by rw [← sx.out]; exact decide_eq_false (by omega))
            go_wp2
            go_ret
            exact ⟨by rw [E.out, hf.out]; simp, hXq⟩
          have h60' := hide (show decide (xs.length ≤ 60) = true by rw [← sx.out]; exact decide_eq_true (by omega))
          by_cases h40 : 40 < j
          · have hf := hide (show decide (zs.length ≤ 40) = false by rw [← sz.out]; exact decide_eq_false (by omega))
            go_wp2
            go_ret
            exact ⟨by rw [E.out, hf.out]; simp, hXq⟩
          have h40' := hide (show decide (zs.length ≤ 40) = true by rw [← sz.out]; exact decide_eq_true (by omega))
          by_cases h2 : n2 = 2
          case neg =>
            have hne : ((n2 : Int) != 2) = true := by simp; omega
            have hf := hide (show strB ys = false by unfold strB; rw [← sy.out, decide_eq_false h2]; rfl)
            clear h2
            go_wp2
            go_ret
            exact ⟨by rw [E.out, hf.out]; simp, hXq⟩
          obtain ⟨b2, off2, rfl, hbl2, r0, r1⟩ := (ry.ext hXq).twoR h2
          subst h2
          have hstr := hide (show strB ys = (inB (ys.getD 0 0) 0 10 && inB (ys.getD 1 0) 0 10) by unfold strB; rw [← sy.out]; rfl)
          revert r0 r1 hstr
          generalize ys.getD 0 0 = s0
          generalize ys.getD 1 0 = s1
          intro r0 r1 hstr
          cases b1 : inB a 0 2147483646
          · go_wp2_with (first | (go_at_call 42; refine (spec.l01In_any _ _ _ _).mono ?_; rintro e w' ⟨rfl, rfl⟩) | (go_at_call 85; refine (spec.l03Is_any _ _).mono ?_; rintro e w' ⟨rfl, rfl⟩))
            go_ret
            exact ⟨by rw [E.out, hinc.out, hmov.out, h60'.out, h40'.out, hstr.out]; simp [b1], hXq⟩
          cases b2 : inB b 1 2147483646
          · go_wp2_with (first | (go_at_call 42; refine (spec.l01In_any _ _ _ _).mono ?_; rintro e w' ⟨rfl, rfl⟩) | (go_at_call 85; refine (spec.l03Is_any _ _).mono ?_; rintro e w' ⟨rfl, rfl⟩))
            go_ret
            exact ⟨by rw [E.out, hinc.out, hmov.out, h60'.out, h40'.out, hstr.out]; simp [b1, b2], hXq⟩
          cases b3 : inB c 0 2147483646
          · go_wp2_with (first | (go_at_call 42; refine (spec.l01In_any _ _ _ _).mono ?_; rintro e w' ⟨rfl, rfl⟩) | (go_at_call 85; refine (spec.l03Is_any _ _).mono ?_; rintro e w' ⟨rfl, rfl⟩))
            go_ret
            exact ⟨by rw [E.out, hinc.out, hmov.out, h60'.out, h40'.out, hstr.out]; simp [b1, b2, b3], hXq⟩
          cases b4 : inB d 1 12
          · go_wp2_with (first | (go_at_call 42; refine (spec.l01In_any _ _ _ _).mono ?_; rintro e w' ⟨rfl, rfl⟩) | (go_at_call 85; refine (spec.l03Is_any _ _).mono ?_; rintro e w' ⟨rfl, rfl⟩))
            go_ret
            exact ⟨by rw [E.out, hinc.out, hmov.out, h60'.out, h40'.out, hstr.out]; simp [b1, b2, b3, b4], hXq⟩
          cases b5 : inB s0 0 10
          · go_wp2_with (first | (go_at_call 42; refine (spec.l01In_any _ _ _ _).mono ?_; rintro e w' ⟨rfl, rfl⟩) | (go_at_call 85; refine (spec.l03Is_any _ _).mono ?_; rintro e w' ⟨rfl, rfl⟩))
            go_ret
            exact ⟨by rw [E.out, hinc.out, hmov.out, h60'.out, h40'.out, hstr.out]; simp [b1, b2, b3, b4, b5], hXq⟩
          cases b6 : inB s1 0 10
          · go_wp2_with (first | (go_at_call 42; refine (spec.l01In_any _ _ _ _).mono ?_; rintro e w' ⟨rfl, rfl⟩) | (go_at_call 85; refine (spec.l03Is_any _ _).mono ?_; rintro e w' ⟨rfl, rfl⟩))
            go_ret
            exact ⟨by rw [E.out, hinc.out, hmov.out, h60'.out, h40'.out, hstr.out]; simp [b1, b2, b3, b4, b5, b6], hXq⟩
          cases b7 : inB e 1 12
          · go_wp2_with (first | (go_at_call 42; refine (spec.l01In_any _ _ _ _).mono ?_; rintro e w' ⟨rfl, rfl⟩) | (go_at_call 85; refine (spec.l03Is_any _ _).mono ?_; rintro e w' ⟨rfl, rfl⟩))
            go_ret
            exact ⟨by rw [E.out, hinc.out, hmov.out, h60'.out, h40'.out, hstr.out]; simp [b1, b2, b3, b4, b5, b6, b7], hXq⟩
          cases b8 : inB f 0 6
          · go_wp2_with (first | (go_at_call 42; refine (spec.l01In_any _ _ _ _).mono ?_; rintro e w' ⟨rfl, rfl⟩) | (go_at_call 85; refine (spec.l03Is_any _ _).mono ?_; rintro e w' ⟨rfl, rfl⟩))
            go_ret
            exact ⟨by rw [E.out, hinc.out, hmov.out, h60'.out, h40'.out, hstr.out]; simp [b1, b2, b3, b4, b5, b6, b7, b8], hXq⟩
          go_wp2_with (first | (go_at_call 42; refine (spec.l01In_any _ _ _ _).mono ?_; rintro e w' ⟨rfl, rfl⟩) | (go_at_call 85; refine (spec.l03Is_any _ _).mono ?_; rintro e w' ⟨rfl, rfl⟩))
          go_ret
          exact ⟨by rw [E.out, hinc.out, hmov.out, h60'.out, h40'.out, hstr.out]; simp [b1, b2, b3, b4, b5, b6, b7, b8], hXq⟩
def cmt (b c : Int) : Int := ((b * 16807 + c) % 2147483647 * 65539 + b) % 2147483647
theorem impl.commitment_any (b c : Int) (w : World) (hb : 1 ≤ b ∧ b ≤ 2147483646) (hc : 0 ≤ c ∧ c ≤ 2147483646) :
    Calls Tryz.prog 58 #[.int .i64 b, .int .i64 c] w fun e w' => e = .returned (.int .i64 (cmt b c)) ∧ w = w' := by
  have h1 : 0 ≤ (b * 16807 + c) % 2147483647 ∧ (b * 16807 + c) % 2147483647 ≤ 2147483646 := by omega
  go_enter Tryz.func58, Tryz.ntmps58
  go_wp2
  go_ret
  exact ⟨by first | rfl | (unfold cmt; rfl), rfl⟩
theorem spec.l03Commit_any (b c : Int) (w : World) (hb : 1 ≤ b ∧ b ≤ 2147483646) (hc : 0 ≤ c ∧ c ≤ 2147483646) :
    Calls Tryz.prog 68 #[.int .i64 b, .int .i64 c] w fun e w' => e = .returned (.int .i64 (cmt b c)) ∧ w = w' := by
  have h1 : 0 ≤ (b * 16807 + c) % 2147483647 ∧ (b * 16807 + c) % 2147483647 ≤ 2147483646 := by omega
  go_enter Tryz.func68, Tryz.ntmps68
  go_wp2
  go_ret
  exact ⟨by first | rfl | (unfold cmt; rfl), rfl⟩
theorem spec.l16Honest_any (x : RecA) (w : World) (hb : 1 ≤ x.b ∧ x.b ≤ 2147483646) (hc : 0 ≤ x.c ∧ x.c ≤ 2147483646) :
    Calls Tryz.prog 36 #[.agg #[.int .i64 x.a, .int .i64 x.b, .int .i64 x.c, .slice x.p.x.A x.p.x.n x.p.x.c, .int .i64 x.d, .slice x.p.y.A x.p.y.n x.p.y.c, .slice x.p.z.A x.p.z.n x.p.z.c, .int .i64 x.e, .int .i64 x.f]] w fun e w' => e = .returned (.bool (cmt x.b x.c == x.a)) ∧ Ext w w' := by
  have hX := (Ext.refl w).alloc (.cells #[.int .i64 x.a, .int .i64 x.b, .int .i64 x.c, .slice x.p.x.A x.p.x.n x.p.x.c, .int .i64 x.d, .slice x.p.y.A x.p.y.n x.p.y.c, .slice x.p.z.A x.p.z.n x.p.z.c, .int .i64 x.e, .int .i64 x.f] 26)
  obtain ⟨q0, q1, q2, q3, q4, q5, q6, q7, q8⟩ := (Blk.new w 26 (#[.int .i64 x.a, .int .i64 x.b, .int .i64 x.c, .slice x.p.x.A x.p.x.n x.p.x.c, .int .i64 x.d, .slice x.p.y.A x.p.y.n x.p.y.c, .slice x.p.z.A x.p.z.n x.p.z.c, .int .i64 x.e, .int .i64 x.f])).c9
  go_enter Tryz.func36, Tryz.ntmps36
  go_wp2
  go_quiet ((go_at_call 68; exact quietL0 (spec.l03Commit_any _ _ _ hb hc)))
  go_wp2
  go_ret
  exact ⟨rfl, hX.drewN _⟩
theorem impl.honest_any (x : RecA) (w : World) (hb : 1 ≤ x.b ∧ x.b ≤ 2147483646) (hc : 0 ≤ x.c ∧ x.c ≤ 2147483646) :
    Calls Tryz.prog 32 #[.agg #[.int .i64 x.a, .int .i64 x.b, .int .i64 x.c, .slice x.p.x.A x.p.x.n x.p.x.c, .int .i64 x.d, .slice x.p.y.A x.p.y.n x.p.y.c, .slice x.p.z.A x.p.z.n x.p.z.c, .int .i64 x.e, .int .i64 x.f]] w fun e w' => e = .returned (.bool (cmt x.b x.c == x.a)) ∧ Ext w w' := by
  have hX := (Ext.refl w).alloc (.cells #[.int .i64 x.a, .int .i64 x.b, .int .i64 x.c, .slice x.p.x.A x.p.x.n x.p.x.c, .int .i64 x.d, .slice x.p.y.A x.p.y.n x.p.y.c, .slice x.p.z.A x.p.z.n x.p.z.c, .int .i64 x.e, .int .i64 x.f] 26)
  obtain ⟨q0, q1, q2, q3, q4, q5, q6, q7, q8⟩ := (Blk.new w 26 (#[.int .i64 x.a, .int .i64 x.b, .int .i64 x.c, .slice x.p.x.A x.p.x.n x.p.x.c, .int .i64 x.d, .slice x.p.y.A x.p.y.n x.p.y.c, .slice x.p.z.A x.p.z.n x.p.z.c, .int .i64 x.e, .int .i64 x.f])).c9
  go_enter Tryz.func32, Tryz.ntmps32
  go_wp2
  go_quiet ((go_at_call 58; exact quietL0 (impl.commitment_any _ _ _ hb hc)))
  go_wp2
  go_ret
  exact ⟨rfl, hX.drewN _⟩
def honV (y : RecL) : Bool := okR y && (cmt y.b y.c == y.a)
def honC (y : RecL) : Int := if okR y = true then 0 else 1
theorem okR_bd {y : RecL} (h : okR y = true) : (1 ≤ y.b ∧ y.b ≤ 2147483646) ∧ (0 ≤ y.c ∧ y.c ≤ 2147483646) := by
  unfold okR at h
  simp only [Bool.and_eq_true] at h
  exact ⟨inB_iff.1 h.2.1, inB_iff.1 h.2.2.1⟩
theorem impl.IsHonest_any (x : RecA) (y : RecL) (w : World) (hr : RdR w x y) :
    Calls Tryz.prog 16 #[.agg #[.int .i64 x.a, .int .i64 x.b, .int .i64 x.c, .slice x.p.x.A x.p.x.n x.p.x.c, .int .i64 x.d, .slice x.p.y.A x.p.y.n x.p.y.c, .slice x.p.z.A x.p.z.n x.p.z.c, .int .i64 x.e, .int .i64 x.f]] w fun e w' => e = .returned (.tuple #[.bool (honV y), .int .i64 (honC y)]) ∧ Ext w w' := by
  have hX := (Ext.refl w).alloc (.cells #[.int .i64 x.a, .int .i64 x.b, .int .i64 x.c, .slice x.p.x.A x.p.x.n x.p.x.c, .int .i64 x.d, .slice x.p.y.A x.p.y.n x.p.y.c, .slice x.p.z.A x.p.z.n x.p.z.c, .int .i64 x.e, .int .i64 x.f] 26)
  have hB := Blk.new w 26 (#[.int .i64 x.a, .int .i64 x.b, .int .i64 x.c, .slice x.p.x.A x.p.x.n x.p.x.c, .int .i64 x.d, .slice x.p.y.A x.p.y.n x.p.y.c, .slice x.p.z.A x.p.z.n x.p.z.c, .int .i64 x.e, .int .i64 x.f])
  obtain ⟨q0, q1, q2, q3, q4, q5, q6, q7, q8⟩ := hB.c9
  go_enter Tryz.func16, Tryz.ntmps16
  go_wp2_with fail
  refine (impl.IsRecord_any x y _ (hr.ext hX)).mono ?_
  rintro e w1 ⟨rfl, hx1⟩
  clear q0 q1 q2 q3 q4 q5 q6 q7 q8
  have hX1 := hX.trans hx1
  obtain ⟨q0, q1, q2, q3, q4, q5, q6, q7, q8⟩ := (hB.ext hx1).c9
  cases hok : okR y
  · have E1 := hide (show honV y = false by unfold honV; rw [hok]; rfl)
    have E2 := hide (show honC y = 1 by unfold honC; rw [hok]; rfl)
    go_wp2
    go_ret2
    exact ⟨by rw [E1.out, E2.out]; rfl, hX1⟩
  · have E1 := hide (show honV y = (cmt x.b x.c == x.a) by unfold honV; rw [hok, hr.2.1, hr.2.2.1, hr.2.2.2.1]; rfl)
    have E2 := hide (show honC y = 0 by unfold honC; rw [hok]; rfl)
    have bd := okR_bd hok
    rw [← hr.2.2.1, ← hr.2.2.2.1] at bd
    go_wp2_with (first | (go_at_call 32; refine (impl.honest_any x _ bd.1 bd.2).mono ?_; rintro e w2 ⟨rfl, hx2⟩) | (go_at_call 36; refine (spec.l16Honest_any x _ bd.1 bd.2).mono ?_; rintro e w2 ⟨rfl, hx2⟩))
    go_ret2
    exact ⟨by rw [E1.out, E2.out]; rfl, hX1.trans hx2⟩
theorem spec.IsHonest_any (x : RecA) (y : RecL) (w : World) (hr : RdR w x y) :
    Calls Tryz.prog 17 #[.agg #[.int .i64 x.a, .int .i64 x.b, .int .i64 x.c, .slice x.p.x.A x.p.x.n x.p.x.c, .int .i64 x.d, .slice x.p.y.A x.p.y.n x.p.y.c, .slice x.p.z.A x.p.z.n x.p.z.c, .int .i64 x.e, .int .i64 x.f]] w fun e w' => e = .returned (.tuple #[.bool (honV y), .int .i64 (honC y)]) ∧ Ext w w' := by
  have hX := (Ext.refl w).alloc (.cells #[.int .i64 x.a, .int .i64 x.b, .int .i64 x.c, .slice x.p.x.A x.p.x.n x.p.x.c, .int .i64 x.d, .slice x.p.y.A x.p.y.n x.p.y.c, .slice x.p.z.A x.p.z.n x.p.z.c, .int .i64 x.e, .int .i64 x.f] 26)
  have hB := Blk.new w 26 (#[.int .i64 x.a, .int .i64 x.b, .int .i64 x.c, .slice x.p.x.A x.p.x.n x.p.x.c, .int .i64 x.d, .slice x.p.y.A x.p.y.n x.p.y.c, .slice x.p.z.A x.p.z.n x.p.z.c, .int .i64 x.e, .int .i64 x.f])
  obtain ⟨q0, q1, q2, q3, q4, q5, q6, q7, q8⟩ := hB.c9
  go_enter Tryz.func17, Tryz.ntmps17
  go_wp2_with fail
  refine (spec.IsRecord_any x y _ (hr.ext hX)).mono ?_
  rintro e w1 ⟨rfl, hx1⟩
  clear q0 q1 q2 q3 q4 q5 q6 q7 q8
  have hX1 := hX.trans hx1
  obtain ⟨q0, q1, q2, q3, q4, q5, q6, q7, q8⟩ := (hB.ext hx1).c9
  cases hok : okR y
  · have E1 := hide (show honV y = false by unfold honV; rw [hok]; rfl)
    have E2 := hide (show honC y = 1 by unfold honC; rw [hok]; rfl)
    go_wp2
    go_ret2
    exact ⟨by rw [E1.out, E2.out]; rfl, hX1⟩
  · have E1 := hide (show honV y = (cmt x.b x.c == x.a) by unfold honV; rw [hok, hr.2.1, hr.2.2.1, hr.2.2.2.1]; rfl)
    have E2 := hide (show honC y = 0 by unfold honC; rw [hok]; rfl)
    have bd := okR_bd hok
    rw [← hr.2.2.1, ← hr.2.2.2.1] at bd
    go_wp2_with (first | (go_at_call 32; refine (impl.honest_any x _ bd.1 bd.2).mono ?_; rintro e w2 ⟨rfl, hx2⟩) | (go_at_call 36; refine (spec.l16Honest_any x _ bd.1 bd.2).mono ?_; rintro e w2 ⟨rfl, hx2⟩))
    go_ret2
    exact ⟨by rw [E1.out, E2.out]; rfl, hX1.trans hx2⟩
end Go.Proofs.YtofglgfjlbehmaaGreat.mem
