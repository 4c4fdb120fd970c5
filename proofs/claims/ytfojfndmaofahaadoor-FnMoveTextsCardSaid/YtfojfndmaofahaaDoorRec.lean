/-
  Contracts of both programs' functions on records that only look: increasing, areNumbers, areMoves, areStrikes, IsRecord, commitment, IsHonest.
-/
import Derived.Test.YtfojfndmaofahaaDoorList
import Derived.BigQuiet
import Derived.Deep.QuietTactic
import Derived.Deep.RegionHeld3
namespace Go.Proofs.YtfojfndmaofahaaDoor.mem
open Go.ChangeShapes Go.WideShapes Go.ChangeAt Go.RowKit

structure RecA where
  a : Int
  b : Int
  c : Int
  p : S3
  d : Int
  e : Int
  f : Int
structure RecL where
  a : Int
  b : Int
  c : Int
  p : L3
  d : Int
  e : Int
  f : Int
def RdR (w : World) (x : RecA) (y : RecL) : Prop := Rd3 w x.p y.p ∧ x.a = y.a ∧ x.b = y.b ∧ x.c = y.c ∧ x.d = y.d ∧ x.e = y.e ∧ x.f = y.f
theorem RdR.ext {w w' : World} {x : RecA} {y : RecL} (h : RdR w x y) (hx : Ext w w') : RdR w' x y := ⟨h.1.ext hx, h.2⟩
/-- the test of one index: in range, and greater than the one ahead -/
def upAt (xs : List Int) (k : Nat) : Bool := inB (xs.getD k 0) 1 1000000 && (decide (k = 0) || decide (xs.getD (k - 1) 0 < xs.getD k 0))
def incB (xs : List Int) : Bool := (List.range xs.length).all (upAt xs)
def movB (xs : List Int) : Bool := xs.all (fun m => inB m (-1) 11)
def strB (xs : List Int) : Bool := decide (xs.length = 2) && (inB (xs.getD 0 0) 0 10 && inB (xs.getD 1 0) 0 10)
def okR (y : RecL) : Bool :=
  inB y.a 0 2147483646 && (inB y.b 1 2147483646 && (inB y.c 0 2147483646 && (decide (y.p.x.length ≤ 60) && (incB y.p.x && (inB y.d 1 12 && (strB y.p.y && (decide (y.p.z.length ≤ 40) && (movB y.p.z && (inB y.e 1 12 && inB y.f 0 6)))))))))
theorem incB_no {xs : List Int} {k : Nat} (hk : k < xs.length) (h : upAt xs k = false) : incB xs = false := by
  unfold incB
  rw [List.all_eq_false]
  exact ⟨k, List.mem_range.2 hk, by rw [h]; exact Bool.false_ne_true⟩
theorem incB_yes {xs : List Int} (h : ∀ k, k < xs.length → upAt xs k = true) : incB xs = true := by
  unfold incB
  rw [List.all_eq_true]
  exact fun k hk => h k (List.mem_range.1 hk)
theorem movB_no {xs : List Int} {k : Nat} {x : Int} (h : xs[k]? = some x) (hn : inB x (-1) 11 = false) : movB xs = false := by
  unfold movB
  rw [List.all_eq_false]
  exact ⟨x, List.mem_of_getElem? h, by rw [hn]; exact Bool.false_ne_true⟩
theorem movB_yes {xs : List Int} (h : ∀ (j : Nat) (x : Int), j < xs.length → xs[j]? = some x → inB x (-1) 11 = true) : movB xs = true := by
  unfold movB
  rw [List.all_eq_true]
  intro x hx
  obtain ⟨j, hj⟩ := List.mem_iff_getElem?.1 hx
  exact h j x (List.getElem?_eq_some_iff.1 hj).1 hj
theorem uptoR_more {P : Nat → Prop} {k : Nat} (h : ∀ j, j < k → P j) (hk : P k) : ∀ j, j < k + 1 → P j := fun j hj => by
  rcases Nat.lt_or_ge j k with hlt | hge
  · exact h j hlt
  · obtain rfl : j = k := by omega
    exact hk
theorem uptoM_more {P : Int → Prop} {l : List Int} {k : Nat} {x : Int} (h : ∀ (j : Nat) (y : Int), j < k → l[j]? = some y → P y) (hk : l[k]? = some x) (hx : P x) : ∀ (j : Nat) (y : Int), j < k + 1 → l[j]? = some y → P y := fun j y hj hy => by
  rcases Nat.lt_or_ge j k with hlt | hge
  · exact h j y hlt hy
  · obtain rfl : j = k := by omega
    rw [hk] at hy
    injection hy with hy
    exact hy ▸ hx
theorem getD_of {xs : List Int} {k : Nat} {x : Int} (h : xs[k]? = some x) : xs.getD k 0 = x := by
  rw [List.getD_eq_getElem?_getD, h]; rfl
/-- two numbers -/
def TwoR (w : World) (A : Option Addr) (a b : Int) : Prop := ∃ k off, A = some ⟨k, off, none⟩ ∧ k < w.heap.size ∧ w.cell? ⟨k, off, none⟩ = some (.int .i64 a) ∧ w.cell? ⟨k, off + 1, none⟩ = some (.int .i64 b)
theorem Rd.twoR {w : World} {A : Option Addr} {n : Nat} {xs : List Int} (hr : Rd w A n xs) (h2 : n = 2) : TwoR w A (xs.getD 0 0) (xs.getD 1 0) := by
  obtain ⟨b, off, hA, hb, hc0⟩ := hr.at_ (k := 0) (by omega)
  obtain ⟨b', off', hA', _, hc1⟩ := hr.at_ (k := 1) (by omega)
  rw [hA] at hA'
  injection hA' with e
  injection e with e1 e2
  subst e1 e2
  exact ⟨b, off, hA, hb, hc0, hc1⟩
theorem impl.areMoves_any (s : Sl) (xs : List Int) (w : World) (hr : Rd w s.A s.n xs) :
    Calls Tryd.prog 14 #[.slice s.A s.n s.c] w fun e w' => e = .returned (.bool (movB xs)) ∧ w = w' := by
  obtain ⟨A, n, c⟩ := s
  simp only at hr ⊢
  have hn := hr.le
  go_enter Tryd.func14, Tryd.ntmps14
  go_wp2
  go_loop [4, 7] (fun _ i => ∃ k : Nat, k ≤ n ∧ i = .int .i64 k ∧ Hid (∀ (j : Nat) (x : Int), j < k → xs[j]? = some x → inB x (-1) 11 = true)) (fun _ i => n - (intOf i).toNat)
  case atStart => exact ⟨0, by omega, rfl, hide fun j x h => absurd h (by omega)⟩
  case round =>
    obtain ⟨k, hk, rfl, hno⟩ := hrel
    by_cases hlt : k < n
    · obtain ⟨b, off, y, rfl, hbl, hc1, hy⟩ := hr.el hlt
      cases b1 : inB y (-1) 11
      · have hf := hide (movB_no hy.out b1)
        go_wp2_with (go_at_call 26; refine (impl.within_any _ _ _ _).mono ?_; rintro e w' ⟨rfl, rfl⟩)
        go_ret
        exact ⟨by rw [hf.out]; rfl, rfl⟩
      · have hm := hide (uptoM_more (P := fun x => inB x (-1) 11 = true) hno.out hy.out b1)
        go_wp2_with (go_at_call 26; refine (impl.within_any _ _ _ _).mono ?_; rintro e w' ⟨rfl, rfl⟩)
        go_round
        case rel => exact ⟨k + 1, by omega, by go_num, hm⟩
        case measure => simp [intOf]; omega
    · have e : k = n := by omega
      subst e
      have hf := hide (movB_yes (by rw [← hr.1]; exact hno.out))
      go_wp2
      go_ret
      exact ⟨by rw [hf.out]; rfl, rfl⟩
def cmt (b c : Int) : Int := ((b * 16807 + c) % 2147483647 * 65539 + b) % 2147483647
def honV (y : RecL) : Bool := okR y && (cmt y.b y.c == y.a)
def honC (y : RecL) : Int := if okR y = true then 0 else 1
theorem okR_bd {y : RecL} (h : okR y = true) : (1 ≤ y.b ∧ y.b ≤ 2147483646) ∧ (0 ≤ y.c ∧ y.c ≤ 2147483646) := by
  unfold okR at h
  simp only [Bool.and_eq_true] at h
  exact ⟨inB_iff.1 h.2.1, inB_iff.1 h.2.2.1⟩
end Go.Proofs.YtfojfndmaofahaaDoor.mem
