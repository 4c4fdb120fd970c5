/-
  Contracts of both programs' AreTies.
-/
import Derived.Test.YtofglgfjlbehmaaGreatMg4
import Derived.BigQuiet
import Derived.Deep.QuietTactic
namespace Go.Proofs.YtofglgfjlbehmaaGreat.mem
open Go.ChangeShapes Go.WideShapes Go.ChangeAt Go.RowKit

def okT (t : Ti) : Bool := inB t.n 1 1000000 && (wordB t.s && inB t.k 0 3)
def samT (t u : Ti) : Bool := (t.n == u.n) && (eqW t.s u.s && (t.k == u.k))
def tieB (ts : List Ti) : Bool := (List.range ts.length).all (fun i => match ts[i]? with | none => true | some t => okT t && (ts.take i).all (fun u => !samT t u)) && decide (ts.length ≤ 20)
theorem tieB_no1 {ts : List Ti} {k : Nat} {t : Ti} (h : ts[k]? = some t) (hn : okT t = false) : tieB ts = false := by
  have h1 : (List.range ts.length).all (fun i => match ts[i]? with | none => true | some t => okT t && (ts.take i).all (fun u => !samT t u)) = false := by
    rw [List.all_eq_false]
    refine ⟨k, List.mem_range.2 (List.getElem?_eq_some_iff.1 h).1, ?_⟩
    rw [h]
    simp [hn]
  unfold tieB
  rw [h1, Bool.false_and]
theorem tieB_no2 {ts : List Ti} {k j : Nat} {t u : Ti} (h : ts[k]? = some t) (hu : ts[j]? = some u) (hj : j < k) (hs : samT t u = true) : tieB ts = false := by
  have h1 : (List.range ts.length).all (fun i => match ts[i]? with | none => true | some t => okT t && (ts.take i).all (fun u => !samT t u)) = false := by
    rw [List.all_eq_false]
    refine ⟨k, List.mem_range.2 (List.getElem?_eq_some_iff.1 h).1, ?_⟩
    rw [h]
    have h2 : (ts.take k).all (fun u => !samT t u) = false := by
      rw [List.all_eq_false]
      refine ⟨u, List.mem_of_getElem? (i := j) (by rw [List.getElem?_take_of_lt hj]; exact hu), by simp [hs]⟩
    simp [h2]
  unfold tieB
  rw [h1, Bool.false_and]
theorem tieB_fin {ts : List Ti} (h : ∀ (i : Nat) (t : Ti), i < ts.length → ts[i]? = some t → okT t = true ∧ ∀ (j : Nat) (u : Ti), j < i → ts[j]? = some u → samT t u = false) : tieB ts = decide (ts.length ≤ 20) := by
  have h1 : (List.range ts.length).all (fun i => match ts[i]? with | none => true | some t => okT t && (ts.take i).all (fun u => !samT t u)) = true := by
    rw [List.all_eq_true]
    intro i hi
    have hi := List.mem_range.1 hi
    rw [List.getElem?_eq_getElem hi]
    obtain ⟨h2, h3⟩ := h i _ hi (List.getElem?_eq_getElem hi)
    simp only [h2, Bool.true_and, List.all_eq_true]
    intro u hu
    obtain ⟨j, hj⟩ := List.mem_iff_getElem?.1 hu
    have hlt : j < i := by
      have := (List.getElem?_eq_some_iff.1 hj).1
      rw [List.length_take] at this
      omega
    rw [List.getElem?_take_of_lt hlt] at hj
    rw [h3 j u hlt hj]
    rfl
  unfold tieB
  rw [h1, Bool.true_and]
set_option maxHeartbeats 4000000 in
theorem impl.AreTies_any (s : Sl) (ts : List Ti) (w : World) (hr : RdT w s.A s.n ts) (hcap : cap1 s) :
    Calls Tryz.prog 91 #[.slice s.A s.n s.c] w fun e w' => e = .returned (.bool (tieB ts)) ∧ Ext w w' := by
  obtain ⟨A, n, c⟩ := s
  simp only [cap1] at hr hcap ⊢
  have hn := hr.2.1
  have hl := hide hr.1
  go_enter Tryz.func91, Tryz.ntmps91
  go_wp2
  go_loopw [3, 4, 6, 9] (fun _ _ _ i wr => ∃ k : Nat, k ≤ n ∧ i = .int .i64 k ∧ Hid (∀ (j : Nat) (t : Ti), j < k → ts[j]? = some t → okT t = true ∧ ∀ (m : Nat) (u : Ti), m < j → ts[m]? = some u → samT t u = false) ∧ Ext w wr) (fun _ _ _ i _ => n - (intOf i).toNat)
  case atStart => exact ⟨0, by omega, rfl, hide fun j y h => absurd h (by omega), Ext.refl _⟩
  case round =>
    obtain ⟨k, hk, rfl, hno, hx⟩ := hrel
    by_cases hlt : k < n
    · obtain ⟨b, off, t, rfl, hbl, ⟨c0, c1, c2, c3⟩, hts, ht⟩ := (hr.ext hx).el hlt
      cases b1 : inB t.n 1 1000000
      · have hf := hide (tieB_no1 ht.out (show okT t = false by unfold okT; rw [b1]; rfl))
        go_wp2_with (first | (go_at_call 114; refine (impl.isNumber_any _ _).mono ?_; rintro e w' ⟨rfl, rfl⟩) | (go_at_call 115; refine (impl.IsWord_any _ _ hts).mono ?_; rintro e w' ⟨rfl, rfl⟩) | (go_at_call 39; refine (impl.within_any _ _ _ _).mono ?_; rintro e w' ⟨rfl, rfl⟩))
        go_ret
        exact ⟨by rw [hf.out]; rfl, hx.alloc _⟩
      cases b2 : wordB t.s
      · have hf := hide (tieB_no1 ht.out (show okT t = false by unfold okT; rw [b1, b2]; rfl))
        go_wp2_with (first | (go_at_call 114; refine (impl.isNumber_any _ _).mono ?_; rintro e w' ⟨rfl, rfl⟩) | (go_at_call 115; refine (impl.IsWord_any _ _ hts).mono ?_; rintro e w' ⟨rfl, rfl⟩) | (go_at_call 39; refine (impl.within_any _ _ _ _).mono ?_; rintro e w' ⟨rfl, rfl⟩))
        go_ret
        exact ⟨by rw [hf.out]; rfl, hx.alloc _⟩
      cases b3 : inB t.k 0 3
      · have hf := hide (tieB_no1 ht.out (show okT t = false by unfold okT; rw [b1, b2, b3]; rfl))
        go_wp2_with (first | (go_at_call 114; refine (impl.isNumber_any _ _).mono ?_; rintro e w' ⟨rfl, rfl⟩) | (go_at_call 115; refine (impl.IsWord_any _ _ hts).mono ?_; rintro e w' ⟨rfl, rfl⟩) | (go_at_call 39; refine (impl.within_any _ _ _ _).mono ?_; rintro e w' ⟨rfl, rfl⟩))
        go_ret
        exact ⟨by rw [hf.out]; rfl, hx.alloc _⟩
      have hok := hide (show okT t = true by unfold okT; rw [b1, b2, b3]; rfl)
      have hX := Blk.new wr 108 (#[.int .i64 t.n, .string t.s, .int .i64 t.k, .bool t.f])
      have hkc : k ≤ c := by omega
      go_wp2_with (first | (go_at_call 114; refine (impl.isNumber_any _ _).mono ?_; rintro e w' ⟨rfl, rfl⟩) | (go_at_call 115; refine (impl.IsWord_any _ _ hts).mono ?_; rintro e w' ⟨rfl, rfl⟩) | (go_at_call 39; refine (impl.within_any _ _ _ _).mono ?_; rintro e w' ⟨rfl, rfl⟩))
      go_loopw [6, 34] (fun _ i wq => ∃ m : Nat, m ≤ k ∧ i = .int .i64 m ∧ Hid (∀ (j : Nat) (u : Ti), j < m → ts[j]? = some u → samT t u = false) ∧ Ext w wq ∧ Blk wq wr.heap.size 108 (#[.int .i64 t.n, .string t.s, .int .i64 t.k, .bool t.f])) (fun _ i _ => k - (intOf i).toNat)
      case atStart => exact ⟨0, by omega, rfl, hide fun j y h => absurd h (by omega), hx.alloc _, hX⟩
      case round =>
        obtain ⟨m, hm, rfl, hnm, hxq, hXq⟩ := hrel
        by_cases hlm : m < k
        · obtain ⟨b', off', u, hbe, hbl', ⟨d0, d1, d2, d3⟩, hus, hu⟩ := (hr.ext hxq).el (show m < n by omega)
          injection hbe with hbe
          injection hbe with e1 e2
          subst e1 e2
          have hXx := hXq.alloc (.cells #[.int .i64 u.n, .string u.s, .int .i64 u.k, .bool u.f] 108)
          obtain ⟨x0, x1, x2, x3⟩ := hXx.c4
          obtain ⟨y0, y1, y2, y3⟩ := (Blk.new wr 108 (#[.int .i64 u.n, .string u.s, .int .i64 u.k, .bool u.f])).c4
          cases e1 : (t.n == u.n)
          · have hs := hide (upto_more hnm.out hu.out (show samT t u = false by unfold samT; rw [e1]; rfl))
            go_wp2
            go_roundw
            case rel => exact ⟨m + 1, by omega, by go_num, hs, hxq.alloc _, hXx⟩
            case measure => simp [intOf]; omega
          cases e2 : eqW t.s u.s
          · have hs := hide (upto_more hnm.out hu.out (show samT t u = false by unfold samT; rw [e1, e2]; rfl))
            have e2' : (t.s.toList == u.s.toList) = false := e2
            go_wp2
            go_roundw
            case rel => exact ⟨m + 1, by omega, by go_num, hs, hxq.alloc _, hXx⟩
            case measure => simp [intOf]; omega
          have e2' : (t.s.toList == u.s.toList) = true := e2
          cases e3 : (t.k == u.k)
          · have hs := hide (upto_more hnm.out hu.out (show samT t u = false by unfold samT; rw [e1, e2, e3]; rfl))
            go_wp2
            go_roundw
            case rel => exact ⟨m + 1, by omega, by go_num, hs, hxq.alloc _, hXx⟩
            case measure => simp [intOf]; omega
          have hf := hide (tieB_no2 ht.out hu.out hlm (show samT t u = true by unfold samT; rw [e1, e2, e3]; rfl))
          go_wp2
          go_ret
          exact ⟨by rw [hf.out]; rfl, hxq.alloc _⟩
        · have e : m = k := by omega
          subst e
          have hs : Hid (∀ (j : Nat) (t : Ti), j < m + 1 → ts[j]? = some t → okT t = true ∧ ∀ (m : Nat) (u : Ti), m < j → ts[m]? = some u → samT t u = false) := hide (fun j t' hj ht' => by
            rcases Nat.lt_or_ge j m with h | h
            · exact hno.out j t' h ht'
            · obtain rfl : j = m := by omega
              rw [ht.out] at ht'
              injection ht' with ht'
              subst ht'
              exact ⟨hok.out, hnm.out⟩)
          go_wp2
          go_roundw
          case rel => exact ⟨m + 1, by omega, by go_num, hs, hxq⟩
          case measure => simp [intOf]; omega
    · have e : k = n := by omega
      subst e
      have hf := hide (tieB_fin (by rw [← hl.out]; exact hno.out))
      have hd := hide (show (k : Int) = (ts.length : Int) by rw [hl.out])
      go_wp2_with (go_at_call 55; refine (impl.few_any _ _ _).mono ?_; rintro e w' ⟨rfl, rfl⟩)
      go_ret
      exact ⟨by rw [hf.out, ← hl.out]; exact congrArg (fun b => Ending.returned (Value.bool b)) (decide_eq_decide.2 (by omega)), hx⟩
set_option maxHeartbeats 4000000 in
theorem spec.AreTies_any (s : Sl) (ts : List Ti) (w : World) (hr : RdT w s.A s.n ts) :
    Calls Tryz.prog 88 #[.slice s.A s.n s.c] w fun e w' => e = .returned (.bool (tieB ts)) ∧ Ext w w' := by
  obtain ⟨A, n, c⟩ := s
  simp only at hr ⊢
  have hn := hr.2.1
  have hl := hide hr.1
  go_enter Tryz.func88, Tryz.ntmps88
  go_wp2
  go_loopw [3, 4, 5] (fun i _ _ wr => ∃ k : Nat, k ≤ n ∧ i = .int .i64 k ∧ Hid (∀ (j : Nat) (t : Ti), j < k → ts[j]? = some t → okT t = true ∧ ∀ (m : Nat) (u : Ti), m < j → ts[m]? = some u → samT t u = false) ∧ Ext w wr) (fun i _ _ _ => n - (intOf i).toNat)
  case atStart => exact ⟨0, by omega, rfl, hide fun j y h => absurd h (by omega), Ext.refl _⟩
  case round =>
    obtain ⟨k, hk, rfl, hno, hx⟩ := hrel
    by_cases hlt : k < n
    · obtain ⟨b, off, t, rfl, hbl, ⟨c0, c1, c2, c3⟩, hts, ht⟩ := (hr.ext hx).el hlt
      cases b1 : inB t.n 1 1000000
      · have hf := hide (tieB_no1 ht.out (show okT t = false by unfold okT; rw [b1]; rfl))
        go_wp2_with (first | (go_at_call 42; refine (spec.l01In_any _ _ _ _).mono ?_; rintro e w' ⟨rfl, rfl⟩) | (go_at_call 112; refine (spec.IsWord_any _ _ hts).mono ?_; rintro e w' ⟨rfl, rfl⟩))
        go_ret
        exact ⟨by rw [hf.out]; rfl, hx.alloc _⟩
      cases b2 : wordB t.s
      · have hf := hide (tieB_no1 ht.out (show okT t = false by unfold okT; rw [b1, b2]; rfl))
        go_wp2_with (first | (go_at_call 42; refine (spec.l01In_any _ _ _ _).mono ?_; rintro e w' ⟨rfl, rfl⟩) | (go_at_call 112; refine (spec.IsWord_any _ _ hts).mono ?_; rintro e w' ⟨rfl, rfl⟩))
        go_ret
        exact ⟨by rw [hf.out]; rfl, hx.alloc _⟩
      cases b3 : inB t.k 0 3
      · have hf := hide (tieB_no1 ht.out (show okT t = false by unfold okT; rw [b1, b2, b3]; rfl))
        go_wp2_with (first | (go_at_call 42; refine (spec.l01In_any _ _ _ _).mono ?_; rintro e w' ⟨rfl, rfl⟩) | (go_at_call 112; refine (spec.IsWord_any _ _ hts).mono ?_; rintro e w' ⟨rfl, rfl⟩))
        go_ret
        exact ⟨by rw [hf.out]; rfl, hx.alloc _⟩
      have hok := hide (show okT t = true by unfold okT; rw [b1, b2, b3]; rfl)
      have hX := Blk.new wr 108 (#[.int .i64 t.n, .string t.s, .int .i64 t.k, .bool t.f])
      go_wp2_with (first | (go_at_call 42; refine (spec.l01In_any _ _ _ _).mono ?_; rintro e w' ⟨rfl, rfl⟩) | (go_at_call 112; refine (spec.IsWord_any _ _ hts).mono ?_; rintro e w' ⟨rfl, rfl⟩))
      go_loopw [5] (fun i wq => ∃ m : Nat, m ≤ k ∧ i = .int .i64 m ∧ Hid (∀ (j : Nat) (u : Ti), j < m → ts[j]? = some u → samT t u = false) ∧ Ext w wq ∧ Blk wq wr.heap.size 108 (#[.int .i64 t.n, .string t.s, .int .i64 t.k, .bool t.f])) (fun i _ => k - (intOf i).toNat)
      case atStart => exact ⟨0, by omega, rfl, hide fun j y h => absurd h (by omega), hx.alloc _, hX⟩
      case round =>
        obtain ⟨m, hm, rfl, hnm, hxq, hXq⟩ := hrel
        by_cases hlm : m < k
        · obtain ⟨b', off', u, hbe, hbl', ⟨d0, d1, d2, d3⟩, hus, hu⟩ := (hr.ext hxq).el (show m < n by omega)
          injection hbe with hbe
          injection hbe with e1 e2
          subst e1 e2
          obtain ⟨x0, x1, x2, x3⟩ := hXq.c4
          have hmn : m < n := by omega
          cases e1 : (u.n == t.n)
          · have hs := hide (upto_more hnm.out hu.out (show samT t u = false by unfold samT; rw [show (t.n == u.n) = (u.n == t.n) from BEq.comm, e1]; rfl))
            go_wp2
            go_quiet (fail)
            go_wp2
            go_roundw
            case rel => exact ⟨m + 1, by omega, by go_num, hs, hxq.drewN _, hXq.drewN _⟩
            case measure => simp [intOf]; omega
          cases e2 : eqW u.s t.s
          · have hs := hide (upto_more hnm.out hu.out (show samT t u = false by unfold samT; rw [eqW_comm t.s u.s, e2]; simp))
            have e2' : (u.s.toList == t.s.toList) = false := e2
            go_wp2
            go_quiet (fail)
            go_wp2
            go_roundw
            case rel => exact ⟨m + 1, by omega, by go_num, hs, hxq.drewN _, hXq.drewN _⟩
            case measure => simp [intOf]; omega
          have e2' : (u.s.toList == t.s.toList) = true := e2
          cases e3 : (u.k == t.k)
          · have hs := hide (upto_more hnm.out hu.out (show samT t u = false by unfold samT; rw [show (t.k == u.k) = (u.k == t.k) from BEq.comm, e3]; simp))
            go_wp2
            go_quiet (fail)
            go_wp2
            go_roundw
            case rel => exact ⟨m + 1, by omega, by go_num, hs, hxq.drewN _, hXq.drewN _⟩
            case measure => simp [intOf]; omega
          have hf := hide (tieB_no2 ht.out hu.out hlm (show samT t u = true by unfold samT; rw [show (t.n == u.n) = (u.n == t.n) from BEq.comm, show (t.k == u.k) = (u.k == t.k) from BEq.comm, eqW_comm t.s u.s, e1, e2, e3]; rfl))
          go_wp2
          go_quiet (fail)
          go_wp2
          go_ret
          exact ⟨by rw [hf.out]; rfl, hxq.drewN _⟩
        · have e : m = k := by omega
          subst e
          have hs : Hid (∀ (j : Nat) (t : Ti), j < m + 1 → ts[j]? = some t → okT t = true ∧ ∀ (m : Nat) (u : Ti), m < j → ts[m]? = some u → samT t u = false) := hide (fun j t' hj ht' => by
            rcases Nat.lt_or_ge j m with h | h
            · exact hno.out j t' h ht'
            · obtain rfl : j = m := by omega
              rw [ht.out] at ht'
              injection ht' with ht'
              subst ht'
              exact ⟨hok.out, hnm.out⟩)
          go_wp2
          go_roundw
          case rel => exact ⟨m + 1, by omega, by go_num, hs, hxq⟩
          case measure => simp [intOf]; omega
    · have e : k = n := by omega
      subst e
      have hf := hide (tieB_fin (by rw [← hl.out]; exact hno.out))
      go_wp2
      go_ret
      exact ⟨by rw [hf.out, ← hl.out]; exact congrArg (fun b => Ending.returned (Value.bool b)) (decide_eq_decide.2 (by omega)), hx⟩
end Go.Proofs.YtofglgfjlbehmaaGreat.mem
