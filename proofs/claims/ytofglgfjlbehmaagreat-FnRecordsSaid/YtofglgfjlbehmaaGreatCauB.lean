/-
  Contracts of both programs' functions on ties and parties: isCause, causes, areCase.
-/
import Derived.Test.YtofglgfjlbehmaaGreatMg8
namespace Go.Proofs.YtofglgfjlbehmaaGreat.mem
open Go.ChangeShapes Go.WideShapes Go.ChangeAt Go.RowKit

def cauB (us : List ByteArray) (t : Ti) : Bool := hasW us t.s && ((t.k != 3) || !t.f)
theorem isCause_any (t : Ti) (s : Sl) (us : List ByteArray) (w : World) (hr : RdW w s.A s.n us) :
    Calls Tryz.prog 122 #[.agg #[.int .i64 t.n, .string t.s, .int .i64 t.k, .bool t.f], .slice s.A s.n s.c] w fun e w' => e = .returned (.bool (cauB us t)) ∧ Ext w w' := by
  obtain ⟨A, n, c⟩ := s
  obtain ⟨tn, ts, tk, tf⟩ := t
  simp only at hr ⊢
  have hX := (Ext.refl w).alloc (.cells #[.int .i64 tn, .string ts, .int .i64 tk, .bool tf] 108)
  cases hw : hasW us ts
  · have E := hide (show cauB us ⟨tn, ts, tk, tf⟩ = false by unfold cauB; rw [hw]; rfl)
    go_enter Tryz.func122, Tryz.ntmps122
    go_wp2_with (first | (go_at_call 124; refine (impl.hasS_any ⟨A, n, c⟩ us _ _ (hr.ext hX)).mono ?_; rintro e w' ⟨rfl, rfl⟩) | (go_at_call 125; refine (spec.l13Word_any ⟨A, n, c⟩ us _ _ (hr.ext hX)).mono ?_; rintro e w' ⟨rfl, rfl⟩))
    go_ret
    exact ⟨by rw [E.out]; rfl, hX⟩
  cases hk : (tk != 3)
  · have E := hide (show cauB us ⟨tn, ts, tk, tf⟩ = !tf by unfold cauB; rw [hw, hk]; simp)
    go_enter Tryz.func122, Tryz.ntmps122
    go_wp2_with (first | (go_at_call 124; refine (impl.hasS_any ⟨A, n, c⟩ us _ _ (hr.ext hX)).mono ?_; rintro e w' ⟨rfl, rfl⟩) | (go_at_call 125; refine (spec.l13Word_any ⟨A, n, c⟩ us _ _ (hr.ext hX)).mono ?_; rintro e w' ⟨rfl, rfl⟩))
    go_ret
    exact ⟨by rw [E.out]; rfl, hX⟩
  · have E := hide (show cauB us ⟨tn, ts, tk, tf⟩ = true by unfold cauB; rw [hw, hk]; rfl)
    go_enter Tryz.func122, Tryz.ntmps122
    go_wp2_with (first | (go_at_call 124; refine (impl.hasS_any ⟨A, n, c⟩ us _ _ (hr.ext hX)).mono ?_; rintro e w' ⟨rfl, rfl⟩) | (go_at_call 125; refine (spec.l13Word_any ⟨A, n, c⟩ us _ _ (hr.ext hX)).mono ?_; rintro e w' ⟨rfl, rfl⟩))
    go_ret
    exact ⟨by rw [E.out]; rfl, hX⟩
theorem spec.l13Cause_any (t : Ti) (s : Sl) (us : List ByteArray) (w : World) (hr : RdW w s.A s.n us) :
    Calls Tryz.prog 123 #[.agg #[.int .i64 t.n, .string t.s, .int .i64 t.k, .bool t.f], .slice s.A s.n s.c] w fun e w' => e = .returned (.bool (cauB us t)) ∧ Ext w w' := by
  obtain ⟨A, n, c⟩ := s
  obtain ⟨tn, ts, tk, tf⟩ := t
  simp only at hr ⊢
  have hX := (Ext.refl w).alloc (.cells #[.int .i64 tn, .string ts, .int .i64 tk, .bool tf] 108)
  cases hw : hasW us ts
  · have E := hide (show cauB us ⟨tn, ts, tk, tf⟩ = false by unfold cauB; rw [hw]; rfl)
    go_enter Tryz.func123, Tryz.ntmps123
    go_wp2_with (first | (go_at_call 124; refine (impl.hasS_any ⟨A, n, c⟩ us _ _ (hr.ext hX)).mono ?_; rintro e w' ⟨rfl, rfl⟩) | (go_at_call 125; refine (spec.l13Word_any ⟨A, n, c⟩ us _ _ (hr.ext hX)).mono ?_; rintro e w' ⟨rfl, rfl⟩))
    go_ret
    exact ⟨by rw [E.out]; rfl, hX⟩
  cases hk : (tk != 3)
  · have E := hide (show cauB us ⟨tn, ts, tk, tf⟩ = !tf by unfold cauB; rw [hw, hk]; simp)
    go_enter Tryz.func123, Tryz.ntmps123
    go_wp2_with (first | (go_at_call 124; refine (impl.hasS_any ⟨A, n, c⟩ us _ _ (hr.ext hX)).mono ?_; rintro e w' ⟨rfl, rfl⟩) | (go_at_call 125; refine (spec.l13Word_any ⟨A, n, c⟩ us _ _ (hr.ext hX)).mono ?_; rintro e w' ⟨rfl, rfl⟩))
    go_ret
    exact ⟨by rw [E.out]; rfl, hX⟩
  · have E := hide (show cauB us ⟨tn, ts, tk, tf⟩ = true by unfold cauB; rw [hw, hk]; rfl)
    go_enter Tryz.func123, Tryz.ntmps123
    go_wp2_with (first | (go_at_call 124; refine (impl.hasS_any ⟨A, n, c⟩ us _ _ (hr.ext hX)).mono ?_; rintro e w' ⟨rfl, rfl⟩) | (go_at_call 125; refine (spec.l13Word_any ⟨A, n, c⟩ us _ _ (hr.ext hX)).mono ?_; rintro e w' ⟨rfl, rfl⟩))
    go_ret
    exact ⟨by rw [E.out]; rfl, hX⟩
/-- the indices, below k, of the causes of somebody -/
def cauP (us : List ByteArray) (x : Int) (ts : List Ti) (i : Nat) : Bool := match ts[i]? with | none => false | some t => (t.n == x) && cauB us t
def cauK (us : List ByteArray) (x : Int) (ts : List Ti) (k : Nat) : List Int := ((List.range k).filter (cauP us x ts)).map (fun (i : Nat) => (i : Int))
def cauL (us : List ByteArray) (x : Int) (ts : List Ti) : List Int := cauK us x ts ts.length
theorem cauK_le (us : List ByteArray) (x : Int) (ts : List Ti) (k : Nat) : (cauK us x ts k).length ≤ k := by
  unfold cauK
  rw [List.length_map]
  exact Nat.le_trans (List.length_filter_le _ _) (by simp)
theorem cauK_no {us : List ByteArray} {x : Int} {ts : List Ti} {k : Nat} (h : cauP us x ts k = false) : cauK us x ts (k + 1) = cauK us x ts k := by
  unfold cauK
  rw [List.range_succ, List.filter_append]
  simp [h]
theorem cauK_yes {us : List ByteArray} {x : Int} {ts : List Ti} {k : Nat} (h : cauP us x ts k = true) : cauK us x ts (k + 1) = cauK us x ts k ++ [(k : Int)] := by
  unfold cauK
  rw [List.range_succ, List.filter_append]
  simp [h]
theorem cauP_at {us : List ByteArray} {x : Int} {ts : List Ti} {k : Nat} {t : Ti} (h : ts[k]? = some t) : cauP us x ts k = ((t.n == x) && cauB us t) := by
  unfold cauP
  rw [h]
set_option maxHeartbeats 2000000 in
theorem impl.causes_any (s : Sl) (ts : List Ti) (q : Sl) (us : List ByteArray) (x : Int) (w : World) (hr : RdT w s.A s.n ts) (hq : RdW w q.A q.n us) :
    Calls Tryz.prog 119 #[.slice s.A s.n s.c, .slice q.A q.n q.c, .int .i64 x] w fun e w' => ∃ v : Sl, e = .returned (.slice v.A v.n v.c) ∧ Own w' w.heap.size (.slice v.A v.n v.c) (cauL us x ts) ∧ Ext w w' := by
  obtain ⟨A, n, c⟩ := s
  obtain ⟨B, m, d⟩ := q
  simp only at hr hq ⊢
  have hn := hr.2.1
  have hl := hide hr.1
  go_enter Tryz.func119, Tryz.ntmps119
  go_wp2
  go_loopw [7, 8, 9, 13] (fun v _ _ i wr => ∃ k : Nat, k ≤ n ∧ i = .int .i64 k ∧ (∃ t : Sl, v = .slice t.A t.n t.c ∧ Own wr w.heap.size (.slice t.A t.n t.c) (cauK us x ts k)) ∧ Ext w wr) (fun _ _ _ i _ => n - (intOf i).toNat)
  case atStart => exact ⟨0, by omega, rfl, ⟨⟨_, _, _⟩, rfl, Own.new0 w _ (Nat.le_refl _)⟩, (Ext.refl w).alloc _⟩
  case round =>
    obtain ⟨k, hk, rfl, ⟨v, rfl, ho⟩, hx⟩ := hrel
    by_cases hlt : k < n
    · obtain ⟨b, off, t, rfl, hbl, ⟨c0, c1, c2, c3⟩, hts, ht⟩ := (hr.ext hx).el hlt
      have hX := Blk.new wr 108 (#[.int .i64 t.n, .string t.s, .int .i64 t.k, .bool t.f])
      have hx0 := hx.alloc (.cells #[.int .i64 t.n, .string t.s, .int .i64 t.k, .bool t.f] 108)
      have ho0 := ho.alloc (.cells #[.int .i64 t.n, .string t.s, .int .i64 t.k, .bool t.f] 108)
      cases e1 : (t.n == x)
      · have hs := hide (cauK_no (us := us) (x := x) (by rw [cauP_at ht.out, e1]; rfl))
        go_wp2
        go_roundw
        case rel => exact ⟨k + 1, by omega, by go_num, ⟨v, rfl, by rw [hs.out]; exact ho0⟩, hx0⟩
        case measure => simp [intOf]; omega
      cases e2 : cauB us t
      · have hs := hide (cauK_no (us := us) (x := x) (by rw [cauP_at ht.out, e1, e2]; rfl))
        go_wp2_with fail
        refine (isCause_any t ⟨B, m, d⟩ us _ (hq.ext hx0)).mono ?_
        rintro e w1 ⟨rfl, hx1⟩
        go_wp2
        go_roundw
        case rel => exact ⟨k + 1, by omega, by go_num, ⟨v, rfl, by rw [hs.out]; exact ho0.ext hx1⟩, hx0.trans hx1⟩
        case measure => simp [intOf]; omega
      · have hs := hide (cauK_yes (us := us) (x := x) (by rw [cauP_at ht.out, e1, e2]; rfl))
        have hl1 := cauK_le us x ts k
        have hsz0 := hx0.size
        go_wp2_with fail
        refine (isCause_any t ⟨B, m, d⟩ us _ (hq.ext hx0)).mono ?_
        rintro e w1 ⟨rfl, hx1⟩
        have ho1 := ho0.ext hx1
        have hx01 := hx0.trans hx1
        have hsz := hx01.size
        go_wp2_with (at_builtin; refine wpList_app _ rfl (.tmp 27) (.tmp 29) rfl w.heap.size _ _ rfl (ho1.alloc _) _ _ _ [(k : Int)] rfl (Rd.one w1 k) (by omega) (by simp; omega) ?_; intro t1 w2 ho2 hg2 hb2)
        go_roundw
        case rel => exact ⟨k + 1, by omega, by go_num, ⟨t1, rfl, by rw [hs.out]; exact ho2⟩, (hx01.alloc _).grow hg2 (fun g hg => (ho1.lt g hg).1)⟩
        case measure => simp [intOf]; omega
    · go_wp2
      go_ret
      have e : k = n := by omega
      subst e
      exact ⟨v, rfl, by unfold cauL; rw [← hl.out]; exact ho, hx⟩
set_option maxHeartbeats 2000000 in
theorem spec.l13Causes_any (s : Sl) (ts : List Ti) (q : Sl) (us : List ByteArray) (x : Int) (w : World) (hr : RdT w s.A s.n ts) (hq : RdW w q.A q.n us) :
    Calls Tryz.prog 121 #[.slice s.A s.n s.c, .slice q.A q.n q.c, .int .i64 x] w fun e w' => ∃ v : Sl, e = .returned (.slice v.A v.n v.c) ∧ Own w' w.heap.size (.slice v.A v.n v.c) (cauL us x ts) ∧ Ext w w' := by
  obtain ⟨A, n, c⟩ := s
  obtain ⟨B, m, d⟩ := q
  simp only at hr hq ⊢
  have hn := hr.2.1
  have hl := hide hr.1
  go_enter Tryz.func121, Tryz.ntmps121
  go_wp2
  go_loopw [7, 8] (fun v i wr => ∃ k : Nat, k ≤ n ∧ i = .int .i64 k ∧ (∃ t : Sl, v = .slice t.A t.n t.c ∧ Own wr w.heap.size (.slice t.A t.n t.c) (cauK us x ts k)) ∧ Ext w wr) (fun _ i _ => n - (intOf i).toNat)
  case atStart => exact ⟨0, by omega, rfl, ⟨⟨_, _, _⟩, rfl, Own.new0 w _ (Nat.le_refl _)⟩, (Ext.refl w).alloc _⟩
  case round =>
    obtain ⟨k, hk, rfl, ⟨v, rfl, ho⟩, hx⟩ := hrel
    by_cases hlt : k < n
    · obtain ⟨b, off, t, rfl, hbl, ⟨c0, c1, c2, c3⟩, hts, ht⟩ := (hr.ext hx).el hlt
      cases e1 : (t.n == x)
      · have hs := hide (cauK_no (us := us) (x := x) (by rw [cauP_at ht.out, e1]; rfl))
        go_wp2
        go_roundw
        case rel => exact ⟨k + 1, by omega, by go_num, ⟨v, rfl, by rw [hs.out]; exact ho⟩, hx⟩
        case measure => simp [intOf]; omega
      cases e2 : cauB us t
      · have hs := hide (cauK_no (us := us) (x := x) (by rw [cauP_at ht.out, e1, e2]; rfl))
        go_wp2_with fail
        refine (spec.l13Cause_any t ⟨B, m, d⟩ us _ (hq.ext hx)).mono ?_
        rintro e w1 ⟨rfl, hx1⟩
        go_wp2
        go_roundw
        case rel => exact ⟨k + 1, by omega, by go_num, ⟨v, rfl, by rw [hs.out]; exact ho.ext hx1⟩, hx.trans hx1⟩
        case measure => simp [intOf]; omega
      · have hs := hide (cauK_yes (us := us) (x := x) (by rw [cauP_at ht.out, e1, e2]; rfl))
        have hl1 := cauK_le us x ts k
        go_wp2_with fail
        refine (spec.l13Cause_any t ⟨B, m, d⟩ us _ (hq.ext hx)).mono ?_
        rintro e w1 ⟨rfl, hx1⟩
        have ho1 := ho.ext hx1
        have hx01 := hx.trans hx1
        have hsz := hx01.size
        go_wp2_with (at_builtin; refine wpList_app _ rfl (.tmp 31) (.tmp 33) rfl w.heap.size _ _ rfl (ho1.alloc _) _ _ _ [(k : Int)] rfl (Rd.one w1 k) (by omega) (by simp; omega) ?_; intro t1 w2 ho2 hg2 hb2)
        go_roundw
        case rel => exact ⟨k + 1, by omega, by go_num, ⟨t1, rfl, by rw [hs.out]; exact ho2⟩, (hx01.alloc _).grow hg2 (fun g hg => (ho1.lt g hg).1)⟩
        case measure => simp [intOf]; omega
    · go_wp2
      go_ret
      have e : k = n := by omega
      subst e
      exact ⟨v, rfl, by unfold cauL; rw [← hl.out]; exact ho, hx⟩
def okK (ts : List Ti) (us : List ByteArray) : Bool := tieB ts && (decide (us.length ≤ 6) && wordsB us)
theorem impl.areCase_any (s : Sl) (ts : List Ti) (q : Sl) (us : List ByteArray) (w : World) (hr : RdT w s.A s.n ts) (hc : cap1 s) (hq : RdW w q.A q.n us) :
    Calls Tryz.prog 64 #[.slice s.A s.n s.c, .slice q.A q.n q.c] w fun e w' => e = .returned (.bool (okK ts us)) ∧ Ext w w' := by
  obtain ⟨A, n, c⟩ := s
  obtain ⟨B, m, d⟩ := q
  have E := hide (show okK ts us = (tieB ts && (decide (us.length ≤ 6) && wordsB us)) from rfl)
  have hm : m = us.length := hq.1
  have hm2 := hq.2.1
  cases b1 : tieB ts
  · go_enter Tryz.func64, Tryz.ntmps64
    go_wp2_with fail
    refine (impl.AreTies_any ⟨A, n, c⟩ ts _ hr hc).mono ?_
    rintro e w1 ⟨rfl, hx1⟩
    go_wp2
    go_ret
    exact ⟨by rw [E.out, b1]; rfl, hx1⟩
  cases b2 : decide (us.length ≤ 6)
  · have h2 : decide ((m : Int) ≤ 6) = false := by rw [hm]; simp at b2 ⊢; omega
    clear hm
    go_enter Tryz.func64, Tryz.ntmps64
    go_wp2_with fail
    refine (impl.AreTies_any ⟨A, n, c⟩ ts _ hr hc).mono ?_
    rintro e w1 ⟨rfl, hx1⟩
    go_wp2_with (first | (go_at_call 55; have kf := impl.few_any (m : Int) 6 w1; rw [h2] at kf; refine kf.mono ?_; rintro e w' ⟨rfl, rfl⟩) | (go_at_call 92; refine (impl.areWords_any ⟨_, _, _⟩ us _ (hq.ext hx1)).mono ?_; rintro e w' ⟨rfl, rfl⟩))
    go_ret
    exact ⟨by rw [E.out, b1, b2]; rfl, hx1⟩
  · have h2 : decide ((m : Int) ≤ 6) = true := by rw [hm]; simp at b2 ⊢; omega
    clear hm
    go_enter Tryz.func64, Tryz.ntmps64
    go_wp2_with fail
    refine (impl.AreTies_any ⟨A, n, c⟩ ts _ hr hc).mono ?_
    rintro e w1 ⟨rfl, hx1⟩
    go_wp2_with (first | (go_at_call 55; have kf := impl.few_any (m : Int) 6 w1; rw [h2] at kf; refine kf.mono ?_; rintro e w' ⟨rfl, rfl⟩) | (go_at_call 92; refine (impl.areWords_any ⟨_, _, _⟩ us _ (hq.ext hx1)).mono ?_; rintro e w' ⟨rfl, rfl⟩))
    go_ret
    exact ⟨by rw [E.out, b1, b2]; rfl, hx1⟩
def codC (ts : List Ti) (us : List ByteArray) (x : Int) : Int := if okK ts us = true then (if inB x 1 1000000 = true then 0 else 2) else 1
set_option maxHeartbeats 2000000 in
theorem spec.l13Code_any (s : Sl) (ts : List Ti) (q : Sl) (us : List ByteArray) (x : Int) (w : World) (hr : RdT w s.A s.n ts) (hq : RdW w q.A q.n us) :
    Calls Tryz.prog 66 #[.slice s.A s.n s.c, .slice q.A q.n q.c, .int .i64 x] w fun e w' => e = .returned (.int .i64 (codC ts us x)) ∧ Ext w w' := by
  obtain ⟨A, n, c⟩ := s
  obtain ⟨B, m, d⟩ := q
  have hm : m = us.length := hq.1
  have hm2 := hq.2.1
  cases b1 : tieB ts
  · have E := hide (show codC ts us x = 1 by unfold codC okK; rw [b1]; rfl)
    clear hm
    go_enter Tryz.func66, Tryz.ntmps66
    go_wp2_with fail
    refine (spec.AreTies_any ⟨A, n, c⟩ ts _ hr).mono ?_
    rintro e w1 ⟨rfl, hx1⟩
    go_wp2
    go_ret
    exact ⟨by rw [E.out]; rfl, hx1⟩
  cases b3 : wordsB us
  · have E := hide (show codC ts us x = 1 by unfold codC okK; rw [b1, b3]; simp)
    clear hm
    go_enter Tryz.func66, Tryz.ntmps66
    go_wp2_with fail
    refine (spec.AreTies_any ⟨A, n, c⟩ ts _ hr).mono ?_
    rintro e w1 ⟨rfl, hx1⟩
    go_wp2_with (go_at_call 96; refine (spec.l01All_any ⟨_, _, _⟩ us _ (hq.ext hx1)).mono ?_; rintro e w' ⟨rfl, rfl⟩)
    go_ret
    exact ⟨by rw [E.out]; rfl, hx1⟩
  by_cases b2 : us.length ≤ 6
  · have h2 : ¬ 6 < m := by omega
    clear hm
    cases b4 : inB x 1 1000000
    · have E := hide (show codC ts us x = 2 by unfold codC okK; simp [b1, b3, b4, b2])
      clear b2
      go_enter Tryz.func66, Tryz.ntmps66
      go_wp2_with fail
      refine (spec.AreTies_any ⟨A, n, c⟩ ts _ hr).mono ?_
      rintro e w1 ⟨rfl, hx1⟩
      go_wp2_with (first | (go_at_call 96; refine (spec.l01All_any ⟨_, _, _⟩ us _ (hq.ext hx1)).mono ?_; rintro e w' ⟨rfl, rfl⟩) | (go_at_call 42; refine (spec.l01In_any _ _ _ _).mono ?_; rintro e w' ⟨rfl, rfl⟩))
      go_ret
      exact ⟨by rw [E.out]; rfl, hx1⟩
    · have E := hide (show codC ts us x = 0 by unfold codC okK; simp [b1, b3, b4, b2])
      clear b2
      go_enter Tryz.func66, Tryz.ntmps66
      go_wp2_with fail
      refine (spec.AreTies_any ⟨A, n, c⟩ ts _ hr).mono ?_
      rintro e w1 ⟨rfl, hx1⟩
      go_wp2_with (first | (go_at_call 96; refine (spec.l01All_any ⟨_, _, _⟩ us _ (hq.ext hx1)).mono ?_; rintro e w' ⟨rfl, rfl⟩) | (go_at_call 42; refine (spec.l01In_any _ _ _ _).mono ?_; rintro e w' ⟨rfl, rfl⟩))
      go_ret
      exact ⟨by rw [E.out]; rfl, hx1⟩
  · have h2 : 6 < m := by omega
    have E := hide (show codC ts us x = 1 by unfold codC okK; rw [decide_eq_false b2]; simp)
    clear hm b2
    go_enter Tryz.func66, Tryz.ntmps66
    go_wp2_with fail
    refine (spec.AreTies_any ⟨A, n, c⟩ ts _ hr).mono ?_
    rintro e w1 ⟨rfl, hx1⟩
    go_wp2_with (first | (go_at_call 96; refine (spec.l01All_any ⟨_, _, _⟩ us _ (hq.ext hx1)).mono ?_; rintro e w' ⟨rfl, rfl⟩) | (go_at_call 42; refine (spec.l01In_any _ _ _ _).mono ?_; rintro e w' ⟨rfl, rfl⟩))
    go_ret
    exact ⟨by rw [E.out]; rfl, hx1⟩
end Go.Proofs.YtofglgfjlbehmaaGreat.mem
