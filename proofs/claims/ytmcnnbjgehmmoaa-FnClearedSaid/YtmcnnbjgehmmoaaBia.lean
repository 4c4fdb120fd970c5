/-
  Contracts of both programs' BiasedOf.
-/
import Derived.Test.YtmcnnbjgehmmoaaCauD
import Derived.Test.YtmcnnbjgehmmoaaSrt
import Derived.Test.YtmcnnbjgehmmoaaIns
namespace Go.Proofs.Ytmcnnbjgehmmoaa.mem
open Go.ChangeShapes Go.WideShapes Go.ChangeAt Go.RowKit
set_option linter.unusedVariables false

def biN (us : List ByteArray) (ts : List Ti) (k : Nat) : List Int := ((ts.take k).filter (cauB us)).map Ti.n
def bofL (ts : List Ti) (us : List ByteArray) : List Int := if okK ts us = true then setS ltI (biN us ts ts.length) else []
theorem biN_le (us : List ByteArray) (ts : List Ti) (k : Nat) : (biN us ts k).length ≤ k := by
  unfold biN
  rw [List.length_map]
  exact Nat.le_trans (List.length_filter_le _ _) (by rw [List.length_take]; omega)
theorem biN_no {us : List ByteArray} {ts : List Ti} {k : Nat} {t : Ti} (h : ts[k]? = some t) (hc : cauB us t = false) : biN us ts (k + 1) = biN us ts k := by
  unfold biN
  rw [List.take_add_one, h, Option.toList_some, List.filter_append, List.filter_cons_of_neg (by simp [hc])]
  simp
theorem biN_yes {us : List ByteArray} {ts : List Ti} {k : Nat} {t : Ti} (h : ts[k]? = some t) (hc : cauB us t = true) : biN us ts (k + 1) = biN us ts k ++ [t.n] := by
  unfold biN
  rw [List.take_add_one, h, Option.toList_some, List.filter_append, List.filter_cons_of_pos hc]
  simp
theorem tieB_le {ts : List Ti} (h : tieB ts = true) : ts.length ≤ 20 := by
  unfold tieB at h
  rw [Bool.and_eq_true, decide_eq_true_eq] at h
  exact h.2
set_option maxHeartbeats 4000000 in
theorem impl.BiasedOf_any (s : Sl) (ts : List Ti) (q : Sl) (us : List ByteArray) (w : World) (hr : RdT w s.A s.n ts) (hq : RdW w q.A q.n us) (hc : cap1 s) :
    Calls Try.prog 23 #[.slice s.A s.n s.c, .slice q.A q.n q.c] w fun e w' => ∃ v : Sl, e = .returned (.tuple #[.slice v.A v.n v.c, .int .i64 (okcC ts us)]) ∧ Own w' w.heap.size (.slice v.A v.n v.c) (bofL ts us) ∧ Ext w w' := by
  have ha := impl.areCase_any s ts q us w hr hc hq
  obtain ⟨A, n, c⟩ := s
  obtain ⟨B, m, d⟩ := q
  cases hok : okK ts us
  · have E1 := hide (show okcC ts us = 1 by unfold okcC; rw [hok]; rfl)
    have E2 := hide (show bofL ts us = [] by unfold bofL; rw [hok]; rfl)
    rw [hok] at ha
    go_enter Try.func23, Try.ntmps23
    go_wp2_with fail
    refine ha.mono ?_
    rintro e w1 ⟨rfl, hx1⟩
    go_wp2
    go_ret2
    exact ⟨⟨none, 0, 0⟩, by rw [E1.out]; rfl, by rw [E2.out]; exact Own.nil_ _ _, hx1⟩
  have E1 := hide (show okcC ts us = 0 by unfold okcC; rw [hok]; rfl)
  have E2 := hide (show bofL ts us = setS ltI (biN us ts ts.length) by unfold bofL; rw [hok]; rfl)
  rw [hok] at ha
  clear hok
  simp only at hr hq
  have hn := hr.2.1
  have hl := hide hr.1
  go_enter Try.func23, Try.ntmps23
  go_wp2_with fail
  refine ha.mono ?_
  rintro e w0 ⟨rfl, hx0⟩
  have hz0 := hx0.size
  go_wp2
  go_loopw [6, 8, 16] (fun v _ i wr => ∃ k : Nat, k ≤ n ∧ i = .int .i64 k ∧ (∃ (g n1 c1 : Nat), v = .slice (some ⟨g, 0, none⟩) n1 c1 ∧ Own wr w.heap.size (.slice (some ⟨g, 0, none⟩) n1 c1) (biN us ts k)) ∧ Ext w wr) (fun _ _ i _ => n - (intOf i).toNat)
  case atStart => exact ⟨0, by omega, rfl, ⟨_, _, _, rfl, Own.new0 w0 _ hz0⟩, hx0.alloc _⟩
  case round =>
    obtain ⟨k, hk, rfl, ⟨g, n1, c1, rfl, ho⟩, hx⟩ := hrel
    by_cases hlt : k < n
    · obtain ⟨b, off, t, rfl, hbl, ⟨c0, c1, c2, c3⟩, hts, ht⟩ := (hr.ext hx).el hlt
      have hX := Blk.new wr 68 (#[.int .i64 t.n, .string t.s, .int .i64 t.k, .bool t.f])
      have hx0 := hx.alloc (.cells #[.int .i64 t.n, .string t.s, .int .i64 t.k, .bool t.f] 68)
      have ho0 := ho.alloc (.cells #[.int .i64 t.n, .string t.s, .int .i64 t.k, .bool t.f] 68)
      cases e2 : cauB us t
      · have hs := hide (biN_no ht.out e2)
        go_wp2_with fail
        refine (isCause_any t ⟨B, m, d⟩ us _ (hq.ext hx0)).mono ?_
        rintro e w1 ⟨rfl, hx1⟩
        go_wp2
        go_roundw
        case rel => exact ⟨k + 1, by omega, by go_num, ⟨_, _, _, rfl, by rw [hs.out]; exact ho0.ext hx1⟩, hx0.trans hx1⟩
        case measure => simp [intOf]; omega
      · have hs := hide (biN_yes ht.out e2)
        have hl1 := biN_le us ts k
        go_wp2_with fail
        refine (isCause_any t ⟨B, m, d⟩ us _ (hq.ext hx0)).mono ?_
        rintro e w1 ⟨rfl, hx1⟩
        have ho1 := ho0.ext hx1
        have hx01 := hx0.trans hx1
        have hsz := hx01.size
        have hX1 := hX.ext hx1
        have y0 := hX1.get 0 _ rfl
        go_wp2_with (at_builtin; refine wpList_app _ rfl (.tmp 23) (.tmp 26) rfl w.heap.size _ _ rfl (ho1.alloc _) _ _ _ [t.n] rfl (Rd.one w1 t.n) (by omega) (by simp; omega) ?_; intro t1 w2 ho2 hg2 hb2)
        go_roundw
        case rel =>
          obtain ⟨A1, n2, c2⟩ := t1
          have hA1 : ∃ g2, A1 = some ⟨g2, 0, none⟩ := by
            rcases ho2.2.2 with ⟨e, _⟩ | ⟨g2, cap, cur, e, _⟩
            · injection e with e1
              subst e1
              rcases hb2 with h | h <;> cases h
            · injection e with e1; exact ⟨g2, e1⟩
          obtain ⟨g2, rfl⟩ := hA1
          exact ⟨k + 1, by omega, by go_num, ⟨_, _, _, rfl, by rw [hs.out]; exact ho2⟩, (hx01.alloc _).grow hg2 (fun g hg => (ho1.lt g hg).1)⟩
        case measure => simp [intOf]; omega
    · have e : k = n := by omega
      subst e
      have hg := (ho.lt g rfl).1
      go_wp2_with fail
      refine (impl.sortedSet_any g n1 c1 w.heap.size _ _ ho).mono ?_
      rintro e w3 ⟨v, rfl, ho3, hf3⟩
      go_wp2
      go_ret2
      exact ⟨v, by rw [E1.out]; rfl, by rw [E2.out, ← hl.out]; exact ho3, hx.fr_trans hf3 (fun k e => by omega)⟩
set_option maxHeartbeats 4000000 in
theorem spec.BiasedOf_any (s : Sl) (ts : List Ti) (q : Sl) (us : List ByteArray) (w : World) (hr : RdT w s.A s.n ts) (hq : RdW w q.A q.n us) :
    Calls Try.prog 20 #[.slice s.A s.n s.c, .slice q.A q.n q.c] w fun e w' => ∃ v : Sl, e = .returned (.tuple #[.slice v.A v.n v.c, .int .i64 (okcC ts us)]) ∧ Own w' w.heap.size (.slice v.A v.n v.c) (bofL ts us) ∧ Ext w w' := by
  have ha := spec.l13Code_any s ts q us 1 w hr hq
  obtain ⟨A, n, c⟩ := s
  obtain ⟨B, m, d⟩ := q
  cases hok : okK ts us
  · have E1 := hide (show okcC ts us = 1 by unfold okcC; rw [hok]; rfl)
    have E2 := hide (show bofL ts us = [] by unfold bofL; rw [hok]; rfl)
    rw [codC_1 1 hok] at ha
    go_enter Try.func20, Try.ntmps20
    go_wp2_with fail
    refine ha.mono ?_
    rintro e w1 ⟨rfl, hx1⟩
    go_wp2
    go_ret2
    exact ⟨⟨none, 0, 0⟩, by rw [E1.out]; rfl, by rw [E2.out]; exact Own.nil_ _ _, hx1⟩
  have E1 := hide (show okcC ts us = 0 by unfold okcC; rw [hok]; rfl)
  have E2 := hide (show bofL ts us = setS ltI (biN us ts ts.length) by unfold bofL; rw [hok]; rfl)
  have hk20 := tieB_le (okK_tie hok)
  rw [codC_0 hok (by decide)] at ha
  clear hok
  simp only at hr hq
  have hn := hr.2.1
  have hl := hide hr.1
  go_enter Try.func20, Try.ntmps20
  go_wp2_with fail
  refine ha.mono ?_
  rintro e w0 ⟨rfl, hx0⟩
  have hz0 := hx0.size
  go_wp2
  go_loopw [7, 8] (fun v i wr => ∃ k : Nat, k ≤ n ∧ i = .int .i64 k ∧ (∃ t : Sl, v = .slice t.A t.n t.c ∧ Own wr w.heap.size (.slice t.A t.n t.c) (setS ltI (biN us ts k))) ∧ Ext w wr) (fun _ i _ => n - (intOf i).toNat)
  case atStart => exact ⟨0, by omega, rfl, ⟨⟨_, _, _⟩, rfl, Own.new0 w0 _ hz0⟩, hx0.alloc _⟩
  case round =>
    obtain ⟨k, hk, rfl, ⟨v, rfl, ho⟩, hx⟩ := hrel
    by_cases hlt : k < n
    · obtain ⟨b, off, t, rfl, hbl, ⟨c0, c1, c2, c3⟩, hts, ht⟩ := (hr.ext hx).el hlt
      cases e2 : cauB us t
      · have hs := hide (biN_no ht.out e2)
        go_wp2_with fail
        refine (spec.l13Cause_any t ⟨B, m, d⟩ us _ (hq.ext hx)).mono ?_
        rintro e w1 ⟨rfl, hx1⟩
        go_wp2
        go_roundw
        case rel => exact ⟨k + 1, by omega, by go_num, ⟨v, rfl, by rw [hs.out]; exact ho.ext hx1⟩, hx.trans hx1⟩
        case measure => simp [intOf]; omega
      · have hs := hide (show setS ltI (biN us ts (k + 1)) = insS ltI t.n (setS ltI (biN us ts k)) by rw [biN_yes ht.out e2, setS_app])
        have hl1 := Nat.le_trans (setS_len (lt := ltI) (biN us ts k)) (biN_le us ts k)
        go_wp2_with fail
        refine (spec.l13Cause_any t ⟨B, m, d⟩ us _ (hq.ext hx)).mono ?_
        rintro e w1 ⟨rfl, hx1⟩
        have ho1 := ho.ext hx1
        have hx01 := hx.trans hx1
        have hsz := hx01.size
        obtain ⟨d0, d1, d2, d3⟩ : cellT w1 b (off + k * 4) t := cellT.ext ⟨c0, c1, c2, c3⟩ hx1 hbl
        clear c0 c1 c2 c3
        have hn20 : n ≤ 20 := by have := hl.out; omega
        go_wp2_with fail
        refine (spec.l07Insert_any v _ t.n w.heap.size _ ho1 hsz (by omega)).mono ?_
        rintro e w2 ⟨t1, rfl, ho2, hx2⟩
        go_wp2
        go_roundw
        case rel => exact ⟨k + 1, by omega, by go_num, ⟨t1, rfl, by rw [hs.out]; exact ho2⟩, hx01.trans hx2⟩
        case measure => simp [intOf]; omega
    · have e : k = n := by omega
      subst e
      go_wp2
      go_ret2
      exact ⟨v, by rw [E1.out]; rfl, by rw [E2.out, ← hl.out]; exact ho, hx⟩
end Go.Proofs.Ytmcnnbjgehmmoaa.mem
