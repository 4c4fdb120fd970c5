/-
  Contracts of both programs' PartiesAgainst.
-/
import Derived.Test.YtmcnnbjgehmmoaaCauC
import Derived.Test.YtmcnnbjgehmmoaaInt
namespace Go.Proofs.Ytmcnnbjgehmmoaa.mem
open Go.ChangeShapes Go.WideShapes Go.ChangeAt Go.RowKit
set_option linter.unusedVariables false

def tyS (ts : List Ti) (i : Int) : ByteArray := match ts[i.toNat]? with | some t => t.s | none => ByteArray.empty
def pagN (ts : List Ti) (us : List ByteArray) (x : Int) (k : Nat) : List ByteArray := ((cauL us x ts).take k).map (tyS ts)
def pagL (ts : List Ti) (us : List ByteArray) (x : Int) : List ByteArray := if codC ts us x = 0 then setS ltS ((cauL us x ts).map (tyS ts)) else []
theorem cauL_at {us : List ByteArray} {x : Int} {ts : List Ti} {k : Nat} {i : Int} (h : (cauL us x ts)[k]? = some i) : ∃ (j : Nat) (t : Ti), i = (j : Int) ∧ ts[j]? = some t := by
  have hm := List.mem_of_getElem? h
  unfold cauL cauK at hm
  obtain ⟨j, hj, rfl⟩ := List.mem_map.1 hm
  obtain ⟨hr, hp⟩ := List.mem_filter.1 hj
  unfold cauP at hp
  cases ht : ts[j]? with
  | none => rw [ht] at hp; exact absurd hp Bool.false_ne_true
  | some t => exact ⟨j, t, rfl, ht⟩
theorem tyS_at {ts : List Ti} {j : Nat} {t : Ti} (h : ts[j]? = some t) : tyS ts (j : Int) = t.s := by
  unfold tyS
  rw [Int.toNat_natCast, h]
theorem pagN_more {ts : List Ti} {us : List ByteArray} {x : Int} {k j : Nat} {t : Ti} (h : (cauL us x ts)[k]? = some (j : Int)) (ht : ts[j]? = some t) : pagN ts us x (k + 1) = pagN ts us x k ++ [t.s] := by
  unfold pagN
  rw [List.take_add_one, h, Option.toList_some, List.map_append, List.map_cons, List.map_nil, tyS_at ht]
theorem pagN_len (ts : List Ti) (us : List ByteArray) (x : Int) (k : Nat) : (pagN ts us x k).length ≤ k := by
  unfold pagN
  rw [List.length_map, List.length_take]
  omega
theorem pagN_all (ts : List Ti) (us : List ByteArray) (x : Int) : pagN ts us x (cauL us x ts).length = (cauL us x ts).map (tyS ts) := by
  unfold pagN
  rw [List.take_length]
theorem tyS_size {ts : List Ti} (h : ∀ t ∈ ts, t.s.size ≤ maxLen) (i : Int) : (tyS ts i).size ≤ maxLen := by
  unfold tyS
  cases e : ts[i.toNat]? with
  | none => show (0 : Nat) ≤ maxLen; omega
  | some t => exact h t (List.mem_of_getElem? e)
theorem setS_mem (xs : List ByteArray) (y : ByteArray) : y ∈ setS ltS xs ↔ y ∈ xs := by
  unfold setS; rw [fold_mem]; simp
theorem setN_size {ts : List Ti} {us : List ByteArray} {x : Int} {k : Nat} (h : ∀ t ∈ ts, t.s.size ≤ maxLen) : ∀ y ∈ setS ltS (pagN ts us x k), y.size ≤ maxLen := by
  intro y hy
  rw [setS_mem] at hy
  unfold pagN at hy
  obtain ⟨i, _, rfl⟩ := List.mem_map.1 hy
  exact tyS_size h i
theorem pagL_size {ts : List Ti} {us : List ByteArray} {x : Int} (h : ∀ t ∈ ts, t.s.size ≤ maxLen) : ∀ y ∈ pagL ts us x, y.size ≤ maxLen := by
  unfold pagL
  by_cases c : codC ts us x = 0
  · rw [if_pos c, ← pagN_all]; exact setN_size h
  · rw [if_neg c]; intro y hy; cases hy
theorem pagL_0 {ts : List Ti} {us : List ByteArray} {x : Int} (h : codC ts us x = 0) : pagL ts us x = setS ltS ((cauL us x ts).map (tyS ts)) := by unfold pagL; rw [if_pos h]
theorem pagL_1 {ts : List Ti} {us : List ByteArray} {x : Int} (h : codC ts us x ≠ 0) : pagL ts us x = [] := by unfold pagL; rw [if_neg h]
theorem cauL_len (us : List ByteArray) (x : Int) (ts : List Ti) : (cauL us x ts).length ≤ ts.length := cauK_le us x ts ts.length
theorem codC_ok {ts : List Ti} {us : List ByteArray} {x : Int} (h : codC ts us x = 0) : okK ts us = true := by
  unfold codC at h
  by_cases c : okK ts us = true
  · exact c
  · rw [if_neg c] at h; exact absurd h (by decide)
theorem tieB_le20 {ts : List Ti} (h : tieB ts = true) : ts.length ≤ 20 := by
  unfold tieB at h
  rw [Bool.and_eq_true, decide_eq_true_eq] at h
  exact h.2
theorem okK_tieB {ts : List Ti} {us : List ByteArray} (h : okK ts us = true) : tieB ts = true := by
  unfold okK at h
  rw [Bool.and_eq_true] at h
  exact h.1
set_option maxHeartbeats 4000000 in
theorem impl.PartiesAgainst_any (s : Sl) (ts : List Ti) (q : Sl) (us : List ByteArray) (x : Int) (w : World) (hr : RdT w s.A s.n ts) (hq : RdW w q.A q.n us) (hc : cap1 s) :
    Calls Try.prog 13 #[.slice s.A s.n s.c, .slice q.A q.n q.c, .int .i64 x] w fun e w' => ∃ v : Sl, e = .returned (.tuple #[.slice v.A v.n v.c, .int .i64 (codC ts us x)]) ∧ OwS w' w.heap.size (.slice v.A v.n v.c) (pagL ts us x) ∧ Ext w w' := by
  have ha := impl.CausesOf_any s ts q us x w hr hq hc
  obtain ⟨A, n, c⟩ := s
  obtain ⟨B, m, d⟩ := q
  by_cases hcd : codC ts us x = 0
  case neg =>
    have E2 := hide (pagL_1 hcd)
    have hb : (codC ts us x != 0) = true := by rw [bne_iff_ne]; exact hcd
    generalize codC ts us x = cd at ha hb ⊢
    clear hcd
    go_enter Try.func13, Try.ntmps13
    go_wp2_with fail
    refine ha.mono ?_
    rintro e w1 ⟨v, rfl, ho1, hx1⟩
    go_wp2
    go_ret2
    exact ⟨⟨none, 0, 0⟩, rfl, by rw [E2.out]; exact OwS.nil_ _ _, hx1⟩
  have E2 := hide (pagL_0 hcd)
  rw [cofL_0 hcd] at ha
  rw [hcd] at ha ⊢
  clear hcd
  simp only at hr hq
  have hl := hide hr.1
  have hszs := hr.2.2.1
  have hcl := Nat.le_trans (cauL_len us x ts) (by have h1 := hr.1; have h2 := hr.2.1; omega : ts.length ≤ 16777216)
  go_enter Try.func13, Try.ntmps13
  go_wp2_with fail
  refine ha.mono ?_
  rintro e w1 ⟨⟨C, p, f⟩, rfl, hf, hx1⟩
  have hz1 := hx1.size
  have hp : Hid (p = (cauL us x ts).length) := hide hf.rd.1
  have hpn : p ≤ 16777216 := by have := hp.out; omega
  go_wp2
  go_loopw [10, 12, 26] (fun v _ i wr => ∃ k : Nat, k ≤ p ∧ i = .int .i64 k ∧ (∃ (g n1 c1 : Nat), v = .slice (some ⟨g, 0, none⟩) n1 c1 ∧ OwS wr w1.heap.size (.slice (some ⟨g, 0, none⟩) n1 c1) (pagN ts us x k)) ∧ Ext w1 wr) (fun _ _ i _ => p - (intOf i).toNat)
  case atStart => exact ⟨0, by omega, rfl, ⟨_, _, _, rfl, OwS.new0 w1 _ (Nat.le_refl _)⟩, (Ext.refl w1).alloc _⟩
  case round =>
    obtain ⟨k, hk, rfl, ⟨g, n1, c1, rfl, ho⟩, hx⟩ := hrel
    have hxw := hx1.trans hx
    by_cases hlt : k < p
    · obtain ⟨bf, of, i, rfl, hbf, hcf, hi⟩ := (hf.rd.ext hx).el hlt
      obtain ⟨j, t, rfl, htj⟩ := cauL_at hi.out
      have hjn : j < n := by have h1 := (List.getElem?_eq_some_iff.1 htj).1; have h2 := hl.out; omega
      obtain ⟨b, off, t', rfl, hbl, ⟨d0, d1, d2, d3⟩, hts, ht⟩ := (hr.ext hxw).el hjn
      obtain rfl : t = t' := by have := ht.out; rw [htj] at this; injection this
      have hs := hide (pagN_more hi.out htj)
      have hl1 := pagN_len ts us x k
      have hsz := hx.size
      clear hi htj ht
      go_wp2_with (at_builtin; refine wpList_appS _ rfl (.tmp 30) (.tmp 36) rfl w1.heap.size _ _ rfl (ho.alloc _) _ _ _ [t.s] rfl (RdW.one wr t.s hts) (by omega) (by simp; omega) ?_; intro t1 w2 ho2 hg2 hb2)
      go_roundw
      case rel =>
        obtain ⟨A1, n2, c2⟩ := t1
        have hA1 : ∃ g2, A1 = some ⟨g2, 0, none⟩ := by
          rcases ho2.2.2 with ⟨e, _⟩ | ⟨g2, cap, cur, e, _⟩
          · injection e with e1
            subst e1
            rcases hb2 with h | h <;> cases h
          · injection e with e1; exact ⟨g2, e1⟩
        obtain ⟨g2, rfl⟩ := hA1
        exact ⟨k + 1, by omega, by go_num, ⟨_, _, _, rfl, by rw [hs.out]; exact ho2⟩, (hx.alloc _).grow hg2 (fun g hg => (ho.lt g hg).1)⟩
      case measure => simp [intOf]; omega
    · have e : k = p := by omega
      subst e
      have hg := (ho.lt g rfl).1
      rw [hp.out, pagN_all] at ho
      go_wp2_with fail
      refine (sortS_any g n1 c1 w1.heap.size _ _ ho).mono ?_
      rintro e w3 ⟨rfl, ho3, hf3⟩
      go_wp2_with fail
      refine (compactS_any g n1 c1 w1.heap.size _ _ ho3).mono ?_
      rintro e w4 ⟨mm, rfl, ho4, hf4⟩
      rw [sortS_set] at ho4
      go_wp2
      go_ret2
      exact ⟨⟨_, _, _⟩, rfl, by rw [E2.out]; exact ho4.mono hz1, hxw.fr_trans (hf3.trans hf4) (fun k e => by omega)⟩
set_option maxHeartbeats 4000000 in
theorem spec.PartiesAgainst_any (s : Sl) (ts : List Ti) (q : Sl) (us : List ByteArray) (x : Int) (w : World) (hr : RdT w s.A s.n ts) (hq : RdW w q.A q.n us) :
    Calls Try.prog 14 #[.slice s.A s.n s.c, .slice q.A q.n q.c, .int .i64 x] w fun e w' => ∃ v : Sl, e = .returned (.tuple #[.slice v.A v.n v.c, .int .i64 (codC ts us x)]) ∧ OwS w' w.heap.size (.slice v.A v.n v.c) (pagL ts us x) ∧ Ext w w' := by
  have ha := spec.l13Code_any s ts q us x w hr hq
  have hb0 := fun W (h : Ext w W) => spec.l13Causes_any s ts q us x W (hr.ext h) (hq.ext h)
  obtain ⟨A, n, c⟩ := s
  obtain ⟨B, m, d⟩ := q
  by_cases hcd : codC ts us x = 0
  case neg =>
    have E2 := hide (pagL_1 hcd)
    have hb : (codC ts us x != 0) = true := by rw [bne_iff_ne]; exact hcd
    generalize codC ts us x = cd at ha hb ⊢
    clear hcd
    go_enter Try.func14, Try.ntmps14
    go_wp2_with fail
    refine ha.mono ?_
    rintro e w1 ⟨rfl, hx1⟩
    go_wp2
    go_ret2
    exact ⟨⟨none, 0, 0⟩, rfl, by rw [E2.out]; exact OwS.nil_ _ _, hx1⟩
  have E2 := hide (pagL_0 hcd)
  have hk20 : ts.length ≤ 20 := tieB_le20 (okK_tieB (codC_ok hcd))
  rw [hcd] at ha ⊢
  clear hcd
  simp only at hr hq
  have hl := hide hr.1
  have hszs := hr.2.2.1
  have hcl := Nat.le_trans (cauL_len us x ts) hk20
  go_enter Try.func14, Try.ntmps14
  go_wp2_with fail
  refine ha.mono ?_
  rintro e w0 ⟨rfl, hx0⟩
  have hz0 := hx0.size
  have hO0 := OwS.new0 w0 w.heap.size hz0
  go_wp2_with fail
  refine (hb0 _ (hx0.alloc _)).mono ?_
  rintro e w1 ⟨⟨C, p, f⟩, rfl, hf, hx1⟩
  have hO1 := hO0.ext hx1
  replace hx1 := (hx0.alloc _).trans hx1
  have hp : Hid (p = (cauL us x ts).length) := hide hf.rd.1
  have hpn : p ≤ 20 := by have := hp.out; omega
  clear hO0 hb0
  go_wp2
  go_loopw [9, 11] (fun v i wr => ∃ k : Nat, k ≤ p ∧ i = .int .i64 k ∧ (∃ t : Sl, v = .slice t.A t.n t.c ∧ OwS wr w.heap.size (.slice t.A t.n t.c) (setS ltS (pagN ts us x k))) ∧ Ext w1 wr) (fun _ i _ => p - (intOf i).toNat)
  case atStart => exact ⟨0, by omega, rfl, ⟨⟨_, _, _⟩, rfl, hO1⟩, Ext.refl _⟩
  case round =>
    obtain ⟨k, hk, rfl, ⟨v, rfl, ho⟩, hx⟩ := hrel
    have hxw := hx1.trans hx
    by_cases hlt : k < p
    · obtain ⟨bf, of, i, rfl, hbf, hcf, hi⟩ := (hf.rd.ext hx).el hlt
      obtain ⟨j, t, rfl, htj⟩ := cauL_at hi.out
      have hjn : j < n := by have h1 := (List.getElem?_eq_some_iff.1 htj).1; have h2 := hl.out; omega
      obtain ⟨b, off, t', rfl, hbl, ⟨d0, d1, d2, d3⟩, hts, ht⟩ := (hr.ext hxw).el hjn
      obtain rfl : t = t' := by have := ht.out; rw [htj] at this; injection this
      have hs := hide (show setS ltS (pagN ts us x (k + 1)) = insS ltS t.s (setS ltS (pagN ts us x k)) by rw [pagN_more hi.out htj, setS_app])
      have hl1 := Nat.le_trans (setS_len (lt := ltS) (pagN ts us x k)) (pagN_len ts us x k)
      have hsz := hxw.size
      clear hi htj ht
      go_wp2_with fail
      refine (spec.l13Insert_any v _ t.s w.heap.size _ ho hsz (by omega) hts (setN_size hszs)).mono ?_
      rintro e w2 ⟨t1, rfl, ho2, hx2⟩
      go_wp2
      go_roundw
      case rel => exact ⟨k + 1, by omega, by go_num, ⟨t1, rfl, by rw [hs.out]; exact ho2⟩, hx.trans hx2⟩
      case measure => simp [intOf]; omega
    · have e : k = p := by omega
      subst e
      rw [hp.out, pagN_all] at ho
      go_wp2
      go_ret2
      exact ⟨v, rfl, by rw [E2.out]; exact ho, hxw⟩
end Go.Proofs.Ytmcnnbjgehmmoaa.mem
