/-
  Contracts of both programs' ClearPanel.
-/
import Derived.Test.YtofglgfjlbehmaaGreatMg9
import Derived.Test.YtofglgfjlbehmaaGreatMg10
import Derived.Test.YtofglgfjlbehmaaGreatMg3
import Derived.Deep.LoopGhost
namespace Go.Proofs.YtofglgfjlbehmaaGreat.mem
open Go.ChangeShapes Go.WideShapes Go.ChangeAt Go.RowKit

def biaB (ts : List Ti) (us : List ByteArray) (x : Int) : Bool := decide (0 < (cauL us x ts).length)
def fbI (B : Int → Bool) (xs : List Int) : Int := match fb B xs with | none => -1 | some k => (k : Int)
theorem fbI_none {B : Int → Bool} {xs : List Int} (h : fb B xs = none) : fbI B xs = -1 := by unfold fbI; rw [h]
theorem fbI_some {B : Int → Bool} {xs : List Int} {k : Nat} (h : fb B xs = some k) : fbI B xs = k := by unfold fbI; rw [h]
def clrV (ts : List Ti) (us : List ByteArray) (l : L3) : L3 := if fitC ts us l = 0 then clr (biaB ts us) l else nilL3
theorem clrV_no {ts : List Ti} {us : List ByteArray} {l : L3} {c : Int} (h : fitC ts us l = c) (hc : c ≠ 0) : clrV ts us l = nilL3 := by
  unfold clrV
  rw [h, if_neg hc]
theorem clrV_yes {ts : List Ti} {us : List ByteArray} {l : L3} (h : fitC ts us l = 0) : clrV ts us l = clr (biaB ts us) l := by
  unfold clrV
  rw [if_pos h]
def sz (l : L3) : Nat := l.x.length + (l.y.length + l.z.length) + mz l
theorem sz_emp {l : L3} {k : Nat} {y : Int} (hk : l.x[k]? = some y) (h : y ≠ 0) : sz (empL l k) ≤ sz l := by
  have h1 := mz_emp hk h
  unfold sz
  have e1 : (empL l k).x.length = l.x.length := List.length_set
  have e2 : (empL l k).y.length ≤ l.y.length := by unfold empL; simp
  have e3 : (empL l k).z.length = l.z.length + 1 := by unfold empL; simp
  omega
theorem sz_ok {l : L3} (h : okP l = true) : sz l ≤ 200 := by
  have h1 := okP_iff.1 h
  have h2 := h1.2.1
  have h3 := nz_le l.x
  unfold sz mz
  unfold allP at h2
  simp only [List.length_append] at h2
  omega
theorem bia_0 {ts : List Ti} {us : List ByteArray} (h : okK ts us = true) : biaB ts us 0 = false := by
  unfold okK at h
  rw [Bool.and_eq_true] at h
  have h1 := h.1
  unfold tieB at h1
  rw [Bool.and_eq_true, List.all_eq_true] at h1
  unfold biaB
  rw [decide_eq_false_iff_not]
  have e : cauL us 0 ts = [] := by
    unfold cauL cauK
    rw [List.map_eq_nil_iff, List.filter_eq_nil_iff]
    intro i hi
    have h2 := h1.1 i hi
    unfold cauP
    cases ht : ts[i]? with
    | none => simp
    | some t =>
      rw [ht] at h2
      simp only [Bool.and_eq_true] at h2
      have h3 := h2.1
      unfold okT at h3
      rw [Bool.and_eq_true] at h3
      have h4 := inB_iff.1 h3.1
      have h5 : (t.n == 0) = false := by have : ¬ t.n = 0 := by omega
                                         simpa using this
      simp [h5]
  rw [e]
  simp
theorem sz_len {l : L3} {m : Nat} (h : sz l ≤ m) : l.x.length + (l.y.length + l.z.length) ≤ m := by
  unfold sz at h
  omega
theorem fitC_ok {ts : List Ti} {us : List ByteArray} {l : L3} (h : fitC ts us l = 0) : okK ts us = true ∧ okP l = true := by
  unfold fitC at h
  by_cases hc : okK ts us = true ∧ okP l = true
  · exact hc
  · rw [if_neg hc] at h; cases h
set_option maxHeartbeats 4000000 in
theorem spec.l13Seat_any (s : Sl) (ts : List Ti) (q : Sl) (us : List ByteArray) (p : S3) (l : L3) (w : World) (hr : RdT w s.A s.n ts) (hq : RdW w q.A q.n us) (hp : Rd3 w p l) :
    Calls Tryz.prog 111 #[.slice s.A s.n s.c, .slice q.A q.n q.c, .agg #[.slice p.x.A p.x.n p.x.c, .slice p.y.A p.y.n p.y.c, .slice p.z.A p.z.n p.z.c]] w fun e w' => e = .returned (.int .i64 (fbI (biaB ts us) l.x)) ∧ Ext w w' := by
  obtain ⟨⟨A1, n1, c1⟩, ⟨A2, n2, c2⟩, ⟨A3, n3, c3⟩⟩ := p
  obtain ⟨rx, _, _, _, _, _, _⟩ := hp
  simp only at rx ⊢
  have hX := (Ext.refl w).alloc (.cells #[.slice A1 n1 c1, .slice A2 n2 c2, .slice A3 n3 c3] 40)
  have hB := Blk.new w 40 (#[.slice A1 n1 c1, .slice A2 n2 c2, .slice A3 n3 c3])
  have hn1 := rx.le
  have hl := hide rx.1
  go_enter Tryz.func111, Tryz.ntmps111
  go_wp2_with fail
  go_loopw [7] (fun i wr => ∃ k : Nat, k ≤ n1 ∧ i = .int .i64 k ∧ Hid (∀ (j : Nat) (z : Int), j < k → l.x[j]? = some z → (z != 0 && biaB ts us z) = false) ∧ Ext w wr ∧ Blk wr w.heap.size 40 #[.slice A1 n1 c1, .slice A2 n2 c2, .slice A3 n3 c3]) (fun i _ => n1 - (intOf i).toNat)
  case atStart => exact ⟨0, by omega, rfl, hide fun j z h => absurd h (by omega), hX, hB⟩
  case round =>
    clear hX hB
    obtain ⟨k, hk, rfl, hno, hX, hB⟩ := hrel
    obtain ⟨q0, q1, q2⟩ := hB.c3
    by_cases hlt : k < n1
    · obtain ⟨b, off, y, rfl, hbl, hc1, hy⟩ := rx.el hlt
      have hcy := (hX.cell (p := ⟨b, off + k, none⟩) hbl).trans hc1
      have hk0 : (0 : Int) ≤ (k : Int) := by omega
      have hkn : (k : Int) < (n1 : Int) := by omega
      have hwr : IntKind.i64.wrap ((k : Int) + 1) = (k : Int) + 1 := Go.IntWalk.i64_in _ (by omega)
      have hmore : ∀ {b : Bool}, (y != 0 && biaB ts us y) = false → Hid (∀ (j : Nat) (z : Int), j < k + 1 → l.x[j]? = some z → (z != 0 && biaB ts us z) = false) := fun h => hide fun j z hj hz => by
        rcases Nat.lt_or_ge j k with h' | h'
        · exact hno.out j z h' hz
        · obtain rfl : j = k := by omega
          rw [hy.out] at hz
          injection hz with hz
          exact hz ▸ h
      by_cases hy0 : y = 0
      · have hyb : (y != 0) = false := by simpa using hy0
        have hm := @hmore true (by rw [hyb]; rfl)
        clear hmore
        go_wp2_with fail
        go_roundw
        case rel => exact ⟨k + 1, by omega, by go_num, hm, hX, hB⟩
        case measure => simp [intOf]; omega
      · have hyb : (y != 0) = true := by simpa using hy0
        have hm := @hmore true
        clear hmore
        go_wp2_with fail
        refine (spec.l13Causes_any s ts q us y _ (hr.ext hX) (hq.ext hX)).mono ?_
        rintro e w2 ⟨v, rfl, ov, hx2⟩
        have hX2 := hX.trans hx2
        have hB2 := hB.ext hx2
        have hvl := hide (show v.n = (cauL us y ts).length from ov.rd.1)
        have hvle := ov.rd.le
        clear q0 q1 q2
        obtain ⟨q0, q1, q2⟩ := hB2.c3
        by_cases h0 : 0 < v.n
        · have h01 : (0 : Int) < (v.n : Int) := by omega
          have hb : biaB ts us y = true := decide_eq_true (by rw [← hvl.out]; exact h0)
          have hf := hide (fbI_some (fb_is hy.out (by rw [hyb, hb]; rfl) hno.out))
          go_wp2_with fail
          go_ret
          exact ⟨by rw [hf.out]; rfl, hX2⟩
        · have h01 : ¬ ((0 : Int) < (v.n : Int)) := by omega
          have hb : biaB ts us y = false := decide_eq_false (by rw [← hvl.out]; exact h0)
          have hm2 := hm (by rw [hb]; simp)
          clear hm hb
          go_wp2_with fail
          go_roundw
          case rel => exact ⟨k + 1, by omega, by go_num, hm2, hX2, hB2⟩
          case measure => simp [intOf]; omega
    · have e : k = n1 := by omega
      subst e
      have hf := hide (fbI_none (fb_none (B := biaB ts us) (xs := l.x) fun j z hz => hno.out j z (by have := hl.out; have := (List.getElem?_eq_some_iff.1 hz).1; omega) hz))
      go_wp2_with fail
      go_ret
      exact ⟨by rw [hf.out]; rfl, hX⟩
set_option maxRecDepth 20000 in
set_option maxHeartbeats 8000000 in
theorem spec.ClearPanel_any (s : Sl) (ts : List Ti) (q : Sl) (us : List ByteArray) (p : S3) (l : L3) (w : World) (hr : RdT w s.A s.n ts) (hq : RdW w q.A q.n us) (hp : Rd3 w p l) :
    Calls Tryz.prog 79 #[.slice s.A s.n s.c, .slice q.A q.n q.c, .agg #[.slice p.x.A p.x.n p.x.c, .slice p.y.A p.y.n p.y.c, .slice p.z.A p.z.n p.z.c]] w fun e w' => ∃ t : S3, e = .returned (.tuple #[.agg #[.slice t.x.A t.x.n t.x.c, .slice t.y.A t.y.n t.y.c, .slice t.z.A t.z.n t.z.c], .int .i64 (fitC ts us l)]) ∧ Own3 w' w.heap.size t (clrV ts us l) ∧ Ext w w' := by
  have hX0 := ((Ext.refl w).alloc (.cells #[.slice p.x.A p.x.n p.x.c, .slice p.y.A p.y.n p.y.c, .slice p.z.A p.z.n p.z.c] 40)).alloc (.cells #[.slice none 0 0, .slice none 0 0, .slice none 0 0] 40)
  have hB0 := (Blk.new w 40 (#[.slice p.x.A p.x.n p.x.c, .slice p.y.A p.y.n p.y.c, .slice p.z.A p.z.n p.z.c])).alloc (.cells #[.slice none 0 0, .slice none 0 0, .slice none 0 0] 40)
  have hR0 := Blk.new (w.alloc (.cells #[.slice p.x.A p.x.n p.x.c, .slice p.y.A p.y.n p.y.c, .slice p.z.A p.z.n p.z.c] 40)) 40 (#[.slice none 0 0, .slice none 0 0, .slice none 0 0])
  rw [World.size_alloc] at hR0
  obtain ⟨q0, q1, q2⟩ := hB0.c3
  have hc := spec.l13Panel_any s ts q us p l _ (hr.ext hX0) (hq.ext hX0) (hp.ext hX0)
  by_cases h0 : fitC ts us l = 0
  case neg =>
    have E2 := hide (show fitC ts us l = 1 by unfold fitC at h0 ⊢; split at h0 <;> simp_all)
    rw [E2.out] at hc
    clear h0
    go_enter Tryz.func79, Tryz.ntmps79
    go_wp2_with fail
    refine hc.mono ?_
    rintro e w1 ⟨rfl, hx1⟩
    have hX1 := hX0.trans hx1
    have hR1 := hR0.ext hx1
    have E1 := hide (clrV_no E2.out (by decide))
    obtain ⟨r0, r1, r2, r3, r4, r5⟩ := res3 hR1
    have hRn := ((hR1.set_ 0 (.slice none 0 0)).set_ 1 (.slice none 0 0)).set_ 2 (.slice none 0 0)
    go_wp2
    obtain ⟨n0, n1', n2'⟩ := hRn.c3
    refine bodyPost_ret (v := .tuple #[.agg #[.slice (⟨⟨none, 0, 0⟩, ⟨none, 0, 0⟩, ⟨none, 0, 0⟩⟩ : S3).x.A (⟨⟨none, 0, 0⟩, ⟨none, 0, 0⟩, ⟨none, 0, 0⟩⟩ : S3).x.n (⟨⟨none, 0, 0⟩, ⟨none, 0, 0⟩, ⟨none, 0, 0⟩⟩ : S3).x.c, .slice (⟨⟨none, 0, 0⟩, ⟨none, 0, 0⟩, ⟨none, 0, 0⟩⟩ : S3).y.A (⟨⟨none, 0, 0⟩, ⟨none, 0, 0⟩, ⟨none, 0, 0⟩⟩ : S3).y.n (⟨⟨none, 0, 0⟩, ⟨none, 0, 0⟩, ⟨none, 0, 0⟩⟩ : S3).y.c, .slice (⟨⟨none, 0, 0⟩, ⟨none, 0, 0⟩, ⟨none, 0, 0⟩⟩ : S3).z.A (⟨⟨none, 0, 0⟩, ⟨none, 0, 0⟩, ⟨none, 0, 0⟩⟩ : S3).z.n (⟨⟨none, 0, 0⟩, ⟨none, 0, 0⟩, ⟨none, 0, 0⟩⟩ : S3).z.c], .int .i64 1]) (by simp [results, Tryz.results79, go_sem, n0, n1', n2']) rfl ⟨(⟨⟨none, 0, 0⟩, ⟨none, 0, 0⟩, ⟨none, 0, 0⟩⟩ : S3), by rw [E2.out], by rw [E1.out]; exact Own3.nil3_ _ _, ((hX1.off (w.heap.size + 1) 0 (by omega) _).off (w.heap.size + 1) 1 (by omega) _).off (w.heap.size + 1) 2 (by omega) _⟩
  have E2 := hide h0
  have E1 := hide (clrV_yes h0)
  obtain ⟨hok, hop⟩ := fitC_ok h0
  rw [h0] at hc
  clear h0
  go_enter Tryz.func79, Tryz.ntmps79
  go_wp2_with fail
  refine hc.mono ?_
  rintro e w1 ⟨rfl, hx1⟩
  have hX1 := hX0.trans hx1
  have hB1 := hB0.ext hx1
  have hR1 := hR0.ext hx1
  clear q0 q1 q2
  go_wp2_with fail
  go_loopg [9] (mz l) (fun m _ wr => ∃ (p1 : S3) (l1 : L3), m = mz l1 ∧ Hid (clr (biaB ts us) l = clr (biaB ts us) l1) ∧ Hid (sz l1 ≤ 200) ∧ Blk wr w.heap.size 40 #[.slice p1.x.A p1.x.n p1.x.c, .slice p1.y.A p1.y.n p1.y.c, .slice p1.z.A p1.z.n p1.z.c] ∧ Blk wr (w.heap.size + 1) 40 #[.slice none 0 0, .slice none 0 0, .slice none 0 0] ∧ Ext w wr ∧ ∀ w', Fr (fun k => k = w.heap.size ∨ k = w.heap.size + 1) wr w' → Rd3 w' p1 l1)
  case atStart => exact ⟨p, l, rfl, hide rfl, sz_ok hop, hB1, hR1, hX1, fun w' hf => hp.ext (Ext.fr_trans hX1 hf (fun k hk => by omega))⟩
  case round =>
    clear hX1 hB1 hR1 hX0 hB0 hR0 hx1
    obtain ⟨p1, l1, rfl, hcl, hsz, hB, hR, hX, hS⟩ := hrel
    have hrd := hS wr (Fr.refl _ _)
    obtain ⟨q0, q1, q2⟩ := hB.c3
    have hse := spec.l13Seat_any s ts q us p1 l1 wr (hr.ext hX) (hq.ext hX) hrd
    cases hfb : fb (biaB ts us) l1.x with
    | none =>
      have hfin := hide (hcl.out.trans (clr_none hfb))
      rw [fbI_none hfb] at hse
      go_wp2_with fail
      refine hse.mono ?_
      rintro e w2 ⟨rfl, hx2⟩
      go_upto_region 24 with fail
      clear q0 q1 q2
      have hF : Fr (fun k => k = w.heap.size ∨ k = w.heap.size + 1) wr w2.drew := (Ext.fr hx2.drew)
      replace hB := (hB.ext hx2).drew
      replace hR := (hR.ext hx2).drew
      replace hX := (hX.trans hx2).drew
      refine wp_region_sink (S := fun w' => w'.cell? ⟨w.heap.size, 0, none⟩ = some (.slice p1.x.A p1.x.n p1.x.c) ∧ w'.cell? ⟨w.heap.size, 1, none⟩ = some (.slice p1.y.A p1.y.n p1.y.c) ∧ w'.cell? ⟨w.heap.size, 2, none⟩ = some (.slice p1.z.A p1.z.n p1.z.c)) 11 (by kernel_rfl) ?_
      change wpAnyT _ _ _ _ _ _ _ _ _ (World.drew _)
      generalize hwd : World.drew w2 = wd at hF hB hR hX ⊢
      clear hwd
      have kk := hB.c3
      have hzd := hR.lt
      refine wpAnyT_takeL (i := 0) 5 (v := ?_) rfl (by kernel_rfl) (by kernel_rfl) (by kernel_rfl) (by kernel_rfl) (by kernel_rfl) (fun _ _ _ h => h) (Or.inl ⟨by rfl, ?_⟩) kk ?_
      rotate_left 1
      · (intro W hSw; (try dsimp only at hSw); go_simp) <;> with_reducible rfl
      try simp only [Act.put, List.setIfInBounds_toArray, List.set_cons_zero, List.set_cons_succ]
      refine wpAnyT_takeL (i := 1) 5 (v := ?_) rfl (by kernel_rfl) (by kernel_rfl) (by kernel_rfl) (by kernel_rfl) (by kernel_rfl) (fun _ _ _ h => h) (Or.inl ⟨by rfl, ?_⟩) kk ?_
      rotate_left 1
      · (intro W hSw; (try dsimp only at hSw); go_simp) <;> with_reducible rfl
      try simp only [Act.put, List.setIfInBounds_toArray, List.set_cons_zero, List.set_cons_succ]
      refine wpAnyT_takeL (i := 3) 5 (v := ?_) rfl (by kernel_rfl) (by kernel_rfl) (by kernel_rfl) (by kernel_rfl) (by kernel_rfl) (fun _ _ _ h => h) (Or.inl ⟨by rfl, ?_⟩) kk ?_
      rotate_left 1
      · (intro W hSw; (try dsimp only at hSw); go_simp) <;> with_reducible rfl
      try simp only [Act.put, List.setIfInBounds_toArray, List.set_cons_zero, List.set_cons_succ]
      refine wpAnyT_takeL (i := 4) 5 (v := ?_) rfl (by kernel_rfl) (by kernel_rfl) (by kernel_rfl) (by kernel_rfl) (by kernel_rfl) (fun _ _ _ h => h) (Or.inl ⟨by rfl, ?_⟩) kk ?_
      rotate_left 1
      · (intro W hSw; (try dsimp only at hSw); go_simp) <;> with_reducible rfl
      try simp only [Act.put, List.setIfInBounds_toArray, List.set_cons_zero, List.set_cons_succ]
      refine wpAnyT_takeL (i := 6) 5 (v := ?_) rfl (by kernel_rfl) (by kernel_rfl) (by kernel_rfl) (by kernel_rfl) (by kernel_rfl) (fun _ _ _ h => h) (Or.inl ⟨by rfl, ?_⟩) kk ?_
      rotate_left 1
      · (intro W hSw; (try dsimp only at hSw); go_simp) <;> with_reducible rfl
      try simp only [Act.put, List.setIfInBounds_toArray, List.set_cons_zero, List.set_cons_succ]
      refine wpAnyT_takeL (i := 7) 5 (v := ?_) rfl (by kernel_rfl) (by kernel_rfl) (by kernel_rfl) (by kernel_rfl) (by kernel_rfl) (fun _ _ _ h => h) (Or.inl ⟨by rfl, ?_⟩) kk ?_
      rotate_left 1
      · (intro W hSw; (try dsimp only at hSw); go_simp) <;> with_reducible rfl
      try simp only [Act.put, List.setIfInBounds_toArray, List.set_cons_zero, List.set_cons_succ]
      refine wpAnyT_go (i := 2) rfl (by kernel_rfl) fun K hK => ?_
      go_simp
      go_at_call 62
      refine (spec.l01Own_any p1.x l1.x _ ((hS _ hF).1)).mono ?_
      rintro e w3 ⟨tx, rfl, ox, hxx⟩
      go_simp
      replace hB := hB.ext hxx
      replace hR := hR.ext hxx
      replace hX := hX.trans hxx
      replace hF := hF.trans (Ext.fr hxx)
      have gx := ox.lt
      have zx := hxx.size
      refine hK _ _ ⟨fun _ => hB.c3, ?_⟩
      clear hK K
      refine wpAnyT_go (i := 5) rfl (by kernel_rfl) fun K hK => ?_
      go_simp
      go_at_call 62
      refine (spec.l01Own_any p1.y l1.y _ ((hS _ hF).2.1)).mono ?_
      rintro e w4 ⟨ty, rfl, oy, hxy⟩
      go_simp
      replace ox := ox.ext hxy
      replace hB := hB.ext hxy
      replace hR := hR.ext hxy
      replace hX := hX.trans hxy
      replace hF := hF.trans (Ext.fr hxy)
      have gy := oy.lt
      have zy := hxy.size
      refine hK _ _ ⟨fun _ => hB.c3, ?_⟩
      clear hK K
      refine wpAnyT_go (i := 8) rfl (by kernel_rfl) fun K hK => ?_
      go_simp
      go_at_call 62
      refine (spec.l01Own_any p1.z l1.z _ ((hS _ hF).2.2.1)).mono ?_
      rintro e w5 ⟨tz, rfl, oz, hxz⟩
      go_simp
      replace ox := ox.ext hxz
      replace oy := oy.ext hxz
      replace hB := hB.ext hxz
      replace hR := hR.ext hxz
      replace hX := hX.trans hxz
      replace hF := hF.trans (Ext.fr hxz)
      have gz := oz.lt
      have zz := hxz.size
      refine hK _ _ ⟨fun _ => hB.c3, ?_⟩
      clear hK K
      have kk2 := hB.c3
      refine wpAnyT_takeL (i := 9) 5 (v := ?_) rfl (by kernel_rfl) (by kernel_rfl) (by kernel_rfl) (by kernel_rfl) (by kernel_rfl) (fun _ _ _ h => h) (Or.inl ⟨by rfl, ?_⟩) kk2 ?_
      rotate_left 1
      · (intro W hSw; (try dsimp only at hSw); go_simp) <;> with_reducible rfl
      try simp only [Act.put, List.setIfInBounds_toArray, List.set_cons_zero, List.set_cons_succ]
      refine wpAnyT_go (i := 10) rfl (by kernel_rfl) fun K hK => ?_
      obtain ⟨r0, r1, r2, r3, r4, r5⟩ := res3 hR
      go_simp
      refine hK _ _ ⟨fun _ => (((hB.off (w.heap.size + 1) 0 (by omega) _).off (w.heap.size + 1) 1 (by omega) _).off (w.heap.size + 1) 2 (by omega) _).c3, ?_⟩
      clear hK K
      refine wpAnyT_go (i := 11) rfl (by kernel_rfl) fun K hK => ?_
      go_simp
      refine hK _ _ ⟨fun h => absurd rfl h, ?_⟩
      clear hK K
      refine wpAnyT_done (by kernel_rfl) ?_ _
      have hzz := hR.lt
      have hRn := ((hR.set_ 0 (.slice tx.A tx.n tx.c)).set_ 1 (.slice ty.A ty.n ty.c)).set_ 2 (.slice tz.A tz.n tz.c)
      obtain ⟨n0, n1', n2'⟩ := hRn.c3
      go_wp2_with fail
      have hw0 : w.heap.size + 1 + 1 ≤ wd.heap.size := hzd
      have l1' := ox.rd.1
      have l2' := oy.rd.1
      have l3' := oz.rd.1
      have h7 : Own3 w5 (w.heap.size + 1 + 1) ⟨tx, ty, tz⟩ l1 := ⟨ox.mono (by omega), oy.mono (by omega), oz.mono (by omega), by have := sz_len hsz.out; simp only; omega, fun k h1 h2 => by have a1 := gx k h1; have a2 := gy k h2; omega, fun k h1 h2 => by have a1 := gx k h1; have a2 := gz k h2; omega, fun k h1 h2 => by have a1 := gy k h1; have a2 := gz k h2; omega⟩
      refine bodyPost_ret (v := .tuple #[.agg #[.slice (⟨tx, ty, tz⟩ : S3).x.A (⟨tx, ty, tz⟩ : S3).x.n (⟨tx, ty, tz⟩ : S3).x.c, .slice (⟨tx, ty, tz⟩ : S3).y.A (⟨tx, ty, tz⟩ : S3).y.n (⟨tx, ty, tz⟩ : S3).y.c, .slice (⟨tx, ty, tz⟩ : S3).z.A (⟨tx, ty, tz⟩ : S3).z.n (⟨tx, ty, tz⟩ : S3).z.c], .int .i64 0]) (by simp [results, Tryz.results79, go_sem, n0, n1', n2']) rfl ⟨⟨tx, ty, tz⟩, by rw [E2.out], ?_, ((hX.off (w.heap.size + 1) 0 (by omega) _).off (w.heap.size + 1) 1 (by omega) _).off (w.heap.size + 1) 2 (by omega) _⟩
      rw [E1.out, hfin.out]
      exact Own3.mono (((h7.awayP (g := w.heap.size + 1) (by omega) 0 _).awayP (g := w.heap.size + 1) (by omega) 1 _).awayP (g := w.heap.size + 1) (by omega) 2 _) (by omega)
    | some k =>
      obtain ⟨y, hy, hy0, hyb, hyn⟩ := fb_some hfb
      have hmz := hide (mz_emp hy hy0)
      have hcl2 := hide (hcl.out.trans (clr_some hfb))
      have hsz2 := hide (Nat.le_trans (sz_emp hy hy0) hsz.out)
      have hkx : k < p1.x.n := by have h1 : p1.x.n = l1.x.length := hrd.1.1; have := (List.getElem?_eq_some_iff.1 hy).1; omega
      have hsm : p1.x.n + (p1.y.n + p1.z.n) ≤ 100000 := by have h1 : p1.x.n = l1.x.length := hrd.1.1; have h2 : p1.y.n = l1.y.length := hrd.2.1.1; have h3 : p1.z.n = l1.z.length := hrd.2.2.1.1; have := sz_len hsz.out; omega
      have hk0 : ¬ ((k : Int) < 0) := by omega
      rw [fbI_some hfb] at hse
      clear hfb hy hy0 hyb hyn hcl hsz
      go_wp2_with fail
      refine hse.mono ?_
      rintro e w2 ⟨rfl, hx2⟩
      have hB2 := hB.ext hx2
      clear q0 q1 q2
      obtain ⟨q0, q1, q2⟩ := hB2.c3
      go_wp2_with fail
      refine (spec.l12Empty_any p1 l1 k _ (hrd.ext hx2) hkx hsm).mono ?_
      rintro e w3 ⟨t, rfl, ho, hx3⟩
      have hB3 := hB2.ext hx3
      have hR3 := (hR.ext hx2).ext hx3
      have hX3 := (hX.trans hx2).trans hx3
      have hz3 : w.heap.size + 1 + 1 ≤ w2.heap.size := by have := hR.lt; have := hx2.size; omega
      obtain ⟨r0, r1, r2, r3, r4, r5⟩ := res3 hB3
      clear q0 q1 q2
      go_wp2_with fail
      go_roundg (mz (empL l1 k))
      case measure => exact hmz.out
      case rel => exact ⟨t, empL l1 k, rfl, hcl2, hsz2, ((hB3.set_ 0 _).set_ 1 _).set_ 2 _, ((hR3.off w.heap.size 0 (by omega) _).off w.heap.size 1 (by omega) _).off w.heap.size 2 (by omega) _, ((hX3.off w.heap.size 0 (by omega) _).off w.heap.size 1 (by omega) _).off w.heap.size 2 (by omega) _, fun w' hf => (((((ho.mono hz3).awayP (g := w.heap.size) (by omega) 0 _).awayP (g := w.heap.size) (by omega) 1 _).awayP (g := w.heap.size) (by omega) 2 _).fr hf (fun k' hk' he => by have := (ho.lt hk').1; omega)).rd⟩
set_option maxRecDepth 20000 in
set_option maxHeartbeats 8000000 in
theorem impl.clearPanel_any (s : Sl) (ts : List Ti) (q : Sl) (us : List ByteArray) (p : S3) (l : L3) (w : World) (hr : RdT w s.A s.n ts) (hq : RdW w q.A q.n us) (hp : Rd3 w p l) (hok : okK ts us = true) (hz200 : sz l ≤ 200) :
    Calls Tryz.prog 71 #[.slice s.A s.n s.c, .slice q.A q.n q.c, .agg #[.slice p.x.A p.x.n p.x.c, .slice p.y.A p.y.n p.y.c, .slice p.z.A p.z.n p.z.c]] w fun e w' => ∃ t : S3, e = .returned (.agg #[.slice t.x.A t.x.n t.x.c, .slice t.y.A t.y.n t.y.c, .slice t.z.A t.z.n t.z.c]) ∧ Own3 w' w.heap.size t (clr (biaB ts us) l) ∧ Ext w w' := by
  have hX0 := ((Ext.refl w).alloc (.cells #[.slice p.x.A p.x.n p.x.c, .slice p.y.A p.y.n p.y.c, .slice p.z.A p.z.n p.z.c] 40)).alloc (.cells #[.slice none 0 0, .slice none 0 0, .slice none 0 0] 40)
  have hB0 := (Blk.new w 40 (#[.slice p.x.A p.x.n p.x.c, .slice p.y.A p.y.n p.y.c, .slice p.z.A p.z.n p.z.c])).alloc (.cells #[.slice none 0 0, .slice none 0 0, .slice none 0 0] 40)
  have hR0 := Blk.new (w.alloc (.cells #[.slice p.x.A p.x.n p.x.c, .slice p.y.A p.y.n p.y.c, .slice p.z.A p.z.n p.z.c] 40)) 40 (#[.slice none 0 0, .slice none 0 0, .slice none 0 0])
  rw [World.size_alloc] at hR0
  obtain ⟨q0, q1, q2⟩ := hB0.c3
  go_enter Tryz.func71, Tryz.ntmps71
  go_wp2_with fail
  refine (impl.copyPanel_any p l _ (hp.ext hX0)).mono ?_
  rintro e w1 ⟨t0, rfl, ho, hx1⟩
  clear q0 q1 q2
  have hx2 := hx1.alloc (.cells #[.slice t0.x.A t0.x.n t0.x.c, .slice t0.y.A t0.y.n t0.y.c, .slice t0.z.A t0.z.n t0.z.c] 40)
  have hO := Blk.new w1 40 (#[.slice t0.x.A t0.x.n t0.x.c, .slice t0.y.A t0.y.n t0.y.c, .slice t0.z.A t0.z.n t0.z.c])
  have hX := hX0.trans hx2
  have hR := hR0.ext hx2
  have h3 := (ho.alloc (.cells #[.slice t0.x.A t0.x.n t0.x.c, .slice t0.y.A t0.y.n t0.y.c, .slice t0.z.A t0.z.n t0.z.c] 40)).mono (lo' := w.heap.size + 1 + 1) (by simp)
  have hg : w.heap.size + 1 + 1 ≤ w1.heap.size := by have := hx1.size; simpa using this
  have ha : ∀ k, blks t0 k → k ≠ w1.heap.size := fun k hk e => by have := (ho.lt hk).2; omega
  obtain ⟨g, hge⟩ : ∃ g, g = w1.heap.size := ⟨_, rfl⟩
  rw [← hge] at hO hg ha
  have hlen := hide (show l.x.length ≤ 200 by have := sz_len (hz200); omega)
  have hstart : ∃ (t : S3) (l1 : L3) (j : Nat), j ≤ l.x.length ∧ mz l * (l.x.length + 1) + l.x.length = mz l1 * (l.x.length + 1) + (l.x.length - j) ∧ Value.int .i64 0 = .int .i64 j ∧ Hid (clr (biaB ts us) l = clr (biaB ts us) l1) ∧ Hid (sz l1 ≤ 200) ∧ Hid (l1.x.length = l.x.length) ∧
      Hid (∀ (i : Nat) (z : Int), i < j → l1.x[i]? = some z → (z != 0 && biaB ts us z) = false) ∧ Blk (w1.alloc (.cells #[.slice t0.x.A t0.x.n t0.x.c, .slice t0.y.A t0.y.n t0.y.c, .slice t0.z.A t0.z.n t0.z.c] 40)) g 40 #[.slice t.x.A t.x.n t.x.c, .slice t.y.A t.y.n t.y.c, .slice t.z.A t.z.n t.z.c] ∧ Own3 (w1.alloc (.cells #[.slice t0.x.A t0.x.n t0.x.c, .slice t0.y.A t0.y.n t0.y.c, .slice t0.z.A t0.z.n t0.z.c] 40)) (w.heap.size + 1 + 1) t l1 ∧ (∀ k, blks t k → k ≠ g) ∧ Blk (w1.alloc (.cells #[.slice t0.x.A t0.x.n t0.x.c, .slice t0.y.A t0.y.n t0.y.c, .slice t0.z.A t0.z.n t0.z.c] 40)) (w.heap.size + 1) 40 #[.slice none 0 0, .slice none 0 0, .slice none 0 0] ∧ Ext w (w1.alloc (.cells #[.slice t0.x.A t0.x.n t0.x.c, .slice t0.y.A t0.y.n t0.y.c, .slice t0.z.A t0.z.n t0.z.c] 40)) :=
    ⟨t0, l, 0, Nat.zero_le _, by omega, rfl, hide rfl, hz200, hide rfl, hide fun i z h => absurd h (by omega), hO, h3, ha, hR, hX⟩
  clear hO h3 ha hR hX hX0 hB0 hR0 hx1 hx2 ho
  go_wp2_with fail
  rw [← hge]
  clear hge
  go_loopg [8] (mz l * (l.x.length + 1) + l.x.length) (fun m i wr => ∃ (t : S3) (l1 : L3) (j : Nat), j ≤ l.x.length ∧ m = mz l1 * (l.x.length + 1) + (l.x.length - j) ∧ i = .int .i64 j ∧ Hid (clr (biaB ts us) l = clr (biaB ts us) l1) ∧ Hid (sz l1 ≤ 200) ∧ Hid (l1.x.length = l.x.length) ∧
      Hid (∀ (i : Nat) (z : Int), i < j → l1.x[i]? = some z → (z != 0 && biaB ts us z) = false) ∧ Blk wr g 40 #[.slice t.x.A t.x.n t.x.c, .slice t.y.A t.y.n t.y.c, .slice t.z.A t.z.n t.z.c] ∧ Own3 wr (w.heap.size + 1 + 1) t l1 ∧ (∀ k, blks t k → k ≠ g) ∧ Blk wr (w.heap.size + 1) 40 #[.slice none 0 0, .slice none 0 0, .slice none 0 0] ∧ Ext w wr)
  case atStart => exact hstart
  case round =>
    clear hstart
    obtain ⟨⟨⟨A1, n1, c1⟩, t2, t3⟩, l1, j, hj, rfl, rfl, hcl, hsz, hlx, hno, hO, h3, ha, hR, hX⟩ := hrel
    simp only at hO
    obtain ⟨q0, q1, q2⟩ := hO.c3
    have hn1 := hide (show n1 = l.x.length by have h : n1 = l1.x.length := h3.1.rd.1; have := hlx.out; omega)
    have hat := fun W : World => impl.at_any (j : Int) (n1 : Int) W
    by_cases hlt : j < n1
    · rw [inB_yes (show (0 : Int) ≤ (j : Int) ∧ (j : Int) ≤ (n1 : Int) - 1 by omega)] at hat
      have r1 := h3.1.rd
      simp only at r1
      obtain ⟨b, off, y, rfl, hbl, hcy, hy⟩ := r1.el hlt
      have hj0 : (0 : Int) ≤ (j : Int) := by omega
      have hjn : (j : Int) < (n1 : Int) := by omega
      have hbi := fun W h1 h2 => impl.biased_any s ts q us y W h1 h2
      cases hb : biaB ts us y
      · have hmore := hide (show ∀ (i : Nat) (z : Int), i < j + 1 → l1.x[i]? = some z → (z != 0 && biaB ts us z) = false from fun i z hi hz => by
          rcases Nat.lt_or_ge i j with h' | h'
          · exact hno.out i z h' hz
          · obtain rfl : i = j := by omega
            rw [hy.out] at hz
            injection hz with hz
            rw [← hz, hb]; simp)
        have hwr : IntKind.i64.wrap ((j : Int) + 1) = (j : Int) + 1 := Go.IntWalk.i64_in _ (by have := hlen.out; omega)
        have hb' : decide (0 < (cauL us y ts).length) = false := hb
        simp only [hb'] at hbi
        clear hb hb'
        go_wp2_with (go_at_call 102; refine (hat _).mono ?_; rintro e w' ⟨rfl, rfl⟩)
        refine (hbi _ (hr.ext hX) (hq.ext hX)).mono ?_
        rintro e w2 ⟨rfl, hx2⟩
        go_wp2_with fail
        go_roundg (mz l1 * (l.x.length + 1) + (l.x.length - (j + 1)))
        case measure => have := hn1.out; omega
        case rel => exact ⟨⟨⟨some ⟨b, off, none⟩, n1, c1⟩, t2, t3⟩, l1, j + 1, by have := hn1.out; omega, rfl, by go_num, hcl, hsz, hlx, hmore, hO.ext hx2, h3.ext hx2, ha, hR.ext hx2, hX.trans hx2⟩
      · have hy0 : y ≠ 0 := fun e => by rw [e, bia_0 hok] at hb; cases hb
        have hf := fb_is hy.out (by rw [hb, Bool.and_true]; simpa using hy0) hno.out
        have hmz := hide (mz_emp hy.out hy0)
        have hcl2 := hide (hcl.out.trans (clr_some hf))
        have hsz2 := hide (Nat.le_trans (sz_emp hy.out hy0) hsz.out)
        have hlx2 := hide (show (empL l1 j).x.length = l.x.length by have := hlx.out; unfold empL; simpa using this)
        have hmore := hide (show ∀ (i : Nat) (z : Int), i < j → (empL l1 j).x[i]? = some z → (z != 0 && biaB ts us z) = false from fun i z hi hz => by
          unfold empL at hz
          rw [List.getElem?_set_ne (by omega)] at hz
          exact hno.out i z hi hz)
        have hsm : n1 + (t2.n + t3.n) ≤ 100000 := by have h1 : n1 = l1.x.length := h3.1.rd.1; have h2 : t2.n = l1.y.length := h3.2.1.rd.1; have h3' : t3.n = l1.z.length := h3.2.2.1.rd.1; have := sz_len hsz.out; omega
        have hb' : decide (0 < (cauL us y ts).length) = true := hb
        simp only [hb'] at hbi
        clear hb hb' hf hy0
        go_wp2_with (go_at_call 102; refine (hat _).mono ?_; rintro e w' ⟨rfl, rfl⟩)
        refine (hbi _ (hr.ext hX) (hq.ext hX)).mono ?_
        rintro e w2 ⟨rfl, hx2⟩
        have hO2 := hO.ext hx2
        clear q0 q1 q2
        obtain ⟨q0, q1, q2⟩ := hO2.c3
        go_wp2_with fail
        refine (impl.empty_any ⟨⟨some ⟨b, off, none⟩, n1, c1⟩, t2, t3⟩ l1 j _ (h3.ext hx2).rd hlt hsm).mono ?_
        rintro e w3 ⟨t, rfl, ho, hx3⟩
        have hO3 := hO2.ext hx3
        have hR3 := (hR.ext hx2).ext hx3
        have hX3 := (hX.trans hx2).trans hx3
        have hz3 : w.heap.size + 1 + 1 ≤ w2.heap.size := by have := hO2.lt; omega
        have hgo := hO2.lt
        obtain ⟨r0, r1', r2, r3, r4, r5⟩ := res3 hO3
        clear q0 q1 q2
        go_wp2_with fail
        go_roundg (mz (empL l1 j) * (l.x.length + 1) + (l.x.length - j))
        case measure =>
          have h1 := Nat.mul_le_mul_right (l.x.length + 1) (show mz (empL l1 j) + 1 ≤ mz l1 from hmz.out)
          rw [Nat.add_mul] at h1
          omega
        case rel => exact ⟨t, empL l1 j, j, hj, rfl, rfl, hcl2, hsz2, hlx2, hmore, ((hO3.set_ 0 _).set_ 1 _).set_ 2 _, (((ho.awayP (g := g) hgo 0 _).awayP (g := g) hgo 1 _).awayP (g := g) hgo 2 _).mono hz3, fun k hk e => by have := (ho.lt hk).1; omega, ((hR3.off g 0 (by omega) _).off g 1 (by omega) _).off g 2 (by omega) _, ((hX3.off g 0 (by omega) _).off g 1 (by omega) _).off g 2 (by omega) _⟩
    · rw [inB_no (show ¬ ((0 : Int) ≤ (j : Int) ∧ (j : Int) ≤ (n1 : Int) - 1) by omega)] at hat
      have hfin := hide (hcl.out.trans (clr_none (fb_none fun i z hz => hno.out i z (by have h1 := (List.getElem?_eq_some_iff.1 hz).1; have := hlx.out; have := hn1.out; omega) hz)))
      obtain ⟨r0, r1, r2, r3, r4, r5⟩ := res3 hR
      have hRn := ((hR.set_ 0 (.slice A1 n1 c1)).set_ 1 (.slice t2.A t2.n t2.c)).set_ 2 (.slice t3.A t3.n t3.c)
      go_wp2_with (go_at_call 102; refine (hat _).mono ?_; rintro e w' ⟨rfl, rfl⟩)
      obtain ⟨n0, n1', n2'⟩ := hRn.c3
      refine bodyPost_ret (v := .agg #[.slice (⟨⟨A1, n1, c1⟩, t2, t3⟩ : S3).x.A (⟨⟨A1, n1, c1⟩, t2, t3⟩ : S3).x.n (⟨⟨A1, n1, c1⟩, t2, t3⟩ : S3).x.c, .slice (⟨⟨A1, n1, c1⟩, t2, t3⟩ : S3).y.A (⟨⟨A1, n1, c1⟩, t2, t3⟩ : S3).y.n (⟨⟨A1, n1, c1⟩, t2, t3⟩ : S3).y.c, .slice (⟨⟨A1, n1, c1⟩, t2, t3⟩ : S3).z.A (⟨⟨A1, n1, c1⟩, t2, t3⟩ : S3).z.n (⟨⟨A1, n1, c1⟩, t2, t3⟩ : S3).z.c]) (by simp [results, Tryz.results71, go_sem, n0, n1', n2']) rfl ⟨⟨⟨A1, n1, c1⟩, t2, t3⟩, rfl, ?_, ((hX.off (w.heap.size + 1) 0 (by omega) _).off (w.heap.size + 1) 1 (by omega) _).off (w.heap.size + 1) 2 (by omega) _⟩
      rw [hfin.out]
      exact Own3.mono (((h3.awayP (g := w.heap.size + 1) (by omega) 0 _).awayP (g := w.heap.size + 1) (by omega) 1 _).awayP (g := w.heap.size + 1) (by omega) 2 _) (by omega)
end Go.Proofs.YtofglgfjlbehmaaGreat.mem
