/-
  Contracts of both programs' PanelOfRecord.
-/
import Derived.Test.YtofglgfjlbehmaaGreatClr
import Derived.Test.YtofglgfjlbehmaaGreatRecW
import Derived.Test.YtofglgfjlbehmaaGreatShf
namespace Go.Proofs.YtofglgfjlbehmaaGreat.mem
open Go.ChangeShapes Go.WideShapes Go.ChangeAt Go.RowKit

theorem shI_mem {n : Nat} {s : Int} : ∀ (i : Nat) (z : Int), z ∈ (shI n s i).1 → 0 ≤ z ∧ z < n
  | 0, z, h => by
    simp only [shI, List.mem_map, List.mem_range] at h
    obtain ⟨a, ha, rfl⟩ := h
    omega
  | i + 1, z, h => by
    have ih := shI_mem (n := n) (s := s) i
    have hg : ∀ k : Nat, 0 < n → 0 ≤ (shI n s i).1.getD k 0 ∧ (shI n s i).1.getD k 0 < n := fun k hn => by
      rw [List.getD_eq_getElem?_getD]
      cases hk : (shI n s i).1[k]? with
      | none => simp; omega
      | some v => exact ih v (List.mem_of_getElem? hk)
    have hn : 0 < n := by
      rcases Nat.eq_zero_or_pos n with e | e
      · have hl := shI_len n s (i + 1)
        rw [e] at hl
        have := List.eq_nil_of_length_eq_zero hl
        rw [e] at h
        rw [this] at h
        cases h
      · exact e
    simp only [shI, swp] at h
    rcases List.mem_or_eq_of_mem_set h with h | rfl
    · rcases List.mem_or_eq_of_mem_set h with h | rfl
      · exact ih z h
      · exact hg _ hn
    · exact hg _ hn
def rpL (y : RecL) : List Int := (shI y.p.x.length y.b (y.p.x.length - 1)).1.map (fun i => y.p.x.getD i.toNat 0)
theorem rpL_len (y : RecL) : (rpL y).length = y.p.x.length := by unfold rpL; rw [List.length_map, shI_len]
def prV (ts : List Ti) (us : List ByteArray) (y : RecL) : L3 := clrV ts us (mkR (rpL y) y.d).1
theorem rpL_more {xs : List Int} {o : List Int} {k : Nat} {i : Int} (h : o[k]? = some i) : (o.take (k + 1)).map (fun i => xs.getD i.toNat 0) = (o.take k).map (fun i => xs.getD i.toNat 0) ++ [xs.getD i.toNat 0] := by
  rw [take_more h, List.map_append]; rfl
theorem mkR_two (xs : List Int) (s : Int) : (mkR xs s).1 = nilL3 ∨ okP (mkR xs s).1 = true := by
  unfold mkR
  split
  · split
    · exact .inl rfl
    · rename_i h
      right
      simp only [Bool.or_eq_true, Bool.not_eq_true', not_or, Bool.not_eq_false] at h
      exact h.2
  · exact .inl rfl
theorem clr_nil (B : Int → Bool) : clr B nilL3 = nilL3 := clr_none (fb_none fun j z h => by simp [nilL3] at h)
theorem prV_eq {ts : List Ti} {us : List ByteArray} (l : L3) (hk : okK ts us = true) (h : l = nilL3 ∨ okP l = true) : clrV ts us l = clr (biaB ts us) l := by
  rcases h with h | h
  · subst h
    rw [clr_nil]
    exact clrV_no (c := 1) (by unfold fitC; rw [if_neg]; rintro ⟨_, h⟩; cases h) (by decide)
  · exact clrV_yes (by unfold fitC; rw [if_pos ⟨hk, h⟩])
theorem sz_two {l : L3} (h : l = nilL3 ∨ okP l = true) : sz l ≤ 200 := by
  rcases h with h | h
  · subst h; decide
  · exact sz_ok h
theorem okR_b {y : RecL} (h : okR y = true) : (1 ≤ y.b ∧ y.b ≤ 2147483646) ∧ y.p.x.length ≤ 60 := by
  unfold okR at h
  simp only [Bool.and_eq_true, decide_eq_true_eq] at h
  exact ⟨inB_iff.1 h.2.1, h.2.2.2.1⟩
set_option maxRecDepth 20000 in
set_option maxHeartbeats 2500000 in
theorem impl.recPanel_any (x : RecA) (y : RecL) (s : Sl) (ts : List Ti) (q : Sl) (us : List ByteArray) (w : World) (hr : RdR w x y) (ht : RdT w s.A s.n ts) (hq : RdW w q.A q.n us) (hok : okR y = true) (hkk : okK ts us = true) :
    Calls Tryz.prog 40 #[.agg #[.int .i64 x.a, .int .i64 x.b, .int .i64 x.c, .slice x.p.x.A x.p.x.n x.p.x.c, .int .i64 x.d, .slice x.p.y.A x.p.y.n x.p.y.c, .slice x.p.z.A x.p.z.n x.p.z.c, .int .i64 x.e, .int .i64 x.f], .slice s.A s.n s.c, .slice q.A q.n q.c] w fun e w' => ∃ t : S3, e = .returned (.agg #[.slice t.x.A t.x.n t.x.c, .slice t.y.A t.y.n t.y.c, .slice t.z.A t.z.n t.z.c]) ∧ Own3 w' w.heap.size t (prV ts us y) ∧ Ext w w' := by
  obtain ⟨xa, xb, xc, ⟨⟨A1, n1, c1⟩, p2, p3⟩, xd, xe, xf⟩ := x
  obtain ⟨ya, yb, yc, ⟨yx, yy, yz⟩, yd, ye, yf⟩ := y
  obtain ⟨⟨rx, _⟩, rfl, rfl, rfl, rfl, rfl, rfl⟩ := hr
  obtain ⟨⟨hb1, hb2⟩, hl60⟩ := okR_b hok
  simp only at rx hb1 hb2 hl60 ⊢
  have hlx := hide rx.1
  have hn1 : n1 ≤ 60 := by have := hlx.out; omega
  have hX0 := ((Ext.refl w).alloc (.cells #[.int .i64 xa, .int .i64 xb, .int .i64 xc, .slice A1 n1 c1, .int .i64 xd, .slice p2.A p2.n p2.c, .slice p3.A p3.n p3.c, .int .i64 xe, .int .i64 xf] 26)).alloc (.cells #[.slice none 0 0, .slice none 0 0, .slice none 0 0] 40)
  have hB0 := (Blk.new w 26 (#[.int .i64 xa, .int .i64 xb, .int .i64 xc, .slice A1 n1 c1, .int .i64 xd, .slice p2.A p2.n p2.c, .slice p3.A p3.n p3.c, .int .i64 xe, .int .i64 xf])).alloc (.cells #[.slice none 0 0, .slice none 0 0, .slice none 0 0] 40)
  have hR0 := Blk.new (w.alloc (.cells #[.int .i64 xa, .int .i64 xb, .int .i64 xc, .slice A1 n1 c1, .int .i64 xd, .slice p2.A p2.n p2.c, .slice p3.A p3.n p3.c, .int .i64 xe, .int .i64 xf] 26)) 40 (#[.slice none 0 0, .slice none 0 0, .slice none 0 0])
  rw [World.size_alloc] at hR0
  obtain ⟨q0, q1, q2, q3, q4, q5, q6, q7, q8⟩ := hB0.c9
  have E1 := hide (show prV ts us ⟨xa, xb, xc, ⟨yx, yy, yz⟩, xd, xe, xf⟩ = clr (biaB ts us) (mkR (rpL ⟨xa, xb, xc, ⟨yx, yy, yz⟩, xd, xe, xf⟩) xd).1 from prV_eq _ hkk (mkR_two _ _))
  have E3 := hide (show (shI n1 xb (n1 - 1)).1.map (fun i => yx.getD i.toNat 0) = rpL ⟨xa, xb, xc, ⟨yx, yy, yz⟩, xd, xe, xf⟩ by unfold rpL; simp only; rw [← hlx.out])
  obtain ⟨lst, hlst⟩ : ∃ lst, Hid (lst = rpL ⟨xa, xb, xc, ⟨yx, yy, yz⟩, xd, xe, xf⟩) := ⟨_, rfl⟩
  rw [← hlst.out] at E1 E3
  have hll := hide (show lst.length = n1 by rw [hlst.out, rpL_len]; exact hlx.out.symm)
  clear hlst
  obtain ⟨o, hoo⟩ : ∃ o, Hid (o = (shI n1 xb (n1 - 1)).1) := ⟨_, rfl⟩
  have hol := hide (show o.length = n1 by rw [hoo.out, shI_len])
  have hom := hide (show ∀ z ∈ o, 0 ≤ z ∧ z < n1 by rw [hoo.out]; exact shI_mem _)
  rw [← hoo.out] at E3
  go_enter Tryz.func40, Tryz.ntmps40
  go_wp2_with fail
  refine (impl.shuffled_any xb n1 _ (by omega) (by omega) (by omega)).mono ?_
  rintro e w2 ⟨pl, rfl, op, hx2⟩
  rw [← hoo.out] at op
  clear q0 q1 q2 q3 q4 q5 q6 q7 q8
  have hX2 := hX0.trans hx2
  have hB2 := hB0.ext hx2
  have hR2 := hR0.ext hx2
  have hz2 : w.heap.size + 1 + 1 ≤ w2.heap.size := by have := hx2.size; simpa using this
  have hp2 := op.rd
  have hpn := hide (show pl.n = n1 by have h : pl.n = o.length := op.rd.1; rw [h]; exact hol.out)
  have gp := op.lt
  go_wp2_with fail
  go_loopw [9, 11, 26] (fun h _ i wr => ∃ (k : Nat) (v : Sl), k ≤ n1 ∧ i = .int .i64 k ∧ h = .slice v.A v.n v.c ∧ Own wr (w2.heap.size) (.slice v.A v.n v.c) ((o.take k).map (fun i => yx.getD i.toNat 0)) ∧ Ext w2 wr) (fun _ _ i _ => n1 - (intOf i).toNat)
  case atStart => exact ⟨0, ⟨_, _, _⟩, by omega, rfl, rfl, Own.new0 w2 _ (Nat.le_refl _), (Ext.refl w2).alloc _⟩
  case round =>
    clear hX0 hB0 hR0 hx2 op hoo
    obtain ⟨k, v, hk, rfl, rfl, ho, hE⟩ := hrel
    have hX := hX2.trans hE
    have hB := hB2.ext hE
    have hp := hp2.ext hE
    have hzE := hE.size
    obtain ⟨q0, q1, q2, q3, q4, q5, q6, q7, q8⟩ := hB.c9
    have gv := ho.lt
    by_cases hlt : k < n1
    · obtain ⟨b1, o1, i, hPA, hb1w, hci2, hi⟩ := hp2.el (show k < pl.n by have := hpn.out; omega)
      have hb1' : b1 < wr.heap.size := by omega
      have hci := (hE.cell (p := ⟨b1, o1 + k, none⟩) hb1w).trans hci2
      obtain ⟨i0, i1⟩ := hom.out i (List.mem_of_getElem? hi.out)
      obtain ⟨ii, rfl⟩ : ∃ ii : Nat, i = (ii : Int) := ⟨i.toNat, by omega⟩
      have hin : ii < n1 := by omega
      obtain ⟨b2, o2, m, rfl, hb2', hcm, hm⟩ := rx.el hin
      have hcm1 := (hX.cell (p := ⟨b2, o2 + ii, none⟩) hb2').trans hcm
      obtain ⟨PA, pn, pc⟩ := pl
      simp only at hPA hp hp2 hpn gp
      subst hPA
      have hk0 : (0 : Int) ≤ (k : Int) := by omega
      have hkn : (k : Int) < (pn : Int) := by have h : pn = n1 := hpn.out; omega
      have hi0 : (0 : Int) ≤ (ii : Int) := by omega
      have hi1 : (ii : Int) < (n1 : Int) := by omega
      have hwk : IntKind.i64.wrap ((k : Int) + 1) = (k : Int) + 1 := Go.IntWalk.i64_in _ (by omega)
      have hmore := hide (show (o.take (k + 1)).map (fun i => yx.getD i.toNat 0) = (o.take k).map (fun i => yx.getD i.toNat 0) ++ [m] by rw [rpL_more hi.out, Int.toNat_natCast, List.getD_eq_getElem?_getD, hm.out]; rfl)
      have hlen := hide (show ((o.take k).map (fun i => yx.getD i.toNat 0)).length ≤ 60 by rw [List.length_map, List.length_take]; omega)
      have hF := Rd.one wr m
      go_wp2_with (at_builtin; refine wpList_app _ rfl (.tmp 30) (.tmp 36) rfl w2.heap.size _ _ rfl (ho.alloc _) _ _ _ [m] rfl hF (by have := hlen.out; omega) (by simp; omega) ?_; intro t4 w4 o4 hg hb)
      go_roundw
      case rel => exact ⟨k + 1, t4, by omega, by go_num, rfl, by rw [hmore.out]; exact o4, (hE.alloc _).grow hg (fun j hj => (gv j hj).1)⟩
      case measure => simp [intOf]; omega
    · skip
      have hke : k = n1 := by omega
      have hfin := hide (show (o.take k).map (fun i => yx.getD i.toNat 0) = lst by rw [hke, ← hol.out, List.take_length]; exact E3.out)
      rw [hfin.out] at ho
      have hkn : ¬ ((k : Int) < (pl.n : Int)) := by have := hpn.out; omega
      have hR := hR2.ext hE
      have hvn := hide (show v.n ≤ 1048576 by have h : v.n = lst.length := ho.rd.1; have := hll.out; omega)
      have hmk := (fun v l d W h1 h2 h3 => impl.MakePanel_any v l d W h1 h2 h3) v lst xd
      clear hfin
      go_wp2_with fail
      refine (hmk _ ho.rd hvn.out ho.cap).mono ?_
      rintro e w3 ⟨tp, rfl, hP, hx3⟩
      clear q0 q1 q2 q3 q4 q5 q6 q7 q8
      have hx3' := hx3.alloc (.cells #[.slice tp.x.A tp.x.n tp.x.c, .slice tp.y.A tp.y.n tp.y.c, .slice tp.z.A tp.z.n tp.z.c] 40)
      have hN := Blk.new w3 40 (#[.slice tp.x.A tp.x.n tp.x.c, .slice tp.y.A tp.y.n tp.y.c, .slice tp.z.A tp.z.n tp.z.c])
      obtain ⟨v0, v1, v2⟩ := hN.c3
      have hX3 := hX.trans hx3'
      have hR3 := hR.ext hx3'
      have hP3 := hP.alloc (.cells #[.slice tp.x.A tp.x.n tp.x.c, .slice tp.y.A tp.y.n tp.y.c, .slice tp.z.A tp.z.n tp.z.c] 40)
      go_wp2_with fail
      
      refine (impl.clearPanel_any s ts q us tp _ _ (ht.ext hX3) (hq.ext hX3) hP3.rd hkk (sz_two (mkR_two _ _))).mono ?_
      rintro e w4 ⟨t, rfl, hQ, hx4⟩
      have hX4 := hX3.trans hx4
      have hR4 := hR3.ext hx4
      have hz4 := hR3.lt
      have h7 := hQ.mono (lo' := w.heap.size + 1 + 1) (by omega)
      obtain ⟨r0, r1, r2, r3, r4, r5⟩ := res3 hR4
      have hRn := ((hR4.set_ 0 (.slice t.x.A t.x.n t.x.c)).set_ 1 (.slice t.y.A t.y.n t.y.c)).set_ 2 (.slice t.z.A t.z.n t.z.c)
      go_wp2_with fail
      obtain ⟨m0, m1', m2'⟩ := hRn.c3
      refine bodyPost_ret (v := .agg #[.slice t.x.A t.x.n t.x.c, .slice t.y.A t.y.n t.y.c, .slice t.z.A t.z.n t.z.c]) (by simp [results, Tryz.results40, go_sem, m0, m1', m2']) rfl ⟨t, rfl, ?_, ((hX4.off (w.heap.size + 1) 0 (by omega) _).off (w.heap.size + 1) 1 (by omega) _).off (w.heap.size + 1) 2 (by omega) _⟩
      rw [E1.out]
      exact Own3.mono (((h7.awayP (g := w.heap.size + 1) (by omega) 0 _).awayP (g := w.heap.size + 1) (by omega) 1 _).awayP (g := w.heap.size + 1) (by omega) 2 _) (by omega)
set_option maxRecDepth 20000 in
set_option maxHeartbeats 2500000 in
theorem spec.l16Panel_any (x : RecA) (y : RecL) (s : Sl) (ts : List Ti) (q : Sl) (us : List ByteArray) (w : World) (hr : RdR w x y) (ht : RdT w s.A s.n ts) (hq : RdW w q.A q.n us) (hok : okR y = true) :
    Calls Tryz.prog 45 #[.agg #[.int .i64 x.a, .int .i64 x.b, .int .i64 x.c, .slice x.p.x.A x.p.x.n x.p.x.c, .int .i64 x.d, .slice x.p.y.A x.p.y.n x.p.y.c, .slice x.p.z.A x.p.z.n x.p.z.c, .int .i64 x.e, .int .i64 x.f], .slice s.A s.n s.c, .slice q.A q.n q.c] w fun e w' => ∃ t : S3, e = .returned (.agg #[.slice t.x.A t.x.n t.x.c, .slice t.y.A t.y.n t.y.c, .slice t.z.A t.z.n t.z.c]) ∧ Own3 w' w.heap.size t (prV ts us y) ∧ Ext w w' := by
  obtain ⟨xa, xb, xc, ⟨⟨A1, n1, c1⟩, p2, p3⟩, xd, xe, xf⟩ := x
  obtain ⟨ya, yb, yc, ⟨yx, yy, yz⟩, yd, ye, yf⟩ := y
  obtain ⟨⟨rx, _⟩, rfl, rfl, rfl, rfl, rfl, rfl⟩ := hr
  obtain ⟨⟨hb1, hb2⟩, hl60⟩ := okR_b hok
  simp only at rx hb1 hb2 hl60 ⊢
  have hlx := hide rx.1
  have hn1 : n1 ≤ 60 := by have := hlx.out; omega
  have hX0 := ((Ext.refl w).alloc (.cells #[.int .i64 xa, .int .i64 xb, .int .i64 xc, .slice A1 n1 c1, .int .i64 xd, .slice p2.A p2.n p2.c, .slice p3.A p3.n p3.c, .int .i64 xe, .int .i64 xf] 26)).alloc (.cells #[.slice none 0 0, .slice none 0 0, .slice none 0 0] 40)
  have hB0 := (Blk.new w 26 (#[.int .i64 xa, .int .i64 xb, .int .i64 xc, .slice A1 n1 c1, .int .i64 xd, .slice p2.A p2.n p2.c, .slice p3.A p3.n p3.c, .int .i64 xe, .int .i64 xf])).alloc (.cells #[.slice none 0 0, .slice none 0 0, .slice none 0 0] 40)
  have hR0 := Blk.new (w.alloc (.cells #[.int .i64 xa, .int .i64 xb, .int .i64 xc, .slice A1 n1 c1, .int .i64 xd, .slice p2.A p2.n p2.c, .slice p3.A p3.n p3.c, .int .i64 xe, .int .i64 xf] 26)) 40 (#[.slice none 0 0, .slice none 0 0, .slice none 0 0])
  rw [World.size_alloc] at hR0
  obtain ⟨q0, q1, q2, q3, q4, q5, q6, q7, q8⟩ := hB0.c9
  have E1 := hide (show prV ts us ⟨xa, xb, xc, ⟨yx, yy, yz⟩, xd, xe, xf⟩ = clrV ts us (mkR (rpL ⟨xa, xb, xc, ⟨yx, yy, yz⟩, xd, xe, xf⟩) xd).1 from rfl)
  have E3 := hide (show (shI n1 xb (n1 - 1)).1.map (fun i => yx.getD i.toNat 0) = rpL ⟨xa, xb, xc, ⟨yx, yy, yz⟩, xd, xe, xf⟩ by unfold rpL; simp only; rw [← hlx.out])
  obtain ⟨lst, hlst⟩ : ∃ lst, Hid (lst = rpL ⟨xa, xb, xc, ⟨yx, yy, yz⟩, xd, xe, xf⟩) := ⟨_, rfl⟩
  rw [← hlst.out] at E1 E3
  have hll := hide (show lst.length = n1 by rw [hlst.out, rpL_len]; exact hlx.out.symm)
  clear hlst
  obtain ⟨o, hoo⟩ : ∃ o, Hid (o = (shI n1 xb (n1 - 1)).1) := ⟨_, rfl⟩
  have hol := hide (show o.length = n1 by rw [hoo.out, shI_len])
  have hom := hide (show ∀ z ∈ o, 0 ≤ z ∧ z < n1 by rw [hoo.out]; exact shI_mem _)
  rw [← hoo.out] at E3
  go_enter Tryz.func45, Tryz.ntmps45
  go_wp2_with fail
  refine (spec.l03Shuffle_any xb n1 _ (by omega) (by omega) (by omega)).mono ?_
  rintro e w2 ⟨pl, rfl, op, hx2⟩
  rw [← hoo.out] at op
  clear q0 q1 q2 q3 q4 q5 q6 q7 q8
  have hX2 := hX0.trans hx2
  have hB2 := hB0.ext hx2
  have hR2 := hR0.ext hx2
  have hz2 : w.heap.size + 1 + 1 ≤ w2.heap.size := by have := hx2.size; simpa using this
  have hp2 := op.rd
  have hpn := hide (show pl.n = n1 by have h : pl.n = o.length := op.rd.1; rw [h]; exact hol.out)
  have gp := op.lt
  go_wp2_with fail
  go_loopw [8, 9] (fun h i wr => ∃ (k : Nat) (v : Sl), k ≤ n1 ∧ i = .int .i64 k ∧ h = .slice v.A v.n v.c ∧ Own wr (w2.heap.size) (.slice v.A v.n v.c) ((o.take k).map (fun i => yx.getD i.toNat 0)) ∧ Ext w2 wr) (fun _ i _ => n1 - (intOf i).toNat)
  case atStart => exact ⟨0, ⟨_, _, _⟩, by omega, rfl, rfl, Own.new0 w2 _ (Nat.le_refl _), (Ext.refl w2).alloc _⟩
  case round =>
    clear hX0 hB0 hR0 hx2 op hoo
    obtain ⟨k, v, hk, rfl, rfl, ho, hE⟩ := hrel
    have hX := hX2.trans hE
    have hB := hB2.ext hE
    have hp := hp2.ext hE
    have hzE := hE.size
    obtain ⟨q0, q1, q2, q3, q4, q5, q6, q7, q8⟩ := hB.c9
    have gv := ho.lt
    by_cases hlt : k < n1
    · obtain ⟨b1, o1, i, hPA, hb1w, hci2, hi⟩ := hp2.el (show k < pl.n by have := hpn.out; omega)
      have hb1' : b1 < wr.heap.size := by omega
      have hci := (hE.cell (p := ⟨b1, o1 + k, none⟩) hb1w).trans hci2
      obtain ⟨i0, i1⟩ := hom.out i (List.mem_of_getElem? hi.out)
      obtain ⟨ii, rfl⟩ : ∃ ii : Nat, i = (ii : Int) := ⟨i.toNat, by omega⟩
      have hin : ii < n1 := by omega
      obtain ⟨b2, o2, m, rfl, hb2', hcm, hm⟩ := rx.el hin
      have hcm1 := (hX.cell (p := ⟨b2, o2 + ii, none⟩) hb2').trans hcm
      obtain ⟨PA, pn, pc⟩ := pl
      simp only at hPA hp hp2 hpn gp
      subst hPA
      have hk0 : (0 : Int) ≤ (k : Int) := by omega
      have hkn : (k : Int) < (pn : Int) := by have h : pn = n1 := hpn.out; omega
      have hi0 : (0 : Int) ≤ (ii : Int) := by omega
      have hi1 : (ii : Int) < (n1 : Int) := by omega
      have hwk : IntKind.i64.wrap ((k : Int) + 1) = (k : Int) + 1 := Go.IntWalk.i64_in _ (by omega)
      have hmore := hide (show (o.take (k + 1)).map (fun i => yx.getD i.toNat 0) = (o.take k).map (fun i => yx.getD i.toNat 0) ++ [m] by rw [rpL_more hi.out, Int.toNat_natCast, List.getD_eq_getElem?_getD, hm.out]; rfl)
      have hlen := hide (show ((o.take k).map (fun i => yx.getD i.toNat 0)).length ≤ 60 by rw [List.length_map, List.length_take]; omega)
      go_upto_region 27 with fail
      have hW := (Ext.refl wr).drew
      have hBd := hB.drew
      have hod := ho.drew
      have hb1r : b1 < wr.heap.size := hb1'
      have hb2r : b2 < wr.heap.size := by have := hX.size; omega
      refine wp_region_sink (S := fun w' => w'.cell? ⟨w.heap.size, 3, none⟩ = some (.slice (some ⟨b2, o2, none⟩) n1 c1) ∧ w'.cell? ⟨b1, o1 + k, none⟩ = some (.int .i64 (ii : Int)) ∧ w'.cell? ⟨b2, o2 + ii, none⟩ = some (.int .i64 m)) 11 (by kernel_rfl) ?_
      change wpAnyT _ _ _ _ _ _ _ _ _ (World.drew _)
      generalize hwd : World.drew _ = wd at hW hBd hod ⊢
      clear hwd
      have kk := And.intro (hBd.get 3 _ rfl) (And.intro ((hW.cell (p := ⟨b1, o1 + k, none⟩) hb1r).trans hci) ((hW.cell (p := ⟨b2, o2 + ii, none⟩) hb2r).trans hcm1))
      refine wpAnyT_takeL (i := 0) 7 (v := ?_) rfl (by kernel_rfl) (by kernel_rfl) (by kernel_rfl) (by kernel_rfl) (by kernel_rfl) (fun _ _ _ h => h) (Or.inl ⟨by rfl, ?_⟩) kk ?_
      rotate_left 1
      · (intro W hSw; (try dsimp only at hSw); go_simp) <;> with_reducible rfl
      try simp only [Act.put, List.setIfInBounds_toArray, List.set_cons_zero, List.set_cons_succ]
      refine wpAnyT_takeL (i := 1) 7 (v := ?_) rfl (by kernel_rfl) (by kernel_rfl) (by kernel_rfl) (by kernel_rfl) (by kernel_rfl) (fun _ _ _ h => h) (Or.inl ⟨by rfl, ?_⟩) kk ?_
      rotate_left 1
      · (intro W hSw; (try dsimp only at hSw); go_simp) <;> with_reducible rfl
      try simp only [Act.put, List.setIfInBounds_toArray, List.set_cons_zero, List.set_cons_succ]
      refine wpAnyT_takeL (i := 2) 7 (v := ?_) rfl (by kernel_rfl) (by kernel_rfl) (by kernel_rfl) (by kernel_rfl) (by kernel_rfl) (fun _ _ _ h => h) (Or.inl ⟨by rfl, ?_⟩) kk ?_
      rotate_left 1
      · (intro W hSw; (try dsimp only at hSw); go_simp) <;> with_reducible rfl
      try simp only [Act.put, List.setIfInBounds_toArray, List.set_cons_zero, List.set_cons_succ]
      refine wpAnyT_takeL (i := 3) 7 (v := ?_) rfl (by kernel_rfl) (by kernel_rfl) (by kernel_rfl) (by kernel_rfl) (by kernel_rfl) (fun _ _ _ h => h) (Or.inl ⟨by rfl, ?_⟩) kk ?_
      rotate_left 1
      · (intro W hSw; (try dsimp only at hSw); go_simp) <;> with_reducible rfl
      try simp only [Act.put, List.setIfInBounds_toArray, List.set_cons_zero, List.set_cons_succ]
      refine wpAnyT_takeL (i := 4) 7 (v := ?_) rfl (by kernel_rfl) (by kernel_rfl) (by kernel_rfl) (by kernel_rfl) (by kernel_rfl) (fun _ _ _ h => h) (Or.inl ⟨by rfl, ?_⟩) kk ?_
      rotate_left 1
      · (intro W hSw; (try dsimp only at hSw); go_simp) <;> with_reducible rfl
      try simp only [Act.put, List.setIfInBounds_toArray, List.set_cons_zero, List.set_cons_succ]
      refine wpAnyT_takeL (i := 5) 7 (v := ?_) rfl (by kernel_rfl) (by kernel_rfl) (by kernel_rfl) (by kernel_rfl) (by kernel_rfl) (fun _ _ _ h => h) (Or.inl ⟨by rfl, ?_⟩) kk ?_
      rotate_left 1
      · (intro W hSw; (try dsimp only at hSw); go_simp) <;> with_reducible rfl
      try simp only [Act.put, List.setIfInBounds_toArray, List.set_cons_zero, List.set_cons_succ]
      refine wpAnyT_takeL (i := 6) 7 (v := ?_) rfl (by kernel_rfl) (by kernel_rfl) (by kernel_rfl) (by kernel_rfl) (by kernel_rfl) (fun _ _ _ h => h) (Or.inl ⟨by rfl, ?_⟩) kk ?_
      rotate_left 1
      · (intro W hSw; (try dsimp only at hSw); go_simp) <;> with_reducible rfl
      try simp only [Act.put, List.setIfInBounds_toArray, List.set_cons_zero, List.set_cons_succ]
      refine wpAnyT_takeL (i := 7) 7 (v := ?_) rfl (by kernel_rfl) (by kernel_rfl) (by kernel_rfl) (by kernel_rfl) (by kernel_rfl) (fun _ _ _ h => h) (Or.inl ⟨by rfl, ?_⟩) kk ?_
      rotate_left 1
      · (intro W hSw; (try dsimp only at hSw); go_simp) <;> with_reducible rfl
      try simp only [Act.put, List.setIfInBounds_toArray, List.set_cons_zero, List.set_cons_succ]
      refine wpAnyT_takeL (i := 8) 7 (v := ?_) rfl (by kernel_rfl) (by kernel_rfl) (by kernel_rfl) (by kernel_rfl) (by kernel_rfl) (fun _ _ _ h => h) (Or.inl ⟨by rfl, ?_⟩) kk ?_
      rotate_left 1
      · (intro W hSw; (try dsimp only at hSw); go_simp) <;> with_reducible rfl
      try simp only [Act.put, List.setIfInBounds_toArray, List.set_cons_zero, List.set_cons_succ]
      refine wpAnyT_go (i := 9) rfl (by kernel_rfl) fun K hK => ?_
      go_simp
      have hx5 := (Ext.refl wd).alloc (.cells #[.int .i64 m] 2)
      have hF := Blk.new wd 2 (#[.int .i64 m])
      have hE5 := hW.trans hx5
      have kk5 := And.intro ((hB.ext hE5).get 3 _ rfl) (And.intro ((hE5.cell (p := ⟨b1, o1 + k, none⟩) hb1r).trans hci) ((hE5.cell (p := ⟨b2, o2 + ii, none⟩) hb2r).trans hcm1))
      refine hK _ _ ⟨fun _ => kk5, ?_⟩
      clear hK K kk
      refine wpAnyT_go (i := 10) rfl (by kernel_rfl) fun K hK => ?_
      refine step_app _ rfl (.tmp 27) (.tmp 36) rfl _ _ _ rfl (hod.alloc _) _ _ _ [m] rfl hF.rd1 (by have := hlen.out; omega) (by simp; have := hW.size; omega) ?_
      intro t4 w4 o4 hg hb
      have hE4 := hE.trans hE5 |>.grow hg (fun j hj => by have := (gv j hj).1; omega)
      have hp4 := hp2.ext hE4
      have kk4 := And.intro ((hB2.ext hE4).get 3 _ rfl) (And.intro (((hE4.cell (p := ⟨b1, o1 + k, none⟩) hb1w)).trans hci2) (((hX2.trans hE4).cell (p := ⟨b2, o2 + ii, none⟩) hb2').trans hcm))
      refine hK _ _ ⟨fun _ => kk4, ?_⟩
      clear hK K
      refine wpAnyT_go (i := 11) rfl (by kernel_rfl) fun K hK => ?_
      go_simp
      refine hK _ _ ⟨fun h => absurd rfl h, ?_⟩
      clear hK K
      refine wpAnyT_done (by kernel_rfl) ?_ _
      clear kk4 kk5
      go_wp2_with fail
      go_roundw
      case rel => exact ⟨k + 1, t4, by omega, by go_num, rfl, by rw [hmore.out]; exact o4, hE4⟩
      case measure => simp [intOf]; omega
    · skip
      have hke : k = n1 := by omega
      have hfin := hide (show (o.take k).map (fun i => yx.getD i.toNat 0) = lst by rw [hke, ← hol.out, List.take_length]; exact E3.out)
      rw [hfin.out] at ho
      have hkn : ¬ ((k : Int) < (pl.n : Int)) := by have := hpn.out; omega
      have hR := hR2.ext hE
      have hvn := hide (show v.n ≤ 1048576 by have h : v.n = lst.length := ho.rd.1; have := hll.out; omega)
      have hmk := (fun v l d W h1 h2 h3 => spec.MakePanel_any v l d W h1 h2 h3) v lst xd
      clear hfin
      go_wp2_with fail
      refine (hmk _ ho.rd hvn.out ho.cap).mono ?_
      rintro e w3 ⟨tp, rfl, hP, hx3⟩
      clear q0 q1 q2 q3 q4 q5 q6 q7 q8
      have hx3' := hx3.alloc (.cells #[.slice tp.x.A tp.x.n tp.x.c, .slice tp.y.A tp.y.n tp.y.c, .slice tp.z.A tp.z.n tp.z.c] 40)
      have hN := Blk.new w3 40 (#[.slice tp.x.A tp.x.n tp.x.c, .slice tp.y.A tp.y.n tp.y.c, .slice tp.z.A tp.z.n tp.z.c])
      obtain ⟨v0, v1, v2⟩ := hN.c3
      have hX3 := hX.trans hx3'
      have hR3 := hR.ext hx3'
      have hP3 := hP.alloc (.cells #[.slice tp.x.A tp.x.n tp.x.c, .slice tp.y.A tp.y.n tp.y.c, .slice tp.z.A tp.z.n tp.z.c] 40)
      go_wp2_with fail
      
      refine (spec.ClearPanel_any s ts q us tp _ _ (ht.ext hX3) (hq.ext hX3) hP3.rd).mono ?_
      rintro e w4 ⟨t, rfl, hQ, hx4⟩
      have hx4' := hx4.alloc (.cells #[.slice t.x.A t.x.n t.x.c, .slice t.y.A t.y.n t.y.c, .slice t.z.A t.z.n t.z.c] 40)
      have hM := Blk.new w4 40 (#[.slice t.x.A t.x.n t.x.c, .slice t.y.A t.y.n t.y.c, .slice t.z.A t.z.n t.z.c])
      have hX4 := hX3.trans hx4'
      have hR4 := hR3.ext hx4'
      have hz4 := hR3.lt
      have h7 := (hQ.alloc (.cells #[.slice t.x.A t.x.n t.x.c, .slice t.y.A t.y.n t.y.c, .slice t.z.A t.z.n t.z.c] 40)).mono (lo' := w.heap.size + 1 + 1) (by omega)
      obtain ⟨r0, r1, r2, r3, r4, r5⟩ := res3 hR4
      clear v0 v1 v2
      obtain ⟨v0, v1, v2⟩ := hM.c3
      have hRn := ((hR4.set_ 0 (.slice t.x.A t.x.n t.x.c)).set_ 1 (.slice t.y.A t.y.n t.y.c)).set_ 2 (.slice t.z.A t.z.n t.z.c)
      go_wp2_with fail
      obtain ⟨m0, m1', m2'⟩ := hRn.c3
      refine bodyPost_ret (v := .agg #[.slice t.x.A t.x.n t.x.c, .slice t.y.A t.y.n t.y.c, .slice t.z.A t.z.n t.z.c]) (by simp [results, Tryz.results45, go_sem, m0, m1', m2']) rfl ⟨t, rfl, ?_, ((hX4.off (w.heap.size + 1) 0 (by omega) _).off (w.heap.size + 1) 1 (by omega) _).off (w.heap.size + 1) 2 (by omega) _⟩
      rw [E1.out]
      exact Own3.mono (((h7.awayP (g := w.heap.size + 1) (by omega) 0 _).awayP (g := w.heap.size + 1) (by omega) 1 _).awayP (g := w.heap.size + 1) (by omega) 2 _) (by omega)
def poC (ts : List Ti) (us : List ByteArray) (y : RecL) : Int := if okR y = true ∧ okK ts us = true then 0 else 1
def poV (ts : List Ti) (us : List ByteArray) (y : RecL) : L3 := if poC ts us y = 0 then prV ts us y else nilL3
theorem poV_no {ts : List Ti} {us : List ByteArray} {y : RecL} {c : Int} (h : poC ts us y = c) (hc : c ≠ 0) : poV ts us y = nilL3 := by
  unfold poV
  rw [h, if_neg hc]
theorem poV_yes {ts : List Ti} {us : List ByteArray} {y : RecL} (h : poC ts us y = 0) : poV ts us y = prV ts us y := by
  unfold poV
  rw [if_pos h]
set_option maxHeartbeats 1000000 in
theorem impl.recordOk_any (x : RecA) (y : RecL) (s : Sl) (ts : List Ti) (q : Sl) (us : List ByteArray) (w : World) (hr : RdR w x y) (ht : RdT w s.A s.n ts) (hq : RdW w q.A q.n us) (hc : cap1 s) :
    Calls Tryz.prog 30 #[.agg #[.int .i64 x.a, .int .i64 x.b, .int .i64 x.c, .slice x.p.x.A x.p.x.n x.p.x.c, .int .i64 x.d, .slice x.p.y.A x.p.y.n x.p.y.c, .slice x.p.z.A x.p.z.n x.p.z.c, .int .i64 x.e, .int .i64 x.f], .slice s.A s.n s.c, .slice q.A q.n q.c] w fun e w' => e = .returned (.bool (okR y && okK ts us)) ∧ Ext w w' := by
  have hX0 := (Ext.refl w).alloc (.cells #[.int .i64 x.a, .int .i64 x.b, .int .i64 x.c, .slice x.p.x.A x.p.x.n x.p.x.c, .int .i64 x.d, .slice x.p.y.A x.p.y.n x.p.y.c, .slice x.p.z.A x.p.z.n x.p.z.c, .int .i64 x.e, .int .i64 x.f] 26)
  have hB0 := Blk.new w 26 (#[.int .i64 x.a, .int .i64 x.b, .int .i64 x.c, .slice x.p.x.A x.p.x.n x.p.x.c, .int .i64 x.d, .slice x.p.y.A x.p.y.n x.p.y.c, .slice x.p.z.A x.p.z.n x.p.z.c, .int .i64 x.e, .int .i64 x.f])
  obtain ⟨q0, q1, q2, q3, q4, q5, q6, q7, q8⟩ := hB0.c9
  go_enter Tryz.func30, Tryz.ntmps30
  go_wp2_with fail
  refine (impl.IsRecord_any x y _ (hr.ext hX0)).mono ?_
  rintro e w1 ⟨rfl, hx1⟩
  have hX1 := hX0.trans hx1
  cases hok : okR y
  · have E := hide (show (okR y && okK ts us) = false by rw [hok]; rfl)
    go_wp2
    go_ret
    exact ⟨by rw [E.out]; rfl, hX1⟩
  · have E := hide (show (okR y && okK ts us) = okK ts us by rw [hok]; rfl)
    go_wp2_with fail
    refine (impl.areCase_any s ts q us _ (ht.ext hX1) hc (hq.ext hX1)).mono ?_
    rintro e w2 ⟨rfl, hx2⟩
    go_wp2
    go_ret
    exact ⟨by rw [E.out]; rfl, hX1.trans hx2⟩
set_option maxHeartbeats 1000000 in
theorem spec.l16Code_any (x : RecA) (y : RecL) (s : Sl) (ts : List Ti) (q : Sl) (us : List ByteArray) (w : World) (hr : RdR w x y) (ht : RdT w s.A s.n ts) (hq : RdW w q.A q.n us) :
    Calls Tryz.prog 34 #[.agg #[.int .i64 x.a, .int .i64 x.b, .int .i64 x.c, .slice x.p.x.A x.p.x.n x.p.x.c, .int .i64 x.d, .slice x.p.y.A x.p.y.n x.p.y.c, .slice x.p.z.A x.p.z.n x.p.z.c, .int .i64 x.e, .int .i64 x.f], .slice s.A s.n s.c, .slice q.A q.n q.c] w fun e w' => e = .returned (.int .i64 (poC ts us y)) ∧ Ext w w' := by
  have hX0 := (Ext.refl w).alloc (.cells #[.int .i64 x.a, .int .i64 x.b, .int .i64 x.c, .slice x.p.x.A x.p.x.n x.p.x.c, .int .i64 x.d, .slice x.p.y.A x.p.y.n x.p.y.c, .slice x.p.z.A x.p.z.n x.p.z.c, .int .i64 x.e, .int .i64 x.f] 26)
  have hB0 := Blk.new w 26 (#[.int .i64 x.a, .int .i64 x.b, .int .i64 x.c, .slice x.p.x.A x.p.x.n x.p.x.c, .int .i64 x.d, .slice x.p.y.A x.p.y.n x.p.y.c, .slice x.p.z.A x.p.z.n x.p.z.c, .int .i64 x.e, .int .i64 x.f])
  obtain ⟨q0, q1, q2, q3, q4, q5, q6, q7, q8⟩ := hB0.c9
  go_enter Tryz.func34, Tryz.ntmps34
  go_wp2_with fail
  refine (spec.IsRecord_any x y _ (hr.ext hX0)).mono ?_
  rintro e w1 ⟨rfl, hx1⟩
  have hX1 := hX0.trans hx1
  cases hok : okR y
  · have E2 := hide (show poC ts us y = 1 by unfold poC; rw [hok]; simp)
    go_wp2
    go_ret
    exact ⟨by rw [E2.out]; rfl, hX1⟩
  · have E2 := hide (show poC ts us y = codC ts us 1 by unfold poC codC; rw [hok]; cases okK ts us <;> rfl)
    go_wp2_with fail
    refine (spec.l13Code_any s ts q us 1 _ (ht.ext hX1) (hq.ext hX1)).mono ?_
    rintro e w2 ⟨rfl, hx2⟩
    go_wp2
    go_ret
    exact ⟨by rw [E2.out]; rfl, hX1.trans hx2⟩
set_option maxRecDepth 20000 in
set_option maxHeartbeats 2500000 in
theorem impl.PanelOfRecord_any (x : RecA) (y : RecL) (s : Sl) (ts : List Ti) (q : Sl) (us : List ByteArray) (w : World) (hr : RdR w x y) (ht : RdT w s.A s.n ts) (hq : RdW w q.A q.n us) (hc : cap1 s) :
    Calls Tryz.prog 11 #[.agg #[.int .i64 x.a, .int .i64 x.b, .int .i64 x.c, .slice x.p.x.A x.p.x.n x.p.x.c, .int .i64 x.d, .slice x.p.y.A x.p.y.n x.p.y.c, .slice x.p.z.A x.p.z.n x.p.z.c, .int .i64 x.e, .int .i64 x.f], .slice s.A s.n s.c, .slice q.A q.n q.c] w fun e w' => ∃ t : S3, e = .returned (.tuple #[.agg #[.slice t.x.A t.x.n t.x.c, .slice t.y.A t.y.n t.y.c, .slice t.z.A t.z.n t.z.c], .int .i64 (poC ts us y)]) ∧ Own3 w' w.heap.size t (poV ts us y) ∧ Ext w w' := by
  have hX0 := ((Ext.refl w).alloc (.cells #[.int .i64 x.a, .int .i64 x.b, .int .i64 x.c, .slice x.p.x.A x.p.x.n x.p.x.c, .int .i64 x.d, .slice x.p.y.A x.p.y.n x.p.y.c, .slice x.p.z.A x.p.z.n x.p.z.c, .int .i64 x.e, .int .i64 x.f] 26)).alloc (.cells #[.slice none 0 0, .slice none 0 0, .slice none 0 0] 40)
  have hB0 := (Blk.new w 26 (#[.int .i64 x.a, .int .i64 x.b, .int .i64 x.c, .slice x.p.x.A x.p.x.n x.p.x.c, .int .i64 x.d, .slice x.p.y.A x.p.y.n x.p.y.c, .slice x.p.z.A x.p.z.n x.p.z.c, .int .i64 x.e, .int .i64 x.f])).alloc (.cells #[.slice none 0 0, .slice none 0 0, .slice none 0 0] 40)
  have hR0 := Blk.new (w.alloc (.cells #[.int .i64 x.a, .int .i64 x.b, .int .i64 x.c, .slice x.p.x.A x.p.x.n x.p.x.c, .int .i64 x.d, .slice x.p.y.A x.p.y.n x.p.y.c, .slice x.p.z.A x.p.z.n x.p.z.c, .int .i64 x.e, .int .i64 x.f] 26)) 40 (#[.slice none 0 0, .slice none 0 0, .slice none 0 0])
  rw [World.size_alloc] at hR0
  obtain ⟨q0, q1, q2, q3, q4, q5, q6, q7, q8⟩ := hB0.c9
  have hk := impl.recordOk_any x y s ts q us _ (hr.ext hX0) (ht.ext hX0) (hq.ext hX0) hc
  cases hb : (okR y && okK ts us)
  · have E2 := hide (show poC ts us y = 1 by unfold poC; rw [if_neg]; rw [Bool.and_eq_false_iff] at hb; rintro ⟨h1, h2⟩; rcases hb with h | h; (rw [h1] at h; cases h); (rw [h2] at h; cases h))
    rw [hb] at hk
    go_enter Tryz.func11, Tryz.ntmps11
    go_wp2_with fail
    refine hk.mono ?_
    rintro e w1 ⟨rfl, hx1⟩
    have hX1 := hX0.trans hx1
    have hR1 := hR0.ext hx1
    have E1 := hide (poV_no E2.out (by decide))
    obtain ⟨r0, r1, r2, r3, r4, r5⟩ := res3 hR1
    have hRn := ((hR1.set_ 0 (.slice none 0 0)).set_ 1 (.slice none 0 0)).set_ 2 (.slice none 0 0)
    go_wp2
    obtain ⟨n0, n1', n2'⟩ := hRn.c3
    refine bodyPost_ret (v := .tuple #[.agg #[.slice (⟨⟨none, 0, 0⟩, ⟨none, 0, 0⟩, ⟨none, 0, 0⟩⟩ : S3).x.A (⟨⟨none, 0, 0⟩, ⟨none, 0, 0⟩, ⟨none, 0, 0⟩⟩ : S3).x.n (⟨⟨none, 0, 0⟩, ⟨none, 0, 0⟩, ⟨none, 0, 0⟩⟩ : S3).x.c, .slice (⟨⟨none, 0, 0⟩, ⟨none, 0, 0⟩, ⟨none, 0, 0⟩⟩ : S3).y.A (⟨⟨none, 0, 0⟩, ⟨none, 0, 0⟩, ⟨none, 0, 0⟩⟩ : S3).y.n (⟨⟨none, 0, 0⟩, ⟨none, 0, 0⟩, ⟨none, 0, 0⟩⟩ : S3).y.c, .slice (⟨⟨none, 0, 0⟩, ⟨none, 0, 0⟩, ⟨none, 0, 0⟩⟩ : S3).z.A (⟨⟨none, 0, 0⟩, ⟨none, 0, 0⟩, ⟨none, 0, 0⟩⟩ : S3).z.n (⟨⟨none, 0, 0⟩, ⟨none, 0, 0⟩, ⟨none, 0, 0⟩⟩ : S3).z.c], .int .i64 1]) (by simp [results, Tryz.results11, go_sem, n0, n1', n2']) rfl ⟨(⟨⟨none, 0, 0⟩, ⟨none, 0, 0⟩, ⟨none, 0, 0⟩⟩ : S3), by rw [E2.out], by rw [E1.out]; exact Own3.nil3_ _ _, ((hX1.off (w.heap.size + 1) 0 (by omega) _).off (w.heap.size + 1) 1 (by omega) _).off (w.heap.size + 1) 2 (by omega) _⟩
  · rw [hb] at hk
    rw [Bool.and_eq_true] at hb
    have E2 := hide (show poC ts us y = 0 by unfold poC; rw [if_pos hb])
    have E1 := hide (poV_yes E2.out)
    go_enter Tryz.func11, Tryz.ntmps11
    go_wp2_with fail
    refine hk.mono ?_
    rintro e w1 ⟨rfl, hx1⟩
    have hX1 := hX0.trans hx1
    have hR1 := hR0.ext hx1
    have hB1 := hB0.ext hx1
    clear q0 q1 q2 q3 q4 q5 q6 q7 q8
    obtain ⟨q0, q1, q2, q3, q4, q5, q6, q7, q8⟩ := hB1.c9
    go_wp2_with fail
    refine (impl.recPanel_any x y s ts q us _ (hr.ext hX1) (ht.ext hX1) (hq.ext hX1) hb.1 hb.2).mono ?_
    rintro e w2 ⟨t, rfl, ho, hx2⟩
    have hX2 := hX1.trans hx2
    have hR2 := hR1.ext hx2
    have hz2 := hR1.lt
    have h7 := ho.mono (lo' := w.heap.size + 1 + 1) (by omega)
    obtain ⟨r0, r1, r2, r3, r4, r5⟩ := res3 hR2
    have hRn := ((hR2.set_ 0 (.slice t.x.A t.x.n t.x.c)).set_ 1 (.slice t.y.A t.y.n t.y.c)).set_ 2 (.slice t.z.A t.z.n t.z.c)
    go_wp2
    obtain ⟨n0, n1', n2'⟩ := hRn.c3
    refine bodyPost_ret (v := .tuple #[.agg #[.slice t.x.A t.x.n t.x.c, .slice t.y.A t.y.n t.y.c, .slice t.z.A t.z.n t.z.c], .int .i64 0]) (by simp [results, Tryz.results11, go_sem, n0, n1', n2']) rfl ⟨t, by rw [E2.out], ?_, ((hX2.off (w.heap.size + 1) 0 (by omega) _).off (w.heap.size + 1) 1 (by omega) _).off (w.heap.size + 1) 2 (by omega) _⟩
    rw [E1.out]
    exact Own3.mono (((h7.awayP (g := w.heap.size + 1) (by omega) 0 _).awayP (g := w.heap.size + 1) (by omega) 1 _).awayP (g := w.heap.size + 1) (by omega) 2 _) (by omega)
set_option maxRecDepth 20000 in
set_option maxHeartbeats 2500000 in
theorem spec.PanelOfRecord_any (x : RecA) (y : RecL) (s : Sl) (ts : List Ti) (q : Sl) (us : List ByteArray) (w : World) (hr : RdR w x y) (ht : RdT w s.A s.n ts) (hq : RdW w q.A q.n us) :
    Calls Tryz.prog 12 #[.agg #[.int .i64 x.a, .int .i64 x.b, .int .i64 x.c, .slice x.p.x.A x.p.x.n x.p.x.c, .int .i64 x.d, .slice x.p.y.A x.p.y.n x.p.y.c, .slice x.p.z.A x.p.z.n x.p.z.c, .int .i64 x.e, .int .i64 x.f], .slice s.A s.n s.c, .slice q.A q.n q.c] w fun e w' => ∃ t : S3, e = .returned (.tuple #[.agg #[.slice t.x.A t.x.n t.x.c, .slice t.y.A t.y.n t.y.c, .slice t.z.A t.z.n t.z.c], .int .i64 (poC ts us y)]) ∧ Own3 w' w.heap.size t (poV ts us y) ∧ Ext w w' := by
  have hX0 := ((Ext.refl w).alloc (.cells #[.int .i64 x.a, .int .i64 x.b, .int .i64 x.c, .slice x.p.x.A x.p.x.n x.p.x.c, .int .i64 x.d, .slice x.p.y.A x.p.y.n x.p.y.c, .slice x.p.z.A x.p.z.n x.p.z.c, .int .i64 x.e, .int .i64 x.f] 26)).alloc (.cells #[.slice none 0 0, .slice none 0 0, .slice none 0 0] 40)
  have hB0 := (Blk.new w 26 (#[.int .i64 x.a, .int .i64 x.b, .int .i64 x.c, .slice x.p.x.A x.p.x.n x.p.x.c, .int .i64 x.d, .slice x.p.y.A x.p.y.n x.p.y.c, .slice x.p.z.A x.p.z.n x.p.z.c, .int .i64 x.e, .int .i64 x.f])).alloc (.cells #[.slice none 0 0, .slice none 0 0, .slice none 0 0] 40)
  have hR0 := Blk.new (w.alloc (.cells #[.int .i64 x.a, .int .i64 x.b, .int .i64 x.c, .slice x.p.x.A x.p.x.n x.p.x.c, .int .i64 x.d, .slice x.p.y.A x.p.y.n x.p.y.c, .slice x.p.z.A x.p.z.n x.p.z.c, .int .i64 x.e, .int .i64 x.f] 26)) 40 (#[.slice none 0 0, .slice none 0 0, .slice none 0 0])
  rw [World.size_alloc] at hR0
  obtain ⟨q0, q1, q2, q3, q4, q5, q6, q7, q8⟩ := hB0.c9
  have hk := spec.l16Code_any x y s ts q us _ (hr.ext hX0) (ht.ext hX0) (hq.ext hX0)
  by_cases hb : okR y = true ∧ okK ts us = true
  case neg =>
    have E2 := hide (show poC ts us y = 1 by unfold poC; rw [if_neg hb])
    rw [E2.out] at hk
    go_enter Tryz.func12, Tryz.ntmps12
    go_wp2_with fail
    refine hk.mono ?_
    rintro e w1 ⟨rfl, hx1⟩
    have hX1 := hX0.trans hx1
    have hR1 := hR0.ext hx1
    have E1 := hide (poV_no E2.out (by decide))
    obtain ⟨r0, r1, r2, r3, r4, r5⟩ := res3 hR1
    have hRn := ((hR1.set_ 0 (.slice none 0 0)).set_ 1 (.slice none 0 0)).set_ 2 (.slice none 0 0)
    go_wp2
    obtain ⟨n0, n1', n2'⟩ := hRn.c3
    refine bodyPost_ret (v := .tuple #[.agg #[.slice (⟨⟨none, 0, 0⟩, ⟨none, 0, 0⟩, ⟨none, 0, 0⟩⟩ : S3).x.A (⟨⟨none, 0, 0⟩, ⟨none, 0, 0⟩, ⟨none, 0, 0⟩⟩ : S3).x.n (⟨⟨none, 0, 0⟩, ⟨none, 0, 0⟩, ⟨none, 0, 0⟩⟩ : S3).x.c, .slice (⟨⟨none, 0, 0⟩, ⟨none, 0, 0⟩, ⟨none, 0, 0⟩⟩ : S3).y.A (⟨⟨none, 0, 0⟩, ⟨none, 0, 0⟩, ⟨none, 0, 0⟩⟩ : S3).y.n (⟨⟨none, 0, 0⟩, ⟨none, 0, 0⟩, ⟨none, 0, 0⟩⟩ : S3).y.c, .slice (⟨⟨none, 0, 0⟩, ⟨none, 0, 0⟩, ⟨none, 0, 0⟩⟩ : S3).z.A (⟨⟨none, 0, 0⟩, ⟨none, 0, 0⟩, ⟨none, 0, 0⟩⟩ : S3).z.n (⟨⟨none, 0, 0⟩, ⟨none, 0, 0⟩, ⟨none, 0, 0⟩⟩ : S3).z.c], .int .i64 1]) (by simp [results, Tryz.results12, go_sem, n0, n1', n2']) rfl ⟨(⟨⟨none, 0, 0⟩, ⟨none, 0, 0⟩, ⟨none, 0, 0⟩⟩ : S3), by rw [E2.out], by rw [E1.out]; exact Own3.nil3_ _ _, ((hX1.off (w.heap.size + 1) 0 (by omega) _).off (w.heap.size + 1) 1 (by omega) _).off (w.heap.size + 1) 2 (by omega) _⟩
  have E2 := hide (show poC ts us y = 0 by unfold poC; rw [if_pos hb])
  have E1 := hide (poV_yes E2.out)
  rw [E2.out] at hk
  go_enter Tryz.func12, Tryz.ntmps12
  go_wp2_with fail
  refine hk.mono ?_
  rintro e w1 ⟨rfl, hx1⟩
  have hX1 := hX0.trans hx1
  have hR1 := hR0.ext hx1
  have hB1 := hB0.ext hx1
  clear q0 q1 q2 q3 q4 q5 q6 q7 q8
  obtain ⟨q0, q1, q2, q3, q4, q5, q6, q7, q8⟩ := hB1.c9
  go_wp2_with fail
  refine (spec.l16Panel_any x y s ts q us _ (hr.ext hX1) (ht.ext hX1) (hq.ext hX1) hb.1).mono ?_
  rintro e w2 ⟨t, rfl, ho, hx2⟩
  have hX2 := hX1.trans hx2
  have hR2 := hR1.ext hx2
  have hz2 := hR1.lt
  have h7 := ho.mono (lo' := w.heap.size + 1 + 1) (by omega)
  obtain ⟨r0, r1, r2, r3, r4, r5⟩ := res3 hR2
  have hRn := ((hR2.set_ 0 (.slice t.x.A t.x.n t.x.c)).set_ 1 (.slice t.y.A t.y.n t.y.c)).set_ 2 (.slice t.z.A t.z.n t.z.c)
  go_wp2
  obtain ⟨n0, n1', n2'⟩ := hRn.c3
  refine bodyPost_ret (v := .tuple #[.agg #[.slice t.x.A t.x.n t.x.c, .slice t.y.A t.y.n t.y.c, .slice t.z.A t.z.n t.z.c], .int .i64 0]) (by simp [results, Tryz.results12, go_sem, n0, n1', n2']) rfl ⟨t, by rw [E2.out], ?_, ((hX2.off (w.heap.size + 1) 0 (by omega) _).off (w.heap.size + 1) 1 (by omega) _).off (w.heap.size + 1) 2 (by omega) _⟩
  rw [E1.out]
  exact Own3.mono (((h7.awayP (g := w.heap.size + 1) (by omega) 0 _).awayP (g := w.heap.size + 1) (by omega) 1 _).awayP (g := w.heap.size + 1) (by omega) 2 _) (by omega)
end Go.Proofs.YtofglgfjlbehmaaGreat.mem
