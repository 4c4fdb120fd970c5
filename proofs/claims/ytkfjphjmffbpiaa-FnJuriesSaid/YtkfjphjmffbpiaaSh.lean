/-
  Contracts of both programs' SeatHistory.
-/
import Derived.Test.YtkfjphjmffbpiaaLeave
namespace Go.Proofs.Ytkfjphjmffbpiaa.mem
open Go.ChangeShapes Go.WideShapes Go.ChangeAt Go.RowKit

def shN (k : Nat) (l : L3) (o : List Int) : List Int := if l.x.getD k 0 = o.getLastD 0 then o else o ++ [l.x.getD k 0]
def shG (k : Nat) : L3 → List Int → List Int → List Int × Int
  | _, o, [] => (o, 0)
  | l, o, m :: ms => if ljC l m = 0 then shG k (lvV l m) (shN k (lvV l m) o) ms else ([], ljC l m)
def shR (l : L3) (ms : List Int) (s : Int) : List Int × Int := if okJ l = true then (if inB s 0 ((l.x.length : Int) - 1) = true then shG s.toNat l [l.x.getD s.toNat 0] ms else ([], 2)) else ([], 1)
theorem shG_go {k : Nat} {r : List Int × Int} {l : L3} {o ms : List Int} {j : Nat} {m : Int} (h : r = shG k l o (ms.drop j)) (hm : ms[j]? = some m) (h0 : ljC l m = 0) : r = shG k (lvV l m) (shN k (lvV l m) o) (ms.drop (j + 1)) := by
  rw [h, drop_el' hm]
  exact if_pos h0
theorem shG_stop {k : Nat} {r : List Int × Int} {l : L3} {o ms : List Int} {j : Nat} {m : Int} (h : r = shG k l o (ms.drop j)) (hm : ms[j]? = some m) (h0 : ljC l m ≠ 0) : r = ([], ljC l m) := by
  rw [h, drop_el' hm]
  exact if_neg h0
theorem shG_end {k : Nat} {r : List Int × Int} {l : L3} {o ms : List Int} {j : Nat} (h : r = shG k l o (ms.drop j)) (hj : j = ms.length) : r = (o, 0) := by
  rw [h, hj, List.drop_length]; rfl
theorem lvV_len (l : L3) (m : Int) : (lvV l m).x.length = l.x.length := by
  unfold lvV
  split
  · simp
  · rfl
theorem shN_len {k : Nat} {l : L3} {o : List Int} : (shN k l o).length ≤ o.length + 1 := by
  unfold shN
  split
  · omega
  · simp
theorem shN_eq {k : Nat} {l : L3} {o : List Int} {y z : Int} (hy : l.x[k]? = some y) (hz : o[o.length - 1]? = some z) (h : y = z) : shN k l o = o := by
  unfold shN
  rw [if_pos]
  rw [List.getD_eq_getElem?_getD, hy, List.getLastD_eq_getLast?, List.getLast?_eq_getElem?, hz, h]
theorem shN_ne {k : Nat} {l : L3} {o : List Int} {y z : Int} (hy : l.x[k]? = some y) (hz : o[o.length - 1]? = some z) (h : y ≠ z) : shN k l o = o ++ [y] := by
  unfold shN
  have e : l.x.getD k 0 = y := by rw [List.getD_eq_getElem?_getD, hy]; rfl
  rw [if_neg, e]
  rw [e, List.getLastD_eq_getLast?, List.getLast?_eq_getElem?, hz]
  exact h
/-- a jury that is read whatever has turned in its box and in the history -/
def StJ (g : Nat) (h : Sl) (t : S3) (l : L3) (wr : World) : Prop := ∀ w', Fr (fun k => k = g ∨ Value.ownBlock (.slice h.A h.n h.c) = some k) wr w' → Rd3 w' t l
theorem StJ.rd {g : Nat} {h : Sl} {t : S3} {l : L3} {wr : World} (hs : StJ g h t l wr) : Rd3 wr t l := hs wr (Fr.refl _ _)
theorem StJ.ext {g : Nat} {h : Sl} {t : S3} {l : L3} {wr w2 : World} (hs : StJ g h t l wr) (hx : Ext wr w2) : StJ g h t l w2 := fun w' hf => hs w' ((Ext.fr hx).trans hf)
theorem StJ.grow {g : Nat} {h h2 : Sl} {t : S3} {l : L3} {wr w2 : World} (hs : StJ g h t l wr) (hg : wr.grownBy w2 (Value.ownBlock (.slice h.A h.n h.c))) (hb : (Value.ownBlock (.slice h2.A h2.n h2.c)) = Value.ownBlock (.slice h.A h.n h.c) ∨ (Value.ownBlock (.slice h2.A h2.n h2.c)) = some wr.heap.size) : StJ g h2 t l w2 := fun w' hf =>
  hs w' ⟨hf.os.trans hg.os, hf.tape.trans hg.tape, hf.output.trans hg.output, Nat.le_trans hg.size hf.size, fun k hk hn => by
    rw [hf.block k (Nat.lt_of_lt_of_le hk hg.size) (fun e => by
      rcases e with e | e
      · exact hn (.inl e)
      · rcases hb with h' | h'
        · exact hn (.inr (h'.symm.trans e))
        · rw [h'] at e; injection e with e; omega), hg.block k hk (fun e => hn (.inr e.symm))]⟩
theorem StJ.own {g : Nat} {h : Sl} {t : S3} {l : L3} {wr : World} {lo : Nat} (ho : Own3 wr lo t l) (hg : g < lo) (hh : ∀ k, Value.ownBlock (.slice h.A h.n h.c) = some k → k < lo) : StJ g h t l wr := fun w' hf =>
  (ho.fr hf (fun k hk e => by
    have := (ho.lt hk).1
    rcases e with e | e
    · omega
    · have := hh k e; omega)).rd
set_option maxRecDepth 20000 in
set_option maxHeartbeats 2500000 in
theorem impl.SeatHistory_any (p : S3) (l : L3) (s1 : Sl) (ms : List Int) (s : Int) (w : World) (hr : Rd3 w p l) (hm : Rd w s1.A s1.n ms) (hsz : s1.n ≤ 1048576) :
    Calls Try.prog 9 #[.agg #[.slice p.x.A p.x.n p.x.c, .slice p.y.A p.y.n p.y.c, .slice p.z.A p.z.n p.z.c], .slice s1.A s1.n s1.c, .int .i64 s] w fun e w' => ∃ t : Sl, e = .returned (.tuple #[.slice t.A t.n t.c, .int .i64 (shR l ms s).2]) ∧ Own w' w.heap.size (.slice t.A t.n t.c) (shR l ms s).1 ∧ Ext w w' := by
  obtain ⟨M1, m1, d1⟩ := s1
  simp only at hm hsz ⊢
  have hml := hide hm.1
  have hX0 := (Ext.refl w).alloc (.cells #[.slice p.x.A p.x.n p.x.c, .slice p.y.A p.y.n p.y.c, .slice p.z.A p.z.n p.z.c] 26)
  have hB0 := Blk.new w 26 (#[.slice p.x.A p.x.n p.x.c, .slice p.y.A p.y.n p.y.c, .slice p.z.A p.z.n p.z.c])
  obtain ⟨q0, q1, q2⟩ := hB0.c3
  go_enter Try.func9, Try.ntmps9
  go_wp2_with fail
  refine (impl.IsJury_any p l _ (hr.ext hX0)).mono ?_
  rintro e w1 ⟨rfl, hx1⟩
  have hX1 := hX0.trans hx1
  have hB1 := hB0.ext hx1
  clear q0 q1 q2
  obtain ⟨q0, q1, q2⟩ := hB1.c3
  cases hok : okJ l
  · have E2 := hide (show shR l ms s = ([], 1) by unfold shR; rw [hok]; rfl)
    go_wp2
    go_ret2
    exact ⟨⟨none, 0, 0⟩, by rw [E2.out]; rfl, by rw [E2.out]; exact Own.nil_ _ _, hX1⟩
  have hlx := hide hr.1.1
  have hn1 := hr.1.le
  have hat := fun W : World => impl.at_any s (p.x.n : Int) W
  cases hin : inB s 0 ((p.x.n : Int) - 1)
  · rw [hin] at hat
    have E2 := hide (show shR l ms s = ([], 2) by unfold shR; rw [hok, ← hlx.out, hin]; rfl)
    go_wp2_with (go_at_call 68; refine (hat _).mono ?_; rintro e w' ⟨rfl, rfl⟩)
    go_ret2
    exact ⟨⟨none, 0, 0⟩, by rw [E2.out]; rfl, by rw [E2.out]; exact Own.nil_ _ _, hX1⟩
  rw [hin] at hat
  obtain ⟨hs1, hs2⟩ := inB_iff.1 hin
  obtain ⟨k, rfl⟩ : ∃ k : Nat, s = (k : Int) := ⟨s.toNat, by omega⟩
  obtain ⟨⟨A1, n1, c1⟩, p2, p3⟩ := p
  simp only at hs2 hlx hn1 hin hat hB1 q0 q1 q2
  have hkn : k < n1 := by omega
  have hk0 : (0 : Int) ≤ (k : Int) := by omega
  have hk1 : (k : Int) < (n1 : Int) := by omega
  have E2 := hide (show shR l ms k = shG k l [l.x.getD k 0] (ms.drop 0) by unfold shR; rw [hok, ← hlx.out, hin]; rfl)
  obtain ⟨bk, offk, yk, hA1, hbk, hck, hyk⟩ := hr.1.el hkn
  simp only at hA1
  subst hA1
  have hck1 := (hX1.cell (p := ⟨bk, offk + k, none⟩) hbk).trans hck
  have hyk2 := hide (show l.x.getD k 0 = yk by rw [List.getD_eq_getElem?_getD, hyk.out]; rfl)
  have hX2 := hX1.alloc (.cells #[.int .i64 yk] 2)
  have hB2 := hB1.alloc (.cells #[.int .i64 yk] 2)
  have hz1 := hB1.lt
  have ho2 : Own (w1.alloc (.cells #[.int .i64 yk] 2)) (w.heap.size + 1) (.slice (some ⟨w1.heap.size, 0, none⟩) 1 1) [yk] := Own.of_blk (Blk.new w1 2 #[.int .i64 yk]) (by omega) 1 1 rfl (Nat.le_refl _) (by simp [maxLen]) rfl (by omega) rfl
  have hs0 : StJ w.heap.size ⟨some ⟨w1.heap.size, 0, none⟩, 1, 1⟩ ⟨⟨some ⟨bk, offk, none⟩, n1, c1⟩, p2, p3⟩ l (w1.alloc (.cells #[.int .i64 yk] 2)) := fun w' hf => hr.ext (Ext.fr_trans hX2 hf (fun j hj => by rcases hj with hj | hj; omega; (have := ownBlock_eq hj; omega)))
  go_wp2_with (go_at_call 68; refine (hat _).mono ?_; rintro e w' ⟨rfl, rfl⟩)
  go_loopw [8, 10, 11, 12, 13, 31] (fun h _ _ _ _ i wr => ∃ (j : Nat) (v : Sl) (t : S3) (l1 : L3) (o : List Int), j ≤ m1 ∧ i = .int .i64 j ∧ h = .slice v.A v.n v.c ∧ Hid (shR l ms k = shG k l1 o (ms.drop j)) ∧ Hid (l1.x.length = n1) ∧ Hid (0 < o.length ∧ o.length ≤ j + 1) ∧ Own wr (w.heap.size + 1) (.slice v.A v.n v.c) o ∧ StJ w.heap.size v t l1 wr ∧ Blk wr w.heap.size 26 #[.slice t.x.A t.x.n t.x.c, .slice t.y.A t.y.n t.y.c, .slice t.z.A t.z.n t.z.c] ∧ Ext w wr) (fun _ _ _ _ _ i _ => m1 - (intOf i).toNat)
  case atStart => exact ⟨0, ⟨some ⟨w1.heap.size, 0, none⟩, 1, 1⟩, _, l, [yk], by omega, rfl, rfl, by rw [hyk2.out] at E2; exact E2, hlx.out.symm, ⟨by simp, by simp⟩, ho2, hs0, hB2, hX2⟩
  case round =>
    clear ho2 hs0 hB2 hX2 hB1 hX1 hX0 hB0 q0 q1 q2 hck1 hck hat hx1 hin
    obtain ⟨j, v, t, l1, o, hj, rfl, rfl, hG, hxl, hol, ho, hs, hB, hX⟩ := hrel
    obtain ⟨q0, q1, q2⟩ := hB.c3
    by_cases hlt : j < m1
    · obtain ⟨bm, offm, m, rfl, hbm, hcm, hmm⟩ := hm.el hlt
      have hcm1 := (hX.cell (p := ⟨bm, offm + j, none⟩) hbm).trans hcm
      have hj0 : (0 : Int) ≤ (j : Int) := by omega
      have hjn : (j : Int) < (m1 : Int) := by omega
      have hcall := impl.LeaveJury_any t l1 m wr hs.rd
      by_cases h0 : ljC l1 m = 0
      · have hG2 := hide (shG_go hG.out hmm.out h0)
        have hjv := hide (ljV_yes h0)
        rw [h0] at hcall
        clear h0
        go_wp2_with fail
        refine hcall.mono ?_
        rintro e w2 ⟨⟨⟨T1, n2, e2⟩, t2, t3⟩, rfl, h3, hx2⟩
        rw [hjv.out] at h3
        have hn2 := hide (show n2 = n1 by have h1 : n2 = (lvV l1 m).x.length := h3.1.rd.1; rw [lvV_len] at h1; have := hxl.out; omega)
        obtain ⟨b2, off2, y2, hA2, hb2, hc2, hy2⟩ := h3.1.rd.el (k := k) (by show k < n2; have := hn2.out; omega)
        simp only at hA2
        subst hA2
        have hk2 : (k : Int) < (n2 : Int) := by have := hn2.out; omega
        have hlw := hB.lt
        have hzx := hx2.size
        have hx3 := hx2.alloc (.cells #[.slice (some ⟨b2, off2, none⟩) n2 e2, .slice t2.A t2.n t2.c, .slice t3.A t3.n t3.c] 26)
        have hN := Blk.new w2 26 (#[.slice (some ⟨b2, off2, none⟩) n2 e2, .slice t2.A t2.n t2.c, .slice t3.A t3.n t3.c])
        have hB3 := hB.ext hx3
        have hX3 := hX.trans hx3
        have ho3 := ho.ext hx3
        have h33 := h3.alloc (.cells #[.slice (some ⟨b2, off2, none⟩) n2 e2, .slice t2.A t2.n t2.c, .slice t3.A t3.n t3.c] 26)
        obtain ⟨v0, v1, v2⟩ := hN.c3
        obtain ⟨r0, r1, r2, r3, r4, r5⟩ := res3 hB3
        clear q0 q1 q2
        have gv := ho.lt
        have hXs := ((hX3.off w.heap.size 0 (by omega) (.slice (some ⟨b2, off2, none⟩) n2 e2)).off w.heap.size 1 (by omega) (.slice t2.A t2.n t2.c)).off w.heap.size 2 (by omega) (.slice t3.A t3.n t3.c)
        have hBs := ((hB3.set_ 0 (.slice (some ⟨b2, off2, none⟩) n2 e2)).set_ 1 (.slice t2.A t2.n t2.c)).set_ 2 (.slice t3.A t3.n t3.c)
        have hos := ((ho3.off w.heap.size 0 (by omega) (.slice (some ⟨b2, off2, none⟩) n2 e2)).off w.heap.size 1 (by omega) (.slice t2.A t2.n t2.c)).off w.heap.size 2 (by omega) (.slice t3.A t3.n t3.c)
        have h3s := ((h33.awayP (g := w.heap.size) (by omega) 0 (.slice (some ⟨b2, off2, none⟩) n2 e2)).awayP (g := w.heap.size) (by omega) 1 (.slice t2.A t2.n t2.c)).awayP (g := w.heap.size) (by omega) 2 (.slice t3.A t3.n t3.c)
        have hss : StJ w.heap.size v ⟨⟨some ⟨b2, off2, none⟩, n2, e2⟩, t2, t3⟩ (lvV l1 m) _ := StJ.own h3s (by omega) (fun k' hk' => (gv k' hk').2)
        obtain ⟨ws, hws⟩ : ∃ ws : World, ws = (((w2.alloc (.cells #[.slice (some ⟨b2, off2, none⟩) n2 e2, .slice t2.A t2.n t2.c, .slice t3.A t3.n t3.c] 26)).setCell ⟨w.heap.size, 0, none⟩ (.slice (some ⟨b2, off2, none⟩) n2 e2)).setCell ⟨w.heap.size, 1, none⟩ (.slice t2.A t2.n t2.c)).setCell ⟨w.heap.size, 2, none⟩ (.slice t3.A t3.n t3.c) := ⟨_, rfl⟩
        obtain ⟨b3, off3, y3, hA3, hb3, hc3, hy3⟩ := h3s.1.rd.el (k := k) (by show k < n2; have := hn2.out; omega)
        simp only at hA3
        injection hA3 with hA3
        injection hA3 with hA3 hA4
        subst hA3 hA4
        have hvo := hide (show v.n = o.length from ho.rd.1)
        obtain ⟨bv, offv, z, hAv, hbv, hcv, hzv⟩ := hos.rd.el (k := v.n - 1) (by have := hol.out; have := hvo.out; omega)
        have hzv2 := hide (show o[o.length - 1]? = some z by rw [← hvo.out]; exact hzv.out)
        obtain ⟨Av, nv, cv⟩ := v
        simp only at hAv hcv hos hBs hss gv
        subst hAv
        have hnv0 : (0 : Int) ≤ (nv : Int) - 1 := by have := hol.out; have h : nv = o.length := hvo.out; omega
        have hnv1 : (nv : Int) - 1 < (nv : Int) := by omega
        have hwv : IntKind.i64.wrap ((nv : Int) - 1) = (nv : Int) - 1 := Go.IntWalk.i64_in _ (by have := hol.out; have h : nv = o.length := hvo.out; omega)
        clear hws
        obtain ⟨u0, u1', u2⟩ := hBs.c3
        have hge := ho.lt
        by_cases hyz : y3 = z
        · have hyb : (y3 != z) = false := by simpa using hyz
          have hsn := hide (shN_eq hy3.out hzv2.out hyz)
          have hG3 := hide (show shR l ms k = shG k (lvV l1 m) o (ms.drop (j + 1)) by rw [← hsn.out]; exact hG2.out)
          clear hyz
          go_wp2_with fail
          go_roundw
          case rel => exact ⟨j + 1, ⟨_, nv, cv⟩, _, lvV l1 m, o, by omega, by go_num, rfl, hG3, by rw [hide (lvV_len l1 m)]; exact hxl, ⟨hol.out.1, by have := hol.out.2; omega⟩, hos, hss, hBs, hXs⟩
          case measure => simp [intOf]; omega
        · have hyb : (y3 != z) = true := by simpa using hyz
          have hsn := hide (shN_ne hy3.out hzv2.out hyz)
          have hG3 := hide (show shR l ms k = shG k (lvV l1 m) (o ++ [y3]) (ms.drop (j + 1)) by rw [← hsn.out]; exact hG2.out)
          have hlo : w.heap.size + 1 ≤ (World.alloc ((((w2.alloc (.cells #[.slice (some ⟨b2, off2, none⟩) n2 e2, .slice t2.A t2.n t2.c, .slice t3.A t3.n t3.c] 26)).setCell ⟨w.heap.size, 0, none⟩ (.slice (some ⟨b2, off2, none⟩) n2 e2)).setCell ⟨w.heap.size, 1, none⟩ (.slice t2.A t2.n t2.c)).setCell ⟨w.heap.size, 2, none⟩ (.slice t3.A t3.n t3.c)) (.cells #[.int .i64 y3] 2)).heap.size := by rw [World.size_alloc, size_off, size_off, size_off, World.size_alloc]; omega
          have hF := Blk.new ((((w2.alloc (.cells #[.slice (some ⟨b2, off2, none⟩) n2 e2, .slice t2.A t2.n t2.c, .slice t3.A t3.n t3.c] 26)).setCell ⟨w.heap.size, 0, none⟩ (.slice (some ⟨b2, off2, none⟩) n2 e2)).setCell ⟨w.heap.size, 1, none⟩ (.slice t2.A t2.n t2.c)).setCell ⟨w.heap.size, 2, none⟩ (.slice t3.A t3.n t3.c)) 2 (#[.int .i64 y3])
          rw [size_off, size_off, size_off, World.size_alloc] at hF
          clear hyz
          go_wp2_with (at_builtin; refine wpList_app _ rfl (.tmp 58) (.tmp 60) rfl (w.heap.size + 1) _ _ rfl (hos.alloc _) _ _ _ [y3] rfl hF.rd1 (by have := hol.out.2; omega) hlo ?_; intro t4 w4 o4 hg hb)
          go_roundw
          case rel => exact ⟨j + 1, t4, _, lvV l1 m, o ++ [y3], by omega, by go_num, rfl, hG3, by rw [hide (lvV_len l1 m)]; exact hxl, ⟨by simp, by rw [List.length_append]; have := hol.out.2; simp; omega⟩, o4, StJ.grow (hss.ext ((Ext.refl _).alloc _)) hg hb, (hBs.alloc _).fr (Fr.of_grown hg) (fun e => by have := (gv _ e).1; omega), (hXs.alloc _).grow hg (fun k' hk' => by have := (gv k' hk').1; omega)⟩
          case measure => simp [intOf]; omega
      · have hG2 := hide (shG_stop hG.out hmm.out h0)
        obtain ⟨c, hcc⟩ : ∃ c, c = ljC l1 m := ⟨_, rfl⟩
        have hc0 : (c != 0) = true := by rw [hcc]; simpa using h0
        have hG3 := hide (show shR l ms k = ([], c) by rw [hcc]; exact hG2.out)
        rw [← hcc] at hcall
        clear hcc h0 hG2
        go_wp2_with fail
        refine hcall.mono ?_
        rintro e w2 ⟨t', rfl, _, hx2⟩
        go_wp2_with fail
        go_ret2
        exact ⟨⟨none, 0, 0⟩, by rw [hG3.out]; rfl, by rw [hG3.out]; exact Own.nil_ _ _, hX.trans (hx2.alloc _)⟩
    · have hG3 := hide (shG_end hG.out (show j = ms.length by have := hml.out; omega))
      go_wp2_with fail
      go_ret2
      exact ⟨v, by rw [hG3.out]; rfl, by rw [hG3.out]; exact ho.mono (by omega), hX⟩
end Go.Proofs.Ytkfjphjmffbpiaa.mem
