/-
  Contracts of both programs' IsPanel: it answers what a panel is.
-/
import Derived.Test.YtofglgfjlbehmaaGreatList
import Derived.Deep.RegionWith
import Derived.Deep.RegionHeld3
namespace Go.Proofs.YtofglgfjlbehmaaGreat.mem
open Go.ChangeShapes Go.WideShapes Go.ChangeAt Go.RowKit

theorem impl.IsPanel_any (p : S3) (l : L3) (w : World) (hr : Rd3 w p l) :
    Calls Tryz.prog 94 #[.agg #[.slice p.x.A p.x.n p.x.c, .slice p.y.A p.y.n p.y.c, .slice p.z.A p.z.n p.z.c]] w fun e w' => e = .returned (.bool (okP l)) ∧ Ext w w' := by
  obtain ⟨rx, ry, rz, hs, cx, cy, cz⟩ := hr
  have htot : (nz l.x ++ (l.y ++ l.z)).length ≤ 16777216 := by
    have h1 := nz_le l.x
    have e1 := rx.1
    have e2 := ry.1
    have e3 := rz.1
    simp only [List.length_append]
    omega
  have hB0 := Blk.new w 40 (#[.slice p.x.A p.x.n p.x.c, .slice p.y.A p.y.n p.y.c, .slice p.z.A p.z.n p.z.c])
  have hX0 := (Ext.refl w).alloc (.cells #[.slice p.x.A p.x.n p.x.c, .slice p.y.A p.y.n p.y.c, .slice p.z.A p.z.n p.z.c] 40)
  go_enter Tryz.func94, Tryz.ntmps94
  go_wp2_with fail
  go_region_held3 (fun w' => w'.cell? ⟨w.heap.size, 0, none⟩ = some (.slice p.x.A p.x.n p.x.c) ∧ w'.cell? ⟨w.heap.size, 1, none⟩ = some (.slice p.y.A p.y.n p.y.c) ∧ w'.cell? ⟨w.heap.size, 2, none⟩ = some (.slice p.z.A p.z.n p.z.c)) (first | exact q2 | exact q1 | go_keep) (first | (go_at_call 93; refine (impl.seated_any _ _ _ (rx.ext hX0.drew)).mono ?_; rintro e w1 ⟨t1, rfl, ho1, hx1⟩; have hB1 := hB0.drew.ext hx1; have q1 := hB1.c3) | (go_at_call 116; refine (impl.joined3 _ t1 p.y p.z (nz l.x) l.y l.z _ (Blk.new w1 24 (#[.slice t1.A t1.n t1.c, .slice p.y.A p.y.n p.y.c, .slice p.z.A p.z.n p.z.c])) (ho1.rd.alloc _) ((ry.ext (hX0.drew.trans hx1)).alloc _) ((rz.ext (hX0.drew.trans hx1)).alloc _) htot).mono ?_; rintro e w2 ⟨t2, rfl, ho2, hx2⟩; have hB2 := (hB1.alloc (.cells #[.slice t1.A t1.n t1.c, .slice p.y.A p.y.n p.y.c, .slice p.z.A p.z.n p.z.c] 24)).ext hx2; have q2 := hB2.c3))
  have hX2 : Ext w w2 := ((hX0.drew.trans hx1).alloc _).trans hx2
  have rx2 := rx.ext hX2
  have hok := hide (show okP l = (inB (p.x.n : Int) 1 12 && (decide ((t2.n : Int) ≤ 60) && (distB (nz l.x ++ (l.y ++ l.z)) && !(hasB l.x 0 && decide (0 < p.y.n))))) by
    unfold okP allP
    rw [rx.1, ry.1, ho2.rd.1]
    congr 1
    congr 1
    · rw [Bool.eq_iff_iff]; simp; omega
    )
  have hs1 := hx1.size
  have hs2 := hx2.size
  simp at hs1 hs2
  obtain ⟨q20, q21, q22⟩ := q2
  clear q1 hB0 hB1 hB2 ry rz
  cases b4 : hasB l.x 0 <;> cases b5 : decide (0 < p.y.n)
  case true.true =>
    go_wp2_with (first | (go_at_call 100; refine (impl.has_any p.x l.x _ _ rx2).mono ?_; rintro e w' ⟨rfl, rfl⟩) | (go_at_call 53; refine (impl.isSeats_any _ _).mono ?_; rintro e w' ⟨rfl, rfl⟩) | (go_at_call 55; refine (impl.few_any _ _ _).mono ?_; rintro e w' ⟨rfl, rfl⟩) | (go_at_call 117; refine (impl.distinct_any t2 _ _ ho2.rd ho2.cap).mono ?_; rintro e w' ⟨rfl, rfl⟩))
    go_ret
    exact ⟨by rw [hok.out, b4, b5]; simp, hX2⟩
  all_goals
    cases b1 : inB (p.x.n : Int) 1 12
    · go_wp2_with (first | (go_at_call 100; refine (impl.has_any p.x l.x _ _ rx2).mono ?_; rintro e w' ⟨rfl, rfl⟩) | (go_at_call 53; refine (impl.isSeats_any _ _).mono ?_; rintro e w' ⟨rfl, rfl⟩) | (go_at_call 55; refine (impl.few_any _ _ _).mono ?_; rintro e w' ⟨rfl, rfl⟩) | (go_at_call 117; refine (impl.distinct_any t2 _ _ ho2.rd ho2.cap).mono ?_; rintro e w' ⟨rfl, rfl⟩))
      go_ret
      exact ⟨by rw [hok.out, b1]; rfl, hX2⟩
    · cases b2 : decide ((t2.n : Int) ≤ 60)
      · go_wp2_with (first | (go_at_call 100; refine (impl.has_any p.x l.x _ _ rx2).mono ?_; rintro e w' ⟨rfl, rfl⟩) | (go_at_call 53; refine (impl.isSeats_any _ _).mono ?_; rintro e w' ⟨rfl, rfl⟩) | (go_at_call 55; refine (impl.few_any _ _ _).mono ?_; rintro e w' ⟨rfl, rfl⟩) | (go_at_call 117; refine (impl.distinct_any t2 _ _ ho2.rd ho2.cap).mono ?_; rintro e w' ⟨rfl, rfl⟩))
        go_ret
        exact ⟨by rw [hok.out, b1, b2]; rfl, hX2⟩
      · cases b3 : distB (nz l.x ++ (l.y ++ l.z))
        · go_wp2_with (first | (go_at_call 100; refine (impl.has_any p.x l.x _ _ rx2).mono ?_; rintro e w' ⟨rfl, rfl⟩) | (go_at_call 53; refine (impl.isSeats_any _ _).mono ?_; rintro e w' ⟨rfl, rfl⟩) | (go_at_call 55; refine (impl.few_any _ _ _).mono ?_; rintro e w' ⟨rfl, rfl⟩) | (go_at_call 117; refine (impl.distinct_any t2 _ _ ho2.rd ho2.cap).mono ?_; rintro e w' ⟨rfl, rfl⟩))
          go_ret
          exact ⟨by rw [hok.out, b1, b2, b3]; rfl, hX2⟩
        · go_wp2_with (first | (go_at_call 100; refine (impl.has_any p.x l.x _ _ rx2).mono ?_; rintro e w' ⟨rfl, rfl⟩) | (go_at_call 53; refine (impl.isSeats_any _ _).mono ?_; rintro e w' ⟨rfl, rfl⟩) | (go_at_call 55; refine (impl.few_any _ _ _).mono ?_; rintro e w' ⟨rfl, rfl⟩) | (go_at_call 117; refine (impl.distinct_any t2 _ _ ho2.rd ho2.cap).mono ?_; rintro e w' ⟨rfl, rfl⟩))
          go_ret
          exact ⟨by rw [hok.out, b1, b2, b3, b4]; simp [b5], hX2⟩
theorem spec.IsPanel_any (p : S3) (l : L3) (w : World) (hr : Rd3 w p l) :
    Calls Tryz.prog 97 #[.agg #[.slice p.x.A p.x.n p.x.c, .slice p.y.A p.y.n p.y.c, .slice p.z.A p.z.n p.z.c]] w fun e w' => e = .returned (.bool (okP l)) ∧ Ext w w' := by
  obtain ⟨⟨A1, n1, c1⟩, ⟨A2, n2, c2⟩, ⟨A3, n3, c3⟩⟩ := p
  simp only [Rd3] at hr ⊢
  obtain ⟨rx, ry, rz, hs, cx, cy, cz⟩ := hr
  have hX0 := (Ext.refl w).alloc (.cells #[Value.slice A1 n1 c1, .slice A2 n2 c2, .slice A3 n3 c3] 40)
  have hB0 := Blk.new w 40 (#[Value.slice A1 n1 c1, .slice A2 n2 c2, .slice A3 n3 c3])
  have sy := hide ry.1
  have sz := hide rz.1
  have hn0 := Own.new0 (w.alloc (.cells #[Value.slice A1 n1 c1, .slice A2 n2 c2, .slice A3 n3 c3] 40)) (w.heap.size + 1) (by simp)
  rw [World.size_alloc] at hn0
  have hBn := (hB0.alloc (.cells #[] 2)).drew
  go_enter Tryz.func97, Tryz.ntmps97
  go_wp2_with fail
  go_region_held3 (fun w' => w'.cell? ⟨w.heap.size, 0, none⟩ = some (Value.slice A1 n1 c1) ∧ w'.cell? ⟨w.heap.size, 1, none⟩ = some (Value.slice A2 n2 c2) ∧ w'.cell? ⟨w.heap.size, 2, none⟩ = some (Value.slice A3 n3 c3)) (first | exact q2 | exact q1 | go_keep) (first | ((refine step_app _ (by rfl) (.tmp 7) (.tmp 9) (by rfl) (w.heap.size + 1) _ [] (by rfl) hn0.drew _ _ _ l.y (by rfl) (ry.ext (hX0.alloc _).drew) (by simp; omega) (by first | (simp; done) | (simp; omega)) ?_; intro t1 w1 ho1 hg1 hb1; have hx1 := (hX0.alloc (.cells #[] 2)).drew.grow hg1 (fun k hk => by have := ownBlock_eq hk; omega); have hz1 := hide (show w.heap.size + 1 ≤ w1.heap.size from by have := hg1.size; simp at this; omega); have hB1 := Blk.fr hBn (Fr.of_grown hg1) (fun e => by have := ownBlock_eq e; omega); have q1 := hB1.c3)) | ((refine step_app _ (by rfl) (.tmp 10) (.tmp 12) (by rfl) (w.heap.size + 1) _ _ (by rfl) ho1 _ _ _ l.z (by rfl) (rz.ext hx1) (by have := sy.out; simp; omega) (by have := hz1.out; omega) ?_; intro t2 w2 ho2 hg2 hb2; have hx2 := hx1.grow hg2 (fun k hk => by have := (ho1.lt k hk).1; omega); have hB2 := Blk.fr hB1 (Fr.of_grown hg2) (fun e => by have := (ho1.lt _ e).1; omega); have q2 := hB2.c3)))
  have hz2 : w.heap.size + 1 ≤ w2.heap.size := by
    have h1 := hz1.out
    have h2 := hg2.size
    omega
  have lx := rx.le
  have hyz := hide (show ([] ++ l.y ++ l.z).length = n2 + n3 by rw [sy.out, sz.out]; simp)
  obtain ⟨q20, q21, q22⟩ := q2
  clear q1 hB0 hBn hn0
  go_wp2
  go_loopw [3, 4, 5] (fun v b i wr => ∃ k : Nat, k ≤ n1 ∧ i = .int .i64 k ∧ b = .bool (hasB (l.x.take k) 0) ∧ (∃ t : Sl, v = .slice t.A t.n t.c ∧ Own wr (w.heap.size + 1) (.slice t.A t.n t.c) ([] ++ l.y ++ l.z ++ nz (l.x.take k))) ∧ Ext w wr ∧ w.heap.size + 1 ≤ wr.heap.size ∧ Blk wr w.heap.size 40 (#[Value.slice A1 n1 c1, .slice A2 n2 c2, .slice A3 n3 c3])) (fun _ _ i _ => n1 - (intOf i).toNat)
  case atStart => exact ⟨0, by omega, rfl, rfl, ⟨_, rfl, by rw [show [] ++ l.y ++ l.z ++ nz (l.x.take 0) = [] ++ l.y ++ l.z from by simp [nz]]; exact ho2⟩, hx2, hz2, hB2⟩
  case round =>
    obtain ⟨k, hk, rfl, rfl, ⟨t, rfl, ho⟩, hx, hz, hB⟩ := hrel
    have hc0 := hB.get 0 _ rfl
    by_cases hlt : k < n1
    · obtain ⟨b, off, y, rfl, hbl, hc1, hy⟩ := (rx.ext hx).el hlt
      have hl1 : (nz (l.x.take k)).length ≤ k := Nat.le_trans (nz_le _) (List.length_take_le _ _)
      have hlen : ([] ++ l.y ++ l.z ++ nz (l.x.take k)).length + 1 ≤ 16777216 := by
        have := hyz.out
        simp only [List.length_append] at this ⊢
        omega
      have hB' := hB.alloc (.cells #[.int .i64 y] 2)
      by_cases he : y = 0
      · have hne : (y != 0) = false := by simpa using he
        have heq : (y == 0) = true := by simpa using he
        have hb1 := hide (show hasB (l.x.take (k + 1)) 0 = true by rw [hasB_more hy.out, decide_eq_true he]; simp)
        have hn1 := hide (nz_snoc0 l.x k (he ▸ hy.out))
        clear he
        cases hb : hasB (l.x.take k) 0
        all_goals
          go_wp2
          go_roundw
          case rel => exact ⟨k + 1, by omega, by go_num, by rw [hb1.out], ⟨t, rfl, by rw [hn1.out]; exact ho⟩, hx, hz, hB⟩
          case measure => simp [intOf]; omega
      · have hne : (y != 0) = true := by simpa using he
        have heq : (y == 0) = false := by simpa using he
        have hb1 := hide (show hasB (l.x.take (k + 1)) 0 = hasB (l.x.take k) 0 by rw [hasB_more hy.out, decide_eq_false he]; simp)
        have hn1 := hide (show [] ++ l.y ++ l.z ++ nz (l.x.take (k + 1)) = [] ++ l.y ++ l.z ++ nz (l.x.take k) ++ [y] by rw [nz_snoc l.x k y hy.out he]; simp)
        clear he
        cases hb : hasB (l.x.take k) 0
        all_goals
          go_wp2_with (at_builtin; refine wpList_app _ rfl (.tmp 36) (.tmp 42) rfl (w.heap.size + 1) _ _ rfl (ho.alloc _) _ _ _ [y] rfl (Rd.one wr y) hlen (by first | (simp; done) | (simp; omega)) ?_; intro t1 w3 ho1 hg1 hb2)
          go_roundw
          case rel => exact ⟨k + 1, by omega, by go_num, by rw [hb1.out, hb], ⟨t1, rfl, by rw [hn1.out]; exact ho1⟩, (hx.alloc _).grow hg1 (fun g hg => by have := (ho.lt g hg).1; omega), by have := hg1.size; simp at this; omega, hB'.fr (Fr.of_grown hg1) (fun e => by have := (ho.lt _ e).1; omega)⟩
          case measure => simp [intOf]; omega
    · have e : k = n1 := by omega
      subst e
      have htk := hide (show l.x.take k = l.x from List.take_of_length_le (by rw [← rx.1]; omega))
      rw [htk.out, show [] ++ l.y ++ l.z ++ nz l.x = allS l from by simp [allS]] at ho
      obtain ⟨At, nt, ct⟩ := t
      have hrt := ho.rd
      have hnt := hrt.le
      have hct := ho.cap
      simp only [cap1] at hct
      go_wp2
      go_loopw [6] (fun i w4 => ∃ j q : Nat, j ≤ nt ∧ i = .int .i64 j ∧ w4 = wr.drewN q ∧ Hid (distP ((allS l).take j))) (fun i _ => nt - (intOf i).toNat)
      case atStart => exact ⟨0, 0, by omega, rfl, rfl, hide (by simp [distP])⟩
      case round =>
        obtain ⟨j, q, hj, rfl, rfl, hd⟩ := hrel
        by_cases hlt : j < nt
        · obtain ⟨b, off, y, rfl, hbl, hc1, hy⟩ := hrt.el hlt
          have hr1 := hrt.take (k := j) (by omega)
          have hsn := hide (distP_snoc ((allS l).take j) y)
          have hm := hide (take_more hy.out)
          cases h1 : inB y 1 1000000
          · have hf := hide (show okP l = false by
              have hd : distB (allP l) = false := by
                rw [← distB_all]
                refine decide_eq_false fun h => ?_
                have := distP_take h (j + 1)
                rw [hm.out, hsn.out] at this
                rw [inB_yes this.2.1] at h1
                cases h1
              unfold okP; rw [hd]; simp)
            go_wp2
            go_quiet ((first | (go_at_call 42; exact quietL (spec.l01In_any _ _ _ _)) | (go_at_call 109; exact quietL (spec.l01Has_any ⟨_, _, _⟩ _ _ _ (hr1.drewN _)))))
            go_wp2
            go_ret
            exact ⟨by rw [hf.out]; rfl, (hx.drewN _).drewN _⟩
          · cases h2 : hasB ((allS l).take j) y
            · have hd1 := hide (show distP ((allS l).take (j + 1)) by
                rw [hm.out, hsn.out]
                exact ⟨hd.out, inB_iff.1 h1, of_decide_eq_false h2⟩)
              go_wp2
              go_quiet ((first | (go_at_call 42; exact quietL (spec.l01In_any _ _ _ _)) | (go_at_call 109; exact quietL (spec.l01Has_any ⟨_, _, _⟩ _ _ _ (hr1.drewN _)))))
              go_wp2
              go_roundw
              case rel => exact ⟨j + 1, _, by omega, by go_num, rfl, hd1⟩
              case measure => simp [intOf]; omega
            · have hf := hide (show okP l = false by
                have hd : distB (allP l) = false := by
                  rw [← distB_all]
                  refine decide_eq_false fun h => ?_
                  have := distP_take h (j + 1)
                  rw [hm.out, hsn.out] at this
                  exact this.2.2 (of_decide_eq_true h2)
                unfold okP; rw [hd]; simp)
              go_wp2
              go_quiet ((first | (go_at_call 42; exact quietL (spec.l01In_any _ _ _ _)) | (go_at_call 109; exact quietL (spec.l01Has_any ⟨_, _, _⟩ _ _ _ (hr1.drewN _)))))
              go_wp2
              go_ret
              exact ⟨by rw [hf.out]; rfl, (hx.drewN _).drewN _⟩
        · have hd1 : distB (allP l) = true := by
            rw [← distB_all]
            have h := hd.out
            rw [List.take_of_length_le (by rw [← hrt.1]; omega)] at h
            exact decide_eq_true h
          have hok := hide (show okP l = (inB (k : Int) 1 12 && (decide ((nt : Int) ≤ 60) && !(hasB l.x 0 && decide (0 < n2)))) by
            unfold okP
            rw [hd1, ← len_all, ← hrt.1, ← rx.1, ← ry.1]
            congr 1
            congr 1
            rw [Bool.eq_iff_iff]; simp; omega)
          have hb0 := hide (show hasB (l.x.take k) 0 = hasB l.x 0 by rw [htk.out])
          obtain ⟨g0, g1, _⟩ := hB.c3
          clear q20 q21 q22 hB1 hB2 hc0
          have hX := hx.drewN q
          cases b1 : inB (k : Int) 1 12
          · go_wp2_with (go_at_call 42; refine (spec.l01In_any _ _ _ _).mono ?_; rintro e w' ⟨rfl, rfl⟩)
            go_ret
            exact ⟨by rw [hok.out, b1]; rfl, hX⟩
          · cases b2 : decide ((nt : Int) ≤ 60)
            · go_wp2_with (go_at_call 42; refine (spec.l01In_any _ _ _ _).mono ?_; rintro e w' ⟨rfl, rfl⟩)
              go_ret
              exact ⟨by rw [hok.out, b1, b2]; rfl, hX⟩
            · cases b4 : hasB (l.x.take k) 0
              · go_wp2_with (go_at_call 42; refine (spec.l01In_any _ _ _ _).mono ?_; rintro e w' ⟨rfl, rfl⟩)
                go_ret
                exact ⟨by rw [hok.out, b1, b2, ← hb0.out, b4]; rfl, hX⟩
              · by_cases b5 : 0 < n2
                · go_wp2_with (go_at_call 42; refine (spec.l01In_any _ _ _ _).mono ?_; rintro e w' ⟨rfl, rfl⟩)
                  go_ret
                  exact ⟨by rw [hok.out, b1, b2, ← hb0.out, b4, decide_eq_true b5]; rfl, hX⟩
                · go_wp2_with (go_at_call 42; refine (spec.l01In_any _ _ _ _).mono ?_; rintro e w' ⟨rfl, rfl⟩)
                  go_ret
                  exact ⟨by rw [hok.out, b1, b2, ← hb0.out, b4, decide_eq_false b5]; rfl, hX⟩
end Go.Proofs.YtofglgfjlbehmaaGreat.mem
