/-
  The contracts of the reference's l15Members and IsJury.
-/
import Derived.Test.YtkfjphjmffbpiaaList
import Derived.Deep.RegionWith
import Derived.Deep.RegionHeld3
namespace Go.Proofs.Ytkfjphjmffbpiaa.mem
open Go.ChangeShapes Go.WideShapes Go.ChangeAt Go.RowKit

theorem spec.l15Members_any (p : S3) (l : L3) (w : World) (hr : Rd3 w p l) :
    Calls Try.prog 74 #[.agg #[.slice p.x.A p.x.n p.x.c, .slice p.y.A p.y.n p.y.c, .slice p.z.A p.z.n p.z.c]] w fun e w' => ∃ t : Sl, e = .returned (.slice t.A t.n t.c) ∧ Own w' w.heap.size (.slice t.A t.n t.c) (nz l.x) ∧ Ext w w' := by
  obtain ⟨⟨A1, n1, c1⟩, ⟨A2, n2, c2⟩, ⟨A3, n3, c3⟩⟩ := p
  obtain ⟨rx, ry, rz, hs, cx, cy, cz⟩ := hr
  simp only at rx ry rz hs ⊢
  have hn := rx.le
  have hX0 := (Ext.refl w).alloc (.cells #[.slice A1 n1 c1, .slice A2 n2 c2, .slice A3 n3 c3] 26)
  have hB0 := Blk.new w 26 (#[.slice A1 n1 c1, .slice A2 n2 c2, .slice A3 n3 c3])
  have hn0 := Own.new0 (w.alloc (.cells #[.slice A1 n1 c1, .slice A2 n2 c2, .slice A3 n3 c3] 26)) (w.heap.size + 1) (by simp)
  rw [World.size_alloc] at hn0
  have hBn := hB0.alloc (.cells #[] 2)
  go_enter Try.func74, Try.ntmps74
  go_wp2
  go_loopw [3, 4] (fun v i wr => ∃ k : Nat, k ≤ n1 ∧ i = .int .i64 k ∧ (∃ t : Sl, v = .slice t.A t.n t.c ∧ Own wr (w.heap.size + 1) (.slice t.A t.n t.c) (nz (l.x.take k))) ∧ Ext w wr ∧ w.heap.size + 1 ≤ wr.heap.size ∧ Blk wr w.heap.size 26 (#[.slice A1 n1 c1, .slice A2 n2 c2, .slice A3 n3 c3])) (fun _ i _ => n1 - (intOf i).toNat)
  case atStart => exact ⟨0, by omega, rfl, ⟨⟨_, _, _⟩, rfl, hn0⟩, hX0.alloc _, by simp, hBn⟩
  case round =>
    obtain ⟨k, hk, rfl, ⟨t, rfl, ho⟩, hx, hz, hB⟩ := hrel
    have hc0 := hB.get 0 _ rfl
    by_cases hlt : k < n1
    · obtain ⟨b, off, y, rfl, hbl, hc1, hy⟩ := (rx.ext hx).el hlt
      have hl1 : (nz (l.x.take k)).length ≤ k := Nat.le_trans (nz_le _) (List.length_take_le _ _)
      have hB' := hB.alloc (.cells #[.int .i64 y] 2)
      by_cases he : y = 0
      · have hne : (y != 0) = false := by simpa using he
        have hn1 := hide (nz_snoc0 l.x k (he ▸ hy.out))
        clear he
        go_wp2
        go_roundw
        case rel => exact ⟨k + 1, by omega, by go_num, ⟨t, rfl, by rw [hn1.out]; exact ho⟩, hx, hz, hB⟩
        case measure => simp [intOf]; omega
      · have hne : (y != 0) = true := by simpa using he
        have hn1 := hide (nz_snoc l.x k y hy.out he)
        clear he
        go_wp2_with (at_builtin; refine wpList_app _ rfl (.tmp 19) (.tmp 25) rfl (w.heap.size + 1) _ _ rfl (ho.alloc _) _ _ _ [y] rfl (Rd.one wr y) (by omega) (by first | (simp; done) | (simp; omega)) ?_; intro t1 w3 ho1 hg1 hb2)
        go_roundw
        case rel => exact ⟨k + 1, by omega, by go_num, ⟨t1, rfl, by rw [hn1.out]; exact ho1⟩, (hx.alloc _).grow hg1 (fun g hg => by have := (ho.lt g hg).1; omega), by have := hg1.size; simp at this; omega, hB'.fr (Fr.of_grown hg1) (fun e => by have := (ho.lt _ e).1; omega)⟩
        case measure => simp [intOf]; omega
    · go_wp2
      go_ret
      have e : k = n1 := by omega
      subst e
      exact ⟨t, rfl, by rw [List.take_of_length_le (by rw [← rx.1]; omega)] at ho; exact ho.mono (by omega), hx⟩

set_option maxRecDepth 20000 in
set_option maxHeartbeats 4000000 in
theorem spec.IsJury_any (p : S3) (l : L3) (w : World) (hr : Rd3 w p l) :
    Calls Try.prog 69 #[.agg #[.slice p.x.A p.x.n p.x.c, .slice p.y.A p.y.n p.y.c, .slice p.z.A p.z.n p.z.c]] w fun e w' => e = .returned (.bool (okJ l)) ∧ Ext w w' := by
  have hr0 := hr
  obtain ⟨⟨A1, n1, c1⟩, ⟨A2, n2, c2⟩, ⟨A3, n3, c3⟩⟩ := p
  simp only [Rd3] at hr ⊢
  obtain ⟨rx, ry, rz, hs, cx, cy, cz⟩ := hr
  have hX0 := (Ext.refl w).alloc (.cells #[Value.slice A1 n1 c1, .slice A2 n2 c2, .slice A3 n3 c3] 26)
  have hB0 := Blk.new w 26 (#[Value.slice A1 n1 c1, .slice A2 n2 c2, .slice A3 n3 c3])
  have sx := hide rx.1
  have sy := hide ry.1
  have sz := hide rz.1
  have lx := rx.le
  have ly := ry.le
  have lz := rz.le
  have hnl := hide (nz_le l.x)
  go_enter Try.func69, Try.ntmps69
  go_wp2_with fail
  refine (spec.l15Members_any ⟨⟨A1, n1, c1⟩, ⟨A2, n2, c2⟩, ⟨A3, n3, c3⟩⟩ l _ (hr0.ext hX0)).mono ?_
  rintro e w1 ⟨t, rfl, ho, hx1⟩
  obtain ⟨At, nt, ct⟩ := t
  rw [World.size_alloc] at ho
  have hX1 := hX0.trans hx1
  have hB1 := hB0.ext hx1
  have hz1 := hide (show w.heap.size + 1 ≤ w1.heap.size from by have := hx1.size; simp at this; omega)
  have q1 := hB1.c3
  go_wp2_with fail
  go_region_held3 (fun w' => w'.cell? ⟨w.heap.size, 0, none⟩ = some (Value.slice A1 n1 c1) ∧ w'.cell? ⟨w.heap.size, 1, none⟩ = some (Value.slice A2 n2 c2) ∧ w'.cell? ⟨w.heap.size, 2, none⟩ = some (Value.slice A3 n3 c3)) (first | exact q4 | exact q3 | exact q2 | exact q1 | go_keep) (first | ((refine step_app _ (by rfl) (.tmp 9) (.tmp 11) (by rfl) (w.heap.size + 1) _ _ (by rfl) ho2 _ _ _ l.y (by rfl) (ry.ext hX2) (by have h1 := sx.out; have h2 := sy.out; have h3 := hnl.out; (try simp at h1 h2); omega) (by have := hz2.out; omega) ?_; intro t3 w3 ho3 hg3 hb3; have hX3 := hX2.grow hg3 (fun k hk => by have := (ho2.lt k hk).1; omega); have hz3 := hide (show w.heap.size + 1 ≤ w3.heap.size from by have h1 := hz2.out; have := hg3.size; omega); have hB3 := Blk.fr hB2 (Fr.of_grown hg3) (fun e => by have := (ho2.lt _ e).1; omega); have q3 := hB3.c3)) | ((refine step_app _ (by rfl) (.tmp 12) (.tmp 14) (by rfl) (w.heap.size + 1) _ _ (by rfl) ho3 _ _ _ l.z (by rfl) (rz.ext hX3) (by have h1 := sx.out; have h2 := sy.out; have h4 := sz.out; have h3 := hnl.out; (try simp at h1 h2 h4); (try simp); omega) (by have := hz3.out; omega) ?_; intro t4 w4 ho4 hg4 hb4; have hX4 := hX3.grow hg4 (fun k hk => by have := (ho3.lt k hk).1; omega); have hB4 := Blk.fr hB3 (Fr.of_grown hg4) (fun e => by have := (ho3.lt _ e).1; omega); have q4 := hB4.c3)) | (go_at_call 66; refine (spec.l01Own_any ⟨At, nt, ct⟩ _ _ ho.rd.drew).mono ?_; rintro e w2 ⟨t2, rfl, ho2', hx2⟩; have ho2 := ho2'.mono (lo' := w.heap.size + 1) (by have := hz1.out; simp; omega); have hX2 := hX1.drew.trans hx2; have hB2 := hB1.drew.ext hx2; have hz2 := hide (show w.heap.size + 1 ≤ w2.heap.size from by have h1 := hz1.out; have := hx2.size; simp at this; omega); have q2 := hB2.c3))
  have htl := hide ho.rd.1
  have hall : nz l.x ++ l.y ++ l.z = allP l := by simp [allP]
  rw [hall] at ho4
  clear hall
  obtain ⟨A4, n4, c4⟩ := t4
  have hrt := ho4.rd
  have hnt := hrt.le
  obtain ⟨q40, q41, q42⟩ := q4
  clear q1 q2 q3 hB0 hB1 hB2 hB3 ho2 ho2' ho3
  have hct := ho4.cap
  simp only [cap1] at hct
  go_wp2
  go_loopw [5] (fun i w5 => ∃ j q : Nat, j ≤ n4 ∧ i = .int .i64 j ∧ w5 = w4.drewN q ∧ Hid (distP ((allP l).take j))) (fun i _ => n4 - (intOf i).toNat)
  case atStart => exact ⟨0, 0, by omega, rfl, rfl, hide (by simp [distP])⟩
  case round =>
    obtain ⟨j, q, hj, rfl, rfl, hd⟩ := hrel
    by_cases hlt : j < n4
    · obtain ⟨b, off, y, rfl, hbl, hc1, hy⟩ := hrt.el hlt
      have hr1 := hrt.take (k := j) (by omega)
      have hsn := hide (distP_snoc ((allP l).take j) y)
      have hm := hide (take_more hy.out)
      cases h1 : inB y 1 1000000
      · have hf := hide (show okJ l = false by
          have hd : distB (allP l) = false := by
            refine decide_eq_false fun h => ?_
            have := distP_take h (j + 1)
            rw [hm.out, hsn.out] at this
            rw [inB_yes this.2.1] at h1
            cases h1
          unfold okJ; rw [hd]; simp)
        go_wp2
        go_quiet ((first | (go_at_call 70; exact quietL (spec.l01In_any _ _ _ _)) | (go_at_call 89; exact quietL (spec.l01Has_any ⟨_, _, _⟩ _ _ _ (hr1.drewN _)))))
        go_wp2
        go_ret
        exact ⟨by rw [hf.out]; rfl, (hX4.drewN _).drewN _⟩
      · cases h2 : hasB ((allP l).take j) y
        · have hd1 := hide (show distP ((allP l).take (j + 1)) by
            rw [hm.out, hsn.out]
            exact ⟨hd.out, inB_iff.1 h1, of_decide_eq_false h2⟩)
          go_wp2
          go_quiet ((first | (go_at_call 70; exact quietL (spec.l01In_any _ _ _ _)) | (go_at_call 89; exact quietL (spec.l01Has_any ⟨_, _, _⟩ _ _ _ (hr1.drewN _)))))
          go_wp2
          go_roundw
          case rel => exact ⟨j + 1, _, by omega, by go_num, rfl, hd1⟩
          case measure => simp [intOf]; omega
        · have hf := hide (show okJ l = false by
            have hd : distB (allP l) = false := by
              refine decide_eq_false fun h => ?_
              have := distP_take h (j + 1)
              rw [hm.out, hsn.out] at this
              exact this.2.2 (of_decide_eq_true h2)
            unfold okJ; rw [hd]; simp)
          go_wp2
          go_quiet ((first | (go_at_call 70; exact quietL (spec.l01In_any _ _ _ _)) | (go_at_call 89; exact quietL (spec.l01Has_any ⟨_, _, _⟩ _ _ _ (hr1.drewN _)))))
          go_wp2
          go_ret
          exact ⟨by rw [hf.out]; rfl, (hX4.drewN _).drewN _⟩
    · have hd1 : distB (allP l) = true := by
        have h := hd.out
        rw [List.take_of_length_le (by rw [← hrt.1]; omega)] at h
        exact decide_eq_true h
      have hok := hide (show okJ l = (inB (n1 : Int) 1 12 && (decide ((n2 : Int) ≤ 6) && (decide ((n3 : Int) ≤ 60) && !(hasB l.x 0 && decide (0 < n2))))) by
        unfold okJ
        rw [hd1, ← sx.out, ← sy.out, ← sz.out]
        congr 1
        congr 1
        · rw [Bool.eq_iff_iff]; simp; omega
        · congr 1
          rw [Bool.eq_iff_iff]; simp; omega)
      have hb0 := hide (show decide (nt < n1) = hasB l.x 0 by rw [← nz_lt, htl.out, sx.out])
      have hX := hX4.drewN q
      have hgo : ∀ b : Bool, hasB l.x 0 = b → (b && decide (0 < n2)) = false → Hid (okJ l = (inB (n1 : Int) 1 12 && (decide ((n2 : Int) ≤ 6) && decide ((n3 : Int) ≤ 60)))) := by
        intro b e1 e2
        refine hide ?_
        rw [hok.out, e1, e2]; simp
      by_cases bm : nt < n1
      · by_cases b5 : 0 < n2
        · go_wp2
          go_ret
          exact ⟨by rw [hok.out, ← hb0.out, decide_eq_true bm, decide_eq_true b5]; simp, hX⟩
        · have HK := hgo true (by rw [← hb0.out, decide_eq_true bm]) (by simp [b5])
          clear hgo
          cases b1 : inB (n1 : Int) 1 12
          · go_wp2_with (go_at_call 70; refine (spec.l01In_any _ _ _ _).mono ?_; rintro e w' ⟨rfl, rfl⟩)
            go_ret
            exact ⟨by rw [HK.out, b1]; rfl, hX⟩
          · cases b2 : decide ((n2 : Int) ≤ 6)
            · go_wp2_with (go_at_call 70; refine (spec.l01In_any _ _ _ _).mono ?_; rintro e w' ⟨rfl, rfl⟩)
              go_ret
              exact ⟨by rw [HK.out, b1, b2]; rfl, hX⟩
            · cases b3 : decide ((n3 : Int) ≤ 60)
              all_goals
                go_wp2_with (go_at_call 70; refine (spec.l01In_any _ _ _ _).mono ?_; rintro e w' ⟨rfl, rfl⟩)
                go_ret
                exact ⟨by rw [HK.out, b1, b2, b3]; rfl, hX⟩
      · have HK := hgo false (by rw [← hb0.out, decide_eq_false bm]) (by simp)
        clear hgo
        cases b1 : inB (n1 : Int) 1 12
        · go_wp2_with (go_at_call 70; refine (spec.l01In_any _ _ _ _).mono ?_; rintro e w' ⟨rfl, rfl⟩)
          go_ret
          exact ⟨by rw [HK.out, b1]; rfl, hX⟩
        · cases b2 : decide ((n2 : Int) ≤ 6)
          · go_wp2_with (go_at_call 70; refine (spec.l01In_any _ _ _ _).mono ?_; rintro e w' ⟨rfl, rfl⟩)
            go_ret
            exact ⟨by rw [HK.out, b1, b2]; rfl, hX⟩
          · cases b3 : decide ((n3 : Int) ≤ 60)
            all_goals
              go_wp2_with (go_at_call 70; refine (spec.l01In_any _ _ _ _).mono ?_; rintro e w' ⟨rfl, rfl⟩)
              go_ret
              exact ⟨by rw [HK.out, b1, b2, b3]; rfl, hX⟩
end Go.Proofs.Ytkfjphjmffbpiaa.mem
