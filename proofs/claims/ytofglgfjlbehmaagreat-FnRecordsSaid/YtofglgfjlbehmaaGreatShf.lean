/-
  Contracts of both programs' shuffles.
-/
import Derived.Test.YtofglgfjlbehmaaGreatMg3
import Derived.Test.YtofglgfjlbehmaaGreatMg5
namespace Go.Proofs.YtofglgfjlbehmaaGreat.mem
open Go.ChangeShapes Go.WideShapes Go.ChangeAt Go.RowKit

theorem mul_bd {s : Int} {d : Nat} (h0 : 0 ≤ s) (h1 : s < 2147483647) (hd : d ≤ 1000) : 0 ≤ s * (d : Int) ∧ s * (d : Int) ≤ 2147483647000 := by
  have a : 0 ≤ s * (d : Int) := Int.mul_nonneg h0 (by omega)
  have b : s * (d : Int) ≤ 2147483647 * (d : Int) := Int.mul_le_mul_of_nonneg_right (by omega) (by omega)
  exact ⟨a, by omega⟩
theorem spec.l03Next_any (s : Int) (w : World) (h0 : 0 ≤ s) (h1 : s < 2147483647) : Calls Tryz.prog 108 #[.int .i64 s] w fun e w' => e = .returned (.int .i64 (nxtS s)) ∧ w = w' := by
  have hm : IntKind.i64.wrap (s * 48271) = s * 48271 := Go.IntWalk.i64_in _ (by omega)
  go_enter Tryz.func108, Tryz.ntmps108
  go_wp2
  go_ret
  exact ⟨rfl, rfl⟩
theorem impl.next_any (s : Int) (w : World) (h0 : 0 ≤ s) (h1 : s < 2147483647) : Calls Tryz.prog 118 #[.int .i64 s] w fun e w' => e = .returned (.int .i64 (nxtS s)) ∧ w = w' := by
  have hm : IntKind.i64.wrap (48271 * s) = 48271 * s := Go.IntWalk.i64_in _ (by omega)
  go_enter Tryz.func118, Tryz.ntmps118
  go_wp2
  go_ret
  exact ⟨by unfold nxtS; rw [Int.mul_comm]; rfl, rfl⟩
theorem impl.below_any (s : Int) (d : Nat) (w : World) (h0 : 0 ≤ s) (h1 : s < 2147483647) (hd : d ≤ 1000) (hd0 : 0 < d) : Calls Tryz.prog 99 #[.int .i64 s, .int .i64 (d : Int)] w fun e w' => e = .returned (.tuple #[.int .i64 (offS (nxtS s) d), .int .i64 (nxtS s)]) ∧ w = w' := by
  obtain ⟨n0, n1⟩ := nxt_bd s
  obtain ⟨b0, b1⟩ := mul_bd n0 n1 hd
  have hm : IntKind.i64.wrap (nxtS s * (d : Int)) = nxtS s * (d : Int) := Go.IntWalk.i64_in _ (by omega)
  have hq := hide (off_bd n0 n1 hd0).2
  have hk := fun W : World => impl.next_any s W h0 h1
  go_enter Tryz.func99, Tryz.ntmps99
  go_wp2_with (go_at_call 118; refine (hk _).mono ?_; rintro e w' ⟨rfl, rfl⟩)
  go_ret2
  exact ⟨by rw [← hq.out]; rfl, rfl⟩
set_option maxRecDepth 20000 in
set_option maxHeartbeats 2500000 in
theorem spec.l03Shuffle_any (s : Int) (n : Nat) (w : World) (h0 : 0 ≤ s) (h1 : s < 2147483647) (hn : n ≤ 1000) :
    Calls Tryz.prog 77 #[.int .i64 s, .int .i64 (n : Int)] w fun e w' => ∃ t : Sl, e = .returned (.slice t.A t.n t.c) ∧ Own w' w.heap.size (.slice t.A t.n t.c) (shI n s (n - 1)).1 ∧ Ext w w' := by
  go_enter Tryz.func77, Tryz.ntmps77
  go_wp2_with fail
  go_loopw [5, 6] (fun v i wr => ∃ (k : Nat) (t : Sl), k ≤ n ∧ i = .int .i64 k ∧ v = .slice t.A t.n t.c ∧ Own wr w.heap.size (.slice t.A t.n t.c) ((List.range k).map (fun (i : Nat) => (i : Int))) ∧ Ext w wr) (fun _ i _ => n - (intOf i).toNat)
  case atStart => exact ⟨0, ⟨_, _, _⟩, by omega, rfl, rfl, Own.new0 w _ (Nat.le_refl _), (Ext.refl w).alloc _⟩
  case round =>
    obtain ⟨k, t, hk, rfl, rfl, ho, hX⟩ := hrel
    have hsz := hX.size
    by_cases hlt : k < n
    · have hkn : (k : Int) < (n : Int) := by omega
      have hwr : IntKind.i64.wrap ((k : Int) + 1) = (k : Int) + 1 := Go.IntWalk.i64_in _ (by omega)
      go_wp2_with (at_builtin; refine wpList_app _ rfl (.tmp 16) (.tmp 18) rfl w.heap.size _ _ rfl (ho.alloc _) _ _ _ [(k : Int)] rfl (Rd.one wr k) (by simp; omega) (by simp; omega) ?_; intro t1 w1 ho1 hg1 hb1)
      go_roundw
      case rel => exact ⟨k + 1, t1, by omega, by go_num, rfl, by rw [range_more]; exact ho1, (hX.alloc _).grow hg1 (fun g hg => (ho.lt g hg).1)⟩
      case measure => simp [intOf]; omega
    · have hkn : ¬ ((k : Int) < (n : Int)) := by omega
      obtain rfl : k = n := by omega
      have hst := hide (show Own wr w.heap.size (.slice t.A t.n t.c) (shI k s 0).1 from ho)
      have hX0 := hX
      clear ho hX
      go_wp2_with fail
      go_loopw [0, 7, 8, 9] (fun st i _ _ wr => ∃ j : Nat, j ≤ k - 1 ∧ i = .int .i64 j ∧ st = .int .i64 (shI k s j).2 ∧ Own wr w.heap.size (.slice t.A t.n t.c) (shI k s j).1 ∧ Ext w wr) (fun _ i _ _ _ => k - (intOf i).toNat)
      case atStart => exact ⟨0, by omega, rfl, rfl, hst.out, hX0⟩
      case round =>
        clear hst hX0 hkn hlt hk
        obtain ⟨j, hj, rfl, rfl, ho, hX⟩ := hrel
        have hlen := hide (show t.n = k by have h : t.n = (shI k s j).1.length := ho.rd.1; rw [shI_len] at h; exact h)
        have hwj : IntKind.i64.wrap ((j : Int) + 1) = (j : Int) + 1 := Go.IntWalk.i64_in _ (by omega)
        by_cases hlt : j + 1 < k
        · have hjk : (j : Int) + 1 < (k : Int) := by omega
          obtain ⟨s0, s1⟩ := shI_bd (n := k) h0 h1 j
          obtain ⟨sv, hsv⟩ : ∃ sv, Hid (sv = shI k s j) := ⟨_, rfl⟩
          have hstep := hide (show shI k s (j + 1) = (swp sv.1 j (j + offS (nxtS sv.2) (k - j)), nxtS sv.2) by rw [hsv.out]; rfl)
          rw [← hsv.out] at s0 s1 ho ⊢
          clear hsv
          obtain ⟨n0, n1⟩ := nxt_bd sv.2
          obtain ⟨b0, b1⟩ := mul_bd n0 n1 (show k - j ≤ 1000 by omega)
          obtain ⟨c0, c1⟩ := off_bd n0 n1 (show 0 < k - j by omega)
          have hk := fun W : World => spec.l03Next_any sv.2 W s0 s1
          obtain ⟨d, hd⟩ : ∃ d : Nat, Hid (d = k - j) := ⟨_, rfl⟩
          have hdc : (k : Int) - (j : Int) = (d : Int) := by rw [hd.out]; omega
          have hwd : IntKind.i64.wrap (d : Int) = (d : Int) := Go.IntWalk.i64_in _ (by omega)
          rw [← hd.out] at b0 b1 c0 c1 hstep
          obtain ⟨x, hx⟩ : ∃ x, Hid (x = nxtS sv.2) := ⟨_, rfl⟩
          rw [← hx.out] at n0 n1 b0 b1 c0 c1 hstep
          simp only [← hx.out] at hk
          clear s0 s1
          have hm : IntKind.i64.wrap (x * (d : Int)) = x * (d : Int) := Go.IntWalk.i64_in _ (by omega)
          obtain ⟨f, hf⟩ : ∃ f : Nat, Hid (f = offS x d) := ⟨_, rfl⟩
          rw [← hf.out] at c0 c1 hstep
          have hwf : IntKind.i64.wrap ((j : Int) + (f : Int)) = ((j + f : Nat) : Int) := by rw [Go.IntWalk.i64_in _ (by omega)]; simp
          have hjf : j + f < k := by have := hd.out; omega
          obtain ⟨kf, hkf⟩ : ∃ kf : Nat, Hid (kf = j + f) := ⟨_, rfl⟩
          rw [← hkf.out] at hwf hjf hstep
          clear hd hf
          have htn := hlen.out
          obtain ⟨At, nt, ct⟩ := t
          simp only at htn ho
          subst htn
          obtain ⟨g, rfl, hg, hgs, ⟨u, hu⟩, hfz, hput⟩ := ho.put (show j < nt by omega)
          obtain ⟨b1_, o1_, y, e1, hb1, hcy, hy⟩ := ho.rd.el (show j < nt by omega)
          obtain ⟨b2_, o2_, z, e2, hb2, hcz, hz⟩ := ho.rd.el hjf
          injection e1 with e1
          injection e1 with e1 e1'
          subst e1 e1'
          injection e2 with e2
          injection e2 with e2 e2'
          subst e2 e2'
          rw [Nat.zero_add] at hcy hcz
          clear hu u
          have o1 := hput z
          obtain ⟨g', eg, _, _, ⟨u2, hu2⟩, hfz2, hput2⟩ := o1.put hjf
          injection eg with eg
          injection eg with eg
          subst eg
          have o2 := hput2 y
          have hsw := hide (show ((sv.1.set j z).set kf y) = swp sv.1 j kf by
            unfold swp
            rw [List.getD_eq_getElem?_getD, List.getD_eq_getElem?_getD, hz.out, hy.out]; rfl)
          have i0 : (0 : Int) ≤ (j : Int) := by omega
          have i1 : (j : Int) < (nt : Int) := by omega
          have i2 : (0 : Int) ≤ (kf : Int) := by omega
          have i3 : (kf : Int) < (nt : Int) := by omega
          rw [hsw.out] at o2
          go_wp2_with (go_at_call 108; refine (hk _).mono ?_; rintro e w' ⟨rfl, rfl⟩)
          go_roundw
          case rel => exact ⟨j + 1, by omega, by go_num, by rw [hstep.out], by rw [hstep.out]; exact o2, (hX.off g j (by omega) _).off g kf (by omega) _⟩
          case measure => simp [intOf]; omega
        · have hjk : ¬ ((j : Int) + 1 < (k : Int)) := by omega
          have hjn := hide (show j = k - 1 by omega)
          go_wp2_with fail
          go_ret
          exact ⟨t, rfl, by rw [← hjn.out]; exact ho, hX⟩
set_option maxRecDepth 20000 in
set_option maxHeartbeats 2500000 in
theorem impl.shuffled_any (s : Int) (n : Nat) (w : World) (h0 : 0 ≤ s) (h1 : s < 2147483647) (hn : n ≤ 1000) :
    Calls Tryz.prog 69 #[.int .i64 s, .int .i64 (n : Int)] w fun e w' => ∃ t : Sl, e = .returned (.tuple #[.slice t.A t.n t.c, .int .i64 (shI n s (n - 1)).2]) ∧ Own w' w.heap.size (.slice t.A t.n t.c) (shI n s (n - 1)).1 ∧ Ext w w' := by
  go_enter Tryz.func69, Tryz.ntmps69
  go_wp2_with fail
  go_loopw [6, 7, 13] (fun v _ i wr => ∃ (k : Nat) (t : Sl), k ≤ n ∧ i = .int .i64 k ∧ v = .slice t.A t.n t.c ∧ Own wr w.heap.size (.slice t.A t.n t.c) ((List.range k).map (fun (i : Nat) => (i : Int))) ∧ Ext w wr) (fun _ _ i _ => n - (intOf i).toNat)
  case atStart => exact ⟨0, ⟨_, _, _⟩, by omega, rfl, rfl, Own.new0 w _ (Nat.le_refl _), (Ext.refl w).alloc _⟩
  case round =>
    obtain ⟨k, t, hk, rfl, rfl, ho, hX⟩ := hrel
    have hsz := hX.size
    by_cases hlt : k < n
    · have hkn : (k : Int) < (n : Int) := by omega
      have hwr : IntKind.i64.wrap ((k : Int) + 1) = (k : Int) + 1 := Go.IntWalk.i64_in _ (by omega)
      go_wp2_with (at_builtin; refine wpList_app _ rfl (.tmp 16) (.tmp 18) rfl w.heap.size _ _ rfl (ho.alloc _) _ _ _ [(k : Int)] rfl (Rd.one wr k) (by simp; omega) (by simp; omega) ?_; intro t1 w1 ho1 hg1 hb1)
      go_roundw
      case rel => exact ⟨k + 1, t1, by omega, by go_num, rfl, by rw [range_more]; exact ho1, (hX.alloc _).grow hg1 (fun g hg => (ho.lt g hg).1)⟩
      case measure => simp [intOf]; omega
    · have hkn : ¬ ((k : Int) < (n : Int)) := by omega
      obtain rfl : k = n := by omega
      have hst := hide (show Own wr w.heap.size (.slice t.A t.n t.c) (shI k s 0).1 from ho)
      have hX0 := hX
      clear ho hX
      go_wp2_with fail
      go_loopw [0, 8, 9, 10] (fun st i _ _ wr => ∃ j : Nat, j ≤ k - 1 ∧ i = .int .i64 j ∧ st = .int .i64 (shI k s j).2 ∧ Own wr w.heap.size (.slice t.A t.n t.c) (shI k s j).1 ∧ Ext w wr) (fun _ i _ _ _ => k - (intOf i).toNat)
      case atStart => exact ⟨0, by omega, rfl, rfl, hst.out, hX0⟩
      case round =>
        clear hst hX0 hkn hlt hk
        obtain ⟨j, hj, rfl, rfl, ho, hX⟩ := hrel
        have hlen := hide (show t.n = k by have h : t.n = (shI k s j).1.length := ho.rd.1; rw [shI_len] at h; exact h)
        have hwj : IntKind.i64.wrap ((j : Int) + 1) = (j : Int) + 1 := Go.IntWalk.i64_in _ (by omega)
        by_cases hlt : j + 1 < k
        · have hjk : (j : Int) + 1 < (k : Int) := by omega
          obtain ⟨s0, s1⟩ := shI_bd (n := k) h0 h1 j
          obtain ⟨sv, hsv⟩ : ∃ sv, Hid (sv = shI k s j) := ⟨_, rfl⟩
          have hstep := hide (show shI k s (j + 1) = (swp sv.1 j (j + offS (nxtS sv.2) (k - j)), nxtS sv.2) by rw [hsv.out]; rfl)
          rw [← hsv.out] at s0 s1 ho ⊢
          clear hsv
          obtain ⟨n0, n1⟩ := nxt_bd sv.2
          obtain ⟨c0, c1⟩ := off_bd n0 n1 (show 0 < k - j by omega)
          have hbel := fun W : World => impl.below_any sv.2 (k - j) W s0 s1 (by omega) (by omega)
          obtain ⟨d, hd⟩ : ∃ d : Nat, Hid (d = k - j) := ⟨_, rfl⟩
          have hdc : IntKind.i64.wrap ((k : Int) - (j : Int)) = (d : Int) := by rw [Go.IntWalk.i64_in _ (by omega), hd.out]; omega
          simp only [← hd.out] at hbel
          rw [← hd.out] at c0 c1 hstep
          obtain ⟨x, hx⟩ : ∃ x, Hid (x = nxtS sv.2) := ⟨_, rfl⟩
          rw [← hx.out] at c0 c1 hstep
          simp only [← hx.out] at hbel
          clear s0 s1 n0 n1 c1
          obtain ⟨f, hf⟩ : ∃ f : Nat, Hid (f = offS x d) := ⟨_, rfl⟩
          rw [← hf.out] at c0 hstep
          simp only [← hf.out] at hbel
          have hwf : IntKind.i64.wrap ((j : Int) + (f : Int)) = ((j + f : Nat) : Int) := by rw [Go.IntWalk.i64_in _ (by have := hd.out; omega)]; simp
          have hjf : j + f < k := by have := hd.out; omega
          obtain ⟨kf, hkf⟩ : ∃ kf : Nat, Hid (kf = j + f) := ⟨_, rfl⟩
          rw [← hkf.out] at hwf hjf hstep
          clear hd hf c0
          have htn := hlen.out
          obtain ⟨At, nt, ct⟩ := t
          simp only at htn ho
          subst htn
          obtain ⟨g, rfl, hg, hgs, ⟨u, hu⟩, hfz, hput⟩ := ho.put (show j < nt by omega)
          obtain ⟨b1_, o1_, y, e1, hb1, hcy, hy⟩ := ho.rd.el (show j < nt by omega)
          obtain ⟨b2_, o2_, z, e2, hb2, hcz, hz⟩ := ho.rd.el hjf
          injection e1 with e1
          injection e1 with e1 e1'
          subst e1 e1'
          injection e2 with e2
          injection e2 with e2 e2'
          subst e2 e2'
          rw [Nat.zero_add] at hcy hcz
          clear hu u
          have i0 : (0 : Int) ≤ (j : Int) := by omega
          have i1 : (j : Int) < (nt : Int) := by omega
          have i2 : (0 : Int) ≤ (kf : Int) := by omega
          have i3 : (kf : Int) < (nt : Int) := by omega
          have hcy' : wr.drew.cell? ⟨g, j, none⟩ = some (.int .i64 y) := hcy
          have hcz' : wr.drew.cell? ⟨g, kf, none⟩ = some (.int .i64 z) := hcz
          have hfz' : wr.drew.frozen? ⟨g, j, none⟩ = false := hfz
          obtain ⟨g'', eg', _, _, _, hfzk, _⟩ := ho.put hjf
          injection eg' with eg'
          injection eg' with eg'
          subst eg'
          have o1 := hput z
          obtain ⟨g', eg, _, _, ⟨u2, hu2⟩, hfz2, hput2⟩ := o1.put hjf
          injection eg with eg
          injection eg with eg
          subst eg
          have o2 := hput2 y
          have hsw := hide (show ((sv.1.set j z).set kf y) = swp sv.1 j kf by
            unfold swp
            rw [List.getD_eq_getElem?_getD, List.getD_eq_getElem?_getD, hz.out, hy.out]; rfl)
          rw [hsw.out] at o2
          have hXd := ((hX.off g j (by omega) (.int .i64 z)).off g kf (by omega) (.int .i64 y)).drew
          clear hput hput2 o1 ho
          go_upto_region 35 with (go_at_call 99; refine (hbel _).mono ?_; rintro e w' ⟨rfl, rfl⟩)
          go_region
          all_goals
            go_wp2_with fail
            go_roundw
            case rel => exact ⟨j + 1, by omega, by go_num, by rw [hstep.out], by rw [hstep.out]; exact o2, hXd⟩
            case measure => simp [intOf]; omega
        · have hjk : ¬ ((j : Int) + 1 < (k : Int)) := by omega
          have hjn := hide (show j = k - 1 by omega)
          go_wp2_with fail
          go_ret2
          exact ⟨t, by rw [← hjn.out]; rfl, by rw [← hjn.out]; exact ho, hX⟩
end Go.Proofs.YtofglgfjlbehmaaGreat.mem
