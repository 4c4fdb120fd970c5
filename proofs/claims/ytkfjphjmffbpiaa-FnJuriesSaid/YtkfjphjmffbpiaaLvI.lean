/-
  The contract of the program's leave.
-/
import Derived.Test.YtkfjphjmffbpiaaLv
namespace Go.Proofs.Ytkfjphjmffbpiaa.mem
open Go.ChangeShapes Go.WideShapes Go.ChangeAt Go.RowKit

def lvW (l : L3) (x : Int) : L3 := if lvC l x = 0 then lvV l x else nilL3
theorem lvW_no {l : L3} {x c : Int} (h : lvC l x = c) (hc : c ≠ 0) : lvW l x = nilL3 := by
  unfold lvW
  rw [h, if_neg hc]
theorem lvW_yes {l : L3} {x : Int} (h : lvC l x = 0) : lvW l x = lvV l x := by
  unfold lvW
  rw [if_pos h]
theorem kp_idx {xs : List Int} {x : Int} (h : xs.Nodup) : kp [x] xs = xs.take (xs.idxOf x) ++ xs.drop (xs.idxOf x + 1) := by
  rw [← List.eraseIdx_eq_take_drop_succ, ← List.erase_eq_eraseIdx_of_idxOf rfl, h.erase_eq_filter]
  unfold kp hasB
  congr 1
  funext y
  by_cases e : y = x
  · subst e; simp
  · simp [e]
theorem okJ_y {l : L3} (h : okJ l = true) : l.y.Nodup := by
  unfold okJ at h
  simp only [Bool.and_eq_true, decide_eq_true_eq, distB] at h
  have h1 := h.2.2.2.1.2
  unfold allP at h1
  exact (List.nodup_append.1 (List.nodup_append.1 h1).2.1).1
set_option maxRecDepth 20000 in
set_option maxHeartbeats 8000000 in
theorem impl.leave_any (p : S3) (l : L3) (x : Int) (w : World) (hr : Rd3 w p l) (hok : okJ l = true) :
    Calls Try.prog 81 #[.agg #[.slice p.x.A p.x.n p.x.c, .slice p.y.A p.y.n p.y.c, .slice p.z.A p.z.n p.z.c], .int .i64 x] w fun e w' => ∃ t : S3, e = .returned (.tuple #[.agg #[.slice t.x.A t.x.n t.x.c, .slice t.y.A t.y.n t.y.c, .slice t.z.A t.z.n t.z.c], .int .i64 (lvC l x)]) ∧ Own3 w' w.heap.size t (lvW l x) ∧ Ext w w' := by
  have hr0 := hr
  obtain ⟨⟨A1, n1, c1⟩, ⟨A2, n2, c2⟩, ⟨A3, n3, c3⟩⟩ := p
  have hX0 := ((Ext.refl w).alloc (.cells #[.slice A1 n1 c1, .slice A2 n2 c2, .slice A3 n3 c3] 26)).alloc (.cells #[.slice none 0 0, .slice none 0 0, .slice none 0 0] 26)
  have hB0 := (Blk.new w 26 (#[.slice A1 n1 c1, .slice A2 n2 c2, .slice A3 n3 c3])).alloc (.cells #[.slice none 0 0, .slice none 0 0, .slice none 0 0] 26)
  have hR0 := Blk.new (w.alloc (.cells #[.slice A1 n1 c1, .slice A2 n2 c2, .slice A3 n3 c3] 26)) 26 (#[.slice none 0 0, .slice none 0 0, .slice none 0 0])
  rw [World.size_alloc] at hR0
  obtain ⟨w1, hw1⟩ : ∃ w1 : World, w1 = (w.alloc (.cells #[.slice A1 n1 c1, .slice A2 n2 c2, .slice A3 n3 c3] 26)).alloc (.cells #[.slice none 0 0, .slice none 0 0, .slice none 0 0] 26) := ⟨_, rfl⟩
  have hz1 : w.heap.size + 1 + 1 = w1.heap.size := by rw [hw1]; simp
  rw [← hw1] at hX0 hB0 hR0
  obtain ⟨rx, ry, rz, hs, cx, cy, cz⟩ := hr
  simp only at rx ry rz hs
  have hlx := hide rx.1
  have hly := hide ry.1
  have hlz := hide rz.1
  have hsm := hide (okJ_small hok)
  have hly2 := hide (kp_le [x] l.y)
  have hbd3 := hide (show l.z.length + 1 ≤ 16777216 by have := hsm.out; omega)
  have hf1 := fun W h => impl.placeOf_any ⟨A1, n1, c1⟩ l.x x W h
  have hf2 := fun W h => impl.has_any ⟨A2, n2, c2⟩ l.y x W h
  by_cases hmx : x ∈ l.x
  · obtain ⟨k, hk⟩ : ∃ k, k = l.x.idxOf x := ⟨_, rfl⟩
    have hpl : plc l.x x = (k : Int) := by unfold plc; rw [if_pos hmx, hk]
    have hkl : k < l.x.length := by rw [hk]; exact List.idxOf_lt_length_of_mem hmx
    have hkn : k < n1 := by have := hlx.out; omega
    have hk0 : ¬ ((k : Int) < 0) := by omega
    have hk1 : (0 : Int) ≤ (k : Int) := by omega
    rw [hpl] at hf1
    clear hpl
    by_cases h60 : l.z.length = 60
    · have E2 := hide (show lvC l x = 3 by unfold lvC; rw [if_pos (.inl hmx), if_pos h60])
      have h60b : ((n3 : Int) == 60) = true := by have : (n3 : Int) = 60 := by have := hlz.out; omega
                                                  simpa using this
      clear h60
      have E1 := hide (lvW_no E2.out (by decide))
      obtain ⟨q0, q1, q2⟩ := hB0.c3
      have hRn := hR0
      obtain ⟨r0, r1, r2, r3, r4, r5⟩ := res3 hR0
      subst hw1
      go_enter Try.func81, Try.ntmps81
      go_wp2_with (first | (go_at_call 117; refine (hf1 _ (rx.ext hX0)).mono ?_; rintro e w' ⟨rfl, rfl⟩) | (go_at_call 75; refine (hf2 _ (ry.ext hX0)).mono ?_; rintro e w' ⟨rfl, rfl⟩))
      obtain ⟨n0, n1', n2'⟩ := hRn.c3
      refine bodyPost_ret (v := .tuple #[.agg #[.slice (⟨⟨none, 0, 0⟩, ⟨none, 0, 0⟩, ⟨none, 0, 0⟩⟩ : S3).x.A (⟨⟨none, 0, 0⟩, ⟨none, 0, 0⟩, ⟨none, 0, 0⟩⟩ : S3).x.n (⟨⟨none, 0, 0⟩, ⟨none, 0, 0⟩, ⟨none, 0, 0⟩⟩ : S3).x.c, .slice (⟨⟨none, 0, 0⟩, ⟨none, 0, 0⟩, ⟨none, 0, 0⟩⟩ : S3).y.A (⟨⟨none, 0, 0⟩, ⟨none, 0, 0⟩, ⟨none, 0, 0⟩⟩ : S3).y.n (⟨⟨none, 0, 0⟩, ⟨none, 0, 0⟩, ⟨none, 0, 0⟩⟩ : S3).y.c, .slice (⟨⟨none, 0, 0⟩, ⟨none, 0, 0⟩, ⟨none, 0, 0⟩⟩ : S3).z.A (⟨⟨none, 0, 0⟩, ⟨none, 0, 0⟩, ⟨none, 0, 0⟩⟩ : S3).z.n (⟨⟨none, 0, 0⟩, ⟨none, 0, 0⟩, ⟨none, 0, 0⟩⟩ : S3).z.c], .int .i64 3]) (by simp [results, Try.results81, go_sem, n0, n1', n2']) rfl ⟨(⟨⟨none, 0, 0⟩, ⟨none, 0, 0⟩, ⟨none, 0, 0⟩⟩ : S3), by rw [E2.out], by rw [E1.out]; exact Own3.nil3_ _ _, hX0⟩
    · have E2 := hide (show lvC l x = 0 by unfold lvC; rw [if_pos (.inl hmx), if_neg h60])
      have E1 := hide (show lvW l x = ⟨l.x.set k (l.y.headD 0), l.y.tail, l.z ++ [x]⟩ by rw [lvW_yes E2.out]; unfold lvV; rw [if_pos hmx, ← hk])
      have h60b : ((n3 : Int) == 60) = false := by have : ¬ (n3 : Int) = 60 := by have := hlz.out; omega
                                                   simpa using this
      clear hk h60 hmx
      obtain ⟨q0, q1, q2⟩ := hB0.c3
      subst hw1
      go_enter Try.func81, Try.ntmps81
      go_upto_region 29 with (first | (go_at_call 117; refine (hf1 _ (rx.ext hX0)).mono ?_; rintro e w' ⟨rfl, rfl⟩) | (go_at_call 75; refine (hf2 _ (ry.ext hX0)).mono ?_; rintro e w' ⟨rfl, rfl⟩))
      clear q0 q1 q2
      have hX := hX0.drew
      have hB := hB0.drew
      have hR := hR0.drew
      clear hX0 hB0 hR0 hz1
      go_cut [7] (fun s7 wx => LvPost w #[.slice A1 n1 c1, .slice A2 n2 c2, .slice A3 n3 c3] ⟨l.x, kp [x] l.y, l.z ++ [x]⟩ s7 wx)
      case first =>
        refine wp_region_sink (S := fun w' => w'.cell? ⟨w.heap.size, 0, none⟩ = some (.slice A1 n1 c1) ∧ w'.cell? ⟨w.heap.size, 1, none⟩ = some (.slice A2 n2 c2) ∧ w'.cell? ⟨w.heap.size, 2, none⟩ = some (.slice A3 n3 c3)) 16 (by kernel_rfl) ?_
        change wpAnyT _ _ _ _ _ _ _ _ _ (World.drew _)
        generalize hwd : World.drew _ = we at hX hB hR ⊢
        clear hwd
        have kk := hB.c3
        refine wpAnyT_takeL (i := 0) 7 (v := ?_) rfl (by kernel_rfl) (by kernel_rfl) (by kernel_rfl) (by kernel_rfl) (by kernel_rfl) (fun _ _ _ h => h) (Or.inl ⟨by rfl, ?_⟩) kk ?_
        rotate_left 1
        · (intro W hSw; (try dsimp only at hSw); go_simp) <;> with_reducible rfl
        clear kk
        try simp only [Act.put, List.setIfInBounds_toArray, List.set_cons_zero, List.set_cons_succ]
        have kk := hB.c3
        refine wpAnyT_takeL (i := 1) 7 (v := ?_) rfl (by kernel_rfl) (by kernel_rfl) (by kernel_rfl) (by kernel_rfl) (by kernel_rfl) (fun _ _ _ h => h) (Or.inl ⟨by rfl, ?_⟩) kk ?_
        rotate_left 1
        · (intro W hSw; (try dsimp only at hSw); go_simp) <;> with_reducible rfl
        clear kk
        try simp only [Act.put, List.setIfInBounds_toArray, List.set_cons_zero, List.set_cons_succ]
        have kk := hB.c3
        refine wpAnyT_takeL (i := 3) 7 (v := ?_) rfl (by kernel_rfl) (by kernel_rfl) (by kernel_rfl) (by kernel_rfl) (by kernel_rfl) (fun _ _ _ h => h) (Or.inl ⟨by rfl, ?_⟩) kk ?_
        rotate_left 1
        · (intro W hSw; (try dsimp only at hSw); go_simp) <;> with_reducible rfl
        clear kk
        try simp only [Act.put, List.setIfInBounds_toArray, List.set_cons_zero, List.set_cons_succ]
        have kk := hB.c3
        refine wpAnyT_takeL (i := 4) 7 (v := ?_) rfl (by kernel_rfl) (by kernel_rfl) (by kernel_rfl) (by kernel_rfl) (by kernel_rfl) (fun _ _ _ h => h) (Or.inl ⟨by rfl, ?_⟩) kk ?_
        rotate_left 1
        · (intro W hSw; (try dsimp only at hSw); go_simp) <;> with_reducible rfl
        clear kk
        try simp only [Act.put, List.setIfInBounds_toArray, List.set_cons_zero, List.set_cons_succ]
        have kk := hB.c3
        refine wpAnyT_takeL (i := 5) 7 (v := ?_) rfl (by kernel_rfl) (by kernel_rfl) (by kernel_rfl) (by kernel_rfl) (by kernel_rfl) (fun _ _ _ h => h) (Or.inl ⟨by rfl, ?_⟩) kk ?_
        rotate_left 1
        · (intro W hSw; (try dsimp only at hSw); go_simp) <;> with_reducible rfl
        clear kk
        try simp only [Act.put, List.setIfInBounds_toArray, List.set_cons_zero, List.set_cons_succ]
        have kk := hB.c3
        refine wpAnyT_takeL (i := 8) 7 (v := ?_) rfl (by kernel_rfl) (by kernel_rfl) (by kernel_rfl) (by kernel_rfl) (by kernel_rfl) (fun _ _ _ h => h) (Or.inl ⟨by rfl, ?_⟩) kk ?_
        rotate_left 1
        · (intro W hSw; (try dsimp only at hSw); go_simp) <;> with_reducible rfl
        clear kk
        try simp only [Act.put, List.setIfInBounds_toArray, List.set_cons_zero, List.set_cons_succ]
        have kk := hB.c3
        refine wpAnyT_takeL (i := 9) 7 (v := ?_) rfl (by kernel_rfl) (by kernel_rfl) (by kernel_rfl) (by kernel_rfl) (by kernel_rfl) (fun _ _ _ h => h) (Or.inl ⟨by rfl, ?_⟩) kk ?_
        rotate_left 1
        · (intro W hSw; (try dsimp only at hSw); go_simp) <;> with_reducible rfl
        clear kk
        try simp only [Act.put, List.setIfInBounds_toArray, List.set_cons_zero, List.set_cons_succ]
        have kk := hB.c3
        refine wpAnyT_takeL (i := 11) 7 (v := ?_) rfl (by kernel_rfl) (by kernel_rfl) (by kernel_rfl) (by kernel_rfl) (by kernel_rfl) (fun _ _ _ h => h) (Or.inl ⟨by rfl, ?_⟩) kk ?_
        rotate_left 1
        · (intro W hSw; (try dsimp only at hSw); go_simp) <;> with_reducible rfl
        clear kk
        try simp only [Act.put, List.setIfInBounds_toArray, List.set_cons_zero, List.set_cons_succ]
        refine wpAnyT_go4 (i := 2) (j := 6) (k := 12) (m := 15) rfl rfl rfl rfl (by kernel_rfl) (fun K hK => ?_) (fun K hK => ?_) (fun K hK => ?_) (fun K hK => ?_)
        go_simp
        go_at_call 88
        refine (impl.clone_any ⟨A1, n1, c1⟩ l.x _ (rx.ext hX)).mono ?_
        rintro e w_9n ⟨tx, rfl, ox, hx⟩
        go_simp
        have z0 := hR.lt
        replace ox := Own.mono (lo' := (w.heap.size + 1 + 1)) ox (by omega)
        replace hB := hB.ext hx
        replace hR := hR.ext hx
        replace hX := hX.trans hx
        refine hK _ _ ⟨fun _ => hB.c3, ?_⟩
        clear hK K hx z0
        revert ox; revert hR; revert hB; revert hX; revert tx; revert w_9n
        refine ?na_1
        rotate_left 1
        go_simp
        have hx := (Ext.refl we).alloc (.cells #[.int .i64 x] 2)
        have BE := Blk.new we 2 (#[.int .i64 x])
        obtain ⟨bE, hb⟩ : ∃ b, b = we.heap.size := ⟨_, rfl⟩
        generalize hw : World.alloc we (.cells #[.int .i64 x] 2) = w_9n at hx BE ⊢
        rw [← hb] at BE ⊢
        have lE : (w.heap.size + 1 + 1) ≤ bE := by have := hR.lt; omega
        replace hB := hB.ext hx
        replace hR := hR.ext hx
        replace hX := hX.trans hx
        refine hK _ _ ⟨fun _ => hB.c3, ?_⟩
        clear hK K hx hb hw
        revert lE; revert BE; revert hR; revert hB; revert hX; revert bE; revert w_9n
        refine ?na_2
        rotate_left 1
        go_simp
        have hx := (Ext.refl we).alloc (.cells #[.int .i64 x] 2)
        have BF := Blk.new we 2 (#[.int .i64 x])
        obtain ⟨bF, hb⟩ : ∃ b, b = we.heap.size := ⟨_, rfl⟩
        generalize hw : World.alloc we (.cells #[.int .i64 x] 2) = w_9n at hx BF ⊢
        rw [← hb] at BF ⊢
        have lF : (w.heap.size + 1 + 1) ≤ bF := by have := hR.lt; omega
        replace hB := hB.ext hx
        replace hR := hR.ext hx
        replace hX := hX.trans hx
        refine hK _ _ ⟨fun _ => hB.c3, ?_⟩
        clear hK K hx hb hw
        revert lF; revert BF; revert hR; revert hB; revert hX; revert bF; revert w_9n
        refine ?na_3
        rotate_left 1
        go_simp
        have hx := (Ext.refl we).alloc (.cells #[.slice none 0 0, .slice none 0 0, .slice none 0 0] 26)
        have BP := Blk.new we 26 (#[.slice none 0 0, .slice none 0 0, .slice none 0 0])
        obtain ⟨bP, hb⟩ : ∃ b, b = we.heap.size := ⟨_, rfl⟩
        generalize hw : World.alloc we (.cells #[.slice none 0 0, .slice none 0 0, .slice none 0 0] 26) = w_9n at hx BP ⊢
        rw [← hb] at BP ⊢
        have lP : (w.heap.size + 1 + 1) ≤ bP := by have := hR.lt; omega
        replace hB := hB.ext hx
        replace hR := hR.ext hx
        replace hX := hX.trans hx
        refine hK _ _ ⟨fun _ => hB.c3, ?_⟩
        clear hK K hx hb hw
        revert lP; revert BP; revert hR; revert hB; revert hX; revert bP; revert w_9n
        refine ?na_4
        rotate_left 1
        -- na_1
        intro w_9 tx hX hB hR ox
        refine wpAnyT_go3 (i := 6) (j := 12) (k := 15) rfl rfl rfl (by kernel_rfl) (fun K hK => ?_) (fun K hK => ?_) (fun K hK => ?_)
        go_simp
        have hx := (Ext.refl w_9).alloc (.cells #[.int .i64 x] 2)
        have BE := Blk.new w_9 2 (#[.int .i64 x])
        obtain ⟨bE, hb⟩ : ∃ b, b = w_9.heap.size := ⟨_, rfl⟩
        generalize hw : World.alloc w_9 (.cells #[.int .i64 x] 2) = w_10n at hx BE ⊢
        rw [← hb] at BE ⊢
        have lE : (w.heap.size + 1 + 1) ≤ bE := by have := hR.lt; omega
        have p_x_E : ∀ k, Value.ownBlock (.slice tx.A tx.n tx.c) = some k → k ≠ bE := fun k h1 e => by have a1 := (ox.lt k h1).2; omega
        replace hB := hB.ext hx
        replace hR := hR.ext hx
        replace ox := ox.ext hx
        replace hX := hX.trans hx
        refine hK _ _ ⟨fun _ => hB.c3, ?_⟩
        clear hK K hx hb hw
        revert p_x_E; revert lE; revert BE; revert ox; revert hR; revert hB; revert hX; revert bE; revert tx; revert w_10n
        clear w_9
        refine ?na_5
        rotate_left 1
        go_simp
        have hx := (Ext.refl w_9).alloc (.cells #[.int .i64 x] 2)
        have BF := Blk.new w_9 2 (#[.int .i64 x])
        obtain ⟨bF, hb⟩ : ∃ b, b = w_9.heap.size := ⟨_, rfl⟩
        generalize hw : World.alloc w_9 (.cells #[.int .i64 x] 2) = w_10n at hx BF ⊢
        rw [← hb] at BF ⊢
        have lF : (w.heap.size + 1 + 1) ≤ bF := by have := hR.lt; omega
        have p_x_F : ∀ k, Value.ownBlock (.slice tx.A tx.n tx.c) = some k → k ≠ bF := fun k h1 e => by have a1 := (ox.lt k h1).2; omega
        replace hB := hB.ext hx
        replace hR := hR.ext hx
        replace ox := ox.ext hx
        replace hX := hX.trans hx
        refine hK _ _ ⟨fun _ => hB.c3, ?_⟩
        clear hK K hx hb hw
        revert p_x_F; revert lF; revert BF; revert ox; revert hR; revert hB; revert hX; revert bF; revert tx; revert w_10n
        clear w_9
        refine ?na_6
        rotate_left 1
        go_simp
        have hx := (Ext.refl w_9).alloc (.cells #[.slice none 0 0, .slice none 0 0, .slice none 0 0] 26)
        have BP := Blk.new w_9 26 (#[.slice none 0 0, .slice none 0 0, .slice none 0 0])
        obtain ⟨bP, hb⟩ : ∃ b, b = w_9.heap.size := ⟨_, rfl⟩
        generalize hw : World.alloc w_9 (.cells #[.slice none 0 0, .slice none 0 0, .slice none 0 0] 26) = w_10n at hx BP ⊢
        rw [← hb] at BP ⊢
        have lP : (w.heap.size + 1 + 1) ≤ bP := by have := hR.lt; omega
        have p_x_P : ∀ k, Value.ownBlock (.slice tx.A tx.n tx.c) = some k → k ≠ bP := fun k h1 e => by have a1 := (ox.lt k h1).2; omega
        replace hB := hB.ext hx
        replace hR := hR.ext hx
        replace ox := ox.ext hx
        replace hX := hX.trans hx
        refine hK _ _ ⟨fun _ => hB.c3, ?_⟩
        clear hK K hx hb hw
        revert p_x_P; revert lP; revert BP; revert ox; revert hR; revert hB; revert hX; revert bP; revert tx; revert w_10n
        clear w_9
        refine ?na_7
        rotate_left 1
        -- na_2
        intro w_9 bE hX hB hR BE lE
        refine wpAnyT_go3 (i := 2) (j := 12) (k := 15) rfl rfl rfl (by kernel_rfl) (fun K hK => ?_) (fun K hK => ?_) (fun K hK => ?_)
        go_simp
        go_at_call 88
        refine (impl.clone_any ⟨A1, n1, c1⟩ l.x _ (rx.ext hX)).mono ?_
        rintro e w_10n ⟨tx, rfl, ox, hx⟩
        go_simp
        have p_x_E : ∀ k, Value.ownBlock (.slice tx.A tx.n tx.c) = some k → k ≠ bE := fun k h1 e => by have a1 := (ox.lt k h1).1; have a2 := BE.lt; omega
        have z0 := hR.lt
        replace ox := Own.mono (lo' := (w.heap.size + 1 + 1)) ox (by omega)
        replace hB := hB.ext hx
        replace hR := hR.ext hx
        replace BE := BE.ext hx
        replace hX := hX.trans hx
        refine hK _ _ ⟨fun _ => hB.c3, ?_⟩
        clear hK K hx z0
        revert p_x_E; revert lE; revert BE; revert ox; revert hR; revert hB; revert hX; revert bE; revert tx; revert w_10n
        clear w_9
        exact ?na_5
        go_simp
        have hx := (Ext.refl w_9).alloc (.cells #[.int .i64 x] 2)
        have BF := Blk.new w_9 2 (#[.int .i64 x])
        obtain ⟨bF, hb⟩ : ∃ b, b = w_9.heap.size := ⟨_, rfl⟩
        generalize hw : World.alloc w_9 (.cells #[.int .i64 x] 2) = w_10n at hx BF ⊢
        rw [← hb] at BF ⊢
        have lF : (w.heap.size + 1 + 1) ≤ bF := by have := hR.lt; omega
        have p_E_F : bE ≠ bF := by have := BE.lt; omega
        replace hB := hB.ext hx
        replace hR := hR.ext hx
        replace BE := BE.ext hx
        replace hX := hX.trans hx
        refine hK _ _ ⟨fun _ => hB.c3, ?_⟩
        clear hK K hx hb hw
        revert p_E_F; revert lF; revert lE; revert BF; revert BE; revert hR; revert hB; revert hX; revert bF; revert bE; revert w_10n
        clear w_9
        refine ?na_8
        rotate_left 1
        go_simp
        have hx := (Ext.refl w_9).alloc (.cells #[.slice none 0 0, .slice none 0 0, .slice none 0 0] 26)
        have BP := Blk.new w_9 26 (#[.slice none 0 0, .slice none 0 0, .slice none 0 0])
        obtain ⟨bP, hb⟩ : ∃ b, b = w_9.heap.size := ⟨_, rfl⟩
        generalize hw : World.alloc w_9 (.cells #[.slice none 0 0, .slice none 0 0, .slice none 0 0] 26) = w_10n at hx BP ⊢
        rw [← hb] at BP ⊢
        have lP : (w.heap.size + 1 + 1) ≤ bP := by have := hR.lt; omega
        have p_E_P : bE ≠ bP := by have := BE.lt; omega
        replace hB := hB.ext hx
        replace hR := hR.ext hx
        replace BE := BE.ext hx
        replace hX := hX.trans hx
        refine hK _ _ ⟨fun _ => hB.c3, ?_⟩
        clear hK K hx hb hw
        revert p_E_P; revert lP; revert lE; revert BP; revert BE; revert hR; revert hB; revert hX; revert bP; revert bE; revert w_10n
        clear w_9
        refine ?na_9
        rotate_left 1
        -- na_3
        intro w_9 bF hX hB hR BF lF
        refine wpAnyT_go3 (i := 2) (j := 6) (k := 15) rfl rfl rfl (by kernel_rfl) (fun K hK => ?_) (fun K hK => ?_) (fun K hK => ?_)
        go_simp
        go_at_call 88
        refine (impl.clone_any ⟨A1, n1, c1⟩ l.x _ (rx.ext hX)).mono ?_
        rintro e w_10n ⟨tx, rfl, ox, hx⟩
        go_simp
        have p_x_F : ∀ k, Value.ownBlock (.slice tx.A tx.n tx.c) = some k → k ≠ bF := fun k h1 e => by have a1 := (ox.lt k h1).1; have a2 := BF.lt; omega
        have z0 := hR.lt
        replace ox := Own.mono (lo' := (w.heap.size + 1 + 1)) ox (by omega)
        replace hB := hB.ext hx
        replace hR := hR.ext hx
        replace BF := BF.ext hx
        replace hX := hX.trans hx
        refine hK _ _ ⟨fun _ => hB.c3, ?_⟩
        clear hK K hx z0
        revert p_x_F; revert lF; revert BF; revert ox; revert hR; revert hB; revert hX; revert bF; revert tx; revert w_10n
        clear w_9
        exact ?na_6
        go_simp
        have hx := (Ext.refl w_9).alloc (.cells #[.int .i64 x] 2)
        have BE := Blk.new w_9 2 (#[.int .i64 x])
        obtain ⟨bE, hb⟩ : ∃ b, b = w_9.heap.size := ⟨_, rfl⟩
        generalize hw : World.alloc w_9 (.cells #[.int .i64 x] 2) = w_10n at hx BE ⊢
        rw [← hb] at BE ⊢
        have lE : (w.heap.size + 1 + 1) ≤ bE := by have := hR.lt; omega
        have p_E_F : bE ≠ bF := by have := BF.lt; omega
        replace hB := hB.ext hx
        replace hR := hR.ext hx
        replace BF := BF.ext hx
        replace hX := hX.trans hx
        refine hK _ _ ⟨fun _ => hB.c3, ?_⟩
        clear hK K hx hb hw
        revert p_E_F; revert lF; revert lE; revert BF; revert BE; revert hR; revert hB; revert hX; revert bF; revert bE; revert w_10n
        clear w_9
        exact ?na_8
        go_simp
        have hx := (Ext.refl w_9).alloc (.cells #[.slice none 0 0, .slice none 0 0, .slice none 0 0] 26)
        have BP := Blk.new w_9 26 (#[.slice none 0 0, .slice none 0 0, .slice none 0 0])
        obtain ⟨bP, hb⟩ : ∃ b, b = w_9.heap.size := ⟨_, rfl⟩
        generalize hw : World.alloc w_9 (.cells #[.slice none 0 0, .slice none 0 0, .slice none 0 0] 26) = w_10n at hx BP ⊢
        rw [← hb] at BP ⊢
        have lP : (w.heap.size + 1 + 1) ≤ bP := by have := hR.lt; omega
        have p_F_P : bF ≠ bP := by have := BF.lt; omega
        replace hB := hB.ext hx
        replace hR := hR.ext hx
        replace BF := BF.ext hx
        replace hX := hX.trans hx
        refine hK _ _ ⟨fun _ => hB.c3, ?_⟩
        clear hK K hx hb hw
        revert p_F_P; revert lP; revert lF; revert BP; revert BF; revert hR; revert hB; revert hX; revert bP; revert bF; revert w_10n
        clear w_9
        refine ?na_10
        rotate_left 1
        -- na_4
        intro w_9 bP hX hB hR BP lP
        refine wpAnyT_go3 (i := 2) (j := 6) (k := 12) rfl rfl rfl (by kernel_rfl) (fun K hK => ?_) (fun K hK => ?_) (fun K hK => ?_)
        go_simp
        go_at_call 88
        refine (impl.clone_any ⟨A1, n1, c1⟩ l.x _ (rx.ext hX)).mono ?_
        rintro e w_10n ⟨tx, rfl, ox, hx⟩
        go_simp
        have p_x_P : ∀ k, Value.ownBlock (.slice tx.A tx.n tx.c) = some k → k ≠ bP := fun k h1 e => by have a1 := (ox.lt k h1).1; have a2 := BP.lt; omega
        have z0 := hR.lt
        replace ox := Own.mono (lo' := (w.heap.size + 1 + 1)) ox (by omega)
        replace hB := hB.ext hx
        replace hR := hR.ext hx
        replace BP := BP.ext hx
        replace hX := hX.trans hx
        refine hK _ _ ⟨fun _ => hB.c3, ?_⟩
        clear hK K hx z0
        revert p_x_P; revert lP; revert BP; revert ox; revert hR; revert hB; revert hX; revert bP; revert tx; revert w_10n
        clear w_9
        exact ?na_7
        go_simp
        have hx := (Ext.refl w_9).alloc (.cells #[.int .i64 x] 2)
        have BE := Blk.new w_9 2 (#[.int .i64 x])
        obtain ⟨bE, hb⟩ : ∃ b, b = w_9.heap.size := ⟨_, rfl⟩
        generalize hw : World.alloc w_9 (.cells #[.int .i64 x] 2) = w_10n at hx BE ⊢
        rw [← hb] at BE ⊢
        have lE : (w.heap.size + 1 + 1) ≤ bE := by have := hR.lt; omega
        have p_E_P : bE ≠ bP := by have := BP.lt; omega
        replace hB := hB.ext hx
        replace hR := hR.ext hx
        replace BP := BP.ext hx
        replace hX := hX.trans hx
        refine hK _ _ ⟨fun _ => hB.c3, ?_⟩
        clear hK K hx hb hw
        revert p_E_P; revert lP; revert lE; revert BP; revert BE; revert hR; revert hB; revert hX; revert bP; revert bE; revert w_10n
        clear w_9
        exact ?na_9
        go_simp
        have hx := (Ext.refl w_9).alloc (.cells #[.int .i64 x] 2)
        have BF := Blk.new w_9 2 (#[.int .i64 x])
        obtain ⟨bF, hb⟩ : ∃ b, b = w_9.heap.size := ⟨_, rfl⟩
        generalize hw : World.alloc w_9 (.cells #[.int .i64 x] 2) = w_10n at hx BF ⊢
        rw [← hb] at BF ⊢
        have lF : (w.heap.size + 1 + 1) ≤ bF := by have := hR.lt; omega
        have p_F_P : bF ≠ bP := by have := BP.lt; omega
        replace hB := hB.ext hx
        replace hR := hR.ext hx
        replace BP := BP.ext hx
        replace hX := hX.trans hx
        refine hK _ _ ⟨fun _ => hB.c3, ?_⟩
        clear hK K hx hb hw
        revert p_F_P; revert lP; revert lF; revert BP; revert BF; revert hR; revert hB; revert hX; revert bP; revert bF; revert w_10n
        clear w_9
        exact ?na_10
        -- na_5
        intro w_10 tx bE hX hB hR ox BE lE p_x_E
        refine wpAnyT_go3 (i := 7) (j := 12) (k := 15) rfl rfl rfl (by kernel_rfl) (fun K hK => ?_) (fun K hK => ?_) (fun K hK => ?_)
        go_simp
        go_at_call 92
        refine (impl.without_any ⟨A2, n2, c2⟩ ⟨some ⟨bE, 0, none⟩, 1, 1⟩ l.y [x] _ (ry.ext hX) BE.rd1).mono ?_
        rintro e w_11n ⟨ty, rfl, oy, hx⟩
        go_simp
        have p_x_y : apart (.slice tx.A tx.n tx.c) (.slice ty.A ty.n ty.c) := fun k h1 h2 => by have a1 := (ox.lt k h1).2; have a2 := (oy.lt k h2).1; omega
        have p_y_E : ∀ k, Value.ownBlock (.slice ty.A ty.n ty.c) = some k → k ≠ bE := fun k h1 e => by have a1 := (oy.lt k h1).1; have a2 := BE.lt; omega
        have z0 := hR.lt
        replace oy := Own.mono (lo' := (w.heap.size + 1 + 1)) oy (by omega)
        replace hB := hB.ext hx
        replace hR := hR.ext hx
        replace ox := ox.ext hx
        replace BE := BE.ext hx
        replace hX := hX.trans hx
        refine hK _ _ ⟨fun _ => hB.c3, ?_⟩
        clear hK K hx z0
        revert p_y_E; revert p_x_E; revert p_x_y; revert lE; revert BE; revert oy; revert ox; revert hR; revert hB; revert hX; revert bE; revert ty; revert tx; revert w_11n
        clear w_10
        refine ?na_11
        rotate_left 1
        go_simp
        have hx := (Ext.refl w_10).alloc (.cells #[.int .i64 x] 2)
        have BF := Blk.new w_10 2 (#[.int .i64 x])
        obtain ⟨bF, hb⟩ : ∃ b, b = w_10.heap.size := ⟨_, rfl⟩
        generalize hw : World.alloc w_10 (.cells #[.int .i64 x] 2) = w_11n at hx BF ⊢
        rw [← hb] at BF ⊢
        have lF : (w.heap.size + 1 + 1) ≤ bF := by have := hR.lt; omega
        have p_x_F : ∀ k, Value.ownBlock (.slice tx.A tx.n tx.c) = some k → k ≠ bF := fun k h1 e => by have a1 := (ox.lt k h1).2; omega
        have p_E_F : bE ≠ bF := by have := BE.lt; omega
        replace hB := hB.ext hx
        replace hR := hR.ext hx
        replace ox := ox.ext hx
        replace BE := BE.ext hx
        replace hX := hX.trans hx
        refine hK _ _ ⟨fun _ => hB.c3, ?_⟩
        clear hK K hx hb hw
        revert p_E_F; revert p_x_F; revert p_x_E; revert lF; revert lE; revert BF; revert BE; revert ox; revert hR; revert hB; revert hX; revert bF; revert bE; revert tx; revert w_11n
        clear w_10
        refine ?na_12
        rotate_left 1
        go_simp
        have hx := (Ext.refl w_10).alloc (.cells #[.slice none 0 0, .slice none 0 0, .slice none 0 0] 26)
        have BP := Blk.new w_10 26 (#[.slice none 0 0, .slice none 0 0, .slice none 0 0])
        obtain ⟨bP, hb⟩ : ∃ b, b = w_10.heap.size := ⟨_, rfl⟩
        generalize hw : World.alloc w_10 (.cells #[.slice none 0 0, .slice none 0 0, .slice none 0 0] 26) = w_11n at hx BP ⊢
        rw [← hb] at BP ⊢
        have lP : (w.heap.size + 1 + 1) ≤ bP := by have := hR.lt; omega
        have p_x_P : ∀ k, Value.ownBlock (.slice tx.A tx.n tx.c) = some k → k ≠ bP := fun k h1 e => by have a1 := (ox.lt k h1).2; omega
        have p_E_P : bE ≠ bP := by have := BE.lt; omega
        replace hB := hB.ext hx
        replace hR := hR.ext hx
        replace ox := ox.ext hx
        replace BE := BE.ext hx
        replace hX := hX.trans hx
        refine hK _ _ ⟨fun _ => hB.c3, ?_⟩
        clear hK K hx hb hw
        revert p_E_P; revert p_x_P; revert p_x_E; revert lP; revert lE; revert BP; revert BE; revert ox; revert hR; revert hB; revert hX; revert bP; revert bE; revert tx; revert w_11n
        clear w_10
        refine ?na_13
        rotate_left 1
        -- na_6
        intro w_10 tx bF hX hB hR ox BF lF p_x_F
        refine wpAnyT_go2 (i := 6) (j := 15) rfl rfl (by kernel_rfl) (fun K hK => ?_) (fun K hK => ?_)
        go_simp
        have hx := (Ext.refl w_10).alloc (.cells #[.int .i64 x] 2)
        have BE := Blk.new w_10 2 (#[.int .i64 x])
        obtain ⟨bE, hb⟩ : ∃ b, b = w_10.heap.size := ⟨_, rfl⟩
        generalize hw : World.alloc w_10 (.cells #[.int .i64 x] 2) = w_11n at hx BE ⊢
        rw [← hb] at BE ⊢
        have lE : (w.heap.size + 1 + 1) ≤ bE := by have := hR.lt; omega
        have p_x_E : ∀ k, Value.ownBlock (.slice tx.A tx.n tx.c) = some k → k ≠ bE := fun k h1 e => by have a1 := (ox.lt k h1).2; omega
        have p_E_F : bE ≠ bF := by have := BF.lt; omega
        replace hB := hB.ext hx
        replace hR := hR.ext hx
        replace ox := ox.ext hx
        replace BF := BF.ext hx
        replace hX := hX.trans hx
        refine hK _ _ ⟨fun _ => hB.c3, ?_⟩
        clear hK K hx hb hw
        revert p_E_F; revert p_x_F; revert p_x_E; revert lF; revert lE; revert BF; revert BE; revert ox; revert hR; revert hB; revert hX; revert bF; revert bE; revert tx; revert w_11n
        clear w_10
        exact ?na_12
        go_simp
        have hx := (Ext.refl w_10).alloc (.cells #[.slice none 0 0, .slice none 0 0, .slice none 0 0] 26)
        have BP := Blk.new w_10 26 (#[.slice none 0 0, .slice none 0 0, .slice none 0 0])
        obtain ⟨bP, hb⟩ : ∃ b, b = w_10.heap.size := ⟨_, rfl⟩
        generalize hw : World.alloc w_10 (.cells #[.slice none 0 0, .slice none 0 0, .slice none 0 0] 26) = w_11n at hx BP ⊢
        rw [← hb] at BP ⊢
        have lP : (w.heap.size + 1 + 1) ≤ bP := by have := hR.lt; omega
        have p_x_P : ∀ k, Value.ownBlock (.slice tx.A tx.n tx.c) = some k → k ≠ bP := fun k h1 e => by have a1 := (ox.lt k h1).2; omega
        have p_F_P : bF ≠ bP := by have := BF.lt; omega
        replace hB := hB.ext hx
        replace hR := hR.ext hx
        replace ox := ox.ext hx
        replace BF := BF.ext hx
        replace hX := hX.trans hx
        refine hK _ _ ⟨fun _ => hB.c3, ?_⟩
        clear hK K hx hb hw
        revert p_F_P; revert p_x_P; revert p_x_F; revert lP; revert lF; revert BP; revert BF; revert ox; revert hR; revert hB; revert hX; revert bP; revert bF; revert tx; revert w_11n
        clear w_10
        refine ?na_14
        rotate_left 1
        -- na_7
        intro w_10 tx bP hX hB hR ox BP lP p_x_P
        refine wpAnyT_go2 (i := 6) (j := 12) rfl rfl (by kernel_rfl) (fun K hK => ?_) (fun K hK => ?_)
        go_simp
        have hx := (Ext.refl w_10).alloc (.cells #[.int .i64 x] 2)
        have BE := Blk.new w_10 2 (#[.int .i64 x])
        obtain ⟨bE, hb⟩ : ∃ b, b = w_10.heap.size := ⟨_, rfl⟩
        generalize hw : World.alloc w_10 (.cells #[.int .i64 x] 2) = w_11n at hx BE ⊢
        rw [← hb] at BE ⊢
        have lE : (w.heap.size + 1 + 1) ≤ bE := by have := hR.lt; omega
        have p_x_E : ∀ k, Value.ownBlock (.slice tx.A tx.n tx.c) = some k → k ≠ bE := fun k h1 e => by have a1 := (ox.lt k h1).2; omega
        have p_E_P : bE ≠ bP := by have := BP.lt; omega
        replace hB := hB.ext hx
        replace hR := hR.ext hx
        replace ox := ox.ext hx
        replace BP := BP.ext hx
        replace hX := hX.trans hx
        refine hK _ _ ⟨fun _ => hB.c3, ?_⟩
        clear hK K hx hb hw
        revert p_E_P; revert p_x_P; revert p_x_E; revert lP; revert lE; revert BP; revert BE; revert ox; revert hR; revert hB; revert hX; revert bP; revert bE; revert tx; revert w_11n
        clear w_10
        exact ?na_13
        go_simp
        have hx := (Ext.refl w_10).alloc (.cells #[.int .i64 x] 2)
        have BF := Blk.new w_10 2 (#[.int .i64 x])
        obtain ⟨bF, hb⟩ : ∃ b, b = w_10.heap.size := ⟨_, rfl⟩
        generalize hw : World.alloc w_10 (.cells #[.int .i64 x] 2) = w_11n at hx BF ⊢
        rw [← hb] at BF ⊢
        have lF : (w.heap.size + 1 + 1) ≤ bF := by have := hR.lt; omega
        have p_x_F : ∀ k, Value.ownBlock (.slice tx.A tx.n tx.c) = some k → k ≠ bF := fun k h1 e => by have a1 := (ox.lt k h1).2; omega
        have p_F_P : bF ≠ bP := by have := BP.lt; omega
        replace hB := hB.ext hx
        replace hR := hR.ext hx
        replace ox := ox.ext hx
        replace BP := BP.ext hx
        replace hX := hX.trans hx
        refine hK _ _ ⟨fun _ => hB.c3, ?_⟩
        clear hK K hx hb hw
        revert p_F_P; revert p_x_P; revert p_x_F; revert lP; revert lF; revert BP; revert BF; revert ox; revert hR; revert hB; revert hX; revert bP; revert bF; revert tx; revert w_11n
        clear w_10
        exact ?na_14
        -- na_8
        intro w_10 bE bF hX hB hR BE BF lE lF p_E_F
        refine wpAnyT_go2 (i := 2) (j := 15) rfl rfl (by kernel_rfl) (fun K hK => ?_) (fun K hK => ?_)
        go_simp
        go_at_call 88
        refine (impl.clone_any ⟨A1, n1, c1⟩ l.x _ (rx.ext hX)).mono ?_
        rintro e w_11n ⟨tx, rfl, ox, hx⟩
        go_simp
        have p_x_E : ∀ k, Value.ownBlock (.slice tx.A tx.n tx.c) = some k → k ≠ bE := fun k h1 e => by have a1 := (ox.lt k h1).1; have a2 := BE.lt; omega
        have p_x_F : ∀ k, Value.ownBlock (.slice tx.A tx.n tx.c) = some k → k ≠ bF := fun k h1 e => by have a1 := (ox.lt k h1).1; have a2 := BF.lt; omega
        have z0 := hR.lt
        replace ox := Own.mono (lo' := (w.heap.size + 1 + 1)) ox (by omega)
        replace hB := hB.ext hx
        replace hR := hR.ext hx
        replace BE := BE.ext hx
        replace BF := BF.ext hx
        replace hX := hX.trans hx
        refine hK _ _ ⟨fun _ => hB.c3, ?_⟩
        clear hK K hx z0
        revert p_E_F; revert p_x_F; revert p_x_E; revert lF; revert lE; revert BF; revert BE; revert ox; revert hR; revert hB; revert hX; revert bF; revert bE; revert tx; revert w_11n
        clear w_10
        exact ?na_12
        go_simp
        have hx := (Ext.refl w_10).alloc (.cells #[.slice none 0 0, .slice none 0 0, .slice none 0 0] 26)
        have BP := Blk.new w_10 26 (#[.slice none 0 0, .slice none 0 0, .slice none 0 0])
        obtain ⟨bP, hb⟩ : ∃ b, b = w_10.heap.size := ⟨_, rfl⟩
        generalize hw : World.alloc w_10 (.cells #[.slice none 0 0, .slice none 0 0, .slice none 0 0] 26) = w_11n at hx BP ⊢
        rw [← hb] at BP ⊢
        have lP : (w.heap.size + 1 + 1) ≤ bP := by have := hR.lt; omega
        have p_E_P : bE ≠ bP := by have := BE.lt; omega
        have p_F_P : bF ≠ bP := by have := BF.lt; omega
        replace hB := hB.ext hx
        replace hR := hR.ext hx
        replace BE := BE.ext hx
        replace BF := BF.ext hx
        replace hX := hX.trans hx
        refine hK _ _ ⟨fun _ => hB.c3, ?_⟩
        clear hK K hx hb hw
        revert p_F_P; revert p_E_P; revert p_E_F; revert lP; revert lF; revert lE; revert BP; revert BF; revert BE; revert hR; revert hB; revert hX; revert bP; revert bF; revert bE; revert w_11n
        clear w_10
        refine ?na_15
        rotate_left 1
        -- na_9
        intro w_10 bE bP hX hB hR BE BP lE lP p_E_P
        refine wpAnyT_go2 (i := 2) (j := 12) rfl rfl (by kernel_rfl) (fun K hK => ?_) (fun K hK => ?_)
        go_simp
        go_at_call 88
        refine (impl.clone_any ⟨A1, n1, c1⟩ l.x _ (rx.ext hX)).mono ?_
        rintro e w_11n ⟨tx, rfl, ox, hx⟩
        go_simp
        have p_x_E : ∀ k, Value.ownBlock (.slice tx.A tx.n tx.c) = some k → k ≠ bE := fun k h1 e => by have a1 := (ox.lt k h1).1; have a2 := BE.lt; omega
        have p_x_P : ∀ k, Value.ownBlock (.slice tx.A tx.n tx.c) = some k → k ≠ bP := fun k h1 e => by have a1 := (ox.lt k h1).1; have a2 := BP.lt; omega
        have z0 := hR.lt
        replace ox := Own.mono (lo' := (w.heap.size + 1 + 1)) ox (by omega)
        replace hB := hB.ext hx
        replace hR := hR.ext hx
        replace BE := BE.ext hx
        replace BP := BP.ext hx
        replace hX := hX.trans hx
        refine hK _ _ ⟨fun _ => hB.c3, ?_⟩
        clear hK K hx z0
        revert p_E_P; revert p_x_P; revert p_x_E; revert lP; revert lE; revert BP; revert BE; revert ox; revert hR; revert hB; revert hX; revert bP; revert bE; revert tx; revert w_11n
        clear w_10
        exact ?na_13
        go_simp
        have hx := (Ext.refl w_10).alloc (.cells #[.int .i64 x] 2)
        have BF := Blk.new w_10 2 (#[.int .i64 x])
        obtain ⟨bF, hb⟩ : ∃ b, b = w_10.heap.size := ⟨_, rfl⟩
        generalize hw : World.alloc w_10 (.cells #[.int .i64 x] 2) = w_11n at hx BF ⊢
        rw [← hb] at BF ⊢
        have lF : (w.heap.size + 1 + 1) ≤ bF := by have := hR.lt; omega
        have p_E_F : bE ≠ bF := by have := BE.lt; omega
        have p_F_P : bF ≠ bP := by have := BP.lt; omega
        replace hB := hB.ext hx
        replace hR := hR.ext hx
        replace BE := BE.ext hx
        replace BP := BP.ext hx
        replace hX := hX.trans hx
        refine hK _ _ ⟨fun _ => hB.c3, ?_⟩
        clear hK K hx hb hw
        revert p_F_P; revert p_E_P; revert p_E_F; revert lP; revert lF; revert lE; revert BP; revert BF; revert BE; revert hR; revert hB; revert hX; revert bP; revert bF; revert bE; revert w_11n
        clear w_10
        exact ?na_15
        -- na_10
        intro w_10 bF bP hX hB hR BF BP lF lP p_F_P
        refine wpAnyT_go2 (i := 2) (j := 6) rfl rfl (by kernel_rfl) (fun K hK => ?_) (fun K hK => ?_)
        go_simp
        go_at_call 88
        refine (impl.clone_any ⟨A1, n1, c1⟩ l.x _ (rx.ext hX)).mono ?_
        rintro e w_11n ⟨tx, rfl, ox, hx⟩
        go_simp
        have p_x_F : ∀ k, Value.ownBlock (.slice tx.A tx.n tx.c) = some k → k ≠ bF := fun k h1 e => by have a1 := (ox.lt k h1).1; have a2 := BF.lt; omega
        have p_x_P : ∀ k, Value.ownBlock (.slice tx.A tx.n tx.c) = some k → k ≠ bP := fun k h1 e => by have a1 := (ox.lt k h1).1; have a2 := BP.lt; omega
        have z0 := hR.lt
        replace ox := Own.mono (lo' := (w.heap.size + 1 + 1)) ox (by omega)
        replace hB := hB.ext hx
        replace hR := hR.ext hx
        replace BF := BF.ext hx
        replace BP := BP.ext hx
        replace hX := hX.trans hx
        refine hK _ _ ⟨fun _ => hB.c3, ?_⟩
        clear hK K hx z0
        revert p_F_P; revert p_x_P; revert p_x_F; revert lP; revert lF; revert BP; revert BF; revert ox; revert hR; revert hB; revert hX; revert bP; revert bF; revert tx; revert w_11n
        clear w_10
        exact ?na_14
        go_simp
        have hx := (Ext.refl w_10).alloc (.cells #[.int .i64 x] 2)
        have BE := Blk.new w_10 2 (#[.int .i64 x])
        obtain ⟨bE, hb⟩ : ∃ b, b = w_10.heap.size := ⟨_, rfl⟩
        generalize hw : World.alloc w_10 (.cells #[.int .i64 x] 2) = w_11n at hx BE ⊢
        rw [← hb] at BE ⊢
        have lE : (w.heap.size + 1 + 1) ≤ bE := by have := hR.lt; omega
        have p_E_F : bE ≠ bF := by have := BF.lt; omega
        have p_E_P : bE ≠ bP := by have := BP.lt; omega
        replace hB := hB.ext hx
        replace hR := hR.ext hx
        replace BF := BF.ext hx
        replace BP := BP.ext hx
        replace hX := hX.trans hx
        refine hK _ _ ⟨fun _ => hB.c3, ?_⟩
        clear hK K hx hb hw
        revert p_F_P; revert p_E_P; revert p_E_F; revert lP; revert lF; revert lE; revert BP; revert BF; revert BE; revert hR; revert hB; revert hX; revert bP; revert bF; revert bE; revert w_11n
        clear w_10
        exact ?na_15
        -- na_11
        intro w_11 tx ty bE hX hB hR ox oy BE lE p_x_y p_x_E p_y_E
        refine wpAnyT_go3 (i := 10) (j := 12) (k := 15) rfl rfl rfl (by kernel_rfl) (fun K hK => ?_) (fun K hK => ?_) (fun K hK => ?_)
        go_simp
        go_at_call 88
        refine (impl.clone_any ⟨A3, n3, c3⟩ l.z _ (rz.ext hX)).mono ?_
        rintro e w_12n ⟨tg, rfl, og, hx⟩
        go_simp
        have p_g_x : apart (.slice tg.A tg.n tg.c) (.slice tx.A tx.n tx.c) := fun k h1 h2 => by have a1 := (ox.lt k h2).2; have a2 := (og.lt k h1).1; omega
        have p_g_y : apart (.slice tg.A tg.n tg.c) (.slice ty.A ty.n ty.c) := fun k h1 h2 => by have a1 := (oy.lt k h2).2; have a2 := (og.lt k h1).1; omega
        have p_g_E : ∀ k, Value.ownBlock (.slice tg.A tg.n tg.c) = some k → k ≠ bE := fun k h1 e => by have a1 := (og.lt k h1).1; have a2 := BE.lt; omega
        have z0 := hR.lt
        replace og := Own.mono (lo' := (w.heap.size + 1 + 1)) og (by omega)
        replace hB := hB.ext hx
        replace hR := hR.ext hx
        replace ox := ox.ext hx
        replace oy := oy.ext hx
        replace BE := BE.ext hx
        replace hX := hX.trans hx
        refine hK _ _ ⟨fun _ => hB.c3, ?_⟩
        clear hK K hx z0
        revert p_y_E; revert p_x_E; revert p_g_E; revert p_x_y; revert p_g_y; revert p_g_x; revert lE; revert BE; revert oy; revert ox; revert og; revert hR; revert hB; revert hX; revert bE; revert ty; revert tx; revert tg; revert w_12n
        clear w_11
        refine ?na_16
        rotate_left 1
        go_simp
        have hx := (Ext.refl w_11).alloc (.cells #[.int .i64 x] 2)
        have BF := Blk.new w_11 2 (#[.int .i64 x])
        obtain ⟨bF, hb⟩ : ∃ b, b = w_11.heap.size := ⟨_, rfl⟩
        generalize hw : World.alloc w_11 (.cells #[.int .i64 x] 2) = w_12n at hx BF ⊢
        rw [← hb] at BF ⊢
        have lF : (w.heap.size + 1 + 1) ≤ bF := by have := hR.lt; omega
        have p_x_F : ∀ k, Value.ownBlock (.slice tx.A tx.n tx.c) = some k → k ≠ bF := fun k h1 e => by have a1 := (ox.lt k h1).2; omega
        have p_y_F : ∀ k, Value.ownBlock (.slice ty.A ty.n ty.c) = some k → k ≠ bF := fun k h1 e => by have a1 := (oy.lt k h1).2; omega
        have p_E_F : bE ≠ bF := by have := BE.lt; omega
        replace hB := hB.ext hx
        replace hR := hR.ext hx
        replace ox := ox.ext hx
        replace oy := oy.ext hx
        replace BE := BE.ext hx
        replace hX := hX.trans hx
        refine hK _ _ ⟨fun _ => hB.c3, ?_⟩
        clear hK K hx hb hw
        revert p_E_F; revert p_y_F; revert p_y_E; revert p_x_F; revert p_x_E; revert p_x_y; revert lF; revert lE; revert BF; revert BE; revert oy; revert ox; revert hR; revert hB; revert hX; revert bF; revert bE; revert ty; revert tx; revert w_12n
        clear w_11
        refine ?na_17
        rotate_left 1
        go_simp
        have hx := (Ext.refl w_11).alloc (.cells #[.slice none 0 0, .slice none 0 0, .slice none 0 0] 26)
        have BP := Blk.new w_11 26 (#[.slice none 0 0, .slice none 0 0, .slice none 0 0])
        obtain ⟨bP, hb⟩ : ∃ b, b = w_11.heap.size := ⟨_, rfl⟩
        generalize hw : World.alloc w_11 (.cells #[.slice none 0 0, .slice none 0 0, .slice none 0 0] 26) = w_12n at hx BP ⊢
        rw [← hb] at BP ⊢
        have lP : (w.heap.size + 1 + 1) ≤ bP := by have := hR.lt; omega
        have p_x_P : ∀ k, Value.ownBlock (.slice tx.A tx.n tx.c) = some k → k ≠ bP := fun k h1 e => by have a1 := (ox.lt k h1).2; omega
        have p_y_P : ∀ k, Value.ownBlock (.slice ty.A ty.n ty.c) = some k → k ≠ bP := fun k h1 e => by have a1 := (oy.lt k h1).2; omega
        have p_E_P : bE ≠ bP := by have := BE.lt; omega
        replace hB := hB.ext hx
        replace hR := hR.ext hx
        replace ox := ox.ext hx
        replace oy := oy.ext hx
        replace BE := BE.ext hx
        replace hX := hX.trans hx
        refine hK _ _ ⟨fun _ => hB.c3, ?_⟩
        clear hK K hx hb hw
        revert p_E_P; revert p_y_P; revert p_y_E; revert p_x_P; revert p_x_E; revert p_x_y; revert lP; revert lE; revert BP; revert BE; revert oy; revert ox; revert hR; revert hB; revert hX; revert bP; revert bE; revert ty; revert tx; revert w_12n
        clear w_11
        refine ?na_18
        rotate_left 1
        -- na_12
        intro w_11 tx bE bF hX hB hR ox BE BF lE lF p_x_E p_x_F p_E_F
        refine wpAnyT_go2 (i := 7) (j := 15) rfl rfl (by kernel_rfl) (fun K hK => ?_) (fun K hK => ?_)
        go_simp
        go_at_call 92
        refine (impl.without_any ⟨A2, n2, c2⟩ ⟨some ⟨bE, 0, none⟩, 1, 1⟩ l.y [x] _ (ry.ext hX) BE.rd1).mono ?_
        rintro e w_12n ⟨ty, rfl, oy, hx⟩
        go_simp
        have p_x_y : apart (.slice tx.A tx.n tx.c) (.slice ty.A ty.n ty.c) := fun k h1 h2 => by have a1 := (ox.lt k h1).2; have a2 := (oy.lt k h2).1; omega
        have p_y_E : ∀ k, Value.ownBlock (.slice ty.A ty.n ty.c) = some k → k ≠ bE := fun k h1 e => by have a1 := (oy.lt k h1).1; have a2 := BE.lt; omega
        have p_y_F : ∀ k, Value.ownBlock (.slice ty.A ty.n ty.c) = some k → k ≠ bF := fun k h1 e => by have a1 := (oy.lt k h1).1; have a2 := BF.lt; omega
        have z0 := hR.lt
        replace oy := Own.mono (lo' := (w.heap.size + 1 + 1)) oy (by omega)
        replace hB := hB.ext hx
        replace hR := hR.ext hx
        replace ox := ox.ext hx
        replace BE := BE.ext hx
        replace BF := BF.ext hx
        replace hX := hX.trans hx
        refine hK _ _ ⟨fun _ => hB.c3, ?_⟩
        clear hK K hx z0
        revert p_E_F; revert p_y_F; revert p_y_E; revert p_x_F; revert p_x_E; revert p_x_y; revert lF; revert lE; revert BF; revert BE; revert oy; revert ox; revert hR; revert hB; revert hX; revert bF; revert bE; revert ty; revert tx; revert w_12n
        clear w_11
        exact ?na_17
        go_simp
        have hx := (Ext.refl w_11).alloc (.cells #[.slice none 0 0, .slice none 0 0, .slice none 0 0] 26)
        have BP := Blk.new w_11 26 (#[.slice none 0 0, .slice none 0 0, .slice none 0 0])
        obtain ⟨bP, hb⟩ : ∃ b, b = w_11.heap.size := ⟨_, rfl⟩
        generalize hw : World.alloc w_11 (.cells #[.slice none 0 0, .slice none 0 0, .slice none 0 0] 26) = w_12n at hx BP ⊢
        rw [← hb] at BP ⊢
        have lP : (w.heap.size + 1 + 1) ≤ bP := by have := hR.lt; omega
        have p_x_P : ∀ k, Value.ownBlock (.slice tx.A tx.n tx.c) = some k → k ≠ bP := fun k h1 e => by have a1 := (ox.lt k h1).2; omega
        have p_E_P : bE ≠ bP := by have := BE.lt; omega
        have p_F_P : bF ≠ bP := by have := BF.lt; omega
        replace hB := hB.ext hx
        replace hR := hR.ext hx
        replace ox := ox.ext hx
        replace BE := BE.ext hx
        replace BF := BF.ext hx
        replace hX := hX.trans hx
        refine hK _ _ ⟨fun _ => hB.c3, ?_⟩
        clear hK K hx hb hw
        revert p_F_P; revert p_E_P; revert p_E_F; revert p_x_P; revert p_x_F; revert p_x_E; revert lP; revert lF; revert lE; revert BP; revert BF; revert BE; revert ox; revert hR; revert hB; revert hX; revert bP; revert bF; revert bE; revert tx; revert w_12n
        clear w_11
        refine ?na_19
        rotate_left 1
        -- na_13
        intro w_11 tx bE bP hX hB hR ox BE BP lE lP p_x_E p_x_P p_E_P
        refine wpAnyT_go2 (i := 7) (j := 12) rfl rfl (by kernel_rfl) (fun K hK => ?_) (fun K hK => ?_)
        go_simp
        go_at_call 92
        refine (impl.without_any ⟨A2, n2, c2⟩ ⟨some ⟨bE, 0, none⟩, 1, 1⟩ l.y [x] _ (ry.ext hX) BE.rd1).mono ?_
        rintro e w_12n ⟨ty, rfl, oy, hx⟩
        go_simp
        have p_x_y : apart (.slice tx.A tx.n tx.c) (.slice ty.A ty.n ty.c) := fun k h1 h2 => by have a1 := (ox.lt k h1).2; have a2 := (oy.lt k h2).1; omega
        have p_y_E : ∀ k, Value.ownBlock (.slice ty.A ty.n ty.c) = some k → k ≠ bE := fun k h1 e => by have a1 := (oy.lt k h1).1; have a2 := BE.lt; omega
        have p_y_P : ∀ k, Value.ownBlock (.slice ty.A ty.n ty.c) = some k → k ≠ bP := fun k h1 e => by have a1 := (oy.lt k h1).1; have a2 := BP.lt; omega
        have z0 := hR.lt
        replace oy := Own.mono (lo' := (w.heap.size + 1 + 1)) oy (by omega)
        replace hB := hB.ext hx
        replace hR := hR.ext hx
        replace ox := ox.ext hx
        replace BE := BE.ext hx
        replace BP := BP.ext hx
        replace hX := hX.trans hx
        refine hK _ _ ⟨fun _ => hB.c3, ?_⟩
        clear hK K hx z0
        revert p_E_P; revert p_y_P; revert p_y_E; revert p_x_P; revert p_x_E; revert p_x_y; revert lP; revert lE; revert BP; revert BE; revert oy; revert ox; revert hR; revert hB; revert hX; revert bP; revert bE; revert ty; revert tx; revert w_12n
        clear w_11
        exact ?na_18
        go_simp
        have hx := (Ext.refl w_11).alloc (.cells #[.int .i64 x] 2)
        have BF := Blk.new w_11 2 (#[.int .i64 x])
        obtain ⟨bF, hb⟩ : ∃ b, b = w_11.heap.size := ⟨_, rfl⟩
        generalize hw : World.alloc w_11 (.cells #[.int .i64 x] 2) = w_12n at hx BF ⊢
        rw [← hb] at BF ⊢
        have lF : (w.heap.size + 1 + 1) ≤ bF := by have := hR.lt; omega
        have p_x_F : ∀ k, Value.ownBlock (.slice tx.A tx.n tx.c) = some k → k ≠ bF := fun k h1 e => by have a1 := (ox.lt k h1).2; omega
        have p_E_F : bE ≠ bF := by have := BE.lt; omega
        have p_F_P : bF ≠ bP := by have := BP.lt; omega
        replace hB := hB.ext hx
        replace hR := hR.ext hx
        replace ox := ox.ext hx
        replace BE := BE.ext hx
        replace BP := BP.ext hx
        replace hX := hX.trans hx
        refine hK _ _ ⟨fun _ => hB.c3, ?_⟩
        clear hK K hx hb hw
        revert p_F_P; revert p_E_P; revert p_E_F; revert p_x_P; revert p_x_F; revert p_x_E; revert lP; revert lF; revert lE; revert BP; revert BF; revert BE; revert ox; revert hR; revert hB; revert hX; revert bP; revert bF; revert bE; revert tx; revert w_12n
        clear w_11
        exact ?na_19
        -- na_14
        intro w_11 tx bF bP hX hB hR ox BF BP lF lP p_x_F p_x_P p_F_P
        refine wpAnyT_go (i := 6) rfl (by kernel_rfl) fun K hK => ?_
        go_simp
        have hx := (Ext.refl w_11).alloc (.cells #[.int .i64 x] 2)
        have BE := Blk.new w_11 2 (#[.int .i64 x])
        obtain ⟨bE, hb⟩ : ∃ b, b = w_11.heap.size := ⟨_, rfl⟩
        generalize hw : World.alloc w_11 (.cells #[.int .i64 x] 2) = w_12n at hx BE ⊢
        rw [← hb] at BE ⊢
        have lE : (w.heap.size + 1 + 1) ≤ bE := by have := hR.lt; omega
        have p_x_E : ∀ k, Value.ownBlock (.slice tx.A tx.n tx.c) = some k → k ≠ bE := fun k h1 e => by have a1 := (ox.lt k h1).2; omega
        have p_E_F : bE ≠ bF := by have := BF.lt; omega
        have p_E_P : bE ≠ bP := by have := BP.lt; omega
        replace hB := hB.ext hx
        replace hR := hR.ext hx
        replace ox := ox.ext hx
        replace BF := BF.ext hx
        replace BP := BP.ext hx
        replace hX := hX.trans hx
        refine hK _ _ ⟨fun _ => hB.c3, ?_⟩
        clear hK K hx hb hw
        revert p_F_P; revert p_E_P; revert p_E_F; revert p_x_P; revert p_x_F; revert p_x_E; revert lP; revert lF; revert lE; revert BP; revert BF; revert BE; revert ox; revert hR; revert hB; revert hX; revert bP; revert bF; revert bE; revert tx; revert w_12n
        clear w_11
        exact ?na_19
        -- na_15
        intro w_11 bE bF bP hX hB hR BE BF BP lE lF lP p_E_F p_E_P p_F_P
        refine wpAnyT_go (i := 2) rfl (by kernel_rfl) fun K hK => ?_
        go_simp
        go_at_call 88
        refine (impl.clone_any ⟨A1, n1, c1⟩ l.x _ (rx.ext hX)).mono ?_
        rintro e w_12n ⟨tx, rfl, ox, hx⟩
        go_simp
        have p_x_E : ∀ k, Value.ownBlock (.slice tx.A tx.n tx.c) = some k → k ≠ bE := fun k h1 e => by have a1 := (ox.lt k h1).1; have a2 := BE.lt; omega
        have p_x_F : ∀ k, Value.ownBlock (.slice tx.A tx.n tx.c) = some k → k ≠ bF := fun k h1 e => by have a1 := (ox.lt k h1).1; have a2 := BF.lt; omega
        have p_x_P : ∀ k, Value.ownBlock (.slice tx.A tx.n tx.c) = some k → k ≠ bP := fun k h1 e => by have a1 := (ox.lt k h1).1; have a2 := BP.lt; omega
        have z0 := hR.lt
        replace ox := Own.mono (lo' := (w.heap.size + 1 + 1)) ox (by omega)
        replace hB := hB.ext hx
        replace hR := hR.ext hx
        replace BE := BE.ext hx
        replace BF := BF.ext hx
        replace BP := BP.ext hx
        replace hX := hX.trans hx
        refine hK _ _ ⟨fun _ => hB.c3, ?_⟩
        clear hK K hx z0
        revert p_F_P; revert p_E_P; revert p_E_F; revert p_x_P; revert p_x_F; revert p_x_E; revert lP; revert lF; revert lE; revert BP; revert BF; revert BE; revert ox; revert hR; revert hB; revert hX; revert bP; revert bF; revert bE; revert tx; revert w_12n
        clear w_11
        exact ?na_19
        -- na_16
        intro w_12 tg tx ty bE hX hB hR og ox oy BE lE p_g_x p_g_y p_x_y p_g_E p_x_E p_y_E
        refine wpAnyT_go2 (i := 12) (j := 15) rfl rfl (by kernel_rfl) (fun K hK => ?_) (fun K hK => ?_)
        go_simp
        have hx := (Ext.refl w_12).alloc (.cells #[.int .i64 x] 2)
        have BF := Blk.new w_12 2 (#[.int .i64 x])
        obtain ⟨bF, hb⟩ : ∃ b, b = w_12.heap.size := ⟨_, rfl⟩
        generalize hw : World.alloc w_12 (.cells #[.int .i64 x] 2) = w_13n at hx BF ⊢
        rw [← hb] at BF ⊢
        have lF : (w.heap.size + 1 + 1) ≤ bF := by have := hR.lt; omega
        have p_g_F : ∀ k, Value.ownBlock (.slice tg.A tg.n tg.c) = some k → k ≠ bF := fun k h1 e => by have a1 := (og.lt k h1).2; omega
        have p_x_F : ∀ k, Value.ownBlock (.slice tx.A tx.n tx.c) = some k → k ≠ bF := fun k h1 e => by have a1 := (ox.lt k h1).2; omega
        have p_y_F : ∀ k, Value.ownBlock (.slice ty.A ty.n ty.c) = some k → k ≠ bF := fun k h1 e => by have a1 := (oy.lt k h1).2; omega
        have p_E_F : bE ≠ bF := by have := BE.lt; omega
        replace hB := hB.ext hx
        replace hR := hR.ext hx
        replace og := og.ext hx
        replace ox := ox.ext hx
        replace oy := oy.ext hx
        replace BE := BE.ext hx
        replace hX := hX.trans hx
        refine hK _ _ ⟨fun _ => hB.c3, ?_⟩
        clear hK K hx hb hw
        revert p_E_F; revert p_y_F; revert p_y_E; revert p_x_F; revert p_x_E; revert p_g_F; revert p_g_E; revert p_x_y; revert p_g_y; revert p_g_x; revert lF; revert lE; revert BF; revert BE; revert oy; revert ox; revert og; revert hR; revert hB; revert hX; revert bF; revert bE; revert ty; revert tx; revert tg; revert w_13n
        clear w_12
        refine ?na_20
        rotate_left 1
        go_simp
        have hx := (Ext.refl w_12).alloc (.cells #[.slice none 0 0, .slice none 0 0, .slice none 0 0] 26)
        have BP := Blk.new w_12 26 (#[.slice none 0 0, .slice none 0 0, .slice none 0 0])
        obtain ⟨bP, hb⟩ : ∃ b, b = w_12.heap.size := ⟨_, rfl⟩
        generalize hw : World.alloc w_12 (.cells #[.slice none 0 0, .slice none 0 0, .slice none 0 0] 26) = w_13n at hx BP ⊢
        rw [← hb] at BP ⊢
        have lP : (w.heap.size + 1 + 1) ≤ bP := by have := hR.lt; omega
        have p_g_P : ∀ k, Value.ownBlock (.slice tg.A tg.n tg.c) = some k → k ≠ bP := fun k h1 e => by have a1 := (og.lt k h1).2; omega
        have p_x_P : ∀ k, Value.ownBlock (.slice tx.A tx.n tx.c) = some k → k ≠ bP := fun k h1 e => by have a1 := (ox.lt k h1).2; omega
        have p_y_P : ∀ k, Value.ownBlock (.slice ty.A ty.n ty.c) = some k → k ≠ bP := fun k h1 e => by have a1 := (oy.lt k h1).2; omega
        have p_E_P : bE ≠ bP := by have := BE.lt; omega
        replace hB := hB.ext hx
        replace hR := hR.ext hx
        replace og := og.ext hx
        replace ox := ox.ext hx
        replace oy := oy.ext hx
        replace BE := BE.ext hx
        replace hX := hX.trans hx
        refine hK _ _ ⟨fun _ => hB.c3, ?_⟩
        clear hK K hx hb hw
        revert p_E_P; revert p_y_P; revert p_y_E; revert p_x_P; revert p_x_E; revert p_g_P; revert p_g_E; revert p_x_y; revert p_g_y; revert p_g_x; revert lP; revert lE; revert BP; revert BE; revert oy; revert ox; revert og; revert hR; revert hB; revert hX; revert bP; revert bE; revert ty; revert tx; revert tg; revert w_13n
        clear w_12
        refine ?na_21
        rotate_left 1
        -- na_17
        intro w_12 tx ty bE bF hX hB hR ox oy BE BF lE lF p_x_y p_x_E p_x_F p_y_E p_y_F p_E_F
        refine wpAnyT_go2 (i := 10) (j := 15) rfl rfl (by kernel_rfl) (fun K hK => ?_) (fun K hK => ?_)
        go_simp
        go_at_call 88
        refine (impl.clone_any ⟨A3, n3, c3⟩ l.z _ (rz.ext hX)).mono ?_
        rintro e w_13n ⟨tg, rfl, og, hx⟩
        go_simp
        have p_g_x : apart (.slice tg.A tg.n tg.c) (.slice tx.A tx.n tx.c) := fun k h1 h2 => by have a1 := (ox.lt k h2).2; have a2 := (og.lt k h1).1; omega
        have p_g_y : apart (.slice tg.A tg.n tg.c) (.slice ty.A ty.n ty.c) := fun k h1 h2 => by have a1 := (oy.lt k h2).2; have a2 := (og.lt k h1).1; omega
        have p_g_E : ∀ k, Value.ownBlock (.slice tg.A tg.n tg.c) = some k → k ≠ bE := fun k h1 e => by have a1 := (og.lt k h1).1; have a2 := BE.lt; omega
        have p_g_F : ∀ k, Value.ownBlock (.slice tg.A tg.n tg.c) = some k → k ≠ bF := fun k h1 e => by have a1 := (og.lt k h1).1; have a2 := BF.lt; omega
        have z0 := hR.lt
        replace og := Own.mono (lo' := (w.heap.size + 1 + 1)) og (by omega)
        replace hB := hB.ext hx
        replace hR := hR.ext hx
        replace ox := ox.ext hx
        replace oy := oy.ext hx
        replace BE := BE.ext hx
        replace BF := BF.ext hx
        replace hX := hX.trans hx
        refine hK _ _ ⟨fun _ => hB.c3, ?_⟩
        clear hK K hx z0
        revert p_E_F; revert p_y_F; revert p_y_E; revert p_x_F; revert p_x_E; revert p_g_F; revert p_g_E; revert p_x_y; revert p_g_y; revert p_g_x; revert lF; revert lE; revert BF; revert BE; revert oy; revert ox; revert og; revert hR; revert hB; revert hX; revert bF; revert bE; revert ty; revert tx; revert tg; revert w_13n
        clear w_12
        exact ?na_20
        go_simp
        have hx := (Ext.refl w_12).alloc (.cells #[.slice none 0 0, .slice none 0 0, .slice none 0 0] 26)
        have BP := Blk.new w_12 26 (#[.slice none 0 0, .slice none 0 0, .slice none 0 0])
        obtain ⟨bP, hb⟩ : ∃ b, b = w_12.heap.size := ⟨_, rfl⟩
        generalize hw : World.alloc w_12 (.cells #[.slice none 0 0, .slice none 0 0, .slice none 0 0] 26) = w_13n at hx BP ⊢
        rw [← hb] at BP ⊢
        have lP : (w.heap.size + 1 + 1) ≤ bP := by have := hR.lt; omega
        have p_x_P : ∀ k, Value.ownBlock (.slice tx.A tx.n tx.c) = some k → k ≠ bP := fun k h1 e => by have a1 := (ox.lt k h1).2; omega
        have p_y_P : ∀ k, Value.ownBlock (.slice ty.A ty.n ty.c) = some k → k ≠ bP := fun k h1 e => by have a1 := (oy.lt k h1).2; omega
        have p_E_P : bE ≠ bP := by have := BE.lt; omega
        have p_F_P : bF ≠ bP := by have := BF.lt; omega
        replace hB := hB.ext hx
        replace hR := hR.ext hx
        replace ox := ox.ext hx
        replace oy := oy.ext hx
        replace BE := BE.ext hx
        replace BF := BF.ext hx
        replace hX := hX.trans hx
        refine hK _ _ ⟨fun _ => hB.c3, ?_⟩
        clear hK K hx hb hw
        revert p_F_P; revert p_E_P; revert p_E_F; revert p_y_P; revert p_y_F; revert p_y_E; revert p_x_P; revert p_x_F; revert p_x_E; revert p_x_y; revert lP; revert lF; revert lE; revert BP; revert BF; revert BE; revert oy; revert ox; revert hR; revert hB; revert hX; revert bP; revert bF; revert bE; revert ty; revert tx; revert w_13n
        clear w_12
        refine ?na_22
        rotate_left 1
        -- na_18
        intro w_12 tx ty bE bP hX hB hR ox oy BE BP lE lP p_x_y p_x_E p_x_P p_y_E p_y_P p_E_P
        refine wpAnyT_go2 (i := 10) (j := 12) rfl rfl (by kernel_rfl) (fun K hK => ?_) (fun K hK => ?_)
        go_simp
        go_at_call 88
        refine (impl.clone_any ⟨A3, n3, c3⟩ l.z _ (rz.ext hX)).mono ?_
        rintro e w_13n ⟨tg, rfl, og, hx⟩
        go_simp
        have p_g_x : apart (.slice tg.A tg.n tg.c) (.slice tx.A tx.n tx.c) := fun k h1 h2 => by have a1 := (ox.lt k h2).2; have a2 := (og.lt k h1).1; omega
        have p_g_y : apart (.slice tg.A tg.n tg.c) (.slice ty.A ty.n ty.c) := fun k h1 h2 => by have a1 := (oy.lt k h2).2; have a2 := (og.lt k h1).1; omega
        have p_g_E : ∀ k, Value.ownBlock (.slice tg.A tg.n tg.c) = some k → k ≠ bE := fun k h1 e => by have a1 := (og.lt k h1).1; have a2 := BE.lt; omega
        have p_g_P : ∀ k, Value.ownBlock (.slice tg.A tg.n tg.c) = some k → k ≠ bP := fun k h1 e => by have a1 := (og.lt k h1).1; have a2 := BP.lt; omega
        have z0 := hR.lt
        replace og := Own.mono (lo' := (w.heap.size + 1 + 1)) og (by omega)
        replace hB := hB.ext hx
        replace hR := hR.ext hx
        replace ox := ox.ext hx
        replace oy := oy.ext hx
        replace BE := BE.ext hx
        replace BP := BP.ext hx
        replace hX := hX.trans hx
        refine hK _ _ ⟨fun _ => hB.c3, ?_⟩
        clear hK K hx z0
        revert p_E_P; revert p_y_P; revert p_y_E; revert p_x_P; revert p_x_E; revert p_g_P; revert p_g_E; revert p_x_y; revert p_g_y; revert p_g_x; revert lP; revert lE; revert BP; revert BE; revert oy; revert ox; revert og; revert hR; revert hB; revert hX; revert bP; revert bE; revert ty; revert tx; revert tg; revert w_13n
        clear w_12
        exact ?na_21
        go_simp
        have hx := (Ext.refl w_12).alloc (.cells #[.int .i64 x] 2)
        have BF := Blk.new w_12 2 (#[.int .i64 x])
        obtain ⟨bF, hb⟩ : ∃ b, b = w_12.heap.size := ⟨_, rfl⟩
        generalize hw : World.alloc w_12 (.cells #[.int .i64 x] 2) = w_13n at hx BF ⊢
        rw [← hb] at BF ⊢
        have lF : (w.heap.size + 1 + 1) ≤ bF := by have := hR.lt; omega
        have p_x_F : ∀ k, Value.ownBlock (.slice tx.A tx.n tx.c) = some k → k ≠ bF := fun k h1 e => by have a1 := (ox.lt k h1).2; omega
        have p_y_F : ∀ k, Value.ownBlock (.slice ty.A ty.n ty.c) = some k → k ≠ bF := fun k h1 e => by have a1 := (oy.lt k h1).2; omega
        have p_E_F : bE ≠ bF := by have := BE.lt; omega
        have p_F_P : bF ≠ bP := by have := BP.lt; omega
        replace hB := hB.ext hx
        replace hR := hR.ext hx
        replace ox := ox.ext hx
        replace oy := oy.ext hx
        replace BE := BE.ext hx
        replace BP := BP.ext hx
        replace hX := hX.trans hx
        refine hK _ _ ⟨fun _ => hB.c3, ?_⟩
        clear hK K hx hb hw
        revert p_F_P; revert p_E_P; revert p_E_F; revert p_y_P; revert p_y_F; revert p_y_E; revert p_x_P; revert p_x_F; revert p_x_E; revert p_x_y; revert lP; revert lF; revert lE; revert BP; revert BF; revert BE; revert oy; revert ox; revert hR; revert hB; revert hX; revert bP; revert bF; revert bE; revert ty; revert tx; revert w_13n
        clear w_12
        exact ?na_22
        -- na_19
        intro w_12 tx bE bF bP hX hB hR ox BE BF BP lE lF lP p_x_E p_x_F p_x_P p_E_F p_E_P p_F_P
        refine wpAnyT_go (i := 7) rfl (by kernel_rfl) fun K hK => ?_
        go_simp
        go_at_call 92
        refine (impl.without_any ⟨A2, n2, c2⟩ ⟨some ⟨bE, 0, none⟩, 1, 1⟩ l.y [x] _ (ry.ext hX) BE.rd1).mono ?_
        rintro e w_13n ⟨ty, rfl, oy, hx⟩
        go_simp
        have p_x_y : apart (.slice tx.A tx.n tx.c) (.slice ty.A ty.n ty.c) := fun k h1 h2 => by have a1 := (ox.lt k h1).2; have a2 := (oy.lt k h2).1; omega
        have p_y_E : ∀ k, Value.ownBlock (.slice ty.A ty.n ty.c) = some k → k ≠ bE := fun k h1 e => by have a1 := (oy.lt k h1).1; have a2 := BE.lt; omega
        have p_y_F : ∀ k, Value.ownBlock (.slice ty.A ty.n ty.c) = some k → k ≠ bF := fun k h1 e => by have a1 := (oy.lt k h1).1; have a2 := BF.lt; omega
        have p_y_P : ∀ k, Value.ownBlock (.slice ty.A ty.n ty.c) = some k → k ≠ bP := fun k h1 e => by have a1 := (oy.lt k h1).1; have a2 := BP.lt; omega
        have z0 := hR.lt
        replace oy := Own.mono (lo' := (w.heap.size + 1 + 1)) oy (by omega)
        replace hB := hB.ext hx
        replace hR := hR.ext hx
        replace ox := ox.ext hx
        replace BE := BE.ext hx
        replace BF := BF.ext hx
        replace BP := BP.ext hx
        replace hX := hX.trans hx
        refine hK _ _ ⟨fun _ => hB.c3, ?_⟩
        clear hK K hx z0
        revert p_F_P; revert p_E_P; revert p_E_F; revert p_y_P; revert p_y_F; revert p_y_E; revert p_x_P; revert p_x_F; revert p_x_E; revert p_x_y; revert lP; revert lF; revert lE; revert BP; revert BF; revert BE; revert oy; revert ox; revert hR; revert hB; revert hX; revert bP; revert bF; revert bE; revert ty; revert tx; revert w_13n
        clear w_12
        exact ?na_22
        -- na_20
        intro w_13 tg tx ty bE bF hX hB hR og ox oy BE BF lE lF p_g_x p_g_y p_x_y p_g_E p_g_F p_x_E p_x_F p_y_E p_y_F p_E_F
        refine wpAnyT_go2 (i := 13) (j := 15) rfl rfl (by kernel_rfl) (fun K hK => ?_) (fun K hK => ?_)
        refine step_app _ rfl (.tmp 39) (.tmp 41) rfl _ _ _ rfl og _ _ _ [x] rfl BF.rd1 (by have := hbd3.out; omega) (by have := hR.lt; omega) ?_
        intro tz w_14n oz hg hb
        have gb : ∀ k, Value.ownBlock (.slice tz.A tz.n tz.c) = some k → Value.ownBlock (.slice tg.A tg.n tg.c) = some k ∨ k = w_13.heap.size := (fun k hk => by rcases hb with h | h; exact Or.inl (h.symm.trans hk); exact Or.inr (by rw [h] at hk; injection hk with hk; exact hk.symm))
        have p_x_z : apart (.slice tx.A tx.n tx.c) (.slice tz.A tz.n tz.c) := fun k h1 h2 => by rcases gb k h2 with h | h; exact p_g_x k h h1; (have := (ox.lt k h1).2; omega)
        have p_y_z : apart (.slice ty.A ty.n ty.c) (.slice tz.A tz.n tz.c) := fun k h1 h2 => by rcases gb k h2 with h | h; exact p_g_y k h h1; (have := (oy.lt k h1).2; omega)
        have p_z_E : ∀ k, Value.ownBlock (.slice tz.A tz.n tz.c) = some k → k ≠ bE := fun k h1 e => by rcases gb k h1 with h | h; exact p_g_E k h e; (have := BE.lt; omega)
        have p_z_F : ∀ k, Value.ownBlock (.slice tz.A tz.n tz.c) = some k → k ≠ bF := fun k h1 e => by rcases gb k h1 with h | h; exact p_g_F k h e; (have := BF.lt; omega)
        replace hB := hB.fr (Fr.of_grown hg) (fun e => by have := (og.lt _ e).1; omega)
        replace hR := hR.fr (Fr.of_grown hg) (fun e => by have := (og.lt _ e).1; omega)
        replace ox := ox.fr (Fr.of_grown hg) (fun k h1 h2 => p_g_x k h2 h1)
        replace oy := oy.fr (Fr.of_grown hg) (fun k h1 h2 => p_g_y k h2 h1)
        replace BE := BE.fr (Fr.of_grown hg) (fun e => p_g_E _ e rfl)
        replace BF := BF.fr (Fr.of_grown hg) (fun e => p_g_F _ e rfl)
        replace hX := hX.grow hg (fun k hk => by have := (og.lt k hk).1; omega)
        refine hK _ _ ⟨fun _ => hB.c3, ?_⟩
        clear hK K hg hb gb
        clear p_g_x p_g_y p_g_E p_g_F og
        have kk := hB.c3
        refine wpAnyT_takeL (i := 14) 7 (v := ?_) rfl (by kernel_rfl) (by kernel_rfl) (by kernel_rfl) (by kernel_rfl) (by kernel_rfl) (fun _ _ _ h => h) (Or.inl ⟨by rfl, ?_⟩) kk ?_
        rotate_left 1
        · (intro W hSw; (try dsimp only at hSw); go_simp) <;> with_reducible rfl
        clear kk
        try simp only [Act.put, List.setIfInBounds_toArray, List.set_cons_zero, List.set_cons_succ]
        revert p_E_F; revert p_z_F; revert p_z_E; revert p_y_F; revert p_y_E; revert p_x_F; revert p_x_E; revert p_y_z; revert p_x_z; revert p_x_y; revert lF; revert lE; revert BF; revert BE; revert oz; revert oy; revert ox; revert hR; revert hB; revert hX; revert bF; revert bE; revert tg; revert tz; revert ty; revert tx; revert w_14n
        clear w_13
        refine ?na_23
        rotate_left 1
        go_simp
        have hx := (Ext.refl w_13).alloc (.cells #[.slice none 0 0, .slice none 0 0, .slice none 0 0] 26)
        have BP := Blk.new w_13 26 (#[.slice none 0 0, .slice none 0 0, .slice none 0 0])
        obtain ⟨bP, hb⟩ : ∃ b, b = w_13.heap.size := ⟨_, rfl⟩
        generalize hw : World.alloc w_13 (.cells #[.slice none 0 0, .slice none 0 0, .slice none 0 0] 26) = w_14n at hx BP ⊢
        rw [← hb] at BP ⊢
        have lP : (w.heap.size + 1 + 1) ≤ bP := by have := hR.lt; omega
        have p_g_P : ∀ k, Value.ownBlock (.slice tg.A tg.n tg.c) = some k → k ≠ bP := fun k h1 e => by have a1 := (og.lt k h1).2; omega
        have p_x_P : ∀ k, Value.ownBlock (.slice tx.A tx.n tx.c) = some k → k ≠ bP := fun k h1 e => by have a1 := (ox.lt k h1).2; omega
        have p_y_P : ∀ k, Value.ownBlock (.slice ty.A ty.n ty.c) = some k → k ≠ bP := fun k h1 e => by have a1 := (oy.lt k h1).2; omega
        have p_E_P : bE ≠ bP := by have := BE.lt; omega
        have p_F_P : bF ≠ bP := by have := BF.lt; omega
        replace hB := hB.ext hx
        replace hR := hR.ext hx
        replace og := og.ext hx
        replace ox := ox.ext hx
        replace oy := oy.ext hx
        replace BE := BE.ext hx
        replace BF := BF.ext hx
        replace hX := hX.trans hx
        refine hK _ _ ⟨fun _ => hB.c3, ?_⟩
        clear hK K hx hb hw
        revert p_F_P; revert p_E_P; revert p_E_F; revert p_y_P; revert p_y_F; revert p_y_E; revert p_x_P; revert p_x_F; revert p_x_E; revert p_g_P; revert p_g_F; revert p_g_E; revert p_x_y; revert p_g_y; revert p_g_x; revert lP; revert lF; revert lE; revert BP; revert BF; revert BE; revert oy; revert ox; revert og; revert hR; revert hB; revert hX; revert bP; revert bF; revert bE; revert ty; revert tx; revert tg; revert w_14n
        clear w_13
        refine ?na_24
        rotate_left 1
        -- na_21
        intro w_13 tg tx ty bE bP hX hB hR og ox oy BE BP lE lP p_g_x p_g_y p_x_y p_g_E p_g_P p_x_E p_x_P p_y_E p_y_P p_E_P
        refine wpAnyT_go (i := 12) rfl (by kernel_rfl) fun K hK => ?_
        go_simp
        have hx := (Ext.refl w_13).alloc (.cells #[.int .i64 x] 2)
        have BF := Blk.new w_13 2 (#[.int .i64 x])
        obtain ⟨bF, hb⟩ : ∃ b, b = w_13.heap.size := ⟨_, rfl⟩
        generalize hw : World.alloc w_13 (.cells #[.int .i64 x] 2) = w_14n at hx BF ⊢
        rw [← hb] at BF ⊢
        have lF : (w.heap.size + 1 + 1) ≤ bF := by have := hR.lt; omega
        have p_g_F : ∀ k, Value.ownBlock (.slice tg.A tg.n tg.c) = some k → k ≠ bF := fun k h1 e => by have a1 := (og.lt k h1).2; omega
        have p_x_F : ∀ k, Value.ownBlock (.slice tx.A tx.n tx.c) = some k → k ≠ bF := fun k h1 e => by have a1 := (ox.lt k h1).2; omega
        have p_y_F : ∀ k, Value.ownBlock (.slice ty.A ty.n ty.c) = some k → k ≠ bF := fun k h1 e => by have a1 := (oy.lt k h1).2; omega
        have p_E_F : bE ≠ bF := by have := BE.lt; omega
        have p_F_P : bF ≠ bP := by have := BP.lt; omega
        replace hB := hB.ext hx
        replace hR := hR.ext hx
        replace og := og.ext hx
        replace ox := ox.ext hx
        replace oy := oy.ext hx
        replace BE := BE.ext hx
        replace BP := BP.ext hx
        replace hX := hX.trans hx
        refine hK _ _ ⟨fun _ => hB.c3, ?_⟩
        clear hK K hx hb hw
        revert p_F_P; revert p_E_P; revert p_E_F; revert p_y_P; revert p_y_F; revert p_y_E; revert p_x_P; revert p_x_F; revert p_x_E; revert p_g_P; revert p_g_F; revert p_g_E; revert p_x_y; revert p_g_y; revert p_g_x; revert lP; revert lF; revert lE; revert BP; revert BF; revert BE; revert oy; revert ox; revert og; revert hR; revert hB; revert hX; revert bP; revert bF; revert bE; revert ty; revert tx; revert tg; revert w_14n
        clear w_13
        exact ?na_24
        -- na_22
        intro w_13 tx ty bE bF bP hX hB hR ox oy BE BF BP lE lF lP p_x_y p_x_E p_x_F p_x_P p_y_E p_y_F p_y_P p_E_F p_E_P p_F_P
        refine wpAnyT_go (i := 10) rfl (by kernel_rfl) fun K hK => ?_
        go_simp
        go_at_call 88
        refine (impl.clone_any ⟨A3, n3, c3⟩ l.z _ (rz.ext hX)).mono ?_
        rintro e w_14n ⟨tg, rfl, og, hx⟩
        go_simp
        have p_g_x : apart (.slice tg.A tg.n tg.c) (.slice tx.A tx.n tx.c) := fun k h1 h2 => by have a1 := (ox.lt k h2).2; have a2 := (og.lt k h1).1; omega
        have p_g_y : apart (.slice tg.A tg.n tg.c) (.slice ty.A ty.n ty.c) := fun k h1 h2 => by have a1 := (oy.lt k h2).2; have a2 := (og.lt k h1).1; omega
        have p_g_E : ∀ k, Value.ownBlock (.slice tg.A tg.n tg.c) = some k → k ≠ bE := fun k h1 e => by have a1 := (og.lt k h1).1; have a2 := BE.lt; omega
        have p_g_F : ∀ k, Value.ownBlock (.slice tg.A tg.n tg.c) = some k → k ≠ bF := fun k h1 e => by have a1 := (og.lt k h1).1; have a2 := BF.lt; omega
        have p_g_P : ∀ k, Value.ownBlock (.slice tg.A tg.n tg.c) = some k → k ≠ bP := fun k h1 e => by have a1 := (og.lt k h1).1; have a2 := BP.lt; omega
        have z0 := hR.lt
        replace og := Own.mono (lo' := (w.heap.size + 1 + 1)) og (by omega)
        replace hB := hB.ext hx
        replace hR := hR.ext hx
        replace ox := ox.ext hx
        replace oy := oy.ext hx
        replace BE := BE.ext hx
        replace BF := BF.ext hx
        replace BP := BP.ext hx
        replace hX := hX.trans hx
        refine hK _ _ ⟨fun _ => hB.c3, ?_⟩
        clear hK K hx z0
        revert p_F_P; revert p_E_P; revert p_E_F; revert p_y_P; revert p_y_F; revert p_y_E; revert p_x_P; revert p_x_F; revert p_x_E; revert p_g_P; revert p_g_F; revert p_g_E; revert p_x_y; revert p_g_y; revert p_g_x; revert lP; revert lF; revert lE; revert BP; revert BF; revert BE; revert oy; revert ox; revert og; revert hR; revert hB; revert hX; revert bP; revert bF; revert bE; revert ty; revert tx; revert tg; revert w_14n
        clear w_13
        exact ?na_24
        -- na_23
        intro w_15 tx ty tz tg bE bF hX hB hR ox oy oz BE BF lE lF p_x_y p_x_z p_y_z p_x_E p_x_F p_y_E p_y_F p_z_E p_z_F p_E_F
        refine wpAnyT_go (i := 15) rfl (by kernel_rfl) fun K hK => ?_
        go_simp
        have hx := (Ext.refl w_15).alloc (.cells #[.slice none 0 0, .slice none 0 0, .slice none 0 0] 26)
        have BP := Blk.new w_15 26 (#[.slice none 0 0, .slice none 0 0, .slice none 0 0])
        obtain ⟨bP, hb⟩ : ∃ b, b = w_15.heap.size := ⟨_, rfl⟩
        generalize hw : World.alloc w_15 (.cells #[.slice none 0 0, .slice none 0 0, .slice none 0 0] 26) = w_16n at hx BP ⊢
        rw [← hb] at BP ⊢
        have lP : (w.heap.size + 1 + 1) ≤ bP := by have := hR.lt; omega
        have p_x_P : ∀ k, Value.ownBlock (.slice tx.A tx.n tx.c) = some k → k ≠ bP := fun k h1 e => by have a1 := (ox.lt k h1).2; omega
        have p_y_P : ∀ k, Value.ownBlock (.slice ty.A ty.n ty.c) = some k → k ≠ bP := fun k h1 e => by have a1 := (oy.lt k h1).2; omega
        have p_z_P : ∀ k, Value.ownBlock (.slice tz.A tz.n tz.c) = some k → k ≠ bP := fun k h1 e => by have a1 := (oz.lt k h1).2; omega
        have p_E_P : bE ≠ bP := by have := BE.lt; omega
        have p_F_P : bF ≠ bP := by have := BF.lt; omega
        replace hB := hB.ext hx
        replace hR := hR.ext hx
        replace ox := ox.ext hx
        replace oy := oy.ext hx
        replace oz := oz.ext hx
        replace BE := BE.ext hx
        replace BF := BF.ext hx
        replace hX := hX.trans hx
        refine hK _ _ ⟨fun _ => hB.c3, ?_⟩
        clear hK K hx hb hw
        revert p_F_P; revert p_E_P; revert p_E_F; revert p_z_P; revert p_z_F; revert p_z_E; revert p_y_P; revert p_y_F; revert p_y_E; revert p_x_P; revert p_x_F; revert p_x_E; revert p_y_z; revert p_x_z; revert p_x_y; revert lP; revert lF; revert lE; revert BP; revert BF; revert BE; revert oz; revert oy; revert ox; revert hR; revert hB; revert hX; revert bP; revert bF; revert bE; revert tg; revert tz; revert ty; revert tx; revert w_16n
        clear w_15
        refine ?na_25
        rotate_left 1
        -- na_24
        intro w_14 tg tx ty bE bF bP hX hB hR og ox oy BE BF BP lE lF lP p_g_x p_g_y p_x_y p_g_E p_g_F p_g_P p_x_E p_x_F p_x_P p_y_E p_y_F p_y_P p_E_F p_E_P p_F_P
        refine wpAnyT_go (i := 13) rfl (by kernel_rfl) fun K hK => ?_
        refine step_app _ rfl (.tmp 39) (.tmp 41) rfl _ _ _ rfl og _ _ _ [x] rfl BF.rd1 (by have := hbd3.out; omega) (by have := hR.lt; omega) ?_
        intro tz w_15n oz hg hb
        have gb : ∀ k, Value.ownBlock (.slice tz.A tz.n tz.c) = some k → Value.ownBlock (.slice tg.A tg.n tg.c) = some k ∨ k = w_14.heap.size := (fun k hk => by rcases hb with h | h; exact Or.inl (h.symm.trans hk); exact Or.inr (by rw [h] at hk; injection hk with hk; exact hk.symm))
        have p_x_z : apart (.slice tx.A tx.n tx.c) (.slice tz.A tz.n tz.c) := fun k h1 h2 => by rcases gb k h2 with h | h; exact p_g_x k h h1; (have := (ox.lt k h1).2; omega)
        have p_y_z : apart (.slice ty.A ty.n ty.c) (.slice tz.A tz.n tz.c) := fun k h1 h2 => by rcases gb k h2 with h | h; exact p_g_y k h h1; (have := (oy.lt k h1).2; omega)
        have p_z_E : ∀ k, Value.ownBlock (.slice tz.A tz.n tz.c) = some k → k ≠ bE := fun k h1 e => by rcases gb k h1 with h | h; exact p_g_E k h e; (have := BE.lt; omega)
        have p_z_F : ∀ k, Value.ownBlock (.slice tz.A tz.n tz.c) = some k → k ≠ bF := fun k h1 e => by rcases gb k h1 with h | h; exact p_g_F k h e; (have := BF.lt; omega)
        have p_z_P : ∀ k, Value.ownBlock (.slice tz.A tz.n tz.c) = some k → k ≠ bP := fun k h1 e => by rcases gb k h1 with h | h; exact p_g_P k h e; (have := BP.lt; omega)
        replace hB := hB.fr (Fr.of_grown hg) (fun e => by have := (og.lt _ e).1; omega)
        replace hR := hR.fr (Fr.of_grown hg) (fun e => by have := (og.lt _ e).1; omega)
        replace ox := ox.fr (Fr.of_grown hg) (fun k h1 h2 => p_g_x k h2 h1)
        replace oy := oy.fr (Fr.of_grown hg) (fun k h1 h2 => p_g_y k h2 h1)
        replace BE := BE.fr (Fr.of_grown hg) (fun e => p_g_E _ e rfl)
        replace BF := BF.fr (Fr.of_grown hg) (fun e => p_g_F _ e rfl)
        replace BP := BP.fr (Fr.of_grown hg) (fun e => p_g_P _ e rfl)
        replace hX := hX.grow hg (fun k hk => by have := (og.lt k hk).1; omega)
        refine hK _ _ ⟨fun _ => hB.c3, ?_⟩
        clear hK K hg hb gb
        clear p_g_x p_g_y p_g_E p_g_F p_g_P og
        have kk := hB.c3
        refine wpAnyT_takeL (i := 14) 7 (v := ?_) rfl (by kernel_rfl) (by kernel_rfl) (by kernel_rfl) (by kernel_rfl) (by kernel_rfl) (fun _ _ _ h => h) (Or.inl ⟨by rfl, ?_⟩) kk ?_
        rotate_left 1
        · (intro W hSw; (try dsimp only at hSw); go_simp) <;> with_reducible rfl
        clear kk
        try simp only [Act.put, List.setIfInBounds_toArray, List.set_cons_zero, List.set_cons_succ]
        revert p_F_P; revert p_E_P; revert p_E_F; revert p_z_P; revert p_z_F; revert p_z_E; revert p_y_P; revert p_y_F; revert p_y_E; revert p_x_P; revert p_x_F; revert p_x_E; revert p_y_z; revert p_x_z; revert p_x_y; revert lP; revert lF; revert lE; revert BP; revert BF; revert BE; revert oz; revert oy; revert ox; revert hR; revert hB; revert hX; revert bP; revert bF; revert bE; revert tg; revert tz; revert ty; revert tx; revert w_15n
        clear w_14
        exact ?na_25
        -- na_25
        intro w_16 tx ty tz tg bE bF bP hX hB hR ox oy oz BE BF BP lE lF lP p_x_y p_x_z p_y_z p_x_E p_x_F p_x_P p_y_E p_y_F p_y_P p_z_E p_z_F p_z_P p_E_F p_E_P p_F_P
        refine wpAnyT_go (i := 16) rfl (by kernel_rfl) fun K hK => ?_
        obtain ⟨q0, q1, q2, q3, q4, q5⟩ := res3 BP
        go_simp
        refine hK _ _ ⟨fun h => absurd rfl h, ?_⟩
        clear hK K
        refine wpAnyT_done (by kernel_rfl) ?_ _
        go_wp2_with fail
        go_meet
        have hlen : tx.n + (ty.n + tz.n) ≤ 2097152 := by
          have e1 := ox.rd.1
          have e2 := oy.rd.1
          have e3 := oz.rd.1
          rw [List.length_append, List.length_singleton] at e3
          have h1 := hlx.out
          have h2 := hly.out
          have h3 := hlz.out
          have h4 := hsm.out
          have h5 := hly2.out
          omega
        have n1' : Value.ownBlock (.slice tx.A tx.n tx.c) ≠ some bP := fun e => p_x_P _ e rfl
        have n2' : Value.ownBlock (.slice ty.A ty.n ty.c) ≠ some bP := fun e => p_y_P _ e rfl
        have n3' : Value.ownBlock (.slice tz.A tz.n tz.c) ≠ some bP := fun e => p_z_P _ e rfl
        exact ⟨bP, ⟨tx, ty, tz⟩, rfl, ((BP.set_ 0 _).set_ 1 _).set_ 2 _, ⟨((ox.away n1' 0 _).away n1' 1 _).away n1' 2 _, ((oy.away n2' 0 _).away n2' 1 _).away n2' 2 _, ((oz.away n3' 0 _).away n3' 1 _).away n3' 2 _, hlen, p_x_y, p_x_z, p_y_z⟩,
          ((hX.off bP 0 (by omega) _).off bP 1 (by omega) _).off bP 2 (by omega) _, ((hB.off bP 0 (by omega) _).off bP 1 (by omega) _).off bP 2 (by omega) _, ((hR.off bP 0 (by omega) _).off bP 1 (by omega) _).off bP 2 (by omega) _, lP, fun k hk => Or.elim hk (fun h => p_x_P k h) (fun h => Or.elim h (fun h => p_y_P k h) (fun h => p_z_P k h))⟩
      case rest =>
        obtain ⟨g, ⟨⟨T1, m1, d1⟩, s2, s3⟩, rfl, hO, h3, hX, hB, hR, hg, ha⟩ := hcut
        obtain ⟨o1, o2, o3, htot, a12, a13, a23⟩ := h3
        simp only at o1 o2 o3 htot a12 a13 a23 hO
        have hm1 : m1 = l.x.length := o1.rd.1
        have hkm : k < m1 := by omega
        have hkm1 : (k : Int) < (m1 : Int) := by omega
        obtain ⟨g1, rfl, hg1, hg1s, ⟨u1, hu1⟩, hf1', hput⟩ := o1.put hkm
        have n1g : g1 ≠ g := ha g1 (.inl rfl)
        have ha1 : ∀ j, Value.ownBlock (.slice (some ⟨g1, 0, none⟩) m1 d1) = some j → j ≠ g := fun j h => ha j (.inl h)
        have ha3 : ∀ j, Value.ownBlock (.slice s3.A s3.n s3.c) = some j → j ≠ g := fun j h => ha j (.inr (.inr h))
        have nb2 : Value.ownBlock (.slice s2.A s2.n s2.c) ≠ some g1 := a12 g1 rfl
        have nb3 : Value.ownBlock (.slice s3.A s3.n s3.c) ≠ some g1 := a13 g1 rfl
        have p1 := hput 0
        have p2 := o2.away nb2 k (.int .i64 0)
        have p3 := o3.away nb3 k (.int .i64 0)
        have pX := hX.off g1 k (by omega) (.int .i64 0)
        have pB := hB.off g1 k (by omega) (.int .i64 0)
        have pR := hR.off g1 k (by omega) (.int .i64 0)
        have pO := hO.off g1 k (by omega) (.int .i64 0)
        obtain ⟨b0, b1, b2'⟩ := hO.c3
        obtain ⟨v0, v1, v2⟩ := pO.c3
        obtain ⟨q0, q1, q2⟩ := pB.c3
        clear hm1
        by_cases hn2 : n2 = 0
        · have hy0 := hide (show l.y = [] from List.eq_nil_of_length_eq_zero (by have := hly.out; omega))
          subst hn2
          obtain ⟨r0, r1, r2, r3, r4, r5⟩ := res3 pR
          go_wp2_with fail
          have hRn := ((pR.set_ 0 (.slice (some ⟨g1, 0, none⟩) m1 d1)).set_ 1 (.slice s2.A s2.n s2.c)).set_ 2 (.slice s3.A s3.n s3.c)
          obtain ⟨n0, n1', n2'⟩ := hRn.c3
          refine bodyPost_ret (v := .tuple #[.agg #[.slice (⟨⟨some ⟨g1, 0, none⟩, m1, d1⟩, s2, s3⟩ : S3).x.A (⟨⟨some ⟨g1, 0, none⟩, m1, d1⟩, s2, s3⟩ : S3).x.n (⟨⟨some ⟨g1, 0, none⟩, m1, d1⟩, s2, s3⟩ : S3).x.c, .slice (⟨⟨some ⟨g1, 0, none⟩, m1, d1⟩, s2, s3⟩ : S3).y.A (⟨⟨some ⟨g1, 0, none⟩, m1, d1⟩, s2, s3⟩ : S3).y.n (⟨⟨some ⟨g1, 0, none⟩, m1, d1⟩, s2, s3⟩ : S3).y.c, .slice (⟨⟨some ⟨g1, 0, none⟩, m1, d1⟩, s2, s3⟩ : S3).z.A (⟨⟨some ⟨g1, 0, none⟩, m1, d1⟩, s2, s3⟩ : S3).z.n (⟨⟨some ⟨g1, 0, none⟩, m1, d1⟩, s2, s3⟩ : S3).z.c], .int .i64 0]) (by simp [results, Try.results81, go_sem, n0, n1', n2']) rfl ⟨(⟨⟨some ⟨g1, 0, none⟩, m1, d1⟩, s2, s3⟩ : S3), by rw [E2.out], ?_, ((pX.off (w.heap.size + 1) 0 (by omega) _).off (w.heap.size + 1) 1 (by omega) _).off (w.heap.size + 1) 2 (by omega) _⟩
          rw [E1.out, hy0.out]
          rw [hy0.out] at p2
          exact Own3.mono (((Own3.awayP (p := ⟨⟨some ⟨g1, 0, none⟩, m1, d1⟩, s2, s3⟩) (l := ⟨l.x.set k 0, [], l.z ++ [x]⟩) (lo := w.heap.size + 1 + 1) ⟨p1, p2, p3, htot, a12, a13, a23⟩ (g := w.heap.size + 1) (by omega) 0 _).awayP (g := w.heap.size + 1) (by omega) 1 _).awayP (g := w.heap.size + 1) (by omega) 2 _) (by omega)
        · have hn20 : (0 : Int) < (n2 : Int) := by omega
          obtain ⟨b2, off2, y0, rfl, hb2, hcy, hy0⟩ := ry.el (k := 0) (by omega)
          rw [Nat.add_zero] at hcy
          have hc21 : n2 ≤ c2 := cy.1
          have hset := hide (show (l.x.set k 0).set k y0 = l.x.set k (l.y.headD 0) by
            rw [List.set_set]
            congr 1
            have h := hy0.out
            cases hl : l.y
            · rw [hl] at h; cases h
            · rw [hl] at h; injection h with h; exact h.symm)
          have htl := hide (show l.y.drop 1 = l.y.tail by simp)
          have hac1 : 1 ≤ n2 := by omega
          go_upto_region 54 with fail
          clear b0 b1 b2' v0 v1 v2 q0 q1 q2 hu1
          replace p1 := p1.drew
          replace p3 := p3.drew
          replace pX := pX.drew
          replace pB := pB.drew
          replace pR := pR.drew
          replace pO := pO.drew
          clear p2
          refine wp_region_sink (S := fun w' => w'.cell? ⟨g, 0, none⟩ = some (.slice (some ⟨g1, 0, none⟩) m1 d1) ∧ w'.cell? ⟨w.heap.size, 1, none⟩ = some (.slice (some ⟨b2, off2, none⟩) n2 c2) ∧ w'.cell? ⟨b2, off2, none⟩ = some (.int .i64 y0)) 14 (by kernel_rfl) ?_
          change wpAnyT _ _ _ _ _ _ _ _ _ (World.drew _)
          generalize hwd : World.drew _ = wf at p1 p3 pX pB pR pO ⊢
          clear hwd
          have kk := And.intro (pO.get 0 _ rfl) (And.intro (pB.get 1 _ rfl) ((pX.cell (p := ⟨b2, off2, none⟩) hb2).trans hcy))
          refine wpAnyT_takeL (i := 0) 7 (v := ?_) rfl (by kernel_rfl) (by kernel_rfl) (by kernel_rfl) (by kernel_rfl) (by kernel_rfl) (fun _ _ _ h => h) (Or.inl ⟨by rfl, ?_⟩) kk ?_
          rotate_left 1
          · (intro W hSw; (try dsimp only at hSw); go_simp) <;> with_reducible rfl
          try simp only [Act.put, List.setIfInBounds_toArray, List.set_cons_zero, List.set_cons_succ]
          refine wpAnyT_takeL (i := 1) 7 (v := ?_) rfl (by kernel_rfl) (by kernel_rfl) (by kernel_rfl) (by kernel_rfl) (by kernel_rfl) (fun _ _ _ h => h) (Or.inl ⟨by rfl, ?_⟩) kk ?_
          rotate_left 1
          · (intro W hSw; (try dsimp only at hSw); go_simp) <;> with_reducible rfl
          try simp only [Act.put, List.setIfInBounds_toArray, List.set_cons_zero, List.set_cons_succ]
          refine wpAnyT_takeL (i := 2) 7 (v := ?_) rfl (by kernel_rfl) (by kernel_rfl) (by kernel_rfl) (by kernel_rfl) (by kernel_rfl) (fun _ _ _ h => h) (Or.inl ⟨by rfl, ?_⟩) kk ?_
          rotate_left 1
          · (intro W hSw; (try dsimp only at hSw); go_simp) <;> with_reducible rfl
          try simp only [Act.put, List.setIfInBounds_toArray, List.set_cons_zero, List.set_cons_succ]
          refine wpAnyT_takeL (i := 3) 7 (v := ?_) rfl (by kernel_rfl) (by kernel_rfl) (by kernel_rfl) (by kernel_rfl) (by kernel_rfl) (fun _ _ _ h => h) (Or.inl ⟨by rfl, ?_⟩) kk ?_
          rotate_left 1
          · (intro W hSw; (try dsimp only at hSw); go_simp) <;> with_reducible rfl
          try simp only [Act.put, List.setIfInBounds_toArray, List.set_cons_zero, List.set_cons_succ]
          refine wpAnyT_takeL (i := 4) 7 (v := ?_) rfl (by kernel_rfl) (by kernel_rfl) (by kernel_rfl) (by kernel_rfl) (by kernel_rfl) (fun _ _ _ h => h) (Or.inl ⟨by rfl, ?_⟩) kk ?_
          rotate_left 1
          · (intro W hSw; (try dsimp only at hSw); go_simp) <;> with_reducible rfl
          try simp only [Act.put, List.setIfInBounds_toArray, List.set_cons_zero, List.set_cons_succ]
          refine wpAnyT_takeL (i := 5) 7 (v := ?_) rfl (by kernel_rfl) (by kernel_rfl) (by kernel_rfl) (by kernel_rfl) (by kernel_rfl) (fun _ _ _ h => h) (Or.inl ⟨by rfl, ?_⟩) kk ?_
          rotate_left 1
          · (intro W hSw; (try dsimp only at hSw); go_simp) <;> with_reducible rfl
          try simp only [Act.put, List.setIfInBounds_toArray, List.set_cons_zero, List.set_cons_succ]
          refine wpAnyT_takeL (i := 6) 7 (v := ?_) rfl (by kernel_rfl) (by kernel_rfl) (by kernel_rfl) (by kernel_rfl) (by kernel_rfl) (fun _ _ _ h => h) (Or.inl ⟨by rfl, ?_⟩) kk ?_
          rotate_left 1
          · (intro W hSw; (try dsimp only at hSw); go_simp) <;> with_reducible rfl
          try simp only [Act.put, List.setIfInBounds_toArray, List.set_cons_zero, List.set_cons_succ]
          refine wpAnyT_takeL (i := 7) 7 (v := ?_) rfl (by kernel_rfl) (by kernel_rfl) (by kernel_rfl) (by kernel_rfl) (by kernel_rfl) (fun _ _ _ h => h) (Or.inl ⟨by rfl, ?_⟩) kk ?_
          rotate_left 1
          · (intro W hSw; (try dsimp only at hSw); go_simp) <;> with_reducible rfl
          try simp only [Act.put, List.setIfInBounds_toArray, List.set_cons_zero, List.set_cons_succ]
          refine wpAnyT_takeL (i := 8) 7 (v := ?_) rfl (by kernel_rfl) (by kernel_rfl) (by kernel_rfl) (by kernel_rfl) (by kernel_rfl) (fun _ _ _ h => h) (Or.inl ⟨by rfl, ?_⟩) kk ?_
          rotate_left 1
          · (intro W hSw; (try dsimp only at hSw); go_simp) <;> with_reducible rfl
          try simp only [Act.put, List.setIfInBounds_toArray, List.set_cons_zero, List.set_cons_succ]
          refine wpAnyT_takeL (i := 9) 7 (v := ?_) rfl (by kernel_rfl) (by kernel_rfl) (by kernel_rfl) (by kernel_rfl) (by kernel_rfl) (fun _ _ _ h => h) (Or.inl ⟨by rfl, ?_⟩) kk ?_
          rotate_left 1
          · intro W _; (refine (run_from W (.tmp 62) (.const (.int .i64 1)) ?_ (some ⟨b2, off2, none⟩) n2 c2 ?_ 1 ?_ hac1)); all_goals rfl
          try simp only [Act.put, List.setIfInBounds_toArray, List.set_cons_zero, List.set_cons_succ]
          refine wpAnyT_go (i := 10) rfl (by kernel_rfl) fun K hK => ?_
          go_simp
          go_at_call 88
          refine (impl.clone_any ⟨fromA (some ⟨b2, off2, none⟩) c2 1, n2 - 1, c2 - 1⟩ (l.y.drop 1) _ (Rd.from_ _ (ry.ext pX) hac1 hc21)).mono ?_
          rintro e wb ⟨tb, rfl, ob, hx⟩
          go_simp
          have pb1 : apart (.slice (some ⟨g1, 0, none⟩) m1 d1) (.slice tb.A tb.n tb.c) := fun j h1 h2 => by have a1 := (p1.lt j h1).2; have a2 := (ob.lt j h2).1; omega
          have pb3 : apart (.slice tb.A tb.n tb.c) (.slice s3.A s3.n s3.c) := fun j h1 h2 => by have a1 := (p3.lt j h2).2; have a2 := (ob.lt j h1).1; omega
          have zb := pO.lt
          have pbg : ∀ j, Value.ownBlock (.slice tb.A tb.n tb.c) = some j → j ≠ g := fun j h1 e => by have a2 := (ob.lt j h1).1; omega
          have z0 := pR.lt
          replace ob := Own.mono (lo' := w.heap.size + 1 + 1) ob (by omega)
          replace pO := pO.ext hx
          replace p1 := p1.ext hx
          replace p3 := p3.ext hx
          replace pB := pB.ext hx
          replace pR := pR.ext hx
          replace pX := pX.trans hx
          have kk2 := And.intro (pO.get 0 _ rfl) (And.intro (pB.get 1 _ rfl) ((pX.cell (p := ⟨b2, off2, none⟩) hb2).trans hcy))
          refine hK _ _ ⟨fun _ => kk2, ?_⟩
          clear hK K kk
          refine wpAnyT_takeL (i := 11) 7 (v := ?_) rfl (by kernel_rfl) (by kernel_rfl) (by kernel_rfl) (by kernel_rfl) (by kernel_rfl) (fun _ _ _ h => h) (Or.inl ⟨by rfl, ?_⟩) kk2 ?_
          rotate_left 1
          · (intro W hSw; (try dsimp only at hSw); go_simp) <;> with_reducible rfl
          try simp only [Act.put, List.setIfInBounds_toArray, List.set_cons_zero, List.set_cons_succ]
          refine wpAnyT_go (i := 12) rfl (by kernel_rfl) fun K hK => ?_
          obtain ⟨g1', eg, _, _, ⟨u2, hu2⟩, hf2', hput2⟩ := p1.put hkm
          injection eg with eg
          injection eg with eg
          subst eg
          go_simp
          have hO := pO.off g1 k (by omega) (.int .i64 y0)
          have hX := pX.off g1 k (by omega) (.int .i64 y0)
          have hB := pB.off g1 k (by omega) (.int .i64 y0)
          have hR := pR.off g1 k (by omega) (.int .i64 y0)
          have o1 := hput2 y0
          have o2 := ob.away (g := g1) (fun e => pb1 g1 rfl e) k (.int .i64 y0)
          have o3 := p3.away nb3 k (.int .i64 y0)
          have kk3 := And.intro (hO.get 0 _ rfl) (And.intro (hB.get 1 _ rfl) ((hX.cell (p := ⟨b2, off2, none⟩) hb2).trans hcy))
          refine hK _ _ ⟨fun _ => kk3, ?_⟩
          clear hK K p1 p3 pX pB pR pO hput2 kk2
          refine wpAnyT_takeL (i := 13) 7 (v := ?_) rfl (by kernel_rfl) (by kernel_rfl) (by kernel_rfl) (by kernel_rfl) (by kernel_rfl) (fun _ _ _ h => h) (Or.inl ⟨by rfl, ?_⟩) kk3 ?_
          rotate_left 1
          · (intro W hSw; (try dsimp only at hSw); go_simp) <;> with_reducible rfl
          try simp only [Act.put, List.setIfInBounds_toArray, List.set_cons_zero, List.set_cons_succ]
          refine wpAnyT_go (i := 14) rfl (by kernel_rfl) fun K hK => ?_
          have u0 := hO.frozen 1
          obtain ⟨v0, v1, v2⟩ := hO.c3
          go_simp
          refine hK _ _ ⟨fun h => absurd rfl h, ?_⟩
          clear hK K
          refine wpAnyT_done (by kernel_rfl) ?_ _
          clear v0 v1 v2 kk3 hu2
          have hO2 := hO.set_ 1 (.slice tb.A tb.n tb.c)
          have hR2 := hR.off g 1 (by omega) (.slice tb.A tb.n tb.c)
          have hX2 := hX.off g 1 (by omega) (.slice tb.A tb.n tb.c)
          have y1_ := o1.away (g := g) (fun e => ha1 _ e rfl) 1 (.slice tb.A tb.n tb.c)
          have y2_ := o2.away (g := g) (fun e => pbg _ e rfl) 1 (.slice tb.A tb.n tb.c)
          have y3_ := o3.away (g := g) (fun e => ha3 _ e rfl) 1 (.slice tb.A tb.n tb.c)
          obtain ⟨v0, v1, v2⟩ := hO2.c3
          have hlen : m1 + (tb.n + s3.n) ≤ 2097152 := by
            have d1_ := y1_.rd.1
            have d2 := y2_.rd.1
            have d3 := y3_.rd.1
            simp only [List.length_set] at d1_
            rw [List.length_drop] at d2
            rw [List.length_append, List.length_singleton] at d3
            have h4 := hsm.out
            omega
          obtain ⟨r0, r1, r2, r3, r4, r5⟩ := res3 hR2
          go_wp2_with fail
          have hRn := ((hR2.set_ 0 (.slice (some ⟨g1, 0, none⟩) m1 d1)).set_ 1 (.slice tb.A tb.n tb.c)).set_ 2 (.slice s3.A s3.n s3.c)
          obtain ⟨n0, n1', n2'⟩ := hRn.c3
          refine bodyPost_ret (v := .tuple #[.agg #[.slice (⟨⟨some ⟨g1, 0, none⟩, m1, d1⟩, tb, s3⟩ : S3).x.A (⟨⟨some ⟨g1, 0, none⟩, m1, d1⟩, tb, s3⟩ : S3).x.n (⟨⟨some ⟨g1, 0, none⟩, m1, d1⟩, tb, s3⟩ : S3).x.c, .slice (⟨⟨some ⟨g1, 0, none⟩, m1, d1⟩, tb, s3⟩ : S3).y.A (⟨⟨some ⟨g1, 0, none⟩, m1, d1⟩, tb, s3⟩ : S3).y.n (⟨⟨some ⟨g1, 0, none⟩, m1, d1⟩, tb, s3⟩ : S3).y.c, .slice (⟨⟨some ⟨g1, 0, none⟩, m1, d1⟩, tb, s3⟩ : S3).z.A (⟨⟨some ⟨g1, 0, none⟩, m1, d1⟩, tb, s3⟩ : S3).z.n (⟨⟨some ⟨g1, 0, none⟩, m1, d1⟩, tb, s3⟩ : S3).z.c], .int .i64 0]) (by simp [results, Try.results81, go_sem, n0, n1', n2']) rfl ⟨(⟨⟨some ⟨g1, 0, none⟩, m1, d1⟩, tb, s3⟩ : S3), by rw [E2.out], ?_, ((hX2.off (w.heap.size + 1) 0 (by omega) _).off (w.heap.size + 1) 1 (by omega) _).off (w.heap.size + 1) 2 (by omega) _⟩
          rw [E1.out, ← hset.out, ← htl.out]
          exact Own3.mono (((Own3.awayP (p := ⟨⟨some ⟨g1, 0, none⟩, m1, d1⟩, tb, s3⟩) (l := ⟨(l.x.set k 0).set k y0, l.y.drop 1, l.z ++ [x]⟩) (lo := w.heap.size + 1 + 1) ⟨y1_, y2_, y3_, hlen, pb1, a13, pb3⟩ (g := w.heap.size + 1) (by omega) 0 _).awayP (g := w.heap.size + 1) (by omega) 1 _).awayP (g := w.heap.size + 1) (by omega) 2 _) (by omega)
  · have hpl : plc l.x x = -1 := if_neg hmx
    rw [hpl] at hf1
    clear hpl
    by_cases hmy : x ∈ l.y
    · have hb2 : hasB l.y x = true := decide_eq_true hmy
      rw [hb2] at hf2
      clear hb2
      by_cases h60 : l.z.length = 60
      · have E2 := hide (show lvC l x = 3 by unfold lvC; rw [if_pos (.inr hmy), if_pos h60])
        have h60b : ((n3 : Int) == 60) = true := by have : (n3 : Int) = 60 := by have := hlz.out; omega
                                                    simpa using this
        clear h60
        have E1 := hide (lvW_no E2.out (by decide))
        obtain ⟨q0, q1, q2⟩ := hB0.c3
        have hRn := hR0
        obtain ⟨r0, r1, r2, r3, r4, r5⟩ := res3 hR0
        subst hw1
        go_enter Try.func81, Try.ntmps81
        go_wp2_with (first | (go_at_call 117; refine (hf1 _ (rx.ext hX0)).mono ?_; rintro e w' ⟨rfl, rfl⟩) | (go_at_call 75; refine (hf2 _ (ry.ext hX0)).mono ?_; rintro e w' ⟨rfl, rfl⟩))
        obtain ⟨n0, n1', n2'⟩ := hRn.c3
        refine bodyPost_ret (v := .tuple #[.agg #[.slice (⟨⟨none, 0, 0⟩, ⟨none, 0, 0⟩, ⟨none, 0, 0⟩⟩ : S3).x.A (⟨⟨none, 0, 0⟩, ⟨none, 0, 0⟩, ⟨none, 0, 0⟩⟩ : S3).x.n (⟨⟨none, 0, 0⟩, ⟨none, 0, 0⟩, ⟨none, 0, 0⟩⟩ : S3).x.c, .slice (⟨⟨none, 0, 0⟩, ⟨none, 0, 0⟩, ⟨none, 0, 0⟩⟩ : S3).y.A (⟨⟨none, 0, 0⟩, ⟨none, 0, 0⟩, ⟨none, 0, 0⟩⟩ : S3).y.n (⟨⟨none, 0, 0⟩, ⟨none, 0, 0⟩, ⟨none, 0, 0⟩⟩ : S3).y.c, .slice (⟨⟨none, 0, 0⟩, ⟨none, 0, 0⟩, ⟨none, 0, 0⟩⟩ : S3).z.A (⟨⟨none, 0, 0⟩, ⟨none, 0, 0⟩, ⟨none, 0, 0⟩⟩ : S3).z.n (⟨⟨none, 0, 0⟩, ⟨none, 0, 0⟩, ⟨none, 0, 0⟩⟩ : S3).z.c], .int .i64 3]) (by simp [results, Try.results81, go_sem, n0, n1', n2']) rfl ⟨(⟨⟨none, 0, 0⟩, ⟨none, 0, 0⟩, ⟨none, 0, 0⟩⟩ : S3), by rw [E2.out], by rw [E1.out]; exact Own3.nil3_ _ _, hX0⟩
      · have E2 := hide (show lvC l x = 0 by unfold lvC; rw [if_pos (.inr hmy), if_neg h60])
        have E1 := hide (show lvW l x = ⟨l.x, kp [x] l.y, l.z ++ [x]⟩ by rw [lvW_yes E2.out]; unfold lvV; rw [if_neg hmx, kp_idx (okJ_y hok)])
        have h60b : ((n3 : Int) == 60) = false := by have : ¬ (n3 : Int) = 60 := by have := hlz.out; omega
                                                     simpa using this
        clear h60 hmx hmy
        obtain ⟨q0, q1, q2⟩ := hB0.c3
        subst hw1
        go_enter Try.func81, Try.ntmps81
        go_upto_region 29 with (first | (go_at_call 117; refine (hf1 _ (rx.ext hX0)).mono ?_; rintro e w' ⟨rfl, rfl⟩) | (go_at_call 75; refine (hf2 _ (ry.ext hX0)).mono ?_; rintro e w' ⟨rfl, rfl⟩))
        clear q0 q1 q2
        have hX := hX0.drew
        have hB := hB0.drew
        have hR := hR0.drew
        clear hX0 hB0 hR0 hz1
        go_cut [7] (fun s7 wx => LvPost w #[.slice A1 n1 c1, .slice A2 n2 c2, .slice A3 n3 c3] ⟨l.x, kp [x] l.y, l.z ++ [x]⟩ s7 wx)
        case first =>
          refine wp_region_sink (S := fun w' => w'.cell? ⟨w.heap.size, 0, none⟩ = some (.slice A1 n1 c1) ∧ w'.cell? ⟨w.heap.size, 1, none⟩ = some (.slice A2 n2 c2) ∧ w'.cell? ⟨w.heap.size, 2, none⟩ = some (.slice A3 n3 c3)) 16 (by kernel_rfl) ?_
          change wpAnyT _ _ _ _ _ _ _ _ _ (World.drew _)
          generalize hwd : World.drew _ = we at hX hB hR ⊢
          clear hwd
          have kk := hB.c3
          refine wpAnyT_takeL (i := 0) 7 (v := ?_) rfl (by kernel_rfl) (by kernel_rfl) (by kernel_rfl) (by kernel_rfl) (by kernel_rfl) (fun _ _ _ h => h) (Or.inl ⟨by rfl, ?_⟩) kk ?_
          rotate_left 1
          · (intro W hSw; (try dsimp only at hSw); go_simp) <;> with_reducible rfl
          clear kk
          try simp only [Act.put, List.setIfInBounds_toArray, List.set_cons_zero, List.set_cons_succ]
          have kk := hB.c3
          refine wpAnyT_takeL (i := 1) 7 (v := ?_) rfl (by kernel_rfl) (by kernel_rfl) (by kernel_rfl) (by kernel_rfl) (by kernel_rfl) (fun _ _ _ h => h) (Or.inl ⟨by rfl, ?_⟩) kk ?_
          rotate_left 1
          · (intro W hSw; (try dsimp only at hSw); go_simp) <;> with_reducible rfl
          clear kk
          try simp only [Act.put, List.setIfInBounds_toArray, List.set_cons_zero, List.set_cons_succ]
          have kk := hB.c3
          refine wpAnyT_takeL (i := 3) 7 (v := ?_) rfl (by kernel_rfl) (by kernel_rfl) (by kernel_rfl) (by kernel_rfl) (by kernel_rfl) (fun _ _ _ h => h) (Or.inl ⟨by rfl, ?_⟩) kk ?_
          rotate_left 1
          · (intro W hSw; (try dsimp only at hSw); go_simp) <;> with_reducible rfl
          clear kk
          try simp only [Act.put, List.setIfInBounds_toArray, List.set_cons_zero, List.set_cons_succ]
          have kk := hB.c3
          refine wpAnyT_takeL (i := 4) 7 (v := ?_) rfl (by kernel_rfl) (by kernel_rfl) (by kernel_rfl) (by kernel_rfl) (by kernel_rfl) (fun _ _ _ h => h) (Or.inl ⟨by rfl, ?_⟩) kk ?_
          rotate_left 1
          · (intro W hSw; (try dsimp only at hSw); go_simp) <;> with_reducible rfl
          clear kk
          try simp only [Act.put, List.setIfInBounds_toArray, List.set_cons_zero, List.set_cons_succ]
          have kk := hB.c3
          refine wpAnyT_takeL (i := 5) 7 (v := ?_) rfl (by kernel_rfl) (by kernel_rfl) (by kernel_rfl) (by kernel_rfl) (by kernel_rfl) (fun _ _ _ h => h) (Or.inl ⟨by rfl, ?_⟩) kk ?_
          rotate_left 1
          · (intro W hSw; (try dsimp only at hSw); go_simp) <;> with_reducible rfl
          clear kk
          try simp only [Act.put, List.setIfInBounds_toArray, List.set_cons_zero, List.set_cons_succ]
          have kk := hB.c3
          refine wpAnyT_takeL (i := 8) 7 (v := ?_) rfl (by kernel_rfl) (by kernel_rfl) (by kernel_rfl) (by kernel_rfl) (by kernel_rfl) (fun _ _ _ h => h) (Or.inl ⟨by rfl, ?_⟩) kk ?_
          rotate_left 1
          · (intro W hSw; (try dsimp only at hSw); go_simp) <;> with_reducible rfl
          clear kk
          try simp only [Act.put, List.setIfInBounds_toArray, List.set_cons_zero, List.set_cons_succ]
          have kk := hB.c3
          refine wpAnyT_takeL (i := 9) 7 (v := ?_) rfl (by kernel_rfl) (by kernel_rfl) (by kernel_rfl) (by kernel_rfl) (by kernel_rfl) (fun _ _ _ h => h) (Or.inl ⟨by rfl, ?_⟩) kk ?_
          rotate_left 1
          · (intro W hSw; (try dsimp only at hSw); go_simp) <;> with_reducible rfl
          clear kk
          try simp only [Act.put, List.setIfInBounds_toArray, List.set_cons_zero, List.set_cons_succ]
          have kk := hB.c3
          refine wpAnyT_takeL (i := 11) 7 (v := ?_) rfl (by kernel_rfl) (by kernel_rfl) (by kernel_rfl) (by kernel_rfl) (by kernel_rfl) (fun _ _ _ h => h) (Or.inl ⟨by rfl, ?_⟩) kk ?_
          rotate_left 1
          · (intro W hSw; (try dsimp only at hSw); go_simp) <;> with_reducible rfl
          clear kk
          try simp only [Act.put, List.setIfInBounds_toArray, List.set_cons_zero, List.set_cons_succ]
          refine wpAnyT_go4 (i := 2) (j := 6) (k := 12) (m := 15) rfl rfl rfl rfl (by kernel_rfl) (fun K hK => ?_) (fun K hK => ?_) (fun K hK => ?_) (fun K hK => ?_)
          go_simp
          go_at_call 88
          refine (impl.clone_any ⟨A1, n1, c1⟩ l.x _ (rx.ext hX)).mono ?_
          rintro e w_9n ⟨tx, rfl, ox, hx⟩
          go_simp
          have z0 := hR.lt
          replace ox := Own.mono (lo' := (w.heap.size + 1 + 1)) ox (by omega)
          replace hB := hB.ext hx
          replace hR := hR.ext hx
          replace hX := hX.trans hx
          refine hK _ _ ⟨fun _ => hB.c3, ?_⟩
          clear hK K hx z0
          revert ox; revert hR; revert hB; revert hX; revert tx; revert w_9n
          refine ?nb_1
          rotate_left 1
          go_simp
          have hx := (Ext.refl we).alloc (.cells #[.int .i64 x] 2)
          have BE := Blk.new we 2 (#[.int .i64 x])
          obtain ⟨bE, hb⟩ : ∃ b, b = we.heap.size := ⟨_, rfl⟩
          generalize hw : World.alloc we (.cells #[.int .i64 x] 2) = w_9n at hx BE ⊢
          rw [← hb] at BE ⊢
          have lE : (w.heap.size + 1 + 1) ≤ bE := by have := hR.lt; omega
          replace hB := hB.ext hx
          replace hR := hR.ext hx
          replace hX := hX.trans hx
          refine hK _ _ ⟨fun _ => hB.c3, ?_⟩
          clear hK K hx hb hw
          revert lE; revert BE; revert hR; revert hB; revert hX; revert bE; revert w_9n
          refine ?nb_2
          rotate_left 1
          go_simp
          have hx := (Ext.refl we).alloc (.cells #[.int .i64 x] 2)
          have BF := Blk.new we 2 (#[.int .i64 x])
          obtain ⟨bF, hb⟩ : ∃ b, b = we.heap.size := ⟨_, rfl⟩
          generalize hw : World.alloc we (.cells #[.int .i64 x] 2) = w_9n at hx BF ⊢
          rw [← hb] at BF ⊢
          have lF : (w.heap.size + 1 + 1) ≤ bF := by have := hR.lt; omega
          replace hB := hB.ext hx
          replace hR := hR.ext hx
          replace hX := hX.trans hx
          refine hK _ _ ⟨fun _ => hB.c3, ?_⟩
          clear hK K hx hb hw
          revert lF; revert BF; revert hR; revert hB; revert hX; revert bF; revert w_9n
          refine ?nb_3
          rotate_left 1
          go_simp
          have hx := (Ext.refl we).alloc (.cells #[.slice none 0 0, .slice none 0 0, .slice none 0 0] 26)
          have BP := Blk.new we 26 (#[.slice none 0 0, .slice none 0 0, .slice none 0 0])
          obtain ⟨bP, hb⟩ : ∃ b, b = we.heap.size := ⟨_, rfl⟩
          generalize hw : World.alloc we (.cells #[.slice none 0 0, .slice none 0 0, .slice none 0 0] 26) = w_9n at hx BP ⊢
          rw [← hb] at BP ⊢
          have lP : (w.heap.size + 1 + 1) ≤ bP := by have := hR.lt; omega
          replace hB := hB.ext hx
          replace hR := hR.ext hx
          replace hX := hX.trans hx
          refine hK _ _ ⟨fun _ => hB.c3, ?_⟩
          clear hK K hx hb hw
          revert lP; revert BP; revert hR; revert hB; revert hX; revert bP; revert w_9n
          refine ?nb_4
          rotate_left 1
          -- nb_1
          intro w_9 tx hX hB hR ox
          refine wpAnyT_go3 (i := 6) (j := 12) (k := 15) rfl rfl rfl (by kernel_rfl) (fun K hK => ?_) (fun K hK => ?_) (fun K hK => ?_)
          go_simp
          have hx := (Ext.refl w_9).alloc (.cells #[.int .i64 x] 2)
          have BE := Blk.new w_9 2 (#[.int .i64 x])
          obtain ⟨bE, hb⟩ : ∃ b, b = w_9.heap.size := ⟨_, rfl⟩
          generalize hw : World.alloc w_9 (.cells #[.int .i64 x] 2) = w_10n at hx BE ⊢
          rw [← hb] at BE ⊢
          have lE : (w.heap.size + 1 + 1) ≤ bE := by have := hR.lt; omega
          have p_x_E : ∀ k, Value.ownBlock (.slice tx.A tx.n tx.c) = some k → k ≠ bE := fun k h1 e => by have a1 := (ox.lt k h1).2; omega
          replace hB := hB.ext hx
          replace hR := hR.ext hx
          replace ox := ox.ext hx
          replace hX := hX.trans hx
          refine hK _ _ ⟨fun _ => hB.c3, ?_⟩
          clear hK K hx hb hw
          revert p_x_E; revert lE; revert BE; revert ox; revert hR; revert hB; revert hX; revert bE; revert tx; revert w_10n
          clear w_9
          refine ?nb_5
          rotate_left 1
          go_simp
          have hx := (Ext.refl w_9).alloc (.cells #[.int .i64 x] 2)
          have BF := Blk.new w_9 2 (#[.int .i64 x])
          obtain ⟨bF, hb⟩ : ∃ b, b = w_9.heap.size := ⟨_, rfl⟩
          generalize hw : World.alloc w_9 (.cells #[.int .i64 x] 2) = w_10n at hx BF ⊢
          rw [← hb] at BF ⊢
          have lF : (w.heap.size + 1 + 1) ≤ bF := by have := hR.lt; omega
          have p_x_F : ∀ k, Value.ownBlock (.slice tx.A tx.n tx.c) = some k → k ≠ bF := fun k h1 e => by have a1 := (ox.lt k h1).2; omega
          replace hB := hB.ext hx
          replace hR := hR.ext hx
          replace ox := ox.ext hx
          replace hX := hX.trans hx
          refine hK _ _ ⟨fun _ => hB.c3, ?_⟩
          clear hK K hx hb hw
          revert p_x_F; revert lF; revert BF; revert ox; revert hR; revert hB; revert hX; revert bF; revert tx; revert w_10n
          clear w_9
          refine ?nb_6
          rotate_left 1
          go_simp
          have hx := (Ext.refl w_9).alloc (.cells #[.slice none 0 0, .slice none 0 0, .slice none 0 0] 26)
          have BP := Blk.new w_9 26 (#[.slice none 0 0, .slice none 0 0, .slice none 0 0])
          obtain ⟨bP, hb⟩ : ∃ b, b = w_9.heap.size := ⟨_, rfl⟩
          generalize hw : World.alloc w_9 (.cells #[.slice none 0 0, .slice none 0 0, .slice none 0 0] 26) = w_10n at hx BP ⊢
          rw [← hb] at BP ⊢
          have lP : (w.heap.size + 1 + 1) ≤ bP := by have := hR.lt; omega
          have p_x_P : ∀ k, Value.ownBlock (.slice tx.A tx.n tx.c) = some k → k ≠ bP := fun k h1 e => by have a1 := (ox.lt k h1).2; omega
          replace hB := hB.ext hx
          replace hR := hR.ext hx
          replace ox := ox.ext hx
          replace hX := hX.trans hx
          refine hK _ _ ⟨fun _ => hB.c3, ?_⟩
          clear hK K hx hb hw
          revert p_x_P; revert lP; revert BP; revert ox; revert hR; revert hB; revert hX; revert bP; revert tx; revert w_10n
          clear w_9
          refine ?nb_7
          rotate_left 1
          -- nb_2
          intro w_9 bE hX hB hR BE lE
          refine wpAnyT_go3 (i := 2) (j := 12) (k := 15) rfl rfl rfl (by kernel_rfl) (fun K hK => ?_) (fun K hK => ?_) (fun K hK => ?_)
          go_simp
          go_at_call 88
          refine (impl.clone_any ⟨A1, n1, c1⟩ l.x _ (rx.ext hX)).mono ?_
          rintro e w_10n ⟨tx, rfl, ox, hx⟩
          go_simp
          have p_x_E : ∀ k, Value.ownBlock (.slice tx.A tx.n tx.c) = some k → k ≠ bE := fun k h1 e => by have a1 := (ox.lt k h1).1; have a2 := BE.lt; omega
          have z0 := hR.lt
          replace ox := Own.mono (lo' := (w.heap.size + 1 + 1)) ox (by omega)
          replace hB := hB.ext hx
          replace hR := hR.ext hx
          replace BE := BE.ext hx
          replace hX := hX.trans hx
          refine hK _ _ ⟨fun _ => hB.c3, ?_⟩
          clear hK K hx z0
          revert p_x_E; revert lE; revert BE; revert ox; revert hR; revert hB; revert hX; revert bE; revert tx; revert w_10n
          clear w_9
          exact ?nb_5
          go_simp
          have hx := (Ext.refl w_9).alloc (.cells #[.int .i64 x] 2)
          have BF := Blk.new w_9 2 (#[.int .i64 x])
          obtain ⟨bF, hb⟩ : ∃ b, b = w_9.heap.size := ⟨_, rfl⟩
          generalize hw : World.alloc w_9 (.cells #[.int .i64 x] 2) = w_10n at hx BF ⊢
          rw [← hb] at BF ⊢
          have lF : (w.heap.size + 1 + 1) ≤ bF := by have := hR.lt; omega
          have p_E_F : bE ≠ bF := by have := BE.lt; omega
          replace hB := hB.ext hx
          replace hR := hR.ext hx
          replace BE := BE.ext hx
          replace hX := hX.trans hx
          refine hK _ _ ⟨fun _ => hB.c3, ?_⟩
          clear hK K hx hb hw
          revert p_E_F; revert lF; revert lE; revert BF; revert BE; revert hR; revert hB; revert hX; revert bF; revert bE; revert w_10n
          clear w_9
          refine ?nb_8
          rotate_left 1
          go_simp
          have hx := (Ext.refl w_9).alloc (.cells #[.slice none 0 0, .slice none 0 0, .slice none 0 0] 26)
          have BP := Blk.new w_9 26 (#[.slice none 0 0, .slice none 0 0, .slice none 0 0])
          obtain ⟨bP, hb⟩ : ∃ b, b = w_9.heap.size := ⟨_, rfl⟩
          generalize hw : World.alloc w_9 (.cells #[.slice none 0 0, .slice none 0 0, .slice none 0 0] 26) = w_10n at hx BP ⊢
          rw [← hb] at BP ⊢
          have lP : (w.heap.size + 1 + 1) ≤ bP := by have := hR.lt; omega
          have p_E_P : bE ≠ bP := by have := BE.lt; omega
          replace hB := hB.ext hx
          replace hR := hR.ext hx
          replace BE := BE.ext hx
          replace hX := hX.trans hx
          refine hK _ _ ⟨fun _ => hB.c3, ?_⟩
          clear hK K hx hb hw
          revert p_E_P; revert lP; revert lE; revert BP; revert BE; revert hR; revert hB; revert hX; revert bP; revert bE; revert w_10n
          clear w_9
          refine ?nb_9
          rotate_left 1
          -- nb_3
          intro w_9 bF hX hB hR BF lF
          refine wpAnyT_go3 (i := 2) (j := 6) (k := 15) rfl rfl rfl (by kernel_rfl) (fun K hK => ?_) (fun K hK => ?_) (fun K hK => ?_)
          go_simp
          go_at_call 88
          refine (impl.clone_any ⟨A1, n1, c1⟩ l.x _ (rx.ext hX)).mono ?_
          rintro e w_10n ⟨tx, rfl, ox, hx⟩
          go_simp
          have p_x_F : ∀ k, Value.ownBlock (.slice tx.A tx.n tx.c) = some k → k ≠ bF := fun k h1 e => by have a1 := (ox.lt k h1).1; have a2 := BF.lt; omega
          have z0 := hR.lt
          replace ox := Own.mono (lo' := (w.heap.size + 1 + 1)) ox (by omega)
          replace hB := hB.ext hx
          replace hR := hR.ext hx
          replace BF := BF.ext hx
          replace hX := hX.trans hx
          refine hK _ _ ⟨fun _ => hB.c3, ?_⟩
          clear hK K hx z0
          revert p_x_F; revert lF; revert BF; revert ox; revert hR; revert hB; revert hX; revert bF; revert tx; revert w_10n
          clear w_9
          exact ?nb_6
          go_simp
          have hx := (Ext.refl w_9).alloc (.cells #[.int .i64 x] 2)
          have BE := Blk.new w_9 2 (#[.int .i64 x])
          obtain ⟨bE, hb⟩ : ∃ b, b = w_9.heap.size := ⟨_, rfl⟩
          generalize hw : World.alloc w_9 (.cells #[.int .i64 x] 2) = w_10n at hx BE ⊢
          rw [← hb] at BE ⊢
          have lE : (w.heap.size + 1 + 1) ≤ bE := by have := hR.lt; omega
          have p_E_F : bE ≠ bF := by have := BF.lt; omega
          replace hB := hB.ext hx
          replace hR := hR.ext hx
          replace BF := BF.ext hx
          replace hX := hX.trans hx
          refine hK _ _ ⟨fun _ => hB.c3, ?_⟩
          clear hK K hx hb hw
          revert p_E_F; revert lF; revert lE; revert BF; revert BE; revert hR; revert hB; revert hX; revert bF; revert bE; revert w_10n
          clear w_9
          exact ?nb_8
          go_simp
          have hx := (Ext.refl w_9).alloc (.cells #[.slice none 0 0, .slice none 0 0, .slice none 0 0] 26)
          have BP := Blk.new w_9 26 (#[.slice none 0 0, .slice none 0 0, .slice none 0 0])
          obtain ⟨bP, hb⟩ : ∃ b, b = w_9.heap.size := ⟨_, rfl⟩
          generalize hw : World.alloc w_9 (.cells #[.slice none 0 0, .slice none 0 0, .slice none 0 0] 26) = w_10n at hx BP ⊢
          rw [← hb] at BP ⊢
          have lP : (w.heap.size + 1 + 1) ≤ bP := by have := hR.lt; omega
          have p_F_P : bF ≠ bP := by have := BF.lt; omega
          replace hB := hB.ext hx
          replace hR := hR.ext hx
          replace BF := BF.ext hx
          replace hX := hX.trans hx
          refine hK _ _ ⟨fun _ => hB.c3, ?_⟩
          clear hK K hx hb hw
          revert p_F_P; revert lP; revert lF; revert BP; revert BF; revert hR; revert hB; revert hX; revert bP; revert bF; revert w_10n
          clear w_9
          refine ?nb_10
          rotate_left 1
          -- nb_4
          intro w_9 bP hX hB hR BP lP
          refine wpAnyT_go3 (i := 2) (j := 6) (k := 12) rfl rfl rfl (by kernel_rfl) (fun K hK => ?_) (fun K hK => ?_) (fun K hK => ?_)
          go_simp
          go_at_call 88
          refine (impl.clone_any ⟨A1, n1, c1⟩ l.x _ (rx.ext hX)).mono ?_
          rintro e w_10n ⟨tx, rfl, ox, hx⟩
          go_simp
          have p_x_P : ∀ k, Value.ownBlock (.slice tx.A tx.n tx.c) = some k → k ≠ bP := fun k h1 e => by have a1 := (ox.lt k h1).1; have a2 := BP.lt; omega
          have z0 := hR.lt
          replace ox := Own.mono (lo' := (w.heap.size + 1 + 1)) ox (by omega)
          replace hB := hB.ext hx
          replace hR := hR.ext hx
          replace BP := BP.ext hx
          replace hX := hX.trans hx
          refine hK _ _ ⟨fun _ => hB.c3, ?_⟩
          clear hK K hx z0
          revert p_x_P; revert lP; revert BP; revert ox; revert hR; revert hB; revert hX; revert bP; revert tx; revert w_10n
          clear w_9
          exact ?nb_7
          go_simp
          have hx := (Ext.refl w_9).alloc (.cells #[.int .i64 x] 2)
          have BE := Blk.new w_9 2 (#[.int .i64 x])
          obtain ⟨bE, hb⟩ : ∃ b, b = w_9.heap.size := ⟨_, rfl⟩
          generalize hw : World.alloc w_9 (.cells #[.int .i64 x] 2) = w_10n at hx BE ⊢
          rw [← hb] at BE ⊢
          have lE : (w.heap.size + 1 + 1) ≤ bE := by have := hR.lt; omega
          have p_E_P : bE ≠ bP := by have := BP.lt; omega
          replace hB := hB.ext hx
          replace hR := hR.ext hx
          replace BP := BP.ext hx
          replace hX := hX.trans hx
          refine hK _ _ ⟨fun _ => hB.c3, ?_⟩
          clear hK K hx hb hw
          revert p_E_P; revert lP; revert lE; revert BP; revert BE; revert hR; revert hB; revert hX; revert bP; revert bE; revert w_10n
          clear w_9
          exact ?nb_9
          go_simp
          have hx := (Ext.refl w_9).alloc (.cells #[.int .i64 x] 2)
          have BF := Blk.new w_9 2 (#[.int .i64 x])
          obtain ⟨bF, hb⟩ : ∃ b, b = w_9.heap.size := ⟨_, rfl⟩
          generalize hw : World.alloc w_9 (.cells #[.int .i64 x] 2) = w_10n at hx BF ⊢
          rw [← hb] at BF ⊢
          have lF : (w.heap.size + 1 + 1) ≤ bF := by have := hR.lt; omega
          have p_F_P : bF ≠ bP := by have := BP.lt; omega
          replace hB := hB.ext hx
          replace hR := hR.ext hx
          replace BP := BP.ext hx
          replace hX := hX.trans hx
          refine hK _ _ ⟨fun _ => hB.c3, ?_⟩
          clear hK K hx hb hw
          revert p_F_P; revert lP; revert lF; revert BP; revert BF; revert hR; revert hB; revert hX; revert bP; revert bF; revert w_10n
          clear w_9
          exact ?nb_10
          -- nb_5
          intro w_10 tx bE hX hB hR ox BE lE p_x_E
          refine wpAnyT_go3 (i := 7) (j := 12) (k := 15) rfl rfl rfl (by kernel_rfl) (fun K hK => ?_) (fun K hK => ?_) (fun K hK => ?_)
          go_simp
          go_at_call 92
          refine (impl.without_any ⟨A2, n2, c2⟩ ⟨some ⟨bE, 0, none⟩, 1, 1⟩ l.y [x] _ (ry.ext hX) BE.rd1).mono ?_
          rintro e w_11n ⟨ty, rfl, oy, hx⟩
          go_simp
          have p_x_y : apart (.slice tx.A tx.n tx.c) (.slice ty.A ty.n ty.c) := fun k h1 h2 => by have a1 := (ox.lt k h1).2; have a2 := (oy.lt k h2).1; omega
          have p_y_E : ∀ k, Value.ownBlock (.slice ty.A ty.n ty.c) = some k → k ≠ bE := fun k h1 e => by have a1 := (oy.lt k h1).1; have a2 := BE.lt; omega
          have z0 := hR.lt
          replace oy := Own.mono (lo' := (w.heap.size + 1 + 1)) oy (by omega)
          replace hB := hB.ext hx
          replace hR := hR.ext hx
          replace ox := ox.ext hx
          replace BE := BE.ext hx
          replace hX := hX.trans hx
          refine hK _ _ ⟨fun _ => hB.c3, ?_⟩
          clear hK K hx z0
          revert p_y_E; revert p_x_E; revert p_x_y; revert lE; revert BE; revert oy; revert ox; revert hR; revert hB; revert hX; revert bE; revert ty; revert tx; revert w_11n
          clear w_10
          refine ?nb_11
          rotate_left 1
          go_simp
          have hx := (Ext.refl w_10).alloc (.cells #[.int .i64 x] 2)
          have BF := Blk.new w_10 2 (#[.int .i64 x])
          obtain ⟨bF, hb⟩ : ∃ b, b = w_10.heap.size := ⟨_, rfl⟩
          generalize hw : World.alloc w_10 (.cells #[.int .i64 x] 2) = w_11n at hx BF ⊢
          rw [← hb] at BF ⊢
          have lF : (w.heap.size + 1 + 1) ≤ bF := by have := hR.lt; omega
          have p_x_F : ∀ k, Value.ownBlock (.slice tx.A tx.n tx.c) = some k → k ≠ bF := fun k h1 e => by have a1 := (ox.lt k h1).2; omega
          have p_E_F : bE ≠ bF := by have := BE.lt; omega
          replace hB := hB.ext hx
          replace hR := hR.ext hx
          replace ox := ox.ext hx
          replace BE := BE.ext hx
          replace hX := hX.trans hx
          refine hK _ _ ⟨fun _ => hB.c3, ?_⟩
          clear hK K hx hb hw
          revert p_E_F; revert p_x_F; revert p_x_E; revert lF; revert lE; revert BF; revert BE; revert ox; revert hR; revert hB; revert hX; revert bF; revert bE; revert tx; revert w_11n
          clear w_10
          refine ?nb_12
          rotate_left 1
          go_simp
          have hx := (Ext.refl w_10).alloc (.cells #[.slice none 0 0, .slice none 0 0, .slice none 0 0] 26)
          have BP := Blk.new w_10 26 (#[.slice none 0 0, .slice none 0 0, .slice none 0 0])
          obtain ⟨bP, hb⟩ : ∃ b, b = w_10.heap.size := ⟨_, rfl⟩
          generalize hw : World.alloc w_10 (.cells #[.slice none 0 0, .slice none 0 0, .slice none 0 0] 26) = w_11n at hx BP ⊢
          rw [← hb] at BP ⊢
          have lP : (w.heap.size + 1 + 1) ≤ bP := by have := hR.lt; omega
          have p_x_P : ∀ k, Value.ownBlock (.slice tx.A tx.n tx.c) = some k → k ≠ bP := fun k h1 e => by have a1 := (ox.lt k h1).2; omega
          have p_E_P : bE ≠ bP := by have := BE.lt; omega
          replace hB := hB.ext hx
          replace hR := hR.ext hx
          replace ox := ox.ext hx
          replace BE := BE.ext hx
          replace hX := hX.trans hx
          refine hK _ _ ⟨fun _ => hB.c3, ?_⟩
          clear hK K hx hb hw
          revert p_E_P; revert p_x_P; revert p_x_E; revert lP; revert lE; revert BP; revert BE; revert ox; revert hR; revert hB; revert hX; revert bP; revert bE; revert tx; revert w_11n
          clear w_10
          refine ?nb_13
          rotate_left 1
          -- nb_6
          intro w_10 tx bF hX hB hR ox BF lF p_x_F
          refine wpAnyT_go2 (i := 6) (j := 15) rfl rfl (by kernel_rfl) (fun K hK => ?_) (fun K hK => ?_)
          go_simp
          have hx := (Ext.refl w_10).alloc (.cells #[.int .i64 x] 2)
          have BE := Blk.new w_10 2 (#[.int .i64 x])
          obtain ⟨bE, hb⟩ : ∃ b, b = w_10.heap.size := ⟨_, rfl⟩
          generalize hw : World.alloc w_10 (.cells #[.int .i64 x] 2) = w_11n at hx BE ⊢
          rw [← hb] at BE ⊢
          have lE : (w.heap.size + 1 + 1) ≤ bE := by have := hR.lt; omega
          have p_x_E : ∀ k, Value.ownBlock (.slice tx.A tx.n tx.c) = some k → k ≠ bE := fun k h1 e => by have a1 := (ox.lt k h1).2; omega
          have p_E_F : bE ≠ bF := by have := BF.lt; omega
          replace hB := hB.ext hx
          replace hR := hR.ext hx
          replace ox := ox.ext hx
          replace BF := BF.ext hx
          replace hX := hX.trans hx
          refine hK _ _ ⟨fun _ => hB.c3, ?_⟩
          clear hK K hx hb hw
          revert p_E_F; revert p_x_F; revert p_x_E; revert lF; revert lE; revert BF; revert BE; revert ox; revert hR; revert hB; revert hX; revert bF; revert bE; revert tx; revert w_11n
          clear w_10
          exact ?nb_12
          go_simp
          have hx := (Ext.refl w_10).alloc (.cells #[.slice none 0 0, .slice none 0 0, .slice none 0 0] 26)
          have BP := Blk.new w_10 26 (#[.slice none 0 0, .slice none 0 0, .slice none 0 0])
          obtain ⟨bP, hb⟩ : ∃ b, b = w_10.heap.size := ⟨_, rfl⟩
          generalize hw : World.alloc w_10 (.cells #[.slice none 0 0, .slice none 0 0, .slice none 0 0] 26) = w_11n at hx BP ⊢
          rw [← hb] at BP ⊢
          have lP : (w.heap.size + 1 + 1) ≤ bP := by have := hR.lt; omega
          have p_x_P : ∀ k, Value.ownBlock (.slice tx.A tx.n tx.c) = some k → k ≠ bP := fun k h1 e => by have a1 := (ox.lt k h1).2; omega
          have p_F_P : bF ≠ bP := by have := BF.lt; omega
          replace hB := hB.ext hx
          replace hR := hR.ext hx
          replace ox := ox.ext hx
          replace BF := BF.ext hx
          replace hX := hX.trans hx
          refine hK _ _ ⟨fun _ => hB.c3, ?_⟩
          clear hK K hx hb hw
          revert p_F_P; revert p_x_P; revert p_x_F; revert lP; revert lF; revert BP; revert BF; revert ox; revert hR; revert hB; revert hX; revert bP; revert bF; revert tx; revert w_11n
          clear w_10
          refine ?nb_14
          rotate_left 1
          -- nb_7
          intro w_10 tx bP hX hB hR ox BP lP p_x_P
          refine wpAnyT_go2 (i := 6) (j := 12) rfl rfl (by kernel_rfl) (fun K hK => ?_) (fun K hK => ?_)
          go_simp
          have hx := (Ext.refl w_10).alloc (.cells #[.int .i64 x] 2)
          have BE := Blk.new w_10 2 (#[.int .i64 x])
          obtain ⟨bE, hb⟩ : ∃ b, b = w_10.heap.size := ⟨_, rfl⟩
          generalize hw : World.alloc w_10 (.cells #[.int .i64 x] 2) = w_11n at hx BE ⊢
          rw [← hb] at BE ⊢
          have lE : (w.heap.size + 1 + 1) ≤ bE := by have := hR.lt; omega
          have p_x_E : ∀ k, Value.ownBlock (.slice tx.A tx.n tx.c) = some k → k ≠ bE := fun k h1 e => by have a1 := (ox.lt k h1).2; omega
          have p_E_P : bE ≠ bP := by have := BP.lt; omega
          replace hB := hB.ext hx
          replace hR := hR.ext hx
          replace ox := ox.ext hx
          replace BP := BP.ext hx
          replace hX := hX.trans hx
          refine hK _ _ ⟨fun _ => hB.c3, ?_⟩
          clear hK K hx hb hw
          revert p_E_P; revert p_x_P; revert p_x_E; revert lP; revert lE; revert BP; revert BE; revert ox; revert hR; revert hB; revert hX; revert bP; revert bE; revert tx; revert w_11n
          clear w_10
          exact ?nb_13
          go_simp
          have hx := (Ext.refl w_10).alloc (.cells #[.int .i64 x] 2)
          have BF := Blk.new w_10 2 (#[.int .i64 x])
          obtain ⟨bF, hb⟩ : ∃ b, b = w_10.heap.size := ⟨_, rfl⟩
          generalize hw : World.alloc w_10 (.cells #[.int .i64 x] 2) = w_11n at hx BF ⊢
          rw [← hb] at BF ⊢
          have lF : (w.heap.size + 1 + 1) ≤ bF := by have := hR.lt; omega
          have p_x_F : ∀ k, Value.ownBlock (.slice tx.A tx.n tx.c) = some k → k ≠ bF := fun k h1 e => by have a1 := (ox.lt k h1).2; omega
          have p_F_P : bF ≠ bP := by have := BP.lt; omega
          replace hB := hB.ext hx
          replace hR := hR.ext hx
          replace ox := ox.ext hx
          replace BP := BP.ext hx
          replace hX := hX.trans hx
          refine hK _ _ ⟨fun _ => hB.c3, ?_⟩
          clear hK K hx hb hw
          revert p_F_P; revert p_x_P; revert p_x_F; revert lP; revert lF; revert BP; revert BF; revert ox; revert hR; revert hB; revert hX; revert bP; revert bF; revert tx; revert w_11n
          clear w_10
          exact ?nb_14
          -- nb_8
          intro w_10 bE bF hX hB hR BE BF lE lF p_E_F
          refine wpAnyT_go2 (i := 2) (j := 15) rfl rfl (by kernel_rfl) (fun K hK => ?_) (fun K hK => ?_)
          go_simp
          go_at_call 88
          refine (impl.clone_any ⟨A1, n1, c1⟩ l.x _ (rx.ext hX)).mono ?_
          rintro e w_11n ⟨tx, rfl, ox, hx⟩
          go_simp
          have p_x_E : ∀ k, Value.ownBlock (.slice tx.A tx.n tx.c) = some k → k ≠ bE := fun k h1 e => by have a1 := (ox.lt k h1).1; have a2 := BE.lt; omega
          have p_x_F : ∀ k, Value.ownBlock (.slice tx.A tx.n tx.c) = some k → k ≠ bF := fun k h1 e => by have a1 := (ox.lt k h1).1; have a2 := BF.lt; omega
          have z0 := hR.lt
          replace ox := Own.mono (lo' := (w.heap.size + 1 + 1)) ox (by omega)
          replace hB := hB.ext hx
          replace hR := hR.ext hx
          replace BE := BE.ext hx
          replace BF := BF.ext hx
          replace hX := hX.trans hx
          refine hK _ _ ⟨fun _ => hB.c3, ?_⟩
          clear hK K hx z0
          revert p_E_F; revert p_x_F; revert p_x_E; revert lF; revert lE; revert BF; revert BE; revert ox; revert hR; revert hB; revert hX; revert bF; revert bE; revert tx; revert w_11n
          clear w_10
          exact ?nb_12
          go_simp
          have hx := (Ext.refl w_10).alloc (.cells #[.slice none 0 0, .slice none 0 0, .slice none 0 0] 26)
          have BP := Blk.new w_10 26 (#[.slice none 0 0, .slice none 0 0, .slice none 0 0])
          obtain ⟨bP, hb⟩ : ∃ b, b = w_10.heap.size := ⟨_, rfl⟩
          generalize hw : World.alloc w_10 (.cells #[.slice none 0 0, .slice none 0 0, .slice none 0 0] 26) = w_11n at hx BP ⊢
          rw [← hb] at BP ⊢
          have lP : (w.heap.size + 1 + 1) ≤ bP := by have := hR.lt; omega
          have p_E_P : bE ≠ bP := by have := BE.lt; omega
          have p_F_P : bF ≠ bP := by have := BF.lt; omega
          replace hB := hB.ext hx
          replace hR := hR.ext hx
          replace BE := BE.ext hx
          replace BF := BF.ext hx
          replace hX := hX.trans hx
          refine hK _ _ ⟨fun _ => hB.c3, ?_⟩
          clear hK K hx hb hw
          revert p_F_P; revert p_E_P; revert p_E_F; revert lP; revert lF; revert lE; revert BP; revert BF; revert BE; revert hR; revert hB; revert hX; revert bP; revert bF; revert bE; revert w_11n
          clear w_10
          refine ?nb_15
          rotate_left 1
          -- nb_9
          intro w_10 bE bP hX hB hR BE BP lE lP p_E_P
          refine wpAnyT_go2 (i := 2) (j := 12) rfl rfl (by kernel_rfl) (fun K hK => ?_) (fun K hK => ?_)
          go_simp
          go_at_call 88
          refine (impl.clone_any ⟨A1, n1, c1⟩ l.x _ (rx.ext hX)).mono ?_
          rintro e w_11n ⟨tx, rfl, ox, hx⟩
          go_simp
          have p_x_E : ∀ k, Value.ownBlock (.slice tx.A tx.n tx.c) = some k → k ≠ bE := fun k h1 e => by have a1 := (ox.lt k h1).1; have a2 := BE.lt; omega
          have p_x_P : ∀ k, Value.ownBlock (.slice tx.A tx.n tx.c) = some k → k ≠ bP := fun k h1 e => by have a1 := (ox.lt k h1).1; have a2 := BP.lt; omega
          have z0 := hR.lt
          replace ox := Own.mono (lo' := (w.heap.size + 1 + 1)) ox (by omega)
          replace hB := hB.ext hx
          replace hR := hR.ext hx
          replace BE := BE.ext hx
          replace BP := BP.ext hx
          replace hX := hX.trans hx
          refine hK _ _ ⟨fun _ => hB.c3, ?_⟩
          clear hK K hx z0
          revert p_E_P; revert p_x_P; revert p_x_E; revert lP; revert lE; revert BP; revert BE; revert ox; revert hR; revert hB; revert hX; revert bP; revert bE; revert tx; revert w_11n
          clear w_10
          exact ?nb_13
          go_simp
          have hx := (Ext.refl w_10).alloc (.cells #[.int .i64 x] 2)
          have BF := Blk.new w_10 2 (#[.int .i64 x])
          obtain ⟨bF, hb⟩ : ∃ b, b = w_10.heap.size := ⟨_, rfl⟩
          generalize hw : World.alloc w_10 (.cells #[.int .i64 x] 2) = w_11n at hx BF ⊢
          rw [← hb] at BF ⊢
          have lF : (w.heap.size + 1 + 1) ≤ bF := by have := hR.lt; omega
          have p_E_F : bE ≠ bF := by have := BE.lt; omega
          have p_F_P : bF ≠ bP := by have := BP.lt; omega
          replace hB := hB.ext hx
          replace hR := hR.ext hx
          replace BE := BE.ext hx
          replace BP := BP.ext hx
          replace hX := hX.trans hx
          refine hK _ _ ⟨fun _ => hB.c3, ?_⟩
          clear hK K hx hb hw
          revert p_F_P; revert p_E_P; revert p_E_F; revert lP; revert lF; revert lE; revert BP; revert BF; revert BE; revert hR; revert hB; revert hX; revert bP; revert bF; revert bE; revert w_11n
          clear w_10
          exact ?nb_15
          -- nb_10
          intro w_10 bF bP hX hB hR BF BP lF lP p_F_P
          refine wpAnyT_go2 (i := 2) (j := 6) rfl rfl (by kernel_rfl) (fun K hK => ?_) (fun K hK => ?_)
          go_simp
          go_at_call 88
          refine (impl.clone_any ⟨A1, n1, c1⟩ l.x _ (rx.ext hX)).mono ?_
          rintro e w_11n ⟨tx, rfl, ox, hx⟩
          go_simp
          have p_x_F : ∀ k, Value.ownBlock (.slice tx.A tx.n tx.c) = some k → k ≠ bF := fun k h1 e => by have a1 := (ox.lt k h1).1; have a2 := BF.lt; omega
          have p_x_P : ∀ k, Value.ownBlock (.slice tx.A tx.n tx.c) = some k → k ≠ bP := fun k h1 e => by have a1 := (ox.lt k h1).1; have a2 := BP.lt; omega
          have z0 := hR.lt
          replace ox := Own.mono (lo' := (w.heap.size + 1 + 1)) ox (by omega)
          replace hB := hB.ext hx
          replace hR := hR.ext hx
          replace BF := BF.ext hx
          replace BP := BP.ext hx
          replace hX := hX.trans hx
          refine hK _ _ ⟨fun _ => hB.c3, ?_⟩
          clear hK K hx z0
          revert p_F_P; revert p_x_P; revert p_x_F; revert lP; revert lF; revert BP; revert BF; revert ox; revert hR; revert hB; revert hX; revert bP; revert bF; revert tx; revert w_11n
          clear w_10
          exact ?nb_14
          go_simp
          have hx := (Ext.refl w_10).alloc (.cells #[.int .i64 x] 2)
          have BE := Blk.new w_10 2 (#[.int .i64 x])
          obtain ⟨bE, hb⟩ : ∃ b, b = w_10.heap.size := ⟨_, rfl⟩
          generalize hw : World.alloc w_10 (.cells #[.int .i64 x] 2) = w_11n at hx BE ⊢
          rw [← hb] at BE ⊢
          have lE : (w.heap.size + 1 + 1) ≤ bE := by have := hR.lt; omega
          have p_E_F : bE ≠ bF := by have := BF.lt; omega
          have p_E_P : bE ≠ bP := by have := BP.lt; omega
          replace hB := hB.ext hx
          replace hR := hR.ext hx
          replace BF := BF.ext hx
          replace BP := BP.ext hx
          replace hX := hX.trans hx
          refine hK _ _ ⟨fun _ => hB.c3, ?_⟩
          clear hK K hx hb hw
          revert p_F_P; revert p_E_P; revert p_E_F; revert lP; revert lF; revert lE; revert BP; revert BF; revert BE; revert hR; revert hB; revert hX; revert bP; revert bF; revert bE; revert w_11n
          clear w_10
          exact ?nb_15
          -- nb_11
          intro w_11 tx ty bE hX hB hR ox oy BE lE p_x_y p_x_E p_y_E
          refine wpAnyT_go3 (i := 10) (j := 12) (k := 15) rfl rfl rfl (by kernel_rfl) (fun K hK => ?_) (fun K hK => ?_) (fun K hK => ?_)
          go_simp
          go_at_call 88
          refine (impl.clone_any ⟨A3, n3, c3⟩ l.z _ (rz.ext hX)).mono ?_
          rintro e w_12n ⟨tg, rfl, og, hx⟩
          go_simp
          have p_g_x : apart (.slice tg.A tg.n tg.c) (.slice tx.A tx.n tx.c) := fun k h1 h2 => by have a1 := (ox.lt k h2).2; have a2 := (og.lt k h1).1; omega
          have p_g_y : apart (.slice tg.A tg.n tg.c) (.slice ty.A ty.n ty.c) := fun k h1 h2 => by have a1 := (oy.lt k h2).2; have a2 := (og.lt k h1).1; omega
          have p_g_E : ∀ k, Value.ownBlock (.slice tg.A tg.n tg.c) = some k → k ≠ bE := fun k h1 e => by have a1 := (og.lt k h1).1; have a2 := BE.lt; omega
          have z0 := hR.lt
          replace og := Own.mono (lo' := (w.heap.size + 1 + 1)) og (by omega)
          replace hB := hB.ext hx
          replace hR := hR.ext hx
          replace ox := ox.ext hx
          replace oy := oy.ext hx
          replace BE := BE.ext hx
          replace hX := hX.trans hx
          refine hK _ _ ⟨fun _ => hB.c3, ?_⟩
          clear hK K hx z0
          revert p_y_E; revert p_x_E; revert p_g_E; revert p_x_y; revert p_g_y; revert p_g_x; revert lE; revert BE; revert oy; revert ox; revert og; revert hR; revert hB; revert hX; revert bE; revert ty; revert tx; revert tg; revert w_12n
          clear w_11
          refine ?nb_16
          rotate_left 1
          go_simp
          have hx := (Ext.refl w_11).alloc (.cells #[.int .i64 x] 2)
          have BF := Blk.new w_11 2 (#[.int .i64 x])
          obtain ⟨bF, hb⟩ : ∃ b, b = w_11.heap.size := ⟨_, rfl⟩
          generalize hw : World.alloc w_11 (.cells #[.int .i64 x] 2) = w_12n at hx BF ⊢
          rw [← hb] at BF ⊢
          have lF : (w.heap.size + 1 + 1) ≤ bF := by have := hR.lt; omega
          have p_x_F : ∀ k, Value.ownBlock (.slice tx.A tx.n tx.c) = some k → k ≠ bF := fun k h1 e => by have a1 := (ox.lt k h1).2; omega
          have p_y_F : ∀ k, Value.ownBlock (.slice ty.A ty.n ty.c) = some k → k ≠ bF := fun k h1 e => by have a1 := (oy.lt k h1).2; omega
          have p_E_F : bE ≠ bF := by have := BE.lt; omega
          replace hB := hB.ext hx
          replace hR := hR.ext hx
          replace ox := ox.ext hx
          replace oy := oy.ext hx
          replace BE := BE.ext hx
          replace hX := hX.trans hx
          refine hK _ _ ⟨fun _ => hB.c3, ?_⟩
          clear hK K hx hb hw
          revert p_E_F; revert p_y_F; revert p_y_E; revert p_x_F; revert p_x_E; revert p_x_y; revert lF; revert lE; revert BF; revert BE; revert oy; revert ox; revert hR; revert hB; revert hX; revert bF; revert bE; revert ty; revert tx; revert w_12n
          clear w_11
          refine ?nb_17
          rotate_left 1
          go_simp
          have hx := (Ext.refl w_11).alloc (.cells #[.slice none 0 0, .slice none 0 0, .slice none 0 0] 26)
          have BP := Blk.new w_11 26 (#[.slice none 0 0, .slice none 0 0, .slice none 0 0])
          obtain ⟨bP, hb⟩ : ∃ b, b = w_11.heap.size := ⟨_, rfl⟩
          generalize hw : World.alloc w_11 (.cells #[.slice none 0 0, .slice none 0 0, .slice none 0 0] 26) = w_12n at hx BP ⊢
          rw [← hb] at BP ⊢
          have lP : (w.heap.size + 1 + 1) ≤ bP := by have := hR.lt; omega
          have p_x_P : ∀ k, Value.ownBlock (.slice tx.A tx.n tx.c) = some k → k ≠ bP := fun k h1 e => by have a1 := (ox.lt k h1).2; omega
          have p_y_P : ∀ k, Value.ownBlock (.slice ty.A ty.n ty.c) = some k → k ≠ bP := fun k h1 e => by have a1 := (oy.lt k h1).2; omega
          have p_E_P : bE ≠ bP := by have := BE.lt; omega
          replace hB := hB.ext hx
          replace hR := hR.ext hx
          replace ox := ox.ext hx
          replace oy := oy.ext hx
          replace BE := BE.ext hx
          replace hX := hX.trans hx
          refine hK _ _ ⟨fun _ => hB.c3, ?_⟩
          clear hK K hx hb hw
          revert p_E_P; revert p_y_P; revert p_y_E; revert p_x_P; revert p_x_E; revert p_x_y; revert lP; revert lE; revert BP; revert BE; revert oy; revert ox; revert hR; revert hB; revert hX; revert bP; revert bE; revert ty; revert tx; revert w_12n
          clear w_11
          refine ?nb_18
          rotate_left 1
          -- nb_12
          intro w_11 tx bE bF hX hB hR ox BE BF lE lF p_x_E p_x_F p_E_F
          refine wpAnyT_go2 (i := 7) (j := 15) rfl rfl (by kernel_rfl) (fun K hK => ?_) (fun K hK => ?_)
          go_simp
          go_at_call 92
          refine (impl.without_any ⟨A2, n2, c2⟩ ⟨some ⟨bE, 0, none⟩, 1, 1⟩ l.y [x] _ (ry.ext hX) BE.rd1).mono ?_
          rintro e w_12n ⟨ty, rfl, oy, hx⟩
          go_simp
          have p_x_y : apart (.slice tx.A tx.n tx.c) (.slice ty.A ty.n ty.c) := fun k h1 h2 => by have a1 := (ox.lt k h1).2; have a2 := (oy.lt k h2).1; omega
          have p_y_E : ∀ k, Value.ownBlock (.slice ty.A ty.n ty.c) = some k → k ≠ bE := fun k h1 e => by have a1 := (oy.lt k h1).1; have a2 := BE.lt; omega
          have p_y_F : ∀ k, Value.ownBlock (.slice ty.A ty.n ty.c) = some k → k ≠ bF := fun k h1 e => by have a1 := (oy.lt k h1).1; have a2 := BF.lt; omega
          have z0 := hR.lt
          replace oy := Own.mono (lo' := (w.heap.size + 1 + 1)) oy (by omega)
          replace hB := hB.ext hx
          replace hR := hR.ext hx
          replace ox := ox.ext hx
          replace BE := BE.ext hx
          replace BF := BF.ext hx
          replace hX := hX.trans hx
          refine hK _ _ ⟨fun _ => hB.c3, ?_⟩
          clear hK K hx z0
          revert p_E_F; revert p_y_F; revert p_y_E; revert p_x_F; revert p_x_E; revert p_x_y; revert lF; revert lE; revert BF; revert BE; revert oy; revert ox; revert hR; revert hB; revert hX; revert bF; revert bE; revert ty; revert tx; revert w_12n
          clear w_11
          exact ?nb_17
          go_simp
          have hx := (Ext.refl w_11).alloc (.cells #[.slice none 0 0, .slice none 0 0, .slice none 0 0] 26)
          have BP := Blk.new w_11 26 (#[.slice none 0 0, .slice none 0 0, .slice none 0 0])
          obtain ⟨bP, hb⟩ : ∃ b, b = w_11.heap.size := ⟨_, rfl⟩
          generalize hw : World.alloc w_11 (.cells #[.slice none 0 0, .slice none 0 0, .slice none 0 0] 26) = w_12n at hx BP ⊢
          rw [← hb] at BP ⊢
          have lP : (w.heap.size + 1 + 1) ≤ bP := by have := hR.lt; omega
          have p_x_P : ∀ k, Value.ownBlock (.slice tx.A tx.n tx.c) = some k → k ≠ bP := fun k h1 e => by have a1 := (ox.lt k h1).2; omega
          have p_E_P : bE ≠ bP := by have := BE.lt; omega
          have p_F_P : bF ≠ bP := by have := BF.lt; omega
          replace hB := hB.ext hx
          replace hR := hR.ext hx
          replace ox := ox.ext hx
          replace BE := BE.ext hx
          replace BF := BF.ext hx
          replace hX := hX.trans hx
          refine hK _ _ ⟨fun _ => hB.c3, ?_⟩
          clear hK K hx hb hw
          revert p_F_P; revert p_E_P; revert p_E_F; revert p_x_P; revert p_x_F; revert p_x_E; revert lP; revert lF; revert lE; revert BP; revert BF; revert BE; revert ox; revert hR; revert hB; revert hX; revert bP; revert bF; revert bE; revert tx; revert w_12n
          clear w_11
          refine ?nb_19
          rotate_left 1
          -- nb_13
          intro w_11 tx bE bP hX hB hR ox BE BP lE lP p_x_E p_x_P p_E_P
          refine wpAnyT_go2 (i := 7) (j := 12) rfl rfl (by kernel_rfl) (fun K hK => ?_) (fun K hK => ?_)
          go_simp
          go_at_call 92
          refine (impl.without_any ⟨A2, n2, c2⟩ ⟨some ⟨bE, 0, none⟩, 1, 1⟩ l.y [x] _ (ry.ext hX) BE.rd1).mono ?_
          rintro e w_12n ⟨ty, rfl, oy, hx⟩
          go_simp
          have p_x_y : apart (.slice tx.A tx.n tx.c) (.slice ty.A ty.n ty.c) := fun k h1 h2 => by have a1 := (ox.lt k h1).2; have a2 := (oy.lt k h2).1; omega
          have p_y_E : ∀ k, Value.ownBlock (.slice ty.A ty.n ty.c) = some k → k ≠ bE := fun k h1 e => by have a1 := (oy.lt k h1).1; have a2 := BE.lt; omega
          have p_y_P : ∀ k, Value.ownBlock (.slice ty.A ty.n ty.c) = some k → k ≠ bP := fun k h1 e => by have a1 := (oy.lt k h1).1; have a2 := BP.lt; omega
          have z0 := hR.lt
          replace oy := Own.mono (lo' := (w.heap.size + 1 + 1)) oy (by omega)
          replace hB := hB.ext hx
          replace hR := hR.ext hx
          replace ox := ox.ext hx
          replace BE := BE.ext hx
          replace BP := BP.ext hx
          replace hX := hX.trans hx
          refine hK _ _ ⟨fun _ => hB.c3, ?_⟩
          clear hK K hx z0
          revert p_E_P; revert p_y_P; revert p_y_E; revert p_x_P; revert p_x_E; revert p_x_y; revert lP; revert lE; revert BP; revert BE; revert oy; revert ox; revert hR; revert hB; revert hX; revert bP; revert bE; revert ty; revert tx; revert w_12n
          clear w_11
          exact ?nb_18
          go_simp
          have hx := (Ext.refl w_11).alloc (.cells #[.int .i64 x] 2)
          have BF := Blk.new w_11 2 (#[.int .i64 x])
          obtain ⟨bF, hb⟩ : ∃ b, b = w_11.heap.size := ⟨_, rfl⟩
          generalize hw : World.alloc w_11 (.cells #[.int .i64 x] 2) = w_12n at hx BF ⊢
          rw [← hb] at BF ⊢
          have lF : (w.heap.size + 1 + 1) ≤ bF := by have := hR.lt; omega
          have p_x_F : ∀ k, Value.ownBlock (.slice tx.A tx.n tx.c) = some k → k ≠ bF := fun k h1 e => by have a1 := (ox.lt k h1).2; omega
          have p_E_F : bE ≠ bF := by have := BE.lt; omega
          have p_F_P : bF ≠ bP := by have := BP.lt; omega
          replace hB := hB.ext hx
          replace hR := hR.ext hx
          replace ox := ox.ext hx
          replace BE := BE.ext hx
          replace BP := BP.ext hx
          replace hX := hX.trans hx
          refine hK _ _ ⟨fun _ => hB.c3, ?_⟩
          clear hK K hx hb hw
          revert p_F_P; revert p_E_P; revert p_E_F; revert p_x_P; revert p_x_F; revert p_x_E; revert lP; revert lF; revert lE; revert BP; revert BF; revert BE; revert ox; revert hR; revert hB; revert hX; revert bP; revert bF; revert bE; revert tx; revert w_12n
          clear w_11
          exact ?nb_19
          -- nb_14
          intro w_11 tx bF bP hX hB hR ox BF BP lF lP p_x_F p_x_P p_F_P
          refine wpAnyT_go (i := 6) rfl (by kernel_rfl) fun K hK => ?_
          go_simp
          have hx := (Ext.refl w_11).alloc (.cells #[.int .i64 x] 2)
          have BE := Blk.new w_11 2 (#[.int .i64 x])
          obtain ⟨bE, hb⟩ : ∃ b, b = w_11.heap.size := ⟨_, rfl⟩
          generalize hw : World.alloc w_11 (.cells #[.int .i64 x] 2) = w_12n at hx BE ⊢
          rw [← hb] at BE ⊢
          have lE : (w.heap.size + 1 + 1) ≤ bE := by have := hR.lt; omega
          have p_x_E : ∀ k, Value.ownBlock (.slice tx.A tx.n tx.c) = some k → k ≠ bE := fun k h1 e => by have a1 := (ox.lt k h1).2; omega
          have p_E_F : bE ≠ bF := by have := BF.lt; omega
          have p_E_P : bE ≠ bP := by have := BP.lt; omega
          replace hB := hB.ext hx
          replace hR := hR.ext hx
          replace ox := ox.ext hx
          replace BF := BF.ext hx
          replace BP := BP.ext hx
          replace hX := hX.trans hx
          refine hK _ _ ⟨fun _ => hB.c3, ?_⟩
          clear hK K hx hb hw
          revert p_F_P; revert p_E_P; revert p_E_F; revert p_x_P; revert p_x_F; revert p_x_E; revert lP; revert lF; revert lE; revert BP; revert BF; revert BE; revert ox; revert hR; revert hB; revert hX; revert bP; revert bF; revert bE; revert tx; revert w_12n
          clear w_11
          exact ?nb_19
          -- nb_15
          intro w_11 bE bF bP hX hB hR BE BF BP lE lF lP p_E_F p_E_P p_F_P
          refine wpAnyT_go (i := 2) rfl (by kernel_rfl) fun K hK => ?_
          go_simp
          go_at_call 88
          refine (impl.clone_any ⟨A1, n1, c1⟩ l.x _ (rx.ext hX)).mono ?_
          rintro e w_12n ⟨tx, rfl, ox, hx⟩
          go_simp
          have p_x_E : ∀ k, Value.ownBlock (.slice tx.A tx.n tx.c) = some k → k ≠ bE := fun k h1 e => by have a1 := (ox.lt k h1).1; have a2 := BE.lt; omega
          have p_x_F : ∀ k, Value.ownBlock (.slice tx.A tx.n tx.c) = some k → k ≠ bF := fun k h1 e => by have a1 := (ox.lt k h1).1; have a2 := BF.lt; omega
          have p_x_P : ∀ k, Value.ownBlock (.slice tx.A tx.n tx.c) = some k → k ≠ bP := fun k h1 e => by have a1 := (ox.lt k h1).1; have a2 := BP.lt; omega
          have z0 := hR.lt
          replace ox := Own.mono (lo' := (w.heap.size + 1 + 1)) ox (by omega)
          replace hB := hB.ext hx
          replace hR := hR.ext hx
          replace BE := BE.ext hx
          replace BF := BF.ext hx
          replace BP := BP.ext hx
          replace hX := hX.trans hx
          refine hK _ _ ⟨fun _ => hB.c3, ?_⟩
          clear hK K hx z0
          revert p_F_P; revert p_E_P; revert p_E_F; revert p_x_P; revert p_x_F; revert p_x_E; revert lP; revert lF; revert lE; revert BP; revert BF; revert BE; revert ox; revert hR; revert hB; revert hX; revert bP; revert bF; revert bE; revert tx; revert w_12n
          clear w_11
          exact ?nb_19
          -- nb_16
          intro w_12 tg tx ty bE hX hB hR og ox oy BE lE p_g_x p_g_y p_x_y p_g_E p_x_E p_y_E
          refine wpAnyT_go2 (i := 12) (j := 15) rfl rfl (by kernel_rfl) (fun K hK => ?_) (fun K hK => ?_)
          go_simp
          have hx := (Ext.refl w_12).alloc (.cells #[.int .i64 x] 2)
          have BF := Blk.new w_12 2 (#[.int .i64 x])
          obtain ⟨bF, hb⟩ : ∃ b, b = w_12.heap.size := ⟨_, rfl⟩
          generalize hw : World.alloc w_12 (.cells #[.int .i64 x] 2) = w_13n at hx BF ⊢
          rw [← hb] at BF ⊢
          have lF : (w.heap.size + 1 + 1) ≤ bF := by have := hR.lt; omega
          have p_g_F : ∀ k, Value.ownBlock (.slice tg.A tg.n tg.c) = some k → k ≠ bF := fun k h1 e => by have a1 := (og.lt k h1).2; omega
          have p_x_F : ∀ k, Value.ownBlock (.slice tx.A tx.n tx.c) = some k → k ≠ bF := fun k h1 e => by have a1 := (ox.lt k h1).2; omega
          have p_y_F : ∀ k, Value.ownBlock (.slice ty.A ty.n ty.c) = some k → k ≠ bF := fun k h1 e => by have a1 := (oy.lt k h1).2; omega
          have p_E_F : bE ≠ bF := by have := BE.lt; omega
          replace hB := hB.ext hx
          replace hR := hR.ext hx
          replace og := og.ext hx
          replace ox := ox.ext hx
          replace oy := oy.ext hx
          replace BE := BE.ext hx
          replace hX := hX.trans hx
          refine hK _ _ ⟨fun _ => hB.c3, ?_⟩
          clear hK K hx hb hw
          revert p_E_F; revert p_y_F; revert p_y_E; revert p_x_F; revert p_x_E; revert p_g_F; revert p_g_E; revert p_x_y; revert p_g_y; revert p_g_x; revert lF; revert lE; revert BF; revert BE; revert oy; revert ox; revert og; revert hR; revert hB; revert hX; revert bF; revert bE; revert ty; revert tx; revert tg; revert w_13n
          clear w_12
          refine ?nb_20
          rotate_left 1
          go_simp
          have hx := (Ext.refl w_12).alloc (.cells #[.slice none 0 0, .slice none 0 0, .slice none 0 0] 26)
          have BP := Blk.new w_12 26 (#[.slice none 0 0, .slice none 0 0, .slice none 0 0])
          obtain ⟨bP, hb⟩ : ∃ b, b = w_12.heap.size := ⟨_, rfl⟩
          generalize hw : World.alloc w_12 (.cells #[.slice none 0 0, .slice none 0 0, .slice none 0 0] 26) = w_13n at hx BP ⊢
          rw [← hb] at BP ⊢
          have lP : (w.heap.size + 1 + 1) ≤ bP := by have := hR.lt; omega
          have p_g_P : ∀ k, Value.ownBlock (.slice tg.A tg.n tg.c) = some k → k ≠ bP := fun k h1 e => by have a1 := (og.lt k h1).2; omega
          have p_x_P : ∀ k, Value.ownBlock (.slice tx.A tx.n tx.c) = some k → k ≠ bP := fun k h1 e => by have a1 := (ox.lt k h1).2; omega
          have p_y_P : ∀ k, Value.ownBlock (.slice ty.A ty.n ty.c) = some k → k ≠ bP := fun k h1 e => by have a1 := (oy.lt k h1).2; omega
          have p_E_P : bE ≠ bP := by have := BE.lt; omega
          replace hB := hB.ext hx
          replace hR := hR.ext hx
          replace og := og.ext hx
          replace ox := ox.ext hx
          replace oy := oy.ext hx
          replace BE := BE.ext hx
          replace hX := hX.trans hx
          refine hK _ _ ⟨fun _ => hB.c3, ?_⟩
          clear hK K hx hb hw
          revert p_E_P; revert p_y_P; revert p_y_E; revert p_x_P; revert p_x_E; revert p_g_P; revert p_g_E; revert p_x_y; revert p_g_y; revert p_g_x; revert lP; revert lE; revert BP; revert BE; revert oy; revert ox; revert og; revert hR; revert hB; revert hX; revert bP; revert bE; revert ty; revert tx; revert tg; revert w_13n
          clear w_12
          refine ?nb_21
          rotate_left 1
          -- nb_17
          intro w_12 tx ty bE bF hX hB hR ox oy BE BF lE lF p_x_y p_x_E p_x_F p_y_E p_y_F p_E_F
          refine wpAnyT_go2 (i := 10) (j := 15) rfl rfl (by kernel_rfl) (fun K hK => ?_) (fun K hK => ?_)
          go_simp
          go_at_call 88
          refine (impl.clone_any ⟨A3, n3, c3⟩ l.z _ (rz.ext hX)).mono ?_
          rintro e w_13n ⟨tg, rfl, og, hx⟩
          go_simp
          have p_g_x : apart (.slice tg.A tg.n tg.c) (.slice tx.A tx.n tx.c) := fun k h1 h2 => by have a1 := (ox.lt k h2).2; have a2 := (og.lt k h1).1; omega
          have p_g_y : apart (.slice tg.A tg.n tg.c) (.slice ty.A ty.n ty.c) := fun k h1 h2 => by have a1 := (oy.lt k h2).2; have a2 := (og.lt k h1).1; omega
          have p_g_E : ∀ k, Value.ownBlock (.slice tg.A tg.n tg.c) = some k → k ≠ bE := fun k h1 e => by have a1 := (og.lt k h1).1; have a2 := BE.lt; omega
          have p_g_F : ∀ k, Value.ownBlock (.slice tg.A tg.n tg.c) = some k → k ≠ bF := fun k h1 e => by have a1 := (og.lt k h1).1; have a2 := BF.lt; omega
          have z0 := hR.lt
          replace og := Own.mono (lo' := (w.heap.size + 1 + 1)) og (by omega)
          replace hB := hB.ext hx
          replace hR := hR.ext hx
          replace ox := ox.ext hx
          replace oy := oy.ext hx
          replace BE := BE.ext hx
          replace BF := BF.ext hx
          replace hX := hX.trans hx
          refine hK _ _ ⟨fun _ => hB.c3, ?_⟩
          clear hK K hx z0
          revert p_E_F; revert p_y_F; revert p_y_E; revert p_x_F; revert p_x_E; revert p_g_F; revert p_g_E; revert p_x_y; revert p_g_y; revert p_g_x; revert lF; revert lE; revert BF; revert BE; revert oy; revert ox; revert og; revert hR; revert hB; revert hX; revert bF; revert bE; revert ty; revert tx; revert tg; revert w_13n
          clear w_12
          exact ?nb_20
          go_simp
          have hx := (Ext.refl w_12).alloc (.cells #[.slice none 0 0, .slice none 0 0, .slice none 0 0] 26)
          have BP := Blk.new w_12 26 (#[.slice none 0 0, .slice none 0 0, .slice none 0 0])
          obtain ⟨bP, hb⟩ : ∃ b, b = w_12.heap.size := ⟨_, rfl⟩
          generalize hw : World.alloc w_12 (.cells #[.slice none 0 0, .slice none 0 0, .slice none 0 0] 26) = w_13n at hx BP ⊢
          rw [← hb] at BP ⊢
          have lP : (w.heap.size + 1 + 1) ≤ bP := by have := hR.lt; omega
          have p_x_P : ∀ k, Value.ownBlock (.slice tx.A tx.n tx.c) = some k → k ≠ bP := fun k h1 e => by have a1 := (ox.lt k h1).2; omega
          have p_y_P : ∀ k, Value.ownBlock (.slice ty.A ty.n ty.c) = some k → k ≠ bP := fun k h1 e => by have a1 := (oy.lt k h1).2; omega
          have p_E_P : bE ≠ bP := by have := BE.lt; omega
          have p_F_P : bF ≠ bP := by have := BF.lt; omega
          replace hB := hB.ext hx
          replace hR := hR.ext hx
          replace ox := ox.ext hx
          replace oy := oy.ext hx
          replace BE := BE.ext hx
          replace BF := BF.ext hx
          replace hX := hX.trans hx
          refine hK _ _ ⟨fun _ => hB.c3, ?_⟩
          clear hK K hx hb hw
          revert p_F_P; revert p_E_P; revert p_E_F; revert p_y_P; revert p_y_F; revert p_y_E; revert p_x_P; revert p_x_F; revert p_x_E; revert p_x_y; revert lP; revert lF; revert lE; revert BP; revert BF; revert BE; revert oy; revert ox; revert hR; revert hB; revert hX; revert bP; revert bF; revert bE; revert ty; revert tx; revert w_13n
          clear w_12
          refine ?nb_22
          rotate_left 1
          -- nb_18
          intro w_12 tx ty bE bP hX hB hR ox oy BE BP lE lP p_x_y p_x_E p_x_P p_y_E p_y_P p_E_P
          refine wpAnyT_go2 (i := 10) (j := 12) rfl rfl (by kernel_rfl) (fun K hK => ?_) (fun K hK => ?_)
          go_simp
          go_at_call 88
          refine (impl.clone_any ⟨A3, n3, c3⟩ l.z _ (rz.ext hX)).mono ?_
          rintro e w_13n ⟨tg, rfl, og, hx⟩
          go_simp
          have p_g_x : apart (.slice tg.A tg.n tg.c) (.slice tx.A tx.n tx.c) := fun k h1 h2 => by have a1 := (ox.lt k h2).2; have a2 := (og.lt k h1).1; omega
          have p_g_y : apart (.slice tg.A tg.n tg.c) (.slice ty.A ty.n ty.c) := fun k h1 h2 => by have a1 := (oy.lt k h2).2; have a2 := (og.lt k h1).1; omega
          have p_g_E : ∀ k, Value.ownBlock (.slice tg.A tg.n tg.c) = some k → k ≠ bE := fun k h1 e => by have a1 := (og.lt k h1).1; have a2 := BE.lt; omega
          have p_g_P : ∀ k, Value.ownBlock (.slice tg.A tg.n tg.c) = some k → k ≠ bP := fun k h1 e => by have a1 := (og.lt k h1).1; have a2 := BP.lt; omega
          have z0 := hR.lt
          replace og := Own.mono (lo' := (w.heap.size + 1 + 1)) og (by omega)
          replace hB := hB.ext hx
          replace hR := hR.ext hx
          replace ox := ox.ext hx
          replace oy := oy.ext hx
          replace BE := BE.ext hx
          replace BP := BP.ext hx
          replace hX := hX.trans hx
          refine hK _ _ ⟨fun _ => hB.c3, ?_⟩
          clear hK K hx z0
          revert p_E_P; revert p_y_P; revert p_y_E; revert p_x_P; revert p_x_E; revert p_g_P; revert p_g_E; revert p_x_y; revert p_g_y; revert p_g_x; revert lP; revert lE; revert BP; revert BE; revert oy; revert ox; revert og; revert hR; revert hB; revert hX; revert bP; revert bE; revert ty; revert tx; revert tg; revert w_13n
          clear w_12
          exact ?nb_21
          go_simp
          have hx := (Ext.refl w_12).alloc (.cells #[.int .i64 x] 2)
          have BF := Blk.new w_12 2 (#[.int .i64 x])
          obtain ⟨bF, hb⟩ : ∃ b, b = w_12.heap.size := ⟨_, rfl⟩
          generalize hw : World.alloc w_12 (.cells #[.int .i64 x] 2) = w_13n at hx BF ⊢
          rw [← hb] at BF ⊢
          have lF : (w.heap.size + 1 + 1) ≤ bF := by have := hR.lt; omega
          have p_x_F : ∀ k, Value.ownBlock (.slice tx.A tx.n tx.c) = some k → k ≠ bF := fun k h1 e => by have a1 := (ox.lt k h1).2; omega
          have p_y_F : ∀ k, Value.ownBlock (.slice ty.A ty.n ty.c) = some k → k ≠ bF := fun k h1 e => by have a1 := (oy.lt k h1).2; omega
          have p_E_F : bE ≠ bF := by have := BE.lt; omega
          have p_F_P : bF ≠ bP := by have := BP.lt; omega
          replace hB := hB.ext hx
          replace hR := hR.ext hx
          replace ox := ox.ext hx
          replace oy := oy.ext hx
          replace BE := BE.ext hx
          replace BP := BP.ext hx
          replace hX := hX.trans hx
          refine hK _ _ ⟨fun _ => hB.c3, ?_⟩
          clear hK K hx hb hw
          revert p_F_P; revert p_E_P; revert p_E_F; revert p_y_P; revert p_y_F; revert p_y_E; revert p_x_P; revert p_x_F; revert p_x_E; revert p_x_y; revert lP; revert lF; revert lE; revert BP; revert BF; revert BE; revert oy; revert ox; revert hR; revert hB; revert hX; revert bP; revert bF; revert bE; revert ty; revert tx; revert w_13n
          clear w_12
          exact ?nb_22
          -- nb_19
          intro w_12 tx bE bF bP hX hB hR ox BE BF BP lE lF lP p_x_E p_x_F p_x_P p_E_F p_E_P p_F_P
          refine wpAnyT_go (i := 7) rfl (by kernel_rfl) fun K hK => ?_
          go_simp
          go_at_call 92
          refine (impl.without_any ⟨A2, n2, c2⟩ ⟨some ⟨bE, 0, none⟩, 1, 1⟩ l.y [x] _ (ry.ext hX) BE.rd1).mono ?_
          rintro e w_13n ⟨ty, rfl, oy, hx⟩
          go_simp
          have p_x_y : apart (.slice tx.A tx.n tx.c) (.slice ty.A ty.n ty.c) := fun k h1 h2 => by have a1 := (ox.lt k h1).2; have a2 := (oy.lt k h2).1; omega
          have p_y_E : ∀ k, Value.ownBlock (.slice ty.A ty.n ty.c) = some k → k ≠ bE := fun k h1 e => by have a1 := (oy.lt k h1).1; have a2 := BE.lt; omega
          have p_y_F : ∀ k, Value.ownBlock (.slice ty.A ty.n ty.c) = some k → k ≠ bF := fun k h1 e => by have a1 := (oy.lt k h1).1; have a2 := BF.lt; omega
          have p_y_P : ∀ k, Value.ownBlock (.slice ty.A ty.n ty.c) = some k → k ≠ bP := fun k h1 e => by have a1 := (oy.lt k h1).1; have a2 := BP.lt; omega
          have z0 := hR.lt
          replace oy := Own.mono (lo' := (w.heap.size + 1 + 1)) oy (by omega)
          replace hB := hB.ext hx
          replace hR := hR.ext hx
          replace ox := ox.ext hx
          replace BE := BE.ext hx
          replace BF := BF.ext hx
          replace BP := BP.ext hx
          replace hX := hX.trans hx
          refine hK _ _ ⟨fun _ => hB.c3, ?_⟩
          clear hK K hx z0
          revert p_F_P; revert p_E_P; revert p_E_F; revert p_y_P; revert p_y_F; revert p_y_E; revert p_x_P; revert p_x_F; revert p_x_E; revert p_x_y; revert lP; revert lF; revert lE; revert BP; revert BF; revert BE; revert oy; revert ox; revert hR; revert hB; revert hX; revert bP; revert bF; revert bE; revert ty; revert tx; revert w_13n
          clear w_12
          exact ?nb_22
          -- nb_20
          intro w_13 tg tx ty bE bF hX hB hR og ox oy BE BF lE lF p_g_x p_g_y p_x_y p_g_E p_g_F p_x_E p_x_F p_y_E p_y_F p_E_F
          refine wpAnyT_go2 (i := 13) (j := 15) rfl rfl (by kernel_rfl) (fun K hK => ?_) (fun K hK => ?_)
          refine step_app _ rfl (.tmp 39) (.tmp 41) rfl _ _ _ rfl og _ _ _ [x] rfl BF.rd1 (by have := hbd3.out; omega) (by have := hR.lt; omega) ?_
          intro tz w_14n oz hg hb
          have gb : ∀ k, Value.ownBlock (.slice tz.A tz.n tz.c) = some k → Value.ownBlock (.slice tg.A tg.n tg.c) = some k ∨ k = w_13.heap.size := (fun k hk => by rcases hb with h | h; exact Or.inl (h.symm.trans hk); exact Or.inr (by rw [h] at hk; injection hk with hk; exact hk.symm))
          have p_x_z : apart (.slice tx.A tx.n tx.c) (.slice tz.A tz.n tz.c) := fun k h1 h2 => by rcases gb k h2 with h | h; exact p_g_x k h h1; (have := (ox.lt k h1).2; omega)
          have p_y_z : apart (.slice ty.A ty.n ty.c) (.slice tz.A tz.n tz.c) := fun k h1 h2 => by rcases gb k h2 with h | h; exact p_g_y k h h1; (have := (oy.lt k h1).2; omega)
          have p_z_E : ∀ k, Value.ownBlock (.slice tz.A tz.n tz.c) = some k → k ≠ bE := fun k h1 e => by rcases gb k h1 with h | h; exact p_g_E k h e; (have := BE.lt; omega)
          have p_z_F : ∀ k, Value.ownBlock (.slice tz.A tz.n tz.c) = some k → k ≠ bF := fun k h1 e => by rcases gb k h1 with h | h; exact p_g_F k h e; (have := BF.lt; omega)
          replace hB := hB.fr (Fr.of_grown hg) (fun e => by have := (og.lt _ e).1; omega)
          replace hR := hR.fr (Fr.of_grown hg) (fun e => by have := (og.lt _ e).1; omega)
          replace ox := ox.fr (Fr.of_grown hg) (fun k h1 h2 => p_g_x k h2 h1)
          replace oy := oy.fr (Fr.of_grown hg) (fun k h1 h2 => p_g_y k h2 h1)
          replace BE := BE.fr (Fr.of_grown hg) (fun e => p_g_E _ e rfl)
          replace BF := BF.fr (Fr.of_grown hg) (fun e => p_g_F _ e rfl)
          replace hX := hX.grow hg (fun k hk => by have := (og.lt k hk).1; omega)
          refine hK _ _ ⟨fun _ => hB.c3, ?_⟩
          clear hK K hg hb gb
          clear p_g_x p_g_y p_g_E p_g_F og
          have kk := hB.c3
          refine wpAnyT_takeL (i := 14) 7 (v := ?_) rfl (by kernel_rfl) (by kernel_rfl) (by kernel_rfl) (by kernel_rfl) (by kernel_rfl) (fun _ _ _ h => h) (Or.inl ⟨by rfl, ?_⟩) kk ?_
          rotate_left 1
          · (intro W hSw; (try dsimp only at hSw); go_simp) <;> with_reducible rfl
          clear kk
          try simp only [Act.put, List.setIfInBounds_toArray, List.set_cons_zero, List.set_cons_succ]
          revert p_E_F; revert p_z_F; revert p_z_E; revert p_y_F; revert p_y_E; revert p_x_F; revert p_x_E; revert p_y_z; revert p_x_z; revert p_x_y; revert lF; revert lE; revert BF; revert BE; revert oz; revert oy; revert ox; revert hR; revert hB; revert hX; revert bF; revert bE; revert tg; revert tz; revert ty; revert tx; revert w_14n
          clear w_13
          refine ?nb_23
          rotate_left 1
          go_simp
          have hx := (Ext.refl w_13).alloc (.cells #[.slice none 0 0, .slice none 0 0, .slice none 0 0] 26)
          have BP := Blk.new w_13 26 (#[.slice none 0 0, .slice none 0 0, .slice none 0 0])
          obtain ⟨bP, hb⟩ : ∃ b, b = w_13.heap.size := ⟨_, rfl⟩
          generalize hw : World.alloc w_13 (.cells #[.slice none 0 0, .slice none 0 0, .slice none 0 0] 26) = w_14n at hx BP ⊢
          rw [← hb] at BP ⊢
          have lP : (w.heap.size + 1 + 1) ≤ bP := by have := hR.lt; omega
          have p_g_P : ∀ k, Value.ownBlock (.slice tg.A tg.n tg.c) = some k → k ≠ bP := fun k h1 e => by have a1 := (og.lt k h1).2; omega
          have p_x_P : ∀ k, Value.ownBlock (.slice tx.A tx.n tx.c) = some k → k ≠ bP := fun k h1 e => by have a1 := (ox.lt k h1).2; omega
          have p_y_P : ∀ k, Value.ownBlock (.slice ty.A ty.n ty.c) = some k → k ≠ bP := fun k h1 e => by have a1 := (oy.lt k h1).2; omega
          have p_E_P : bE ≠ bP := by have := BE.lt; omega
          have p_F_P : bF ≠ bP := by have := BF.lt; omega
          replace hB := hB.ext hx
          replace hR := hR.ext hx
          replace og := og.ext hx
          replace ox := ox.ext hx
          replace oy := oy.ext hx
          replace BE := BE.ext hx
          replace BF := BF.ext hx
          replace hX := hX.trans hx
          refine hK _ _ ⟨fun _ => hB.c3, ?_⟩
          clear hK K hx hb hw
          revert p_F_P; revert p_E_P; revert p_E_F; revert p_y_P; revert p_y_F; revert p_y_E; revert p_x_P; revert p_x_F; revert p_x_E; revert p_g_P; revert p_g_F; revert p_g_E; revert p_x_y; revert p_g_y; revert p_g_x; revert lP; revert lF; revert lE; revert BP; revert BF; revert BE; revert oy; revert ox; revert og; revert hR; revert hB; revert hX; revert bP; revert bF; revert bE; revert ty; revert tx; revert tg; revert w_14n
          clear w_13
          refine ?nb_24
          rotate_left 1
          -- nb_21
          intro w_13 tg tx ty bE bP hX hB hR og ox oy BE BP lE lP p_g_x p_g_y p_x_y p_g_E p_g_P p_x_E p_x_P p_y_E p_y_P p_E_P
          refine wpAnyT_go (i := 12) rfl (by kernel_rfl) fun K hK => ?_
          go_simp
          have hx := (Ext.refl w_13).alloc (.cells #[.int .i64 x] 2)
          have BF := Blk.new w_13 2 (#[.int .i64 x])
          obtain ⟨bF, hb⟩ : ∃ b, b = w_13.heap.size := ⟨_, rfl⟩
          generalize hw : World.alloc w_13 (.cells #[.int .i64 x] 2) = w_14n at hx BF ⊢
          rw [← hb] at BF ⊢
          have lF : (w.heap.size + 1 + 1) ≤ bF := by have := hR.lt; omega
          have p_g_F : ∀ k, Value.ownBlock (.slice tg.A tg.n tg.c) = some k → k ≠ bF := fun k h1 e => by have a1 := (og.lt k h1).2; omega
          have p_x_F : ∀ k, Value.ownBlock (.slice tx.A tx.n tx.c) = some k → k ≠ bF := fun k h1 e => by have a1 := (ox.lt k h1).2; omega
          have p_y_F : ∀ k, Value.ownBlock (.slice ty.A ty.n ty.c) = some k → k ≠ bF := fun k h1 e => by have a1 := (oy.lt k h1).2; omega
          have p_E_F : bE ≠ bF := by have := BE.lt; omega
          have p_F_P : bF ≠ bP := by have := BP.lt; omega
          replace hB := hB.ext hx
          replace hR := hR.ext hx
          replace og := og.ext hx
          replace ox := ox.ext hx
          replace oy := oy.ext hx
          replace BE := BE.ext hx
          replace BP := BP.ext hx
          replace hX := hX.trans hx
          refine hK _ _ ⟨fun _ => hB.c3, ?_⟩
          clear hK K hx hb hw
          revert p_F_P; revert p_E_P; revert p_E_F; revert p_y_P; revert p_y_F; revert p_y_E; revert p_x_P; revert p_x_F; revert p_x_E; revert p_g_P; revert p_g_F; revert p_g_E; revert p_x_y; revert p_g_y; revert p_g_x; revert lP; revert lF; revert lE; revert BP; revert BF; revert BE; revert oy; revert ox; revert og; revert hR; revert hB; revert hX; revert bP; revert bF; revert bE; revert ty; revert tx; revert tg; revert w_14n
          clear w_13
          exact ?nb_24
          -- nb_22
          intro w_13 tx ty bE bF bP hX hB hR ox oy BE BF BP lE lF lP p_x_y p_x_E p_x_F p_x_P p_y_E p_y_F p_y_P p_E_F p_E_P p_F_P
          refine wpAnyT_go (i := 10) rfl (by kernel_rfl) fun K hK => ?_
          go_simp
          go_at_call 88
          refine (impl.clone_any ⟨A3, n3, c3⟩ l.z _ (rz.ext hX)).mono ?_
          rintro e w_14n ⟨tg, rfl, og, hx⟩
          go_simp
          have p_g_x : apart (.slice tg.A tg.n tg.c) (.slice tx.A tx.n tx.c) := fun k h1 h2 => by have a1 := (ox.lt k h2).2; have a2 := (og.lt k h1).1; omega
          have p_g_y : apart (.slice tg.A tg.n tg.c) (.slice ty.A ty.n ty.c) := fun k h1 h2 => by have a1 := (oy.lt k h2).2; have a2 := (og.lt k h1).1; omega
          have p_g_E : ∀ k, Value.ownBlock (.slice tg.A tg.n tg.c) = some k → k ≠ bE := fun k h1 e => by have a1 := (og.lt k h1).1; have a2 := BE.lt; omega
          have p_g_F : ∀ k, Value.ownBlock (.slice tg.A tg.n tg.c) = some k → k ≠ bF := fun k h1 e => by have a1 := (og.lt k h1).1; have a2 := BF.lt; omega
          have p_g_P : ∀ k, Value.ownBlock (.slice tg.A tg.n tg.c) = some k → k ≠ bP := fun k h1 e => by have a1 := (og.lt k h1).1; have a2 := BP.lt; omega
          have z0 := hR.lt
          replace og := Own.mono (lo' := (w.heap.size + 1 + 1)) og (by omega)
          replace hB := hB.ext hx
          replace hR := hR.ext hx
          replace ox := ox.ext hx
          replace oy := oy.ext hx
          replace BE := BE.ext hx
          replace BF := BF.ext hx
          replace BP := BP.ext hx
          replace hX := hX.trans hx
          refine hK _ _ ⟨fun _ => hB.c3, ?_⟩
          clear hK K hx z0
          revert p_F_P; revert p_E_P; revert p_E_F; revert p_y_P; revert p_y_F; revert p_y_E; revert p_x_P; revert p_x_F; revert p_x_E; revert p_g_P; revert p_g_F; revert p_g_E; revert p_x_y; revert p_g_y; revert p_g_x; revert lP; revert lF; revert lE; revert BP; revert BF; revert BE; revert oy; revert ox; revert og; revert hR; revert hB; revert hX; revert bP; revert bF; revert bE; revert ty; revert tx; revert tg; revert w_14n
          clear w_13
          exact ?nb_24
          -- nb_23
          intro w_15 tx ty tz tg bE bF hX hB hR ox oy oz BE BF lE lF p_x_y p_x_z p_y_z p_x_E p_x_F p_y_E p_y_F p_z_E p_z_F p_E_F
          refine wpAnyT_go (i := 15) rfl (by kernel_rfl) fun K hK => ?_
          go_simp
          have hx := (Ext.refl w_15).alloc (.cells #[.slice none 0 0, .slice none 0 0, .slice none 0 0] 26)
          have BP := Blk.new w_15 26 (#[.slice none 0 0, .slice none 0 0, .slice none 0 0])
          obtain ⟨bP, hb⟩ : ∃ b, b = w_15.heap.size := ⟨_, rfl⟩
          generalize hw : World.alloc w_15 (.cells #[.slice none 0 0, .slice none 0 0, .slice none 0 0] 26) = w_16n at hx BP ⊢
          rw [← hb] at BP ⊢
          have lP : (w.heap.size + 1 + 1) ≤ bP := by have := hR.lt; omega
          have p_x_P : ∀ k, Value.ownBlock (.slice tx.A tx.n tx.c) = some k → k ≠ bP := fun k h1 e => by have a1 := (ox.lt k h1).2; omega
          have p_y_P : ∀ k, Value.ownBlock (.slice ty.A ty.n ty.c) = some k → k ≠ bP := fun k h1 e => by have a1 := (oy.lt k h1).2; omega
          have p_z_P : ∀ k, Value.ownBlock (.slice tz.A tz.n tz.c) = some k → k ≠ bP := fun k h1 e => by have a1 := (oz.lt k h1).2; omega
          have p_E_P : bE ≠ bP := by have := BE.lt; omega
          have p_F_P : bF ≠ bP := by have := BF.lt; omega
          replace hB := hB.ext hx
          replace hR := hR.ext hx
          replace ox := ox.ext hx
          replace oy := oy.ext hx
          replace oz := oz.ext hx
          replace BE := BE.ext hx
          replace BF := BF.ext hx
          replace hX := hX.trans hx
          refine hK _ _ ⟨fun _ => hB.c3, ?_⟩
          clear hK K hx hb hw
          revert p_F_P; revert p_E_P; revert p_E_F; revert p_z_P; revert p_z_F; revert p_z_E; revert p_y_P; revert p_y_F; revert p_y_E; revert p_x_P; revert p_x_F; revert p_x_E; revert p_y_z; revert p_x_z; revert p_x_y; revert lP; revert lF; revert lE; revert BP; revert BF; revert BE; revert oz; revert oy; revert ox; revert hR; revert hB; revert hX; revert bP; revert bF; revert bE; revert tg; revert tz; revert ty; revert tx; revert w_16n
          clear w_15
          refine ?nb_25
          rotate_left 1
          -- nb_24
          intro w_14 tg tx ty bE bF bP hX hB hR og ox oy BE BF BP lE lF lP p_g_x p_g_y p_x_y p_g_E p_g_F p_g_P p_x_E p_x_F p_x_P p_y_E p_y_F p_y_P p_E_F p_E_P p_F_P
          refine wpAnyT_go (i := 13) rfl (by kernel_rfl) fun K hK => ?_
          refine step_app _ rfl (.tmp 39) (.tmp 41) rfl _ _ _ rfl og _ _ _ [x] rfl BF.rd1 (by have := hbd3.out; omega) (by have := hR.lt; omega) ?_
          intro tz w_15n oz hg hb
          have gb : ∀ k, Value.ownBlock (.slice tz.A tz.n tz.c) = some k → Value.ownBlock (.slice tg.A tg.n tg.c) = some k ∨ k = w_14.heap.size := (fun k hk => by rcases hb with h | h; exact Or.inl (h.symm.trans hk); exact Or.inr (by rw [h] at hk; injection hk with hk; exact hk.symm))
          have p_x_z : apart (.slice tx.A tx.n tx.c) (.slice tz.A tz.n tz.c) := fun k h1 h2 => by rcases gb k h2 with h | h; exact p_g_x k h h1; (have := (ox.lt k h1).2; omega)
          have p_y_z : apart (.slice ty.A ty.n ty.c) (.slice tz.A tz.n tz.c) := fun k h1 h2 => by rcases gb k h2 with h | h; exact p_g_y k h h1; (have := (oy.lt k h1).2; omega)
          have p_z_E : ∀ k, Value.ownBlock (.slice tz.A tz.n tz.c) = some k → k ≠ bE := fun k h1 e => by rcases gb k h1 with h | h; exact p_g_E k h e; (have := BE.lt; omega)
          have p_z_F : ∀ k, Value.ownBlock (.slice tz.A tz.n tz.c) = some k → k ≠ bF := fun k h1 e => by rcases gb k h1 with h | h; exact p_g_F k h e; (have := BF.lt; omega)
          have p_z_P : ∀ k, Value.ownBlock (.slice tz.A tz.n tz.c) = some k → k ≠ bP := fun k h1 e => by rcases gb k h1 with h | h; exact p_g_P k h e; (have := BP.lt; omega)
          replace hB := hB.fr (Fr.of_grown hg) (fun e => by have := (og.lt _ e).1; omega)
          replace hR := hR.fr (Fr.of_grown hg) (fun e => by have := (og.lt _ e).1; omega)
          replace ox := ox.fr (Fr.of_grown hg) (fun k h1 h2 => p_g_x k h2 h1)
          replace oy := oy.fr (Fr.of_grown hg) (fun k h1 h2 => p_g_y k h2 h1)
          replace BE := BE.fr (Fr.of_grown hg) (fun e => p_g_E _ e rfl)
          replace BF := BF.fr (Fr.of_grown hg) (fun e => p_g_F _ e rfl)
          replace BP := BP.fr (Fr.of_grown hg) (fun e => p_g_P _ e rfl)
          replace hX := hX.grow hg (fun k hk => by have := (og.lt k hk).1; omega)
          refine hK _ _ ⟨fun _ => hB.c3, ?_⟩
          clear hK K hg hb gb
          clear p_g_x p_g_y p_g_E p_g_F p_g_P og
          have kk := hB.c3
          refine wpAnyT_takeL (i := 14) 7 (v := ?_) rfl (by kernel_rfl) (by kernel_rfl) (by kernel_rfl) (by kernel_rfl) (by kernel_rfl) (fun _ _ _ h => h) (Or.inl ⟨by rfl, ?_⟩) kk ?_
          rotate_left 1
          · (intro W hSw; (try dsimp only at hSw); go_simp) <;> with_reducible rfl
          clear kk
          try simp only [Act.put, List.setIfInBounds_toArray, List.set_cons_zero, List.set_cons_succ]
          revert p_F_P; revert p_E_P; revert p_E_F; revert p_z_P; revert p_z_F; revert p_z_E; revert p_y_P; revert p_y_F; revert p_y_E; revert p_x_P; revert p_x_F; revert p_x_E; revert p_y_z; revert p_x_z; revert p_x_y; revert lP; revert lF; revert lE; revert BP; revert BF; revert BE; revert oz; revert oy; revert ox; revert hR; revert hB; revert hX; revert bP; revert bF; revert bE; revert tg; revert tz; revert ty; revert tx; revert w_15n
          clear w_14
          exact ?nb_25
          -- nb_25
          intro w_16 tx ty tz tg bE bF bP hX hB hR ox oy oz BE BF BP lE lF lP p_x_y p_x_z p_y_z p_x_E p_x_F p_x_P p_y_E p_y_F p_y_P p_z_E p_z_F p_z_P p_E_F p_E_P p_F_P
          refine wpAnyT_go (i := 16) rfl (by kernel_rfl) fun K hK => ?_
          obtain ⟨q0, q1, q2, q3, q4, q5⟩ := res3 BP
          go_simp
          refine hK _ _ ⟨fun h => absurd rfl h, ?_⟩
          clear hK K
          refine wpAnyT_done (by kernel_rfl) ?_ _
          go_wp2_with fail
          go_meet
          have hlen : tx.n + (ty.n + tz.n) ≤ 2097152 := by
            have e1 := ox.rd.1
            have e2 := oy.rd.1
            have e3 := oz.rd.1
            rw [List.length_append, List.length_singleton] at e3
            have h1 := hlx.out
            have h2 := hly.out
            have h3 := hlz.out
            have h4 := hsm.out
            have h5 := hly2.out
            omega
          have n1' : Value.ownBlock (.slice tx.A tx.n tx.c) ≠ some bP := fun e => p_x_P _ e rfl
          have n2' : Value.ownBlock (.slice ty.A ty.n ty.c) ≠ some bP := fun e => p_y_P _ e rfl
          have n3' : Value.ownBlock (.slice tz.A tz.n tz.c) ≠ some bP := fun e => p_z_P _ e rfl
          exact ⟨bP, ⟨tx, ty, tz⟩, rfl, ((BP.set_ 0 _).set_ 1 _).set_ 2 _, ⟨((ox.away n1' 0 _).away n1' 1 _).away n1' 2 _, ((oy.away n2' 0 _).away n2' 1 _).away n2' 2 _, ((oz.away n3' 0 _).away n3' 1 _).away n3' 2 _, hlen, p_x_y, p_x_z, p_y_z⟩,
            ((hX.off bP 0 (by omega) _).off bP 1 (by omega) _).off bP 2 (by omega) _, ((hB.off bP 0 (by omega) _).off bP 1 (by omega) _).off bP 2 (by omega) _, ((hR.off bP 0 (by omega) _).off bP 1 (by omega) _).off bP 2 (by omega) _, lP, fun k hk => Or.elim hk (fun h => p_x_P k h) (fun h => Or.elim h (fun h => p_y_P k h) (fun h => p_z_P k h))⟩
        case rest =>
          obtain ⟨g, ⟨⟨T1, m1, d1⟩, s2, s3⟩, rfl, hO, h3, hX, hB, hR, hg, ha⟩ := hcut
          obtain ⟨o1, o2, o3, htot, a12, a13, a23⟩ := h3
          simp only at o1 o2 o3 htot a12 a13 a23 hO
          obtain ⟨v0, v1, v2⟩ := hO.c3
          obtain ⟨r0, r1, r2, r3, r4, r5⟩ := res3 hR
          go_wp2_with fail
          have hRn := ((hR.set_ 0 (.slice T1 m1 d1)).set_ 1 (.slice s2.A s2.n s2.c)).set_ 2 (.slice s3.A s3.n s3.c)
          obtain ⟨n0, n1', n2'⟩ := hRn.c3
          refine bodyPost_ret (v := .tuple #[.agg #[.slice (⟨⟨T1, m1, d1⟩, s2, s3⟩ : S3).x.A (⟨⟨T1, m1, d1⟩, s2, s3⟩ : S3).x.n (⟨⟨T1, m1, d1⟩, s2, s3⟩ : S3).x.c, .slice (⟨⟨T1, m1, d1⟩, s2, s3⟩ : S3).y.A (⟨⟨T1, m1, d1⟩, s2, s3⟩ : S3).y.n (⟨⟨T1, m1, d1⟩, s2, s3⟩ : S3).y.c, .slice (⟨⟨T1, m1, d1⟩, s2, s3⟩ : S3).z.A (⟨⟨T1, m1, d1⟩, s2, s3⟩ : S3).z.n (⟨⟨T1, m1, d1⟩, s2, s3⟩ : S3).z.c], .int .i64 0]) (by simp [results, Try.results81, go_sem, n0, n1', n2']) rfl ⟨(⟨⟨T1, m1, d1⟩, s2, s3⟩ : S3), by rw [E2.out], ?_, ((hX.off (w.heap.size + 1) 0 (by omega) _).off (w.heap.size + 1) 1 (by omega) _).off (w.heap.size + 1) 2 (by omega) _⟩
          rw [E1.out]
          exact Own3.mono (((Own3.awayP (p := ⟨⟨T1, m1, d1⟩, s2, s3⟩) (l := ⟨l.x, kp [x] l.y, l.z ++ [x]⟩) (lo := w.heap.size + 1 + 1) ⟨o1, o2, o3, htot, a12, a13, a23⟩ (g := w.heap.size + 1) (by omega) 0 _).awayP (g := w.heap.size + 1) (by omega) 1 _).awayP (g := w.heap.size + 1) (by omega) 2 _) (by omega)
    · have hb2 : hasB l.y x = false := decide_eq_false hmy
      rw [hb2] at hf2
      have E2 := hide (show lvC l x = 4 by unfold lvC; rw [if_neg (fun h => Or.elim h hmx hmy)])
      clear hb2 hmx hmy
      have E1 := hide (lvW_no E2.out (by decide))
      obtain ⟨q0, q1, q2⟩ := hB0.c3
      have hRn := hR0
      obtain ⟨r0, r1, r2, r3, r4, r5⟩ := res3 hR0
      subst hw1
      go_enter Try.func81, Try.ntmps81
      go_wp2_with (first | (go_at_call 117; refine (hf1 _ (rx.ext hX0)).mono ?_; rintro e w' ⟨rfl, rfl⟩) | (go_at_call 75; refine (hf2 _ (ry.ext hX0)).mono ?_; rintro e w' ⟨rfl, rfl⟩))
      obtain ⟨n0, n1', n2'⟩ := hRn.c3
      refine bodyPost_ret (v := .tuple #[.agg #[.slice (⟨⟨none, 0, 0⟩, ⟨none, 0, 0⟩, ⟨none, 0, 0⟩⟩ : S3).x.A (⟨⟨none, 0, 0⟩, ⟨none, 0, 0⟩, ⟨none, 0, 0⟩⟩ : S3).x.n (⟨⟨none, 0, 0⟩, ⟨none, 0, 0⟩, ⟨none, 0, 0⟩⟩ : S3).x.c, .slice (⟨⟨none, 0, 0⟩, ⟨none, 0, 0⟩, ⟨none, 0, 0⟩⟩ : S3).y.A (⟨⟨none, 0, 0⟩, ⟨none, 0, 0⟩, ⟨none, 0, 0⟩⟩ : S3).y.n (⟨⟨none, 0, 0⟩, ⟨none, 0, 0⟩, ⟨none, 0, 0⟩⟩ : S3).y.c, .slice (⟨⟨none, 0, 0⟩, ⟨none, 0, 0⟩, ⟨none, 0, 0⟩⟩ : S3).z.A (⟨⟨none, 0, 0⟩, ⟨none, 0, 0⟩, ⟨none, 0, 0⟩⟩ : S3).z.n (⟨⟨none, 0, 0⟩, ⟨none, 0, 0⟩, ⟨none, 0, 0⟩⟩ : S3).z.c], .int .i64 4]) (by simp [results, Try.results81, go_sem, n0, n1', n2']) rfl ⟨(⟨⟨none, 0, 0⟩, ⟨none, 0, 0⟩, ⟨none, 0, 0⟩⟩ : S3), by rw [E2.out], by rw [E1.out]; exact Own3.nil3_ _ _, hX0⟩
end Go.Proofs.Ytkfjphjmffbpiaa.mem
