/-
  Contracts of both programs' functions that let somebody leave a jury.
-/
import Derived.Test.YtofglgfjlbehmaaGreatMg6
import Derived.Test.YtofglgfjlbehmaaGreatMg3
import Derived.Deep.DeepCutAuto
namespace Go.Proofs.YtofglgfjlbehmaaGreat.mem
open Go.ChangeShapes Go.WideShapes Go.ChangeAt Go.RowKit

def lvC (l : L3) (x : Int) : Int := if x ∈ l.x ∨ x ∈ l.y then (if l.z.length = 60 then 3 else 0) else 4
def lvV (l : L3) (x : Int) : L3 := if x ∈ l.x then ⟨l.x.set (l.x.idxOf x) (l.y.headD 0), l.y.tail, l.z ++ [x]⟩ else ⟨l.x, l.y.take (l.y.idxOf x) ++ l.y.drop (l.y.idxOf x + 1), l.z ++ [x]⟩
theorem okJ_small {l : L3} (h : okJ l = true) : l.x.length ≤ 12 ∧ l.y.length ≤ 6 ∧ l.z.length ≤ 60 := by
  unfold okJ at h
  simp only [Bool.and_eq_true, decide_eq_true_eq, inB_iff] at h
  have := h.1
  exact ⟨by omega, h.2.1, h.2.2.1⟩
/-- what the copy, in a new block, has brought -/
def LvPost (w : World) (pc : Array Value) (l' : L3) (s : Value) (wx : World) : Prop :=
  ∃ (g : Nat) (t : S3), s = .pointer (some ⟨g, 0, none⟩) ∧ Blk wx g 30 #[.slice t.x.A t.x.n t.x.c, .slice t.y.A t.y.n t.y.c, .slice t.z.A t.z.n t.z.c] ∧ Own3 wx (w.heap.size + 1 + 1) t l' ∧ Ext w wx ∧ Blk wx w.heap.size 30 pc ∧
    Blk wx (w.heap.size + 1) 30 #[.slice none 0 0, .slice none 0 0, .slice none 0 0] ∧ w.heap.size + 1 + 1 ≤ g ∧ ∀ k, blks t k → k ≠ g
set_option maxRecDepth 20000 in
set_option maxHeartbeats 8000000 in
theorem spec.l15Leave_any (p : S3) (l : L3) (x : Int) (w : World) (hr : Rd3 w p l) (hok : okJ l = true) (hx0 : 1 ≤ x) :
    Calls Tryz.prog 63 #[.agg #[.slice p.x.A p.x.n p.x.c, .slice p.y.A p.y.n p.y.c, .slice p.z.A p.z.n p.z.c], .int .i64 x] w fun e w' => ∃ t : S3, e = .returned (.tuple #[.agg #[.slice t.x.A t.x.n t.x.c, .slice t.y.A t.y.n t.y.c, .slice t.z.A t.z.n t.z.c], .int .i64 (lvC l x)]) ∧ (lvC l x = 0 → Own3 w' w.heap.size t (lvV l x)) ∧ Ext w w' := by
  have hr0 := hr
  obtain ⟨⟨A1, n1, c1⟩, ⟨A2, n2, c2⟩, ⟨A3, n3, c3⟩⟩ := p
  have hX0 := ((Ext.refl w).alloc (.cells #[.slice A1 n1 c1, .slice A2 n2 c2, .slice A3 n3 c3] 30)).alloc (.cells #[.slice none 0 0, .slice none 0 0, .slice none 0 0] 30)
  have hB0 := (Blk.new w 30 (#[.slice A1 n1 c1, .slice A2 n2 c2, .slice A3 n3 c3])).alloc (.cells #[.slice none 0 0, .slice none 0 0, .slice none 0 0] 30)
  have hR0 := Blk.new (w.alloc (.cells #[.slice A1 n1 c1, .slice A2 n2 c2, .slice A3 n3 c3] 30)) 30 (#[.slice none 0 0, .slice none 0 0, .slice none 0 0])
  rw [World.size_alloc] at hR0
  obtain ⟨w1, hw1⟩ : ∃ w1 : World, w1 = (w.alloc (.cells #[.slice A1 n1 c1, .slice A2 n2 c2, .slice A3 n3 c3] 30)).alloc (.cells #[.slice none 0 0, .slice none 0 0, .slice none 0 0] 30) := ⟨_, rfl⟩
  have hz1 : w.heap.size + 1 + 1 = w1.heap.size := by rw [hw1]; simp
  rw [← hw1] at hX0 hB0 hR0
  obtain ⟨rx, ry, rz, hs, cx, cy, cz⟩ := hr
  simp only at rx ry rz hs
  have hlx := hide rx.1
  have hly := hide ry.1
  have hlz := hide rz.1
  have hsm := hide (okJ_small hok)
  have hly2 := hide (Nat.le_refl l.y.length)
  have hbd3 := hide (show l.z.length + 1 ≤ 16777216 by have := hsm.out; omega)
  have hf1 := fun W h => spec.l12Find_any ⟨A1, n1, c1⟩ l.x x W h
  have hf2 := fun W h => spec.l12Find_any ⟨A2, n2, c2⟩ l.y x W h
  have hx00 : (x == 0) = false := by have : ¬ x = 0 := by omega
                                     simpa using this
  by_cases hmx : x ∈ l.x
  · obtain ⟨k, hk⟩ : ∃ k, k = l.x.idxOf x := ⟨_, rfl⟩
    have hpl : plc l.x x = (k : Int) := by unfold plc; rw [if_pos hmx, hk]
    have hkl : k < l.x.length := by rw [hk]; exact List.idxOf_lt_length_of_mem hmx
    have hkn : k < n1 := by have := hlx.out; omega
    have hk0 : ¬ ((k : Int) < 0) := by omega
    have hk1 : (0 : Int) ≤ (k : Int) := by omega
    have hk2 : (k : Int) < (n1 : Int) := by omega
    rw [hpl] at hf1
    obtain ⟨av, hav⟩ : ∃ av, av = plc l.y x := ⟨_, rfl⟩
    rw [← hav] at hf2
    clear hav hpl
    by_cases h60 : l.z.length = 60
    · have E2 := hide (show lvC l x = 3 by unfold lvC; rw [if_pos (.inl hmx), if_pos h60])
      have h60b : ((n3 : Int) == 60) = true := by have : (n3 : Int) = 60 := by have := hlz.out; omega
                                                  simpa using this
      clear h60
      go_enter Tryz.func63, Tryz.ntmps63
      go_upto_region 9 with fail
      rw [← hw1]
      clear hw1
      have hX := hX0.drew
      have hB := hB0.drew
      have hR := hR0.drew
      have hz1' : w.heap.size + 1 + 1 ≤ w1.drew.heap.size := Nat.le_of_eq hz1
      refine wp_region_sink (S := fun w' => w'.cell? ⟨w.heap.size, 0, none⟩ = some (.slice A1 n1 c1) ∧ w'.cell? ⟨w.heap.size, 1, none⟩ = some (.slice A2 n2 c2) ∧ w'.cell? ⟨w.heap.size, 2, none⟩ = some (.slice A3 n3 c3)) 9 (by kernel_rfl) ?_
      change wpAnyT _ _ _ _ _ _ _ _ _ (World.drew _)
      generalize hwd : World.drew w1 = wd at hX hB hR hz1' ⊢
      clear hwd
      have kk := hB.c3
      refine wpAnyT_takeL (i := 0) 6 (v := ?_) rfl (by kernel_rfl) (by kernel_rfl) (by kernel_rfl) (by kernel_rfl) (by kernel_rfl) (fun _ _ _ h => h) (Or.inl ⟨by rfl, ?_⟩) kk ?_
      rotate_left 1
      · (intro W hSw; (try dsimp only at hSw); go_simp) <;> with_reducible rfl
      try simp only [Act.put, List.setIfInBounds_toArray, List.set_cons_zero, List.set_cons_succ]
      refine wpAnyT_takeL (i := 1) 6 (v := ?_) rfl (by kernel_rfl) (by kernel_rfl) (by kernel_rfl) (by kernel_rfl) (by kernel_rfl) (fun _ _ _ h => h) (Or.inl ⟨by rfl, ?_⟩) kk ?_
      rotate_left 1
      · (intro W hSw; (try dsimp only at hSw); go_simp) <;> with_reducible rfl
      try simp only [Act.put, List.setIfInBounds_toArray, List.set_cons_zero, List.set_cons_succ]
      refine wpAnyT_takeL (i := 2) 6 (v := ?_) rfl (by kernel_rfl) (by kernel_rfl) (by kernel_rfl) (by kernel_rfl) (by kernel_rfl) (fun _ _ _ h => h) (Or.inl ⟨by rfl, ?_⟩) kk ?_
      rotate_left 1
      · (intro W hSw; (try dsimp only at hSw); go_simp) <;> with_reducible rfl
      try simp only [Act.put, List.setIfInBounds_toArray, List.set_cons_zero, List.set_cons_succ]
      refine wpAnyT_takeL (i := 4) 6 (v := ?_) rfl (by kernel_rfl) (by kernel_rfl) (by kernel_rfl) (by kernel_rfl) (by kernel_rfl) (fun _ _ _ h => h) (Or.inl ⟨by rfl, ?_⟩) kk ?_
      rotate_left 1
      · (intro W hSw; (try dsimp only at hSw); go_simp) <;> with_reducible rfl
      try simp only [Act.put, List.setIfInBounds_toArray, List.set_cons_zero, List.set_cons_succ]
      refine wpAnyT_takeL (i := 5) 6 (v := ?_) rfl (by kernel_rfl) (by kernel_rfl) (by kernel_rfl) (by kernel_rfl) (by kernel_rfl) (fun _ _ _ h => h) (Or.inl ⟨by rfl, ?_⟩) kk ?_
      rotate_left 1
      · (intro W hSw; (try dsimp only at hSw); go_simp) <;> with_reducible rfl
      try simp only [Act.put, List.setIfInBounds_toArray, List.set_cons_zero, List.set_cons_succ]
      refine wpAnyT_takeL (i := 6) 6 (v := ?_) rfl (by kernel_rfl) (by kernel_rfl) (by kernel_rfl) (by kernel_rfl) (by kernel_rfl) (fun _ _ _ h => h) (Or.inl ⟨by rfl, ?_⟩) kk ?_
      rotate_left 1
      · (intro W hSw; (try dsimp only at hSw); go_simp) <;> with_reducible rfl
      try simp only [Act.put, List.setIfInBounds_toArray, List.set_cons_zero, List.set_cons_succ]
      refine wpAnyT_go (i := 3) rfl (by kernel_rfl) fun K hK => ?_
      go_simp
      go_at_call 90
      refine (hf1 _ (rx.ext hX)).mono ?_
      rintro e w' ⟨rfl, rfl⟩
      go_simp
      refine hK _ _ ⟨fun _ => kk, ?_⟩
      clear hK K
      refine wpAnyT_go (i := 7) rfl (by kernel_rfl) fun K hK => ?_
      go_simp
      go_at_call 90
      refine (hf2 _ (ry.ext hX)).mono ?_
      rintro e w' ⟨rfl, rfl⟩
      go_simp
      refine hK _ _ ⟨fun _ => kk, ?_⟩
      clear hK K
      refine wpAnyT_takeL (i := 8) 6 (v := ?_) rfl (by kernel_rfl) (by kernel_rfl) (by kernel_rfl) (by kernel_rfl) (by kernel_rfl) (fun _ _ _ h => h) (Or.inl ⟨by rfl, ?_⟩) kk ?_
      rotate_left 1
      · (intro W hSw; (try dsimp only at hSw); go_simp) <;> with_reducible rfl
      try simp only [Act.put, List.setIfInBounds_toArray, List.set_cons_zero, List.set_cons_succ]
      refine wpAnyT_go (i := 9) rfl (by kernel_rfl) fun K hK => ?_
      go_simp
      refine hK _ _ ⟨fun h => absurd rfl h, ?_⟩
      clear hK K
      refine wpAnyT_done (by kernel_rfl) ?_ _
      obtain ⟨q0, q1, q2⟩ := hB.c3
      clear kk
      obtain ⟨r0, r1, r2, r3, r4, r5⟩ := res3 hR
      go_wp2_with fail
      have hRn := ((hR.set_ 0 (.slice A1 n1 c1)).set_ 1 (.slice A2 n2 c2)).set_ 2 (.slice A3 n3 c3)
      obtain ⟨n0, n1', n2'⟩ := hRn.c3
      refine bodyPost_ret (v := .tuple #[.agg #[.slice (⟨⟨A1, n1, c1⟩, ⟨A2, n2, c2⟩, ⟨A3, n3, c3⟩⟩ : S3).x.A (⟨⟨A1, n1, c1⟩, ⟨A2, n2, c2⟩, ⟨A3, n3, c3⟩⟩ : S3).x.n (⟨⟨A1, n1, c1⟩, ⟨A2, n2, c2⟩, ⟨A3, n3, c3⟩⟩ : S3).x.c, .slice (⟨⟨A1, n1, c1⟩, ⟨A2, n2, c2⟩, ⟨A3, n3, c3⟩⟩ : S3).y.A (⟨⟨A1, n1, c1⟩, ⟨A2, n2, c2⟩, ⟨A3, n3, c3⟩⟩ : S3).y.n (⟨⟨A1, n1, c1⟩, ⟨A2, n2, c2⟩, ⟨A3, n3, c3⟩⟩ : S3).y.c, .slice (⟨⟨A1, n1, c1⟩, ⟨A2, n2, c2⟩, ⟨A3, n3, c3⟩⟩ : S3).z.A (⟨⟨A1, n1, c1⟩, ⟨A2, n2, c2⟩, ⟨A3, n3, c3⟩⟩ : S3).z.n (⟨⟨A1, n1, c1⟩, ⟨A2, n2, c2⟩, ⟨A3, n3, c3⟩⟩ : S3).z.c], .int .i64 3]) (by simp [results, Tryz.results63, go_sem, n0, n1', n2']) rfl ⟨(⟨⟨A1, n1, c1⟩, ⟨A2, n2, c2⟩, ⟨A3, n3, c3⟩⟩ : S3), by rw [E2.out], ?_, ((hX.off (w.heap.size + 1) 0 (by omega) _).off (w.heap.size + 1) 1 (by omega) _).off (w.heap.size + 1) 2 (by omega) _⟩
      exact fun h => absurd (E2.out.symm.trans h) (by decide)
    · have E2 := hide (show lvC l x = 0 by unfold lvC; rw [if_pos (.inl hmx), if_neg h60])
      have E1 := hide (show lvV l x = ⟨l.x.set k (l.y.headD 0), l.y.tail, l.z ++ [x]⟩ by unfold lvV; rw [if_pos hmx, ← hk])
      have h60b : ((n3 : Int) == 60) = false := by have : ¬ (n3 : Int) = 60 := by have := hlz.out; omega
                                                   simpa using this
      clear hk h60 hmx
      go_enter Tryz.func63, Tryz.ntmps63
      go_upto_region 9 with fail
      rw [← hw1]
      clear hw1
      have hX := hX0.drew
      have hB := hB0.drew
      have hR := hR0.drew
      have hz1' : w.heap.size + 1 + 1 ≤ w1.drew.heap.size := Nat.le_of_eq hz1
      refine wp_region_sink (S := fun w' => w'.cell? ⟨w.heap.size, 0, none⟩ = some (.slice A1 n1 c1) ∧ w'.cell? ⟨w.heap.size, 1, none⟩ = some (.slice A2 n2 c2) ∧ w'.cell? ⟨w.heap.size, 2, none⟩ = some (.slice A3 n3 c3)) 9 (by kernel_rfl) ?_
      change wpAnyT _ _ _ _ _ _ _ _ _ (World.drew _)
      generalize hwd : World.drew w1 = wd at hX hB hR hz1' ⊢
      clear hwd
      have kk := hB.c3
      refine wpAnyT_takeL (i := 0) 6 (v := ?_) rfl (by kernel_rfl) (by kernel_rfl) (by kernel_rfl) (by kernel_rfl) (by kernel_rfl) (fun _ _ _ h => h) (Or.inl ⟨by rfl, ?_⟩) kk ?_
      rotate_left 1
      · (intro W hSw; (try dsimp only at hSw); go_simp) <;> with_reducible rfl
      try simp only [Act.put, List.setIfInBounds_toArray, List.set_cons_zero, List.set_cons_succ]
      refine wpAnyT_takeL (i := 1) 6 (v := ?_) rfl (by kernel_rfl) (by kernel_rfl) (by kernel_rfl) (by kernel_rfl) (by kernel_rfl) (fun _ _ _ h => h) (Or.inl ⟨by rfl, ?_⟩) kk ?_
      rotate_left 1
      · (intro W hSw; (try dsimp only at hSw); go_simp) <;> with_reducible rfl
      try simp only [Act.put, List.setIfInBounds_toArray, List.set_cons_zero, List.set_cons_succ]
      refine wpAnyT_takeL (i := 2) 6 (v := ?_) rfl (by kernel_rfl) (by kernel_rfl) (by kernel_rfl) (by kernel_rfl) (by kernel_rfl) (fun _ _ _ h => h) (Or.inl ⟨by rfl, ?_⟩) kk ?_
      rotate_left 1
      · (intro W hSw; (try dsimp only at hSw); go_simp) <;> with_reducible rfl
      try simp only [Act.put, List.setIfInBounds_toArray, List.set_cons_zero, List.set_cons_succ]
      refine wpAnyT_takeL (i := 4) 6 (v := ?_) rfl (by kernel_rfl) (by kernel_rfl) (by kernel_rfl) (by kernel_rfl) (by kernel_rfl) (fun _ _ _ h => h) (Or.inl ⟨by rfl, ?_⟩) kk ?_
      rotate_left 1
      · (intro W hSw; (try dsimp only at hSw); go_simp) <;> with_reducible rfl
      try simp only [Act.put, List.setIfInBounds_toArray, List.set_cons_zero, List.set_cons_succ]
      refine wpAnyT_takeL (i := 5) 6 (v := ?_) rfl (by kernel_rfl) (by kernel_rfl) (by kernel_rfl) (by kernel_rfl) (by kernel_rfl) (fun _ _ _ h => h) (Or.inl ⟨by rfl, ?_⟩) kk ?_
      rotate_left 1
      · (intro W hSw; (try dsimp only at hSw); go_simp) <;> with_reducible rfl
      try simp only [Act.put, List.setIfInBounds_toArray, List.set_cons_zero, List.set_cons_succ]
      refine wpAnyT_takeL (i := 6) 6 (v := ?_) rfl (by kernel_rfl) (by kernel_rfl) (by kernel_rfl) (by kernel_rfl) (by kernel_rfl) (fun _ _ _ h => h) (Or.inl ⟨by rfl, ?_⟩) kk ?_
      rotate_left 1
      · (intro W hSw; (try dsimp only at hSw); go_simp) <;> with_reducible rfl
      try simp only [Act.put, List.setIfInBounds_toArray, List.set_cons_zero, List.set_cons_succ]
      refine wpAnyT_go (i := 3) rfl (by kernel_rfl) fun K hK => ?_
      go_simp
      go_at_call 90
      refine (hf1 _ (rx.ext hX)).mono ?_
      rintro e w' ⟨rfl, rfl⟩
      go_simp
      refine hK _ _ ⟨fun _ => kk, ?_⟩
      clear hK K
      refine wpAnyT_go (i := 7) rfl (by kernel_rfl) fun K hK => ?_
      go_simp
      go_at_call 90
      refine (hf2 _ (ry.ext hX)).mono ?_
      rintro e w' ⟨rfl, rfl⟩
      go_simp
      refine hK _ _ ⟨fun _ => kk, ?_⟩
      clear hK K
      refine wpAnyT_takeL (i := 8) 6 (v := ?_) rfl (by kernel_rfl) (by kernel_rfl) (by kernel_rfl) (by kernel_rfl) (by kernel_rfl) (fun _ _ _ h => h) (Or.inl ⟨by rfl, ?_⟩) kk ?_
      rotate_left 1
      · (intro W hSw; (try dsimp only at hSw); go_simp) <;> with_reducible rfl
      try simp only [Act.put, List.setIfInBounds_toArray, List.set_cons_zero, List.set_cons_succ]
      refine wpAnyT_go (i := 9) rfl (by kernel_rfl) fun K hK => ?_
      go_simp
      refine hK _ _ ⟨fun h => absurd rfl h, ?_⟩
      clear hK K
      refine wpAnyT_done (by kernel_rfl) ?_ _
      obtain ⟨q0, q1, q2⟩ := hB.c3
      clear kk
      go_upto_region 33 with fail
      clear q0 q1 q2
      replace hX := hX.drew
      replace hB := hB.drew
      replace hR := hR.drew
      have hz2 : w.heap.size + 1 + 1 ≤ wd.drew.heap.size := hz1'
      clear hz1' hX0 hB0 hR0 hz1
      go_cut [8] (fun s8 wx => LvPost w #[.slice A1 n1 c1, .slice A2 n2 c2, .slice A3 n3 c3] ⟨l.x, l.y, l.z ++ [x]⟩ s8 wx)
      case first =>
        refine wp_region_sink (S := fun w' => w'.cell? ⟨w.heap.size, 0, none⟩ = some (.slice A1 n1 c1) ∧ w'.cell? ⟨w.heap.size, 1, none⟩ = some (.slice A2 n2 c2) ∧ w'.cell? ⟨w.heap.size, 2, none⟩ = some (.slice A3 n3 c3)) 14 (by kernel_rfl) ?_
        change wpAnyT _ _ _ _ _ _ _ _ _ (World.drew _)
        generalize hwd : World.drew wd = we at hX hB hR hz2 ⊢
        clear hwd
        have kk := hB.c3
        refine wpAnyT_takeL (i := 0) 6 (v := ?_) rfl (by kernel_rfl) (by kernel_rfl) (by kernel_rfl) (by kernel_rfl) (by kernel_rfl) (fun _ _ _ h => h) (Or.inl ⟨by rfl, ?_⟩) kk ?_
        rotate_left 1
        · (intro W hSw; (try dsimp only at hSw); go_simp) <;> with_reducible rfl
        clear kk
        try simp only [Act.put, List.setIfInBounds_toArray, List.set_cons_zero, List.set_cons_succ]
        have kk := hB.c3
        refine wpAnyT_takeL (i := 1) 6 (v := ?_) rfl (by kernel_rfl) (by kernel_rfl) (by kernel_rfl) (by kernel_rfl) (by kernel_rfl) (fun _ _ _ h => h) (Or.inl ⟨by rfl, ?_⟩) kk ?_
        rotate_left 1
        · (intro W hSw; (try dsimp only at hSw); go_simp) <;> with_reducible rfl
        clear kk
        try simp only [Act.put, List.setIfInBounds_toArray, List.set_cons_zero, List.set_cons_succ]
        have kk := hB.c3
        refine wpAnyT_takeL (i := 3) 6 (v := ?_) rfl (by kernel_rfl) (by kernel_rfl) (by kernel_rfl) (by kernel_rfl) (by kernel_rfl) (fun _ _ _ h => h) (Or.inl ⟨by rfl, ?_⟩) kk ?_
        rotate_left 1
        · (intro W hSw; (try dsimp only at hSw); go_simp) <;> with_reducible rfl
        clear kk
        try simp only [Act.put, List.setIfInBounds_toArray, List.set_cons_zero, List.set_cons_succ]
        have kk := hB.c3
        refine wpAnyT_takeL (i := 4) 6 (v := ?_) rfl (by kernel_rfl) (by kernel_rfl) (by kernel_rfl) (by kernel_rfl) (by kernel_rfl) (fun _ _ _ h => h) (Or.inl ⟨by rfl, ?_⟩) kk ?_
        rotate_left 1
        · (intro W hSw; (try dsimp only at hSw); go_simp) <;> with_reducible rfl
        clear kk
        try simp only [Act.put, List.setIfInBounds_toArray, List.set_cons_zero, List.set_cons_succ]
        have kk := hB.c3
        refine wpAnyT_takeL (i := 6) 6 (v := ?_) rfl (by kernel_rfl) (by kernel_rfl) (by kernel_rfl) (by kernel_rfl) (by kernel_rfl) (fun _ _ _ h => h) (Or.inl ⟨by rfl, ?_⟩) kk ?_
        rotate_left 1
        · (intro W hSw; (try dsimp only at hSw); go_simp) <;> with_reducible rfl
        clear kk
        try simp only [Act.put, List.setIfInBounds_toArray, List.set_cons_zero, List.set_cons_succ]
        have kk := hB.c3
        refine wpAnyT_takeL (i := 7) 6 (v := ?_) rfl (by kernel_rfl) (by kernel_rfl) (by kernel_rfl) (by kernel_rfl) (by kernel_rfl) (fun _ _ _ h => h) (Or.inl ⟨by rfl, ?_⟩) kk ?_
        rotate_left 1
        · (intro W hSw; (try dsimp only at hSw); go_simp) <;> with_reducible rfl
        clear kk
        try simp only [Act.put, List.setIfInBounds_toArray, List.set_cons_zero, List.set_cons_succ]
        have kk := hB.c3
        refine wpAnyT_takeL (i := 9) 6 (v := ?_) rfl (by kernel_rfl) (by kernel_rfl) (by kernel_rfl) (by kernel_rfl) (by kernel_rfl) (fun _ _ _ h => h) (Or.inl ⟨by rfl, ?_⟩) kk ?_
        rotate_left 1
        · (intro W hSw; (try dsimp only at hSw); go_simp) <;> with_reducible rfl
        clear kk
        try simp only [Act.put, List.setIfInBounds_toArray, List.set_cons_zero, List.set_cons_succ]
        refine wpAnyT_go3 (i := 2) (j := 10) (k := 13) rfl rfl rfl (by kernel_rfl) (fun K hK => ?_) (fun K hK => ?_) (fun K hK => ?_)
        go_simp
        go_at_call 62
        refine (spec.l01Own_any ⟨A1, n1, c1⟩ l.x _ (rx.ext hX)).mono ?_
        rintro e w_8n ⟨tx, rfl, ox, hx⟩
        go_simp
        have z0 := hR.lt
        replace ox := Own.mono (lo' := (w.heap.size + 1 + 1)) ox (by omega)
        replace hB := hB.ext hx
        replace hR := hR.ext hx
        replace hX := hX.trans hx
        refine hK _ _ ⟨fun _ => hB.c3, ?_⟩
        clear hK K hx z0
        revert ox; revert hR; revert hB; revert hX; revert tx; revert w_8n
        refine ?nd_1
        rotate_left 1
        go_simp
        have hx := (Ext.refl we).alloc (.cells #[.int .i64 x] 2)
        have BF := Blk.new we 2 (#[.int .i64 x])
        obtain ⟨bF, hb⟩ : ∃ b, b = we.heap.size := ⟨_, rfl⟩
        generalize hw : World.alloc we (.cells #[.int .i64 x] 2) = w_8n at hx BF ⊢
        rw [← hb] at BF ⊢
        have lF : (w.heap.size + 1 + 1) ≤ bF := by have := hR.lt; omega
        replace hB := hB.ext hx
        replace hR := hR.ext hx
        replace hX := hX.trans hx
        refine hK _ _ ⟨fun _ => hB.c3, ?_⟩
        clear hK K hx hb hw
        revert lF; revert BF; revert hR; revert hB; revert hX; revert bF; revert w_8n
        refine ?nd_2
        rotate_left 1
        go_simp
        have hx := (Ext.refl we).alloc (.cells #[.slice none 0 0, .slice none 0 0, .slice none 0 0] 30)
        have BP := Blk.new we 30 (#[.slice none 0 0, .slice none 0 0, .slice none 0 0])
        obtain ⟨bP, hb⟩ : ∃ b, b = we.heap.size := ⟨_, rfl⟩
        generalize hw : World.alloc we (.cells #[.slice none 0 0, .slice none 0 0, .slice none 0 0] 30) = w_8n at hx BP ⊢
        rw [← hb] at BP ⊢
        have lP : (w.heap.size + 1 + 1) ≤ bP := by have := hR.lt; omega
        replace hB := hB.ext hx
        replace hR := hR.ext hx
        replace hX := hX.trans hx
        refine hK _ _ ⟨fun _ => hB.c3, ?_⟩
        clear hK K hx hb hw
        revert lP; revert BP; revert hR; revert hB; revert hX; revert bP; revert w_8n
        refine ?nd_3
        rotate_left 1
        -- nd_1
        intro w_8 tx hX hB hR ox
        refine wpAnyT_go3 (i := 5) (j := 10) (k := 13) rfl rfl rfl (by kernel_rfl) (fun K hK => ?_) (fun K hK => ?_) (fun K hK => ?_)
        go_simp
        go_at_call 62
        refine (spec.l01Own_any ⟨A2, n2, c2⟩ l.y _ (ry.ext hX)).mono ?_
        rintro e w_9n ⟨ty, rfl, oy, hx⟩
        go_simp
        have p_x_y : apart (.slice tx.A tx.n tx.c) (.slice ty.A ty.n ty.c) := fun k h1 h2 => by have a1 := (ox.lt k h1).2; have a2 := (oy.lt k h2).1; omega
        have z0 := hR.lt
        replace oy := Own.mono (lo' := (w.heap.size + 1 + 1)) oy (by omega)
        replace hB := hB.ext hx
        replace hR := hR.ext hx
        replace ox := ox.ext hx
        replace hX := hX.trans hx
        refine hK _ _ ⟨fun _ => hB.c3, ?_⟩
        clear hK K hx z0
        revert p_x_y; revert oy; revert ox; revert hR; revert hB; revert hX; revert ty; revert tx; revert w_9n
        clear w_8
        refine ?nd_4
        rotate_left 1
        go_simp
        have hx := (Ext.refl w_8).alloc (.cells #[.int .i64 x] 2)
        have BF := Blk.new w_8 2 (#[.int .i64 x])
        obtain ⟨bF, hb⟩ : ∃ b, b = w_8.heap.size := ⟨_, rfl⟩
        generalize hw : World.alloc w_8 (.cells #[.int .i64 x] 2) = w_9n at hx BF ⊢
        rw [← hb] at BF ⊢
        have lF : (w.heap.size + 1 + 1) ≤ bF := by have := hR.lt; omega
        have p_x_F : ∀ k, Value.ownBlock (.slice tx.A tx.n tx.c) = some k → k ≠ bF := fun k h1 e => by have a1 := (ox.lt k h1).2; omega
        replace hB := hB.ext hx
        replace hR := hR.ext hx
        replace ox := ox.ext hx
        replace hX := hX.trans hx
        refine hK _ _ ⟨fun _ => hB.c3, ?_⟩
        clear hK K hx hb hw
        revert p_x_F; revert lF; revert BF; revert ox; revert hR; revert hB; revert hX; revert bF; revert tx; revert w_9n
        clear w_8
        refine ?nd_5
        rotate_left 1
        go_simp
        have hx := (Ext.refl w_8).alloc (.cells #[.slice none 0 0, .slice none 0 0, .slice none 0 0] 30)
        have BP := Blk.new w_8 30 (#[.slice none 0 0, .slice none 0 0, .slice none 0 0])
        obtain ⟨bP, hb⟩ : ∃ b, b = w_8.heap.size := ⟨_, rfl⟩
        generalize hw : World.alloc w_8 (.cells #[.slice none 0 0, .slice none 0 0, .slice none 0 0] 30) = w_9n at hx BP ⊢
        rw [← hb] at BP ⊢
        have lP : (w.heap.size + 1 + 1) ≤ bP := by have := hR.lt; omega
        have p_x_P : ∀ k, Value.ownBlock (.slice tx.A tx.n tx.c) = some k → k ≠ bP := fun k h1 e => by have a1 := (ox.lt k h1).2; omega
        replace hB := hB.ext hx
        replace hR := hR.ext hx
        replace ox := ox.ext hx
        replace hX := hX.trans hx
        refine hK _ _ ⟨fun _ => hB.c3, ?_⟩
        clear hK K hx hb hw
        revert p_x_P; revert lP; revert BP; revert ox; revert hR; revert hB; revert hX; revert bP; revert tx; revert w_9n
        clear w_8
        refine ?nd_6
        rotate_left 1
        -- nd_2
        intro w_8 bF hX hB hR BF lF
        refine wpAnyT_go2 (i := 2) (j := 13) rfl rfl (by kernel_rfl) (fun K hK => ?_) (fun K hK => ?_)
        go_simp
        go_at_call 62
        refine (spec.l01Own_any ⟨A1, n1, c1⟩ l.x _ (rx.ext hX)).mono ?_
        rintro e w_9n ⟨tx, rfl, ox, hx⟩
        go_simp
        have p_x_F : ∀ k, Value.ownBlock (.slice tx.A tx.n tx.c) = some k → k ≠ bF := fun k h1 e => by have a1 := (ox.lt k h1).1; have a2 := BF.lt; omega
        have z0 := hR.lt
        replace ox := Own.mono (lo' := (w.heap.size + 1 + 1)) ox (by omega)
        replace hB := hB.ext hx
        replace hR := hR.ext hx
        replace BF := BF.ext hx
        replace hX := hX.trans hx
        refine hK _ _ ⟨fun _ => hB.c3, ?_⟩
        clear hK K hx z0
        revert p_x_F; revert lF; revert BF; revert ox; revert hR; revert hB; revert hX; revert bF; revert tx; revert w_9n
        clear w_8
        exact ?nd_5
        go_simp
        have hx := (Ext.refl w_8).alloc (.cells #[.slice none 0 0, .slice none 0 0, .slice none 0 0] 30)
        have BP := Blk.new w_8 30 (#[.slice none 0 0, .slice none 0 0, .slice none 0 0])
        obtain ⟨bP, hb⟩ : ∃ b, b = w_8.heap.size := ⟨_, rfl⟩
        generalize hw : World.alloc w_8 (.cells #[.slice none 0 0, .slice none 0 0, .slice none 0 0] 30) = w_9n at hx BP ⊢
        rw [← hb] at BP ⊢
        have lP : (w.heap.size + 1 + 1) ≤ bP := by have := hR.lt; omega
        have p_F_P : bF ≠ bP := by have := BF.lt; omega
        replace hB := hB.ext hx
        replace hR := hR.ext hx
        replace BF := BF.ext hx
        replace hX := hX.trans hx
        refine hK _ _ ⟨fun _ => hB.c3, ?_⟩
        clear hK K hx hb hw
        revert p_F_P; revert lP; revert lF; revert BP; revert BF; revert hR; revert hB; revert hX; revert bP; revert bF; revert w_9n
        clear w_8
        refine ?nd_7
        rotate_left 1
        -- nd_3
        intro w_8 bP hX hB hR BP lP
        refine wpAnyT_go2 (i := 2) (j := 10) rfl rfl (by kernel_rfl) (fun K hK => ?_) (fun K hK => ?_)
        go_simp
        go_at_call 62
        refine (spec.l01Own_any ⟨A1, n1, c1⟩ l.x _ (rx.ext hX)).mono ?_
        rintro e w_9n ⟨tx, rfl, ox, hx⟩
        go_simp
        have p_x_P : ∀ k, Value.ownBlock (.slice tx.A tx.n tx.c) = some k → k ≠ bP := fun k h1 e => by have a1 := (ox.lt k h1).1; have a2 := BP.lt; omega
        have z0 := hR.lt
        replace ox := Own.mono (lo' := (w.heap.size + 1 + 1)) ox (by omega)
        replace hB := hB.ext hx
        replace hR := hR.ext hx
        replace BP := BP.ext hx
        replace hX := hX.trans hx
        refine hK _ _ ⟨fun _ => hB.c3, ?_⟩
        clear hK K hx z0
        revert p_x_P; revert lP; revert BP; revert ox; revert hR; revert hB; revert hX; revert bP; revert tx; revert w_9n
        clear w_8
        exact ?nd_6
        go_simp
        have hx := (Ext.refl w_8).alloc (.cells #[.int .i64 x] 2)
        have BF := Blk.new w_8 2 (#[.int .i64 x])
        obtain ⟨bF, hb⟩ : ∃ b, b = w_8.heap.size := ⟨_, rfl⟩
        generalize hw : World.alloc w_8 (.cells #[.int .i64 x] 2) = w_9n at hx BF ⊢
        rw [← hb] at BF ⊢
        have lF : (w.heap.size + 1 + 1) ≤ bF := by have := hR.lt; omega
        have p_F_P : bF ≠ bP := by have := BP.lt; omega
        replace hB := hB.ext hx
        replace hR := hR.ext hx
        replace BP := BP.ext hx
        replace hX := hX.trans hx
        refine hK _ _ ⟨fun _ => hB.c3, ?_⟩
        clear hK K hx hb hw
        revert p_F_P; revert lP; revert lF; revert BP; revert BF; revert hR; revert hB; revert hX; revert bP; revert bF; revert w_9n
        clear w_8
        exact ?nd_7
        -- nd_4
        intro w_9 tx ty hX hB hR ox oy p_x_y
        refine wpAnyT_go3 (i := 8) (j := 10) (k := 13) rfl rfl rfl (by kernel_rfl) (fun K hK => ?_) (fun K hK => ?_) (fun K hK => ?_)
        go_simp
        go_at_call 62
        refine (spec.l01Own_any ⟨A3, n3, c3⟩ l.z _ (rz.ext hX)).mono ?_
        rintro e w_10n ⟨tg, rfl, og, hx⟩
        go_simp
        have p_g_x : apart (.slice tg.A tg.n tg.c) (.slice tx.A tx.n tx.c) := fun k h1 h2 => by have a1 := (ox.lt k h2).2; have a2 := (og.lt k h1).1; omega
        have p_g_y : apart (.slice tg.A tg.n tg.c) (.slice ty.A ty.n ty.c) := fun k h1 h2 => by have a1 := (oy.lt k h2).2; have a2 := (og.lt k h1).1; omega
        have z0 := hR.lt
        replace og := Own.mono (lo' := (w.heap.size + 1 + 1)) og (by omega)
        replace hB := hB.ext hx
        replace hR := hR.ext hx
        replace ox := ox.ext hx
        replace oy := oy.ext hx
        replace hX := hX.trans hx
        refine hK _ _ ⟨fun _ => hB.c3, ?_⟩
        clear hK K hx z0
        revert p_x_y; revert p_g_y; revert p_g_x; revert oy; revert ox; revert og; revert hR; revert hB; revert hX; revert ty; revert tx; revert tg; revert w_10n
        clear w_9
        refine ?nd_8
        rotate_left 1
        go_simp
        have hx := (Ext.refl w_9).alloc (.cells #[.int .i64 x] 2)
        have BF := Blk.new w_9 2 (#[.int .i64 x])
        obtain ⟨bF, hb⟩ : ∃ b, b = w_9.heap.size := ⟨_, rfl⟩
        generalize hw : World.alloc w_9 (.cells #[.int .i64 x] 2) = w_10n at hx BF ⊢
        rw [← hb] at BF ⊢
        have lF : (w.heap.size + 1 + 1) ≤ bF := by have := hR.lt; omega
        have p_x_F : ∀ k, Value.ownBlock (.slice tx.A tx.n tx.c) = some k → k ≠ bF := fun k h1 e => by have a1 := (ox.lt k h1).2; omega
        have p_y_F : ∀ k, Value.ownBlock (.slice ty.A ty.n ty.c) = some k → k ≠ bF := fun k h1 e => by have a1 := (oy.lt k h1).2; omega
        replace hB := hB.ext hx
        replace hR := hR.ext hx
        replace ox := ox.ext hx
        replace oy := oy.ext hx
        replace hX := hX.trans hx
        refine hK _ _ ⟨fun _ => hB.c3, ?_⟩
        clear hK K hx hb hw
        revert p_y_F; revert p_x_F; revert p_x_y; revert lF; revert BF; revert oy; revert ox; revert hR; revert hB; revert hX; revert bF; revert ty; revert tx; revert w_10n
        clear w_9
        refine ?nd_9
        rotate_left 1
        go_simp
        have hx := (Ext.refl w_9).alloc (.cells #[.slice none 0 0, .slice none 0 0, .slice none 0 0] 30)
        have BP := Blk.new w_9 30 (#[.slice none 0 0, .slice none 0 0, .slice none 0 0])
        obtain ⟨bP, hb⟩ : ∃ b, b = w_9.heap.size := ⟨_, rfl⟩
        generalize hw : World.alloc w_9 (.cells #[.slice none 0 0, .slice none 0 0, .slice none 0 0] 30) = w_10n at hx BP ⊢
        rw [← hb] at BP ⊢
        have lP : (w.heap.size + 1 + 1) ≤ bP := by have := hR.lt; omega
        have p_x_P : ∀ k, Value.ownBlock (.slice tx.A tx.n tx.c) = some k → k ≠ bP := fun k h1 e => by have a1 := (ox.lt k h1).2; omega
        have p_y_P : ∀ k, Value.ownBlock (.slice ty.A ty.n ty.c) = some k → k ≠ bP := fun k h1 e => by have a1 := (oy.lt k h1).2; omega
        replace hB := hB.ext hx
        replace hR := hR.ext hx
        replace ox := ox.ext hx
        replace oy := oy.ext hx
        replace hX := hX.trans hx
        refine hK _ _ ⟨fun _ => hB.c3, ?_⟩
        clear hK K hx hb hw
        revert p_y_P; revert p_x_P; revert p_x_y; revert lP; revert BP; revert oy; revert ox; revert hR; revert hB; revert hX; revert bP; revert ty; revert tx; revert w_10n
        clear w_9
        refine ?nd_10
        rotate_left 1
        -- nd_5
        intro w_9 tx bF hX hB hR ox BF lF p_x_F
        refine wpAnyT_go2 (i := 5) (j := 13) rfl rfl (by kernel_rfl) (fun K hK => ?_) (fun K hK => ?_)
        go_simp
        go_at_call 62
        refine (spec.l01Own_any ⟨A2, n2, c2⟩ l.y _ (ry.ext hX)).mono ?_
        rintro e w_10n ⟨ty, rfl, oy, hx⟩
        go_simp
        have p_x_y : apart (.slice tx.A tx.n tx.c) (.slice ty.A ty.n ty.c) := fun k h1 h2 => by have a1 := (ox.lt k h1).2; have a2 := (oy.lt k h2).1; omega
        have p_y_F : ∀ k, Value.ownBlock (.slice ty.A ty.n ty.c) = some k → k ≠ bF := fun k h1 e => by have a1 := (oy.lt k h1).1; have a2 := BF.lt; omega
        have z0 := hR.lt
        replace oy := Own.mono (lo' := (w.heap.size + 1 + 1)) oy (by omega)
        replace hB := hB.ext hx
        replace hR := hR.ext hx
        replace ox := ox.ext hx
        replace BF := BF.ext hx
        replace hX := hX.trans hx
        refine hK _ _ ⟨fun _ => hB.c3, ?_⟩
        clear hK K hx z0
        revert p_y_F; revert p_x_F; revert p_x_y; revert lF; revert BF; revert oy; revert ox; revert hR; revert hB; revert hX; revert bF; revert ty; revert tx; revert w_10n
        clear w_9
        exact ?nd_9
        go_simp
        have hx := (Ext.refl w_9).alloc (.cells #[.slice none 0 0, .slice none 0 0, .slice none 0 0] 30)
        have BP := Blk.new w_9 30 (#[.slice none 0 0, .slice none 0 0, .slice none 0 0])
        obtain ⟨bP, hb⟩ : ∃ b, b = w_9.heap.size := ⟨_, rfl⟩
        generalize hw : World.alloc w_9 (.cells #[.slice none 0 0, .slice none 0 0, .slice none 0 0] 30) = w_10n at hx BP ⊢
        rw [← hb] at BP ⊢
        have lP : (w.heap.size + 1 + 1) ≤ bP := by have := hR.lt; omega
        have p_x_P : ∀ k, Value.ownBlock (.slice tx.A tx.n tx.c) = some k → k ≠ bP := fun k h1 e => by have a1 := (ox.lt k h1).2; omega
        have p_F_P : bF ≠ bP := by have := BF.lt; omega
        replace hB := hB.ext hx
        replace hR := hR.ext hx
        replace ox := ox.ext hx
        replace BF := BF.ext hx
        replace hX := hX.trans hx
        refine hK _ _ ⟨fun _ => hB.c3, ?_⟩
        clear hK K hx hb hw
        revert p_F_P; revert p_x_P; revert p_x_F; revert lP; revert lF; revert BP; revert BF; revert ox; revert hR; revert hB; revert hX; revert bP; revert bF; revert tx; revert w_10n
        clear w_9
        refine ?nd_11
        rotate_left 1
        -- nd_6
        intro w_9 tx bP hX hB hR ox BP lP p_x_P
        refine wpAnyT_go2 (i := 5) (j := 10) rfl rfl (by kernel_rfl) (fun K hK => ?_) (fun K hK => ?_)
        go_simp
        go_at_call 62
        refine (spec.l01Own_any ⟨A2, n2, c2⟩ l.y _ (ry.ext hX)).mono ?_
        rintro e w_10n ⟨ty, rfl, oy, hx⟩
        go_simp
        have p_x_y : apart (.slice tx.A tx.n tx.c) (.slice ty.A ty.n ty.c) := fun k h1 h2 => by have a1 := (ox.lt k h1).2; have a2 := (oy.lt k h2).1; omega
        have p_y_P : ∀ k, Value.ownBlock (.slice ty.A ty.n ty.c) = some k → k ≠ bP := fun k h1 e => by have a1 := (oy.lt k h1).1; have a2 := BP.lt; omega
        have z0 := hR.lt
        replace oy := Own.mono (lo' := (w.heap.size + 1 + 1)) oy (by omega)
        replace hB := hB.ext hx
        replace hR := hR.ext hx
        replace ox := ox.ext hx
        replace BP := BP.ext hx
        replace hX := hX.trans hx
        refine hK _ _ ⟨fun _ => hB.c3, ?_⟩
        clear hK K hx z0
        revert p_y_P; revert p_x_P; revert p_x_y; revert lP; revert BP; revert oy; revert ox; revert hR; revert hB; revert hX; revert bP; revert ty; revert tx; revert w_10n
        clear w_9
        exact ?nd_10
        go_simp
        have hx := (Ext.refl w_9).alloc (.cells #[.int .i64 x] 2)
        have BF := Blk.new w_9 2 (#[.int .i64 x])
        obtain ⟨bF, hb⟩ : ∃ b, b = w_9.heap.size := ⟨_, rfl⟩
        generalize hw : World.alloc w_9 (.cells #[.int .i64 x] 2) = w_10n at hx BF ⊢
        rw [← hb] at BF ⊢
        have lF : (w.heap.size + 1 + 1) ≤ bF := by have := hR.lt; omega
        have p_x_F : ∀ k, Value.ownBlock (.slice tx.A tx.n tx.c) = some k → k ≠ bF := fun k h1 e => by have a1 := (ox.lt k h1).2; omega
        have p_F_P : bF ≠ bP := by have := BP.lt; omega
        replace hB := hB.ext hx
        replace hR := hR.ext hx
        replace ox := ox.ext hx
        replace BP := BP.ext hx
        replace hX := hX.trans hx
        refine hK _ _ ⟨fun _ => hB.c3, ?_⟩
        clear hK K hx hb hw
        revert p_F_P; revert p_x_P; revert p_x_F; revert lP; revert lF; revert BP; revert BF; revert ox; revert hR; revert hB; revert hX; revert bP; revert bF; revert tx; revert w_10n
        clear w_9
        exact ?nd_11
        -- nd_7
        intro w_9 bF bP hX hB hR BF BP lF lP p_F_P
        refine wpAnyT_go (i := 2) rfl (by kernel_rfl) fun K hK => ?_
        go_simp
        go_at_call 62
        refine (spec.l01Own_any ⟨A1, n1, c1⟩ l.x _ (rx.ext hX)).mono ?_
        rintro e w_10n ⟨tx, rfl, ox, hx⟩
        go_simp
        have p_x_F : ∀ k, Value.ownBlock (.slice tx.A tx.n tx.c) = some k → k ≠ bF := fun k h1 e => by have a1 := (ox.lt k h1).1; have a2 := BF.lt; omega
        have p_x_P : ∀ k, Value.ownBlock (.slice tx.A tx.n tx.c) = some k → k ≠ bP := fun k h1 e => by have a1 := (ox.lt k h1).1; have a2 := BP.lt; omega
        have z0 := hR.lt
        replace ox := Own.mono (lo' := (w.heap.size + 1 + 1)) ox (by omega)
        replace hB := hB.ext hx
        replace hR := hR.ext hx
        replace BF := BF.ext hx
        replace BP := BP.ext hx
        replace hX := hX.trans hx
        refine hK _ _ ⟨fun _ => hB.c3, ?_⟩
        clear hK K hx z0
        revert p_F_P; revert p_x_P; revert p_x_F; revert lP; revert lF; revert BP; revert BF; revert ox; revert hR; revert hB; revert hX; revert bP; revert bF; revert tx; revert w_10n
        clear w_9
        exact ?nd_11
        -- nd_8
        intro w_10 tg tx ty hX hB hR og ox oy p_g_x p_g_y p_x_y
        refine wpAnyT_go2 (i := 10) (j := 13) rfl rfl (by kernel_rfl) (fun K hK => ?_) (fun K hK => ?_)
        go_simp
        have hx := (Ext.refl w_10).alloc (.cells #[.int .i64 x] 2)
        have BF := Blk.new w_10 2 (#[.int .i64 x])
        obtain ⟨bF, hb⟩ : ∃ b, b = w_10.heap.size := ⟨_, rfl⟩
        generalize hw : World.alloc w_10 (.cells #[.int .i64 x] 2) = w_11n at hx BF ⊢
        rw [← hb] at BF ⊢
        have lF : (w.heap.size + 1 + 1) ≤ bF := by have := hR.lt; omega
        have p_g_F : ∀ k, Value.ownBlock (.slice tg.A tg.n tg.c) = some k → k ≠ bF := fun k h1 e => by have a1 := (og.lt k h1).2; omega
        have p_x_F : ∀ k, Value.ownBlock (.slice tx.A tx.n tx.c) = some k → k ≠ bF := fun k h1 e => by have a1 := (ox.lt k h1).2; omega
        have p_y_F : ∀ k, Value.ownBlock (.slice ty.A ty.n ty.c) = some k → k ≠ bF := fun k h1 e => by have a1 := (oy.lt k h1).2; omega
        replace hB := hB.ext hx
        replace hR := hR.ext hx
        replace og := og.ext hx
        replace ox := ox.ext hx
        replace oy := oy.ext hx
        replace hX := hX.trans hx
        refine hK _ _ ⟨fun _ => hB.c3, ?_⟩
        clear hK K hx hb hw
        revert p_y_F; revert p_x_F; revert p_g_F; revert p_x_y; revert p_g_y; revert p_g_x; revert lF; revert BF; revert oy; revert ox; revert og; revert hR; revert hB; revert hX; revert bF; revert ty; revert tx; revert tg; revert w_11n
        clear w_10
        refine ?nd_12
        rotate_left 1
        go_simp
        have hx := (Ext.refl w_10).alloc (.cells #[.slice none 0 0, .slice none 0 0, .slice none 0 0] 30)
        have BP := Blk.new w_10 30 (#[.slice none 0 0, .slice none 0 0, .slice none 0 0])
        obtain ⟨bP, hb⟩ : ∃ b, b = w_10.heap.size := ⟨_, rfl⟩
        generalize hw : World.alloc w_10 (.cells #[.slice none 0 0, .slice none 0 0, .slice none 0 0] 30) = w_11n at hx BP ⊢
        rw [← hb] at BP ⊢
        have lP : (w.heap.size + 1 + 1) ≤ bP := by have := hR.lt; omega
        have p_g_P : ∀ k, Value.ownBlock (.slice tg.A tg.n tg.c) = some k → k ≠ bP := fun k h1 e => by have a1 := (og.lt k h1).2; omega
        have p_x_P : ∀ k, Value.ownBlock (.slice tx.A tx.n tx.c) = some k → k ≠ bP := fun k h1 e => by have a1 := (ox.lt k h1).2; omega
        have p_y_P : ∀ k, Value.ownBlock (.slice ty.A ty.n ty.c) = some k → k ≠ bP := fun k h1 e => by have a1 := (oy.lt k h1).2; omega
        replace hB := hB.ext hx
        replace hR := hR.ext hx
        replace og := og.ext hx
        replace ox := ox.ext hx
        replace oy := oy.ext hx
        replace hX := hX.trans hx
        refine hK _ _ ⟨fun _ => hB.c3, ?_⟩
        clear hK K hx hb hw
        revert p_y_P; revert p_x_P; revert p_g_P; revert p_x_y; revert p_g_y; revert p_g_x; revert lP; revert BP; revert oy; revert ox; revert og; revert hR; revert hB; revert hX; revert bP; revert ty; revert tx; revert tg; revert w_11n
        clear w_10
        refine ?nd_13
        rotate_left 1
        -- nd_9
        intro w_10 tx ty bF hX hB hR ox oy BF lF p_x_y p_x_F p_y_F
        refine wpAnyT_go2 (i := 8) (j := 13) rfl rfl (by kernel_rfl) (fun K hK => ?_) (fun K hK => ?_)
        go_simp
        go_at_call 62
        refine (spec.l01Own_any ⟨A3, n3, c3⟩ l.z _ (rz.ext hX)).mono ?_
        rintro e w_11n ⟨tg, rfl, og, hx⟩
        go_simp
        have p_g_x : apart (.slice tg.A tg.n tg.c) (.slice tx.A tx.n tx.c) := fun k h1 h2 => by have a1 := (ox.lt k h2).2; have a2 := (og.lt k h1).1; omega
        have p_g_y : apart (.slice tg.A tg.n tg.c) (.slice ty.A ty.n ty.c) := fun k h1 h2 => by have a1 := (oy.lt k h2).2; have a2 := (og.lt k h1).1; omega
        have p_g_F : ∀ k, Value.ownBlock (.slice tg.A tg.n tg.c) = some k → k ≠ bF := fun k h1 e => by have a1 := (og.lt k h1).1; have a2 := BF.lt; omega
        have z0 := hR.lt
        replace og := Own.mono (lo' := (w.heap.size + 1 + 1)) og (by omega)
        replace hB := hB.ext hx
        replace hR := hR.ext hx
        replace ox := ox.ext hx
        replace oy := oy.ext hx
        replace BF := BF.ext hx
        replace hX := hX.trans hx
        refine hK _ _ ⟨fun _ => hB.c3, ?_⟩
        clear hK K hx z0
        revert p_y_F; revert p_x_F; revert p_g_F; revert p_x_y; revert p_g_y; revert p_g_x; revert lF; revert BF; revert oy; revert ox; revert og; revert hR; revert hB; revert hX; revert bF; revert ty; revert tx; revert tg; revert w_11n
        clear w_10
        exact ?nd_12
        go_simp
        have hx := (Ext.refl w_10).alloc (.cells #[.slice none 0 0, .slice none 0 0, .slice none 0 0] 30)
        have BP := Blk.new w_10 30 (#[.slice none 0 0, .slice none 0 0, .slice none 0 0])
        obtain ⟨bP, hb⟩ : ∃ b, b = w_10.heap.size := ⟨_, rfl⟩
        generalize hw : World.alloc w_10 (.cells #[.slice none 0 0, .slice none 0 0, .slice none 0 0] 30) = w_11n at hx BP ⊢
        rw [← hb] at BP ⊢
        have lP : (w.heap.size + 1 + 1) ≤ bP := by have := hR.lt; omega
        have p_x_P : ∀ k, Value.ownBlock (.slice tx.A tx.n tx.c) = some k → k ≠ bP := fun k h1 e => by have a1 := (ox.lt k h1).2; omega
        have p_y_P : ∀ k, Value.ownBlock (.slice ty.A ty.n ty.c) = some k → k ≠ bP := fun k h1 e => by have a1 := (oy.lt k h1).2; omega
        have p_F_P : bF ≠ bP := by have := BF.lt; omega
        replace hB := hB.ext hx
        replace hR := hR.ext hx
        replace ox := ox.ext hx
        replace oy := oy.ext hx
        replace BF := BF.ext hx
        replace hX := hX.trans hx
        refine hK _ _ ⟨fun _ => hB.c3, ?_⟩
        clear hK K hx hb hw
        revert p_F_P; revert p_y_P; revert p_y_F; revert p_x_P; revert p_x_F; revert p_x_y; revert lP; revert lF; revert BP; revert BF; revert oy; revert ox; revert hR; revert hB; revert hX; revert bP; revert bF; revert ty; revert tx; revert w_11n
        clear w_10
        refine ?nd_14
        rotate_left 1
        -- nd_10
        intro w_10 tx ty bP hX hB hR ox oy BP lP p_x_y p_x_P p_y_P
        refine wpAnyT_go2 (i := 8) (j := 10) rfl rfl (by kernel_rfl) (fun K hK => ?_) (fun K hK => ?_)
        go_simp
        go_at_call 62
        refine (spec.l01Own_any ⟨A3, n3, c3⟩ l.z _ (rz.ext hX)).mono ?_
        rintro e w_11n ⟨tg, rfl, og, hx⟩
        go_simp
        have p_g_x : apart (.slice tg.A tg.n tg.c) (.slice tx.A tx.n tx.c) := fun k h1 h2 => by have a1 := (ox.lt k h2).2; have a2 := (og.lt k h1).1; omega
        have p_g_y : apart (.slice tg.A tg.n tg.c) (.slice ty.A ty.n ty.c) := fun k h1 h2 => by have a1 := (oy.lt k h2).2; have a2 := (og.lt k h1).1; omega
        have p_g_P : ∀ k, Value.ownBlock (.slice tg.A tg.n tg.c) = some k → k ≠ bP := fun k h1 e => by have a1 := (og.lt k h1).1; have a2 := BP.lt; omega
        have z0 := hR.lt
        replace og := Own.mono (lo' := (w.heap.size + 1 + 1)) og (by omega)
        replace hB := hB.ext hx
        replace hR := hR.ext hx
        replace ox := ox.ext hx
        replace oy := oy.ext hx
        replace BP := BP.ext hx
        replace hX := hX.trans hx
        refine hK _ _ ⟨fun _ => hB.c3, ?_⟩
        clear hK K hx z0
        revert p_y_P; revert p_x_P; revert p_g_P; revert p_x_y; revert p_g_y; revert p_g_x; revert lP; revert BP; revert oy; revert ox; revert og; revert hR; revert hB; revert hX; revert bP; revert ty; revert tx; revert tg; revert w_11n
        clear w_10
        exact ?nd_13
        go_simp
        have hx := (Ext.refl w_10).alloc (.cells #[.int .i64 x] 2)
        have BF := Blk.new w_10 2 (#[.int .i64 x])
        obtain ⟨bF, hb⟩ : ∃ b, b = w_10.heap.size := ⟨_, rfl⟩
        generalize hw : World.alloc w_10 (.cells #[.int .i64 x] 2) = w_11n at hx BF ⊢
        rw [← hb] at BF ⊢
        have lF : (w.heap.size + 1 + 1) ≤ bF := by have := hR.lt; omega
        have p_x_F : ∀ k, Value.ownBlock (.slice tx.A tx.n tx.c) = some k → k ≠ bF := fun k h1 e => by have a1 := (ox.lt k h1).2; omega
        have p_y_F : ∀ k, Value.ownBlock (.slice ty.A ty.n ty.c) = some k → k ≠ bF := fun k h1 e => by have a1 := (oy.lt k h1).2; omega
        have p_F_P : bF ≠ bP := by have := BP.lt; omega
        replace hB := hB.ext hx
        replace hR := hR.ext hx
        replace ox := ox.ext hx
        replace oy := oy.ext hx
        replace BP := BP.ext hx
        replace hX := hX.trans hx
        refine hK _ _ ⟨fun _ => hB.c3, ?_⟩
        clear hK K hx hb hw
        revert p_F_P; revert p_y_P; revert p_y_F; revert p_x_P; revert p_x_F; revert p_x_y; revert lP; revert lF; revert BP; revert BF; revert oy; revert ox; revert hR; revert hB; revert hX; revert bP; revert bF; revert ty; revert tx; revert w_11n
        clear w_10
        exact ?nd_14
        -- nd_11
        intro w_10 tx bF bP hX hB hR ox BF BP lF lP p_x_F p_x_P p_F_P
        refine wpAnyT_go (i := 5) rfl (by kernel_rfl) fun K hK => ?_
        go_simp
        go_at_call 62
        refine (spec.l01Own_any ⟨A2, n2, c2⟩ l.y _ (ry.ext hX)).mono ?_
        rintro e w_11n ⟨ty, rfl, oy, hx⟩
        go_simp
        have p_x_y : apart (.slice tx.A tx.n tx.c) (.slice ty.A ty.n ty.c) := fun k h1 h2 => by have a1 := (ox.lt k h1).2; have a2 := (oy.lt k h2).1; omega
        have p_y_F : ∀ k, Value.ownBlock (.slice ty.A ty.n ty.c) = some k → k ≠ bF := fun k h1 e => by have a1 := (oy.lt k h1).1; have a2 := BF.lt; omega
        have p_y_P : ∀ k, Value.ownBlock (.slice ty.A ty.n ty.c) = some k → k ≠ bP := fun k h1 e => by have a1 := (oy.lt k h1).1; have a2 := BP.lt; omega
        have z0 := hR.lt
        replace oy := Own.mono (lo' := (w.heap.size + 1 + 1)) oy (by omega)
        replace hB := hB.ext hx
        replace hR := hR.ext hx
        replace ox := ox.ext hx
        replace BF := BF.ext hx
        replace BP := BP.ext hx
        replace hX := hX.trans hx
        refine hK _ _ ⟨fun _ => hB.c3, ?_⟩
        clear hK K hx z0
        revert p_F_P; revert p_y_P; revert p_y_F; revert p_x_P; revert p_x_F; revert p_x_y; revert lP; revert lF; revert BP; revert BF; revert oy; revert ox; revert hR; revert hB; revert hX; revert bP; revert bF; revert ty; revert tx; revert w_11n
        clear w_10
        exact ?nd_14
        -- nd_12
        intro w_11 tg tx ty bF hX hB hR og ox oy BF lF p_g_x p_g_y p_x_y p_g_F p_x_F p_y_F
        refine wpAnyT_go2 (i := 11) (j := 13) rfl rfl (by kernel_rfl) (fun K hK => ?_) (fun K hK => ?_)
        refine step_app _ rfl (.tmp 41) (.tmp 43) rfl _ _ _ rfl og _ _ _ [x] rfl BF.rd1 (by have := hbd3.out; omega) (by have := hR.lt; omega) ?_
        intro tz w_12n oz hg hb
        have gb : ∀ k, Value.ownBlock (.slice tz.A tz.n tz.c) = some k → Value.ownBlock (.slice tg.A tg.n tg.c) = some k ∨ k = w_11.heap.size := (fun k hk => by rcases hb with h | h; exact Or.inl (h.symm.trans hk); exact Or.inr (by rw [h] at hk; injection hk with hk; exact hk.symm))
        have p_x_z : apart (.slice tx.A tx.n tx.c) (.slice tz.A tz.n tz.c) := fun k h1 h2 => by rcases gb k h2 with h | h; exact p_g_x k h h1; (have := (ox.lt k h1).2; omega)
        have p_y_z : apart (.slice ty.A ty.n ty.c) (.slice tz.A tz.n tz.c) := fun k h1 h2 => by rcases gb k h2 with h | h; exact p_g_y k h h1; (have := (oy.lt k h1).2; omega)
        have p_z_F : ∀ k, Value.ownBlock (.slice tz.A tz.n tz.c) = some k → k ≠ bF := fun k h1 e => by rcases gb k h1 with h | h; exact p_g_F k h e; (have := BF.lt; omega)
        replace hB := hB.fr (Fr.of_grown hg) (fun e => by have := (og.lt _ e).1; omega)
        replace hR := hR.fr (Fr.of_grown hg) (fun e => by have := (og.lt _ e).1; omega)
        replace ox := ox.fr (Fr.of_grown hg) (fun k h1 h2 => p_g_x k h2 h1)
        replace oy := oy.fr (Fr.of_grown hg) (fun k h1 h2 => p_g_y k h2 h1)
        replace BF := BF.fr (Fr.of_grown hg) (fun e => p_g_F _ e rfl)
        replace hX := hX.grow hg (fun k hk => by have := (og.lt k hk).1; omega)
        refine hK _ _ ⟨fun _ => hB.c3, ?_⟩
        clear hK K hg hb gb
        clear p_g_x p_g_y p_g_F og
        have kk := hB.c3
        refine wpAnyT_takeL (i := 12) 6 (v := ?_) rfl (by kernel_rfl) (by kernel_rfl) (by kernel_rfl) (by kernel_rfl) (by kernel_rfl) (fun _ _ _ h => h) (Or.inl ⟨by rfl, ?_⟩) kk ?_
        rotate_left 1
        · (intro W hSw; (try dsimp only at hSw); go_simp) <;> with_reducible rfl
        clear kk
        try simp only [Act.put, List.setIfInBounds_toArray, List.set_cons_zero, List.set_cons_succ]
        revert p_z_F; revert p_y_F; revert p_x_F; revert p_y_z; revert p_x_z; revert p_x_y; revert lF; revert BF; revert oz; revert oy; revert ox; revert hR; revert hB; revert hX; revert bF; revert tg; revert tz; revert ty; revert tx; revert w_12n
        clear w_11
        refine ?nd_15
        rotate_left 1
        go_simp
        have hx := (Ext.refl w_11).alloc (.cells #[.slice none 0 0, .slice none 0 0, .slice none 0 0] 30)
        have BP := Blk.new w_11 30 (#[.slice none 0 0, .slice none 0 0, .slice none 0 0])
        obtain ⟨bP, hb⟩ : ∃ b, b = w_11.heap.size := ⟨_, rfl⟩
        generalize hw : World.alloc w_11 (.cells #[.slice none 0 0, .slice none 0 0, .slice none 0 0] 30) = w_12n at hx BP ⊢
        rw [← hb] at BP ⊢
        have lP : (w.heap.size + 1 + 1) ≤ bP := by have := hR.lt; omega
        have p_g_P : ∀ k, Value.ownBlock (.slice tg.A tg.n tg.c) = some k → k ≠ bP := fun k h1 e => by have a1 := (og.lt k h1).2; omega
        have p_x_P : ∀ k, Value.ownBlock (.slice tx.A tx.n tx.c) = some k → k ≠ bP := fun k h1 e => by have a1 := (ox.lt k h1).2; omega
        have p_y_P : ∀ k, Value.ownBlock (.slice ty.A ty.n ty.c) = some k → k ≠ bP := fun k h1 e => by have a1 := (oy.lt k h1).2; omega
        have p_F_P : bF ≠ bP := by have := BF.lt; omega
        replace hB := hB.ext hx
        replace hR := hR.ext hx
        replace og := og.ext hx
        replace ox := ox.ext hx
        replace oy := oy.ext hx
        replace BF := BF.ext hx
        replace hX := hX.trans hx
        refine hK _ _ ⟨fun _ => hB.c3, ?_⟩
        clear hK K hx hb hw
        revert p_F_P; revert p_y_P; revert p_y_F; revert p_x_P; revert p_x_F; revert p_g_P; revert p_g_F; revert p_x_y; revert p_g_y; revert p_g_x; revert lP; revert lF; revert BP; revert BF; revert oy; revert ox; revert og; revert hR; revert hB; revert hX; revert bP; revert bF; revert ty; revert tx; revert tg; revert w_12n
        clear w_11
        refine ?nd_16
        rotate_left 1
        -- nd_13
        intro w_11 tg tx ty bP hX hB hR og ox oy BP lP p_g_x p_g_y p_x_y p_g_P p_x_P p_y_P
        refine wpAnyT_go (i := 10) rfl (by kernel_rfl) fun K hK => ?_
        go_simp
        have hx := (Ext.refl w_11).alloc (.cells #[.int .i64 x] 2)
        have BF := Blk.new w_11 2 (#[.int .i64 x])
        obtain ⟨bF, hb⟩ : ∃ b, b = w_11.heap.size := ⟨_, rfl⟩
        generalize hw : World.alloc w_11 (.cells #[.int .i64 x] 2) = w_12n at hx BF ⊢
        rw [← hb] at BF ⊢
        have lF : (w.heap.size + 1 + 1) ≤ bF := by have := hR.lt; omega
        have p_g_F : ∀ k, Value.ownBlock (.slice tg.A tg.n tg.c) = some k → k ≠ bF := fun k h1 e => by have a1 := (og.lt k h1).2; omega
        have p_x_F : ∀ k, Value.ownBlock (.slice tx.A tx.n tx.c) = some k → k ≠ bF := fun k h1 e => by have a1 := (ox.lt k h1).2; omega
        have p_y_F : ∀ k, Value.ownBlock (.slice ty.A ty.n ty.c) = some k → k ≠ bF := fun k h1 e => by have a1 := (oy.lt k h1).2; omega
        have p_F_P : bF ≠ bP := by have := BP.lt; omega
        replace hB := hB.ext hx
        replace hR := hR.ext hx
        replace og := og.ext hx
        replace ox := ox.ext hx
        replace oy := oy.ext hx
        replace BP := BP.ext hx
        replace hX := hX.trans hx
        refine hK _ _ ⟨fun _ => hB.c3, ?_⟩
        clear hK K hx hb hw
        revert p_F_P; revert p_y_P; revert p_y_F; revert p_x_P; revert p_x_F; revert p_g_P; revert p_g_F; revert p_x_y; revert p_g_y; revert p_g_x; revert lP; revert lF; revert BP; revert BF; revert oy; revert ox; revert og; revert hR; revert hB; revert hX; revert bP; revert bF; revert ty; revert tx; revert tg; revert w_12n
        clear w_11
        exact ?nd_16
        -- nd_14
        intro w_11 tx ty bF bP hX hB hR ox oy BF BP lF lP p_x_y p_x_F p_x_P p_y_F p_y_P p_F_P
        refine wpAnyT_go (i := 8) rfl (by kernel_rfl) fun K hK => ?_
        go_simp
        go_at_call 62
        refine (spec.l01Own_any ⟨A3, n3, c3⟩ l.z _ (rz.ext hX)).mono ?_
        rintro e w_12n ⟨tg, rfl, og, hx⟩
        go_simp
        have p_g_x : apart (.slice tg.A tg.n tg.c) (.slice tx.A tx.n tx.c) := fun k h1 h2 => by have a1 := (ox.lt k h2).2; have a2 := (og.lt k h1).1; omega
        have p_g_y : apart (.slice tg.A tg.n tg.c) (.slice ty.A ty.n ty.c) := fun k h1 h2 => by have a1 := (oy.lt k h2).2; have a2 := (og.lt k h1).1; omega
        have p_g_F : ∀ k, Value.ownBlock (.slice tg.A tg.n tg.c) = some k → k ≠ bF := fun k h1 e => by have a1 := (og.lt k h1).1; have a2 := BF.lt; omega
        have p_g_P : ∀ k, Value.ownBlock (.slice tg.A tg.n tg.c) = some k → k ≠ bP := fun k h1 e => by have a1 := (og.lt k h1).1; have a2 := BP.lt; omega
        have z0 := hR.lt
        replace og := Own.mono (lo' := (w.heap.size + 1 + 1)) og (by omega)
        replace hB := hB.ext hx
        replace hR := hR.ext hx
        replace ox := ox.ext hx
        replace oy := oy.ext hx
        replace BF := BF.ext hx
        replace BP := BP.ext hx
        replace hX := hX.trans hx
        refine hK _ _ ⟨fun _ => hB.c3, ?_⟩
        clear hK K hx z0
        revert p_F_P; revert p_y_P; revert p_y_F; revert p_x_P; revert p_x_F; revert p_g_P; revert p_g_F; revert p_x_y; revert p_g_y; revert p_g_x; revert lP; revert lF; revert BP; revert BF; revert oy; revert ox; revert og; revert hR; revert hB; revert hX; revert bP; revert bF; revert ty; revert tx; revert tg; revert w_12n
        clear w_11
        exact ?nd_16
        -- nd_15
        intro w_13 tx ty tz tg bF hX hB hR ox oy oz BF lF p_x_y p_x_z p_y_z p_x_F p_y_F p_z_F
        refine wpAnyT_go (i := 13) rfl (by kernel_rfl) fun K hK => ?_
        go_simp
        have hx := (Ext.refl w_13).alloc (.cells #[.slice none 0 0, .slice none 0 0, .slice none 0 0] 30)
        have BP := Blk.new w_13 30 (#[.slice none 0 0, .slice none 0 0, .slice none 0 0])
        obtain ⟨bP, hb⟩ : ∃ b, b = w_13.heap.size := ⟨_, rfl⟩
        generalize hw : World.alloc w_13 (.cells #[.slice none 0 0, .slice none 0 0, .slice none 0 0] 30) = w_14n at hx BP ⊢
        rw [← hb] at BP ⊢
        have lP : (w.heap.size + 1 + 1) ≤ bP := by have := hR.lt; omega
        have p_x_P : ∀ k, Value.ownBlock (.slice tx.A tx.n tx.c) = some k → k ≠ bP := fun k h1 e => by have a1 := (ox.lt k h1).2; omega
        have p_y_P : ∀ k, Value.ownBlock (.slice ty.A ty.n ty.c) = some k → k ≠ bP := fun k h1 e => by have a1 := (oy.lt k h1).2; omega
        have p_z_P : ∀ k, Value.ownBlock (.slice tz.A tz.n tz.c) = some k → k ≠ bP := fun k h1 e => by have a1 := (oz.lt k h1).2; omega
        have p_F_P : bF ≠ bP := by have := BF.lt; omega
        replace hB := hB.ext hx
        replace hR := hR.ext hx
        replace ox := ox.ext hx
        replace oy := oy.ext hx
        replace oz := oz.ext hx
        replace BF := BF.ext hx
        replace hX := hX.trans hx
        refine hK _ _ ⟨fun _ => hB.c3, ?_⟩
        clear hK K hx hb hw
        revert p_F_P; revert p_z_P; revert p_z_F; revert p_y_P; revert p_y_F; revert p_x_P; revert p_x_F; revert p_y_z; revert p_x_z; revert p_x_y; revert lP; revert lF; revert BP; revert BF; revert oz; revert oy; revert ox; revert hR; revert hB; revert hX; revert bP; revert bF; revert tg; revert tz; revert ty; revert tx; revert w_14n
        clear w_13
        refine ?nd_17
        rotate_left 1
        -- nd_16
        intro w_12 tg tx ty bF bP hX hB hR og ox oy BF BP lF lP p_g_x p_g_y p_x_y p_g_F p_g_P p_x_F p_x_P p_y_F p_y_P p_F_P
        refine wpAnyT_go (i := 11) rfl (by kernel_rfl) fun K hK => ?_
        refine step_app _ rfl (.tmp 41) (.tmp 43) rfl _ _ _ rfl og _ _ _ [x] rfl BF.rd1 (by have := hbd3.out; omega) (by have := hR.lt; omega) ?_
        intro tz w_13n oz hg hb
        have gb : ∀ k, Value.ownBlock (.slice tz.A tz.n tz.c) = some k → Value.ownBlock (.slice tg.A tg.n tg.c) = some k ∨ k = w_12.heap.size := (fun k hk => by rcases hb with h | h; exact Or.inl (h.symm.trans hk); exact Or.inr (by rw [h] at hk; injection hk with hk; exact hk.symm))
        have p_x_z : apart (.slice tx.A tx.n tx.c) (.slice tz.A tz.n tz.c) := fun k h1 h2 => by rcases gb k h2 with h | h; exact p_g_x k h h1; (have := (ox.lt k h1).2; omega)
        have p_y_z : apart (.slice ty.A ty.n ty.c) (.slice tz.A tz.n tz.c) := fun k h1 h2 => by rcases gb k h2 with h | h; exact p_g_y k h h1; (have := (oy.lt k h1).2; omega)
        have p_z_F : ∀ k, Value.ownBlock (.slice tz.A tz.n tz.c) = some k → k ≠ bF := fun k h1 e => by rcases gb k h1 with h | h; exact p_g_F k h e; (have := BF.lt; omega)
        have p_z_P : ∀ k, Value.ownBlock (.slice tz.A tz.n tz.c) = some k → k ≠ bP := fun k h1 e => by rcases gb k h1 with h | h; exact p_g_P k h e; (have := BP.lt; omega)
        replace hB := hB.fr (Fr.of_grown hg) (fun e => by have := (og.lt _ e).1; omega)
        replace hR := hR.fr (Fr.of_grown hg) (fun e => by have := (og.lt _ e).1; omega)
        replace ox := ox.fr (Fr.of_grown hg) (fun k h1 h2 => p_g_x k h2 h1)
        replace oy := oy.fr (Fr.of_grown hg) (fun k h1 h2 => p_g_y k h2 h1)
        replace BF := BF.fr (Fr.of_grown hg) (fun e => p_g_F _ e rfl)
        replace BP := BP.fr (Fr.of_grown hg) (fun e => p_g_P _ e rfl)
        replace hX := hX.grow hg (fun k hk => by have := (og.lt k hk).1; omega)
        refine hK _ _ ⟨fun _ => hB.c3, ?_⟩
        clear hK K hg hb gb
        clear p_g_x p_g_y p_g_F p_g_P og
        have kk := hB.c3
        refine wpAnyT_takeL (i := 12) 6 (v := ?_) rfl (by kernel_rfl) (by kernel_rfl) (by kernel_rfl) (by kernel_rfl) (by kernel_rfl) (fun _ _ _ h => h) (Or.inl ⟨by rfl, ?_⟩) kk ?_
        rotate_left 1
        · (intro W hSw; (try dsimp only at hSw); go_simp) <;> with_reducible rfl
        clear kk
        try simp only [Act.put, List.setIfInBounds_toArray, List.set_cons_zero, List.set_cons_succ]
        revert p_F_P; revert p_z_P; revert p_z_F; revert p_y_P; revert p_y_F; revert p_x_P; revert p_x_F; revert p_y_z; revert p_x_z; revert p_x_y; revert lP; revert lF; revert BP; revert BF; revert oz; revert oy; revert ox; revert hR; revert hB; revert hX; revert bP; revert bF; revert tg; revert tz; revert ty; revert tx; revert w_13n
        clear w_12
        exact ?nd_17
        -- nd_17
        intro w_14 tx ty tz tg bF bP hX hB hR ox oy oz BF BP lF lP p_x_y p_x_z p_y_z p_x_F p_x_P p_y_F p_y_P p_z_F p_z_P p_F_P
        refine wpAnyT_go (i := 14) rfl (by kernel_rfl) fun K hK => ?_
        obtain ⟨q0, q1, q2, q3, q4, q5⟩ := res3 BP
        go_simp
        refine hK _ _ ⟨fun h => absurd rfl h, ?_⟩
        clear hK K
        refine wpAnyT_done (by kernel_rfl) ?_ _
        go_wp2_with fail
        go_meet
        have hlen : tx.n + (ty.n + tz.n) ≤ 2097152 := by
          have e1 := ox.rd.1
          have e2 := oy.rd.1
          have e3 := oz.rd.1
          rw [List.length_append, List.length_singleton] at e3
          have h1 := hlx.out
          have h2 := hly.out
          have h3 := hlz.out
          have h4 := hsm.out
          have h5 := hly2.out
          omega
        have n1' : Value.ownBlock (.slice tx.A tx.n tx.c) ≠ some bP := fun e => p_x_P _ e rfl
        have n2' : Value.ownBlock (.slice ty.A ty.n ty.c) ≠ some bP := fun e => p_y_P _ e rfl
        have n3' : Value.ownBlock (.slice tz.A tz.n tz.c) ≠ some bP := fun e => p_z_P _ e rfl
        exact ⟨bP, ⟨tx, ty, tz⟩, rfl, ((BP.set_ 0 _).set_ 1 _).set_ 2 _, ⟨((ox.away n1' 0 _).away n1' 1 _).away n1' 2 _, ((oy.away n2' 0 _).away n2' 1 _).away n2' 2 _, ((oz.away n3' 0 _).away n3' 1 _).away n3' 2 _, hlen, p_x_y, p_x_z, p_y_z⟩,
          ((hX.off bP 0 (by omega) _).off bP 1 (by omega) _).off bP 2 (by omega) _, ((hB.off bP 0 (by omega) _).off bP 1 (by omega) _).off bP 2 (by omega) _, ((hR.off bP 0 (by omega) _).off bP 1 (by omega) _).off bP 2 (by omega) _, lP, fun k hk => Or.elim hk (fun h => p_x_P k h) (fun h => Or.elim h (fun h => p_y_P k h) (fun h => p_z_P k h))⟩
      case rest =>
        obtain ⟨g, ⟨⟨T1, m1, d1⟩, s2, s3⟩, rfl, hO, h3, hX, hB, hR, hg, ha⟩ := hcut
        obtain ⟨o1, o2, o3, htot, a12, a13, a23⟩ := h3
        simp only at o1 o2 o3 htot a12 a13 a23 hO
        have hm1 : m1 = l.x.length := o1.rd.1
        have hkm : k < m1 := by omega
        have hkm1 : (k : Int) < (m1 : Int) := by omega
        obtain ⟨g1, rfl, hg1, hg1s, ⟨u1, hu1⟩, hf1', hput⟩ := o1.put hkm
        have n1g : g1 ≠ g := ha g1 (.inl rfl)
        have ha1 : ∀ j, Value.ownBlock (.slice (some ⟨g1, 0, none⟩) m1 d1) = some j → j ≠ g := fun j h => ha j (.inl h)
        have ha3 : ∀ j, Value.ownBlock (.slice s3.A s3.n s3.c) = some j → j ≠ g := fun j h => ha j (.inr (.inr h))
        have nb2 : Value.ownBlock (.slice s2.A s2.n s2.c) ≠ some g1 := a12 g1 rfl
        have nb3 : Value.ownBlock (.slice s3.A s3.n s3.c) ≠ some g1 := a13 g1 rfl
        have p1 := hput 0
        have p2 := o2.away nb2 k (.int .i64 0)
        have p3 := o3.away nb3 k (.int .i64 0)
        have pX := hX.off g1 k (by omega) (.int .i64 0)
        have pB := hB.off g1 k (by omega) (.int .i64 0)
        have pR := hR.off g1 k (by omega) (.int .i64 0)
        have pO := hO.off g1 k (by omega) (.int .i64 0)
        obtain ⟨b0, b1, b2'⟩ := hO.c3
        obtain ⟨v0, v1, v2⟩ := pO.c3
        obtain ⟨q0, q1, q2⟩ := pB.c3
        clear hm1
        by_cases hn2 : n2 = 0
        · have hy0 := hide (show l.y = [] from List.eq_nil_of_length_eq_zero (by have := hly.out; omega))
          subst hn2
          clear hf1 hf2 hx00 h60b hk0 hk2 hkl hkn hly hly2 hlz ry rz rx cx cy cz hr0 hs hbd3
          obtain ⟨r0, r1, r2, r3, r4, r5⟩ := res3 pR
          go_wp2_with fail
          have hRn := ((pR.set_ 0 (.slice (some ⟨g1, 0, none⟩) m1 d1)).set_ 1 (.slice s2.A s2.n s2.c)).set_ 2 (.slice s3.A s3.n s3.c)
          obtain ⟨n0, n1', n2'⟩ := hRn.c3
          refine bodyPost_ret (v := .tuple #[.agg #[.slice (⟨⟨some ⟨g1, 0, none⟩, m1, d1⟩, s2, s3⟩ : S3).x.A (⟨⟨some ⟨g1, 0, none⟩, m1, d1⟩, s2, s3⟩ : S3).x.n (⟨⟨some ⟨g1, 0, none⟩, m1, d1⟩, s2, s3⟩ : S3).x.c, .slice (⟨⟨some ⟨g1, 0, none⟩, m1, d1⟩, s2, s3⟩ : S3).y.A (⟨⟨some ⟨g1, 0, none⟩, m1, d1⟩, s2, s3⟩ : S3).y.n (⟨⟨some ⟨g1, 0, none⟩, m1, d1⟩, s2, s3⟩ : S3).y.c, .slice (⟨⟨some ⟨g1, 0, none⟩, m1, d1⟩, s2, s3⟩ : S3).z.A (⟨⟨some ⟨g1, 0, none⟩, m1, d1⟩, s2, s3⟩ : S3).z.n (⟨⟨some ⟨g1, 0, none⟩, m1, d1⟩, s2, s3⟩ : S3).z.c], .int .i64 0]) (by simp [results, Tryz.results63, go_sem, n0, n1', n2']) rfl ⟨(⟨⟨some ⟨g1, 0, none⟩, m1, d1⟩, s2, s3⟩ : S3), by rw [E2.out], ?_, ((pX.off (w.heap.size + 1) 0 (by omega) _).off (w.heap.size + 1) 1 (by omega) _).off (w.heap.size + 1) 2 (by omega) _⟩
          intro _
          rw [E1.out, hy0.out]
          rw [hy0.out] at p2
          exact Own3.mono (((Own3.awayP (p := ⟨⟨some ⟨g1, 0, none⟩, m1, d1⟩, s2, s3⟩) (l := ⟨l.x.set k 0, [], l.z ++ [x]⟩) (lo := w.heap.size + 1 + 1) ⟨p1, p2, p3, htot, a12, a13, a23⟩ (g := w.heap.size + 1) (by omega) 0 _).awayP (g := w.heap.size + 1) (by omega) 1 _).awayP (g := w.heap.size + 1) (by omega) 2 _) (by omega)
        · have hn20 : (0 : Int) < (n2 : Int) := by omega
          obtain ⟨b2, off2, y0, rfl, hb2, hcy, hy0⟩ := ry.el (k := 0) (by omega)
          rw [Nat.add_zero] at hcy
          have hc21 : n2 ≤ c2 := cy.1
          have hset := hide (show (l.x.set k 0).set k y0 = l.x.set k (l.y.headD 0) by
            rw [List.set_set]
            congr 1
            have h := hy0.out
            cases hl : l.y
            · rw [hl] at h; cases h
            · rw [hl] at h; injection h with h; exact h.symm)
          have htl := hide (show l.y.take 0 ++ l.y.drop 1 = l.y.tail by simp)
          have hac : 0 ≤ c2 := Nat.zero_le _
          have hac0 : 0 ≤ n2 := Nat.zero_le _
          have hac1 : 1 ≤ n2 := by omega
          have hbd1 := hide (show (l.y.take 0).length + (n2 - 1) ≤ 16777216 by have := hsm.out; have := hly.out; simp; omega)
          go_upto_region 56 with fail
          clear b0 b1 b2' v0 v1 v2 q0 q1 q2 hu1
          replace p1 := p1.drew
          replace p2 := p2.drew
          replace p3 := p3.drew
          replace pX := pX.drew
          replace pB := pB.drew
          replace pR := pR.drew
          replace pO := pO.drew
          refine wp_region_sink (S := fun w' => w'.cell? ⟨g, 0, none⟩ = some (.slice (some ⟨g1, 0, none⟩) m1 d1) ∧ w'.cell? ⟨w.heap.size, 1, none⟩ = some (.slice (some ⟨b2, off2, none⟩) n2 c2) ∧ w'.cell? ⟨b2, off2, none⟩ = some (.int .i64 y0)) 8 (by kernel_rfl) ?_
          change wpAnyT _ _ _ _ _ _ _ _ _ (World.drew _)
          generalize hwd : World.drew _ = wf at p1 p2 p3 pX pB pR pO ⊢
          clear hwd
          obtain ⟨g1', eg, _, _, ⟨u2, hu2⟩, hf2', hput2⟩ := p1.put hkm
          injection eg with eg
          injection eg with eg
          subst eg
          have kk := And.intro (pO.get 0 _ rfl) (And.intro (pB.get 1 _ rfl) ((pX.cell (p := ⟨b2, off2, none⟩) hb2).trans hcy))
          refine wpAnyT_takeL (i := 0) 6 (v := ?_) rfl (by kernel_rfl) (by kernel_rfl) (by kernel_rfl) (by kernel_rfl) (by kernel_rfl) (fun _ _ _ h => h) (Or.inl ⟨by rfl, ?_⟩) kk ?_
          rotate_left 1
          · (intro W hSw; (try dsimp only at hSw); go_simp) <;> with_reducible rfl
          try simp only [Act.put, List.setIfInBounds_toArray, List.set_cons_zero, List.set_cons_succ]
          refine wpAnyT_takeL (i := 1) 6 (v := ?_) rfl (by kernel_rfl) (by kernel_rfl) (by kernel_rfl) (by kernel_rfl) (by kernel_rfl) (fun _ _ _ h => h) (Or.inl ⟨by rfl, ?_⟩) kk ?_
          rotate_left 1
          · (intro W hSw; (try dsimp only at hSw); go_simp) <;> with_reducible rfl
          try simp only [Act.put, List.setIfInBounds_toArray, List.set_cons_zero, List.set_cons_succ]
          refine wpAnyT_takeL (i := 2) 6 (v := ?_) rfl (by kernel_rfl) (by kernel_rfl) (by kernel_rfl) (by kernel_rfl) (by kernel_rfl) (fun _ _ _ h => h) (Or.inl ⟨by rfl, ?_⟩) kk ?_
          rotate_left 1
          · (intro W hSw; (try dsimp only at hSw); go_simp) <;> with_reducible rfl
          try simp only [Act.put, List.setIfInBounds_toArray, List.set_cons_zero, List.set_cons_succ]
          refine wpAnyT_takeL (i := 3) 6 (v := ?_) rfl (by kernel_rfl) (by kernel_rfl) (by kernel_rfl) (by kernel_rfl) (by kernel_rfl) (fun _ _ _ h => h) (Or.inl ⟨by rfl, ?_⟩) kk ?_
          rotate_left 1
          · (intro W hSw; (try dsimp only at hSw); go_simp) <;> with_reducible rfl
          try simp only [Act.put, List.setIfInBounds_toArray, List.set_cons_zero, List.set_cons_succ]
          refine wpAnyT_takeL (i := 4) 6 (v := ?_) rfl (by kernel_rfl) (by kernel_rfl) (by kernel_rfl) (by kernel_rfl) (by kernel_rfl) (fun _ _ _ h => h) (Or.inl ⟨by rfl, ?_⟩) kk ?_
          rotate_left 1
          · (intro W hSw; (try dsimp only at hSw); go_simp) <;> with_reducible rfl
          try simp only [Act.put, List.setIfInBounds_toArray, List.set_cons_zero, List.set_cons_succ]
          refine wpAnyT_takeL (i := 5) 6 (v := ?_) rfl (by kernel_rfl) (by kernel_rfl) (by kernel_rfl) (by kernel_rfl) (by kernel_rfl) (fun _ _ _ h => h) (Or.inl ⟨by rfl, ?_⟩) kk ?_
          rotate_left 1
          · (intro W hSw; (try dsimp only at hSw); go_simp) <;> with_reducible rfl
          try simp only [Act.put, List.setIfInBounds_toArray, List.set_cons_zero, List.set_cons_succ]
          refine wpAnyT_takeL (i := 6) 6 (v := ?_) rfl (by kernel_rfl) (by kernel_rfl) (by kernel_rfl) (by kernel_rfl) (by kernel_rfl) (fun _ _ _ h => h) (Or.inl ⟨by rfl, ?_⟩) kk ?_
          rotate_left 1
          · (intro W hSw; (try dsimp only at hSw); go_simp) <;> with_reducible rfl
          try simp only [Act.put, List.setIfInBounds_toArray, List.set_cons_zero, List.set_cons_succ]
          refine wpAnyT_takeL (i := 7) 6 (v := ?_) rfl (by kernel_rfl) (by kernel_rfl) (by kernel_rfl) (by kernel_rfl) (by kernel_rfl) (fun _ _ _ h => h) (Or.inl ⟨by rfl, ?_⟩) kk ?_
          rotate_left 1
          · (intro W hSw; (try dsimp only at hSw); go_simp) <;> with_reducible rfl
          try simp only [Act.put, List.setIfInBounds_toArray, List.set_cons_zero, List.set_cons_succ]
          refine wpAnyT_go (i := 8) rfl (by kernel_rfl) fun K hK => ?_
          go_simp
          refine hK _ _ ⟨fun h => absurd rfl h, ?_⟩
          clear hK K
          refine wpAnyT_done (by kernel_rfl) ?_ _
          have hO := pO.off g1 k (by omega) (.int .i64 y0)
          have hX := pX.off g1 k (by omega) (.int .i64 y0)
          have hB := pB.off g1 k (by omega) (.int .i64 y0)
          have hR := pR.off g1 k (by omega) (.int .i64 y0)
          have o1 := hput2 y0
          have o3 := p3.away nb3 k (.int .i64 y0)
          clear p1 p2 p3 pX pB pR pO kk hu2 hput2
          go_upto_region 66 with fail
          replace hO := hO.drew
          replace hX := hX.drew
          replace hB := hB.drew
          replace hR := hR.drew
          replace o1 := o1.drew
          replace o3 := o3.drew
          refine wp_region_sink (S := fun w' => w'.cell? ⟨w.heap.size, 0, none⟩ = some (.slice A1 n1 c1) ∧ w'.cell? ⟨w.heap.size, 1, none⟩ = some (.slice (some ⟨b2, off2, none⟩) n2 c2) ∧ w'.cell? ⟨w.heap.size, 2, none⟩ = some (.slice A3 n3 c3)) 12 (by kernel_rfl) ?_
          change wpAnyT _ _ _ _ _ _ _ _ _ (World.drew _)
          generalize hwd : World.drew _ = wh at hO hX hB hR o1 o3 ⊢
          clear hwd
          have kk := hB.c3
          refine wpAnyT_takeL (i := 0) 6 (v := ?_) rfl (by kernel_rfl) (by kernel_rfl) (by kernel_rfl) (by kernel_rfl) (by kernel_rfl) (fun _ _ _ h => h) (Or.inl ⟨by rfl, ?_⟩) kk ?_
          rotate_left 1
          · (intro W hSw; (try dsimp only at hSw); go_simp) <;> with_reducible rfl
          try simp only [Act.put, List.setIfInBounds_toArray, List.set_cons_zero, List.set_cons_succ]
          refine wpAnyT_takeL (i := 1) 6 (v := ?_) rfl (by kernel_rfl) (by kernel_rfl) (by kernel_rfl) (by kernel_rfl) (by kernel_rfl) (fun _ _ _ h => h) (Or.inl ⟨by rfl, ?_⟩) kk ?_
          rotate_left 1
          · (intro W hSw; (try dsimp only at hSw); go_simp) <;> with_reducible rfl
          try simp only [Act.put, List.setIfInBounds_toArray, List.set_cons_zero, List.set_cons_succ]
          refine wpAnyT_takeL (i := 2) 6 (v := ?_) rfl (by kernel_rfl) (by kernel_rfl) (by kernel_rfl) (by kernel_rfl) (by kernel_rfl) (fun _ _ _ h => h) (Or.inl ⟨by rfl, ?_⟩) kk ?_
          rotate_left 1
          · (intro W hSw; (try dsimp only at hSw); go_simp) <;> with_reducible rfl
          try simp only [Act.put, List.setIfInBounds_toArray, List.set_cons_zero, List.set_cons_succ]
          refine wpAnyT_takeL (i := 3) 6 (v := ?_) rfl (by kernel_rfl) (by kernel_rfl) (by kernel_rfl) (by kernel_rfl) (by kernel_rfl) (fun _ _ _ h => h) (Or.inl ⟨by rfl, ?_⟩) kk ?_
          rotate_left 1
          · intro W _; (refine (run_to W (.tmp 67) (.tmp 68) ?_ b2 off2 n2 c2 ?_ 0 ?_ hac)); all_goals rfl
          try simp only [Act.put, List.setIfInBounds_toArray, List.set_cons_zero, List.set_cons_succ]
          refine wpAnyT_takeL (i := 5) 6 (v := ?_) rfl (by kernel_rfl) (by kernel_rfl) (by kernel_rfl) (by kernel_rfl) (by kernel_rfl) (fun _ _ _ h => h) (Or.inl ⟨by rfl, ?_⟩) kk ?_
          rotate_left 1
          · (intro W hSw; (try dsimp only at hSw); go_simp) <;> with_reducible rfl
          try simp only [Act.put, List.setIfInBounds_toArray, List.set_cons_zero, List.set_cons_succ]
          refine wpAnyT_takeL (i := 6) 6 (v := ?_) rfl (by kernel_rfl) (by kernel_rfl) (by kernel_rfl) (by kernel_rfl) (by kernel_rfl) (fun _ _ _ h => h) (Or.inl ⟨by rfl, ?_⟩) kk ?_
          rotate_left 1
          · (intro W hSw; (try dsimp only at hSw); go_simp) <;> with_reducible rfl
          try simp only [Act.put, List.setIfInBounds_toArray, List.set_cons_zero, List.set_cons_succ]
          refine wpAnyT_takeL (i := 7) 6 (v := ?_) rfl (by kernel_rfl) (by kernel_rfl) (by kernel_rfl) (by kernel_rfl) (by kernel_rfl) (fun _ _ _ h => h) (Or.inl ⟨by rfl, ?_⟩) kk ?_
          rotate_left 1
          · (intro W hSw; (try dsimp only at hSw); go_simp) <;> with_reducible rfl
          try simp only [Act.put, List.setIfInBounds_toArray, List.set_cons_zero, List.set_cons_succ]
          refine wpAnyT_takeL (i := 8) 6 (v := ?_) rfl (by kernel_rfl) (by kernel_rfl) (by kernel_rfl) (by kernel_rfl) (by kernel_rfl) (fun _ _ _ h => h) (Or.inl ⟨by rfl, ?_⟩) kk ?_
          rotate_left 1
          · (intro W hSw; (try dsimp only at hSw); go_simp) <;> with_reducible rfl
          try simp only [Act.put, List.setIfInBounds_toArray, List.set_cons_zero, List.set_cons_succ]
          refine wpAnyT_takeL (i := 9) 6 (v := ?_) rfl (by kernel_rfl) (by kernel_rfl) (by kernel_rfl) (by kernel_rfl) (by kernel_rfl) (fun _ _ _ h => h) (Or.inl ⟨by rfl, ?_⟩) kk ?_
          rotate_left 1
          · intro W _; (refine (run_from W (.tmp 72) (.tmp 74) ?_ (some ⟨b2, off2, none⟩) n2 c2 ?_ 1 ?_ hac1)); all_goals rfl
          try simp only [Act.put, List.setIfInBounds_toArray, List.set_cons_zero, List.set_cons_succ]
          refine wpAnyT_go (i := 4) rfl (by kernel_rfl) fun K hK => ?_
          go_simp
          go_at_call 62
          refine (spec.l01Own_any ⟨some ⟨b2, off2, none⟩, 0, c2⟩ (l.y.take 0) _ ((ry.ext hX).take hac0)).mono ?_
          rintro e wb ⟨tb, rfl, ob, hx⟩
          go_simp
          have zb := hO.lt
          have pb1 : apart (.slice (some ⟨g1, 0, none⟩) m1 d1) (.slice tb.A tb.n tb.c) := fun j h1 h2 => by have a1 := (o1.lt j h1).2; have a2 := (ob.lt j h2).1; omega
          have pb3 : apart (.slice tb.A tb.n tb.c) (.slice s3.A s3.n s3.c) := fun j h1 h2 => by have a1 := (o3.lt j h2).2; have a2 := (ob.lt j h1).1; omega
          have pbg : ∀ j, Value.ownBlock (.slice tb.A tb.n tb.c) = some j → j ≠ g := fun j h1 e => by have a2 := (ob.lt j h1).1; omega
          have z0 := hR.lt
          replace ob := Own.mono (lo' := w.heap.size + 1 + 1) ob (by omega)
          replace hO := hO.ext hx
          replace o1 := o1.ext hx
          replace o3 := o3.ext hx
          replace hB := hB.ext hx
          replace hR := hR.ext hx
          replace hX := hX.trans hx
          refine hK _ _ ⟨fun _ => hB.c3, ?_⟩
          clear hK K kk
          refine wpAnyT_go (i := 10) rfl (by kernel_rfl) fun K hK => ?_
          refine step_app _ rfl (.tmp 70) (.tmp 75) rfl _ _ _ rfl ob _ _ _ (l.y.drop 1) rfl (Rd.from_ _ (ry.ext hX) hac1 hc21) (by have := hbd1.out; omega) (by have := hR.lt; omega) ?_
          intro tc wc oc hg' hb'
          have gb : ∀ j, Value.ownBlock (.slice tc.A tc.n tc.c) = some j → Value.ownBlock (.slice tb.A tb.n tb.c) = some j ∨ j = wb.heap.size := (fun j hk => by rcases hb' with h | h; exact Or.inl (h.symm.trans hk); exact Or.inr (by rw [h] at hk; injection hk with hk; exact hk.symm))
          have pc1 : apart (.slice (some ⟨g1, 0, none⟩) m1 d1) (.slice tc.A tc.n tc.c) := fun j h1 h2 => by rcases gb j h2 with h | h; exact pb1 j h1 h; (have := (o1.lt j h1).2; omega)
          have pc3 : apart (.slice tc.A tc.n tc.c) (.slice s3.A s3.n s3.c) := fun j h1 h2 => by rcases gb j h1 with h | h; exact pb3 j h h2; (have := (o3.lt j h2).2; omega)
          have pcg : ∀ j, Value.ownBlock (.slice tc.A tc.n tc.c) = some j → j ≠ g := fun j h1 e => by rcases gb j h1 with h | h; exact pbg j h e; (have := hO.lt; omega)
          replace hO := hO.fr (Fr.of_grown hg') (fun e => pbg _ e rfl)
          replace hB := hB.fr (Fr.of_grown hg') (fun e => by have := (ob.lt _ e).1; omega)
          replace hR := hR.fr (Fr.of_grown hg') (fun e => by have := (ob.lt _ e).1; omega)
          replace o1 := o1.fr (Fr.of_grown hg') (fun j h1 h2 => pb1 j h1 h2)
          replace o3 := o3.fr (Fr.of_grown hg') (fun j h1 h2 => pb3 j h2 h1)
          replace hX := hX.grow hg' (fun j hk => by have := (ob.lt j hk).1; omega)
          refine hK _ _ ⟨fun _ => hB.c3, ?_⟩
          clear hK K
          have kk := hB.c3
          refine wpAnyT_takeL (i := 11) 6 (v := ?_) rfl (by kernel_rfl) (by kernel_rfl) (by kernel_rfl) (by kernel_rfl) (by kernel_rfl) (fun _ _ _ h => h) (Or.inl ⟨by rfl, ?_⟩) kk ?_
          rotate_left 1
          · (intro W hSw; (try dsimp only at hSw); go_simp) <;> with_reducible rfl
          try simp only [Act.put, List.setIfInBounds_toArray, List.set_cons_zero, List.set_cons_succ]
          refine wpAnyT_go (i := 12) rfl (by kernel_rfl) fun K hK => ?_
          have u0 := hO.frozen 1
          obtain ⟨v0, v1, v2⟩ := hO.c3
          go_simp
          refine hK _ _ ⟨fun h => absurd rfl h, ?_⟩
          clear hK K
          refine wpAnyT_done (by kernel_rfl) ?_ _
          clear v0 v1 v2
          have hO2 := hO.set_ 1 (.slice tc.A tc.n tc.c)
          have hB2 := hB.off g 1 (by omega) (.slice tc.A tc.n tc.c)
          have hR2 := hR.off g 1 (by omega) (.slice tc.A tc.n tc.c)
          have hX2 := hX.off g 1 (by omega) (.slice tc.A tc.n tc.c)
          have y1_ := o1.away (g := g) (fun e => ha1 _ e rfl) 1 (.slice tc.A tc.n tc.c)
          have y2_ := oc.away (g := g) (fun e => pcg _ e rfl) 1 (.slice tc.A tc.n tc.c)
          have y3_ := o3.away (g := g) (fun e => ha3 _ e rfl) 1 (.slice tc.A tc.n tc.c)
          obtain ⟨v0, v1, v2⟩ := hO2.c3
          have hlen : m1 + (tc.n + s3.n) ≤ 2097152 := by
            have d1_ := y1_.rd.1
            have d2 := y2_.rd.1
            have d3 := y3_.rd.1
            rw [List.length_append, List.length_take, List.length_drop] at d2
            rw [List.length_append, List.length_singleton] at d3
            have h4 := hsm.out
            simp only [List.length_set] at d1_
            omega
          have h7 : Own3 _ (w.heap.size + 1 + 1) ⟨⟨some ⟨g1, 0, none⟩, m1, d1⟩, tc, s3⟩ ⟨(l.x.set k 0).set k y0, l.y.take 0 ++ l.y.drop 1, l.z ++ [x]⟩ := ⟨y1_, y2_, y3_, hlen, pc1, a13, pc3⟩
          clear kk
          obtain ⟨r0, r1, r2, r3, r4, r5⟩ := res3 hR2
          go_wp2_with fail
          have hRn := ((hR2.set_ 0 (.slice (some ⟨g1, 0, none⟩) m1 d1)).set_ 1 (.slice tc.A tc.n tc.c)).set_ 2 (.slice s3.A s3.n s3.c)
          obtain ⟨n0, n1', n2'⟩ := hRn.c3
          refine bodyPost_ret (v := .tuple #[.agg #[.slice (⟨⟨some ⟨g1, 0, none⟩, m1, d1⟩, tc, s3⟩ : S3).x.A (⟨⟨some ⟨g1, 0, none⟩, m1, d1⟩, tc, s3⟩ : S3).x.n (⟨⟨some ⟨g1, 0, none⟩, m1, d1⟩, tc, s3⟩ : S3).x.c, .slice (⟨⟨some ⟨g1, 0, none⟩, m1, d1⟩, tc, s3⟩ : S3).y.A (⟨⟨some ⟨g1, 0, none⟩, m1, d1⟩, tc, s3⟩ : S3).y.n (⟨⟨some ⟨g1, 0, none⟩, m1, d1⟩, tc, s3⟩ : S3).y.c, .slice (⟨⟨some ⟨g1, 0, none⟩, m1, d1⟩, tc, s3⟩ : S3).z.A (⟨⟨some ⟨g1, 0, none⟩, m1, d1⟩, tc, s3⟩ : S3).z.n (⟨⟨some ⟨g1, 0, none⟩, m1, d1⟩, tc, s3⟩ : S3).z.c], .int .i64 0]) (by simp [results, Tryz.results63, go_sem, n0, n1', n2']) rfl ⟨(⟨⟨some ⟨g1, 0, none⟩, m1, d1⟩, tc, s3⟩ : S3), by rw [E2.out], ?_, ((hX2.off (w.heap.size + 1) 0 (by omega) _).off (w.heap.size + 1) 1 (by omega) _).off (w.heap.size + 1) 2 (by omega) _⟩
          intro _
          rw [E1.out, ← hset.out, ← htl.out]
          exact Own3.mono (((h7.awayP (g := w.heap.size + 1) (by omega) 0 _).awayP (g := w.heap.size + 1) (by omega) 1 _).awayP (g := w.heap.size + 1) (by omega) 2 _) (by omega)
  · have hpl : plc l.x x = -1 := if_neg hmx
    rw [hpl] at hf1
    clear hpl
    by_cases hmy : x ∈ l.y
    · obtain ⟨k, hk⟩ : ∃ k, k = l.y.idxOf x := ⟨_, rfl⟩
      have hpl : plc l.y x = (k : Int) := by unfold plc; rw [if_pos hmy, hk]
      have hkl : k < l.y.length := by rw [hk]; exact List.idxOf_lt_length_of_mem hmy
      have hkn : k < n2 := by have := hly.out; omega
      have hk0 : ¬ ((k : Int) < 0) := by omega
      have hk1 : (0 : Int) ≤ (k : Int) := by omega
      rw [hpl] at hf2
      clear hpl
      by_cases h60 : l.z.length = 60
      · have E2 := hide (show lvC l x = 3 by unfold lvC; rw [if_pos (.inr hmy), if_pos h60])
        have h60b : ((n3 : Int) == 60) = true := by have : (n3 : Int) = 60 := by have := hlz.out; omega
                                                    simpa using this
        clear h60
        go_enter Tryz.func63, Tryz.ntmps63
        go_upto_region 9 with fail
        rw [← hw1]
        clear hw1
        have hX := hX0.drew
        have hB := hB0.drew
        have hR := hR0.drew
        have hz1' : w.heap.size + 1 + 1 ≤ w1.drew.heap.size := Nat.le_of_eq hz1
        refine wp_region_sink (S := fun w' => w'.cell? ⟨w.heap.size, 0, none⟩ = some (.slice A1 n1 c1) ∧ w'.cell? ⟨w.heap.size, 1, none⟩ = some (.slice A2 n2 c2) ∧ w'.cell? ⟨w.heap.size, 2, none⟩ = some (.slice A3 n3 c3)) 9 (by kernel_rfl) ?_
        change wpAnyT _ _ _ _ _ _ _ _ _ (World.drew _)
        generalize hwd : World.drew w1 = wd at hX hB hR hz1' ⊢
        clear hwd
        have kk := hB.c3
        refine wpAnyT_takeL (i := 0) 6 (v := ?_) rfl (by kernel_rfl) (by kernel_rfl) (by kernel_rfl) (by kernel_rfl) (by kernel_rfl) (fun _ _ _ h => h) (Or.inl ⟨by rfl, ?_⟩) kk ?_
        rotate_left 1
        · (intro W hSw; (try dsimp only at hSw); go_simp) <;> with_reducible rfl
        try simp only [Act.put, List.setIfInBounds_toArray, List.set_cons_zero, List.set_cons_succ]
        refine wpAnyT_takeL (i := 1) 6 (v := ?_) rfl (by kernel_rfl) (by kernel_rfl) (by kernel_rfl) (by kernel_rfl) (by kernel_rfl) (fun _ _ _ h => h) (Or.inl ⟨by rfl, ?_⟩) kk ?_
        rotate_left 1
        · (intro W hSw; (try dsimp only at hSw); go_simp) <;> with_reducible rfl
        try simp only [Act.put, List.setIfInBounds_toArray, List.set_cons_zero, List.set_cons_succ]
        refine wpAnyT_takeL (i := 2) 6 (v := ?_) rfl (by kernel_rfl) (by kernel_rfl) (by kernel_rfl) (by kernel_rfl) (by kernel_rfl) (fun _ _ _ h => h) (Or.inl ⟨by rfl, ?_⟩) kk ?_
        rotate_left 1
        · (intro W hSw; (try dsimp only at hSw); go_simp) <;> with_reducible rfl
        try simp only [Act.put, List.setIfInBounds_toArray, List.set_cons_zero, List.set_cons_succ]
        refine wpAnyT_takeL (i := 4) 6 (v := ?_) rfl (by kernel_rfl) (by kernel_rfl) (by kernel_rfl) (by kernel_rfl) (by kernel_rfl) (fun _ _ _ h => h) (Or.inl ⟨by rfl, ?_⟩) kk ?_
        rotate_left 1
        · (intro W hSw; (try dsimp only at hSw); go_simp) <;> with_reducible rfl
        try simp only [Act.put, List.setIfInBounds_toArray, List.set_cons_zero, List.set_cons_succ]
        refine wpAnyT_takeL (i := 5) 6 (v := ?_) rfl (by kernel_rfl) (by kernel_rfl) (by kernel_rfl) (by kernel_rfl) (by kernel_rfl) (fun _ _ _ h => h) (Or.inl ⟨by rfl, ?_⟩) kk ?_
        rotate_left 1
        · (intro W hSw; (try dsimp only at hSw); go_simp) <;> with_reducible rfl
        try simp only [Act.put, List.setIfInBounds_toArray, List.set_cons_zero, List.set_cons_succ]
        refine wpAnyT_takeL (i := 6) 6 (v := ?_) rfl (by kernel_rfl) (by kernel_rfl) (by kernel_rfl) (by kernel_rfl) (by kernel_rfl) (fun _ _ _ h => h) (Or.inl ⟨by rfl, ?_⟩) kk ?_
        rotate_left 1
        · (intro W hSw; (try dsimp only at hSw); go_simp) <;> with_reducible rfl
        try simp only [Act.put, List.setIfInBounds_toArray, List.set_cons_zero, List.set_cons_succ]
        refine wpAnyT_go (i := 3) rfl (by kernel_rfl) fun K hK => ?_
        go_simp
        go_at_call 90
        refine (hf1 _ (rx.ext hX)).mono ?_
        rintro e w' ⟨rfl, rfl⟩
        go_simp
        refine hK _ _ ⟨fun _ => kk, ?_⟩
        clear hK K
        refine wpAnyT_go (i := 7) rfl (by kernel_rfl) fun K hK => ?_
        go_simp
        go_at_call 90
        refine (hf2 _ (ry.ext hX)).mono ?_
        rintro e w' ⟨rfl, rfl⟩
        go_simp
        refine hK _ _ ⟨fun _ => kk, ?_⟩
        clear hK K
        refine wpAnyT_takeL (i := 8) 6 (v := ?_) rfl (by kernel_rfl) (by kernel_rfl) (by kernel_rfl) (by kernel_rfl) (by kernel_rfl) (fun _ _ _ h => h) (Or.inl ⟨by rfl, ?_⟩) kk ?_
        rotate_left 1
        · (intro W hSw; (try dsimp only at hSw); go_simp) <;> with_reducible rfl
        try simp only [Act.put, List.setIfInBounds_toArray, List.set_cons_zero, List.set_cons_succ]
        refine wpAnyT_go (i := 9) rfl (by kernel_rfl) fun K hK => ?_
        go_simp
        refine hK _ _ ⟨fun h => absurd rfl h, ?_⟩
        clear hK K
        refine wpAnyT_done (by kernel_rfl) ?_ _
        obtain ⟨q0, q1, q2⟩ := hB.c3
        clear kk
        obtain ⟨r0, r1, r2, r3, r4, r5⟩ := res3 hR
        go_wp2_with fail
        have hRn := ((hR.set_ 0 (.slice A1 n1 c1)).set_ 1 (.slice A2 n2 c2)).set_ 2 (.slice A3 n3 c3)
        obtain ⟨n0, n1', n2'⟩ := hRn.c3
        refine bodyPost_ret (v := .tuple #[.agg #[.slice (⟨⟨A1, n1, c1⟩, ⟨A2, n2, c2⟩, ⟨A3, n3, c3⟩⟩ : S3).x.A (⟨⟨A1, n1, c1⟩, ⟨A2, n2, c2⟩, ⟨A3, n3, c3⟩⟩ : S3).x.n (⟨⟨A1, n1, c1⟩, ⟨A2, n2, c2⟩, ⟨A3, n3, c3⟩⟩ : S3).x.c, .slice (⟨⟨A1, n1, c1⟩, ⟨A2, n2, c2⟩, ⟨A3, n3, c3⟩⟩ : S3).y.A (⟨⟨A1, n1, c1⟩, ⟨A2, n2, c2⟩, ⟨A3, n3, c3⟩⟩ : S3).y.n (⟨⟨A1, n1, c1⟩, ⟨A2, n2, c2⟩, ⟨A3, n3, c3⟩⟩ : S3).y.c, .slice (⟨⟨A1, n1, c1⟩, ⟨A2, n2, c2⟩, ⟨A3, n3, c3⟩⟩ : S3).z.A (⟨⟨A1, n1, c1⟩, ⟨A2, n2, c2⟩, ⟨A3, n3, c3⟩⟩ : S3).z.n (⟨⟨A1, n1, c1⟩, ⟨A2, n2, c2⟩, ⟨A3, n3, c3⟩⟩ : S3).z.c], .int .i64 3]) (by simp [results, Tryz.results63, go_sem, n0, n1', n2']) rfl ⟨(⟨⟨A1, n1, c1⟩, ⟨A2, n2, c2⟩, ⟨A3, n3, c3⟩⟩ : S3), by rw [E2.out], ?_, ((hX.off (w.heap.size + 1) 0 (by omega) _).off (w.heap.size + 1) 1 (by omega) _).off (w.heap.size + 1) 2 (by omega) _⟩
        exact fun h => absurd (E2.out.symm.trans h) (by decide)
      · obtain ⟨k1, hk1'⟩ : ∃ k1 : Nat, Hid (k1 = k + 1) := ⟨_, rfl⟩
        have E2 := hide (show lvC l x = 0 by unfold lvC; rw [if_pos (.inr hmy), if_neg h60])
        have E1 := hide (show lvV l x = ⟨l.x, l.y.take k ++ l.y.drop k1, l.z ++ [x]⟩ by unfold lvV; rw [if_neg hmx, hk1'.out, ← hk])
        have h60b : ((n3 : Int) == 60) = false := by have : ¬ (n3 : Int) = 60 := by have := hlz.out; omega
                                                     simpa using this
        have hwr : IntKind.i64.wrap ((k : Int) + 1) = (k1 : Int) := by rw [Go.IntWalk.i64_in _ (by have := hsm.out; omega), hk1'.out]; simp
        have hac1 : k1 ≤ n2 := by have := hk1'.out; omega
        have hc21 : n2 ≤ c2 := cy.1
        have hac : k ≤ c2 := by omega
        have hac0 : k ≤ n2 := Nat.le_of_lt hkn
        have hbd1 := hide (show (l.y.take k).length + (n2 - k1) ≤ 16777216 by rw [List.length_take]; have := hsm.out; have := hly.out; omega)
        obtain ⟨b2, off2, _, rfl, _, _, _⟩ := ry.el hkn
        clear hk h60 hmy
        go_enter Tryz.func63, Tryz.ntmps63
        go_upto_region 9 with fail
        rw [← hw1]
        clear hw1
        have hX := hX0.drew
        have hB := hB0.drew
        have hR := hR0.drew
        have hz1' : w.heap.size + 1 + 1 ≤ w1.drew.heap.size := Nat.le_of_eq hz1
        refine wp_region_sink (S := fun w' => w'.cell? ⟨w.heap.size, 0, none⟩ = some (.slice A1 n1 c1) ∧ w'.cell? ⟨w.heap.size, 1, none⟩ = some (.slice (some ⟨b2, off2, none⟩) n2 c2) ∧ w'.cell? ⟨w.heap.size, 2, none⟩ = some (.slice A3 n3 c3)) 9 (by kernel_rfl) ?_
        change wpAnyT _ _ _ _ _ _ _ _ _ (World.drew _)
        generalize hwd : World.drew w1 = wd at hX hB hR hz1' ⊢
        clear hwd
        have kk := hB.c3
        refine wpAnyT_takeL (i := 0) 6 (v := ?_) rfl (by kernel_rfl) (by kernel_rfl) (by kernel_rfl) (by kernel_rfl) (by kernel_rfl) (fun _ _ _ h => h) (Or.inl ⟨by rfl, ?_⟩) kk ?_
        rotate_left 1
        · (intro W hSw; (try dsimp only at hSw); go_simp) <;> with_reducible rfl
        try simp only [Act.put, List.setIfInBounds_toArray, List.set_cons_zero, List.set_cons_succ]
        refine wpAnyT_takeL (i := 1) 6 (v := ?_) rfl (by kernel_rfl) (by kernel_rfl) (by kernel_rfl) (by kernel_rfl) (by kernel_rfl) (fun _ _ _ h => h) (Or.inl ⟨by rfl, ?_⟩) kk ?_
        rotate_left 1
        · (intro W hSw; (try dsimp only at hSw); go_simp) <;> with_reducible rfl
        try simp only [Act.put, List.setIfInBounds_toArray, List.set_cons_zero, List.set_cons_succ]
        refine wpAnyT_takeL (i := 2) 6 (v := ?_) rfl (by kernel_rfl) (by kernel_rfl) (by kernel_rfl) (by kernel_rfl) (by kernel_rfl) (fun _ _ _ h => h) (Or.inl ⟨by rfl, ?_⟩) kk ?_
        rotate_left 1
        · (intro W hSw; (try dsimp only at hSw); go_simp) <;> with_reducible rfl
        try simp only [Act.put, List.setIfInBounds_toArray, List.set_cons_zero, List.set_cons_succ]
        refine wpAnyT_takeL (i := 4) 6 (v := ?_) rfl (by kernel_rfl) (by kernel_rfl) (by kernel_rfl) (by kernel_rfl) (by kernel_rfl) (fun _ _ _ h => h) (Or.inl ⟨by rfl, ?_⟩) kk ?_
        rotate_left 1
        · (intro W hSw; (try dsimp only at hSw); go_simp) <;> with_reducible rfl
        try simp only [Act.put, List.setIfInBounds_toArray, List.set_cons_zero, List.set_cons_succ]
        refine wpAnyT_takeL (i := 5) 6 (v := ?_) rfl (by kernel_rfl) (by kernel_rfl) (by kernel_rfl) (by kernel_rfl) (by kernel_rfl) (fun _ _ _ h => h) (Or.inl ⟨by rfl, ?_⟩) kk ?_
        rotate_left 1
        · (intro W hSw; (try dsimp only at hSw); go_simp) <;> with_reducible rfl
        try simp only [Act.put, List.setIfInBounds_toArray, List.set_cons_zero, List.set_cons_succ]
        refine wpAnyT_takeL (i := 6) 6 (v := ?_) rfl (by kernel_rfl) (by kernel_rfl) (by kernel_rfl) (by kernel_rfl) (by kernel_rfl) (fun _ _ _ h => h) (Or.inl ⟨by rfl, ?_⟩) kk ?_
        rotate_left 1
        · (intro W hSw; (try dsimp only at hSw); go_simp) <;> with_reducible rfl
        try simp only [Act.put, List.setIfInBounds_toArray, List.set_cons_zero, List.set_cons_succ]
        refine wpAnyT_go (i := 3) rfl (by kernel_rfl) fun K hK => ?_
        go_simp
        go_at_call 90
        refine (hf1 _ (rx.ext hX)).mono ?_
        rintro e w' ⟨rfl, rfl⟩
        go_simp
        refine hK _ _ ⟨fun _ => kk, ?_⟩
        clear hK K
        refine wpAnyT_go (i := 7) rfl (by kernel_rfl) fun K hK => ?_
        go_simp
        go_at_call 90
        refine (hf2 _ (ry.ext hX)).mono ?_
        rintro e w' ⟨rfl, rfl⟩
        go_simp
        refine hK _ _ ⟨fun _ => kk, ?_⟩
        clear hK K
        refine wpAnyT_takeL (i := 8) 6 (v := ?_) rfl (by kernel_rfl) (by kernel_rfl) (by kernel_rfl) (by kernel_rfl) (by kernel_rfl) (fun _ _ _ h => h) (Or.inl ⟨by rfl, ?_⟩) kk ?_
        rotate_left 1
        · (intro W hSw; (try dsimp only at hSw); go_simp) <;> with_reducible rfl
        try simp only [Act.put, List.setIfInBounds_toArray, List.set_cons_zero, List.set_cons_succ]
        refine wpAnyT_go (i := 9) rfl (by kernel_rfl) fun K hK => ?_
        go_simp
        refine hK _ _ ⟨fun h => absurd rfl h, ?_⟩
        clear hK K
        refine wpAnyT_done (by kernel_rfl) ?_ _
        obtain ⟨q0, q1, q2⟩ := hB.c3
        clear kk
        go_upto_region 33 with fail
        clear q0 q1 q2
        replace hX := hX.drew
        replace hB := hB.drew
        replace hR := hR.drew
        have hz2 : w.heap.size + 1 + 1 ≤ wd.drew.heap.size := hz1'
        clear hz1' hX0 hB0 hR0 hz1
        go_cut [8] (fun s8 wx => LvPost w #[.slice A1 n1 c1, .slice (some ⟨b2, off2, none⟩) n2 c2, .slice A3 n3 c3] ⟨l.x, l.y, l.z ++ [x]⟩ s8 wx)
        case first =>
          refine wp_region_sink (S := fun w' => w'.cell? ⟨w.heap.size, 0, none⟩ = some (.slice A1 n1 c1) ∧ w'.cell? ⟨w.heap.size, 1, none⟩ = some (.slice (some ⟨b2, off2, none⟩) n2 c2) ∧ w'.cell? ⟨w.heap.size, 2, none⟩ = some (.slice A3 n3 c3)) 14 (by kernel_rfl) ?_
          change wpAnyT _ _ _ _ _ _ _ _ _ (World.drew _)
          generalize hwd : World.drew wd = we at hX hB hR hz2 ⊢
          clear hwd
          have kk := hB.c3
          refine wpAnyT_takeL (i := 0) 6 (v := ?_) rfl (by kernel_rfl) (by kernel_rfl) (by kernel_rfl) (by kernel_rfl) (by kernel_rfl) (fun _ _ _ h => h) (Or.inl ⟨by rfl, ?_⟩) kk ?_
          rotate_left 1
          · (intro W hSw; (try dsimp only at hSw); go_simp) <;> with_reducible rfl
          clear kk
          try simp only [Act.put, List.setIfInBounds_toArray, List.set_cons_zero, List.set_cons_succ]
          have kk := hB.c3
          refine wpAnyT_takeL (i := 1) 6 (v := ?_) rfl (by kernel_rfl) (by kernel_rfl) (by kernel_rfl) (by kernel_rfl) (by kernel_rfl) (fun _ _ _ h => h) (Or.inl ⟨by rfl, ?_⟩) kk ?_
          rotate_left 1
          · (intro W hSw; (try dsimp only at hSw); go_simp) <;> with_reducible rfl
          clear kk
          try simp only [Act.put, List.setIfInBounds_toArray, List.set_cons_zero, List.set_cons_succ]
          have kk := hB.c3
          refine wpAnyT_takeL (i := 3) 6 (v := ?_) rfl (by kernel_rfl) (by kernel_rfl) (by kernel_rfl) (by kernel_rfl) (by kernel_rfl) (fun _ _ _ h => h) (Or.inl ⟨by rfl, ?_⟩) kk ?_
          rotate_left 1
          · (intro W hSw; (try dsimp only at hSw); go_simp) <;> with_reducible rfl
          clear kk
          try simp only [Act.put, List.setIfInBounds_toArray, List.set_cons_zero, List.set_cons_succ]
          have kk := hB.c3
          refine wpAnyT_takeL (i := 4) 6 (v := ?_) rfl (by kernel_rfl) (by kernel_rfl) (by kernel_rfl) (by kernel_rfl) (by kernel_rfl) (fun _ _ _ h => h) (Or.inl ⟨by rfl, ?_⟩) kk ?_
          rotate_left 1
          · (intro W hSw; (try dsimp only at hSw); go_simp) <;> with_reducible rfl
          clear kk
          try simp only [Act.put, List.setIfInBounds_toArray, List.set_cons_zero, List.set_cons_succ]
          have kk := hB.c3
          refine wpAnyT_takeL (i := 6) 6 (v := ?_) rfl (by kernel_rfl) (by kernel_rfl) (by kernel_rfl) (by kernel_rfl) (by kernel_rfl) (fun _ _ _ h => h) (Or.inl ⟨by rfl, ?_⟩) kk ?_
          rotate_left 1
          · (intro W hSw; (try dsimp only at hSw); go_simp) <;> with_reducible rfl
          clear kk
          try simp only [Act.put, List.setIfInBounds_toArray, List.set_cons_zero, List.set_cons_succ]
          have kk := hB.c3
          refine wpAnyT_takeL (i := 7) 6 (v := ?_) rfl (by kernel_rfl) (by kernel_rfl) (by kernel_rfl) (by kernel_rfl) (by kernel_rfl) (fun _ _ _ h => h) (Or.inl ⟨by rfl, ?_⟩) kk ?_
          rotate_left 1
          · (intro W hSw; (try dsimp only at hSw); go_simp) <;> with_reducible rfl
          clear kk
          try simp only [Act.put, List.setIfInBounds_toArray, List.set_cons_zero, List.set_cons_succ]
          have kk := hB.c3
          refine wpAnyT_takeL (i := 9) 6 (v := ?_) rfl (by kernel_rfl) (by kernel_rfl) (by kernel_rfl) (by kernel_rfl) (by kernel_rfl) (fun _ _ _ h => h) (Or.inl ⟨by rfl, ?_⟩) kk ?_
          rotate_left 1
          · (intro W hSw; (try dsimp only at hSw); go_simp) <;> with_reducible rfl
          clear kk
          try simp only [Act.put, List.setIfInBounds_toArray, List.set_cons_zero, List.set_cons_succ]
          refine wpAnyT_go3 (i := 2) (j := 10) (k := 13) rfl rfl rfl (by kernel_rfl) (fun K hK => ?_) (fun K hK => ?_) (fun K hK => ?_)
          go_simp
          go_at_call 62
          refine (spec.l01Own_any ⟨A1, n1, c1⟩ l.x _ (rx.ext hX)).mono ?_
          rintro e w_8n ⟨tx, rfl, ox, hx⟩
          go_simp
          have z0 := hR.lt
          replace ox := Own.mono (lo' := (w.heap.size + 1 + 1)) ox (by omega)
          replace hB := hB.ext hx
          replace hR := hR.ext hx
          replace hX := hX.trans hx
          refine hK _ _ ⟨fun _ => hB.c3, ?_⟩
          clear hK K hx z0
          revert ox; revert hR; revert hB; revert hX; revert tx; revert w_8n
          refine ?ne_1
          rotate_left 1
          go_simp
          have hx := (Ext.refl we).alloc (.cells #[.int .i64 x] 2)
          have BF := Blk.new we 2 (#[.int .i64 x])
          obtain ⟨bF, hb⟩ : ∃ b, b = we.heap.size := ⟨_, rfl⟩
          generalize hw : World.alloc we (.cells #[.int .i64 x] 2) = w_8n at hx BF ⊢
          rw [← hb] at BF ⊢
          have lF : (w.heap.size + 1 + 1) ≤ bF := by have := hR.lt; omega
          replace hB := hB.ext hx
          replace hR := hR.ext hx
          replace hX := hX.trans hx
          refine hK _ _ ⟨fun _ => hB.c3, ?_⟩
          clear hK K hx hb hw
          revert lF; revert BF; revert hR; revert hB; revert hX; revert bF; revert w_8n
          refine ?ne_2
          rotate_left 1
          go_simp
          have hx := (Ext.refl we).alloc (.cells #[.slice none 0 0, .slice none 0 0, .slice none 0 0] 30)
          have BP := Blk.new we 30 (#[.slice none 0 0, .slice none 0 0, .slice none 0 0])
          obtain ⟨bP, hb⟩ : ∃ b, b = we.heap.size := ⟨_, rfl⟩
          generalize hw : World.alloc we (.cells #[.slice none 0 0, .slice none 0 0, .slice none 0 0] 30) = w_8n at hx BP ⊢
          rw [← hb] at BP ⊢
          have lP : (w.heap.size + 1 + 1) ≤ bP := by have := hR.lt; omega
          replace hB := hB.ext hx
          replace hR := hR.ext hx
          replace hX := hX.trans hx
          refine hK _ _ ⟨fun _ => hB.c3, ?_⟩
          clear hK K hx hb hw
          revert lP; revert BP; revert hR; revert hB; revert hX; revert bP; revert w_8n
          refine ?ne_3
          rotate_left 1
          -- nd_1
          intro w_8 tx hX hB hR ox
          refine wpAnyT_go3 (i := 5) (j := 10) (k := 13) rfl rfl rfl (by kernel_rfl) (fun K hK => ?_) (fun K hK => ?_) (fun K hK => ?_)
          go_simp
          go_at_call 62
          refine (spec.l01Own_any ⟨some ⟨b2, off2, none⟩, n2, c2⟩ l.y _ (ry.ext hX)).mono ?_
          rintro e w_9n ⟨ty, rfl, oy, hx⟩
          go_simp
          have p_x_y : apart (.slice tx.A tx.n tx.c) (.slice ty.A ty.n ty.c) := fun k h1 h2 => by have a1 := (ox.lt k h1).2; have a2 := (oy.lt k h2).1; omega
          have z0 := hR.lt
          replace oy := Own.mono (lo' := (w.heap.size + 1 + 1)) oy (by omega)
          replace hB := hB.ext hx
          replace hR := hR.ext hx
          replace ox := ox.ext hx
          replace hX := hX.trans hx
          refine hK _ _ ⟨fun _ => hB.c3, ?_⟩
          clear hK K hx z0
          revert p_x_y; revert oy; revert ox; revert hR; revert hB; revert hX; revert ty; revert tx; revert w_9n
          clear w_8
          refine ?ne_4
          rotate_left 1
          go_simp
          have hx := (Ext.refl w_8).alloc (.cells #[.int .i64 x] 2)
          have BF := Blk.new w_8 2 (#[.int .i64 x])
          obtain ⟨bF, hb⟩ : ∃ b, b = w_8.heap.size := ⟨_, rfl⟩
          generalize hw : World.alloc w_8 (.cells #[.int .i64 x] 2) = w_9n at hx BF ⊢
          rw [← hb] at BF ⊢
          have lF : (w.heap.size + 1 + 1) ≤ bF := by have := hR.lt; omega
          have p_x_F : ∀ k, Value.ownBlock (.slice tx.A tx.n tx.c) = some k → k ≠ bF := fun k h1 e => by have a1 := (ox.lt k h1).2; omega
          replace hB := hB.ext hx
          replace hR := hR.ext hx
          replace ox := ox.ext hx
          replace hX := hX.trans hx
          refine hK _ _ ⟨fun _ => hB.c3, ?_⟩
          clear hK K hx hb hw
          revert p_x_F; revert lF; revert BF; revert ox; revert hR; revert hB; revert hX; revert bF; revert tx; revert w_9n
          clear w_8
          refine ?ne_5
          rotate_left 1
          go_simp
          have hx := (Ext.refl w_8).alloc (.cells #[.slice none 0 0, .slice none 0 0, .slice none 0 0] 30)
          have BP := Blk.new w_8 30 (#[.slice none 0 0, .slice none 0 0, .slice none 0 0])
          obtain ⟨bP, hb⟩ : ∃ b, b = w_8.heap.size := ⟨_, rfl⟩
          generalize hw : World.alloc w_8 (.cells #[.slice none 0 0, .slice none 0 0, .slice none 0 0] 30) = w_9n at hx BP ⊢
          rw [← hb] at BP ⊢
          have lP : (w.heap.size + 1 + 1) ≤ bP := by have := hR.lt; omega
          have p_x_P : ∀ k, Value.ownBlock (.slice tx.A tx.n tx.c) = some k → k ≠ bP := fun k h1 e => by have a1 := (ox.lt k h1).2; omega
          replace hB := hB.ext hx
          replace hR := hR.ext hx
          replace ox := ox.ext hx
          replace hX := hX.trans hx
          refine hK _ _ ⟨fun _ => hB.c3, ?_⟩
          clear hK K hx hb hw
          revert p_x_P; revert lP; revert BP; revert ox; revert hR; revert hB; revert hX; revert bP; revert tx; revert w_9n
          clear w_8
          refine ?ne_6
          rotate_left 1
          -- nd_2
          intro w_8 bF hX hB hR BF lF
          refine wpAnyT_go2 (i := 2) (j := 13) rfl rfl (by kernel_rfl) (fun K hK => ?_) (fun K hK => ?_)
          go_simp
          go_at_call 62
          refine (spec.l01Own_any ⟨A1, n1, c1⟩ l.x _ (rx.ext hX)).mono ?_
          rintro e w_9n ⟨tx, rfl, ox, hx⟩
          go_simp
          have p_x_F : ∀ k, Value.ownBlock (.slice tx.A tx.n tx.c) = some k → k ≠ bF := fun k h1 e => by have a1 := (ox.lt k h1).1; have a2 := BF.lt; omega
          have z0 := hR.lt
          replace ox := Own.mono (lo' := (w.heap.size + 1 + 1)) ox (by omega)
          replace hB := hB.ext hx
          replace hR := hR.ext hx
          replace BF := BF.ext hx
          replace hX := hX.trans hx
          refine hK _ _ ⟨fun _ => hB.c3, ?_⟩
          clear hK K hx z0
          revert p_x_F; revert lF; revert BF; revert ox; revert hR; revert hB; revert hX; revert bF; revert tx; revert w_9n
          clear w_8
          exact ?ne_5
          go_simp
          have hx := (Ext.refl w_8).alloc (.cells #[.slice none 0 0, .slice none 0 0, .slice none 0 0] 30)
          have BP := Blk.new w_8 30 (#[.slice none 0 0, .slice none 0 0, .slice none 0 0])
          obtain ⟨bP, hb⟩ : ∃ b, b = w_8.heap.size := ⟨_, rfl⟩
          generalize hw : World.alloc w_8 (.cells #[.slice none 0 0, .slice none 0 0, .slice none 0 0] 30) = w_9n at hx BP ⊢
          rw [← hb] at BP ⊢
          have lP : (w.heap.size + 1 + 1) ≤ bP := by have := hR.lt; omega
          have p_F_P : bF ≠ bP := by have := BF.lt; omega
          replace hB := hB.ext hx
          replace hR := hR.ext hx
          replace BF := BF.ext hx
          replace hX := hX.trans hx
          refine hK _ _ ⟨fun _ => hB.c3, ?_⟩
          clear hK K hx hb hw
          revert p_F_P; revert lP; revert lF; revert BP; revert BF; revert hR; revert hB; revert hX; revert bP; revert bF; revert w_9n
          clear w_8
          refine ?ne_7
          rotate_left 1
          -- nd_3
          intro w_8 bP hX hB hR BP lP
          refine wpAnyT_go2 (i := 2) (j := 10) rfl rfl (by kernel_rfl) (fun K hK => ?_) (fun K hK => ?_)
          go_simp
          go_at_call 62
          refine (spec.l01Own_any ⟨A1, n1, c1⟩ l.x _ (rx.ext hX)).mono ?_
          rintro e w_9n ⟨tx, rfl, ox, hx⟩
          go_simp
          have p_x_P : ∀ k, Value.ownBlock (.slice tx.A tx.n tx.c) = some k → k ≠ bP := fun k h1 e => by have a1 := (ox.lt k h1).1; have a2 := BP.lt; omega
          have z0 := hR.lt
          replace ox := Own.mono (lo' := (w.heap.size + 1 + 1)) ox (by omega)
          replace hB := hB.ext hx
          replace hR := hR.ext hx
          replace BP := BP.ext hx
          replace hX := hX.trans hx
          refine hK _ _ ⟨fun _ => hB.c3, ?_⟩
          clear hK K hx z0
          revert p_x_P; revert lP; revert BP; revert ox; revert hR; revert hB; revert hX; revert bP; revert tx; revert w_9n
          clear w_8
          exact ?ne_6
          go_simp
          have hx := (Ext.refl w_8).alloc (.cells #[.int .i64 x] 2)
          have BF := Blk.new w_8 2 (#[.int .i64 x])
          obtain ⟨bF, hb⟩ : ∃ b, b = w_8.heap.size := ⟨_, rfl⟩
          generalize hw : World.alloc w_8 (.cells #[.int .i64 x] 2) = w_9n at hx BF ⊢
          rw [← hb] at BF ⊢
          have lF : (w.heap.size + 1 + 1) ≤ bF := by have := hR.lt; omega
          have p_F_P : bF ≠ bP := by have := BP.lt; omega
          replace hB := hB.ext hx
          replace hR := hR.ext hx
          replace BP := BP.ext hx
          replace hX := hX.trans hx
          refine hK _ _ ⟨fun _ => hB.c3, ?_⟩
          clear hK K hx hb hw
          revert p_F_P; revert lP; revert lF; revert BP; revert BF; revert hR; revert hB; revert hX; revert bP; revert bF; revert w_9n
          clear w_8
          exact ?ne_7
          -- nd_4
          intro w_9 tx ty hX hB hR ox oy p_x_y
          refine wpAnyT_go3 (i := 8) (j := 10) (k := 13) rfl rfl rfl (by kernel_rfl) (fun K hK => ?_) (fun K hK => ?_) (fun K hK => ?_)
          go_simp
          go_at_call 62
          refine (spec.l01Own_any ⟨A3, n3, c3⟩ l.z _ (rz.ext hX)).mono ?_
          rintro e w_10n ⟨tg, rfl, og, hx⟩
          go_simp
          have p_g_x : apart (.slice tg.A tg.n tg.c) (.slice tx.A tx.n tx.c) := fun k h1 h2 => by have a1 := (ox.lt k h2).2; have a2 := (og.lt k h1).1; omega
          have p_g_y : apart (.slice tg.A tg.n tg.c) (.slice ty.A ty.n ty.c) := fun k h1 h2 => by have a1 := (oy.lt k h2).2; have a2 := (og.lt k h1).1; omega
          have z0 := hR.lt
          replace og := Own.mono (lo' := (w.heap.size + 1 + 1)) og (by omega)
          replace hB := hB.ext hx
          replace hR := hR.ext hx
          replace ox := ox.ext hx
          replace oy := oy.ext hx
          replace hX := hX.trans hx
          refine hK _ _ ⟨fun _ => hB.c3, ?_⟩
          clear hK K hx z0
          revert p_x_y; revert p_g_y; revert p_g_x; revert oy; revert ox; revert og; revert hR; revert hB; revert hX; revert ty; revert tx; revert tg; revert w_10n
          clear w_9
          refine ?ne_8
          rotate_left 1
          go_simp
          have hx := (Ext.refl w_9).alloc (.cells #[.int .i64 x] 2)
          have BF := Blk.new w_9 2 (#[.int .i64 x])
          obtain ⟨bF, hb⟩ : ∃ b, b = w_9.heap.size := ⟨_, rfl⟩
          generalize hw : World.alloc w_9 (.cells #[.int .i64 x] 2) = w_10n at hx BF ⊢
          rw [← hb] at BF ⊢
          have lF : (w.heap.size + 1 + 1) ≤ bF := by have := hR.lt; omega
          have p_x_F : ∀ k, Value.ownBlock (.slice tx.A tx.n tx.c) = some k → k ≠ bF := fun k h1 e => by have a1 := (ox.lt k h1).2; omega
          have p_y_F : ∀ k, Value.ownBlock (.slice ty.A ty.n ty.c) = some k → k ≠ bF := fun k h1 e => by have a1 := (oy.lt k h1).2; omega
          replace hB := hB.ext hx
          replace hR := hR.ext hx
          replace ox := ox.ext hx
          replace oy := oy.ext hx
          replace hX := hX.trans hx
          refine hK _ _ ⟨fun _ => hB.c3, ?_⟩
          clear hK K hx hb hw
          revert p_y_F; revert p_x_F; revert p_x_y; revert lF; revert BF; revert oy; revert ox; revert hR; revert hB; revert hX; revert bF; revert ty; revert tx; revert w_10n
          clear w_9
          refine ?ne_9
          rotate_left 1
          go_simp
          have hx := (Ext.refl w_9).alloc (.cells #[.slice none 0 0, .slice none 0 0, .slice none 0 0] 30)
          have BP := Blk.new w_9 30 (#[.slice none 0 0, .slice none 0 0, .slice none 0 0])
          obtain ⟨bP, hb⟩ : ∃ b, b = w_9.heap.size := ⟨_, rfl⟩
          generalize hw : World.alloc w_9 (.cells #[.slice none 0 0, .slice none 0 0, .slice none 0 0] 30) = w_10n at hx BP ⊢
          rw [← hb] at BP ⊢
          have lP : (w.heap.size + 1 + 1) ≤ bP := by have := hR.lt; omega
          have p_x_P : ∀ k, Value.ownBlock (.slice tx.A tx.n tx.c) = some k → k ≠ bP := fun k h1 e => by have a1 := (ox.lt k h1).2; omega
          have p_y_P : ∀ k, Value.ownBlock (.slice ty.A ty.n ty.c) = some k → k ≠ bP := fun k h1 e => by have a1 := (oy.lt k h1).2; omega
          replace hB := hB.ext hx
          replace hR := hR.ext hx
          replace ox := ox.ext hx
          replace oy := oy.ext hx
          replace hX := hX.trans hx
          refine hK _ _ ⟨fun _ => hB.c3, ?_⟩
          clear hK K hx hb hw
          revert p_y_P; revert p_x_P; revert p_x_y; revert lP; revert BP; revert oy; revert ox; revert hR; revert hB; revert hX; revert bP; revert ty; revert tx; revert w_10n
          clear w_9
          refine ?ne_10
          rotate_left 1
          -- nd_5
          intro w_9 tx bF hX hB hR ox BF lF p_x_F
          refine wpAnyT_go2 (i := 5) (j := 13) rfl rfl (by kernel_rfl) (fun K hK => ?_) (fun K hK => ?_)
          go_simp
          go_at_call 62
          refine (spec.l01Own_any ⟨some ⟨b2, off2, none⟩, n2, c2⟩ l.y _ (ry.ext hX)).mono ?_
          rintro e w_10n ⟨ty, rfl, oy, hx⟩
          go_simp
          have p_x_y : apart (.slice tx.A tx.n tx.c) (.slice ty.A ty.n ty.c) := fun k h1 h2 => by have a1 := (ox.lt k h1).2; have a2 := (oy.lt k h2).1; omega
          have p_y_F : ∀ k, Value.ownBlock (.slice ty.A ty.n ty.c) = some k → k ≠ bF := fun k h1 e => by have a1 := (oy.lt k h1).1; have a2 := BF.lt; omega
          have z0 := hR.lt
          replace oy := Own.mono (lo' := (w.heap.size + 1 + 1)) oy (by omega)
          replace hB := hB.ext hx
          replace hR := hR.ext hx
          replace ox := ox.ext hx
          replace BF := BF.ext hx
          replace hX := hX.trans hx
          refine hK _ _ ⟨fun _ => hB.c3, ?_⟩
          clear hK K hx z0
          revert p_y_F; revert p_x_F; revert p_x_y; revert lF; revert BF; revert oy; revert ox; revert hR; revert hB; revert hX; revert bF; revert ty; revert tx; revert w_10n
          clear w_9
          exact ?ne_9
          go_simp
          have hx := (Ext.refl w_9).alloc (.cells #[.slice none 0 0, .slice none 0 0, .slice none 0 0] 30)
          have BP := Blk.new w_9 30 (#[.slice none 0 0, .slice none 0 0, .slice none 0 0])
          obtain ⟨bP, hb⟩ : ∃ b, b = w_9.heap.size := ⟨_, rfl⟩
          generalize hw : World.alloc w_9 (.cells #[.slice none 0 0, .slice none 0 0, .slice none 0 0] 30) = w_10n at hx BP ⊢
          rw [← hb] at BP ⊢
          have lP : (w.heap.size + 1 + 1) ≤ bP := by have := hR.lt; omega
          have p_x_P : ∀ k, Value.ownBlock (.slice tx.A tx.n tx.c) = some k → k ≠ bP := fun k h1 e => by have a1 := (ox.lt k h1).2; omega
          have p_F_P : bF ≠ bP := by have := BF.lt; omega
          replace hB := hB.ext hx
          replace hR := hR.ext hx
          replace ox := ox.ext hx
          replace BF := BF.ext hx
          replace hX := hX.trans hx
          refine hK _ _ ⟨fun _ => hB.c3, ?_⟩
          clear hK K hx hb hw
          revert p_F_P; revert p_x_P; revert p_x_F; revert lP; revert lF; revert BP; revert BF; revert ox; revert hR; revert hB; revert hX; revert bP; revert bF; revert tx; revert w_10n
          clear w_9
          refine ?ne_11
          rotate_left 1
          -- nd_6
          intro w_9 tx bP hX hB hR ox BP lP p_x_P
          refine wpAnyT_go2 (i := 5) (j := 10) rfl rfl (by kernel_rfl) (fun K hK => ?_) (fun K hK => ?_)
          go_simp
          go_at_call 62
          refine (spec.l01Own_any ⟨some ⟨b2, off2, none⟩, n2, c2⟩ l.y _ (ry.ext hX)).mono ?_
          rintro e w_10n ⟨ty, rfl, oy, hx⟩
          go_simp
          have p_x_y : apart (.slice tx.A tx.n tx.c) (.slice ty.A ty.n ty.c) := fun k h1 h2 => by have a1 := (ox.lt k h1).2; have a2 := (oy.lt k h2).1; omega
          have p_y_P : ∀ k, Value.ownBlock (.slice ty.A ty.n ty.c) = some k → k ≠ bP := fun k h1 e => by have a1 := (oy.lt k h1).1; have a2 := BP.lt; omega
          have z0 := hR.lt
          replace oy := Own.mono (lo' := (w.heap.size + 1 + 1)) oy (by omega)
          replace hB := hB.ext hx
          replace hR := hR.ext hx
          replace ox := ox.ext hx
          replace BP := BP.ext hx
          replace hX := hX.trans hx
          refine hK _ _ ⟨fun _ => hB.c3, ?_⟩
          clear hK K hx z0
          revert p_y_P; revert p_x_P; revert p_x_y; revert lP; revert BP; revert oy; revert ox; revert hR; revert hB; revert hX; revert bP; revert ty; revert tx; revert w_10n
          clear w_9
          exact ?ne_10
          go_simp
          have hx := (Ext.refl w_9).alloc (.cells #[.int .i64 x] 2)
          have BF := Blk.new w_9 2 (#[.int .i64 x])
          obtain ⟨bF, hb⟩ : ∃ b, b = w_9.heap.size := ⟨_, rfl⟩
          generalize hw : World.alloc w_9 (.cells #[.int .i64 x] 2) = w_10n at hx BF ⊢
          rw [← hb] at BF ⊢
          have lF : (w.heap.size + 1 + 1) ≤ bF := by have := hR.lt; omega
          have p_x_F : ∀ k, Value.ownBlock (.slice tx.A tx.n tx.c) = some k → k ≠ bF := fun k h1 e => by have a1 := (ox.lt k h1).2; omega
          have p_F_P : bF ≠ bP := by have := BP.lt; omega
          replace hB := hB.ext hx
          replace hR := hR.ext hx
          replace ox := ox.ext hx
          replace BP := BP.ext hx
          replace hX := hX.trans hx
          refine hK _ _ ⟨fun _ => hB.c3, ?_⟩
          clear hK K hx hb hw
          revert p_F_P; revert p_x_P; revert p_x_F; revert lP; revert lF; revert BP; revert BF; revert ox; revert hR; revert hB; revert hX; revert bP; revert bF; revert tx; revert w_10n
          clear w_9
          exact ?ne_11
          -- nd_7
          intro w_9 bF bP hX hB hR BF BP lF lP p_F_P
          refine wpAnyT_go (i := 2) rfl (by kernel_rfl) fun K hK => ?_
          go_simp
          go_at_call 62
          refine (spec.l01Own_any ⟨A1, n1, c1⟩ l.x _ (rx.ext hX)).mono ?_
          rintro e w_10n ⟨tx, rfl, ox, hx⟩
          go_simp
          have p_x_F : ∀ k, Value.ownBlock (.slice tx.A tx.n tx.c) = some k → k ≠ bF := fun k h1 e => by have a1 := (ox.lt k h1).1; have a2 := BF.lt; omega
          have p_x_P : ∀ k, Value.ownBlock (.slice tx.A tx.n tx.c) = some k → k ≠ bP := fun k h1 e => by have a1 := (ox.lt k h1).1; have a2 := BP.lt; omega
          have z0 := hR.lt
          replace ox := Own.mono (lo' := (w.heap.size + 1 + 1)) ox (by omega)
          replace hB := hB.ext hx
          replace hR := hR.ext hx
          replace BF := BF.ext hx
          replace BP := BP.ext hx
          replace hX := hX.trans hx
          refine hK _ _ ⟨fun _ => hB.c3, ?_⟩
          clear hK K hx z0
          revert p_F_P; revert p_x_P; revert p_x_F; revert lP; revert lF; revert BP; revert BF; revert ox; revert hR; revert hB; revert hX; revert bP; revert bF; revert tx; revert w_10n
          clear w_9
          exact ?ne_11
          -- nd_8
          intro w_10 tg tx ty hX hB hR og ox oy p_g_x p_g_y p_x_y
          refine wpAnyT_go2 (i := 10) (j := 13) rfl rfl (by kernel_rfl) (fun K hK => ?_) (fun K hK => ?_)
          go_simp
          have hx := (Ext.refl w_10).alloc (.cells #[.int .i64 x] 2)
          have BF := Blk.new w_10 2 (#[.int .i64 x])
          obtain ⟨bF, hb⟩ : ∃ b, b = w_10.heap.size := ⟨_, rfl⟩
          generalize hw : World.alloc w_10 (.cells #[.int .i64 x] 2) = w_11n at hx BF ⊢
          rw [← hb] at BF ⊢
          have lF : (w.heap.size + 1 + 1) ≤ bF := by have := hR.lt; omega
          have p_g_F : ∀ k, Value.ownBlock (.slice tg.A tg.n tg.c) = some k → k ≠ bF := fun k h1 e => by have a1 := (og.lt k h1).2; omega
          have p_x_F : ∀ k, Value.ownBlock (.slice tx.A tx.n tx.c) = some k → k ≠ bF := fun k h1 e => by have a1 := (ox.lt k h1).2; omega
          have p_y_F : ∀ k, Value.ownBlock (.slice ty.A ty.n ty.c) = some k → k ≠ bF := fun k h1 e => by have a1 := (oy.lt k h1).2; omega
          replace hB := hB.ext hx
          replace hR := hR.ext hx
          replace og := og.ext hx
          replace ox := ox.ext hx
          replace oy := oy.ext hx
          replace hX := hX.trans hx
          refine hK _ _ ⟨fun _ => hB.c3, ?_⟩
          clear hK K hx hb hw
          revert p_y_F; revert p_x_F; revert p_g_F; revert p_x_y; revert p_g_y; revert p_g_x; revert lF; revert BF; revert oy; revert ox; revert og; revert hR; revert hB; revert hX; revert bF; revert ty; revert tx; revert tg; revert w_11n
          clear w_10
          refine ?ne_12
          rotate_left 1
          go_simp
          have hx := (Ext.refl w_10).alloc (.cells #[.slice none 0 0, .slice none 0 0, .slice none 0 0] 30)
          have BP := Blk.new w_10 30 (#[.slice none 0 0, .slice none 0 0, .slice none 0 0])
          obtain ⟨bP, hb⟩ : ∃ b, b = w_10.heap.size := ⟨_, rfl⟩
          generalize hw : World.alloc w_10 (.cells #[.slice none 0 0, .slice none 0 0, .slice none 0 0] 30) = w_11n at hx BP ⊢
          rw [← hb] at BP ⊢
          have lP : (w.heap.size + 1 + 1) ≤ bP := by have := hR.lt; omega
          have p_g_P : ∀ k, Value.ownBlock (.slice tg.A tg.n tg.c) = some k → k ≠ bP := fun k h1 e => by have a1 := (og.lt k h1).2; omega
          have p_x_P : ∀ k, Value.ownBlock (.slice tx.A tx.n tx.c) = some k → k ≠ bP := fun k h1 e => by have a1 := (ox.lt k h1).2; omega
          have p_y_P : ∀ k, Value.ownBlock (.slice ty.A ty.n ty.c) = some k → k ≠ bP := fun k h1 e => by have a1 := (oy.lt k h1).2; omega
          replace hB := hB.ext hx
          replace hR := hR.ext hx
          replace og := og.ext hx
          replace ox := ox.ext hx
          replace oy := oy.ext hx
          replace hX := hX.trans hx
          refine hK _ _ ⟨fun _ => hB.c3, ?_⟩
          clear hK K hx hb hw
          revert p_y_P; revert p_x_P; revert p_g_P; revert p_x_y; revert p_g_y; revert p_g_x; revert lP; revert BP; revert oy; revert ox; revert og; revert hR; revert hB; revert hX; revert bP; revert ty; revert tx; revert tg; revert w_11n
          clear w_10
          refine ?ne_13
          rotate_left 1
          -- nd_9
          intro w_10 tx ty bF hX hB hR ox oy BF lF p_x_y p_x_F p_y_F
          refine wpAnyT_go2 (i := 8) (j := 13) rfl rfl (by kernel_rfl) (fun K hK => ?_) (fun K hK => ?_)
          go_simp
          go_at_call 62
          refine (spec.l01Own_any ⟨A3, n3, c3⟩ l.z _ (rz.ext hX)).mono ?_
          rintro e w_11n ⟨tg, rfl, og, hx⟩
          go_simp
          have p_g_x : apart (.slice tg.A tg.n tg.c) (.slice tx.A tx.n tx.c) := fun k h1 h2 => by have a1 := (ox.lt k h2).2; have a2 := (og.lt k h1).1; omega
          have p_g_y : apart (.slice tg.A tg.n tg.c) (.slice ty.A ty.n ty.c) := fun k h1 h2 => by have a1 := (oy.lt k h2).2; have a2 := (og.lt k h1).1; omega
          have p_g_F : ∀ k, Value.ownBlock (.slice tg.A tg.n tg.c) = some k → k ≠ bF := fun k h1 e => by have a1 := (og.lt k h1).1; have a2 := BF.lt; omega
          have z0 := hR.lt
          replace og := Own.mono (lo' := (w.heap.size + 1 + 1)) og (by omega)
          replace hB := hB.ext hx
          replace hR := hR.ext hx
          replace ox := ox.ext hx
          replace oy := oy.ext hx
          replace BF := BF.ext hx
          replace hX := hX.trans hx
          refine hK _ _ ⟨fun _ => hB.c3, ?_⟩
          clear hK K hx z0
          revert p_y_F; revert p_x_F; revert p_g_F; revert p_x_y; revert p_g_y; revert p_g_x; revert lF; revert BF; revert oy; revert ox; revert og; revert hR; revert hB; revert hX; revert bF; revert ty; revert tx; revert tg; revert w_11n
          clear w_10
          exact ?ne_12
          go_simp
          have hx := (Ext.refl w_10).alloc (.cells #[.slice none 0 0, .slice none 0 0, .slice none 0 0] 30)
          have BP := Blk.new w_10 30 (#[.slice none 0 0, .slice none 0 0, .slice none 0 0])
          obtain ⟨bP, hb⟩ : ∃ b, b = w_10.heap.size := ⟨_, rfl⟩
          generalize hw : World.alloc w_10 (.cells #[.slice none 0 0, .slice none 0 0, .slice none 0 0] 30) = w_11n at hx BP ⊢
          rw [← hb] at BP ⊢
          have lP : (w.heap.size + 1 + 1) ≤ bP := by have := hR.lt; omega
          have p_x_P : ∀ k, Value.ownBlock (.slice tx.A tx.n tx.c) = some k → k ≠ bP := fun k h1 e => by have a1 := (ox.lt k h1).2; omega
          have p_y_P : ∀ k, Value.ownBlock (.slice ty.A ty.n ty.c) = some k → k ≠ bP := fun k h1 e => by have a1 := (oy.lt k h1).2; omega
          have p_F_P : bF ≠ bP := by have := BF.lt; omega
          replace hB := hB.ext hx
          replace hR := hR.ext hx
          replace ox := ox.ext hx
          replace oy := oy.ext hx
          replace BF := BF.ext hx
          replace hX := hX.trans hx
          refine hK _ _ ⟨fun _ => hB.c3, ?_⟩
          clear hK K hx hb hw
          revert p_F_P; revert p_y_P; revert p_y_F; revert p_x_P; revert p_x_F; revert p_x_y; revert lP; revert lF; revert BP; revert BF; revert oy; revert ox; revert hR; revert hB; revert hX; revert bP; revert bF; revert ty; revert tx; revert w_11n
          clear w_10
          refine ?ne_14
          rotate_left 1
          -- nd_10
          intro w_10 tx ty bP hX hB hR ox oy BP lP p_x_y p_x_P p_y_P
          refine wpAnyT_go2 (i := 8) (j := 10) rfl rfl (by kernel_rfl) (fun K hK => ?_) (fun K hK => ?_)
          go_simp
          go_at_call 62
          refine (spec.l01Own_any ⟨A3, n3, c3⟩ l.z _ (rz.ext hX)).mono ?_
          rintro e w_11n ⟨tg, rfl, og, hx⟩
          go_simp
          have p_g_x : apart (.slice tg.A tg.n tg.c) (.slice tx.A tx.n tx.c) := fun k h1 h2 => by have a1 := (ox.lt k h2).2; have a2 := (og.lt k h1).1; omega
          have p_g_y : apart (.slice tg.A tg.n tg.c) (.slice ty.A ty.n ty.c) := fun k h1 h2 => by have a1 := (oy.lt k h2).2; have a2 := (og.lt k h1).1; omega
          have p_g_P : ∀ k, Value.ownBlock (.slice tg.A tg.n tg.c) = some k → k ≠ bP := fun k h1 e => by have a1 := (og.lt k h1).1; have a2 := BP.lt; omega
          have z0 := hR.lt
          replace og := Own.mono (lo' := (w.heap.size + 1 + 1)) og (by omega)
          replace hB := hB.ext hx
          replace hR := hR.ext hx
          replace ox := ox.ext hx
          replace oy := oy.ext hx
          replace BP := BP.ext hx
          replace hX := hX.trans hx
          refine hK _ _ ⟨fun _ => hB.c3, ?_⟩
          clear hK K hx z0
          revert p_y_P; revert p_x_P; revert p_g_P; revert p_x_y; revert p_g_y; revert p_g_x; revert lP; revert BP; revert oy; revert ox; revert og; revert hR; revert hB; revert hX; revert bP; revert ty; revert tx; revert tg; revert w_11n
          clear w_10
          exact ?ne_13
          go_simp
          have hx := (Ext.refl w_10).alloc (.cells #[.int .i64 x] 2)
          have BF := Blk.new w_10 2 (#[.int .i64 x])
          obtain ⟨bF, hb⟩ : ∃ b, b = w_10.heap.size := ⟨_, rfl⟩
          generalize hw : World.alloc w_10 (.cells #[.int .i64 x] 2) = w_11n at hx BF ⊢
          rw [← hb] at BF ⊢
          have lF : (w.heap.size + 1 + 1) ≤ bF := by have := hR.lt; omega
          have p_x_F : ∀ k, Value.ownBlock (.slice tx.A tx.n tx.c) = some k → k ≠ bF := fun k h1 e => by have a1 := (ox.lt k h1).2; omega
          have p_y_F : ∀ k, Value.ownBlock (.slice ty.A ty.n ty.c) = some k → k ≠ bF := fun k h1 e => by have a1 := (oy.lt k h1).2; omega
          have p_F_P : bF ≠ bP := by have := BP.lt; omega
          replace hB := hB.ext hx
          replace hR := hR.ext hx
          replace ox := ox.ext hx
          replace oy := oy.ext hx
          replace BP := BP.ext hx
          replace hX := hX.trans hx
          refine hK _ _ ⟨fun _ => hB.c3, ?_⟩
          clear hK K hx hb hw
          revert p_F_P; revert p_y_P; revert p_y_F; revert p_x_P; revert p_x_F; revert p_x_y; revert lP; revert lF; revert BP; revert BF; revert oy; revert ox; revert hR; revert hB; revert hX; revert bP; revert bF; revert ty; revert tx; revert w_11n
          clear w_10
          exact ?ne_14
          -- nd_11
          intro w_10 tx bF bP hX hB hR ox BF BP lF lP p_x_F p_x_P p_F_P
          refine wpAnyT_go (i := 5) rfl (by kernel_rfl) fun K hK => ?_
          go_simp
          go_at_call 62
          refine (spec.l01Own_any ⟨some ⟨b2, off2, none⟩, n2, c2⟩ l.y _ (ry.ext hX)).mono ?_
          rintro e w_11n ⟨ty, rfl, oy, hx⟩
          go_simp
          have p_x_y : apart (.slice tx.A tx.n tx.c) (.slice ty.A ty.n ty.c) := fun k h1 h2 => by have a1 := (ox.lt k h1).2; have a2 := (oy.lt k h2).1; omega
          have p_y_F : ∀ k, Value.ownBlock (.slice ty.A ty.n ty.c) = some k → k ≠ bF := fun k h1 e => by have a1 := (oy.lt k h1).1; have a2 := BF.lt; omega
          have p_y_P : ∀ k, Value.ownBlock (.slice ty.A ty.n ty.c) = some k → k ≠ bP := fun k h1 e => by have a1 := (oy.lt k h1).1; have a2 := BP.lt; omega
          have z0 := hR.lt
          replace oy := Own.mono (lo' := (w.heap.size + 1 + 1)) oy (by omega)
          replace hB := hB.ext hx
          replace hR := hR.ext hx
          replace ox := ox.ext hx
          replace BF := BF.ext hx
          replace BP := BP.ext hx
          replace hX := hX.trans hx
          refine hK _ _ ⟨fun _ => hB.c3, ?_⟩
          clear hK K hx z0
          revert p_F_P; revert p_y_P; revert p_y_F; revert p_x_P; revert p_x_F; revert p_x_y; revert lP; revert lF; revert BP; revert BF; revert oy; revert ox; revert hR; revert hB; revert hX; revert bP; revert bF; revert ty; revert tx; revert w_11n
          clear w_10
          exact ?ne_14
          -- nd_12
          intro w_11 tg tx ty bF hX hB hR og ox oy BF lF p_g_x p_g_y p_x_y p_g_F p_x_F p_y_F
          refine wpAnyT_go2 (i := 11) (j := 13) rfl rfl (by kernel_rfl) (fun K hK => ?_) (fun K hK => ?_)
          refine step_app _ rfl (.tmp 41) (.tmp 43) rfl _ _ _ rfl og _ _ _ [x] rfl BF.rd1 (by have := hbd3.out; omega) (by have := hR.lt; omega) ?_
          intro tz w_12n oz hg hb
          have gb : ∀ k, Value.ownBlock (.slice tz.A tz.n tz.c) = some k → Value.ownBlock (.slice tg.A tg.n tg.c) = some k ∨ k = w_11.heap.size := (fun k hk => by rcases hb with h | h; exact Or.inl (h.symm.trans hk); exact Or.inr (by rw [h] at hk; injection hk with hk; exact hk.symm))
          have p_x_z : apart (.slice tx.A tx.n tx.c) (.slice tz.A tz.n tz.c) := fun k h1 h2 => by rcases gb k h2 with h | h; exact p_g_x k h h1; (have := (ox.lt k h1).2; omega)
          have p_y_z : apart (.slice ty.A ty.n ty.c) (.slice tz.A tz.n tz.c) := fun k h1 h2 => by rcases gb k h2 with h | h; exact p_g_y k h h1; (have := (oy.lt k h1).2; omega)
          have p_z_F : ∀ k, Value.ownBlock (.slice tz.A tz.n tz.c) = some k → k ≠ bF := fun k h1 e => by rcases gb k h1 with h | h; exact p_g_F k h e; (have := BF.lt; omega)
          replace hB := hB.fr (Fr.of_grown hg) (fun e => by have := (og.lt _ e).1; omega)
          replace hR := hR.fr (Fr.of_grown hg) (fun e => by have := (og.lt _ e).1; omega)
          replace ox := ox.fr (Fr.of_grown hg) (fun k h1 h2 => p_g_x k h2 h1)
          replace oy := oy.fr (Fr.of_grown hg) (fun k h1 h2 => p_g_y k h2 h1)
          replace BF := BF.fr (Fr.of_grown hg) (fun e => p_g_F _ e rfl)
          replace hX := hX.grow hg (fun k hk => by have := (og.lt k hk).1; omega)
          refine hK _ _ ⟨fun _ => hB.c3, ?_⟩
          clear hK K hg hb gb
          clear p_g_x p_g_y p_g_F og
          have kk := hB.c3
          refine wpAnyT_takeL (i := 12) 6 (v := ?_) rfl (by kernel_rfl) (by kernel_rfl) (by kernel_rfl) (by kernel_rfl) (by kernel_rfl) (fun _ _ _ h => h) (Or.inl ⟨by rfl, ?_⟩) kk ?_
          rotate_left 1
          · (intro W hSw; (try dsimp only at hSw); go_simp) <;> with_reducible rfl
          clear kk
          try simp only [Act.put, List.setIfInBounds_toArray, List.set_cons_zero, List.set_cons_succ]
          revert p_z_F; revert p_y_F; revert p_x_F; revert p_y_z; revert p_x_z; revert p_x_y; revert lF; revert BF; revert oz; revert oy; revert ox; revert hR; revert hB; revert hX; revert bF; revert tg; revert tz; revert ty; revert tx; revert w_12n
          clear w_11
          refine ?ne_15
          rotate_left 1
          go_simp
          have hx := (Ext.refl w_11).alloc (.cells #[.slice none 0 0, .slice none 0 0, .slice none 0 0] 30)
          have BP := Blk.new w_11 30 (#[.slice none 0 0, .slice none 0 0, .slice none 0 0])
          obtain ⟨bP, hb⟩ : ∃ b, b = w_11.heap.size := ⟨_, rfl⟩
          generalize hw : World.alloc w_11 (.cells #[.slice none 0 0, .slice none 0 0, .slice none 0 0] 30) = w_12n at hx BP ⊢
          rw [← hb] at BP ⊢
          have lP : (w.heap.size + 1 + 1) ≤ bP := by have := hR.lt; omega
          have p_g_P : ∀ k, Value.ownBlock (.slice tg.A tg.n tg.c) = some k → k ≠ bP := fun k h1 e => by have a1 := (og.lt k h1).2; omega
          have p_x_P : ∀ k, Value.ownBlock (.slice tx.A tx.n tx.c) = some k → k ≠ bP := fun k h1 e => by have a1 := (ox.lt k h1).2; omega
          have p_y_P : ∀ k, Value.ownBlock (.slice ty.A ty.n ty.c) = some k → k ≠ bP := fun k h1 e => by have a1 := (oy.lt k h1).2; omega
          have p_F_P : bF ≠ bP := by have := BF.lt; omega
          replace hB := hB.ext hx
          replace hR := hR.ext hx
          replace og := og.ext hx
          replace ox := ox.ext hx
          replace oy := oy.ext hx
          replace BF := BF.ext hx
          replace hX := hX.trans hx
          refine hK _ _ ⟨fun _ => hB.c3, ?_⟩
          clear hK K hx hb hw
          revert p_F_P; revert p_y_P; revert p_y_F; revert p_x_P; revert p_x_F; revert p_g_P; revert p_g_F; revert p_x_y; revert p_g_y; revert p_g_x; revert lP; revert lF; revert BP; revert BF; revert oy; revert ox; revert og; revert hR; revert hB; revert hX; revert bP; revert bF; revert ty; revert tx; revert tg; revert w_12n
          clear w_11
          refine ?ne_16
          rotate_left 1
          -- nd_13
          intro w_11 tg tx ty bP hX hB hR og ox oy BP lP p_g_x p_g_y p_x_y p_g_P p_x_P p_y_P
          refine wpAnyT_go (i := 10) rfl (by kernel_rfl) fun K hK => ?_
          go_simp
          have hx := (Ext.refl w_11).alloc (.cells #[.int .i64 x] 2)
          have BF := Blk.new w_11 2 (#[.int .i64 x])
          obtain ⟨bF, hb⟩ : ∃ b, b = w_11.heap.size := ⟨_, rfl⟩
          generalize hw : World.alloc w_11 (.cells #[.int .i64 x] 2) = w_12n at hx BF ⊢
          rw [← hb] at BF ⊢
          have lF : (w.heap.size + 1 + 1) ≤ bF := by have := hR.lt; omega
          have p_g_F : ∀ k, Value.ownBlock (.slice tg.A tg.n tg.c) = some k → k ≠ bF := fun k h1 e => by have a1 := (og.lt k h1).2; omega
          have p_x_F : ∀ k, Value.ownBlock (.slice tx.A tx.n tx.c) = some k → k ≠ bF := fun k h1 e => by have a1 := (ox.lt k h1).2; omega
          have p_y_F : ∀ k, Value.ownBlock (.slice ty.A ty.n ty.c) = some k → k ≠ bF := fun k h1 e => by have a1 := (oy.lt k h1).2; omega
          have p_F_P : bF ≠ bP := by have := BP.lt; omega
          replace hB := hB.ext hx
          replace hR := hR.ext hx
          replace og := og.ext hx
          replace ox := ox.ext hx
          replace oy := oy.ext hx
          replace BP := BP.ext hx
          replace hX := hX.trans hx
          refine hK _ _ ⟨fun _ => hB.c3, ?_⟩
          clear hK K hx hb hw
          revert p_F_P; revert p_y_P; revert p_y_F; revert p_x_P; revert p_x_F; revert p_g_P; revert p_g_F; revert p_x_y; revert p_g_y; revert p_g_x; revert lP; revert lF; revert BP; revert BF; revert oy; revert ox; revert og; revert hR; revert hB; revert hX; revert bP; revert bF; revert ty; revert tx; revert tg; revert w_12n
          clear w_11
          exact ?ne_16
          -- nd_14
          intro w_11 tx ty bF bP hX hB hR ox oy BF BP lF lP p_x_y p_x_F p_x_P p_y_F p_y_P p_F_P
          refine wpAnyT_go (i := 8) rfl (by kernel_rfl) fun K hK => ?_
          go_simp
          go_at_call 62
          refine (spec.l01Own_any ⟨A3, n3, c3⟩ l.z _ (rz.ext hX)).mono ?_
          rintro e w_12n ⟨tg, rfl, og, hx⟩
          go_simp
          have p_g_x : apart (.slice tg.A tg.n tg.c) (.slice tx.A tx.n tx.c) := fun k h1 h2 => by have a1 := (ox.lt k h2).2; have a2 := (og.lt k h1).1; omega
          have p_g_y : apart (.slice tg.A tg.n tg.c) (.slice ty.A ty.n ty.c) := fun k h1 h2 => by have a1 := (oy.lt k h2).2; have a2 := (og.lt k h1).1; omega
          have p_g_F : ∀ k, Value.ownBlock (.slice tg.A tg.n tg.c) = some k → k ≠ bF := fun k h1 e => by have a1 := (og.lt k h1).1; have a2 := BF.lt; omega
          have p_g_P : ∀ k, Value.ownBlock (.slice tg.A tg.n tg.c) = some k → k ≠ bP := fun k h1 e => by have a1 := (og.lt k h1).1; have a2 := BP.lt; omega
          have z0 := hR.lt
          replace og := Own.mono (lo' := (w.heap.size + 1 + 1)) og (by omega)
          replace hB := hB.ext hx
          replace hR := hR.ext hx
          replace ox := ox.ext hx
          replace oy := oy.ext hx
          replace BF := BF.ext hx
          replace BP := BP.ext hx
          replace hX := hX.trans hx
          refine hK _ _ ⟨fun _ => hB.c3, ?_⟩
          clear hK K hx z0
          revert p_F_P; revert p_y_P; revert p_y_F; revert p_x_P; revert p_x_F; revert p_g_P; revert p_g_F; revert p_x_y; revert p_g_y; revert p_g_x; revert lP; revert lF; revert BP; revert BF; revert oy; revert ox; revert og; revert hR; revert hB; revert hX; revert bP; revert bF; revert ty; revert tx; revert tg; revert w_12n
          clear w_11
          exact ?ne_16
          -- nd_15
          intro w_13 tx ty tz tg bF hX hB hR ox oy oz BF lF p_x_y p_x_z p_y_z p_x_F p_y_F p_z_F
          refine wpAnyT_go (i := 13) rfl (by kernel_rfl) fun K hK => ?_
          go_simp
          have hx := (Ext.refl w_13).alloc (.cells #[.slice none 0 0, .slice none 0 0, .slice none 0 0] 30)
          have BP := Blk.new w_13 30 (#[.slice none 0 0, .slice none 0 0, .slice none 0 0])
          obtain ⟨bP, hb⟩ : ∃ b, b = w_13.heap.size := ⟨_, rfl⟩
          generalize hw : World.alloc w_13 (.cells #[.slice none 0 0, .slice none 0 0, .slice none 0 0] 30) = w_14n at hx BP ⊢
          rw [← hb] at BP ⊢
          have lP : (w.heap.size + 1 + 1) ≤ bP := by have := hR.lt; omega
          have p_x_P : ∀ k, Value.ownBlock (.slice tx.A tx.n tx.c) = some k → k ≠ bP := fun k h1 e => by have a1 := (ox.lt k h1).2; omega
          have p_y_P : ∀ k, Value.ownBlock (.slice ty.A ty.n ty.c) = some k → k ≠ bP := fun k h1 e => by have a1 := (oy.lt k h1).2; omega
          have p_z_P : ∀ k, Value.ownBlock (.slice tz.A tz.n tz.c) = some k → k ≠ bP := fun k h1 e => by have a1 := (oz.lt k h1).2; omega
          have p_F_P : bF ≠ bP := by have := BF.lt; omega
          replace hB := hB.ext hx
          replace hR := hR.ext hx
          replace ox := ox.ext hx
          replace oy := oy.ext hx
          replace oz := oz.ext hx
          replace BF := BF.ext hx
          replace hX := hX.trans hx
          refine hK _ _ ⟨fun _ => hB.c3, ?_⟩
          clear hK K hx hb hw
          revert p_F_P; revert p_z_P; revert p_z_F; revert p_y_P; revert p_y_F; revert p_x_P; revert p_x_F; revert p_y_z; revert p_x_z; revert p_x_y; revert lP; revert lF; revert BP; revert BF; revert oz; revert oy; revert ox; revert hR; revert hB; revert hX; revert bP; revert bF; revert tg; revert tz; revert ty; revert tx; revert w_14n
          clear w_13
          refine ?ne_17
          rotate_left 1
          -- nd_16
          intro w_12 tg tx ty bF bP hX hB hR og ox oy BF BP lF lP p_g_x p_g_y p_x_y p_g_F p_g_P p_x_F p_x_P p_y_F p_y_P p_F_P
          refine wpAnyT_go (i := 11) rfl (by kernel_rfl) fun K hK => ?_
          refine step_app _ rfl (.tmp 41) (.tmp 43) rfl _ _ _ rfl og _ _ _ [x] rfl BF.rd1 (by have := hbd3.out; omega) (by have := hR.lt; omega) ?_
          intro tz w_13n oz hg hb
          have gb : ∀ k, Value.ownBlock (.slice tz.A tz.n tz.c) = some k → Value.ownBlock (.slice tg.A tg.n tg.c) = some k ∨ k = w_12.heap.size := (fun k hk => by rcases hb with h | h; exact Or.inl (h.symm.trans hk); exact Or.inr (by rw [h] at hk; injection hk with hk; exact hk.symm))
          have p_x_z : apart (.slice tx.A tx.n tx.c) (.slice tz.A tz.n tz.c) := fun k h1 h2 => by rcases gb k h2 with h | h; exact p_g_x k h h1; (have := (ox.lt k h1).2; omega)
          have p_y_z : apart (.slice ty.A ty.n ty.c) (.slice tz.A tz.n tz.c) := fun k h1 h2 => by rcases gb k h2 with h | h; exact p_g_y k h h1; (have := (oy.lt k h1).2; omega)
          have p_z_F : ∀ k, Value.ownBlock (.slice tz.A tz.n tz.c) = some k → k ≠ bF := fun k h1 e => by rcases gb k h1 with h | h; exact p_g_F k h e; (have := BF.lt; omega)
          have p_z_P : ∀ k, Value.ownBlock (.slice tz.A tz.n tz.c) = some k → k ≠ bP := fun k h1 e => by rcases gb k h1 with h | h; exact p_g_P k h e; (have := BP.lt; omega)
          replace hB := hB.fr (Fr.of_grown hg) (fun e => by have := (og.lt _ e).1; omega)
          replace hR := hR.fr (Fr.of_grown hg) (fun e => by have := (og.lt _ e).1; omega)
          replace ox := ox.fr (Fr.of_grown hg) (fun k h1 h2 => p_g_x k h2 h1)
          replace oy := oy.fr (Fr.of_grown hg) (fun k h1 h2 => p_g_y k h2 h1)
          replace BF := BF.fr (Fr.of_grown hg) (fun e => p_g_F _ e rfl)
          replace BP := BP.fr (Fr.of_grown hg) (fun e => p_g_P _ e rfl)
          replace hX := hX.grow hg (fun k hk => by have := (og.lt k hk).1; omega)
          refine hK _ _ ⟨fun _ => hB.c3, ?_⟩
          clear hK K hg hb gb
          clear p_g_x p_g_y p_g_F p_g_P og
          have kk := hB.c3
          refine wpAnyT_takeL (i := 12) 6 (v := ?_) rfl (by kernel_rfl) (by kernel_rfl) (by kernel_rfl) (by kernel_rfl) (by kernel_rfl) (fun _ _ _ h => h) (Or.inl ⟨by rfl, ?_⟩) kk ?_
          rotate_left 1
          · (intro W hSw; (try dsimp only at hSw); go_simp) <;> with_reducible rfl
          clear kk
          try simp only [Act.put, List.setIfInBounds_toArray, List.set_cons_zero, List.set_cons_succ]
          revert p_F_P; revert p_z_P; revert p_z_F; revert p_y_P; revert p_y_F; revert p_x_P; revert p_x_F; revert p_y_z; revert p_x_z; revert p_x_y; revert lP; revert lF; revert BP; revert BF; revert oz; revert oy; revert ox; revert hR; revert hB; revert hX; revert bP; revert bF; revert tg; revert tz; revert ty; revert tx; revert w_13n
          clear w_12
          exact ?ne_17
          -- nd_17
          intro w_14 tx ty tz tg bF bP hX hB hR ox oy oz BF BP lF lP p_x_y p_x_z p_y_z p_x_F p_x_P p_y_F p_y_P p_z_F p_z_P p_F_P
          refine wpAnyT_go (i := 14) rfl (by kernel_rfl) fun K hK => ?_
          obtain ⟨q0, q1, q2, q3, q4, q5⟩ := res3 BP
          go_simp
          refine hK _ _ ⟨fun h => absurd rfl h, ?_⟩
          clear hK K
          refine wpAnyT_done (by kernel_rfl) ?_ _
          go_wp2_with fail
          go_meet
          have hlen : tx.n + (ty.n + tz.n) ≤ 2097152 := by
            have e1 := ox.rd.1
            have e2 := oy.rd.1
            have e3 := oz.rd.1
            rw [List.length_append, List.length_singleton] at e3
            have h1 := hlx.out
            have h2 := hly.out
            have h3 := hlz.out
            have h4 := hsm.out
            have h5 := hly2.out
            omega
          have n1' : Value.ownBlock (.slice tx.A tx.n tx.c) ≠ some bP := fun e => p_x_P _ e rfl
          have n2' : Value.ownBlock (.slice ty.A ty.n ty.c) ≠ some bP := fun e => p_y_P _ e rfl
          have n3' : Value.ownBlock (.slice tz.A tz.n tz.c) ≠ some bP := fun e => p_z_P _ e rfl
          exact ⟨bP, ⟨tx, ty, tz⟩, rfl, ((BP.set_ 0 _).set_ 1 _).set_ 2 _, ⟨((ox.away n1' 0 _).away n1' 1 _).away n1' 2 _, ((oy.away n2' 0 _).away n2' 1 _).away n2' 2 _, ((oz.away n3' 0 _).away n3' 1 _).away n3' 2 _, hlen, p_x_y, p_x_z, p_y_z⟩,
            ((hX.off bP 0 (by omega) _).off bP 1 (by omega) _).off bP 2 (by omega) _, ((hB.off bP 0 (by omega) _).off bP 1 (by omega) _).off bP 2 (by omega) _, ((hR.off bP 0 (by omega) _).off bP 1 (by omega) _).off bP 2 (by omega) _, lP, fun k hk => Or.elim hk (fun h => p_x_P k h) (fun h => Or.elim h (fun h => p_y_P k h) (fun h => p_z_P k h))⟩
        case rest =>
          obtain ⟨g, ⟨s1, s2, s3⟩, rfl, hO, h3, hX, hB, hR, hg, ha⟩ := hcut
          obtain ⟨o1, o2, o3, htot, a12, a13, a23⟩ := h3
          simp only at o1 o2 o3 htot a12 a13 a23 hO
          have ha1 : ∀ j, Value.ownBlock (.slice s1.A s1.n s1.c) = some j → j ≠ g := fun j h => ha j (.inl h)
          have ha3 : ∀ j, Value.ownBlock (.slice s3.A s3.n s3.c) = some j → j ≠ g := fun j h => ha j (.inr (.inr h))
          go_upto_region 66 with fail
          replace hO := hO.drew
          replace hX := hX.drew
          replace hB := hB.drew
          replace hR := hR.drew
          replace o1 := o1.drew
          replace o3 := o3.drew
          refine wp_region_sink (S := fun w' => w'.cell? ⟨w.heap.size, 0, none⟩ = some (.slice A1 n1 c1) ∧ w'.cell? ⟨w.heap.size, 1, none⟩ = some (.slice (some ⟨b2, off2, none⟩) n2 c2) ∧ w'.cell? ⟨w.heap.size, 2, none⟩ = some (.slice A3 n3 c3)) 12 (by kernel_rfl) ?_
          change wpAnyT _ _ _ _ _ _ _ _ _ (World.drew _)
          generalize hwd : World.drew _ = wh at hO hX hB hR o1 o3 ⊢
          clear hwd
          have kk := hB.c3
          refine wpAnyT_takeL (i := 0) 6 (v := ?_) rfl (by kernel_rfl) (by kernel_rfl) (by kernel_rfl) (by kernel_rfl) (by kernel_rfl) (fun _ _ _ h => h) (Or.inl ⟨by rfl, ?_⟩) kk ?_
          rotate_left 1
          · (intro W hSw; (try dsimp only at hSw); go_simp) <;> with_reducible rfl
          try simp only [Act.put, List.setIfInBounds_toArray, List.set_cons_zero, List.set_cons_succ]
          refine wpAnyT_takeL (i := 1) 6 (v := ?_) rfl (by kernel_rfl) (by kernel_rfl) (by kernel_rfl) (by kernel_rfl) (by kernel_rfl) (fun _ _ _ h => h) (Or.inl ⟨by rfl, ?_⟩) kk ?_
          rotate_left 1
          · (intro W hSw; (try dsimp only at hSw); go_simp) <;> with_reducible rfl
          try simp only [Act.put, List.setIfInBounds_toArray, List.set_cons_zero, List.set_cons_succ]
          refine wpAnyT_takeL (i := 2) 6 (v := ?_) rfl (by kernel_rfl) (by kernel_rfl) (by kernel_rfl) (by kernel_rfl) (by kernel_rfl) (fun _ _ _ h => h) (Or.inl ⟨by rfl, ?_⟩) kk ?_
          rotate_left 1
          · (intro W hSw; (try dsimp only at hSw); go_simp) <;> with_reducible rfl
          try simp only [Act.put, List.setIfInBounds_toArray, List.set_cons_zero, List.set_cons_succ]
          refine wpAnyT_takeL (i := 3) 6 (v := ?_) rfl (by kernel_rfl) (by kernel_rfl) (by kernel_rfl) (by kernel_rfl) (by kernel_rfl) (fun _ _ _ h => h) (Or.inl ⟨by rfl, ?_⟩) kk ?_
          rotate_left 1
          · intro W _; (refine (run_to W (.tmp 67) (.tmp 68) ?_ b2 off2 n2 c2 ?_ k ?_ hac)); all_goals rfl
          try simp only [Act.put, List.setIfInBounds_toArray, List.set_cons_zero, List.set_cons_succ]
          refine wpAnyT_takeL (i := 5) 6 (v := ?_) rfl (by kernel_rfl) (by kernel_rfl) (by kernel_rfl) (by kernel_rfl) (by kernel_rfl) (fun _ _ _ h => h) (Or.inl ⟨by rfl, ?_⟩) kk ?_
          rotate_left 1
          · (intro W hSw; (try dsimp only at hSw); go_simp) <;> with_reducible rfl
          try simp only [Act.put, List.setIfInBounds_toArray, List.set_cons_zero, List.set_cons_succ]
          refine wpAnyT_takeL (i := 6) 6 (v := ?_) rfl (by kernel_rfl) (by kernel_rfl) (by kernel_rfl) (by kernel_rfl) (by kernel_rfl) (fun _ _ _ h => h) (Or.inl ⟨by rfl, ?_⟩) kk ?_
          rotate_left 1
          · (intro W hSw; (try dsimp only at hSw); go_simp) <;> with_reducible rfl
          try simp only [Act.put, List.setIfInBounds_toArray, List.set_cons_zero, List.set_cons_succ]
          refine wpAnyT_takeL (i := 7) 6 (v := ?_) rfl (by kernel_rfl) (by kernel_rfl) (by kernel_rfl) (by kernel_rfl) (by kernel_rfl) (fun _ _ _ h => h) (Or.inl ⟨by rfl, ?_⟩) kk ?_
          rotate_left 1
          · (intro W hSw; (try dsimp only at hSw); go_simp) <;> with_reducible rfl
          try simp only [Act.put, List.setIfInBounds_toArray, List.set_cons_zero, List.set_cons_succ]
          refine wpAnyT_takeL (i := 8) 6 (v := ?_) rfl (by kernel_rfl) (by kernel_rfl) (by kernel_rfl) (by kernel_rfl) (by kernel_rfl) (fun _ _ _ h => h) (Or.inl ⟨by rfl, ?_⟩) kk ?_
          rotate_left 1
          · (intro W hSw; (try dsimp only at hSw); go_simp) <;> with_reducible rfl
          try simp only [Act.put, List.setIfInBounds_toArray, List.set_cons_zero, List.set_cons_succ]
          refine wpAnyT_takeL (i := 9) 6 (v := ?_) rfl (by kernel_rfl) (by kernel_rfl) (by kernel_rfl) (by kernel_rfl) (by kernel_rfl) (fun _ _ _ h => h) (Or.inl ⟨by rfl, ?_⟩) kk ?_
          rotate_left 1
          · intro W _; (refine (run_from W (.tmp 72) (.tmp 74) ?_ (some ⟨b2, off2, none⟩) n2 c2 ?_ k1 ?_ hac1)); all_goals rfl
          try simp only [Act.put, List.setIfInBounds_toArray, List.set_cons_zero, List.set_cons_succ]
          refine wpAnyT_go (i := 4) rfl (by kernel_rfl) fun K hK => ?_
          go_simp
          go_at_call 62
          refine (spec.l01Own_any ⟨some ⟨b2, off2, none⟩, k, c2⟩ (l.y.take k) _ ((ry.ext hX).take hac0)).mono ?_
          rintro e wb ⟨tb, rfl, ob, hx⟩
          go_simp
          have zb := hO.lt
          have pb1 : apart (.slice s1.A s1.n s1.c) (.slice tb.A tb.n tb.c) := fun j h1 h2 => by have a1 := (o1.lt j h1).2; have a2 := (ob.lt j h2).1; omega
          have pb3 : apart (.slice tb.A tb.n tb.c) (.slice s3.A s3.n s3.c) := fun j h1 h2 => by have a1 := (o3.lt j h2).2; have a2 := (ob.lt j h1).1; omega
          have pbg : ∀ j, Value.ownBlock (.slice tb.A tb.n tb.c) = some j → j ≠ g := fun j h1 e => by have a2 := (ob.lt j h1).1; omega
          have z0 := hR.lt
          replace ob := Own.mono (lo' := w.heap.size + 1 + 1) ob (by omega)
          replace hO := hO.ext hx
          replace o1 := o1.ext hx
          replace o3 := o3.ext hx
          replace hB := hB.ext hx
          replace hR := hR.ext hx
          replace hX := hX.trans hx
          refine hK _ _ ⟨fun _ => hB.c3, ?_⟩
          clear hK K kk
          refine wpAnyT_go (i := 10) rfl (by kernel_rfl) fun K hK => ?_
          refine step_app _ rfl (.tmp 70) (.tmp 75) rfl _ _ _ rfl ob _ _ _ (l.y.drop k1) rfl (Rd.from_ _ (ry.ext hX) hac1 hc21) (by have := hbd1.out; omega) (by have := hR.lt; omega) ?_
          intro tc wc oc hg' hb'
          have gb : ∀ j, Value.ownBlock (.slice tc.A tc.n tc.c) = some j → Value.ownBlock (.slice tb.A tb.n tb.c) = some j ∨ j = wb.heap.size := (fun j hk => by rcases hb' with h | h; exact Or.inl (h.symm.trans hk); exact Or.inr (by rw [h] at hk; injection hk with hk; exact hk.symm))
          have pc1 : apart (.slice s1.A s1.n s1.c) (.slice tc.A tc.n tc.c) := fun j h1 h2 => by rcases gb j h2 with h | h; exact pb1 j h1 h; (have := (o1.lt j h1).2; omega)
          have pc3 : apart (.slice tc.A tc.n tc.c) (.slice s3.A s3.n s3.c) := fun j h1 h2 => by rcases gb j h1 with h | h; exact pb3 j h h2; (have := (o3.lt j h2).2; omega)
          have pcg : ∀ j, Value.ownBlock (.slice tc.A tc.n tc.c) = some j → j ≠ g := fun j h1 e => by rcases gb j h1 with h | h; exact pbg j h e; (have := hO.lt; omega)
          replace hO := hO.fr (Fr.of_grown hg') (fun e => pbg _ e rfl)
          replace hB := hB.fr (Fr.of_grown hg') (fun e => by have := (ob.lt _ e).1; omega)
          replace hR := hR.fr (Fr.of_grown hg') (fun e => by have := (ob.lt _ e).1; omega)
          replace o1 := o1.fr (Fr.of_grown hg') (fun j h1 h2 => pb1 j h1 h2)
          replace o3 := o3.fr (Fr.of_grown hg') (fun j h1 h2 => pb3 j h2 h1)
          replace hX := hX.grow hg' (fun j hk => by have := (ob.lt j hk).1; omega)
          refine hK _ _ ⟨fun _ => hB.c3, ?_⟩
          clear hK K
          have kk := hB.c3
          refine wpAnyT_takeL (i := 11) 6 (v := ?_) rfl (by kernel_rfl) (by kernel_rfl) (by kernel_rfl) (by kernel_rfl) (by kernel_rfl) (fun _ _ _ h => h) (Or.inl ⟨by rfl, ?_⟩) kk ?_
          rotate_left 1
          · (intro W hSw; (try dsimp only at hSw); go_simp) <;> with_reducible rfl
          try simp only [Act.put, List.setIfInBounds_toArray, List.set_cons_zero, List.set_cons_succ]
          refine wpAnyT_go (i := 12) rfl (by kernel_rfl) fun K hK => ?_
          have u0 := hO.frozen 1
          obtain ⟨v0, v1, v2⟩ := hO.c3
          go_simp
          refine hK _ _ ⟨fun h => absurd rfl h, ?_⟩
          clear hK K
          refine wpAnyT_done (by kernel_rfl) ?_ _
          clear v0 v1 v2
          have hO2 := hO.set_ 1 (.slice tc.A tc.n tc.c)
          have hB2 := hB.off g 1 (by omega) (.slice tc.A tc.n tc.c)
          have hR2 := hR.off g 1 (by omega) (.slice tc.A tc.n tc.c)
          have hX2 := hX.off g 1 (by omega) (.slice tc.A tc.n tc.c)
          have y1_ := o1.away (g := g) (fun e => ha1 _ e rfl) 1 (.slice tc.A tc.n tc.c)
          have y2_ := oc.away (g := g) (fun e => pcg _ e rfl) 1 (.slice tc.A tc.n tc.c)
          have y3_ := o3.away (g := g) (fun e => ha3 _ e rfl) 1 (.slice tc.A tc.n tc.c)
          obtain ⟨v0, v1, v2⟩ := hO2.c3
          have hlen : s1.n + (tc.n + s3.n) ≤ 2097152 := by
            have d1_ := y1_.rd.1
            have d2 := y2_.rd.1
            have d3 := y3_.rd.1
            rw [List.length_append, List.length_take, List.length_drop] at d2
            rw [List.length_append, List.length_singleton] at d3
            have h4 := hsm.out
            skip
            omega
          have h7 : Own3 _ (w.heap.size + 1 + 1) ⟨s1, tc, s3⟩ ⟨l.x, l.y.take k ++ l.y.drop k1, l.z ++ [x]⟩ := ⟨y1_, y2_, y3_, hlen, pc1, a13, pc3⟩
          clear kk
          obtain ⟨r0, r1, r2, r3, r4, r5⟩ := res3 hR2
          go_wp2_with fail
          have hRn := ((hR2.set_ 0 (.slice s1.A s1.n s1.c)).set_ 1 (.slice tc.A tc.n tc.c)).set_ 2 (.slice s3.A s3.n s3.c)
          obtain ⟨n0, n1', n2'⟩ := hRn.c3
          refine bodyPost_ret (v := .tuple #[.agg #[.slice (⟨s1, tc, s3⟩ : S3).x.A (⟨s1, tc, s3⟩ : S3).x.n (⟨s1, tc, s3⟩ : S3).x.c, .slice (⟨s1, tc, s3⟩ : S3).y.A (⟨s1, tc, s3⟩ : S3).y.n (⟨s1, tc, s3⟩ : S3).y.c, .slice (⟨s1, tc, s3⟩ : S3).z.A (⟨s1, tc, s3⟩ : S3).z.n (⟨s1, tc, s3⟩ : S3).z.c], .int .i64 0]) (by simp [results, Tryz.results63, go_sem, n0, n1', n2']) rfl ⟨(⟨s1, tc, s3⟩ : S3), by rw [E2.out], ?_, ((hX2.off (w.heap.size + 1) 0 (by omega) _).off (w.heap.size + 1) 1 (by omega) _).off (w.heap.size + 1) 2 (by omega) _⟩
          intro _
          rw [E1.out]
          exact Own3.mono (((h7.awayP (g := w.heap.size + 1) (by omega) 0 _).awayP (g := w.heap.size + 1) (by omega) 1 _).awayP (g := w.heap.size + 1) (by omega) 2 _) (by omega)
    · have hpl : plc l.y x = -1 := if_neg hmy
      rw [hpl] at hf2
      have E2 := hide (show lvC l x = 4 by unfold lvC; rw [if_neg (fun h => Or.elim h hmx hmy)])
      clear hpl hmx hmy
      go_enter Tryz.func63, Tryz.ntmps63
      go_upto_region 9 with fail
      rw [← hw1]
      clear hw1
      have hX := hX0.drew
      have hB := hB0.drew
      have hR := hR0.drew
      have hz1' : w.heap.size + 1 + 1 ≤ w1.drew.heap.size := Nat.le_of_eq hz1
      refine wp_region_sink (S := fun w' => w'.cell? ⟨w.heap.size, 0, none⟩ = some (.slice A1 n1 c1) ∧ w'.cell? ⟨w.heap.size, 1, none⟩ = some (.slice A2 n2 c2) ∧ w'.cell? ⟨w.heap.size, 2, none⟩ = some (.slice A3 n3 c3)) 9 (by kernel_rfl) ?_
      change wpAnyT _ _ _ _ _ _ _ _ _ (World.drew _)
      generalize hwd : World.drew w1 = wd at hX hB hR hz1' ⊢
      clear hwd
      have kk := hB.c3
      refine wpAnyT_takeL (i := 0) 6 (v := ?_) rfl (by kernel_rfl) (by kernel_rfl) (by kernel_rfl) (by kernel_rfl) (by kernel_rfl) (fun _ _ _ h => h) (Or.inl ⟨by rfl, ?_⟩) kk ?_
      rotate_left 1
      · (intro W hSw; (try dsimp only at hSw); go_simp) <;> with_reducible rfl
      try simp only [Act.put, List.setIfInBounds_toArray, List.set_cons_zero, List.set_cons_succ]
      refine wpAnyT_takeL (i := 1) 6 (v := ?_) rfl (by kernel_rfl) (by kernel_rfl) (by kernel_rfl) (by kernel_rfl) (by kernel_rfl) (fun _ _ _ h => h) (Or.inl ⟨by rfl, ?_⟩) kk ?_
      rotate_left 1
      · (intro W hSw; (try dsimp only at hSw); go_simp) <;> with_reducible rfl
      try simp only [Act.put, List.setIfInBounds_toArray, List.set_cons_zero, List.set_cons_succ]
      refine wpAnyT_takeL (i := 2) 6 (v := ?_) rfl (by kernel_rfl) (by kernel_rfl) (by kernel_rfl) (by kernel_rfl) (by kernel_rfl) (fun _ _ _ h => h) (Or.inl ⟨by rfl, ?_⟩) kk ?_
      rotate_left 1
      · (intro W hSw; (try dsimp only at hSw); go_simp) <;> with_reducible rfl
      try simp only [Act.put, List.setIfInBounds_toArray, List.set_cons_zero, List.set_cons_succ]
      refine wpAnyT_takeL (i := 4) 6 (v := ?_) rfl (by kernel_rfl) (by kernel_rfl) (by kernel_rfl) (by kernel_rfl) (by kernel_rfl) (fun _ _ _ h => h) (Or.inl ⟨by rfl, ?_⟩) kk ?_
      rotate_left 1
      · (intro W hSw; (try dsimp only at hSw); go_simp) <;> with_reducible rfl
      try simp only [Act.put, List.setIfInBounds_toArray, List.set_cons_zero, List.set_cons_succ]
      refine wpAnyT_takeL (i := 5) 6 (v := ?_) rfl (by kernel_rfl) (by kernel_rfl) (by kernel_rfl) (by kernel_rfl) (by kernel_rfl) (fun _ _ _ h => h) (Or.inl ⟨by rfl, ?_⟩) kk ?_
      rotate_left 1
      · (intro W hSw; (try dsimp only at hSw); go_simp) <;> with_reducible rfl
      try simp only [Act.put, List.setIfInBounds_toArray, List.set_cons_zero, List.set_cons_succ]
      refine wpAnyT_takeL (i := 6) 6 (v := ?_) rfl (by kernel_rfl) (by kernel_rfl) (by kernel_rfl) (by kernel_rfl) (by kernel_rfl) (fun _ _ _ h => h) (Or.inl ⟨by rfl, ?_⟩) kk ?_
      rotate_left 1
      · (intro W hSw; (try dsimp only at hSw); go_simp) <;> with_reducible rfl
      try simp only [Act.put, List.setIfInBounds_toArray, List.set_cons_zero, List.set_cons_succ]
      refine wpAnyT_go (i := 3) rfl (by kernel_rfl) fun K hK => ?_
      go_simp
      go_at_call 90
      refine (hf1 _ (rx.ext hX)).mono ?_
      rintro e w' ⟨rfl, rfl⟩
      go_simp
      refine hK _ _ ⟨fun _ => kk, ?_⟩
      clear hK K
      refine wpAnyT_go (i := 7) rfl (by kernel_rfl) fun K hK => ?_
      go_simp
      go_at_call 90
      refine (hf2 _ (ry.ext hX)).mono ?_
      rintro e w' ⟨rfl, rfl⟩
      go_simp
      refine hK _ _ ⟨fun _ => kk, ?_⟩
      clear hK K
      refine wpAnyT_takeL (i := 8) 6 (v := ?_) rfl (by kernel_rfl) (by kernel_rfl) (by kernel_rfl) (by kernel_rfl) (by kernel_rfl) (fun _ _ _ h => h) (Or.inl ⟨by rfl, ?_⟩) kk ?_
      rotate_left 1
      · (intro W hSw; (try dsimp only at hSw); go_simp) <;> with_reducible rfl
      try simp only [Act.put, List.setIfInBounds_toArray, List.set_cons_zero, List.set_cons_succ]
      refine wpAnyT_go (i := 9) rfl (by kernel_rfl) fun K hK => ?_
      go_simp
      refine hK _ _ ⟨fun h => absurd rfl h, ?_⟩
      clear hK K
      refine wpAnyT_done (by kernel_rfl) ?_ _
      obtain ⟨q0, q1, q2⟩ := hB.c3
      clear kk
      obtain ⟨r0, r1, r2, r3, r4, r5⟩ := res3 hR
      go_wp2_with fail
      have hRn := ((hR.set_ 0 (.slice A1 n1 c1)).set_ 1 (.slice A2 n2 c2)).set_ 2 (.slice A3 n3 c3)
      obtain ⟨n0, n1', n2'⟩ := hRn.c3
      refine bodyPost_ret (v := .tuple #[.agg #[.slice (⟨⟨A1, n1, c1⟩, ⟨A2, n2, c2⟩, ⟨A3, n3, c3⟩⟩ : S3).x.A (⟨⟨A1, n1, c1⟩, ⟨A2, n2, c2⟩, ⟨A3, n3, c3⟩⟩ : S3).x.n (⟨⟨A1, n1, c1⟩, ⟨A2, n2, c2⟩, ⟨A3, n3, c3⟩⟩ : S3).x.c, .slice (⟨⟨A1, n1, c1⟩, ⟨A2, n2, c2⟩, ⟨A3, n3, c3⟩⟩ : S3).y.A (⟨⟨A1, n1, c1⟩, ⟨A2, n2, c2⟩, ⟨A3, n3, c3⟩⟩ : S3).y.n (⟨⟨A1, n1, c1⟩, ⟨A2, n2, c2⟩, ⟨A3, n3, c3⟩⟩ : S3).y.c, .slice (⟨⟨A1, n1, c1⟩, ⟨A2, n2, c2⟩, ⟨A3, n3, c3⟩⟩ : S3).z.A (⟨⟨A1, n1, c1⟩, ⟨A2, n2, c2⟩, ⟨A3, n3, c3⟩⟩ : S3).z.n (⟨⟨A1, n1, c1⟩, ⟨A2, n2, c2⟩, ⟨A3, n3, c3⟩⟩ : S3).z.c], .int .i64 4]) (by simp [results, Tryz.results63, go_sem, n0, n1', n2']) rfl ⟨(⟨⟨A1, n1, c1⟩, ⟨A2, n2, c2⟩, ⟨A3, n3, c3⟩⟩ : S3), by rw [E2.out], ?_, ((hX.off (w.heap.size + 1) 0 (by omega) _).off (w.heap.size + 1) 1 (by omega) _).off (w.heap.size + 1) 2 (by omega) _⟩
      exact fun h => absurd (E2.out.symm.trans h) (by decide)
end Go.Proofs.YtofglgfjlbehmaaGreat.mem
