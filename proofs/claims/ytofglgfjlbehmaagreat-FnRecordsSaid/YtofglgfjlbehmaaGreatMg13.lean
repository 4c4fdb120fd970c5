/-
  Plain laws for records: the panel of a record that is as described is a panel, and the selection that begins on it is a selection.
  Contracts: the selection before the first move of a record, and the moves of a record.
-/
import Derived.Test.YtofglgfjlbehmaaGreatRp
import Derived.Test.YtofglgfjlbehmaaGreatPlayM
import Derived.Deep.RegionHeld3
namespace Go.Proofs.YtofglgfjlbehmaaGreat.mem
open Go.ChangeShapes Go.WideShapes Go.ChangeAt Go.RowKit

theorem swp_perm {o : List Int} {i k : Nat} (hi : i < o.length) (hk : k < o.length) : (swp o i k).Perm o := by
  unfold swp
  rw [List.getD_eq_getElem?_getD, List.getD_eq_getElem?_getD, List.getElem?_eq_getElem hi, List.getElem?_eq_getElem hk]
  exact List.set_set_perm hi hk
theorem shI_perm {n : Nat} {s : Int} (h0 : 0 ≤ s) (h1 : s < 2147483647) : ∀ i : Nat, i ≤ n - 1 → (shI n s i).1.Perm ((List.range n).map (fun (i : Nat) => (i : Int)))
  | 0, _ => List.Perm.refl _
  | i + 1, hi => by
    have ih := shI_perm (n := n) h0 h1 i (by omega)
    have hl := shI_len n s i
    have ho := off_bd (d := n - i) (nxt_bd (shI n s i).2).1 (nxt_bd (shI n s i).2).2 (show 0 < n - i by omega)
    exact (swp_perm (by omega) (by omega)).trans ih
theorem range_getD (xs : List Int) : ((List.range xs.length).map (fun (i : Nat) => (i : Int))).map (fun i => xs.getD i.toNat 0) = xs := by
  apply List.ext_getElem
  · simp
  · intro i h1 h2
    simp [List.getElem?_eq_getElem h2]
theorem rpL_perm {y : RecL} (h0 : 0 ≤ y.b) (h1 : y.b < 2147483647) : (rpL y).Perm y.p.x := by
  have h := (shI_perm h0 h1 (y.p.x.length - 1) (Nat.le_refl _)).map (fun i => y.p.x.getD i.toNat 0)
  rw [range_getD] at h
  exact h
theorem incB_lt {xs : List Int} (h : ∀ k, k < xs.length → upAt xs k = true) : ∀ (k j : Nat), k < xs.length → j < k → xs.getD j 0 < xs.getD k 0
  | 0, j, _, hj => absurd hj (by omega)
  | k + 1, j, hk, hj => by
    have hu := h (k + 1) hk
    unfold upAt at hu
    simp only [Bool.and_eq_true, Bool.or_eq_true, decide_eq_true_eq] at hu
    have h2 : xs.getD k 0 < xs.getD (k + 1) 0 := by
      rcases hu.2 with e | e
      · omega
      · exact e
    rcases Nat.lt_or_ge j k with hlt | hge
    · have := incB_lt h k j (by omega) hlt
      omega
    · obtain rfl : j = k := by omega
      exact h2
theorem incB_dist {xs : List Int} (h : incB xs = true) : distP xs := by
  have ha : ∀ k, k < xs.length → upAt xs k = true := fun k hk => by
    unfold incB at h
    rw [List.all_eq_true] at h
    exact h k (List.mem_range.2 hk)
  refine ⟨fun x hx => ?_, ?_⟩
  · obtain ⟨j, hj⟩ := List.mem_iff_getElem?.1 hx
    have hu := ha j (List.getElem?_eq_some_iff.1 hj).1
    unfold upAt at hu
    rw [Bool.and_eq_true, getD_of hj] at hu
    exact inB_iff.1 hu.1
  · refine List.pairwise_iff_getElem.2 fun i j hi hj hij e => ?_
    have := incB_lt ha j i hj hij
    rw [List.getD_eq_getElem?_getD, List.getD_eq_getElem?_getD, List.getElem?_eq_getElem hi, List.getElem?_eq_getElem hj] at this
    simp only [Option.getD_some] at this
    omega
theorem nz_id {xs : List Int} (h : ∀ x ∈ xs, 1 ≤ x ∧ x ≤ 1000000) : nz xs = xs := by
  unfold nz
  rw [List.filter_eq_self]
  intro x hx
  have := h x hx
  simp only [bne_iff_ne, ne_eq]
  omega
theorem nz_zerosB (k : Nat) : nz (List.replicate k 0) = [] := by
  unfold nz
  rw [List.filter_eq_nil_iff]
  intro x hx
  obtain ⟨_, rfl⟩ := List.mem_replicate.1 hx
  decide
theorem okP_mk {xs : List Int} {n : Nat} (h : distP xs) (hl : xs.length ≤ 60) (h1 : 1 ≤ n) (h2 : n ≤ 12) : okP (mkL xs n) = true := by
  have ez : nz (xs.take n ++ (List.replicate n 0).drop xs.length) = xs.take n := by
    have e1 : nz (xs.take n) = xs.take n := nz_id (fun x hx => h.1 x (List.mem_of_mem_take hx))
    have e2 : nz ((List.replicate n 0).drop xs.length) = [] := by rw [List.drop_replicate]; exact nz_zerosB _
    unfold nz at e1 e2 ⊢
    rw [List.filter_append, e1, e2, List.append_nil]
  have ea : allP (mkL xs n) = xs := by
    unfold allP mkL
    simp only [ez, List.append_nil, List.take_append_drop]
  rw [okP_iff, ea]
  refine ⟨?_, hl, h, ?_⟩
  · unfold mkL
    simp only [List.length_append, List.length_take, List.length_drop, List.length_replicate]
    omega
  · rintro ⟨h0, hd⟩
    unfold mkL at h0 hd
    simp only [List.length_drop] at hd
    simp only [List.mem_append] at h0
    rcases h0 with h0 | h0
    · have := h.1 0 (List.mem_of_mem_take h0)
      omega
    · rw [List.drop_replicate, show n - xs.length = 0 by omega] at h0
      cases h0
theorem hasB_dist {xs : List Int} (h : distP xs) : hasB xs 0 = false := by
  unfold hasB
  rw [decide_eq_false_iff_not]
  intro h0
  have := h.1 0 h0
  omega
theorem okP_clr (B : Int → Bool) : ∀ (n : Nat) (l : L3), mz l ≤ n → okP l = true → okP (clr B l) = true
  | n, l, hn, hok => by
    cases hf : fb B l.x with
    | none => rw [clr_none hf]; exact hok
    | some k =>
      rw [clr_some hf]
      obtain ⟨u, h1, h2, _⟩ := fb_some hf
      have hm := mz_emp h1 h2
      match n, hn with
      | 0, hn => omega
      | n + 1, hn => exact okP_clr B n _ (by omega) (okP_emp hok h1 h2)
theorem okR_parts {y : RecL} (h : okR y = true) : (1 ≤ y.b ∧ y.b ≤ 2147483646) ∧ y.p.x.length ≤ 60 ∧ incB y.p.x = true ∧ (1 ≤ y.d ∧ y.d ≤ 12) ∧ strB y.p.y = true ∧ y.p.z.length ≤ 40 ∧ movB y.p.z = true := by
  unfold okR at h
  simp only [Bool.and_eq_true, decide_eq_true_eq] at h
  exact ⟨inB_iff.1 h.2.1, h.2.2.2.1, h.2.2.2.2.1, inB_iff.1 h.2.2.2.2.2.1, h.2.2.2.2.2.2.1, h.2.2.2.2.2.2.2.1, h.2.2.2.2.2.2.2.2.1⟩
theorem okP_pr {ts : List Ti} {us : List ByteArray} {y : RecL} (h : okR y = true) (hk : okK ts us = true) : okP (prV ts us y) = true := by
  obtain ⟨hb, hl, hi, hd, _⟩ := okR_parts h
  have hp := rpL_perm (y := y) (by omega) (by omega)
  have hD : distP (rpL y) := (distP_perm hp).2 (incB_dist hi)
  have hm : okP (mkL (rpL y) y.d.toNat) = true := okP_mk hD (by rw [rpL_len]; exact hl) (by omega) (by omega)
  have e : (mkR (rpL y) y.d).1 = mkL (rpL y) y.d.toNat := by
    unfold mkR
    rw [if_pos (inB_iff.2 hd), hasB_dist hD, hm]
    rfl
  unfold prV
  rw [e, clrV_yes (by unfold fitC; rw [if_pos ⟨hk, hm⟩])]
  exact okP_clr _ _ _ (Nat.le_refl _) hm
/-- the selection before the first move -/
def bgL (ts : List Ti) (us : List ByteArray) (y : RecL) : SelL := ⟨prV ts us y, y.p.y, 0, 0⟩
theorem okS_bg {ts : List Ti} {us : List ByteArray} {y : RecL} (h : okR y = true) (hk : okK ts us = true) : okS (bgL ts us y) = true := by
  unfold okS bgL
  simp only [okP_pr h hk, Bool.true_and]
  have h2 := (okR_parts h).2.2.2.2.1
  unfold strB at h2
  unfold areB
  rw [h2]
  rfl
theorem okR_moves {y : RecL} (h : okR y = true) : y.p.z.length ≤ 40 := (okR_parts h).2.2.2.2.2.1
def rpG (ts : List Ti) (us : List ByteArray) (y : RecL) : SelL × Nat × Int := playG (bgL ts us y) y.p.z 0
theorem pmR_bg {ts : List Ti} {us : List ByteArray} {y : RecL} (h : okR y = true) (hk : okK ts us = true) : pmR (bgL ts us y) y.p.z = rpG ts us y := by
  unfold pmR rpG
  rw [if_pos (okS_bg h hk), if_pos (okR_moves h)]
end Go.Proofs.YtofglgfjlbehmaaGreat.mem
namespace Go.Proofs.YtofglgfjlbehmaaGreat.mem
open Go.ChangeShapes Go.WideShapes Go.ChangeAt Go.RowKit

set_option maxRecDepth 20000 in
set_option maxHeartbeats 2500000 in
theorem impl.played_any (x : RecA) (y : RecL) (s : Sl) (ts : List Ti) (q : Sl) (us : List ByteArray) (w : World) (hr : RdR w x y) (ht : RdT w s.A s.n ts) (hq : RdW w q.A q.n us) (hok : okR y = true) (hkk : okK ts us = true) :
    Calls Tryz.prog 46 #[.agg #[.int .i64 x.a, .int .i64 x.b, .int .i64 x.c, .slice x.p.x.A x.p.x.n x.p.x.c, .int .i64 x.d, .slice x.p.y.A x.p.y.n x.p.y.c, .slice x.p.z.A x.p.z.n x.p.z.c, .int .i64 x.e, .int .i64 x.f], .slice s.A s.n s.c, .slice q.A q.n q.c] w fun e w' => ∃ z : SelA, e = .returned (.tuple #[.agg #[.slice z.p.x.A z.p.x.n z.p.x.c, .slice z.p.y.A z.p.y.n z.p.y.c, .slice z.p.z.A z.p.z.n z.p.z.c, .slice z.s.A z.s.n z.s.c, .int .i64 z.t, .int .i64 z.q], .int .i64 (rpG ts us y).2.1, .int .i64 (rpG ts us y).2.2]) ∧ OwnS w' w.heap.size z (rpG ts us y).1 ∧ Ext w w' := by
  have hX := ((Ext.refl w).alloc (.cells #[.int .i64 x.a, .int .i64 x.b, .int .i64 x.c, .slice x.p.x.A x.p.x.n x.p.x.c, .int .i64 x.d, .slice x.p.y.A x.p.y.n x.p.y.c, .slice x.p.z.A x.p.z.n x.p.z.c, .int .i64 x.e, .int .i64 x.f] 26)).alloc (.cells #[.slice none 0 0, .slice none 0 0, .slice none 0 0, .slice none 0 0, .int .i64 0, .int .i64 0] 70)
  have hB := (Blk.new w 26 (#[.int .i64 x.a, .int .i64 x.b, .int .i64 x.c, .slice x.p.x.A x.p.x.n x.p.x.c, .int .i64 x.d, .slice x.p.y.A x.p.y.n x.p.y.c, .slice x.p.z.A x.p.z.n x.p.z.c, .int .i64 x.e, .int .i64 x.f])).alloc (.cells #[.slice none 0 0, .slice none 0 0, .slice none 0 0, .slice none 0 0, .int .i64 0, .int .i64 0] 70)
  have hR := Blk.new (w.alloc (.cells #[.int .i64 x.a, .int .i64 x.b, .int .i64 x.c, .slice x.p.x.A x.p.x.n x.p.x.c, .int .i64 x.d, .slice x.p.y.A x.p.y.n x.p.y.c, .slice x.p.z.A x.p.z.n x.p.z.c, .int .i64 x.e, .int .i64 x.f] 26)) 70 (#[.slice none 0 0, .slice none 0 0, .slice none 0 0, .slice none 0 0, .int .i64 0, .int .i64 0])
  rw [World.size_alloc] at hR
  have hcy := hr.1.2.2.2.2.2.1
  replace hX := hX.drew
  replace hB := hB.drew
  replace hR := hR.drew
  obtain ⟨q0, q1, q2, q3, q4, q5, q6, q7, q8⟩ := hB.c9
  go_enter Tryz.func46, Tryz.ntmps46
  go_wp2_with fail
  go_region_held3 (fun w' => w'.cell? ⟨w.heap.size, 0, none⟩ = some (.int .i64 x.a) ∧ w'.cell? ⟨w.heap.size, 1, none⟩ = some (.int .i64 x.b) ∧ w'.cell? ⟨w.heap.size, 2, none⟩ = some (.int .i64 x.c) ∧ w'.cell? ⟨w.heap.size, 3, none⟩ = some (.slice x.p.x.A x.p.x.n x.p.x.c) ∧ w'.cell? ⟨w.heap.size, 4, none⟩ = some (.int .i64 x.d) ∧ w'.cell? ⟨w.heap.size, 5, none⟩ = some (.slice x.p.y.A x.p.y.n x.p.y.c) ∧ w'.cell? ⟨w.heap.size, 6, none⟩ = some (.slice x.p.z.A x.p.z.n x.p.z.c) ∧ w'.cell? ⟨w.heap.size, 7, none⟩ = some (.int .i64 x.e) ∧ w'.cell? ⟨w.heap.size, 8, none⟩ = some (.int .i64 x.f)) (first | (with_reducible exact kk2) | (with_reducible exact kk1) | (with_reducible exact ((((((hB.off _ 0 (by omega) _).off _ 1 (by omega) _).off _ 2 (by omega) _).off _ 3 (by omega) _).off _ 4 (by omega) _).off _ 5 (by omega) _).c9) | go_keep) (first | (go_at_call 40; refine (impl.recPanel_any x y s ts q us _ (hr.ext hX) (ht.ext hX) (hq.ext hX) hok hkk).mono ?_; rintro e w2 ⟨t, rfl, ot, hx⟩; have z2 := hx.size; (try simp at z2); replace hX := hX.trans hx; replace hB := hB.ext hx; replace hR := hR.ext hx; have kk1 := hB.c9; clear hx) | (go_at_call 80; refine (impl.play_any ⟨t, x.p.y, 0, 0⟩ (bgL ts us y) x.p.z y.p.z _ ⟨ot.rd, (hr.ext hX).1.2.1, hcy, rfl, rfl⟩ (okS_bg hok hkk) (hr.ext hX).1.2.2.1).mono ?_; rintro e w3 ⟨z, rfl, oz, hx⟩; have z3 := hx.size; replace hX := hX.trans hx; replace hB := hB.ext hx; replace hR := hR.ext hx; have kk2 := hB.c9; obtain ⟨r0, r1, r2, r3, r4, r5⟩ := hR.c6; have y0 := hR.frozen 0; have y1 := hR.frozen 1; have y2 := hR.frozen 2; have y3 := hR.frozen 3; have y4 := hR.frozen 4; have y5 := hR.frozen 5; clear hx))
  have hRn := hR.set6 (.slice z.p.x.A z.p.x.n z.p.x.c) (.slice z.p.y.A z.p.y.n z.p.y.c) (.slice z.p.z.A z.p.z.n z.p.z.c) (.slice z.s.A z.s.n z.s.c) (.int .i64 z.t) (.int .i64 z.q)
  obtain ⟨n0, n1, n2, n3, n4, n5⟩ := hRn.c6
  go_wp2
  refine bodyPost_ret (v := .tuple #[.agg #[.slice z.p.x.A z.p.x.n z.p.x.c, .slice z.p.y.A z.p.y.n z.p.y.c, .slice z.p.z.A z.p.z.n z.p.z.c, .slice z.s.A z.s.n z.s.c, .int .i64 z.t, .int .i64 z.q], .int .i64 (rpG ts us y).2.1, .int .i64 (rpG ts us y).2.2]) (by simp [results, Tryz.results46, go_sem, rpG, n0, n1, n2, n3, n4, n5]) rfl ⟨z, rfl, ?_, ((((((hX.off (w.heap.size + 1) 0 (by omega) _).off (w.heap.size + 1) 1 (by omega) _).off (w.heap.size + 1) 2 (by omega) _).off (w.heap.size + 1) 3 (by omega) _).off (w.heap.size + 1) 4 (by omega) _).off (w.heap.size + 1) 5 (by omega) _)⟩
  have oz2 := OwnS.mono (lo' := w.heap.size + 1 + 1) oz (by omega)
  exact OwnS.mono ((((((oz2.off (w.heap.size + 1) 0 (by omega) _).off (w.heap.size + 1) 1 (by omega) _).off (w.heap.size + 1) 2 (by omega) _).off (w.heap.size + 1) 3 (by omega) _).off (w.heap.size + 1) 4 (by omega) _).off (w.heap.size + 1) 5 (by omega) _) (by omega)
set_option maxRecDepth 20000 in
set_option maxHeartbeats 2500000 in
theorem spec.l16Begin_any (x : RecA) (y : RecL) (s : Sl) (ts : List Ti) (q : Sl) (us : List ByteArray) (w : World) (hr : RdR w x y) (ht : RdT w s.A s.n ts) (hq : RdW w q.A q.n us) (hok : okR y = true) :
    Calls Tryz.prog 43 #[.agg #[.int .i64 x.a, .int .i64 x.b, .int .i64 x.c, .slice x.p.x.A x.p.x.n x.p.x.c, .int .i64 x.d, .slice x.p.y.A x.p.y.n x.p.y.c, .slice x.p.z.A x.p.z.n x.p.z.c, .int .i64 x.e, .int .i64 x.f], .slice s.A s.n s.c, .slice q.A q.n q.c] w fun e w' => ∃ z : SelA, e = .returned (.agg #[.slice z.p.x.A z.p.x.n z.p.x.c, .slice z.p.y.A z.p.y.n z.p.y.c, .slice z.p.z.A z.p.z.n z.p.z.c, .slice z.s.A z.s.n z.s.c, .int .i64 z.t, .int .i64 z.q]) ∧ OwnS w' w.heap.size z (bgL ts us y) ∧ Ext w w' := by
  have hX := ((Ext.refl w).alloc (.cells #[.int .i64 x.a, .int .i64 x.b, .int .i64 x.c, .slice x.p.x.A x.p.x.n x.p.x.c, .int .i64 x.d, .slice x.p.y.A x.p.y.n x.p.y.c, .slice x.p.z.A x.p.z.n x.p.z.c, .int .i64 x.e, .int .i64 x.f] 26)).alloc (.cells #[.slice none 0 0, .slice none 0 0, .slice none 0 0, .slice none 0 0, .int .i64 0, .int .i64 0] 70)
  have hB := (Blk.new w 26 (#[.int .i64 x.a, .int .i64 x.b, .int .i64 x.c, .slice x.p.x.A x.p.x.n x.p.x.c, .int .i64 x.d, .slice x.p.y.A x.p.y.n x.p.y.c, .slice x.p.z.A x.p.z.n x.p.z.c, .int .i64 x.e, .int .i64 x.f])).alloc (.cells #[.slice none 0 0, .slice none 0 0, .slice none 0 0, .slice none 0 0, .int .i64 0, .int .i64 0] 70)
  have hR := Blk.new (w.alloc (.cells #[.int .i64 x.a, .int .i64 x.b, .int .i64 x.c, .slice x.p.x.A x.p.x.n x.p.x.c, .int .i64 x.d, .slice x.p.y.A x.p.y.n x.p.y.c, .slice x.p.z.A x.p.z.n x.p.z.c, .int .i64 x.e, .int .i64 x.f] 26)) 70 (#[.slice none 0 0, .slice none 0 0, .slice none 0 0, .slice none 0 0, .int .i64 0, .int .i64 0])
  rw [World.size_alloc] at hR
  have hcy := hr.1.2.2.2.2.2.1
  replace hX := hX.drew
  replace hB := hB.drew
  replace hR := hR.drew
  obtain ⟨q0, q1, q2, q3, q4, q5, q6, q7, q8⟩ := hB.c9
  go_enter Tryz.func43, Tryz.ntmps43
  go_wp2_with fail
  go_region_held3 (fun w' => w'.cell? ⟨w.heap.size, 0, none⟩ = some (.int .i64 x.a) ∧ w'.cell? ⟨w.heap.size, 1, none⟩ = some (.int .i64 x.b) ∧ w'.cell? ⟨w.heap.size, 2, none⟩ = some (.int .i64 x.c) ∧ w'.cell? ⟨w.heap.size, 3, none⟩ = some (.slice x.p.x.A x.p.x.n x.p.x.c) ∧ w'.cell? ⟨w.heap.size, 4, none⟩ = some (.int .i64 x.d) ∧ w'.cell? ⟨w.heap.size, 5, none⟩ = some (.slice x.p.y.A x.p.y.n x.p.y.c) ∧ w'.cell? ⟨w.heap.size, 6, none⟩ = some (.slice x.p.z.A x.p.z.n x.p.z.c) ∧ w'.cell? ⟨w.heap.size, 7, none⟩ = some (.int .i64 x.e) ∧ w'.cell? ⟨w.heap.size, 8, none⟩ = some (.int .i64 x.f)) (first | (with_reducible exact kk2) | (with_reducible exact kk1) | (with_reducible exact ((((((hB.off _ 0 (by omega) _).off _ 1 (by omega) _).off _ 2 (by omega) _).off _ 3 (by omega) _).off _ 4 (by omega) _).off _ 5 (by omega) _).c9) | go_keep) (first | (go_at_call 45; refine (spec.l16Panel_any x y s ts q us _ (hr.ext hX) (ht.ext hX) (hq.ext hX) hok).mono ?_; rintro e w2 ⟨t, rfl, ot, hx⟩; have z2 := hx.size; (try simp at z2); have gt := (fun k (hk : blks t k) => Own3.lt ot hk); replace ot := Own3.mono (lo' := w.heap.size + 1 + 1) ot (by first | (simp; done) | omega | (simp; omega) | fail); replace hX := hX.trans hx; replace hB := hB.ext hx; replace hR := hR.ext hx; have kk1 := hB.c9; clear hx) | (go_at_call 62; refine (spec.l01Own_any x.p.y y.p.y _ ((hr.ext hX).1.2.1)).mono ?_; rintro e w3 ⟨s3, rfl, o3, hx⟩; have z3 := hx.size; have g3 := o3.lt; replace o3 := Own.mono (lo' := w.heap.size + 1 + 1) o3 (by omega); replace ot := ot.ext hx; replace hX := hX.trans hx; replace hB := hB.ext hx; replace hR := hR.ext hx; have kk2 := hB.c9; obtain ⟨r0, r1, r2, r3, r4, r5⟩ := hR.c6; have y0 := hR.frozen 0; have y1 := hR.frozen 1; have y2 := hR.frozen 2; have y3 := hR.frozen 3; have y4 := hR.frozen 4; have y5 := hR.frozen 5; clear hx))
  have hRn := hR.set6 (.slice t.x.A t.x.n t.x.c) (.slice t.y.A t.y.n t.y.c) (.slice t.z.A t.z.n t.z.c) (.slice s3.A s3.n s3.c) (.int .i64 0) (.int .i64 0)
  obtain ⟨n0, n1, n2, n3, n4, n5⟩ := hRn.c6
  have oz2 : OwnS w3 (w.heap.size + 1 + 1) ⟨t, s3, 0, 0⟩ (bgL ts us y) := ⟨ot, o3, ⟨rfl, rfl⟩, fun k h1 h2 => by have a1 := gt k h1; have a2 := g3 k h2; omega⟩
  go_wp2
  refine bodyPost_ret (v := .agg #[.slice (⟨t, s3, 0, 0⟩ : SelA).p.x.A (⟨t, s3, 0, 0⟩ : SelA).p.x.n (⟨t, s3, 0, 0⟩ : SelA).p.x.c, .slice (⟨t, s3, 0, 0⟩ : SelA).p.y.A (⟨t, s3, 0, 0⟩ : SelA).p.y.n (⟨t, s3, 0, 0⟩ : SelA).p.y.c, .slice (⟨t, s3, 0, 0⟩ : SelA).p.z.A (⟨t, s3, 0, 0⟩ : SelA).p.z.n (⟨t, s3, 0, 0⟩ : SelA).p.z.c, .slice (⟨t, s3, 0, 0⟩ : SelA).s.A (⟨t, s3, 0, 0⟩ : SelA).s.n (⟨t, s3, 0, 0⟩ : SelA).s.c, .int .i64 (⟨t, s3, 0, 0⟩ : SelA).t, .int .i64 (⟨t, s3, 0, 0⟩ : SelA).q]) (by simp [results, Tryz.results43, go_sem, n0, n1, n2, n3, n4, n5]) rfl ⟨⟨t, s3, 0, 0⟩, rfl, ?_, ((((((hX.off (w.heap.size + 1) 0 (by omega) _).off (w.heap.size + 1) 1 (by omega) _).off (w.heap.size + 1) 2 (by omega) _).off (w.heap.size + 1) 3 (by omega) _).off (w.heap.size + 1) 4 (by omega) _).off (w.heap.size + 1) 5 (by omega) _)⟩
  exact OwnS.mono ((((((oz2.off (w.heap.size + 1) 0 (by omega) _).off (w.heap.size + 1) 1 (by omega) _).off (w.heap.size + 1) 2 (by omega) _).off (w.heap.size + 1) 3 (by omega) _).off (w.heap.size + 1) 4 (by omega) _).off (w.heap.size + 1) 5 (by omega) _) (by omega)
end Go.Proofs.YtofglgfjlbehmaaGreat.mem
