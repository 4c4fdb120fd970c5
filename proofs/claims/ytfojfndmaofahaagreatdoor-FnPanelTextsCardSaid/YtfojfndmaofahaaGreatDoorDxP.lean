/-
  Draws for the texts of panels.
-/
import Derived.Test.YtfojfndmaofahaaGreatDoorDrW
import Derived.Test.YtfojfndmaofahaaGreatDoorDrT
import Derived.Test.YtfojfndmaofahaaGreatDoorTn
namespace Go.Proofs.YtfojfndmaofahaaGreatDoor.mem
open Go.ChangeShapes Go.WideShapes Go.ChangeAt Go.RowKit

theorem numT_sz {xs : List Int} (h : ∀ x ∈ xs, numB x) : (numT xs).size ≤ 21 * xs.length + 1 := by
  unfold numT
  split
  · show 1 ≤ _; omega
  · have := joinW_size (ss := xs.map itoaW) (sep := ⟨#[44]⟩) (b := 20) (c := 1) (fun s hs => by obtain ⟨n, hn, rfl⟩ := List.mem_map.1 hs; exact itoaW_le (h n hn)) (by decide) (xs.map itoaW).length (Nat.le_refl _)
    rw [List.take_length] at this
    simp only [List.length_map] at this
    omega
theorem panT_sz {l : L3} (h : okP l = true) : (panT l).size ≤ 3000 := by
  obtain ⟨⟨a, _⟩, ⟨b, _⟩, ⟨c, _⟩⟩ := okP_num h
  have h1 := numT_sz a
  have h2 := numT_sz b
  have h3 := numT_sz c
  have hs := okP_small h
  have e : (⟨#[47]⟩ : ByteArray).size = 1 := rfl
  simp only [panT, ByteArray.size_append, e]
  omega
set_option maxRecDepth 20000 in
set_option maxHeartbeats 2500000 in
theorem spec.DrawPanelText_any (s : Sl) (w : World) (hc : Code w s) :
    Calls Tryz.prog 7 #[.slice s.A s.n s.c] w fun e w' => ∃ (p : S3) (l : L3), e = .returned (.agg #[.slice p.x.A p.x.n p.x.c, .slice p.y.A p.y.n p.y.c, .slice p.z.A p.z.n p.z.c]) ∧ Own3 w' w.heap.size p l ∧ (l.x.length ≤ 12 ∧ l.y.length + l.z.length ≤ 70) ∧ Ext w w' := by
  have hR := Blk.new w 26 #[.slice none 0 0, .slice none 0 0, .slice none 0 0]
  have hX := (Ext.refl w).alloc (.cells #[.slice none 0 0, .slice none 0 0, .slice none 0 0] 26)
  go_enter Tryz.func7, Tryz.ntmps7
  go_wp2_with fail
  refine (spec.l01From_any s w _ hX hc).mono ?_
  rintro e w1 ⟨g, rfl, hg, hD, hx1⟩
  rw [World.size_alloc] at hg
  replace hR := hR.ext hx1
  replace hX := hX.trans hx1
  have hz1 := hR.lt
  clear hx1
  go_wp2_with fail
  refine (spec.l12Draw_any g s w _ hD).mono ?_
  rintro e w2 ⟨p, l, rfl, hp, hb, hD2, hO⟩
  replace hR := hR.only hO (by omega)
  replace hX := hX.only hO (by omega)
  clear hD hD2 hO
  obtain ⟨r0, r1, r2, r3, r4, r5⟩ := res3 hR
  have m := Blk.c3 (((hR.set_ 0 (.slice p.x.A p.x.n p.x.c)).set_ 1 (.slice p.y.A p.y.n p.y.c)).set_ 2 (.slice p.z.A p.z.n p.z.c))
  have hpn := ((hp.awayP (g := w.heap.size) (by omega) 0 (.slice p.x.A p.x.n p.x.c)).awayP (g := w.heap.size) (by omega) 1 (.slice p.y.A p.y.n p.y.c)).awayP (g := w.heap.size) (by omega) 2 (.slice p.z.A p.z.n p.z.c)
  have hXn := ((hX.off w.heap.size 0 (by omega) (.slice p.x.A p.x.n p.x.c)).off w.heap.size 1 (by omega) (.slice p.y.A p.y.n p.y.c)).off w.heap.size 2 (by omega) (.slice p.z.A p.z.n p.z.c)
  go_wp2_with fail
  refine bodyPost_ret (v := .agg #[.slice p.x.A p.x.n p.x.c, .slice p.y.A p.y.n p.y.c, .slice p.z.A p.z.n p.z.c]) (by simp [results, Tryz.results7, go_sem, m.1, m.2.1, m.2.2]) rfl ⟨p, l, rfl, hpn.mono (by omega), hb, hXn⟩
set_option maxRecDepth 20000 in
set_option maxHeartbeats 2500000 in
theorem spec.DrawReadPanel_any (s : Sl) (w : World) (hc : Code w s) :
    Calls Tryz.prog 10 #[.slice s.A s.n s.c] w fun e w' => ∃ u : ByteArray, e = .returned (.string u) ∧ u.size ≤ 100000 ∧ Ext w w' := by
  go_enter Tryz.func10, Tryz.ntmps10
  go_wp2_with fail
  refine (spec.l01From_any s w _ (Ext.refl w) hc).mono ?_
  rintro e w1 ⟨g, rfl, hg, hD, hX⟩
  go_wp2_with fail
  refine (spec.l12Good_any g s w _ hD).mono ?_
  rintro e w2 ⟨p, l, rfl, hp, hok, hD2, hO⟩
  replace hX := hX.only hO hg
  go_wp2_with fail
  refine (spec.l12Text_any p l _ hp.rd hok).mono ?_
  rintro e w3 ⟨rfl, hx3⟩
  replace hX := hX.trans hx3
  have hsz := panT_sz hok
  replace hD2 := hD2.more hx3
  generalize panT l = t at hsz
  clear hD hO hp hok hx3
  have hk3 := fun W h => spec.l01Next_any g s 3 w W h (by omega)
  have hkd := fun W h => spec.l01Damage_any g s t w W h (by omega)
  go_wp2_with fail
  refine (hk3 _ hD2).mono ?_
  rintro e w4 ⟨x, rfl, ⟨x0, x1⟩, hD4, hO4⟩
  replace hX := hX.only hO4 hg
  clear hD2 hO4 hk3
  by_cases h0 : x = 0
  · subst h0
    go_wp2_with fail
    refine (hkd _ hD4).mono ?_
    rintro e w5 ⟨u, rfl, hu, hD5, hO5⟩
    replace hX := hX.only hO5 hg
    go_wp2_with fail
    go_ret
    exact ⟨u, rfl, by omega, hX⟩
  · have e0 : (x == 0) = false := by rw [beq_eq_false_iff_ne]; exact h0
    clear h0
    go_wp2_with fail
    go_ret
    exact ⟨t, rfl, by omega, hX⟩
end Go.Proofs.YtfojfndmaofahaaGreatDoor.mem
