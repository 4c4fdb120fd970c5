/-
  Draws for the texts of records.
-/
import Derived.Test.YtfojfndmaofahaaGreatDoorDrR
import Derived.Test.YtfojfndmaofahaaGreatDoorDrT
import Derived.Test.YtfojfndmaofahaaGreatDoorTr
import Derived.Test.YtfojfndmaofahaaGreatDoorRrP
namespace Go.Proofs.YtfojfndmaofahaaGreatDoor.mem
open Go.ChangeShapes Go.WideShapes Go.ChangeAt Go.RowKit

theorem numT_szR {xs : List Int} (h : ∀ x ∈ xs, numB x) : (numT xs).size ≤ 21 * xs.length + 1 := by
  unfold numT
  split
  · show 1 ≤ _; omega
  · have := joinW_size (ss := xs.map itoaW) (sep := ⟨#[44]⟩) (b := 20) (c := 1) (fun s hs => by obtain ⟨n, hn, rfl⟩ := List.mem_map.1 hs; exact itoaW_le (h n hn)) (by decide) (xs.map itoaW).length (Nat.le_refl _)
    rw [List.take_length] at this
    simp only [List.length_map] at this
    omega
theorem mvsT_szR {ms : List Int} (h : movB ms = true) (hl : ms.length ≤ 40) : (mvsT ms).size ≤ 50000 := by
  unfold mvsT
  split
  · decide
  · have := joinW_size (ss := ms.map mvT) (sep := ⟨#[44]⟩) (b := 1000) (c := 1) (mvT_le h) (by decide) (ms.map mvT).length (Nat.le_refl _)
    rw [List.take_length] at this
    simp only [List.length_map] at this
    omega
theorem okR_len {y : RecL} (h : okR y = true) : y.p.x.length ≤ 60 := by
  unfold okR at h
  simp only [Bool.and_eq_true, decide_eq_true_eq] at h
  exact h.2.2.2.1
theorem recT_sz {y : RecL} (h : okR y = true) : (recT y).size ≤ 100000 := by
  obtain ⟨⟨a, b, c, d, e, f⟩, ⟨hx, _⟩, ⟨hy, _⟩, ⟨hm, hml⟩⟩ := okR_all h
  have hd : numB y.d := by unfold numB; omega
  have l1 := okR_len h
  have l2 : y.p.y.length = 2 := by
    have := h
    unfold okR at this
    simp only [Bool.and_eq_true] at this
    exact (str_num this.2.2.2.2.2.2.1).2
  have s1 := numT_szR hx
  have s2 := numT_szR hy
  have s3 := mvsT_szR hm hml
  have i1 := itoaW_le hd
  have j3 := joinW_size (ss := [itoaW y.a, itoaW y.b, itoaW y.c]) (sep := slW) (b := 20) (c := 1) (fun s hs => by
    simp only [List.mem_cons, List.not_mem_nil, or_false] at hs
    rcases hs with rfl | rfl | rfl
    · exact itoaW_le a
    · exact itoaW_le b
    · exact itoaW_le c) (by decide) 3 (by simp)
  have j2 := joinW_size (ss := [itoaW y.e, itoaW y.f]) (sep := slW) (b := 20) (c := 1) (fun s hs => by
    simp only [List.mem_cons, List.not_mem_nil, or_false] at hs
    rcases hs with rfl | rfl
    · exact itoaW_le e
    · exact itoaW_le f) (by decide) 2 (by simp)
  simp only [List.take_succ_cons, List.take_zero] at j3 j2
  have e1 : slW.size = 1 := rfl
  unfold recT
  rw [join9]
  simp only [ByteArray.size_append, e1]
  omega
theorem rt_ok {y : RecL} (h : rtC y = 0) : rtV y = recT y ∧ okR y = true := by
  unfold rtC at h
  split at h
  · rename_i h1
    exact ⟨by unfold rtV; rw [if_pos h1], h1⟩
  · cases h
set_option maxRecDepth 20000 in
set_option maxHeartbeats 2500000 in
theorem spec.DrawReadRecord_any (s : Sl) (w : World) (hc : Code w s) :
    Calls Tryz.prog 23 #[.slice s.A s.n s.c] w fun e w' => ∃ u : ByteArray, e = .returned (.string u) ∧ u.size ≤ 200000 ∧ Ext w w' := by
  go_enter Tryz.func23, Tryz.ntmps23
  go_wp2_with fail
  refine (spec.l01From_any s w _ (Ext.refl w) hc).mono ?_
  rintro e w1 ⟨g, rfl, hg, hD, hX⟩
  go_wp2_with fail
  refine (spec.l16Good_any g s w _ hD).mono ?_
  rintro e w2 ⟨x, y, rfl, hp, hok, hsm, hD2, hO⟩
  replace hX := hX.only hO hg
  go_wp2_with fail
  refine (spec.l16Text_any x y _ hp.rd hok).mono ?_
  rintro e w3 ⟨rfl, hx3⟩
  replace hX := hX.trans hx3
  have hsz := recT_sz hok
  replace hD2 := hD2.more hx3
  generalize recT y = t at hsz
  clear hD hO hp hok hx3 hsm
  have hk3 := fun W h => spec.l01Next_any g s 3 w W h (by omega)
  have hkd := fun W h => spec.l01Damage_any g s t w W h (by omega)
  go_wp2_with fail
  refine (hk3 _ hD2).mono ?_
  rintro e w4 ⟨x, rfl, ⟨x0, x1⟩, hD4, hO4⟩
  replace hX := hX.only hO4 hg
  clear hD2 hO4 hk3
  by_cases h0 : x = 0
  · subst h0
    go_wp2_with fail
    refine (hkd _ hD4).mono ?_
    rintro e w5 ⟨u, rfl, hu, hD5, hO5⟩
    replace hX := hX.only hO5 hg
    go_wp2_with fail
    go_ret
    exact ⟨u, rfl, by omega, hX⟩
  · have e0 : (x == 0) = false := by rw [beq_eq_false_iff_ne]; exact h0
    clear h0
    go_wp2_with fail
    go_ret
    exact ⟨t, rfl, by omega, hX⟩
end Go.Proofs.YtfojfndmaofahaaGreatDoor.mem
