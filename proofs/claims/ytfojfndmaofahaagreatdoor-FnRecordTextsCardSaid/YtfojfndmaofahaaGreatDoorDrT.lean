/-
  A text that is changed slightly: it grows by one byte at most.
-/
import Derived.Test.YtfojfndmaofahaaGreatDoorDrA
import Derived.Test.YtfojfndmaofahaaGreatDoorUs
import Derived.Test.YtfojfndmaofahaaGreatDoorReg
namespace Go.Proofs.YtfojfndmaofahaaGreatDoor.mem
open Go.ChangeShapes Go.WideShapes Go.ChangeAt Go.RowKit

def DtP (w0 w : World) (g : Nat) (s : Sl) (n : Nat) (e : Ending) (w' : World) : Prop :=
  ∃ t : ByteArray, e = .returned (.string t) ∧ t.size ≤ n ∧ Dr w0 w' g s ∧ Only g w w'
theorem Fr.tr {w w' w'' : World} {g : Nat} (h : Only g w w') (k : Only g w' w'') : Only g w w'' := Fr.trans h k
def dmg : List ByteArray := [⟨#[48]⟩, ⟨#[35]⟩, ⟨#[46]⟩, ⟨#[47]⟩, ⟨#[32]⟩, ⟨#[97]⟩, ⟨#[45]⟩, ⟨#[10]⟩]
theorem dmg_one : ∀ d ∈ dmg, d.size = 1 := by decide +kernel
set_option maxRecDepth 20000 in
set_option maxHeartbeats 2500000 in
theorem spec.l01Damage_any (g : Nat) (s : Sl) (t : ByteArray) (w0 w : World) (h : Dr w0 w g s) (ht : t.size ≤ 100000) :
    Calls Tryz.prog 33 #[.pointer (some ⟨g, 0, none⟩), .string t] w fun e w' => DtP w0 w g s (t.size + 1) e w' := by
  obtain ⟨N, hN⟩ : ∃ N, Hid (N = t.size + 1) := ⟨_, rfl⟩
  have hk := fun W h => spec.l01Next_any g s (N : Int) w0 W h (by have := hN.out; omega)
  have hk8 := fun W h => spec.l01Next_any g s 8 w0 W h (by omega)
  have hg := h.lt
  have hw1 : IntKind.i64.wrap ((t.size : Int) + 1) = (N : Int) := by rw [Go.IntWalk.i64_in _ (by omega), hN.out]; simp
  have hN1 : 1 ≤ N := by have := hN.out; omega
  go_enter Tryz.func33, Tryz.ntmps33
  go_wp2_with fail
  refine (hk _ h).mono ?_
  rintro e w1 ⟨x, rfl, ⟨x0, x1⟩, hD, hO⟩
  obtain ⟨k, rfl⟩ := Int.eq_ofNat_of_zero_le x0
  have hkb : k ≤ t.size := by have := hN.out; omega
  clear x0 x1 hk
  go_wp2_with fail
  refine (hk8 _ hD).mono ?_
  rintro e w2 ⟨x, rfl, ⟨x0, x1⟩, hD2, hO2⟩
  replace hO2 := Fr.trans hO hO2
  obtain ⟨j, rfl⟩ := Int.eq_ofNat_of_zero_le x0
  have hj8 : j < 8 := by omega
  clear x0 x1 hO hD
  have hk0 : (0 : Int) ≤ (k : Int) := by omega
  have hkI : (k : Int) ≤ (t.size : Int) := by omega
  have hw1k : IntKind.i64.wrap ((k : Int) + 1) = (k : Int) + 1 := Go.IntWalk.i64_in _ (by omega)
  have hk1 : ¬ 9223372036854775807 < k + 1 := by omega
  have hk2 : ¬ 9223372036854775807 < k + 1 + (t.size - k) := by omega
  rcases (show j = 0 ∨ j = 1 ∨ j = 2 ∨ 3 ≤ j by omega) with rfl | rfl | rfl | hj
  · go_wp2_with fail
    go_ret
    exact ⟨_, rfl, by simp [ByteArray.size_extract]; omega, hD2, hO2⟩
  · have hwp : True := trivial
    have hkx := fun W h => spec.l01Next_any g s 8 w0 W h (by omega)
    go_wp2_with fail
    refine wp_region_sink (S := fun _ => True) 13 (by kernel_rfl) ?_
    change wpAnyT _ _ _ _ _ _ _ _ _ (World.drew _)
    have hDd := hD2.drew
    have hOd := Only.more hO2 (Ext.refl w2).drew
    generalize hwd : World.drew w2 = wd at hDd hOd ⊢
    clear hwd
    refine wpAnyT_takeL (i := 0) 13 (v := ?_) rfl (by kernel_rfl) (by kernel_rfl) (by kernel_rfl) (by kernel_rfl) (by kernel_rfl) (fun _ _ _ h => h) (Or.inl ⟨by rfl, ?_⟩) trivial ?_
    rotate_left 1
    · (intro W hSw; (try dsimp only at hSw); go_simp) <;> with_reducible rfl
    try simp only [Act.put, List.setIfInBounds_toArray, List.set_cons_zero, List.set_cons_succ]
    refine wpAnyT_takeL (i := 1) 13 (v := ?_) rfl (by kernel_rfl) (by kernel_rfl) (by kernel_rfl) (by kernel_rfl) (by kernel_rfl) (fun _ _ _ h => h) (Or.inl ⟨by rfl, ?_⟩) trivial ?_
    rotate_left 1
    · (intro W hSw; (try dsimp only at hSw); go_simp) <;> with_reducible rfl
    try simp only [Act.put, List.setIfInBounds_toArray, List.set_cons_zero, List.set_cons_succ]
    refine wpAnyT_takeL (i := 2) 13 (v := ?_) rfl (by kernel_rfl) (by kernel_rfl) (by kernel_rfl) (by kernel_rfl) (by kernel_rfl) (fun _ _ _ h => h) (Or.inl ⟨by rfl, ?_⟩) trivial ?_
    rotate_left 1
    · (intro W hSw; (try dsimp only at hSw); go_simp) <;> with_reducible rfl
    try simp only [Act.put, List.setIfInBounds_toArray, List.set_cons_zero, List.set_cons_succ]
    refine wpAnyT_takeL (i := 4) 13 (v := ?_) rfl (by kernel_rfl) (by kernel_rfl) (by kernel_rfl) (by kernel_rfl) (by kernel_rfl) (fun _ _ _ h => h) (Or.inl ⟨by rfl, ?_⟩) trivial ?_
    rotate_left 1
    · (intro W hSw; (try dsimp only at hSw); go_simp) <;> with_reducible rfl
    try simp only [Act.put, List.setIfInBounds_toArray, List.set_cons_zero, List.set_cons_succ]
    refine wpAnyT_takeL (i := 9) 13 (v := ?_) rfl (by kernel_rfl) (by kernel_rfl) (by kernel_rfl) (by kernel_rfl) (by kernel_rfl) (fun _ _ _ h => h) (Or.inl ⟨by rfl, ?_⟩) trivial ?_
    rotate_left 1
    · (intro W hSw; (try dsimp only at hSw); go_simp) <;> with_reducible rfl
    try simp only [Act.put, List.setIfInBounds_toArray, List.set_cons_zero, List.set_cons_succ]
    refine wpAnyT_takeL (i := 10) 13 (v := ?_) rfl (by kernel_rfl) (by kernel_rfl) (by kernel_rfl) (by kernel_rfl) (by kernel_rfl) (fun _ _ _ h => h) (Or.inl ⟨by rfl, ?_⟩) trivial ?_
    rotate_left 1
    · (intro W hSw; (try dsimp only at hSw); go_simp) <;> with_reducible rfl
    try simp only [Act.put, List.setIfInBounds_toArray, List.set_cons_zero, List.set_cons_succ]
    refine wpAnyT_takeL (i := 11) 13 (v := ?_) rfl (by kernel_rfl) (by kernel_rfl) (by kernel_rfl) (by kernel_rfl) (by kernel_rfl) (fun _ _ _ h => h) (Or.inl ⟨by rfl, ?_⟩) trivial ?_
    rotate_left 1
    · (intro W hSw; (try dsimp only at hSw); go_simp) <;> with_reducible rfl
    try simp only [Act.put, List.setIfInBounds_toArray, List.set_cons_zero, List.set_cons_succ]
    refine wpAnyT_go2 (i := 3) (j := 5) rfl rfl (by kernel_rfl) (fun K hK => ?_) (fun K hK => ?_)
    · go_simp
      have hBk : Blk (wd.alloc (.cells (dmg.map Value.string).toArray 9)) wd.heap.size 9 (dmg.map Value.string).toArray := Blk.new wd 9 _
      refine hK _ _ ⟨fun _ => trivial, ?_⟩
      clear hK K
      refine wpAnyT_go (i := 5) rfl (by kernel_rfl) fun K hK => ?_
      go_simp
      have hlt := hDd.lt
      refine (hkx _ (hDd.alloc _)).mono ?_
      rintro e w3 ⟨x, rfl, ⟨x0, x1⟩, hD3, hO3⟩
      replace hBk := hBk.only hO3 (by omega)
      replace hO3 := Fr.trans (Only.more hOd ((Ext.refl wd).alloc _)) hO3
      obtain ⟨m, rfl⟩ := Int.eq_ofNat_of_zero_le x0
      have hm8 : m < 8 := by omega
      have hm0 : (0 : Int) ≤ (m : Int) := by omega
      have hmI : (m : Int) < 8 := by omega
      clear x0 x1
      obtain ⟨d, hd, hc⟩ : ∃ d : ByteArray, d.size = 1 ∧ w3.cell? ⟨wd.heap.size, m, none⟩ = some (.string d) := by
        have hm : m < dmg.length := hm8
        exact ⟨dmg[m], dmg_one _ (List.getElem_mem hm), hBk.get m _ (by simp [List.getElem?_eq_getElem hm])⟩
      clear hBk
      go_simp
      refine hK _ _ ⟨fun _ => trivial, ?_⟩
      clear hK K
      refine wpAnyT_go (i := 6) rfl (by kernel_rfl) fun K hK => ?_
      go_simp
      refine hK _ _ ⟨fun _ => trivial, ?_⟩
      clear hK K
      refine wpAnyT_go (i := 7) rfl (by kernel_rfl) fun K hK => ?_
      go_simp
      refine hK _ _ ⟨fun _ => trivial, ?_⟩
      clear hK K
      refine wpAnyT_go (i := 8) rfl (by kernel_rfl) fun K hK => ?_
      go_simp
      try rw [if_neg hk1]
      go_simp
      refine hK _ _ ⟨fun _ => trivial, ?_⟩
      clear hK K
      refine wpAnyT_go (i := 12) rfl (by kernel_rfl) fun K hK => ?_
      go_simp
      try rw [if_neg hk2]
      go_simp
      refine hK _ _ ⟨fun _ => trivial, ?_⟩
      clear hK K
      refine wpAnyT_go (i := 13) rfl (by kernel_rfl) fun K hK => ?_
      go_simp
      refine hK _ _ ⟨fun _ => trivial, ?_⟩
      clear hK K
      refine wpAnyT_done (by kernel_rfl) ?_ _
      go_wp2_with fail
      go_ret
      exact ⟨_, rfl, by simp [ByteArray.size_append, ByteArray.size_extract]; omega, hD3, hO3⟩
    · go_simp
      refine (hkx _ hDd).mono ?_
      rintro e w3 ⟨x, rfl, ⟨x0, x1⟩, hD3, hO3⟩
      replace hO3 := Fr.trans hOd hO3
      obtain ⟨m, rfl⟩ := Int.eq_ofNat_of_zero_le x0
      have hm8 : m < 8 := by omega
      have hm0 : (0 : Int) ≤ (m : Int) := by omega
      have hmI : (m : Int) < 8 := by omega
      clear x0 x1
      go_simp
      refine hK _ _ ⟨fun _ => trivial, ?_⟩
      clear hK K
      refine wpAnyT_go (i := 3) rfl (by kernel_rfl) fun K hK => ?_
      go_simp
      have hBk : Blk (w3.alloc (.cells (dmg.map Value.string).toArray 9)) w3.heap.size 9 (dmg.map Value.string).toArray := Blk.new w3 9 _
      replace hD3 := hD3.alloc (.cells (dmg.map Value.string).toArray 9)
      replace hO3 := Only.more hO3 ((Ext.refl w3).alloc (.cells (dmg.map Value.string).toArray 9))
      generalize hw4 : World.alloc w3 _ = w4
      replace hw4 : w3.alloc (.cells (dmg.map Value.string).toArray 9) = w4 := hw4
      rw [hw4] at hBk hD3 hO3
      clear hw4
      obtain ⟨d, hd, hc⟩ : ∃ d : ByteArray, d.size = 1 ∧ w4.cell? ⟨w3.heap.size, m, none⟩ = some (.string d) := by
        have hm : m < dmg.length := hm8
        exact ⟨dmg[m], dmg_one _ (List.getElem_mem hm), hBk.get m _ (by simp [List.getElem?_eq_getElem hm])⟩
      clear hBk
      refine hK _ _ ⟨fun _ => trivial, ?_⟩
      clear hK K
      refine wpAnyT_go (i := 6) rfl (by kernel_rfl) fun K hK => ?_
      go_simp
      refine hK _ _ ⟨fun _ => trivial, ?_⟩
      clear hK K
      refine wpAnyT_go (i := 7) rfl (by kernel_rfl) fun K hK => ?_
      go_simp
      refine hK _ _ ⟨fun _ => trivial, ?_⟩
      clear hK K
      refine wpAnyT_go (i := 8) rfl (by kernel_rfl) fun K hK => ?_
      go_simp
      try rw [if_neg hk1]
      go_simp
      refine hK _ _ ⟨fun _ => trivial, ?_⟩
      clear hK K
      refine wpAnyT_go (i := 12) rfl (by kernel_rfl) fun K hK => ?_
      go_simp
      try rw [if_neg hk2]
      go_simp
      refine hK _ _ ⟨fun _ => trivial, ?_⟩
      clear hK K
      refine wpAnyT_go (i := 13) rfl (by kernel_rfl) fun K hK => ?_
      go_simp
      refine hK _ _ ⟨fun _ => trivial, ?_⟩
      clear hK K
      refine wpAnyT_done (by kernel_rfl) ?_ _
      go_wp2_with fail
      go_ret
      exact ⟨_, rfl, by simp [ByteArray.size_append, ByteArray.size_extract]; omega, hD3, hO3⟩
  · go_wp2_with fail
    · go_quiet (fail)
      go_wp2_with fail
      go_ret
      exact ⟨_, rfl, by simp [ByteArray.size_append, ByteArray.size_extract]; omega, hD2.drewN _, Only.more hO2 ((Ext.refl _).drewN _)⟩
    · go_ret
      exact ⟨t, rfl, by omega, hD2, hO2⟩
  · have e0 : ((j : Int) == 0) = false := by rw [beq_eq_false_iff_ne]; omega
    have e1 : ((j : Int) == 1) = false := by rw [beq_eq_false_iff_ne]; omega
    have e2 : ((j : Int) == 2) = false := by rw [beq_eq_false_iff_ne]; omega
    go_wp2_with fail
    go_ret
    exact ⟨t, rfl, by omega, hD2, hO2⟩
end Go.Proofs.YtfojfndmaofahaaGreatDoor.mem
