/-
  Draws of ties.
-/
import Derived.Test.YtofglgfjlbehmaaGreatDrI
import Derived.Test.YtofglgfjlbehmaaGreatOwX
import Derived.Test.YtofglgfjlbehmaaGreatMg3
namespace Go.Proofs.YtofglgfjlbehmaaGreat.mem
open Go.ChangeShapes Go.WideShapes Go.ChangeAt Go.RowKit
set_option linter.unusedVariables false
/-- some tie is drawn -/
def DtiP (w0 w : World) (g : Nat) (s : Sl) (e : Ending) (w' : World) : Prop := ∃ t : Ti, e = .returned (.agg #[.int .i64 t.n, .string t.s, .int .i64 t.k, .bool t.f]) ∧ t.s.size ≤ 100 ∧ Dr w0 w' g s ∧ Only g w w'
set_option maxRecDepth 20000 in
set_option maxHeartbeats 8000000 in
theorem spec.l13Tie_any (g : Nat) (s : Sl) (w0 w : World) (h : Dr w0 w g s) :
    Calls Tryz.prog 87 #[.pointer (some ⟨g, 0, none⟩)] w fun e w' => DtiP w0 w g s e w' := by
  have hg := h.lt
  have hk12 := fun W h => spec.l01Next_any g s 12 w0 W h (by omega)
  have hk3 := fun W h => spec.l01Next_any g s 3 w0 W h (by omega)
  have hk2 := fun W h => spec.l01Next_any g s 2 w0 W h (by omega)
  have hx3 : Hid (∀ k, k < 3 → ∃ x : ByteArray, (#[(.string ⟨#[98, 101, 114, 103]⟩), (.string ⟨#[115, 116, 101, 105, 110]⟩), (.string ⟨#[116, 97, 108]⟩)] : Array Value)[k]? = some (.string x) ∧ x.size ≤ 100) := hide fun k hk => by
    have : k = 0 ∨ k = 1 ∨ k = 2 := by omega
    rcases this with rfl | rfl | rfl <;> exact ⟨_, rfl, by decide⟩
  have hP := Blk.new w 108 (#[.int .i64 0, .string ⟨#[]⟩, .int .i64 0, .bool false])
  have hX := (Ext.refl w).alloc (.cells #[.int .i64 0, .string ⟨#[]⟩, .int .i64 0, .bool false] 108)
  have hD := h.alloc (.cells #[.int .i64 0, .string ⟨#[]⟩, .int .i64 0, .bool false] 108)
  go_enter Tryz.func87, Tryz.ntmps87
  go_upto_region 1 with fail
  refine wp_region_sink (S := fun _ => True) 15 (by kernel_rfl) ?_
  change wpAnyT _ _ _ _ _ _ _ _ _ (World.drew _)
  replace hX := hX.drew
  replace hD := hD.drew
  replace hP := hP.drew
  have hO := hX.onl (g := g)
  clear hX h
  generalize hw : World.drew _ = w_0 at hP hD hO ⊢
  clear hw
  refine wpAnyT_takeL (i := 0) 8 (v := ?_) rfl (by kernel_rfl) (by kernel_rfl) (by kernel_rfl) (by kernel_rfl) (by kernel_rfl) (fun _ _ _ h => h) (Or.inl ⟨by rfl, ?_⟩) trivial ?_
  rotate_left 1
  · (intro W hSw; (try dsimp only at hSw); go_simp) <;> with_reducible rfl
  try simp only [Act.put, List.setIfInBounds_toArray, List.set_cons_zero, List.set_cons_succ]
  refine wpAnyT_takeL (i := 4) 8 (v := ?_) rfl (by kernel_rfl) (by kernel_rfl) (by kernel_rfl) (by kernel_rfl) (by kernel_rfl) (fun _ _ _ h => h) (Or.inl ⟨by rfl, ?_⟩) trivial ?_
  rotate_left 1
  · (intro W hSw; (try dsimp only at hSw); go_simp) <;> with_reducible rfl
  try simp only [Act.put, List.setIfInBounds_toArray, List.set_cons_zero, List.set_cons_succ]
  refine wpAnyT_takeL (i := 8) 8 (v := ?_) rfl (by kernel_rfl) (by kernel_rfl) (by kernel_rfl) (by kernel_rfl) (by kernel_rfl) (fun _ _ _ h => h) (Or.inl ⟨by rfl, ?_⟩) trivial ?_
  rotate_left 1
  · (intro W hSw; (try dsimp only at hSw); go_simp) <;> with_reducible rfl
  try simp only [Act.put, List.setIfInBounds_toArray, List.set_cons_zero, List.set_cons_succ]
  refine wpAnyT_takeL (i := 11) 8 (v := ?_) rfl (by kernel_rfl) (by kernel_rfl) (by kernel_rfl) (by kernel_rfl) (by kernel_rfl) (fun _ _ _ h => h) (Or.inl ⟨by rfl, ?_⟩) trivial ?_
  rotate_left 1
  · (intro W hSw; (try dsimp only at hSw); go_simp) <;> with_reducible rfl
  try simp only [Act.put, List.setIfInBounds_toArray, List.set_cons_zero, List.set_cons_succ]
  refine wpAnyT_go3 (i := 1) (j := 3) (k := 9) rfl rfl rfl (by kernel_rfl) (fun K hK => ?_) (fun K hK => ?_) (fun K hK => ?_)
  go_simp
  go_at_call 28
  refine (hk12 _ hD).mono ?_
  rintro e w_5n ⟨v1, rfl, ⟨q0, q1⟩, hDn, hOn⟩
  go_simp
  replace hP := hP.only hOn (by omega)
  replace hO := Fr.trans hO hOn
  clear hD
  have hD := hDn
  refine hK _ _ ⟨fun _ => trivial, ?_⟩
  clear hK K hOn hDn q0 q1
  refine wpAnyT_takeL (i := 2) 8 (v := ?_) rfl (by kernel_rfl) (by kernel_rfl) (by kernel_rfl) (by kernel_rfl) (by kernel_rfl) (fun _ _ _ h => h) (Or.inl ⟨by rfl, ?_⟩) trivial ?_
  rotate_left 1
  · (intro W hSw; (try dsimp only at hSw); go_simp) <;> with_reducible rfl
  try simp only [Act.put, List.setIfInBounds_toArray, List.set_cons_zero, List.set_cons_succ]
  revert hP; revert hO; revert hD; revert v1; revert w_5n
  refine ?nt_1
  rotate_left 1
  go_simp
  have hx := (Ext.refl w_0).alloc (.cells #[(.string ⟨#[98, 101, 114, 103]⟩), (.string ⟨#[115, 116, 101, 105, 110]⟩), (.string ⟨#[116, 97, 108]⟩)] 9)
  have BA := Blk.new w_0 9 (#[(.string ⟨#[98, 101, 114, 103]⟩), (.string ⟨#[115, 116, 101, 105, 110]⟩), (.string ⟨#[116, 97, 108]⟩)])
  obtain ⟨bA, hb⟩ : ∃ b, b = w_0.heap.size := ⟨_, rfl⟩
  have hsz := hO.size
  generalize hw : World.alloc w_0 (.cells #[(.string ⟨#[98, 101, 114, 103]⟩), (.string ⟨#[115, 116, 101, 105, 110]⟩), (.string ⟨#[116, 97, 108]⟩)] 9) = w_5n at hx BA ⊢
  rw [← hb] at BA ⊢
  have lA : w.heap.size ≤ bA := by omega
  replace hP := hP.ext hx
  replace hD := hD.more hx
  replace hO := Only.more hO hx
  refine hK _ _ ⟨fun _ => trivial, ?_⟩
  clear hK K hx hw hb hsz
  revert lA; revert BA; revert hP; revert hO; revert hD; revert bA; revert w_5n
  refine ?nt_2
  rotate_left 1
  go_simp
  have hx := (Ext.refl w_0).alloc (.cells #[(.int .i64 0), (.int .i64 1), (.int .i64 2), (.int .i64 3), (.int .i64 3)] 2)
  have BB := Blk.new w_0 2 (#[(.int .i64 0), (.int .i64 1), (.int .i64 2), (.int .i64 3), (.int .i64 3)])
  obtain ⟨bB, hb⟩ : ∃ b, b = w_0.heap.size := ⟨_, rfl⟩
  have hsz := hO.size
  generalize hw : World.alloc w_0 (.cells #[(.int .i64 0), (.int .i64 1), (.int .i64 2), (.int .i64 3), (.int .i64 3)] 2) = w_5n at hx BB ⊢
  rw [← hb] at BB ⊢
  have lB : w.heap.size ≤ bB := by omega
  replace hP := hP.ext hx
  replace hD := hD.more hx
  replace hO := Only.more hO hx
  refine hK _ _ ⟨fun _ => trivial, ?_⟩
  clear hK K hx hw hb hsz
  revert lB; revert BB; revert hP; revert hO; revert hD; revert bB; revert w_5n
  refine ?nt_3
  rotate_left 1
  -- nt_1
  intro w_6 v1 hD hO hP
  refine wpAnyT_go3 (i := 3) (j := 5) (k := 9) rfl rfl rfl (by kernel_rfl) (fun K hK => ?_) (fun K hK => ?_) (fun K hK => ?_)
  go_simp
  have hx := (Ext.refl w_6).alloc (.cells #[(.string ⟨#[98, 101, 114, 103]⟩), (.string ⟨#[115, 116, 101, 105, 110]⟩), (.string ⟨#[116, 97, 108]⟩)] 9)
  have BA := Blk.new w_6 9 (#[(.string ⟨#[98, 101, 114, 103]⟩), (.string ⟨#[115, 116, 101, 105, 110]⟩), (.string ⟨#[116, 97, 108]⟩)])
  obtain ⟨bA, hb⟩ : ∃ b, b = w_6.heap.size := ⟨_, rfl⟩
  have hsz := hO.size
  generalize hw : World.alloc w_6 (.cells #[(.string ⟨#[98, 101, 114, 103]⟩), (.string ⟨#[115, 116, 101, 105, 110]⟩), (.string ⟨#[116, 97, 108]⟩)] 9) = w_7n at hx BA ⊢
  rw [← hb] at BA ⊢
  have lA : w.heap.size ≤ bA := by omega
  replace hP := hP.ext hx
  replace hD := hD.more hx
  replace hO := Only.more hO hx
  refine hK _ _ ⟨fun _ => trivial, ?_⟩
  clear hK K hx hw hb hsz
  revert lA; revert BA; revert hP; revert hO; revert hD; revert v1; revert bA; revert w_7n
  clear w_6
  refine ?nt_4
  rotate_left 1
  go_simp
  go_at_call 28
  refine (hk3 _ hD).mono ?_
  rintro e w_7n ⟨q5, rfl, ⟨q0, q1⟩, hDn, hOn⟩
  go_simp
  obtain ⟨k5, rfl⟩ := Int.eq_ofNat_of_zero_le q0
  have hkI : (k5 : Int) < 3 := by omega
  have hk0 : (0 : Int) ≤ (k5 : Int) := by omega
  replace hP := hP.only hOn (by omega)
  replace hO := Fr.trans hO hOn
  clear hD
  have hD := hDn
  refine hK _ _ ⟨fun _ => trivial, ?_⟩
  clear hK K hOn hDn q0 q1
  revert hk0; revert hkI; revert hP; revert hO; revert hD; revert v1; revert k5; revert w_7n
  clear w_6
  refine ?nt_5
  rotate_left 1
  go_simp
  have hx := (Ext.refl w_6).alloc (.cells #[(.int .i64 0), (.int .i64 1), (.int .i64 2), (.int .i64 3), (.int .i64 3)] 2)
  have BB := Blk.new w_6 2 (#[(.int .i64 0), (.int .i64 1), (.int .i64 2), (.int .i64 3), (.int .i64 3)])
  obtain ⟨bB, hb⟩ : ∃ b, b = w_6.heap.size := ⟨_, rfl⟩
  have hsz := hO.size
  generalize hw : World.alloc w_6 (.cells #[(.int .i64 0), (.int .i64 1), (.int .i64 2), (.int .i64 3), (.int .i64 3)] 2) = w_7n at hx BB ⊢
  rw [← hb] at BB ⊢
  have lB : w.heap.size ≤ bB := by omega
  replace hP := hP.ext hx
  replace hD := hD.more hx
  replace hO := Only.more hO hx
  refine hK _ _ ⟨fun _ => trivial, ?_⟩
  clear hK K hx hw hb hsz
  revert lB; revert BB; revert hP; revert hO; revert hD; revert v1; revert bB; revert w_7n
  clear w_6
  refine ?nt_6
  rotate_left 1
  -- nt_2
  intro w_5 bA hD hO hP BA lA
  refine wpAnyT_go2 (i := 1) (j := 9) rfl rfl (by kernel_rfl) (fun K hK => ?_) (fun K hK => ?_)
  go_simp
  go_at_call 28
  refine (hk12 _ hD).mono ?_
  rintro e w_6n ⟨v1, rfl, ⟨q0, q1⟩, hDn, hOn⟩
  go_simp
  replace BA := BA.only hOn (by omega)
  replace hP := hP.only hOn (by omega)
  replace hO := Fr.trans hO hOn
  clear hD
  have hD := hDn
  refine hK _ _ ⟨fun _ => trivial, ?_⟩
  clear hK K hOn hDn q0 q1
  refine wpAnyT_takeL (i := 2) 8 (v := ?_) rfl (by kernel_rfl) (by kernel_rfl) (by kernel_rfl) (by kernel_rfl) (by kernel_rfl) (fun _ _ _ h => h) (Or.inl ⟨by rfl, ?_⟩) trivial ?_
  rotate_left 1
  · (intro W hSw; (try dsimp only at hSw); go_simp) <;> with_reducible rfl
  try simp only [Act.put, List.setIfInBounds_toArray, List.set_cons_zero, List.set_cons_succ]
  revert lA; revert BA; revert hP; revert hO; revert hD; revert v1; revert bA; revert w_6n
  clear w_5
  exact ?nt_4
  go_simp
  have hx := (Ext.refl w_5).alloc (.cells #[(.int .i64 0), (.int .i64 1), (.int .i64 2), (.int .i64 3), (.int .i64 3)] 2)
  have BB := Blk.new w_5 2 (#[(.int .i64 0), (.int .i64 1), (.int .i64 2), (.int .i64 3), (.int .i64 3)])
  obtain ⟨bB, hb⟩ : ∃ b, b = w_5.heap.size := ⟨_, rfl⟩
  have hsz := hO.size
  generalize hw : World.alloc w_5 (.cells #[(.int .i64 0), (.int .i64 1), (.int .i64 2), (.int .i64 3), (.int .i64 3)] 2) = w_6n at hx BB ⊢
  rw [← hb] at BB ⊢
  have lB : w.heap.size ≤ bB := by omega
  replace BA := BA.ext hx
  replace hP := hP.ext hx
  replace hD := hD.more hx
  replace hO := Only.more hO hx
  refine hK _ _ ⟨fun _ => trivial, ?_⟩
  clear hK K hx hw hb hsz
  revert lB; revert BB; revert lA; revert BA; revert hP; revert hO; revert hD; revert bB; revert bA; revert w_6n
  clear w_5
  refine ?nt_7
  rotate_left 1
  -- nt_3
  intro w_5 bB hD hO hP BB lB
  refine wpAnyT_go2 (i := 1) (j := 3) rfl rfl (by kernel_rfl) (fun K hK => ?_) (fun K hK => ?_)
  go_simp
  go_at_call 28
  refine (hk12 _ hD).mono ?_
  rintro e w_6n ⟨v1, rfl, ⟨q0, q1⟩, hDn, hOn⟩
  go_simp
  replace BB := BB.only hOn (by omega)
  replace hP := hP.only hOn (by omega)
  replace hO := Fr.trans hO hOn
  clear hD
  have hD := hDn
  refine hK _ _ ⟨fun _ => trivial, ?_⟩
  clear hK K hOn hDn q0 q1
  refine wpAnyT_takeL (i := 2) 8 (v := ?_) rfl (by kernel_rfl) (by kernel_rfl) (by kernel_rfl) (by kernel_rfl) (by kernel_rfl) (fun _ _ _ h => h) (Or.inl ⟨by rfl, ?_⟩) trivial ?_
  rotate_left 1
  · (intro W hSw; (try dsimp only at hSw); go_simp) <;> with_reducible rfl
  try simp only [Act.put, List.setIfInBounds_toArray, List.set_cons_zero, List.set_cons_succ]
  revert lB; revert BB; revert hP; revert hO; revert hD; revert v1; revert bB; revert w_6n
  clear w_5
  exact ?nt_6
  go_simp
  have hx := (Ext.refl w_5).alloc (.cells #[(.string ⟨#[98, 101, 114, 103]⟩), (.string ⟨#[115, 116, 101, 105, 110]⟩), (.string ⟨#[116, 97, 108]⟩)] 9)
  have BA := Blk.new w_5 9 (#[(.string ⟨#[98, 101, 114, 103]⟩), (.string ⟨#[115, 116, 101, 105, 110]⟩), (.string ⟨#[116, 97, 108]⟩)])
  obtain ⟨bA, hb⟩ : ∃ b, b = w_5.heap.size := ⟨_, rfl⟩
  have hsz := hO.size
  generalize hw : World.alloc w_5 (.cells #[(.string ⟨#[98, 101, 114, 103]⟩), (.string ⟨#[115, 116, 101, 105, 110]⟩), (.string ⟨#[116, 97, 108]⟩)] 9) = w_6n at hx BA ⊢
  rw [← hb] at BA ⊢
  have lA : w.heap.size ≤ bA := by omega
  replace BB := BB.ext hx
  replace hP := hP.ext hx
  replace hD := hD.more hx
  replace hO := Only.more hO hx
  refine hK _ _ ⟨fun _ => trivial, ?_⟩
  clear hK K hx hw hb hsz
  revert lB; revert BB; revert lA; revert BA; revert hP; revert hO; revert hD; revert bB; revert bA; revert w_6n
  clear w_5
  exact ?nt_7
  -- nt_4
  intro w_7 bA v1 hD hO hP BA lA
  refine wpAnyT_go2 (i := 5) (j := 9) rfl rfl (by kernel_rfl) (fun K hK => ?_) (fun K hK => ?_)
  go_simp
  go_at_call 28
  refine (hk3 _ hD).mono ?_
  rintro e w_8n ⟨q5, rfl, ⟨q0, q1⟩, hDn, hOn⟩
  go_simp
  obtain ⟨k5, rfl⟩ := Int.eq_ofNat_of_zero_le q0
  have hkI : (k5 : Int) < 3 := by omega
  have hk0 : (0 : Int) ≤ (k5 : Int) := by omega
  replace BA := BA.only hOn (by omega)
  replace hP := hP.only hOn (by omega)
  replace hO := Fr.trans hO hOn
  clear hD
  have hD := hDn
  refine hK _ _ ⟨fun _ => trivial, ?_⟩
  clear hK K hOn hDn q0 q1
  refine wpAnyT_takeL (i := 6) 8 (v := ?_) rfl (by kernel_rfl) (by kernel_rfl) (by kernel_rfl) (by kernel_rfl) (by kernel_rfl) (fun _ _ _ h => h) (Or.inl ⟨by rfl, ?_⟩) trivial ?_
  rotate_left 1
  · (intro W hSw; (try dsimp only at hSw); go_simp) <;> with_reducible rfl
  try simp only [Act.put, List.setIfInBounds_toArray, List.set_cons_zero, List.set_cons_succ]
  revert hk0; revert hkI; revert lA; revert BA; revert hP; revert hO; revert hD; revert v1; revert k5; revert bA; revert w_8n
  clear w_7
  refine ?nt_8
  rotate_left 1
  go_simp
  have hx := (Ext.refl w_7).alloc (.cells #[(.int .i64 0), (.int .i64 1), (.int .i64 2), (.int .i64 3), (.int .i64 3)] 2)
  have BB := Blk.new w_7 2 (#[(.int .i64 0), (.int .i64 1), (.int .i64 2), (.int .i64 3), (.int .i64 3)])
  obtain ⟨bB, hb⟩ : ∃ b, b = w_7.heap.size := ⟨_, rfl⟩
  have hsz := hO.size
  generalize hw : World.alloc w_7 (.cells #[(.int .i64 0), (.int .i64 1), (.int .i64 2), (.int .i64 3), (.int .i64 3)] 2) = w_8n at hx BB ⊢
  rw [← hb] at BB ⊢
  have lB : w.heap.size ≤ bB := by omega
  replace BA := BA.ext hx
  replace hP := hP.ext hx
  replace hD := hD.more hx
  replace hO := Only.more hO hx
  refine hK _ _ ⟨fun _ => trivial, ?_⟩
  clear hK K hx hw hb hsz
  revert lB; revert BB; revert lA; revert BA; revert hP; revert hO; revert hD; revert v1; revert bB; revert bA; revert w_8n
  clear w_7
  refine ?nt_9
  rotate_left 1
  -- nt_5
  intro w_7 k5 v1 hD hO hP hkI hk0
  refine wpAnyT_go2 (i := 3) (j := 9) rfl rfl (by kernel_rfl) (fun K hK => ?_) (fun K hK => ?_)
  go_simp
  have hx := (Ext.refl w_7).alloc (.cells #[(.string ⟨#[98, 101, 114, 103]⟩), (.string ⟨#[115, 116, 101, 105, 110]⟩), (.string ⟨#[116, 97, 108]⟩)] 9)
  have BA := Blk.new w_7 9 (#[(.string ⟨#[98, 101, 114, 103]⟩), (.string ⟨#[115, 116, 101, 105, 110]⟩), (.string ⟨#[116, 97, 108]⟩)])
  obtain ⟨bA, hb⟩ : ∃ b, b = w_7.heap.size := ⟨_, rfl⟩
  have hsz := hO.size
  generalize hw : World.alloc w_7 (.cells #[(.string ⟨#[98, 101, 114, 103]⟩), (.string ⟨#[115, 116, 101, 105, 110]⟩), (.string ⟨#[116, 97, 108]⟩)] 9) = w_8n at hx BA ⊢
  rw [← hb] at BA ⊢
  have lA : w.heap.size ≤ bA := by omega
  replace hP := hP.ext hx
  replace hD := hD.more hx
  replace hO := Only.more hO hx
  refine hK _ _ ⟨fun _ => trivial, ?_⟩
  clear hK K hx hw hb hsz
  refine wpAnyT_takeL (i := 6) 8 (v := ?_) rfl (by kernel_rfl) (by kernel_rfl) (by kernel_rfl) (by kernel_rfl) (by kernel_rfl) (fun _ _ _ h => h) (Or.inl ⟨by rfl, ?_⟩) trivial ?_
  rotate_left 1
  · (intro W hSw; (try dsimp only at hSw); go_simp) <;> with_reducible rfl
  try simp only [Act.put, List.setIfInBounds_toArray, List.set_cons_zero, List.set_cons_succ]
  revert hk0; revert hkI; revert lA; revert BA; revert hP; revert hO; revert hD; revert v1; revert k5; revert bA; revert w_8n
  clear w_7
  exact ?nt_8
  go_simp
  have hx := (Ext.refl w_7).alloc (.cells #[(.int .i64 0), (.int .i64 1), (.int .i64 2), (.int .i64 3), (.int .i64 3)] 2)
  have BB := Blk.new w_7 2 (#[(.int .i64 0), (.int .i64 1), (.int .i64 2), (.int .i64 3), (.int .i64 3)])
  obtain ⟨bB, hb⟩ : ∃ b, b = w_7.heap.size := ⟨_, rfl⟩
  have hsz := hO.size
  generalize hw : World.alloc w_7 (.cells #[(.int .i64 0), (.int .i64 1), (.int .i64 2), (.int .i64 3), (.int .i64 3)] 2) = w_8n at hx BB ⊢
  rw [← hb] at BB ⊢
  have lB : w.heap.size ≤ bB := by omega
  replace hP := hP.ext hx
  replace hD := hD.more hx
  replace hO := Only.more hO hx
  refine hK _ _ ⟨fun _ => trivial, ?_⟩
  clear hK K hx hw hb hsz
  revert lB; revert BB; revert hk0; revert hkI; revert hP; revert hO; revert hD; revert v1; revert bB; revert k5; revert w_8n
  clear w_7
  refine ?nt_10
  rotate_left 1
  -- nt_6
  intro w_7 bB v1 hD hO hP BB lB
  refine wpAnyT_go2 (i := 3) (j := 5) rfl rfl (by kernel_rfl) (fun K hK => ?_) (fun K hK => ?_)
  go_simp
  have hx := (Ext.refl w_7).alloc (.cells #[(.string ⟨#[98, 101, 114, 103]⟩), (.string ⟨#[115, 116, 101, 105, 110]⟩), (.string ⟨#[116, 97, 108]⟩)] 9)
  have BA := Blk.new w_7 9 (#[(.string ⟨#[98, 101, 114, 103]⟩), (.string ⟨#[115, 116, 101, 105, 110]⟩), (.string ⟨#[116, 97, 108]⟩)])
  obtain ⟨bA, hb⟩ : ∃ b, b = w_7.heap.size := ⟨_, rfl⟩
  have hsz := hO.size
  generalize hw : World.alloc w_7 (.cells #[(.string ⟨#[98, 101, 114, 103]⟩), (.string ⟨#[115, 116, 101, 105, 110]⟩), (.string ⟨#[116, 97, 108]⟩)] 9) = w_8n at hx BA ⊢
  rw [← hb] at BA ⊢
  have lA : w.heap.size ≤ bA := by omega
  replace BB := BB.ext hx
  replace hP := hP.ext hx
  replace hD := hD.more hx
  replace hO := Only.more hO hx
  refine hK _ _ ⟨fun _ => trivial, ?_⟩
  clear hK K hx hw hb hsz
  revert lB; revert BB; revert lA; revert BA; revert hP; revert hO; revert hD; revert v1; revert bB; revert bA; revert w_8n
  clear w_7
  exact ?nt_9
  go_simp
  go_at_call 28
  refine (hk3 _ hD).mono ?_
  rintro e w_8n ⟨q5, rfl, ⟨q0, q1⟩, hDn, hOn⟩
  go_simp
  obtain ⟨k5, rfl⟩ := Int.eq_ofNat_of_zero_le q0
  have hkI : (k5 : Int) < 3 := by omega
  have hk0 : (0 : Int) ≤ (k5 : Int) := by omega
  replace BB := BB.only hOn (by omega)
  replace hP := hP.only hOn (by omega)
  replace hO := Fr.trans hO hOn
  clear hD
  have hD := hDn
  refine hK _ _ ⟨fun _ => trivial, ?_⟩
  clear hK K hOn hDn q0 q1
  revert lB; revert BB; revert hk0; revert hkI; revert hP; revert hO; revert hD; revert v1; revert bB; revert k5; revert w_8n
  clear w_7
  exact ?nt_10
  -- nt_7
  intro w_6 bA bB hD hO hP BA lA BB lB
  refine wpAnyT_go (i := 1) rfl (by kernel_rfl) fun K hK => ?_
  go_simp
  go_at_call 28
  refine (hk12 _ hD).mono ?_
  rintro e w_7n ⟨v1, rfl, ⟨q0, q1⟩, hDn, hOn⟩
  go_simp
  replace BA := BA.only hOn (by omega)
  replace BB := BB.only hOn (by omega)
  replace hP := hP.only hOn (by omega)
  replace hO := Fr.trans hO hOn
  clear hD
  have hD := hDn
  refine hK _ _ ⟨fun _ => trivial, ?_⟩
  clear hK K hOn hDn q0 q1
  refine wpAnyT_takeL (i := 2) 8 (v := ?_) rfl (by kernel_rfl) (by kernel_rfl) (by kernel_rfl) (by kernel_rfl) (by kernel_rfl) (fun _ _ _ h => h) (Or.inl ⟨by rfl, ?_⟩) trivial ?_
  rotate_left 1
  · (intro W hSw; (try dsimp only at hSw); go_simp) <;> with_reducible rfl
  try simp only [Act.put, List.setIfInBounds_toArray, List.set_cons_zero, List.set_cons_succ]
  revert lB; revert BB; revert lA; revert BA; revert hP; revert hO; revert hD; revert v1; revert bB; revert bA; revert w_7n
  clear w_6
  exact ?nt_9
  -- nt_8
  intro w_9 bA k5 v1 hD hO hP BA lA hkI hk0
  refine wpAnyT_go2 (i := 7) (j := 9) rfl rfl (by kernel_rfl) (fun K hK => ?_) (fun K hK => ?_)
  obtain ⟨x, hx, hxs⟩ := hx3.out k5 (by omega)
  have hc := BA.get k5 _ hx
  go_simp
  refine hK _ _ ⟨fun _ => trivial, ?_⟩
  clear hK K hc hx BA lA hkI hk0
  revert hxs; revert hP; revert hO; revert hD; revert v1; revert x; revert k5; revert bA; revert w_9
  refine ?nt_11
  rotate_left 1
  go_simp
  have hx := (Ext.refl w_9).alloc (.cells #[(.int .i64 0), (.int .i64 1), (.int .i64 2), (.int .i64 3), (.int .i64 3)] 2)
  have BB := Blk.new w_9 2 (#[(.int .i64 0), (.int .i64 1), (.int .i64 2), (.int .i64 3), (.int .i64 3)])
  obtain ⟨bB, hb⟩ : ∃ b, b = w_9.heap.size := ⟨_, rfl⟩
  have hsz := hO.size
  generalize hw : World.alloc w_9 (.cells #[(.int .i64 0), (.int .i64 1), (.int .i64 2), (.int .i64 3), (.int .i64 3)] 2) = w_10n at hx BB ⊢
  rw [← hb] at BB ⊢
  have lB : w.heap.size ≤ bB := by omega
  replace BA := BA.ext hx
  replace hP := hP.ext hx
  replace hD := hD.more hx
  replace hO := Only.more hO hx
  refine hK _ _ ⟨fun _ => trivial, ?_⟩
  clear hK K hx hw hb hsz
  revert lB; revert BB; revert hk0; revert hkI; revert lA; revert BA; revert hP; revert hO; revert hD; revert v1; revert bB; revert k5; revert bA; revert w_10n
  clear w_9
  refine ?nt_12
  rotate_left 1
  -- nt_9
  intro w_8 bA bB v1 hD hO hP BA lA BB lB
  refine wpAnyT_go (i := 5) rfl (by kernel_rfl) fun K hK => ?_
  go_simp
  go_at_call 28
  refine (hk3 _ hD).mono ?_
  rintro e w_9n ⟨q5, rfl, ⟨q0, q1⟩, hDn, hOn⟩
  go_simp
  obtain ⟨k5, rfl⟩ := Int.eq_ofNat_of_zero_le q0
  have hkI : (k5 : Int) < 3 := by omega
  have hk0 : (0 : Int) ≤ (k5 : Int) := by omega
  replace BA := BA.only hOn (by omega)
  replace BB := BB.only hOn (by omega)
  replace hP := hP.only hOn (by omega)
  replace hO := Fr.trans hO hOn
  clear hD
  have hD := hDn
  refine hK _ _ ⟨fun _ => trivial, ?_⟩
  clear hK K hOn hDn q0 q1
  refine wpAnyT_takeL (i := 6) 8 (v := ?_) rfl (by kernel_rfl) (by kernel_rfl) (by kernel_rfl) (by kernel_rfl) (by kernel_rfl) (fun _ _ _ h => h) (Or.inl ⟨by rfl, ?_⟩) trivial ?_
  rotate_left 1
  · (intro W hSw; (try dsimp only at hSw); go_simp) <;> with_reducible rfl
  try simp only [Act.put, List.setIfInBounds_toArray, List.set_cons_zero, List.set_cons_succ]
  revert lB; revert BB; revert hk0; revert hkI; revert lA; revert BA; revert hP; revert hO; revert hD; revert v1; revert bB; revert k5; revert bA; revert w_9n
  clear w_8
  exact ?nt_12
  -- nt_10
  intro w_8 k5 bB v1 hD hO hP hkI hk0 BB lB
  refine wpAnyT_go2 (i := 3) (j := 10) rfl rfl (by kernel_rfl) (fun K hK => ?_) (fun K hK => ?_)
  go_simp
  have hx := (Ext.refl w_8).alloc (.cells #[(.string ⟨#[98, 101, 114, 103]⟩), (.string ⟨#[115, 116, 101, 105, 110]⟩), (.string ⟨#[116, 97, 108]⟩)] 9)
  have BA := Blk.new w_8 9 (#[(.string ⟨#[98, 101, 114, 103]⟩), (.string ⟨#[115, 116, 101, 105, 110]⟩), (.string ⟨#[116, 97, 108]⟩)])
  obtain ⟨bA, hb⟩ : ∃ b, b = w_8.heap.size := ⟨_, rfl⟩
  have hsz := hO.size
  generalize hw : World.alloc w_8 (.cells #[(.string ⟨#[98, 101, 114, 103]⟩), (.string ⟨#[115, 116, 101, 105, 110]⟩), (.string ⟨#[116, 97, 108]⟩)] 9) = w_9n at hx BA ⊢
  rw [← hb] at BA ⊢
  have lA : w.heap.size ≤ bA := by omega
  replace BB := BB.ext hx
  replace hP := hP.ext hx
  replace hD := hD.more hx
  replace hO := Only.more hO hx
  refine hK _ _ ⟨fun _ => trivial, ?_⟩
  clear hK K hx hw hb hsz
  refine wpAnyT_takeL (i := 6) 8 (v := ?_) rfl (by kernel_rfl) (by kernel_rfl) (by kernel_rfl) (by kernel_rfl) (by kernel_rfl) (fun _ _ _ h => h) (Or.inl ⟨by rfl, ?_⟩) trivial ?_
  rotate_left 1
  · (intro W hSw; (try dsimp only at hSw); go_simp) <;> with_reducible rfl
  try simp only [Act.put, List.setIfInBounds_toArray, List.set_cons_zero, List.set_cons_succ]
  revert lB; revert BB; revert hk0; revert hkI; revert lA; revert BA; revert hP; revert hO; revert hD; revert v1; revert bB; revert k5; revert bA; revert w_9n
  clear w_8
  exact ?nt_12
  go_simp
  go_at_call 38
  refine (spec.l01Pick_any g bB s [0, 1, 2, 3, 3] w0 _ hD BB (by omega) (by simp) (by simp)).mono ?_
  rintro e w_9n ⟨v10, rfl, hm, hDn, hOn⟩
  go_simp
  replace hP := hP.only hOn (by omega)
  replace hO := Fr.trans hO hOn
  clear hD
  have hD := hDn
  refine hK _ _ ⟨fun _ => trivial, ?_⟩
  clear hK K hOn hDn hm BB lB
  revert hk0; revert hkI; revert hP; revert hO; revert hD; revert v10; revert v1; revert bB; revert k5; revert w_9n
  clear w_8
  refine ?nt_13
  rotate_left 1
  -- nt_11
  intro w_10 bA k5 x v1 hD hO hP hxs
  refine wpAnyT_go (i := 9) rfl (by kernel_rfl) fun K hK => ?_
  go_simp
  have hx := (Ext.refl w_10).alloc (.cells #[(.int .i64 0), (.int .i64 1), (.int .i64 2), (.int .i64 3), (.int .i64 3)] 2)
  have BB := Blk.new w_10 2 (#[(.int .i64 0), (.int .i64 1), (.int .i64 2), (.int .i64 3), (.int .i64 3)])
  obtain ⟨bB, hb⟩ : ∃ b, b = w_10.heap.size := ⟨_, rfl⟩
  have hsz := hO.size
  generalize hw : World.alloc w_10 (.cells #[(.int .i64 0), (.int .i64 1), (.int .i64 2), (.int .i64 3), (.int .i64 3)] 2) = w_11n at hx BB ⊢
  rw [← hb] at BB ⊢
  have lB : w.heap.size ≤ bB := by omega
  replace hP := hP.ext hx
  replace hD := hD.more hx
  replace hO := Only.more hO hx
  refine hK _ _ ⟨fun _ => trivial, ?_⟩
  clear hK K hx hw hb hsz
  revert lB; revert BB; revert hxs; revert hP; revert hO; revert hD; revert v1; revert bB; revert x; revert k5; revert bA; revert w_11n
  clear w_10
  refine ?nt_14
  rotate_left 1
  -- nt_12
  intro w_10 bA k5 bB v1 hD hO hP BA lA hkI hk0 BB lB
  refine wpAnyT_go2 (i := 7) (j := 10) rfl rfl (by kernel_rfl) (fun K hK => ?_) (fun K hK => ?_)
  obtain ⟨x, hx, hxs⟩ := hx3.out k5 (by omega)
  have hc := BA.get k5 _ hx
  go_simp
  refine hK _ _ ⟨fun _ => trivial, ?_⟩
  clear hK K hc hx BA lA hkI hk0
  revert lB; revert BB; revert hxs; revert hP; revert hO; revert hD; revert v1; revert bB; revert x; revert k5; revert bA; revert w_10
  exact ?nt_14
  go_simp
  go_at_call 38
  refine (spec.l01Pick_any g bB s [0, 1, 2, 3, 3] w0 _ hD BB (by omega) (by simp) (by simp)).mono ?_
  rintro e w_11n ⟨v10, rfl, hm, hDn, hOn⟩
  go_simp
  replace BA := BA.only hOn (by omega)
  replace hP := hP.only hOn (by omega)
  replace hO := Fr.trans hO hOn
  clear hD
  have hD := hDn
  refine hK _ _ ⟨fun _ => trivial, ?_⟩
  clear hK K hOn hDn hm BB lB
  revert hk0; revert hkI; revert lA; revert BA; revert hP; revert hO; revert hD; revert v10; revert v1; revert bB; revert k5; revert bA; revert w_11n
  clear w_10
  refine ?nt_15
  rotate_left 1
  -- nt_13
  intro w_9 k5 bB v1 v10 hD hO hP hkI hk0
  refine wpAnyT_go2 (i := 3) (j := 12) rfl rfl (by kernel_rfl) (fun K hK => ?_) (fun K hK => ?_)
  go_simp
  have hx := (Ext.refl w_9).alloc (.cells #[(.string ⟨#[98, 101, 114, 103]⟩), (.string ⟨#[115, 116, 101, 105, 110]⟩), (.string ⟨#[116, 97, 108]⟩)] 9)
  have BA := Blk.new w_9 9 (#[(.string ⟨#[98, 101, 114, 103]⟩), (.string ⟨#[115, 116, 101, 105, 110]⟩), (.string ⟨#[116, 97, 108]⟩)])
  obtain ⟨bA, hb⟩ : ∃ b, b = w_9.heap.size := ⟨_, rfl⟩
  have hsz := hO.size
  generalize hw : World.alloc w_9 (.cells #[(.string ⟨#[98, 101, 114, 103]⟩), (.string ⟨#[115, 116, 101, 105, 110]⟩), (.string ⟨#[116, 97, 108]⟩)] 9) = w_10n at hx BA ⊢
  rw [← hb] at BA ⊢
  have lA : w.heap.size ≤ bA := by omega
  replace hP := hP.ext hx
  replace hD := hD.more hx
  replace hO := Only.more hO hx
  refine hK _ _ ⟨fun _ => trivial, ?_⟩
  clear hK K hx hw hb hsz
  refine wpAnyT_takeL (i := 6) 8 (v := ?_) rfl (by kernel_rfl) (by kernel_rfl) (by kernel_rfl) (by kernel_rfl) (by kernel_rfl) (fun _ _ _ h => h) (Or.inl ⟨by rfl, ?_⟩) trivial ?_
  rotate_left 1
  · (intro W hSw; (try dsimp only at hSw); go_simp) <;> with_reducible rfl
  try simp only [Act.put, List.setIfInBounds_toArray, List.set_cons_zero, List.set_cons_succ]
  revert hk0; revert hkI; revert lA; revert BA; revert hP; revert hO; revert hD; revert v10; revert v1; revert bB; revert k5; revert bA; revert w_10n
  clear w_9
  exact ?nt_15
  go_simp
  go_at_call 28
  refine (hk2 _ hD).mono ?_
  rintro e w_10n ⟨v12, rfl, ⟨q0, q1⟩, hDn, hOn⟩
  go_simp
  replace hP := hP.only hOn (by omega)
  replace hO := Fr.trans hO hOn
  clear hD
  have hD := hDn
  refine hK _ _ ⟨fun _ => trivial, ?_⟩
  clear hK K hOn hDn q0 q1
  refine wpAnyT_takeL (i := 13) 8 (v := ?_) rfl (by kernel_rfl) (by kernel_rfl) (by kernel_rfl) (by kernel_rfl) (by kernel_rfl) (fun _ _ _ h => h) (Or.inl ⟨by rfl, ?_⟩) trivial ?_
  rotate_left 1
  · (intro W hSw; (try dsimp only at hSw); go_simp) <;> with_reducible rfl
  try simp only [Act.put, List.setIfInBounds_toArray, List.set_cons_zero, List.set_cons_succ]
  revert hk0; revert hkI; revert hP; revert hO; revert hD; revert v12; revert v10; revert v1; revert bB; revert k5; revert w_10n
  clear w_9
  refine ?nt_16
  rotate_left 1
  -- nt_14
  intro w_11 bA k5 x bB v1 hD hO hP hxs BB lB
  refine wpAnyT_go (i := 10) rfl (by kernel_rfl) fun K hK => ?_
  go_simp
  go_at_call 38
  refine (spec.l01Pick_any g bB s [0, 1, 2, 3, 3] w0 _ hD BB (by omega) (by simp) (by simp)).mono ?_
  rintro e w_12n ⟨v10, rfl, hm, hDn, hOn⟩
  go_simp
  replace hP := hP.only hOn (by omega)
  replace hO := Fr.trans hO hOn
  clear hD
  have hD := hDn
  refine hK _ _ ⟨fun _ => trivial, ?_⟩
  clear hK K hOn hDn hm BB lB
  revert hxs; revert hP; revert hO; revert hD; revert v10; revert v1; revert bB; revert x; revert k5; revert bA; revert w_12n
  clear w_11
  refine ?nt_17
  rotate_left 1
  -- nt_15
  intro w_11 bA k5 bB v1 v10 hD hO hP BA lA hkI hk0
  refine wpAnyT_go2 (i := 7) (j := 12) rfl rfl (by kernel_rfl) (fun K hK => ?_) (fun K hK => ?_)
  obtain ⟨x, hx, hxs⟩ := hx3.out k5 (by omega)
  have hc := BA.get k5 _ hx
  go_simp
  refine hK _ _ ⟨fun _ => trivial, ?_⟩
  clear hK K hc hx BA lA hkI hk0
  revert hxs; revert hP; revert hO; revert hD; revert v10; revert v1; revert bB; revert x; revert k5; revert bA; revert w_11
  exact ?nt_17
  go_simp
  go_at_call 28
  refine (hk2 _ hD).mono ?_
  rintro e w_12n ⟨v12, rfl, ⟨q0, q1⟩, hDn, hOn⟩
  go_simp
  replace BA := BA.only hOn (by omega)
  replace hP := hP.only hOn (by omega)
  replace hO := Fr.trans hO hOn
  clear hD
  have hD := hDn
  refine hK _ _ ⟨fun _ => trivial, ?_⟩
  clear hK K hOn hDn q0 q1
  refine wpAnyT_takeL (i := 13) 8 (v := ?_) rfl (by kernel_rfl) (by kernel_rfl) (by kernel_rfl) (by kernel_rfl) (by kernel_rfl) (fun _ _ _ h => h) (Or.inl ⟨by rfl, ?_⟩) trivial ?_
  rotate_left 1
  · (intro W hSw; (try dsimp only at hSw); go_simp) <;> with_reducible rfl
  try simp only [Act.put, List.setIfInBounds_toArray, List.set_cons_zero, List.set_cons_succ]
  revert hk0; revert hkI; revert lA; revert BA; revert hP; revert hO; revert hD; revert v12; revert v10; revert v1; revert bB; revert k5; revert bA; revert w_12n
  clear w_11
  refine ?nt_18
  rotate_left 1
  -- nt_16
  intro w_11 k5 bB v1 v10 v12 hD hO hP hkI hk0
  refine wpAnyT_go (i := 3) rfl (by kernel_rfl) fun K hK => ?_
  go_simp
  have hx := (Ext.refl w_11).alloc (.cells #[(.string ⟨#[98, 101, 114, 103]⟩), (.string ⟨#[115, 116, 101, 105, 110]⟩), (.string ⟨#[116, 97, 108]⟩)] 9)
  have BA := Blk.new w_11 9 (#[(.string ⟨#[98, 101, 114, 103]⟩), (.string ⟨#[115, 116, 101, 105, 110]⟩), (.string ⟨#[116, 97, 108]⟩)])
  obtain ⟨bA, hb⟩ : ∃ b, b = w_11.heap.size := ⟨_, rfl⟩
  have hsz := hO.size
  generalize hw : World.alloc w_11 (.cells #[(.string ⟨#[98, 101, 114, 103]⟩), (.string ⟨#[115, 116, 101, 105, 110]⟩), (.string ⟨#[116, 97, 108]⟩)] 9) = w_12n at hx BA ⊢
  rw [← hb] at BA ⊢
  have lA : w.heap.size ≤ bA := by omega
  replace hP := hP.ext hx
  replace hD := hD.more hx
  replace hO := Only.more hO hx
  refine hK _ _ ⟨fun _ => trivial, ?_⟩
  clear hK K hx hw hb hsz
  refine wpAnyT_takeL (i := 6) 8 (v := ?_) rfl (by kernel_rfl) (by kernel_rfl) (by kernel_rfl) (by kernel_rfl) (by kernel_rfl) (fun _ _ _ h => h) (Or.inl ⟨by rfl, ?_⟩) trivial ?_
  rotate_left 1
  · (intro W hSw; (try dsimp only at hSw); go_simp) <;> with_reducible rfl
  try simp only [Act.put, List.setIfInBounds_toArray, List.set_cons_zero, List.set_cons_succ]
  revert hk0; revert hkI; revert lA; revert BA; revert hP; revert hO; revert hD; revert v12; revert v10; revert v1; revert bB; revert k5; revert bA; revert w_12n
  clear w_11
  exact ?nt_18
  -- nt_17
  intro w_12 bA k5 x bB v1 v10 hD hO hP hxs
  refine wpAnyT_go (i := 12) rfl (by kernel_rfl) fun K hK => ?_
  go_simp
  go_at_call 28
  refine (hk2 _ hD).mono ?_
  rintro e w_13n ⟨v12, rfl, ⟨q0, q1⟩, hDn, hOn⟩
  go_simp
  replace hP := hP.only hOn (by omega)
  replace hO := Fr.trans hO hOn
  clear hD
  have hD := hDn
  refine hK _ _ ⟨fun _ => trivial, ?_⟩
  clear hK K hOn hDn q0 q1
  refine wpAnyT_takeL (i := 13) 8 (v := ?_) rfl (by kernel_rfl) (by kernel_rfl) (by kernel_rfl) (by kernel_rfl) (by kernel_rfl) (fun _ _ _ h => h) (Or.inl ⟨by rfl, ?_⟩) trivial ?_
  rotate_left 1
  · (intro W hSw; (try dsimp only at hSw); go_simp) <;> with_reducible rfl
  try simp only [Act.put, List.setIfInBounds_toArray, List.set_cons_zero, List.set_cons_succ]
  refine wpAnyT_takeL (i := 14) 8 (v := ?_) rfl (by kernel_rfl) (by kernel_rfl) (by kernel_rfl) (by kernel_rfl) (by kernel_rfl) (fun _ _ _ h => h) (Or.inl ⟨by rfl, ?_⟩) trivial ?_
  rotate_left 1
  · (intro W hSw; (try dsimp only at hSw); go_simp) <;> with_reducible rfl
  try simp only [Act.put, List.setIfInBounds_toArray, List.set_cons_zero, List.set_cons_succ]
  revert hxs; revert hP; revert hO; revert hD; revert v12; revert v10; revert v1; revert bB; revert x; revert k5; revert bA; revert w_13n
  clear w_12
  refine ?nt_19
  rotate_left 1
  -- nt_18
  intro w_13 bA k5 bB v1 v10 v12 hD hO hP BA lA hkI hk0
  refine wpAnyT_go (i := 7) rfl (by kernel_rfl) fun K hK => ?_
  obtain ⟨x, hx, hxs⟩ := hx3.out k5 (by omega)
  have hc := BA.get k5 _ hx
  go_simp
  refine hK _ _ ⟨fun _ => trivial, ?_⟩
  clear hK K hc hx BA lA hkI hk0
  refine wpAnyT_takeL (i := 14) 8 (v := ?_) rfl (by kernel_rfl) (by kernel_rfl) (by kernel_rfl) (by kernel_rfl) (by kernel_rfl) (fun _ _ _ h => h) (Or.inl ⟨by rfl, ?_⟩) trivial ?_
  rotate_left 1
  · (intro W hSw; (try dsimp only at hSw); go_simp) <;> with_reducible rfl
  try simp only [Act.put, List.setIfInBounds_toArray, List.set_cons_zero, List.set_cons_succ]
  revert hxs; revert hP; revert hO; revert hD; revert v12; revert v10; revert v1; revert bB; revert x; revert k5; revert bA; revert w_13
  exact ?nt_19
  -- nt_19
  intro w_15 bA k5 x bB v1 v10 v12 hD hO hP hxs
  refine wpAnyT_go (i := 15) rfl (by kernel_rfl) fun K hK => ?_
  have c0 := hP.get 0 _ rfl
  have c1 := hP.get 1 _ rfl
  have c2 := hP.get 2 _ rfl
  have c3 := hP.get 3 _ rfl
  have z0 := hP.frozen 0
  have z1 := hP.frozen 1
  have z2 := hP.frozen 2
  have z3 := hP.frozen 3
  go_simp
  refine hK _ _ ⟨fun h => absurd rfl h, ?_⟩
  clear hK K
  refine wpAnyT_done (by kernel_rfl) ?_ _
  have hPn := (((hP.set_ 0 (.int .i64 (IntKind.i64.wrap (1 + v1)))).set_ 1 (.string x)).set_ 2 (.int .i64 v10)).set_ 3 (.bool (v12 == 0))
  have m0 := hPn.get 0 _ rfl
  have m1 := hPn.get 1 _ rfl
  have m2 := hPn.get 2 _ rfl
  have m3 := hPn.get 3 _ rfl
  have hDn := (((hD.off w.heap.size 0 hg (.int .i64 (IntKind.i64.wrap (1 + v1)))).off w.heap.size 1 hg (.string x)).off w.heap.size 2 hg (.int .i64 v10)).off w.heap.size 3 hg (.bool (v12 == 0))
  have hOn := Only.off (Only.off (Only.off (Only.off hO w.heap.size 0 (Nat.le_refl _) (.int .i64 (IntKind.i64.wrap (1 + v1)))) w.heap.size 1 (Nat.le_refl _) (.string x)) w.heap.size 2 (Nat.le_refl _) (.int .i64 v10)) w.heap.size 3 (Nat.le_refl _) (.bool (v12 == 0))
  clear hP c0 c1 c2 c3 z0 z1 z2 z3 hD hO
  go_wp2_with fail
  exact bodyPost_ret (v := .agg #[.int .i64 (IntKind.i64.wrap (1 + v1)), .string x, .int .i64 v10, .bool (v12 == 0)]) (by simp [results, Tryz.results87, go_sem, m0, m1, m2, m3]) rfl ⟨⟨_, x, v10, v12 == 0⟩, rfl, hxs, hDn, hOn⟩
end Go.Proofs.YtofglgfjlbehmaaGreat.mem
