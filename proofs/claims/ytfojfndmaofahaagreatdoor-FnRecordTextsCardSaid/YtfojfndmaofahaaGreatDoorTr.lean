/-
  The text of a record, in both programs.
-/
import Derived.Test.YtfojfndmaofahaaGreatDoorTn
namespace Go.Proofs.YtfojfndmaofahaaGreatDoor.mem
open Go.ChangeShapes Go.WideShapes Go.ChangeAt Go.RowKit

def slW : ByteArray := ⟨#[47]⟩
def recT (y : RecL) : ByteArray := joinW [itoaW y.a, itoaW y.b, itoaW y.c, numT y.p.x, itoaW y.d, numT y.p.y, mvsT y.p.z, itoaW y.e, itoaW y.f] slW
def rtC (y : RecL) : Int := if okR y = true then 0 else 1
def rtV (y : RecL) : ByteArray := if okR y = true then recT y else ⟨#[]⟩
theorem rt_no {y : RecL} (h : okR y = false) : rtC y = 1 ∧ rtV y = ⟨#[]⟩ := by unfold rtC rtV; rw [h]; exact ⟨rfl, rfl⟩
theorem rt_yes {y : RecL} (h : okR y = true) : rtC y = 0 ∧ rtV y = recT y := by unfold rtC rtV; rw [h]; exact ⟨rfl, rfl⟩
theorem join9 (a b c d e f g h i s : ByteArray) : joinW [a, b, c, d, e, f, g, h, i] s = (joinW [a, b, c] s ++ s ++ d ++ s ++ e ++ s ++ f ++ s ++ g ++ s) ++ joinW [h, i] s := by
  unfold joinW
  apply ByteArray.ext
  simp [Lib.join_cons, Lib.joinTail, List.append_assoc]
theorem inc_num {xs : List Int} (h : incB xs = true) : ∀ x ∈ xs, numB x := by
  intro x hx
  obtain ⟨k, hk⟩ := List.mem_iff_getElem?.1 hx
  unfold incB at h
  rw [List.all_eq_true] at h
  have hu := h k (List.mem_range.2 (List.getElem?_eq_some_iff.1 hk).1)
  unfold upAt at hu
  rw [Bool.and_eq_true, getD_of hk] at hu
  have := inB_iff.1 hu.1
  unfold numB
  omega
theorem str_num {xs : List Int} (h : strB xs = true) : (∀ x ∈ xs, numB x) ∧ xs.length = 2 := by
  unfold strB at h
  simp only [Bool.and_eq_true, decide_eq_true_eq] at h
  obtain ⟨h2, h0, h1⟩ := h
  refine ⟨fun x hx => ?_, h2⟩
  obtain ⟨k, hk⟩ := List.mem_iff_getElem?.1 hx
  have hl := (List.getElem?_eq_some_iff.1 hk).1
  have i0 := inB_iff.1 h0
  have i1 := inB_iff.1 h1
  have hg := getD_of hk
  unfold numB
  rcases (show k = 0 ∨ k = 1 by omega) with rfl | rfl
  · rw [hg] at i0; omega
  · rw [hg] at i1; omega
theorem okR_all {y : RecL} (h : okR y = true) : (numB y.a ∧ numB y.b ∧ numB y.c ∧ (1 ≤ y.d ∧ y.d ≤ 12) ∧ numB y.e ∧ numB y.f) ∧ ((∀ x ∈ y.p.x, numB x) ∧ y.p.x.length ≤ 1000) ∧ ((∀ x ∈ y.p.y, numB x) ∧ y.p.y.length ≤ 1000) ∧ (movB y.p.z = true ∧ y.p.z.length ≤ 40) := by
  unfold okR at h
  simp only [Bool.and_eq_true, decide_eq_true_eq] at h
  obtain ⟨ha, hb, hc, hl, hi, hd, hs, hm, hv, he, hf⟩ := h
  have ia := inB_iff.1 ha
  have ib := inB_iff.1 hb
  have ic := inB_iff.1 hc
  have ie := inB_iff.1 he
  have jf := inB_iff.1 hf
  have hs2 := str_num hs
  unfold numB at *
  exact ⟨⟨by omega, by omega, by omega, inB_iff.1 hd, by omega, by omega⟩, ⟨inc_num hi, by omega⟩, ⟨hs2.1, by omega⟩, hv, hm⟩
theorem mvsT_le {ms : List Int} (h : movB ms = true) (hl : ms.length ≤ 40) : (mvsT ms).size ≤ 1100000 := by
  unfold mvsT
  split
  · decide
  · have h1 := joinW_size (ss := ms.map mvT) (sep := ⟨#[44]⟩) (c := 1) (mvT_le h) (by decide) (ms.map mvT).length (Nat.le_refl _)
    rw [List.take_length, List.length_map] at h1
    have h2 : ms.length * (1000 + 1) ≤ 40 * (1000 + 1) := Nat.mul_le_mul_right _ hl
    omega
theorem cells_of_blk {w : World} {b : Nat} {t : TypeId} {xs : List ByteArray} (h : Blk w b t (xs.map Value.string).toArray) : ∀ (j : Nat) x, xs[j]? = some x → w.cell? ⟨b, 0 + j, none⟩ = some (.string x) := by
  intro j x hx
  rw [Nat.zero_add, h.cell, List.getElem?_toArray, List.getElem?_map, hx]
  rfl
theorem rd_of_blk {w : World} {b : Nat} {xs : List Int} (h : Blk w b 2 (xs.map (Value.int .i64)).toArray) (hl : xs.length ≤ 16777216) : Rd w (some ⟨b, 0, none⟩) xs.length xs :=
  ⟨rfl, hl, fun _ => ⟨b, 0, rfl, h.lt, fun j hj => by rw [Nat.zero_add, h.cell, List.getElem?_toArray, List.getElem?_map, List.getElem?_eq_getElem hj, List.getD_eq_getElem?_getD, List.getElem?_eq_getElem hj]; rfl⟩⟩
set_option maxRecDepth 20000 in
set_option maxHeartbeats 2000000 in
theorem impl.RecordText_any (x : RecA) (y : RecL) (w : World) (hr : RdR w x y) (hT : Tab w) :
    Calls Tryz.prog 21 #[.agg #[.int .i64 x.a, .int .i64 x.b, .int .i64 x.c, .slice x.p.x.A x.p.x.n x.p.x.c, .int .i64 x.d, .slice x.p.y.A x.p.y.n x.p.y.c, .slice x.p.z.A x.p.z.n x.p.z.c, .int .i64 x.e, .int .i64 x.f]] w fun e w' => e = .returned (.tuple #[.string (rtV y), .int .i64 (rtC y)]) ∧ Ext w w' := by
  have hX0 := (Ext.refl w).alloc (.cells #[.int .i64 x.a, .int .i64 x.b, .int .i64 x.c, .slice x.p.x.A x.p.x.n x.p.x.c, .int .i64 x.d, .slice x.p.y.A x.p.y.n x.p.y.c, .slice x.p.z.A x.p.z.n x.p.z.c, .int .i64 x.e, .int .i64 x.f] 36)
  have hB0 := Blk.new w 36 (#[.int .i64 x.a, .int .i64 x.b, .int .i64 x.c, .slice x.p.x.A x.p.x.n x.p.x.c, .int .i64 x.d, .slice x.p.y.A x.p.y.n x.p.y.c, .slice x.p.z.A x.p.z.n x.p.z.c, .int .i64 x.e, .int .i64 x.f])
  obtain ⟨q0, q1, q2, q3, q4, q5, q6, q7, q8⟩ := hB0.c9
  have hk := impl.IsRecord_any x y _ (hr.ext hX0)
  cases hok : okR y
  · have E := hide (rt_no hok)
    rw [hok] at hk
    go_enter Tryz.func21, Tryz.ntmps21
    go_wp2_with fail
    refine hk.mono ?_
    rintro e w1 ⟨rfl, hx1⟩
    go_wp2
    go_ret2
    exact ⟨by rw [E.out.1, E.out.2]; rfl, hX0.trans hx1⟩
  have E := hide (rt_yes hok)
  rw [hok] at hk
  obtain ⟨⟨ba, bb, bc, bd, be, bf⟩, hx, hy, hz⟩ := okR_all hok
  have ea : x.a = y.a := hr.2.1
  have eb : x.b = y.b := hr.2.2.1
  have ec : x.c = y.c := hr.2.2.2.1
  have ed : x.d = y.d := hr.2.2.2.2.1
  have ee : x.e = y.e := hr.2.2.2.2.2.1
  have ef : x.f = y.f := hr.2.2.2.2.2.2
  have sx := numT_le hx.1 hx.2
  have sy := numT_le hy.1 hy.2
  have sz := mvsT_le hz.1 hz.2
  have ca := fun W ht => impl.decimal_any x.a W (by rw [ea]; exact ba) ht
  have cb := fun W ht => impl.decimal_any x.b W (by rw [eb]; exact bb) ht
  have cc := fun W ht => impl.decimal_any x.c W (by rw [ec]; exact bc) ht
  have ce := fun W ht => impl.decimal_any x.e W (by rw [ee]; exact be) ht
  have cf := fun W ht => impl.decimal_any x.f W (by rw [ef]; exact bf) ht
  have cd := fun W ht => impl.decimal_any x.d W (by rw [ed]; unfold numB; omega) ht
  have cx := fun W h ht => impl.numbersText_any x.p.x y.p.x W h hx.1 hx.2 ht
  have cy := fun W h ht => impl.numbersText_any x.p.y y.p.y W h hy.1 hy.2 ht
  have cz := fun W h => impl.movesText_any x.p.z y.p.z W h hz.1 hz.2
  have hP := hide (show recT y = joinW [itoaW x.a, itoaW x.b, itoaW x.c, numT y.p.x, itoaW x.d, numT y.p.y, mvsT y.p.z, itoaW x.e, itoaW x.f] slW by unfold recT; rw [ea, eb, ec, ed, ee, ef])
  have la := itoaW_le (n := x.a) (by rw [ea]; exact ba)
  have lb := itoaW_le (n := x.b) (by rw [eb]; exact bb)
  have lc := itoaW_le (n := x.c) (by rw [ec]; exact bc)
  have ld := itoaW_le (n := x.d) (by rw [ed]; unfold numB; omega)
  have le := itoaW_le (n := x.e) (by rw [ee]; exact be)
  have lf := itoaW_le (n := x.f) (by rw [ef]; exact bf)
  generalize itoaW x.a = sa at *
  generalize itoaW x.b = sb at *
  generalize itoaW x.c = sc at *
  generalize itoaW x.d = sd at *
  generalize itoaW x.e = se at *
  generalize itoaW x.f = sf at *
  generalize numT y.p.x = tx at *
  generalize numT y.p.y = ty at *
  generalize mvsT y.p.z = tz at *
  have hjl := hide (show (Lib.join ([sa, sb, sc, tx, sd, ty, tz, se, sf].map (·.data.toList)) slW.data.toList).length ≤ 140737488355328 by
    have h1 := joinW_size (ss := [sa, sb, sc, tx, sd, ty, tz, se, sf]) (sep := slW) (b := 1100000) (c := 1) (by intro s hs; simp only [List.mem_cons, List.not_mem_nil, or_false] at hs; rcases hs with rfl | rfl | rfl | rfl | rfl | rfl | rfl | rfl | rfl <;> omega) (by decide) 9 (Nat.le_refl _)
    have h2 : (joinW [sa, sb, sc, tx, sd, ty, tz, se, sf] slW).size = (Lib.join ([sa, sb, sc, tx, sd, ty, tz, se, sf].map (·.data.toList)) slW.data.toList).length := by simp [joinW, ByteArray.size]
    rw [List.take_of_length_le (by simp)] at h1
    omega)
  clear ea eb ec ed ee ef ba bb bc bd be bf hx hy hz sx sy sz la lb lc ld le lf hok
  go_enter Tryz.func21, Tryz.ntmps21
  go_wp2_with fail
  refine hk.mono ?_
  rintro e w1 ⟨rfl, hx1⟩
  have hX := hX0.trans hx1
  have hB := hB0.ext hx1
  clear q0 q1 q2 q3 q4 q5 q6 q7 q8 hk hX0 hB0 hx1
  obtain ⟨q0, q1, q2, q3, q4, q5, q6, q7, q8⟩ := hB.c9
  go_upto_region 7 with fail
  have hW := hX.drew
  have hBd := hB.drew
  refine wp_region_sink (S := fun w' => w'.cell? ⟨w.heap.size, 0, none⟩ = some (.int .i64 x.a) ∧ w'.cell? ⟨w.heap.size, 1, none⟩ = some (.int .i64 x.b) ∧ w'.cell? ⟨w.heap.size, 2, none⟩ = some (.int .i64 x.c) ∧ w'.cell? ⟨w.heap.size, 3, none⟩ = some (.slice x.p.x.A x.p.x.n x.p.x.c) ∧ w'.cell? ⟨w.heap.size, 4, none⟩ = some (.int .i64 x.d) ∧ w'.cell? ⟨w.heap.size, 5, none⟩ = some (.slice x.p.y.A x.p.y.n x.p.y.c) ∧ w'.cell? ⟨w.heap.size, 6, none⟩ = some (.slice x.p.z.A x.p.z.n x.p.z.c) ∧ w'.cell? ⟨w.heap.size, 7, none⟩ = some (.int .i64 x.e) ∧ w'.cell? ⟨w.heap.size, 8, none⟩ = some (.int .i64 x.f)) 30 (by kernel_rfl) ?_
  change wpAnyT _ _ _ _ _ _ _ _ _ (World.drew _)
  generalize hwd : World.drew _ = wd at hW hBd ⊢
  clear hwd q0 q1 q2 q3 q4 q5 q6 q7 q8
  have kk := hBd.c9
  refine wpAnyT_takeL (i := 0) 30 (v := ?_) rfl (by kernel_rfl) (by kernel_rfl) (by kernel_rfl) (by kernel_rfl) (by kernel_rfl) (fun _ _ _ h => h) (Or.inl ⟨by rfl, ?_⟩) kk ?_
  rotate_left 1
  · (intro W hSw; (try dsimp only at hSw); go_simp) <;> with_reducible rfl
  try simp only [Act.put, List.setIfInBounds_toArray, List.set_cons_zero, List.set_cons_succ]
  refine wpAnyT_takeL (i := 1) 30 (v := ?_) rfl (by kernel_rfl) (by kernel_rfl) (by kernel_rfl) (by kernel_rfl) (by kernel_rfl) (fun _ _ _ h => h) (Or.inl ⟨by rfl, ?_⟩) kk ?_
  rotate_left 1
  · (intro W hSw; (try dsimp only at hSw); go_simp) <;> with_reducible rfl
  try simp only [Act.put, List.setIfInBounds_toArray, List.set_cons_zero, List.set_cons_succ]
  refine wpAnyT_takeL (i := 3) 30 (v := ?_) rfl (by kernel_rfl) (by kernel_rfl) (by kernel_rfl) (by kernel_rfl) (by kernel_rfl) (fun _ _ _ h => h) (Or.inl ⟨by rfl, ?_⟩) kk ?_
  rotate_left 1
  · (intro W hSw; (try dsimp only at hSw); go_simp) <;> with_reducible rfl
  try simp only [Act.put, List.setIfInBounds_toArray, List.set_cons_zero, List.set_cons_succ]
  refine wpAnyT_takeL (i := 4) 30 (v := ?_) rfl (by kernel_rfl) (by kernel_rfl) (by kernel_rfl) (by kernel_rfl) (by kernel_rfl) (fun _ _ _ h => h) (Or.inl ⟨by rfl, ?_⟩) kk ?_
  rotate_left 1
  · (intro W hSw; (try dsimp only at hSw); go_simp) <;> with_reducible rfl
  try simp only [Act.put, List.setIfInBounds_toArray, List.set_cons_zero, List.set_cons_succ]
  refine wpAnyT_takeL (i := 6) 30 (v := ?_) rfl (by kernel_rfl) (by kernel_rfl) (by kernel_rfl) (by kernel_rfl) (by kernel_rfl) (fun _ _ _ h => h) (Or.inl ⟨by rfl, ?_⟩) kk ?_
  rotate_left 1
  · (intro W hSw; (try dsimp only at hSw); go_simp) <;> with_reducible rfl
  try simp only [Act.put, List.setIfInBounds_toArray, List.set_cons_zero, List.set_cons_succ]
  refine wpAnyT_takeL (i := 7) 30 (v := ?_) rfl (by kernel_rfl) (by kernel_rfl) (by kernel_rfl) (by kernel_rfl) (by kernel_rfl) (fun _ _ _ h => h) (Or.inl ⟨by rfl, ?_⟩) kk ?_
  rotate_left 1
  · (intro W hSw; (try dsimp only at hSw); go_simp) <;> with_reducible rfl
  try simp only [Act.put, List.setIfInBounds_toArray, List.set_cons_zero, List.set_cons_succ]
  refine wpAnyT_takeL (i := 9) 30 (v := ?_) rfl (by kernel_rfl) (by kernel_rfl) (by kernel_rfl) (by kernel_rfl) (by kernel_rfl) (fun _ _ _ h => h) (Or.inl ⟨by rfl, ?_⟩) kk ?_
  rotate_left 1
  · (intro W hSw; (try dsimp only at hSw); go_simp) <;> with_reducible rfl
  try simp only [Act.put, List.setIfInBounds_toArray, List.set_cons_zero, List.set_cons_succ]
  refine wpAnyT_takeL (i := 10) 30 (v := ?_) rfl (by kernel_rfl) (by kernel_rfl) (by kernel_rfl) (by kernel_rfl) (by kernel_rfl) (fun _ _ _ h => h) (Or.inl ⟨by rfl, ?_⟩) kk ?_
  rotate_left 1
  · (intro W hSw; (try dsimp only at hSw); go_simp) <;> with_reducible rfl
  try simp only [Act.put, List.setIfInBounds_toArray, List.set_cons_zero, List.set_cons_succ]
  refine wpAnyT_takeL (i := 12) 30 (v := ?_) rfl (by kernel_rfl) (by kernel_rfl) (by kernel_rfl) (by kernel_rfl) (by kernel_rfl) (fun _ _ _ h => h) (Or.inl ⟨by rfl, ?_⟩) kk ?_
  rotate_left 1
  · (intro W hSw; (try dsimp only at hSw); go_simp) <;> with_reducible rfl
  try simp only [Act.put, List.setIfInBounds_toArray, List.set_cons_zero, List.set_cons_succ]
  refine wpAnyT_takeL (i := 13) 30 (v := ?_) rfl (by kernel_rfl) (by kernel_rfl) (by kernel_rfl) (by kernel_rfl) (by kernel_rfl) (fun _ _ _ h => h) (Or.inl ⟨by rfl, ?_⟩) kk ?_
  rotate_left 1
  · (intro W hSw; (try dsimp only at hSw); go_simp) <;> with_reducible rfl
  try simp only [Act.put, List.setIfInBounds_toArray, List.set_cons_zero, List.set_cons_succ]
  refine wpAnyT_takeL (i := 15) 30 (v := ?_) rfl (by kernel_rfl) (by kernel_rfl) (by kernel_rfl) (by kernel_rfl) (by kernel_rfl) (fun _ _ _ h => h) (Or.inl ⟨by rfl, ?_⟩) kk ?_
  rotate_left 1
  · (intro W hSw; (try dsimp only at hSw); go_simp) <;> with_reducible rfl
  try simp only [Act.put, List.setIfInBounds_toArray, List.set_cons_zero, List.set_cons_succ]
  refine wpAnyT_takeL (i := 16) 30 (v := ?_) rfl (by kernel_rfl) (by kernel_rfl) (by kernel_rfl) (by kernel_rfl) (by kernel_rfl) (fun _ _ _ h => h) (Or.inl ⟨by rfl, ?_⟩) kk ?_
  rotate_left 1
  · (intro W hSw; (try dsimp only at hSw); go_simp) <;> with_reducible rfl
  try simp only [Act.put, List.setIfInBounds_toArray, List.set_cons_zero, List.set_cons_succ]
  refine wpAnyT_takeL (i := 18) 30 (v := ?_) rfl (by kernel_rfl) (by kernel_rfl) (by kernel_rfl) (by kernel_rfl) (by kernel_rfl) (fun _ _ _ h => h) (Or.inl ⟨by rfl, ?_⟩) kk ?_
  rotate_left 1
  · (intro W hSw; (try dsimp only at hSw); go_simp) <;> with_reducible rfl
  try simp only [Act.put, List.setIfInBounds_toArray, List.set_cons_zero, List.set_cons_succ]
  refine wpAnyT_takeL (i := 19) 30 (v := ?_) rfl (by kernel_rfl) (by kernel_rfl) (by kernel_rfl) (by kernel_rfl) (by kernel_rfl) (fun _ _ _ h => h) (Or.inl ⟨by rfl, ?_⟩) kk ?_
  rotate_left 1
  · (intro W hSw; (try dsimp only at hSw); go_simp) <;> with_reducible rfl
  try simp only [Act.put, List.setIfInBounds_toArray, List.set_cons_zero, List.set_cons_succ]
  refine wpAnyT_takeL (i := 21) 30 (v := ?_) rfl (by kernel_rfl) (by kernel_rfl) (by kernel_rfl) (by kernel_rfl) (by kernel_rfl) (fun _ _ _ h => h) (Or.inl ⟨by rfl, ?_⟩) kk ?_
  rotate_left 1
  · (intro W hSw; (try dsimp only at hSw); go_simp) <;> with_reducible rfl
  try simp only [Act.put, List.setIfInBounds_toArray, List.set_cons_zero, List.set_cons_succ]
  refine wpAnyT_takeL (i := 22) 30 (v := ?_) rfl (by kernel_rfl) (by kernel_rfl) (by kernel_rfl) (by kernel_rfl) (by kernel_rfl) (fun _ _ _ h => h) (Or.inl ⟨by rfl, ?_⟩) kk ?_
  rotate_left 1
  · (intro W hSw; (try dsimp only at hSw); go_simp) <;> with_reducible rfl
  try simp only [Act.put, List.setIfInBounds_toArray, List.set_cons_zero, List.set_cons_succ]
  refine wpAnyT_takeL (i := 24) 30 (v := ?_) rfl (by kernel_rfl) (by kernel_rfl) (by kernel_rfl) (by kernel_rfl) (by kernel_rfl) (fun _ _ _ h => h) (Or.inl ⟨by rfl, ?_⟩) kk ?_
  rotate_left 1
  · (intro W hSw; (try dsimp only at hSw); go_simp) <;> with_reducible rfl
  try simp only [Act.put, List.setIfInBounds_toArray, List.set_cons_zero, List.set_cons_succ]
  refine wpAnyT_takeL (i := 25) 30 (v := ?_) rfl (by kernel_rfl) (by kernel_rfl) (by kernel_rfl) (by kernel_rfl) (by kernel_rfl) (fun _ _ _ h => h) (Or.inl ⟨by rfl, ?_⟩) kk ?_
  rotate_left 1
  · (intro W hSw; (try dsimp only at hSw); go_simp) <;> with_reducible rfl
  try simp only [Act.put, List.setIfInBounds_toArray, List.set_cons_zero, List.set_cons_succ]
  refine wpAnyT_go (i := 2) rfl (by kernel_rfl) fun K hK => ?_
  go_simp
  go_at_call 56
  go_fit (ca _ (hT.ext hW))
  rintro e w12 ⟨rfl, hx⟩
  go_simp
  replace hW := hW.trans hx
  replace hBd := hBd.ext hx
  try replace hV := hV.ext hx
  try replace hU := hU.ext hx
  have kk := hBd.c9
  refine hK _ _ ⟨fun _ => kk, ?_⟩
  clear hK K hx
  refine wpAnyT_go (i := 5) rfl (by kernel_rfl) fun K hK => ?_
  go_simp
  go_at_call 56
  go_fit (cb _ (hT.ext hW))
  rintro e w15 ⟨rfl, hx⟩
  go_simp
  replace hW := hW.trans hx
  replace hBd := hBd.ext hx
  try replace hV := hV.ext hx
  try replace hU := hU.ext hx
  have kk := hBd.c9
  refine hK _ _ ⟨fun _ => kk, ?_⟩
  clear hK K hx
  refine wpAnyT_go (i := 8) rfl (by kernel_rfl) fun K hK => ?_
  go_simp
  go_at_call 56
  go_fit (cc _ (hT.ext hW))
  rintro e w18 ⟨rfl, hx⟩
  go_simp
  replace hW := hW.trans hx
  replace hBd := hBd.ext hx
  try replace hV := hV.ext hx
  try replace hU := hU.ext hx
  have kk := hBd.c9
  refine hK _ _ ⟨fun _ => kk, ?_⟩
  clear hK K hx
  refine wpAnyT_go (i := 11) rfl (by kernel_rfl) fun K hK => ?_
  go_simp
  go_at_call 28
  go_fit (cx _ (hr.ext hW).1.1 (hT.ext hW))
  rintro e w21 ⟨rfl, hx⟩
  go_simp
  replace hW := hW.trans hx
  replace hBd := hBd.ext hx
  try replace hV := hV.ext hx
  try replace hU := hU.ext hx
  have kk := hBd.c9
  refine hK _ _ ⟨fun _ => kk, ?_⟩
  clear hK K hx
  refine wpAnyT_go (i := 14) rfl (by kernel_rfl) fun K hK => ?_
  go_simp
  go_at_call 56
  go_fit (cd _ (hT.ext hW))
  rintro e w24 ⟨rfl, hx⟩
  go_simp
  replace hW := hW.trans hx
  replace hBd := hBd.ext hx
  try replace hV := hV.ext hx
  try replace hU := hU.ext hx
  have kk := hBd.c9
  refine hK _ _ ⟨fun _ => kk, ?_⟩
  clear hK K hx
  refine wpAnyT_go (i := 17) rfl (by kernel_rfl) fun K hK => ?_
  go_simp
  go_at_call 28
  go_fit (cy _ (hr.ext hW).1.2.1 (hT.ext hW))
  rintro e w27 ⟨rfl, hx⟩
  go_simp
  replace hW := hW.trans hx
  replace hBd := hBd.ext hx
  try replace hV := hV.ext hx
  try replace hU := hU.ext hx
  have kk := hBd.c9
  refine hK _ _ ⟨fun _ => kk, ?_⟩
  clear hK K hx
  refine wpAnyT_go (i := 20) rfl (by kernel_rfl) fun K hK => ?_
  go_simp
  go_at_call 57
  go_fit (cz _ (hr.ext hW).1.2.2.1)
  rintro e w30 ⟨rfl, hx⟩
  go_simp
  replace hW := hW.trans hx
  replace hBd := hBd.ext hx
  try replace hV := hV.ext hx
  try replace hU := hU.ext hx
  have kk := hBd.c9
  refine hK _ _ ⟨fun _ => kk, ?_⟩
  clear hK K hx
  refine wpAnyT_go (i := 23) rfl (by kernel_rfl) fun K hK => ?_
  go_simp
  go_at_call 56
  go_fit (ce _ (hT.ext hW))
  rintro e w33 ⟨rfl, hx⟩
  go_simp
  replace hW := hW.trans hx
  replace hBd := hBd.ext hx
  try replace hV := hV.ext hx
  try replace hU := hU.ext hx
  have kk := hBd.c9
  refine hK _ _ ⟨fun _ => kk, ?_⟩
  clear hK K hx
  refine wpAnyT_go (i := 26) rfl (by kernel_rfl) fun K hK => ?_
  go_simp
  go_at_call 56
  go_fit (cf _ (hT.ext hW))
  rintro e w36 ⟨rfl, hx⟩
  go_simp
  replace hW := hW.trans hx
  replace hBd := hBd.ext hx
  try replace hV := hV.ext hx
  try replace hU := hU.ext hx
  have kk := hBd.c9
  refine hK _ _ ⟨fun _ => kk, ?_⟩
  clear hK K hx
  refine wpAnyT_go (i := 27) rfl (by kernel_rfl) fun K hK => ?_
  go_simp
  have hx := (Ext.refl w36).alloc (.cells #[.string sa, .string sb, .string sc, .string tx, .string sd, .string ty, .string tz, .string se, .string sf] 9)
  have hV := Blk.new w36 9 (#[.string sa, .string sb, .string sc, .string tx, .string sd, .string ty, .string tz, .string se, .string sf])
  obtain ⟨bV, hb⟩ : ∃ b, b = w36.heap.size := ⟨_, rfl⟩
  generalize hw : World.alloc w36 (.cells #[.string sa, .string sb, .string sc, .string tx, .string sd, .string ty, .string tz, .string se, .string sf] 9) = w40 at hx hV ⊢
  rw [← hb] at hV ⊢
  replace hW := hW.trans hx
  replace hBd := hBd.ext hx
  try replace hU := hU.ext hx
  have kk := hBd.c9
  refine hK _ _ ⟨fun _ => kk, ?_⟩
  clear hK K hx hb hw
  have hV2 : Blk w40 bV 9 ([sa, sb, sc, tx, sd, ty, tz, se, sf].map Value.string).toArray := hV
  have hj : Calls Tryz.prog 55 #[.slice (some ⟨bV, 0, none⟩) 9 9, .string slW] w40 fun e w' => e = .returned (.string (joinW [sa, sb, sc, tx, sd, ty, tz, se, sf] slW)) ∧ Ext w40 w' := Tryz.strings_Join bV 0 9 [sa, sb, sc, tx, sd, ty, tz, se, sf] slW w40 (cells_of_blk hV2) hV.lt (by simp) (by simp) hjl.out
  refine wpAnyT_go (i := 28) rfl (by kernel_rfl) fun K hK => ?_
  go_simp
  go_at_call 55
  go_fit (hj)
  rintro e w41 ⟨rfl, hx⟩
  go_simp
  replace hW := hW.trans hx
  replace hBd := hBd.ext hx
  try replace hV := hV.ext hx
  try replace hU := hU.ext hx
  have kk := hBd.c9
  refine hK _ _ ⟨fun _ => kk, ?_⟩
  clear hK K hx
  refine wpAnyT_go (i := 29) rfl (by kernel_rfl) fun K hK => ?_
  go_simp
  refine hK _ _ ⟨fun _ => kk, ?_⟩
  clear hK K
  refine wpAnyT_go (i := 30) rfl (by kernel_rfl) fun K hK => ?_
  go_simp
  refine hK _ _ ⟨fun h => absurd rfl h, ?_⟩
  clear hK K
  refine wpAnyT_done (by kernel_rfl) ?_ _
  clear kk
  go_wp2
  go_ret2
  exact ⟨by rw [E.out.1, E.out.2, hP.out]; rfl, hW⟩
set_option maxRecDepth 20000 in
set_option maxHeartbeats 4000000 in
theorem spec.l16Text_any (x : RecA) (y : RecL) (w : World) (hr : RdR w x y) (hok : okR y = true) :
    Calls Tryz.prog 48 #[.agg #[.int .i64 x.a, .int .i64 x.b, .int .i64 x.c, .slice x.p.x.A x.p.x.n x.p.x.c, .int .i64 x.d, .slice x.p.y.A x.p.y.n x.p.y.c, .slice x.p.z.A x.p.z.n x.p.z.c, .int .i64 x.e, .int .i64 x.f]] w fun e w' => e = .returned (.string (recT y)) ∧ Ext w w' := by
  have hX := (Ext.refl w).alloc (.cells #[.int .i64 x.a, .int .i64 x.b, .int .i64 x.c, .slice x.p.x.A x.p.x.n x.p.x.c, .int .i64 x.d, .slice x.p.y.A x.p.y.n x.p.y.c, .slice x.p.z.A x.p.z.n x.p.z.c, .int .i64 x.e, .int .i64 x.f] 36)
  have hB := Blk.new w 36 (#[.int .i64 x.a, .int .i64 x.b, .int .i64 x.c, .slice x.p.x.A x.p.x.n x.p.x.c, .int .i64 x.d, .slice x.p.y.A x.p.y.n x.p.y.c, .slice x.p.z.A x.p.z.n x.p.z.c, .int .i64 x.e, .int .i64 x.f])
  obtain ⟨⟨ba, bb, bc, bd, be, bf⟩, hx, hy, hz⟩ := okR_all hok
  have ea : x.a = y.a := hr.2.1
  have eb : x.b = y.b := hr.2.2.1
  have ec : x.c = y.c := hr.2.2.2.1
  have ed : x.d = y.d := hr.2.2.2.2.1
  have ee : x.e = y.e := hr.2.2.2.2.2.1
  have ef : x.f = y.f := hr.2.2.2.2.2.2
  have sx := numT_le hx.1 hx.2
  have sy := numT_le hy.1 hy.2
  have sz := mvsT_le hz.1 hz.2
  obtain ⟨kd, hkd⟩ : ∃ kd : Nat, x.d = (kd : Int) := ⟨x.d.toNat, by omega⟩
  have cA := fun W s h => spec.l01Join_any s [x.a, x.b, x.c] slW W h (by intro n hn; simp only [List.mem_cons, List.not_mem_nil, or_false] at hn; rcases hn with rfl | rfl | rfl; (rw [ea]; exact ba); (rw [eb]; exact bb); (rw [ec]; exact bc)) (by simp) (by decide)
  have cF := fun W s h => spec.l01Join_any s [x.e, x.f] slW W h (by intro n hn; simp only [List.mem_cons, List.not_mem_nil, or_false] at hn; rcases hn with rfl | rfl; (rw [ee]; exact be); (rw [ef]; exact bf)) (by simp) (by decide)
  have cd0 := fun W => spec.l01Dec_any kd W (by omega)
  have cd : ∀ W, Calls Tryz.prog 83 #[.int .i64 x.d] W fun e w' => e = .returned (.string (itoaW x.d)) ∧ Ext W w' := by rw [hkd, itoaW_nat]; exact cd0
  have cx := fun W h => spec.l01Text_any x.p.x y.p.x W h hx.1 hx.2
  have cy := fun W h => spec.l01Text_any x.p.y y.p.y W h hy.1 hy.2
  have cz := fun W h => spec.l14Text_any x.p.z y.p.z W h hz.1 hz.2
  have hP := hide (show recT y = (joinW [itoaW x.a, itoaW x.b, itoaW x.c] slW ++ slW ++ numT y.p.x ++ slW ++ itoaW x.d ++ slW ++ numT y.p.y ++ slW ++ mvsT y.p.z ++ slW) ++ joinW [itoaW x.e, itoaW x.f] slW by unfold recT; rw [← ea, ← eb, ← ec, ← ed, ← ee, ← ef]; exact join9 _ _ _ _ _ _ _ _ _ _)
  have la := itoaW_le (n := x.a) (by rw [ea]; exact ba)
  have lb := itoaW_le (n := x.b) (by rw [eb]; exact bb)
  have lc := itoaW_le (n := x.c) (by rw [ec]; exact bc)
  have ld := itoaW_le (n := x.d) (by rw [ed]; unfold numB; omega)
  have le := itoaW_le (n := x.e) (by rw [ee]; exact be)
  have lf := itoaW_le (n := x.f) (by rw [ef]; exact bf)
  have lA := joinW_size (ss := [itoaW x.a, itoaW x.b, itoaW x.c]) (sep := slW) (b := 20) (c := 1) (by intro s hs; simp only [List.mem_cons, List.not_mem_nil, or_false] at hs; rcases hs with rfl | rfl | rfl <;> assumption) (by decide) 3 (Nat.le_refl _)
  have lF := joinW_size (ss := [itoaW x.e, itoaW x.f]) (sep := slW) (b := 20) (c := 1) (by intro s hs; simp only [List.mem_cons, List.not_mem_nil, or_false] at hs; rcases hs with rfl | rfl <;> assumption) (by decide) 2 (Nat.le_refl _)
  rw [List.take_of_length_le (by simp)] at lA lF
  simp only [List.map_cons, List.map_nil] at cA cF
  generalize joinW [itoaW x.a, itoaW x.b, itoaW x.c] slW = tA at *
  generalize joinW [itoaW x.e, itoaW x.f] slW = tF at *
  generalize itoaW x.d = td at *
  generalize numT y.p.x = tx at *
  generalize numT y.p.y = ty at *
  generalize mvsT y.p.z = tz at *
  have s1 : slW.size = 1 := rfl
  have v0 : ¬ 9223372036854775807 < tA.size + 1 := by omega
  have u0 : (tA ++ slW).size = tA.size + 1 := by rw [ByteArray.size_append, s1]
  have v1 : ¬ 9223372036854775807 < tA.size + 1 + tx.size := by omega
  have u1 : (tA ++ slW ++ tx).size = tA.size + 1 + tx.size := by rw [ByteArray.size_append, u0]
  have v2 : ¬ 9223372036854775807 < tA.size + 1 + tx.size + 1 := by omega
  have u2 : (tA ++ slW ++ tx ++ slW).size = tA.size + 1 + tx.size + 1 := by rw [ByteArray.size_append, u1, s1]
  have v3 : ¬ 9223372036854775807 < tA.size + 1 + tx.size + 1 + td.size := by omega
  have u3 : (tA ++ slW ++ tx ++ slW ++ td).size = tA.size + 1 + tx.size + 1 + td.size := by rw [ByteArray.size_append, u2]
  have v4 : ¬ 9223372036854775807 < tA.size + 1 + tx.size + 1 + td.size + 1 := by omega
  have u4 : (tA ++ slW ++ tx ++ slW ++ td ++ slW).size = tA.size + 1 + tx.size + 1 + td.size + 1 := by rw [ByteArray.size_append, u3, s1]
  have v5 : ¬ 9223372036854775807 < tA.size + 1 + tx.size + 1 + td.size + 1 + ty.size := by omega
  have u5 : (tA ++ slW ++ tx ++ slW ++ td ++ slW ++ ty).size = tA.size + 1 + tx.size + 1 + td.size + 1 + ty.size := by rw [ByteArray.size_append, u4]
  have v6 : ¬ 9223372036854775807 < tA.size + 1 + tx.size + 1 + td.size + 1 + ty.size + 1 := by omega
  have u6 : (tA ++ slW ++ tx ++ slW ++ td ++ slW ++ ty ++ slW).size = tA.size + 1 + tx.size + 1 + td.size + 1 + ty.size + 1 := by rw [ByteArray.size_append, u5, s1]
  have v7 : ¬ 9223372036854775807 < tA.size + 1 + tx.size + 1 + td.size + 1 + ty.size + 1 + tz.size := by omega
  have u7 : (tA ++ slW ++ tx ++ slW ++ td ++ slW ++ ty ++ slW ++ tz).size = tA.size + 1 + tx.size + 1 + td.size + 1 + ty.size + 1 + tz.size := by rw [ByteArray.size_append, u6]
  have v8 : ¬ 9223372036854775807 < tA.size + 1 + tx.size + 1 + td.size + 1 + ty.size + 1 + tz.size + 1 := by omega
  have u8 : (tA ++ slW ++ tx ++ slW ++ td ++ slW ++ ty ++ slW ++ tz ++ slW).size = tA.size + 1 + tx.size + 1 + td.size + 1 + ty.size + 1 + tz.size + 1 := by rw [ByteArray.size_append, u7, s1]
  have v9 : ¬ 9223372036854775807 < tA.size + 1 + tx.size + 1 + td.size + 1 + ty.size + 1 + tz.size + 1 + tF.size := by omega
  have u9 : (tA ++ slW ++ tx ++ slW ++ td ++ slW ++ ty ++ slW ++ tz ++ slW ++ tF).size = tA.size + 1 + tx.size + 1 + td.size + 1 + ty.size + 1 + tz.size + 1 + tF.size := by rw [ByteArray.size_append, u8]
  unfold slW at *
  clear ea eb ec ed ee ef ba bb bc bd be bf hx hy hz sx sy sz la lb lc ld le lf lA lF hok hkd cd0 s1
  go_enter Tryz.func48, Tryz.ntmps48
  go_upto_region 3 with fail
  have hW := hX.drew
  have hBd := hB.drew
  refine wp_region_sink (S := fun w' => w'.cell? ⟨w.heap.size, 0, none⟩ = some (.int .i64 x.a) ∧ w'.cell? ⟨w.heap.size, 1, none⟩ = some (.int .i64 x.b) ∧ w'.cell? ⟨w.heap.size, 2, none⟩ = some (.int .i64 x.c) ∧ w'.cell? ⟨w.heap.size, 3, none⟩ = some (.slice x.p.x.A x.p.x.n x.p.x.c) ∧ w'.cell? ⟨w.heap.size, 4, none⟩ = some (.int .i64 x.d) ∧ w'.cell? ⟨w.heap.size, 5, none⟩ = some (.slice x.p.y.A x.p.y.n x.p.y.c) ∧ w'.cell? ⟨w.heap.size, 6, none⟩ = some (.slice x.p.z.A x.p.z.n x.p.z.c) ∧ w'.cell? ⟨w.heap.size, 7, none⟩ = some (.int .i64 x.e) ∧ w'.cell? ⟨w.heap.size, 8, none⟩ = some (.int .i64 x.f)) 36 (by kernel_rfl) ?_
  change wpAnyT _ _ _ _ _ _ _ _ _ (World.drew _)
  generalize hwd : World.drew _ = wd at hW hBd ⊢
  clear hwd
  have kk := hBd.c9
  refine wpAnyT_takeL (i := 0) 30 (v := ?_) rfl (by kernel_rfl) (by kernel_rfl) (by kernel_rfl) (by kernel_rfl) (by kernel_rfl) (fun _ _ _ h => h) (Or.inl ⟨by rfl, ?_⟩) kk ?_
  rotate_left 1
  · (intro W hSw; (try dsimp only at hSw); go_simp) <;> with_reducible rfl
  try simp only [Act.put, List.setIfInBounds_toArray, List.set_cons_zero, List.set_cons_succ]
  refine wpAnyT_takeL (i := 1) 30 (v := ?_) rfl (by kernel_rfl) (by kernel_rfl) (by kernel_rfl) (by kernel_rfl) (by kernel_rfl) (fun _ _ _ h => h) (Or.inl ⟨by rfl, ?_⟩) kk ?_
  rotate_left 1
  · (intro W hSw; (try dsimp only at hSw); go_simp) <;> with_reducible rfl
  try simp only [Act.put, List.setIfInBounds_toArray, List.set_cons_zero, List.set_cons_succ]
  refine wpAnyT_takeL (i := 2) 30 (v := ?_) rfl (by kernel_rfl) (by kernel_rfl) (by kernel_rfl) (by kernel_rfl) (by kernel_rfl) (fun _ _ _ h => h) (Or.inl ⟨by rfl, ?_⟩) kk ?_
  rotate_left 1
  · (intro W hSw; (try dsimp only at hSw); go_simp) <;> with_reducible rfl
  try simp only [Act.put, List.setIfInBounds_toArray, List.set_cons_zero, List.set_cons_succ]
  refine wpAnyT_takeL (i := 3) 30 (v := ?_) rfl (by kernel_rfl) (by kernel_rfl) (by kernel_rfl) (by kernel_rfl) (by kernel_rfl) (fun _ _ _ h => h) (Or.inl ⟨by rfl, ?_⟩) kk ?_
  rotate_left 1
  · (intro W hSw; (try dsimp only at hSw); go_simp) <;> with_reducible rfl
  try simp only [Act.put, List.setIfInBounds_toArray, List.set_cons_zero, List.set_cons_succ]
  refine wpAnyT_takeL (i := 4) 30 (v := ?_) rfl (by kernel_rfl) (by kernel_rfl) (by kernel_rfl) (by kernel_rfl) (by kernel_rfl) (fun _ _ _ h => h) (Or.inl ⟨by rfl, ?_⟩) kk ?_
  rotate_left 1
  · (intro W hSw; (try dsimp only at hSw); go_simp) <;> with_reducible rfl
  try simp only [Act.put, List.setIfInBounds_toArray, List.set_cons_zero, List.set_cons_succ]
  refine wpAnyT_takeL (i := 5) 30 (v := ?_) rfl (by kernel_rfl) (by kernel_rfl) (by kernel_rfl) (by kernel_rfl) (by kernel_rfl) (fun _ _ _ h => h) (Or.inl ⟨by rfl, ?_⟩) kk ?_
  rotate_left 1
  · (intro W hSw; (try dsimp only at hSw); go_simp) <;> with_reducible rfl
  try simp only [Act.put, List.setIfInBounds_toArray, List.set_cons_zero, List.set_cons_succ]
  refine wpAnyT_takeL (i := 9) 30 (v := ?_) rfl (by kernel_rfl) (by kernel_rfl) (by kernel_rfl) (by kernel_rfl) (by kernel_rfl) (fun _ _ _ h => h) (Or.inl ⟨by rfl, ?_⟩) kk ?_
  rotate_left 1
  · (intro W hSw; (try dsimp only at hSw); go_simp) <;> with_reducible rfl
  try simp only [Act.put, List.setIfInBounds_toArray, List.set_cons_zero, List.set_cons_succ]
  refine wpAnyT_takeL (i := 10) 30 (v := ?_) rfl (by kernel_rfl) (by kernel_rfl) (by kernel_rfl) (by kernel_rfl) (by kernel_rfl) (fun _ _ _ h => h) (Or.inl ⟨by rfl, ?_⟩) kk ?_
  rotate_left 1
  · (intro W hSw; (try dsimp only at hSw); go_simp) <;> with_reducible rfl
  try simp only [Act.put, List.setIfInBounds_toArray, List.set_cons_zero, List.set_cons_succ]
  refine wpAnyT_takeL (i := 14) 30 (v := ?_) rfl (by kernel_rfl) (by kernel_rfl) (by kernel_rfl) (by kernel_rfl) (by kernel_rfl) (fun _ _ _ h => h) (Or.inl ⟨by rfl, ?_⟩) kk ?_
  rotate_left 1
  · (intro W hSw; (try dsimp only at hSw); go_simp) <;> with_reducible rfl
  try simp only [Act.put, List.setIfInBounds_toArray, List.set_cons_zero, List.set_cons_succ]
  refine wpAnyT_takeL (i := 15) 30 (v := ?_) rfl (by kernel_rfl) (by kernel_rfl) (by kernel_rfl) (by kernel_rfl) (by kernel_rfl) (fun _ _ _ h => h) (Or.inl ⟨by rfl, ?_⟩) kk ?_
  rotate_left 1
  · (intro W hSw; (try dsimp only at hSw); go_simp) <;> with_reducible rfl
  try simp only [Act.put, List.setIfInBounds_toArray, List.set_cons_zero, List.set_cons_succ]
  refine wpAnyT_takeL (i := 19) 30 (v := ?_) rfl (by kernel_rfl) (by kernel_rfl) (by kernel_rfl) (by kernel_rfl) (by kernel_rfl) (fun _ _ _ h => h) (Or.inl ⟨by rfl, ?_⟩) kk ?_
  rotate_left 1
  · (intro W hSw; (try dsimp only at hSw); go_simp) <;> with_reducible rfl
  try simp only [Act.put, List.setIfInBounds_toArray, List.set_cons_zero, List.set_cons_succ]
  refine wpAnyT_takeL (i := 20) 30 (v := ?_) rfl (by kernel_rfl) (by kernel_rfl) (by kernel_rfl) (by kernel_rfl) (by kernel_rfl) (fun _ _ _ h => h) (Or.inl ⟨by rfl, ?_⟩) kk ?_
  rotate_left 1
  · (intro W hSw; (try dsimp only at hSw); go_simp) <;> with_reducible rfl
  try simp only [Act.put, List.setIfInBounds_toArray, List.set_cons_zero, List.set_cons_succ]
  refine wpAnyT_takeL (i := 24) 30 (v := ?_) rfl (by kernel_rfl) (by kernel_rfl) (by kernel_rfl) (by kernel_rfl) (by kernel_rfl) (fun _ _ _ h => h) (Or.inl ⟨by rfl, ?_⟩) kk ?_
  rotate_left 1
  · (intro W hSw; (try dsimp only at hSw); go_simp) <;> with_reducible rfl
  try simp only [Act.put, List.setIfInBounds_toArray, List.set_cons_zero, List.set_cons_succ]
  refine wpAnyT_takeL (i := 25) 30 (v := ?_) rfl (by kernel_rfl) (by kernel_rfl) (by kernel_rfl) (by kernel_rfl) (by kernel_rfl) (fun _ _ _ h => h) (Or.inl ⟨by rfl, ?_⟩) kk ?_
  rotate_left 1
  · (intro W hSw; (try dsimp only at hSw); go_simp) <;> with_reducible rfl
  try simp only [Act.put, List.setIfInBounds_toArray, List.set_cons_zero, List.set_cons_succ]
  refine wpAnyT_takeL (i := 29) 30 (v := ?_) rfl (by kernel_rfl) (by kernel_rfl) (by kernel_rfl) (by kernel_rfl) (by kernel_rfl) (fun _ _ _ h => h) (Or.inl ⟨by rfl, ?_⟩) kk ?_
  rotate_left 1
  · (intro W hSw; (try dsimp only at hSw); go_simp) <;> with_reducible rfl
  try simp only [Act.put, List.setIfInBounds_toArray, List.set_cons_zero, List.set_cons_succ]
  refine wpAnyT_takeL (i := 30) 30 (v := ?_) rfl (by kernel_rfl) (by kernel_rfl) (by kernel_rfl) (by kernel_rfl) (by kernel_rfl) (fun _ _ _ h => h) (Or.inl ⟨by rfl, ?_⟩) kk ?_
  rotate_left 1
  · (intro W hSw; (try dsimp only at hSw); go_simp) <;> with_reducible rfl
  try simp only [Act.put, List.setIfInBounds_toArray, List.set_cons_zero, List.set_cons_succ]
  refine wpAnyT_takeL (i := 31) 30 (v := ?_) rfl (by kernel_rfl) (by kernel_rfl) (by kernel_rfl) (by kernel_rfl) (by kernel_rfl) (fun _ _ _ h => h) (Or.inl ⟨by rfl, ?_⟩) kk ?_
  rotate_left 1
  · (intro W hSw; (try dsimp only at hSw); go_simp) <;> with_reducible rfl
  try simp only [Act.put, List.setIfInBounds_toArray, List.set_cons_zero, List.set_cons_succ]
  refine wpAnyT_takeL (i := 32) 30 (v := ?_) rfl (by kernel_rfl) (by kernel_rfl) (by kernel_rfl) (by kernel_rfl) (by kernel_rfl) (fun _ _ _ h => h) (Or.inl ⟨by rfl, ?_⟩) kk ?_
  rotate_left 1
  · (intro W hSw; (try dsimp only at hSw); go_simp) <;> with_reducible rfl
  try simp only [Act.put, List.setIfInBounds_toArray, List.set_cons_zero, List.set_cons_succ]
  refine wpAnyT_go2 (i := 6) (j := 33) rfl rfl (by kernel_rfl) (fun K hK => ?_) (fun K hK => ?_)
  · skip
    go_simp
    have hx := (Ext.refl wd).alloc (.cells #[.int .i64 x.a, .int .i64 x.b, .int .i64 x.c] 2)
    have hU := Blk.new wd 2 (#[.int .i64 x.a, .int .i64 x.b, .int .i64 x.c])
    obtain ⟨bU, hb⟩ : ∃ b, b = wd.heap.size := ⟨_, rfl⟩
    generalize hw : World.alloc wd (.cells #[.int .i64 x.a, .int .i64 x.b, .int .i64 x.c] 2) = w_1 at hx hU ⊢
    rw [← hb] at hU ⊢
    replace hW := hW.trans hx
    replace hBd := hBd.ext hx
    try replace hV := hV.ext hx
    have kk := hBd.c9
    refine hK _ _ ⟨fun _ => kk, ?_⟩
    clear hK K hx hb hw
    refine wpAnyT_go2 (i := 7) (j := 33) rfl rfl (by kernel_rfl) (fun K hK => ?_) (fun K hK => ?_)
    · skip
      skip
      go_simp
      go_at_call 82
      go_fit (cA _ ⟨some ⟨bU, 0, none⟩, 3, 3⟩ (show Rd _ (some ⟨bU, 0, none⟩) 3 [x.a, x.b, x.c] from rd_of_blk (xs := [x.a, x.b, x.c]) hU (by simp)))
      rintro e w_2 ⟨rfl, hx⟩
      go_simp
      replace hW := hW.trans hx
      replace hBd := hBd.ext hx
      try replace hV := hV.ext hx
      try replace hU := hU.ext hx
      have kk := hBd.c9
      refine hK _ _ ⟨fun _ => kk, ?_⟩
      clear hK K hx
      refine wpAnyT_takeL (i := 8) 30 (v := ?_) rfl (by kernel_rfl) (by kernel_rfl) (by kernel_rfl) (by kernel_rfl) (by kernel_rfl) (fun _ _ _ h => h) (Or.inl ⟨by rfl, ?_⟩) kk ?_
      rotate_left 1
      · (intro W hSw; (try dsimp only at hSw); go_simp) <;> with_reducible rfl
      try simp only [Act.put, List.setIfInBounds_toArray, List.set_cons_zero, List.set_cons_succ]
      refine wpAnyT_go2 (i := 11) (j := 33) rfl rfl (by kernel_rfl) (fun K hK => ?_) (fun K hK => ?_)
      · skip
        skip
        go_simp
        go_at_call 69
        go_fit (cx _ (hr.ext hW).1.1)
        rintro e w_3 ⟨rfl, hx⟩
        go_simp
        replace hW := hW.trans hx
        replace hBd := hBd.ext hx
        try replace hV := hV.ext hx
        try replace hU := hU.ext hx
        have kk := hBd.c9
        refine hK _ _ ⟨fun _ => kk, ?_⟩
        clear hK K hx
        refine wpAnyT_takeL (i := 12) 30 (v := ?_) rfl (by kernel_rfl) (by kernel_rfl) (by kernel_rfl) (by kernel_rfl) (by kernel_rfl) (fun _ _ _ h => h) (Or.inl ⟨by rfl, ?_⟩) kk ?_
        rotate_left 1
        · (intro W hSw; (try dsimp only at hSw); go_simp) <;> with_reducible rfl
        try simp only [Act.put, List.setIfInBounds_toArray, List.set_cons_zero, List.set_cons_succ]
        refine wpAnyT_takeL (i := 13) 30 (v := ?_) rfl (by kernel_rfl) (by kernel_rfl) (by kernel_rfl) (by kernel_rfl) (by kernel_rfl) (fun _ _ _ h => h) (Or.inl ⟨by rfl, ?_⟩) kk ?_
        rotate_left 1
        · (intro W hSw; (try dsimp only at hSw); go_simp) <;> with_reducible rfl
        try simp only [Act.put, List.setIfInBounds_toArray, List.set_cons_zero, List.set_cons_succ]
        refine wpAnyT_go2 (i := 16) (j := 33) rfl rfl (by kernel_rfl) (fun K hK => ?_) (fun K hK => ?_)
        · skip
          skip
          go_simp
          go_at_call 83
          go_fit (cd _)
          rintro e w_4 ⟨rfl, hx⟩
          go_simp
          replace hW := hW.trans hx
          replace hBd := hBd.ext hx
          try replace hV := hV.ext hx
          try replace hU := hU.ext hx
          have kk := hBd.c9
          refine hK _ _ ⟨fun _ => kk, ?_⟩
          clear hK K hx
          refine wpAnyT_takeL (i := 17) 30 (v := ?_) rfl (by kernel_rfl) (by kernel_rfl) (by kernel_rfl) (by kernel_rfl) (by kernel_rfl) (fun _ _ _ h => h) (Or.inl ⟨by rfl, ?_⟩) kk ?_
          rotate_left 1
          · (intro W hSw; (try dsimp only at hSw); go_simp) <;> with_reducible rfl
          try simp only [Act.put, List.setIfInBounds_toArray, List.set_cons_zero, List.set_cons_succ]
          refine wpAnyT_takeL (i := 18) 30 (v := ?_) rfl (by kernel_rfl) (by kernel_rfl) (by kernel_rfl) (by kernel_rfl) (by kernel_rfl) (fun _ _ _ h => h) (Or.inl ⟨by rfl, ?_⟩) kk ?_
          rotate_left 1
          · (intro W hSw; (try dsimp only at hSw); go_simp) <;> with_reducible rfl
          try simp only [Act.put, List.setIfInBounds_toArray, List.set_cons_zero, List.set_cons_succ]
          refine wpAnyT_go2 (i := 21) (j := 33) rfl rfl (by kernel_rfl) (fun K hK => ?_) (fun K hK => ?_)
          · skip
            skip
            go_simp
            go_at_call 69
            go_fit (cy _ (hr.ext hW).1.2.1)
            rintro e w_5 ⟨rfl, hx⟩
            go_simp
            replace hW := hW.trans hx
            replace hBd := hBd.ext hx
            try replace hV := hV.ext hx
            try replace hU := hU.ext hx
            have kk := hBd.c9
            refine hK _ _ ⟨fun _ => kk, ?_⟩
            clear hK K hx
            refine wpAnyT_takeL (i := 22) 30 (v := ?_) rfl (by kernel_rfl) (by kernel_rfl) (by kernel_rfl) (by kernel_rfl) (by kernel_rfl) (fun _ _ _ h => h) (Or.inl ⟨by rfl, ?_⟩) kk ?_
            rotate_left 1
            · (intro W hSw; (try dsimp only at hSw); go_simp) <;> with_reducible rfl
            try simp only [Act.put, List.setIfInBounds_toArray, List.set_cons_zero, List.set_cons_succ]
            refine wpAnyT_takeL (i := 23) 30 (v := ?_) rfl (by kernel_rfl) (by kernel_rfl) (by kernel_rfl) (by kernel_rfl) (by kernel_rfl) (fun _ _ _ h => h) (Or.inl ⟨by rfl, ?_⟩) kk ?_
            rotate_left 1
            · (intro W hSw; (try dsimp only at hSw); go_simp) <;> with_reducible rfl
            try simp only [Act.put, List.setIfInBounds_toArray, List.set_cons_zero, List.set_cons_succ]
            refine wpAnyT_go2 (i := 26) (j := 33) rfl rfl (by kernel_rfl) (fun K hK => ?_) (fun K hK => ?_)
            · skip
              skip
              go_simp
              go_at_call 84
              go_fit (cz _ (hr.ext hW).1.2.2.1)
              rintro e w_6 ⟨rfl, hx⟩
              go_simp
              replace hW := hW.trans hx
              replace hBd := hBd.ext hx
              try replace hV := hV.ext hx
              try replace hU := hU.ext hx
              have kk := hBd.c9
              refine hK _ _ ⟨fun _ => kk, ?_⟩
              clear hK K hx
              refine wpAnyT_takeL (i := 27) 30 (v := ?_) rfl (by kernel_rfl) (by kernel_rfl) (by kernel_rfl) (by kernel_rfl) (by kernel_rfl) (fun _ _ _ h => h) (Or.inl ⟨by rfl, ?_⟩) kk ?_
              rotate_left 1
              · (intro W hSw; (try dsimp only at hSw); go_simp) <;> with_reducible rfl
              try simp only [Act.put, List.setIfInBounds_toArray, List.set_cons_zero, List.set_cons_succ]
              refine wpAnyT_takeL (i := 28) 30 (v := ?_) rfl (by kernel_rfl) (by kernel_rfl) (by kernel_rfl) (by kernel_rfl) (by kernel_rfl) (fun _ _ _ h => h) (Or.inl ⟨by rfl, ?_⟩) kk ?_
              rotate_left 1
              · (intro W hSw; (try dsimp only at hSw); go_simp) <;> with_reducible rfl
              try simp only [Act.put, List.setIfInBounds_toArray, List.set_cons_zero, List.set_cons_succ]
              refine wpAnyT_go (i := 33) rfl (by kernel_rfl) fun K hK => ?_
              go_simp
              have hx := (Ext.refl w_6).alloc (.cells #[.int .i64 x.e, .int .i64 x.f] 2)
              have hV := Blk.new w_6 2 (#[.int .i64 x.e, .int .i64 x.f])
              obtain ⟨bV, hb⟩ : ∃ b, b = w_6.heap.size := ⟨_, rfl⟩
              generalize hw : World.alloc w_6 (.cells #[.int .i64 x.e, .int .i64 x.f] 2) = w_7 at hx hV ⊢
              rw [← hb] at hV ⊢
              replace hW := hW.trans hx
              replace hBd := hBd.ext hx
              try replace hU := hU.ext hx
              have kk := hBd.c9
              refine hK _ _ ⟨fun _ => kk, ?_⟩
              clear hK K hx hb hw
              refine wpAnyT_go (i := 34) rfl (by kernel_rfl) fun K hK => ?_
              go_simp
              go_at_call 82
              go_fit (cF _ ⟨some ⟨bV, 0, none⟩, 2, 2⟩ (show Rd _ (some ⟨bV, 0, none⟩) 2 [x.e, x.f] from rd_of_blk (xs := [x.e, x.f]) hV (by simp)))
              rintro e w_8 ⟨rfl, hx⟩
              go_simp
              replace hW := hW.trans hx
              replace hBd := hBd.ext hx
              try replace hV := hV.ext hx
              try replace hU := hU.ext hx
              have kk := hBd.c9
              refine hK _ _ ⟨fun _ => kk, ?_⟩
              clear hK K hx
              refine wpAnyT_takeL (i := 35) 30 (v := ?_) rfl (by kernel_rfl) (by kernel_rfl) (by kernel_rfl) (by kernel_rfl) (by kernel_rfl) (fun _ _ _ h => h) (Or.inl ⟨by rfl, ?_⟩) kk ?_
              rotate_left 1
              · (intro W hSw; (try dsimp only at hSw); go_simp) <;> with_reducible rfl
              try simp only [Act.put, List.setIfInBounds_toArray, List.set_cons_zero, List.set_cons_succ]
              refine wpAnyT_go (i := 36) rfl (by kernel_rfl) fun K hK => ?_
              go_simp
              refine hK _ _ ⟨fun h => absurd rfl h, ?_⟩
              clear hK K
              refine wpAnyT_done (by kernel_rfl) ?_ _
              clear kk
              go_wp2
              go_ret
              exact ⟨by rw [hP.out]; rfl, hW⟩
            · skip
              go_simp
              have hx := (Ext.refl w_5).alloc (.cells #[.int .i64 x.e, .int .i64 x.f] 2)
              have hV := Blk.new w_5 2 (#[.int .i64 x.e, .int .i64 x.f])
              obtain ⟨bV, hb⟩ : ∃ b, b = w_5.heap.size := ⟨_, rfl⟩
              generalize hw : World.alloc w_5 (.cells #[.int .i64 x.e, .int .i64 x.f] 2) = w_9 at hx hV ⊢
              rw [← hb] at hV ⊢
              replace hW := hW.trans hx
              replace hBd := hBd.ext hx
              try replace hU := hU.ext hx
              have kk := hBd.c9
              refine hK _ _ ⟨fun _ => kk, ?_⟩
              clear hK K hx hb hw
              refine wpAnyT_go (i := 26) rfl (by kernel_rfl) fun K hK => ?_
              go_simp
              go_at_call 84
              go_fit (cz _ (hr.ext hW).1.2.2.1)
              rintro e w_10 ⟨rfl, hx⟩
              go_simp
              replace hW := hW.trans hx
              replace hBd := hBd.ext hx
              try replace hV := hV.ext hx
              try replace hU := hU.ext hx
              have kk := hBd.c9
              refine hK _ _ ⟨fun _ => kk, ?_⟩
              clear hK K hx
              refine wpAnyT_takeL (i := 27) 30 (v := ?_) rfl (by kernel_rfl) (by kernel_rfl) (by kernel_rfl) (by kernel_rfl) (by kernel_rfl) (fun _ _ _ h => h) (Or.inl ⟨by rfl, ?_⟩) kk ?_
              rotate_left 1
              · (intro W hSw; (try dsimp only at hSw); go_simp) <;> with_reducible rfl
              try simp only [Act.put, List.setIfInBounds_toArray, List.set_cons_zero, List.set_cons_succ]
              refine wpAnyT_takeL (i := 28) 30 (v := ?_) rfl (by kernel_rfl) (by kernel_rfl) (by kernel_rfl) (by kernel_rfl) (by kernel_rfl) (fun _ _ _ h => h) (Or.inl ⟨by rfl, ?_⟩) kk ?_
              rotate_left 1
              · (intro W hSw; (try dsimp only at hSw); go_simp) <;> with_reducible rfl
              try simp only [Act.put, List.setIfInBounds_toArray, List.set_cons_zero, List.set_cons_succ]
              refine wpAnyT_go (i := 34) rfl (by kernel_rfl) fun K hK => ?_
              go_simp
              go_at_call 82
              go_fit (cF _ ⟨some ⟨bV, 0, none⟩, 2, 2⟩ (show Rd _ (some ⟨bV, 0, none⟩) 2 [x.e, x.f] from rd_of_blk (xs := [x.e, x.f]) hV (by simp)))
              rintro e w_11 ⟨rfl, hx⟩
              go_simp
              replace hW := hW.trans hx
              replace hBd := hBd.ext hx
              try replace hV := hV.ext hx
              try replace hU := hU.ext hx
              have kk := hBd.c9
              refine hK _ _ ⟨fun _ => kk, ?_⟩
              clear hK K hx
              refine wpAnyT_takeL (i := 35) 30 (v := ?_) rfl (by kernel_rfl) (by kernel_rfl) (by kernel_rfl) (by kernel_rfl) (by kernel_rfl) (fun _ _ _ h => h) (Or.inl ⟨by rfl, ?_⟩) kk ?_
              rotate_left 1
              · (intro W hSw; (try dsimp only at hSw); go_simp) <;> with_reducible rfl
              try simp only [Act.put, List.setIfInBounds_toArray, List.set_cons_zero, List.set_cons_succ]
              refine wpAnyT_go (i := 36) rfl (by kernel_rfl) fun K hK => ?_
              go_simp
              refine hK _ _ ⟨fun h => absurd rfl h, ?_⟩
              clear hK K
              refine wpAnyT_done (by kernel_rfl) ?_ _
              clear kk
              go_wp2
              go_ret
              exact ⟨by rw [hP.out]; rfl, hW⟩
          · skip
            go_simp
            have hx := (Ext.refl w_4).alloc (.cells #[.int .i64 x.e, .int .i64 x.f] 2)
            have hV := Blk.new w_4 2 (#[.int .i64 x.e, .int .i64 x.f])
            obtain ⟨bV, hb⟩ : ∃ b, b = w_4.heap.size := ⟨_, rfl⟩
            generalize hw : World.alloc w_4 (.cells #[.int .i64 x.e, .int .i64 x.f] 2) = w_12 at hx hV ⊢
            rw [← hb] at hV ⊢
            replace hW := hW.trans hx
            replace hBd := hBd.ext hx
            try replace hU := hU.ext hx
            have kk := hBd.c9
            refine hK _ _ ⟨fun _ => kk, ?_⟩
            clear hK K hx hb hw
            refine wpAnyT_go (i := 21) rfl (by kernel_rfl) fun K hK => ?_
            go_simp
            go_at_call 69
            go_fit (cy _ (hr.ext hW).1.2.1)
            rintro e w_13 ⟨rfl, hx⟩
            go_simp
            replace hW := hW.trans hx
            replace hBd := hBd.ext hx
            try replace hV := hV.ext hx
            try replace hU := hU.ext hx
            have kk := hBd.c9
            refine hK _ _ ⟨fun _ => kk, ?_⟩
            clear hK K hx
            refine wpAnyT_takeL (i := 22) 30 (v := ?_) rfl (by kernel_rfl) (by kernel_rfl) (by kernel_rfl) (by kernel_rfl) (by kernel_rfl) (fun _ _ _ h => h) (Or.inl ⟨by rfl, ?_⟩) kk ?_
            rotate_left 1
            · (intro W hSw; (try dsimp only at hSw); go_simp) <;> with_reducible rfl
            try simp only [Act.put, List.setIfInBounds_toArray, List.set_cons_zero, List.set_cons_succ]
            refine wpAnyT_takeL (i := 23) 30 (v := ?_) rfl (by kernel_rfl) (by kernel_rfl) (by kernel_rfl) (by kernel_rfl) (by kernel_rfl) (fun _ _ _ h => h) (Or.inl ⟨by rfl, ?_⟩) kk ?_
            rotate_left 1
            · (intro W hSw; (try dsimp only at hSw); go_simp) <;> with_reducible rfl
            try simp only [Act.put, List.setIfInBounds_toArray, List.set_cons_zero, List.set_cons_succ]
            refine wpAnyT_go (i := 26) rfl (by kernel_rfl) fun K hK => ?_
            go_simp
            go_at_call 84
            go_fit (cz _ (hr.ext hW).1.2.2.1)
            rintro e w_14 ⟨rfl, hx⟩
            go_simp
            replace hW := hW.trans hx
            replace hBd := hBd.ext hx
            try replace hV := hV.ext hx
            try replace hU := hU.ext hx
            have kk := hBd.c9
            refine hK _ _ ⟨fun _ => kk, ?_⟩
            clear hK K hx
            refine wpAnyT_takeL (i := 27) 30 (v := ?_) rfl (by kernel_rfl) (by kernel_rfl) (by kernel_rfl) (by kernel_rfl) (by kernel_rfl) (fun _ _ _ h => h) (Or.inl ⟨by rfl, ?_⟩) kk ?_
            rotate_left 1
            · (intro W hSw; (try dsimp only at hSw); go_simp) <;> with_reducible rfl
            try simp only [Act.put, List.setIfInBounds_toArray, List.set_cons_zero, List.set_cons_succ]
            refine wpAnyT_takeL (i := 28) 30 (v := ?_) rfl (by kernel_rfl) (by kernel_rfl) (by kernel_rfl) (by kernel_rfl) (by kernel_rfl) (fun _ _ _ h => h) (Or.inl ⟨by rfl, ?_⟩) kk ?_
            rotate_left 1
            · (intro W hSw; (try dsimp only at hSw); go_simp) <;> with_reducible rfl
            try simp only [Act.put, List.setIfInBounds_toArray, List.set_cons_zero, List.set_cons_succ]
            refine wpAnyT_go (i := 34) rfl (by kernel_rfl) fun K hK => ?_
            go_simp
            go_at_call 82
            go_fit (cF _ ⟨some ⟨bV, 0, none⟩, 2, 2⟩ (show Rd _ (some ⟨bV, 0, none⟩) 2 [x.e, x.f] from rd_of_blk (xs := [x.e, x.f]) hV (by simp)))
            rintro e w_15 ⟨rfl, hx⟩
            go_simp
            replace hW := hW.trans hx
            replace hBd := hBd.ext hx
            try replace hV := hV.ext hx
            try replace hU := hU.ext hx
            have kk := hBd.c9
            refine hK _ _ ⟨fun _ => kk, ?_⟩
            clear hK K hx
            refine wpAnyT_takeL (i := 35) 30 (v := ?_) rfl (by kernel_rfl) (by kernel_rfl) (by kernel_rfl) (by kernel_rfl) (by kernel_rfl) (fun _ _ _ h => h) (Or.inl ⟨by rfl, ?_⟩) kk ?_
            rotate_left 1
            · (intro W hSw; (try dsimp only at hSw); go_simp) <;> with_reducible rfl
            try simp only [Act.put, List.setIfInBounds_toArray, List.set_cons_zero, List.set_cons_succ]
            refine wpAnyT_go (i := 36) rfl (by kernel_rfl) fun K hK => ?_
            go_simp
            refine hK _ _ ⟨fun h => absurd rfl h, ?_⟩
            clear hK K
            refine wpAnyT_done (by kernel_rfl) ?_ _
            clear kk
            go_wp2
            go_ret
            exact ⟨by rw [hP.out]; rfl, hW⟩
        · skip
          go_simp
          have hx := (Ext.refl w_3).alloc (.cells #[.int .i64 x.e, .int .i64 x.f] 2)
          have hV := Blk.new w_3 2 (#[.int .i64 x.e, .int .i64 x.f])
          obtain ⟨bV, hb⟩ : ∃ b, b = w_3.heap.size := ⟨_, rfl⟩
          generalize hw : World.alloc w_3 (.cells #[.int .i64 x.e, .int .i64 x.f] 2) = w_16 at hx hV ⊢
          rw [← hb] at hV ⊢
          replace hW := hW.trans hx
          replace hBd := hBd.ext hx
          try replace hU := hU.ext hx
          have kk := hBd.c9
          refine hK _ _ ⟨fun _ => kk, ?_⟩
          clear hK K hx hb hw
          refine wpAnyT_go (i := 16) rfl (by kernel_rfl) fun K hK => ?_
          go_simp
          go_at_call 83
          go_fit (cd _)
          rintro e w_17 ⟨rfl, hx⟩
          go_simp
          replace hW := hW.trans hx
          replace hBd := hBd.ext hx
          try replace hV := hV.ext hx
          try replace hU := hU.ext hx
          have kk := hBd.c9
          refine hK _ _ ⟨fun _ => kk, ?_⟩
          clear hK K hx
          refine wpAnyT_takeL (i := 17) 30 (v := ?_) rfl (by kernel_rfl) (by kernel_rfl) (by kernel_rfl) (by kernel_rfl) (by kernel_rfl) (fun _ _ _ h => h) (Or.inl ⟨by rfl, ?_⟩) kk ?_
          rotate_left 1
          · (intro W hSw; (try dsimp only at hSw); go_simp) <;> with_reducible rfl
          try simp only [Act.put, List.setIfInBounds_toArray, List.set_cons_zero, List.set_cons_succ]
          refine wpAnyT_takeL (i := 18) 30 (v := ?_) rfl (by kernel_rfl) (by kernel_rfl) (by kernel_rfl) (by kernel_rfl) (by kernel_rfl) (fun _ _ _ h => h) (Or.inl ⟨by rfl, ?_⟩) kk ?_
          rotate_left 1
          · (intro W hSw; (try dsimp only at hSw); go_simp) <;> with_reducible rfl
          try simp only [Act.put, List.setIfInBounds_toArray, List.set_cons_zero, List.set_cons_succ]
          refine wpAnyT_go (i := 21) rfl (by kernel_rfl) fun K hK => ?_
          go_simp
          go_at_call 69
          go_fit (cy _ (hr.ext hW).1.2.1)
          rintro e w_18 ⟨rfl, hx⟩
          go_simp
          replace hW := hW.trans hx
          replace hBd := hBd.ext hx
          try replace hV := hV.ext hx
          try replace hU := hU.ext hx
          have kk := hBd.c9
          refine hK _ _ ⟨fun _ => kk, ?_⟩
          clear hK K hx
          refine wpAnyT_takeL (i := 22) 30 (v := ?_) rfl (by kernel_rfl) (by kernel_rfl) (by kernel_rfl) (by kernel_rfl) (by kernel_rfl) (fun _ _ _ h => h) (Or.inl ⟨by rfl, ?_⟩) kk ?_
          rotate_left 1
          · (intro W hSw; (try dsimp only at hSw); go_simp) <;> with_reducible rfl
          try simp only [Act.put, List.setIfInBounds_toArray, List.set_cons_zero, List.set_cons_succ]
          refine wpAnyT_takeL (i := 23) 30 (v := ?_) rfl (by kernel_rfl) (by kernel_rfl) (by kernel_rfl) (by kernel_rfl) (by kernel_rfl) (fun _ _ _ h => h) (Or.inl ⟨by rfl, ?_⟩) kk ?_
          rotate_left 1
          · (intro W hSw; (try dsimp only at hSw); go_simp) <;> with_reducible rfl
          try simp only [Act.put, List.setIfInBounds_toArray, List.set_cons_zero, List.set_cons_succ]
          refine wpAnyT_go (i := 26) rfl (by kernel_rfl) fun K hK => ?_
          go_simp
          go_at_call 84
          go_fit (cz _ (hr.ext hW).1.2.2.1)
          rintro e w_19 ⟨rfl, hx⟩
          go_simp
          replace hW := hW.trans hx
          replace hBd := hBd.ext hx
          try replace hV := hV.ext hx
          try replace hU := hU.ext hx
          have kk := hBd.c9
          refine hK _ _ ⟨fun _ => kk, ?_⟩
          clear hK K hx
          refine wpAnyT_takeL (i := 27) 30 (v := ?_) rfl (by kernel_rfl) (by kernel_rfl) (by kernel_rfl) (by kernel_rfl) (by kernel_rfl) (fun _ _ _ h => h) (Or.inl ⟨by rfl, ?_⟩) kk ?_
          rotate_left 1
          · (intro W hSw; (try dsimp only at hSw); go_simp) <;> with_reducible rfl
          try simp only [Act.put, List.setIfInBounds_toArray, List.set_cons_zero, List.set_cons_succ]
          refine wpAnyT_takeL (i := 28) 30 (v := ?_) rfl (by kernel_rfl) (by kernel_rfl) (by kernel_rfl) (by kernel_rfl) (by kernel_rfl) (fun _ _ _ h => h) (Or.inl ⟨by rfl, ?_⟩) kk ?_
          rotate_left 1
          · (intro W hSw; (try dsimp only at hSw); go_simp) <;> with_reducible rfl
          try simp only [Act.put, List.setIfInBounds_toArray, List.set_cons_zero, List.set_cons_succ]
          refine wpAnyT_go (i := 34) rfl (by kernel_rfl) fun K hK => ?_
          go_simp
          go_at_call 82
          go_fit (cF _ ⟨some ⟨bV, 0, none⟩, 2, 2⟩ (show Rd _ (some ⟨bV, 0, none⟩) 2 [x.e, x.f] from rd_of_blk (xs := [x.e, x.f]) hV (by simp)))
          rintro e w_20 ⟨rfl, hx⟩
          go_simp
          replace hW := hW.trans hx
          replace hBd := hBd.ext hx
          try replace hV := hV.ext hx
          try replace hU := hU.ext hx
          have kk := hBd.c9
          refine hK _ _ ⟨fun _ => kk, ?_⟩
          clear hK K hx
          refine wpAnyT_takeL (i := 35) 30 (v := ?_) rfl (by kernel_rfl) (by kernel_rfl) (by kernel_rfl) (by kernel_rfl) (by kernel_rfl) (fun _ _ _ h => h) (Or.inl ⟨by rfl, ?_⟩) kk ?_
          rotate_left 1
          · (intro W hSw; (try dsimp only at hSw); go_simp) <;> with_reducible rfl
          try simp only [Act.put, List.setIfInBounds_toArray, List.set_cons_zero, List.set_cons_succ]
          refine wpAnyT_go (i := 36) rfl (by kernel_rfl) fun K hK => ?_
          go_simp
          refine hK _ _ ⟨fun h => absurd rfl h, ?_⟩
          clear hK K
          refine wpAnyT_done (by kernel_rfl) ?_ _
          clear kk
          go_wp2
          go_ret
          exact ⟨by rw [hP.out]; rfl, hW⟩
      · skip
        go_simp
        have hx := (Ext.refl w_2).alloc (.cells #[.int .i64 x.e, .int .i64 x.f] 2)
        have hV := Blk.new w_2 2 (#[.int .i64 x.e, .int .i64 x.f])
        obtain ⟨bV, hb⟩ : ∃ b, b = w_2.heap.size := ⟨_, rfl⟩
        generalize hw : World.alloc w_2 (.cells #[.int .i64 x.e, .int .i64 x.f] 2) = w_21 at hx hV ⊢
        rw [← hb] at hV ⊢
        replace hW := hW.trans hx
        replace hBd := hBd.ext hx
        try replace hU := hU.ext hx
        have kk := hBd.c9
        refine hK _ _ ⟨fun _ => kk, ?_⟩
        clear hK K hx hb hw
        refine wpAnyT_go (i := 11) rfl (by kernel_rfl) fun K hK => ?_
        go_simp
        go_at_call 69
        go_fit (cx _ (hr.ext hW).1.1)
        rintro e w_22 ⟨rfl, hx⟩
        go_simp
        replace hW := hW.trans hx
        replace hBd := hBd.ext hx
        try replace hV := hV.ext hx
        try replace hU := hU.ext hx
        have kk := hBd.c9
        refine hK _ _ ⟨fun _ => kk, ?_⟩
        clear hK K hx
        refine wpAnyT_takeL (i := 12) 30 (v := ?_) rfl (by kernel_rfl) (by kernel_rfl) (by kernel_rfl) (by kernel_rfl) (by kernel_rfl) (fun _ _ _ h => h) (Or.inl ⟨by rfl, ?_⟩) kk ?_
        rotate_left 1
        · (intro W hSw; (try dsimp only at hSw); go_simp) <;> with_reducible rfl
        try simp only [Act.put, List.setIfInBounds_toArray, List.set_cons_zero, List.set_cons_succ]
        refine wpAnyT_takeL (i := 13) 30 (v := ?_) rfl (by kernel_rfl) (by kernel_rfl) (by kernel_rfl) (by kernel_rfl) (by kernel_rfl) (fun _ _ _ h => h) (Or.inl ⟨by rfl, ?_⟩) kk ?_
        rotate_left 1
        · (intro W hSw; (try dsimp only at hSw); go_simp) <;> with_reducible rfl
        try simp only [Act.put, List.setIfInBounds_toArray, List.set_cons_zero, List.set_cons_succ]
        refine wpAnyT_go (i := 16) rfl (by kernel_rfl) fun K hK => ?_
        go_simp
        go_at_call 83
        go_fit (cd _)
        rintro e w_23 ⟨rfl, hx⟩
        go_simp
        replace hW := hW.trans hx
        replace hBd := hBd.ext hx
        try replace hV := hV.ext hx
        try replace hU := hU.ext hx
        have kk := hBd.c9
        refine hK _ _ ⟨fun _ => kk, ?_⟩
        clear hK K hx
        refine wpAnyT_takeL (i := 17) 30 (v := ?_) rfl (by kernel_rfl) (by kernel_rfl) (by kernel_rfl) (by kernel_rfl) (by kernel_rfl) (fun _ _ _ h => h) (Or.inl ⟨by rfl, ?_⟩) kk ?_
        rotate_left 1
        · (intro W hSw; (try dsimp only at hSw); go_simp) <;> with_reducible rfl
        try simp only [Act.put, List.setIfInBounds_toArray, List.set_cons_zero, List.set_cons_succ]
        refine wpAnyT_takeL (i := 18) 30 (v := ?_) rfl (by kernel_rfl) (by kernel_rfl) (by kernel_rfl) (by kernel_rfl) (by kernel_rfl) (fun _ _ _ h => h) (Or.inl ⟨by rfl, ?_⟩) kk ?_
        rotate_left 1
        · (intro W hSw; (try dsimp only at hSw); go_simp) <;> with_reducible rfl
        try simp only [Act.put, List.setIfInBounds_toArray, List.set_cons_zero, List.set_cons_succ]
        refine wpAnyT_go (i := 21) rfl (by kernel_rfl) fun K hK => ?_
        go_simp
        go_at_call 69
        go_fit (cy _ (hr.ext hW).1.2.1)
        rintro e w_24 ⟨rfl, hx⟩
        go_simp
        replace hW := hW.trans hx
        replace hBd := hBd.ext hx
        try replace hV := hV.ext hx
        try replace hU := hU.ext hx
        have kk := hBd.c9
        refine hK _ _ ⟨fun _ => kk, ?_⟩
        clear hK K hx
        refine wpAnyT_takeL (i := 22) 30 (v := ?_) rfl (by kernel_rfl) (by kernel_rfl) (by kernel_rfl) (by kernel_rfl) (by kernel_rfl) (fun _ _ _ h => h) (Or.inl ⟨by rfl, ?_⟩) kk ?_
        rotate_left 1
        · (intro W hSw; (try dsimp only at hSw); go_simp) <;> with_reducible rfl
        try simp only [Act.put, List.setIfInBounds_toArray, List.set_cons_zero, List.set_cons_succ]
        refine wpAnyT_takeL (i := 23) 30 (v := ?_) rfl (by kernel_rfl) (by kernel_rfl) (by kernel_rfl) (by kernel_rfl) (by kernel_rfl) (fun _ _ _ h => h) (Or.inl ⟨by rfl, ?_⟩) kk ?_
        rotate_left 1
        · (intro W hSw; (try dsimp only at hSw); go_simp) <;> with_reducible rfl
        try simp only [Act.put, List.setIfInBounds_toArray, List.set_cons_zero, List.set_cons_succ]
        refine wpAnyT_go (i := 26) rfl (by kernel_rfl) fun K hK => ?_
        go_simp
        go_at_call 84
        go_fit (cz _ (hr.ext hW).1.2.2.1)
        rintro e w_25 ⟨rfl, hx⟩
        go_simp
        replace hW := hW.trans hx
        replace hBd := hBd.ext hx
        try replace hV := hV.ext hx
        try replace hU := hU.ext hx
        have kk := hBd.c9
        refine hK _ _ ⟨fun _ => kk, ?_⟩
        clear hK K hx
        refine wpAnyT_takeL (i := 27) 30 (v := ?_) rfl (by kernel_rfl) (by kernel_rfl) (by kernel_rfl) (by kernel_rfl) (by kernel_rfl) (fun _ _ _ h => h) (Or.inl ⟨by rfl, ?_⟩) kk ?_
        rotate_left 1
        · (intro W hSw; (try dsimp only at hSw); go_simp) <;> with_reducible rfl
        try simp only [Act.put, List.setIfInBounds_toArray, List.set_cons_zero, List.set_cons_succ]
        refine wpAnyT_takeL (i := 28) 30 (v := ?_) rfl (by kernel_rfl) (by kernel_rfl) (by kernel_rfl) (by kernel_rfl) (by kernel_rfl) (fun _ _ _ h => h) (Or.inl ⟨by rfl, ?_⟩) kk ?_
        rotate_left 1
        · (intro W hSw; (try dsimp only at hSw); go_simp) <;> with_reducible rfl
        try simp only [Act.put, List.setIfInBounds_toArray, List.set_cons_zero, List.set_cons_succ]
        refine wpAnyT_go (i := 34) rfl (by kernel_rfl) fun K hK => ?_
        go_simp
        go_at_call 82
        go_fit (cF _ ⟨some ⟨bV, 0, none⟩, 2, 2⟩ (show Rd _ (some ⟨bV, 0, none⟩) 2 [x.e, x.f] from rd_of_blk (xs := [x.e, x.f]) hV (by simp)))
        rintro e w_26 ⟨rfl, hx⟩
        go_simp
        replace hW := hW.trans hx
        replace hBd := hBd.ext hx
        try replace hV := hV.ext hx
        try replace hU := hU.ext hx
        have kk := hBd.c9
        refine hK _ _ ⟨fun _ => kk, ?_⟩
        clear hK K hx
        refine wpAnyT_takeL (i := 35) 30 (v := ?_) rfl (by kernel_rfl) (by kernel_rfl) (by kernel_rfl) (by kernel_rfl) (by kernel_rfl) (fun _ _ _ h => h) (Or.inl ⟨by rfl, ?_⟩) kk ?_
        rotate_left 1
        · (intro W hSw; (try dsimp only at hSw); go_simp) <;> with_reducible rfl
        try simp only [Act.put, List.setIfInBounds_toArray, List.set_cons_zero, List.set_cons_succ]
        refine wpAnyT_go (i := 36) rfl (by kernel_rfl) fun K hK => ?_
        go_simp
        refine hK _ _ ⟨fun h => absurd rfl h, ?_⟩
        clear hK K
        refine wpAnyT_done (by kernel_rfl) ?_ _
        clear kk
        go_wp2
        go_ret
        exact ⟨by rw [hP.out]; rfl, hW⟩
    · skip
      go_simp
      have hx := (Ext.refl w_1).alloc (.cells #[.int .i64 x.e, .int .i64 x.f] 2)
      have hV := Blk.new w_1 2 (#[.int .i64 x.e, .int .i64 x.f])
      obtain ⟨bV, hb⟩ : ∃ b, b = w_1.heap.size := ⟨_, rfl⟩
      generalize hw : World.alloc w_1 (.cells #[.int .i64 x.e, .int .i64 x.f] 2) = w_27 at hx hV ⊢
      rw [← hb] at hV ⊢
      replace hW := hW.trans hx
      replace hBd := hBd.ext hx
      try replace hU := hU.ext hx
      have kk := hBd.c9
      refine hK _ _ ⟨fun _ => kk, ?_⟩
      clear hK K hx hb hw
      refine wpAnyT_go (i := 7) rfl (by kernel_rfl) fun K hK => ?_
      go_simp
      go_at_call 82
      go_fit (cA _ ⟨some ⟨bU, 0, none⟩, 3, 3⟩ (show Rd _ (some ⟨bU, 0, none⟩) 3 [x.a, x.b, x.c] from rd_of_blk (xs := [x.a, x.b, x.c]) hU (by simp)))
      rintro e w_28 ⟨rfl, hx⟩
      go_simp
      replace hW := hW.trans hx
      replace hBd := hBd.ext hx
      try replace hV := hV.ext hx
      try replace hU := hU.ext hx
      have kk := hBd.c9
      refine hK _ _ ⟨fun _ => kk, ?_⟩
      clear hK K hx
      refine wpAnyT_takeL (i := 8) 30 (v := ?_) rfl (by kernel_rfl) (by kernel_rfl) (by kernel_rfl) (by kernel_rfl) (by kernel_rfl) (fun _ _ _ h => h) (Or.inl ⟨by rfl, ?_⟩) kk ?_
      rotate_left 1
      · (intro W hSw; (try dsimp only at hSw); go_simp) <;> with_reducible rfl
      try simp only [Act.put, List.setIfInBounds_toArray, List.set_cons_zero, List.set_cons_succ]
      refine wpAnyT_go (i := 11) rfl (by kernel_rfl) fun K hK => ?_
      go_simp
      go_at_call 69
      go_fit (cx _ (hr.ext hW).1.1)
      rintro e w_29 ⟨rfl, hx⟩
      go_simp
      replace hW := hW.trans hx
      replace hBd := hBd.ext hx
      try replace hV := hV.ext hx
      try replace hU := hU.ext hx
      have kk := hBd.c9
      refine hK _ _ ⟨fun _ => kk, ?_⟩
      clear hK K hx
      refine wpAnyT_takeL (i := 12) 30 (v := ?_) rfl (by kernel_rfl) (by kernel_rfl) (by kernel_rfl) (by kernel_rfl) (by kernel_rfl) (fun _ _ _ h => h) (Or.inl ⟨by rfl, ?_⟩) kk ?_
      rotate_left 1
      · (intro W hSw; (try dsimp only at hSw); go_simp) <;> with_reducible rfl
      try simp only [Act.put, List.setIfInBounds_toArray, List.set_cons_zero, List.set_cons_succ]
      refine wpAnyT_takeL (i := 13) 30 (v := ?_) rfl (by kernel_rfl) (by kernel_rfl) (by kernel_rfl) (by kernel_rfl) (by kernel_rfl) (fun _ _ _ h => h) (Or.inl ⟨by rfl, ?_⟩) kk ?_
      rotate_left 1
      · (intro W hSw; (try dsimp only at hSw); go_simp) <;> with_reducible rfl
      try simp only [Act.put, List.setIfInBounds_toArray, List.set_cons_zero, List.set_cons_succ]
      refine wpAnyT_go (i := 16) rfl (by kernel_rfl) fun K hK => ?_
      go_simp
      go_at_call 83
      go_fit (cd _)
      rintro e w_30 ⟨rfl, hx⟩
      go_simp
      replace hW := hW.trans hx
      replace hBd := hBd.ext hx
      try replace hV := hV.ext hx
      try replace hU := hU.ext hx
      have kk := hBd.c9
      refine hK _ _ ⟨fun _ => kk, ?_⟩
      clear hK K hx
      refine wpAnyT_takeL (i := 17) 30 (v := ?_) rfl (by kernel_rfl) (by kernel_rfl) (by kernel_rfl) (by kernel_rfl) (by kernel_rfl) (fun _ _ _ h => h) (Or.inl ⟨by rfl, ?_⟩) kk ?_
      rotate_left 1
      · (intro W hSw; (try dsimp only at hSw); go_simp) <;> with_reducible rfl
      try simp only [Act.put, List.setIfInBounds_toArray, List.set_cons_zero, List.set_cons_succ]
      refine wpAnyT_takeL (i := 18) 30 (v := ?_) rfl (by kernel_rfl) (by kernel_rfl) (by kernel_rfl) (by kernel_rfl) (by kernel_rfl) (fun _ _ _ h => h) (Or.inl ⟨by rfl, ?_⟩) kk ?_
      rotate_left 1
      · (intro W hSw; (try dsimp only at hSw); go_simp) <;> with_reducible rfl
      try simp only [Act.put, List.setIfInBounds_toArray, List.set_cons_zero, List.set_cons_succ]
      refine wpAnyT_go (i := 21) rfl (by kernel_rfl) fun K hK => ?_
      go_simp
      go_at_call 69
      go_fit (cy _ (hr.ext hW).1.2.1)
      rintro e w_31 ⟨rfl, hx⟩
      go_simp
      replace hW := hW.trans hx
      replace hBd := hBd.ext hx
      try replace hV := hV.ext hx
      try replace hU := hU.ext hx
      have kk := hBd.c9
      refine hK _ _ ⟨fun _ => kk, ?_⟩
      clear hK K hx
      refine wpAnyT_takeL (i := 22) 30 (v := ?_) rfl (by kernel_rfl) (by kernel_rfl) (by kernel_rfl) (by kernel_rfl) (by kernel_rfl) (fun _ _ _ h => h) (Or.inl ⟨by rfl, ?_⟩) kk ?_
      rotate_left 1
      · (intro W hSw; (try dsimp only at hSw); go_simp) <;> with_reducible rfl
      try simp only [Act.put, List.setIfInBounds_toArray, List.set_cons_zero, List.set_cons_succ]
      refine wpAnyT_takeL (i := 23) 30 (v := ?_) rfl (by kernel_rfl) (by kernel_rfl) (by kernel_rfl) (by kernel_rfl) (by kernel_rfl) (fun _ _ _ h => h) (Or.inl ⟨by rfl, ?_⟩) kk ?_
      rotate_left 1
      · (intro W hSw; (try dsimp only at hSw); go_simp) <;> with_reducible rfl
      try simp only [Act.put, List.setIfInBounds_toArray, List.set_cons_zero, List.set_cons_succ]
      refine wpAnyT_go (i := 26) rfl (by kernel_rfl) fun K hK => ?_
      go_simp
      go_at_call 84
      go_fit (cz _ (hr.ext hW).1.2.2.1)
      rintro e w_32 ⟨rfl, hx⟩
      go_simp
      replace hW := hW.trans hx
      replace hBd := hBd.ext hx
      try replace hV := hV.ext hx
      try replace hU := hU.ext hx
      have kk := hBd.c9
      refine hK _ _ ⟨fun _ => kk, ?_⟩
      clear hK K hx
      refine wpAnyT_takeL (i := 27) 30 (v := ?_) rfl (by kernel_rfl) (by kernel_rfl) (by kernel_rfl) (by kernel_rfl) (by kernel_rfl) (fun _ _ _ h => h) (Or.inl ⟨by rfl, ?_⟩) kk ?_
      rotate_left 1
      · (intro W hSw; (try dsimp only at hSw); go_simp) <;> with_reducible rfl
      try simp only [Act.put, List.setIfInBounds_toArray, List.set_cons_zero, List.set_cons_succ]
      refine wpAnyT_takeL (i := 28) 30 (v := ?_) rfl (by kernel_rfl) (by kernel_rfl) (by kernel_rfl) (by kernel_rfl) (by kernel_rfl) (fun _ _ _ h => h) (Or.inl ⟨by rfl, ?_⟩) kk ?_
      rotate_left 1
      · (intro W hSw; (try dsimp only at hSw); go_simp) <;> with_reducible rfl
      try simp only [Act.put, List.setIfInBounds_toArray, List.set_cons_zero, List.set_cons_succ]
      refine wpAnyT_go (i := 34) rfl (by kernel_rfl) fun K hK => ?_
      go_simp
      go_at_call 82
      go_fit (cF _ ⟨some ⟨bV, 0, none⟩, 2, 2⟩ (show Rd _ (some ⟨bV, 0, none⟩) 2 [x.e, x.f] from rd_of_blk (xs := [x.e, x.f]) hV (by simp)))
      rintro e w_33 ⟨rfl, hx⟩
      go_simp
      replace hW := hW.trans hx
      replace hBd := hBd.ext hx
      try replace hV := hV.ext hx
      try replace hU := hU.ext hx
      have kk := hBd.c9
      refine hK _ _ ⟨fun _ => kk, ?_⟩
      clear hK K hx
      refine wpAnyT_takeL (i := 35) 30 (v := ?_) rfl (by kernel_rfl) (by kernel_rfl) (by kernel_rfl) (by kernel_rfl) (by kernel_rfl) (fun _ _ _ h => h) (Or.inl ⟨by rfl, ?_⟩) kk ?_
      rotate_left 1
      · (intro W hSw; (try dsimp only at hSw); go_simp) <;> with_reducible rfl
      try simp only [Act.put, List.setIfInBounds_toArray, List.set_cons_zero, List.set_cons_succ]
      refine wpAnyT_go (i := 36) rfl (by kernel_rfl) fun K hK => ?_
      go_simp
      refine hK _ _ ⟨fun h => absurd rfl h, ?_⟩
      clear hK K
      refine wpAnyT_done (by kernel_rfl) ?_ _
      clear kk
      go_wp2
      go_ret
      exact ⟨by rw [hP.out]; rfl, hW⟩
  · skip
    go_simp
    have hx := (Ext.refl wd).alloc (.cells #[.int .i64 x.e, .int .i64 x.f] 2)
    have hV := Blk.new wd 2 (#[.int .i64 x.e, .int .i64 x.f])
    obtain ⟨bV, hb⟩ : ∃ b, b = wd.heap.size := ⟨_, rfl⟩
    generalize hw : World.alloc wd (.cells #[.int .i64 x.e, .int .i64 x.f] 2) = w_34 at hx hV ⊢
    rw [← hb] at hV ⊢
    replace hW := hW.trans hx
    replace hBd := hBd.ext hx
    try replace hU := hU.ext hx
    have kk := hBd.c9
    refine hK _ _ ⟨fun _ => kk, ?_⟩
    clear hK K hx hb hw
    refine wpAnyT_go (i := 6) rfl (by kernel_rfl) fun K hK => ?_
    go_simp
    have hx := (Ext.refl w_34).alloc (.cells #[.int .i64 x.a, .int .i64 x.b, .int .i64 x.c] 2)
    have hU := Blk.new w_34 2 (#[.int .i64 x.a, .int .i64 x.b, .int .i64 x.c])
    obtain ⟨bU, hb⟩ : ∃ b, b = w_34.heap.size := ⟨_, rfl⟩
    generalize hw : World.alloc w_34 (.cells #[.int .i64 x.a, .int .i64 x.b, .int .i64 x.c] 2) = w_35 at hx hU ⊢
    rw [← hb] at hU ⊢
    replace hW := hW.trans hx
    replace hBd := hBd.ext hx
    try replace hV := hV.ext hx
    have kk := hBd.c9
    refine hK _ _ ⟨fun _ => kk, ?_⟩
    clear hK K hx hb hw
    refine wpAnyT_go (i := 7) rfl (by kernel_rfl) fun K hK => ?_
    go_simp
    go_at_call 82
    go_fit (cA _ ⟨some ⟨bU, 0, none⟩, 3, 3⟩ (show Rd _ (some ⟨bU, 0, none⟩) 3 [x.a, x.b, x.c] from rd_of_blk (xs := [x.a, x.b, x.c]) hU (by simp)))
    rintro e w_36 ⟨rfl, hx⟩
    go_simp
    replace hW := hW.trans hx
    replace hBd := hBd.ext hx
    try replace hV := hV.ext hx
    try replace hU := hU.ext hx
    have kk := hBd.c9
    refine hK _ _ ⟨fun _ => kk, ?_⟩
    clear hK K hx
    refine wpAnyT_takeL (i := 8) 30 (v := ?_) rfl (by kernel_rfl) (by kernel_rfl) (by kernel_rfl) (by kernel_rfl) (by kernel_rfl) (fun _ _ _ h => h) (Or.inl ⟨by rfl, ?_⟩) kk ?_
    rotate_left 1
    · (intro W hSw; (try dsimp only at hSw); go_simp) <;> with_reducible rfl
    try simp only [Act.put, List.setIfInBounds_toArray, List.set_cons_zero, List.set_cons_succ]
    refine wpAnyT_go (i := 11) rfl (by kernel_rfl) fun K hK => ?_
    go_simp
    go_at_call 69
    go_fit (cx _ (hr.ext hW).1.1)
    rintro e w_37 ⟨rfl, hx⟩
    go_simp
    replace hW := hW.trans hx
    replace hBd := hBd.ext hx
    try replace hV := hV.ext hx
    try replace hU := hU.ext hx
    have kk := hBd.c9
    refine hK _ _ ⟨fun _ => kk, ?_⟩
    clear hK K hx
    refine wpAnyT_takeL (i := 12) 30 (v := ?_) rfl (by kernel_rfl) (by kernel_rfl) (by kernel_rfl) (by kernel_rfl) (by kernel_rfl) (fun _ _ _ h => h) (Or.inl ⟨by rfl, ?_⟩) kk ?_
    rotate_left 1
    · (intro W hSw; (try dsimp only at hSw); go_simp) <;> with_reducible rfl
    try simp only [Act.put, List.setIfInBounds_toArray, List.set_cons_zero, List.set_cons_succ]
    refine wpAnyT_takeL (i := 13) 30 (v := ?_) rfl (by kernel_rfl) (by kernel_rfl) (by kernel_rfl) (by kernel_rfl) (by kernel_rfl) (fun _ _ _ h => h) (Or.inl ⟨by rfl, ?_⟩) kk ?_
    rotate_left 1
    · (intro W hSw; (try dsimp only at hSw); go_simp) <;> with_reducible rfl
    try simp only [Act.put, List.setIfInBounds_toArray, List.set_cons_zero, List.set_cons_succ]
    refine wpAnyT_go (i := 16) rfl (by kernel_rfl) fun K hK => ?_
    go_simp
    go_at_call 83
    go_fit (cd _)
    rintro e w_38 ⟨rfl, hx⟩
    go_simp
    replace hW := hW.trans hx
    replace hBd := hBd.ext hx
    try replace hV := hV.ext hx
    try replace hU := hU.ext hx
    have kk := hBd.c9
    refine hK _ _ ⟨fun _ => kk, ?_⟩
    clear hK K hx
    refine wpAnyT_takeL (i := 17) 30 (v := ?_) rfl (by kernel_rfl) (by kernel_rfl) (by kernel_rfl) (by kernel_rfl) (by kernel_rfl) (fun _ _ _ h => h) (Or.inl ⟨by rfl, ?_⟩) kk ?_
    rotate_left 1
    · (intro W hSw; (try dsimp only at hSw); go_simp) <;> with_reducible rfl
    try simp only [Act.put, List.setIfInBounds_toArray, List.set_cons_zero, List.set_cons_succ]
    refine wpAnyT_takeL (i := 18) 30 (v := ?_) rfl (by kernel_rfl) (by kernel_rfl) (by kernel_rfl) (by kernel_rfl) (by kernel_rfl) (fun _ _ _ h => h) (Or.inl ⟨by rfl, ?_⟩) kk ?_
    rotate_left 1
    · (intro W hSw; (try dsimp only at hSw); go_simp) <;> with_reducible rfl
    try simp only [Act.put, List.setIfInBounds_toArray, List.set_cons_zero, List.set_cons_succ]
    refine wpAnyT_go (i := 21) rfl (by kernel_rfl) fun K hK => ?_
    go_simp
    go_at_call 69
    go_fit (cy _ (hr.ext hW).1.2.1)
    rintro e w_39 ⟨rfl, hx⟩
    go_simp
    replace hW := hW.trans hx
    replace hBd := hBd.ext hx
    try replace hV := hV.ext hx
    try replace hU := hU.ext hx
    have kk := hBd.c9
    refine hK _ _ ⟨fun _ => kk, ?_⟩
    clear hK K hx
    refine wpAnyT_takeL (i := 22) 30 (v := ?_) rfl (by kernel_rfl) (by kernel_rfl) (by kernel_rfl) (by kernel_rfl) (by kernel_rfl) (fun _ _ _ h => h) (Or.inl ⟨by rfl, ?_⟩) kk ?_
    rotate_left 1
    · (intro W hSw; (try dsimp only at hSw); go_simp) <;> with_reducible rfl
    try simp only [Act.put, List.setIfInBounds_toArray, List.set_cons_zero, List.set_cons_succ]
    refine wpAnyT_takeL (i := 23) 30 (v := ?_) rfl (by kernel_rfl) (by kernel_rfl) (by kernel_rfl) (by kernel_rfl) (by kernel_rfl) (fun _ _ _ h => h) (Or.inl ⟨by rfl, ?_⟩) kk ?_
    rotate_left 1
    · (intro W hSw; (try dsimp only at hSw); go_simp) <;> with_reducible rfl
    try simp only [Act.put, List.setIfInBounds_toArray, List.set_cons_zero, List.set_cons_succ]
    refine wpAnyT_go (i := 26) rfl (by kernel_rfl) fun K hK => ?_
    go_simp
    go_at_call 84
    go_fit (cz _ (hr.ext hW).1.2.2.1)
    rintro e w_40 ⟨rfl, hx⟩
    go_simp
    replace hW := hW.trans hx
    replace hBd := hBd.ext hx
    try replace hV := hV.ext hx
    try replace hU := hU.ext hx
    have kk := hBd.c9
    refine hK _ _ ⟨fun _ => kk, ?_⟩
    clear hK K hx
    refine wpAnyT_takeL (i := 27) 30 (v := ?_) rfl (by kernel_rfl) (by kernel_rfl) (by kernel_rfl) (by kernel_rfl) (by kernel_rfl) (fun _ _ _ h => h) (Or.inl ⟨by rfl, ?_⟩) kk ?_
    rotate_left 1
    · (intro W hSw; (try dsimp only at hSw); go_simp) <;> with_reducible rfl
    try simp only [Act.put, List.setIfInBounds_toArray, List.set_cons_zero, List.set_cons_succ]
    refine wpAnyT_takeL (i := 28) 30 (v := ?_) rfl (by kernel_rfl) (by kernel_rfl) (by kernel_rfl) (by kernel_rfl) (by kernel_rfl) (fun _ _ _ h => h) (Or.inl ⟨by rfl, ?_⟩) kk ?_
    rotate_left 1
    · (intro W hSw; (try dsimp only at hSw); go_simp) <;> with_reducible rfl
    try simp only [Act.put, List.setIfInBounds_toArray, List.set_cons_zero, List.set_cons_succ]
    refine wpAnyT_go (i := 34) rfl (by kernel_rfl) fun K hK => ?_
    go_simp
    go_at_call 82
    go_fit (cF _ ⟨some ⟨bV, 0, none⟩, 2, 2⟩ (show Rd _ (some ⟨bV, 0, none⟩) 2 [x.e, x.f] from rd_of_blk (xs := [x.e, x.f]) hV (by simp)))
    rintro e w_41 ⟨rfl, hx⟩
    go_simp
    replace hW := hW.trans hx
    replace hBd := hBd.ext hx
    try replace hV := hV.ext hx
    try replace hU := hU.ext hx
    have kk := hBd.c9
    refine hK _ _ ⟨fun _ => kk, ?_⟩
    clear hK K hx
    refine wpAnyT_takeL (i := 35) 30 (v := ?_) rfl (by kernel_rfl) (by kernel_rfl) (by kernel_rfl) (by kernel_rfl) (by kernel_rfl) (fun _ _ _ h => h) (Or.inl ⟨by rfl, ?_⟩) kk ?_
    rotate_left 1
    · (intro W hSw; (try dsimp only at hSw); go_simp) <;> with_reducible rfl
    try simp only [Act.put, List.setIfInBounds_toArray, List.set_cons_zero, List.set_cons_succ]
    refine wpAnyT_go (i := 36) rfl (by kernel_rfl) fun K hK => ?_
    go_simp
    refine hK _ _ ⟨fun h => absurd rfl h, ?_⟩
    clear hK K
    refine wpAnyT_done (by kernel_rfl) ?_ _
    clear kk
    go_wp2
    go_ret
    exact ⟨by rw [hP.out]; rfl, hW⟩
theorem spec.RecordText_any (x : RecA) (y : RecL) (w : World) (hr : RdR w x y) :
    Calls Tryz.prog 22 #[.agg #[.int .i64 x.a, .int .i64 x.b, .int .i64 x.c, .slice x.p.x.A x.p.x.n x.p.x.c, .int .i64 x.d, .slice x.p.y.A x.p.y.n x.p.y.c, .slice x.p.z.A x.p.z.n x.p.z.c, .int .i64 x.e, .int .i64 x.f]] w fun e w' => e = .returned (.tuple #[.string (rtV y), .int .i64 (rtC y)]) ∧ Ext w w' := by
  have hX0 := (Ext.refl w).alloc (.cells #[.int .i64 x.a, .int .i64 x.b, .int .i64 x.c, .slice x.p.x.A x.p.x.n x.p.x.c, .int .i64 x.d, .slice x.p.y.A x.p.y.n x.p.y.c, .slice x.p.z.A x.p.z.n x.p.z.c, .int .i64 x.e, .int .i64 x.f] 36)
  have hB0 := Blk.new w 36 (#[.int .i64 x.a, .int .i64 x.b, .int .i64 x.c, .slice x.p.x.A x.p.x.n x.p.x.c, .int .i64 x.d, .slice x.p.y.A x.p.y.n x.p.y.c, .slice x.p.z.A x.p.z.n x.p.z.c, .int .i64 x.e, .int .i64 x.f])
  obtain ⟨q0, q1, q2, q3, q4, q5, q6, q7, q8⟩ := hB0.c9
  have hk := spec.IsRecord_any x y _ (hr.ext hX0)
  cases hok : okR y
  · have E := hide (rt_no hok)
    rw [hok] at hk
    go_enter Tryz.func22, Tryz.ntmps22
    go_wp2_with fail
    refine hk.mono ?_
    rintro e w1 ⟨rfl, hx1⟩
    go_wp2
    go_ret2
    exact ⟨by rw [E.out.1, E.out.2]; rfl, hX0.trans hx1⟩
  · have E := hide (rt_yes hok)
    rw [hok] at hk
    have ht := fun W h => spec.l16Text_any x y W h hok
    clear hok
    go_enter Tryz.func22, Tryz.ntmps22
    go_wp2_with fail
    refine hk.mono ?_
    rintro e w1 ⟨rfl, hx1⟩
    have hX1 := hX0.trans hx1
    have hB1 := hB0.ext hx1
    clear q0 q1 q2 q3 q4 q5 q6 q7 q8
    obtain ⟨q0, q1, q2, q3, q4, q5, q6, q7, q8⟩ := hB1.c9
    go_wp2_with fail
    refine (ht _ (hr.ext hX1)).mono ?_
    rintro e w2 ⟨rfl, hx2⟩
    go_wp2
    go_ret2
    exact ⟨by rw [E.out.1, E.out.2]; rfl, hX1.trans hx2⟩
end Go.Proofs.YtfojfndmaofahaaGreatDoor.mem
