/-
  Draws of moves, and their texts.
-/
import Derived.Test.YtfojfndmaofahaaDoorDrT
import Derived.Test.YtfojfndmaofahaaDoorTw
namespace Go.Proofs.YtfojfndmaofahaaDoor.mem
open Go.ChangeShapes Go.WideShapes Go.ChangeAt Go.RowKit

section
variable (w : World)
set_option maxRecDepth 20000 in
theorem run_mknM (n : Nat) (hn : n ≤ 16777216) : (Instr.makeSlice 24 (.int .i64 (n : Int)) (.int .i64 (n : Int))).run Tryd.prog w = .ok (.slice (some ⟨w.heap.size, 0, none⟩) n n) (w.alloc (.cells (madeCells #[.int .i64 0] n) 2)) := by
  obtain ⟨i, hi, hz0, hz1, hz2⟩ := info_parts ints_info
  have hr := run_make (P := Tryd.prog) w 24 2 i (.int .i64 0) Tryd.underlying24 hi hz0 .i64 .i64 n n (by omega) (by omega) (by rw [hz2]; omega) (by omega)
  simp only [hz1, Int.toNat_natCast, Nat.mul_one] at hr
  exact hr
theorem Own.mknM (lo n : Nat) (hl : lo ≤ w.heap.size) (hn : n ≤ 16777216) : Own (w.alloc (.cells (madeCells #[.int .i64 0] n) 2)) lo (.slice (some ⟨w.heap.size, 0, none⟩) n n) (List.replicate n 0) :=
  Own.of_blk (Blk.new w 2 _) hl n n (by simp) (Nat.le_refl _) (by unfold maxLen; omega) (by rw [← Array.length_toList, toList_madeCells_one, List.length_replicate]) hn (by rw [toList_madeCells_one]; simp)
end
/-- moves, or nearly -/
def mvR (xs : List Int) : Prop := ∀ x ∈ xs, -2 ≤ x ∧ x ≤ 12
theorem mvR_app {xs : List Int} {y : Int} (h : mvR xs) (h1 : -2 ≤ y) (h2 : y ≤ 12) : mvR (xs ++ [y]) := fun x hx => by
  rcases List.mem_append.1 hx with h' | h'
  · exact h x h'
  · have := List.mem_singleton.1 h'
    omega
theorem mvR_zeros (n : Nat) : mvR (List.replicate n 0) := fun x hx => by
  have := List.eq_of_mem_replicate hx
  omega
theorem Only.grow {g : Nat} {w w' w'' : World} {row : Option Nat} (h : Only g w w') (hg : w'.grownBy w'' row) (hr : ∀ k, row = some k → w.heap.size ≤ k) : Only g w w'' :=
  ⟨hg.os.trans h.os, hg.tape.trans h.tape, hg.output.trans h.output, Nat.le_trans h.size hg.size, fun k hk hne => (hg.block k (Nat.lt_of_lt_of_le hk h.size) (fun e => by have := hr k e.symm; omega)).trans (h.block k hk hne)⟩
def DmP (w0 w : World) (g : Nat) (s : Sl) (e : Ending) (w' : World) : Prop :=
  ∃ (t : Sl) (xs : List Int), e = .returned (.slice t.A t.n t.c) ∧ Own w' w.heap.size (.slice t.A t.n t.c) xs ∧ mvR xs ∧ xs.length ≤ 41 ∧ Dr w0 w' g s ∧ Only g w w'
set_option maxRecDepth 20000 in
set_option maxHeartbeats 4000000 in
theorem spec.l14Moves_any (g : Nat) (s : Sl) (w0 w : World) (h : Dr w0 w g s) :
    Calls Tryd.prog 12 #[.pointer (some ⟨g, 0, none⟩)] w fun e w' => DmP w0 w g s e w' := by
  have hk7 := fun W h => spec.l01Next_any g s 7 w0 W h (by omega)
  have hk5 := fun W h => spec.l01Next_any g s 5 w0 W h (by omega)
  have hk30 := fun W h => spec.l01Next_any g s 30 w0 W h (by omega)
  have hk2 := fun W h => spec.l01Next_any g s 2 w0 W h (by omega)
  have hg := h.lt
  have ho0 := Own.new0 w w.heap.size (Nat.le_refl _)
  have hX0 := (Ext.refl w).alloc (.cells #[] 2)
  go_enter Tryd.func12, Tryd.ntmps12
  go_wp2_with fail
  refine (hk7 _ (h.more hX0)).mono ?_
  rintro e w1 ⟨x, rfl, ⟨x0, x1⟩, hD, hO⟩
  obtain ⟨j, rfl⟩ := Int.eq_ofNat_of_zero_le x0
  have hj : j ≤ 6 := by omega
  have hI : ∃ (t : Sl) (xs : List Int), Value.slice (some ⟨w.heap.size, 0, none⟩) 0 0 = .slice t.A t.n t.c ∧ Own w1 w.heap.size (.slice t.A t.n t.c) xs ∧ mvR xs ∧ xs.length + j ≤ 6 ∧ Dr w0 w1 g s ∧ Only g w w1 :=
    ⟨⟨_, _, _⟩, [], rfl, ho0.fr hO (fun k hk e => by have := (ho0.lt k hk).1; omega), (fun x hx => by cases hx), by simpa using hj, hD, Fr.trans hX0.fr hO⟩
  clear hk7 x0 x1 hD hO ho0 hX0
  go_wp2_with fail
  go_loopw [3, 4] (fun tv nv wr => ∃ (m : Nat) (t : Sl) (xs : List Int), nv = .int .i64 m ∧ tv = .slice t.A t.n t.c ∧ Own wr w.heap.size (.slice t.A t.n t.c) xs ∧ mvR xs ∧ xs.length + m ≤ 6 ∧ Dr w0 wr g s ∧ Only g w wr) (fun _ nv _ => (intOf nv).toNat)
  case atStart =>
    obtain ⟨t, xs, e, a, b, c, d, f⟩ := hI
    exact ⟨j, t, xs, rfl, e, a, b, c, d, f⟩
  case round =>
    clear hI
    obtain ⟨m, t, xs, rfl, rfl, ho, hm, hl, hD, hO⟩ := hrel
    have hz := hO.size
    have hbl := ho.lt
    by_cases hi : 0 < m
    · have hi' : (0 : Int) < (m : Int) := by omega
      have hwi : IntKind.i64.wrap ((m : Int) - 1) = ((m - 1 : Nat) : Int) := by rw [Go.IntWalk.i64_in _ (by omega)]; omega
      go_wp2_with fail
      refine (hk5 _ hD).mono ?_
      rintro e w2 ⟨a, rfl, ⟨a0, a1⟩, hD2, hO2⟩
      replace ho := ho.fr hO2 (fun k hk e => by have := (ho.lt k hk).1; omega)
      replace hO := Fr.trans hO hO2
      clear hD hO2
      go_wp2_with fail
      refine (hk5 _ hD2).mono ?_
      rintro e w3 ⟨b, rfl, ⟨b0, b1⟩, hD3, hO3⟩
      replace ho := ho.fr hO3 (fun k hk e => by have := (ho.lt k hk).1; omega)
      replace hO := Fr.trans hO hO3
      clear hD2 hO3
      have hp := spec.l01Pick_any g w3.heap.size s [a, b, -1] w0 (w3.alloc (.cells #[.int .i64 a, .int .i64 b, .int .i64 (-1)] 2)) (hD3.alloc _) (Blk.new w3 2 _) (by have := hD3.lt; omega) (by simp) (by simp)
      replace ho := ho.ext ((Ext.refl w3).alloc (.cells #[.int .i64 a, .int .i64 b, .int .i64 (-1)] 2))
      replace hO := Only.more hO ((Ext.refl w3).alloc (.cells #[.int .i64 a, .int .i64 b, .int .i64 (-1)] 2))
      have hz3 := hO.size
      go_wp2_with fail
      refine hp.mono ?_
      rintro e w4 ⟨y, rfl, hy, hD4, hO4⟩
      have hyb : -2 ≤ y ∧ y ≤ 12 := by
        simp only [List.mem_cons, List.not_mem_nil, or_false] at hy
        omega
      replace ho := ho.fr hO4 (fun k hk e => by have := (ho.lt k hk).1; omega)
      replace hO := Fr.trans hO hO4
      have hz4 := hO.size
      have hlo := ho.lt
      clear hD3 hO4 hp hy hz3
      have hV := Rd.one w4 y
      go_wp2_with (at_builtin; refine wpList_app _ rfl (.tmp 12) (.tmp 20) rfl w.heap.size _ _ rfl (ho.alloc _) _ _ _ [y] rfl hV (by omega) (by simp; omega) ?_; intro t1 w5 ho1 hg1 hb1)
      go_roundw
      case rel => exact ⟨m - 1, t1, xs ++ [y], by go_num, rfl, ho1, mvR_app hm hyb.1 hyb.2, by simp; omega, (hD4.alloc _).keep (Fr.of_grown hg1) (fun e => by have := (hlo _ e).1; omega) (fun k e => by have := (hlo _ e).1; have := h.ext.size; omega), Only.grow (Only.more hO ((Ext.refl w4).alloc _)) hg1 (fun k e => (hlo k e).1)⟩
      case measure => simp [intOf]; omega
    · have hi' : ¬ (0 : Int) < (m : Int) := by omega
      go_wp2_with fail
      refine (hk30 _ hD).mono ?_
      rintro e w2 ⟨x, rfl, ⟨x0, x1⟩, hD2, hO2⟩
      replace ho := ho.fr hO2 (fun k hk e => by have := (ho.lt k hk).1; omega)
      replace hO := Fr.trans hO hO2
      obtain ⟨j2, rfl⟩ := Int.eq_ofNat_of_zero_le x0
      clear hD hO2 hk5 hk30 x0 x1
      have hz2 := hO.size
      rcases (show j2 = 0 ∨ j2 = 1 ∨ 2 ≤ j2 by omega) with rfl | rfl | hj2
      · have hp := spec.l01Pick_any g w2.heap.size s [11, 12, -2] w0 (w2.alloc (.cells #[.int .i64 11, .int .i64 12, .int .i64 (-2)] 2)) (hD2.alloc _) (Blk.new w2 2 _) (by have := hD2.lt; omega) (by simp) (by simp)
        replace ho := ho.ext ((Ext.refl w2).alloc (.cells #[.int .i64 11, .int .i64 12, .int .i64 (-2)] 2))
        replace hO := Only.more hO ((Ext.refl w2).alloc (.cells #[.int .i64 11, .int .i64 12, .int .i64 (-2)] 2))
        go_wp2_with fail
        refine hp.mono ?_
        rintro e w4 ⟨y, rfl, hy, hD4, hO4⟩
        have hyb : -2 ≤ y ∧ y ≤ 12 := by
          simp only [List.mem_cons, List.not_mem_nil, or_false] at hy
          omega
        replace ho := ho.fr hO4 (fun k hk e => by have := (ho.lt k hk).1; omega)
        replace hO := Fr.trans hO hO4
        have hz4 := hO.size
        have hlo := ho.lt
        clear hD2 hO4 hp hy
        have hV := Rd.one w4 y
        go_wp2_with (at_builtin; refine wpList_app _ rfl (.tmp 26) (.tmp 30) rfl w.heap.size _ _ rfl (ho.alloc _) _ _ _ [y] rfl hV (by omega) (by simp; omega) ?_; intro t1 w5 ho1 hg1 hb1)
        go_ret
        exact ⟨t1, xs ++ [y], rfl, ho1, mvR_app hm hyb.1 hyb.2, by simp; omega, (hD4.alloc _).keep (Fr.of_grown hg1) (fun e => by have := (hlo _ e).1; omega) (fun k e => by have := (hlo _ e).1; have := h.ext.size; omega), Only.grow (Only.more hO ((Ext.refl w4).alloc _)) hg1 (fun k e => (hlo k e).1)⟩
      · go_wp2_with fail
        refine (hk2 _ hD2).mono ?_
        rintro e w4 ⟨x, rfl, ⟨x0, x1⟩, hD4, hO4⟩
        replace hO := Fr.trans hO hO4
        have hz4 := hO.size
        obtain ⟨a, rfl⟩ := Int.eq_ofNat_of_zero_le x0
        obtain ⟨N, hN⟩ : ∃ N, Hid (N = 40 + a) := ⟨_, rfl⟩
        have hNb : N ≤ 41 := by have := hN.out; omega
        have hwa : IntKind.i64.wrap (40 + (a : Int)) = (N : Int) := by rw [Go.IntWalk.i64_in _ (by omega), hN.out]; simp
        have hmk := fun W : World => run_mknM W N (by omega)
        have ho1 := Own.mknM w4 w.heap.size N hz4 (by omega)
        clear hD2 hO4 x0 x1 hk2
        go_wp2_with fail
        go_ret
        exact ⟨⟨_, _, _⟩, _, rfl, ho1, mvR_zeros N, by simpa using hNb, hD4.alloc _, Only.more hO ((Ext.refl w4).alloc _)⟩
      · have e0 : ((j2 : Int) == 0) = false := by rw [beq_eq_false_iff_ne]; omega
        have e1 : ((j2 : Int) == 1) = false := by rw [beq_eq_false_iff_ne]; omega
        go_wp2_with fail
        go_ret
        exact ⟨t, xs, rfl, ho, hm, by omega, hD2, hO⟩
/-- a number's text, and a small negative number's -/
theorem spec.l01Dec_sz (n : Int) (w : World) (h0 : -2 ≤ n) (h1 : n ≤ 12) :
    Calls Tryd.prog 29 #[.int .i64 n] w fun e w' => ∃ t : ByteArray, e = .returned (.string t) ∧ t.size ≤ 13 ∧ Ext w w' := by
  by_cases hn : 0 ≤ n
  · obtain ⟨k, rfl⟩ := Int.eq_ofNat_of_zero_le hn
    refine (spec.l01Dec_any k w (by omega)).mono ?_
    rintro e w' ⟨rfl, hx⟩
    exact ⟨_, rfl, by have := decW_le k; omega, hx⟩
  · have hm : IntKind.i64.wrap (48 + n) = 48 + n := Go.IntWalk.i64_in _ (by omega)
    have hm8 : IntKind.u8.wrap (48 + n) = 48 + n := Go.IntWalk.u8_in _ (by omega)
    have kc : (convert 22 9 (.slice (some ⟨w.heap.size, 0, none⟩) 1 1)).run Tryd.prog (w.alloc (.cells #[.int .u8 (48 + n)] 5)) = .ok (.string (strOfNums [48 + n])) (w.alloc (.cells #[.int .u8 (48 + n)] 5)) :=
      run_convert_bytes_arg _ 22 5 Tryd.underlying22 Tryd.underlying5 w.heap.size 0 1 1 [48 + n] rfl (fun i hi => by
        obtain rfl : i = 0 := by omega
        exact (Blk.new w 5 #[.int .u8 (48 + n)]).get 0 _ rfl) 9 Tryd.underlying9
    have hlt : n < 10 := by omega
    go_enter Tryd.func29, Tryd.ntmps29
    go_wp2
    go_ret
    exact ⟨_, rfl, (show (strOfNums [48 + n]).size ≤ 13 from by show 1 ≤ 13; omega), (Ext.refl w).alloc _⟩
theorem takeU_snoc {ss : List ByteArray} {x : ByteArray} {b : Nat} (h : ∀ y ∈ ss, y.size ≤ b) (hx : x.size ≤ b) : ∀ y ∈ ss ++ [x], y.size ≤ b := fun y hy => by
  rcases List.mem_append.1 hy with h' | h'
  · exact h y h'
  · rw [List.mem_singleton.1 h']; exact hx
set_option maxRecDepth 20000 in
set_option maxHeartbeats 4000000 in
theorem spec.l14Text_sz (s : Sl) (ms : List Int) (w : World) (hr : Rd w s.A s.n ms) (hm : mvR ms) (hl : ms.length ≤ 41) :
    Calls Tryd.prog 18 #[.slice s.A s.n s.c] w fun e w' => ∃ t : ByteArray, e = .returned (.string t) ∧ t.size ≤ 1000 ∧ Ext w w' := by
  obtain ⟨A, n, c⟩ := s
  simp only at hr ⊢
  have hn1 : n ≤ 41 := by have := hr.1; omega
  have hmB := hide hm
  clear hm hl
  go_enter Tryd.func18, Tryd.ntmps18
  go_wp2
  have hX0 := (Ext.refl w).alloc (.cells #[] 9)
  go_loopw [3, 4] (fun h i wr => ∃ (k : Nat) (v : Sl) (ss : List ByteArray), k ≤ n ∧ i = .int .i64 k ∧ h = .slice v.A v.n v.c ∧ OwnU wr w.heap.size (.slice v.A v.n v.c) ss ∧ ss.length = k ∧ (∀ y ∈ ss, y.size ≤ 13) ∧ Ext w wr) (fun _ i _ => n - (intOf i).toNat)
  case atStart => exact ⟨0, ⟨_, _, _⟩, [], by omega, rfl, rfl, OwnU.new0 w _ (Nat.le_refl _), rfl, (fun y hy => by cases hy), hX0⟩
  case round =>
    clear hX0
    obtain ⟨k, v, ss, hk, rfl, rfl, ho, hss, hsz, hE⟩ := hrel
    have hsw := hE.size
    have hvl := ho.lt
    replace hss := hide hss
    by_cases hlt : k < n
    · obtain ⟨bm, offm, m, rfl, hbm, hcm, hmm⟩ := hr.el hlt
      have hcm1 := (hE.cell (p := ⟨bm, offm + k, none⟩) hbm).trans hcm
      have hbd := hmB.out m (List.mem_of_getElem? hmm.out)
      have hk0 : (0 : Int) ≤ (k : Int) := by omega
      have hkn : (k : Int) < (n : Int) := by omega
      have hwk : IntKind.i64.wrap ((k : Int) + 1) = (k : Int) + 1 := Go.IntWalk.i64_in _ (by omega)
      have hlen := hide (show ss.length ≤ 41 by have := hss.out; omega)
      by_cases h1 : m = -1
      · subst h1
        have hF := RdU.one wr passW
        go_wp2_with (at_builtin; refine wpList_appU _ rfl (.tmp 17) (.tmp 18) rfl w.heap.size _ _ rfl (ho.alloc _) _ _ _ [passW] rfl hF (by have := hlen.out; omega) (by simp; omega) ?_; intro t4 w4 o4 hg hb)
        go_roundw
        case rel => exact ⟨k + 1, t4, ss ++ [passW], by omega, by go_num, rfl, o4, by simp; exact hss.out, takeU_snoc hsz (by decide), (hE.alloc _).grow hg (fun j hj => (hvl j hj).1)⟩
        case measure => simp [intOf]; omega
      · have hne : (m == -1) = false := by rw [beq_eq_false_iff_ne]; exact h1
        have hdc := fun W => spec.l01Dec_sz m W hbd.1 hbd.2
        replace h1 := hide h1
        go_wp2_with fail
        refine (hdc _).mono ?_
        rintro e w2 ⟨d, rfl, hd, hx2⟩
        have hF := RdU.one w2 d
        have hE2 := hE.trans hx2
        have ho2 := ho.ext hx2
        have hs2 := hE2.size
        go_wp2_with (at_builtin; refine wpList_appU _ rfl (.tmp 20) (.tmp 26) rfl w.heap.size _ _ rfl (ho2.alloc _) _ _ _ [d] rfl hF (by have := hlen.out; omega) (by simp; omega) ?_; intro t4 w4 o4 hg hb)
        go_roundw
        case rel => exact ⟨k + 1, t4, ss ++ [d], by omega, by go_num, rfl, o4, by simp; exact hss.out, takeU_snoc hsz hd, (hE2.alloc _).grow hg (fun j hj => (ho2.lt j hj).1)⟩
        case measure => simp [intOf]; omega
    · have hvn := hide (show v.n = ss.length from ho.rd.1)
      by_cases h0 : n = 0
      · have e0 : v.n = 0 := by rw [hvn.out, hss.out]; omega
        replace h0 := hide h0
        go_wp2
        go_ret
        exact ⟨_, rfl, by decide, hE⟩
      · have e0 : ¬ (v.n : Int) = 0 := by have := hvn.out; have := hss.out; omega
        replace h0 := hide h0
        have hw := fun W h => spec.l01Words_any v ss ⟨#[44]⟩ W h (fun x hx => Nat.le_trans (hsz x hx) (by omega)) (by have := hss.out; omega) (by decide)
        have hj := joinW_size (ss := ss) (sep := ⟨#[44]⟩) (b := 13) (c := 1) hsz (by decide) ss.length (Nat.le_refl _)
        rw [List.take_length, hss.out] at hj
        replace hj := hide hj
        go_wp2_with fail
        refine (hw _ ho.rd).mono ?_
        rintro e w2 ⟨rfl, hx2⟩
        go_wp2
        go_ret
        exact ⟨_, rfl, by have := hj.out; omega, hE.trans hx2⟩
theorem spec.DrawMovesText_any (s : Sl) (w : World) (hc : Code w s) :
    Calls Tryd.prog 5 #[.slice s.A s.n s.c] w fun e w' => ∃ (t : Sl) (xs : List Int), e = .returned (.slice t.A t.n t.c) ∧ Own w' w.heap.size (.slice t.A t.n t.c) xs ∧ mvR xs ∧ xs.length ≤ 41 ∧ Ext w w' := by
  go_enter Tryd.func5, Tryd.ntmps5
  go_wp2_with fail
  refine (spec.l01From_any s w _ (Ext.refl w) hc).mono ?_
  rintro e w1 ⟨g, rfl, hg, hD, hX⟩
  have hz := hX.size
  go_wp2_with fail
  refine (spec.l14Moves_any g s w _ hD).mono ?_
  rintro e w2 ⟨t, xs, rfl, ho, hm, hl, hD2, hO⟩
  replace hX := hX.only hO hg
  go_wp2_with fail
  go_ret
  exact ⟨t, xs, rfl, ho.mono hz, hm, hl, hX⟩
theorem spec.DrawReadMoves_any (s : Sl) (w : World) (hc : Code w s) :
    Calls Tryd.prog 8 #[.slice s.A s.n s.c] w fun e w' => ∃ u : ByteArray, e = .returned (.string u) ∧ u.size ≤ 100000 ∧ Ext w w' := by
  go_enter Tryd.func8, Tryd.ntmps8
  go_wp2_with fail
  refine (spec.l01From_any s w _ (Ext.refl w) hc).mono ?_
  rintro e w1 ⟨g, rfl, hg, hD, hX⟩
  go_wp2_with fail
  refine (spec.l14Moves_any g s w _ hD).mono ?_
  rintro e w2 ⟨v, xs, rfl, ho, hm, hl, hD2, hO⟩
  replace hX := hX.only hO hg
  go_wp2_with fail
  refine (spec.l14Text_sz v xs _ ho.rd hm hl).mono ?_
  rintro e w3 ⟨t, rfl, hsz, hx3⟩
  replace hX := hX.trans hx3
  replace hD2 := hD2.more hx3
  clear hD hO ho hm hl hx3
  have hk3 := fun W h => spec.l01Next_any g s 3 w W h (by omega)
  have hkd := fun W h => spec.l01Damage_any g s t w W h (by omega)
  go_wp2_with fail
  refine (hk3 _ hD2).mono ?_
  rintro e w4 ⟨x, rfl, ⟨x0, x1⟩, hD4, hO4⟩
  replace hX := hX.only hO4 hg
  clear hD2 hO4 hk3
  by_cases h0 : x = 0
  · subst h0
    go_wp2_with fail
    refine (hkd _ hD4).mono ?_
    rintro e w5 ⟨u, rfl, hu, hD5, hO5⟩
    replace hX := hX.only hO5 hg
    go_wp2_with fail
    go_ret
    exact ⟨u, rfl, by omega, hX⟩
  · have e0 : (x == 0) = false := by rw [beq_eq_false_iff_ne]; exact h0
    clear h0
    go_wp2_with fail
    go_ret
    exact ⟨t, rfl, by omega, hX⟩
end Go.Proofs.YtfojfndmaofahaaDoor.mem
