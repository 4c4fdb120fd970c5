/-
  Draws of words and of parties.
-/
import Derived.Test.YtofglgfjlbehmaaGreatDrA
import Derived.Test.YtofglgfjlbehmaaGreatStw
namespace Go.Proofs.YtofglgfjlbehmaaGreat.mem
open Go.ChangeShapes Go.WideShapes Go.ChangeAt Go.RowKit
set_option linter.unusedVariables false
/-- some word is drawn -/
def DwdP (w0 w : World) (g : Nat) (s : Sl) (e : Ending) (w' : World) : Prop := ∃ x : ByteArray, e = .returned (.string x) ∧ x.size ≤ 100 ∧ Dr w0 w' g s ∧ Only g w w'
theorem OwS.only {g lo : Nat} {w w' : World} {v : Value} {xs : List ByteArray} (h : OwS w lo v xs) (hf : Only g w w') (hl : g < lo) : OwS w' lo v xs := h.keep fun k hk => hf.block k (h.lt k hk).2 (fun e => by have := (h.lt k hk).1; omega)
theorem OwS.to_ {w : World} {lo b n c m : Nat} {xs : List ByteArray} (h : OwS w lo (.slice (some ⟨b, 0, none⟩) n c) xs) (hm : m ≤ n) : OwS w lo (.slice (some ⟨b, 0, none⟩) m c) (xs.take m) := by
  rcases h.2.2 with ⟨e, _⟩ | ⟨g, cap, cur, e, hg, hb, h1, h2, h3, h4⟩
  · cases e
  · injection e with e1 e2 e3
    injection e1 with e1
    injection e1 with e1 _ _
    subst e1 e3
    have h0 := h.1
    refine OwS.of_blk hb hg m c (by rw [List.length_take]; omega) (by omega) h2 (by omega) (by omega) ?_
    rw [List.map_take, ← h4, List.take_take]
    congr 1
    omega
theorem Only.grow_ {g : Nat} {w w' w'' : World} {row : Option Nat} (h : Only g w w') (hg : w'.grownBy w'' row) (hr : ∀ k, row = some k → w.heap.size ≤ k) : Only g w w'' :=
  ⟨hg.os.trans h.os, hg.tape.trans h.tape, hg.output.trans h.output, Nat.le_trans h.size hg.size, fun k hk hne => (hg.block k (Nat.lt_of_lt_of_le hk h.size) (fun e => by have := hr k e.symm; omega)).trans (h.block k hk hne)⟩
set_option maxRecDepth 20000 in
theorem spec.l01Good_any (g : Nat) (s : Sl) (w0 w : World) (h : Dr w0 w g s) :
    Calls Tryz.prog 113 #[.pointer (some ⟨g, 0, none⟩)] w fun e w' => DwdP w0 w g s e w' := by
  have hg := h.lt
  have hk := fun W h => spec.l01Next_any g s 12 w0 W h (by omega)
  have hB := Blk.new w 9 (#[(.string ⟨#[97, 100, 97]⟩), (.string ⟨#[98, 114, 117, 110, 111]⟩), (.string ⟨#[99, 108, 97, 114, 97]⟩), (.string ⟨#[100, 111, 114, 97]⟩), (.string ⟨#[101, 109, 105, 108]⟩), (.string ⟨#[102, 114, 105, 100, 97]⟩), (.string ⟨#[103, 117, 115, 116, 97, 118]⟩), (.string ⟨#[104, 97, 110, 110, 97]⟩), (.string ⟨#[105, 118, 97, 110]⟩), (.string ⟨#[106, 97, 110, 97]⟩), (.string ⟨#[107, 97, 114, 108]⟩), (.string ⟨#[108, 101, 110, 97]⟩)])
  have hX := (Ext.refl w).alloc (.cells #[(.string ⟨#[97, 100, 97]⟩), (.string ⟨#[98, 114, 117, 110, 111]⟩), (.string ⟨#[99, 108, 97, 114, 97]⟩), (.string ⟨#[100, 111, 114, 97]⟩), (.string ⟨#[101, 109, 105, 108]⟩), (.string ⟨#[102, 114, 105, 100, 97]⟩), (.string ⟨#[103, 117, 115, 116, 97, 118]⟩), (.string ⟨#[104, 97, 110, 110, 97]⟩), (.string ⟨#[105, 118, 97, 110]⟩), (.string ⟨#[106, 97, 110, 97]⟩), (.string ⟨#[107, 97, 114, 108]⟩), (.string ⟨#[108, 101, 110, 97]⟩)] 9)
  have hD := h.alloc (.cells #[(.string ⟨#[97, 100, 97]⟩), (.string ⟨#[98, 114, 117, 110, 111]⟩), (.string ⟨#[99, 108, 97, 114, 97]⟩), (.string ⟨#[100, 111, 114, 97]⟩), (.string ⟨#[101, 109, 105, 108]⟩), (.string ⟨#[102, 114, 105, 100, 97]⟩), (.string ⟨#[103, 117, 115, 116, 97, 118]⟩), (.string ⟨#[104, 97, 110, 110, 97]⟩), (.string ⟨#[105, 118, 97, 110]⟩), (.string ⟨#[106, 97, 110, 97]⟩), (.string ⟨#[107, 97, 114, 108]⟩), (.string ⟨#[108, 101, 110, 97]⟩)] 9)
  have hx12 : ∀ k, k < 12 → ∃ x : ByteArray, (#[(.string ⟨#[97, 100, 97]⟩), (.string ⟨#[98, 114, 117, 110, 111]⟩), (.string ⟨#[99, 108, 97, 114, 97]⟩), (.string ⟨#[100, 111, 114, 97]⟩), (.string ⟨#[101, 109, 105, 108]⟩), (.string ⟨#[102, 114, 105, 100, 97]⟩), (.string ⟨#[103, 117, 115, 116, 97, 118]⟩), (.string ⟨#[104, 97, 110, 110, 97]⟩), (.string ⟨#[105, 118, 97, 110]⟩), (.string ⟨#[106, 97, 110, 97]⟩), (.string ⟨#[107, 97, 114, 108]⟩), (.string ⟨#[108, 101, 110, 97]⟩)] : Array Value)[k]? = some (.string x) ∧ x.size ≤ 100 := by
    intro k hk
    have : k = 0 ∨ k = 1 ∨ k = 2 ∨ k = 3 ∨ k = 4 ∨ k = 5 ∨ k = 6 ∨ k = 7 ∨ k = 8 ∨ k = 9 ∨ k = 10 ∨ k = 11 := by omega
    rcases this with rfl | rfl | rfl | rfl | rfl | rfl | rfl | rfl | rfl | rfl | rfl | rfl <;> exact ⟨_, rfl, by decide⟩
  replace hx12 := hide hx12
  go_enter Tryz.func113, Tryz.ntmps113
  go_wp2_with fail
  refine (hk _ hD).mono ?_
  rintro e w1 ⟨x, rfl, ⟨x0, x1⟩, hD1, hO1⟩
  obtain ⟨k, rfl⟩ := Int.eq_ofNat_of_zero_le x0
  have hk12 : k < 12 := by omega
  have hkI : (k : Int) < 12 := by omega
  have hk0 : (0 : Int) ≤ (k : Int) := by omega
  obtain ⟨y, hy, hys⟩ := hx12.out k hk12
  have hc := (hB.only hO1 (by omega)).get k _ hy
  go_wp2_with fail
  go_ret
  exact ⟨y, rfl, hys, hD1, Fr.trans hX.onl hO1⟩
set_option maxRecDepth 20000 in
theorem spec.l01DrawWord_any (g : Nat) (s : Sl) (w0 w : World) (h : Dr w0 w g s) :
    Calls Tryz.prog 89 #[.pointer (some ⟨g, 0, none⟩)] w fun e w' => DwdP w0 w g s e w' := by
  have hk24 := fun W h => spec.l01Next_any g s 24 w0 W h (by omega)
  have hk6 := fun W h => spec.l01Next_any g s 6 w0 W h (by omega)
  have hkg := fun W h => spec.l01Good_any g s w0 W h
  go_enter Tryz.func89, Tryz.ntmps89
  go_wp2_with fail
  refine (hk24 _ h).mono ?_
  rintro e w1 ⟨x, rfl, ⟨x0, x1⟩, hD1, hO1⟩
  have hg := hD1.lt
  by_cases hx : x = 0
  · subst hx
    have hB := Blk.new w1 9 (#[(.string ⟨#[]⟩), (.string ⟨#[65, 100, 97]⟩), (.string ⟨#[97, 49]⟩), (.string ⟨#[97, 98, 99, 100, 101, 102, 103, 104, 105, 106, 107, 108, 109, 110, 111, 112]⟩), (.string ⟨#[97, 98, 99, 100, 101, 102, 103, 104, 105, 106, 107, 108, 109, 110, 111, 112, 113]⟩), (.string ⟨#[97, 32, 98]⟩)])
    have hX := (Ext.refl w1).alloc (.cells #[(.string ⟨#[]⟩), (.string ⟨#[65, 100, 97]⟩), (.string ⟨#[97, 49]⟩), (.string ⟨#[97, 98, 99, 100, 101, 102, 103, 104, 105, 106, 107, 108, 109, 110, 111, 112]⟩), (.string ⟨#[97, 98, 99, 100, 101, 102, 103, 104, 105, 106, 107, 108, 109, 110, 111, 112, 113]⟩), (.string ⟨#[97, 32, 98]⟩)] 9)
    have hD := hD1.alloc (.cells #[(.string ⟨#[]⟩), (.string ⟨#[65, 100, 97]⟩), (.string ⟨#[97, 49]⟩), (.string ⟨#[97, 98, 99, 100, 101, 102, 103, 104, 105, 106, 107, 108, 109, 110, 111, 112]⟩), (.string ⟨#[97, 98, 99, 100, 101, 102, 103, 104, 105, 106, 107, 108, 109, 110, 111, 112, 113]⟩), (.string ⟨#[97, 32, 98]⟩)] 9)
    have hx6 : ∀ k, k < 6 → ∃ x : ByteArray, (#[(.string ⟨#[]⟩), (.string ⟨#[65, 100, 97]⟩), (.string ⟨#[97, 49]⟩), (.string ⟨#[97, 98, 99, 100, 101, 102, 103, 104, 105, 106, 107, 108, 109, 110, 111, 112]⟩), (.string ⟨#[97, 98, 99, 100, 101, 102, 103, 104, 105, 106, 107, 108, 109, 110, 111, 112, 113]⟩), (.string ⟨#[97, 32, 98]⟩)] : Array Value)[k]? = some (.string x) ∧ x.size ≤ 100 := by
      intro k hk
      have : k = 0 ∨ k = 1 ∨ k = 2 ∨ k = 3 ∨ k = 4 ∨ k = 5 := by omega
      rcases this with rfl | rfl | rfl | rfl | rfl | rfl <;> exact ⟨_, rfl, by decide⟩
    replace hx6 := hide hx6
    go_wp2_with fail
    refine (hk6 _ hD).mono ?_
    rintro e w2 ⟨x, rfl, ⟨y0, y1⟩, hD2, hO2⟩
    obtain ⟨k, rfl⟩ := Int.eq_ofNat_of_zero_le y0
    have hk6' : k < 6 := by omega
    have hkI : (k : Int) < 6 := by omega
    have hk0 : (0 : Int) ≤ (k : Int) := by omega
    obtain ⟨y, hy, hys⟩ := hx6.out k hk6'
    have hc := (hB.only hO2 (by omega)).get k _ hy
    go_wp2_with fail
    go_ret
    exact ⟨y, rfl, hys, hD2, Fr.trans hO1 (Fr.trans hX.onl hO2)⟩
  · have hb : (x == 0) = false := by simpa using hx
    go_wp2_with fail
    refine (hkg _ hD1).mono ?_
    rintro e w2 ⟨y, rfl, hys, hD2, hO2⟩
    go_wp2_with fail
    go_ret
    exact ⟨y, rfl, hys, hD2, Fr.trans hO1 hO2⟩
/-- some parties are drawn -/
def DpyP (w0 w : World) (g : Nat) (s : Sl) (e : Ending) (w' : World) : Prop := ∃ (t : Sl) (ys : List ByteArray), e = .returned (.slice t.A t.n t.c) ∧ OwS w' w.heap.size (.slice t.A t.n t.c) ys ∧ ys.length ≤ 8 ∧ (∀ y ∈ ys, y.size ≤ 100) ∧ Dr w0 w' g s ∧ Only g w w'
theorem Own_sz {xs : List ByteArray} (h : xs.all (fun x => decide (x.size ≤ 100)) = true) : ∀ x ∈ xs, x.size ≤ 100 := fun x hx => of_decide_eq_true (List.all_eq_true.1 h x hx)
set_option maxRecDepth 20000 in
set_option maxHeartbeats 2000000 in
theorem spec.l13Parties_any (g : Nat) (s : Sl) (w0 w : World) (h : Dr w0 w g s) :
    Calls Tryz.prog 60 #[.pointer (some ⟨g, 0, none⟩)] w fun e w' => DpyP w0 w g s e w' := by
  have hg := h.lt
  have hk16 := fun W h => spec.l01Next_any g s 16 w0 W h (by omega)
  have hk2 := fun W h => spec.l01Next_any g s 2 w0 W h (by omega)
  have hkw := fun W h => spec.l01DrawWord_any g s w0 W h
  have hX := (Ext.refl w).alloc (.cells #[(.string ⟨#[98, 101, 114, 103]⟩), (.string ⟨#[115, 116, 101, 105, 110]⟩)] 9)
  have hD := h.alloc (.cells #[(.string ⟨#[98, 101, 114, 103]⟩), (.string ⟨#[115, 116, 101, 105, 110]⟩)] 9)
  have ho := OwS.of_blk (xs := [⟨#[98, 101, 114, 103]⟩, ⟨#[115, 116, 101, 105, 110]⟩]) (Blk.new w 9 #[(.string ⟨#[98, 101, 114, 103]⟩), (.string ⟨#[115, 116, 101, 105, 110]⟩)]) (Nat.le_refl w.heap.size) 2 2 rfl (by omega) (by unfold maxLen; omega) rfl (by omega) rfl
  have hs2 := hide (Own_sz (xs := [⟨#[98, 101, 114, 103]⟩, ⟨#[115, 116, 101, 105, 110]⟩]) (by decide))
  have hl2 : Hid (([⟨#[98, 101, 114, 103]⟩, ⟨#[115, 116, 101, 105, 110]⟩] : List ByteArray).length = 2) := hide rfl
  go_enter Tryz.func60, Tryz.ntmps60
  go_wp2_with fail
  refine (hk16 _ hD).mono ?_
  rintro e w1 ⟨x, rfl, ⟨x0, x1⟩, hD1, hO1⟩
  replace ho := ho.only hO1 (by omega)
  replace hO1 := Fr.trans hX.onl hO1
  have hz1 := hO1.size
  clear hk16 hD hX
  revert ho hs2 hl2
  generalize ([⟨#[98, 101, 114, 103]⟩, ⟨#[115, 116, 101, 105, 110]⟩] : List ByteArray) = xs2
  intro hs2 hl2 ho
  by_cases e0 : x = 0
  · subst e0
    go_wp2_with fail
    refine (hk2 _ hD1).mono ?_
    rintro e w2 ⟨x, rfl, ⟨y0, y1⟩, hD2, hO2⟩
    replace ho := ho.only hO2 (by omega)
    obtain ⟨N, rfl⟩ := Int.eq_ofNat_of_zero_le y0
    have hN2 : N ≤ 2 := by omega
    have hN8 : (N : Int) ≤ 2 := by omega
    have hN0 : (0 : Int) ≤ (N : Int) := by omega
    have ho1 := ho.to_ hN2
    go_wp2_with fail
    go_ret
    exact ⟨⟨_, _, _⟩, _, rfl, ho1, by have := hl2.out; rw [List.length_take]; omega, fun y hy => hs2.out y (List.mem_of_mem_take hy), hD2, Fr.trans hO1 hO2⟩
  by_cases e1 : x = 1
  · subst e1
    go_wp2_with fail
    refine (hkw _ hD1).mono ?_
    rintro e w2 ⟨y, rfl, hys, hD2, hO2⟩
    replace ho := ho.only hO2 (by omega)
    replace hO2 := Fr.trans hO1 hO2
    have hz2 := hO2.size
    have hyL : y.size ≤ maxLen := by unfold maxLen; omega
    go_wp2_with (at_builtin; refine wpList_appS _ rfl (.tmp 15) (.tmp 18) rfl w.heap.size _ _ rfl (ho.alloc _) _ _ _ [y] rfl (RdW.one w2 y hyL) (by have := hl2.out; omega) (by simp; omega) ?_; intro t1 w3 ho3 hg3 hb3)
    go_ret
    have hx3 := Fr.of_grown hg3
    exact ⟨t1, _, rfl, ho3, by have := hl2.out; rw [List.length_append, List.length_singleton]; omega, fun z hz => by
      rcases List.mem_append.1 hz with hz | hz
      · exact hs2.out z hz
      · rw [List.mem_singleton] at hz; rw [hz]; exact hys, (hD2.alloc _).keep hx3 (fun e => by have := (ho.lt g e).1; omega) (fun k e => by have h1 := (ho.lt k e).1; have h2 := h.low; omega), Only.grow_ (Only.more hO2 ((Ext.refl w2).alloc _)) hg3 (fun k hk => (ho.lt k hk).1)⟩
  by_cases e2 : x = 2
  · subst e2
    have hX1 := (Ext.refl w1).alloc (.cells #[(.string ⟨#[97]⟩), (.string ⟨#[98]⟩), (.string ⟨#[99]⟩), (.string ⟨#[100]⟩), (.string ⟨#[101]⟩), (.string ⟨#[102]⟩), (.string ⟨#[103]⟩)] 9)
    have hD1' := hD1.alloc (.cells #[(.string ⟨#[97]⟩), (.string ⟨#[98]⟩), (.string ⟨#[99]⟩), (.string ⟨#[100]⟩), (.string ⟨#[101]⟩), (.string ⟨#[102]⟩), (.string ⟨#[103]⟩)] 9)
    have ho7 := OwS.of_blk (xs := [⟨#[97]⟩, ⟨#[98]⟩, ⟨#[99]⟩, ⟨#[100]⟩, ⟨#[101]⟩, ⟨#[102]⟩, ⟨#[103]⟩]) (Blk.new w1 9 #[(.string ⟨#[97]⟩), (.string ⟨#[98]⟩), (.string ⟨#[99]⟩), (.string ⟨#[100]⟩), (.string ⟨#[101]⟩), (.string ⟨#[102]⟩), (.string ⟨#[103]⟩)]) (Nat.le_refl w1.heap.size) 7 7 rfl (by omega) (by unfold maxLen; omega) rfl (by omega) rfl
    have hs7 := hide (Own_sz (xs := [⟨#[97]⟩, ⟨#[98]⟩, ⟨#[99]⟩, ⟨#[100]⟩, ⟨#[101]⟩, ⟨#[102]⟩, ⟨#[103]⟩]) (by decide))
    have hl7 : Hid (([⟨#[97]⟩, ⟨#[98]⟩, ⟨#[99]⟩, ⟨#[100]⟩, ⟨#[101]⟩, ⟨#[102]⟩, ⟨#[103]⟩] : List ByteArray).length = 7) := hide rfl
    revert ho7 hs7 hl7
    generalize ([⟨#[97]⟩, ⟨#[98]⟩, ⟨#[99]⟩, ⟨#[100]⟩, ⟨#[101]⟩, ⟨#[102]⟩, ⟨#[103]⟩] : List ByteArray) = xs7
    intro ho7 hs7 hl7
    have hg1 := hD1.lt
    go_wp2_with fail
    refine (hk2 _ hD1').mono ?_
    rintro e w2 ⟨x, rfl, ⟨y0, y1⟩, hD2, hO2⟩
    replace ho7 := ho7.only hO2 (by omega)
    obtain ⟨N', rfl⟩ := Int.eq_ofNat_of_zero_le y0
    obtain ⟨N, hN⟩ : ∃ N, Hid (N = 6 + N') := ⟨_, rfl⟩
    have hwN : IntKind.i64.wrap (6 + (N' : Int)) = (N : Int) := by rw [Go.IntWalk.i64_in _ (by omega), hN.out]; simp
    have hN7 : N ≤ 7 := by have := hN.out; omega
    have hN8 : (N : Int) ≤ 7 := by omega
    have hN0 : (0 : Int) ≤ (N : Int) := by omega
    have ho1 := ho7.to_ hN7
    go_wp2_with fail
    go_ret
    exact ⟨⟨_, _, _⟩, _, rfl, ho1.mono hz1, by have := hl7.out; rw [List.length_take]; omega, fun y hy => hs7.out y (List.mem_of_mem_take hy), hD2, Fr.trans hO1 (Fr.trans hX1.onl hO2)⟩
  have b0 : (x == 0) = false := by simpa using e0
  have b1 : (x == 1) = false := by simpa using e1
  have b2 : (x == 2) = false := by simpa using e2
  go_wp2_with fail
  go_ret
  exact ⟨⟨_, _, _⟩, _, rfl, ho, by have := hl2.out; omega, hs2.out, hD1, hO1⟩
end Go.Proofs.YtofglgfjlbehmaaGreat.mem
