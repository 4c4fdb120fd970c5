/-
  Contracts of both programs' small functions on numbers and on lists of numbers.
-/
import Derived.Test.YtofglgfjlbehmaaGreatMg1
namespace Go.Proofs.YtofglgfjlbehmaaGreat.mem
open Go.ChangeShapes Go.WideShapes Go.ChangeAt Go.RowKit

theorem impl.within_any (n lo hi : Int) (w : World) : Calls Tryz.prog 39 #[.int .i64 n, .int .i64 lo, .int .i64 hi] w fun e w' => e = .returned (.bool (inB n lo hi)) ∧ w = w' := by
  by_cases h1 : lo ≤ n
  · by_cases h2 : n ≤ hi
    · go_enter Tryz.func39, Tryz.ntmps39
      go_wp2
      go_ret
      exact ⟨by rw [inB_yes ⟨h1, h2⟩]; rfl, rfl⟩
    · go_enter Tryz.func39, Tryz.ntmps39
      go_wp2
      go_ret
      exact ⟨by rw [inB_no (by omega)]; rfl, rfl⟩
  · go_enter Tryz.func39, Tryz.ntmps39
    go_wp2
    go_ret
    exact ⟨by rw [inB_no (by omega)]; rfl, rfl⟩
theorem spec.l01In_any (n lo hi : Int) (w : World) : Calls Tryz.prog 42 #[.int .i64 n, .int .i64 lo, .int .i64 hi] w fun e w' => e = .returned (.bool (inB n lo hi)) ∧ w = w' := by
  by_cases h1 : lo ≤ n
  · by_cases h2 : n ≤ hi
    · go_enter Tryz.func42, Tryz.ntmps42
      go_wp2
      go_ret
      exact ⟨by rw [inB_yes ⟨h1, h2⟩]; rfl, rfl⟩
    · go_enter Tryz.func42, Tryz.ntmps42
      go_wp2
      go_ret
      exact ⟨by rw [inB_no (by omega)]; rfl, rfl⟩
  · go_enter Tryz.func42, Tryz.ntmps42
    go_wp2
    go_ret
    exact ⟨by rw [inB_no (by omega)]; rfl, rfl⟩
theorem impl.isNumber_any (n : Int) (w : World) : Calls Tryz.prog 114 #[.int .i64 n] w fun e w' => e = .returned (.bool (inB n 1 1000000)) ∧ w = w' := by
  go_enter Tryz.func114, Tryz.ntmps114
  go_wp2_with (go_at_call 39; refine (impl.within_any _ _ _ _).mono ?_; rintro e w' ⟨rfl, rfl⟩)
  go_ret
  exact ⟨rfl, rfl⟩
theorem impl.isSeats_any (n : Int) (w : World) : Calls Tryz.prog 53 #[.int .i64 n] w fun e w' => e = .returned (.bool (inB n 1 12)) ∧ w = w' := by
  go_enter Tryz.func53, Tryz.ntmps53
  go_wp2_with (go_at_call 39; refine (impl.within_any _ _ _ _).mono ?_; rintro e w' ⟨rfl, rfl⟩)
  go_ret
  exact ⟨rfl, rfl⟩
theorem impl.isAlternates_any (n : Int) (w : World) : Calls Tryz.prog 57 #[.int .i64 n] w fun e w' => e = .returned (.bool (inB n 0 6)) ∧ w = w' := by
  go_enter Tryz.func57, Tryz.ntmps57
  go_wp2_with (go_at_call 39; refine (impl.within_any _ _ _ _).mono ?_; rintro e w' ⟨rfl, rfl⟩)
  go_ret
  exact ⟨rfl, rfl⟩
theorem impl.few_any (n m : Int) (w : World) : Calls Tryz.prog 55 #[.int .i64 n, .int .i64 m] w fun e w' => e = .returned (.bool (decide (n ≤ m))) ∧ w = w' := by
  go_enter Tryz.func55, Tryz.ntmps55
  go_wp2
  go_ret
  exact ⟨rfl, rfl⟩
theorem impl.at_any (i n : Int) (w : World) : Calls Tryz.prog 102 #[.int .i64 i, .int .i64 n] w fun e w' => e = .returned (.bool (inB i 0 (n - 1))) ∧ w = w' := by
  by_cases h1 : 0 ≤ i
  · by_cases h2 : i < n
    · go_enter Tryz.func102, Tryz.ntmps102
      go_wp2
      go_ret
      exact ⟨by rw [inB_yes ⟨h1, by omega⟩]; rfl, rfl⟩
    · go_enter Tryz.func102, Tryz.ntmps102
      go_wp2
      go_ret
      exact ⟨by rw [inB_no (by omega)]; rfl, rfl⟩
  · go_enter Tryz.func102, Tryz.ntmps102
    go_wp2
    go_ret
    exact ⟨by rw [inB_no (by omega)]; rfl, rfl⟩
theorem impl.has_any (s : Sl) (xs : List Int) (x : Int) (w : World) (hr : Rd w s.A s.n xs) :
    Calls Tryz.prog 100 #[.slice s.A s.n s.c, .int .i64 x] w fun e w' => e = .returned (.bool (hasB xs x)) ∧ w = w' := by
  obtain ⟨A, n, c⟩ := s
  simp only at hr ⊢
  have hn := hr.le
  go_enter Tryz.func100, Tryz.ntmps100
  go_wp2
  go_loop [6, 9] (fun _ i => ∃ k : Nat, k ≤ n ∧ i = .int .i64 k ∧ Hid (∀ (j : Nat) (y : Int), j < k → xs[j]? = some y → x ≠ y)) (fun _ i => n - (intOf i).toNat)
  case atStart => exact ⟨0, by omega, rfl, hide fun j y h => absurd h (by omega)⟩
  case round =>
    obtain ⟨k, hk, rfl, hno⟩ := hrel
    by_cases hlt : k < n
    · obtain ⟨b, off, y, rfl, hbl, hc1, hy⟩ := hr.el hlt
      by_cases he : x = y
      · subst he
        go_wp2
        go_ret
        exact ⟨by rw [hasB_yes hy.out]; rfl, rfl⟩
      · have hne : (x == y) = false := by simpa using he
        go_wp2
        go_round
        case rel => exact ⟨k + 1, by omega, by go_num, hide fun j z hj hz => by
          rcases Nat.lt_or_ge j k with h | h
          · exact hno.out j z h hz
          · obtain rfl : j = k := by omega
            have := hy.out
            rw [this] at hz
            injection hz with hz
            exact hz ▸ he⟩
        case measure => simp [intOf]; omega
    · go_wp2
      go_ret
      have e : k = n := by omega
      subst e
      have hl := hr.1
      exact ⟨by rw [hasB_no fun j y hy => hno.out j y (by rw [hl]; exact (List.getElem?_eq_some_iff.1 hy).1) hy]; rfl, rfl⟩
theorem spec.l01Has_any (s : Sl) (xs : List Int) (x : Int) (w : World) (hr : Rd w s.A s.n xs) :
    Calls Tryz.prog 109 #[.slice s.A s.n s.c, .int .i64 x] w fun e w' => e = .returned (.bool (hasB xs x)) ∧ w = w' := by
  obtain ⟨A, n, c⟩ := s
  simp only at hr ⊢
  have hn := hr.le
  go_enter Tryz.func109, Tryz.ntmps109
  go_wp2
  go_loop [5] (fun i => ∃ k : Nat, k ≤ n ∧ i = .int .i64 k ∧ Hid (∀ (j : Nat) (y : Int), j < k → xs[j]? = some y → x ≠ y)) (fun i => n - (intOf i).toNat)
  case atStart => exact ⟨0, by omega, rfl, hide fun j y h => absurd h (by omega)⟩
  case round =>
    obtain ⟨k, hk, rfl, hno⟩ := hrel
    by_cases hlt : k < n
    · obtain ⟨b, off, y, rfl, hbl, hc1, hy⟩ := hr.el hlt
      by_cases he : y = x
      · subst he
        go_wp2
        go_ret
        exact ⟨by rw [hasB_yes hy.out]; rfl, rfl⟩
      · have hne : (y == x) = false := by simpa using he
        go_wp2
        go_round
        case rel => exact ⟨k + 1, by omega, by go_num, hide fun j z hj hz => by
          rcases Nat.lt_or_ge j k with h | h
          · exact hno.out j z h hz
          · obtain rfl : j = k := by omega
            have := hy.out
            rw [this] at hz
            injection hz with hz
            exact hz ▸ fun e => he e.symm⟩
        case measure => simp [intOf]; omega
    · go_wp2
      go_ret
      have e : k = n := by omega
      subst e
      have hl := hr.1
      exact ⟨by rw [hasB_no fun j y hy => hno.out j y (by rw [hl]; exact (List.getElem?_eq_some_iff.1 hy).1) hy]; rfl, rfl⟩
theorem spec.l12Find_any (s : Sl) (xs : List Int) (x : Int) (w : World) (hr : Rd w s.A s.n xs) :
    Calls Tryz.prog 90 #[.slice s.A s.n s.c, .int .i64 x] w fun e w' => e = .returned (.int .i64 (plc xs x)) ∧ w = w' := by
  obtain ⟨A, n, c⟩ := s
  simp only at hr ⊢
  have hn := hr.le
  go_enter Tryz.func90, Tryz.ntmps90
  go_wp2
  go_loop [5] (fun i => ∃ k : Nat, k ≤ n ∧ i = .int .i64 k ∧ Hid (∀ (j : Nat) (y : Int), j < k → xs[j]? = some y → x ≠ y)) (fun i => n - (intOf i).toNat)
  case atStart => exact ⟨0, by omega, rfl, hide fun j y h => absurd h (by omega)⟩
  case round =>
    obtain ⟨k, hk, rfl, hno⟩ := hrel
    by_cases hlt : k < n
    · obtain ⟨b, off, y, rfl, hbl, hc1, hy⟩ := hr.el hlt
      by_cases he : y = x
      · subst he
        go_wp2
        go_ret
        exact ⟨by rw [plc_yes hy.out hno.out]; rfl, rfl⟩
      · have hne : (y == x) = false := by simpa using he
        go_wp2
        go_round
        case rel => exact ⟨k + 1, by omega, by go_num, hide fun j z hj hz => by
          rcases Nat.lt_or_ge j k with h | h
          · exact hno.out j z h hz
          · obtain rfl : j = k := by omega
            have := hy.out
            rw [this] at hz
            injection hz with hz
            exact hz ▸ fun e => he e.symm⟩
        case measure => simp [intOf]; omega
    · go_wp2
      go_ret
      have e : k = n := by omega
      subst e
      have hl := hr.1
      exact ⟨by rw [plc_no fun j y hy => hno.out j y (by rw [hl]; exact (List.getElem?_eq_some_iff.1 hy).1) hy]; rfl, rfl⟩
theorem spec.l01Own_any (s : Sl) (xs : List Int) (w : World) (hr : Rd w s.A s.n xs) :
    Calls Tryz.prog 62 #[.slice s.A s.n s.c] w fun e w' => ∃ t : Sl, e = .returned (.slice t.A t.n t.c) ∧ Own w' w.heap.size (.slice t.A t.n t.c) xs ∧ Ext w w' := by
  have hn := hr.le
  have hl := hide hr.1
  go_enter Tryz.func62, Tryz.ntmps62
  go_wp2_with (at_builtin; refine wpList_app _ rfl (.tmp 3) (.tmp 4) rfl w.heap.size _ [] rfl (Own.new0 w _ (Nat.le_refl _)) _ _ _ xs rfl (hr.alloc _) (by simp; omega) (by simp) ?_; intro t w1 ho hg hb)
  go_ret
  exact ⟨t, rfl, ho, ((Ext.refl w).alloc _).grow hg (fun k hk => Nat.le_of_eq (ownBlock_eq hk))⟩
theorem impl.clone_any (s : Sl) (xs : List Int) (w : World) (hr : Rd w s.A s.n xs) :
    Calls Tryz.prog 95 #[.slice s.A s.n s.c] w fun e w' => ∃ t : Sl, e = .returned (.slice t.A t.n t.c) ∧ Own w' w.heap.size (.slice t.A t.n t.c) xs ∧ Ext w w' := by
  have hn := hr.le
  have hl := hide hr.1
  have hmk := fun W : World => run_mk0 W s.n hn
  go_enter Tryz.func95, Tryz.ntmps95
  go_wp2_with (at_builtin; refine wpList_app _ rfl (.tmp 5) (.tmp 6) rfl w.heap.size _ [] rfl (Own.mk0 w _ s.n (Nat.le_refl _) hn) _ _ _ xs rfl (hr.alloc _) (by simp; omega) (by simp) ?_; intro t w1 ho hg hb)
  go_ret
  exact ⟨t, rfl, ho, ((Ext.refl w).alloc _).grow hg (fun k hk => Nat.le_of_eq (ownBlock_eq hk))⟩
theorem impl.seated_any (s : Sl) (xs : List Int) (w : World) (hr : Rd w s.A s.n xs) :
    Calls Tryz.prog 93 #[.slice s.A s.n s.c] w fun e w' => ∃ t : Sl, e = .returned (.slice t.A t.n t.c) ∧ Own w' w.heap.size (.slice t.A t.n t.c) (nz xs) ∧ Ext w w' := by
  obtain ⟨A, n, c⟩ := s
  simp only at hr ⊢
  have hn := hr.le
  go_enter Tryz.func93, Tryz.ntmps93
  go_wp2
  go_loopw [3, 5, 9] (fun v _ i wr => ∃ k : Nat, k ≤ n ∧ i = .int .i64 k ∧ (∃ t : Sl, v = .slice t.A t.n t.c ∧ Own wr w.heap.size (.slice t.A t.n t.c) (nz (xs.take k))) ∧ Ext w wr) (fun _ _ i _ => n - (intOf i).toNat)
  case atStart => exact ⟨0, by omega, rfl, ⟨⟨_, _, _⟩, rfl, Own.new0 w _ (Nat.le_refl _)⟩, (Ext.refl w).alloc _⟩
  case round =>
    obtain ⟨k, hk, rfl, ⟨t, rfl, ho⟩, hx⟩ := hrel
    by_cases hlt : k < n
    · obtain ⟨b, off, y, rfl, hbl, hc1, hy⟩ := (hr.ext hx).el hlt
      by_cases he : y = 0
      · have hne : (y != 0) = false := by simpa using he
        go_wp2
        go_roundw
        case rel => exact ⟨k + 1, by omega, by go_num, ⟨t, rfl, by rw [nz_snoc0 xs k (he ▸ hy.out)]; exact ho⟩, hx⟩
        case measure => simp [intOf]; omega
      · have hne : (y != 0) = true := by simpa using he
        have hl1 : (nz (xs.take k)).length ≤ k := Nat.le_trans (nz_le _) (List.length_take_le _ _)
        have hsz := hx.size
        go_wp2_with (at_builtin; refine wpList_app _ rfl (.tmp 15) (.tmp 17) rfl w.heap.size _ _ rfl (ho.alloc _) _ _ _ [y] rfl (Rd.one wr y) (by omega) (by simp; omega) ?_; intro t1 w1 ho1 hg1 hb1)
        go_roundw
        case rel => exact ⟨k + 1, by omega, by go_num, ⟨t1, rfl, by rw [nz_snoc xs k y hy.out he]; exact ho1⟩, (hx.alloc _).grow hg1 (fun g hg => (ho.lt g hg).1)⟩
        case measure => simp [intOf]; omega
    · go_wp2
      go_ret
      have e : k = n := by omega
      subst e
      exact ⟨t, rfl, by rw [List.take_of_length_le (by rw [← hr.1]; omega)] at ho; exact ho, hx⟩
theorem impl.joined_any (b c : Nat) (ts : List Sl) (ls : List (List Int)) (w : World) (hb : b < w.heap.size) (hlen : ts.length = ls.length) (hn : ts.length ≤ 1000)
    (hc : ∀ (j : Nat) (t : Sl), ts[j]? = some t → w.cell? ⟨b, j, none⟩ = some (.slice t.A t.n t.c)) (hr : ∀ (j : Nat) (t : Sl) (l : List Int), ts[j]? = some t → ls[j]? = some l → Rd w t.A t.n l) (htot : ls.flatten.length ≤ 16777216) :
    Calls Tryz.prog 116 #[.slice (some ⟨b, 0, none⟩) ts.length c] w fun e w' => ∃ t : Sl, e = .returned (.slice t.A t.n t.c) ∧ Own w' w.heap.size (.slice t.A t.n t.c) ls.flatten ∧ Ext w w' := by
  obtain ⟨n, hnn⟩ : ∃ n, ts.length = n := ⟨_, rfl⟩
  rw [hnn] at hn hlen ⊢
  have Hn := hide hnn
  have Hl := hide hlen
  clear hnn hlen
  go_enter Tryz.func116, Tryz.ntmps116
  go_wp2
  go_loopw [3, 5, 9] (fun v _ i wr => ∃ k : Nat, k ≤ n ∧ i = .int .i64 k ∧ (∃ t : Sl, v = .slice t.A t.n t.c ∧ Own wr w.heap.size (.slice t.A t.n t.c) (ls.take k).flatten) ∧ Ext w wr) (fun _ _ i _ => n - (intOf i).toNat)
  case atStart => exact ⟨0, by omega, rfl, ⟨⟨_, _, _⟩, rfl, Own.new0 w _ (Nat.le_refl _)⟩, (Ext.refl w).alloc _⟩
  case round =>
    obtain ⟨k, hk, rfl, ⟨t, rfl, ho⟩, hx⟩ := hrel
    by_cases hlt : k < n
    · obtain ⟨s, hs⟩ : ∃ s, ts[k]? = some s := ⟨_, List.getElem?_eq_getElem (by have := Hn.out; omega)⟩
      obtain ⟨l, hl⟩ : ∃ l, ls[k]? = some l := ⟨_, List.getElem?_eq_getElem (by have := Hl.out; omega)⟩
      have hc1 := (hx.cell (p := ⟨b, k, none⟩) hb).trans (hc k s hs)
      have hr1 := (hr k s l hs hl).ext hx
      have hfl := flat_len hl
      have hlm := hide (flat_more hl)
      have hsz := hx.size
      have hsl := hr1.1
      have hq : (ls.take k).flatten.length + s.n ≤ 16777216 := by omega
      clear hsl hs hl hfl
      go_wp2_with (at_builtin; refine wpList_app _ rfl (.tmp 13) (.tmp 14) rfl w.heap.size _ _ rfl ho _ _ _ l rfl hr1 hq hsz ?_; intro t1 w1 ho1 hg1 hb1)
      go_roundw
      case rel => exact ⟨k + 1, by omega, by go_num, ⟨t1, rfl, by rw [hlm.out]; exact ho1⟩, hx.grow hg1 (fun g hg => (ho.lt g hg).1)⟩
      case measure => simp [intOf]; omega
    · go_wp2
      go_ret
      have e : k = n := by omega
      subst e
      exact ⟨t, rfl, by rw [List.take_of_length_le (by rw [← Hl.out]; omega)] at ho; exact ho, hx⟩
theorem impl.joined3 (b : Nat) (t1 t2 t3 : Sl) (l1 l2 l3 : List Int) (w : World) (hB : Blk w b 24 #[.slice t1.A t1.n t1.c, .slice t2.A t2.n t2.c, .slice t3.A t3.n t3.c]) (h1 : Rd w t1.A t1.n l1) (h2 : Rd w t2.A t2.n l2) (h3 : Rd w t3.A t3.n l3) (htot : (l1 ++ (l2 ++ l3)).length ≤ 16777216) :
    Calls Tryz.prog 116 #[.slice (some ⟨b, 0, none⟩) 3 3] w fun e w' => ∃ t : Sl, e = .returned (.slice t.A t.n t.c) ∧ Own w' w.heap.size (.slice t.A t.n t.c) (l1 ++ (l2 ++ l3)) ∧ Ext w w' := by
  have e : [l1, l2, l3].flatten = l1 ++ (l2 ++ l3) := by simp
  have h := impl.joined_any b 3 [t1, t2, t3] [l1, l2, l3] w hB.lt rfl (by simp) (fun j t hj => by
      match j, hj with
      | 0, hj => obtain rfl : t1 = t := by simpa using hj
                 exact hB.c3.1
      | 1, hj => obtain rfl : t2 = t := by simpa using hj
                 exact hB.c3.2.1
      | 2, hj => obtain rfl : t3 = t := by simpa using hj
                 exact hB.c3.2.2
      | j + 3, hj => simp at hj) (fun j t l hj hl => by
      match j, hj, hl with
      | 0, hj, hl => obtain rfl : t1 = t := by simpa using hj
                     obtain rfl : l1 = l := by simpa using hl
                     exact h1
      | 1, hj, hl => obtain rfl : t2 = t := by simpa using hj
                     obtain rfl : l2 = l := by simpa using hl
                     exact h2
      | 2, hj, hl => obtain rfl : t3 = t := by simpa using hj
                     obtain rfl : l3 = l := by simpa using hl
                     exact h3
      | j + 3, hj, hl => simp at hj) (by rw [e]; exact htot)
  rw [e] at h
  exact h
theorem impl.joined2 (b : Nat) (t1 t2 : Sl) (l1 l2 : List Int) (w : World) (hB : Blk w b 24 #[.slice t1.A t1.n t1.c, .slice t2.A t2.n t2.c]) (h1 : Rd w t1.A t1.n l1) (h2 : Rd w t2.A t2.n l2) (htot : (l1 ++ l2).length ≤ 16777216) :
    Calls Tryz.prog 116 #[.slice (some ⟨b, 0, none⟩) 2 2] w fun e w' => ∃ t : Sl, e = .returned (.slice t.A t.n t.c) ∧ Own w' w.heap.size (.slice t.A t.n t.c) (l1 ++ l2) ∧ Ext w w' := by
  have e : [l1, l2].flatten = l1 ++ l2 := by simp
  have h := impl.joined_any b 2 [t1, t2] [l1, l2] w hB.lt rfl (by simp) (fun j t hj => by
      match j, hj with
      | 0, hj => obtain rfl : t1 = t := by simpa using hj
                 exact hB.get 0 _ rfl
      | 1, hj => obtain rfl : t2 = t := by simpa using hj
                 exact hB.get 1 _ rfl
      | j + 2, hj => simp at hj) (fun j t l hj hl => by
      match j, hj, hl with
      | 0, hj, hl => obtain rfl : t1 = t := by simpa using hj
                     obtain rfl : l1 = l := by simpa using hl
                     exact h1
      | 1, hj, hl => obtain rfl : t2 = t := by simpa using hj
                     obtain rfl : l2 = l := by simpa using hl
                     exact h2
      | j + 2, hj, hl => simp at hj) (by rw [e]; exact htot)
  rw [e] at h
  exact h
theorem impl.distinct_any (s : Sl) (xs : List Int) (w : World) (hr : Rd w s.A s.n xs) (hcap : cap1 s) :
    Calls Tryz.prog 117 #[.slice s.A s.n s.c] w fun e w' => e = .returned (.bool (distB xs)) ∧ w = w' := by
  obtain ⟨A, n, c⟩ := s
  simp only [cap1] at hr hcap ⊢
  have hn := hr.le
  go_enter Tryz.func117, Tryz.ntmps117
  go_wp2
  go_loop [3, 4, 7] (fun _ _ i => ∃ k : Nat, k ≤ n ∧ i = .int .i64 k ∧ Hid (distP (xs.take k))) (fun _ _ i => n - (intOf i).toNat)
  case atStart => exact ⟨0, by omega, rfl, hide (by simp [distP])⟩
  case round =>
    obtain ⟨k, hk, rfl, hd⟩ := hrel
    by_cases hlt : k < n
    · obtain ⟨b, off, y, rfl, hbl, hc1, hy⟩ := hr.el hlt
      have hr1 : Rd w (some ⟨b, off, none⟩) k (xs.take k) := by
        have hl := hr.1
        refine ⟨by rw [List.length_take]; omega, by omega, fun hk0 => ⟨b, off, rfl, hbl, fun j hj => ?_⟩⟩
        obtain ⟨b', off', e, _, hc⟩ := hr.2.2 (by omega)
        injection e with e
        injection e with e1 e2 _
        subst e1 e2
        rw [hc j (by omega)]
        simp [List.getElem?_take_of_lt hj]
      have hsn := hide (distP_snoc (xs.take k) y)
      have hm := hide (take_more hy.out)
      cases h1 : inB y 1 1000000
      · have hf := hide (show distB xs = false from decide_eq_false fun h => by
          have := distP_take h (k + 1)
          rw [hm.out, hsn.out] at this
          rw [inB_yes this.2.1] at h1
          cases h1)
        go_wp2_with (first | (go_at_call 114; refine (impl.isNumber_any _ _).mono ?_; rintro e w' ⟨rfl, rfl⟩) | (go_at_call 100; refine (impl.has_any ⟨_, _, _⟩ _ _ _ hr1).mono ?_; rintro e w' ⟨rfl, rfl⟩))
        go_ret
        exact ⟨by rw [hf.out]; rfl, rfl⟩
      · cases h2 : hasB (xs.take k) y
        · have hk1 := hide (show distP (xs.take (k + 1)) by
            rw [hm.out, hsn.out]
            exact ⟨hd.out, inB_iff.1 h1, of_decide_eq_false h2⟩)
          go_wp2_with (first | (go_at_call 114; refine (impl.isNumber_any _ _).mono ?_; rintro e w' ⟨rfl, rfl⟩) | (go_at_call 100; refine (impl.has_any ⟨_, _, _⟩ _ _ _ hr1).mono ?_; rintro e w' ⟨rfl, rfl⟩))
          go_round
          case rel => exact ⟨k + 1, by omega, by go_num, hk1⟩
          case measure => simp [intOf]; omega
        · have hf := hide (show distB xs = false from decide_eq_false fun h => by
            have := distP_take h (k + 1)
            rw [hm.out, hsn.out] at this
            exact this.2.2 (of_decide_eq_true h2))
          go_wp2_with (first | (go_at_call 114; refine (impl.isNumber_any _ _).mono ?_; rintro e w' ⟨rfl, rfl⟩) | (go_at_call 100; refine (impl.has_any ⟨_, _, _⟩ _ _ _ hr1).mono ?_; rintro e w' ⟨rfl, rfl⟩))
          go_ret
          exact ⟨by rw [hf.out]; rfl, rfl⟩
    · go_wp2
      go_ret
      have e : k = n := by omega
      subst e
      have h := hd.out
      rw [List.take_of_length_le (by rw [← hr.1]; omega)] at h
      exact ⟨by rw [show distB xs = true from decide_eq_true h]; rfl, rfl⟩
end Go.Proofs.YtofglgfjlbehmaaGreat.mem
