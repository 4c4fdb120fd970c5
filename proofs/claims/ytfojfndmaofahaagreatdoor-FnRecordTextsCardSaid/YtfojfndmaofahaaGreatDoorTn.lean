/-
  The text of numbers, the text of a panel, in both programs.
-/
import Derived.Test.YtfojfndmaofahaaGreatDoorTw
import Derived.Test.YtfojfndmaofahaaGreatDoorPan
import Derived.Lib.AppendIntMem
namespace Go.Proofs.YtfojfndmaofahaaGreatDoor.mem
open Go.ChangeShapes Go.WideShapes Go.ChangeAt Go.RowKit

/-- the library's table of powers of ten stands, here and in every world that has grown from here -/
def Tab (w : World) : Prop := ∀ W, Ext w W → Lib.TabIs Tryz.prog W "internal/strconv.uint64pow10" .u64 Lib.pow10Tab
theorem Tab.ext {w w1 : World} (h : Tab w) (hx : Ext w w1) : Tab w1 := fun W h2 => h W (hx.trans h2)
/-- a number in decimal, with a minus sign if it is negative -/
def itoaW (n : Int) : ByteArray := ⟨(Lib.itoa n).toArray⟩
theorem itoaW_nat (n : Nat) : itoaW (n : Int) = decW n := by
  unfold itoaW decW
  rw [show Lib.itoa (n : Int) = Lib.decDigits n by unfold Lib.itoa; rw [if_neg (by omega)]; simp]
theorem itoaW_neg {n : Nat} (h : 1 ≤ n) : (⟨#[45]⟩ : ByteArray) ++ decW n = itoaW (-(n : Int)) := by
  unfold itoaW decW
  rw [show Lib.itoa (-(n : Int)) = 45 :: Lib.decDigits n by unfold Lib.itoa; rw [if_pos (by omega)]; simp]
  apply ByteArray.ext
  simp
theorem decDigits_pow : ∀ (k n : Nat), n < 10 ^ (k + 1) → (Lib.decDigits n).length ≤ k + 1
  | 0, n, h => by rw [Lib.decDigits_one (by simpa using h)]; simp
  | k + 1, n, h => by
    by_cases h10 : n < 10
    · rw [Lib.decDigits_one h10]; simp
    · rw [Lib.decDigits, dif_neg h10, List.length_append]
      have := decDigits_pow k (n / 10) (by rw [Nat.pow_succ] at h; omega)
      simp only [List.length_singleton]
      omega
def numB (n : Int) : Prop := -1000000000000000 ≤ n ∧ n ≤ 1000000000000000
theorem decW_small {n : Nat} (h : n ≤ 1000000000000000) : (decW n).size ≤ 16 := by
  have := decDigits_pow 15 n (by omega)
  simpa [decW, ByteArray.size] using this
theorem itoaW_le {n : Int} (h : numB n) : (itoaW n).size ≤ 20 := by
  unfold numB at h
  by_cases hn : 0 ≤ n
  · obtain ⟨k, rfl⟩ : ∃ k : Nat, n = (k : Int) := ⟨n.toNat, by omega⟩
    rw [itoaW_nat]
    have := decW_small (n := k) (by omega)
    omega
  · obtain ⟨k, rfl⟩ : ∃ k : Nat, n = -(k : Int) := ⟨(-n).toNat, by omega⟩
    rw [← itoaW_neg (by omega), ByteArray.size_append]
    have := decW_small (n := k) (by omega)
    have h1 : (⟨#[45]⟩ : ByteArray).size = 1 := rfl
    omega
def numT (xs : List Int) : ByteArray := if xs = [] then ⟨#[45]⟩ else joinW (xs.map itoaW) ⟨#[44]⟩
theorem mapI_le {xs : List Int} (h : ∀ x ∈ xs, numB x) : ∀ s ∈ xs.map itoaW, s.size ≤ 1000 := by
  intro s hs
  obtain ⟨m, hm, rfl⟩ := List.mem_map.1 hs
  have := itoaW_le (h m hm)
  omega
theorem mapI_more {xs : List Int} {k : Nat} {m : Int} (h : xs[k]? = some m) : (xs.map itoaW).take (k + 1) = (xs.map itoaW).take k ++ [itoaW m] := by
  rw [takeU_more (x := itoaW m) (by rw [List.getElem?_map, h]; rfl)]
theorem numT_le {xs : List Int} (h : ∀ x ∈ xs, numB x) (hl : xs.length ≤ 1000) : (numT xs).size ≤ 1100000 := by
  unfold numT
  split
  · decide
  · have h1 := joinW_size (ss := xs.map itoaW) (sep := ⟨#[44]⟩) (c := 1) (mapI_le h) (by decide) (xs.map itoaW).length (Nat.le_refl _)
    rw [List.take_length, List.length_map] at h1
    have h2 : xs.length * (1000 + 1) ≤ 1000 * (1000 + 1) := Nat.mul_le_mul_right _ hl
    omega
theorem spec.l01Number_any (n : Int) (w : World) (hb : numB n) : Calls Tryz.prog 100 #[.int .i64 n] w fun e w' => e = .returned (.string (itoaW n)) ∧ Ext w w' := by
  unfold numB at hb
  by_cases hn : 0 ≤ n
  · obtain ⟨k, rfl⟩ : ∃ k : Nat, n = (k : Int) := ⟨n.toNat, by omega⟩
    have hc := fun W => spec.l01Dec_any k W (by omega)
    have E := hide (itoaW_nat k)
    have hg : ¬ (k : Int) < 0 := by omega
    clear hn hb
    go_enter Tryz.func100, Tryz.ntmps100
    go_wp2_with fail
    go_fit (hc _)
    rintro e w1 ⟨rfl, hx⟩
    go_wp2
    go_ret
    exact ⟨by rw [E.out]; rfl, hx⟩
  · obtain ⟨k, rfl⟩ : ∃ k : Nat, n = -(k : Int) := ⟨(-n).toNat, by omega⟩
    have hc := fun W => spec.l01Dec_any k W (by omega)
    have E := hide (itoaW_neg (n := k) (by omega))
    have hl := decW_small (n := k) (by omega)
    have hz : ¬ 9223372036854775807 < 1 + (decW k).size := by omega
    have hg : -(k : Int) < 0 := by omega
    have hw : IntKind.i64.wrap (- -(k : Int)) = (k : Int) := by rw [Int.neg_neg]; exact Go.IntWalk.i64_in _ (by omega)
    have hw2 : IntKind.i64.wrap (k : Int) = (k : Int) := Go.IntWalk.i64_in _ (by omega)
    have hone : (⟨#[45]⟩ : ByteArray).size = 1 := rfl
    clear hn hb
    go_enter Tryz.func100, Tryz.ntmps100
    go_wp2_with fail
    go_fit (hc _)
    rintro e w1 ⟨rfl, hx⟩
    go_wp2
    go_ret
    exact ⟨by rw [← E.out]; rfl, hx⟩
set_option maxHeartbeats 1000000 in
theorem spec.l01Join_any (s : Sl) (xs : List Int) (sep : ByteArray) (w : World) (hr : Rd w s.A s.n xs) (hb0 : ∀ x ∈ xs, numB x) (hl : xs.length ≤ 1000) (hsp : sep.size ≤ 10) :
    Calls Tryz.prog 82 #[.slice s.A s.n s.c, .string sep] w fun e w' => e = .returned (.string (joinW (xs.map itoaW) sep)) ∧ Ext w w' := by
  obtain ⟨A, n, c⟩ := s
  simp only at hr ⊢
  have hn := hr.le
  obtain ⟨ss, hss⟩ : ∃ ss, Hid (ss = xs.map itoaW) := ⟨_, rfl⟩
  have hb : ∀ s ∈ ss, s.size ≤ 1000 := by rw [hss.out]; exact mapI_le hb0
  have hln := hide (show n = ss.length by rw [hss.out, List.length_map]; exact hr.1)
  have hn1 : n ≤ 1000 := by have := hr.1; omega
  go_enter Tryz.func82, Tryz.ntmps82
  go_wp2
  go_loopw [5, 6] (fun o i wr => ∃ (k : Nat) (y : ByteArray), k ≤ n ∧ i = .int .i64 k ∧ o = .string y ∧ Hid (y = joinW (ss.take k) sep) ∧ Ext w wr) (fun _ i _ => n - (intOf i).toNat)
  case atStart => exact ⟨0, _, by omega, rfl, rfl, hide rfl, Ext.refl _⟩
  case round =>
    obtain ⟨k, y, hk, rfl, rfl, hy, hE⟩ := hrel
    have hsz : y.size ≤ k * (1000 + 10) := by rw [hy.out]; exact joinW_size hb hsp k (by have := hln.out; omega)
    by_cases hlt : k < n
    · obtain ⟨b, off, m, rfl, hbl, hcm, hmm⟩ := hr.el hlt
      have hcx := (hE.cell (p := ⟨b, off + k, none⟩) hbl).trans hcm
      clear hcm
      obtain ⟨x, hxe⟩ : ∃ x, Hid (itoaW m = x) := ⟨_, rfl⟩
      have hx := hide (show ss[k]? = some x by rw [hss.out, ← hxe.out, List.getElem?_map, hmm.out]; rfl)
      have hcn := fun W => spec.l01Number_any m W (hb0 m (List.mem_of_getElem? hmm.out))
      simp only [hxe.out] at hcn
      have hxs : x.size ≤ 1000 := hb x (List.mem_of_getElem? hx.out)
      have hkk : k * (1000 + 10) ≤ 1010000 := by omega
      have hwk : IntKind.i64.wrap ((k : Int) + 1) = (k : Int) + 1 := Go.IntWalk.i64_in _ (by omega)
      by_cases h0 : k = 0
      · have hm := hide (show y ++ x = joinW (ss.take (k + 1)) sep by rw [hy.out, takeU_more hx.out, h0]; simp only [List.take_zero, List.nil_append]; rw [joinW_nil, joinW_one, nil_app])
        have hz : ¬ 9223372036854775807 < y.size + x.size := by omega
        have hg : ¬ (0 : Int) < (k : Int) := by omega
        replace h0 := hide h0
        clear hsz hkk
        go_wp2_with fail
        go_fit (hcn _)
        rintro e w1 ⟨rfl, hx1⟩
        go_wp2
        go_roundw
        case rel => exact ⟨k + 1, y ++ x, by omega, by go_num, rfl, hm, hE.trans hx1⟩
        case measure => simp [intOf]; omega
      · have hne : ss.take k ≠ [] := fun e => by have h1 := congrArg List.length e; rw [List.length_take, List.length_nil] at h1; have := hln.out; omega
        have hm := hide (show (y ++ sep) ++ x = joinW (ss.take (k + 1)) sep by rw [hy.out, takeU_more hx.out, joinW_snoc hne])
        have hz : ¬ 9223372036854775807 < y.size + sep.size := by omega
        have hz2 : ¬ 9223372036854775807 < y.size + sep.size + x.size := by omega
        have hz3 : (y ++ sep).size = y.size + sep.size := ByteArray.size_append
        have hg : (0 : Int) < (k : Int) := by omega
        replace h0 := hide h0
        replace hne := hide hne
        clear hsz hkk
        go_wp2_with fail
        go_fit (hcn _)
        rintro e w1 ⟨rfl, hx1⟩
        go_wp2
        go_roundw
        case rel => exact ⟨k + 1, (y ++ sep) ++ x, by omega, by go_num, rfl, hm, hE.trans hx1⟩
        case measure => simp [intOf]; omega
    · have ek : k = n := by omega
      have hm := hide (show y = joinW (xs.map itoaW) sep by rw [hy.out, ek, hln.out, List.take_length, hss.out])
      go_wp2
      go_ret
      exact ⟨by rw [hm.out]; rfl, hE⟩
theorem spec.l01Text_any (s : Sl) (xs : List Int) (w : World) (hr : Rd w s.A s.n xs) (hb : ∀ x ∈ xs, numB x) (hl : xs.length ≤ 1000) :
    Calls Tryz.prog 69 #[.slice s.A s.n s.c] w fun e w' => e = .returned (.string (numT xs)) ∧ Ext w w' := by
  by_cases h0 : s.n = 0
  · have hT := hide (show numT xs = ⟨#[45]⟩ by unfold numT; rw [if_pos (List.eq_nil_of_length_eq_zero (by have := hr.1; omega))])
    go_enter Tryz.func69, Tryz.ntmps69
    go_wp2
    go_ret
    exact ⟨by rw [hT.out]; rfl, Ext.refl _⟩
  · have hT := hide (show numT xs = joinW (xs.map itoaW) ⟨#[44]⟩ by unfold numT; rw [if_neg (fun e => h0 (by have := hr.1; rw [e] at this; exact this))])
    have hg : ((s.n : Int) == 0) = false := by simpa using h0
    have hc := spec.l01Join_any s xs ⟨#[44]⟩ w hr hb hl (by decide)
    replace h0 := hide h0
    go_enter Tryz.func69, Tryz.ntmps69
    go_wp2_with fail
    go_fit hc
    rintro e w1 ⟨rfl, hx⟩
    go_wp2
    go_ret
    exact ⟨by rw [hT.out]; rfl, hx⟩
theorem impl.decimal_any (n : Int) (w : World) (hb : numB n) (hT : Tab w) : Calls Tryz.prog 56 #[.int .i64 n] w fun e w' => e = .returned (.string (itoaW n)) ∧ Ext w w' := by
  have hf := fun W h => Tryz.strconv_FormatInt_10 n (by have := hb.1; omega) (by have := hb.2; omega) W h
  go_enter Tryz.func56, Tryz.ntmps56
  go_wp2_with fail
  go_fit (hf _ (hT _ (Ext.refl _)))
  rintro e w' ⟨rfl, k, os, rfl⟩
  go_wp2
  go_ret
  exact ⟨rfl, Lib.below_grow _ _ (Nat.le_refl _) _ _⟩
set_option maxHeartbeats 1000000 in
theorem impl.numbersText_any (s : Sl) (ms : List Int) (w : World) (hr : Rd w s.A s.n ms) (hm : ∀ x ∈ ms, numB x) (hl : ms.length ≤ 1000) (hT0 : Tab w) :
    Calls Tryz.prog 28 #[.slice s.A s.n s.c] w fun e w' => e = .returned (.string (numT ms)) ∧ Ext w w' := by
  obtain ⟨A, n, c⟩ := s
  simp only at hr ⊢
  have hln := hide hr.1
  have hn1 : n ≤ 1000 := by have := hr.1; omega
  have hml := hide (show (ms.map itoaW).length = n by rw [List.length_map]; exact hr.1.symm)
  have hle := hide (mapI_le hm)
  have hmB := hide hm
  clear hm
  by_cases h0 : n = 0
  · have hT := hide (show numT ms = ⟨#[45]⟩ by unfold numT; rw [if_pos (List.eq_nil_of_length_eq_zero (by have := hln.out; omega))])
    subst h0
    go_enter Tryz.func28, Tryz.ntmps28
    go_wp2
    go_ret
    exact ⟨by rw [hT.out]; rfl, Ext.refl _⟩
  have hT := hide (show numT ms = joinW (ms.map itoaW) ⟨#[44]⟩ by unfold numT; rw [if_neg (fun e => h0 (by have := hln.out; rw [e] at this; exact this))])
  have hg0 : ((n : Int) == 0) = false := by simpa using h0
  replace h0 := hide h0
  go_enter Tryz.func28, Tryz.ntmps28
  go_wp2
  have hX0 := (Ext.refl w).alloc (.cells #[] 9)
  go_loopw [3, 5, 12] (fun h _ i wr => ∃ (k : Nat) (v : Sl), k ≤ n ∧ i = .int .i64 k ∧ h = .slice v.A v.n v.c ∧ OwnU wr w.heap.size (.slice v.A v.n v.c) ((ms.map itoaW).take k) ∧ Ext w wr) (fun _ _ i _ => n - (intOf i).toNat)
  case atStart => exact ⟨0, ⟨_, _, _⟩, by omega, rfl, rfl, OwnU.new0 w _ (Nat.le_refl _), hX0⟩
  case round =>
    clear hX0
    obtain ⟨k, v, hk, rfl, rfl, ho, hE⟩ := hrel
    have hsw := hE.size
    have hvl := ho.lt
    by_cases hlt : k < n
    · obtain ⟨bm, offm, m, rfl, hbm, hcm, hmm⟩ := hr.el hlt
      have hcm1 := (hE.cell (p := ⟨bm, offm + k, none⟩) hbm).trans hcm
      have hbd := hmB.out m (List.mem_of_getElem? hmm.out)
      have hk0 : (0 : Int) ≤ (k : Int) := by omega
      have hkn : (k : Int) < (n : Int) := by omega
      have hwk : IntKind.i64.wrap ((k : Int) + 1) = (k : Int) + 1 := Go.IntWalk.i64_in _ (by omega)
      have hmore := hide (mapI_more hmm.out)
      have hlen := hide (show ((ms.map itoaW).take k).length ≤ 1000 by rw [List.length_take]; have := hml.out; omega)
      have hdc := fun W h => impl.decimal_any m W hbd h
      go_wp2_with fail
      go_fit (hdc _ (hT0.ext hE))
      rintro e w2 ⟨rfl, hx2⟩
      have hF := RdU.one w2 (itoaW m)
      have hE2 := hE.trans hx2
      have ho2 := ho.ext hx2
      have hs2 := hE2.size
      go_wp2_with (at_builtin; refine wpList_appU _ rfl (.tmp 16) (.tmp 19) rfl w.heap.size _ _ rfl (ho2.alloc _) _ _ _ [itoaW m] rfl hF (by have := hlen.out; omega) (by simp; omega) ?_; intro t4 w4 o4 hg hb)
      go_roundw
      case rel => exact ⟨k + 1, t4, by omega, by go_num, rfl, by rw [hmore.out]; exact o4, (hE2.alloc _).grow hg (fun j hj => (ho2.lt j hj).1)⟩
      case measure => simp [intOf]; omega
    · have ek : k = n := by omega
      have hfin := hide (show (ms.map itoaW).take k = ms.map itoaW by rw [ek, ← hml.out, List.take_length])
      rw [hfin.out] at ho
      have hvn := hide (show v.n = (ms.map itoaW).length from ho.rd.1)
      have hcap := ho.cap
      obtain ⟨vA, vn, vc⟩ := v
      simp only at hvn ho hcap ⊢
      have hv0 : 0 < vn := by have := hvn.out; have := hml.out; have := h0.out; omega
      obtain ⟨b, off, rfl, hbw, hcc⟩ := ho.rd.get _ hv0
      obtain ⟨xs, hxs⟩ : ∃ xs, Hid (xs = ms.map itoaW) := ⟨_, rfl⟩
      rw [← hxs.out] at hcc hvn hT hml hle
      have hvn' := hvn.out
      subst hvn'
      have hjs : (Lib.join (xs.map (·.data.toList)) (⟨#[44]⟩ : ByteArray).data.toList).length ≤ 140737488355328 := by
        have h := joinW_size (ss := xs) (sep := ⟨#[44]⟩) (c := 1) hle.out (by decide) xs.length (Nat.le_refl _)
        rw [List.take_length] at h
        have h2 : (joinW xs ⟨#[44]⟩).size = (Lib.join (xs.map (·.data.toList)) (⟨#[44]⟩ : ByteArray).data.toList).length := by simp [joinW, ByteArray.size]
        have := hml.out
        omega
      have hj := fun W h1 h2 => Tryz.strings_Join b off vc xs ⟨#[44]⟩ W h1 h2 (by have := hml.out; omega) hcap.1 hjs
      clear ho hvl
      replace hcc := hide hcc
      go_wp2_with fail
      go_fit (hj _ hcc.out hbw)
      rintro e w2 ⟨rfl, hx2⟩
      go_wp2
      go_ret
      exact ⟨by rw [hT.out]; rfl, hE.trans hx2⟩
def panT (l : L3) : ByteArray := (numT l.x ++ ⟨#[47]⟩ ++ numT l.y ++ ⟨#[47]⟩) ++ numT l.z
theorem okP_num {l : L3} (h : okP l = true) : ((∀ x ∈ l.x, numB x) ∧ l.x.length ≤ 1000) ∧ ((∀ x ∈ l.y, numB x) ∧ l.y.length ≤ 1000) ∧ ((∀ x ∈ l.z, numB x) ∧ l.z.length ≤ 1000) := by
  obtain ⟨h1, h2, h3, _⟩ := okP_iff.1 h
  have hm : ∀ x ∈ allP l, numB x := fun x hx => by have := h3.1 x hx; unfold numB; omega
  unfold allP at h2 hm
  simp only [List.length_append] at h2
  refine ⟨⟨fun x hx => ?_, by omega⟩, ⟨fun x hx => hm x (by simp [hx]), by omega⟩, ⟨fun x hx => hm x (by simp [hx]), by omega⟩⟩
  by_cases e : x = 0
  · subst e; unfold numB; omega
  · refine hm x ?_
    have : x ∈ nz l.x := by unfold nz; rw [List.mem_filter]; exact ⟨hx, by simpa using e⟩
    simp [this]
theorem str_one : (⟨#[47]⟩ : ByteArray).size = 1 := rfl
set_option maxRecDepth 20000 in
set_option maxHeartbeats 1000000 in
theorem spec.l12Text_any (p : S3) (l : L3) (w : World) (hr : Rd3 w p l) (hok : okP l = true) :
    Calls Tryz.prog 30 #[.agg #[.slice p.x.A p.x.n p.x.c, .slice p.y.A p.y.n p.y.c, .slice p.z.A p.z.n p.z.c]] w fun e w' => e = .returned (.string (panT l)) ∧ Ext w w' := by
  obtain ⟨hx, hy, hz⟩ := okP_num hok
  have hX := (Ext.refl w).alloc (.cells #[.slice p.x.A p.x.n p.x.c, .slice p.y.A p.y.n p.y.c, .slice p.z.A p.z.n p.z.c] 26)
  have hB := Blk.new w 26 (#[.slice p.x.A p.x.n p.x.c, .slice p.y.A p.y.n p.y.c, .slice p.z.A p.z.n p.z.c])
  have sx := numT_le hx.1 hx.2
  have sy := numT_le hy.1 hy.2
  have sz := numT_le hz.1 hz.2
  have cx := fun W h => spec.l01Text_any p.x l.x W h hx.1 hx.2
  have cy := fun W h => spec.l01Text_any p.y l.y W h hy.1 hy.2
  have cz := fun W h => spec.l01Text_any p.z l.z W h hz.1 hz.2
  have hP := hide (show panT l = (numT l.x ++ ⟨#[47]⟩ ++ numT l.y ++ ⟨#[47]⟩) ++ numT l.z from rfl)
  generalize numT l.x = a at sx cx hP
  generalize numT l.y = b at sy cy hP
  generalize numT l.z = d at sz cz hP
  have u1 : (a ++ ⟨#[47]⟩ : ByteArray).size = a.size + 1 := by rw [ByteArray.size_append, str_one]
  have u2 : (a ++ ⟨#[47]⟩ ++ b : ByteArray).size = a.size + 1 + b.size := by rw [ByteArray.size_append, u1]
  have u3 : (a ++ ⟨#[47]⟩ ++ b ++ ⟨#[47]⟩ : ByteArray).size = a.size + 1 + b.size + 1 := by rw [ByteArray.size_append, u2, str_one]
  have v1 : ¬ 9223372036854775807 < a.size + 1 := by omega
  have v2 : ¬ 9223372036854775807 < a.size + 1 + b.size := by omega
  have v3 : ¬ 9223372036854775807 < a.size + 1 + b.size + 1 := by omega
  have v4 : ¬ 9223372036854775807 < a.size + 1 + b.size + 1 + d.size := by omega
  clear sx sy sz
  clear hok hx hy hz
  go_enter Tryz.func30, Tryz.ntmps30
  go_upto_region 3 with fail
  have hW := hX.drew
  have hBd := hB.drew
  refine wp_region_sink (S := fun w' => w'.cell? ⟨w.heap.size, 0, none⟩ = some (.slice p.x.A p.x.n p.x.c) ∧ w'.cell? ⟨w.heap.size, 1, none⟩ = some (.slice p.y.A p.y.n p.y.c) ∧ w'.cell? ⟨w.heap.size, 2, none⟩ = some (.slice p.z.A p.z.n p.z.c)) 13 (by kernel_rfl) ?_
  change wpAnyT _ _ _ _ _ _ _ _ _ (World.drew _)
  generalize hwd : World.drew _ = wd at hW hBd ⊢
  clear hwd
  have kk := hBd.c3
  refine wpAnyT_takeL (i := 0) 12 (v := ?_) rfl (by kernel_rfl) (by kernel_rfl) (by kernel_rfl) (by kernel_rfl) (by kernel_rfl) (fun _ _ _ h => h) (Or.inl ⟨by rfl, ?_⟩) kk ?_
  rotate_left 1
  · (intro W hSw; (try dsimp only at hSw); go_simp) <;> with_reducible rfl
  try simp only [Act.put, List.setIfInBounds_toArray, List.set_cons_zero, List.set_cons_succ]
  refine wpAnyT_takeL (i := 1) 12 (v := ?_) rfl (by kernel_rfl) (by kernel_rfl) (by kernel_rfl) (by kernel_rfl) (by kernel_rfl) (fun _ _ _ h => h) (Or.inl ⟨by rfl, ?_⟩) kk ?_
  rotate_left 1
  · (intro W hSw; (try dsimp only at hSw); go_simp) <;> with_reducible rfl
  try simp only [Act.put, List.setIfInBounds_toArray, List.set_cons_zero, List.set_cons_succ]
  refine wpAnyT_takeL (i := 4) 12 (v := ?_) rfl (by kernel_rfl) (by kernel_rfl) (by kernel_rfl) (by kernel_rfl) (by kernel_rfl) (fun _ _ _ h => h) (Or.inl ⟨by rfl, ?_⟩) kk ?_
  rotate_left 1
  · (intro W hSw; (try dsimp only at hSw); go_simp) <;> with_reducible rfl
  try simp only [Act.put, List.setIfInBounds_toArray, List.set_cons_zero, List.set_cons_succ]
  refine wpAnyT_takeL (i := 5) 12 (v := ?_) rfl (by kernel_rfl) (by kernel_rfl) (by kernel_rfl) (by kernel_rfl) (by kernel_rfl) (fun _ _ _ h => h) (Or.inl ⟨by rfl, ?_⟩) kk ?_
  rotate_left 1
  · (intro W hSw; (try dsimp only at hSw); go_simp) <;> with_reducible rfl
  try simp only [Act.put, List.setIfInBounds_toArray, List.set_cons_zero, List.set_cons_succ]
  refine wpAnyT_takeL (i := 9) 12 (v := ?_) rfl (by kernel_rfl) (by kernel_rfl) (by kernel_rfl) (by kernel_rfl) (by kernel_rfl) (fun _ _ _ h => h) (Or.inl ⟨by rfl, ?_⟩) kk ?_
  rotate_left 1
  · (intro W hSw; (try dsimp only at hSw); go_simp) <;> with_reducible rfl
  try simp only [Act.put, List.setIfInBounds_toArray, List.set_cons_zero, List.set_cons_succ]
  refine wpAnyT_takeL (i := 10) 12 (v := ?_) rfl (by kernel_rfl) (by kernel_rfl) (by kernel_rfl) (by kernel_rfl) (by kernel_rfl) (fun _ _ _ h => h) (Or.inl ⟨by rfl, ?_⟩) kk ?_
  rotate_left 1
  · (intro W hSw; (try dsimp only at hSw); go_simp) <;> with_reducible rfl
  try simp only [Act.put, List.setIfInBounds_toArray, List.set_cons_zero, List.set_cons_succ]
  refine wpAnyT_go (i := 2) rfl (by kernel_rfl) fun K hK => ?_
  go_simp
  go_at_call 69
  go_fit (cx _ (hr.1.ext hW))
  rintro e wx ⟨rfl, hxx⟩
  go_simp
  replace hW := hW.trans hxx
  replace hBd := hBd.ext hxx
  have kk := hBd.c3
  refine hK _ _ ⟨fun _ => kk, ?_⟩
  clear hK K hxx
  refine wpAnyT_takeL (i := 3) 12 (v := ?_) rfl (by kernel_rfl) (by kernel_rfl) (by kernel_rfl) (by kernel_rfl) (by kernel_rfl) (fun _ _ _ h => h) (Or.inl ⟨by rfl, ?_⟩) kk ?_
  rotate_left 1
  · (intro W hSw; (try dsimp only at hSw); go_simp) <;> with_reducible rfl
  try simp only [Act.put, List.setIfInBounds_toArray, List.set_cons_zero, List.set_cons_succ]
  refine wpAnyT_go (i := 6) rfl (by kernel_rfl) fun K hK => ?_
  go_simp
  go_at_call 69
  go_fit (cy _ (hr.2.1.ext hW))
  rintro e wy ⟨rfl, hxy⟩
  go_simp
  replace hW := hW.trans hxy
  replace hBd := hBd.ext hxy
  have kk := hBd.c3
  refine hK _ _ ⟨fun _ => kk, ?_⟩
  clear hK K hxy
  refine wpAnyT_takeL (i := 7) 12 (v := ?_) rfl (by kernel_rfl) (by kernel_rfl) (by kernel_rfl) (by kernel_rfl) (by kernel_rfl) (fun _ _ _ h => h) (Or.inl ⟨by rfl, ?_⟩) kk ?_
  rotate_left 1
  · (intro W hSw; (try dsimp only at hSw); go_simp) <;> with_reducible rfl
  try simp only [Act.put, List.setIfInBounds_toArray, List.set_cons_zero, List.set_cons_succ]
  refine wpAnyT_takeL (i := 8) 12 (v := ?_) rfl (by kernel_rfl) (by kernel_rfl) (by kernel_rfl) (by kernel_rfl) (by kernel_rfl) (fun _ _ _ h => h) (Or.inl ⟨by rfl, ?_⟩) kk ?_
  rotate_left 1
  · (intro W hSw; (try dsimp only at hSw); go_simp) <;> with_reducible rfl
  try simp only [Act.put, List.setIfInBounds_toArray, List.set_cons_zero, List.set_cons_succ]
  refine wpAnyT_go (i := 11) rfl (by kernel_rfl) fun K hK => ?_
  go_simp
  go_at_call 69
  go_fit (cz _ (hr.2.2.1.ext hW))
  rintro e wz ⟨rfl, hxz⟩
  go_simp
  replace hW := hW.trans hxz
  replace hBd := hBd.ext hxz
  have kk := hBd.c3
  refine hK _ _ ⟨fun _ => kk, ?_⟩
  clear hK K hxz
  refine wpAnyT_takeL (i := 12) 12 (v := ?_) rfl (by kernel_rfl) (by kernel_rfl) (by kernel_rfl) (by kernel_rfl) (by kernel_rfl) (fun _ _ _ h => h) (Or.inl ⟨by rfl, ?_⟩) kk ?_
  rotate_left 1
  · (intro W hSw; (try dsimp only at hSw); go_simp) <;> with_reducible rfl
  try simp only [Act.put, List.setIfInBounds_toArray, List.set_cons_zero, List.set_cons_succ]
  refine wpAnyT_go (i := 13) rfl (by kernel_rfl) fun K hK => ?_
  go_simp
  refine hK _ _ ⟨fun h => absurd rfl h, ?_⟩
  clear hK K
  refine wpAnyT_done (by kernel_rfl) ?_ _
  clear kk
  go_wp2
  go_ret
  exact ⟨by rw [hP.out]; rfl, hW⟩
def ptC (l : L3) : Int := if okP l = true then 0 else 1
def ptV (l : L3) : ByteArray := if okP l = true then panT l else ⟨#[]⟩
theorem pt_no {l : L3} (h : okP l = false) : ptC l = 1 ∧ ptV l = ⟨#[]⟩ := by unfold ptC ptV; rw [h]; exact ⟨rfl, rfl⟩
theorem pt_yes {l : L3} (h : okP l = true) : ptC l = 0 ∧ ptV l = panT l := by unfold ptC ptV; rw [h]; exact ⟨rfl, rfl⟩
theorem spec.PanelText_any (p : S3) (l : L3) (w : World) (hr : Rd3 w p l) :
    Calls Tryz.prog 9 #[.agg #[.slice p.x.A p.x.n p.x.c, .slice p.y.A p.y.n p.y.c, .slice p.z.A p.z.n p.z.c]] w fun e w' => e = .returned (.tuple #[.string (ptV l), .int .i64 (ptC l)]) ∧ Ext w w' := by
  have hX0 := (Ext.refl w).alloc (.cells #[.slice p.x.A p.x.n p.x.c, .slice p.y.A p.y.n p.y.c, .slice p.z.A p.z.n p.z.c] 26)
  have hB0 := Blk.new w 26 (#[.slice p.x.A p.x.n p.x.c, .slice p.y.A p.y.n p.y.c, .slice p.z.A p.z.n p.z.c])
  obtain ⟨q0, q1, q2⟩ := hB0.c3
  have hk := spec.IsPanel_any p l _ (hr.ext hX0)
  cases hok : okP l
  · have E := hide (pt_no hok)
    rw [hok] at hk
    go_enter Tryz.func9, Tryz.ntmps9
    go_wp2_with fail
    refine hk.mono ?_
    rintro e w1 ⟨rfl, hx1⟩
    go_wp2
    go_ret2
    exact ⟨by rw [E.out.1, E.out.2]; rfl, hX0.trans hx1⟩
  · have E := hide (pt_yes hok)
    rw [hok] at hk
    have ht := fun W h => spec.l12Text_any p l W h hok
    clear hok
    go_enter Tryz.func9, Tryz.ntmps9
    go_wp2_with fail
    refine hk.mono ?_
    rintro e w1 ⟨rfl, hx1⟩
    have hX1 := hX0.trans hx1
    have hB1 := hB0.ext hx1
    clear q0 q1 q2
    obtain ⟨q0, q1, q2⟩ := hB1.c3
    go_wp2_with fail
    refine (ht _ (hr.ext hX1)).mono ?_
    rintro e w2 ⟨rfl, hx2⟩
    go_wp2
    go_ret2
    exact ⟨by rw [E.out.1, E.out.2]; rfl, hX1.trans hx2⟩
set_option maxRecDepth 20000 in
set_option maxHeartbeats 1000000 in
theorem impl.PanelText_any (p : S3) (l : L3) (w : World) (hr : Rd3 w p l) (hT : Tab w) :
    Calls Tryz.prog 8 #[.agg #[.slice p.x.A p.x.n p.x.c, .slice p.y.A p.y.n p.y.c, .slice p.z.A p.z.n p.z.c]] w fun e w' => e = .returned (.tuple #[.string (ptV l), .int .i64 (ptC l)]) ∧ Ext w w' := by
  have hX0 := (Ext.refl w).alloc (.cells #[.slice p.x.A p.x.n p.x.c, .slice p.y.A p.y.n p.y.c, .slice p.z.A p.z.n p.z.c] 26)
  have hB0 := Blk.new w 26 (#[.slice p.x.A p.x.n p.x.c, .slice p.y.A p.y.n p.y.c, .slice p.z.A p.z.n p.z.c])
  obtain ⟨q0, q1, q2⟩ := hB0.c3
  have hk := impl.IsPanel_any p l _ (hr.ext hX0)
  cases hok : okP l
  · have E := hide (pt_no hok)
    rw [hok] at hk
    go_enter Tryz.func8, Tryz.ntmps8
    go_wp2_with fail
    refine hk.mono ?_
    rintro e w1 ⟨rfl, hx1⟩
    go_wp2
    go_ret2
    exact ⟨by rw [E.out.1, E.out.2]; rfl, hX0.trans hx1⟩
  have E := hide (pt_yes hok)
  rw [hok] at hk
  obtain ⟨hx, hy, hz⟩ := okP_num hok
  have sx := numT_le hx.1 hx.2
  have sy := numT_le hy.1 hy.2
  have sz := numT_le hz.1 hz.2
  have cx := fun W h ht => impl.numbersText_any p.x l.x W h hx.1 hx.2 ht
  have cy := fun W h ht => impl.numbersText_any p.y l.y W h hy.1 hy.2 ht
  have cz := fun W h ht => impl.numbersText_any p.z l.z W h hz.1 hz.2 ht
  have hP := hide (show panT l = (numT l.x ++ ⟨#[47]⟩ ++ numT l.y ++ ⟨#[47]⟩) ++ numT l.z from rfl)
  generalize numT l.x = a at sx cx hP
  generalize numT l.y = b at sy cy hP
  generalize numT l.z = d at sz cz hP
  have u1 : (a ++ ⟨#[47]⟩ : ByteArray).size = a.size + 1 := by rw [ByteArray.size_append, str_one]
  have u2 : (a ++ ⟨#[47]⟩ ++ b : ByteArray).size = a.size + 1 + b.size := by rw [ByteArray.size_append, u1]
  have u3 : (a ++ ⟨#[47]⟩ ++ b ++ ⟨#[47]⟩ : ByteArray).size = a.size + 1 + b.size + 1 := by rw [ByteArray.size_append, u2, str_one]
  have v1 : ¬ 9223372036854775807 < a.size + 1 := by omega
  have v2 : ¬ 9223372036854775807 < a.size + 1 + b.size := by omega
  have v3 : ¬ 9223372036854775807 < a.size + 1 + b.size + 1 := by omega
  have v4 : ¬ 9223372036854775807 < a.size + 1 + b.size + 1 + d.size := by omega
  clear sx sy sz
  clear hok hx hy hz
  go_enter Tryz.func8, Tryz.ntmps8
  go_wp2_with fail
  refine hk.mono ?_
  rintro e w1 ⟨rfl, hx1⟩
  have hX := hX0.trans hx1
  have hB := hB0.ext hx1
  clear q0 q1 q2 hk hX0 hB0 hx1
  obtain ⟨q0, q1, q2⟩ := hB.c3
  go_upto_region 7 with fail
  have hW := hX.drew
  have hBd := hB.drew
  refine wp_region_sink (S := fun w' => w'.cell? ⟨w.heap.size, 0, none⟩ = some (.slice p.x.A p.x.n p.x.c) ∧ w'.cell? ⟨w.heap.size, 1, none⟩ = some (.slice p.y.A p.y.n p.y.c) ∧ w'.cell? ⟨w.heap.size, 2, none⟩ = some (.slice p.z.A p.z.n p.z.c)) 14 (by kernel_rfl) ?_
  change wpAnyT _ _ _ _ _ _ _ _ _ (World.drew _)
  generalize hwd : World.drew _ = wd at hW hBd ⊢
  clear hwd
  have kk := hBd.c3
  refine wpAnyT_takeL (i := 0) 12 (v := ?_) rfl (by kernel_rfl) (by kernel_rfl) (by kernel_rfl) (by kernel_rfl) (by kernel_rfl) (fun _ _ _ h => h) (Or.inl ⟨by rfl, ?_⟩) kk ?_
  rotate_left 1
  · (intro W hSw; (try dsimp only at hSw); go_simp) <;> with_reducible rfl
  try simp only [Act.put, List.setIfInBounds_toArray, List.set_cons_zero, List.set_cons_succ]
  refine wpAnyT_takeL (i := 1) 12 (v := ?_) rfl (by kernel_rfl) (by kernel_rfl) (by kernel_rfl) (by kernel_rfl) (by kernel_rfl) (fun _ _ _ h => h) (Or.inl ⟨by rfl, ?_⟩) kk ?_
  rotate_left 1
  · (intro W hSw; (try dsimp only at hSw); go_simp) <;> with_reducible rfl
  try simp only [Act.put, List.setIfInBounds_toArray, List.set_cons_zero, List.set_cons_succ]
  refine wpAnyT_takeL (i := 4) 12 (v := ?_) rfl (by kernel_rfl) (by kernel_rfl) (by kernel_rfl) (by kernel_rfl) (by kernel_rfl) (fun _ _ _ h => h) (Or.inl ⟨by rfl, ?_⟩) kk ?_
  rotate_left 1
  · (intro W hSw; (try dsimp only at hSw); go_simp) <;> with_reducible rfl
  try simp only [Act.put, List.setIfInBounds_toArray, List.set_cons_zero, List.set_cons_succ]
  refine wpAnyT_takeL (i := 5) 12 (v := ?_) rfl (by kernel_rfl) (by kernel_rfl) (by kernel_rfl) (by kernel_rfl) (by kernel_rfl) (fun _ _ _ h => h) (Or.inl ⟨by rfl, ?_⟩) kk ?_
  rotate_left 1
  · (intro W hSw; (try dsimp only at hSw); go_simp) <;> with_reducible rfl
  try simp only [Act.put, List.setIfInBounds_toArray, List.set_cons_zero, List.set_cons_succ]
  refine wpAnyT_takeL (i := 9) 12 (v := ?_) rfl (by kernel_rfl) (by kernel_rfl) (by kernel_rfl) (by kernel_rfl) (by kernel_rfl) (fun _ _ _ h => h) (Or.inl ⟨by rfl, ?_⟩) kk ?_
  rotate_left 1
  · (intro W hSw; (try dsimp only at hSw); go_simp) <;> with_reducible rfl
  try simp only [Act.put, List.setIfInBounds_toArray, List.set_cons_zero, List.set_cons_succ]
  refine wpAnyT_takeL (i := 10) 12 (v := ?_) rfl (by kernel_rfl) (by kernel_rfl) (by kernel_rfl) (by kernel_rfl) (by kernel_rfl) (fun _ _ _ h => h) (Or.inl ⟨by rfl, ?_⟩) kk ?_
  rotate_left 1
  · (intro W hSw; (try dsimp only at hSw); go_simp) <;> with_reducible rfl
  try simp only [Act.put, List.setIfInBounds_toArray, List.set_cons_zero, List.set_cons_succ]
  refine wpAnyT_go (i := 2) rfl (by kernel_rfl) fun K hK => ?_
  go_simp
  go_at_call 28
  go_fit (cx _ (hr.1.ext hW) (hT.ext hW))
  rintro e wx ⟨rfl, hxx⟩
  go_simp
  replace hW := hW.trans hxx
  replace hBd := hBd.ext hxx
  have kk := hBd.c3
  refine hK _ _ ⟨fun _ => kk, ?_⟩
  clear hK K hxx
  refine wpAnyT_takeL (i := 3) 12 (v := ?_) rfl (by kernel_rfl) (by kernel_rfl) (by kernel_rfl) (by kernel_rfl) (by kernel_rfl) (fun _ _ _ h => h) (Or.inl ⟨by rfl, ?_⟩) kk ?_
  rotate_left 1
  · (intro W hSw; (try dsimp only at hSw); go_simp) <;> with_reducible rfl
  try simp only [Act.put, List.setIfInBounds_toArray, List.set_cons_zero, List.set_cons_succ]
  refine wpAnyT_go (i := 6) rfl (by kernel_rfl) fun K hK => ?_
  go_simp
  go_at_call 28
  go_fit (cy _ (hr.2.1.ext hW) (hT.ext hW))
  rintro e wy ⟨rfl, hxy⟩
  go_simp
  replace hW := hW.trans hxy
  replace hBd := hBd.ext hxy
  have kk := hBd.c3
  refine hK _ _ ⟨fun _ => kk, ?_⟩
  clear hK K hxy
  refine wpAnyT_takeL (i := 7) 12 (v := ?_) rfl (by kernel_rfl) (by kernel_rfl) (by kernel_rfl) (by kernel_rfl) (by kernel_rfl) (fun _ _ _ h => h) (Or.inl ⟨by rfl, ?_⟩) kk ?_
  rotate_left 1
  · (intro W hSw; (try dsimp only at hSw); go_simp) <;> with_reducible rfl
  try simp only [Act.put, List.setIfInBounds_toArray, List.set_cons_zero, List.set_cons_succ]
  refine wpAnyT_takeL (i := 8) 12 (v := ?_) rfl (by kernel_rfl) (by kernel_rfl) (by kernel_rfl) (by kernel_rfl) (by kernel_rfl) (fun _ _ _ h => h) (Or.inl ⟨by rfl, ?_⟩) kk ?_
  rotate_left 1
  · (intro W hSw; (try dsimp only at hSw); go_simp) <;> with_reducible rfl
  try simp only [Act.put, List.setIfInBounds_toArray, List.set_cons_zero, List.set_cons_succ]
  refine wpAnyT_go (i := 11) rfl (by kernel_rfl) fun K hK => ?_
  go_simp
  go_at_call 28
  go_fit (cz _ (hr.2.2.1.ext hW) (hT.ext hW))
  rintro e wz ⟨rfl, hxz⟩
  go_simp
  replace hW := hW.trans hxz
  replace hBd := hBd.ext hxz
  have kk := hBd.c3
  refine hK _ _ ⟨fun _ => kk, ?_⟩
  clear hK K hxz
  refine wpAnyT_takeL (i := 12) 12 (v := ?_) rfl (by kernel_rfl) (by kernel_rfl) (by kernel_rfl) (by kernel_rfl) (by kernel_rfl) (fun _ _ _ h => h) (Or.inl ⟨by rfl, ?_⟩) kk ?_
  rotate_left 1
  · (intro W hSw; (try dsimp only at hSw); go_simp) <;> with_reducible rfl
  try simp only [Act.put, List.setIfInBounds_toArray, List.set_cons_zero, List.set_cons_succ]
  refine wpAnyT_go (i := 13) rfl (by kernel_rfl) fun K hK => ?_
  go_simp
  refine hK _ _ ⟨fun _ => kk, ?_⟩
  clear hK K
  refine wpAnyT_go (i := 14) rfl (by kernel_rfl) fun K hK => ?_
  go_simp
  refine hK _ _ ⟨fun h => absurd rfl h, ?_⟩
  clear hK K
  refine wpAnyT_done (by kernel_rfl) ?_ _
  clear kk
  go_wp2
  go_ret2
  exact ⟨by rw [E.out.1, E.out.2, hP.out]; rfl, hW⟩
end Go.Proofs.YtfojfndmaofahaaGreatDoor.mem
