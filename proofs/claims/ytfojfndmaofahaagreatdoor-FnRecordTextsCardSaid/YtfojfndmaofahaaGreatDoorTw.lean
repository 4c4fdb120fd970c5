/-
  The text of moves, in both programs.
-/
import Derived.Test.YtfojfndmaofahaaGreatDoorTx
import Derived.Test.YtfojfndmaofahaaGreatDoorRec
import Derived.Test.YtfojfndmaofahaaGreatDoorShelf
namespace Go.Proofs.YtfojfndmaofahaaGreatDoor.mem
open Go.ChangeShapes Go.WideShapes Go.ChangeAt Go.RowKit

theorem nil_app (x : ByteArray) : (⟨#[]⟩ : ByteArray) ++ x = x := by
  apply ByteArray.ext
  simp
theorem RdU.get (w : World) {A : Option Addr} {n : Nat} {ss : List ByteArray} (h : RdU w A n ss) (hn : 0 < n) : ∃ b off, A = some ⟨b, off, none⟩ ∧ b < w.heap.size ∧ ∀ (j : Nat) x, ss[j]? = some x → w.cell? ⟨b, off + j, none⟩ = some (.string x) := by
  obtain ⟨b, off, e, hb, hc⟩ := h.2.2 hn
  refine ⟨b, off, e, hb, fun j x hx => ?_⟩
  have hj : j < n := by have := (List.getElem?_eq_some_iff.1 hx).1; have := h.1; omega
  have := hc j hj
  rw [List.getD_eq_getElem?_getD, hx] at this
  exact this
theorem takeU_more {xs : List ByteArray} {k : Nat} {x : ByteArray} (h : xs[k]? = some x) : xs.take (k + 1) = xs.take k ++ [x] := by
  rw [List.take_add_one, h]; rfl
set_option maxHeartbeats 1000000 in
theorem spec.l01Words_any (s : Sl) (ss : List ByteArray) (sep : ByteArray) (w : World) (hr : RdU w s.A s.n ss) (hb : ∀ x ∈ ss, x.size ≤ 1000) (hl : ss.length ≤ 100) (hsp : sep.size ≤ 10) :
    Calls Tryz.prog 101 #[.slice s.A s.n s.c, .string sep] w fun e w' => e = .returned (.string (joinW ss sep)) ∧ Ext w w' := by
  obtain ⟨A, n, c⟩ := s
  simp only at hr ⊢
  have hn := hr.le
  have hln := hide hr.1
  have hn1 : n ≤ 100 := by have := hr.1; omega
  go_enter Tryz.func101, Tryz.ntmps101
  go_wp2
  go_loopw [5, 6] (fun o i wr => ∃ (k : Nat) (y : ByteArray), k ≤ n ∧ i = .int .i64 k ∧ o = .string y ∧ Hid (y = joinW (ss.take k) sep) ∧ wr = w) (fun _ i _ => n - (intOf i).toNat)
  case atStart => exact ⟨0, _, by omega, rfl, rfl, hide rfl, rfl⟩
  case round =>
    obtain ⟨k, y, hk, rfl, rfl, hy, rfl⟩ := hrel
    have hsz : y.size ≤ k * (1000 + 10) := by rw [hy.out]; exact joinW_size hb hsp k (by have := hln.out; omega)
    by_cases hlt : k < n
    · obtain ⟨b, off, x, rfl, hbl, hcx, hx⟩ := hr.el hlt
      have hxs : x.size ≤ 1000 := hb x (List.mem_of_getElem? hx.out)
      have hkk : k * (1000 + 10) ≤ 101000 := by omega
      have hwk : IntKind.i64.wrap ((k : Int) + 1) = (k : Int) + 1 := Go.IntWalk.i64_in _ (by omega)
      by_cases h0 : k = 0
      · have hm := hide (show y ++ x = joinW (ss.take (k + 1)) sep by rw [hy.out, takeU_more hx.out, h0]; simp only [List.take_zero, List.nil_append]; rw [joinW_nil, joinW_one, nil_app])
        have hz : ¬ 9223372036854775807 < y.size + x.size := by omega
        have hg : ¬ (0 : Int) < (k : Int) := by omega
        replace h0 := hide h0
        clear hsz hkk
        go_wp2
        go_roundw
        case rel => exact ⟨k + 1, y ++ x, by omega, by go_num, rfl, hm, by simp⟩
        case measure => simp [intOf]; omega
      · have hne : ss.take k ≠ [] := fun e => by have h1 := congrArg List.length e; rw [List.length_take, List.length_nil] at h1; have := hln.out; omega
        have hm := hide (show (y ++ sep) ++ x = joinW (ss.take (k + 1)) sep by rw [hy.out, takeU_more hx.out, joinW_snoc hne])
        have hz : ¬ 9223372036854775807 < y.size + sep.size := by omega
        have hz2 : ¬ 9223372036854775807 < y.size + sep.size + x.size := by omega
        have hz3 : (y ++ sep).size = y.size + sep.size := ByteArray.size_append
        have hg : (0 : Int) < (k : Int) := by omega
        replace h0 := hide h0
        replace hne := hide hne
        clear hsz hkk
        go_wp2
        go_roundw
        case rel => exact ⟨k + 1, (y ++ sep) ++ x, by omega, by go_num, rfl, hm, by simp⟩
        case measure => simp [intOf]; omega
    · have ek : k = n := by omega
      have hm := hide (show y = joinW ss sep by rw [hy.out, ek, hln.out, List.take_length])
      go_wp2
      go_ret
      exact ⟨by rw [hm.out]; rfl, Ext.refl _⟩
def passW : ByteArray := ⟨#[112, 97, 115, 115]⟩
def mvT (m : Int) : ByteArray := if m = -1 then passW else decW m.toNat
def mvsT (ms : List Int) : ByteArray := if ms = [] then ⟨#[45]⟩ else joinW (ms.map mvT) ⟨#[44]⟩
def mtC (ms : List Int) : Int := if movB ms = true then (if ms.length ≤ 40 then 0 else 3) else 2
def mtV (ms : List Int) : ByteArray := if mtC ms = 0 then mvsT ms else ⟨#[]⟩
theorem mvT_p : mvT (-1) = passW := rfl
theorem mvT_n {m : Int} (h : m ≠ -1) : mvT m = decW m.toNat := if_neg h
theorem movB_in {ms : List Int} {k : Nat} {m : Int} (h : movB ms = true) (hm : ms[k]? = some m) : -1 ≤ m ∧ m ≤ 11 := by
  unfold movB at h
  rw [List.all_eq_true] at h
  exact inB_iff.1 (h m (List.mem_of_getElem? hm))
theorem mvT_le {ms : List Int} (h : movB ms = true) : ∀ x ∈ ms.map mvT, x.size ≤ 1000 := by
  intro x hx
  obtain ⟨m, hm, rfl⟩ := List.mem_map.1 hx
  obtain ⟨k, hk⟩ := List.mem_iff_getElem?.1 hm
  have hb := movB_in h hk
  by_cases e : m = -1
  · rw [e, mvT_p]; decide
  · rw [mvT_n e]
    have := decW_le m.toNat
    omega
theorem mapT_more {ms : List Int} {k : Nat} {m : Int} (h : ms[k]? = some m) : (ms.map mvT).take (k + 1) = (ms.map mvT).take k ++ [mvT m] := by
  rw [takeU_more (x := mvT m) (by rw [List.getElem?_map, h]; rfl)]
set_option maxHeartbeats 1000000 in
theorem spec.l14Text_any (s : Sl) (ms : List Int) (w : World) (hr : Rd w s.A s.n ms) (hm : movB ms = true) (hl : ms.length ≤ 40) :
    Calls Tryz.prog 84 #[.slice s.A s.n s.c] w fun e w' => e = .returned (.string (mvsT ms)) ∧ Ext w w' := by
  obtain ⟨A, n, c⟩ := s
  simp only at hr ⊢
  have hln := hide hr.1
  have hn1 : n ≤ 40 := by have := hr.1; omega
  have hml := hide (show (ms.map mvT).length = n by rw [List.length_map]; exact hr.1.symm)
  have hle := hide (mvT_le hm)
  have hmB := hide hm
  clear hm
  go_enter Tryz.func84, Tryz.ntmps84
  go_wp2
  have hX0 := (Ext.refl w).alloc (.cells #[] 9)
  go_loopw [3, 4] (fun h i wr => ∃ (k : Nat) (v : Sl), k ≤ n ∧ i = .int .i64 k ∧ h = .slice v.A v.n v.c ∧ OwnU wr w.heap.size (.slice v.A v.n v.c) ((ms.map mvT).take k) ∧ Ext w wr) (fun _ i _ => n - (intOf i).toNat)
  case atStart => exact ⟨0, ⟨_, _, _⟩, by omega, rfl, rfl, OwnU.new0 w _ (Nat.le_refl _), hX0⟩
  case round =>
    clear hX0
    obtain ⟨k, v, hk, rfl, rfl, ho, hE⟩ := hrel
    have hsw := hE.size
    have hvl := ho.lt
    by_cases hlt : k < n
    · obtain ⟨bm, offm, m, rfl, hbm, hcm, hmm⟩ := hr.el hlt
      have hcm1 := (hE.cell (p := ⟨bm, offm + k, none⟩) hbm).trans hcm
      have hbd := movB_in hmB.out hmm.out
      have hk0 : (0 : Int) ≤ (k : Int) := by omega
      have hkn : (k : Int) < (n : Int) := by omega
      have hwk : IntKind.i64.wrap ((k : Int) + 1) = (k : Int) + 1 := Go.IntWalk.i64_in _ (by omega)
      have hmore := hide (mapT_more hmm.out)
      have hlen := hide (show ((ms.map mvT).take k).length ≤ 40 by rw [List.length_take]; have := hml.out; omega)
      by_cases h1 : m = -1
      · subst h1
        have hF := RdU.one wr passW
        go_wp2_with (at_builtin; refine wpList_appU _ rfl (.tmp 17) (.tmp 18) rfl w.heap.size _ _ rfl (ho.alloc _) _ _ _ [passW] rfl hF (by have := hlen.out; omega) (by simp; omega) ?_; intro t4 w4 o4 hg hb)
        go_roundw
        case rel => exact ⟨k + 1, t4, by omega, by go_num, rfl, by rw [hmore.out]; exact o4, (hE.alloc _).grow hg (fun j hj => (hvl j hj).1)⟩
        case measure => simp [intOf]; omega
      · obtain ⟨mi, rfl⟩ : ∃ mi : Nat, m = (mi : Int) := ⟨m.toNat, by omega⟩
        have hne : ((mi : Int) == -1) = false := by simp
        rw [mvT_n h1, Int.toNat_natCast] at hmore
        have hdc := fun W => spec.l01Dec_any mi W (by omega)
        replace h1 := hide h1
        go_wp2_with fail
        refine (hdc _).mono ?_
        rintro e w2 ⟨rfl, hx2⟩
        have hF := RdU.one w2 (decW mi)
        have hE2 := hE.trans hx2
        have ho2 := ho.ext hx2
        have hs2 := hE2.size
        go_wp2_with (at_builtin; refine wpList_appU _ rfl (.tmp 20) (.tmp 26) rfl w.heap.size _ _ rfl (ho2.alloc _) _ _ _ [decW mi] rfl hF (by have := hlen.out; omega) (by simp; omega) ?_; intro t4 w4 o4 hg hb)
        go_roundw
        case rel => exact ⟨k + 1, t4, by omega, by go_num, rfl, by rw [hmore.out]; exact o4, (hE2.alloc _).grow hg (fun j hj => (ho2.lt j hj).1)⟩
        case measure => simp [intOf]; omega
    · have ek : k = n := by omega
      have hfin := hide (show (ms.map mvT).take k = ms.map mvT by rw [ek, ← hml.out, List.take_length])
      rw [hfin.out] at ho
      have hvn := hide (show v.n = n by have h : v.n = (ms.map mvT).length := ho.rd.1; rw [h, hml.out])
      by_cases h0 : n = 0
      · have e0 : v.n = 0 := by rw [hvn.out]; exact h0
        have hT := hide (show mvsT ms = ⟨#[45]⟩ by unfold mvsT; rw [if_pos (List.eq_nil_of_length_eq_zero (by have := hln.out; omega))])
        replace h0 := hide h0
        go_wp2
        go_ret
        exact ⟨by rw [hT.out]; rfl, hE⟩
      · have e0 : ¬ (v.n : Int) = 0 := by have := hvn.out; omega
        have hT := hide (show mvsT ms = joinW (ms.map mvT) ⟨#[44]⟩ by unfold mvsT; rw [if_neg (fun e => h0 (by have := hln.out; rw [e] at this; exact this))])
        replace h0 := hide h0
        have hw := fun W h => spec.l01Words_any v (ms.map mvT) ⟨#[44]⟩ W h hle.out (by rw [hml.out]; omega) (by decide)
        go_wp2_with fail
        refine (hw _ ho.rd).mono ?_
        rintro e w2 ⟨rfl, hx2⟩
        go_wp2
        go_ret
        exact ⟨by rw [hT.out]; rfl, hE.trans hx2⟩
theorem impl.decimal_small (i : Nat) (hi : i < 100) (w : World) : Calls Tryz.prog 56 #[.int .i64 (i : Int)] w fun e w' => e = .returned (.string (decW i)) ∧ w = w' := by
  go_enter Tryz.func56, Tryz.ntmps56
  go_wp2_with fail
  go_fit (Tryz.strconv_FormatInt_10_small i hi _)
  rintro e w' ⟨rfl, rfl⟩
  go_wp2
  go_ret
  exact ⟨rfl, rfl⟩
set_option maxHeartbeats 1000000 in
theorem impl.movesText_any (s : Sl) (ms : List Int) (w : World) (hr : Rd w s.A s.n ms) (hm : movB ms = true) (hl : ms.length ≤ 40) :
    Calls Tryz.prog 57 #[.slice s.A s.n s.c] w fun e w' => e = .returned (.string (mvsT ms)) ∧ Ext w w' := by
  obtain ⟨A, n, c⟩ := s
  simp only at hr ⊢
  have hln := hide hr.1
  have hn1 : n ≤ 40 := by have := hr.1; omega
  have hml := hide (show (ms.map mvT).length = n by rw [List.length_map]; exact hr.1.symm)
  have hle := hide (mvT_le hm)
  have hmB := hide hm
  clear hm
  by_cases h0 : n = 0
  · have hT := hide (show mvsT ms = ⟨#[45]⟩ by unfold mvsT; rw [if_pos (List.eq_nil_of_length_eq_zero (by have := hln.out; omega))])
    subst h0
    go_enter Tryz.func57, Tryz.ntmps57
    go_wp2
    go_ret
    exact ⟨by rw [hT.out]; rfl, Ext.refl _⟩
  have hT := hide (show mvsT ms = joinW (ms.map mvT) ⟨#[44]⟩ by unfold mvsT; rw [if_neg (fun e => h0 (by have := hln.out; rw [e] at this; exact this))])
  have hg0 : ((n : Int) == 0) = false := by simpa using h0
  replace h0 := hide h0
  go_enter Tryz.func57, Tryz.ntmps57
  go_wp2
  have hX0 := (Ext.refl w).alloc (.cells #[] 9)
  go_loopw [3, 5, 12] (fun h _ i wr => ∃ (k : Nat) (v : Sl), k ≤ n ∧ i = .int .i64 k ∧ h = .slice v.A v.n v.c ∧ OwnU wr w.heap.size (.slice v.A v.n v.c) ((ms.map mvT).take k) ∧ Ext w wr) (fun _ _ i _ => n - (intOf i).toNat)
  case atStart => exact ⟨0, ⟨_, _, _⟩, by omega, rfl, rfl, OwnU.new0 w _ (Nat.le_refl _), hX0⟩
  case round =>
    clear hX0
    obtain ⟨k, v, hk, rfl, rfl, ho, hE⟩ := hrel
    have hsw := hE.size
    have hvl := ho.lt
    by_cases hlt : k < n
    · obtain ⟨bm, offm, m, rfl, hbm, hcm, hmm⟩ := hr.el hlt
      have hcm1 := (hE.cell (p := ⟨bm, offm + k, none⟩) hbm).trans hcm
      have hbd := movB_in hmB.out hmm.out
      have hk0 : (0 : Int) ≤ (k : Int) := by omega
      have hkn : (k : Int) < (n : Int) := by omega
      have hwk : IntKind.i64.wrap ((k : Int) + 1) = (k : Int) + 1 := Go.IntWalk.i64_in _ (by omega)
      have hmore := hide (mapT_more hmm.out)
      have hlen := hide (show ((ms.map mvT).take k).length ≤ 40 by rw [List.length_take]; have := hml.out; omega)
      by_cases h1 : m = -1
      · subst h1
        have hF := RdU.one wr passW
        go_wp2_with (at_builtin; refine wpList_appU _ rfl (.tmp 18) (.tmp 19) rfl w.heap.size _ _ rfl (ho.alloc _) _ _ _ [passW] rfl hF (by have := hlen.out; omega) (by simp; omega) ?_; intro t4 w4 o4 hg hb)
        go_roundw
        case rel => exact ⟨k + 1, t4, by omega, by go_num, rfl, by rw [hmore.out]; exact o4, (hE.alloc _).grow hg (fun j hj => (hvl j hj).1)⟩
        case measure => simp [intOf]; omega
      · obtain ⟨mi, rfl⟩ : ∃ mi : Nat, m = (mi : Int) := ⟨m.toNat, by omega⟩
        have hne : ((mi : Int) == -1) = false := by simp
        rw [mvT_n h1, Int.toNat_natCast] at hmore
        have hdc := fun W => impl.decimal_small mi (by omega) W
        replace h1 := hide h1
        have hF := RdU.one wr (decW mi)
        go_wp2_with fail
        go_fit (hdc _)
        rintro e w2 ⟨rfl, rfl⟩
        go_wp2_with (at_builtin; refine wpList_appU _ rfl (.tmp 21) (.tmp 24) rfl w.heap.size _ _ rfl (ho.alloc _) _ _ _ [decW mi] rfl hF (by have := hlen.out; omega) (by simp; omega) ?_; intro t4 w4 o4 hg hb)
        go_roundw
        case rel => exact ⟨k + 1, t4, by omega, by go_num, rfl, by rw [hmore.out]; exact o4, (hE.alloc _).grow hg (fun j hj => (hvl j hj).1)⟩
        case measure => simp [intOf]; omega
    · have ek : k = n := by omega
      have hfin := hide (show (ms.map mvT).take k = ms.map mvT by rw [ek, ← hml.out, List.take_length])
      rw [hfin.out] at ho
      have hvn := hide (show v.n = (ms.map mvT).length from ho.rd.1)
      have hcap := ho.cap
      obtain ⟨vA, vn, vc⟩ := v
      simp only at hvn ho hcap ⊢
      have hv0 : 0 < vn := by have := hvn.out; have := hml.out; have := h0.out; omega
      obtain ⟨b, off, rfl, hbw, hcc⟩ := ho.rd.get _ hv0
      obtain ⟨xs, hxs⟩ : ∃ xs, Hid (xs = ms.map mvT) := ⟨_, rfl⟩
      rw [← hxs.out] at hcc hvn hT hml hle
      have hvn' := hvn.out
      subst hvn'
      have hjs : (Lib.join (xs.map (·.data.toList)) (⟨#[44]⟩ : ByteArray).data.toList).length ≤ 140737488355328 := by
        have h := joinW_size (ss := xs) (sep := ⟨#[44]⟩) (c := 1) hle.out (by decide) xs.length (Nat.le_refl _)
        rw [List.take_length] at h
        have h2 : (joinW xs ⟨#[44]⟩).size = (Lib.join (xs.map (·.data.toList)) (⟨#[44]⟩ : ByteArray).data.toList).length := by simp [joinW, ByteArray.size]
        have := hml.out
        omega
      have hj := fun W h1 h2 => Tryz.strings_Join b off vc xs ⟨#[44]⟩ W h1 h2 (by have := hml.out; omega) hcap.1 hjs
      clear ho hvl
      replace hcc := hide hcc
      go_wp2_with fail
      go_fit (hj _ hcc.out hbw)
      rintro e w2 ⟨rfl, hx2⟩
      go_wp2
      go_ret
      exact ⟨by rw [hT.out]; rfl, hE.trans hx2⟩
theorem impl.MovesText_any (s : Sl) (ms : List Int) (w : World) (hr : Rd w s.A s.n ms) :
    Calls Tryz.prog 85 #[.slice s.A s.n s.c] w fun e w' => e = .returned (.tuple #[.string (mtV ms), .int .i64 (mtC ms)]) ∧ Ext w w' := by
  obtain ⟨A, n, c⟩ := s
  have hma := impl.areMoves_any ⟨A, n, c⟩ ms w hr
  have hfe := fun W => impl.few_any (n : Int) 40 W
  simp only at hr hma ⊢
  have hn := hr.le
  cases hm : movB ms
  · have EC := hide (show mtC ms = 2 by unfold mtC; rw [hm]; rfl)
    have EV := hide (show mtV ms = ⟨#[]⟩ by unfold mtV; rw [EC.out]; rfl)
    rw [hm] at hma
    go_enter Tryz.func85, Tryz.ntmps85
    go_wp2_with (go_at_call 63; refine hma.mono ?_; rintro e w' ⟨rfl, rfl⟩)
    go_ret2
    exact ⟨by rw [EC.out, EV.out]; rfl, Ext.refl _⟩
  rw [hm] at hma
  cases h40 : decide ((n : Int) ≤ 40)
  · have EC := hide (show mtC ms = 3 by unfold mtC; rw [hm, if_pos rfl, if_neg (by have := of_decide_eq_false h40; have := hr.1; omega)])
    have EV := hide (show mtV ms = ⟨#[]⟩ by unfold mtV; rw [EC.out]; rfl)
    simp only [h40] at hfe
    go_enter Tryz.func85, Tryz.ntmps85
    go_wp2_with (first | (go_at_call 63; refine hma.mono ?_; rintro e w' ⟨rfl, rfl⟩) | (go_at_call 43; refine (hfe _).mono ?_; rintro e w' ⟨rfl, rfl⟩))
    go_ret2
    exact ⟨by rw [EC.out, EV.out]; rfl, Ext.refl _⟩
  · have hl : ms.length ≤ 40 := by have := of_decide_eq_true h40; have := hr.1; omega
    have EC := hide (show mtC ms = 0 by unfold mtC; rw [hm, if_pos rfl, if_pos hl])
    have EV := hide (show mtV ms = mvsT ms by unfold mtV; rw [EC.out]; rfl)
    have hmt := impl.movesText_any ⟨A, n, c⟩ ms w hr hm hl
    simp only [h40] at hfe
    simp only at hmt
    clear hm hl
    go_enter Tryz.func85, Tryz.ntmps85
    go_wp2_with (first | (go_at_call 63; refine hma.mono ?_; rintro e w' ⟨rfl, rfl⟩) | (go_at_call 43; refine (hfe _).mono ?_; rintro e w' ⟨rfl, rfl⟩) | (go_at_call 57; refine hmt.mono ?_; rintro e w' ⟨rfl, hx⟩))
    go_ret2
    exact ⟨by rw [EC.out, EV.out]; rfl, hx⟩
end Go.Proofs.YtfojfndmaofahaaGreatDoor.mem
