/-
  Reading signed numbers, lists of numbers, in the reference.
-/
import Derived.Test.YtfojfndmaofahaaGreatDoorVal
import Derived.Test.YtfojfndmaofahaaGreatDoorRdR
namespace Go.Proofs.YtfojfndmaofahaaGreatDoor.mem
open Go.ChangeShapes Go.WideShapes Go.ChangeAt Go.RowKit

def SgP (s : ByteArray) (e : Ending) : Prop := ∃ (n : Int) (b : Bool), e = .returned (.tuple #[.int .i64 n, .bool b]) ∧ (b = true → sg s = some n) ∧ (b = false → sg s = none)
theorem va_sg {s : ByteArray} {n : Int} {b : Bool} (hm : ∀ d : ByteArray, s ≠ ⟨#[45]⟩ ++ d) (h1 : b = true → ∃ k : Nat, n = k ∧ s = decW k ∧ k < 10000000000000) (h2 : ∀ k : Nat, s = decW k → k < 10000000000000 → b = true ∧ n = k) :
    (b = true → sg s = some n) ∧ (b = false → sg s = none) := by
  constructor
  · intro hb
    obtain ⟨k, rfl, e, hk⟩ := h1 hb
    rw [e, ← itoaW_nat]
    exact sg_itoa (sgB_iff.2 (by omega))
  · intro hb
    refine sg_none fun m e hm2 => ?_
    have hbd := sgB_iff.1 hm2
    by_cases h : 0 ≤ m
    · rw [itoaW_pos h] at e
      have := (h2 _ e (by omega)).1
      rw [hb] at this
      cases this
    · exact hm _ (e.trans (itoaW_min (by omega)))
theorem va_sg_neg {s r : ByteArray} {n : Int} {b : Bool} (hs : s = ⟨#[45]⟩ ++ r) (h1 : b = true → ∃ k : Nat, n = k ∧ r = decW k ∧ k < 10000000000000) (h2 : ∀ k : Nat, r = decW k → k < 10000000000000 → b = true ∧ n = k) :
    (b = true → 0 < n → sg s = some (-n)) ∧ ((b = false ∨ ¬ 0 < n) → sg s = none) := by
  constructor
  · intro hb hn
    obtain ⟨k, rfl, e, hk⟩ := h1 hb
    rw [hs, e, itoaW_neg (by omega)]
    exact sg_itoa (sgB_iff.2 (by omega))
  · intro hb
    refine sg_none fun m e hm2 => ?_
    have hbd := sgB_iff.1 hm2
    by_cases h : 0 ≤ m
    · rw [itoaW_pos h] at e
      have hz : 0 < (decW m.toNat).size := by have := (decW_len (k := m.toNat) (by omega)).2; omega
      have hf := first_digit m.toNat hz
      have e2 : (decW m.toNat) = ⟨#[45]⟩ ++ r := e.symm.trans hs
      have hz2 : 0 < ((⟨#[45]⟩ : ByteArray) ++ r).size := by rw [← e2]; exact hz
      have h45 := minus_first r hz2
      have : (decW m.toNat)[0] = 45 := by simp only [e2]; exact h45
      rw [this] at hf
      have : (45 : UInt8).toNat = 45 := rfl
      omega
    · have e1 := e.trans (itoaW_min (by omega))
      have e2 : r = decW (-m).toNat := by
        have := congrArg (fun x : ByteArray => x.extract 1 x.size) (hs.symm.trans e1)
        simpa only [minus_tail] using this
      have hv := h2 _ e2 (by omega)
      rcases hb with hb | hb
      · rw [hb] at hv; cases hv.1
      · have := hv.2; omega
theorem no_minus {s : ByteArray} (h : ∀ h0 : 0 < s.size, s[0] ≠ 45) (d : ByteArray) : s ≠ ⟨#[45]⟩ ++ d := by
  intro e
  subst e
  have hz : 0 < ((⟨#[45]⟩ : ByteArray) ++ d).size := by rw [ByteArray.size_append]; show 0 < 1 + d.size; omega
  exact h hz (minus_first d hz)
set_option maxHeartbeats 1000000 in
theorem spec.l01Signed_any (s : ByteArray) (w : World) (hs : s.size ≤ 1048576) :
    Calls Tryz.prog 79 #[.string s] w fun e w' => SgP s e ∧ Ext w w' := by
  by_cases hm : ∃ h0 : 0 < s.size, s[0] = 45
  · obtain ⟨h0, hc⟩ := hm
    have hg : (0 : Int) < (s.size : Int) := by omega
    have hu : ((s[0].toNat : Int) == 45) = true := by rw [hc]; rfl
    have hsp := hide (minus_split h0 hc)
    have hv := fun W => spec.l01Value_any (s.extract 1 s.size) W (by rw [ByteArray.size_extract]; omega)
    have hle : (1 : Int) ≤ (s.size : Int) := by omega
    replace hc := hide hc
    go_enter Tryz.func79, Tryz.ntmps79
    go_wp2_with fail
    go_fit (hv _)
    rintro e w1 ⟨⟨n, b, rfl, h1, h2⟩, hx⟩
    have hn := hide (va_sg_neg hsp.out h1 h2)
    have hw : 0 < n → b = true → wrap64 (-n) = -n := fun _ hb => by
      obtain ⟨k, rfl, _, hk⟩ := h1 hb
      exact Go.IntWalk.wrap64_in _ (by omega)
    replace hw := hide hw
    clear h1 h2
    cases b
    · go_wp2
      go_ret2
      exact ⟨⟨_, false, rfl, fun h => (by cases h), fun _ => hn.out.2 (.inl (by simp))⟩, hx⟩
    · go_wp2
      go_ret2
      exact ⟨⟨_, _, rfl, fun h => (hn.out.1 (by simp) (of_decide_eq_true h)).trans (congrArg some (hw.out (of_decide_eq_true h) (by simp)).symm), fun h => hn.out.2 (.inr (by have := of_decide_eq_false h; omega))⟩, hx⟩
  · have hno := hide (no_minus (s := s) (fun h0 e => hm ⟨h0, e⟩))
    have hv := fun W => spec.l01Value_any s W hs
    by_cases h0 : 0 < s.size
    · have hg : (0 : Int) < (s.size : Int) := by omega
      have hc : s[0] ≠ 45 := fun e => hm ⟨h0, e⟩
      have hu : ((s[0].toNat : Int) == 45) = false := by
        rw [beq_eq_false_iff_ne]
        intro e
        exact hc (UInt8.toNat_inj.1 (by have : (45 : UInt8).toNat = 45 := rfl; omega))
      replace hc := hide hc
      clear hm
      go_enter Tryz.func79, Tryz.ntmps79
      go_wp2_with fail
      go_fit (hv _)
      rintro e w1 ⟨⟨n, b, rfl, h1, h2⟩, hx⟩
      have hn := hide (va_sg hno.out h1 h2)
      clear h1 h2
      go_wp2
      go_ret2
      exact ⟨⟨_, _, rfl, hn.out.1, hn.out.2⟩, hx⟩
    · have hg : ¬ (0 : Int) < (s.size : Int) := by omega
      clear hm
      go_enter Tryz.func79, Tryz.ntmps79
      go_wp2_with fail
      go_fit (hv _)
      rintro e w1 ⟨⟨n, b, rfl, h1, h2⟩, hx⟩
      have hn := hide (va_sg hno.out h1 h2)
      clear h1 h2
      go_wp2
      go_ret2
      exact ⟨⟨_, _, rfl, hn.out.1, hn.out.2⟩, hx⟩
def NuP (w w' : World) (ws : List ByteArray) (e : Ending) : Prop :=
  ∃ (v : Sl) (b : Bool), e = .returned (.tuple #[.slice v.A v.n v.c, .bool b]) ∧ (b = true → ∃ xs, mp sg ws = some xs ∧ Own w' w.heap.size (.slice v.A v.n v.c) xs) ∧ (b = false → mp sg ws = none)
set_option maxHeartbeats 2000000 in
theorem spec.l01Numbers_any (s : Sl) (ws : List ByteArray) (w : World) (hr : RdU w s.A s.n ws) (hb : ∀ x ∈ ws, x.size ≤ 1048576) :
    Calls Tryz.prog 45 #[.slice s.A s.n s.c] w fun e w' => NuP w w' ws e ∧ Ext w w' := by
  obtain ⟨A, n, c⟩ := s
  simp only at hr ⊢
  have hn := hr.le
  have hln := hide hr.1
  have hX0 := (Ext.refl w).alloc (.cells #[] 2)
  replace hb := hide hb
  go_enter Tryz.func45, Tryz.ntmps45
  go_wp2
  go_loopw [4, 5, 6, 7] (fun h i _ _ wr => ∃ (k : Nat) (v : Sl) (done : List Int), k ≤ n ∧ i = .int .i64 k ∧ h = .slice v.A v.n v.c ∧ Own wr w.heap.size (.slice v.A v.n v.c) done ∧ Ext w wr ∧ Hid (mp sg ws = (mp sg (ws.drop k)).map (done ++ ·)) ∧ Hid (done.length = k)) (fun _ i _ _ _ => n - (intOf i).toNat)
  case atStart => exact ⟨0, ⟨_, _, _⟩, [], by omega, rfl, rfl, Own.new0 w _ (Nat.le_refl _), hX0, hide (by simp), hide rfl⟩
  case round =>
    clear hX0
    obtain ⟨k, v, done, hk, rfl, rfl, ho, hE, hI, hdl⟩ := hrel
    have hsw := hE.size
    have hwk : IntKind.i64.wrap ((k : Int) + 1) = (k : Int) + 1 := Go.IntWalk.i64_in _ (by omega)
    by_cases hlt : k < n
    · obtain ⟨b, off, x, rfl, hbl, hcm, hxx⟩ := hr.el hlt
      have hcx := (hE.cell (p := ⟨b, off + k, none⟩) hbl).trans hcm
      clear hcm
      have hsg := fun W => spec.l01Signed_any x W (hb.out x (List.mem_of_getElem? hxx.out))
      have hk0 : (0 : Int) ≤ (k : Int) := by omega
      have hkn : (k : Int) < (n : Int) := by omega
      go_wp2_with fail
      go_fit (hsg _)
      rintro e w1 ⟨⟨m, ok, rfl, h1, h2⟩, hx⟩
      replace h1 := hide h1
      replace h2 := hide h2
      have hE1 := hE.trans hx
      have ho1 := ho.ext hx
      have hvl := ho1.lt
      have hs1 := hE1.size
      cases ok
      · have hN := hide (mp_none hI.out hxx.out (h2.out rfl))
        go_wp2
        go_ret2
        exact ⟨⟨⟨_, _, _⟩, false, rfl, fun h => (by cases h), fun _ => hN.out⟩, hE1⟩
      · have hN := hide (mp_some hI.out hxx.out (h1.out rfl))
        have hdl2 := hide (show (done ++ [m]).length = k + 1 by rw [List.length_append, hdl.out]; rfl)
        have hd16 := hide (show done.length + 1 ≤ 16777216 by rw [hdl.out]; omega)
        go_wp2_with (at_builtin; refine wpList_app _ rfl (.tmp 25) (.tmp 27) rfl w.heap.size _ _ rfl (ho1.alloc _) _ _ _ [m] rfl (Rd.one w1 m) hd16.out (by simp; omega) ?_; intro t2 w2 ho2 hg2 hb2)
        go_roundw
        case rel => exact ⟨k + 1, t2, _, by omega, by go_num, rfl, ho2, (hE1.alloc _).grow hg2 (fun j hj => (hvl j hj).1), hN, hdl2⟩
        case measure => simp [intOf] <;> omega
    · have hN := hide (mp_end hI.out (show k = ws.length by have := hln.out; omega))
      have hkn : ¬ (k : Int) < (n : Int) := by omega
      go_wp2
      go_ret2
      exact ⟨⟨v, true, rfl, fun _ => ⟨_, hN.out, ho⟩, fun h => (by cases h)⟩, hE⟩
def lvC (xs : List Int) : Int := if xs.all valB = true then (if xs.length ≤ 60 then 0 else 3) else 2
theorem valB_eq (x : Int) : valB x = inB x (-1000000000000) 1000000000000 := rfl
theorem lvC_bad {xs : List Int} {k : Nat} {x : Int} (h : xs[k]? = some x) (hv : valB x = false) : lvC xs = 2 := by
  unfold lvC
  rw [if_neg]
  intro ha
  have := List.all_eq_true.1 ha x (List.mem_of_getElem? h)
  rw [hv] at this
  cases this
theorem lvC_all {xs : List Int} (h : ∀ (j : Nat) (x : Int), j < xs.length → xs[j]? = some x → valB x = true) : xs.all valB = true := by
  rw [List.all_eq_true]
  intro x hx
  obtain ⟨j, hj⟩ := List.mem_iff_getElem?.1 hx
  exact h j x (List.getElem?_eq_some_iff.1 hj).1 hj
theorem lvC_ok {xs : List Int} : lvC xs = 0 ↔ okL xs = true := by
  unfold lvC okL
  cases h : xs.all valB
  · simp
  · by_cases h2 : xs.length ≤ 60
    · simp [h2]
    · simp [h2]
theorem spec.l01Is_any (x : Int) (w : World) : Calls Tryz.prog 99 #[.int .i64 x] w fun e w' => e = .returned (.bool (valB x)) ∧ w = w' := by
  have hi := fun W => spec.l01In_any x (-1000000000000) 1000000000000 W
  go_enter Tryz.func99, Tryz.ntmps99
  go_wp2_with fail
  go_fit (hi _)
  rintro e w' ⟨rfl, rfl⟩
  go_wp2
  go_ret
  exact ⟨rfl, rfl⟩
theorem spec.l01Values_any (s : Sl) (xs : List Int) (w : World) (hr : Rd w s.A s.n xs) :
    Calls Tryz.prog 76 #[.slice s.A s.n s.c] w fun e w' => e = .returned (.int .i64 (lvC xs)) ∧ Ext w w' := by
  obtain ⟨A, n, c⟩ := s
  simp only at hr ⊢
  have hn := hr.le
  have hln := hide hr.1
  go_enter Tryz.func76, Tryz.ntmps76
  go_wp2
  go_loopw [3] (fun i wr => ∃ k : Nat, k ≤ n ∧ i = .int .i64 k ∧ Hid (∀ (j : Nat) (x : Int), j < k → xs[j]? = some x → valB x = true) ∧ wr = w) (fun i _ => n - (intOf i).toNat)
  case atStart => exact ⟨0, by omega, rfl, hide (fun j x hj => absurd hj (by omega)), rfl⟩
  case round =>
    obtain ⟨k, hk, rfl, hu, rfl⟩ := hrel
    have hwk : IntKind.i64.wrap ((k : Int) + 1) = (k : Int) + 1 := Go.IntWalk.i64_in _ (by omega)
    by_cases hlt : k < n
    · obtain ⟨bm, offm, m, rfl, hbm, hcm, hmm⟩ := hr.el hlt
      have hin := fun W => spec.l01Is_any m W
      have hk0 : (0 : Int) ≤ (k : Int) := by omega
      have hkn : (k : Int) < (n : Int) := by omega
      cases hb : valB m
      · have EC := hide (lvC_bad hmm.out hb)
        simp only [hb] at hin
        go_wp2_with (go_at_call 99; refine (hin _).mono ?_; rintro e w' ⟨rfl, rfl⟩)
        go_ret
        exact ⟨by rw [EC.out]; rfl, Ext.refl _⟩
      · simp only [hb] at hin
        replace hb := hide hb
        go_wp2_with (go_at_call 99; refine (hin _).mono ?_; rintro e w' ⟨rfl, rfl⟩)
        go_roundw
        case rel => exact ⟨k + 1, by omega, by go_num, hide (uptoM_more hu.out hmm.out hb.out), by simp⟩
        case measure => simp [intOf] <;> omega
    · have hA := hide (lvC_all (xs := xs) (fun j x hj hx => hu.out j x (by have := hln.out; omega) hx))
      have hkn : ¬ (k : Int) < (n : Int) := by omega
      by_cases h60 : xs.length ≤ 60
      · have EC := hide (show lvC xs = 0 by unfold lvC; rw [hA.out, if_pos rfl, if_pos h60])
        have hg : ¬ (60 : Int) < (n : Int) := by have := hln.out; omega
        replace h60 := hide h60
        go_wp2
        go_ret
        exact ⟨by rw [EC.out]; rfl, Ext.refl _⟩
      · have EC := hide (show lvC xs = 3 by unfold lvC; rw [hA.out, if_pos rfl, if_neg h60])
        have hg : (60 : Int) < (n : Int) := by have := hln.out; omega
        replace h60 := hide h60
        go_wp2
        go_ret
        exact ⟨by rw [EC.out]; rfl, Ext.refl _⟩
end Go.Proofs.YtfojfndmaofahaaGreatDoor.mem
