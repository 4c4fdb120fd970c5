/-
  Reading lists of numbers, and moves, in the program.
-/
import Derived.Test.YtfojfndmaofahaaGreatDoorRls
import Derived.Test.YtfojfndmaofahaaGreatDoorLb
namespace Go.Proofs.YtfojfndmaofahaaGreatDoor.mem
open Go.ChangeShapes Go.WideShapes Go.ChangeAt Go.RowKit

theorem impl.isValue_any (x : Int) (w : World) : Calls Tryz.prog 98 #[.int .i64 x] w fun e w' => e = .returned (.bool (valB x)) ∧ w = w' := by
  have hi := fun W => impl.within_any x (-1000000000000) 1000000000000 W
  go_enter Tryz.func98, Tryz.ntmps98
  go_wp2_with fail
  go_fit (hi _)
  rintro e w' ⟨rfl, rfl⟩
  go_wp2
  go_ret
  exact ⟨rfl, rfl⟩
theorem impl.listCode_any (s : Sl) (xs : List Int) (w : World) (hr : Rd w s.A s.n xs) :
    Calls Tryz.prog 75 #[.slice s.A s.n s.c] w fun e w' => e = .returned (.int .i64 (lvC xs)) ∧ Ext w w' := by
  obtain ⟨A, n, c⟩ := s
  simp only at hr ⊢
  have hn := hr.le
  have hln := hide hr.1
  have hfe := fun W => impl.few_any (n : Int) 60 W
  go_enter Tryz.func75, Tryz.ntmps75
  go_wp2
  go_loopw [4, 7] (fun _ i wr => ∃ k : Nat, k ≤ n ∧ i = .int .i64 k ∧ Hid (∀ (j : Nat) (x : Int), j < k → xs[j]? = some x → valB x = true) ∧ wr = w) (fun _ i _ => n - (intOf i).toNat)
  case atStart => exact ⟨0, by omega, rfl, hide (fun j x hj => absurd hj (by omega)), rfl⟩
  case round =>
    obtain ⟨k, hk, rfl, hu, rfl⟩ := hrel
    have hwk : IntKind.i64.wrap ((k : Int) + 1) = (k : Int) + 1 := Go.IntWalk.i64_in _ (by omega)
    by_cases hlt : k < n
    · obtain ⟨bm, offm, m, rfl, hbm, hcm, hmm⟩ := hr.el hlt
      have hin := fun W => impl.isValue_any m W
      have hk0 : (0 : Int) ≤ (k : Int) := by omega
      have hkn : (k : Int) < (n : Int) := by omega
      cases hb : valB m
      · have EC := hide (lvC_bad hmm.out hb)
        simp only [hb] at hin
        go_wp2_with (go_at_call 98; refine (hin _).mono ?_; rintro e w' ⟨rfl, rfl⟩)
        go_ret
        exact ⟨by rw [EC.out]; rfl, Ext.refl _⟩
      · simp only [hb] at hin
        replace hb := hide hb
        go_wp2_with (go_at_call 98; refine (hin _).mono ?_; rintro e w' ⟨rfl, rfl⟩)
        go_roundw
        case rel => exact ⟨k + 1, by omega, by go_num, hide (uptoM_more hu.out hmm.out hb.out), by simp⟩
        case measure => simp [intOf] <;> omega
    · have hA := hide (lvC_all (xs := xs) (fun j x hj hx => hu.out j x (by have := hln.out; omega) hx))
      have hkn : ¬ (k : Int) < (n : Int) := by omega
      by_cases h60 : xs.length ≤ 60
      · have EC := hide (show lvC xs = 0 by unfold lvC; rw [hA.out, if_pos rfl, if_pos h60])
        have hg : decide ((n : Int) ≤ 60) = true := decide_eq_true (by have := hln.out; omega)
        simp only [hg] at hfe
        replace h60 := hide h60
        go_wp2_with (go_at_call 43; refine (hfe _).mono ?_; rintro e w' ⟨rfl, rfl⟩)
        go_ret
        exact ⟨by rw [EC.out]; rfl, Ext.refl _⟩
      · have EC := hide (show lvC xs = 3 by unfold lvC; rw [hA.out, if_pos rfl, if_neg h60])
        have hg : decide ((n : Int) ≤ 60) = false := decide_eq_false (by have := hln.out; omega)
        simp only [hg] at hfe
        replace h60 := hide h60
        go_wp2_with (go_at_call 43; refine (hfe _).mono ?_; rintro e w' ⟨rfl, rfl⟩)
        go_ret
        exact ⟨by rw [EC.out]; rfl, Ext.refl _⟩
set_option maxHeartbeats 2000000 in
theorem impl.ReadList_any (s : ByteArray) (w : World) (hs : s.size ≤ 1048576) (hL : Lb w) :
    Calls Tryz.prog 35 #[.string s] w fun e w' => RlP w w' s e := by
  by_cases hm : s = ⟨#[45]⟩
  · have hu : (s.toList == [45]) = true := by rw [lit45, toW_inj]; exact decide_eq_true hm
    have hm2 := hide hm
    clear hm
    go_enter Tryz.func35, Tryz.ntmps35
    go_wp2
    go_ret2
    exact RlP.good (v := ⟨_, _, _⟩) (hm2.out ▸ rlO_minus) (Own.nil_ w _) (Ext.refl w)
  have hX0 := (Ext.refl w).alloc (.cells #[] 2)
  have hu : (s.toList == [45]) = false := by rw [lit45, toW_inj]; exact decide_eq_false hm
  have hsp := split_one s 44 _ hs (hL.ext hX0)
  have hle := hide (fun x hx => Nat.le_trans (splitW_le 44 s x hx) hs)
  replace hm := hide hm
  have hO0 := Own.new0 w w.heap.size (Nat.le_refl _)
  go_enter Tryz.func35, Tryz.ntmps35
  go_wp2_with fail
  go_fit hsp
  rintro e w1 ⟨v0, rfl, ov, hx1⟩
  obtain ⟨ws, hws⟩ : ∃ ws, Hid (ws = splitW 44 s) := ⟨_, rfl⟩
  rw [← hws.out] at ov hle
  have hr0 := ov.rd
  obtain ⟨A, n, c⟩ := v0
  simp only at hr0 ov ⊢
  have hn := hr0.le
  have hln := hide hr0.1
  have hX1 := hX0.trans hx1
  have hO1 := hO0.ext hx1
  have hap0 := hide (show apart (.slice A n c) (.slice (some ⟨w.heap.size, 0, none⟩) 0 0) from fun k hk hk2 => by
    have h1 := (ov.lt k hk).1
    have h2 := ownBlock_eq hk2
    rw [World.size_alloc] at h1
    omega)
  clear hr0 hsp
  go_wp2
  go_loopw [4, 6, 7, 8, 15] (fun h _ _ _ i wr => ∃ (k : Nat) (v : Sl) (done : List Int), k ≤ n ∧ i = .int .i64 k ∧ h = .slice v.A v.n v.c ∧ Own wr w.heap.size (.slice v.A v.n v.c) done ∧ Ext w wr ∧ OwnU wr (w.alloc (.cells #[] 2)).heap.size (.slice A n c) ws ∧ Hid (apart (.slice A n c) (.slice v.A v.n v.c)) ∧ Hid (mp pw ws = (mp pw (ws.drop k)).map (done ++ ·)) ∧ Hid (done.length = k)) (fun _ _ _ _ i _ => n - (intOf i).toNat)
  case atStart => exact ⟨0, ⟨_, _, _⟩, [], by omega, rfl, rfl, hO1, hX1, ov, hap0, hide (by simp), hide rfl⟩
  case round =>
    clear hX0 hO0 hO1 ov hap0 hx1 hX1
    obtain ⟨k, v, done, hk, rfl, rfl, ho, hE, ov, hap, hI, hdl⟩ := hrel
    have hr := ov.rd
    have hsw := hE.size
    have hwk : IntKind.i64.wrap ((k : Int) + 1) = (k : Int) + 1 := Go.IntWalk.i64_in _ (by omega)
    by_cases hlt : k < n
    · obtain ⟨b, off, x, rfl, hbl, hcm, hxx⟩ := hr.el hlt
      have hva := fun W h => impl.readDecimal_any x W (hle.out x (List.mem_of_getElem? hxx.out)) h
      have hk0 : (0 : Int) ≤ (k : Int) := by omega
      have hkn : (k : Int) < (n : Int) := by omega
      go_wp2_with fail
      go_fit (hva _ (hL.ext hE))
      rintro e w2 ⟨⟨m, ok, rfl, h1, h2⟩, hx⟩
      replace h1 := hide h1
      replace h2 := hide h2
      have hE2 := hE.trans hx
      have ov2 := ov.ext hx
      have hvo := hide (fun j hj => (ov2.lt j hj).2)
      have ho2 := ho.ext hx
      have hvl := ho2.lt
      have hs2 := hE2.size
      clear hcm
      cases ok
      · have hN := hide (mp_none hI.out hxx.out (h2.out rfl))
        rw [hws.out] at hN
        go_wp2
        go_ret2
        exact RlP.bad (rlO_none hm.out hN.out) hE2
      · have hN := hide (mp_some hI.out hxx.out (h1.out rfl))
        have hdl2 := hide (show (done ++ [m]).length = k + 1 by rw [List.length_append, hdl.out]; rfl)
        have hd16 := hide (show done.length + 1 ≤ 16777216 by rw [hdl.out]; omega)
        go_wp2_with (at_builtin; refine wpList_app _ rfl (.tmp 26) (.tmp 28) rfl w.heap.size _ _ rfl (ho2.alloc _) _ _ _ [m] rfl (Rd.one w2 m) hd16.out (by simp; omega) ?_; intro t2 w3 ho3 hg3 hb3)
        go_roundw
        case rel => exact ⟨k + 1, t2, _, by omega, by go_num, rfl, ho3, (hE2.alloc _).grow hg3 (fun j hj => (hvl j hj).1), (ov2.alloc _).grown hg3 hap.out, hide (apart_app hap.out hb3 (fun j hj => by have := hvo.out j hj; simp; omega)), hN, hdl2⟩
        case measure => simp [intOf] <;> omega
    · have hN := hide (mp_end hI.out (show k = ws.length by have := hln.out; omega))
      have hkn : ¬ (k : Int) < (n : Int) := by omega
      rw [hws.out] at hN
      have hlc := fun W h => impl.listCode_any v done W h
      cases hc : okL done
      · have hB := hide (rlO_bad hm.out hN.out hc)
        have hne : (lvC done == 0) = false := by
          rw [beq_eq_false_iff_ne]
          intro e
          rw [lvC_ok.1 e] at hc
          cases hc
        go_wp2_with fail
        go_fit (hlc _ ho.rd)
        rintro e w3 ⟨rfl, hx3⟩
        go_wp2
        go_ret2
        exact RlP.bad hB.out (hE.trans hx3)
      · have hB := hide (rlO_some hm.out hN.out hc)
        have hne : lvC done = 0 := lvC_ok.2 hc
        rw [hne] at hlc
        go_wp2_with fail
        go_fit (hlc _ ho.rd)
        rintro e w3 ⟨rfl, hx3⟩
        have ho3 := ho.ext hx3
        go_wp2
        go_ret2
        exact RlP.good hB.out ho3 (hE.trans hx3)
/-- the moves' words as the program reads them: a word that is no 'pass' spells a number of at least 0 -/
def pn (w : ByteArray) : Option Int := if w = passW then some (-1) else match pw w with
  | some n => if 0 ≤ n then some n else none
  | none => none
theorem pn_pm {w : ByteArray} {n : Int} (h : pn w = some n) (h2 : inB n (-1) 11 = true) : pm w = some n := by
  have hb := inB_iff.1 h2
  unfold pn at h
  unfold pm
  split at h
  · rename_i e; rw [if_pos e]; exact h
  · rename_i e
    rw [if_neg e]
    cases hp : pw w with
    | none => rw [hp] at h; cases h
    | some m =>
      rw [hp] at h
      simp only at h ⊢
      split at h
      · rename_i h0
        injection h with h
        subst h
        rw [if_pos ⟨h0, hb.2⟩]
      · cases h
theorem pm_pn {w : ByteArray} {n : Int} (h : pm w = some n) : pn w = some n ∧ inB n (-1) 11 = true := by
  unfold pm at h
  unfold pn
  split at h
  · rename_i e; rw [if_pos e]; injection h with h; subst h; exact ⟨rfl, rfl⟩
  · rename_i e
    rw [if_neg e]
    cases hp : pw w with
    | none => rw [hp] at h; cases h
    | some m =>
      rw [hp] at h
      simp only at h ⊢
      split at h
      · rename_i h0
        injection h with h
        subst h
        rw [if_pos h0.1]
        exact ⟨rfl, inB_iff.2 (by omega)⟩
      · cases h
theorem mp_pn_pm : ∀ {ws : List ByteArray} {xs : List Int}, mp pn ws = some xs → movB xs = true → mp pm ws = some xs
  | [], xs, h, _ => h
  | w :: r, xs, h, hv => by
    obtain ⟨x, t, h1, h2, rfl⟩ := (mp_cons _ _ _).1 h
    unfold movB at hv
    rw [List.all_cons, Bool.and_eq_true] at hv
    exact (mp_cons _ _ _).2 ⟨x, t, pn_pm h1 hv.1, mp_pn_pm h2 hv.2, rfl⟩
theorem mp_pm_pn : ∀ {ws : List ByteArray} {xs : List Int}, mp pm ws = some xs → mp pn ws = some xs ∧ movB xs = true
  | [], xs, h => by injection h with h; subst h; exact ⟨rfl, rfl⟩
  | w :: r, xs, h => by
    obtain ⟨x, t, h1, h2, rfl⟩ := (mp_cons _ _ _).1 h
    have h3 := mp_pm_pn h2
    have h4 := pm_pn h1
    refine ⟨(mp_cons _ _ _).2 ⟨x, t, h4.1, h3.1, rfl⟩, ?_⟩
    have h5 := h3.2
    unfold movB at h5 ⊢
    rw [List.all_cons, h4.2, h5]
    rfl
theorem rmO_pn_none {s : ByteArray} (h : s ≠ ⟨#[45]⟩) (hm : mp pn (splitW 44 s) = none) : rmO s = none := by
  cases hp : mp pm (splitW 44 s) with
  | none => exact rmO_none h hp
  | some xs => rw [(mp_pm_pn hp).1] at hm; cases hm
theorem mtC_ok {ms : List Int} : mtC ms = 0 ↔ (movB ms = true ∧ ms.length ≤ 40) := by
  unfold mtC
  cases h : movB ms
  · simp
  · by_cases h2 : ms.length ≤ 40
    · simp [h2]
    · simp [h2]
theorem rmO_pn_some {s : ByteArray} {xs : List Int} (h : s ≠ ⟨#[45]⟩) (hm : mp pn (splitW 44 s) = some xs) (hc : mtC xs = 0) : rmO s = some xs :=
  rmO_some h (mp_pn_pm hm (mtC_ok.1 hc).1) (mtC_ok.1 hc).2
theorem rmO_pn_bad {s : ByteArray} {xs : List Int} (h : s ≠ ⟨#[45]⟩) (hm : mp pn (splitW 44 s) = some xs) (hc : mtC xs ≠ 0) : rmO s = none := by
  cases hp : mp pm (splitW 44 s) with
  | none => exact rmO_none h hp
  | some ys =>
    obtain ⟨h1, h2⟩ := mp_pm_pn hp
    rw [hm] at h1
    injection h1 with h1
    subst h1
    refine rmO_bad h hp fun h40 => hc (mtC_ok.2 ⟨h2, h40⟩)
theorem pw_pn {x : ByteArray} {m : Int} {ok : Bool} (hp : x ≠ passW) (h1 : ok = true → pw x = some m) (h2 : ok = false → pw x = none) :
    (ok = true → 0 ≤ m → pn x = some m) ∧ ((ok = false ∨ ¬ 0 ≤ m) → pn x = none) := by
  unfold pn
  rw [if_neg hp]
  constructor
  · intro hb hm
    rw [h1 hb]
    simp only
    rw [if_pos hm]
  · intro hb
    cases ok with
    | false => rw [h2 rfl]
    | true =>
      rw [h1 rfl]
      simp only
      rw [if_neg]
      rcases hb with hb | hb
      · cases hb
      · exact hb
theorem pn_pass : pn passW = some (-1) := by unfold pn; rw [if_pos rfl]
set_option maxHeartbeats 2000000 in
theorem impl.ReadMoves_any (s : ByteArray) (w : World) (hs : s.size ≤ 1048576) (hL : Lb w) :
    Calls Tryz.prog 50 #[.string s] w fun e w' => RmP w w' s e := by
  by_cases hm : s = ⟨#[45]⟩
  · have hu : (s.toList == [45]) = true := by rw [lit45, toW_inj]; exact decide_eq_true hm
    have hm2 := hide hm
    clear hm
    go_enter Tryz.func50, Tryz.ntmps50
    go_wp2
    go_ret2
    exact RmP.good (v := ⟨_, _, _⟩) (hm2.out ▸ rmO_minus) (Own.nil_ w _) (Ext.refl w)
  have hX0 := (Ext.refl w).alloc (.cells #[] 2)
  have hu : (s.toList == [45]) = false := by rw [lit45, toW_inj]; exact decide_eq_false hm
  have hsp := split_one s 44 _ hs (hL.ext hX0)
  have hle := hide (fun x hx => Nat.le_trans (splitW_le 44 s x hx) hs)
  replace hm := hide hm
  have hO0 := Own.new0 w w.heap.size (Nat.le_refl _)
  go_enter Tryz.func50, Tryz.ntmps50
  go_wp2_with fail
  go_fit hsp
  rintro e w1 ⟨v0, rfl, ov, hx1⟩
  obtain ⟨ws, hws⟩ : ∃ ws, Hid (ws = splitW 44 s) := ⟨_, rfl⟩
  rw [← hws.out] at ov hle
  have hr0 := ov.rd
  obtain ⟨A, n, c⟩ := v0
  simp only at hr0 ov ⊢
  have hn := hr0.le
  have hln := hide hr0.1
  have hX1 := hX0.trans hx1
  have hO1 := hO0.ext hx1
  have hap0 := hide (show apart (.slice A n c) (.slice (some ⟨w.heap.size, 0, none⟩) 0 0) from fun k hk hk2 => by
    have h1 := (ov.lt k hk).1
    have h2 := ownBlock_eq hk2
    rw [World.size_alloc] at h1
    omega)
  clear hr0 hsp
  go_wp2
  go_loopw [4, 6, 7, 8, 17] (fun h _ _ _ i wr => ∃ (k : Nat) (v : Sl) (done : List Int), k ≤ n ∧ i = .int .i64 k ∧ h = .slice v.A v.n v.c ∧ Own wr w.heap.size (.slice v.A v.n v.c) done ∧ Ext w wr ∧ OwnU wr (w.alloc (.cells #[] 2)).heap.size (.slice A n c) ws ∧ Hid (apart (.slice A n c) (.slice v.A v.n v.c)) ∧ Hid (mp pn ws = (mp pn (ws.drop k)).map (done ++ ·)) ∧ Hid (done.length = k)) (fun _ _ _ _ i _ => n - (intOf i).toNat)
  case atStart => exact ⟨0, ⟨_, _, _⟩, [], by omega, rfl, rfl, hO1, hX1, ov, hap0, hide (by simp), hide rfl⟩
  case round =>
    clear hX0 hO0 hO1 ov hap0 hx1 hX1
    obtain ⟨k, v, done, hk, rfl, rfl, ho, hE, ov, hap, hI, hdl⟩ := hrel
    have hr := ov.rd
    have hsw := hE.size
    have hwk : IntKind.i64.wrap ((k : Int) + 1) = (k : Int) + 1 := Go.IntWalk.i64_in _ (by omega)
    by_cases hlt : k < n
    · obtain ⟨b, off, x, rfl, hbl, hcm, hxx⟩ := hr.el hlt
      have hva := fun W h => impl.readDecimal_any x W (hle.out x (List.mem_of_getElem? hxx.out)) h
      have hk0 : (0 : Int) ≤ (k : Int) := by omega
      have hkn : (k : Int) < (n : Int) := by omega
      go_wp2_with fail
      go_fit (hva _ (hL.ext hE))
      rintro e w2 ⟨⟨m, ok, rfl, h1, h2⟩, hx⟩
      have hE2 := hE.trans hx
      have ov2 := ov.ext hx
      have hvo := hide (fun j hj => (ov2.lt j hj).2)
      have ho2 := ho.ext hx
      have hvl := ho2.lt
      have hs2 := hE2.size
      clear hcm
      by_cases hp : x = passW
      · have hup : (x.toList == [112, 97, 115, 115]) = true := by rw [litPass, toW_inj]; exact decide_eq_true hp
        have hN := hide (mp_some hI.out hxx.out (show pn x = some (-1) by rw [hp]; exact pn_pass))
        have hdl2 := hide (show (done ++ [-1]).length = k + 1 by rw [List.length_append, hdl.out]; rfl)
        have hd16 := hide (show done.length + 1 ≤ 16777216 by rw [hdl.out]; omega)
        replace hp := hide hp
        clear h1 h2
        go_wp2_with (at_builtin; refine wpList_app _ rfl (.tmp 36) (.tmp 38) rfl w.heap.size _ _ rfl (ho2.alloc _) _ _ _ [-1] rfl (Rd.one w2 (-1)) hd16.out (by simp; omega) ?_; intro t2 w3 ho3 hg3 hb3)
        go_roundw
        case rel => exact ⟨k + 1, t2, _, by omega, by go_num, rfl, ho3, (hE2.alloc _).grow hg3 (fun j hj => (hvl j hj).1), (ov2.alloc _).grown hg3 hap.out, hide (apart_app hap.out hb3 (fun j hj => by have := hvo.out j hj; simp; omega)), hN, hdl2⟩
        case measure => simp [intOf] <;> omega
      · have hup : (x.toList == [112, 97, 115, 115]) = false := by rw [litPass, toW_inj]; exact decide_eq_false hp
        have hv := hide (pw_pn hp h1 h2)
        replace hp := hide hp
        clear h1 h2
        cases ok
        · have hN := hide (mp_none hI.out hxx.out (hv.out.2 (.inl rfl)))
          rw [hws.out] at hN
          go_wp2
          go_ret2
          exact RmP.bad (rmO_pn_none hm.out hN.out) hE2
        · by_cases h12 : 0 ≤ m
          · have hg12 : ¬ m < 0 := by omega
            have hN := hide (mp_some hI.out hxx.out (hv.out.1 rfl h12))
            have hdl2 := hide (show (done ++ [m]).length = k + 1 by rw [List.length_append, hdl.out]; rfl)
            have hd16 := hide (show done.length + 1 ≤ 16777216 by rw [hdl.out]; omega)
            go_wp2_with (at_builtin; refine wpList_app _ rfl (.tmp 36) (.tmp 38) rfl w.heap.size _ _ rfl (ho2.alloc _) _ _ _ [m] rfl (Rd.one w2 m) hd16.out (by simp; omega) ?_; intro t2 w3 ho3 hg3 hb3)
            go_roundw
            case rel => exact ⟨k + 1, t2, _, by omega, by go_num, rfl, ho3, (hE2.alloc _).grow hg3 (fun j hj => (hvl j hj).1), (ov2.alloc _).grown hg3 hap.out, hide (apart_app hap.out hb3 (fun j hj => by have := hvo.out j hj; simp; omega)), hN, hdl2⟩
            case measure => simp [intOf] <;> omega
          · have hg12 : m < 0 := by omega
            have hN := hide (mp_none hI.out hxx.out (hv.out.2 (.inr h12)))
            rw [hws.out] at hN
            go_wp2
            go_ret2
            exact RmP.bad (rmO_pn_none hm.out hN.out) hE2
    · have hN := hide (mp_end hI.out (show k = ws.length by have := hln.out; omega))
      have hkn : ¬ (k : Int) < (n : Int) := by omega
      rw [hws.out] at hN
      have hmt := fun W h => impl.MovesText_any v done W h
      by_cases hc : mtC done = 0
      · have hB := hide (rmO_pn_some hm.out hN.out hc)
        rw [hc] at hmt
        go_wp2_with fail
        go_fit (hmt _ ho.rd)
        rintro e w3 ⟨rfl, hx3⟩
        have ho3 := ho.ext hx3
        go_wp2
        go_ret2
        exact RmP.good hB.out ho3 (hE.trans hx3)
      · have hB := hide (rmO_pn_bad hm.out hN.out hc)
        have hne : (mtC done == 0) = false := by rw [beq_eq_false_iff_ne]; exact hc
        replace hc := hide hc
        go_wp2_with fail
        go_fit (hmt _ ho.rd)
        rintro e w3 ⟨rfl, hx3⟩
        go_wp2
        go_ret2
        exact RmP.bad hB.out (hE.trans hx3)
end Go.Proofs.YtfojfndmaofahaaGreatDoor.mem
