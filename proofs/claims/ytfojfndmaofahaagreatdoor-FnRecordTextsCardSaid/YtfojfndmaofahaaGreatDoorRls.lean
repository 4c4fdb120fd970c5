/-
  Reading lists of numbers, in the reference.
-/
import Derived.Test.YtfojfndmaofahaaGreatDoorSg
namespace Go.Proofs.YtfojfndmaofahaaGreatDoor.mem
open Go.ChangeShapes Go.WideShapes Go.ChangeAt Go.RowKit

def RlP (w w' : World) (s : ByteArray) (e : Ending) : Prop :=
  ∃ v : Sl, e = .returned (.tuple #[.slice v.A v.n v.c, .int .i64 (rlC s)]) ∧ Own w' w.heap.size (.slice v.A v.n v.c) (rlV s) ∧ Ext w w'
theorem RlP.bad {w w' : World} {s : ByteArray} (h : rlO s = none) (hx : Ext w w') : RlP w w' s (.returned (.tuple #[.slice none 0 0, .int .i64 6])) :=
  ⟨⟨_, _, _⟩, by rw [(rl_none h).1], by rw [(rl_none h).2]; exact Own.nil_ _ _, hx⟩
theorem RlP.good {w w' : World} {s : ByteArray} {xs : List Int} {v : Sl} (h : rlO s = some xs) (ho : Own w' w.heap.size (.slice v.A v.n v.c) xs) (hx : Ext w w') : RlP w w' s (.returned (.tuple #[.slice v.A v.n v.c, .int .i64 0])) :=
  ⟨v, by rw [(rl_some h).1], by rw [(rl_some h).2]; exact ho, hx⟩
theorem splitW_le (c : UInt8) (s : ByteArray) : ∀ x ∈ splitW c s, x.size ≤ s.size := by
  have key : ∀ (l : List UInt8), ∀ p ∈ splitL c l, p.length ≤ l.length := by
    intro l
    induction l with
    | nil => intro p hp; simp [splitL] at hp; subst hp; simp
    | cons b l ih =>
      intro p hp
      unfold splitL at hp
      split at hp
      · rcases List.mem_cons.1 hp with rfl | hp
        · simp
        · have := ih p hp; simp; omega
      · split at hp
        · rename_i h t e
          rcases List.mem_cons.1 hp with rfl | hp
          · have := ih h (by rw [e]; simp); simp; omega
          · have := ih p (by rw [e]; simp [hp]); simp; omega
        · simp at hp; subst hp; simp
  intro x hx
  obtain ⟨p, hp, rfl⟩ := List.mem_map.1 hx
  have := key _ p hp
  show p.toArray.size ≤ s.data.size
  rw [List.size_toArray, ← Array.length_toList]
  exact this
theorem lit45 : [45] = (⟨#[45]⟩ : ByteArray).toList := by simp
theorem litPass : [112, 97, 115, 115] = passW.toList := by unfold passW; simp
set_option maxHeartbeats 1000000 in
theorem spec.ReadList_any (s : ByteArray) (w : World) (hs : s.size ≤ 1048576) :
    Calls Tryz.prog 37 #[.string s] w fun e w' => RlP w w' s e := by
  by_cases hm : s = ⟨#[45]⟩
  · have hu : (s.toList == [45]) = true := by rw [lit45, toW_inj]; exact decide_eq_true hm
    have hm2 := hide hm
    clear hm
    have hX0 := (Ext.refl w).alloc (.cells #[] 2)
    go_enter Tryz.func37, Tryz.ntmps37
    go_wp2
    go_ret2
    exact RlP.good (v := ⟨_, _, _⟩) (hm2.out ▸ rlO_minus) (Own.new0 w _ (Nat.le_refl _)) hX0
  have hu : (s.toList == [45]) = false := by rw [lit45, toW_inj]; exact decide_eq_false hm
  have hsp := fun W => spec.l01Split_any s 44 W hs
  have hle := hide (fun x hx => Nat.le_trans (splitW_le 44 s x hx) hs)
  replace hm := hide hm
  go_enter Tryz.func37, Tryz.ntmps37
  go_wp2_with fail
  go_fit (hsp _)
  rintro e w1 ⟨v, rfl, ov, hx1⟩
  have hnu := fun W h => spec.l01Numbers_any v (splitW 44 s) W h hle.out
  go_wp2_with fail
  go_fit (hnu _ ov.rd)
  rintro e w2 ⟨⟨u, ok, rfl, h1, h2⟩, hx2⟩
  replace h1 := hide h1
  replace h2 := hide h2
  have hX := hx1.trans hx2
  have hs1 := hx1.size
  cases ok
  · have hN := hide (rlO_sg_none hm.out (h2.out rfl))
    go_wp2
    go_ret2
    exact RlP.bad hN.out hX
  · obtain ⟨xs, hxs, ho⟩ := h1.out rfl
    have ho' := ho.mono hs1
    replace hxs := hide hxs
    have hvl := fun W h => spec.l01Values_any u xs W h
    cases hc : okL xs
    · have hN := hide (rlO_bad hm.out (mp_sg_pw hxs.out) hc)
      have hne : (lvC xs == 0) = false := by
        rw [beq_eq_false_iff_ne]
        intro e
        rw [lvC_ok.1 e] at hc
        cases hc
      go_wp2_with fail
      go_fit (hvl _ ho.rd)
      rintro e w3 ⟨rfl, hx3⟩
      go_wp2
      go_ret2
      exact RlP.bad hN.out (hX.trans hx3)
    · have hN := hide (rlO_some hm.out (mp_sg_pw hxs.out) hc)
      have hne : lvC xs = 0 := lvC_ok.2 hc
      rw [hne] at hvl
      go_wp2_with fail
      go_fit (hvl _ ho.rd)
      rintro e w3 ⟨rfl, hx3⟩
      have ho3 := ho'.ext hx3
      go_wp2
      go_ret2
      exact RlP.good hN.out ho3 (hX.trans hx3)
def RmP (w w' : World) (s : ByteArray) (e : Ending) : Prop :=
  ∃ v : Sl, e = .returned (.tuple #[.slice v.A v.n v.c, .int .i64 (rmC s)]) ∧ Own w' w.heap.size (.slice v.A v.n v.c) (rmV s) ∧ Ext w w'
theorem RmP.bad {w w' : World} {s : ByteArray} (h : rmO s = none) (hx : Ext w w') : RmP w w' s (.returned (.tuple #[.slice none 0 0, .int .i64 6])) :=
  ⟨⟨_, _, _⟩, by rw [(rm_none h).1], by rw [(rm_none h).2]; exact Own.nil_ _ _, hx⟩
theorem RmP.good {w w' : World} {s : ByteArray} {xs : List Int} {v : Sl} (h : rmO s = some xs) (ho : Own w' w.heap.size (.slice v.A v.n v.c) xs) (hx : Ext w w') : RmP w w' s (.returned (.tuple #[.slice v.A v.n v.c, .int .i64 0])) :=
  ⟨v, by rw [(rm_some h).1], by rw [(rm_some h).2]; exact ho, hx⟩
theorem pm_pass : pm passW = some (-1) := by unfold pm; rw [if_pos rfl]
theorem va_pm {s : ByteArray} {n : Int} {b : Bool} (hp : s ≠ passW) (h1 : b = true → ∃ k : Nat, n = k ∧ s = decW k ∧ k < 10000000000000) (h2 : ∀ k : Nat, s = decW k → k < 10000000000000 → b = true ∧ n = k) :
    (b = true → n < 12 → pm s = some n) ∧ ((b = false ∨ ¬ n < 12) → pm s = none) := by
  unfold pm
  rw [if_neg hp]
  constructor
  · intro hb hn
    obtain ⟨k, rfl, e, hk⟩ := h1 hb
    rw [e, ← itoaW_nat, pw_itoa (by omega) (by omega)]
    simp only
    rw [if_pos (by omega)]
  · intro hb
    cases hq : pw s with
    | none => rfl
    | some m =>
      simp only
      rw [if_neg]
      intro hm
      have e := (pw_some hq).1
      rw [itoaW_pos hm.1] at e
      have hv := h2 _ e (by omega)
      rcases hb with hb | hb
      · rw [hb] at hv; cases hv.1
      · have := hv.2; omega
theorem apart_app {u v t : Value} {m : Nat} (h : apart u v) (hb : t.ownBlock = v.ownBlock ∨ t.ownBlock = some m) (hm : ∀ k, u.ownBlock = some k → k < m) : apart u t := by
  intro k hk hk2
  rcases hb with e | e
  · exact h k hk (e ▸ hk2)
  · rw [e] at hk2
    injection hk2 with hk2
    have := hm k hk
    omega
set_option maxHeartbeats 2000000 in
theorem spec.ReadMoves_any (s : ByteArray) (w : World) (hs : s.size ≤ 1048576) :
    Calls Tryz.prog 46 #[.string s] w fun e w' => RmP w w' s e := by
  have hX0 := (Ext.refl w).alloc (.cells #[] 2)
  by_cases hm : s = ⟨#[45]⟩
  · have hu : (s.toList == [45]) = true := by rw [lit45, toW_inj]; exact decide_eq_true hm
    have hm2 := hide hm
    clear hm
    go_enter Tryz.func46, Tryz.ntmps46
    go_wp2
    go_ret2
    exact RmP.good (v := ⟨_, _, _⟩) (hm2.out ▸ rmO_minus) (Own.new0 w _ (Nat.le_refl _)) hX0
  have hu : (s.toList == [45]) = false := by rw [lit45, toW_inj]; exact decide_eq_false hm
  have hsp := fun W => spec.l01Split_any s 44 W hs
  have hle := hide (fun x hx => Nat.le_trans (splitW_le 44 s x hx) hs)
  replace hm := hide hm
  have hO0 := Own.new0 w w.heap.size (Nat.le_refl _)
  go_enter Tryz.func46, Tryz.ntmps46
  go_wp2_with fail
  go_fit (hsp _)
  rintro e w1 ⟨v0, rfl, ov, hx1⟩
  obtain ⟨ws, hws⟩ : ∃ ws, Hid (ws = splitW 44 s) := ⟨_, rfl⟩
  rw [← hws.out] at ov hle
  have hr0 := ov.rd
  obtain ⟨A, n, c⟩ := v0
  simp only at hr0 ov ⊢
  have hn := hr0.le
  have hln := hide hr0.1
  have hX1 := hX0.trans hx1
  have hO1 := hO0.ext hx1
  have hap0 := hide (show apart (.slice A n c) (.slice (some ⟨w.heap.size, 0, none⟩) 0 0) from fun k hk hk2 => by
    have h1 := (ov.lt k hk).1
    have h2 := ownBlock_eq hk2
    rw [World.size_alloc] at h1
    omega)
  clear hr0
  go_wp2
  go_loopw [4, 6, 7, 8] (fun h i _ _ wr => ∃ (k : Nat) (v : Sl) (done : List Int), k ≤ n ∧ i = .int .i64 k ∧ h = .slice v.A v.n v.c ∧ Own wr w.heap.size (.slice v.A v.n v.c) done ∧ Ext w wr ∧ OwnU wr (w.alloc (.cells #[] 2)).heap.size (.slice A n c) ws ∧ Hid (apart (.slice A n c) (.slice v.A v.n v.c)) ∧ Hid (mp pm ws = (mp pm (ws.drop k)).map (done ++ ·)) ∧ Hid (done.length = k)) (fun _ i _ _ _ => n - (intOf i).toNat)
  case atStart => exact ⟨0, ⟨_, _, _⟩, [], by omega, rfl, rfl, hO1, hX1, ov, hap0, hide (by simp), hide rfl⟩
  case round =>
    clear hX0 hO0 hO1 ov hap0 hx1 hX1
    obtain ⟨k, v, done, hk, rfl, rfl, ho, hE, ov, hap, hI, hdl⟩ := hrel
    have hr := ov.rd
    have hsw := hE.size
    have hwk : IntKind.i64.wrap ((k : Int) + 1) = (k : Int) + 1 := Go.IntWalk.i64_in _ (by omega)
    by_cases hlt : k < n
    · obtain ⟨b, off, x, rfl, hbl, hcm, hxx⟩ := hr.el hlt
      have hva := fun W => spec.l01Value_any x W (hle.out x (List.mem_of_getElem? hxx.out))
      have hk0 : (0 : Int) ≤ (k : Int) := by omega
      have hkn : (k : Int) < (n : Int) := by omega
      go_wp2_with fail
      go_fit (hva _)
      rintro e w2 ⟨⟨m, ok, rfl, h1, h2⟩, hx⟩
      have hE2 := hE.trans hx
      have hcx2 := (hx.cell (p := ⟨b, off + k, none⟩) hbl).trans hcm
      have ov2 := ov.ext hx
      have hvo := hide (fun j hj => (ov2.lt j hj).2)
      have ho2 := ho.ext hx
      have hvl := ho2.lt
      have hs2 := hE2.size
      clear hcm
      by_cases hp : x = passW
      · have hup : (x.toList == [112, 97, 115, 115]) = true := by rw [litPass, toW_inj]; exact decide_eq_true hp
        have hN := hide (mp_some hI.out hxx.out (show pm x = some (-1) by rw [hp]; exact pm_pass))
        have hdl2 := hide (show (done ++ [-1]).length = k + 1 by rw [List.length_append, hdl.out]; rfl)
        have hd16 := hide (show done.length + 1 ≤ 16777216 by rw [hdl.out]; omega)
        replace hp := hide hp
        clear h1 h2
        go_wp2_with (at_builtin; refine wpList_app _ rfl (.tmp 40) (.tmp 42) rfl w.heap.size _ _ rfl (ho2.alloc _) _ _ _ [-1] rfl (Rd.one w2 (-1)) hd16.out (by simp; omega) ?_; intro t2 w3 ho3 hg3 hb3)
        go_roundw
        case rel => exact ⟨k + 1, t2, _, by omega, by go_num, rfl, ho3, (hE2.alloc _).grow hg3 (fun j hj => (hvl j hj).1), (ov2.alloc _).grown hg3 hap.out, hide (apart_app hap.out hb3 (fun j hj => by have := hvo.out j hj; simp; omega)), hN, hdl2⟩
        case measure => simp [intOf] <;> omega
      · have hup : (x.toList == [112, 97, 115, 115]) = false := by rw [litPass, toW_inj]; exact decide_eq_false hp
        have hv := hide (va_pm hp h1 h2)
        replace hp := hide hp
        clear h1 h2
        cases ok
        · have hN := hide (mp_none hI.out hxx.out (hv.out.2 (.inl rfl)))
          rw [hws.out] at hN
          go_wp2
          go_ret2
          exact RmP.bad (rmO_none hm.out hN.out) hE2
        · by_cases h12 : m < 12
          · have hg12 : ¬ (12 : Int) ≤ m := by omega
            have hN := hide (mp_some hI.out hxx.out (hv.out.1 rfl h12))
            have hdl2 := hide (show (done ++ [m]).length = k + 1 by rw [List.length_append, hdl.out]; rfl)
            have hd16 := hide (show done.length + 1 ≤ 16777216 by rw [hdl.out]; omega)
            go_wp2_with (at_builtin; refine wpList_app _ rfl (.tmp 40) (.tmp 42) rfl w.heap.size _ _ rfl (ho2.alloc _) _ _ _ [m] rfl (Rd.one w2 m) hd16.out (by simp; omega) ?_; intro t2 w3 ho3 hg3 hb3)
            go_roundw
            case rel => exact ⟨k + 1, t2, _, by omega, by go_num, rfl, ho3, (hE2.alloc _).grow hg3 (fun j hj => (hvl j hj).1), (ov2.alloc _).grown hg3 hap.out, hide (apart_app hap.out hb3 (fun j hj => by have := hvo.out j hj; simp; omega)), hN, hdl2⟩
            case measure => simp [intOf] <;> omega
          · have hg12 : (12 : Int) ≤ m := by omega
            have hN := hide (mp_none hI.out hxx.out (hv.out.2 (.inr h12)))
            rw [hws.out] at hN
            go_wp2
            go_ret2
            exact RmP.bad (rmO_none hm.out hN.out) hE2
    · have hN := hide (mp_end hI.out (show k = ws.length by have := hln.out; omega))
      have hkn : ¬ (k : Int) < (n : Int) := by omega
      have hvn := hide (show v.n = done.length from ho.rd.1)
      rw [hws.out] at hN
      by_cases h40 : done.length ≤ 40
      · have hg : ¬ (40 : Int) < (v.n : Int) := by have := hvn.out; omega
        replace h40 := hide h40
        go_wp2
        go_ret2
        exact RmP.good (rmO_some hm.out hN.out h40.out) ho hE
      · have hg : (40 : Int) < (v.n : Int) := by have := hvn.out; omega
        replace h40 := hide h40
        go_wp2
        go_ret2
        exact RmP.bad (rmO_bad hm.out hN.out h40.out) hE
end Go.Proofs.YtfojfndmaofahaaGreatDoor.mem
