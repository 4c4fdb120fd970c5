/-
  Ties are drawn: l13Ties.
-/
import Derived.Test.YtofglgfjlbehmaaGreatDrO
import Derived.Test.YtofglgfjlbehmaaGreatCau
namespace Go.Proofs.YtofglgfjlbehmaaGreat.mem
open Go.ChangeShapes Go.WideShapes Go.ChangeAt Go.RowKit
set_option linter.unusedVariables false
/-- some ties are drawn -/
def DvP (w0 w : World) (g : Nat) (s : Sl) (e : Ending) (w' : World) : Prop := ∃ (t : Sl) (ts : List Ti), e = .returned (.slice t.A t.n t.c) ∧ OwX w' w.heap.size (.slice t.A t.n t.c) ts ∧ ts.length ≤ 22 ∧ (∀ t ∈ ts, t.s.size ≤ 100) ∧ Dr w0 w' g s ∧ Only g w w'
theorem sz100 {ts : List Ti} (h : ∀ t ∈ ts, t.s.size ≤ 100) : ∀ t ∈ ts, t.s.size ≤ maxLen := fun t ht => by have := h t ht; unfold maxLen; omega
theorem sz_app {ts : List Ti} {t : Ti} (h : ∀ t ∈ ts, t.s.size ≤ 100) (ht : t.s.size ≤ 100) : ∀ u ∈ ts ++ [t], u.s.size ≤ 100 := fun u hu => by
  rcases List.mem_append.1 hu with hu | hu
  · exact h u hu
  · rw [List.mem_singleton] at hu; rw [hu]; exact ht
theorem grow_draw {w0 w W w4 : World} {g : Nat} {s : Sl} {v : Value} {ts : List Ti} (ho : OwX W w.heap.size v ts) (hD : Dr w0 W g s) (hO : Only g w W) (hgl : g < w.heap.size) (hg : W.grownBy w4 v.ownBlock) : Dr w0 w4 g s ∧ Only g w w4 :=
  ⟨hD.keep (Fr.of_grown hg) (fun e => by have := (ho.lt g e).1; omega) (fun k e => by have h1 := (ho.lt k e).1; have h2 := hD.low; omega), Only.grow_ hO hg (fun k hk => (ho.lt k hk).1)⟩
theorem OwX.grown {w w' : World} {lo : Nat} {v u : Value} {xs : List Ti} (h : OwX w lo u xs) (hg : w.grownBy w' v.ownBlock) (ha : ∀ k, u.ownBlock = some k → v.ownBlock ≠ some k) : OwX w' lo u xs :=
  h.keep fun k hk => hg.block k (h.lt k hk).2 (fun e => ha k hk e.symm)
def lenV : Value → Nat
  | .slice _ n _ => n
  | _ => 0
set_option maxRecDepth 20000 in
set_option maxHeartbeats 8000000 in
theorem spec.l13Ties_any (g : Nat) (s : Sl) (w0 w : World) (h : Dr w0 w g s) :
    Calls Tryz.prog 59 #[.pointer (some ⟨g, 0, none⟩)] w fun e w' => DvP w0 w g s e w' := by
  have hg := h.lt
  have hk8 := fun W h => spec.l01Next_any g s 8 w0 W h (by omega)
  have hk24 := fun W h => spec.l01Next_any g s 24 w0 W h (by omega)
  have hk2 := fun W h => spec.l01Next_any g s 2 w0 W h (by omega)
  have hk6 := fun W h => spec.l01Next_any g s 6 w0 W h (by omega)
  have hkw := fun W h => spec.l01DrawWord_any g s w0 W h
  have hkt := fun W h => spec.l13Tie_any g s w0 W h
  have hX := (Ext.refl w).alloc (.cells #[] 108)
  have hD := h.alloc (.cells #[] 108)
  have ho := OwX.new0 w w.heap.size (Nat.le_refl _)
  have hO := hX.onl (g := g)
  go_enter Tryz.func59, Tryz.ntmps59
  go_wp2_with fail
  refine (hk8 _ hD).mono ?_
  rintro e w1 ⟨x, rfl, ⟨x0, x1⟩, hD1, hO1⟩
  replace ho := ho.only hO1 hg
  replace hO1 := Fr.trans hO hO1
  obtain ⟨n0, rfl⟩ := Int.eq_ofNat_of_zero_le x0
  have hn0 : n0 ≤ 8 := by omega
  clear hk8 hD hO hX x0 x1 h
  go_wp2
  go_loopw [3, 4, 5] (fun o nv _ wr => ∃ (t : Sl) (ts : List Ti) (n : Nat), o = .slice t.A t.n t.c ∧ nv = .int .i64 n ∧ n + ts.length ≤ 8 ∧ Hid (∀ t ∈ ts, t.s.size ≤ 100) ∧ OwX wr w.heap.size (.slice t.A t.n t.c) ts ∧ Dr w0 wr g s ∧ Only g w wr) (fun _ nv _ _ => (intOf nv).toNat)
  case atStart => exact ⟨⟨_, _, _⟩, [], n0, rfl, rfl, by simpa using hn0, hide (fun t h => by cases h), ho, hD1, hO1⟩
  case round =>
    clear ho hD1 hO1 hn0
    obtain ⟨t, ts, n, rfl, rfl, hn, hsz, ho, hD, hO⟩ := hrel
    have hzw := hO.size
    by_cases hp : 0 < n
    · have hpI : (0 : Int) < (n : Int) := by omega
      have hpI' : ((n : Int) > 0) := by omega
      have hwn : IntKind.i64.wrap ((n : Int) - 1) = ((n - 1 : Nat) : Int) := by rw [Go.IntWalk.i64_in _ (by omega)]; omega
      have hN := OwX.new0 wr wr.heap.size (Nat.le_refl _)
      have hoA := ho.alloc (.cells #[] 108)
      have hDA := hD.alloc (.cells #[] 108)
      have hOA := Only.more hO ((Ext.refl wr).alloc (.cells #[] 108))
      have hrd := hoA.rd (sz100 hsz.out)
      have hszA : wr.heap.size ≤ (wr.alloc (.cells #[] 108)).heap.size := by simp
      go_wp2_with (at_builtin; refine wpList_appT _ rfl (.tmp 14) (.tmp 15) rfl wr.heap.size _ [] rfl hN _ _ _ ts rfl hrd (by have := hrd.2.1; simpa using this) hszA ?_; intro t1 w2 ho2 hg2 hb2)
      have hG2 := grow_draw (hN.mono hzw) hDA hOA hg hg2
      obtain ⟨hD2, hO2⟩ := hG2
      have hoB := hoA.grown hg2 (fun k hk e => by have h1 := (ho.lt k hk).2; have h2 := (hN.lt k e).1; omega)
      clear hDA hOA hrd hb2 hoA hszA
      refine (hkt _ hD2).mono ?_
      rintro e w3 ⟨tt, rfl, htt, hD3, hO3⟩
      have ho3 := ho2.only hO3 (by omega)
      have hoC := hoB.only hO3 hg
      have hxz := hO3.size
      replace hO3 := Fr.trans hO2 hO3
      have hlow := fun k hk => (ho3.lt k hk).1
      have hz3 : wr.heap.size ≤ w3.heap.size := by have h1 := hg2.size; have h2 := hxz; simp at h1; omega
      clear ho2 hoB hD2 hO2 hg2 hN
      go_wp2_with (at_builtin; refine wpList_appT _ rfl (.tmp 16) (.tmp 19) rfl wr.heap.size _ _ rfl (ho3.alloc _) _ _ _ [tt] rfl (RdT.one w3 tt (by unfold maxLen; omega)) (by simp; omega) (by simp; omega) ?_; intro t2 w4 ho4 hg4 hb4)
      have hG4 := grow_draw ((ho3.alloc (.cells #[.int .i64 tt.n, .string tt.s, .int .i64 tt.k, .bool tt.f] 108)).mono hzw) (hD3.alloc _) (Only.more hO3 ((Ext.refl w3).alloc _)) hg hg4
      obtain ⟨hD4, hO4⟩ := hG4
      have hoD := (hoC.alloc (.cells #[.int .i64 tt.n, .string tt.s, .int .i64 tt.k, .bool tt.f] 108)).grown hg4 (fun k hk e => by have h1 := (ho.lt k hk).2; have h2 := hlow k e; omega)
      have hs4 := hide (sz_app hsz.out htt)
      have hl4 : ([] ++ ts ++ [tt]).length = ts.length + 1 := by simp
      clear ho3 hoC hD3 hO3 hg4 hb4 hlow
      have hat := spec.AreTies_any t2 ([] ++ ts ++ [tt]) _ (ho4.rd (sz100 (by simpa using hs4.out)))
      revert ho4 hs4 hl4 hat
      rw [List.nil_append]
      generalize ts ++ [tt] = ts4
      intro ho4 hs4 hl4 hat
      cases hb : tieB ts4
      · rw [hb] at hat
        refine hat.mono ?_
        rintro e w5 ⟨rfl, hx5⟩
        go_wp2_with fail
        go_roundw
        case rel => exact ⟨t, ts, n - 1, rfl, by go_num, by omega, hsz, hoD.ext hx5, hD4.more hx5, Only.more hO4 hx5⟩
        case measure => simp [intOf]; omega
      · rw [hb] at hat
        refine hat.mono ?_
        rintro e w5 ⟨rfl, hx5⟩
        go_wp2_with fail
        go_roundw
        case rel => exact ⟨t2, ts4, n - 1, rfl, by go_num, by omega, hs4, (ho4.mono hzw).ext hx5, hD4.more hx5, Only.more hO4 hx5⟩
        case measure => simp [intOf]; omega
    · have hp0 : n = 0 := by omega
      subst hp0
      clear hkt hp
      have hts : ts.length ≤ 8 := by omega
      clear hn
      go_wp2_with fail
      refine (hk24 _ hD).mono ?_
      rintro e w2 ⟨x, rfl, ⟨x0, x1⟩, hD2, hO2⟩
      replace ho := ho.only hO2 hg
      replace hO2 := Fr.trans hO hO2
      have hz2 := hO2.size
      clear hk24 hD hO x0 x1 hzw
      by_cases e0 : x = 0
      · subst e0
        have hg2 := hD2.lt
        have hB := Blk.new w2 2 (#[.int .i64 0, .int .i64 1000000, .int .i64 1000001])
        have hDB := hD2.alloc (.cells #[.int .i64 0, .int .i64 1000000, .int .i64 1000001] 2)
        have hoB := ho.alloc (.cells #[.int .i64 0, .int .i64 1000000, .int .i64 1000001] 2)
        have hOB := Only.more hO2 ((Ext.refl w2).alloc (.cells #[.int .i64 0, .int .i64 1000000, .int .i64 1000001] 2))
        go_wp2_with fail
        refine (spec.l01Pick_any g w2.heap.size s [0, 1000000, 1000001] w0 _ hDB hB (by omega) (by simp) (by simp)).mono ?_
        rintro e w3 ⟨v, rfl, hm, hD3, hO3⟩
        have ho3 := hoB.only hO3 hg
        replace hO3 := Fr.trans hOB hO3
        have hz3 := hO3.size
        clear hB hDB hoB hOB hm
        go_wp2_with (at_builtin; refine wpList_appT _ rfl (.tmp 28) (.tmp 33) rfl w.heap.size _ _ rfl (ho3.alloc _) _ _ _ [⟨v, ⟨#[116, 97, 108]⟩, 0, false⟩] rfl (RdT.one w3 ⟨v, ⟨#[116, 97, 108]⟩, 0, false⟩ (by show (3 : Nat) ≤ maxLen; unfold maxLen; omega)) (by simp; omega) (by simp; omega) ?_; intro t2 w4 ho4 hg4 hb4)
        obtain ⟨hD4, hO4⟩ := grow_draw (ho3.alloc (.cells #[.int .i64 v, .string ⟨#[116, 97, 108]⟩, .int .i64 0, .bool false] 108)) (hD3.alloc _) (Only.more hO3 ((Ext.refl w3).alloc _)) hg hg4
        go_wp2_with fail
        go_ret
        exact ⟨t2, _, rfl, ho4, by simp; omega, sz_app hsz.out (by show (3 : Nat) ≤ 100; omega), hD4, hO4⟩
      by_cases e1 : x = 1
      · subst e1
        go_wp2_with fail
        refine (hkw _ hD2).mono ?_
        rintro e w3 ⟨y, rfl, hy, hD3, hO3⟩
        have ho3 := ho.only hO3 hg
        replace hO3 := Fr.trans hO2 hO3
        go_wp2_with fail
        refine (hk6 _ hD3).mono ?_
        rintro e w4 ⟨q, rfl, ⟨q0, q1⟩, hD4, hO4⟩
        have ho4 := ho3.only hO4 hg
        replace hO4 := Fr.trans hO3 hO4
        have hz4 := hO4.size
        have hwq : IntKind.i64.wrap (q - 1) = q - 1 := Go.IntWalk.i64_in _ (by omega)
        clear ho ho3 hD2 hD3 hO2 hO3
        go_wp2_with (at_builtin; refine wpList_appT _ rfl (.tmp 37) (.tmp 44) rfl w.heap.size _ _ rfl (ho4.alloc _) _ _ _ [⟨7, y, q - 1, false⟩] rfl (RdT.one w4 ⟨7, y, q - 1, false⟩ (by unfold maxLen; show y.size ≤ _; omega)) (by simp; omega) (by simp; omega) ?_; intro t2 w5 ho5 hg5 hb5)
        obtain ⟨hD5, hO5⟩ := grow_draw (ho4.alloc (.cells #[.int .i64 7, .string y, .int .i64 (q - 1), .bool false] 108)) (hD4.alloc _) (Only.more hO4 ((Ext.refl w4).alloc _)) hg hg5
        go_wp2_with fail
        go_ret
        exact ⟨t2, _, rfl, ho5, by simp; omega, sz_app hsz.out hy, hD5, hO5⟩
      have b0 : (x == 0) = false := by simpa using e0
      have b1 : (x == 1) = false := by simpa using e1
      by_cases e2 : x = 2
      · subst e2
        clear b0 b1 e0 e1
        go_wp2_with fail
        go_loopw [3, 6] (fun o kv wr => ∃ (t : Sl) (ts : List Ti) (k : Int), o = .slice t.A t.n t.c ∧ kv = .int .i64 k ∧ ts.length ≤ 21 ∧ Hid (∀ t ∈ ts, t.s.size ≤ 100) ∧ OwX wr w.heap.size (.slice t.A t.n t.c) ts ∧ Dr w0 wr g s ∧ Only g w wr) (fun o _ _ => 30 - lenV o)
        case atStart => exact ⟨t, ts, 100, rfl, rfl, by omega, hsz, ho, hD2, hO2⟩
        case round =>
          clear ho hD2 hO2 hsz hts
          obtain ⟨t', ts', k, rfl, rfl, hts', hsz', ho', hD', hO'⟩ := hrel
          have hl := hide (ho'.rd (sz100 hsz'.out)).1
          go_wp2_with fail
          refine (hk2 _ hD').mono ?_
          rintro e w3 ⟨q, rfl, ⟨q0, q1⟩, hD3, hO3⟩
          have ho3 := ho'.only hO3 hg
          replace hO3 := Fr.trans hO' hO3
          have hz3 := hO3.size
          have hwq : IntKind.i64.wrap (20 + q) = 20 + q := Go.IntWalk.i64_in _ (by omega)
          clear ho' hD' hO'
          by_cases hlt : (t'.n : Int) < 20 + q
          · have hl21 : ts'.length ≤ 20 := by have := hl.out; omega
            go_wp2_with (at_builtin; refine wpList_appT _ rfl (.tmp 56) (.tmp 59) rfl w.heap.size _ _ rfl (ho3.alloc _) _ _ _ [⟨k, ⟨#[116, 97, 108]⟩, 0, false⟩] rfl (RdT.one w3 ⟨k, ⟨#[116, 97, 108]⟩, 0, false⟩ (by show (3 : Nat) ≤ maxLen; unfold maxLen; omega)) (by simp; omega) (by simp; omega) ?_; intro t2 w4 ho4 hg4 hb4)
            obtain ⟨hD4, hO4⟩ := grow_draw (ho3.alloc (.cells #[.int .i64 k, .string ⟨#[116, 97, 108]⟩, .int .i64 0, .bool false] 108)) (hD3.alloc _) (Only.more hO3 ((Ext.refl w3).alloc _)) hg hg4
            have hs4 := hide (sz_app (t := ⟨k, ⟨#[116, 97, 108]⟩, 0, false⟩) hsz'.out (by show (3 : Nat) ≤ 100; omega))
            have hl4 := (ho4.rd (sz100 hs4.out)).1
            rw [List.length_append, List.length_singleton] at hl4
            go_wp2_with fail
            go_roundw
            case rel => exact ⟨t2, _, _, rfl, rfl, by simp; omega, hs4, ho4, hD4, hO4⟩
            case measure => have := hl.out; simp [lenV]; omega
          · go_wp2_with fail
            go_ret
            exact ⟨t', _, rfl, ho3, by omega, hsz'.out, hD3, hO3⟩
      · have b2 : (x == 2) = false := by simpa using e2
        go_wp2_with fail
        go_ret
        exact ⟨t, _, rfl, ho, by omega, hsz.out, hD2, hO2⟩
end Go.Proofs.YtofglgfjlbehmaaGreat.mem
