/-
  Draws of panels, in the reference.
-/
import Derived.Test.YtmcnnbjgehmmoaaDrN
import Derived.Test.YtmcnnbjgehmmoaaEmpS
import Derived.Test.YtmcnnbjgehmmoaaEmpO
namespace Go.Proofs.Ytmcnnbjgehmmoaa.mem
open Go.ChangeShapes Go.WideShapes Go.ChangeAt Go.RowKit

/-- a panel is drawn -/
def DpP (w0 w : World) (g : Nat) (s : Sl) (e : Ending) (w' : World) : Prop :=
  ∃ (p : S3) (l : L3), e = .returned (.agg #[.slice p.x.A p.x.n p.x.c, .slice p.y.A p.y.n p.y.c, .slice p.z.A p.z.n p.z.c]) ∧ Own3 w' w.heap.size p l ∧ okP l = true ∧ Dr w0 w' g s ∧ Only g w w'
theorem okP_sm {l : L3} (h : okP l = true) : (1 ≤ l.x.length ∧ l.x.length ≤ 12) ∧ l.y.length + l.z.length ≤ 60 := by
  obtain ⟨a, b, _⟩ := okP_iff.1 h
  simp only [allP, List.length_append] at b
  exact ⟨a, by omega⟩
/-- the panel as far as it has been drawn: its variable lies in block b -/
def GoI (w0 w : World) (g : Nat) (s : Sl) (r b : Nat) (wr : World) : Prop :=
  ∃ (p : S3) (l : L3), Blk wr r 50 #[.slice none 0 0, .slice none 0 0, .slice none 0 0] ∧ Blk wr b 50 #[.slice p.x.A p.x.n p.x.c, .slice p.y.A p.y.n p.y.c, .slice p.z.A p.z.n p.z.c] ∧ Own3 wr (r + 1) p l ∧ (∀ k, blks p k → k ≠ b) ∧ okP l = true ∧ Dr w0 wr g s ∧ Only g w wr
set_option maxRecDepth 20000 in
set_option maxHeartbeats 2500000 in
theorem spec.l12Good_any (g : Nat) (s : Sl) (w0 w : World) (h : Dr w0 w g s) :
    Calls Try.prog 93 #[.pointer (some ⟨g, 0, none⟩)] w fun e w' => DpP w0 w g s e w' := by
  have hk14 := fun W h => spec.l01Next_any g s 14 w0 W h (by omega)
  have hk6 := fun W h => spec.l01Next_any g s 6 w0 W h (by omega)
  have hk4 := fun W h => spec.l01Next_any g s 4 w0 W h (by omega)
  have hg := h.lt
  have hR := Blk.new w 50 #[.slice none 0 0, .slice none 0 0, .slice none 0 0]
  have hD0 := h.alloc (.cells #[.slice none 0 0, .slice none 0 0, .slice none 0 0] 50)
  have hO0 : Only g w (w.alloc (.cells #[.slice none 0 0, .slice none 0 0, .slice none 0 0] 50)) := ((Ext.refl w).alloc _).onl
  go_enter Try.func93, Try.ntmps93
  go_wp2_with fail
  refine (hk14 _ hD0).mono ?_
  rintro e w1 ⟨x, rfl, ⟨x0, x1⟩, hD, hO⟩
  obtain ⟨n, rfl⟩ := Int.eq_ofNat_of_zero_le x0
  have hn : n < 14 := by omega
  have hw1 : IntKind.i64.wrap (1 + (n : Int)) = ((1 + n : Nat) : Int) := by rw [Go.IntWalk.i64_in _ (by omega)]; simp
  replace hR := hR.only hO (by omega)
  replace hO := Fr.trans hO0 hO
  have hz1 : w.heap.size + 1 ≤ w1.heap.size := by have := hR.lt; omega
  clear hO0 hD0 x0 x1
  obtain ⟨N, hN⟩ : ∃ N, Hid (N = 1 + n) := ⟨_, rfl⟩
  rw [← hN.out] at hw1
  have hNb : N ≤ 14 := by have := hN.out; omega
  have hkN := fun W h => spec.l12Numbers_any g s N w0 W h (by omega)
  go_wp2_with (go_at_call 115; refine (hkN _ hD).mono ?_; rintro e w2 ⟨t, xs, rfl, ho, hxl, hxd, hD2, hO2⟩)
  refine (hk6 _ hD2).mono ?_
  rintro e w3 ⟨y, rfl, ⟨y0, y1⟩, hD3, hO3⟩
  obtain ⟨m, rfl⟩ := Int.eq_ofNat_of_zero_le y0
  have hm : m < 6 := by omega
  clear y0 y1
  obtain ⟨M, hM⟩ : ∃ M, Hid (M = 1 + m) := ⟨_, rfl⟩
  have hMb : 1 ≤ M ∧ M ≤ 6 := by have := hM.out; omega
  have hw2 : IntKind.i64.wrap (1 + (m : Int)) = (M : Int) := by rw [Go.IntWalk.i64_in _ (by omega), hM.out]; simp
  replace ho := ho.only hO3 (by omega)
  replace hR := (hR.only hO2 (by omega)).only hO3 (by omega)
  have hOa := Fr.trans (Fr.trans hO hO2) hO3
  have hz2 := hO2.size
  have hz3 := hO3.size
  have hmk := mkR_ok (s := M) hxd (by omega) (by omega) (by omega)
  have hok := mkL_ok (s := M) hxd (by omega) (by omega) (by omega)
  have htb : t.n ≤ 1048576 := by have := ho.rd.1; omega
  have hkM := fun W h => spec.MakePanel_any t xs (M : Int) W h htb ho.cap
  clear htb hxl
  rw [hmk] at hkM
  simp only at hkM
  obtain ⟨l, hl⟩ : ∃ l, Hid (l = mkL xs M) := ⟨_, rfl⟩
  rw [← hl.out] at hkM hok
  clear hmk hl hkN hk14
  go_wp2_with (go_at_call 114; refine (hkM _ ho.rd).mono ?_; rintro e w4 ⟨p, rfl, hp, hx4⟩)
  have hz4 := hx4.size
  refine (hk4 _ ((hD3.more hx4).alloc _)).mono ?_
  rintro e w5 ⟨z, rfl, ⟨z0, z1⟩, hD5, hO5⟩
  obtain ⟨j, rfl⟩ := Int.eq_ofNat_of_zero_le z0
  have hj : j < 4 := by omega
  have hI : GoI w0 w g s w.heap.size w4.heap.size w5 :=
    ⟨p, l, ((hR.ext hx4).alloc _).only hO5 (by omega), (Blk.new w4 _ _).only hO5 (by omega), ((hp.alloc _).mono (by omega)).only hO5 (by omega), fun k hk => by have := hp.lt hk; omega, hok, hD5, Fr.trans (Fr.trans hOa (Ext.fr (hx4.alloc _))) hO5⟩
  have hlast : w.heap.size < w4.heap.size := by omega
  clear hkM hk4 hk6 ho hR hOa hp hD5 hO5 hO2 hO3 hO hD hD2 hD3 z0 z1 hok hw1 hw2 hxd
  clear hx4 hz4 hz2 hz3 hz1
  go_wp2_with fail
  generalize w4.heap.size = b at hI hlast ⊢
  go_loopw [5] (fun nv wr => ∃ m : Nat, nv = .int .i64 m ∧ m ≤ 4 ∧ GoI w0 w g s w.heap.size b wr) (fun nv _ => (intOf nv).toNat)
  case atStart => exact ⟨j, rfl, by omega, hI⟩
  case round =>
    obtain ⟨i, rfl, hi4, p, l, hR, hB, hp, hne, hok, hD, hO⟩ := hrel
    obtain ⟨c0, c1, c2⟩ := hB.c3
    have hz := hO.size
    have hbd : (1 ≤ p.x.n ∧ p.x.n ≤ 12) ∧ p.x.n + (p.y.n + p.z.n) ≤ 100000 := by
      have hsm := okP_sm hok
      have hx1 := hp.rd.1.1
      have hx2 := hp.rd.2.1.1
      have hx3 := hp.rd.2.2.1.1
      omega
    obtain ⟨⟨hb1, hb2⟩, hb3⟩ := hbd
    have hgb : b ≠ g := by omega
    by_cases hi : 0 < i
    · have hi' : (0 : Int) < (i : Int) := by omega
      have hwi : IntKind.i64.wrap ((i : Int) - 1) = ((i - 1 : Nat) : Int) := by rw [Go.IntWalk.i64_in _ (by omega)]; omega
      have hkp := fun W h => spec.l01Next_any g s (p.x.n : Int) w0 W h (by omega)
      replace hok := hide hok
      go_wp2_with (go_at_call 48; refine (hkp _ hD).mono ?_; rintro e w6 ⟨x, rfl, ⟨x0, x1⟩, hD6, hO6⟩; clear c0 c1 c2 hD; replace hB := hB.only hO6 hgb; replace hR := hR.only hO6 (by omega); replace hp := hp.only hO6 (by omega); replace hO := Fr.trans hO hO6; clear hO6; obtain ⟨c0, c1, c2⟩ := hB.c3; obtain ⟨k, rfl⟩ := Int.eq_ofNat_of_zero_le x0; have hkn : k < p.x.n := (by omega); have hkI : (k : Int) < (p.x.n : Int) := (by omega); have hk0 : (0 : Int) ≤ (k : Int) := (by omega); clear x0 x1 hkp; obtain ⟨bb, oo, y, hA, hbb, hcy, hy⟩ := hp.rd.1.el hkn; rw [hA] at c0)
      · have hk6 := hp.rd
        rw [← hA]
        refine (spec.l12Empty_any p l k _ hk6 hkn hb3).mono ?_
        rintro e w7 ⟨p', rfl, hp', hx7⟩
        have hz6 := hB.lt
        have hB7 := hB.ext hx7
        have hR7 := hR.ext hx7
        have hne7 : ∀ k, blks p' k → k ≠ b := fun k hk => by have := hp'.lt hk; omega
        have hI7 : GoI w0 w g s w.heap.size b (((w7.setCell ⟨b, 0, none⟩ (.slice p'.x.A p'.x.n p'.x.c)).setCell ⟨b, 1, none⟩ (.slice p'.y.A p'.y.n p'.y.c)).setCell ⟨b, 2, none⟩ (.slice p'.z.A p'.z.n p'.z.c)) :=
          ⟨p', empL l k, ((hR7.off b 0 (by omega) _).off b 1 (by omega) _).off b 2 (by omega) _, ((hB7.set_ 0 _).set_ 1 _).set_ 2 _, (((hp'.mono (by omega)).awD hne7 0 _).awD hne7 1 _).awD hne7 2 _, hne7,
            okP_emp hok.out hy.out (by have := ‹(y != 0) = true›; simpa using this), (((hD6.more hx7).off b 0 (by omega) _).off b 1 (by omega) _).off b 2 (by omega) _, (((Only.more hO hx7).off b 0 (by omega) _).off b 1 (by omega) _).off b 2 (by omega) _⟩
        obtain ⟨r0, r1, r2, r3, r4, r5⟩ := res3 hB7
        clear c0 c1 c2 hB hR hp hB7 hR7 hne7 hp' hD6 hO hx7 hk6 hcy hok
        go_wp2_with fail
        go_roundw
        case rel => exact ⟨i - 1, by go_num, by omega, hI7⟩
        case measure => simp [intOf]; omega
      · go_roundw
        case rel => exact ⟨i - 1, by go_num, by omega, p, l, hR, hB, hp, hne, hok.out, hD6, hO⟩
        case measure => simp [intOf]; omega
    · have hi' : ¬ (0 : Int) < (i : Int) := by omega
      have hRn := ((hR.set_ 0 (.slice p.x.A p.x.n p.x.c)).set_ 1 (.slice p.y.A p.y.n p.y.c)).set_ 2 (.slice p.z.A p.z.n p.z.c)
      have m := hRn.c3
      obtain ⟨r0, r1, r2, r3, r4, r5⟩ := res3 hR
      have hpn := ((hp.awayP (g := w.heap.size) (by omega) 0 (.slice p.x.A p.x.n p.x.c)).awayP (g := w.heap.size) (by omega) 1 (.slice p.y.A p.y.n p.y.c)).awayP (g := w.heap.size) (by omega) 2 (.slice p.z.A p.z.n p.z.c)
      have hDn := ((hD.off w.heap.size 0 (by omega) (.slice p.x.A p.x.n p.x.c)).off w.heap.size 1 (by omega) (.slice p.y.A p.y.n p.y.c)).off w.heap.size 2 (by omega) (.slice p.z.A p.z.n p.z.c)
      have hOn := ((Only.off hO w.heap.size 0 (by omega) (.slice p.x.A p.x.n p.x.c)).off w.heap.size 1 (by omega) (.slice p.y.A p.y.n p.y.c)).off w.heap.size 2 (by omega) (.slice p.z.A p.z.n p.z.c)
      replace hok := hide hok
      go_wp2_with fail
      refine bodyPost_ret (v := .agg #[.slice p.x.A p.x.n p.x.c, .slice p.y.A p.y.n p.y.c, .slice p.z.A p.z.n p.z.c]) (by simp [results, Try.results93, go_sem, m.1, m.2.1, m.2.2]) rfl ⟨p, l, rfl, hpn.mono (by omega), hok.out, hDn, hOn⟩
end Go.Proofs.Ytmcnnbjgehmmoaa.mem
