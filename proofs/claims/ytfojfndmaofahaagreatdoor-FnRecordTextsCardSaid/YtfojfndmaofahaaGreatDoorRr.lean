/-
  Reading a record, in both programs.
-/
import Derived.Test.YtfojfndmaofahaaGreatDoorRrP
import Derived.Test.YtfojfndmaofahaaGreatDoorRpn
import Derived.Test.YtfojfndmaofahaaGreatDoorRecMk
namespace Go.Proofs.YtfojfndmaofahaaGreatDoor.mem
open Go.ChangeShapes Go.WideShapes Go.ChangeAt Go.RowKit

def rrC (s : ByteArray) : Int := if (rrO s).isSome = true then 0 else 6
def rrV (s : ByteArray) : RecL := (rrO s).getD ⟨0, 0, 0, ⟨[], [], []⟩, 0, 0, 0⟩
def RrP (w w' : World) (s : ByteArray) (e : Ending) : Prop :=
  ∃ x : RecA, e = .returned (.tuple #[.agg #[.int .i64 x.a, .int .i64 x.b, .int .i64 x.c, .slice x.p.x.A x.p.x.n x.p.x.c, .int .i64 x.d, .slice x.p.y.A x.p.y.n x.p.y.c, .slice x.p.z.A x.p.z.n x.p.z.c, .int .i64 x.e, .int .i64 x.f], .int .i64 (rrC s)]) ∧ OwnR w' w.heap.size x (rrV s) ∧ Ext w w'
def nilRec : RecA := ⟨0, 0, 0, nilR, 0, 0, 0⟩
theorem RrP.bad {w w' : World} {s : ByteArray} (h : rrO s = none) (hx : Ext w w') : RrP w w' s (.returned (.tuple #[.agg #[.int .i64 nilRec.a, .int .i64 nilRec.b, .int .i64 nilRec.c, .slice nilRec.p.x.A nilRec.p.x.n nilRec.p.x.c, .int .i64 nilRec.d, .slice nilRec.p.y.A nilRec.p.y.n nilRec.p.y.c, .slice nilRec.p.z.A nilRec.p.z.n nilRec.p.z.c, .int .i64 nilRec.e, .int .i64 nilRec.f], .int .i64 6])) :=
  ⟨nilRec, by unfold rrC; rw [h]; rfl, by unfold rrV; rw [h]; exact ⟨Own3.nilR _ _, rfl, rfl, rfl, rfl, rfl, rfl⟩, hx⟩
theorem RrP.good {w w' : World} {s : ByteArray} {y : RecL} {x : RecA} (h : rrO s = some y) (ho : OwnR w' w.heap.size x y) (hx : Ext w w') : RrP w w' s (.returned (.tuple #[.agg #[.int .i64 x.a, .int .i64 x.b, .int .i64 x.c, .slice x.p.x.A x.p.x.n x.p.x.c, .int .i64 x.d, .slice x.p.y.A x.p.y.n x.p.y.c, .slice x.p.z.A x.p.z.n x.p.z.c, .int .i64 x.e, .int .i64 x.f], .int .i64 0])) :=
  ⟨x, by unfold rrC; rw [h]; rfl, by unfold rrV; rw [h]; exact ho, hx⟩
theorem words9 {w : World} {A : Option Addr} {n : Nat} {ss : List ByteArray} (h : RdU w A n ss) (hn : 0 < n) : ∃ bw off, A = some ⟨bw, off, none⟩ ∧ bw < w.heap.size ∧ ∀ (j : Nat) x, ss[j]? = some x → w.cell? ⟨bw, off + j, none⟩ = some (.string x) := RdU.get w h hn
def NmP (w w' : World) (ws : List ByteArray) (f : ByteArray → Option Int) (e : Ending) : Prop :=
  ∃ (v : Sl) (b : Bool), e = .returned (.tuple #[.slice v.A v.n v.c, .bool b]) ∧ (b = true → ∃ xs, mp f ws = some xs ∧ Own w' w.heap.size (.slice v.A v.n v.c) xs) ∧ (b = false → mp f ws = none)
set_option maxHeartbeats 2000000 in
theorem impl.readDecimals_any (s : Sl) (ws : List ByteArray) (w : World) (hr : RdU w s.A s.n ws) (hb : ∀ x ∈ ws, x.size ≤ 1048576) (hL : Lb w) :
    Calls Tryz.prog 49 #[.slice s.A s.n s.c] w fun e w' => NmP w w' ws pw e ∧ Ext w w' := by
  obtain ⟨A, n, c⟩ := s
  simp only at hr ⊢
  have hn := hr.le
  have hln := hide hr.1
  have hX0 := (Ext.refl w).alloc (.cells #[] 2)
  replace hb := hide hb
  go_enter Tryz.func49, Tryz.ntmps49
  go_wp2
  go_loopw [4, 6, 7, 8, 12] (fun h _ _ _ i wr => ∃ (k : Nat) (v : Sl) (done : List Int), k ≤ n ∧ i = .int .i64 k ∧ h = .slice v.A v.n v.c ∧ Own wr w.heap.size (.slice v.A v.n v.c) done ∧ Ext w wr ∧ Hid (mp pw ws = (mp pw (ws.drop k)).map (done ++ ·)) ∧ Hid (done.length = k)) (fun _ _ _ _ i _ => n - (intOf i).toNat)
  case atStart => exact ⟨0, ⟨_, _, _⟩, [], by omega, rfl, rfl, Own.new0 w _ (Nat.le_refl _), hX0, hide (by simp), hide rfl⟩
  case round =>
    clear hX0
    obtain ⟨k, v, done, hk, rfl, rfl, ho, hE, hI, hdl⟩ := hrel
    have hsw := hE.size
    have hwk : IntKind.i64.wrap ((k : Int) + 1) = (k : Int) + 1 := Go.IntWalk.i64_in _ (by omega)
    by_cases hlt : k < n
    · obtain ⟨b, off, x, rfl, hbl, hcm, hxx⟩ := hr.el hlt
      have hcx := (hE.cell (p := ⟨b, off + k, none⟩) hbl).trans hcm
      clear hcm
      have hva := fun W h => impl.readDecimal_any x W (hb.out x (List.mem_of_getElem? hxx.out)) h
      have hk0 : (0 : Int) ≤ (k : Int) := by omega
      have hkn : (k : Int) < (n : Int) := by omega
      go_wp2_with fail
      go_fit (hva _ (hL.ext hE))
      rintro e w1 ⟨⟨m, ok, rfl, h1, h2⟩, hx⟩
      replace h1 := hide h1
      replace h2 := hide h2
      have hE1 := hE.trans hx
      have ho1 := ho.ext hx
      have hvl := ho1.lt
      have hs1 := hE1.size
      cases ok
      · have hN := hide (mp_none hI.out hxx.out (h2.out rfl))
        go_wp2
        go_ret2
        exact ⟨⟨⟨_, _, _⟩, false, rfl, fun h => (by cases h), fun _ => hN.out⟩, hE1⟩
      · have hN := hide (mp_some hI.out hxx.out (h1.out rfl))
        have hdl2 := hide (show (done ++ [m]).length = k + 1 by rw [List.length_append, hdl.out]; rfl)
        have hd16 := hide (show done.length + 1 ≤ 16777216 by rw [hdl.out]; omega)
        go_wp2_with (at_builtin; refine wpList_app _ rfl (.tmp 23) (.tmp 25) rfl w.heap.size _ _ rfl (ho1.alloc _) _ _ _ [m] rfl (Rd.one w1 m) hd16.out (by simp; omega) ?_; intro t2 w2 ho2 hg2 hb2)
        go_roundw
        case rel => exact ⟨k + 1, t2, _, by omega, by go_num, rfl, ho2, (hE1.alloc _).grow hg2 (fun j hj => (hvl j hj).1), hN, hdl2⟩
        case measure => simp [intOf] <;> omega
    · have hN := hide (mp_end hI.out (show k = ws.length by have := hln.out; omega))
      have hkn : ¬ (k : Int) < (n : Int) := by omega
      go_wp2
      go_ret2
      exact ⟨⟨v, true, rfl, fun _ => ⟨_, hN.out, ho⟩, fun h => (by cases h)⟩, hE⟩
set_option maxRecDepth 20000 in
set_option maxHeartbeats 8000000 in
theorem spec.ReadRecord_any (s : ByteArray) (w : World) (hs : s.size ≤ 1048576) :
    Calls Tryz.prog 15 #[.string s] w fun e w' => RrP w w' s e := by
  have hX := (Ext.refl w).alloc (.cells #[.int .i64 0, .int .i64 0, .int .i64 0, .slice none 0 0, .int .i64 0, .slice none 0 0, .slice none 0 0, .int .i64 0, .int .i64 0] 36)
  have hR := Blk.new w 36 (#[.int .i64 0, .int .i64 0, .int .i64 0, .slice none 0 0, .int .i64 0, .slice none 0 0, .slice none 0 0, .int .i64 0, .int .i64 0])
  have hsp := fun W => spec.l01Split_any s 47 W hs
  have hle := hide (fun x hx => Nat.le_trans (splitW_le 47 s x hx) hs)
  go_enter Tryz.func15, Tryz.ntmps15
  go_wp2_with fail
  go_fit (hsp _)
  rintro e w1 ⟨v0, rfl, ov, hx⟩
  have hz0 : w.heap.size + 1 ≤ w1.heap.size := by have := hx.size; simpa using this
  replace hX := hX.trans hx
  replace hR := hR.ext hx
  clear hx hsp
  obtain ⟨ws, hws⟩ : ∃ ws, Hid (splitW 47 s = ws) := ⟨_, rfl⟩
  rw [hws.out] at ov hle
  have hlen := hide (show v0.n = ws.length from ov.rd.1)
  have hru := ov.rd
  obtain ⟨A, n, c⟩ := v0
  simp only at hlen hru ⊢
  clear ov
  by_cases h9 : n = 9
  case neg =>
    have hne : ((n : Int) == 9) = false := by rw [beq_eq_false_iff_ne]; omega
    have hN := hide (rrO_len (s := s) (by rw [hws.out, ← hlen.out]; exact h9))
    replace h9 := hide h9
    clear hru
    obtain ⟨r0, r1, r2, r3, r4, r5, r6, r7, r8⟩ := hR.c9
    have f0 := hR.frozen 0
    have f1 := hR.frozen 1
    have f2 := hR.frozen 2
    have f3 := hR.frozen 3
    have f4 := hR.frozen 4
    have f5 := hR.frozen 5
    have f6 := hR.frozen 6
    have f7 := hR.frozen 7
    have f8 := hR.frozen 8
    generalize hbR : w.heap.size = bR at hR r0 r1 r2 r3 r4 r5 r6 r7 r8 f0 f1 f2 f3 f4 f5 f6 f7 f8 ⊢
    replace hbR := hide hbR
    go_wp2
    have hbl := Nat.le_of_eq hbR.out
    have hRn := hR.set9 (.int .i64 0) (.int .i64 0) (.int .i64 0) (.slice none 0 0) (.int .i64 0) (.slice none 0 0) (.slice none 0 0) (.int .i64 0) (.int .i64 0)
    obtain ⟨m0, m1, m2, m3, m4, m5, m6, m7, m8⟩ := hRn.c9
    have hXn := ((((((((hX.off bR 0 hbl (.int .i64 0)).off bR 1 hbl (.int .i64 0)).off bR 2 hbl (.int .i64 0)).off bR 3 hbl (.slice none 0 0)).off bR 4 hbl (.int .i64 0)).off bR 5 hbl (.slice none 0 0)).off bR 6 hbl (.slice none 0 0)).off bR 7 hbl (.int .i64 0)).off bR 8 hbl (.int .i64 0)
    refine bodyPost_ret (v := .tuple #[.agg #[.int .i64 nilRec.a, .int .i64 nilRec.b, .int .i64 nilRec.c, .slice nilRec.p.x.A nilRec.p.x.n nilRec.p.x.c, .int .i64 nilRec.d, .slice nilRec.p.y.A nilRec.p.y.n nilRec.p.y.c, .slice nilRec.p.z.A nilRec.p.z.n nilRec.p.z.c, .int .i64 nilRec.e, .int .i64 nilRec.f], .int .i64 6]) (by simp [results, Tryz.results15, go_sem, m0, m1, m2, m3, m4, m5, m6, m7, m8, nilRec, nilR]) rfl (RrP.bad hN.out hXn)
  subst h9
  obtain ⟨a, b, d, e, f, g, h, i, j, rfl⟩ := list_nine hlen.out.symm
  obtain ⟨bw, off, rfl, hbw, hcell⟩ := words9 hru (by omega)
  have ua := hcell 0 a rfl
  have ub := hcell 1 b rfl
  have ud := hcell 2 d rfl
  have ue := hcell 3 e rfl
  have uf := hcell 4 f rfl
  have ug := hcell 5 g rfl
  have uh := hcell 6 h rfl
  have ui := hcell 7 i rfl
  have uj := hcell 8 j rfl
  rw [Nat.add_zero] at ua
  have sa := hle.out a (by simp)
  have sb := hle.out b (by simp)
  have sd := hle.out d (by simp)
  have se := hle.out e (by simp)
  have sf := hle.out f (by simp)
  have sg := hle.out g (by simp)
  have sh := hle.out h (by simp)
  have si := hle.out i (by simp)
  have sj := hle.out j (by simp)
  clear hcell hru hlen hle
  have KK := hide (show ∀ X, Ext w1 X → X.cell? ⟨bw, off, none⟩ = some (.string a) ∧ X.cell? ⟨bw, off + 1, none⟩ = some (.string b) ∧ X.cell? ⟨bw, off + 2, none⟩ = some (.string d) ∧ X.cell? ⟨bw, off + 4, none⟩ = some (.string f) ∧ X.cell? ⟨bw, off + 7, none⟩ = some (.string i) ∧ X.cell? ⟨bw, off + 8, none⟩ = some (.string j) from fun X hx => ⟨(hx.cell (p := ⟨bw, off, none⟩) hbw).trans ua, (hx.cell (p := ⟨bw, off + 1, none⟩) hbw).trans ub, (hx.cell (p := ⟨bw, off + 2, none⟩) hbw).trans ud, (hx.cell (p := ⟨bw, off + 4, none⟩) hbw).trans uf, (hx.cell (p := ⟨bw, off + 7, none⟩) hbw).trans ui, (hx.cell (p := ⟨bw, off + 8, none⟩) hbw).trans uj⟩)
  have hE0 := (Ext.refl w1).drew
  have hE1 := ((Ext.refl w1).alloc (.cells #[.string a, .string b, .string d, .string f, .string i, .string j] 9)).drew
  have hV : RdU (w1.alloc (.cells #[.string a, .string b, .string d, .string f, .string i, .string j] 9)).drew (some ⟨w1.heap.size, 0, none⟩) 6 [a, b, d, f, i, j] := ⟨rfl, by omega, fun _ => ⟨w1.heap.size, 0, rfl, by simp, fun q hq => by rw [Nat.zero_add]; refine (Blk.new w1 9 _).get q _ ?_; match q, hq with | 0, _ => rfl | 1, _ => rfl | 2, _ => rfl | 3, _ => rfl | 4, _ => rfl | 5, _ => rfl⟩⟩
  have hsz6 : ∀ x ∈ [a, b, d, f, i, j], x.size ≤ 1048576 := fun x hx => by simp only [List.mem_cons, List.not_mem_nil, or_false] at hx; rcases hx with rfl | rfl | rfl | rfl | rfl | rfl <;> assumption
  have hnum := spec.l01Numbers_any ⟨some ⟨w1.heap.size, 0, none⟩, 6, 6⟩ [a, b, d, f, i, j] _ hV hsz6
  have k0 := KK.out _ hE0
  have k1 := KK.out _ hE1
  clear hV
  go_wp2_with fail
  go_region_held3 (fun w' => w'.cell? ⟨bw, off, none⟩ = some (.string a) ∧ w'.cell? ⟨bw, off + 1, none⟩ = some (.string b) ∧ w'.cell? ⟨bw, off + 2, none⟩ = some (.string d) ∧ w'.cell? ⟨bw, off + 4, none⟩ = some (.string f) ∧ w'.cell? ⟨bw, off + 7, none⟩ = some (.string i) ∧ w'.cell? ⟨bw, off + 8, none⟩ = some (.string j)) (first | exact k2 | exact k1 | exact k0 | go_keep | fail) (first | (go_at_call 45; refine hnum.mono ?_; rintro e2 w2 ⟨⟨vn, bn, rfl, hn1, hn2⟩, hx2⟩; have hE2 := hE1.trans hx2; have k2 := KK.out _ hE2; have hzn := hx2.size) | fail)
  replace hX := hX.trans hE2
  replace hR := hR.ext hE2
  clear k0 k1 k2 KK hnum hE0 hE1 ua ub ud uf ui uj
  have ue2 := (hE2.cell (p := ⟨bw, off + 3, none⟩) hbw).trans ue
  have ug2 := (hE2.cell (p := ⟨bw, off + 5, none⟩) hbw).trans ug
  have uh2 := (hE2.cell (p := ⟨bw, off + 6, none⟩) hbw).trans uh
  have hbw2 := Nat.lt_of_lt_of_le hbw hE2.size
  have hz2 := hE2.size
  replace hn1 := hide hn1
  replace hn2 := hide hn2
  clear ue ug uh hbw hE2
  go_wp2_with fail
  refine (spec.ReadList_any e _ se).mono ?_
  rintro e2 w3 ⟨ve, rfl, oe, hx⟩
  have lte := hide (fun k hk => (oe.lt k hk).2)
  have ug3 := (hx.cell (p := ⟨bw, off + 5, none⟩) hbw2).trans ug2
  have uh3 := (hx.cell (p := ⟨bw, off + 6, none⟩) hbw2).trans uh2
  have hbw3 := Nat.lt_of_lt_of_le hbw2 hx.size
  have hz3 := hx.size
  replace hX := hX.trans hx
  replace hR := hR.ext hx
  have hE3 : Ext w2 w3 := hx
  clear hx hbw2 ue2 ug2 uh2
  go_wp2_with fail
  refine (spec.ReadList_any g _ sg).mono ?_
  rintro e2 w4 ⟨vg, rfl, og, hx⟩
  have ltg := hide (fun k hk => (og.lt k hk).2)
  have uh4 := (hx.cell (p := ⟨bw, off + 6, none⟩) hbw3).trans uh3
  have hbw4 := Nat.lt_of_lt_of_le hbw3 hx.size
  have hz4 := hx.size
  replace hX := hX.trans hx
  replace hR := hR.ext hx
  replace oe := oe.ext hx
  have hE4 : Ext w2 w4 := hE3.trans hx
  clear hx hbw3 ug3 uh3
  go_wp2_with fail
  refine (spec.ReadMoves_any h _ sh).mono ?_
  rintro e2 w5 ⟨vh, rfl, oh, hx⟩
  have lth := hide (fun k hk => (oh.lt k hk).2)
  have hbw5 := Nat.lt_of_lt_of_le hbw4 hx.size
  have hz5 := hx.size
  replace hX := hX.trans hx
  replace hR := hR.ext hx
  replace oe := oe.ext hx
  replace og := og.ext hx
  have hE5 : Ext w2 w5 := hE4.trans hx
  clear hx hbw4 uh4
  have hNine := hide (rrO_nine hws.out)
  cases bn
  case false =>
    have hN := hide (show rrO s = none by rw [hNine.out, ← rrOf_sg (ws := [a, b, d, f, i, j]) rfl]; exact rrOf_none (.inl (hn2.out rfl)))
    obtain ⟨r0, r1, r2, r3, r4, r5, r6, r7, r8⟩ := hR.c9
    have f0 := hR.frozen 0
    have f1 := hR.frozen 1
    have f2 := hR.frozen 2
    have f3 := hR.frozen 3
    have f4 := hR.frozen 4
    have f5 := hR.frozen 5
    have f6 := hR.frozen 6
    have f7 := hR.frozen 7
    have f8 := hR.frozen 8
    generalize hbR : w.heap.size = bR at hR r0 r1 r2 r3 r4 r5 r6 r7 r8 f0 f1 f2 f3 f4 f5 f6 f7 f8 ⊢
    replace hbR := hide hbR
    go_wp2
    have hbl := Nat.le_of_eq hbR.out
    have hRn := hR.set9 (.int .i64 0) (.int .i64 0) (.int .i64 0) (.slice none 0 0) (.int .i64 0) (.slice none 0 0) (.slice none 0 0) (.int .i64 0) (.int .i64 0)
    obtain ⟨m0, m1, m2, m3, m4, m5, m6, m7, m8⟩ := hRn.c9
    have hXn := ((((((((hX.off bR 0 hbl (.int .i64 0)).off bR 1 hbl (.int .i64 0)).off bR 2 hbl (.int .i64 0)).off bR 3 hbl (.slice none 0 0)).off bR 4 hbl (.int .i64 0)).off bR 5 hbl (.slice none 0 0)).off bR 6 hbl (.slice none 0 0)).off bR 7 hbl (.int .i64 0)).off bR 8 hbl (.int .i64 0)
    refine bodyPost_ret (v := .tuple #[.agg #[.int .i64 nilRec.a, .int .i64 nilRec.b, .int .i64 nilRec.c, .slice nilRec.p.x.A nilRec.p.x.n nilRec.p.x.c, .int .i64 nilRec.d, .slice nilRec.p.y.A nilRec.p.y.n nilRec.p.y.c, .slice nilRec.p.z.A nilRec.p.z.n nilRec.p.z.c, .int .i64 nilRec.e, .int .i64 nilRec.f], .int .i64 6]) (by simp [results, Tryz.results15, go_sem, m0, m1, m2, m3, m4, m5, m6, m7, m8, nilRec, nilR]) rfl (RrP.bad hN.out hXn)
  obtain ⟨ns, hns, on⟩ := hn1.out rfl
  obtain ⟨n1, n2, n3, n4, n5, n6, rfl⟩ := list_six (mp_len hns)
  replace hns := hide hns
  clear hn1 hn2
  cases hq : rlO e
  case none =>
    have hc := (rl_none hq).1
    rw [hc]
    clear hc
    have hN := hide (show rrO s = none by rw [hNine.out, ← rrOf_sg (ws := [a, b, d, f, i, j]) rfl]; exact rrOf_none (.inr (.inl hq)))
    obtain ⟨r0, r1, r2, r3, r4, r5, r6, r7, r8⟩ := hR.c9
    have f0 := hR.frozen 0
    have f1 := hR.frozen 1
    have f2 := hR.frozen 2
    have f3 := hR.frozen 3
    have f4 := hR.frozen 4
    have f5 := hR.frozen 5
    have f6 := hR.frozen 6
    have f7 := hR.frozen 7
    have f8 := hR.frozen 8
    generalize hbR : w.heap.size = bR at hR r0 r1 r2 r3 r4 r5 r6 r7 r8 f0 f1 f2 f3 f4 f5 f6 f7 f8 ⊢
    replace hbR := hide hbR
    go_wp2
    have hbl := Nat.le_of_eq hbR.out
    have hRn := hR.set9 (.int .i64 0) (.int .i64 0) (.int .i64 0) (.slice none 0 0) (.int .i64 0) (.slice none 0 0) (.slice none 0 0) (.int .i64 0) (.int .i64 0)
    obtain ⟨m0, m1, m2, m3, m4, m5, m6, m7, m8⟩ := hRn.c9
    have hXn := ((((((((hX.off bR 0 hbl (.int .i64 0)).off bR 1 hbl (.int .i64 0)).off bR 2 hbl (.int .i64 0)).off bR 3 hbl (.slice none 0 0)).off bR 4 hbl (.int .i64 0)).off bR 5 hbl (.slice none 0 0)).off bR 6 hbl (.slice none 0 0)).off bR 7 hbl (.int .i64 0)).off bR 8 hbl (.int .i64 0)
    refine bodyPost_ret (v := .tuple #[.agg #[.int .i64 nilRec.a, .int .i64 nilRec.b, .int .i64 nilRec.c, .slice nilRec.p.x.A nilRec.p.x.n nilRec.p.x.c, .int .i64 nilRec.d, .slice nilRec.p.y.A nilRec.p.y.n nilRec.p.y.c, .slice nilRec.p.z.A nilRec.p.z.n nilRec.p.z.c, .int .i64 nilRec.e, .int .i64 nilRec.f], .int .i64 6]) (by simp [results, Tryz.results15, go_sem, m0, m1, m2, m3, m4, m5, m6, m7, m8, nilRec, nilR]) rfl (RrP.bad hN.out hXn)
  rename_i le
  have hce := hide (rl_some hq)
  have hbe := rlO_le hq
  rw [hce.out.1]
  rw [hce.out.2] at oe
  have hpe := hide hq
  clear hq
  cases hq : rlO g
  case none =>
    have hc := (rl_none hq).1
    rw [hc]
    clear hc
    have hN := hide (show rrO s = none by rw [hNine.out, ← rrOf_sg (ws := [a, b, d, f, i, j]) rfl]; exact rrOf_none (.inr (.inr (.inl hq))))
    obtain ⟨r0, r1, r2, r3, r4, r5, r6, r7, r8⟩ := hR.c9
    have f0 := hR.frozen 0
    have f1 := hR.frozen 1
    have f2 := hR.frozen 2
    have f3 := hR.frozen 3
    have f4 := hR.frozen 4
    have f5 := hR.frozen 5
    have f6 := hR.frozen 6
    have f7 := hR.frozen 7
    have f8 := hR.frozen 8
    generalize hbR : w.heap.size = bR at hR r0 r1 r2 r3 r4 r5 r6 r7 r8 f0 f1 f2 f3 f4 f5 f6 f7 f8 ⊢
    replace hbR := hide hbR
    go_wp2
    have hbl := Nat.le_of_eq hbR.out
    have hRn := hR.set9 (.int .i64 0) (.int .i64 0) (.int .i64 0) (.slice none 0 0) (.int .i64 0) (.slice none 0 0) (.slice none 0 0) (.int .i64 0) (.int .i64 0)
    obtain ⟨m0, m1, m2, m3, m4, m5, m6, m7, m8⟩ := hRn.c9
    have hXn := ((((((((hX.off bR 0 hbl (.int .i64 0)).off bR 1 hbl (.int .i64 0)).off bR 2 hbl (.int .i64 0)).off bR 3 hbl (.slice none 0 0)).off bR 4 hbl (.int .i64 0)).off bR 5 hbl (.slice none 0 0)).off bR 6 hbl (.slice none 0 0)).off bR 7 hbl (.int .i64 0)).off bR 8 hbl (.int .i64 0)
    refine bodyPost_ret (v := .tuple #[.agg #[.int .i64 nilRec.a, .int .i64 nilRec.b, .int .i64 nilRec.c, .slice nilRec.p.x.A nilRec.p.x.n nilRec.p.x.c, .int .i64 nilRec.d, .slice nilRec.p.y.A nilRec.p.y.n nilRec.p.y.c, .slice nilRec.p.z.A nilRec.p.z.n nilRec.p.z.c, .int .i64 nilRec.e, .int .i64 nilRec.f], .int .i64 6]) (by simp [results, Tryz.results15, go_sem, m0, m1, m2, m3, m4, m5, m6, m7, m8, nilRec, nilR]) rfl (RrP.bad hN.out hXn)
  rename_i lg
  have hcg := hide (rl_some hq)
  have hbg := rlO_le hq
  rw [hcg.out.1]
  rw [hcg.out.2] at og
  have hpg := hide hq
  clear hq
  cases hq : rmO h
  case none =>
    have hc := (rm_none hq).1
    rw [hc]
    clear hc
    have hN := hide (show rrO s = none by rw [hNine.out, ← rrOf_sg (ws := [a, b, d, f, i, j]) rfl]; exact rrOf_none (.inr (.inr (.inr hq))))
    obtain ⟨r0, r1, r2, r3, r4, r5, r6, r7, r8⟩ := hR.c9
    have f0 := hR.frozen 0
    have f1 := hR.frozen 1
    have f2 := hR.frozen 2
    have f3 := hR.frozen 3
    have f4 := hR.frozen 4
    have f5 := hR.frozen 5
    have f6 := hR.frozen 6
    have f7 := hR.frozen 7
    have f8 := hR.frozen 8
    generalize hbR : w.heap.size = bR at hR r0 r1 r2 r3 r4 r5 r6 r7 r8 f0 f1 f2 f3 f4 f5 f6 f7 f8 ⊢
    replace hbR := hide hbR
    go_wp2
    have hbl := Nat.le_of_eq hbR.out
    have hRn := hR.set9 (.int .i64 0) (.int .i64 0) (.int .i64 0) (.slice none 0 0) (.int .i64 0) (.slice none 0 0) (.slice none 0 0) (.int .i64 0) (.int .i64 0)
    obtain ⟨m0, m1, m2, m3, m4, m5, m6, m7, m8⟩ := hRn.c9
    have hXn := ((((((((hX.off bR 0 hbl (.int .i64 0)).off bR 1 hbl (.int .i64 0)).off bR 2 hbl (.int .i64 0)).off bR 3 hbl (.slice none 0 0)).off bR 4 hbl (.int .i64 0)).off bR 5 hbl (.slice none 0 0)).off bR 6 hbl (.slice none 0 0)).off bR 7 hbl (.int .i64 0)).off bR 8 hbl (.int .i64 0)
    refine bodyPost_ret (v := .tuple #[.agg #[.int .i64 nilRec.a, .int .i64 nilRec.b, .int .i64 nilRec.c, .slice nilRec.p.x.A nilRec.p.x.n nilRec.p.x.c, .int .i64 nilRec.d, .slice nilRec.p.y.A nilRec.p.y.n nilRec.p.y.c, .slice nilRec.p.z.A nilRec.p.z.n nilRec.p.z.c, .int .i64 nilRec.e, .int .i64 nilRec.f], .int .i64 6]) (by simp [results, Tryz.results15, go_sem, m0, m1, m2, m3, m4, m5, m6, m7, m8, nilRec, nilR]) rfl (RrP.bad hN.out hXn)
  rename_i lh
  have hch := hide (rm_some hq)
  have hbh := (rmO_ok hq).2
  rw [hch.out.1]
  rw [hch.out.2] at oh
  have hph := hide hq
  clear hq
  have hRec := hide (show rrO s = if okR (mkRec n1 n2 n3 n4 n5 n6 le lg lh) = true then some (mkRec n1 n2 n3 n4 n5 n6 le lg lh) else none by rw [hNine.out, mp_sg_pw hns.out, hpe.out, hpg.out, hph.out]; exact rrOf_some)
  obtain ⟨yv, hyv⟩ : ∃ yv, Hid (yv = mkRec n1 n2 n3 n4 n5 n6 le lg lh) := ⟨_, rfl⟩
  rw [← hyv.out] at hRec
  have on5 := on.ext hE5
  have hnb := on5.rd
  have hnl : vn.n = 6 := hnb.1
  obtain ⟨An, nn, cn⟩ := vn
  simp only at hnl hnb on on5
  subst hnl
  obtain ⟨bn, on_, rfl, hbn, hnc⟩ := hnb.2.2 (by omega)
  have hxR : OwnR w5 (w.heap.size + 1) ⟨n1, n2, n3, ⟨ve, vg, vh⟩, n4, n5, n6⟩ yv := by
    rw [hyv.out]
    exact ⟨Own3.of3 (l := ⟨le, lg, lh⟩) (p := ⟨ve, vg, vh⟩) (oe.mono (by omega)) (og.mono (by omega)) (oh.mono (by omega)) hbe hbg (by simp only; omega) (fun k q1 q2 => by have a1 := lte.out k q1; have a2 := (og.lt k q2).1; omega) (fun k q1 q2 => by have a1 := lte.out k q1; have a2 := (oh.lt k q2).1; omega) (fun k q1 q2 => by have a1 := ltg.out k q1; have a2 := (oh.lt k q2).1; omega), rfl, rfl, rfl, rfl, rfl, rfl⟩
  have i0 := hnc 0 (by omega)
  have i1 := hnc 1 (by omega)
  have i2 := hnc 2 (by omega)
  have i3 := hnc 3 (by omega)
  have i4 := hnc 4 (by omega)
  have i5 := hnc 5 (by omega)
  simp only [Nat.add_zero, List.getD_cons_zero, List.getD_cons_succ] at i0 i1 i2 i3 i4 i5
  clear hnc oe og oh on on5
  have KN := hide (show ∀ X, Ext w5 X → X.cell? ⟨bn, on_, none⟩ = some (.int .i64 n1) ∧ X.cell? ⟨bn, on_ + 1, none⟩ = some (.int .i64 n2) ∧ X.cell? ⟨bn, on_ + 2, none⟩ = some (.int .i64 n3) ∧ X.cell? ⟨bn, on_ + 3, none⟩ = some (.int .i64 n4) ∧ X.cell? ⟨bn, on_ + 4, none⟩ = some (.int .i64 n5) ∧ X.cell? ⟨bn, on_ + 5, none⟩ = some (.int .i64 n6) from fun X hx => ⟨(hx.cell (p := ⟨bn, on_, none⟩) hbn).trans i0, (hx.cell (p := ⟨bn, on_ + 1, none⟩) hbn).trans i1, (hx.cell (p := ⟨bn, on_ + 2, none⟩) hbn).trans i2, (hx.cell (p := ⟨bn, on_ + 3, none⟩) hbn).trans i3, (hx.cell (p := ⟨bn, on_ + 4, none⟩) hbn).trans i4, (hx.cell (p := ⟨bn, on_ + 5, none⟩) hbn).trans i5⟩)
  have k0 := KN.out _ (Ext.refl w5).drew
  clear i0 i1 i2 i3 i4 i5
  go_wp2_with fail
  go_region_held3 (fun w' => w'.cell? ⟨bn, on_, none⟩ = some (.int .i64 n1) ∧ w'.cell? ⟨bn, on_ + 1, none⟩ = some (.int .i64 n2) ∧ w'.cell? ⟨bn, on_ + 2, none⟩ = some (.int .i64 n3) ∧ w'.cell? ⟨bn, on_ + 3, none⟩ = some (.int .i64 n4) ∧ w'.cell? ⟨bn, on_ + 4, none⟩ = some (.int .i64 n5) ∧ w'.cell? ⟨bn, on_ + 5, none⟩ = some (.int .i64 n6)) (first | exact k0 | exact KN.out _ ((Ext.refl w5).alloc _) | exact KN.out _ ((Ext.refl w5).drew.alloc _) | exact KN.out _ ((Ext.refl w5).alloc _).drew | go_keep | fail) (fail)
  clear k0 KN
  have hO := (hxR.alloc (.cells #[.int .i64 n1, .int .i64 n2, .int .i64 n3, .slice ve.A ve.n ve.c, .int .i64 n4, .slice vg.A vg.n vg.c, .slice vh.A vh.n vh.c, .int .i64 n5, .int .i64 n6] 36)).drew
  replace hX := (hX.alloc (.cells #[.int .i64 n1, .int .i64 n2, .int .i64 n3, .slice ve.A ve.n ve.c, .int .i64 n4, .slice vg.A vg.n vg.c, .slice vh.A vh.n vh.c, .int .i64 n5, .int .i64 n6] 36)).drew
  replace hR := (hR.alloc (.cells #[.int .i64 n1, .int .i64 n2, .int .i64 n3, .slice ve.A ve.n ve.c, .int .i64 n4, .slice vg.A vg.n vg.c, .slice vh.A vh.n vh.c, .int .i64 n5, .int .i64 n6] 36)).drew
  have hB := (Blk.new w5 36 (#[.int .i64 n1, .int .i64 n2, .int .i64 n3, .slice ve.A ve.n ve.c, .int .i64 n4, .slice vg.A vg.n vg.c, .slice vh.A vh.n vh.c, .int .i64 n5, .int .i64 n6])).drew
  have hzr : w.heap.size < w5.heap.size := by omega
  clear hxR
  obtain ⟨q0, q1, q2, q3, q4, q5, q6, q7, q8⟩ := hB.c9
  go_wp2_with fail
  refine (spec.IsRecord_any ⟨n1, n2, n3, ⟨ve, vg, vh⟩, n4, n5, n6⟩ yv _ hO.rd).mono ?_
  rintro e6 w6 ⟨rfl, hx⟩
  replace hX := hX.trans hx
  replace hR := hR.ext hx
  replace hB := hB.ext hx
  replace hO := hO.ext hx
  clear hx q0 q1 q2 q3 q4 q5 q6 q7 q8
  cases hok : okR yv
  case false =>
    have hN := hide (show rrO s = none by rw [hRec.out, hok]; rfl)
    clear hok
    obtain ⟨q0, q1, q2, q3, q4, q5, q6, q7, q8⟩ := hB.c9
    obtain ⟨r0, r1, r2, r3, r4, r5, r6, r7, r8⟩ := hR.c9
    have f0 := hR.frozen 0
    have f1 := hR.frozen 1
    have f2 := hR.frozen 2
    have f3 := hR.frozen 3
    have f4 := hR.frozen 4
    have f5 := hR.frozen 5
    have f6 := hR.frozen 6
    have f7 := hR.frozen 7
    have f8 := hR.frozen 8
    generalize hbR : w.heap.size = bR at hR r0 r1 r2 r3 r4 r5 r6 r7 r8 f0 f1 f2 f3 f4 f5 f6 f7 f8 ⊢
    replace hbR := hide hbR
    go_wp2
    have hbl := Nat.le_of_eq hbR.out
    have hRn := hR.set9 (.int .i64 0) (.int .i64 0) (.int .i64 0) (.slice none 0 0) (.int .i64 0) (.slice none 0 0) (.slice none 0 0) (.int .i64 0) (.int .i64 0)
    obtain ⟨m0, m1, m2, m3, m4, m5, m6, m7, m8⟩ := hRn.c9
    have hXn := ((((((((hX.off bR 0 hbl (.int .i64 0)).off bR 1 hbl (.int .i64 0)).off bR 2 hbl (.int .i64 0)).off bR 3 hbl (.slice none 0 0)).off bR 4 hbl (.int .i64 0)).off bR 5 hbl (.slice none 0 0)).off bR 6 hbl (.slice none 0 0)).off bR 7 hbl (.int .i64 0)).off bR 8 hbl (.int .i64 0)
    refine bodyPost_ret (v := .tuple #[.agg #[.int .i64 nilRec.a, .int .i64 nilRec.b, .int .i64 nilRec.c, .slice nilRec.p.x.A nilRec.p.x.n nilRec.p.x.c, .int .i64 nilRec.d, .slice nilRec.p.y.A nilRec.p.y.n nilRec.p.y.c, .slice nilRec.p.z.A nilRec.p.z.n nilRec.p.z.c, .int .i64 nilRec.e, .int .i64 nilRec.f], .int .i64 6]) (by simp [results, Tryz.results15, go_sem, m0, m1, m2, m3, m4, m5, m6, m7, m8, nilRec, nilR]) rfl (RrP.bad hN.out hXn)
  have hN := hide (show rrO s = some yv by rw [hRec.out, hok]; rfl)
  have hst : recT yv = s := (rrO_text hN.out).1.symm
  have hT := fun W h => spec.l16Text_any ⟨n1, n2, n3, ⟨ve, vg, vh⟩, n4, n5, n6⟩ yv W h hok
  rw [hst] at hT
  clear hst hok
  obtain ⟨q0, q1, q2, q3, q4, q5, q6, q7, q8⟩ := hB.c9
  go_wp2_with fail
  refine (hT _ hO.rd).mono ?_
  rintro e7 w7 ⟨rfl, hx⟩
  replace hX := hX.trans hx
  replace hR := hR.ext hx
  replace hB := hB.ext hx
  replace hO := hO.ext hx
  clear hx hT q0 q1 q2 q3 q4 q5 q6 q7 q8
  obtain ⟨q0, q1, q2, q3, q4, q5, q6, q7, q8⟩ := hB.c9
  obtain ⟨r0, r1, r2, r3, r4, r5, r6, r7, r8⟩ := hR.c9
  have f0 := hR.frozen 0
  have f1 := hR.frozen 1
  have f2 := hR.frozen 2
  have f3 := hR.frozen 3
  have f4 := hR.frozen 4
  have f5 := hR.frozen 5
  have f6 := hR.frozen 6
  have f7 := hR.frozen 7
  have f8 := hR.frozen 8
  generalize hbB : w5.heap.size = bB at hB q0 q1 q2 q3 q4 q5 q6 q7 q8 ⊢
  replace hbB := hide hbB
  generalize hbR : w.heap.size = bR at hR r0 r1 r2 r3 r4 r5 r6 r7 r8 f0 f1 f2 f3 f4 f5 f6 f7 f8 ⊢
  replace hbR := hide hbR
  have nn1 : ¬ bR = bB := by have a1 := hbR.out; have a2 := hbB.out; omega
  have nn2 : ¬ bB = bR := fun e => nn1 e.symm
  go_wp2
  have hbl := Nat.le_of_eq hbR.out
  have hbl2 : bR < w.heap.size + 1 := by have := hbR.out; omega
  have hRn := hR.set9 (.int .i64 n1) (.int .i64 n2) (.int .i64 n3) (.slice ve.A ve.n ve.c) (.int .i64 n4) (.slice vg.A vg.n vg.c) (.slice vh.A vh.n vh.c) (.int .i64 n5) (.int .i64 n6)
  obtain ⟨m0, m1, m2, m3, m4, m5, m6, m7, m8⟩ := hRn.c9
  have hXn := ((((((((hX.off bR 0 hbl (.int .i64 n1)).off bR 1 hbl (.int .i64 n2)).off bR 2 hbl (.int .i64 n3)).off bR 3 hbl (.slice ve.A ve.n ve.c)).off bR 4 hbl (.int .i64 n4)).off bR 5 hbl (.slice vg.A vg.n vg.c)).off bR 6 hbl (.slice vh.A vh.n vh.c)).off bR 7 hbl (.int .i64 n5)).off bR 8 hbl (.int .i64 n6)
  have hOn := ((((((((hO.1.awayP (g := bR) hbl2 0 (.int .i64 n1)).awayP (g := bR) hbl2 1 (.int .i64 n2)).awayP (g := bR) hbl2 2 (.int .i64 n3)).awayP (g := bR) hbl2 3 (.slice ve.A ve.n ve.c)).awayP (g := bR) hbl2 4 (.int .i64 n4)).awayP (g := bR) hbl2 5 (.slice vg.A vg.n vg.c)).awayP (g := bR) hbl2 6 (.slice vh.A vh.n vh.c)).awayP (g := bR) hbl2 7 (.int .i64 n5)).awayP (g := bR) hbl2 8 (.int .i64 n6)
  refine bodyPost_ret (v := .tuple #[.agg #[.int .i64 n1, .int .i64 n2, .int .i64 n3, .slice ve.A ve.n ve.c, .int .i64 n4, .slice vg.A vg.n vg.c, .slice vh.A vh.n vh.c, .int .i64 n5, .int .i64 n6], .int .i64 0]) (by simp [results, Tryz.results15, go_sem, m0, m1, m2, m3, m4, m5, m6, m7, m8]) rfl (RrP.good (x := ⟨n1, n2, n3, ⟨ve, vg, vh⟩, n4, n5, n6⟩) hN.out ⟨hOn.mono (by omega), hO.2⟩ hXn)
set_option maxRecDepth 20000 in
set_option maxHeartbeats 8000000 in
theorem impl.ReadRecord_any (s : ByteArray) (w : World) (hs : s.size ≤ 1048576) (hL : Lb w) :
    Calls Tryz.prog 16 #[.string s] w fun e w' => RrP w w' s e := by
  have hX := (Ext.refl w).alloc (.cells #[.int .i64 0, .int .i64 0, .int .i64 0, .slice none 0 0, .int .i64 0, .slice none 0 0, .slice none 0 0, .int .i64 0, .int .i64 0] 36)
  have hR := Blk.new w 36 (#[.int .i64 0, .int .i64 0, .int .i64 0, .slice none 0 0, .int .i64 0, .slice none 0 0, .slice none 0 0, .int .i64 0, .int .i64 0])
  have hsp := fun W h => split_one s 47 W hs h
  have hle := hide (fun x hx => Nat.le_trans (splitW_le 47 s x hx) hs)
  go_enter Tryz.func16, Tryz.ntmps16
  go_wp2_with fail
  go_fit (hsp _ (hL.ext hX))
  rintro e w1 ⟨v0, rfl, ov, hx⟩
  have hz0 : w.heap.size + 1 ≤ w1.heap.size := by have := hx.size; simpa using this
  replace hX := hX.trans hx
  replace hR := hR.ext hx
  clear hx hsp
  obtain ⟨ws, hws⟩ : ∃ ws, Hid (splitW 47 s = ws) := ⟨_, rfl⟩
  rw [hws.out] at ov hle
  have hlen := hide (show v0.n = ws.length from ov.rd.1)
  have hru := ov.rd
  obtain ⟨A, n, c⟩ := v0
  simp only at hlen hru ⊢
  clear ov
  by_cases h9 : n = 9
  case neg =>
    have hne : ((n : Int) == 9) = false := by rw [beq_eq_false_iff_ne]; omega
    have hN := hide (rrO_len (s := s) (by rw [hws.out, ← hlen.out]; exact h9))
    replace h9 := hide h9
    clear hru
    obtain ⟨r0, r1, r2, r3, r4, r5, r6, r7, r8⟩ := hR.c9
    have f0 := hR.frozen 0
    have f1 := hR.frozen 1
    have f2 := hR.frozen 2
    have f3 := hR.frozen 3
    have f4 := hR.frozen 4
    have f5 := hR.frozen 5
    have f6 := hR.frozen 6
    have f7 := hR.frozen 7
    have f8 := hR.frozen 8
    generalize hbR : w.heap.size = bR at hR r0 r1 r2 r3 r4 r5 r6 r7 r8 f0 f1 f2 f3 f4 f5 f6 f7 f8 ⊢
    replace hbR := hide hbR
    go_wp2
    have hbl := Nat.le_of_eq hbR.out
    have hRn := hR.set9 (.int .i64 0) (.int .i64 0) (.int .i64 0) (.slice none 0 0) (.int .i64 0) (.slice none 0 0) (.slice none 0 0) (.int .i64 0) (.int .i64 0)
    obtain ⟨m0, m1, m2, m3, m4, m5, m6, m7, m8⟩ := hRn.c9
    have hXn := ((((((((hX.off bR 0 hbl (.int .i64 0)).off bR 1 hbl (.int .i64 0)).off bR 2 hbl (.int .i64 0)).off bR 3 hbl (.slice none 0 0)).off bR 4 hbl (.int .i64 0)).off bR 5 hbl (.slice none 0 0)).off bR 6 hbl (.slice none 0 0)).off bR 7 hbl (.int .i64 0)).off bR 8 hbl (.int .i64 0)
    refine bodyPost_ret (v := .tuple #[.agg #[.int .i64 nilRec.a, .int .i64 nilRec.b, .int .i64 nilRec.c, .slice nilRec.p.x.A nilRec.p.x.n nilRec.p.x.c, .int .i64 nilRec.d, .slice nilRec.p.y.A nilRec.p.y.n nilRec.p.y.c, .slice nilRec.p.z.A nilRec.p.z.n nilRec.p.z.c, .int .i64 nilRec.e, .int .i64 nilRec.f], .int .i64 6]) (by simp [results, Tryz.results16, go_sem, m0, m1, m2, m3, m4, m5, m6, m7, m8, nilRec, nilR]) rfl (RrP.bad hN.out hXn)
  subst h9
  obtain ⟨a, b, d, e, f, g, h, i, j, rfl⟩ := list_nine hlen.out.symm
  obtain ⟨bw, off, rfl, hbw, hcell⟩ := words9 hru (by omega)
  have ua := hcell 0 a rfl
  have ub := hcell 1 b rfl
  have ud := hcell 2 d rfl
  have ue := hcell 3 e rfl
  have uf := hcell 4 f rfl
  have ug := hcell 5 g rfl
  have uh := hcell 6 h rfl
  have ui := hcell 7 i rfl
  have uj := hcell 8 j rfl
  rw [Nat.add_zero] at ua
  have sa := hle.out a (by simp)
  have sb := hle.out b (by simp)
  have sd := hle.out d (by simp)
  have se := hle.out e (by simp)
  have sf := hle.out f (by simp)
  have sg := hle.out g (by simp)
  have sh := hle.out h (by simp)
  have si := hle.out i (by simp)
  have sj := hle.out j (by simp)
  clear hcell hru hlen hle
  have KK := hide (show ∀ X, Ext w1 X → X.cell? ⟨bw, off, none⟩ = some (.string a) ∧ X.cell? ⟨bw, off + 1, none⟩ = some (.string b) ∧ X.cell? ⟨bw, off + 2, none⟩ = some (.string d) ∧ X.cell? ⟨bw, off + 4, none⟩ = some (.string f) ∧ X.cell? ⟨bw, off + 7, none⟩ = some (.string i) ∧ X.cell? ⟨bw, off + 8, none⟩ = some (.string j) from fun X hx => ⟨(hx.cell (p := ⟨bw, off, none⟩) hbw).trans ua, (hx.cell (p := ⟨bw, off + 1, none⟩) hbw).trans ub, (hx.cell (p := ⟨bw, off + 2, none⟩) hbw).trans ud, (hx.cell (p := ⟨bw, off + 4, none⟩) hbw).trans uf, (hx.cell (p := ⟨bw, off + 7, none⟩) hbw).trans ui, (hx.cell (p := ⟨bw, off + 8, none⟩) hbw).trans uj⟩)
  have hE0 := (Ext.refl w1).drew
  have hE1 := ((Ext.refl w1).alloc (.cells #[.string a, .string b, .string d, .string f, .string i, .string j] 9)).drew
  have hV : RdU (w1.alloc (.cells #[.string a, .string b, .string d, .string f, .string i, .string j] 9)).drew (some ⟨w1.heap.size, 0, none⟩) 6 [a, b, d, f, i, j] := ⟨rfl, by omega, fun _ => ⟨w1.heap.size, 0, rfl, by simp, fun q hq => by rw [Nat.zero_add]; refine (Blk.new w1 9 _).get q _ ?_; match q, hq with | 0, _ => rfl | 1, _ => rfl | 2, _ => rfl | 3, _ => rfl | 4, _ => rfl | 5, _ => rfl⟩⟩
  have hsz6 : ∀ x ∈ [a, b, d, f, i, j], x.size ≤ 1048576 := fun x hx => by simp only [List.mem_cons, List.not_mem_nil, or_false] at hx; rcases hx with rfl | rfl | rfl | rfl | rfl | rfl <;> assumption
  have hnum := impl.readDecimals_any ⟨some ⟨w1.heap.size, 0, none⟩, 6, 6⟩ [a, b, d, f, i, j] _ hV hsz6 (hL.ext (hX.trans hE1))
  have k0 := KK.out _ hE0
  have k1 := KK.out _ hE1
  clear hV
  go_wp2_with fail
  go_region_held3 (fun w' => w'.cell? ⟨bw, off, none⟩ = some (.string a) ∧ w'.cell? ⟨bw, off + 1, none⟩ = some (.string b) ∧ w'.cell? ⟨bw, off + 2, none⟩ = some (.string d) ∧ w'.cell? ⟨bw, off + 4, none⟩ = some (.string f) ∧ w'.cell? ⟨bw, off + 7, none⟩ = some (.string i) ∧ w'.cell? ⟨bw, off + 8, none⟩ = some (.string j)) (first | exact k2 | exact k1 | exact k0 | go_keep | fail) (first | (go_at_call 49; refine hnum.mono ?_; rintro e2 w2 ⟨⟨vn, bn, rfl, hn1, hn2⟩, hx2⟩; have hE2 := hE1.trans hx2; have k2 := KK.out _ hE2; have hzn := hx2.size) | fail)
  replace hX := hX.trans hE2
  replace hR := hR.ext hE2
  clear k0 k1 k2 KK hnum hE0 hE1 ua ub ud uf ui uj
  have ue2 := (hE2.cell (p := ⟨bw, off + 3, none⟩) hbw).trans ue
  have ug2 := (hE2.cell (p := ⟨bw, off + 5, none⟩) hbw).trans ug
  have uh2 := (hE2.cell (p := ⟨bw, off + 6, none⟩) hbw).trans uh
  have hbw2 := Nat.lt_of_lt_of_le hbw hE2.size
  have hz2 := hE2.size
  replace hn1 := hide hn1
  replace hn2 := hide hn2
  clear ue ug uh hbw hE2
  go_wp2_with fail
  refine (impl.ReadList_any e _ se (hL.ext hX)).mono ?_
  rintro e2 w3 ⟨ve, rfl, oe, hx⟩
  have lte := hide (fun k hk => (oe.lt k hk).2)
  have ug3 := (hx.cell (p := ⟨bw, off + 5, none⟩) hbw2).trans ug2
  have uh3 := (hx.cell (p := ⟨bw, off + 6, none⟩) hbw2).trans uh2
  have hbw3 := Nat.lt_of_lt_of_le hbw2 hx.size
  have hz3 := hx.size
  replace hX := hX.trans hx
  replace hR := hR.ext hx
  have hE3 : Ext w2 w3 := hx
  clear hx hbw2 ue2 ug2 uh2
  go_wp2_with fail
  refine (impl.ReadList_any g _ sg (hL.ext hX)).mono ?_
  rintro e2 w4 ⟨vg, rfl, og, hx⟩
  have ltg := hide (fun k hk => (og.lt k hk).2)
  have uh4 := (hx.cell (p := ⟨bw, off + 6, none⟩) hbw3).trans uh3
  have hbw4 := Nat.lt_of_lt_of_le hbw3 hx.size
  have hz4 := hx.size
  replace hX := hX.trans hx
  replace hR := hR.ext hx
  replace oe := oe.ext hx
  have hE4 : Ext w2 w4 := hE3.trans hx
  clear hx hbw3 ug3 uh3
  go_wp2_with fail
  refine (impl.ReadMoves_any h _ sh (hL.ext hX)).mono ?_
  rintro e2 w5 ⟨vh, rfl, oh, hx⟩
  have lth := hide (fun k hk => (oh.lt k hk).2)
  have hbw5 := Nat.lt_of_lt_of_le hbw4 hx.size
  have hz5 := hx.size
  replace hX := hX.trans hx
  replace hR := hR.ext hx
  replace oe := oe.ext hx
  replace og := og.ext hx
  have hE5 : Ext w2 w5 := hE4.trans hx
  clear hx hbw4 uh4
  have hNine := hide (rrO_nine hws.out)
  cases bn
  case false =>
    have hN := hide (show rrO s = none by rw [hNine.out]; exact rrOf_none (.inl (hn2.out rfl)))
    obtain ⟨r0, r1, r2, r3, r4, r5, r6, r7, r8⟩ := hR.c9
    have f0 := hR.frozen 0
    have f1 := hR.frozen 1
    have f2 := hR.frozen 2
    have f3 := hR.frozen 3
    have f4 := hR.frozen 4
    have f5 := hR.frozen 5
    have f6 := hR.frozen 6
    have f7 := hR.frozen 7
    have f8 := hR.frozen 8
    generalize hbR : w.heap.size = bR at hR r0 r1 r2 r3 r4 r5 r6 r7 r8 f0 f1 f2 f3 f4 f5 f6 f7 f8 ⊢
    replace hbR := hide hbR
    go_wp2
    have hbl := Nat.le_of_eq hbR.out
    have hRn := hR.set9 (.int .i64 0) (.int .i64 0) (.int .i64 0) (.slice none 0 0) (.int .i64 0) (.slice none 0 0) (.slice none 0 0) (.int .i64 0) (.int .i64 0)
    obtain ⟨m0, m1, m2, m3, m4, m5, m6, m7, m8⟩ := hRn.c9
    have hXn := ((((((((hX.off bR 0 hbl (.int .i64 0)).off bR 1 hbl (.int .i64 0)).off bR 2 hbl (.int .i64 0)).off bR 3 hbl (.slice none 0 0)).off bR 4 hbl (.int .i64 0)).off bR 5 hbl (.slice none 0 0)).off bR 6 hbl (.slice none 0 0)).off bR 7 hbl (.int .i64 0)).off bR 8 hbl (.int .i64 0)
    refine bodyPost_ret (v := .tuple #[.agg #[.int .i64 nilRec.a, .int .i64 nilRec.b, .int .i64 nilRec.c, .slice nilRec.p.x.A nilRec.p.x.n nilRec.p.x.c, .int .i64 nilRec.d, .slice nilRec.p.y.A nilRec.p.y.n nilRec.p.y.c, .slice nilRec.p.z.A nilRec.p.z.n nilRec.p.z.c, .int .i64 nilRec.e, .int .i64 nilRec.f], .int .i64 6]) (by simp [results, Tryz.results16, go_sem, m0, m1, m2, m3, m4, m5, m6, m7, m8, nilRec, nilR]) rfl (RrP.bad hN.out hXn)
  obtain ⟨ns, hns, on⟩ := hn1.out rfl
  obtain ⟨n1, n2, n3, n4, n5, n6, rfl⟩ := list_six (mp_len hns)
  replace hns := hide hns
  clear hn1 hn2
  cases hq : rlO e
  case none =>
    have hc := (rl_none hq).1
    rw [hc]
    clear hc
    have hN := hide (show rrO s = none by rw [hNine.out]; exact rrOf_none (.inr (.inl hq)))
    obtain ⟨r0, r1, r2, r3, r4, r5, r6, r7, r8⟩ := hR.c9
    have f0 := hR.frozen 0
    have f1 := hR.frozen 1
    have f2 := hR.frozen 2
    have f3 := hR.frozen 3
    have f4 := hR.frozen 4
    have f5 := hR.frozen 5
    have f6 := hR.frozen 6
    have f7 := hR.frozen 7
    have f8 := hR.frozen 8
    generalize hbR : w.heap.size = bR at hR r0 r1 r2 r3 r4 r5 r6 r7 r8 f0 f1 f2 f3 f4 f5 f6 f7 f8 ⊢
    replace hbR := hide hbR
    go_wp2
    have hbl := Nat.le_of_eq hbR.out
    have hRn := hR.set9 (.int .i64 0) (.int .i64 0) (.int .i64 0) (.slice none 0 0) (.int .i64 0) (.slice none 0 0) (.slice none 0 0) (.int .i64 0) (.int .i64 0)
    obtain ⟨m0, m1, m2, m3, m4, m5, m6, m7, m8⟩ := hRn.c9
    have hXn := ((((((((hX.off bR 0 hbl (.int .i64 0)).off bR 1 hbl (.int .i64 0)).off bR 2 hbl (.int .i64 0)).off bR 3 hbl (.slice none 0 0)).off bR 4 hbl (.int .i64 0)).off bR 5 hbl (.slice none 0 0)).off bR 6 hbl (.slice none 0 0)).off bR 7 hbl (.int .i64 0)).off bR 8 hbl (.int .i64 0)
    refine bodyPost_ret (v := .tuple #[.agg #[.int .i64 nilRec.a, .int .i64 nilRec.b, .int .i64 nilRec.c, .slice nilRec.p.x.A nilRec.p.x.n nilRec.p.x.c, .int .i64 nilRec.d, .slice nilRec.p.y.A nilRec.p.y.n nilRec.p.y.c, .slice nilRec.p.z.A nilRec.p.z.n nilRec.p.z.c, .int .i64 nilRec.e, .int .i64 nilRec.f], .int .i64 6]) (by simp [results, Tryz.results16, go_sem, m0, m1, m2, m3, m4, m5, m6, m7, m8, nilRec, nilR]) rfl (RrP.bad hN.out hXn)
  rename_i le
  have hce := hide (rl_some hq)
  have hbe := rlO_le hq
  rw [hce.out.1]
  rw [hce.out.2] at oe
  have hpe := hide hq
  clear hq
  cases hq : rlO g
  case none =>
    have hc := (rl_none hq).1
    rw [hc]
    clear hc
    have hN := hide (show rrO s = none by rw [hNine.out]; exact rrOf_none (.inr (.inr (.inl hq))))
    obtain ⟨r0, r1, r2, r3, r4, r5, r6, r7, r8⟩ := hR.c9
    have f0 := hR.frozen 0
    have f1 := hR.frozen 1
    have f2 := hR.frozen 2
    have f3 := hR.frozen 3
    have f4 := hR.frozen 4
    have f5 := hR.frozen 5
    have f6 := hR.frozen 6
    have f7 := hR.frozen 7
    have f8 := hR.frozen 8
    generalize hbR : w.heap.size = bR at hR r0 r1 r2 r3 r4 r5 r6 r7 r8 f0 f1 f2 f3 f4 f5 f6 f7 f8 ⊢
    replace hbR := hide hbR
    go_wp2
    have hbl := Nat.le_of_eq hbR.out
    have hRn := hR.set9 (.int .i64 0) (.int .i64 0) (.int .i64 0) (.slice none 0 0) (.int .i64 0) (.slice none 0 0) (.slice none 0 0) (.int .i64 0) (.int .i64 0)
    obtain ⟨m0, m1, m2, m3, m4, m5, m6, m7, m8⟩ := hRn.c9
    have hXn := ((((((((hX.off bR 0 hbl (.int .i64 0)).off bR 1 hbl (.int .i64 0)).off bR 2 hbl (.int .i64 0)).off bR 3 hbl (.slice none 0 0)).off bR 4 hbl (.int .i64 0)).off bR 5 hbl (.slice none 0 0)).off bR 6 hbl (.slice none 0 0)).off bR 7 hbl (.int .i64 0)).off bR 8 hbl (.int .i64 0)
    refine bodyPost_ret (v := .tuple #[.agg #[.int .i64 nilRec.a, .int .i64 nilRec.b, .int .i64 nilRec.c, .slice nilRec.p.x.A nilRec.p.x.n nilRec.p.x.c, .int .i64 nilRec.d, .slice nilRec.p.y.A nilRec.p.y.n nilRec.p.y.c, .slice nilRec.p.z.A nilRec.p.z.n nilRec.p.z.c, .int .i64 nilRec.e, .int .i64 nilRec.f], .int .i64 6]) (by simp [results, Tryz.results16, go_sem, m0, m1, m2, m3, m4, m5, m6, m7, m8, nilRec, nilR]) rfl (RrP.bad hN.out hXn)
  rename_i lg
  have hcg := hide (rl_some hq)
  have hbg := rlO_le hq
  rw [hcg.out.1]
  rw [hcg.out.2] at og
  have hpg := hide hq
  clear hq
  cases hq : rmO h
  case none =>
    have hc := (rm_none hq).1
    rw [hc]
    clear hc
    have hN := hide (show rrO s = none by rw [hNine.out]; exact rrOf_none (.inr (.inr (.inr hq))))
    obtain ⟨r0, r1, r2, r3, r4, r5, r6, r7, r8⟩ := hR.c9
    have f0 := hR.frozen 0
    have f1 := hR.frozen 1
    have f2 := hR.frozen 2
    have f3 := hR.frozen 3
    have f4 := hR.frozen 4
    have f5 := hR.frozen 5
    have f6 := hR.frozen 6
    have f7 := hR.frozen 7
    have f8 := hR.frozen 8
    generalize hbR : w.heap.size = bR at hR r0 r1 r2 r3 r4 r5 r6 r7 r8 f0 f1 f2 f3 f4 f5 f6 f7 f8 ⊢
    replace hbR := hide hbR
    go_wp2
    have hbl := Nat.le_of_eq hbR.out
    have hRn := hR.set9 (.int .i64 0) (.int .i64 0) (.int .i64 0) (.slice none 0 0) (.int .i64 0) (.slice none 0 0) (.slice none 0 0) (.int .i64 0) (.int .i64 0)
    obtain ⟨m0, m1, m2, m3, m4, m5, m6, m7, m8⟩ := hRn.c9
    have hXn := ((((((((hX.off bR 0 hbl (.int .i64 0)).off bR 1 hbl (.int .i64 0)).off bR 2 hbl (.int .i64 0)).off bR 3 hbl (.slice none 0 0)).off bR 4 hbl (.int .i64 0)).off bR 5 hbl (.slice none 0 0)).off bR 6 hbl (.slice none 0 0)).off bR 7 hbl (.int .i64 0)).off bR 8 hbl (.int .i64 0)
    refine bodyPost_ret (v := .tuple #[.agg #[.int .i64 nilRec.a, .int .i64 nilRec.b, .int .i64 nilRec.c, .slice nilRec.p.x.A nilRec.p.x.n nilRec.p.x.c, .int .i64 nilRec.d, .slice nilRec.p.y.A nilRec.p.y.n nilRec.p.y.c, .slice nilRec.p.z.A nilRec.p.z.n nilRec.p.z.c, .int .i64 nilRec.e, .int .i64 nilRec.f], .int .i64 6]) (by simp [results, Tryz.results16, go_sem, m0, m1, m2, m3, m4, m5, m6, m7, m8, nilRec, nilR]) rfl (RrP.bad hN.out hXn)
  rename_i lh
  have hch := hide (rm_some hq)
  have hbh := (rmO_ok hq).2
  rw [hch.out.1]
  rw [hch.out.2] at oh
  have hph := hide hq
  clear hq
  have hRec := hide (show rrO s = if okR (mkRec n1 n2 n3 n4 n5 n6 le lg lh) = true then some (mkRec n1 n2 n3 n4 n5 n6 le lg lh) else none by rw [hNine.out, hns.out, hpe.out, hpg.out, hph.out]; exact rrOf_some)
  obtain ⟨yv, hyv⟩ : ∃ yv, Hid (yv = mkRec n1 n2 n3 n4 n5 n6 le lg lh) := ⟨_, rfl⟩
  rw [← hyv.out] at hRec
  have on5 := on.ext hE5
  have hnb := on5.rd
  have hnl : vn.n = 6 := hnb.1
  obtain ⟨An, nn, cn⟩ := vn
  simp only at hnl hnb on on5
  subst hnl
  obtain ⟨bn, on_, rfl, hbn, hnc⟩ := hnb.2.2 (by omega)
  have hxR : OwnR w5 (w.heap.size + 1) ⟨n1, n2, n3, ⟨ve, vg, vh⟩, n4, n5, n6⟩ yv := by
    rw [hyv.out]
    exact ⟨Own3.of3 (l := ⟨le, lg, lh⟩) (p := ⟨ve, vg, vh⟩) (oe.mono (by omega)) (og.mono (by omega)) (oh.mono (by omega)) hbe hbg (by simp only; omega) (fun k q1 q2 => by have a1 := lte.out k q1; have a2 := (og.lt k q2).1; omega) (fun k q1 q2 => by have a1 := lte.out k q1; have a2 := (oh.lt k q2).1; omega) (fun k q1 q2 => by have a1 := ltg.out k q1; have a2 := (oh.lt k q2).1; omega), rfl, rfl, rfl, rfl, rfl, rfl⟩
  have i0 := hnc 0 (by omega)
  have i1 := hnc 1 (by omega)
  have i2 := hnc 2 (by omega)
  have i3 := hnc 3 (by omega)
  have i4 := hnc 4 (by omega)
  have i5 := hnc 5 (by omega)
  simp only [Nat.add_zero, List.getD_cons_zero, List.getD_cons_succ] at i0 i1 i2 i3 i4 i5
  clear hnc oe og oh on on5
  have KN := hide (show ∀ X, Ext w5 X → X.cell? ⟨bn, on_, none⟩ = some (.int .i64 n1) ∧ X.cell? ⟨bn, on_ + 1, none⟩ = some (.int .i64 n2) ∧ X.cell? ⟨bn, on_ + 2, none⟩ = some (.int .i64 n3) ∧ X.cell? ⟨bn, on_ + 3, none⟩ = some (.int .i64 n4) ∧ X.cell? ⟨bn, on_ + 4, none⟩ = some (.int .i64 n5) ∧ X.cell? ⟨bn, on_ + 5, none⟩ = some (.int .i64 n6) from fun X hx => ⟨(hx.cell (p := ⟨bn, on_, none⟩) hbn).trans i0, (hx.cell (p := ⟨bn, on_ + 1, none⟩) hbn).trans i1, (hx.cell (p := ⟨bn, on_ + 2, none⟩) hbn).trans i2, (hx.cell (p := ⟨bn, on_ + 3, none⟩) hbn).trans i3, (hx.cell (p := ⟨bn, on_ + 4, none⟩) hbn).trans i4, (hx.cell (p := ⟨bn, on_ + 5, none⟩) hbn).trans i5⟩)
  have k0 := KN.out _ (Ext.refl w5).drew
  clear i0 i1 i2 i3 i4 i5
  go_wp2_with fail
  go_region_held3 (fun w' => w'.cell? ⟨bn, on_, none⟩ = some (.int .i64 n1) ∧ w'.cell? ⟨bn, on_ + 1, none⟩ = some (.int .i64 n2) ∧ w'.cell? ⟨bn, on_ + 2, none⟩ = some (.int .i64 n3) ∧ w'.cell? ⟨bn, on_ + 3, none⟩ = some (.int .i64 n4) ∧ w'.cell? ⟨bn, on_ + 4, none⟩ = some (.int .i64 n5) ∧ w'.cell? ⟨bn, on_ + 5, none⟩ = some (.int .i64 n6)) (first | exact k0 | exact KN.out _ ((Ext.refl w5).alloc _) | exact KN.out _ ((Ext.refl w5).drew.alloc _) | exact KN.out _ ((Ext.refl w5).alloc _).drew | go_keep | fail) (fail)
  clear k0 KN
  have hO := (hxR.alloc (.cells #[.int .i64 n1, .int .i64 n2, .int .i64 n3, .slice ve.A ve.n ve.c, .int .i64 n4, .slice vg.A vg.n vg.c, .slice vh.A vh.n vh.c, .int .i64 n5, .int .i64 n6] 36)).drew
  replace hX := (hX.alloc (.cells #[.int .i64 n1, .int .i64 n2, .int .i64 n3, .slice ve.A ve.n ve.c, .int .i64 n4, .slice vg.A vg.n vg.c, .slice vh.A vh.n vh.c, .int .i64 n5, .int .i64 n6] 36)).drew
  replace hR := (hR.alloc (.cells #[.int .i64 n1, .int .i64 n2, .int .i64 n3, .slice ve.A ve.n ve.c, .int .i64 n4, .slice vg.A vg.n vg.c, .slice vh.A vh.n vh.c, .int .i64 n5, .int .i64 n6] 36)).drew
  have hB := (Blk.new w5 36 (#[.int .i64 n1, .int .i64 n2, .int .i64 n3, .slice ve.A ve.n ve.c, .int .i64 n4, .slice vg.A vg.n vg.c, .slice vh.A vh.n vh.c, .int .i64 n5, .int .i64 n6])).drew
  have hzr : w.heap.size < w5.heap.size := by omega
  clear hxR
  obtain ⟨q0, q1, q2, q3, q4, q5, q6, q7, q8⟩ := hB.c9
  go_wp2_with fail
  refine (impl.IsRecord_any ⟨n1, n2, n3, ⟨ve, vg, vh⟩, n4, n5, n6⟩ yv _ hO.rd).mono ?_
  rintro e6 w6 ⟨rfl, hx⟩
  replace hX := hX.trans hx
  replace hR := hR.ext hx
  replace hB := hB.ext hx
  replace hO := hO.ext hx
  clear hx q0 q1 q2 q3 q4 q5 q6 q7 q8
  cases hok : okR yv
  case false =>
    have hN := hide (show rrO s = none by rw [hRec.out, hok]; rfl)
    clear hok
    obtain ⟨q0, q1, q2, q3, q4, q5, q6, q7, q8⟩ := hB.c9
    obtain ⟨r0, r1, r2, r3, r4, r5, r6, r7, r8⟩ := hR.c9
    have f0 := hR.frozen 0
    have f1 := hR.frozen 1
    have f2 := hR.frozen 2
    have f3 := hR.frozen 3
    have f4 := hR.frozen 4
    have f5 := hR.frozen 5
    have f6 := hR.frozen 6
    have f7 := hR.frozen 7
    have f8 := hR.frozen 8
    generalize hbR : w.heap.size = bR at hR r0 r1 r2 r3 r4 r5 r6 r7 r8 f0 f1 f2 f3 f4 f5 f6 f7 f8 ⊢
    replace hbR := hide hbR
    go_wp2
    have hbl := Nat.le_of_eq hbR.out
    have hRn := hR.set9 (.int .i64 0) (.int .i64 0) (.int .i64 0) (.slice none 0 0) (.int .i64 0) (.slice none 0 0) (.slice none 0 0) (.int .i64 0) (.int .i64 0)
    obtain ⟨m0, m1, m2, m3, m4, m5, m6, m7, m8⟩ := hRn.c9
    have hXn := ((((((((hX.off bR 0 hbl (.int .i64 0)).off bR 1 hbl (.int .i64 0)).off bR 2 hbl (.int .i64 0)).off bR 3 hbl (.slice none 0 0)).off bR 4 hbl (.int .i64 0)).off bR 5 hbl (.slice none 0 0)).off bR 6 hbl (.slice none 0 0)).off bR 7 hbl (.int .i64 0)).off bR 8 hbl (.int .i64 0)
    refine bodyPost_ret (v := .tuple #[.agg #[.int .i64 nilRec.a, .int .i64 nilRec.b, .int .i64 nilRec.c, .slice nilRec.p.x.A nilRec.p.x.n nilRec.p.x.c, .int .i64 nilRec.d, .slice nilRec.p.y.A nilRec.p.y.n nilRec.p.y.c, .slice nilRec.p.z.A nilRec.p.z.n nilRec.p.z.c, .int .i64 nilRec.e, .int .i64 nilRec.f], .int .i64 6]) (by simp [results, Tryz.results16, go_sem, m0, m1, m2, m3, m4, m5, m6, m7, m8, nilRec, nilR]) rfl (RrP.bad hN.out hXn)
  have hN := hide (show rrO s = some yv by rw [hRec.out, hok]; rfl)
  have hst : recT yv = s := (rrO_text hN.out).1.symm
  clear hst hok
  obtain ⟨q0, q1, q2, q3, q4, q5, q6, q7, q8⟩ := hB.c9
  obtain ⟨r0, r1, r2, r3, r4, r5, r6, r7, r8⟩ := hR.c9
  have f0 := hR.frozen 0
  have f1 := hR.frozen 1
  have f2 := hR.frozen 2
  have f3 := hR.frozen 3
  have f4 := hR.frozen 4
  have f5 := hR.frozen 5
  have f6 := hR.frozen 6
  have f7 := hR.frozen 7
  have f8 := hR.frozen 8
  generalize hbB : w5.heap.size = bB at hB q0 q1 q2 q3 q4 q5 q6 q7 q8 ⊢
  replace hbB := hide hbB
  generalize hbR : w.heap.size = bR at hR r0 r1 r2 r3 r4 r5 r6 r7 r8 f0 f1 f2 f3 f4 f5 f6 f7 f8 ⊢
  replace hbR := hide hbR
  have nn1 : ¬ bR = bB := by have a1 := hbR.out; have a2 := hbB.out; omega
  have nn2 : ¬ bB = bR := fun e => nn1 e.symm
  go_wp2
  have hbl := Nat.le_of_eq hbR.out
  have hbl2 : bR < w.heap.size + 1 := by have := hbR.out; omega
  have hRn := hR.set9 (.int .i64 n1) (.int .i64 n2) (.int .i64 n3) (.slice ve.A ve.n ve.c) (.int .i64 n4) (.slice vg.A vg.n vg.c) (.slice vh.A vh.n vh.c) (.int .i64 n5) (.int .i64 n6)
  obtain ⟨m0, m1, m2, m3, m4, m5, m6, m7, m8⟩ := hRn.c9
  have hXn := ((((((((hX.off bR 0 hbl (.int .i64 n1)).off bR 1 hbl (.int .i64 n2)).off bR 2 hbl (.int .i64 n3)).off bR 3 hbl (.slice ve.A ve.n ve.c)).off bR 4 hbl (.int .i64 n4)).off bR 5 hbl (.slice vg.A vg.n vg.c)).off bR 6 hbl (.slice vh.A vh.n vh.c)).off bR 7 hbl (.int .i64 n5)).off bR 8 hbl (.int .i64 n6)
  have hOn := ((((((((hO.1.awayP (g := bR) hbl2 0 (.int .i64 n1)).awayP (g := bR) hbl2 1 (.int .i64 n2)).awayP (g := bR) hbl2 2 (.int .i64 n3)).awayP (g := bR) hbl2 3 (.slice ve.A ve.n ve.c)).awayP (g := bR) hbl2 4 (.int .i64 n4)).awayP (g := bR) hbl2 5 (.slice vg.A vg.n vg.c)).awayP (g := bR) hbl2 6 (.slice vh.A vh.n vh.c)).awayP (g := bR) hbl2 7 (.int .i64 n5)).awayP (g := bR) hbl2 8 (.int .i64 n6)
  refine bodyPost_ret (v := .tuple #[.agg #[.int .i64 n1, .int .i64 n2, .int .i64 n3, .slice ve.A ve.n ve.c, .int .i64 n4, .slice vg.A vg.n vg.c, .slice vh.A vh.n vh.c, .int .i64 n5, .int .i64 n6], .int .i64 0]) (by simp [results, Tryz.results16, go_sem, m0, m1, m2, m3, m4, m5, m6, m7, m8]) rfl (RrP.good (x := ⟨n1, n2, n3, ⟨ve, vg, vh⟩, n4, n5, n6⟩) hN.out ⟨hOn.mono (by omega), hO.2⟩ hXn)
end Go.Proofs.YtfojfndmaofahaaGreatDoor.mem
