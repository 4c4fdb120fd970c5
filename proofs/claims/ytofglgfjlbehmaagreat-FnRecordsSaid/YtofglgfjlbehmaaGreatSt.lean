/-
  Contracts of both programs' StruckBy.
-/
import Derived.Test.YtofglgfjlbehmaaGreatRt
import Derived.Test.YtofglgfjlbehmaaGreatMg3
namespace Go.Proofs.YtofglgfjlbehmaaGreat.mem
open Go.ChangeShapes Go.WideShapes Go.ChangeAt Go.RowKit

/-- whom a side strikes, by these moves -/
def stk (sd : Int) : SelL → List Int → List Int
  | _, [] => []
  | y, m :: ms => if mvC y m = 0 then (if m ≠ -1 ∧ y.t = sd then [y.p.x.getD m.toNat 0] else []) ++ stk sd (mvV y m) ms else []
def sbC (ts : List Ti) (us : List ByteArray) (y : RecL) (sd : Int) : Int := if poC ts us y = 0 then (if inB sd 0 1 = true then 0 else 2) else 1
def sbV (ts : List Ti) (us : List ByteArray) (y : RecL) (sd : Int) : List Int := if sbC ts us y sd = 0 then stk sd (bgL ts us y) y.p.z else []
theorem stk_end {sd : Int} {y yk : SelL} {ms acc : List Int} {k : Nat} (h : stk sd y ms = acc ++ stk sd yk (ms.drop k)) (hk : k = ms.length) : stk sd y ms = acc := by
  rw [h, hk, List.drop_length]; exact List.append_nil _
theorem stk_stop {sd : Int} {y yk : SelL} {ms acc : List Int} {k : Nat} {m : Int} (h : stk sd y ms = acc ++ stk sd yk (ms.drop k)) (hm : ms[k]? = some m) (h0 : mvC yk m ≠ 0) : stk sd y ms = acc := by
  rw [h, drop_el hm, stk, if_neg h0]; exact List.append_nil _
theorem stk_no {sd : Int} {y yk : SelL} {ms acc : List Int} {k : Nat} {m : Int} (h : stk sd y ms = acc ++ stk sd yk (ms.drop k)) (hm : ms[k]? = some m) (h0 : mvC yk m = 0) (hn : ¬ (m ≠ -1 ∧ yk.t = sd)) : stk sd y ms = acc ++ stk sd (mvV yk m) (ms.drop (k + 1)) := by
  rw [h, drop_el hm, stk, if_pos h0, if_neg hn]; rfl
theorem stk_yes {sd : Int} {y yk : SelL} {ms acc : List Int} {k : Nat} {m : Int} {v : Int} (h : stk sd y ms = acc ++ stk sd yk (ms.drop k)) (hm : ms[k]? = some m) (h0 : mvC yk m = 0) (hn : m ≠ -1 ∧ yk.t = sd) (hv : yk.p.x.getD m.toNat 0 = v) : stk sd y ms = (acc ++ [v]) ++ stk sd (mvV yk m) (ms.drop (k + 1)) := by
  rw [h, drop_el hm, stk, if_pos h0, if_pos hn, hv, List.append_assoc]
theorem sb_1 {ts : List Ti} {us : List ByteArray} {y : RecL} {sd : Int} (h : poC ts us y = 1) : sbC ts us y sd = 1 ∧ sbV ts us y sd = [] := by
  have e : sbC ts us y sd = 1 := by unfold sbC; rw [h]; rfl
  exact ⟨e, by unfold sbV; rw [e]; rfl⟩
theorem sb_2 {ts : List Ti} {us : List ByteArray} {y : RecL} {sd : Int} (h : poC ts us y = 0) (hs : inB sd 0 1 = false) : sbC ts us y sd = 2 ∧ sbV ts us y sd = [] := by
  have e : sbC ts us y sd = 2 := by unfold sbC; rw [h, hs]; rfl
  exact ⟨e, by unfold sbV; rw [e]; rfl⟩
theorem sb_0 {ts : List Ti} {us : List ByteArray} {y : RecL} {sd : Int} (h : poC ts us y = 0) (hs : inB sd 0 1 = true) : sbC ts us y sd = 0 ∧ sbV ts us y sd = stk sd (bgL ts us y) y.p.z := by
  have e : sbC ts us y sd = 0 := by unfold sbC; rw [h, hs]; rfl
  exact ⟨e, by unfold sbV; rw [e]; rfl⟩
theorem mv_str {y : SelL} {m : Int} (h : mvC y m = 0) (hm : m ≠ -1) : inB m 0 ((y.p.x.length : Int) - 1) = true := by
  unfold mvC at h
  rw [if_neg hm] at h
  exact (strC_0 h).2.1
theorem movB_at {ms : List Int} {k : Nat} {m : Int} (h : movB ms = true) (hm : ms[k]? = some m) : -1 ≤ m ∧ m ≤ 11 := by
  unfold movB at h
  rw [List.all_eq_true] at h
  exact inB_iff.1 (h m (List.mem_of_getElem? hm))
theorem Own3.awS {w : World} {lo g : Nat} {p : S3} {l : L3} (h : Own3 w lo p l) (hg : ∀ k, blks p k → k ≠ g) (i : Nat) (u : Value) : Own3 (w.setCell ⟨g, i, none⟩ u) lo p l :=
  ⟨h.1.away (fun e => hg g (.inl e) rfl) i u, h.2.1.away (fun e => hg g (.inr (.inl e)) rfl) i u, h.2.2.1.away (fun e => hg g (.inr (.inr e)) rfl) i u, h.2.2.2⟩
theorem Own.blk {w : World} {lo b off : Nat} {s : Sl} {xs : List Int} (h : Own w lo (.slice s.A s.n s.c) xs) (e : s.A = some ⟨b, off, none⟩) : lo ≤ b ∧ b < w.heap.size := by
  rcases h.2.2 with ⟨h1, _⟩ | ⟨g, cap, cur, h1, _⟩
  · injection h1 with h1
    rw [e] at h1
    cases h1
  · refine h.lt b ?_
    injection h1 with h1 h2 h3
    rw [e] at h1
    injection h1 with h1
    injection h1 with h1 h4 h5
    rw [e, h4]
    rfl
theorem Fr.cell {w w' : World} {S : Nat → Prop} (h : Fr S w w') {p : Addr} (hp : p.block < w.heap.size) (hs : ¬ S p.block) : w'.cell? p = w.cell? p := by
  unfold World.cell?
  rw [h.block _ hp hs]
/-- what a move, its selection in a new block, has brought -/
def MvP (wr : World) (c : Int) (y' : SelL) (v8 v9 : Value) (wx : World) : Prop :=
  ∃ (g : Nat) (z : SelA), v8 = .pointer (some ⟨g, 0, none⟩) ∧ v9 = .int .i64 c ∧ Blk wx g 70 #[.slice z.p.x.A z.p.x.n z.p.x.c, .slice z.p.y.A z.p.y.n z.p.y.c, .slice z.p.z.A z.p.z.n z.p.z.c, .slice z.s.A z.s.n z.s.c, .int .i64 z.t, .int .i64 z.q] ∧ (c = 0 → OwnS wx wr.heap.size z y') ∧ Ext wr wx ∧ wr.heap.size ≤ g
theorem MvP.two {wr w2 : World} {c : Int} {y' : SelL} {z : SelA} {lo : Nat} (h : c = 0 → OwnS w2 lo z y') (hl : wr.heap.size ≤ lo) (hX : Ext wr w2) :
    MvP wr c y' (.pointer (some ⟨w2.heap.size, 0, none⟩)) (.int .i64 c) (w2.alloc (.cells #[.slice z.p.x.A z.p.x.n z.p.x.c, .slice z.p.y.A z.p.y.n z.p.y.c, .slice z.p.z.A z.p.z.n z.p.z.c, .slice z.s.A z.s.n z.s.c, .int .i64 z.t, .int .i64 z.q] 70)) :=
  ⟨_, z, rfl, rfl, Blk.new _ _ _, fun h0 => ((h h0).mono hl).alloc _, hX.alloc _, hX.size⟩
theorem MvP.one {wr w2 : World} {c : Int} {y' : SelL} {g n : Nat} {z : SelA} (hN : Blk w2 g 70 #[.slice none 0 0, .slice none 0 0, .slice none 0 0, .slice none 0 0, .int .i64 0, .int .i64 0]) (h : c = 0 → OwnS w2 n z y') (hg : wr.heap.size ≤ g) (hgn : g < n) (hX : Ext wr w2) :
    MvP wr c y' (.pointer (some ⟨g, 0, none⟩)) (.int .i64 c) ((((((w2.setCell ⟨g, 0, none⟩ (.slice z.p.x.A z.p.x.n z.p.x.c)).setCell ⟨g, 1, none⟩ (.slice z.p.y.A z.p.y.n z.p.y.c)).setCell ⟨g, 2, none⟩ (.slice z.p.z.A z.p.z.n z.p.z.c)).setCell ⟨g, 3, none⟩ (.slice z.s.A z.s.n z.s.c)).setCell ⟨g, 4, none⟩ (.int .i64 z.t)).setCell ⟨g, 5, none⟩ (.int .i64 z.q)) :=
  ⟨g, z, rfl, rfl, hN.set6 _ _ _ _ _ _, fun h0 =>
    have h3 := h h0
    have ha : ∀ k, blksS z k → k ≠ g := fun k hk e => by have := (h3.lt hk).1; omega
    ((((((h3.mono (Nat.le_trans hg (Nat.le_of_lt hgn))).away ha 0 _).away ha 1 _).away ha 2 _).away ha 3 _).away ha 4 _).away ha 5 _, (((((hX.off g 0 (by omega) _).off g 1 (by omega) _).off g 2 (by omega) _).off g 3 (by omega) _).off g 4 (by omega) _).off g 5 (by omega) _, hg⟩
/-- the loop's state: the record, the selection in block g, the list so far -/
def StPost (w : World) (cs : Array Value) (g : Nat) (z : SelA) (yk : SelL) (v : Sl) (acc : List Int) (wr : World) : Prop :=
  Blk wr w.heap.size 26 cs ∧ Blk wr g 70 #[.slice z.p.x.A z.p.x.n z.p.x.c, .slice z.p.y.A z.p.y.n z.p.y.c, .slice z.p.z.A z.p.z.n z.p.z.c, .slice z.s.A z.s.n z.s.c, .int .i64 z.t, .int .i64 z.q] ∧ RdS wr z yk ∧ Own wr (w.heap.size + 1) (.slice v.A v.n v.c) acc ∧ Ext w wr ∧ w.heap.size + 1 ≤ g ∧ Value.ownBlock (.slice v.A v.n v.c) ≠ some g ∧ ∀ b off, z.p.x.A = some ⟨b, off, none⟩ → Value.ownBlock (.slice v.A v.n v.c) ≠ some b
theorem StPost.step {w wr w4 : World} {cs : Array Value} {g n : Nat} {z z2 : SelA} {yk y2 : SelL} {v : Sl} {acc : List Int} (h : StPost w cs g z yk v acc wr) (hE : Ext wr w4) (oz : OwnS w4 n z2 y2) (hn : wr.heap.size ≤ n) :
    StPost w cs g z2 y2 v acc ((((((w4.setCell ⟨g, 0, none⟩ (.slice z2.p.x.A z2.p.x.n z2.p.x.c)).setCell ⟨g, 1, none⟩ (.slice z2.p.y.A z2.p.y.n z2.p.y.c)).setCell ⟨g, 2, none⟩ (.slice z2.p.z.A z2.p.z.n z2.p.z.c)).setCell ⟨g, 3, none⟩ (.slice z2.s.A z2.s.n z2.s.c)).setCell ⟨g, 4, none⟩ (.int .i64 z2.t)).setCell ⟨g, 5, none⟩ (.int .i64 z2.q)) := by
  obtain ⟨hB, hO, _, ov, hX, hg, hv, _⟩ := h
  have hvl := ov.lt
  have hgl := hO.lt
  have ha : ∀ k, blksS z2 k → k ≠ g := fun k hk e => by have := (oz.lt hk).1; omega
  exact ⟨(((((((hB.ext hE).off g 0 (by omega) _).off g 1 (by omega) _).off g 2 (by omega) _).off g 3 (by omega) _).off g 4 (by omega) _).off g 5 (by omega) _), (hO.ext hE).set6 _ _ _ _ _ _, OwnS.rd ((((((oz.away ha 0 _).away ha 1 _).away ha 2 _).away ha 3 _).away ha 4 _).away ha 5 _), (((((((ov.ext hE).away hv 0 _).away hv 1 _).away hv 2 _).away hv 3 _).away hv 4 _).away hv 5 _), (((((((hX.trans hE).off g 0 (by omega) _).off g 1 (by omega) _).off g 2 (by omega) _).off g 3 (by omega) _).off g 4 (by omega) _).off g 5 (by omega) _), hg, hv, fun b off e h => by have a1 := oz.1.1.blk e; have a2 := (hvl b h).2; omega⟩
theorem StPost.app {w wr w4 w5 : World} {cs : Array Value} {g n : Nat} {z z2 : SelA} {yk y2 : SelL} {v t : Sl} {acc : List Int} {m : Int} (h : StPost w cs g z yk v acc wr) (hE : Ext wr w4) (oz : OwnS w4 n z2 y2) (hn : wr.heap.size ≤ n)
    (ot : Own w5 (w.heap.size + 1) (.slice t.A t.n t.c) (acc ++ [m])) (hG : w4.grownBy w5 (Value.ownBlock (.slice v.A v.n v.c))) (hb : Value.ownBlock (.slice t.A t.n t.c) = Value.ownBlock (.slice v.A v.n v.c) ∨ Value.ownBlock (.slice t.A t.n t.c) = some w4.heap.size) :
    StPost w cs g z2 y2 t (acc ++ [m]) ((((((w5.setCell ⟨g, 0, none⟩ (.slice z2.p.x.A z2.p.x.n z2.p.x.c)).setCell ⟨g, 1, none⟩ (.slice z2.p.y.A z2.p.y.n z2.p.y.c)).setCell ⟨g, 2, none⟩ (.slice z2.p.z.A z2.p.z.n z2.p.z.c)).setCell ⟨g, 3, none⟩ (.slice z2.s.A z2.s.n z2.s.c)).setCell ⟨g, 4, none⟩ (.int .i64 z2.t)).setCell ⟨g, 5, none⟩ (.int .i64 z2.q)) := by
  obtain ⟨hB, hO, _, ov, hX, hg, hv, _⟩ := h
  have hgl := hO.lt
  have hz := hE.size
  have hvl := ov.lt
  have hF := Fr.of_grown hG
  have oz5 : OwnS w5 n z2 y2 := oz.fr hF (fun k hk e => by have a1 := (oz.lt hk).1; have a2 := (hvl k e).2; omega)
  have ha : ∀ k, blksS z2 k → k ≠ g := fun k hk e => by have := (oz.lt hk).1; omega
  have hv5 : Value.ownBlock (.slice t.A t.n t.c) ≠ some g := by
    rcases hb with h | h
    · rw [h]; exact hv
    · rw [h]; intro e; injection e with e; omega
  have hO5 := (hO.ext hE).fr hF (fun e => hv e)
  have hB5 := (hB.ext hE).fr hF (fun e => by have := (hvl _ e).1; omega)
  have hX5 := (hX.trans hE).grow hG (fun k hk => by have := (hvl k hk).1; omega)
  exact ⟨((((((hB5.off g 0 (by omega) _).off g 1 (by omega) _).off g 2 (by omega) _).off g 3 (by omega) _).off g 4 (by omega) _).off g 5 (by omega) _), hO5.set6 _ _ _ _ _ _, OwnS.rd ((((((oz5.away ha 0 _).away ha 1 _).away ha 2 _).away ha 3 _).away ha 4 _).away ha 5 _), ((((((ot.away hv5 0 _).away hv5 1 _).away hv5 2 _).away hv5 3 _).away hv5 4 _).away hv5 5 _), ((((((hX5.off g 0 (by omega) _).off g 1 (by omega) _).off g 2 (by omega) _).off g 3 (by omega) _).off g 4 (by omega) _).off g 5 (by omega) _), hg, hv5, fun b off e h => by have a1 := oz.1.1.blk e; rcases hb with h1 | h1 <;> rw [h1] at h; (have a2 := (hvl b h).2; omega); (injection h with h; omega)⟩
set_option maxRecDepth 20000 in
set_option maxHeartbeats 4000000 in
theorem impl.StruckBy_any (x : RecA) (y : RecL) (s : Sl) (ts : List Ti) (q : Sl) (us : List ByteArray) (sd : Int) (w : World) (hr : RdR w x y) (ht : RdT w s.A s.n ts) (hq : RdW w q.A q.n us) (hc : cap1 s) :
    Calls Tryz.prog 9 #[.agg #[.int .i64 x.a, .int .i64 x.b, .int .i64 x.c, .slice x.p.x.A x.p.x.n x.p.x.c, .int .i64 x.d, .slice x.p.y.A x.p.y.n x.p.y.c, .slice x.p.z.A x.p.z.n x.p.z.c, .int .i64 x.e, .int .i64 x.f], .slice s.A s.n s.c, .slice q.A q.n q.c, .int .i64 sd] w fun e w' => ∃ v : Sl, e = .returned (.tuple #[.slice v.A v.n v.c, .int .i64 (sbC ts us y sd)]) ∧ Own w' w.heap.size (.slice v.A v.n v.c) (sbV ts us y sd) ∧ Ext w w' := by
  obtain ⟨xa, xb, xc, ⟨p1, p2, ⟨A3, n3, c3⟩⟩, xd, xe, xf⟩ := x
  have hr0 := hr
  simp only at hr0 ⊢
  have hX0 := (Ext.refl w).alloc (.cells #[.int .i64 xa, .int .i64 xb, .int .i64 xc, .slice p1.A p1.n p1.c, .int .i64 xd, .slice p2.A p2.n p2.c, .slice A3 n3 c3, .int .i64 xe, .int .i64 xf] 26)
  have hB0 := Blk.new w 26 (#[.int .i64 xa, .int .i64 xb, .int .i64 xc, .slice p1.A p1.n p1.c, .int .i64 xd, .slice p2.A p2.n p2.c, .slice A3 n3 c3, .int .i64 xe, .int .i64 xf])
  obtain ⟨q0, q1, q2, q3, q4, q5, q6, q7, q8⟩ := hB0.c9
  have hk := impl.recordOk_any ⟨xa, xb, xc, ⟨p1, p2, ⟨A3, n3, c3⟩⟩, xd, xe, xf⟩ y s ts q us _ (hr.ext hX0) (ht.ext hX0) (hq.ext hX0) hc
  have hk1 := fun W => impl.within_any sd 0 1 W
  rcases poC_or ts us y with ⟨hp, hb⟩ | ⟨hp, hok, hkk⟩
  · have EC := hide (sb_1 (sd := sd) hp).1
    have EV := hide (sb_1 (sd := sd) hp).2
    rw [hb] at hk
    clear hp hb
    go_enter Tryz.func9, Tryz.ntmps9
    go_wp2_with fail
    refine hk.mono ?_
    rintro e w1 ⟨rfl, hx1⟩
    go_wp2
    refine bodyPost_ret (v := .tuple #[.slice none 0 0, .int .i64 1]) (by simp [results, Tryz.results9, go_sem]) rfl ⟨⟨none, 0, 0⟩, by rw [EC.out], by rw [EV.out]; exact Own.nil_ _ _, hX0.trans hx1⟩
  cases hs : inB sd 0 1
  · have EC := hide (sb_2 hp hs).1
    have EV := hide (sb_2 hp hs).2
    rw [hok, hkk] at hk
    simp only [hs] at hk1
    clear hp hs
    go_enter Tryz.func9, Tryz.ntmps9
    go_wp2_with fail
    refine hk.mono ?_
    rintro e w1 ⟨rfl, hx1⟩
    go_wp2_with (go_at_call 39; refine (hk1 _).mono ?_; rintro e w' ⟨rfl, rfl⟩)
    refine bodyPost_ret (v := .tuple #[.slice none 0 0, .int .i64 2]) (by simp [results, Tryz.results9, go_sem]) rfl ⟨⟨none, 0, 0⟩, by rw [EC.out], by rw [EV.out]; exact Own.nil_ _ _, hX0.trans hx1⟩
  have EC := hide (sb_0 hp hs).1
  have EV := hide (sb_0 hp hs).2
  rw [hok, hkk] at hk
  simp only [hs] at hk1
  have hmB := hide (okR_parts hok).2.2.2.2.2.2
  obtain ⟨ms, hms⟩ : ∃ ms, Hid (y.p.z = ms) := ⟨_, rfl⟩
  have hm : Rd w A3 n3 ms := by rw [← hms.out]; exact hr.1.2.2.1
  have hcy : cap1 p2 := hr.1.2.2.2.2.2.1
  have hkb := hide (okS_bg hok hkk)
  rw [hms.out] at EV hmB
  have hn1 := hm.le
  have hl := hide hm.1
  go_enter Tryz.func9, Tryz.ntmps9
  go_wp2_with fail
  refine hk.mono ?_
  rintro e w1 ⟨rfl, hx1⟩
  have hX1 := hX0.trans hx1
  have hB1 := hB0.ext hx1
  have z1 := hB1.lt
  clear q0 q1 q2 q3 q4 q5 q6 q7 q8 hk hp hs
  obtain ⟨q0, q1, q2, q3, q4, q5, q6, q7, q8⟩ := hB1.c9
  go_upto_region 25 with (go_at_call 39; refine (hk1 _).mono ?_; rintro e w' ⟨rfl, rfl⟩)
  have hX := hX1.alloc (.cells #[] 2)
  have hB := hB1.alloc (.cells #[] 2)
  have ho := Own.new0 w1 (w.heap.size + 1) (by omega)
  clear hX0 hB0 hx1
  go_cut [11] (fun s11 wx => ∃ (g : Nat) (z : SelA), s11 = .pointer (some ⟨g, 0, none⟩) ∧ Blk wx g 70 #[.slice z.p.x.A z.p.x.n z.p.x.c, .slice z.p.y.A z.p.y.n z.p.y.c, .slice z.p.z.A z.p.z.n z.p.z.c, .slice z.s.A z.s.n z.s.c, .int .i64 z.t, .int .i64 z.q] ∧ RdS wx z (bgL ts us y) ∧ Ext (w1.alloc (.cells #[] 2)) wx ∧ w1.heap.size + 1 ≤ g ∧ ∀ b off, z.p.x.A = some ⟨b, off, none⟩ → w1.heap.size + 1 ≤ b)
  case first =>
    have KK := hide (show ∀ (W : World), Ext (w1.alloc (.cells #[] 2)) W → W.cell? ⟨w.heap.size, 0, none⟩ = some (.int .i64 xa) ∧ W.cell? ⟨w.heap.size, 1, none⟩ = some (.int .i64 xb) ∧ W.cell? ⟨w.heap.size, 2, none⟩ = some (.int .i64 xc) ∧ W.cell? ⟨w.heap.size, 3, none⟩ = some (.slice p1.A p1.n p1.c) ∧ W.cell? ⟨w.heap.size, 4, none⟩ = some (.int .i64 xd) ∧ W.cell? ⟨w.heap.size, 5, none⟩ = some (.slice p2.A p2.n p2.c) ∧ W.cell? ⟨w.heap.size, 6, none⟩ = some (.slice A3 n3 c3) ∧ W.cell? ⟨w.heap.size, 7, none⟩ = some (.int .i64 xe) ∧ W.cell? ⟨w.heap.size, 8, none⟩ = some (.int .i64 xf) from fun W hE => (hB.ext hE).c9)
    generalize hwq : w1.alloc (.cells #[] 2) = wq at hX hB ho KK ⊢
    have zq := hide (show wq.heap.size = w1.heap.size + 1 by rw [← hwq]; simp)
    have zq1 : w.heap.size + 1 ≤ wq.heap.size := by rw [zq.out]; omega
    have zq2 : ¬ wq.heap.size = w.heap.size := by omega
    have zq3 : ¬ w.heap.size = wq.heap.size := by omega
    replace hwq := hide hwq
    clear q0 q1 q2 q3 q4 q5 q6 q7 q8
    obtain ⟨q0, q1, q2, q3, q4, q5, q6, q7, q8⟩ := hB.c9
    have hW := (Ext.refl wq).drew
    refine wp_region_sink (S := fun w' => w'.cell? ⟨w.heap.size, 0, none⟩ = some (.int .i64 xa) ∧ w'.cell? ⟨w.heap.size, 1, none⟩ = some (.int .i64 xb) ∧ w'.cell? ⟨w.heap.size, 2, none⟩ = some (.int .i64 xc) ∧ w'.cell? ⟨w.heap.size, 3, none⟩ = some (.slice p1.A p1.n p1.c) ∧ w'.cell? ⟨w.heap.size, 4, none⟩ = some (.int .i64 xd) ∧ w'.cell? ⟨w.heap.size, 5, none⟩ = some (.slice p2.A p2.n p2.c) ∧ w'.cell? ⟨w.heap.size, 6, none⟩ = some (.slice A3 n3 c3) ∧ w'.cell? ⟨w.heap.size, 7, none⟩ = some (.int .i64 xe) ∧ w'.cell? ⟨w.heap.size, 8, none⟩ = some (.int .i64 xf)) 8 (by kernel_rfl) ?_
    change wpAnyT _ _ _ _ _ _ _ _ _ (World.drew _)
    generalize hwd : World.drew _ = wd at hW ⊢
    clear hwd
    have kk := KK.out wd hW
    refine wpAnyT_takeL (i := 0) 7 (v := ?_) rfl (by kernel_rfl) (by kernel_rfl) (by kernel_rfl) (by kernel_rfl) (by kernel_rfl) (fun _ _ _ h => h) (Or.inl ⟨by rfl, ?_⟩) kk ?_
    rotate_left 1
    · (intro W hSw; (try dsimp only at hSw); go_simp) <;> with_reducible rfl
    try simp only [Act.put, List.setIfInBounds_toArray, List.set_cons_zero, List.set_cons_succ]
    refine wpAnyT_takeL (i := 1) 7 (v := ?_) rfl (by kernel_rfl) (by kernel_rfl) (by kernel_rfl) (by kernel_rfl) (by kernel_rfl) (fun _ _ _ h => h) (Or.inl ⟨by rfl, ?_⟩) kk ?_
    rotate_left 1
    · (intro W hSw; (try dsimp only at hSw); go_simp) <;> with_reducible rfl
    try simp only [Act.put, List.setIfInBounds_toArray, List.set_cons_zero, List.set_cons_succ]
    refine wpAnyT_takeL (i := 2) 7 (v := ?_) rfl (by kernel_rfl) (by kernel_rfl) (by kernel_rfl) (by kernel_rfl) (by kernel_rfl) (fun _ _ _ h => h) (Or.inl ⟨by rfl, ?_⟩) kk ?_
    rotate_left 1
    · (intro W hSw; (try dsimp only at hSw); go_simp) <;> with_reducible rfl
    try simp only [Act.put, List.setIfInBounds_toArray, List.set_cons_zero, List.set_cons_succ]
    refine wpAnyT_takeL (i := 4) 7 (v := ?_) rfl (by kernel_rfl) (by kernel_rfl) (by kernel_rfl) (by kernel_rfl) (by kernel_rfl) (fun _ _ _ h => h) (Or.inl ⟨by rfl, ?_⟩) kk ?_
    rotate_left 1
    · (intro W hSw; (try dsimp only at hSw); go_simp) <;> with_reducible rfl
    try simp only [Act.put, List.setIfInBounds_toArray, List.set_cons_zero, List.set_cons_succ]
    refine wpAnyT_takeL (i := 5) 7 (v := ?_) rfl (by kernel_rfl) (by kernel_rfl) (by kernel_rfl) (by kernel_rfl) (by kernel_rfl) (fun _ _ _ h => h) (Or.inl ⟨by rfl, ?_⟩) kk ?_
    rotate_left 1
    · (intro W hSw; (try dsimp only at hSw); go_simp) <;> with_reducible rfl
    try simp only [Act.put, List.setIfInBounds_toArray, List.set_cons_zero, List.set_cons_succ]
    refine wpAnyT_go2 (i := 3) (j := 7) rfl rfl (by kernel_rfl) (fun K hK => ?_) (fun K hK => ?_)
    · skip
      clear kk
      go_simp
      go_at_call 40
      refine (impl.recPanel_any ⟨xa, xb, xc, ⟨p1, p2, ⟨A3, n3, c3⟩⟩, xd, xe, xf⟩ y s ts q us _ (hr.ext (hX.trans hW)) (ht.ext (hX.trans hW)) (hq.ext (hX.trans hW)) hok hkk).mono ?_
      rintro e w2 ⟨t, rfl, ot, hx⟩
      have hob : ∀ b off, t.x.A = some ⟨b, off, none⟩ → w1.heap.size + 1 ≤ b := fun b off e => by have a1 := ot.1.blk e; have a2 := hW.size; have a3 := zq.out; (try simp only [World.size_alloc] at a1); omega
      replace hW := hW.trans hx
      try have hna : ∀ k, blks t k → k ≠ bP := fun k hk e => by have a1 := (ot.lt hk).1; have a2 := hN.lt; omega
      try replace hN := hN.ext hx
      go_simp
      have kk := KK.out _ hW
      refine hK _ _ ⟨fun _ => kk, ?_⟩
      clear hK K hx
      refine wpAnyT_takeL (i := 6) 7 (v := ?_) rfl (by kernel_rfl) (by kernel_rfl) (by kernel_rfl) (by kernel_rfl) (by kernel_rfl) (fun _ _ _ h => h) (Or.inl ⟨by rfl, ?_⟩) kk ?_
      rotate_left 1
      · (intro W hSw; (try dsimp only at hSw); go_simp) <;> with_reducible rfl
      try simp only [Act.put, List.setIfInBounds_toArray, List.set_cons_zero, List.set_cons_succ]
      clear kk
      refine wpAnyT_go (i := 7) rfl (by kernel_rfl) fun K hK => ?_
      go_simp
      have hx := (Ext.refl w2).alloc (.cells #[.slice none 0 0, .slice none 0 0, .slice none 0 0, .slice none 0 0, .int .i64 0, .int .i64 0] 70)
      have hN := Blk.new w2 70 (#[.slice none 0 0, .slice none 0 0, .slice none 0 0, .slice none 0 0, .int .i64 0, .int .i64 0])
      obtain ⟨bP, hb⟩ : ∃ b, b = w2.heap.size := ⟨_, rfl⟩
      have zb := hide (show wq.heap.size ≤ bP by rw [hb]; exact hW.size)
      generalize hw : World.alloc w2 (.cells #[.slice none 0 0, .slice none 0 0, .slice none 0 0, .slice none 0 0, .int .i64 0, .int .i64 0] 70) = w3 at hx hN ⊢
      rw [← hb] at hN ⊢
      try have hna : ∀ k, blks t k → k ≠ bP := fun k hk e => by have a1 := (ot.lt hk).2; omega
      try replace ot := ot.ext hx
      replace hW := hW.trans hx
      have kk := KK.out _ hW
      refine hK _ _ ⟨fun _ => kk, ?_⟩
      clear hK K hx hb hw
      clear kk
      refine wpAnyT_go (i := 8) rfl (by kernel_rfl) fun K hK => ?_
      obtain ⟨r0, r1, r2, r3, r4, r5⟩ := hN.c6
      have y0 := hN.frozen 0
      have y1 := hN.frozen 1
      have y2 := hN.frozen 2
      have y3 := hN.frozen 3
      have y4 := hN.frozen 4
      have y5 := hN.frozen 5
      go_simp
      refine hK _ _ ⟨fun h => absurd rfl h, ?_⟩
      clear hK K
      refine wpAnyT_done (by kernel_rfl) ?_ _
      go_wp2_with fail
      go_meet
      rw [hwq.out]
      have zbo := zb.out
      have zqo := zq.out
      exact ⟨bP, ⟨t, p2, 0, 0⟩, rfl, hN.set6 _ _ _ _ _ _, ⟨((((((ot.awS hna 0 _).awS hna 1 _).awS hna 2 _).awS hna 3 _).awS hna 4 _).awS hna 5 _).rd, (hr.1.2.1 : Rd w p2.A p2.n _).ext (((((((hX.trans hW).off bP 0 (by omega) _).off bP 1 (by omega) _).off bP 2 (by omega) _).off bP 3 (by omega) _).off bP 4 (by omega) _).off bP 5 (by omega) _), hcy, rfl, rfl⟩, ((((((hW.off bP 0 (by omega) _).off bP 1 (by omega) _).off bP 2 (by omega) _).off bP 3 (by omega) _).off bP 4 (by omega) _).off bP 5 (by omega) _), by omega, hob⟩
    · skip
      clear kk
      go_simp
      have hx := (Ext.refl wd).alloc (.cells #[.slice none 0 0, .slice none 0 0, .slice none 0 0, .slice none 0 0, .int .i64 0, .int .i64 0] 70)
      have hN := Blk.new wd 70 (#[.slice none 0 0, .slice none 0 0, .slice none 0 0, .slice none 0 0, .int .i64 0, .int .i64 0])
      obtain ⟨bP, hb⟩ : ∃ b, b = wd.heap.size := ⟨_, rfl⟩
      have zb := hide (show wq.heap.size ≤ bP by rw [hb]; exact hW.size)
      generalize hw : World.alloc wd (.cells #[.slice none 0 0, .slice none 0 0, .slice none 0 0, .slice none 0 0, .int .i64 0, .int .i64 0] 70) = w2 at hx hN ⊢
      rw [← hb] at hN ⊢
      try have hna : ∀ k, blks t k → k ≠ bP := fun k hk e => by have a1 := (ot.lt hk).2; omega
      try replace ot := ot.ext hx
      replace hW := hW.trans hx
      have kk := KK.out _ hW
      refine hK _ _ ⟨fun _ => kk, ?_⟩
      clear hK K hx hb hw
      clear kk
      refine wpAnyT_go (i := 3) rfl (by kernel_rfl) fun K hK => ?_
      go_simp
      go_at_call 40
      refine (impl.recPanel_any ⟨xa, xb, xc, ⟨p1, p2, ⟨A3, n3, c3⟩⟩, xd, xe, xf⟩ y s ts q us _ (hr.ext (hX.trans hW)) (ht.ext (hX.trans hW)) (hq.ext (hX.trans hW)) hok hkk).mono ?_
      rintro e w3 ⟨t, rfl, ot, hx⟩
      have hob : ∀ b off, t.x.A = some ⟨b, off, none⟩ → w1.heap.size + 1 ≤ b := fun b off e => by have a1 := ot.1.blk e; have a2 := hW.size; have a3 := zq.out; (try simp only [World.size_alloc] at a1); omega
      replace hW := hW.trans hx
      try have hna : ∀ k, blks t k → k ≠ bP := fun k hk e => by have a1 := (ot.lt hk).1; have a2 := hN.lt; omega
      try replace hN := hN.ext hx
      go_simp
      have kk := KK.out _ hW
      refine hK _ _ ⟨fun _ => kk, ?_⟩
      clear hK K hx
      refine wpAnyT_takeL (i := 6) 7 (v := ?_) rfl (by kernel_rfl) (by kernel_rfl) (by kernel_rfl) (by kernel_rfl) (by kernel_rfl) (fun _ _ _ h => h) (Or.inl ⟨by rfl, ?_⟩) kk ?_
      rotate_left 1
      · (intro W hSw; (try dsimp only at hSw); go_simp) <;> with_reducible rfl
      try simp only [Act.put, List.setIfInBounds_toArray, List.set_cons_zero, List.set_cons_succ]
      clear kk
      refine wpAnyT_go (i := 8) rfl (by kernel_rfl) fun K hK => ?_
      obtain ⟨r0, r1, r2, r3, r4, r5⟩ := hN.c6
      have y0 := hN.frozen 0
      have y1 := hN.frozen 1
      have y2 := hN.frozen 2
      have y3 := hN.frozen 3
      have y4 := hN.frozen 4
      have y5 := hN.frozen 5
      go_simp
      refine hK _ _ ⟨fun h => absurd rfl h, ?_⟩
      clear hK K
      refine wpAnyT_done (by kernel_rfl) ?_ _
      go_wp2_with fail
      go_meet
      rw [hwq.out]
      have zbo := zb.out
      have zqo := zq.out
      exact ⟨bP, ⟨t, p2, 0, 0⟩, rfl, hN.set6 _ _ _ _ _ _, ⟨((((((ot.awS hna 0 _).awS hna 1 _).awS hna 2 _).awS hna 3 _).awS hna 4 _).awS hna 5 _).rd, (hr.1.2.1 : Rd w p2.A p2.n _).ext (((((((hX.trans hW).off bP 0 (by omega) _).off bP 1 (by omega) _).off bP 2 (by omega) _).off bP 3 (by omega) _).off bP 4 (by omega) _).off bP 5 (by omega) _), hcy, rfl, rfl⟩, ((((((hW.off bP 0 (by omega) _).off bP 1 (by omega) _).off bP 2 (by omega) _).off bP 3 (by omega) _).off bP 4 (by omega) _).off bP 5 (by omega) _), by omega, hob⟩
  case rest =>
    obtain ⟨g, z, rfl, hO, hz, hE, hg, hob⟩ := hcut
    have hst : StPost w #[.int .i64 xa, .int .i64 xb, .int .i64 xc, .slice p1.A p1.n p1.c, .int .i64 xd, .slice p2.A p2.n p2.c, .slice A3 n3 c3, .int .i64 xe, .int .i64 xf] g z (bgL ts us y) ⟨some ⟨w1.heap.size, 0, none⟩, 0, 0⟩ [] _ := ⟨hB.ext hE, hO, hz, ho.ext hE, hX.trans hE, by omega, fun e => by have e2 := Option.some.inj e; simp only at e2; omega, fun b off e h => by have a1 := hob b off e; have e2 := Option.some.inj h; simp only at e2; omega⟩
    clear hob hX hB ho hE hO hz hX1 hB1 hr0 q0 q1 q2 q3 q4 q5 q6 q7 q8
    obtain ⟨q0, q1, q2, q3, q4, q5, q6, q7, q8⟩ := hst.1.c9
    go_wp2_with fail
    go_loopw [10, 13, 14, 15, 35] (fun h _ _ _ i wr => ∃ (k : Nat) (v : Sl) (z : SelA) (yk : SelL) (acc : List Int), k ≤ n3 ∧ i = .int .i64 k ∧ h = .slice v.A v.n v.c ∧ Hid (stk sd (bgL ts us y) ms = acc ++ stk sd yk (ms.drop k)) ∧ Hid (okS yk = true) ∧ Hid (acc.length ≤ k) ∧ StPost w #[.int .i64 xa, .int .i64 xb, .int .i64 xc, .slice p1.A p1.n p1.c, .int .i64 xd, .slice p2.A p2.n p2.c, .slice A3 n3 c3, .int .i64 xe, .int .i64 xf] g z yk v acc wr) (fun _ _ _ _ i _ => n3 - (intOf i).toNat)
    case atStart => exact ⟨0, ⟨_, _, _⟩, z, _, [], by omega, rfl, rfl, hide rfl, hkb, hide (Nat.le_refl _), hst⟩
    case round =>
      clear hst q0 q1 q2 q3 q4 q5 q6 q7 q8
      clear z
      obtain ⟨k, v, z, yk, acc, hk, rfl, rfl, hG, hky, hal, hst⟩ := hrel
      have hst' := hst
      obtain ⟨hB, hO, hz, ho, hX, hg, hvg, hzv⟩ := hst'
      have hgr := hO.lt
      have hzX := hX.size
      have gv := ho.lt
      obtain ⟨q0, q1, q2, q3, q4, q5, q6, q7, q8⟩ := hB.c9
      obtain ⟨b0, b1, b2, b3, b4, b5⟩ := hO.c6
      have x0 := hO.frozen 0
      have x1 := hO.frozen 1
      have x2 := hO.frozen 2
      have x3 := hO.frozen 3
      have x4 := hO.frozen 4
      have x5 := hO.frozen 5
      by_cases hlt : k < n3
      · obtain ⟨bm, offm, m, rfl, hbm, hcm, hmm⟩ := hm.el hlt
        have hcm1 := (hX.cell (p := ⟨bm, offm + k, none⟩) hbm).trans hcm
        have hbr : bm < wr.heap.size := by omega
        have hk0 : (0 : Int) ≤ (k : Int) := by omega
        have hkn : (k : Int) < (n3 : Int) := by omega
        have hwk : IntKind.i64.wrap ((k : Int) + 1) = (k : Int) + 1 := Go.IntWalk.i64_in _ (by omega)
        have hc := impl.move_any z yk m wr hz hky.out
        by_cases h0 : mvC yk m = 0
        · have hky2 := hide (okS_mv hky.out h0)
          rw [h0] at hc
          by_cases hm1 : m = -1
          · have hn1 : (m != -1) = false := by simp [hm1]
            replace hm1 := hide hm1
            have hG2 := hide (stk_no hG.out hmm.out h0 (fun h => h.1 hm1.out))
            clear h0
            go_wp2_with fail
            refine hc.mono ?_
            rintro e wm ⟨z2, rfl, oz2, hx2⟩
            have hE := hx2.alloc (.cells #[.slice z2.p.x.A z2.p.x.n z2.p.x.c, .slice z2.p.y.A z2.p.y.n z2.p.y.c, .slice z2.p.z.A z2.p.z.n z2.p.z.c, .slice z2.s.A z2.s.n z2.s.c, .int .i64 z2.t, .int .i64 z2.q] 70)
            have oz3 := oz2.alloc (.cells #[.slice z2.p.x.A z2.p.x.n z2.p.x.c, .slice z2.p.y.A z2.p.y.n z2.p.y.c, .slice z2.p.z.A z2.p.z.n z2.p.z.c, .slice z2.s.A z2.s.n z2.s.c, .int .i64 z2.t, .int .i64 z2.q] 70)
            have hN := Blk.new wm 70 (#[.slice z2.p.x.A z2.p.x.n z2.p.x.c, .slice z2.p.y.A z2.p.y.n z2.p.y.c, .slice z2.p.z.A z2.p.z.n z2.p.z.c, .slice z2.s.A z2.s.n z2.s.c, .int .i64 z2.t, .int .i64 z2.q])
            obtain ⟨v0, v1, v2, v3, v4, v5⟩ := hN.c6
            have hcm4 := (hE.cell (p := ⟨bm, offm + k, none⟩) hbr).trans hcm1
            clear hcm1
            clear q0 q1 q2 q3 q4 q5 q6 q7 q8 b0 b1 b2 b3 b4 b5 x0 x1 x2 x3 x4 x5
            have hB4 := hB.ext hE
            have hO4 := hO.ext hE
            obtain ⟨q0, q1, q2, q3, q4, q5, q6, q7, q8⟩ := hB4.c9
            obtain ⟨b0, b1, b2, b3, b4, b5⟩ := hO4.c6
            have x0 := hO4.frozen 0
            have x1 := hO4.frozen 1
            have x2 := hO4.frozen 2
            have x3 := hO4.frozen 3
            have x4 := hO4.frozen 4
            have x5 := hO4.frozen 5
            go_wp2
            go_roundw
            case rel => exact ⟨k + 1, v, z2, _, acc, by omega, by go_num, rfl, hG2, hky2, hide (by have := hal.out; omega), hst.step hE oz3 (Nat.le_refl _)⟩
            case measure => simp [intOf]; omega
          · have hn1 : (m != -1) = true := by simpa using hm1
            by_cases hsd : yk.t = sd
            case neg =>
              have hn2 : (z.t == sd) = false := by rw [hz.2.2.2.1]; simpa using hsd
              replace hsd := hide hsd
              replace hm1 := hide hm1
              have hG2 := hide (stk_no hG.out hmm.out h0 (fun h => hsd.out h.2))
              clear h0
              go_wp2_with fail
              refine hc.mono ?_
              rintro e wm ⟨z2, rfl, oz2, hx2⟩
              have hE := hx2.alloc (.cells #[.slice z2.p.x.A z2.p.x.n z2.p.x.c, .slice z2.p.y.A z2.p.y.n z2.p.y.c, .slice z2.p.z.A z2.p.z.n z2.p.z.c, .slice z2.s.A z2.s.n z2.s.c, .int .i64 z2.t, .int .i64 z2.q] 70)
              have oz3 := oz2.alloc (.cells #[.slice z2.p.x.A z2.p.x.n z2.p.x.c, .slice z2.p.y.A z2.p.y.n z2.p.y.c, .slice z2.p.z.A z2.p.z.n z2.p.z.c, .slice z2.s.A z2.s.n z2.s.c, .int .i64 z2.t, .int .i64 z2.q] 70)
              have hN := Blk.new wm 70 (#[.slice z2.p.x.A z2.p.x.n z2.p.x.c, .slice z2.p.y.A z2.p.y.n z2.p.y.c, .slice z2.p.z.A z2.p.z.n z2.p.z.c, .slice z2.s.A z2.s.n z2.s.c, .int .i64 z2.t, .int .i64 z2.q])
              obtain ⟨v0, v1, v2, v3, v4, v5⟩ := hN.c6
              have hcm4 := (hE.cell (p := ⟨bm, offm + k, none⟩) hbr).trans hcm1
              clear hcm1
              clear q0 q1 q2 q3 q4 q5 q6 q7 q8 b0 b1 b2 b3 b4 b5 x0 x1 x2 x3 x4 x5
              have hB4 := hB.ext hE
              have hO4 := hO.ext hE
              obtain ⟨q0, q1, q2, q3, q4, q5, q6, q7, q8⟩ := hB4.c9
              obtain ⟨b0, b1, b2, b3, b4, b5⟩ := hO4.c6
              have x0 := hO4.frozen 0
              have x1 := hO4.frozen 1
              have x2 := hO4.frozen 2
              have x3 := hO4.frozen 3
              have x4 := hO4.frozen 4
              have x5 := hO4.frozen 5
              go_wp2
              go_roundw
              case rel => exact ⟨k + 1, v, z2, _, acc, by omega, by go_num, rfl, hG2, hky2, hide (by have := hal.out; omega), hst.step hE oz3 (Nat.le_refl _)⟩
              case measure => simp [intOf]; omega
            case pos =>
              have hn2 : (z.t == sd) = true := by rw [hz.2.2.2.1]; simpa using hsd
              have hin := inB_iff.1 (mv_str h0 hm1)
              obtain ⟨mi, rfl⟩ : ∃ mi : Nat, m = (mi : Int) := ⟨m.toNat, by omega⟩
              have hzx := hz.1.1
              have hzn := hide hzx.1
              have him : mi < z.p.x.n := by have := hzn.out; omega
              obtain ⟨bs, os, sv, hzA, hbs, hcs, hsv⟩ := hzx.el him
              replace hzA := hide hzA
              have hG2 := hide (stk_yes (v := sv) hG.out hmm.out h0 ⟨hm1, hsd⟩ (by rw [Int.toNat_natCast, List.getD_eq_getElem?_getD, hsv.out]; rfl))
              have hi0 : (0 : Int) ≤ (mi : Int) := by omega
              have hi1 : (mi : Int) < (z.p.x.n : Int) := by omega
              have hlen := hide (show acc.length ≤ 16777215 by have := hal.out; omega)
              replace hsd := hide hsd
              replace hm1 := hide hm1
              clear h0 hin hzx
              go_wp2_with fail
              refine hc.mono ?_
              rintro e wm ⟨z2, rfl, oz2, hx2⟩
              have hE := hx2.alloc (.cells #[.slice z2.p.x.A z2.p.x.n z2.p.x.c, .slice z2.p.y.A z2.p.y.n z2.p.y.c, .slice z2.p.z.A z2.p.z.n z2.p.z.c, .slice z2.s.A z2.s.n z2.s.c, .int .i64 z2.t, .int .i64 z2.q] 70)
              have oz3 := oz2.alloc (.cells #[.slice z2.p.x.A z2.p.x.n z2.p.x.c, .slice z2.p.y.A z2.p.y.n z2.p.y.c, .slice z2.p.z.A z2.p.z.n z2.p.z.c, .slice z2.s.A z2.s.n z2.s.c, .int .i64 z2.t, .int .i64 z2.q] 70)
              have hN := Blk.new wm 70 (#[.slice z2.p.x.A z2.p.x.n z2.p.x.c, .slice z2.p.y.A z2.p.y.n z2.p.y.c, .slice z2.p.z.A z2.p.z.n z2.p.z.c, .slice z2.s.A z2.s.n z2.s.c, .int .i64 z2.t, .int .i64 z2.q])
              obtain ⟨v0, v1, v2, v3, v4, v5⟩ := hN.c6
              have hcm4 := (hE.cell (p := ⟨bm, offm + k, none⟩) hbr).trans hcm1
              clear hcm1
              clear q0 q1 q2 q3 q4 q5 q6 q7 q8 b0 b1 b2 b3 b4 b5 x0 x1 x2 x3 x4 x5
              have hB4 := hB.ext hE
              have hO4 := hO.ext hE
              obtain ⟨q0, q1, q2, q3, q4, q5, q6, q7, q8⟩ := hB4.c9
              obtain ⟨b0, b1, b2, b3, b4, b5⟩ := hO4.c6
              have x0 := hO4.frozen 0
              have x1 := hO4.frozen 1
              have x2 := hO4.frozen 2
              have x3 := hO4.frozen 3
              have x4 := hO4.frozen 4
              have x5 := hO4.frozen 5
              have hcs4 := (hE.cell (p := ⟨bs, os + mi, none⟩) hbs).trans hcs
              clear hcs
              rw [hzA.out] at b0
              have hF := Rd.one (wm.alloc (.cells #[.slice z2.p.x.A z2.p.x.n z2.p.x.c, .slice z2.p.y.A z2.p.y.n z2.p.y.c, .slice z2.p.z.A z2.p.z.n z2.p.z.c, .slice z2.s.A z2.s.n z2.s.c, .int .i64 z2.t, .int .i64 z2.q] 70)) sv
              rw [World.size_alloc] at hF
              go_wp2_with (at_builtin; refine wpList_app _ rfl (.tmp 55) (.tmp 62) rfl (w.heap.size + 1) _ _ rfl ((ho.ext hE).alloc _) _ _ _ [sv] rfl hF (by have := hlen.out; omega) (by have := (hE.alloc (.cells #[.int .i64 sv] 2)).size; omega) ?_; intro t4 w4 o4 hg4 hb4; have hst4 := hst.app (hE.alloc _) (oz3.alloc _) (Nat.le_refl _) o4 hg4 hb4; have hF4 := Fr.of_grown hg4; have hO5 := (hO4.alloc (.cells #[.int .i64 sv] 2)).fr hF4 (fun e => hvg e); have hN5 := (hN.alloc (.cells #[.int .i64 sv] 2)).fr hF4 (fun e => by have a1 := (gv _ e).2; have a2 := hx2.size; omega); clear b0 b1 b2 b3 b4 b5 x0 x1 x2 x3 x4 x5 v0 v1 v2 v3 v4 v5 q0 q1 q2 q3 q4 q5 q6 q7 q8; obtain ⟨v0, v1, v2, v3, v4, v5⟩ := hN5.c6; obtain ⟨b0, b1, b2, b3, b4, b5⟩ := hO5.c6; have x0 := hO5.frozen 0; have x1 := hO5.frozen 1; have x2 := hO5.frozen 2; have x3 := hO5.frozen 3; have x4 := hO5.frozen 4; have x5 := hO5.frozen 5)
              go_roundw
              case rel => exact ⟨k + 1, t4, z2, _, acc ++ [sv], by omega, by go_num, rfl, hG2, hky2, hide (by rw [List.length_append]; have := hal.out; simp; omega), hst4⟩
              case measure => simp [intOf]; omega
        · have hG2 := hide (stk_stop hG.out hmm.out h0)
          obtain ⟨c, hcc⟩ : ∃ c, c = mvC yk m := ⟨_, rfl⟩
          have hc0 : (c != 0) = true := by rw [hcc]; simpa using h0
          rw [← hcc] at hc
          clear hcc h0
          go_wp2_with fail
          refine hc.mono ?_
          rintro e wm ⟨z2, rfl, oz2, hx2⟩
          have hE := hx2.alloc (.cells #[.slice z2.p.x.A z2.p.x.n z2.p.x.c, .slice z2.p.y.A z2.p.y.n z2.p.y.c, .slice z2.p.z.A z2.p.z.n z2.p.z.c, .slice z2.s.A z2.s.n z2.s.c, .int .i64 z2.t, .int .i64 z2.q] 70)
          have oz3 := oz2.alloc (.cells #[.slice z2.p.x.A z2.p.x.n z2.p.x.c, .slice z2.p.y.A z2.p.y.n z2.p.y.c, .slice z2.p.z.A z2.p.z.n z2.p.z.c, .slice z2.s.A z2.s.n z2.s.c, .int .i64 z2.t, .int .i64 z2.q] 70)
          have hN := Blk.new wm 70 (#[.slice z2.p.x.A z2.p.x.n z2.p.x.c, .slice z2.p.y.A z2.p.y.n z2.p.y.c, .slice z2.p.z.A z2.p.z.n z2.p.z.c, .slice z2.s.A z2.s.n z2.s.c, .int .i64 z2.t, .int .i64 z2.q])
          obtain ⟨v0, v1, v2, v3, v4, v5⟩ := hN.c6
          have hcm4 := (hE.cell (p := ⟨bm, offm + k, none⟩) hbr).trans hcm1
          clear hcm1
          clear q0 q1 q2 q3 q4 q5 q6 q7 q8 b0 b1 b2 b3 b4 b5 x0 x1 x2 x3 x4 x5
          have hB4 := hB.ext hE
          have hO4 := hO.ext hE
          obtain ⟨q0, q1, q2, q3, q4, q5, q6, q7, q8⟩ := hB4.c9
          obtain ⟨b0, b1, b2, b3, b4, b5⟩ := hO4.c6
          have x0 := hO4.frozen 0
          have x1 := hO4.frozen 1
          have x2 := hO4.frozen 2
          have x3 := hO4.frozen 3
          have x4 := hO4.frozen 4
          have x5 := hO4.frozen 5
          go_wp2
          refine bodyPost_ret (v := .tuple #[.slice v.A v.n v.c, .int .i64 0]) (by simp [results, Tryz.results9, go_sem]) rfl ⟨v, by rw [EC.out], by rw [EV.out, hG2.out]; exact (ho.ext hE).mono (by omega), hX.trans hE⟩
      · have ek : k = n3 := by omega
        have hG2 := hide (stk_end hG.out (by have := hl.out; omega))
        go_wp2
        refine bodyPost_ret (v := .tuple #[.slice v.A v.n v.c, .int .i64 0]) (by simp [results, Tryz.results9, go_sem]) rfl ⟨v, by rw [EC.out], by rw [EV.out, hG2.out]; exact ho.mono (by omega), hX⟩
set_option maxRecDepth 20000 in
set_option maxHeartbeats 4000000 in
theorem spec.StruckBy_any (x : RecA) (y : RecL) (s : Sl) (ts : List Ti) (q : Sl) (us : List ByteArray) (sd : Int) (w : World) (hr : RdR w x y) (ht : RdT w s.A s.n ts) (hq : RdW w q.A q.n us) :
    Calls Tryz.prog 10 #[.agg #[.int .i64 x.a, .int .i64 x.b, .int .i64 x.c, .slice x.p.x.A x.p.x.n x.p.x.c, .int .i64 x.d, .slice x.p.y.A x.p.y.n x.p.y.c, .slice x.p.z.A x.p.z.n x.p.z.c, .int .i64 x.e, .int .i64 x.f], .slice s.A s.n s.c, .slice q.A q.n q.c, .int .i64 sd] w fun e w' => ∃ v : Sl, e = .returned (.tuple #[.slice v.A v.n v.c, .int .i64 (sbC ts us y sd)]) ∧ Own w' w.heap.size (.slice v.A v.n v.c) (sbV ts us y sd) ∧ Ext w w' := by
  obtain ⟨xa, xb, xc, ⟨p1, p2, ⟨A3, n3, c3⟩⟩, xd, xe, xf⟩ := x
  have hr0 := hr
  simp only at hr0 ⊢
  have hX0 := (Ext.refl w).alloc (.cells #[.int .i64 xa, .int .i64 xb, .int .i64 xc, .slice p1.A p1.n p1.c, .int .i64 xd, .slice p2.A p2.n p2.c, .slice A3 n3 c3, .int .i64 xe, .int .i64 xf] 26)
  have hB0 := Blk.new w 26 (#[.int .i64 xa, .int .i64 xb, .int .i64 xc, .slice p1.A p1.n p1.c, .int .i64 xd, .slice p2.A p2.n p2.c, .slice A3 n3 c3, .int .i64 xe, .int .i64 xf])
  obtain ⟨q0, q1, q2, q3, q4, q5, q6, q7, q8⟩ := hB0.c9
  have hk := spec.l16Code_any ⟨xa, xb, xc, ⟨p1, p2, ⟨A3, n3, c3⟩⟩, xd, xe, xf⟩ y s ts q us _ (hr.ext hX0) (ht.ext hX0) (hq.ext hX0)
  have hk1 := fun W => spec.l01In_any sd 0 1 W
  rcases poC_or ts us y with ⟨hp, hb⟩ | ⟨hp, hok, hkk⟩
  · have EC := hide (sb_1 (sd := sd) hp).1
    have EV := hide (sb_1 (sd := sd) hp).2
    rw [hp] at hk
    clear hp hb
    go_enter Tryz.func10, Tryz.ntmps10
    go_wp2_with fail
    refine hk.mono ?_
    rintro e w1 ⟨rfl, hx1⟩
    go_wp2
    refine bodyPost_ret (v := .tuple #[.slice none 0 0, .int .i64 1]) (by simp [results, Tryz.results10, go_sem]) rfl ⟨⟨none, 0, 0⟩, by rw [EC.out], by rw [EV.out]; exact Own.nil_ _ _, hX0.trans hx1⟩
  cases hs : inB sd 0 1
  · have EC := hide (sb_2 hp hs).1
    have EV := hide (sb_2 hp hs).2
    rw [hp] at hk
    simp only [hs] at hk1
    clear hp hs
    go_enter Tryz.func10, Tryz.ntmps10
    go_wp2_with fail
    refine hk.mono ?_
    rintro e w1 ⟨rfl, hx1⟩
    go_wp2_with (go_at_call 42; refine (hk1 _).mono ?_; rintro e w' ⟨rfl, rfl⟩)
    refine bodyPost_ret (v := .tuple #[.slice none 0 0, .int .i64 2]) (by simp [results, Tryz.results10, go_sem]) rfl ⟨⟨none, 0, 0⟩, by rw [EC.out], by rw [EV.out]; exact Own.nil_ _ _, hX0.trans hx1⟩
  have EC := hide (sb_0 hp hs).1
  have EV := hide (sb_0 hp hs).2
  rw [hp] at hk
  simp only [hs] at hk1
  have hmB := hide (okR_parts hok).2.2.2.2.2.2
  obtain ⟨ms, hms⟩ : ∃ ms, Hid (y.p.z = ms) := ⟨_, rfl⟩
  have hm : Rd w A3 n3 ms := by rw [← hms.out]; exact hr.1.2.2.1
  have hcy : cap1 p2 := hr.1.2.2.2.2.2.1
  have hkb := hide (okS_bg hok hkk)
  rw [hms.out] at EV hmB
  have hn1 := hm.le
  have hl := hide hm.1
  go_enter Tryz.func10, Tryz.ntmps10
  go_wp2_with fail
  refine hk.mono ?_
  rintro e w1 ⟨rfl, hx1⟩
  have hX1 := hX0.trans hx1
  have hB1 := hB0.ext hx1
  have z1 := hB1.lt
  clear q0 q1 q2 q3 q4 q5 q6 q7 q8 hk hp hs
  obtain ⟨q0, q1, q2, q3, q4, q5, q6, q7, q8⟩ := hB1.c9
  go_upto_region 31 with (go_at_call 42; refine (hk1 _).mono ?_; rintro e w' ⟨rfl, rfl⟩)
  have hX := hX1.alloc (.cells #[] 2)
  have hB := hB1.alloc (.cells #[] 2)
  have ho := Own.new0 w1 (w.heap.size + 1) (by omega)
  clear hX0 hB0 hx1
  have hzl : w1.heap.size < (w1.alloc (.cells #[] 2)).heap.size := by simp
  go_wp2_with fail
  refine (spec.l16Begin_any ⟨xa, xb, xc, ⟨p1, p2, ⟨A3, n3, c3⟩⟩, xd, xe, xf⟩ y s ts q us _ (hr.ext hX) (ht.ext hX) (hq.ext hX) hok).mono ?_
  rintro e w2 ⟨z, rfl, oz, hx2⟩
  have hE := hx2.alloc (.cells #[.slice z.p.x.A z.p.x.n z.p.x.c, .slice z.p.y.A z.p.y.n z.p.y.c, .slice z.p.z.A z.p.z.n z.p.z.c, .slice z.s.A z.s.n z.s.c, .int .i64 z.t, .int .i64 z.q] 70)
  have zx := hx2.size
  have hst : StPost w #[.int .i64 xa, .int .i64 xb, .int .i64 xc, .slice p1.A p1.n p1.c, .int .i64 xd, .slice p2.A p2.n p2.c, .slice A3 n3 c3, .int .i64 xe, .int .i64 xf] w2.heap.size z (bgL ts us y) ⟨some ⟨w1.heap.size, 0, none⟩, 0, 0⟩ [] (w2.alloc (.cells #[.slice z.p.x.A z.p.x.n z.p.x.c, .slice z.p.y.A z.p.y.n z.p.y.c, .slice z.p.z.A z.p.z.n z.p.z.c, .slice z.s.A z.s.n z.s.c, .int .i64 z.t, .int .i64 z.q] 70)) := ⟨hB.ext hE, Blk.new _ _ _, (oz.alloc _).rd, ho.ext hE, hX.trans hE, by omega, fun e => by have e2 := Option.some.inj e; simp only at e2; omega, fun b off e h => by have a1 := oz.1.1.blk e; have e2 := Option.some.inj h; simp only at e2; omega⟩
  clear hX hB ho hE hX1 hB1 hr0 q0 q1 q2 q3 q4 q5 q6 q7 q8
  obtain ⟨q0, q1, q2, q3, q4, q5, q6, q7, q8⟩ := hst.1.c9
  go_wp2_with fail
  go_loopw [11, 13, 14, 15] (fun h i _ _ wr => ∃ (k : Nat) (v : Sl) (z : SelA) (yk : SelL) (acc : List Int), k ≤ n3 ∧ i = .int .i64 k ∧ h = .slice v.A v.n v.c ∧ Hid (stk sd (bgL ts us y) ms = acc ++ stk sd yk (ms.drop k)) ∧ Hid (okS yk = true) ∧ Hid (acc.length ≤ k) ∧ StPost w #[.int .i64 xa, .int .i64 xb, .int .i64 xc, .slice p1.A p1.n p1.c, .int .i64 xd, .slice p2.A p2.n p2.c, .slice A3 n3 c3, .int .i64 xe, .int .i64 xf] w2.heap.size z yk v acc wr) (fun _ i _ _ _ => n3 - (intOf i).toNat)
  case atStart => exact ⟨0, ⟨_, _, _⟩, z, _, [], by omega, rfl, rfl, hide rfl, hkb, hide (Nat.le_refl _), hst⟩
  case round =>
    clear hst q0 q1 q2 q3 q4 q5 q6 q7 q8
    skip
    obtain ⟨k, v, z, yk, acc, hk, rfl, rfl, hG, hky, hal, hst⟩ := hrel
    have hst' := hst
    obtain ⟨hB, hO, hz, ho, hX, hg, hvg, hzv⟩ := hst'
    have hgr := hO.lt
    have hzX := hX.size
    have gv := ho.lt
    obtain ⟨q0, q1, q2, q3, q4, q5, q6, q7, q8⟩ := hB.c9
    obtain ⟨b0, b1, b2, b3, b4, b5⟩ := hO.c6
    have x0 := hO.frozen 0
    have x1 := hO.frozen 1
    have x2 := hO.frozen 2
    have x3 := hO.frozen 3
    have x4 := hO.frozen 4
    have x5 := hO.frozen 5
    by_cases hlt : k < n3
    · obtain ⟨bm, offm, m, rfl, hbm, hcm, hmm⟩ := hm.el hlt
      have hcm1 := (hX.cell (p := ⟨bm, offm + k, none⟩) hbm).trans hcm
      have hbr : bm < wr.heap.size := by omega
      have hk0 : (0 : Int) ≤ (k : Int) := by omega
      have hkn : (k : Int) < (n3 : Int) := by omega
      have hwk : IntKind.i64.wrap ((k : Int) + 1) = (k : Int) + 1 := Go.IntWalk.i64_in _ (by omega)
      skip
      have KK := hide (show ∀ (W : World), Ext wr W → (W.cell? ⟨w2.heap.size, 0, none⟩ = some (.slice z.p.x.A z.p.x.n z.p.x.c) ∧ W.cell? ⟨w2.heap.size, 1, none⟩ = some (.slice z.p.y.A z.p.y.n z.p.y.c) ∧ W.cell? ⟨w2.heap.size, 2, none⟩ = some (.slice z.p.z.A z.p.z.n z.p.z.c) ∧ W.cell? ⟨w2.heap.size, 3, none⟩ = some (.slice z.s.A z.s.n z.s.c) ∧ W.cell? ⟨w2.heap.size, 4, none⟩ = some (.int .i64 z.t) ∧ W.cell? ⟨w2.heap.size, 5, none⟩ = some (.int .i64 z.q)) ∧ (W.cell? ⟨w.heap.size, 0, none⟩ = some (.int .i64 xa) ∧ W.cell? ⟨w.heap.size, 1, none⟩ = some (.int .i64 xb) ∧ W.cell? ⟨w.heap.size, 2, none⟩ = some (.int .i64 xc) ∧ W.cell? ⟨w.heap.size, 3, none⟩ = some (.slice p1.A p1.n p1.c) ∧ W.cell? ⟨w.heap.size, 4, none⟩ = some (.int .i64 xd) ∧ W.cell? ⟨w.heap.size, 5, none⟩ = some (.slice p2.A p2.n p2.c) ∧ W.cell? ⟨w.heap.size, 6, none⟩ = some (.slice (some ⟨bm, offm, none⟩) n3 c3) ∧ W.cell? ⟨w.heap.size, 7, none⟩ = some (.int .i64 xe) ∧ W.cell? ⟨w.heap.size, 8, none⟩ = some (.int .i64 xf)) ∧ W.cell? ⟨bm, offm + k, none⟩ = some (.int .i64 m) from fun W hE => ⟨(hO.ext hE).c6, (hB.ext hE).c9, (hE.cell (p := ⟨bm, offm + k, none⟩) hbr).trans hcm1⟩)
      go_upto_region 43 with fail
      go_cut [14, 15] (fun v8 v9 wx => MvP wr (mvC yk m) (mvV yk m) v8 v9 wx)
      case first =>
        have hW := (Ext.refl wr).drew
        refine wp_region_sink (S := fun w' => (w'.cell? ⟨w2.heap.size, 0, none⟩ = some (.slice z.p.x.A z.p.x.n z.p.x.c) ∧ w'.cell? ⟨w2.heap.size, 1, none⟩ = some (.slice z.p.y.A z.p.y.n z.p.y.c) ∧ w'.cell? ⟨w2.heap.size, 2, none⟩ = some (.slice z.p.z.A z.p.z.n z.p.z.c) ∧ w'.cell? ⟨w2.heap.size, 3, none⟩ = some (.slice z.s.A z.s.n z.s.c) ∧ w'.cell? ⟨w2.heap.size, 4, none⟩ = some (.int .i64 z.t) ∧ w'.cell? ⟨w2.heap.size, 5, none⟩ = some (.int .i64 z.q)) ∧ (w'.cell? ⟨w.heap.size, 0, none⟩ = some (.int .i64 xa) ∧ w'.cell? ⟨w.heap.size, 1, none⟩ = some (.int .i64 xb) ∧ w'.cell? ⟨w.heap.size, 2, none⟩ = some (.int .i64 xc) ∧ w'.cell? ⟨w.heap.size, 3, none⟩ = some (.slice p1.A p1.n p1.c) ∧ w'.cell? ⟨w.heap.size, 4, none⟩ = some (.int .i64 xd) ∧ w'.cell? ⟨w.heap.size, 5, none⟩ = some (.slice p2.A p2.n p2.c) ∧ w'.cell? ⟨w.heap.size, 6, none⟩ = some (.slice (some ⟨bm, offm, none⟩) n3 c3) ∧ w'.cell? ⟨w.heap.size, 7, none⟩ = some (.int .i64 xe) ∧ w'.cell? ⟨w.heap.size, 8, none⟩ = some (.int .i64 xf)) ∧ w'.cell? ⟨bm, offm + k, none⟩ = some (.int .i64 m)) 12 (by kernel_rfl) ?_
        change wpAnyT _ _ _ _ _ _ _ _ _ (World.drew _)
        generalize hwd : World.drew _ = wd at hW ⊢
        clear hwd
        have kk := KK.out wd hW
        clear q0 q1 q2 q3 q4 q5 q6 q7 q8 b0 b1 b2 b3 b4 b5 x0 x1 x2 x3 x4 x5 hcm1
        refine wpAnyT_takeL (i := 0) 9 (v := ?_) rfl (by kernel_rfl) (by kernel_rfl) (by kernel_rfl) (by kernel_rfl) (by kernel_rfl) (fun _ _ _ h => h) (Or.inl ⟨by rfl, ?_⟩) kk ?_
        rotate_left 1
        · (intro W hSw; (try dsimp only at hSw); go_simp) <;> with_reducible rfl
        try simp only [Act.put, List.setIfInBounds_toArray, List.set_cons_zero, List.set_cons_succ]
        refine wpAnyT_takeL (i := 1) 9 (v := ?_) rfl (by kernel_rfl) (by kernel_rfl) (by kernel_rfl) (by kernel_rfl) (by kernel_rfl) (fun _ _ _ h => h) (Or.inl ⟨by rfl, ?_⟩) kk ?_
        rotate_left 1
        · (intro W hSw; (try dsimp only at hSw); go_simp) <;> with_reducible rfl
        try simp only [Act.put, List.setIfInBounds_toArray, List.set_cons_zero, List.set_cons_succ]
        refine wpAnyT_takeL (i := 2) 9 (v := ?_) rfl (by kernel_rfl) (by kernel_rfl) (by kernel_rfl) (by kernel_rfl) (by kernel_rfl) (fun _ _ _ h => h) (Or.inl ⟨by rfl, ?_⟩) kk ?_
        rotate_left 1
        · (intro W hSw; (try dsimp only at hSw); go_simp) <;> with_reducible rfl
        try simp only [Act.put, List.setIfInBounds_toArray, List.set_cons_zero, List.set_cons_succ]
        refine wpAnyT_takeL (i := 3) 9 (v := ?_) rfl (by kernel_rfl) (by kernel_rfl) (by kernel_rfl) (by kernel_rfl) (by kernel_rfl) (fun _ _ _ h => h) (Or.inl ⟨by rfl, ?_⟩) kk ?_
        rotate_left 1
        · (intro W hSw; (try dsimp only at hSw); go_simp) <;> with_reducible rfl
        try simp only [Act.put, List.setIfInBounds_toArray, List.set_cons_zero, List.set_cons_succ]
        refine wpAnyT_takeL (i := 4) 9 (v := ?_) rfl (by kernel_rfl) (by kernel_rfl) (by kernel_rfl) (by kernel_rfl) (by kernel_rfl) (fun _ _ _ h => h) (Or.inl ⟨by rfl, ?_⟩) kk ?_
        rotate_left 1
        · (intro W hSw; (try dsimp only at hSw); go_simp) <;> with_reducible rfl
        try simp only [Act.put, List.setIfInBounds_toArray, List.set_cons_zero, List.set_cons_succ]
        refine wpAnyT_takeL (i := 5) 9 (v := ?_) rfl (by kernel_rfl) (by kernel_rfl) (by kernel_rfl) (by kernel_rfl) (by kernel_rfl) (fun _ _ _ h => h) (Or.inl ⟨by rfl, ?_⟩) kk ?_
        rotate_left 1
        · (intro W hSw; (try dsimp only at hSw); go_simp) <;> with_reducible rfl
        try simp only [Act.put, List.setIfInBounds_toArray, List.set_cons_zero, List.set_cons_succ]
        refine wpAnyT_go2 (i := 6) (j := 10) rfl rfl (by kernel_rfl) (fun K hK => ?_) (fun K hK => ?_)
        · skip
          clear kk
          go_simp
          go_at_call 44
          refine (spec.l14Move_any z yk m _ (hz.ext hW) hky.out).mono ?_
          rintro e wm ⟨z2, rfl, oz2, hx⟩
          have hWs := hW.size
          replace hW := hW.trans hx
          try have hna : mvC yk m = 0 → ∀ k, blksS z2 k → k ≠ bP := fun h0 k hk e => by have a1 := ((oz2 h0).lt hk).1; have a2 := hN.lt; omega
          try replace hN := hN.ext hx
          replace oz2 := fun h0 => OwnS.mono (lo' := wr.heap.size) (oz2 h0) hWs
          go_simp
          have kk := KK.out _ hW
          refine hK _ _ ⟨fun _ => kk, ?_⟩
          clear hK K hx
          refine wpAnyT_takeL (i := 7) 9 (v := ?_) rfl (by kernel_rfl) (by kernel_rfl) (by kernel_rfl) (by kernel_rfl) (by kernel_rfl) (fun _ _ _ h => h) (Or.inl ⟨by rfl, ?_⟩) kk ?_
          rotate_left 1
          · (intro W hSw; (try dsimp only at hSw); go_simp) <;> with_reducible rfl
          try simp only [Act.put, List.setIfInBounds_toArray, List.set_cons_zero, List.set_cons_succ]
          refine wpAnyT_takeL (i := 8) 9 (v := ?_) rfl (by kernel_rfl) (by kernel_rfl) (by kernel_rfl) (by kernel_rfl) (by kernel_rfl) (fun _ _ _ h => h) (Or.inl ⟨by rfl, ?_⟩) kk ?_
          rotate_left 1
          · (intro W hSw; (try dsimp only at hSw); go_simp) <;> with_reducible rfl
          try simp only [Act.put, List.setIfInBounds_toArray, List.set_cons_zero, List.set_cons_succ]
          refine wpAnyT_takeL (i := 9) 9 (v := ?_) rfl (by kernel_rfl) (by kernel_rfl) (by kernel_rfl) (by kernel_rfl) (by kernel_rfl) (fun _ _ _ h => h) (Or.inl ⟨by rfl, ?_⟩) kk ?_
          rotate_left 1
          · (intro W hSw; (try dsimp only at hSw); go_simp) <;> with_reducible rfl
          try simp only [Act.put, List.setIfInBounds_toArray, List.set_cons_zero, List.set_cons_succ]
          clear kk
          refine wpAnyT_go (i := 10) rfl (by kernel_rfl) fun K hK => ?_
          go_simp
          have hx := (Ext.refl wm).alloc (.cells #[.slice none 0 0, .slice none 0 0, .slice none 0 0, .slice none 0 0, .int .i64 0, .int .i64 0] 70)
          have hN := Blk.new wm 70 (#[.slice none 0 0, .slice none 0 0, .slice none 0 0, .slice none 0 0, .int .i64 0, .int .i64 0])
          obtain ⟨bP, hb⟩ : ∃ b, b = wm.heap.size := ⟨_, rfl⟩
          have zb := hide (show wr.heap.size ≤ bP by rw [hb]; exact hW.size)
          generalize hw : World.alloc wm (.cells #[.slice none 0 0, .slice none 0 0, .slice none 0 0, .slice none 0 0, .int .i64 0, .int .i64 0] 70) = w5 at hx hN ⊢
          rw [← hb] at hN ⊢
          try have hna : mvC yk m = 0 → ∀ k, blksS z2 k → k ≠ bP := fun h0 k hk e => by have a1 := ((oz2 h0).lt hk).2; omega
          try replace oz2 := fun h0 => (oz2 h0).ext hx
          replace hW := hW.trans hx
          have kk := KK.out _ hW
          refine hK _ _ ⟨fun _ => kk, ?_⟩
          clear hK K hx hb hw
          clear kk
          refine wpAnyT_go (i := 11) rfl (by kernel_rfl) fun K hK => ?_
          obtain ⟨r0, r1, r2, r3, r4, r5⟩ := hN.c6
          have y0 := hN.frozen 0
          have y1 := hN.frozen 1
          have y2 := hN.frozen 2
          have y3 := hN.frozen 3
          have y4 := hN.frozen 4
          have y5 := hN.frozen 5
          go_simp
          have zbo := zb.out
          refine hK _ _ ⟨fun _ => KK.out _ ((((((hW.off bP 0 (by omega) _).off bP 1 (by omega) _).off bP 2 (by omega) _).off bP 3 (by omega) _).off bP 4 (by omega) _).off bP 5 (by omega) _), ?_⟩
          clear hK K zbo
          refine wpAnyT_go (i := 12) rfl (by kernel_rfl) fun K hK => ?_
          go_simp
          refine hK _ _ ⟨fun h => absurd rfl h, ?_⟩
          clear hK K
          refine wpAnyT_done (by kernel_rfl) ?_ _
          go_wp2_with fail
          go_meet
          have zbo := zb.out
          exact ⟨bP, z2, rfl, rfl, hN.set6 _ _ _ _ _ _, fun h0 => (((((((oz2 h0).away (hna h0) 0 _).away (hna h0) 1 _).away (hna h0) 2 _).away (hna h0) 3 _).away (hna h0) 4 _).away (hna h0) 5 _), ((((((hW.off bP 0 (by omega) _).off bP 1 (by omega) _).off bP 2 (by omega) _).off bP 3 (by omega) _).off bP 4 (by omega) _).off bP 5 (by omega) _), by omega⟩
        · skip
          clear kk
          go_simp
          have hx := (Ext.refl wd).alloc (.cells #[.slice none 0 0, .slice none 0 0, .slice none 0 0, .slice none 0 0, .int .i64 0, .int .i64 0] 70)
          have hN := Blk.new wd 70 (#[.slice none 0 0, .slice none 0 0, .slice none 0 0, .slice none 0 0, .int .i64 0, .int .i64 0])
          obtain ⟨bP, hb⟩ : ∃ b, b = wd.heap.size := ⟨_, rfl⟩
          have zb := hide (show wr.heap.size ≤ bP by rw [hb]; exact hW.size)
          generalize hw : World.alloc wd (.cells #[.slice none 0 0, .slice none 0 0, .slice none 0 0, .slice none 0 0, .int .i64 0, .int .i64 0] 70) = w4 at hx hN ⊢
          rw [← hb] at hN ⊢
          try have hna : mvC yk m = 0 → ∀ k, blksS z2 k → k ≠ bP := fun h0 k hk e => by have a1 := ((oz2 h0).lt hk).2; omega
          try replace oz2 := fun h0 => (oz2 h0).ext hx
          replace hW := hW.trans hx
          have kk := KK.out _ hW
          refine hK _ _ ⟨fun _ => kk, ?_⟩
          clear hK K hx hb hw
          clear kk
          refine wpAnyT_go (i := 6) rfl (by kernel_rfl) fun K hK => ?_
          go_simp
          go_at_call 44
          refine (spec.l14Move_any z yk m _ (hz.ext hW) hky.out).mono ?_
          rintro e w5 ⟨z2, rfl, oz2, hx⟩
          have hWs := hW.size
          replace hW := hW.trans hx
          try have hna : mvC yk m = 0 → ∀ k, blksS z2 k → k ≠ bP := fun h0 k hk e => by have a1 := ((oz2 h0).lt hk).1; have a2 := hN.lt; omega
          try replace hN := hN.ext hx
          replace oz2 := fun h0 => OwnS.mono (lo' := wr.heap.size) (oz2 h0) hWs
          go_simp
          have kk := KK.out _ hW
          refine hK _ _ ⟨fun _ => kk, ?_⟩
          clear hK K hx
          refine wpAnyT_takeL (i := 7) 9 (v := ?_) rfl (by kernel_rfl) (by kernel_rfl) (by kernel_rfl) (by kernel_rfl) (by kernel_rfl) (fun _ _ _ h => h) (Or.inl ⟨by rfl, ?_⟩) kk ?_
          rotate_left 1
          · (intro W hSw; (try dsimp only at hSw); go_simp) <;> with_reducible rfl
          try simp only [Act.put, List.setIfInBounds_toArray, List.set_cons_zero, List.set_cons_succ]
          refine wpAnyT_takeL (i := 8) 9 (v := ?_) rfl (by kernel_rfl) (by kernel_rfl) (by kernel_rfl) (by kernel_rfl) (by kernel_rfl) (fun _ _ _ h => h) (Or.inl ⟨by rfl, ?_⟩) kk ?_
          rotate_left 1
          · (intro W hSw; (try dsimp only at hSw); go_simp) <;> with_reducible rfl
          try simp only [Act.put, List.setIfInBounds_toArray, List.set_cons_zero, List.set_cons_succ]
          refine wpAnyT_takeL (i := 9) 9 (v := ?_) rfl (by kernel_rfl) (by kernel_rfl) (by kernel_rfl) (by kernel_rfl) (by kernel_rfl) (fun _ _ _ h => h) (Or.inl ⟨by rfl, ?_⟩) kk ?_
          rotate_left 1
          · (intro W hSw; (try dsimp only at hSw); go_simp) <;> with_reducible rfl
          try simp only [Act.put, List.setIfInBounds_toArray, List.set_cons_zero, List.set_cons_succ]
          clear kk
          refine wpAnyT_go (i := 11) rfl (by kernel_rfl) fun K hK => ?_
          obtain ⟨r0, r1, r2, r3, r4, r5⟩ := hN.c6
          have y0 := hN.frozen 0
          have y1 := hN.frozen 1
          have y2 := hN.frozen 2
          have y3 := hN.frozen 3
          have y4 := hN.frozen 4
          have y5 := hN.frozen 5
          go_simp
          have zbo := zb.out
          refine hK _ _ ⟨fun _ => KK.out _ ((((((hW.off bP 0 (by omega) _).off bP 1 (by omega) _).off bP 2 (by omega) _).off bP 3 (by omega) _).off bP 4 (by omega) _).off bP 5 (by omega) _), ?_⟩
          clear hK K zbo
          refine wpAnyT_go (i := 12) rfl (by kernel_rfl) fun K hK => ?_
          go_simp
          refine hK _ _ ⟨fun h => absurd rfl h, ?_⟩
          clear hK K
          refine wpAnyT_done (by kernel_rfl) ?_ _
          go_wp2_with fail
          go_meet
          have zbo := zb.out
          exact ⟨bP, z2, rfl, rfl, hN.set6 _ _ _ _ _ _, fun h0 => (((((((oz2 h0).away (hna h0) 0 _).away (hna h0) 1 _).away (hna h0) 2 _).away (hna h0) 3 _).away (hna h0) 4 _).away (hna h0) 5 _), ((((((hW.off bP 0 (by omega) _).off bP 1 (by omega) _).off bP 2 (by omega) _).off bP 3 (by omega) _).off bP 4 (by omega) _).off bP 5 (by omega) _), by omega⟩
      case rest =>
        clear KK
        obtain ⟨g8, z2, rfl, h9, hN, oz2, hE, hg8⟩ := hcut
        have hcm4 := (hE.cell (p := ⟨bm, offm + k, none⟩) hbr).trans hcm1
        clear hcm1
        clear q0 q1 q2 q3 q4 q5 q6 q7 q8 b0 b1 b2 b3 b4 b5 x0 x1 x2 x3 x4 x5
        have hB4 := hB.ext hE
        have hO4 := hO.ext hE
        obtain ⟨q0, q1, q2, q3, q4, q5, q6, q7, q8⟩ := hB4.c9
        obtain ⟨b0, b1, b2, b3, b4, b5⟩ := hO4.c6
        have x0 := hO4.frozen 0
        have x1 := hO4.frozen 1
        have x2 := hO4.frozen 2
        have x3 := hO4.frozen 3
        have x4 := hO4.frozen 4
        have x5 := hO4.frozen 5
        obtain ⟨v0, v1, v2, v3, v4, v5⟩ := hN.c6
        have hmr := movB_at hmB.out hmm.out
        by_cases h0 : mvC yk m = 0
        · have hky2 := hide (okS_mv hky.out h0)
          have oz3 := oz2 h0
          rw [h0] at h9
          subst h9
          by_cases hm1 : 0 ≤ m
          case neg =>
            skip
            have hG2 := hide (stk_no hG.out hmm.out h0 (fun h => h.1 (by omega)))
            clear h0 oz2
            go_wp2_with fail
            go_roundw
            case rel => exact ⟨k + 1, v, z2, _, acc, by omega, by go_num, rfl, hG2, hky2, hide (by have := hal.out; omega), hst.step hE oz3 (Nat.le_refl _)⟩
            case measure => simp [intOf]; omega
          case pos =>
            have hm2 := hide (show m ≠ -1 by omega)
            by_cases hsd : yk.t = sd
            case neg =>
              have hn2 : (z.t == sd) = false := by rw [hz.2.2.2.1]; simpa using hsd
              replace hsd := hide hsd
              have hG2 := hide (stk_no hG.out hmm.out h0 (fun h => hsd.out h.2))
              clear h0 oz2
              go_wp2_with fail
              go_roundw
              case rel => exact ⟨k + 1, v, z2, _, acc, by omega, by go_num, rfl, hG2, hky2, hide (by have := hal.out; omega), hst.step hE oz3 (Nat.le_refl _)⟩
              case measure => simp [intOf]; omega
            case pos =>
              have hn2 : (z.t == sd) = true := by rw [hz.2.2.2.1]; simpa using hsd
              have hin := inB_iff.1 (mv_str h0 hm2.out)
              obtain ⟨mi, rfl⟩ : ∃ mi : Nat, m = (mi : Int) := ⟨m.toNat, by omega⟩
              have hzx := hz.1.1
              have hzn := hide hzx.1
              have him : mi < z.p.x.n := by have := hzn.out; omega
              obtain ⟨bs, os, sv, hzA, hbs, hcs, hsv⟩ := hzx.el him
              replace hzA := hide hzA
              have hG2 := hide (stk_yes (v := sv) hG.out hmm.out h0 ⟨hm2.out, hsd⟩ (by rw [Int.toNat_natCast, List.getD_eq_getElem?_getD, hsv.out]; rfl))
              have hi0 : (0 : Int) ≤ (mi : Int) := by omega
              have hi1 : (mi : Int) < (z.p.x.n : Int) := by omega
              have hlen := hide (show acc.length ≤ 16777215 by have := hal.out; omega)
              replace hsd := hide hsd
              clear h0 hin hzx oz2
              have hcs4 := (hE.cell (p := ⟨bs, os + mi, none⟩) hbs).trans hcs
              clear hcs
              rw [hzA.out] at b0
              go_upto_region 66 with fail
              have hW := (Ext.refl wc).drew
              have KK := hide (show ∀ (W : World), Ext wc W → (W).cell? ⟨w2.heap.size, 0, none⟩ = some (.slice (some ⟨bs, os, none⟩) z.p.x.n z.p.x.c) ∧ (W).cell? ⟨w.heap.size, 6, none⟩ = some (.slice (some ⟨bm, offm, none⟩) n3 c3) ∧ (W).cell? ⟨bm, offm + k, none⟩ = some (.int .i64 (mi : Int)) ∧ (W).cell? ⟨bs, os + mi, none⟩ = some (.int .i64 sv) from fun W hQ => ⟨(hQ.cell (p := ⟨w2.heap.size, 0, none⟩) hO4.lt).trans b0, (hB4.ext hQ).get 6 _ rfl, (hQ.cell (p := ⟨bm, offm + k, none⟩) (by simp only; have := hE.size; omega)).trans hcm4, (hQ.cell (p := ⟨bs, os + mi, none⟩) (by simp only; have := hE.size; omega)).trans hcs4⟩)
              refine wp_region_sink (S := fun w' => (w').cell? ⟨w2.heap.size, 0, none⟩ = some (.slice (some ⟨bs, os, none⟩) z.p.x.n z.p.x.c) ∧ (w').cell? ⟨w.heap.size, 6, none⟩ = some (.slice (some ⟨bm, offm, none⟩) n3 c3) ∧ (w').cell? ⟨bm, offm + k, none⟩ = some (.int .i64 (mi : Int)) ∧ (w').cell? ⟨bs, os + mi, none⟩ = some (.int .i64 sv)) 13 (by kernel_rfl) ?_
              change wpAnyT _ _ _ _ _ _ _ _ _ (World.drew _)
              generalize hwd : World.drew _ = wd at hW ⊢
              clear hwd
              have kk := KK.out wd hW
              refine wpAnyT_takeL (i := 0) 9 (v := ?_) rfl (by kernel_rfl) (by kernel_rfl) (by kernel_rfl) (by kernel_rfl) (by kernel_rfl) (fun _ _ _ h => h) (Or.inl ⟨by rfl, ?_⟩) kk ?_
              rotate_left 1
              · (intro W hSw; (try dsimp only at hSw); go_simp) <;> with_reducible rfl
              try simp only [Act.put, List.setIfInBounds_toArray, List.set_cons_zero, List.set_cons_succ]
              refine wpAnyT_takeL (i := 1) 9 (v := ?_) rfl (by kernel_rfl) (by kernel_rfl) (by kernel_rfl) (by kernel_rfl) (by kernel_rfl) (fun _ _ _ h => h) (Or.inl ⟨by rfl, ?_⟩) kk ?_
              rotate_left 1
              · (intro W hSw; (try dsimp only at hSw); go_simp) <;> with_reducible rfl
              try simp only [Act.put, List.setIfInBounds_toArray, List.set_cons_zero, List.set_cons_succ]
              refine wpAnyT_takeL (i := 2) 9 (v := ?_) rfl (by kernel_rfl) (by kernel_rfl) (by kernel_rfl) (by kernel_rfl) (by kernel_rfl) (fun _ _ _ h => h) (Or.inl ⟨by rfl, ?_⟩) kk ?_
              rotate_left 1
              · (intro W hSw; (try dsimp only at hSw); go_simp) <;> with_reducible rfl
              try simp only [Act.put, List.setIfInBounds_toArray, List.set_cons_zero, List.set_cons_succ]
              refine wpAnyT_takeL (i := 3) 9 (v := ?_) rfl (by kernel_rfl) (by kernel_rfl) (by kernel_rfl) (by kernel_rfl) (by kernel_rfl) (fun _ _ _ h => h) (Or.inl ⟨by rfl, ?_⟩) kk ?_
              rotate_left 1
              · (intro W hSw; (try dsimp only at hSw); go_simp) <;> with_reducible rfl
              try simp only [Act.put, List.setIfInBounds_toArray, List.set_cons_zero, List.set_cons_succ]
              refine wpAnyT_takeL (i := 4) 9 (v := ?_) rfl (by kernel_rfl) (by kernel_rfl) (by kernel_rfl) (by kernel_rfl) (by kernel_rfl) (fun _ _ _ h => h) (Or.inl ⟨by rfl, ?_⟩) kk ?_
              rotate_left 1
              · (intro W hSw; (try dsimp only at hSw); go_simp) <;> with_reducible rfl
              try simp only [Act.put, List.setIfInBounds_toArray, List.set_cons_zero, List.set_cons_succ]
              refine wpAnyT_takeL (i := 5) 9 (v := ?_) rfl (by kernel_rfl) (by kernel_rfl) (by kernel_rfl) (by kernel_rfl) (by kernel_rfl) (fun _ _ _ h => h) (Or.inl ⟨by rfl, ?_⟩) kk ?_
              rotate_left 1
              · (intro W hSw; (try dsimp only at hSw); go_simp) <;> with_reducible rfl
              try simp only [Act.put, List.setIfInBounds_toArray, List.set_cons_zero, List.set_cons_succ]
              refine wpAnyT_takeL (i := 6) 9 (v := ?_) rfl (by kernel_rfl) (by kernel_rfl) (by kernel_rfl) (by kernel_rfl) (by kernel_rfl) (fun _ _ _ h => h) (Or.inl ⟨by rfl, ?_⟩) kk ?_
              rotate_left 1
              · (intro W hSw; (try dsimp only at hSw); go_simp) <;> with_reducible rfl
              try simp only [Act.put, List.setIfInBounds_toArray, List.set_cons_zero, List.set_cons_succ]
              refine wpAnyT_takeL (i := 7) 9 (v := ?_) rfl (by kernel_rfl) (by kernel_rfl) (by kernel_rfl) (by kernel_rfl) (by kernel_rfl) (fun _ _ _ h => h) (Or.inl ⟨by rfl, ?_⟩) kk ?_
              rotate_left 1
              · (intro W hSw; (try dsimp only at hSw); go_simp) <;> with_reducible rfl
              try simp only [Act.put, List.setIfInBounds_toArray, List.set_cons_zero, List.set_cons_succ]
              refine wpAnyT_takeL (i := 8) 9 (v := ?_) rfl (by kernel_rfl) (by kernel_rfl) (by kernel_rfl) (by kernel_rfl) (by kernel_rfl) (fun _ _ _ h => h) (Or.inl ⟨by rfl, ?_⟩) kk ?_
              rotate_left 1
              · (intro W hSw; (try dsimp only at hSw); go_simp) <;> with_reducible rfl
              try simp only [Act.put, List.setIfInBounds_toArray, List.set_cons_zero, List.set_cons_succ]
              refine wpAnyT_takeL (i := 9) 9 (v := ?_) rfl (by kernel_rfl) (by kernel_rfl) (by kernel_rfl) (by kernel_rfl) (by kernel_rfl) (fun _ _ _ h => h) (Or.inl ⟨by rfl, ?_⟩) kk ?_
              rotate_left 1
              · (intro W hSw; (try dsimp only at hSw); go_simp) <;> with_reducible rfl
              try simp only [Act.put, List.setIfInBounds_toArray, List.set_cons_zero, List.set_cons_succ]
              refine wpAnyT_takeL (i := 10) 9 (v := ?_) rfl (by kernel_rfl) (by kernel_rfl) (by kernel_rfl) (by kernel_rfl) (by kernel_rfl) (fun _ _ _ h => h) (Or.inl ⟨by rfl, ?_⟩) kk ?_
              rotate_left 1
              · (intro W hSw; (try dsimp only at hSw); go_simp) <;> with_reducible rfl
              try simp only [Act.put, List.setIfInBounds_toArray, List.set_cons_zero, List.set_cons_succ]
              refine wpAnyT_go (i := 11) rfl (by kernel_rfl) fun K hK => ?_
              go_simp
              have hx5 := (Ext.refl wd).alloc (.cells #[.int .i64 sv] 2)
              have hF := Blk.new wd 2 (#[.int .i64 sv])
              have hE5 := hW.trans hx5
              have kk5 := KK.out _ hE5
              refine hK _ _ ⟨fun _ => kk5, ?_⟩
              clear hK K kk
              refine wpAnyT_go (i := 12) rfl (by kernel_rfl) fun K hK => ?_
              refine step_app _ rfl (.tmp 66) (.tmp 77) rfl (w.heap.size + 1) _ _ rfl (ho.ext (hE.trans hE5)) _ _ _ [sv] rfl hF.rd1 (by have := hlen.out; omega) (by have := (hE.trans hE5).size; omega) ?_
              intro t4 w4 o4 hg4 hb4
              have hst4 := hst.app (hE.trans hE5) (oz3.ext hE5) (Nat.le_refl _) o4 hg4 hb4
              have hF4 := Fr.of_grown hg4
              skip
              have hO5 := (hO4.ext hE5).fr hF4 (fun e => hvg e)
              have hN5 := (hN.ext hE5).fr hF4 (fun e => by have a1 := (gv _ e).2; omega)
              have kk4 : True := trivial
              clear b0 b1 b2 b3 b4 b5 x0 x1 x2 x3 x4 x5 v0 v1 v2 v3 v4 v5 q0 q1 q2 q3 q4 q5 q6 q7 q8
              obtain ⟨v0, v1, v2, v3, v4, v5⟩ := hN5.c6
              obtain ⟨b0, b1, b2, b3, b4, b5⟩ := hO5.c6
              have x0 := hO5.frozen 0
              have x1 := hO5.frozen 1
              have x2 := hO5.frozen 2
              have x3 := hO5.frozen 3
              have x4 := hO5.frozen 4
              have x5 := hO5.frozen 5
              have hB5 := (hB4.ext hE5).fr hF4 (fun e => by have := (gv _ e).1; omega)
              have hzz := hide (hzv bs os hzA.out)
              have hsz := (hE.trans hE5).size
              have kk5' := kk5
              have kk6 : (w4).cell? ⟨w2.heap.size, 0, none⟩ = some (.slice (some ⟨bs, os, none⟩) z.p.x.n z.p.x.c) ∧ (w4).cell? ⟨w.heap.size, 6, none⟩ = some (.slice (some ⟨bm, offm, none⟩) n3 c3) ∧ (w4).cell? ⟨bm, offm + k, none⟩ = some (.int .i64 (mi : Int)) ∧ (w4).cell? ⟨bs, os + mi, none⟩ = some (.int .i64 sv) := ⟨b0.trans (by rw [hzA.out]), hB5.get 6 _ rfl, (hF4.cell (p := ⟨bm, offm + k, none⟩) (by simp only; omega) (fun e => by have := (gv _ e).1; simp only at this; omega)).trans kk5'.2.2.1, (hF4.cell (p := ⟨bs, os + mi, none⟩) (by simp only; omega) (fun e => hzz.out e)).trans kk5'.2.2.2⟩
              refine hK _ _ ⟨fun _ => kk6, ?_⟩
              clear hK K kk5 kk5' kk6 kk4
              refine wpAnyT_go (i := 13) rfl (by kernel_rfl) fun K hK => ?_
              go_simp
              refine hK _ _ ⟨fun h => absurd rfl h, ?_⟩
              clear hK K
              refine wpAnyT_done (by kernel_rfl) ?_ _
              clear hF KK hcm4 hcs4 hzv
              go_wp2_with fail
              go_roundw
              case rel => exact ⟨k + 1, t4, z2, _, acc ++ [sv], by omega, by go_num, rfl, hG2, hky2, hide (by rw [List.length_append]; have := hal.out; simp; omega), hst4⟩
              case measure => simp [intOf]; omega
        · have hG2 := hide (stk_stop hG.out hmm.out h0)
          obtain ⟨c, hcc⟩ : ∃ c, c = mvC yk m := ⟨_, rfl⟩
          have hc0 : (c != 0) = true := by rw [hcc]; simpa using h0
          rw [← hcc] at h9
          subst h9
          clear hcc h0 oz2
          go_wp2
          refine bodyPost_ret (v := .tuple #[.slice v.A v.n v.c, .int .i64 0]) (by simp [results, Tryz.results10, go_sem]) rfl ⟨v, by rw [EC.out], by rw [EV.out, hG2.out]; exact (ho.ext hE).mono (by omega), hX.trans hE⟩
    · have ek : k = n3 := by omega
      have hG2 := hide (stk_end hG.out (by have := hl.out; omega))
      go_wp2
      refine bodyPost_ret (v := .tuple #[.slice v.A v.n v.c, .int .i64 0]) (by simp [results, Tryz.results10, go_sem]) rfl ⟨v, by rw [EC.out], by rw [EV.out, hG2.out]; exact ho.mono (by omega), hX⟩
end Go.Proofs.YtofglgfjlbehmaaGreat.mem
