/-
  Ties and lists of texts in the laws: copy, size, compare, mark.
-/
import Derived.Test.YtmcnnbjgehmmoaaWord
namespace Go.Proofs.Ytmcnnbjgehmmoaa.mem
open Go.ChangeShapes Go.WideShapes Go.ChangeAt Go.RowKit

structure Ti where
  n : Int
  s : ByteArray
  k : Int
  f : Bool
/-- the four cells of a tie, from offset o of block b -/
def cellT (w : World) (b o : Nat) (t : Ti) : Prop :=
  w.cell? ⟨b, o, none⟩ = some (.int .i64 t.n) ∧ w.cell? ⟨b, o + 1, none⟩ = some (.string t.s) ∧ w.cell? ⟨b, o + 2, none⟩ = some (.int .i64 t.k) ∧ w.cell? ⟨b, o + 3, none⟩ = some (.bool t.f)
/-- a list of ties, read -/
def RdT (w : World) (A : Option Addr) (n : Nat) (ts : List Ti) : Prop :=
  n = ts.length ∧ n ≤ 16777216 ∧ (∀ t ∈ ts, t.s.size ≤ maxLen) ∧ (0 < n → ∃ b off, A = some ⟨b, off, none⟩ ∧ b < w.heap.size ∧ ∀ j t, ts[j]? = some t → cellT w b (off + j * 4) t)
section
variable {w w' : World} {A : Option Addr} {n : Nat} {ts : List Ti}
theorem cellT.ext {b o : Nat} {t : Ti} (h : cellT w b o t) (hx : Ext w w') (hb : b < w.heap.size) : cellT w' b o t :=
  ⟨(hx.cell (p := ⟨b, o, none⟩) hb).trans h.1, (hx.cell (p := ⟨b, o + 1, none⟩) hb).trans h.2.1, (hx.cell (p := ⟨b, o + 2, none⟩) hb).trans h.2.2.1, (hx.cell (p := ⟨b, o + 3, none⟩) hb).trans h.2.2.2⟩
theorem RdT.ext (h : RdT w A n ts) (hx : Ext w w') : RdT w' A n ts := ⟨h.1, h.2.1, h.2.2.1, fun hn => by
  obtain ⟨b, off, e, hb, hc⟩ := h.2.2.2 hn
  exact ⟨b, off, e, Nat.lt_of_lt_of_le hb hx.size, fun j t hj => (hc j t hj).ext hx hb⟩⟩
theorem RdT.el (h : RdT w A n ts) {k : Nat} (hk : k < n) : ∃ b off t, A = some ⟨b, off, none⟩ ∧ b < w.heap.size ∧ cellT w b (off + k * 4) t ∧ t.s.size ≤ maxLen ∧ Hid (ts[k]? = some t) := by
  obtain ⟨b, off, e, hb, hc⟩ := h.2.2.2 (by omega)
  have hl : k < ts.length := by have := h.1; omega
  exact ⟨b, off, ts[k], e, hb, hc k _ (List.getElem?_eq_getElem hl), h.2.2.1 _ (List.getElem_mem hl), hide (List.getElem?_eq_getElem hl)⟩
end
/-- a list of texts of the call's own -/
def OwnW (w : World) (lo : Nat) (s : Sl) (ss : List ByteArray) : Prop :=
  s.n = ss.length ∧ s.n ≤ 16777216 ∧ (∀ x ∈ ss, x.size ≤ maxLen) ∧ cap1 s ∧ ∃ (b : Nat) (cs : Array Value), s.A = some ⟨b, 0, none⟩ ∧ lo ≤ b ∧ Blk w b 9 cs ∧ cs.size = s.n ∧ ∀ (j : Nat) (x : ByteArray), ss[j]? = some x → cs[j]? = some (Value.string x)
/-- a list of ties of the call's own -/
def OwnT (w : World) (lo : Nat) (s : Sl) (ts : List Ti) : Prop :=
  s.n = ts.length ∧ s.n ≤ 16777216 ∧ (∀ t ∈ ts, t.s.size ≤ maxLen) ∧ cap1 s ∧ ∃ (b : Nat) (cs : Array Value), s.A = some ⟨b, 0, none⟩ ∧ lo ≤ b ∧ Blk w b 68 cs ∧ cs.size = s.n * 4 ∧
    ∀ j t, ts[j]? = some t → cs[j * 4]? = some (.int .i64 t.n) ∧ cs[j * 4 + 1]? = some (.string t.s) ∧ cs[j * 4 + 2]? = some (.int .i64 t.k) ∧ cs[j * 4 + 3]? = some (.bool t.f)
section
variable {w w' : World} {lo : Nat} {s : Sl} {ss : List ByteArray} {ts : List Ti}
theorem OwnW.ext (h : OwnW w lo s ss) (hx : Ext w w') : OwnW w' lo s ss := by
  obtain ⟨h1, h2, h3, h4, b, cs, h5, h6, h7, h8⟩ := h
  exact ⟨h1, h2, h3, h4, b, cs, h5, h6, h7.ext hx, h8⟩
theorem OwnW.alloc (h : OwnW w lo s ss) (o : Obj) : OwnW (w.alloc o) lo s ss := h.ext ((Ext.refl w).alloc o)
theorem OwnW.drew (h : OwnW w lo s ss) : OwnW w.drew lo s ss := h
theorem OwnW.rd (h : OwnW w lo s ss) : RdW w s.A s.n ss := by
  obtain ⟨h1, h2, h3, h4, b, cs, h5, h6, h7, h8, h9⟩ := h
  exact ⟨h1, h2, h3, fun _ => ⟨b, 0, h5, h7.lt, fun j x hj => by rw [Nat.zero_add]; exact (h7.cell j).trans (h9 j x hj)⟩⟩
theorem OwnW.lt (h : OwnW w lo s ss) (k : Nat) (hk : Value.ownBlock (.slice s.A s.n s.c) = some k) : lo ≤ k ∧ k < w.heap.size := by
  obtain ⟨h1, h2, h3, h4, b, cs, h5, h6, h7, h8⟩ := h
  rw [h5] at hk
  obtain rfl := ownBlock_eq hk
  exact ⟨h6, h7.lt⟩
theorem OwnW.fr {S : Nat → Prop} (h : OwnW w lo s ss) (hf : Fr S w w') (hs : ∀ k, Value.ownBlock (.slice s.A s.n s.c) = some k → ¬ S k) : OwnW w' lo s ss := by
  obtain ⟨h1, h2, h3, h4, b, cs, h5, h6, h7, h8⟩ := h
  exact ⟨h1, h2, h3, h4, b, cs, h5, h6, h7.fr hf (hs b (by rw [h5]; rfl)), h8⟩
theorem OwnT.ext (h : OwnT w lo s ts) (hx : Ext w w') : OwnT w' lo s ts := by
  obtain ⟨h1, h2, h3, h4, b, cs, h5, h6, h7, h8⟩ := h
  exact ⟨h1, h2, h3, h4, b, cs, h5, h6, h7.ext hx, h8⟩
theorem OwnT.alloc (h : OwnT w lo s ts) (o : Obj) : OwnT (w.alloc o) lo s ts := h.ext ((Ext.refl w).alloc o)
theorem OwnT.drew (h : OwnT w lo s ts) : OwnT w.drew lo s ts := h
theorem OwnT.rd (h : OwnT w lo s ts) : RdT w s.A s.n ts := by
  obtain ⟨h1, h2, h3, h4, b, cs, h5, h6, h7, h8, h9⟩ := h
  exact ⟨h1, h2, h3, fun _ => ⟨b, 0, h5, h7.lt, fun j x hj => by
    rw [Nat.zero_add]
    obtain ⟨c0, c1, c2, c3⟩ := h9 j x hj
    exact ⟨(h7.cell _).trans c0, (h7.cell _).trans c1, (h7.cell _).trans c2, (h7.cell _).trans c3⟩⟩⟩
theorem OwnT.lt (h : OwnT w lo s ts) (k : Nat) (hk : Value.ownBlock (.slice s.A s.n s.c) = some k) : lo ≤ k ∧ k < w.heap.size := by
  obtain ⟨h1, h2, h3, h4, b, cs, h5, h6, h7, h8⟩ := h
  rw [h5] at hk
  obtain rfl := ownBlock_eq hk
  exact ⟨h6, h7.lt⟩
theorem OwnT.fr {S : Nat → Prop} (h : OwnT w lo s ts) (hf : Fr S w w') (hs : ∀ k, Value.ownBlock (.slice s.A s.n s.c) = some k → ¬ S k) : OwnT w' lo s ts := by
  obtain ⟨h1, h2, h3, h4, b, cs, h5, h6, h7, h8⟩ := h
  exact ⟨h1, h2, h3, h4, b, cs, h5, h6, h7.fr hf (hs b (by rw [h5]; rfl)), h8⟩
end
theorem tie_info : (Try.prog.info? 68).map (fun i => (i.zero, i.size, i.bytes)) = some (some (.agg #[.int .i64 0, .string ByteArray.empty, .int .i64 0, .bool false]), 4, 40) := by kernel_rfl
theorem str_info : (Try.prog.info? 9).map (fun i => (i.zero, i.size, i.bytes)) = some (some (.string ByteArray.empty), 1, 16) := by kernel_rfl
theorem toTie_any (t : Ti) (w : World) :
    Calls Try.prog 61 #[.agg #[.int .i64 t.n, .string t.s, .int .i64 t.k, .bool t.f]] w fun e w' => e = .returned (.agg #[.int .i64 t.n, .string t.s, .int .i64 t.k, .bool t.f]) ∧ Ext w w' := by
  go_enter Try.func61, Try.ntmps61
  go_wp2
  exact bodyPost_ret (v := .agg #[.int .i64 t.n, .string t.s, .int .i64 t.k, .bool t.f]) (by simp [results, Try.results61, go_sem]) rfl ⟨rfl, ((((Ext.refl w).alloc _).alloc _).alloc _)⟩
theorem run_make_tie (n : Nat) (hn : n ≤ 16777216) (w : World) :
    (Instr.makeSlice 24 (.int .i64 (n : Int)) (.int .i64 (n : Int))).run Try.prog w = .ok (.slice (some ⟨w.heap.size, 0, none⟩) n n) (w.alloc (.cells (madeCells #[.int .i64 0, .string ByteArray.empty, .int .i64 0, .bool false] (n * 4)) 68)) := by
  obtain ⟨i, hi, hzz⟩ := Option.map_eq_some_iff.1 tie_info
  simp only [Prod.mk.injEq] at hzz
  obtain ⟨hz, hs, hb⟩ := hzz
  have hr := run_make (P := Try.prog) w 24 68 i _ Try.underlying24 hi hz .i64 .i64 n n (by omega) (Int.le_refl _) (by rw [hb]; omega) (by omega)
  simp only [Int.toNat_natCast, hs] at hr
  exact hr
theorem set4 {cs : Array Value} {m : Nat} (hm : m + 3 < cs.size) (a b c d : Value) :
    ((((cs.setIfInBounds m a).setIfInBounds (m + 1) b).setIfInBounds (m + 2) c).setIfInBounds (m + 3) d).size = cs.size ∧
    ((((cs.setIfInBounds m a).setIfInBounds (m + 1) b).setIfInBounds (m + 2) c).setIfInBounds (m + 3) d)[m]? = some a ∧
    ((((cs.setIfInBounds m a).setIfInBounds (m + 1) b).setIfInBounds (m + 2) c).setIfInBounds (m + 3) d)[m + 1]? = some b ∧
    ((((cs.setIfInBounds m a).setIfInBounds (m + 1) b).setIfInBounds (m + 2) c).setIfInBounds (m + 3) d)[m + 2]? = some c ∧
    ((((cs.setIfInBounds m a).setIfInBounds (m + 1) b).setIfInBounds (m + 2) c).setIfInBounds (m + 3) d)[m + 3]? = some d ∧
    ∀ i, i < m → ((((cs.setIfInBounds m a).setIfInBounds (m + 1) b).setIfInBounds (m + 2) c).setIfInBounds (m + 3) d)[i]? = cs[i]? := by
  refine ⟨by simp, ?_, ?_, ?_, ?_, fun i hi => ?_⟩
  · rw [Array.getElem?_setIfInBounds, if_neg (by omega), Array.getElem?_setIfInBounds, if_neg (by omega), Array.getElem?_setIfInBounds, if_neg (by omega), Array.getElem?_setIfInBounds, if_pos rfl, if_pos (by omega)]
  · rw [Array.getElem?_setIfInBounds, if_neg (by omega), Array.getElem?_setIfInBounds, if_neg (by omega), Array.getElem?_setIfInBounds, if_pos rfl, if_pos (by simp; omega)]
  · rw [Array.getElem?_setIfInBounds, if_neg (by omega), Array.getElem?_setIfInBounds, if_pos rfl, if_pos (by simp; omega)]
  · rw [Array.getElem?_setIfInBounds, if_pos rfl, if_pos (by simp; omega)]
  · rw [Array.getElem?_setIfInBounds, if_neg (by omega), Array.getElem?_setIfInBounds, if_neg (by omega), Array.getElem?_setIfInBounds, if_neg (by omega), Array.getElem?_setIfInBounds, if_neg (by omega)]
set_option maxHeartbeats 1000000 in
theorem toTieS_any (s : Sl) (ts : List Ti) (w : World) (hr : RdT w s.A s.n ts) :
    Calls Try.prog 21 #[.slice s.A s.n s.c] w fun e w' => ∃ s' : Sl, e = .returned (.slice s'.A s'.n s'.c) ∧ OwnT w' w.heap.size s' ts ∧ Ext w w' := by
  obtain ⟨A, n, c⟩ := s
  simp only at hr ⊢
  have hn := hr.2.1
  have hmk := run_make_tie n hn
  go_enter Try.func21, Try.ntmps21
  go_wp2
  clear hmk
  go_loopw [4] (fun i wr => ∃ k : Nat, k ≤ n ∧ i = .int .i64 k ∧ (∃ cs : Array Value, Blk wr w.heap.size 68 cs ∧ cs.size = n * 4 ∧ Hid (∀ j t, j < k → ts[j]? = some t → cs[j * 4]? = some (.int .i64 t.n) ∧ cs[j * 4 + 1]? = some (.string t.s) ∧ cs[j * 4 + 2]? = some (.int .i64 t.k) ∧ cs[j * 4 + 3]? = some (.bool t.f))) ∧ Ext w wr) (fun i _ => n - (intOf i).toNat)
  case atStart => exact ⟨0, by omega, rfl, ⟨_, Blk.new _ _ _, size_madeCells _ _, hide fun j t h => absurd h (by omega)⟩, (Ext.refl _).alloc _⟩
  case round =>
    obtain ⟨k, hk, rfl, ⟨cs, hb, hsz, hcs⟩, hx⟩ := hrel
    by_cases hlt : k < n
    · obtain ⟨b, off, t, rfl, hbl, ⟨hc0, hc1, hc2, hc3⟩, hts, ht⟩ := (hr.ext hx).el hlt
      go_wp2_with fail
      refine (toTie_any t _).mono ?_
      rintro e w1 ⟨rfl, hx1⟩
      clear hc0 hc1 hc2 hc3
      have hb1 := hb.ext hx1
      have c0 := hb1.cell (k * 4)
      have c1 := hb1.cell (k * 4 + 1)
      have c2 := hb1.cell (k * 4 + 2)
      have c3 := hb1.cell (k * 4 + 3)
      rw [Array.getElem?_eq_getElem (by omega)] at c0 c1 c2 c3
      have z0 := hb1.frozen (k * 4)
      have z1 := hb1.frozen (k * 4 + 1)
      have z2 := hb1.frozen (k * 4 + 2)
      have z3 := hb1.frozen (k * 4 + 3)
      go_wp2
      go_roundw
      case rel =>
        obtain ⟨g0, g1, g2, g3, g4, g5⟩ := set4 (cs := cs) (m := k * 4) (by omega) (.int .i64 t.n) (.string t.s) (.int .i64 t.k) (.bool t.f)
        refine ⟨k + 1, by omega, by go_num, ⟨_, (((hb1.set_ (k * 4) _).set_ (k * 4 + 1) _).set_ (k * 4 + 2) _).set_ (k * 4 + 3) _, g0.trans hsz, hide fun j t' hj ht' => ?_⟩, ((((hx.trans hx1).off _ (k * 4) (Nat.le_refl _) _).off _ (k * 4 + 1) (Nat.le_refl _) _).off _ (k * 4 + 2) (Nat.le_refl _) _).off _ (k * 4 + 3) (Nat.le_refl _) _⟩
        rcases Nat.lt_or_ge j k with hj' | hj'
        · rw [g5 _ (by omega), g5 _ (by omega), g5 _ (by omega), g5 _ (by omega)]
          exact hcs.out j t' hj' ht'
        · obtain rfl : j = k := by omega
          rw [ht.out] at ht'
          injection ht' with ht'
          subst ht'
          exact ⟨g1, g2, g3, g4⟩
      case measure => simp [intOf]; omega
    · go_wp2
      go_ret
      have e : k = n := by omega
      subst e
      exact ⟨⟨_, _, _⟩, rfl, ⟨hr.1, hn, hr.2.2.1, ⟨Nat.le_refl _, by simp only; omega⟩, _, cs, rfl, Nat.le_refl _, hb, hsz, fun j t hj => hcs.out j t (by have := (List.getElem?_eq_some_iff.1 hj).1; have := hr.1; omega) hj⟩, hx⟩
theorem eqTie_yes (t : Ti) (w : World) :
    Calls Try.prog 64 #[.agg #[.int .i64 t.n, .string t.s, .int .i64 t.k, .bool t.f], .agg #[.int .i64 t.n, .string t.s, .int .i64 t.k, .bool t.f]] w fun e w' => e = .returned (.bool true) ∧ Ext w w' := by
  have h1 : (t.s.toList == t.s.toList) = true := beq_self_eq_true _
  go_enter Try.func64, Try.ntmps64
  go_wp2
  go_ret
  exact ⟨rfl, ((Ext.refl w).alloc _).alloc _⟩
def szU (left : Int) (n : Nat) : Int := if (n : Int) ≤ left then left - n else -1
theorem szTie_any (t : Ti) (left : Int) (w : World) (h0 : 0 ≤ left) (h1 : left ≤ 1048576) (hs : t.s.size ≤ maxLen) :
    Calls Try.prog 58 #[.agg #[.int .i64 t.n, .string t.s, .int .i64 t.k, .bool t.f], .int .i64 left] w fun e w' => e = .returned (.int .i64 (szU left t.s.size)) ∧ Ext w w' := by
  unfold maxLen at hs
  by_cases h : (t.s.size : Int) ≤ left
  · have E := hide (show szU left t.s.size = left - t.s.size from if_pos h)
    go_enter Try.func58, Try.ntmps58
    go_wp2
    go_ret
    exact ⟨by rw [E.out]; rfl, (Ext.refl w).alloc _⟩
  · have E := hide (show szU left t.s.size = -1 from if_neg h)
    go_enter Try.func58, Try.ntmps58
    go_wp2
    go_ret
    exact ⟨by rw [E.out]; rfl, (Ext.refl w).alloc _⟩
/-- what is left of a bound behind texts of these lengths -/
def szGo : Int → List Nat → Int
  | left, [] => left
  | left, m :: ms => if (m : Int) ≤ left then szGo (left - m) ms else -1
def szLs (left : Int) (ms : List Nat) : Int := if (ms.length : Int) ≤ left then szGo (left - ms.length) ms else -1
theorem szGo_le : ∀ (ms : List Nat) (left : Int), 0 ≤ szGo left ms → szGo left ms ≤ left
  | [], left, _ => Int.le_refl _
  | m :: ms, left, h => by
    unfold szGo at h ⊢
    split at h
    · rename_i hh
      rw [if_pos hh]
      have := szGo_le ms _ h
      omega
    · omega
theorem szLs_pos {left : Int} {ms : List Nat} (h : 0 ≤ szLs left ms) : (ms.length : Int) ≤ left ∧ szLs left ms ≤ left := by
  unfold szLs at h ⊢
  split at h
  · rename_i hh
    rw [if_pos hh]
    have := szGo_le _ _ h
    omega
  · omega
theorem szGo_yes {left : Int} {ms : List Nat} {k m : Nat} (hk : ms[k]? = some m) (h : (m : Int) ≤ left) : szGo left (ms.drop k) = szGo (left - m) (ms.drop (k + 1)) := by
  have hl := (List.getElem?_eq_some_iff.1 hk)
  rw [List.drop_eq_getElem_cons hl.1, hl.2]
  show (if (m : Int) ≤ left then _ else _) = _
  rw [if_pos h]
theorem szGo_no {left : Int} {ms : List Nat} {k m : Nat} (hk : ms[k]? = some m) (h : ¬ (m : Int) ≤ left) : szGo left (ms.drop k) = -1 := by
  have hl := (List.getElem?_eq_some_iff.1 hk)
  rw [List.drop_eq_getElem_cons hl.1, hl.2]
  show (if (m : Int) ≤ left then _ else _) = _
  rw [if_neg h]
/-- ties, texts that came in, of whatever length -/
def InT (w : World) (s : Sl) (ts : List Ti) : Prop := s.n = ts.length ∧ cap1 s ∧ (s.n ≤ 16777216 → RdT w s.A s.n ts)
def InW (w : World) (s : Sl) (ss : List ByteArray) : Prop := s.n = ss.length ∧ cap1 s ∧ (s.n ≤ 16777216 → RdW w s.A s.n ss)
def lensT (ts : List Ti) : List Nat := ts.map (fun t => t.s.size)
def lensW (ss : List ByteArray) : List Nat := ss.map (fun s => s.size)
set_option maxHeartbeats 1000000 in
theorem szTieS_any (s : Sl) (ts : List Ti) (left : Int) (w : World) (h0 : 0 ≤ left) (h1 : left ≤ 1048576) {w0 : World} (hi : InT w0 s ts) (hx0 : Ext w0 w) :
    Calls Try.prog 18 #[.slice s.A s.n s.c, .int .i64 left] w fun e w' => e = .returned (.int .i64 (szLs left (lensT ts))) ∧ Ext w w' := by
  obtain ⟨A, n, c⟩ := s
  obtain ⟨hl, ⟨hc1, hc2⟩, hr⟩ := hi
  simp only at hl hc1 hc2 hr ⊢
  have hll : (lensT ts).length = n := by rw [hl]; exact List.length_map _
  replace hll := hide hll
  replace hl := hide hl
  by_cases h : (n : Int) ≤ left
  · have E := hide (show szLs left (lensT ts) = szGo (left - n) (lensT ts) by unfold szLs; rw [hll.out, if_pos h])
    replace hr := (hr (by omega)).ext hx0
    clear hc1 hc2
    go_enter Try.func18, Try.ntmps18
    go_wp2
    go_loopw [1, 5] (fun l i wr => ∃ (k : Nat) (u : Int), k ≤ n ∧ i = .int .i64 k ∧ l = .int .i64 u ∧ 0 ≤ u ∧ u ≤ 1048576 ∧ Hid (szGo (left - n) (lensT ts) = szGo u ((lensT ts).drop k)) ∧ Ext w wr) (fun _ i _ => n - (intOf i).toNat)
    case atStart => exact ⟨0, left - n, by omega, rfl, rfl, by omega, by omega, hide rfl, Ext.refl _⟩
    case round =>
      obtain ⟨k, u, hk, rfl, rfl, hu0, hu1, hg, hx⟩ := hrel
      by_cases hlt : k < n
      · obtain ⟨b, off, t, rfl, hbl, ⟨q0, q1, q2, q3⟩, hts, ht⟩ := (hr.ext hx).el hlt
        have hm := hide (show (lensT ts)[k]? = some t.s.size by unfold lensT; rw [List.getElem?_map, ht.out]; rfl)
        by_cases hf : (t.s.size : Int) ≤ u
        · have hy := hide (szGo_yes hm.out hf)
          have E2 := hide (show szU u t.s.size = u - t.s.size from if_pos hf)
          have hb : 0 ≤ u - (t.s.size : Int) := by omega
          have hb2 : u - (t.s.size : Int) ≤ 1048576 := by omega
          go_wp2_with fail
          refine (szTie_any t u _ hu0 hu1 hts).mono ?_
          rintro e w1 ⟨rfl, hx1⟩
          rw [E2.out]
          revert hy hb hb2
          generalize u - (t.s.size : Int) = v
          intro hy hb hb2
          clear q0 q1 q2 q3
          go_wp2
          go_roundw
          case rel => exact ⟨k + 1, v, by omega, by go_num, rfl, hb, hb2, hide (hg.out.trans hy.out), hx.trans hx1⟩
          case measure => simp [intOf]; omega
        · have hy := hide (szGo_no hm.out hf)
          have E2 := hide (show szU u t.s.size = -1 from if_neg hf)
          go_wp2_with fail
          refine (szTie_any t u _ hu0 hu1 hts).mono ?_
          rintro e w1 ⟨rfl, hx1⟩
          rw [E2.out]
          go_wp2
          go_ret
          exact ⟨by rw [E.out, hg.out, hy.out]; rfl, hx.trans hx1⟩
      · have e : k = n := by omega
        subst e
        have hd := hide (show szGo u ((lensT ts).drop k) = u by rw [List.drop_of_length_le (by have := hll.out; omega)]; rfl)
        go_wp2
        go_ret
        exact ⟨by rw [E.out, hg.out, hd.out]; rfl, hx⟩
  · have E := hide (show szLs left (lensT ts) = -1 by unfold szLs; rw [hll.out, if_neg h])
    go_enter Try.func18, Try.ntmps18
    go_wp2
    go_ret
    exact ⟨by rw [E.out]; rfl, Ext.refl _⟩
set_option maxHeartbeats 1000000 in
theorem szStringS_any (s : Sl) (ss : List ByteArray) (left : Int) (w : World) (h0 : 0 ≤ left) (h1 : left ≤ 1048576) {w0 : World} (hi : InW w0 s ss) (hx0 : Ext w0 w) :
    Calls Try.prog 19 #[.slice s.A s.n s.c, .int .i64 left] w fun e w' => e = .returned (.int .i64 (szLs left (lensW ss))) ∧ Ext w w' := by
  obtain ⟨A, n, c⟩ := s
  obtain ⟨hl, ⟨hc1, hc2⟩, hr⟩ := hi
  simp only at hl hc1 hc2 hr ⊢
  have hll : (lensW ss).length = n := by rw [hl]; exact List.length_map _
  replace hll := hide hll
  replace hl := hide hl
  by_cases h : (n : Int) ≤ left
  · have E := hide (show szLs left (lensW ss) = szGo (left - n) (lensW ss) by unfold szLs; rw [hll.out, if_pos h])
    replace hr := (hr (by omega)).ext hx0
    clear hc1 hc2
    go_enter Try.func19, Try.ntmps19
    go_wp2
    go_loop [1, 5] (fun l i => ∃ (k : Nat) (u : Int), k ≤ n ∧ i = .int .i64 k ∧ l = .int .i64 u ∧ 0 ≤ u ∧ u ≤ 1048576 ∧ Hid (szGo (left - n) (lensW ss) = szGo u ((lensW ss).drop k))) (fun _ i => n - (intOf i).toNat)
    case atStart => exact ⟨0, left - n, by omega, rfl, rfl, by omega, by omega, hide rfl⟩
    case round =>
      obtain ⟨k, u, hk, rfl, rfl, hu0, hu1, hg⟩ := hrel
      by_cases hlt : k < n
      · obtain ⟨b, off, t, rfl, hbl, hc, hts, ht⟩ := hr.el hlt
        unfold maxLen at hts
        have hm := hide (show (lensW ss)[k]? = some t.size by unfold lensW; rw [List.getElem?_map, ht.out]; rfl)
        by_cases hf : (t.size : Int) ≤ u
        · have hy := hide (szGo_yes hm.out hf)
          go_wp2
          go_round
          case rel => exact ⟨k + 1, u - t.size, by omega, by go_num, by go_num, by omega, by omega, hide (hg.out.trans hy.out)⟩
          case measure => simp [intOf]; omega
        · have hy := hide (szGo_no hm.out hf)
          go_wp2
          go_ret
          exact ⟨by rw [E.out, hg.out, hy.out]; rfl, Ext.refl _⟩
      · have e : k = n := by omega
        subst e
        have hd := hide (show szGo u ((lensW ss).drop k) = u by rw [List.drop_of_length_le (by have := hll.out; omega)]; rfl)
        go_wp2
        go_ret
        exact ⟨by rw [E.out, hg.out, hd.out]; rfl, Ext.refl _⟩
  · have E := hide (show szLs left (lensW ss) = -1 by unfold szLs; rw [hll.out, if_neg h])
    go_enter Try.func19, Try.ntmps19
    go_wp2
    go_ret
    exact ⟨by rw [E.out]; rfl, Ext.refl _⟩
theorem toStringS_any (s : Sl) (ss : List ByteArray) (w : World) (hr : RdW w s.A s.n ss) :
    Calls Try.prog 22 #[.slice s.A s.n s.c] w fun e w' => ∃ s' : Sl, e = .returned (.slice s'.A s'.n s'.c) ∧ OwnW w' w.heap.size s' ss ∧ Ext w w' := by
  obtain ⟨A, n, c⟩ := s
  simp only at hr ⊢
  have hn := hr.2.1
  have hmk := fun W : World => run_make_row' (P := Try.prog) 25 9 (.string ByteArray.empty) 16 Try.underlying25 str_info rfl .i64 .i64 n (by omega) (by omega) W
  go_enter Try.func22, Try.ntmps22
  go_wp2
  clear hmk
  go_loopw [4] (fun i wr => ∃ k : Nat, k ≤ n ∧ i = .int .i64 k ∧ (∃ cs : Array Value, Blk wr w.heap.size 9 cs ∧ cs.size = n ∧ Hid (∀ (j : Nat) (x : ByteArray), j < k → ss[j]? = some x → cs[j]? = some (Value.string x))) ∧ Ext w wr) (fun i _ => n - (intOf i).toNat)
  case atStart => exact ⟨0, by omega, rfl, ⟨_, Blk.new _ _ _, size_madeCells _ _, hide fun j x h => absurd h (by omega)⟩, (Ext.refl _).alloc _⟩
  case round =>
    obtain ⟨k, hk, rfl, ⟨cs, hb, hsz, hcs⟩, hx⟩ := hrel
    by_cases hlt : k < n
    · obtain ⟨b, off, x, rfl, hbl, hc1, hxs, hxk⟩ := (hr.ext hx).el hlt
      have hc2 := hb.cell k
      have hc3 := hb.frozen k
      rw [Array.getElem?_eq_getElem (by omega)] at hc2
      go_wp2
      go_roundw
      case rel =>
        refine ⟨k + 1, by omega, by go_num, ⟨_, hb.set_ k _, by simpa using hsz, hide fun j y hj hy => ?_⟩, hx.setCell (Nat.le_refl _) _⟩
        rw [Array.getElem?_setIfInBounds]
        by_cases e : k = j
        · subst e
          rw [hxk.out] at hy
          injection hy with hy
          subst hy
          rw [if_pos rfl, if_pos (by omega)]
        · rw [if_neg e]; exact hcs.out j y (by omega) hy
      case measure => simp [intOf]; omega
    · go_wp2
      go_ret
      have e : k = n := by omega
      subst e
      exact ⟨⟨_, _, _⟩, rfl, ⟨hr.1, hn, hr.2.2.1, ⟨Nat.le_refl _, by simp only; omega⟩, _, cs, rfl, Nat.le_refl _, hb, hsz, fun j x hj => hcs.out j x (by have := (List.getElem?_eq_some_iff.1 hj).1; have := hr.1; omega) hj⟩, hx⟩
end Go.Proofs.Ytmcnnbjgehmmoaa.mem
