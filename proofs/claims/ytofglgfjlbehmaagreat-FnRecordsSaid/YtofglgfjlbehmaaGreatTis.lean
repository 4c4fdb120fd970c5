/-
  Ties and lists of texts in the laws: copy, size, compare, mark.
-/
import Derived.Test.YtofglgfjlbehmaaGreatWord
namespace Go.Proofs.YtofglgfjlbehmaaGreat.mem
open Go.ChangeShapes Go.WideShapes Go.ChangeAt Go.RowKit

structure Ti where
  n : Int
  s : ByteArray
  k : Int
  f : Bool
/-- the four cells of a tie, from offset o of block b -/
def cellT (w : World) (b o : Nat) (t : Ti) : Prop :=
  w.cell? ⟨b, o, none⟩ = some (.int .i64 t.n) ∧ w.cell? ⟨b, o + 1, none⟩ = some (.string t.s) ∧ w.cell? ⟨b, o + 2, none⟩ = some (.int .i64 t.k) ∧ w.cell? ⟨b, o + 3, none⟩ = some (.bool t.f)
/-- a list of ties, read -/
def RdT (w : World) (A : Option Addr) (n : Nat) (ts : List Ti) : Prop :=
  n = ts.length ∧ n ≤ 16777216 ∧ (∀ t ∈ ts, t.s.size ≤ maxLen) ∧ (0 < n → ∃ b off, A = some ⟨b, off, none⟩ ∧ b < w.heap.size ∧ ∀ j t, ts[j]? = some t → cellT w b (off + j * 4) t)
section
variable {w w' : World} {A : Option Addr} {n : Nat} {ts : List Ti}
theorem cellT.ext {b o : Nat} {t : Ti} (h : cellT w b o t) (hx : Ext w w') (hb : b < w.heap.size) : cellT w' b o t :=
  ⟨(hx.cell (p := ⟨b, o, none⟩) hb).trans h.1, (hx.cell (p := ⟨b, o + 1, none⟩) hb).trans h.2.1, (hx.cell (p := ⟨b, o + 2, none⟩) hb).trans h.2.2.1, (hx.cell (p := ⟨b, o + 3, none⟩) hb).trans h.2.2.2⟩
theorem RdT.ext (h : RdT w A n ts) (hx : Ext w w') : RdT w' A n ts := ⟨h.1, h.2.1, h.2.2.1, fun hn => by
  obtain ⟨b, off, e, hb, hc⟩ := h.2.2.2 hn
  exact ⟨b, off, e, Nat.lt_of_lt_of_le hb hx.size, fun j t hj => (hc j t hj).ext hx hb⟩⟩
theorem RdT.el (h : RdT w A n ts) {k : Nat} (hk : k < n) : ∃ b off t, A = some ⟨b, off, none⟩ ∧ b < w.heap.size ∧ cellT w b (off + k * 4) t ∧ t.s.size ≤ maxLen ∧ Hid (ts[k]? = some t) := by
  obtain ⟨b, off, e, hb, hc⟩ := h.2.2.2 (by omega)
  have hl : k < ts.length := by have := h.1; omega
  exact ⟨b, off, ts[k], e, hb, hc k _ (List.getElem?_eq_getElem hl), h.2.2.1 _ (List.getElem_mem hl), hide (List.getElem?_eq_getElem hl)⟩
end
/-- a list of texts of the call's own -/
def OwnW (w : World) (lo : Nat) (s : Sl) (ss : List ByteArray) : Prop :=
  s.n = ss.length ∧ s.n ≤ 16777216 ∧ (∀ x ∈ ss, x.size ≤ maxLen) ∧ cap1 s ∧ ∃ (b : Nat) (cs : Array Value), s.A = some ⟨b, 0, none⟩ ∧ lo ≤ b ∧ Blk w b 9 cs ∧ cs.size = s.n ∧ ∀ (j : Nat) (x : ByteArray), ss[j]? = some x → cs[j]? = some (Value.string x)
/-- a list of ties of the call's own -/
def OwnT (w : World) (lo : Nat) (s : Sl) (ts : List Ti) : Prop :=
  s.n = ts.length ∧ s.n ≤ 16777216 ∧ (∀ t ∈ ts, t.s.size ≤ maxLen) ∧ cap1 s ∧ ∃ (b : Nat) (cs : Array Value), s.A = some ⟨b, 0, none⟩ ∧ lo ≤ b ∧ Blk w b 108 cs ∧ cs.size = s.n * 4 ∧
    ∀ j t, ts[j]? = some t → cs[j * 4]? = some (.int .i64 t.n) ∧ cs[j * 4 + 1]? = some (.string t.s) ∧ cs[j * 4 + 2]? = some (.int .i64 t.k) ∧ cs[j * 4 + 3]? = some (.bool t.f)
section
variable {w w' : World} {lo : Nat} {s : Sl} {ss : List ByteArray} {ts : List Ti}
theorem OwnW.ext (h : OwnW w lo s ss) (hx : Ext w w') : OwnW w' lo s ss := by
  obtain ⟨h1, h2, h3, h4, b, cs, h5, h6, h7, h8⟩ := h
  exact ⟨h1, h2, h3, h4, b, cs, h5, h6, h7.ext hx, h8⟩
theorem OwnW.alloc (h : OwnW w lo s ss) (o : Obj) : OwnW (w.alloc o) lo s ss := h.ext ((Ext.refl w).alloc o)
theorem OwnW.drew (h : OwnW w lo s ss) : OwnW w.drew lo s ss := h
theorem OwnW.rd (h : OwnW w lo s ss) : RdW w s.A s.n ss := by
  obtain ⟨h1, h2, h3, h4, b, cs, h5, h6, h7, h8, h9⟩ := h
  exact ⟨h1, h2, h3, fun _ => ⟨b, 0, h5, h7.lt, fun j x hj => by rw [Nat.zero_add]; exact (h7.cell j).trans (h9 j x hj)⟩⟩
theorem OwnW.lt (h : OwnW w lo s ss) (k : Nat) (hk : Value.ownBlock (.slice s.A s.n s.c) = some k) : lo ≤ k ∧ k < w.heap.size := by
  obtain ⟨h1, h2, h3, h4, b, cs, h5, h6, h7, h8⟩ := h
  rw [h5] at hk
  obtain rfl := ownBlock_eq hk
  exact ⟨h6, h7.lt⟩
theorem OwnW.fr {S : Nat → Prop} (h : OwnW w lo s ss) (hf : Fr S w w') (hs : ∀ k, Value.ownBlock (.slice s.A s.n s.c) = some k → ¬ S k) : OwnW w' lo s ss := by
  obtain ⟨h1, h2, h3, h4, b, cs, h5, h6, h7, h8⟩ := h
  exact ⟨h1, h2, h3, h4, b, cs, h5, h6, h7.fr hf (hs b (by rw [h5]; rfl)), h8⟩
theorem OwnT.ext (h : OwnT w lo s ts) (hx : Ext w w') : OwnT w' lo s ts := by
  obtain ⟨h1, h2, h3, h4, b, cs, h5, h6, h7, h8⟩ := h
  exact ⟨h1, h2, h3, h4, b, cs, h5, h6, h7.ext hx, h8⟩
theorem OwnT.alloc (h : OwnT w lo s ts) (o : Obj) : OwnT (w.alloc o) lo s ts := h.ext ((Ext.refl w).alloc o)
theorem OwnT.drew (h : OwnT w lo s ts) : OwnT w.drew lo s ts := h
theorem OwnT.rd (h : OwnT w lo s ts) : RdT w s.A s.n ts := by
  obtain ⟨h1, h2, h3, h4, b, cs, h5, h6, h7, h8, h9⟩ := h
  exact ⟨h1, h2, h3, fun _ => ⟨b, 0, h5, h7.lt, fun j x hj => by
    rw [Nat.zero_add]
    obtain ⟨c0, c1, c2, c3⟩ := h9 j x hj
    exact ⟨(h7.cell _).trans c0, (h7.cell _).trans c1, (h7.cell _).trans c2, (h7.cell _).trans c3⟩⟩⟩
theorem OwnT.lt (h : OwnT w lo s ts) (k : Nat) (hk : Value.ownBlock (.slice s.A s.n s.c) = some k) : lo ≤ k ∧ k < w.heap.size := by
  obtain ⟨h1, h2, h3, h4, b, cs, h5, h6, h7, h8⟩ := h
  rw [h5] at hk
  obtain rfl := ownBlock_eq hk
  exact ⟨h6, h7.lt⟩
theorem OwnT.fr {S : Nat → Prop} (h : OwnT w lo s ts) (hf : Fr S w w') (hs : ∀ k, Value.ownBlock (.slice s.A s.n s.c) = some k → ¬ S k) : OwnT w' lo s ts := by
  obtain ⟨h1, h2, h3, h4, b, cs, h5, h6, h7, h8⟩ := h
  exact ⟨h1, h2, h3, h4, b, cs, h5, h6, h7.fr hf (hs b (by rw [h5]; rfl)), h8⟩
end
theorem tie_info : (Tryz.prog.info? 108).map (fun i => (i.zero, i.size, i.bytes)) = some (some (.agg #[.int .i64 0, .string ByteArray.empty, .int .i64 0, .bool false]), 4, 40) := by kernel_rfl
theorem str_info : (Tryz.prog.info? 9).map (fun i => (i.zero, i.size, i.bytes)) = some (some (.string ByteArray.empty), 1, 16) := by kernel_rfl
theorem run_make_tie (n : Nat) (hn : n ≤ 16777216) (w : World) :
    (Instr.makeSlice 27 (.int .i64 (n : Int)) (.int .i64 (n : Int))).run Tryz.prog w = .ok (.slice (some ⟨w.heap.size, 0, none⟩) n n) (w.alloc (.cells (madeCells #[.int .i64 0, .string ByteArray.empty, .int .i64 0, .bool false] (n * 4)) 108)) := by
  obtain ⟨i, hi, hzz⟩ := Option.map_eq_some_iff.1 tie_info
  simp only [Prod.mk.injEq] at hzz
  obtain ⟨hz, hs, hb⟩ := hzz
  have hr := run_make (P := Tryz.prog) w 27 108 i _ Tryz.underlying27 hi hz .i64 .i64 n n (by omega) (Int.le_refl _) (by rw [hb]; omega) (by omega)
  simp only [Int.toNat_natCast, hs] at hr
  exact hr
theorem set4 {cs : Array Value} {m : Nat} (hm : m + 3 < cs.size) (a b c d : Value) :
    ((((cs.setIfInBounds m a).setIfInBounds (m + 1) b).setIfInBounds (m + 2) c).setIfInBounds (m + 3) d).size = cs.size ∧
    ((((cs.setIfInBounds m a).setIfInBounds (m + 1) b).setIfInBounds (m + 2) c).setIfInBounds (m + 3) d)[m]? = some a ∧
    ((((cs.setIfInBounds m a).setIfInBounds (m + 1) b).setIfInBounds (m + 2) c).setIfInBounds (m + 3) d)[m + 1]? = some b ∧
    ((((cs.setIfInBounds m a).setIfInBounds (m + 1) b).setIfInBounds (m + 2) c).setIfInBounds (m + 3) d)[m + 2]? = some c ∧
    ((((cs.setIfInBounds m a).setIfInBounds (m + 1) b).setIfInBounds (m + 2) c).setIfInBounds (m + 3) d)[m + 3]? = some d ∧
    ∀ i, i < m → ((((cs.setIfInBounds m a).setIfInBounds (m + 1) b).setIfInBounds (m + 2) c).setIfInBounds (m + 3) d)[i]? = cs[i]? := by
  refine ⟨by simp, ?_, ?_, ?_, ?_, fun i hi => ?_⟩
  · rw [Array.getElem?_setIfInBounds, if_neg (by omega), Array.getElem?_setIfInBounds, if_neg (by omega), Array.getElem?_setIfInBounds, if_neg (by omega), Array.getElem?_setIfInBounds, if_pos rfl, if_pos (by omega)]
  · rw [Array.getElem?_setIfInBounds, if_neg (by omega), Array.getElem?_setIfInBounds, if_neg (by omega), Array.getElem?_setIfInBounds, if_pos rfl, if_pos (by simp; omega)]
  · rw [Array.getElem?_setIfInBounds, if_neg (by omega), Array.getElem?_setIfInBounds, if_pos rfl, if_pos (by simp; omega)]
  · rw [Array.getElem?_setIfInBounds, if_pos rfl, if_pos (by simp; omega)]
  · rw [Array.getElem?_setIfInBounds, if_neg (by omega), Array.getElem?_setIfInBounds, if_neg (by omega), Array.getElem?_setIfInBounds, if_neg (by omega), Array.getElem?_setIfInBounds, if_neg (by omega)]
def szU (left : Int) (n : Nat) : Int := if (n : Int) ≤ left then left - n else -1
/-- what is left of a bound behind texts of these lengths -/
def szGo : Int → List Nat → Int
  | left, [] => left
  | left, m :: ms => if (m : Int) ≤ left then szGo (left - m) ms else -1
def szLs (left : Int) (ms : List Nat) : Int := if (ms.length : Int) ≤ left then szGo (left - ms.length) ms else -1
theorem szGo_le : ∀ (ms : List Nat) (left : Int), 0 ≤ szGo left ms → szGo left ms ≤ left
  | [], left, _ => Int.le_refl _
  | m :: ms, left, h => by
    unfold szGo at h ⊢
    split at h
    · rename_i hh
      rw [if_pos hh]
      have := szGo_le ms _ h
      omega
    · omega
theorem szLs_pos {left : Int} {ms : List Nat} (h : 0 ≤ szLs left ms) : (ms.length : Int) ≤ left ∧ szLs left ms ≤ left := by
  unfold szLs at h ⊢
  split at h
  · rename_i hh
    rw [if_pos hh]
    have := szGo_le _ _ h
    omega
  · omega
theorem szGo_yes {left : Int} {ms : List Nat} {k m : Nat} (hk : ms[k]? = some m) (h : (m : Int) ≤ left) : szGo left (ms.drop k) = szGo (left - m) (ms.drop (k + 1)) := by
  have hl := (List.getElem?_eq_some_iff.1 hk)
  rw [List.drop_eq_getElem_cons hl.1, hl.2]
  show (if (m : Int) ≤ left then _ else _) = _
  rw [if_pos h]
theorem szGo_no {left : Int} {ms : List Nat} {k m : Nat} (hk : ms[k]? = some m) (h : ¬ (m : Int) ≤ left) : szGo left (ms.drop k) = -1 := by
  have hl := (List.getElem?_eq_some_iff.1 hk)
  rw [List.drop_eq_getElem_cons hl.1, hl.2]
  show (if (m : Int) ≤ left then _ else _) = _
  rw [if_neg h]
/-- ties, texts that came in, of whatever length -/
def InT (w : World) (s : Sl) (ts : List Ti) : Prop := s.n = ts.length ∧ cap1 s ∧ (s.n ≤ 16777216 → RdT w s.A s.n ts)
def InW (w : World) (s : Sl) (ss : List ByteArray) : Prop := s.n = ss.length ∧ cap1 s ∧ (s.n ≤ 16777216 → RdW w s.A s.n ss)
def lensT (ts : List Ti) : List Nat := ts.map (fun t => t.s.size)
def lensW (ss : List ByteArray) : List Nat := ss.map (fun s => s.size)
end Go.Proofs.YtofglgfjlbehmaaGreat.mem
