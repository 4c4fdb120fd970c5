/-
  Slices of strings of the call's own, and append onto them.
-/
import Derived.Test.YtfojfndmaofahaaGreatDoorApp
namespace Go.Proofs.YtfojfndmaofahaaGreatDoor.mem
open Go.ChangeShapes Go.WideShapes Go.ChangeAt Go.RowKit
theorem str_infoU : (Tryz.prog.info? 9).map (fun i => (i.zero, i.size, i.bytes)) = some (some (.string ByteArray.empty), 1, 16) := by kernel_rfl
/-- the slice at A, of n elements, reads as the numbers xs -/
def RdU (w : World) (A : Option Addr) (n : Nat) (xs : List ByteArray) : Prop :=
  n = xs.length ∧ n ≤ 16777216 ∧ (0 < n → ∃ b off, A = some ⟨b, off, none⟩ ∧ b < w.heap.size ∧ ∀ j, j < n → w.cell? ⟨b, off + j, none⟩ = some (.string (xs.getD j ByteArray.empty)))

section
variable {w w' w'' : World} {A : Option Addr} {n : Nat} {xs : List ByteArray}
theorem RdU.len (h : RdU w A n xs) : n = xs.length := h.1
theorem RdU.le (h : RdU w A n xs) : n ≤ 16777216 := h.2.1
theorem RdU.nil_ (w : World) (A : Option Addr) : RdU w A 0 [] := ⟨rfl, by omega, fun h => absurd h (by omega)⟩
theorem RdU.keep (h : RdU w A n xs) (hs : w.heap.size ≤ w'.heap.size) (hk : ∀ p : Addr, p.block < w.heap.size → w'.cell? p = w.cell? p) : RdU w' A n xs :=
  ⟨h.1, h.2.1, fun hn => by
    obtain ⟨b, off, e, hb, hc⟩ := h.2.2 hn
    exact ⟨b, off, e, by omega, fun j hj => (hk _ hb).trans (hc j hj)⟩⟩
theorem RdU.ext (h : RdU w A n xs) (hx : Ext w w') : RdU w' A n xs := h.keep hx.size fun _ hp => hx.cell hp
theorem RdU.take (h : RdU w A n xs) {k : Nat} (hk : k ≤ n) : RdU w A k (xs.take k) := by
  have hl := h.1
  refine ⟨by rw [List.length_take]; omega, by have := h.2.1; omega, fun hk0 => ?_⟩
  obtain ⟨b, off, e, hb, hc⟩ := h.2.2 (by omega)
  refine ⟨b, off, e, hb, fun j hj => ?_⟩
  rw [hc j (by omega)]
  simp [List.getElem?_take_of_lt hj]
theorem RdU.el (h : RdU w A n xs) {k : Nat} (hk : k < n) : ∃ b off x, A = some ⟨b, off, none⟩ ∧ b < w.heap.size ∧ w.cell? ⟨b, off + k, none⟩ = some (.string x) ∧ Hid (xs[k]? = some x) := by
  obtain ⟨b, off, e, hb, hc⟩ := h.2.2 (by omega)
  have hk' : k < xs.length := by have := h.1; omega
  refine ⟨b, off, xs[k], e, hb, ?_, List.getElem?_eq_getElem hk'⟩
  have := hc k hk
  simpa [List.getElem?_eq_getElem hk'] using this
end
/-- a slice of the call's own: nil, or the head of a block from 'lo' on; it holds the numbers xs -/
def OwnU (w : World) (lo : Nat) (v : Value) (xs : List ByteArray) : Prop := xs.length ≤ 16777216 ∧ w.ownsRow lo 9 1 v xs.length (xs.map (Value.string))
section
variable {w w' : World} {lo : Nat} {v : Value} {xs : List ByteArray}
theorem OwnU.rd {A : Option Addr} {n c : Nat} (h : OwnU w lo (.slice A n c) xs) : RdU w A n xs := by
  obtain ⟨h0, h1, h2⟩ := h
  rcases h2 with ⟨e, hn⟩ | ⟨g, cap, cur, e, hg, hh, hcap, _, _, ht⟩
  · injection e with e1 e2 e3
    subst e2
    exact ⟨hn.symm, by omega, fun h => absurd h (by omega)⟩
  · injection e with e1 e2 e3
    subst e1 e2 e3
    refine ⟨rfl, h0, fun hn => ⟨g, 0, rfl, Blk.lt (t := 9) (cs := cur) hh, fun j hj => ?_⟩⟩
    rw [Blk.cell (t := 9) (cs := cur) hh]
    have : (cur.toList.take (xs.length * 1))[j]? = (xs.map (Value.string))[j]? := by rw [ht]
    rw [List.getElem?_take_of_lt (by omega)] at this
    simp only [Array.getElem?_toList, Nat.zero_add] at this ⊢
    rw [this]
    simp [List.getElem?_map, List.getElem?_eq_getElem hj]
theorem OwnU.shape (h : OwnU w lo v xs) : ∃ s : Sl, v = .slice s.A s.n s.c ∧ s.n = xs.length := by
  rcases h.2.2 with ⟨e, hn⟩ | ⟨g, cap, cur, e, _⟩
  · exact ⟨⟨none, 0, 0⟩, e, hn.symm⟩
  · exact ⟨⟨_, _, _⟩, e, rfl⟩
theorem OwnU.lt (h : OwnU w lo v xs) : ∀ k, v.ownBlock = some k → lo ≤ k ∧ k < w.heap.size := World.ownsRow.lt h.2
theorem OwnU.keep (h : OwnU w lo v xs) (hk : ∀ k, v.ownBlock = some k → w'.heap[k]? = w.heap[k]?) : OwnU w' lo v xs := by
  refine ⟨h.1, h.2.1, ?_⟩
  rcases h.2.2 with hn | ⟨g, cap, cur, rfl, hb, hgg, rest⟩
  · exact .inl hn
  · exact .inr ⟨g, cap, cur, rfl, hb, by rw [hk g rfl]; exact hgg, rest⟩
theorem OwnU.ext (h : OwnU w lo v xs) (hx : Ext w w') : OwnU w' lo v xs := h.keep fun k hk => hx.block k (h.lt k hk).2
theorem OwnU.far (h : OwnU w lo v xs) {p : Addr} (hp : p.block < lo) (u : Value) : OwnU (w.setCell p u) lo v xs := h.keep fun k hk => Below.heap_setCell _ _ _ _ (by have := (h.lt k hk).1; omega)
theorem OwnU.off (h : OwnU w lo v xs) (b i : Nat) (hb : b < lo) (u : Value) : OwnU (w.setCell ⟨b, i, none⟩ u) lo v xs := h.far hb u
theorem OwnU.mono {lo' : Nat} (h : OwnU w lo v xs) (hl : lo' ≤ lo) : OwnU w lo' v xs := by
  refine ⟨h.1, h.2.1, ?_⟩
  rcases h.2.2 with hn | ⟨g, cap, cur, e, hb, rest⟩
  · exact .inl hn
  · exact .inr ⟨g, cap, cur, e, by omega, rest⟩
/-- a block known whole, from its head on -/
theorem OwnU.of_blk {g : Nat} {cs : Array Value} (hb : Blk w g 9 cs) (hl : lo ≤ g) (n cap : Nat) (hn : n = xs.length) (hc : n ≤ cap) (hm : cap ≤ maxLen) (hs : cs.size = cap) (h24 : n ≤ 16777216) (ht : cs.toList.take n = xs.map (Value.string)) :
    OwnU w lo (.slice (some ⟨g, 0, none⟩) n cap) xs := by
  subst hn
  exact ⟨h24, by simp, .inr ⟨g, cap, cs, rfl, hl, hb, hc, hm, by omega, by simpa using ht⟩⟩
theorem OwnU.nil_ (w : World) (lo : Nat) : OwnU w lo (.slice none 0 0) [] := ⟨by simp, World.ownsRow_nil _ _ _ _⟩
end

theorem OwnU.fr {S : Nat → Prop} {w w' : World} {lo : Nat} {v : Value} {xs : List ByteArray} (h : OwnU w lo v xs) (hf : Fr S w w') (hs : ∀ k, v.ownBlock = some k → ¬ S k) : OwnU w' lo v xs := h.keep fun k hk => hf.block k (h.lt k hk).2 (hs k hk)
theorem OwnU.cap {w : World} {lo : Nat} {s : Sl} {xs : List ByteArray} (h : OwnU w lo (.slice s.A s.n s.c) xs) : cap1 s := by
  rcases h.2.2 with ⟨e, _⟩ | ⟨g, cap, cur, e, _, _, h1, h2, _⟩
  · injection e with e1 e2 e3
    unfold cap1; omega
  · injection e with e1 e2 e3
    unfold cap1
    unfold maxLen at h2
    omega
theorem RdU.one (w : World) (x : ByteArray) : RdU (w.alloc (.cells #[.string x] 9)) (some ⟨w.heap.size, 0, none⟩) 1 [x] :=
  ⟨rfl, by omega, fun _ => ⟨w.heap.size, 0, rfl, by simp, fun j hj => by
    obtain rfl : j = 0 := by omega
    exact (Blk.new w 9 #[.string x]).get 0 _ rfl⟩⟩
theorem OwnU.new0 (w : World) (lo : Nat) (hl : lo ≤ w.heap.size) : OwnU (w.alloc (.cells #[] 9)) lo (.slice (some ⟨w.heap.size, 0, none⟩) 0 0) [] :=
  OwnU.of_blk (Blk.new w 9 #[]) hl 0 0 rfl (Nat.le_refl _) (by simp [maxLen]) rfl (by omega) rfl
theorem OwnU.alloc {w : World} {lo : Nat} {v : Value} {xs : List ByteArray} (h : OwnU w lo v xs) (o : Obj) : OwnU (w.alloc o) lo v xs := h.ext ((Ext.refl w).alloc o)
theorem OwnU.drewN {w : World} {lo : Nat} {v : Value} {xs : List ByteArray} (h : OwnU w lo v xs) (n : Nat) : OwnU (w.drewN n) lo v xs := h
theorem OwnU.drew {w : World} {lo : Nat} {v : Value} {xs : List ByteArray} (h : OwnU w lo v xs) : OwnU w.drew lo v xs := h
theorem RdU.alloc {w : World} {A : Option Addr} {n : Nat} {xs : List ByteArray} (h : RdU w A n xs) (o : Obj) : RdU (w.alloc o) A n xs := h.ext ((Ext.refl w).alloc o)
theorem RdU.drewN {w : World} {A : Option Addr} {n : Nat} {xs : List ByteArray} (h : RdU w A n xs) (k : Nat) : RdU (w.drewN k) A n xs := h
theorem RdU.drew {w : World} {A : Option Addr} {n : Nat} {xs : List ByteArray} (h : RdU w A n xs) : RdU w.drew A n xs := h
theorem OwnU.grown {w w' : World} {lo : Nat} {v u : Value} {xs : List ByteArray} (h : OwnU w lo u xs) (hg : w.grownBy w' v.ownBlock) (ha : ∀ k, u.ownBlock = some k → v.ownBlock ≠ some k) : OwnU w' lo u xs :=
  h.keep fun k hk => hg.block k (h.lt k hk).2 (fun e => ha k hk e.symm)

section
variable (w : World)
set_option maxRecDepth 10000 in
theorem run_appU (ty : TypeId) (lo : Nat) (v : Value) (xs : List ByteArray) (ho : OwnU w lo v xs) (A : Option Addr) (m c : Nat) (ys : List ByteArray) (hr : RdU w A m ys) (hl : xs.length + m ≤ 16777216) (hlo : lo ≤ w.heap.size) :
    ∃ v' w', (Builtin.append_ #[52, 52] ty #[v, .slice A m c]).run Tryz.prog w = .ok v' w' ∧ OwnU w' lo v' (xs ++ ys) ∧ w.grownBy w' v.ownBlock ∧ (v'.ownBlock = v.ownBlock ∨ v'.ownBlock = some w.heap.size) := by
  obtain ⟨i, hi, hz0, hz1, hz2⟩ := info_parts str_infoU
  have hm : m = ys.length := hr.1
  have hlen : (xs ++ ys).length = xs.length + m := by rw [List.length_append, hm]
  have key : ∀ ad : Addr, (∀ j u, (ys.map (Value.string))[j]? = some u → w.cell? (ad.add j) = some u) →
      ∃ v' w', (Builtin.append_ #[52, 52] ty #[v, .slice (some ad) m c]).run Tryz.prog w = .ok v' w' ∧ OwnU w' lo v' (xs ++ ys) ∧ w.grownBy w' v.ownBlock ∧ (v'.ownBlock = v.ownBlock ∨ v'.ownBlock = some w.heap.size) := by
    intro ad hc
    obtain ⟨v', w', hrun, h2, h3, _, h5⟩ := run_append_own_at (P := Tryz.prog) w lo 52 ty 9 i (.string ByteArray.empty) 1 16 Tryz.underlying52 hi hz0 hz1 hz2 rfl (by omega) v xs.length _ ho.2 ad m c (ys.map (Value.string)) (by simp [hm]) hc (by simp [Value.oneCell']) (by unfold maxLen; omega) (by omega) hlo
    exact ⟨v', w', hrun, ⟨by omega, by rw [hlen, List.map_append]; exact h2⟩, h3, h5⟩
  rcases A with _ | ad
  · have h0 : m = 0 := by
      rcases Nat.eq_zero_or_pos m with h0 | h0
      · exact h0
      · obtain ⟨b, off, h, _⟩ := hr.2.2 h0
        cases h
    have hy : ys = [] := List.eq_nil_of_length_eq_zero (by omega)
    subst hy h0
    refine ⟨v, w, ?_, by simpa using ho, World.grownBy.refl w _, .inl rfl⟩
    rcases ho.2.2 with ⟨rfl, _⟩ | ⟨g, cap, cur, rfl, _, _, hnc, _⟩
    · simp [Builtin.append_, run_underlying Tryz.underlying52, sizeOf, typeInfo, hi, Builtin.lenOf, Builtin.firstCells]
    · simp [Builtin.append_, run_underlying Tryz.underlying52, sizeOf, typeInfo, hi, Builtin.lenOf, Builtin.firstCells, hnc, storeCells]
  · refine key ad fun j u hu => ?_
    rw [List.getElem?_map] at hu
    obtain ⟨x, hx, rfl⟩ := Option.map_eq_some_iff.1 hu
    have hj : j < m := by have := (List.getElem?_eq_some_iff.1 hx).1; omega
    obtain ⟨b, off, e, hb, hc⟩ := hr.2.2 (by omega)
    injection e with e
    subst e
    rw [Go.WideShapes.add_plain, hc j hj, List.getD_eq_getElem?_getD, hx]
    rfl

theorem wp_appU {o : Oper} {a : Act} {K : Act → World → Prop} {Q : Exit → Act → World → Prop} (s x : Operand)
    (ho : o.op = .call { callee := .builtin .append, args := #[s, x], argTypes := #[52, 52] })
    (lo : Nat) (v : Value) (xs : List ByteArray) (hs : a.eval s = v) (hown : OwnU w lo v xs)
    (A : Option Addr) (m c : Nat) (ys : List ByteArray) (hx : a.eval x = .slice A m c) (hr : RdU w A m ys) (hl : xs.length + m ≤ 16777216) (hlo : lo ≤ w.heap.size)
    (h : ∀ (t : Sl) w', OwnU w' lo (.slice t.A t.n t.c) (xs ++ ys) → w.grownBy w' v.ownBlock → ((Value.ownBlock (.slice t.A t.n t.c)) = v.ownBlock ∨ (Value.ownBlock (.slice t.A t.n t.c)) = some w.heap.size) → K (a.put o.dst (.slice t.A t.n t.c)) w') : o.wp Tryz.prog a w K Q := by
  obtain ⟨v', w', hrun, h2, h3, h4⟩ := run_appU w o.type lo v xs hown A m c ys hr hl hlo
  obtain ⟨t, ht, _⟩ := h2.shape
  subst ht
  unfold Oper.wp execOp
  simp only [ho, resolve, invoke, builtin, Sem.run_bind, Sem.run_pure, Result.andThen_ok, List.map_toArray, List.map_cons, List.map_nil, hs, hx, hrun]
  exact h t w' h2 h3 h4

theorem wpList_appU {ops : Array Oper} {rest : List Oper} {o : Oper} {a : Act} {Q : Exit → Act → World → Prop} (hgd : o.guard = none) (s x : Operand)
    (ho : o.op = .call { callee := .builtin .append, args := #[s, x], argTypes := #[52, 52] })
    (lo : Nat) (v : Value) (xs : List ByteArray) (hs : a.eval s = v) (hown : OwnU w lo v xs)
    (A : Option Addr) (m c : Nat) (ys : List ByteArray) (hx : a.eval x = .slice A m c) (hr : RdU w A m ys) (hl : xs.length + m ≤ 16777216) (hlo : lo ≤ w.heap.size)
    (h : ∀ (t : Sl) w', OwnU w' lo (.slice t.A t.n t.c) (xs ++ ys) → w.grownBy w' v.ownBlock → ((Value.ownBlock (.slice t.A t.n t.c)) = v.ownBlock ∨ (Value.ownBlock (.slice t.A t.n t.c)) = some w.heap.size) → wpList Tryz.prog ops Q rest (a.put o.dst (.slice t.A t.n t.c)) w') : wpList Tryz.prog ops Q (o :: rest) a w :=
  wpList_plain hgd fun _ hK => wp_appU w s x ho lo v xs hs hown A m c ys hx hr hl hlo fun t w' h2 h3 h4 => hK _ _ (h t w' h2 h3 h4)

theorem step_appU {ops : Array Oper} {o : Oper} {a : Act} {K : Act → World → Prop} {Q : Exit → Act → World → Prop} {E : Prop} (hgd : o.guard = none) (s x : Operand)
    (ho : o.op = .call { callee := .builtin .append, args := #[s, x], argTypes := #[52, 52] })
    (lo : Nat) (v : Value) (xs : List ByteArray) (hs : a.eval s = v) (hown : OwnU w lo v xs)
    (A : Option Addr) (m c : Nat) (ys : List ByteArray) (hx : a.eval x = .slice A m c) (hr : RdU w A m ys) (hl : xs.length + m ≤ 16777216) (hlo : lo ≤ w.heap.size)
    (h : ∀ (t : Sl) w', OwnU w' lo (.slice t.A t.n t.c) (xs ++ ys) → w.grownBy w' v.ownBlock → ((Value.ownBlock (.slice t.A t.n t.c)) = v.ownBlock ∨ (Value.ownBlock (.slice t.A t.n t.c)) = some w.heap.size) → K (a.put o.dst (.slice t.A t.n t.c)) w') :
    if Region.wanted o (yielded ops a.tmps) = true then Oper.wp Tryz.prog o a w K Q else E := by
  have hw : Region.wanted o (yielded ops a.tmps) = true := by simp [Region.wanted, hgd]
  rw [if_pos hw]
  exact wp_appU w s x ho lo v xs hs hown A m c ys hx hr hl hlo h
end
end Go.Proofs.YtfojfndmaofahaaGreatDoor.mem
