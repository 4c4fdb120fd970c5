/-
  Lists of ties of the call's own, with spare capacity or none: append.
-/
import Derived.Test.YtofglgfjlbehmaaGreatTis
import Derived.Test.YtofglgfjlbehmaaGreatMg1
namespace Go.Proofs.YtofglgfjlbehmaaGreat.mem
open Go.ChangeShapes Go.WideShapes Go.ChangeAt Go.RowKit
set_option linter.unusedVariables false
def tc (t : Ti) : List Value := [.int .i64 t.n, .string t.s, .int .i64 t.k, .bool t.f]
theorem tcs_len (ts : List Ti) : (ts.flatMap tc).length = ts.length * 4 := by
  induction ts with
  | nil => rfl
  | cons t ts ih => rw [List.flatMap_cons, List.length_append, ih, List.length_cons]; show 4 + ts.length * 4 = _; omega
theorem tcs_get : ∀ (ts : List Ti) (j i : Nat) (t : Ti), ts[j]? = some t → i < 4 → (ts.flatMap tc)[j * 4 + i]? = (tc t)[i]?
  | [], j, i, t, h, _ => by cases h
  | t :: ts, 0, i, u, h, hi => by
    rw [List.getElem?_cons_zero] at h
    injection h with h
    subst h
    rw [List.flatMap_cons, List.getElem?_append_left (by show 0 * 4 + i < 4; omega)]
    congr 1
    omega
  | t :: ts, j + 1, i, u, h, hi => by
    rw [List.getElem?_cons_succ] at h
    rw [List.flatMap_cons, List.getElem?_append_right (by show 4 ≤ (j + 1) * 4 + i; omega), ← tcs_get ts j i u h hi]
    congr 1
    show (j + 1) * 4 + i - 4 = j * 4 + i
    omega
def OwX (w : World) (lo : Nat) (v : Value) (xs : List Ti) : Prop := xs.length ≤ 16777216 ∧ w.ownsRow lo 108 4 v xs.length (xs.flatMap tc)
section
variable {w w' : World} {lo : Nat} {v : Value} {xs : List Ti}
theorem OwX.rd {A : Option Addr} {n c : Nat} (h : OwX w lo (.slice A n c) xs) (hs : ∀ x ∈ xs, x.s.size ≤ maxLen) : RdT w A n xs := by
  obtain ⟨h0, h1, h2⟩ := h
  rcases h2 with ⟨e, hn⟩ | ⟨g, cap, cur, e, hg, hh, hcap, _, _, ht⟩
  · injection e with e1 e2 e3
    subst e2
    exact ⟨hn.symm, by omega, hs, fun h => absurd h (by omega)⟩
  · injection e with e1 e2 e3
    subst e1 e2 e3
    refine ⟨rfl, h0, hs, fun hn => ⟨g, 0, rfl, Blk.lt (t := 108) (cs := cur) hh, fun j t hj => ?_⟩⟩
    have hjl := (List.getElem?_eq_some_iff.1 hj).1
    have key : ∀ i, i < 4 → w.cell? ⟨g, j * 4 + i, none⟩ = (tc t)[i]? := by
      intro i hi
      rw [Blk.cell (t := 108) (cs := cur) hh]
      have h3 : (cur.toList.take (xs.length * 4))[j * 4 + i]? = (xs.flatMap tc)[j * 4 + i]? := by rw [ht]
      rw [List.getElem?_take_of_lt (by omega), tcs_get xs j i t hj hi] at h3
      simpa using h3
    rw [Nat.zero_add]
    exact ⟨key 0 (by omega), key 1 (by omega), key 2 (by omega), key 3 (by omega)⟩
theorem OwX.cap {A : Option Addr} {n c : Nat} (h : OwX w lo (.slice A n c) xs) : n ≤ c ∧ c ≤ 9223372036854775807 := by
  rcases h.2.2 with ⟨e, hn⟩ | ⟨g, cap, cur, e, _, _, h1, h2, _⟩
  · injection e with e1 e2 e3; omega
  · injection e with e1 e2 e3
    unfold maxLen at h2
    omega
theorem OwX.shape (h : OwX w lo v xs) : ∃ s : Sl, v = .slice s.A s.n s.c ∧ s.n = xs.length := by
  rcases h.2.2 with ⟨e, hn⟩ | ⟨g, cap, cur, e, _⟩
  · exact ⟨⟨none, 0, 0⟩, e, hn.symm⟩
  · exact ⟨⟨_, _, _⟩, e, rfl⟩
theorem OwX.lt (h : OwX w lo v xs) : ∀ k, v.ownBlock = some k → lo ≤ k ∧ k < w.heap.size := World.ownsRow.lt h.2
theorem OwX.keep (h : OwX w lo v xs) (hk : ∀ k, v.ownBlock = some k → w'.heap[k]? = w.heap[k]?) : OwX w' lo v xs := by
  refine ⟨h.1, h.2.1, ?_⟩
  rcases h.2.2 with hn | ⟨g, cap, cur, rfl, hb, hgg, rest⟩
  · exact .inl hn
  · exact .inr ⟨g, cap, cur, rfl, hb, by rw [hk g rfl]; exact hgg, rest⟩
theorem OwX.ext (h : OwX w lo v xs) (hx : Ext w w') : OwX w' lo v xs := h.keep fun k hk => hx.block k (h.lt k hk).2
theorem OwX.mono {lo' : Nat} (h : OwX w lo v xs) (hl : lo' ≤ lo) : OwX w lo' v xs := by
  refine ⟨h.1, h.2.1, ?_⟩
  rcases h.2.2 with hn | ⟨g, cap, cur, e, hb, rest⟩
  · exact .inl hn
  · exact .inr ⟨g, cap, cur, e, by omega, rest⟩
theorem OwX.nil_ (w : World) (lo : Nat) : OwX w lo (.slice none 0 0) [] := ⟨by simp, World.ownsRow_nil _ _ _ _⟩
theorem OwX.only {g : Nat} (h : OwX w lo v xs) (hf : Fr (fun k => k = g) w w') (hl : g < lo) : OwX w' lo v xs := h.keep fun k hk => hf.block k (h.lt k hk).2 (fun e => by have := (h.lt k hk).1; omega)
end
theorem OwX.new0 (w : World) (lo : Nat) (hl : lo ≤ w.heap.size) : OwX (w.alloc (.cells #[] 108)) lo (.slice (some ⟨w.heap.size, 0, none⟩) 0 0) [] :=
  ⟨by simp, rfl, .inr ⟨w.heap.size, 0, #[], rfl, hl, Blk.new w 108 #[], Nat.le_refl _, by unfold maxLen; omega, rfl, rfl⟩⟩
theorem RdT.one (w : World) (t : Ti) (hx : t.s.size ≤ maxLen) : RdT (w.alloc (.cells #[.int .i64 t.n, .string t.s, .int .i64 t.k, .bool t.f] 108)) (some ⟨w.heap.size, 0, none⟩) 1 [t] :=
  ⟨rfl, by omega, fun s hs => by rw [List.mem_singleton] at hs; rw [hs]; exact hx, fun _ => ⟨w.heap.size, 0, rfl, by simp, fun j s hj => by
    have h1 := (List.getElem?_eq_some_iff.1 hj).1
    obtain rfl : j = 0 := by simp at h1; omega
    simp only [List.getElem?_cons_zero, Option.some.injEq] at hj
    subst hj
    have hB := Blk.new w 108 #[.int .i64 t.n, .string t.s, .int .i64 t.k, .bool t.f]
    exact ⟨hB.get 0 _ rfl, hB.get 1 _ rfl, hB.get 2 _ rfl, hB.get 3 _ rfl⟩⟩⟩
theorem RdT.alloc {w : World} {A : Option Addr} {n : Nat} {xs : List Ti} (h : RdT w A n xs) (o : Obj) : RdT (w.alloc o) A n xs := h.ext ((Ext.refl w).alloc o)
theorem OwX.alloc {w : World} {lo : Nat} {v : Value} {xs : List Ti} (h : OwX w lo v xs) (o : Obj) : OwX (w.alloc o) lo v xs := h.ext ((Ext.refl w).alloc o)
section
variable (w : World)
set_option maxRecDepth 10000 in
theorem run_appT (ty : TypeId) (lo : Nat) (v : Value) (xs : List Ti) (ho : OwX w lo v xs) (A : Option Addr) (m c : Nat) (ys : List Ti) (hr : RdT w A m ys) (hl : xs.length + m ≤ 16777216) (hlo : lo ≤ w.heap.size) :
    ∃ v' w', (Builtin.append_ #[27, 27] ty #[v, .slice A m c]).run Tryz.prog w = .ok v' w' ∧ OwX w' lo v' (xs ++ ys) ∧ w.grownBy w' v.ownBlock ∧ (v'.ownBlock = v.ownBlock ∨ v'.ownBlock = some w.heap.size) := by
  obtain ⟨i, hi, hzz⟩ := Option.map_eq_some_iff.1 tie_info
  simp only [Prod.mk.injEq] at hzz
  obtain ⟨hz0, hz1, hz2⟩ := hzz
  have hm : m = ys.length := hr.1
  have hlen : (xs ++ ys).length = xs.length + m := by rw [List.length_append, hm]
  have key : ∀ ad : Addr, (∀ j u, (ys.flatMap tc)[j]? = some u → w.cell? (ad.add j) = some u) →
      ∃ v' w', (Builtin.append_ #[27, 27] ty #[v, .slice (some ad) m c]).run Tryz.prog w = .ok v' w' ∧ OwX w' lo v' (xs ++ ys) ∧ w.grownBy w' v.ownBlock ∧ (v'.ownBlock = v.ownBlock ∨ v'.ownBlock = some w.heap.size) := by
    intro ad hc
    obtain ⟨v', w', hrun, h2, h3, _, h5⟩ := run_append_own_at (P := Tryz.prog) w lo 27 ty 108 i _ 4 40 Tryz.underlying27 hi hz0 hz1 hz2 rfl (by omega) v xs.length _ ho.2 ad m c (ys.flatMap tc) (by rw [tcs_len, hm]) hc (fun u hu => by
      obtain ⟨t, _, ht⟩ := List.mem_flatMap.1 hu
      simp only [tc, List.mem_cons, List.not_mem_nil, or_false] at ht
      rcases ht with rfl | rfl | rfl | rfl <;> rfl) (by unfold maxLen; omega) (by omega) hlo
    exact ⟨v', w', hrun, ⟨by omega, by rw [hlen, List.flatMap_append]; exact h2⟩, h3, h5⟩
  rcases A with _ | ad
  · have h0 : m = 0 := by
      rcases Nat.eq_zero_or_pos m with h0 | h0
      · exact h0
      · obtain ⟨b, off, h, _⟩ := hr.2.2.2 h0
        cases h
    have hy : ys = [] := List.eq_nil_of_length_eq_zero (by omega)
    subst hy h0
    refine ⟨v, w, ?_, by simpa using ho, World.grownBy.refl w _, .inl rfl⟩
    rcases ho.2.2 with ⟨rfl, _⟩ | ⟨g, cap, cur, rfl, _, _, hnc, _⟩
    · simp [Builtin.append_, run_underlying Tryz.underlying27, sizeOf, typeInfo, hi, Builtin.lenOf, Builtin.firstCells]
    · simp [Builtin.append_, run_underlying Tryz.underlying27, sizeOf, typeInfo, hi, Builtin.lenOf, Builtin.firstCells, hnc, storeCells]
  · refine key ad fun j u hu => ?_
    have hj : j < m * 4 := by
      have := (List.getElem?_eq_some_iff.1 hu).1
      rw [tcs_len] at this
      omega
    obtain ⟨b, off, e, hb, hc⟩ := hr.2.2.2 (by omega)
    injection e with e
    subst e
    have hj4 : j / 4 < ys.length := by omega
    have he := List.getElem?_eq_getElem hj4
    have hf := tcs_get ys (j / 4) (j % 4) _ he (by omega)
    rw [show j / 4 * 4 + j % 4 = j by omega, hu] at hf
    obtain ⟨c0, c1, c2, c3⟩ := hc _ _ he
    rw [Go.WideShapes.add_plain, hf, show off + j = off + j / 4 * 4 + j % 4 by omega]
    have hm4 : j % 4 = 0 ∨ j % 4 = 1 ∨ j % 4 = 2 ∨ j % 4 = 3 := by omega
    rcases hm4 with h | h | h | h <;> rw [h]
    · exact c0
    · exact c1
    · exact c2
    · exact c3
theorem wp_appT {o : Oper} {a : Act} {K : Act → World → Prop} {Q : Exit → Act → World → Prop} (s x : Operand)
    (ho : o.op = .call { callee := .builtin .append, args := #[s, x], argTypes := #[27, 27] })
    (lo : Nat) (v : Value) (xs : List Ti) (hs : a.eval s = v) (hown : OwX w lo v xs)
    (A : Option Addr) (m c : Nat) (ys : List Ti) (hx : a.eval x = .slice A m c) (hr : RdT w A m ys) (hl : xs.length + m ≤ 16777216) (hlo : lo ≤ w.heap.size)
    (h : ∀ (t : Sl) w', OwX w' lo (.slice t.A t.n t.c) (xs ++ ys) → w.grownBy w' v.ownBlock → ((Value.ownBlock (.slice t.A t.n t.c)) = v.ownBlock ∨ (Value.ownBlock (.slice t.A t.n t.c)) = some w.heap.size) → K (a.put o.dst (.slice t.A t.n t.c)) w') : o.wp Tryz.prog a w K Q := by
  obtain ⟨v', w', hrun, h2, h3, h4⟩ := run_appT w o.type lo v xs hown A m c ys hr hl hlo
  obtain ⟨t, ht, _⟩ := h2.shape
  subst ht
  unfold Oper.wp execOp
  simp only [ho, resolve, invoke, builtin, Sem.run_bind, Sem.run_pure, Result.andThen_ok, List.map_toArray, List.map_cons, List.map_nil, hs, hx, hrun]
  exact h t w' h2 h3 h4
theorem wpList_appT {ops : Array Oper} {rest : List Oper} {o : Oper} {a : Act} {Q : Exit → Act → World → Prop} (hgd : o.guard = none) (s x : Operand)
    (ho : o.op = .call { callee := .builtin .append, args := #[s, x], argTypes := #[27, 27] })
    (lo : Nat) (v : Value) (xs : List Ti) (hs : a.eval s = v) (hown : OwX w lo v xs)
    (A : Option Addr) (m c : Nat) (ys : List Ti) (hx : a.eval x = .slice A m c) (hr : RdT w A m ys) (hl : xs.length + m ≤ 16777216) (hlo : lo ≤ w.heap.size)
    (h : ∀ (t : Sl) w', OwX w' lo (.slice t.A t.n t.c) (xs ++ ys) → w.grownBy w' v.ownBlock → ((Value.ownBlock (.slice t.A t.n t.c)) = v.ownBlock ∨ (Value.ownBlock (.slice t.A t.n t.c)) = some w.heap.size) → wpList Tryz.prog ops Q rest (a.put o.dst (.slice t.A t.n t.c)) w') : wpList Tryz.prog ops Q (o :: rest) a w :=
  wpList_plain hgd fun _ hK => wp_appT w s x ho lo v xs hs hown A m c ys hx hr hl hlo fun t w' h2 h3 h4 => hK _ _ (h t w' h2 h3 h4)
theorem step_appT {ops : Array Oper} {o : Oper} {a : Act} {K : Act → World → Prop} {Q : Exit → Act → World → Prop} {E : Prop} (hgd : o.guard = none) (s x : Operand)
    (ho : o.op = .call { callee := .builtin .append, args := #[s, x], argTypes := #[27, 27] })
    (lo : Nat) (v : Value) (xs : List Ti) (hs : a.eval s = v) (hown : OwX w lo v xs)
    (A : Option Addr) (m c : Nat) (ys : List Ti) (hx : a.eval x = .slice A m c) (hr : RdT w A m ys) (hl : xs.length + m ≤ 16777216) (hlo : lo ≤ w.heap.size)
    (h : ∀ (t : Sl) w', OwX w' lo (.slice t.A t.n t.c) (xs ++ ys) → w.grownBy w' v.ownBlock → ((Value.ownBlock (.slice t.A t.n t.c)) = v.ownBlock ∨ (Value.ownBlock (.slice t.A t.n t.c)) = some w.heap.size) → K (a.put o.dst (.slice t.A t.n t.c)) w') :
    if Region.wanted o (yielded ops a.tmps) = true then Oper.wp Tryz.prog o a w K Q else E := by
  have hw : Region.wanted o (yielded ops a.tmps) = true := by simp [Region.wanted, hgd]
  rw [if_pos hw]
  exact wp_appT w s x ho lo v xs hs hown A m c ys hx hr hl hlo h
end
end Go.Proofs.YtofglgfjlbehmaaGreat.mem
