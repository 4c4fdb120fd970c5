/-
  Laws for append onto a slice of numbers of the call's own, in my words (Own, Rd), outside a region that draws and inside one.
-/
import Derived.Test.YtmcnnbjgehmmoaaMem
import Derived.Laws.MakeOwn
import Derived.Maps.AppendAt
import Derived.Deep.AppendLies
import Derived.RegionTactic
import Derived.OwnWalk
namespace Go.Proofs.Ytmcnnbjgehmmoaa.mem
open Go.ChangeShapes Go.WideShapes Go.ChangeAt Go.RowKit

theorem quietL {P : Program} {f : FuncId} {args : Array Value} {W : World} {a n : Nat} {v : Value} (h : Calls P f args (W.drewN (a + n)) fun e w' => e = .returned v ∧ W.drewN (a + n) = w') :
    Calls P f args (W.drewN (a + n)) fun e w'' => e = .returned v ∧ ∃ m, w'' = W.drewN (a + m) := h.mono fun _ _ ⟨he, hm⟩ => ⟨he, n, hm.symm⟩
theorem quietL0 {P : Program} {f : FuncId} {args : Array Value} {W : World} {n : Nat} {v : Value} (h : Calls P f args (W.drewN n) fun e w' => e = .returned v ∧ W.drewN n = w') :
    Calls P f args (W.drewN n) fun e w'' => e = .returned v ∧ ∃ m, w'' = W.drewN m := h.mono fun _ _ ⟨he, hm⟩ => ⟨he, n, hm.symm⟩
theorem Rd.one (w : World) (x : Int) : Rd (w.alloc (.cells #[.int .i64 x] 2)) (some ⟨w.heap.size, 0, none⟩) 1 [x] :=
  ⟨rfl, by omega, fun _ => ⟨w.heap.size, 0, rfl, by simp, fun j hj => by
    obtain rfl : j = 0 := by omega
    exact (Blk.new w 2 #[.int .i64 x]).get 0 _ rfl⟩⟩
theorem Own.new0 (w : World) (lo : Nat) (hl : lo ≤ w.heap.size) : Own (w.alloc (.cells #[] 2)) lo (.slice (some ⟨w.heap.size, 0, none⟩) 0 0) [] :=
  Own.of_blk (Blk.new w 2 #[]) hl 0 0 rfl (Nat.le_refl _) (by simp [maxLen]) rfl (by omega) rfl
theorem Own.alloc {w : World} {lo : Nat} {v : Value} {xs : List Int} (h : Own w lo v xs) (o : Obj) : Own (w.alloc o) lo v xs := h.ext ((Ext.refl w).alloc o)
theorem Own.drewN {w : World} {lo : Nat} {v : Value} {xs : List Int} (h : Own w lo v xs) (n : Nat) : Own (w.drewN n) lo v xs := h
theorem Own.drew {w : World} {lo : Nat} {v : Value} {xs : List Int} (h : Own w lo v xs) : Own w.drew lo v xs := h
theorem Rd.alloc {w : World} {A : Option Addr} {n : Nat} {xs : List Int} (h : Rd w A n xs) (o : Obj) : Rd (w.alloc o) A n xs := h.ext ((Ext.refl w).alloc o)
theorem Rd.drewN {w : World} {A : Option Addr} {n : Nat} {xs : List Int} (h : Rd w A n xs) (k : Nat) : Rd (w.drewN k) A n xs := h
theorem Rd.drew {w : World} {A : Option Addr} {n : Nat} {xs : List Int} (h : Rd w A n xs) : Rd w.drew A n xs := h
theorem Own.grown {w w' : World} {lo : Nat} {v u : Value} {xs : List Int} (h : Own w lo u xs) (hg : w.grownBy w' v.ownBlock) (ha : ∀ k, u.ownBlock = some k → v.ownBlock ≠ some k) : Own w' lo u xs :=
  h.keep fun k hk => hg.block k (h.lt k hk).2 (fun e => ha k hk e.symm)

section
variable (w : World)
set_option maxRecDepth 10000 in
theorem run_app (ty : TypeId) (lo : Nat) (v : Value) (xs : List Int) (ho : Own w lo v xs) (A : Option Addr) (m c : Nat) (ys : List Int) (hr : Rd w A m ys) (hl : xs.length + m ≤ 16777216) (hlo : lo ≤ w.heap.size) :
    ∃ v' w', (Builtin.append_ #[28, 28] ty #[v, .slice A m c]).run Try.prog w = .ok v' w' ∧ Own w' lo v' (xs ++ ys) ∧ w.grownBy w' v.ownBlock ∧ (v'.ownBlock = v.ownBlock ∨ v'.ownBlock = some w.heap.size) := by
  obtain ⟨i, hi, hz0, hz1, hz2⟩ := info_parts ints_info
  have hm : m = ys.length := hr.1
  have hlen : (xs ++ ys).length = xs.length + m := by rw [List.length_append, hm]
  have key : ∀ ad : Addr, (∀ j u, (ys.map (Value.int .i64))[j]? = some u → w.cell? (ad.add j) = some u) →
      ∃ v' w', (Builtin.append_ #[28, 28] ty #[v, .slice (some ad) m c]).run Try.prog w = .ok v' w' ∧ Own w' lo v' (xs ++ ys) ∧ w.grownBy w' v.ownBlock ∧ (v'.ownBlock = v.ownBlock ∨ v'.ownBlock = some w.heap.size) := by
    intro ad hc
    obtain ⟨v', w', hrun, h2, h3, _, h5⟩ := run_append_own_at (P := Try.prog) w lo 28 ty 2 i (.int .i64 0) 1 8 Try.underlying28 hi hz0 hz1 hz2 rfl (by omega) v xs.length _ ho.2 ad m c (ys.map (Value.int .i64)) (by simp [hm]) hc (by simp [Value.oneCell']) (by unfold maxLen; omega) (by omega) hlo
    exact ⟨v', w', hrun, ⟨by omega, by rw [hlen, List.map_append]; exact h2⟩, h3, h5⟩
  rcases A with _ | ad
  · have h0 : m = 0 := by
      rcases Nat.eq_zero_or_pos m with h0 | h0
      · exact h0
      · obtain ⟨b, off, h, _⟩ := hr.2.2 h0
        cases h
    have hy : ys = [] := List.eq_nil_of_length_eq_zero (by omega)
    subst hy h0
    refine ⟨v, w, ?_, by simpa using ho, World.grownBy.refl w _, .inl rfl⟩
    rcases ho.2.2 with ⟨rfl, _⟩ | ⟨g, cap, cur, rfl, _, _, hnc, _⟩
    · simp [Builtin.append_, run_underlying Try.underlying28, sizeOf, typeInfo, hi, Builtin.lenOf, Builtin.firstCells]
    · simp [Builtin.append_, run_underlying Try.underlying28, sizeOf, typeInfo, hi, Builtin.lenOf, Builtin.firstCells, hnc, storeCells]
  · refine key ad fun j u hu => ?_
    rw [List.getElem?_map] at hu
    obtain ⟨x, hx, rfl⟩ := Option.map_eq_some_iff.1 hu
    have hj : j < m := by have := (List.getElem?_eq_some_iff.1 hx).1; omega
    obtain ⟨b, off, e, hb, hc⟩ := hr.2.2 (by omega)
    injection e with e
    subst e
    rw [Go.WideShapes.add_plain, hc j hj, List.getD_eq_getElem?_getD, hx]
    rfl

theorem wp_app {o : Oper} {a : Act} {K : Act → World → Prop} {Q : Exit → Act → World → Prop} (s x : Operand)
    (ho : o.op = .call { callee := .builtin .append, args := #[s, x], argTypes := #[28, 28] })
    (lo : Nat) (v : Value) (xs : List Int) (hs : a.eval s = v) (hown : Own w lo v xs)
    (A : Option Addr) (m c : Nat) (ys : List Int) (hx : a.eval x = .slice A m c) (hr : Rd w A m ys) (hl : xs.length + m ≤ 16777216) (hlo : lo ≤ w.heap.size)
    (h : ∀ (t : Sl) w', Own w' lo (.slice t.A t.n t.c) (xs ++ ys) → w.grownBy w' v.ownBlock → ((Value.ownBlock (.slice t.A t.n t.c)) = v.ownBlock ∨ (Value.ownBlock (.slice t.A t.n t.c)) = some w.heap.size) → K (a.put o.dst (.slice t.A t.n t.c)) w') : o.wp Try.prog a w K Q := by
  obtain ⟨v', w', hrun, h2, h3, h4⟩ := run_app w o.type lo v xs hown A m c ys hr hl hlo
  obtain ⟨t, ht, _⟩ := h2.shape
  subst ht
  unfold Oper.wp execOp
  simp only [ho, resolve, invoke, builtin, Sem.run_bind, Sem.run_pure, Result.andThen_ok, List.map_toArray, List.map_cons, List.map_nil, hs, hx, hrun]
  exact h t w' h2 h3 h4

theorem wpList_app {ops : Array Oper} {rest : List Oper} {o : Oper} {a : Act} {Q : Exit → Act → World → Prop} (hgd : o.guard = none) (s x : Operand)
    (ho : o.op = .call { callee := .builtin .append, args := #[s, x], argTypes := #[28, 28] })
    (lo : Nat) (v : Value) (xs : List Int) (hs : a.eval s = v) (hown : Own w lo v xs)
    (A : Option Addr) (m c : Nat) (ys : List Int) (hx : a.eval x = .slice A m c) (hr : Rd w A m ys) (hl : xs.length + m ≤ 16777216) (hlo : lo ≤ w.heap.size)
    (h : ∀ (t : Sl) w', Own w' lo (.slice t.A t.n t.c) (xs ++ ys) → w.grownBy w' v.ownBlock → ((Value.ownBlock (.slice t.A t.n t.c)) = v.ownBlock ∨ (Value.ownBlock (.slice t.A t.n t.c)) = some w.heap.size) → wpList Try.prog ops Q rest (a.put o.dst (.slice t.A t.n t.c)) w') : wpList Try.prog ops Q (o :: rest) a w :=
  wpList_plain hgd fun _ hK => wp_app w s x ho lo v xs hs hown A m c ys hx hr hl hlo fun t w' h2 h3 h4 => hK _ _ (h t w' h2 h3 h4)

theorem step_app {ops : Array Oper} {o : Oper} {a : Act} {K : Act → World → Prop} {Q : Exit → Act → World → Prop} {E : Prop} (hgd : o.guard = none) (s x : Operand)
    (ho : o.op = .call { callee := .builtin .append, args := #[s, x], argTypes := #[28, 28] })
    (lo : Nat) (v : Value) (xs : List Int) (hs : a.eval s = v) (hown : Own w lo v xs)
    (A : Option Addr) (m c : Nat) (ys : List Int) (hx : a.eval x = .slice A m c) (hr : Rd w A m ys) (hl : xs.length + m ≤ 16777216) (hlo : lo ≤ w.heap.size)
    (h : ∀ (t : Sl) w', Own w' lo (.slice t.A t.n t.c) (xs ++ ys) → w.grownBy w' v.ownBlock → ((Value.ownBlock (.slice t.A t.n t.c)) = v.ownBlock ∨ (Value.ownBlock (.slice t.A t.n t.c)) = some w.heap.size) → K (a.put o.dst (.slice t.A t.n t.c)) w') :
    if Region.wanted o (yielded ops a.tmps) = true then Oper.wp Try.prog o a w K Q else E := by
  have hw : Region.wanted o (yielded ops a.tmps) = true := by simp [Region.wanted, hgd]
  rw [if_pos hw]
  exact wp_app w s x ho lo v xs hs hown A m c ys hx hr hl hlo h
/-- make([]int64, 0, n) -/
theorem run_mk0 (n : Nat) (hn : n ≤ 16777216) : (Instr.makeSlice 28 (.int .i64 0) (.int .i64 (n : Int))).run Try.prog w = .ok (.slice (some ⟨w.heap.size, 0, none⟩) 0 n) (w.alloc (.cells (madeCells #[.int .i64 0] n) 2)) := by
  obtain ⟨i, hi, hz0, hz1, hz2⟩ := info_parts ints_info
  have hr := run_make (P := Try.prog) w 28 2 i (.int .i64 0) Try.underlying28 hi hz0 .i64 .i64 0 n (by omega) (by omega) (by rw [hz2]; omega) (by omega)
  simp only [hz1, Int.toNat_natCast, Nat.mul_one, Int.toNat_zero] at hr
  exact hr
theorem Own.mk0 (lo n : Nat) (hl : lo ≤ w.heap.size) (hn : n ≤ 16777216) : Own (w.alloc (.cells (madeCells #[.int .i64 0] n) 2)) lo (.slice (some ⟨w.heap.size, 0, none⟩) 0 n) [] :=
  Own.of_blk (Blk.new w 2 _) hl 0 n rfl (Nat.zero_le _) (by unfold maxLen; omega) (by rw [← Array.length_toList, toList_madeCells_one, List.length_replicate]) (by omega) rfl
end
end Go.Proofs.Ytmcnnbjgehmmoaa.mem
