/-
  Lists of texts: a slice of the call's own, append; the library's sort and compact at texts; putting a text into a sorted list.
-/
import Derived.Test.YtofglgfjlbehmaaGreatMg3
import Derived.Test.YtofglgfjlbehmaaGreatMk
import Derived.Test.YtofglgfjlbehmaaGreatTis
namespace Go.Proofs.YtofglgfjlbehmaaGreat.mem
open Go.ChangeShapes Go.WideShapes Go.ChangeAt Go.RowKit
set_option linter.unusedVariables false
def OwS (w : World) (lo : Nat) (v : Value) (xs : List ByteArray) : Prop := xs.length ≤ 16777216 ∧ w.ownsRow lo 9 1 v xs.length (xs.map Value.string)
theorem strs_info : (Tryz.prog.info? 9).map (fun i => (i.zero, i.size, i.bytes)) = some (some (.string ByteArray.empty), 1, 16) := by kernel_rfl
section
variable {w w' : World} {lo : Nat} {v : Value} {xs : List ByteArray}
theorem OwS.rd {A : Option Addr} {n c : Nat} (h : OwS w lo (.slice A n c) xs) (hs : ∀ x ∈ xs, x.size ≤ maxLen) : RdW w A n xs := by
  obtain ⟨h0, h1, h2⟩ := h
  rcases h2 with ⟨e, hn⟩ | ⟨g, cap, cur, e, hg, hh, hcap, _, _, ht⟩
  · injection e with e1 e2 e3
    subst e2
    exact ⟨hn.symm, by omega, hs, fun h => absurd h (by omega)⟩
  · injection e with e1 e2 e3
    subst e1 e2 e3
    refine ⟨rfl, h0, hs, fun hn => ⟨g, 0, rfl, Blk.lt (t := 9) (cs := cur) hh, fun j s hj => ?_⟩⟩
    rw [Blk.cell (t := 9) (cs := cur) hh]
    have : (cur.toList.take (xs.length * 1))[j]? = (xs.map Value.string)[j]? := by rw [ht]
    rw [List.getElem?_take_of_lt (by have := (List.getElem?_eq_some_iff.1 hj).1; omega)] at this
    simp only [Array.getElem?_toList, Nat.zero_add] at this ⊢
    rw [this, List.getElem?_map, hj]
    rfl
theorem OwS.shape (h : OwS w lo v xs) : ∃ s : Sl, v = .slice s.A s.n s.c ∧ s.n = xs.length := by
  rcases h.2.2 with ⟨e, hn⟩ | ⟨g, cap, cur, e, _⟩
  · exact ⟨⟨none, 0, 0⟩, e, hn.symm⟩
  · exact ⟨⟨_, _, _⟩, e, rfl⟩
theorem OwS.lt (h : OwS w lo v xs) : ∀ k, v.ownBlock = some k → lo ≤ k ∧ k < w.heap.size := World.ownsRow.lt h.2
theorem OwS.keep (h : OwS w lo v xs) (hk : ∀ k, v.ownBlock = some k → w'.heap[k]? = w.heap[k]?) : OwS w' lo v xs := by
  refine ⟨h.1, h.2.1, ?_⟩
  rcases h.2.2 with hn | ⟨g, cap, cur, rfl, hb, hgg, rest⟩
  · exact .inl hn
  · exact .inr ⟨g, cap, cur, rfl, hb, by rw [hk g rfl]; exact hgg, rest⟩
theorem OwS.ext (h : OwS w lo v xs) (hx : Ext w w') : OwS w' lo v xs := h.keep fun k hk => hx.block k (h.lt k hk).2
theorem OwS.mono {lo' : Nat} (h : OwS w lo v xs) (hl : lo' ≤ lo) : OwS w lo' v xs := by
  refine ⟨h.1, h.2.1, ?_⟩
  rcases h.2.2 with hn | ⟨g, cap, cur, e, hb, rest⟩
  · exact .inl hn
  · exact .inr ⟨g, cap, cur, e, by omega, rest⟩
theorem OwS.of_blk {g : Nat} {cs : Array Value} (hb : Blk w g 9 cs) (hl : lo ≤ g) (n cap : Nat) (hn : n = xs.length) (hc : n ≤ cap) (hm : cap ≤ maxLen) (hs : cs.size = cap) (h24 : n ≤ 16777216) (ht : cs.toList.take n = xs.map (Value.string)) :
    OwS w lo (.slice (some ⟨g, 0, none⟩) n cap) xs := by
  subst hn
  exact ⟨h24, by simp, .inr ⟨g, cap, cs, rfl, hl, hb, hc, hm, by omega, by simpa using ht⟩⟩
theorem OwS.nil_ (w : World) (lo : Nat) : OwS w lo (.slice none 0 0) [] := ⟨by simp, World.ownsRow_nil _ _ _ _⟩
end
theorem OwS.cap {w : World} {lo : Nat} {s : Sl} {xs : List ByteArray} (h : OwS w lo (.slice s.A s.n s.c) xs) : cap1 s := by
  rcases h.2.2 with ⟨e, _⟩ | ⟨g, cap, cur, e, _, _, h1, h2, _⟩
  · injection e with e1 e2 e3
    unfold cap1; omega
  · injection e with e1 e2 e3
    unfold cap1
    unfold maxLen at h2
    omega
theorem RdW.one (w : World) (x : ByteArray) (hx : x.size ≤ maxLen) : RdW (w.alloc (.cells #[.string x] 9)) (some ⟨w.heap.size, 0, none⟩) 1 [x] :=
  ⟨rfl, by omega, fun s hs => by rw [List.mem_singleton] at hs; rw [hs]; exact hx, fun _ => ⟨w.heap.size, 0, rfl, by simp, fun j s hj => by
    have h1 := (List.getElem?_eq_some_iff.1 hj).1
    obtain rfl : j = 0 := by simp at h1; omega
    simp only [List.getElem?_cons_zero, Option.some.injEq] at hj
    subst hj
    exact (Blk.new w 9 #[.string x]).get 0 _ rfl⟩⟩
theorem RdW.take {w : World} {A : Option Addr} {n : Nat} {xs : List ByteArray} (h : RdW w A n xs) {k : Nat} (hk : k ≤ n) : RdW w A k (xs.take k) := by
  have hl := h.1
  refine ⟨by rw [List.length_take]; omega, by have := h.2.1; omega, fun s hs => h.2.2.1 s (List.mem_of_mem_take hs), fun hk0 => ?_⟩
  obtain ⟨b, off, e, hb, hc⟩ := h.2.2.2 (by omega)
  refine ⟨b, off, e, hb, fun j s hj => hc j s ?_⟩
  have h1 := (List.getElem?_eq_some_iff.1 hj).1
  rw [List.getElem?_take_of_lt (by rw [List.length_take] at h1; omega)] at hj
  exact hj
theorem RdW.drew {w : World} {A : Option Addr} {n : Nat} {xs : List ByteArray} (h : RdW w A n xs) : RdW w.drew A n xs := h
theorem RdW.alloc {w : World} {A : Option Addr} {n : Nat} {xs : List ByteArray} (h : RdW w A n xs) (o : Obj) : RdW (w.alloc o) A n xs := h.ext ((Ext.refl w).alloc o)
theorem RdW.from_ {w : World} {A : Option Addr} {n c : Nat} {xs : List ByteArray} (h : RdW w A n xs) {k : Nat} (hk : k ≤ n) (hc : n ≤ c) : RdW w (fromA A c k) (n - k) (xs.drop k) := by
  have hl := h.1
  refine ⟨by rw [List.length_drop]; omega, by have := h.2.1; omega, fun s hs => h.2.2.1 s (List.mem_of_mem_drop hs), fun hk0 => ?_⟩
  obtain ⟨b, off, e, hb, hc'⟩ := h.2.2.2 (by omega)
  have h2 : fromA A c k = some ⟨b, off + k, none⟩ := by rw [e]; unfold fromA; rw [if_neg (by omega)]; show some ((⟨b, off, none⟩ : Addr).add k) = _; rw [Go.WideShapes.add_plain]
  refine ⟨b, off + k, h2, hb, fun j s hj => ?_⟩
  rw [List.getElem?_drop] at hj
  rw [Nat.add_assoc]
  exact hc' _ _ hj
theorem Blk.rdW {w : World} {g : Nat} {x : ByteArray} (h : Blk w g 9 #[.string x]) (hx : x.size ≤ maxLen) : RdW w (some ⟨g, 0, none⟩) 1 [x] :=
  ⟨rfl, by omega, fun s hs => by rw [List.mem_singleton] at hs; rw [hs]; exact hx, fun _ => ⟨g, 0, rfl, h.lt, fun j s hj => by
    have h1 := (List.getElem?_eq_some_iff.1 hj).1
    obtain rfl : j = 0 := by simp at h1; omega
    simp only [List.getElem?_cons_zero, Option.some.injEq] at hj
    subst hj
    exact h.get 0 _ rfl⟩⟩
theorem OwS.new0 (w : World) (lo : Nat) (hl : lo ≤ w.heap.size) : OwS (w.alloc (.cells #[] 9)) lo (.slice (some ⟨w.heap.size, 0, none⟩) 0 0) [] :=
  OwS.of_blk (Blk.new w 9 #[]) hl 0 0 rfl (Nat.le_refl _) (by simp [maxLen]) rfl (by omega) rfl
theorem OwS.alloc {w : World} {lo : Nat} {v : Value} {xs : List ByteArray} (h : OwS w lo v xs) (o : Obj) : OwS (w.alloc o) lo v xs := h.ext ((Ext.refl w).alloc o)
theorem OwS.drew {w : World} {lo : Nat} {v : Value} {xs : List ByteArray} (h : OwS w lo v xs) : OwS w.drew lo v xs := h
theorem OwS.grown {w w' : World} {lo : Nat} {v u : Value} {xs : List ByteArray} (h : OwS w lo u xs) (hg : w.grownBy w' v.ownBlock) (ha : ∀ k, u.ownBlock = some k → v.ownBlock ≠ some k) : OwS w' lo u xs :=
  h.keep fun k hk => hg.block k (h.lt k hk).2 (fun e => ha k hk e.symm)
section
variable (w : World)
set_option maxRecDepth 10000 in
theorem run_appS (ty : TypeId) (lo : Nat) (v : Value) (xs : List ByteArray) (ho : OwS w lo v xs) (A : Option Addr) (m c : Nat) (ys : List ByteArray) (hr : RdW w A m ys) (hl : xs.length + m ≤ 16777216) (hlo : lo ≤ w.heap.size) :
    ∃ v' w', (Builtin.append_ #[28, 28] ty #[v, .slice A m c]).run Tryz.prog w = .ok v' w' ∧ OwS w' lo v' (xs ++ ys) ∧ w.grownBy w' v.ownBlock ∧ (v'.ownBlock = v.ownBlock ∨ v'.ownBlock = some w.heap.size) := by
  obtain ⟨i, hi, hz0, hz1, hz2⟩ := info_parts strs_info
  have hm : m = ys.length := hr.1
  have hlen : (xs ++ ys).length = xs.length + m := by rw [List.length_append, hm]
  have key : ∀ ad : Addr, (∀ j u, (ys.map (Value.string))[j]? = some u → w.cell? (ad.add j) = some u) →
      ∃ v' w', (Builtin.append_ #[28, 28] ty #[v, .slice (some ad) m c]).run Tryz.prog w = .ok v' w' ∧ OwS w' lo v' (xs ++ ys) ∧ w.grownBy w' v.ownBlock ∧ (v'.ownBlock = v.ownBlock ∨ v'.ownBlock = some w.heap.size) := by
    intro ad hc
    obtain ⟨v', w', hrun, h2, h3, _, h5⟩ := run_append_own_at (P := Tryz.prog) w lo 28 ty 9 i (.string ByteArray.empty) 1 16 Tryz.underlying28 hi hz0 hz1 hz2 rfl (by omega) v xs.length _ ho.2 ad m c (ys.map (Value.string)) (by simp [hm]) hc (by simp [Value.oneCell']) (by unfold maxLen; omega) (by omega) hlo
    exact ⟨v', w', hrun, ⟨by omega, by rw [hlen, List.map_append]; exact h2⟩, h3, h5⟩
  rcases A with _ | ad
  · have h0 : m = 0 := by
      rcases Nat.eq_zero_or_pos m with h0 | h0
      · exact h0
      · obtain ⟨b, off, h, _⟩ := hr.2.2.2 h0
        cases h
    have hy : ys = [] := List.eq_nil_of_length_eq_zero (by omega)
    subst hy h0
    refine ⟨v, w, ?_, by simpa using ho, World.grownBy.refl w _, .inl rfl⟩
    rcases ho.2.2 with ⟨rfl, _⟩ | ⟨g, cap, cur, rfl, _, _, hnc, _⟩
    · simp [Builtin.append_, run_underlying Tryz.underlying28, sizeOf, typeInfo, hi, Builtin.lenOf, Builtin.firstCells]
    · simp [Builtin.append_, run_underlying Tryz.underlying28, sizeOf, typeInfo, hi, Builtin.lenOf, Builtin.firstCells, hnc, storeCells]
  · refine key ad fun j u hu => ?_
    rw [List.getElem?_map] at hu
    obtain ⟨x, hx, rfl⟩ := Option.map_eq_some_iff.1 hu
    have hj : j < m := by have := (List.getElem?_eq_some_iff.1 hx).1; omega
    obtain ⟨b, off, e, hb, hc⟩ := hr.2.2.2 (by omega)
    injection e with e
    subst e
    rw [Go.WideShapes.add_plain, hc j x hx]
theorem wp_appS {o : Oper} {a : Act} {K : Act → World → Prop} {Q : Exit → Act → World → Prop} (s x : Operand)
    (ho : o.op = .call { callee := .builtin .append, args := #[s, x], argTypes := #[28, 28] })
    (lo : Nat) (v : Value) (xs : List ByteArray) (hs : a.eval s = v) (hown : OwS w lo v xs)
    (A : Option Addr) (m c : Nat) (ys : List ByteArray) (hx : a.eval x = .slice A m c) (hr : RdW w A m ys) (hl : xs.length + m ≤ 16777216) (hlo : lo ≤ w.heap.size)
    (h : ∀ (t : Sl) w', OwS w' lo (.slice t.A t.n t.c) (xs ++ ys) → w.grownBy w' v.ownBlock → ((Value.ownBlock (.slice t.A t.n t.c)) = v.ownBlock ∨ (Value.ownBlock (.slice t.A t.n t.c)) = some w.heap.size) → K (a.put o.dst (.slice t.A t.n t.c)) w') : o.wp Tryz.prog a w K Q := by
  obtain ⟨v', w', hrun, h2, h3, h4⟩ := run_appS w o.type lo v xs hown A m c ys hr hl hlo
  obtain ⟨t, ht, _⟩ := h2.shape
  subst ht
  unfold Oper.wp execOp
  simp only [ho, resolve, invoke, builtin, Sem.run_bind, Sem.run_pure, Result.andThen_ok, List.map_toArray, List.map_cons, List.map_nil, hs, hx, hrun]
  exact h t w' h2 h3 h4
theorem wpList_appS {ops : Array Oper} {rest : List Oper} {o : Oper} {a : Act} {Q : Exit → Act → World → Prop} (hgd : o.guard = none) (s x : Operand)
    (ho : o.op = .call { callee := .builtin .append, args := #[s, x], argTypes := #[28, 28] })
    (lo : Nat) (v : Value) (xs : List ByteArray) (hs : a.eval s = v) (hown : OwS w lo v xs)
    (A : Option Addr) (m c : Nat) (ys : List ByteArray) (hx : a.eval x = .slice A m c) (hr : RdW w A m ys) (hl : xs.length + m ≤ 16777216) (hlo : lo ≤ w.heap.size)
    (h : ∀ (t : Sl) w', OwS w' lo (.slice t.A t.n t.c) (xs ++ ys) → w.grownBy w' v.ownBlock → ((Value.ownBlock (.slice t.A t.n t.c)) = v.ownBlock ∨ (Value.ownBlock (.slice t.A t.n t.c)) = some w.heap.size) → wpList Tryz.prog ops Q rest (a.put o.dst (.slice t.A t.n t.c)) w') : wpList Tryz.prog ops Q (o :: rest) a w :=
  wpList_plain hgd fun _ hK => wp_appS w s x ho lo v xs hs hown A m c ys hx hr hl hlo fun t w' h2 h3 h4 => hK _ _ (h t w' h2 h3 h4)
theorem step_appS {ops : Array Oper} {o : Oper} {a : Act} {K : Act → World → Prop} {Q : Exit → Act → World → Prop} {E : Prop} (hgd : o.guard = none) (s x : Operand)
    (ho : o.op = .call { callee := .builtin .append, args := #[s, x], argTypes := #[28, 28] })
    (lo : Nat) (v : Value) (xs : List ByteArray) (hs : a.eval s = v) (hown : OwS w lo v xs)
    (A : Option Addr) (m c : Nat) (ys : List ByteArray) (hx : a.eval x = .slice A m c) (hr : RdW w A m ys) (hl : xs.length + m ≤ 16777216) (hlo : lo ≤ w.heap.size)
    (h : ∀ (t : Sl) w', OwS w' lo (.slice t.A t.n t.c) (xs ++ ys) → w.grownBy w' v.ownBlock → ((Value.ownBlock (.slice t.A t.n t.c)) = v.ownBlock ∨ (Value.ownBlock (.slice t.A t.n t.c)) = some w.heap.size) → K (a.put o.dst (.slice t.A t.n t.c)) w') :
    if Region.wanted o (yielded ops a.tmps) = true then Oper.wp Tryz.prog o a w K Q else E := by
  have hw : Region.wanted o (yielded ops a.tmps) = true := by simp [Region.wanted, hgd]
  rw [if_pos hw]
  exact wp_appS w s x ho lo v xs hs hown A m c ys hx hr hl hlo h
set_option maxRecDepth 20000 in
theorem run_fromS {o : Oper} {a : Act} (x l : Operand)
    (ho : o.op = .slice 28 x (some l) none none) (A : Option Addr) (n c : Nat) (hx : a.eval x = .slice A n c) (k : Nat) (hl : a.eval l = .int .i64 k) (hk : k ≤ n) :
    (execOp a.eval o).run Tryz.prog w = .ok (.value (.slice (fromA A c k) (n - k) (c - k))) w := by
  obtain ⟨i, hi, hz0, hz1, hz2⟩ := info_parts strs_info
  have hu : Tryz.prog.underlying 28 = some (.slice (Tryz.prog.elem 28)) := by kernel_rfl
  have he : Tryz.prog.elem 28 = 9 := by kernel_rfl
  have hrun := run_slice_l (P := Tryz.prog) (w := w) 28 A n c hu .i64 (k : Int) (by omega) (by omega)
  have hs : (sizeOf 9).run Tryz.prog w = .ok 1 w := by simp [sizeOf, typeInfo, hi, hz1]
  rw [he, hs] at hrun
  simp only [Result.andThen_ok, sliced, Int.toNat_natCast, Nat.mul_one] at hrun
  have hat : (Instr.sliceAt 28 (.slice A n c) (some (.int .i64 (k : Int))) none none).run Tryz.prog w = .ok (.slice (fromA A c k) (n - k) (c - k)) w := by
    rw [run_sliceAt_slice (h := hu)]
    exact hrun
  unfold execOp
  simp only [ho, Option.map_some, Option.map_none, hx, hl, Sem.run_bind, Sem.run_pure, hat, Result.andThen_ok]
set_option maxRecDepth 20000 in
theorem run_toW {o : Oper} {a : Act} (x l : Operand)
    (ho : o.op = .slice 28 x none (some l) none) (b off n c : Nat) (hx : a.eval x = .slice (some ⟨b, off, none⟩) n c) (k : Nat) (hl : a.eval l = .int .i64 k) (hk : k ≤ c) :
    (execOp a.eval o).run Tryz.prog w = .ok (.value (.slice (some ⟨b, off, none⟩) k c)) w := by
  obtain ⟨i, hi, hz0, hz1, hz2⟩ := info_parts strs_info
  have hu : Tryz.prog.underlying 28 = some (.slice (Tryz.prog.elem 28)) := by kernel_rfl
  have he : Tryz.prog.elem 28 = 9 := by kernel_rfl
  have hrun := run_slice_h (P := Tryz.prog) (w := w) 28 (some ⟨b, off, none⟩) n c hu .i64 (k : Int) (by omega) (by omega)
  have hs : (sizeOf 9).run Tryz.prog w = .ok 1 w := by simp [sizeOf, typeInfo, hi, hz1]
  rw [he, hs] at hrun
  simp only [Result.andThen_ok, sliced, Int.toNat_natCast, Nat.sub_zero, Option.map_some, Go.WideShapes.add_plain, Nat.zero_mul, Nat.add_zero, ite_self] at hrun
  have hat : (Instr.sliceAt 28 (.slice (some ⟨b, off, none⟩) n c) none (some (.int .i64 (k : Int))) none).run Tryz.prog w = .ok (.slice (some ⟨b, off, none⟩) k c) w := by
    rw [run_sliceAt_slice (h := hu)]
    exact hrun
  unfold execOp
  simp only [ho, Option.map_some, Option.map_none, hx, hl, Sem.run_bind, Sem.run_pure, hat, Result.andThen_ok]
end
set_option linter.unusedVariables false
set_option maxRecDepth 20000 in
theorem run_toNS (w : World) {o : Oper} {a : Act} (x l : Operand)
    (ho : o.op = .slice 28 x none (some l) none) (A : Option Addr) (n c : Nat) (hx : a.eval x = .slice A n c) (k : Nat) (hl : a.eval l = .int .i64 k) (hk : k ≤ c) (hA : A = none ∨ ∃ b off, A = some ⟨b, off, none⟩) :
    (execOp a.eval o).run Tryz.prog w = .ok (.value (.slice A k c)) w := by
  rcases hA with rfl | ⟨b, off, rfl⟩
  case inr => exact run_toW w x l ho b off n c hx k hl hk
  obtain ⟨i, hi, hz0, hz1, hz2⟩ := info_parts strs_info
  have hu : Tryz.prog.underlying 28 = some (.slice (Tryz.prog.elem 28)) := by kernel_rfl
  have he : Tryz.prog.elem 28 = 9 := by kernel_rfl
  have hrun := run_slice_h (P := Tryz.prog) (w := w) 28 none n c hu .i64 (k : Int) (by omega) (by omega)
  have hs : (sizeOf 9).run Tryz.prog w = .ok 1 w := by simp [sizeOf, typeInfo, hi, hz1]
  rw [he, hs] at hrun
  simp only [Result.andThen_ok, sliced, Int.toNat_natCast, Nat.sub_zero, Option.map_none, Nat.zero_mul, ite_self] at hrun
  have hat : (Instr.sliceAt 28 (.slice none n c) none (some (.int .i64 (k : Int))) none).run Tryz.prog w = .ok (.slice none k c) w := by
    rw [run_sliceAt_slice (h := hu)]
    exact hrun
  unfold execOp
  simp only [ho, Option.map_some, Option.map_none, hx, hl, Sem.run_bind, Sem.run_pure, hat, Result.andThen_ok]
end Go.Proofs.YtofglgfjlbehmaaGreat.mem
