/-
  Laws for append onto a slice of numbers of the call's own, in my words (Own, Rd), outside a region that draws and inside one.
  Plain lists of numbers: what a panel, a jury is, as both programs mean it. No program in sight.
-/
import Derived.Test.YtofglgfjlbehmaaGreatMem
import Derived.Laws.MakeOwn
import Derived.Maps.AppendAt
import Derived.Deep.AppendLies
import Derived.RegionTactic
import Derived.OwnWalk
namespace Go.Proofs.YtofglgfjlbehmaaGreat.mem
open Go.ChangeShapes Go.WideShapes Go.ChangeAt Go.RowKit

theorem quietL {P : Program} {f : FuncId} {args : Array Value} {W : World} {a n : Nat} {v : Value} (h : Calls P f args (W.drewN (a + n)) fun e w' => e = .returned v ∧ W.drewN (a + n) = w') :
    Calls P f args (W.drewN (a + n)) fun e w'' => e = .returned v ∧ ∃ m, w'' = W.drewN (a + m) := h.mono fun _ _ ⟨he, hm⟩ => ⟨he, n, hm.symm⟩
theorem quietL0 {P : Program} {f : FuncId} {args : Array Value} {W : World} {n : Nat} {v : Value} (h : Calls P f args (W.drewN n) fun e w' => e = .returned v ∧ W.drewN n = w') :
    Calls P f args (W.drewN n) fun e w'' => e = .returned v ∧ ∃ m, w'' = W.drewN m := h.mono fun _ _ ⟨he, hm⟩ => ⟨he, n, hm.symm⟩
theorem Rd.one (w : World) (x : Int) : Rd (w.alloc (.cells #[.int .i64 x] 2)) (some ⟨w.heap.size, 0, none⟩) 1 [x] :=
  ⟨rfl, by omega, fun _ => ⟨w.heap.size, 0, rfl, by simp, fun j hj => by
    obtain rfl : j = 0 := by omega
    exact (Blk.new w 2 #[.int .i64 x]).get 0 _ rfl⟩⟩
theorem Own.new0 (w : World) (lo : Nat) (hl : lo ≤ w.heap.size) : Own (w.alloc (.cells #[] 2)) lo (.slice (some ⟨w.heap.size, 0, none⟩) 0 0) [] :=
  Own.of_blk (Blk.new w 2 #[]) hl 0 0 rfl (Nat.le_refl _) (by simp [maxLen]) rfl (by omega) rfl
theorem Own.alloc {w : World} {lo : Nat} {v : Value} {xs : List Int} (h : Own w lo v xs) (o : Obj) : Own (w.alloc o) lo v xs := h.ext ((Ext.refl w).alloc o)
theorem Own.drewN {w : World} {lo : Nat} {v : Value} {xs : List Int} (h : Own w lo v xs) (n : Nat) : Own (w.drewN n) lo v xs := h
theorem Own.drew {w : World} {lo : Nat} {v : Value} {xs : List Int} (h : Own w lo v xs) : Own w.drew lo v xs := h
theorem Rd.alloc {w : World} {A : Option Addr} {n : Nat} {xs : List Int} (h : Rd w A n xs) (o : Obj) : Rd (w.alloc o) A n xs := h.ext ((Ext.refl w).alloc o)
theorem Rd.drewN {w : World} {A : Option Addr} {n : Nat} {xs : List Int} (h : Rd w A n xs) (k : Nat) : Rd (w.drewN k) A n xs := h
theorem Rd.drew {w : World} {A : Option Addr} {n : Nat} {xs : List Int} (h : Rd w A n xs) : Rd w.drew A n xs := h
theorem Own.grown {w w' : World} {lo : Nat} {v u : Value} {xs : List Int} (h : Own w lo u xs) (hg : w.grownBy w' v.ownBlock) (ha : ∀ k, u.ownBlock = some k → v.ownBlock ≠ some k) : Own w' lo u xs :=
  h.keep fun k hk => hg.block k (h.lt k hk).2 (fun e => ha k hk e.symm)

section
variable (w : World)
set_option maxRecDepth 10000 in
theorem run_app (ty : TypeId) (lo : Nat) (v : Value) (xs : List Int) (ho : Own w lo v xs) (A : Option Addr) (m c : Nat) (ys : List Int) (hr : Rd w A m ys) (hl : xs.length + m ≤ 16777216) (hlo : lo ≤ w.heap.size) :
    ∃ v' w', (Builtin.append_ #[24, 24] ty #[v, .slice A m c]).run Tryz.prog w = .ok v' w' ∧ Own w' lo v' (xs ++ ys) ∧ w.grownBy w' v.ownBlock ∧ (v'.ownBlock = v.ownBlock ∨ v'.ownBlock = some w.heap.size) := by
  obtain ⟨i, hi, hz0, hz1, hz2⟩ := info_parts ints_info
  have hm : m = ys.length := hr.1
  have hlen : (xs ++ ys).length = xs.length + m := by rw [List.length_append, hm]
  have key : ∀ ad : Addr, (∀ j u, (ys.map (Value.int .i64))[j]? = some u → w.cell? (ad.add j) = some u) →
      ∃ v' w', (Builtin.append_ #[24, 24] ty #[v, .slice (some ad) m c]).run Tryz.prog w = .ok v' w' ∧ Own w' lo v' (xs ++ ys) ∧ w.grownBy w' v.ownBlock ∧ (v'.ownBlock = v.ownBlock ∨ v'.ownBlock = some w.heap.size) := by
    intro ad hc
    obtain ⟨v', w', hrun, h2, h3, _, h5⟩ := run_append_own_at (P := Tryz.prog) w lo 24 ty 2 i (.int .i64 0) 1 8 Tryz.underlying24 hi hz0 hz1 hz2 rfl (by omega) v xs.length _ ho.2 ad m c (ys.map (Value.int .i64)) (by simp [hm]) hc (by simp [Value.oneCell']) (by unfold maxLen; omega) (by omega) hlo
    exact ⟨v', w', hrun, ⟨by omega, by rw [hlen, List.map_append]; exact h2⟩, h3, h5⟩
  rcases A with _ | ad
  · have h0 : m = 0 := by
      rcases Nat.eq_zero_or_pos m with h0 | h0
      · exact h0
      · obtain ⟨b, off, h, _⟩ := hr.2.2 h0
        cases h
    have hy : ys = [] := List.eq_nil_of_length_eq_zero (by omega)
    subst hy h0
    refine ⟨v, w, ?_, by simpa using ho, World.grownBy.refl w _, .inl rfl⟩
    rcases ho.2.2 with ⟨rfl, _⟩ | ⟨g, cap, cur, rfl, _, _, hnc, _⟩
    · simp [Builtin.append_, run_underlying Tryz.underlying24, sizeOf, typeInfo, hi, Builtin.lenOf, Builtin.firstCells]
    · simp [Builtin.append_, run_underlying Tryz.underlying24, sizeOf, typeInfo, hi, Builtin.lenOf, Builtin.firstCells, hnc, storeCells]
  · refine key ad fun j u hu => ?_
    rw [List.getElem?_map] at hu
    obtain ⟨x, hx, rfl⟩ := Option.map_eq_some_iff.1 hu
    have hj : j < m := by have := (List.getElem?_eq_some_iff.1 hx).1; omega
    obtain ⟨b, off, e, hb, hc⟩ := hr.2.2 (by omega)
    injection e with e
    subst e
    rw [Go.WideShapes.add_plain, hc j hj, List.getD_eq_getElem?_getD, hx]
    rfl

theorem wp_app {o : Oper} {a : Act} {K : Act → World → Prop} {Q : Exit → Act → World → Prop} (s x : Operand)
    (ho : o.op = .call { callee := .builtin .append, args := #[s, x], argTypes := #[24, 24] })
    (lo : Nat) (v : Value) (xs : List Int) (hs : a.eval s = v) (hown : Own w lo v xs)
    (A : Option Addr) (m c : Nat) (ys : List Int) (hx : a.eval x = .slice A m c) (hr : Rd w A m ys) (hl : xs.length + m ≤ 16777216) (hlo : lo ≤ w.heap.size)
    (h : ∀ (t : Sl) w', Own w' lo (.slice t.A t.n t.c) (xs ++ ys) → w.grownBy w' v.ownBlock → ((Value.ownBlock (.slice t.A t.n t.c)) = v.ownBlock ∨ (Value.ownBlock (.slice t.A t.n t.c)) = some w.heap.size) → K (a.put o.dst (.slice t.A t.n t.c)) w') : o.wp Tryz.prog a w K Q := by
  obtain ⟨v', w', hrun, h2, h3, h4⟩ := run_app w o.type lo v xs hown A m c ys hr hl hlo
  obtain ⟨t, ht, _⟩ := h2.shape
  subst ht
  unfold Oper.wp execOp
  simp only [ho, resolve, invoke, builtin, Sem.run_bind, Sem.run_pure, Result.andThen_ok, List.map_toArray, List.map_cons, List.map_nil, hs, hx, hrun]
  exact h t w' h2 h3 h4

theorem wpList_app {ops : Array Oper} {rest : List Oper} {o : Oper} {a : Act} {Q : Exit → Act → World → Prop} (hgd : o.guard = none) (s x : Operand)
    (ho : o.op = .call { callee := .builtin .append, args := #[s, x], argTypes := #[24, 24] })
    (lo : Nat) (v : Value) (xs : List Int) (hs : a.eval s = v) (hown : Own w lo v xs)
    (A : Option Addr) (m c : Nat) (ys : List Int) (hx : a.eval x = .slice A m c) (hr : Rd w A m ys) (hl : xs.length + m ≤ 16777216) (hlo : lo ≤ w.heap.size)
    (h : ∀ (t : Sl) w', Own w' lo (.slice t.A t.n t.c) (xs ++ ys) → w.grownBy w' v.ownBlock → ((Value.ownBlock (.slice t.A t.n t.c)) = v.ownBlock ∨ (Value.ownBlock (.slice t.A t.n t.c)) = some w.heap.size) → wpList Tryz.prog ops Q rest (a.put o.dst (.slice t.A t.n t.c)) w') : wpList Tryz.prog ops Q (o :: rest) a w :=
  wpList_plain hgd fun _ hK => wp_app w s x ho lo v xs hs hown A m c ys hx hr hl hlo fun t w' h2 h3 h4 => hK _ _ (h t w' h2 h3 h4)

theorem step_app {ops : Array Oper} {o : Oper} {a : Act} {K : Act → World → Prop} {Q : Exit → Act → World → Prop} {E : Prop} (hgd : o.guard = none) (s x : Operand)
    (ho : o.op = .call { callee := .builtin .append, args := #[s, x], argTypes := #[24, 24] })
    (lo : Nat) (v : Value) (xs : List Int) (hs : a.eval s = v) (hown : Own w lo v xs)
    (A : Option Addr) (m c : Nat) (ys : List Int) (hx : a.eval x = .slice A m c) (hr : Rd w A m ys) (hl : xs.length + m ≤ 16777216) (hlo : lo ≤ w.heap.size)
    (h : ∀ (t : Sl) w', Own w' lo (.slice t.A t.n t.c) (xs ++ ys) → w.grownBy w' v.ownBlock → ((Value.ownBlock (.slice t.A t.n t.c)) = v.ownBlock ∨ (Value.ownBlock (.slice t.A t.n t.c)) = some w.heap.size) → K (a.put o.dst (.slice t.A t.n t.c)) w') :
    if Region.wanted o (yielded ops a.tmps) = true then Oper.wp Tryz.prog o a w K Q else E := by
  have hw : Region.wanted o (yielded ops a.tmps) = true := by simp [Region.wanted, hgd]
  rw [if_pos hw]
  exact wp_app w s x ho lo v xs hs hown A m c ys hx hr hl hlo h
/-- make([]int64, 0, n) -/
theorem run_mk0 (n : Nat) (hn : n ≤ 16777216) : (Instr.makeSlice 24 (.int .i64 0) (.int .i64 (n : Int))).run Tryz.prog w = .ok (.slice (some ⟨w.heap.size, 0, none⟩) 0 n) (w.alloc (.cells (madeCells #[.int .i64 0] n) 2)) := by
  obtain ⟨i, hi, hz0, hz1, hz2⟩ := info_parts ints_info
  have hr := run_make (P := Tryz.prog) w 24 2 i (.int .i64 0) Tryz.underlying24 hi hz0 .i64 .i64 0 n (by omega) (by omega) (by rw [hz2]; omega) (by omega)
  simp only [hz1, Int.toNat_natCast, Nat.mul_one, Int.toNat_zero] at hr
  exact hr
theorem Own.mk0 (lo n : Nat) (hl : lo ≤ w.heap.size) (hn : n ≤ 16777216) : Own (w.alloc (.cells (madeCells #[.int .i64 0] n) 2)) lo (.slice (some ⟨w.heap.size, 0, none⟩) 0 n) [] :=
  Own.of_blk (Blk.new w 2 _) hl 0 n rfl (Nat.zero_le _) (by unfold maxLen; omega) (by rw [← Array.length_toList, toList_madeCells_one, List.length_replicate]) (by omega) rfl
end
end Go.Proofs.YtofglgfjlbehmaaGreat.mem
namespace Go.Proofs.YtofglgfjlbehmaaGreat.mem

def inB (n lo hi : Int) : Bool := decide (lo ≤ n ∧ n ≤ hi)
theorem inB_yes {n lo hi : Int} (h : lo ≤ n ∧ n ≤ hi) : inB n lo hi = true := decide_eq_true h
theorem inB_no {n lo hi : Int} (h : ¬(lo ≤ n ∧ n ≤ hi)) : inB n lo hi = false := decide_eq_false h
theorem inB_iff {n lo hi : Int} : inB n lo hi = true ↔ lo ≤ n ∧ n ≤ hi := by simp [inB]

/-- is x in the list -/
def hasB (xs : List Int) (x : Int) : Bool := decide (x ∈ xs)
theorem hasB_no {xs : List Int} {x : Int} (h : ∀ (j : Nat) (y : Int), xs[j]? = some y → x ≠ y) : hasB xs x = false := by
  refine decide_eq_false fun hm => ?_
  obtain ⟨j, hj⟩ := List.getElem?_of_mem hm
  exact h j x hj rfl
theorem hasB_yes {xs : List Int} {x : Int} {j : Nat} (h : xs[j]? = some x) : hasB xs x = true := decide_eq_true (List.mem_of_getElem? h)

/-- the index of x in the list, or -1 -/
def plc (xs : List Int) (x : Int) : Int := if x ∈ xs then (xs.idxOf x : Int) else -1
theorem plc_no {xs : List Int} {x : Int} (h : ∀ (j : Nat) (y : Int), xs[j]? = some y → x ≠ y) : plc xs x = -1 := by
  refine if_neg fun hm => ?_
  obtain ⟨j, hj⟩ := List.getElem?_of_mem hm
  exact h j x hj rfl
theorem plc_yes {xs : List Int} {x : Int} {k : Nat} (h : xs[k]? = some x) (hb : ∀ (j : Nat) (y : Int), j < k → xs[j]? = some y → x ≠ y) : plc xs x = k := by
  have hm := List.mem_of_getElem? h
  unfold plc
  rw [if_pos hm]
  have hlt : xs.idxOf x < xs.length := List.idxOf_lt_length_of_mem hm
  have h1 : xs[xs.idxOf x]? = some x := by rw [List.getElem?_eq_getElem hlt, List.getElem_idxOf]
  have h2 : ¬ xs.idxOf x < k := fun hlt => hb _ _ hlt h1 rfl
  have h3 : xs.idxOf x ≤ k := by
    have hk : k < xs.length := (List.getElem?_eq_some_iff.1 h).1
    have := List.getElem?_eq_some_iff.1 h
    obtain ⟨hk, hx⟩ := this
    exact idx_le xs x k hk hx
  omega
where
  idx_le : ∀ (xs : List Int) (x : Int) (k : Nat) (hk : k < xs.length), xs[k] = x → xs.idxOf x ≤ k
    | [], _, _, hk, _ => by simp at hk
    | y :: ys, x, 0, _, h => by simp at h; simp [h]
    | y :: ys, x, k + 1, hk, h => by
      rw [List.idxOf_cons]
      have := idx_le ys x k (by simpa using hk) (by simpa using h)
      cases y == x <;> simp <;> omega
theorem plc_bd (xs : List Int) (x : Int) : -1 ≤ plc xs x ∧ plc xs x < xs.length := by
  unfold plc
  split
  · rename_i h
    have := List.idxOf_lt_length_of_mem h
    omega
  · omega
theorem plc_neg {xs : List Int} {x : Int} : plc xs x < 0 ↔ x ∉ xs := by
  unfold plc
  split
  · rename_i h; simp only [h, not_true, iff_false]; omega
  · rename_i h; simp [h]

/-- the elements that are not 0 -/
def nz (xs : List Int) : List Int := xs.filter (fun x => x != 0)
theorem nz_le (xs : List Int) : (nz xs).length ≤ xs.length := List.length_filter_le _ _
theorem nz_snoc0 (xs : List Int) (k : Nat) (h : xs[k]? = some 0) : nz (xs.take (k + 1)) = nz (xs.take k) := by
  rw [take_more h]; simp [nz, List.filter_append]
theorem nz_snoc (xs : List Int) (k : Nat) (x : Int) (h : xs[k]? = some x) (hx : x ≠ 0) : nz (xs.take (k + 1)) = nz (xs.take k) ++ [x] := by
  rw [take_more h]; simp [nz, List.filter_append, hx]

theorem flat_more {ls : List (List Int)} {k : Nat} {l : List Int} (h : ls[k]? = some l) : (ls.take (k + 1)).flatten = (ls.take k).flatten ++ l := by
  rw [List.take_add_one, h]; simp
theorem flat_len {ls : List (List Int)} {k : Nat} {l : List Int} (h : ls[k]? = some l) : (ls.take k).flatten.length + l.length ≤ ls.flatten.length := by
  have h1 := flat_more h
  have h2 : (ls.take (k + 1)).flatten.length ≤ ls.flatten.length := by
    have : ls = ls.take (k + 1) ++ ls.drop (k + 1) := (List.take_append_drop _ _).symm
    rw [this, List.flatten_append, List.length_append, ← this]
    omega
  rw [h1, List.length_append] at h2
  exact h2
/-- all are numbers of persons, and different -/
def distP (xs : List Int) : Prop := (∀ x ∈ xs, 1 ≤ x ∧ x ≤ 1000000) ∧ xs.Nodup
instance (xs : List Int) : Decidable (distP xs) := by unfold distP; exact inferInstance
def distB (xs : List Int) : Bool := decide (distP xs)
theorem distP_perm {xs ys : List Int} (h : xs.Perm ys) : distP xs ↔ distP ys := by
  unfold distP
  rw [h.nodup_iff]
  simp only [h.mem_iff]
theorem distP_snoc (xs : List Int) (x : Int) : distP (xs ++ [x]) ↔ distP xs ∧ (1 ≤ x ∧ x ≤ 1000000) ∧ x ∉ xs := by
  have hp : (xs ++ [x]).Perm (x :: xs) := List.perm_append_comm
  rw [distP_perm hp]
  simp only [distP, List.mem_cons, List.nodup_cons, forall_eq_or_imp]
  constructor
  · rintro ⟨⟨a, b⟩, c, d⟩; exact ⟨⟨b, d⟩, a, c⟩
  · rintro ⟨⟨b, d⟩, a, c⟩; exact ⟨⟨a, b⟩, c, d⟩
theorem distP_take {xs : List Int} (h : distP xs) (k : Nat) : distP (xs.take k) :=
  ⟨fun x hx => h.1 x (List.mem_of_mem_take hx), h.2.sublist (List.take_sublist _ _)⟩

/-- all of a panel -/
def allP (l : L3) : List Int := nz l.x ++ (l.y ++ l.z)
/-- a panel is as described -/
def okP (l : L3) : Bool := inB l.x.length 1 12 && (decide ((allP l).length ≤ 60) && (distB (allP l) && !(hasB l.x 0 && decide (0 < l.y.length))))
theorem okP_iff {l : L3} : okP l = true ↔ (1 ≤ l.x.length ∧ l.x.length ≤ 12) ∧ (allP l).length ≤ 60 ∧ distP (allP l) ∧ ¬(0 ∈ l.x ∧ 0 < l.y.length) := by
  simp only [okP, Bool.and_eq_true, decide_eq_true_eq, inB_iff, distB, hasB, Bool.not_eq_true', Bool.and_eq_false_iff, decide_eq_false_iff_not]
  constructor
  · rintro ⟨⟨a, b⟩, c, d, e⟩
    exact ⟨⟨by omega, by omega⟩, c, d, fun h => e.elim (fun f => f h.1) (fun f => f h.2)⟩
  · rintro ⟨⟨a, b⟩, c, d, e⟩
    refine ⟨⟨by omega, by omega⟩, c, d, ?_⟩
    rcases Classical.em (0 ∈ l.x) with h | h
    · exact .inr fun h2 => e ⟨h, h2⟩
    · exact .inl h
/-- the same, as the reference's program lists them -/
def allS (l : L3) : List Int := (l.y ++ l.z) ++ nz l.x
theorem all_perm (l : L3) : (allS l).Perm (allP l) := List.perm_append_comm
/-- a jury is as described -/
def okJ (l : L3) : Bool := inB l.x.length 1 12 && (decide (l.y.length ≤ 6) && (decide (l.z.length ≤ 60) && (distB (allP l) && !(hasB l.x 0 && decide (0 < l.y.length)))))
theorem nz_full (xs : List Int) : (nz xs).length = xs.length ↔ 0 ∉ xs := by
  unfold nz
  rw [List.length_filter_eq_length_iff]
  constructor
  · intro h h0
    have := h 0 h0
    simp at this
  · intro h x hx
    simp only [bne_iff_ne, ne_eq]
    rintro rfl
    exact h hx
theorem nz_lt (xs : List Int) : decide ((nz xs).length < xs.length) = hasB xs 0 := by
  have h1 := nz_full xs
  have h2 := nz_le xs
  unfold hasB
  rw [decide_eq_decide]
  constructor
  · intro h
    exact Classical.byContradiction fun hn => by have := h1.2 hn; omega
  · intro h
    rcases Nat.lt_or_ge (nz xs).length xs.length with hl | hl
    · exact hl
    · exact absurd h (h1.1 (by omega))
theorem distB_all (l : L3) : distB (allS l) = distB (allP l) := by
  unfold distB
  rw [decide_eq_decide]
  exact distP_perm (all_perm l)
theorem len_all (l : L3) : (allS l).length = (allP l).length := (all_perm l).length_eq
theorem hasB_more {xs : List Int} {k : Nat} {y : Int} (h : xs[k]? = some y) (x : Int) : hasB (xs.take (k + 1)) x = (hasB (xs.take k) x || decide (y = x)) := by
  rw [take_more h]
  unfold hasB
  rw [Bool.eq_iff_iff]
  simp only [Bool.or_eq_true, decide_eq_true_eq, List.mem_append, List.mem_singleton]
  exact or_congr Iff.rfl ⟨Eq.symm, Eq.symm⟩
end Go.Proofs.YtofglgfjlbehmaaGreat.mem
