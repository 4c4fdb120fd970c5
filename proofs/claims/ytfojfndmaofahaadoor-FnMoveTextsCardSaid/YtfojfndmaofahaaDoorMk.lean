/-
  Contracts of both programs' MakePanel; words for make and copy.
-/
import Derived.Test.YtfojfndmaofahaaDoorEmpL
import Derived.Test.YtfojfndmaofahaaDoorSink
import Derived.Laws.CopyOwn
namespace Go.Proofs.YtfojfndmaofahaaDoor.mem
open Go.ChangeShapes Go.WideShapes Go.ChangeAt Go.RowKit

section
variable (w : World)
theorem run_mkn (n : Nat) (hn : n ≤ 16777216) : (Instr.makeSlice 24 (.int .i64 (n : Int)) (.int .i64 (n : Int))).run Tryd.prog w = .ok (.slice (some ⟨w.heap.size, 0, none⟩) n n) (w.alloc (.cells (madeCells #[.int .i64 0] n) 2)) := by
  obtain ⟨i, hi, hz0, hz1, hz2⟩ := info_parts ints_info
  have hr := run_make (P := Tryd.prog) w 24 2 i (.int .i64 0) Tryd.underlying24 hi hz0 .i64 .i64 n n (by omega) (by omega) (by rw [hz2]; omega) (by omega)
  simp only [hz1, Int.toNat_natCast, Nat.mul_one] at hr
  exact hr
theorem Own.mkn (lo n : Nat) (hl : lo ≤ w.heap.size) (hn : n ≤ 16777216) : Own (w.alloc (.cells (madeCells #[.int .i64 0] n) 2)) lo (.slice (some ⟨w.heap.size, 0, none⟩) n n) (List.replicate n 0) :=
  Own.of_blk (Blk.new w 2 _) hl n n (by simp) (Nat.le_refl _) (by unfold maxLen; omega) (by rw [← Array.length_toList, toList_madeCells_one, List.length_replicate]) hn (by rw [toList_madeCells_one]; simp)

set_option maxRecDepth 20000 in
theorem wpList_cp {ops : Array Oper} {rest : List Oper} {o : Oper} {a : Act} {Q : Exit → Act → World → Prop} (hgd : o.guard = none) (d s : Operand)
    (ho : o.op = .call { callee := .builtin .copy, args := #[d, s], argTypes := #[24, 24] })
    (lo : Nat) (D : Option Addr) (n c : Nat) (xs : List Int) (hd : a.eval d = .slice D n c) (hown : Own w lo (.slice D n c) xs)
    (A : Option Addr) (m c' : Nat) (ys : List Int) (hs : a.eval s = .slice A m c') (hr : Rd w A m ys) (kk : Nat) (hkk : Nat.min m n = kk)
    (h : ∀ w', Own w' lo (.slice D n c) (ys.take n ++ xs.drop m) → Fr (fun k => Value.ownBlock (.slice D n c) = some k) w w' → wpList Tryd.prog ops Q rest (a.put o.dst (.int .i64 kk)) w') : wpList Tryd.prog ops Q (o :: rest) a w := by
  obtain ⟨i, hi, hz0, hz1, hz2⟩ := info_parts ints_info
  subst hkk
  have hm : m = ys.length := hr.1
  have hn : n = xs.length := hown.rd.1
  have hsz : (Tryd.prog.info? 2).map (·.size) = some 1 := by rw [hi]; simp [hz1]
  by_cases h0 : Nat.min m n = 0
  · refine wpList_copy_nothing hgd d s 24 24 ho 2 Tryd.underlying24 hsz D A n c m c' hd hs h0 ?_
    have e : ys.take n ++ xs.drop m = xs := by
      rcases (show m = 0 ∨ n = 0 by have := h0; simp [Nat.min_def] at this; split at this <;> omega) with e | e
      · subst e
        have : ys = [] := List.eq_nil_of_length_eq_zero hm.symm
        subst this
        simp
      · subst e
        have : xs = [] := List.eq_nil_of_length_eq_zero hn.symm
        subst this
        simp
    have := h w (by rw [e]; exact hown) (Fr.refl _ _)
    rw [h0] at this
    exact this
  · have hm0 : 0 < m := by
      rcases Nat.eq_zero_or_pos m with e | e
      · rw [e] at h0; simp at h0
      · exact e
    have hn0 : 0 < n := by
      rcases Nat.eq_zero_or_pos n with e | e
      · rw [e] at h0; simp at h0
      · exact e
    obtain ⟨b, off, rfl, hb, hc⟩ := hr.2.2 hm0
    rcases hown.2.2 with ⟨e, hn0'⟩ | ⟨g, cap, cur, e, hg, hh, hcap, hmx, hss, ht⟩
    · injection e with e1 e2 e3; omega
    · injection e with e1 e2 e3
      subst e1 e3
      have hB : Blk w g 2 cur := hh
      have hcl : ((ys.take n).map (Value.int .i64)).length = Nat.min m n := by
        rw [List.length_map, List.length_take, hm, Nat.min_comm]
      have hle : Nat.min m n ≤ cur.size := by have := Nat.min_le_right m n; have : Nat.min m n ≤ n := this; omega
      refine wpList_copy_own hgd d s 24 24 ho 2 Tryd.underlying24 hsz g 0 n c ⟨b, off, none⟩ m c' hd hs cur 2 hh ((ys.take n).map (Value.int .i64)) hcl ?_ (by rw [hcl]; omega) (fun v hv => by obtain ⟨x, _, rfl⟩ := List.mem_map.1 hv; rfl) ?_
      · intro j v hv
        rw [List.getElem?_map] at hv
        obtain ⟨x, hx, rfl⟩ := Option.map_eq_some_iff.1 hv
        have hj : j < (ys.take n).length := (List.getElem?_eq_some_iff.1 hx).1
        rw [List.length_take] at hj
        rw [Go.WideShapes.add_plain, hc j (by omega), List.getD_eq_getElem?_getD]
        rw [List.getElem?_take_of_lt (by omega)] at hx
        rw [hx]; rfl
      · rw [hcl]
        refine h _ ?_ ⟨rfl, rfl, rfl, by simp [World.setRow], fun k _ hne => setRow_other w g k _ (fun e => hne (by rw [e]; rfl))⟩
        have hB2 : Blk (w.setRow g (cur.toList.take 0 ++ ((ys.take n).map (Value.int .i64) ++ cur.toList.drop (0 + (Nat.min m n)))).toArray) g 2 (cur.toList.take 0 ++ ((ys.take n).map (Value.int .i64) ++ cur.toList.drop (0 + (Nat.min m n)))).toArray := setRow_heap w g cur _ _ _ hh
        have hmn : Nat.min m n ≤ n := Nat.min_le_right m n
        have hmm : Nat.min m n ≤ m := Nat.min_le_left m n
        have hmd : Nat.min m n = m ∨ Nat.min m n = n := by rcases Nat.le_total m n with h | h; exact .inl (Nat.min_eq_left h); exact .inr (Nat.min_eq_right h)
        have hleni : (ys.take n ++ xs.drop m).length = n := by
          rw [List.length_append, List.length_take, List.length_drop, ← hm, ← hn]; omega
        refine Own.of_blk hB2 hg n c hleni.symm (by omega) hmx ?_ (by have := hown.1; omega) ?_
        · rw [List.size_toArray, List.length_append, List.length_take, List.length_append, hcl, List.length_drop, Array.length_toList]; omega
        · rw [List.take_zero, List.nil_append, Nat.zero_add, List.take_append, hcl, List.map_append]
          congr 1
          · rw [List.take_of_length_le (by rw [hcl]; omega)]
          · rw [← List.drop_take, List.map_drop]
            have ht' : cur.toList.take n = xs.map (Value.int .i64) := by rw [hn]; simpa using ht
            rw [ht']
            rcases hmd with e | e
            · rw [e]
            · rw [e, List.drop_eq_nil_of_le (by rw [List.length_map]; omega), List.drop_eq_nil_of_le (by rw [List.length_map]; omega)]

def fromA (A : Option Addr) (c k : Nat) : Option Addr := if c = k then A else A.map (·.add k)
theorem Rd.from_ {A : Option Addr} {n c k : Nat} {xs : List Int} (h : Rd w A n xs) (hk : k ≤ n) (hc : n ≤ c) : Rd w (fromA A c k) (n - k) (xs.drop k) := by
  have h1 := h.1
  have h2 := h.2.1
  refine ⟨by rw [List.length_drop]; omega, by omega, fun ha => ?_⟩
  obtain ⟨b, off, rfl, hb, hcl⟩ := h.2.2 (by omega)
  refine ⟨b, off + k, ?_, hb, fun j hj => ?_⟩
  · unfold fromA; rw [if_neg (by omega)]; show some ((⟨b, off, none⟩ : Addr).add k) = _; rw [Go.WideShapes.add_plain]
  · rw [Nat.add_assoc, hcl (k + j) (by omega)]
    simp only [List.getD_eq_getElem?_getD, List.getElem?_drop]
set_option maxRecDepth 20000 in
theorem wpList_from {ops : Array Oper} {rest : List Oper} {o : Oper} {a : Act} {Q : Exit → Act → World → Prop} (hgd : o.guard = none) (x l : Operand)
    (ho : o.op = .slice 24 x (some l) none none) (A : Option Addr) (n c : Nat) (hx : a.eval x = .slice A n c) (k : Nat) (hl : a.eval l = .int .i64 k) (hk : k ≤ n)
    (h : wpList Tryd.prog ops Q rest (a.put o.dst (.slice (fromA A c k) (n - k) (c - k))) w) : wpList Tryd.prog ops Q (o :: rest) a w := by
  obtain ⟨i, hi, hz0, hz1, hz2⟩ := info_parts ints_info
  refine wpList_plain hgd fun K hK => ?_
  have hu : Tryd.prog.underlying 24 = some (.slice (Tryd.prog.elem 24)) := by kernel_rfl
  have he : Tryd.prog.elem 24 = 2 := by kernel_rfl
  have hrun := run_slice_l (P := Tryd.prog) (w := w) 24 A n c hu .i64 (k : Int) (by omega) (by omega)
  have hs : (sizeOf 2).run Tryd.prog w = .ok 1 w := by simp [sizeOf, typeInfo, hi, hz1]
  rw [he, hs] at hrun
  simp only [Result.andThen_ok, sliced, Int.toNat_natCast, Nat.mul_one] at hrun
  have hat : (Instr.sliceAt 24 (.slice A n c) (some (.int .i64 (k : Int))) none none).run Tryd.prog w = .ok (.slice (fromA A c k) (n - k) (c - k)) w := by
    rw [run_sliceAt_slice (h := hu)]
    exact hrun
  unfold Oper.wp execOp
  simp only [ho, Option.map_some, Option.map_none, hx, hl, Sem.run_bind, Sem.run_pure, hat, Result.andThen_ok]
  exact hK _ _ h
end
theorem Own3.awayP {w : World} {p : S3} {l : L3} {lo g : Nat} (h : Own3 w lo p l) (hg : g < lo) (i : Nat) (u : Value) : Own3 (w.setCell ⟨g, i, none⟩ u) lo p l :=
  ⟨h.1.off g i hg u, h.2.1.off g i hg u, h.2.2.1.off g i hg u, h.2.2.2⟩
def mkL (list : List Int) (n : Nat) : L3 := ⟨list.take n ++ (List.replicate n 0).drop list.length, list.drop n, []⟩
def nilL3 : L3 := ⟨[], [], []⟩
theorem Own3.nil3_ (w : World) (lo : Nat) : Own3 w lo ⟨⟨none, 0, 0⟩, ⟨none, 0, 0⟩, ⟨none, 0, 0⟩⟩ nilL3 :=
  ⟨Own.nil_ _ _, Own.nil_ _ _, Own.nil_ _ _, by simp, fun k h => (by cases h), fun k h => (by cases h), fun k h => (by cases h)⟩
def mkR (list : List Int) (s : Int) : L3 × Int := if inB s 1 12 = true then (if (hasB list 0 || !okP (mkL list s.toNat)) = true then (nilL3, 1) else (mkL list s.toNat, 0)) else (nilL3, 2)

end Go.Proofs.YtfojfndmaofahaaDoor.mem
