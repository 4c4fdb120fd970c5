/-
  Contracts of both programs' MakePanel; words for make and copy.
-/
import Derived.Test.YtofglgfjlbehmaaGreatEmpL
import Derived.Test.YtofglgfjlbehmaaGreatMg2
import Derived.Laws.CopyOwn
namespace Go.Proofs.YtofglgfjlbehmaaGreat.mem
open Go.ChangeShapes Go.WideShapes Go.ChangeAt Go.RowKit

section
variable (w : World)
theorem run_mkn (n : Nat) (hn : n ≤ 16777216) : (Instr.makeSlice 24 (.int .i64 (n : Int)) (.int .i64 (n : Int))).run Tryz.prog w = .ok (.slice (some ⟨w.heap.size, 0, none⟩) n n) (w.alloc (.cells (madeCells #[.int .i64 0] n) 2)) := by
  obtain ⟨i, hi, hz0, hz1, hz2⟩ := info_parts ints_info
  have hr := run_make (P := Tryz.prog) w 24 2 i (.int .i64 0) Tryz.underlying24 hi hz0 .i64 .i64 n n (by omega) (by omega) (by rw [hz2]; omega) (by omega)
  simp only [hz1, Int.toNat_natCast, Nat.mul_one] at hr
  exact hr
theorem Own.mkn (lo n : Nat) (hl : lo ≤ w.heap.size) (hn : n ≤ 16777216) : Own (w.alloc (.cells (madeCells #[.int .i64 0] n) 2)) lo (.slice (some ⟨w.heap.size, 0, none⟩) n n) (List.replicate n 0) :=
  Own.of_blk (Blk.new w 2 _) hl n n (by simp) (Nat.le_refl _) (by unfold maxLen; omega) (by rw [← Array.length_toList, toList_madeCells_one, List.length_replicate]) hn (by rw [toList_madeCells_one]; simp)

set_option maxRecDepth 20000 in
theorem wpList_cp {ops : Array Oper} {rest : List Oper} {o : Oper} {a : Act} {Q : Exit → Act → World → Prop} (hgd : o.guard = none) (d s : Operand)
    (ho : o.op = .call { callee := .builtin .copy, args := #[d, s], argTypes := #[24, 24] })
    (lo : Nat) (D : Option Addr) (n c : Nat) (xs : List Int) (hd : a.eval d = .slice D n c) (hown : Own w lo (.slice D n c) xs)
    (A : Option Addr) (m c' : Nat) (ys : List Int) (hs : a.eval s = .slice A m c') (hr : Rd w A m ys) (kk : Nat) (hkk : Nat.min m n = kk)
    (h : ∀ w', Own w' lo (.slice D n c) (ys.take n ++ xs.drop m) → Fr (fun k => Value.ownBlock (.slice D n c) = some k) w w' → wpList Tryz.prog ops Q rest (a.put o.dst (.int .i64 kk)) w') : wpList Tryz.prog ops Q (o :: rest) a w := by
  obtain ⟨i, hi, hz0, hz1, hz2⟩ := info_parts ints_info
  subst hkk
  have hm : m = ys.length := hr.1
  have hn : n = xs.length := hown.rd.1
  have hsz : (Tryz.prog.info? 2).map (·.size) = some 1 := by rw [hi]; simp [hz1]
  by_cases h0 : Nat.min m n = 0
  · refine wpList_copy_nothing hgd d s 24 24 ho 2 Tryz.underlying24 hsz D A n c m c' hd hs h0 ?_
    have e : ys.take n ++ xs.drop m = xs := by
      rcases (show m = 0 ∨ n = 0 by have := h0; simp [Nat.min_def] at this; split at this <;> omega) with e | e
      · subst e
        have : ys = [] := List.eq_nil_of_length_eq_zero hm.symm
        subst this
        simp
      · subst e
        have : xs = [] := List.eq_nil_of_length_eq_zero hn.symm
        subst this
        simp
    have := h w (by rw [e]; exact hown) (Fr.refl _ _)
    rw [h0] at this
    exact this
  · have hm0 : 0 < m := by
      rcases Nat.eq_zero_or_pos m with e | e
      · rw [e] at h0; simp at h0
      · exact e
    have hn0 : 0 < n := by
      rcases Nat.eq_zero_or_pos n with e | e
      · rw [e] at h0; simp at h0
      · exact e
    obtain ⟨b, off, rfl, hb, hc⟩ := hr.2.2 hm0
    rcases hown.2.2 with ⟨e, hn0'⟩ | ⟨g, cap, cur, e, hg, hh, hcap, hmx, hss, ht⟩
    · injection e with e1 e2 e3; omega
    · injection e with e1 e2 e3
      subst e1 e3
      have hB : Blk w g 2 cur := hh
      have hcl : ((ys.take n).map (Value.int .i64)).length = Nat.min m n := by
        rw [List.length_map, List.length_take, hm, Nat.min_comm]
      have hle : Nat.min m n ≤ cur.size := by have := Nat.min_le_right m n; have : Nat.min m n ≤ n := this; omega
      refine wpList_copy_own hgd d s 24 24 ho 2 Tryz.underlying24 hsz g 0 n c ⟨b, off, none⟩ m c' hd hs cur 2 hh ((ys.take n).map (Value.int .i64)) hcl ?_ (by rw [hcl]; omega) (fun v hv => by obtain ⟨x, _, rfl⟩ := List.mem_map.1 hv; rfl) ?_
      · intro j v hv
        rw [List.getElem?_map] at hv
        obtain ⟨x, hx, rfl⟩ := Option.map_eq_some_iff.1 hv
        have hj : j < (ys.take n).length := (List.getElem?_eq_some_iff.1 hx).1
        rw [List.length_take] at hj
        rw [Go.WideShapes.add_plain, hc j (by omega), List.getD_eq_getElem?_getD]
        rw [List.getElem?_take_of_lt (by omega)] at hx
        rw [hx]; rfl
      · rw [hcl]
        refine h _ ?_ ⟨rfl, rfl, rfl, by simp [World.setRow], fun k _ hne => setRow_other w g k _ (fun e => hne (by rw [e]; rfl))⟩
        have hB2 : Blk (w.setRow g (cur.toList.take 0 ++ ((ys.take n).map (Value.int .i64) ++ cur.toList.drop (0 + (Nat.min m n)))).toArray) g 2 (cur.toList.take 0 ++ ((ys.take n).map (Value.int .i64) ++ cur.toList.drop (0 + (Nat.min m n)))).toArray := setRow_heap w g cur _ _ _ hh
        have hmn : Nat.min m n ≤ n := Nat.min_le_right m n
        have hmm : Nat.min m n ≤ m := Nat.min_le_left m n
        have hmd : Nat.min m n = m ∨ Nat.min m n = n := by rcases Nat.le_total m n with h | h; exact .inl (Nat.min_eq_left h); exact .inr (Nat.min_eq_right h)
        have hleni : (ys.take n ++ xs.drop m).length = n := by
          rw [List.length_append, List.length_take, List.length_drop, ← hm, ← hn]; omega
        refine Own.of_blk hB2 hg n c hleni.symm (by omega) hmx ?_ (by have := hown.1; omega) ?_
        · rw [List.size_toArray, List.length_append, List.length_take, List.length_append, hcl, List.length_drop, Array.length_toList]; omega
        · rw [List.take_zero, List.nil_append, Nat.zero_add, List.take_append, hcl, List.map_append]
          congr 1
          · rw [List.take_of_length_le (by rw [hcl]; omega)]
          · rw [← List.drop_take, List.map_drop]
            have ht' : cur.toList.take n = xs.map (Value.int .i64) := by rw [hn]; simpa using ht
            rw [ht']
            rcases hmd with e | e
            · rw [e]
            · rw [e, List.drop_eq_nil_of_le (by rw [List.length_map]; omega), List.drop_eq_nil_of_le (by rw [List.length_map]; omega)]

def fromA (A : Option Addr) (c k : Nat) : Option Addr := if c = k then A else A.map (·.add k)
theorem Rd.from_ {A : Option Addr} {n c k : Nat} {xs : List Int} (h : Rd w A n xs) (hk : k ≤ n) (hc : n ≤ c) : Rd w (fromA A c k) (n - k) (xs.drop k) := by
  have h1 := h.1
  have h2 := h.2.1
  refine ⟨by rw [List.length_drop]; omega, by omega, fun ha => ?_⟩
  obtain ⟨b, off, rfl, hb, hcl⟩ := h.2.2 (by omega)
  refine ⟨b, off + k, ?_, hb, fun j hj => ?_⟩
  · unfold fromA; rw [if_neg (by omega)]; show some ((⟨b, off, none⟩ : Addr).add k) = _; rw [Go.WideShapes.add_plain]
  · rw [Nat.add_assoc, hcl (k + j) (by omega)]
    simp only [List.getD_eq_getElem?_getD, List.getElem?_drop]
set_option maxRecDepth 20000 in
theorem wpList_from {ops : Array Oper} {rest : List Oper} {o : Oper} {a : Act} {Q : Exit → Act → World → Prop} (hgd : o.guard = none) (x l : Operand)
    (ho : o.op = .slice 24 x (some l) none none) (A : Option Addr) (n c : Nat) (hx : a.eval x = .slice A n c) (k : Nat) (hl : a.eval l = .int .i64 k) (hk : k ≤ n)
    (h : wpList Tryz.prog ops Q rest (a.put o.dst (.slice (fromA A c k) (n - k) (c - k))) w) : wpList Tryz.prog ops Q (o :: rest) a w := by
  obtain ⟨i, hi, hz0, hz1, hz2⟩ := info_parts ints_info
  refine wpList_plain hgd fun K hK => ?_
  have hu : Tryz.prog.underlying 24 = some (.slice (Tryz.prog.elem 24)) := by kernel_rfl
  have he : Tryz.prog.elem 24 = 2 := by kernel_rfl
  have hrun := run_slice_l (P := Tryz.prog) (w := w) 24 A n c hu .i64 (k : Int) (by omega) (by omega)
  have hs : (sizeOf 2).run Tryz.prog w = .ok 1 w := by simp [sizeOf, typeInfo, hi, hz1]
  rw [he, hs] at hrun
  simp only [Result.andThen_ok, sliced, Int.toNat_natCast, Nat.mul_one] at hrun
  have hat : (Instr.sliceAt 24 (.slice A n c) (some (.int .i64 (k : Int))) none none).run Tryz.prog w = .ok (.slice (fromA A c k) (n - k) (c - k)) w := by
    rw [run_sliceAt_slice (h := hu)]
    exact hrun
  unfold Oper.wp execOp
  simp only [ho, Option.map_some, Option.map_none, hx, hl, Sem.run_bind, Sem.run_pure, hat, Result.andThen_ok]
  exact hK _ _ h
end
theorem Own3.awayP {w : World} {p : S3} {l : L3} {lo g : Nat} (h : Own3 w lo p l) (hg : g < lo) (i : Nat) (u : Value) : Own3 (w.setCell ⟨g, i, none⟩ u) lo p l :=
  ⟨h.1.off g i hg u, h.2.1.off g i hg u, h.2.2.1.off g i hg u, h.2.2.2⟩
def mkL (list : List Int) (n : Nat) : L3 := ⟨list.take n ++ (List.replicate n 0).drop list.length, list.drop n, []⟩
def nilL3 : L3 := ⟨[], [], []⟩
theorem Own3.nil3_ (w : World) (lo : Nat) : Own3 w lo ⟨⟨none, 0, 0⟩, ⟨none, 0, 0⟩, ⟨none, 0, 0⟩⟩ nilL3 :=
  ⟨Own.nil_ _ _, Own.nil_ _ _, Own.nil_ _ _, by simp, fun k h => (by cases h), fun k h => (by cases h), fun k h => (by cases h)⟩
def mkR (list : List Int) (s : Int) : L3 × Int := if inB s 1 12 = true then (if (hasB list 0 || !okP (mkL list s.toNat)) = true then (nilL3, 1) else (mkL list s.toNat, 0)) else (nilL3, 2)

set_option maxRecDepth 20000 in
set_option maxHeartbeats 8000000 in
theorem impl.MakePanel_any (s1 : Sl) (xs : List Int) (s : Int) (w : World) (hr : Rd w s1.A s1.n xs) (hsz : s1.n ≤ 1048576) (hc : cap1 s1) :
    Calls Tryz.prog 70 #[.slice s1.A s1.n s1.c, .int .i64 s] w fun e w' => ∃ p' : S3, e = .returned (.tuple #[.agg #[.slice p'.x.A p'.x.n p'.x.c, .slice p'.y.A p'.y.n p'.y.c, .slice p'.z.A p'.z.n p'.z.c], .int .i64 (mkR xs s).2]) ∧ Own3 w' w.heap.size p' (mkR xs s).1 ∧ Ext w w' := by
  obtain ⟨A1, n1, c1⟩ := s1
  simp only at hr hsz ⊢
  obtain ⟨hc1, hc2⟩ := hc
  simp only at hc1 hc2
  have hl := hide hr.1
  have hX0 := (Ext.refl w).alloc (.cells #[.slice none 0 0, .slice none 0 0, .slice none 0 0] 40)
  have hR0 := Blk.new w 40 (#[.slice none 0 0, .slice none 0 0, .slice none 0 0])
  have hk := fun W : World => impl.isSeats_any s W
  cases hin : inB s 1 12
  · rw [hin] at hk
    have E2 := hide (show mkR xs s = (nilL3, 2) by unfold mkR; rw [hin]; rfl)
    obtain ⟨r0, r1, r2⟩ := hR0.c3
    have y0 := hR0.frozen 0
    have y1 := hR0.frozen 1
    have y2 := hR0.frozen 2
    go_enter Tryz.func70, Tryz.ntmps70
    go_wp2_with (go_at_call 53; refine (hk _).mono ?_; rintro e w' ⟨rfl, rfl⟩)
    obtain ⟨r0, r1, r2⟩ := hR0.c3
    have y0 := hR0.frozen 0
    have y1 := hR0.frozen 1
    have y2 := hR0.frozen 2
    have hRn := hR0
    obtain ⟨n0, n1', n2'⟩ := hRn.c3
    refine bodyPost_ret (v := .tuple #[.agg #[.slice (⟨⟨none, 0, 0⟩, ⟨none, 0, 0⟩, ⟨none, 0, 0⟩⟩ : S3).x.A (⟨⟨none, 0, 0⟩, ⟨none, 0, 0⟩, ⟨none, 0, 0⟩⟩ : S3).x.n (⟨⟨none, 0, 0⟩, ⟨none, 0, 0⟩, ⟨none, 0, 0⟩⟩ : S3).x.c, .slice (⟨⟨none, 0, 0⟩, ⟨none, 0, 0⟩, ⟨none, 0, 0⟩⟩ : S3).y.A (⟨⟨none, 0, 0⟩, ⟨none, 0, 0⟩, ⟨none, 0, 0⟩⟩ : S3).y.n (⟨⟨none, 0, 0⟩, ⟨none, 0, 0⟩, ⟨none, 0, 0⟩⟩ : S3).y.c, .slice (⟨⟨none, 0, 0⟩, ⟨none, 0, 0⟩, ⟨none, 0, 0⟩⟩ : S3).z.A (⟨⟨none, 0, 0⟩, ⟨none, 0, 0⟩, ⟨none, 0, 0⟩⟩ : S3).z.n (⟨⟨none, 0, 0⟩, ⟨none, 0, 0⟩, ⟨none, 0, 0⟩⟩ : S3).z.c], .int .i64 2]) (by simp [results, Tryz.results70, go_sem, n0, n1', n2']) rfl ⟨(⟨⟨none, 0, 0⟩, ⟨none, 0, 0⟩, ⟨none, 0, 0⟩⟩ : S3), by rw [E2.out], ?_, hX0⟩
    rw [E2.out]
    exact Own3.nil3_ _ _
  · rw [hin] at hk
    obtain ⟨hs1, hs2⟩ := inB_iff.1 hin
    obtain ⟨n, rfl⟩ : ∃ n : Nat, s = (n : Int) := ⟨s.toNat, by omega⟩
    have hn12 : n ≤ 12 := by omega
    have hmk := fun W : World => run_mkn W n (by omega)
    obtain ⟨k, hkk⟩ : ∃ k, Nat.min n1 n = k := ⟨_, rfl⟩
    have hX := (hX0.alloc (.cells (madeCells #[.int .i64 0] n) 2)).alloc (.cells #[.slice (some ⟨w.heap.size + 1, 0, none⟩) n n, .slice none 0 0, .slice none 0 0] 40)
    have hR := (hR0.alloc (.cells (madeCells #[.int .i64 0] n) 2)).alloc (.cells #[.slice (some ⟨w.heap.size + 1, 0, none⟩) n n, .slice none 0 0, .slice none 0 0] 40)
    have ho := (Own.mkn (w.alloc (.cells #[.slice none 0 0, .slice none 0 0, .slice none 0 0] 40)) (w.heap.size + 1) n (by simp) (by omega)).alloc (.cells #[.slice (some ⟨w.heap.size + 1, 0, none⟩) n n, .slice none 0 0, .slice none 0 0] 40)
    have hB := Blk.new ((w.alloc (.cells #[.slice none 0 0, .slice none 0 0, .slice none 0 0] 40)).alloc (.cells (madeCells #[.int .i64 0] n) 2)) 40 (#[.slice (some ⟨w.heap.size + 1, 0, none⟩) n n, .slice none 0 0, .slice none 0 0])
    simp only [World.size_alloc] at ho hB
    have kc := fun W : World => impl.clone_any ⟨fromA A1 c1 k, n1 - k, c1 - k⟩ (xs.drop k) W
    go_enter Tryz.func70, Tryz.ntmps70
    go_wp2_with (first | (go_at_call 53; refine (hk _).mono ?_; rintro e w' ⟨rfl, rfl⟩) | (with_reducible refine wpList_cp _ rfl (.tmp 16) (.tmp 17) rfl (w.heap.size + 1) _ n n _ rfl ho _ n1 c1 xs rfl (hr.ext hX) k hkk ?_; intro w2 o2 hf; have hB2 := hB.fr hf (fun e => by have := ownBlock_eq e; omega); have hR2 := hR.fr hf (fun e => by have := ownBlock_eq e; omega); have hX2 := Ext.fr_trans hX hf (fun k hk => by have := ownBlock_eq hk; omega); obtain ⟨b0, b1, b2⟩ := hB2.c3; have x1 := hB2.frozen 1) | (with_reducible refine wpList_from _ rfl (.tmp 14) (.tmp 18) rfl A1 n1 c1 rfl k rfl (by rw [← hkk]; exact Nat.min_le_left _ _) ?_))
    refine (kc _ (Rd.from_ _ (hr.ext hX2) (by rw [← hkk]; exact Nat.min_le_left _ _) hc1)).mono ?_
    rintro e w3 ⟨t, rfl, ot, hx3⟩
    have hz2 := hB2.lt
    have gt := ot.lt
    have hdk : xs.drop k = xs.drop n := by
      rcases Nat.le_total n1 n with h | h
      · have e : k = n1 := by rw [← hkk]; exact Nat.min_eq_left h
        have := hl.out
        rw [List.drop_eq_nil_of_le (by omega), List.drop_eq_nil_of_le (by omega)]
      · have e : k = n := by rw [← hkk]; exact Nat.min_eq_right h
        rw [e]
    rw [hdk] at ot
    have htn := hide (show t.n ≤ n1 by have h : t.n = (xs.drop n).length := ot.rd.1; rw [List.length_drop] at h; have := hl.out; omega)
    have hB3 := (hB2.ext hx3).set_ 1 (.slice t.A t.n t.c)
    have hR3 := (hR2.ext hx3).off (w.heap.size + 1 + 1) 1 (by omega) (.slice t.A t.n t.c)
    have hX3 := (hX2.trans hx3).off (w.heap.size + 1 + 1) 1 (by omega) (.slice t.A t.n t.c)
    have o3 := (o2.ext hx3).away (g := w.heap.size + 1 + 1) (fun e => by have := ownBlock_eq e; omega) 1 (.slice t.A t.n t.c)
    have ot3 := ot.away (g := w.heap.size + 1 + 1) (fun e => by have := gt _ e; omega) 1 (.slice t.A t.n t.c)
    rw [hl.out] at o3
    have h3 : Own3 _ (w.heap.size + 1) ⟨⟨some ⟨w.heap.size + 1, 0, none⟩, n, n⟩, t, ⟨none, 0, 0⟩⟩ (mkL xs n) := ⟨o3.mono (by omega), ot3.mono (by omega), Own.nil_ _ _, by have := htn.out; simp only; omega, fun k h1 h2 => by have a1 := ownBlock_eq h1; have a2 := gt k h2; omega, fun k h1 h2 => (by cases h2), fun k h1 h2 => (by cases h2)⟩
    clear b0 b1 b2 x1
    have x1 := (hB2.ext hx3).frozen 1
    obtain ⟨d0, d1, d2⟩ := (hB2.ext hx3).c3
    obtain ⟨b0, b1, b2⟩ := hB3.c3
    have hh := fun W h => impl.has_any ⟨A1, n1, c1⟩ xs 0 W h
    cases hb : hasB xs 0
    · rw [hb] at hh
      go_wp2_with (go_at_call 100; refine (hh _ (hr.ext hX3)).mono ?_; rintro e w' ⟨rfl, rfl⟩)
      have hi := impl.IsPanel_any _ _ _ h3.rd
      cases hp : okP (mkL xs n)
      · rw [hp] at hi
        have E2 := hide (show mkR xs n = (nilL3, 1) by unfold mkR; rw [hin, hb, Int.toNat_natCast, hp]; rfl)
        refine hi.mono ?_
        rintro e w4 ⟨rfl, hx4⟩
        have hR4 := hR3.ext hx4
        have hX4 := hX3.trans hx4
        obtain ⟨r0, r1, r2⟩ := hR4.c3
        have y0 := hR4.frozen 0
        have y1 := hR4.frozen 1
        have y2 := hR4.frozen 2
        have hRn := ((hR4.set_ 0 (.slice none 0 0)).set_ 1 (.slice none 0 0)).set_ 2 (.slice none 0 0)
        obtain ⟨n0, n1', n2'⟩ := hRn.c3
        go_wp2
        refine bodyPost_ret (v := .tuple #[.agg #[.slice (⟨⟨none, 0, 0⟩, ⟨none, 0, 0⟩, ⟨none, 0, 0⟩⟩ : S3).x.A (⟨⟨none, 0, 0⟩, ⟨none, 0, 0⟩, ⟨none, 0, 0⟩⟩ : S3).x.n (⟨⟨none, 0, 0⟩, ⟨none, 0, 0⟩, ⟨none, 0, 0⟩⟩ : S3).x.c, .slice (⟨⟨none, 0, 0⟩, ⟨none, 0, 0⟩, ⟨none, 0, 0⟩⟩ : S3).y.A (⟨⟨none, 0, 0⟩, ⟨none, 0, 0⟩, ⟨none, 0, 0⟩⟩ : S3).y.n (⟨⟨none, 0, 0⟩, ⟨none, 0, 0⟩, ⟨none, 0, 0⟩⟩ : S3).y.c, .slice (⟨⟨none, 0, 0⟩, ⟨none, 0, 0⟩, ⟨none, 0, 0⟩⟩ : S3).z.A (⟨⟨none, 0, 0⟩, ⟨none, 0, 0⟩, ⟨none, 0, 0⟩⟩ : S3).z.n (⟨⟨none, 0, 0⟩, ⟨none, 0, 0⟩, ⟨none, 0, 0⟩⟩ : S3).z.c], .int .i64 1]) (by simp [results, Tryz.results70, go_sem, n0, n1', n2']) rfl ⟨(⟨⟨none, 0, 0⟩, ⟨none, 0, 0⟩, ⟨none, 0, 0⟩⟩ : S3), by rw [E2.out], ?_, (((hX4.off w.heap.size 0 (by omega) _).off w.heap.size 1 (by omega) _).off w.heap.size 2 (by omega) _)⟩
        rw [E2.out]
        exact Own3.nil3_ _ _
      · rw [hp] at hi
        have E2 := hide (show mkR xs n = (mkL xs n, 0) by unfold mkR; rw [hin, hb, Int.toNat_natCast, hp]; rfl)
        refine hi.mono ?_
        rintro e w4 ⟨rfl, hx4⟩
        have hR4 := hR3.ext hx4
        have hX4 := hX3.trans hx4
        have h4 := h3.ext hx4
        clear b0 b1 b2
        obtain ⟨b0, b1, b2⟩ := (hB3.ext hx4).c3
        obtain ⟨r0, r1, r2⟩ := hR4.c3
        have y0 := hR4.frozen 0
        have y1 := hR4.frozen 1
        have y2 := hR4.frozen 2
        have hRn := ((hR4.set_ 0 (.slice (⟨some ⟨w.heap.size + 1, 0, none⟩, n, n⟩ : Sl).A (⟨some ⟨w.heap.size + 1, 0, none⟩, n, n⟩ : Sl).n (⟨some ⟨w.heap.size + 1, 0, none⟩, n, n⟩ : Sl).c)).set_ 1 (.slice t.A t.n t.c)).set_ 2 (.slice none 0 0)
        obtain ⟨n0, n1', n2'⟩ := hRn.c3
        go_wp2
        refine bodyPost_ret (v := .tuple #[.agg #[.slice (⟨⟨some ⟨w.heap.size + 1, 0, none⟩, n, n⟩, t, ⟨none, 0, 0⟩⟩ : S3).x.A (⟨⟨some ⟨w.heap.size + 1, 0, none⟩, n, n⟩, t, ⟨none, 0, 0⟩⟩ : S3).x.n (⟨⟨some ⟨w.heap.size + 1, 0, none⟩, n, n⟩, t, ⟨none, 0, 0⟩⟩ : S3).x.c, .slice (⟨⟨some ⟨w.heap.size + 1, 0, none⟩, n, n⟩, t, ⟨none, 0, 0⟩⟩ : S3).y.A (⟨⟨some ⟨w.heap.size + 1, 0, none⟩, n, n⟩, t, ⟨none, 0, 0⟩⟩ : S3).y.n (⟨⟨some ⟨w.heap.size + 1, 0, none⟩, n, n⟩, t, ⟨none, 0, 0⟩⟩ : S3).y.c, .slice (⟨⟨some ⟨w.heap.size + 1, 0, none⟩, n, n⟩, t, ⟨none, 0, 0⟩⟩ : S3).z.A (⟨⟨some ⟨w.heap.size + 1, 0, none⟩, n, n⟩, t, ⟨none, 0, 0⟩⟩ : S3).z.n (⟨⟨some ⟨w.heap.size + 1, 0, none⟩, n, n⟩, t, ⟨none, 0, 0⟩⟩ : S3).z.c], .int .i64 0]) (by simp [results, Tryz.results70, go_sem, n0, n1', n2']) rfl ⟨(⟨⟨some ⟨w.heap.size + 1, 0, none⟩, n, n⟩, t, ⟨none, 0, 0⟩⟩ : S3), by rw [E2.out], ?_, (((hX4.off w.heap.size 0 (by omega) _).off w.heap.size 1 (by omega) _).off w.heap.size 2 (by omega) _)⟩
        rw [E2.out]
        exact Own3.mono (((h4.awayP (g := w.heap.size) (by omega) 0 _).awayP (g := w.heap.size) (by omega) 1 _).awayP (g := w.heap.size) (by omega) 2 _) (by omega)
    · rw [hb] at hh
      have E2 := hide (show mkR xs n = (nilL3, 1) by unfold mkR; rw [hin, hb]; rfl)
      obtain ⟨r0, r1, r2⟩ := hR3.c3
      have y0 := hR3.frozen 0
      have y1 := hR3.frozen 1
      have y2 := hR3.frozen 2
      go_wp2_with (go_at_call 100; refine (hh _ (hr.ext hX3)).mono ?_; rintro e w' ⟨rfl, rfl⟩)
      obtain ⟨r0, r1, r2⟩ := hR3.c3
      have y0 := hR3.frozen 0
      have y1 := hR3.frozen 1
      have y2 := hR3.frozen 2
      have hRn := ((hR3.set_ 0 (.slice none 0 0)).set_ 1 (.slice none 0 0)).set_ 2 (.slice none 0 0)
      obtain ⟨n0, n1', n2'⟩ := hRn.c3
      refine bodyPost_ret (v := .tuple #[.agg #[.slice (⟨⟨none, 0, 0⟩, ⟨none, 0, 0⟩, ⟨none, 0, 0⟩⟩ : S3).x.A (⟨⟨none, 0, 0⟩, ⟨none, 0, 0⟩, ⟨none, 0, 0⟩⟩ : S3).x.n (⟨⟨none, 0, 0⟩, ⟨none, 0, 0⟩, ⟨none, 0, 0⟩⟩ : S3).x.c, .slice (⟨⟨none, 0, 0⟩, ⟨none, 0, 0⟩, ⟨none, 0, 0⟩⟩ : S3).y.A (⟨⟨none, 0, 0⟩, ⟨none, 0, 0⟩, ⟨none, 0, 0⟩⟩ : S3).y.n (⟨⟨none, 0, 0⟩, ⟨none, 0, 0⟩, ⟨none, 0, 0⟩⟩ : S3).y.c, .slice (⟨⟨none, 0, 0⟩, ⟨none, 0, 0⟩, ⟨none, 0, 0⟩⟩ : S3).z.A (⟨⟨none, 0, 0⟩, ⟨none, 0, 0⟩, ⟨none, 0, 0⟩⟩ : S3).z.n (⟨⟨none, 0, 0⟩, ⟨none, 0, 0⟩, ⟨none, 0, 0⟩⟩ : S3).z.c], .int .i64 1]) (by simp [results, Tryz.results70, go_sem, n0, n1', n2']) rfl ⟨(⟨⟨none, 0, 0⟩, ⟨none, 0, 0⟩, ⟨none, 0, 0⟩⟩ : S3), by rw [E2.out], ?_, (((hX3.off w.heap.size 0 (by omega) _).off w.heap.size 1 (by omega) _).off w.heap.size 2 (by omega) _)⟩
      rw [E2.out]
      exact Own3.nil3_ _ _

def MkSt (w : World) (n k : Nat) (xs : List Int) (t : Sl) (wr : World) : Prop :=
  Blk wr (w.heap.size + 1 + 1 + 1 + 1) 40 #[.slice (some ⟨w.heap.size + 1, 0, none⟩) n n, .slice t.A t.n t.c, .slice (some ⟨w.heap.size + 1 + 1 + 1, 0, none⟩) 0 0] ∧ Own wr (w.heap.size + 1) (.slice (some ⟨w.heap.size + 1, 0, none⟩) n n) ((xs.take k).take n ++ (List.replicate n 0).drop k) ∧ Own wr (w.heap.size + 1) (.slice t.A t.n t.c) ((xs.take k).drop n) ∧ Own wr (w.heap.size + 1) (.slice (some ⟨w.heap.size + 1 + 1 + 1, 0, none⟩) 0 0) [] ∧ Ext w wr ∧ Blk wr w.heap.size 40 #[.slice none 0 0, .slice none 0 0, .slice none 0 0] ∧
    ∀ j, Value.ownBlock (.slice t.A t.n t.c) = some j → j ≠ w.heap.size + 1 ∧ j ≠ w.heap.size + 1 + 1 + 1 ∧ j ≠ (w.heap.size + 1 + 1 + 1 + 1)
theorem mk_set {xs : List Int} {n k : Nat} {m : Int} (hm : xs[k]? = some m) (hk : k < n) : ((xs.take k).take n ++ (List.replicate n 0).drop k).set k m = (xs.take (k + 1)).take n ++ (List.replicate n 0).drop (k + 1) := by
  have hkl : k < xs.length := (List.getElem?_eq_some_iff.1 hm).1
  have e1 : (xs.take k).take n = xs.take k := List.take_of_length_le (by rw [List.length_take]; omega)
  have e2 : (xs.take (k + 1)).take n = xs.take (k + 1) := List.take_of_length_le (by rw [List.length_take]; omega)
  rw [e1, e2, take_more hm, List.set_append, if_neg (by rw [List.length_take]; omega), List.length_take, Nat.min_eq_left (by omega), Nat.sub_self, List.append_assoc]
  congr 1
  rw [List.drop_eq_getElem_cons (by rw [List.length_replicate]; exact hk)]
  simp
theorem mk_y0 {xs : List Int} {n k : Nat} (hk : k < n) : (xs.take (k + 1)).drop n = (xs.take k).drop n := by
  rw [List.drop_eq_nil_of_le (by rw [List.length_take]; omega), List.drop_eq_nil_of_le (by rw [List.length_take]; omega)]
theorem mk_x1 {xs : List Int} {n k : Nat} (hk : n ≤ k) : (xs.take (k + 1)).take n ++ (List.replicate n 0).drop (k + 1) = (xs.take k).take n ++ (List.replicate n (0 : Int)).drop k := by
  rw [List.take_take, List.take_take, Nat.min_eq_left (by omega), Nat.min_eq_left hk, List.drop_eq_nil_of_le (by rw [List.length_replicate]; omega), List.drop_eq_nil_of_le (by rw [List.length_replicate]; omega)]
theorem mk_y1 {xs : List Int} {n k : Nat} {m : Int} (hm : xs[k]? = some m) (hk : n ≤ k) : (xs.take (k + 1)).drop n = (xs.take k).drop n ++ [m] := by
  have hkl : k < xs.length := (List.getElem?_eq_some_iff.1 hm).1
  rw [take_more hm, List.drop_append_of_le_length (by rw [List.length_take]; omega)]
set_option maxRecDepth 20000 in
set_option maxHeartbeats 8000000 in
theorem spec.MakePanel_any (s1 : Sl) (xs : List Int) (s : Int) (w : World) (hr : Rd w s1.A s1.n xs) (hsz : s1.n ≤ 1048576) (hc : cap1 s1) :
    Calls Tryz.prog 78 #[.slice s1.A s1.n s1.c, .int .i64 s] w fun e w' => ∃ p' : S3, e = .returned (.tuple #[.agg #[.slice p'.x.A p'.x.n p'.x.c, .slice p'.y.A p'.y.n p'.y.c, .slice p'.z.A p'.z.n p'.z.c], .int .i64 (mkR xs s).2]) ∧ Own3 w' w.heap.size p' (mkR xs s).1 ∧ Ext w w' := by
  obtain ⟨A1, n1, c1⟩ := s1
  simp only at hr hsz ⊢
  obtain ⟨hc1, hc2⟩ := hc
  simp only at hc1 hc2
  have hl := hide hr.1
  have hX0 := (Ext.refl w).alloc (.cells #[.slice none 0 0, .slice none 0 0, .slice none 0 0] 40)
  have hR0 := Blk.new w 40 (#[.slice none 0 0, .slice none 0 0, .slice none 0 0])
  have hk := fun W : World => spec.l01In_any s 1 12 W
  cases hin : inB s 1 12
  · rw [hin] at hk
    have E2 := hide (show mkR xs s = (nilL3, 2) by unfold mkR; rw [hin]; rfl)
    obtain ⟨r0, r1, r2⟩ := hR0.c3
    have y0 := hR0.frozen 0
    have y1 := hR0.frozen 1
    have y2 := hR0.frozen 2
    go_enter Tryz.func78, Tryz.ntmps78
    go_wp2_with (go_at_call 42; refine (hk _).mono ?_; rintro e w' ⟨rfl, rfl⟩)
    obtain ⟨r0, r1, r2⟩ := hR0.c3
    have y0 := hR0.frozen 0
    have y1 := hR0.frozen 1
    have y2 := hR0.frozen 2
    have hRn := hR0
    obtain ⟨n0, n1', n2'⟩ := hRn.c3
    refine bodyPost_ret (v := .tuple #[.agg #[.slice (⟨⟨none, 0, 0⟩, ⟨none, 0, 0⟩, ⟨none, 0, 0⟩⟩ : S3).x.A (⟨⟨none, 0, 0⟩, ⟨none, 0, 0⟩, ⟨none, 0, 0⟩⟩ : S3).x.n (⟨⟨none, 0, 0⟩, ⟨none, 0, 0⟩, ⟨none, 0, 0⟩⟩ : S3).x.c, .slice (⟨⟨none, 0, 0⟩, ⟨none, 0, 0⟩, ⟨none, 0, 0⟩⟩ : S3).y.A (⟨⟨none, 0, 0⟩, ⟨none, 0, 0⟩, ⟨none, 0, 0⟩⟩ : S3).y.n (⟨⟨none, 0, 0⟩, ⟨none, 0, 0⟩, ⟨none, 0, 0⟩⟩ : S3).y.c, .slice (⟨⟨none, 0, 0⟩, ⟨none, 0, 0⟩, ⟨none, 0, 0⟩⟩ : S3).z.A (⟨⟨none, 0, 0⟩, ⟨none, 0, 0⟩, ⟨none, 0, 0⟩⟩ : S3).z.n (⟨⟨none, 0, 0⟩, ⟨none, 0, 0⟩, ⟨none, 0, 0⟩⟩ : S3).z.c], .int .i64 2]) (by simp [results, Tryz.results78, go_sem, n0, n1', n2']) rfl ⟨(⟨⟨none, 0, 0⟩, ⟨none, 0, 0⟩, ⟨none, 0, 0⟩⟩ : S3), by rw [E2.out], ?_, hX0⟩
    rw [E2.out]
    exact Own3.nil3_ _ _
  · rw [hin] at hk
    obtain ⟨hs1, hs2⟩ := inB_iff.1 hin
    obtain ⟨n, rfl⟩ : ∃ n : Nat, s = (n : Int) := ⟨s.toNat, by omega⟩
    have hn12 : n ≤ 12 := by omega
    have hmk := fun W : World => run_mkn W n (by omega)
    have hX := ((((hX0.alloc (.cells (madeCells #[.int .i64 0] n) 2)).alloc (.cells #[] 2)).alloc (.cells #[] 2)).alloc (.cells #[.slice (some ⟨w.heap.size + 1, 0, none⟩) n n, .slice (some ⟨w.heap.size + 1 + 1, 0, none⟩) 0 0, .slice (some ⟨w.heap.size + 1 + 1 + 1, 0, none⟩) 0 0] 40))
    have hR := ((((hR0.alloc (.cells (madeCells #[.int .i64 0] n) 2)).alloc (.cells #[] 2)).alloc (.cells #[] 2)).alloc (.cells #[.slice (some ⟨w.heap.size + 1, 0, none⟩) n n, .slice (some ⟨w.heap.size + 1 + 1, 0, none⟩) 0 0, .slice (some ⟨w.heap.size + 1 + 1 + 1, 0, none⟩) 0 0] 40))
    have hx := (((Own.mkn (w.alloc (.cells #[.slice none 0 0, .slice none 0 0, .slice none 0 0] 40)) (w.heap.size + 1) n (by simp) (by omega)).alloc (.cells #[] 2)).alloc (.cells #[] 2)).alloc (.cells #[.slice (some ⟨w.heap.size + 1, 0, none⟩) n n, .slice (some ⟨w.heap.size + 1 + 1, 0, none⟩) 0 0, .slice (some ⟨w.heap.size + 1 + 1 + 1, 0, none⟩) 0 0] 40)
    have hy := ((Own.new0 ((w.alloc (.cells #[.slice none 0 0, .slice none 0 0, .slice none 0 0] 40)).alloc (.cells (madeCells #[.int .i64 0] n) 2)) (w.heap.size + 1) (by simp)).alloc (.cells #[] 2)).alloc (.cells #[.slice (some ⟨w.heap.size + 1, 0, none⟩) n n, .slice (some ⟨w.heap.size + 1 + 1, 0, none⟩) 0 0, .slice (some ⟨w.heap.size + 1 + 1 + 1, 0, none⟩) 0 0] 40)
    have hz := (Own.new0 (((w.alloc (.cells #[.slice none 0 0, .slice none 0 0, .slice none 0 0] 40)).alloc (.cells (madeCells #[.int .i64 0] n) 2)).alloc (.cells #[] 2)) (w.heap.size + 1) (by simp)).alloc (.cells #[.slice (some ⟨w.heap.size + 1, 0, none⟩) n n, .slice (some ⟨w.heap.size + 1 + 1, 0, none⟩) 0 0, .slice (some ⟨w.heap.size + 1 + 1 + 1, 0, none⟩) 0 0] 40)
    have hB := Blk.new ((((w.alloc (.cells #[.slice none 0 0, .slice none 0 0, .slice none 0 0] 40)).alloc (.cells (madeCells #[.int .i64 0] n) 2)).alloc (.cells #[] 2)).alloc (.cells #[] 2)) 40 (#[.slice (some ⟨w.heap.size + 1, 0, none⟩) n n, .slice (some ⟨w.heap.size + 1 + 1, 0, none⟩) 0 0, .slice (some ⟨w.heap.size + 1 + 1 + 1, 0, none⟩) 0 0])
    simp only [World.size_alloc] at hx hy hz hB
    have h0 : MkSt w n 0 xs ⟨some ⟨w.heap.size + 1 + 1, 0, none⟩, 0, 0⟩ (((((w.alloc (.cells #[.slice none 0 0, .slice none 0 0, .slice none 0 0] 40)).alloc (.cells (madeCells #[.int .i64 0] n) 2)).alloc (.cells #[] 2)).alloc (.cells #[] 2)).alloc (.cells #[.slice (some ⟨w.heap.size + 1, 0, none⟩) n n, .slice (some ⟨w.heap.size + 1 + 1, 0, none⟩) 0 0, .slice (some ⟨w.heap.size + 1 + 1 + 1, 0, none⟩) 0 0] 40)) := ⟨hB, by simpa using hx, by simpa using hy, hz, hX, hR, fun j h => by have := ownBlock_eq h; omega⟩
    clear hX hR hx hy hz hB
    go_enter Tryz.func78, Tryz.ntmps78
    go_wp2_with (go_at_call 42; refine (hk _).mono ?_; rintro e w' ⟨rfl, rfl⟩)
    go_loopw [7] (fun i wr => ∃ (k : Nat) (t : Sl), k ≤ n1 ∧ i = .int .i64 k ∧ MkSt w n k xs t wr) (fun i _ => n1 - (intOf i).toNat)
    case atStart => exact ⟨0, _, by omega, rfl, h0⟩
    case round =>
      clear h0
      obtain ⟨k, t, hk1, rfl, hB, hx, hy, hz, hX, hR, ha⟩ := hrel
      have hgB := hB.lt
      have gy := hy.lt
      have hle := hy.rd.le
      by_cases hlt : k < n1
      · obtain ⟨bm, offm, m, rfl, hbm, hcm, hmm⟩ := hr.el hlt
        have hcm1 := (hX.cell (p := ⟨bm, offm + k, none⟩) hbm).trans hcm
        have hbr : bm < wr.heap.size := by omega
        have hk0 : (0 : Int) ≤ (k : Int) := by omega
        have hkn : (k : Int) < (n1 : Int) := by omega
        have hwr : IntKind.i64.wrap ((k : Int) + 1) = (k : Int) + 1 := Go.IntWalk.i64_in _ (by omega)
        obtain ⟨b0, b1, b2⟩ := hB.c3
        by_cases hkn2 : k < n
        · have hki : (k : Int) < (n : Int) := by omega
          obtain ⟨gx, eg, _, _, ⟨ux, hux⟩, hfx, hput⟩ := hx.put hkn2
          injection eg with eg
          injection eg with eg
          subst eg
          go_upto_region 26 with fail
          have kk : wr.drew.cell? ⟨w.heap.size + 1 + 1 + 1 + 1, 0, none⟩ = some (.slice (some ⟨w.heap.size + 1, 0, none⟩) n n) ∧ wr.drew.cell? ⟨bm, offm + k, none⟩ = some (.int .i64 m) := ⟨b0, hcm1⟩
          have hux' : wr.drew.cell? ⟨w.heap.size + 1, k, none⟩ = some ux := hux
          have hfx' : wr.drew.frozen? ⟨w.heap.size + 1, k, none⟩ = false := hfx
          refine wp_region_sink (S := fun w' => w'.cell? ⟨w.heap.size + 1 + 1 + 1 + 1, 0, none⟩ = some (.slice (some ⟨w.heap.size + 1, 0, none⟩) n n) ∧ w'.cell? ⟨bm, offm + k, none⟩ = some (.int .i64 m)) 8 (by kernel_rfl) ?_
          refine wpAnyT_takeL (i := 0) 4 (v := ?_) rfl (by kernel_rfl) (by kernel_rfl) (by kernel_rfl) (by kernel_rfl) (by kernel_rfl) (fun _ _ _ h => h) (Or.inl ⟨by rfl, ?_⟩) kk ?_
          rotate_left 1
          · (intro W hSw; (try dsimp only at hSw); go_simp) <;> with_reducible rfl
          try simp only [Act.put, List.setIfInBounds_toArray, List.set_cons_zero, List.set_cons_succ]
          refine wpAnyT_takeL (i := 1) 4 (v := ?_) rfl (by kernel_rfl) (by kernel_rfl) (by kernel_rfl) (by kernel_rfl) (by kernel_rfl) (fun _ _ _ h => h) (Or.inl ⟨by rfl, ?_⟩) kk ?_
          rotate_left 1
          · (intro W hSw; (try dsimp only at hSw); go_simp) <;> with_reducible rfl
          try simp only [Act.put, List.setIfInBounds_toArray, List.set_cons_zero, List.set_cons_succ]
          refine wpAnyT_takeL (i := 2) 4 (v := ?_) rfl (by kernel_rfl) (by kernel_rfl) (by kernel_rfl) (by kernel_rfl) (by kernel_rfl) (fun _ _ _ h => h) (Or.inl ⟨by rfl, ?_⟩) kk ?_
          rotate_left 1
          · (intro W hSw; (try dsimp only at hSw); go_simp) <;> with_reducible rfl
          try simp only [Act.put, List.setIfInBounds_toArray, List.set_cons_zero, List.set_cons_succ]
          refine wpAnyT_takeL (i := 3) 4 (v := ?_) rfl (by kernel_rfl) (by kernel_rfl) (by kernel_rfl) (by kernel_rfl) (by kernel_rfl) (fun _ _ _ h => h) (Or.inl ⟨by rfl, ?_⟩) kk ?_
          rotate_left 1
          · (intro W hSw; (try dsimp only at hSw); go_simp) <;> with_reducible rfl
          try simp only [Act.put, List.setIfInBounds_toArray, List.set_cons_zero, List.set_cons_succ]
          refine wpAnyT_takeL (i := 4) 4 (v := ?_) rfl (by kernel_rfl) (by kernel_rfl) (by kernel_rfl) (by kernel_rfl) (by kernel_rfl) (fun _ _ _ h => h) (Or.inl ⟨by rfl, ?_⟩) kk ?_
          rotate_left 1
          · (intro W hSw; (try dsimp only at hSw); go_simp) <;> with_reducible rfl
          try simp only [Act.put, List.setIfInBounds_toArray, List.set_cons_zero, List.set_cons_succ]
          refine wpAnyT_takeL (i := 5) 4 (v := ?_) rfl (by kernel_rfl) (by kernel_rfl) (by kernel_rfl) (by kernel_rfl) (by kernel_rfl) (fun _ _ _ h => h) (Or.inl ⟨by rfl, ?_⟩) kk ?_
          rotate_left 1
          · (intro W hSw; (try dsimp only at hSw); go_simp) <;> with_reducible rfl
          try simp only [Act.put, List.setIfInBounds_toArray, List.set_cons_zero, List.set_cons_succ]
          refine wpAnyT_takeL (i := 6) 4 (v := ?_) rfl (by kernel_rfl) (by kernel_rfl) (by kernel_rfl) (by kernel_rfl) (by kernel_rfl) (fun _ _ _ h => h) (Or.inl ⟨by rfl, ?_⟩) kk ?_
          rotate_left 1
          · (intro W hSw; (try dsimp only at hSw); go_simp) <;> with_reducible rfl
          try simp only [Act.put, List.setIfInBounds_toArray, List.set_cons_zero, List.set_cons_succ]
          refine wpAnyT_takeL (i := 7) 4 (v := ?_) rfl (by kernel_rfl) (by kernel_rfl) (by kernel_rfl) (by kernel_rfl) (by kernel_rfl) (fun _ _ _ h => h) (Or.inl ⟨by rfl, ?_⟩) kk ?_
          rotate_left 1
          · (intro W hSw; (try dsimp only at hSw); go_simp) <;> with_reducible rfl
          try simp only [Act.put, List.setIfInBounds_toArray, List.set_cons_zero, List.set_cons_succ]
          refine wpAnyT_go (i := 8) rfl (by kernel_rfl) fun K hK => ?_
          go_simp
          refine hK _ _ ⟨fun h => absurd rfl h, ?_⟩
          clear hK K
          refine wpAnyT_done (by kernel_rfl) ?_ _
          go_wp2_with fail
          go_roundw
          case rel => exact ⟨k + 1, t, by omega, by go_num, hB.off _ k (by omega) _, by rw [← mk_set hmm.out hkn2]; exact hput m, by rw [mk_y0 hkn2]; exact Own.away hy (fun e => (ha _ e).1 rfl) _ _, hz.away (fun e => by have := ownBlock_eq e; omega) _ _, (hX.off (w.heap.size + 1) k (by omega) _).drew, hR.off (w.heap.size + 1) k (by omega) _, ha⟩
          case measure => simp [intOf]; omega
        · have hki : ¬ ((k : Int) < (n : Int)) := by omega
          go_upto_region 34 with fail
          have kk : wr.drew.cell? ⟨w.heap.size + 1 + 1 + 1 + 1, 1, none⟩ = some (.slice t.A t.n t.c) ∧ wr.drew.cell? ⟨bm, offm + k, none⟩ = some (.int .i64 m) := ⟨b1, hcm1⟩
          have hly := hide (show ((xs.take k).drop n).length ≤ 1048576 by rw [List.length_drop, List.length_take]; omega)
          refine wp_region_sink (S := fun w' => w'.cell? ⟨w.heap.size + 1 + 1 + 1 + 1, 1, none⟩ = some (.slice t.A t.n t.c) ∧ w'.cell? ⟨bm, offm + k, none⟩ = some (.int .i64 m)) 9 (by kernel_rfl) ?_
          refine wpAnyT_takeL (i := 0) 4 (v := ?_) rfl (by kernel_rfl) (by kernel_rfl) (by kernel_rfl) (by kernel_rfl) (by kernel_rfl) (fun _ _ _ h => h) (Or.inl ⟨by rfl, ?_⟩) kk ?_
          rotate_left 1
          · (intro W hSw; (try dsimp only at hSw); go_simp) <;> with_reducible rfl
          try simp only [Act.put, List.setIfInBounds_toArray, List.set_cons_zero, List.set_cons_succ]
          refine wpAnyT_takeL (i := 1) 4 (v := ?_) rfl (by kernel_rfl) (by kernel_rfl) (by kernel_rfl) (by kernel_rfl) (by kernel_rfl) (fun _ _ _ h => h) (Or.inl ⟨by rfl, ?_⟩) kk ?_
          rotate_left 1
          · (intro W hSw; (try dsimp only at hSw); go_simp) <;> with_reducible rfl
          try simp only [Act.put, List.setIfInBounds_toArray, List.set_cons_zero, List.set_cons_succ]
          refine wpAnyT_takeL (i := 2) 4 (v := ?_) rfl (by kernel_rfl) (by kernel_rfl) (by kernel_rfl) (by kernel_rfl) (by kernel_rfl) (fun _ _ _ h => h) (Or.inl ⟨by rfl, ?_⟩) kk ?_
          rotate_left 1
          · (intro W hSw; (try dsimp only at hSw); go_simp) <;> with_reducible rfl
          try simp only [Act.put, List.setIfInBounds_toArray, List.set_cons_zero, List.set_cons_succ]
          refine wpAnyT_takeL (i := 3) 4 (v := ?_) rfl (by kernel_rfl) (by kernel_rfl) (by kernel_rfl) (by kernel_rfl) (by kernel_rfl) (fun _ _ _ h => h) (Or.inl ⟨by rfl, ?_⟩) kk ?_
          rotate_left 1
          · (intro W hSw; (try dsimp only at hSw); go_simp) <;> with_reducible rfl
          try simp only [Act.put, List.setIfInBounds_toArray, List.set_cons_zero, List.set_cons_succ]
          refine wpAnyT_takeL (i := 4) 4 (v := ?_) rfl (by kernel_rfl) (by kernel_rfl) (by kernel_rfl) (by kernel_rfl) (by kernel_rfl) (fun _ _ _ h => h) (Or.inl ⟨by rfl, ?_⟩) kk ?_
          rotate_left 1
          · (intro W hSw; (try dsimp only at hSw); go_simp) <;> with_reducible rfl
          try simp only [Act.put, List.setIfInBounds_toArray, List.set_cons_zero, List.set_cons_succ]
          refine wpAnyT_takeL (i := 5) 4 (v := ?_) rfl (by kernel_rfl) (by kernel_rfl) (by kernel_rfl) (by kernel_rfl) (by kernel_rfl) (fun _ _ _ h => h) (Or.inl ⟨by rfl, ?_⟩) kk ?_
          rotate_left 1
          · (intro W hSw; (try dsimp only at hSw); go_simp) <;> with_reducible rfl
          try simp only [Act.put, List.setIfInBounds_toArray, List.set_cons_zero, List.set_cons_succ]
          refine wpAnyT_go (i := 6) rfl (by kernel_rfl) fun K hK => ?_
          go_simp
          have hB1 := hB.drew.alloc (.cells #[.int .i64 m] 2)
          have kk1 : (wr.drew.alloc (.cells #[.int .i64 m] 2)).cell? ⟨w.heap.size + 1 + 1 + 1 + 1, 1, none⟩ = some (.slice t.A t.n t.c) ∧ (wr.drew.alloc (.cells #[.int .i64 m] 2)).cell? ⟨bm, offm + k, none⟩ = some (.int .i64 m) := ⟨hB1.get 1 _ rfl, (((Ext.refl wr).drew.alloc _).cell (p := ⟨bm, offm + k, none⟩) hbr).trans hcm1⟩
          refine hK _ _ ⟨fun _ => kk1, ?_⟩
          clear hK K
          refine wpAnyT_go (i := 7) rfl (by kernel_rfl) fun K hK => ?_
          refine step_app _ rfl (.tmp 35) (.tmp 40) rfl (w.heap.size + 1) _ _ rfl (hy.drew.alloc _) _ _ _ [m] rfl (Rd.one wr.drew m) (by have := hly.out; omega) (by simp; omega) ?_
          intro t2 w4 o4 hg hb
          have hB4 := hB1.fr (Fr.of_grown hg) (fun e => (ha _ e).2.2 rfl)
          have hX4 := Ext.grow (hX.drew.alloc (.cells #[.int .i64 m] 2)) hg (fun j hj => by have := (gy j hj).1; omega)
          have hR4 := (hR.drew.alloc (.cells #[.int .i64 m] 2)).fr (Fr.of_grown hg) (fun e => by have := (gy _ e).1; omega)
          have hx4 := Own.fr (hx.drew.alloc (.cells #[.int .i64 m] 2)) (Fr.of_grown hg) (fun j h1 h2 => by have a1 := ownBlock_eq h1; have a2 := (ha j h2).1; omega)
          have hz4 := Own.fr (hz.drew.alloc (.cells #[.int .i64 m] 2)) (Fr.of_grown hg) (fun j h1 h2 => by have a1 := ownBlock_eq h1; have a2 := (ha j h2).2.1; omega)
          have ha4 : ∀ j, Value.ownBlock (.slice t2.A t2.n t2.c) = some j → j ≠ w.heap.size + 1 ∧ j ≠ w.heap.size + 1 + 1 + 1 ∧ j ≠ w.heap.size + 1 + 1 + 1 + 1 := fun j hj => by
            rcases hb with h | h
            · exact ha j (h.symm.trans hj)
            · rw [h] at hj; injection hj with hj; (try simp at hj); omega
          have kk4 : w4.cell? ⟨w.heap.size + 1 + 1 + 1 + 1, 1, none⟩ = some (.slice t.A t.n t.c) ∧ w4.cell? ⟨bm, offm + k, none⟩ = some (.int .i64 m) := ⟨hB4.get 1 _ rfl, (hX4.cell (p := ⟨bm, offm + k, none⟩) hbm).trans hcm⟩
          refine hK _ _ ⟨fun _ => kk4, ?_⟩
          clear hK K
          have x1 := hB4.frozen 1
          obtain ⟨c0, c1', c2⟩ := hB4.c3
          refine wpAnyT_takeL (i := 8) 4 (v := ?_) rfl (by kernel_rfl) (by kernel_rfl) (by kernel_rfl) (by kernel_rfl) (by kernel_rfl) (fun _ _ _ h => h) (Or.inl ⟨by rfl, ?_⟩) kk4 ?_
          rotate_left 1
          · (intro W hSw; (try dsimp only at hSw); go_simp) <;> with_reducible rfl
          try simp only [Act.put, List.setIfInBounds_toArray, List.set_cons_zero, List.set_cons_succ]
          refine wpAnyT_go (i := 9) rfl (by kernel_rfl) fun K hK => ?_
          go_simp
          refine hK _ _ ⟨fun h => absurd rfl h, ?_⟩
          clear hK K
          refine wpAnyT_done (by kernel_rfl) ?_ _
          go_wp2_with fail
          go_roundw
          case rel => exact ⟨k + 1, t2, by omega, by go_num, hB4.set_ 1 _, by rw [mk_x1 (by omega)]; exact Own.away hx4 (fun e => by have := ownBlock_eq e; omega) _ _, by rw [mk_y1 hmm.out (by omega)]; exact Own.away o4 (fun e => (ha4 _ e).2.2 rfl) _ _, hz4.away (fun e => by have := ownBlock_eq e; omega) _ _, (hX4.off (w.heap.size + 1 + 1 + 1 + 1) 1 (by omega) _), hR4.off (w.heap.size + 1 + 1 + 1 + 1) 1 (by omega) _, ha4⟩
          case measure => simp [intOf]; omega
      · have e : k = n1 := by omega
        subst e
        have eX : (xs.take k).take n ++ (List.replicate n 0).drop k = xs.take n ++ (List.replicate n 0).drop xs.length := by rw [hl.out, List.take_length]
        have eY : (xs.take k).drop n = xs.drop n := by rw [hl.out, List.take_length]
        rw [eX] at hx
        rw [eY] at hy
        have htn := hide (show t.n ≤ k by have h : t.n = (xs.drop n).length := hy.rd.1; rw [List.length_drop] at h; have := hl.out; omega)
        have h3 : Own3 wr (w.heap.size + 1) ⟨⟨some ⟨w.heap.size + 1, 0, none⟩, n, n⟩, t, ⟨some ⟨w.heap.size + 1 + 1 + 1, 0, none⟩, 0, 0⟩⟩ (mkL xs n) := ⟨hx, hy, hz, by have := htn.out; simp only; omega, fun j h1 h2 => by have a1 := ownBlock_eq h1; have a2 := (ha j h2).1; omega, fun j h1 h2 => by have a1 := ownBlock_eq h1; have a2 := ownBlock_eq h2; omega, fun j h1 h2 => by have a1 := ownBlock_eq h2; have a2 := (ha j h1).2.1; omega⟩
        obtain ⟨b0, b1, b2⟩ := hB.c3
        have hi := spec.IsPanel_any _ _ _ h3.rd
        go_wp2_with fail
        cases hp : okP (mkL xs n)
        · rw [hp] at hi
          have E2 := hide (show mkR xs n = (nilL3, 1) by unfold mkR; rw [hin, Int.toNat_natCast, hp, Bool.not_false, Bool.or_true]; rfl)
          refine hi.mono ?_
          rintro e w4 ⟨rfl, hx4⟩
          have hR4 := hR.ext hx4
          have hX4 := hX.trans hx4
          obtain ⟨r0, r1, r2⟩ := hR4.c3
          have y0 := hR4.frozen 0
          have y1 := hR4.frozen 1
          have y2 := hR4.frozen 2
          have hRn := ((hR4.set_ 0 (.slice none 0 0)).set_ 1 (.slice none 0 0)).set_ 2 (.slice none 0 0)
          obtain ⟨n0, n1', n2'⟩ := hRn.c3
          go_wp2
          refine bodyPost_ret (v := .tuple #[.agg #[.slice (⟨⟨none, 0, 0⟩, ⟨none, 0, 0⟩, ⟨none, 0, 0⟩⟩ : S3).x.A (⟨⟨none, 0, 0⟩, ⟨none, 0, 0⟩, ⟨none, 0, 0⟩⟩ : S3).x.n (⟨⟨none, 0, 0⟩, ⟨none, 0, 0⟩, ⟨none, 0, 0⟩⟩ : S3).x.c, .slice (⟨⟨none, 0, 0⟩, ⟨none, 0, 0⟩, ⟨none, 0, 0⟩⟩ : S3).y.A (⟨⟨none, 0, 0⟩, ⟨none, 0, 0⟩, ⟨none, 0, 0⟩⟩ : S3).y.n (⟨⟨none, 0, 0⟩, ⟨none, 0, 0⟩, ⟨none, 0, 0⟩⟩ : S3).y.c, .slice (⟨⟨none, 0, 0⟩, ⟨none, 0, 0⟩, ⟨none, 0, 0⟩⟩ : S3).z.A (⟨⟨none, 0, 0⟩, ⟨none, 0, 0⟩, ⟨none, 0, 0⟩⟩ : S3).z.n (⟨⟨none, 0, 0⟩, ⟨none, 0, 0⟩, ⟨none, 0, 0⟩⟩ : S3).z.c], .int .i64 1]) (by simp [results, Tryz.results78, go_sem, n0, n1', n2']) rfl ⟨(⟨⟨none, 0, 0⟩, ⟨none, 0, 0⟩, ⟨none, 0, 0⟩⟩ : S3), by rw [E2.out], ?_, (((hX4.off w.heap.size 0 (by omega) _).off w.heap.size 1 (by omega) _).off w.heap.size 2 (by omega) _)⟩
          rw [E2.out]
          exact Own3.nil3_ _ _
        · rw [hp] at hi
          refine hi.mono ?_
          rintro e w4 ⟨rfl, hx4⟩
          have hR4 := hR.ext hx4
          have hX4 := hX.trans hx4
          have h4 := h3.ext hx4
          clear b0 b1 b2
          obtain ⟨b0, b1, b2⟩ := (hB.ext hx4).c3
          have hh := fun W h => spec.l01Has_any ⟨A1, k, c1⟩ xs 0 W h
          cases hb : hasB xs 0
          · rw [hb] at hh
            have E2 := hide (show mkR xs n = (mkL xs n, 0) by unfold mkR; rw [hin, hb, Int.toNat_natCast, hp]; rfl)
            obtain ⟨r0, r1, r2⟩ := hR4.c3
            have y0 := hR4.frozen 0
            have y1 := hR4.frozen 1
            have y2 := hR4.frozen 2
            go_wp2_with (go_at_call 109; refine (hh _ (hr.ext hX4)).mono ?_; rintro e w' ⟨rfl, rfl⟩)
            have hRn := ((hR4.set_ 0 (.slice (⟨some ⟨w.heap.size + 1, 0, none⟩, n, n⟩ : Sl).A (⟨some ⟨w.heap.size + 1, 0, none⟩, n, n⟩ : Sl).n (⟨some ⟨w.heap.size + 1, 0, none⟩, n, n⟩ : Sl).c)).set_ 1 (.slice t.A t.n t.c)).set_ 2 (.slice (some ⟨w.heap.size + 1 + 1 + 1, 0, none⟩) 0 0)
            obtain ⟨n0, n1', n2'⟩ := hRn.c3
            refine bodyPost_ret (v := .tuple #[.agg #[.slice (⟨⟨some ⟨w.heap.size + 1, 0, none⟩, n, n⟩, t, ⟨some ⟨w.heap.size + 1 + 1 + 1, 0, none⟩, 0, 0⟩⟩ : S3).x.A (⟨⟨some ⟨w.heap.size + 1, 0, none⟩, n, n⟩, t, ⟨some ⟨w.heap.size + 1 + 1 + 1, 0, none⟩, 0, 0⟩⟩ : S3).x.n (⟨⟨some ⟨w.heap.size + 1, 0, none⟩, n, n⟩, t, ⟨some ⟨w.heap.size + 1 + 1 + 1, 0, none⟩, 0, 0⟩⟩ : S3).x.c, .slice (⟨⟨some ⟨w.heap.size + 1, 0, none⟩, n, n⟩, t, ⟨some ⟨w.heap.size + 1 + 1 + 1, 0, none⟩, 0, 0⟩⟩ : S3).y.A (⟨⟨some ⟨w.heap.size + 1, 0, none⟩, n, n⟩, t, ⟨some ⟨w.heap.size + 1 + 1 + 1, 0, none⟩, 0, 0⟩⟩ : S3).y.n (⟨⟨some ⟨w.heap.size + 1, 0, none⟩, n, n⟩, t, ⟨some ⟨w.heap.size + 1 + 1 + 1, 0, none⟩, 0, 0⟩⟩ : S3).y.c, .slice (⟨⟨some ⟨w.heap.size + 1, 0, none⟩, n, n⟩, t, ⟨some ⟨w.heap.size + 1 + 1 + 1, 0, none⟩, 0, 0⟩⟩ : S3).z.A (⟨⟨some ⟨w.heap.size + 1, 0, none⟩, n, n⟩, t, ⟨some ⟨w.heap.size + 1 + 1 + 1, 0, none⟩, 0, 0⟩⟩ : S3).z.n (⟨⟨some ⟨w.heap.size + 1, 0, none⟩, n, n⟩, t, ⟨some ⟨w.heap.size + 1 + 1 + 1, 0, none⟩, 0, 0⟩⟩ : S3).z.c], .int .i64 0]) (by simp [results, Tryz.results78, go_sem, n0, n1', n2']) rfl ⟨(⟨⟨some ⟨w.heap.size + 1, 0, none⟩, n, n⟩, t, ⟨some ⟨w.heap.size + 1 + 1 + 1, 0, none⟩, 0, 0⟩⟩ : S3), by rw [E2.out], ?_, (((hX4.off w.heap.size 0 (by omega) _).off w.heap.size 1 (by omega) _).off w.heap.size 2 (by omega) _)⟩
            rw [E2.out]
            exact Own3.mono (((h4.awayP (g := w.heap.size) (by omega) 0 _).awayP (g := w.heap.size) (by omega) 1 _).awayP (g := w.heap.size) (by omega) 2 _) (by omega)
          · rw [hb] at hh
            have E2 := hide (show mkR xs n = (nilL3, 1) by unfold mkR; rw [hin, hb]; rfl)
            obtain ⟨r0, r1, r2⟩ := hR4.c3
            have y0 := hR4.frozen 0
            have y1 := hR4.frozen 1
            have y2 := hR4.frozen 2
            go_wp2_with (go_at_call 109; refine (hh _ (hr.ext hX4)).mono ?_; rintro e w' ⟨rfl, rfl⟩)
            obtain ⟨r0, r1, r2⟩ := hR4.c3
            have y0 := hR4.frozen 0
            have y1 := hR4.frozen 1
            have y2 := hR4.frozen 2
            have hRn := ((hR4.set_ 0 (.slice none 0 0)).set_ 1 (.slice none 0 0)).set_ 2 (.slice none 0 0)
            obtain ⟨n0, n1', n2'⟩ := hRn.c3
            refine bodyPost_ret (v := .tuple #[.agg #[.slice (⟨⟨none, 0, 0⟩, ⟨none, 0, 0⟩, ⟨none, 0, 0⟩⟩ : S3).x.A (⟨⟨none, 0, 0⟩, ⟨none, 0, 0⟩, ⟨none, 0, 0⟩⟩ : S3).x.n (⟨⟨none, 0, 0⟩, ⟨none, 0, 0⟩, ⟨none, 0, 0⟩⟩ : S3).x.c, .slice (⟨⟨none, 0, 0⟩, ⟨none, 0, 0⟩, ⟨none, 0, 0⟩⟩ : S3).y.A (⟨⟨none, 0, 0⟩, ⟨none, 0, 0⟩, ⟨none, 0, 0⟩⟩ : S3).y.n (⟨⟨none, 0, 0⟩, ⟨none, 0, 0⟩, ⟨none, 0, 0⟩⟩ : S3).y.c, .slice (⟨⟨none, 0, 0⟩, ⟨none, 0, 0⟩, ⟨none, 0, 0⟩⟩ : S3).z.A (⟨⟨none, 0, 0⟩, ⟨none, 0, 0⟩, ⟨none, 0, 0⟩⟩ : S3).z.n (⟨⟨none, 0, 0⟩, ⟨none, 0, 0⟩, ⟨none, 0, 0⟩⟩ : S3).z.c], .int .i64 1]) (by simp [results, Tryz.results78, go_sem, n0, n1', n2']) rfl ⟨(⟨⟨none, 0, 0⟩, ⟨none, 0, 0⟩, ⟨none, 0, 0⟩⟩ : S3), by rw [E2.out], ?_, (((hX4.off w.heap.size 0 (by omega) _).off w.heap.size 1 (by omega) _).off w.heap.size 2 (by omega) _)⟩
            rw [E2.out]
            exact Own3.nil3_ _ _
end Go.Proofs.YtofglgfjlbehmaaGreat.mem
