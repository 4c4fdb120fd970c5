/-
  Contracts of impl.without and of the library's DeleteFunc, IndexFunc under its closure.
-/
import Derived.Test.YtkfjphjmffbpiaaMk
import Derived.Lib.SliceRun
namespace Go.Proofs.Ytkfjphjmffbpiaa.mem
open Go.ChangeShapes Go.WideShapes Go.ChangeAt Go.RowKit

section
variable (w : World)
theorem Blk.setCells {g : Nat} {t : TypeId} : ∀ (vs : List Value) (o : Nat) (w : World) (cs : Array Value), Blk w g t cs → ∃ cs' : Array Value, Blk (w.setCells g o vs) g t cs' ∧ cs'.size = cs.size ∧ (∀ j, j < o → cs'[j]? = cs[j]?) ∧ Fr (fun k => k = g) w (w.setCells g o vs)
  | [], _, w, cs, h => ⟨cs, h, rfl, fun _ _ => rfl, Fr.refl _ _⟩
  | v :: vs, o, w, cs, h => by
    obtain ⟨cs', h1, h2, h3, h4⟩ := Blk.setCells vs (o + 1) _ _ (h.set_ o v)
    refine ⟨cs', h1, by simpa using h2, fun j hj => (h3 j (by omega)).trans ?_, ?_⟩
    · rw [Array.getElem?_setIfInBounds_ne (by omega)]
    · exact Fr.trans (show Fr (fun k => k = g) w (w.setCell ⟨g, o, none⟩ v) from ⟨rfl, rfl, rfl, by simp [World.setCell], fun k _ hne => Below.heap_setCell _ _ _ _ hne⟩) h4
set_option maxRecDepth 20000 in
theorem wpList_clr {ops : Array Oper} {rest : List Oper} {o : Oper} {a : Act} {Q : Exit → Act → World → Prop} (hgd : o.guard = none) (s : Operand)
    (ho : o.op = .call { callee := .builtin .clear, args := #[s], argTypes := #[24] })
    (lo g n c i c' : Nat) (xs : List Int) (hs : a.eval s = .slice (some ⟨g, i, none⟩) (n - i) c') (hown : Own w lo (.slice (some ⟨g, 0, none⟩) n c) xs) (hi : i < n)
    (h : ∀ w', Own w' lo (.slice (some ⟨g, 0, none⟩) i c) (xs.take i) → Fr (fun k => k = g) w w' → wpList Try.prog ops Q rest (a.put o.dst (.tuple #[])) w') : wpList Try.prog ops Q (o :: rest) a w := by
  obtain ⟨ti, hti, hz0, hz1, hz2⟩ := info_parts ints_info
  have hn : n = xs.length := hown.rd.1
  rcases hown.2.2 with ⟨e, hn0'⟩ | ⟨g', cap, cur, e, hg, hh, hcap, hmx, hss, ht⟩
  · cases e
  injection e with e1 e2 e3
  injection e1 with e1
  injection e1 with e1
  subst e1 e3
  have hB : Blk w g 2 cur := hh
  have hv : ∀ w, (zeroValue 2).run Try.prog w = .ok (.int .i64 0) w := fun w => by simp [zeroValue, typeInfo, hti, hz0]
  have hrun := Go.Lib.run_clear_slice (P := Try.prog) w 24 2 o.type (.int .i64 0) Try.underlying24 hv rfl rfl g i (n - i) c' (by omega) (fun j hj => by rw [hB.cell, Array.getElem?_eq_getElem (by omega)]; rfl) (fun j _ => hB.frozen _)
  obtain ⟨cs', h1, h2, h3, h4⟩ := Blk.setCells (List.replicate (n - i) (.int .i64 0)) i w cur hB
  refine wpList_plain hgd fun K hK => ?_
  unfold Oper.wp
  simp [execOp, ho, resolve, invoke, builtin, hs, hrun, Result.andThen]
  refine hK _ _ (h _ ?_ h4)
  refine Own.of_blk h1 hg i c (by rw [List.length_take]; omega) (by omega) hmx (by omega) (by have := hown.1; omega) ?_
  have ht' : cur.toList.take n = xs.map (Value.int .i64) := by rw [hn]; simpa using ht
  have e : cs'.toList.take i = cur.toList.take i := by
    apply List.ext_getElem?
    intro j
    rcases Nat.lt_or_ge j i with hj | hj
    · rw [List.getElem?_take_of_lt hj, List.getElem?_take_of_lt hj, Array.getElem?_toList, Array.getElem?_toList, h3 j hj]
    · rw [List.getElem?_eq_none (by rw [List.length_take]; omega), List.getElem?_eq_none (by rw [List.length_take]; omega)]
  rw [e, List.map_take, ← ht', List.take_take, Nat.min_eq_left (by omega)]
set_option maxRecDepth 20000 in
theorem wpList_to {ops : Array Oper} {rest : List Oper} {o : Oper} {a : Act} {Q : Exit → Act → World → Prop} (hgd : o.guard = none) (x l : Operand)
    (ho : o.op = .slice 24 x none (some l) none) (b off n c : Nat) (hx : a.eval x = .slice (some ⟨b, off, none⟩) n c) (k : Nat) (hl : a.eval l = .int .i64 k) (hk : k ≤ c)
    (h : wpList Try.prog ops Q rest (a.put o.dst (.slice (some ⟨b, off, none⟩) k c)) w) : wpList Try.prog ops Q (o :: rest) a w := by
  obtain ⟨i, hi, hz0, hz1, hz2⟩ := info_parts ints_info
  refine wpList_plain hgd fun K hK => ?_
  have hu : Try.prog.underlying 24 = some (.slice (Try.prog.elem 24)) := by kernel_rfl
  have he : Try.prog.elem 24 = 2 := by kernel_rfl
  have hrun := run_slice_h (P := Try.prog) (w := w) 24 (some ⟨b, off, none⟩) n c hu .i64 (k : Int) (by omega) (by omega)
  have hs : (sizeOf 2).run Try.prog w = .ok 1 w := by simp [sizeOf, typeInfo, hi, hz1]
  rw [he, hs] at hrun
  simp only [Result.andThen_ok, sliced, Int.toNat_natCast, Nat.sub_zero, Option.map_some, Go.WideShapes.add_plain, Nat.zero_mul, Nat.add_zero, ite_self] at hrun
  have hat : (Instr.sliceAt 24 (.slice (some ⟨b, off, none⟩) n c) none (some (.int .i64 (k : Int))) none).run Try.prog w = .ok (.slice (some ⟨b, off, none⟩) k c) w := by
    rw [run_sliceAt_slice (h := hu)]
    exact hrun
  unfold Oper.wp execOp
  simp only [ho, Option.map_some, Option.map_none, hx, hl, Sem.run_bind, Sem.run_pure, hat, Result.andThen_ok]
  exact hK _ _ h
end
def kp (os xs : List Int) : List Int := xs.filter (fun x => !hasB os x)
theorem kp_all {os xs : List Int} (h : ∀ x ∈ xs, hasB os x = false) : kp os xs = xs := by
  unfold kp
  rw [List.filter_eq_self]
  intro x hx
  rw [h x hx]; rfl
theorem kp_no {os xs : List Int} {j : Nat} {x : Int} (h : xs[j]? = some x) (hx : hasB os x = true) : kp os (xs.take (j + 1)) = kp os (xs.take j) := by
  unfold kp
  rw [take_more h, List.filter_append]
  simp [hx]
theorem kp_yes {os xs : List Int} {j : Nat} {x : Int} (h : xs[j]? = some x) (hx : hasB os x = false) : kp os (xs.take (j + 1)) = kp os (xs.take j) ++ [x] := by
  unfold kp
  rw [take_more h, List.filter_append]
  simp [hx]
theorem kp_le (os xs : List Int) : (kp os xs).length ≤ xs.length := List.length_filter_le _ _

set_option maxRecDepth 20000 in
set_option maxHeartbeats 1000000 in
theorem impl.without1_any (b : Nat) (so : Sl) (os : List Int) (x : Int) (w : World) (hb : w.cell? ⟨b, 0, none⟩ = some (.slice so.A so.n so.c)) (hr : Rd w so.A so.n os) :
    Calls Try.prog 121 #[.int .i64 x, .pointer (some ⟨b, 0, none⟩)] w fun e w' => e = .returned (.bool (hasB os x)) ∧ w = w' := by
  obtain ⟨A, n, c⟩ := so
  simp only at hb hr
  go_enter Try.func121, Try.ntmps121
  go_wp2_with (go_at_call 75; refine (impl.has_any ⟨A, n, c⟩ os x _ hr).mono ?_; rintro e w' ⟨rfl, rfl⟩)
  go_ret
  exact ⟨rfl, rfl⟩

set_option maxRecDepth 20000 in
set_option maxHeartbeats 2000000 in
theorem sl.IndexFunc_any (b : Nat) (so : Sl) (os : List Int) (s : Sl) (xs : List Int) (w : World) (hb : w.cell? ⟨b, 0, none⟩ = some (.slice so.A so.n so.c)) (hr : Rd w so.A so.n os) (hs : Rd w s.A s.n xs) :
    Calls Try.prog 125 #[.slice s.A s.n s.c, .func (.func 121) #[] #[.pointer (some ⟨b, 0, none⟩)]] w fun e w' => (∃ r : Int, e = .returned (.int .i64 r) ∧
      ((r = -1 ∧ ∀ x ∈ xs, hasB os x = false) ∨ ∃ k : Nat, r = k ∧ (∀ (j : Nat) (x : Int), j < k → xs[j]? = some x → hasB os x = false) ∧ ∃ x, xs[k]? = some x ∧ hasB os x = true)) ∧ w = w' := by
  obtain ⟨A, n, c⟩ := s
  simp only at hs ⊢
  have hn := hs.le
  have hl := hide hs.1
  have hc := fun x => impl.without1_any b so os x w hb hr
  go_enter Try.func125, Try.ntmps125
  go_wp2_with fail
  go_loop [5, 8] (fun _ i => ∃ k : Nat, k ≤ n ∧ i = .int .i64 k ∧ Hid (∀ (j : Nat) (y : Int), j < k → xs[j]? = some y → hasB os y = false)) (fun _ i => n - (intOf i).toNat)
  case atStart => exact ⟨0, by omega, rfl, hide fun j y h => absurd h (by omega)⟩
  case round =>
    obtain ⟨k, hk, rfl, hno⟩ := hrel
    by_cases hlt : k < n
    · obtain ⟨b1, off, y, rfl, hbl, hc1, hy⟩ := hs.el hlt
      have hcy := hc y
      clear hc
      cases he : hasB os y
      · rw [he] at hcy
        go_wp2_with (go_at_call 121; refine hcy.mono ?_; rintro e w' ⟨rfl, rfl⟩)
        go_round
        case rel => exact ⟨k + 1, by omega, by go_num, hide fun j z hj hz => by
          rcases Nat.lt_or_ge j k with h | h
          · exact hno.out j z h hz
          · obtain rfl : j = k := by omega
            have := hy.out
            rw [this] at hz
            injection hz with hz
            exact hz ▸ he⟩
        case measure => simp [intOf]; omega
      · rw [he] at hcy
        go_wp2_with (go_at_call 121; refine hcy.mono ?_; rintro e w' ⟨rfl, rfl⟩)
        go_ret
        exact ⟨⟨_, rfl, .inr ⟨k, rfl, hno.out, y, hy.out, he⟩⟩, rfl⟩
    · go_wp2_with fail
      go_ret
      have e : k = n := by omega
      subst e
      exact ⟨⟨_, rfl, .inl ⟨rfl, fun x hx => by
        obtain ⟨j, hj, e⟩ := List.getElem_of_mem hx
        exact hno.out j x (by have := hl.out; omega) (by rw [← e]; exact List.getElem?_eq_getElem hj)⟩⟩, rfl⟩

theorem drop_el' {ms : List Int} {k : Nat} {m : Int} (h : ms[k]? = some m) : ms.drop k = m :: ms.drop (k + 1) := by
  obtain ⟨hk, e⟩ := List.getElem?_eq_some_iff.1 h
  rw [List.drop_eq_getElem_cons hk, e]
theorem df_at {os xs : List Int} {mid : List Int} {i j : Nat} (hi : i = (kp os (xs.take j)).length) (hl : (kp os (xs.take j) ++ (mid ++ xs.drop j)).length = xs.length) (hj : j < xs.length) (hij : i < j) :
    ∃ y ys, mid = y :: ys ∧ (kp os (xs.take j) ++ (mid ++ xs.drop j))[j]? = xs[j]? ∧ ∀ z, (kp os (xs.take j) ++ (mid ++ xs.drop j)).set i z = kp os (xs.take j) ++ [z] ++ (ys ++ xs.drop j) := by
  rw [List.length_append, List.length_append, List.length_drop] at hl
  rcases mid with _ | ⟨y, ys⟩
  · simp at hl; omega
  · refine ⟨y, ys, rfl, ?_, fun z => ?_⟩
    · rw [← List.append_assoc, List.getElem?_append_right (by rw [List.length_append]; omega), List.length_append, List.getElem?_drop]
      congr 1
      omega
    · rw [List.set_append, if_neg (by omega), ← hi, Nat.sub_self, List.append_assoc]
      rfl
theorem df_end {os xs : List Int} {mid : List Int} {i : Nat} (hi : i = (kp os (xs.take xs.length)).length) : (kp os (xs.take xs.length) ++ (mid ++ xs.drop xs.length)).take i = kp os xs := by
  rw [hi, List.take_left, List.take_length]
set_option maxRecDepth 20000 in
set_option maxHeartbeats 4000000 in
theorem sl.DeleteFunc_any (b : Nat) (so : Sl) (os : List Int) (s : Sl) (xs : List Int) (w0 w : World) (lo : Nat) (hX : Ext w0 w) (hlo : w0.heap.size ≤ lo) (hb : w0.cell? ⟨b, 0, none⟩ = some (.slice so.A so.n so.c)) (hbl : b < w0.heap.size) (hr : Rd w0 so.A so.n os) (ho : Own w lo (.slice s.A s.n s.c) xs) :
    Calls Try.prog 120 #[.slice s.A s.n s.c, .func (.func 121) #[] #[.pointer (some ⟨b, 0, none⟩)]] w fun e w' => ∃ t : Sl, e = .returned (.slice t.A t.n t.c) ∧ Own w' lo (.slice t.A t.n t.c) (kp os xs) ∧ Ext w0 w' := by
  obtain ⟨A, n, c⟩ := s
  simp only at ho ⊢
  have hn := ho.rd.le
  have hl := hide ho.rd.1
  have hX0 := hX
  have hc := sl.IndexFunc_any b so os ⟨A, n, c⟩ xs w ((hX.cell (p := ⟨b, 0, none⟩) hbl).trans hb) (hr.ext hX) ho.rd
  go_enter Try.func120, Try.ntmps120
  go_wp2_with fail
  refine hc.mono ?_
  rintro e w' ⟨⟨r, rfl, hcase⟩, rfl⟩
  rcases hcase with ⟨rfl, hall⟩ | ⟨k, rfl, hno, x, hx, hyes⟩
  · go_wp2
    go_ret
    exact ⟨⟨A, n, c⟩, rfl, by rw [kp_all hall]; exact ho, hX⟩
  · have hkl : k < xs.length := (List.getElem?_eq_some_iff.1 hx).1
    have hkn : k < n := by have := hl.out; omega
    have hk1 : ((k : Int) == -1) = false := by simp
    have hwr : IntKind.i64.wrap ((k : Int) + 1) = (k : Int) + 1 := Go.IntWalk.i64_in _ (by omega)
    have hk0 := hide (show kp os (xs.take k) = xs.take k from kp_all fun y hy => by
      obtain ⟨j, hj, e⟩ := List.getElem_of_mem hy
      rw [List.length_take] at hj
      rw [List.getElem_take] at e
      exact hno j y (by omega) (by rw [← e]; exact List.getElem?_eq_getElem (by omega)))
    have hst := hide (show k = (kp os (xs.take (k + 1))).length ∧ xs = kp os (xs.take (k + 1)) ++ ([x] ++ xs.drop (k + 1)) by
      rw [kp_no hx hyes, hk0.out]
      refine ⟨by rw [List.length_take]; omega, ?_⟩
      obtain ⟨_, e⟩ := List.getElem?_eq_some_iff.1 hx
      rw [List.singleton_append, ← e, ← List.drop_eq_getElem_cons, List.take_append_drop])
    clear hno hk0
    go_wp2_with fail
    go_loopw [5, 6, 7] (fun vi vj _ wr => ∃ (i j : Nat) (mid : List Int), vi = .int .i64 i ∧ vj = .int .i64 j ∧ j ≤ n ∧ i < j ∧ Own wr lo (.slice A n c) (kp os (xs.take j) ++ (mid ++ xs.drop j)) ∧ Hid (i = (kp os (xs.take j)).length) ∧ Ext w0 wr) (fun _ vj _ _ => n - (intOf vj).toNat)
    case atStart => exact ⟨k, k + 1, [x], rfl, by go_num, by omega, by omega, by rw [← hst.out.2]; exact ho, hst.out.1, hX⟩
    case round =>
      clear hst hkn hk1 hwr hc ho hX
      obtain ⟨i, j, mid, rfl, rfl, hjn, hij, ho, hi, hX⟩ := hrel
      have hlen := hide (show (kp os (xs.take j) ++ (mid ++ xs.drop j)).length = xs.length by have := ho.rd.1; have := hl.out; omega)
      have hcl := fun x => impl.without1_any b so os x wr ((hX.cell (p := ⟨b, 0, none⟩) hbl).trans hb) (hr.ext hX)
      have hwi : IntKind.i64.wrap ((i : Int) + 1) = (i : Int) + 1 := Go.IntWalk.i64_in _ (by omega)
      by_cases hlt : j < n
      · have hwj : IntKind.i64.wrap ((j : Int) + 1) = (j : Int) + 1 := Go.IntWalk.i64_in _ (by omega)
        have hj0 : (0 : Int) ≤ (j : Int) := by omega
        have hjn1 : (j : Int) < (n : Int) := by omega
        have hin : i < n := by omega
        have hi0 : (0 : Int) ≤ (i : Int) := by omega
        have hin1 : (i : Int) < (n : Int) := by omega
        obtain ⟨y, ys, rfl, hat, hset⟩ := df_at hi.out hlen.out (by have := hl.out; omega) hij
        obtain ⟨g, rfl, hg, hgs, ⟨u, hu⟩, hf, hput⟩ := ho.put hin
        obtain ⟨b1, off1, z, e1, hbl1, hcz, hz⟩ := ho.rd.el hlt
        injection e1 with e1
        injection e1 with e1 e2
        subst e1 e2
        rw [Nat.zero_add] at hcz
        have hz' := hide (hat ▸ hz.out)
        have hclz := hcl z
        clear hcl hat hz
        cases he : hasB os z
        · rw [he] at hclz
          go_wp2_with (go_at_call 121; refine hclz.mono ?_; rintro e w' ⟨rfl, rfl⟩)
          go_roundw
          case rel => exact ⟨i + 1, j + 1, ys ++ [z], by go_num, by go_num, by omega, by omega, by rw [kp_yes hz'.out he, List.append_assoc ys, List.singleton_append, ← drop_el' hz'.out, ← hset z]; exact hput z, hide (by rw [kp_yes hz'.out he, List.length_append, ← hi.out]; rfl), hX.off g i (by omega) _⟩
          case measure => simp [intOf]; omega
        · rw [he] at hclz
          go_wp2_with (go_at_call 121; refine hclz.mono ?_; rintro e w' ⟨rfl, rfl⟩)
          go_roundw
          case rel => exact ⟨i, j + 1, (y :: ys) ++ [z], rfl, by go_num, by omega, by omega, by rw [kp_no hz'.out he, List.append_assoc (y :: ys), List.singleton_append, ← drop_el' hz'.out]; exact ho, hide (by rw [kp_no hz'.out he]; exact hi.out), hX⟩
          case measure => simp [intOf]; omega
      · have e : j = n := by omega
        subst e
        clear hcl
        obtain ⟨g, rfl, hg, hgs, ⟨u, hu⟩, hf, hput⟩ := ho.put hij
        have hjc : j ≤ c := (ho.cap (s := ⟨_, _, _⟩)).1
        have hfr : fromA (some ⟨g, 0, none⟩) c i = some ⟨g, i, none⟩ := by
          unfold fromA
          rw [if_neg (by omega), Option.map_some, Go.WideShapes.add_plain, Nat.zero_add]
        have hend := hide (show (kp os (xs.take j) ++ (mid ++ xs.drop j)).take i = kp os xs by have := hl.out; subst this; exact df_end hi.out)
        go_wp2_with (first | (with_reducible refine wpList_from _ rfl (.tmp 36) (.tmp 37) rfl _ j c rfl i rfl (by omega) ?_; rw [hfr]) | (with_reducible refine wpList_clr _ rfl (.tmp 38) rfl lo g j c i _ _ rfl ho hij ?_; intro w2 o2 hf2; have hX2 := Ext.fr_trans hX hf2 (fun k hk => by omega)) | (with_reducible refine wpList_to _ rfl (.tmp 39) (.tmp 40) rfl g 0 j c rfl i rfl (by omega) ?_))
        go_ret
        exact ⟨⟨some ⟨g, 0, none⟩, i, c⟩, rfl, by rw [← hend.out]; exact o2, hX2⟩

set_option maxRecDepth 20000 in
set_option maxHeartbeats 1000000 in
theorem impl.without_any (s so : Sl) (xs os : List Int) (w : World) (hr : Rd w s.A s.n xs) (ho : Rd w so.A so.n os) :
    Calls Try.prog 92 #[.slice s.A s.n s.c, .slice so.A so.n so.c] w fun e w' => ∃ t : Sl, e = .returned (.slice t.A t.n t.c) ∧ Own w' w.heap.size (.slice t.A t.n t.c) (kp os xs) ∧ Ext w w' := by
  have hX := (Ext.refl w).alloc (.cells #[.slice so.A so.n so.c] 24)
  have hB := Blk.new w 24 (#[.slice so.A so.n so.c])
  go_enter Try.func92, Try.ntmps92
  go_wp2_with fail
  refine (impl.clone_any s xs _ (hr.ext hX)).mono ?_
  rintro e w2 ⟨t, rfl, ot, hx⟩
  go_wp2_with fail
  refine (sl.DeleteFunc_any w.heap.size so os t xs _ w2 _ hx (Nat.le_refl _) hB.g0 hB.lt (ho.ext hX) ot).mono ?_
  rintro e w3 ⟨t2, rfl, o2, hx2⟩
  go_wp2
  go_ret
  exact ⟨t2, rfl, o2.mono (by simp), hX.trans hx2⟩
end Go.Proofs.Ytkfjphjmffbpiaa.mem
