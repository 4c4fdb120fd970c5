/-
  A number put into a sorted list, each once: the reference's l07Insert.
-/
import Derived.Test.YtmcnnbjgehmmoaaSoP
import Derived.Test.YtmcnnbjgehmmoaaReg
import Derived.Test.YtmcnnbjgehmmoaaMk
namespace Go.Proofs.Ytmcnnbjgehmmoaa.mem
open Go.ChangeShapes Go.WideShapes Go.ChangeAt Go.RowKit
set_option linter.unusedVariables false
set_option maxRecDepth 20000 in
theorem run_toN (w : World) {o : Oper} {a : Act} (x l : Operand)
    (ho : o.op = .slice 28 x none (some l) none) (A : Option Addr) (n c : Nat) (hx : a.eval x = .slice A n c) (k : Nat) (hl : a.eval l = .int .i64 k) (hk : k ≤ c) (hA : A = none ∨ ∃ b off, A = some ⟨b, off, none⟩) :
    (execOp a.eval o).run Try.prog w = .ok (.value (.slice A k c)) w := by
  rcases hA with rfl | ⟨b, off, rfl⟩
  case inr => exact run_to w x l ho b off n c hx k hl hk
  obtain ⟨i, hi, hz0, hz1, hz2⟩ := info_parts ints_info
  have hu : Try.prog.underlying 28 = some (.slice (Try.prog.elem 28)) := by kernel_rfl
  have he : Try.prog.elem 28 = 2 := by kernel_rfl
  have hrun := run_slice_h (P := Try.prog) (w := w) 28 none n c hu .i64 (k : Int) (by omega) (by omega)
  have hs : (sizeOf 2).run Try.prog w = .ok 1 w := by simp [sizeOf, typeInfo, hi, hz1]
  rw [he, hs] at hrun
  simp only [Result.andThen_ok, sliced, Int.toNat_natCast, Nat.sub_zero, Option.map_none, Nat.zero_mul, ite_self] at hrun
  have hat : (Instr.sliceAt 28 (.slice none n c) none (some (.int .i64 (k : Int))) none).run Try.prog w = .ok (.slice none k c) w := by
    rw [run_sliceAt_slice (h := hu)]
    exact hrun
  unfold execOp
  simp only [ho, Option.map_some, Option.map_none, hx, hl, Sem.run_bind, Sem.run_pure, hat, Result.andThen_ok]
set_option maxRecDepth 20000 in
set_option maxHeartbeats 4000000 in
theorem spec.l07Insert_any (s : Sl) (ys : List Int) (x : Int) (lo : Nat) (w : World) (ho : Own w lo (.slice s.A s.n s.c) ys) (hlo : lo ≤ w.heap.size) (hsz : ys.length ≤ 100000) :
    Calls Try.prog 60 #[.slice s.A s.n s.c, .int .i64 x] w fun e w' => ∃ t : Sl, e = .returned (.slice t.A t.n t.c) ∧ Own w' lo (.slice t.A t.n t.c) (insS ltI x ys) ∧ Ext w w' := by
  have hA : s.A = none ∨ ∃ b off, s.A = some ⟨b, off, none⟩ := by
    rcases ho.2.2 with ⟨e, _⟩ | ⟨g, cap, cur, e, _⟩
    · injection e with e1; exact .inl e1
    · injection e with e1; exact .inr ⟨g, 0, e1⟩
  have hcp := ho.cap
  have hr0 := ho.rd
  obtain ⟨A, m, c⟩ := s
  obtain ⟨hcp1, hcp2⟩ := hcp
  simp only at hA hr0 hcp1 hcp2
  have hm := hide hr0.1
  have hlo' := hlo
  go_enter Try.func60, Try.ntmps60
  go_wp2
  go_loop [5] (fun i => ∃ k : Nat, k ≤ m ∧ i = .int .i64 k ∧ Hid (∀ (j : Nat) (hj : j < ys.length), j < k → ltI ys[j] x)) (fun i => m - (intOf i).toNat)
  case atStart => exact ⟨0, by omega, rfl, hide fun j _ h => absurd h (by omega)⟩
  case round =>
    obtain ⟨k, hkm, rfl, hno⟩ := hrel
    have hkc : k ≤ c := by omega
    by_cases hlt : k < m
    case neg =>
      have hm' := hm.out
      have hi := hide (show insS ltI x ys = ys.take k ++ x :: ys.drop k by
        rw [insS_at x (by omega) hno.out (fun h => absurd h (by omega)), if_neg (by rw [List.getElem?_eq_none (by omega)]; simp)])
      clear hm'
      clear hno
      go_upto_region 6 with fail
      refine wp_region_sink (S := fun _ => True) 12 (by kernel_rfl) ?_
      change wpAnyT _ _ _ _ _ _ _ _ _ (World.drew _)
      have hX := (Ext.refl w).drew
      have hr : Rd _ A m ys := hr0.drew
      generalize hwd : World.drew _ = w0 at hX hr ⊢
      clear hwd
      refine wpAnyT_takeL (i := 1) 8 (v := ?_) rfl (by kernel_rfl) (by kernel_rfl) (by kernel_rfl) (by kernel_rfl) (by kernel_rfl) (fun _ _ _ h => h) (Or.inl ⟨by rfl, ?_⟩) trivial ?_
      rotate_left 1
      · (intro W hSw; (try dsimp only at hSw); go_simp) <;> with_reducible rfl
      try simp only [Act.put, List.setIfInBounds_toArray, List.set_cons_zero, List.set_cons_succ]
      refine wpAnyT_takeL (i := 2) 8 (v := ?_) rfl (by kernel_rfl) (by kernel_rfl) (by kernel_rfl) (by kernel_rfl) (by kernel_rfl) (fun _ _ _ h => h) (Or.inl ⟨by rfl, ?_⟩) trivial ?_
      rotate_left 1
      · (intro W hSw; (try dsimp only at hSw); go_simp) <;> with_reducible rfl
      try simp only [Act.put, List.setIfInBounds_toArray, List.set_cons_zero, List.set_cons_succ]
      refine wpAnyT_takeL (i := 3) 8 (v := ?_) rfl (by kernel_rfl) (by kernel_rfl) (by kernel_rfl) (by kernel_rfl) (by kernel_rfl) (fun _ _ _ h => h) (Or.inl ⟨by rfl, ?_⟩) trivial ?_
      rotate_left 1
      · intro W _; (refine (run_toN W (.tmp 34) (.tmp 35) ?_ A m c ?_ k ?_ hkc hA)); all_goals (first | rfl | (go_simp <;> with_reducible rfl))
      try simp only [Act.put, List.setIfInBounds_toArray, List.set_cons_zero, List.set_cons_succ]
      refine wpAnyT_takeL (i := 5) 8 (v := ?_) rfl (by kernel_rfl) (by kernel_rfl) (by kernel_rfl) (by kernel_rfl) (by kernel_rfl) (fun _ _ _ h => h) (Or.inl ⟨by rfl, ?_⟩) trivial ?_
      rotate_left 1
      · (intro W hSw; (try dsimp only at hSw); go_simp) <;> with_reducible rfl
      try simp only [Act.put, List.setIfInBounds_toArray, List.set_cons_zero, List.set_cons_succ]
      refine wpAnyT_takeL (i := 8) 8 (v := ?_) rfl (by kernel_rfl) (by kernel_rfl) (by kernel_rfl) (by kernel_rfl) (by kernel_rfl) (fun _ _ _ h => h) (Or.inl ⟨by rfl, ?_⟩) trivial ?_
      rotate_left 1
      · (intro W hSw; (try dsimp only at hSw); go_simp) <;> with_reducible rfl
      try simp only [Act.put, List.setIfInBounds_toArray, List.set_cons_zero, List.set_cons_succ]
      refine wpAnyT_takeL (i := 9) 8 (v := ?_) rfl (by kernel_rfl) (by kernel_rfl) (by kernel_rfl) (by kernel_rfl) (by kernel_rfl) (fun _ _ _ h => h) (Or.inl ⟨by rfl, ?_⟩) trivial ?_
      rotate_left 1
      · (intro W hSw; (try dsimp only at hSw); go_simp) <;> with_reducible rfl
      try simp only [Act.put, List.setIfInBounds_toArray, List.set_cons_zero, List.set_cons_succ]
      refine wpAnyT_takeL (i := 10) 8 (v := ?_) rfl (by kernel_rfl) (by kernel_rfl) (by kernel_rfl) (by kernel_rfl) (by kernel_rfl) (fun _ _ _ h => h) (Or.inl ⟨by rfl, ?_⟩) trivial ?_
      rotate_left 1
      · intro W _; (refine (run_from W (.tmp 41) (.tmp 42) ?_ A m c ?_ k ?_ hkm)); all_goals (first | rfl | (go_simp <;> with_reducible rfl))
      try simp only [Act.put, List.setIfInBounds_toArray, List.set_cons_zero, List.set_cons_succ]
      refine wpAnyT_go2 (i := 0) (j := 6) rfl rfl (by kernel_rfl) (fun K hK => ?_) (fun K hK => ?_)
      · go_simp
        have hx := (Ext.refl w0).alloc (.cells #[] 2)
        have o1 := Own.new0 w0 w.heap.size hX.size
        obtain ⟨b1, hb1⟩ : ∃ b, b = w0.heap.size := ⟨_, rfl⟩
        generalize hw : World.alloc w0 (.cells #[] 2) = w1 at hx o1 ⊢
        rw [← hb1] at o1 ⊢
        clear hb1
        replace hr := hr.ext hx
        replace hX := hX.trans hx
        clear hw hx
        refine hK _ _ ⟨fun _ => trivial, ?_⟩
        clear hK K
        refine wpAnyT_go2 (i := 4) (j := 6) rfl rfl (by kernel_rfl) (fun K hK => ?_) (fun K hK => ?_)
        · refine step_app _ rfl (.tmp 33) (.tmp 36) rfl w.heap.size (.slice (some ⟨b1, 0, none⟩) 0 0) ([]) rfl o1 A k c (ys.take k) rfl (hr.take hkm) (by have := hm.out; simp; omega) hX.size ?_
          intro t1 w2 ot1 hg hb
          have hlo := hX.size
          have hx : Ext w w2 := hX.grow hg (fun k hk => (o1.lt k hk).1)
          replace hr := hr0.ext hx
          replace hX := hx
          clear hx hlo hg hb
          refine hK _ _ ⟨fun _ => trivial, ?_⟩
          clear hK K
          refine wpAnyT_go (i := 6) rfl (by kernel_rfl) fun K hK => ?_
          go_simp
          have hx := (Ext.refl w2).alloc (.cells #[.int .i64 x] 2)
          have BF := Blk.new w2 2 (#[.int .i64 x])
          obtain ⟨bF, hbF⟩ : ∃ b, b = w2.heap.size := ⟨_, rfl⟩
          have hFo : ∀ k, Value.ownBlock (.slice t1.A t1.n t1.c) = some k → k ≠ bF := fun k hk e => by have := (ot1.lt k hk).2; omega
          generalize hw : World.alloc w2 (.cells #[.int .i64 x] 2) = w3 at hx BF ⊢
          rw [← hbF] at BF ⊢
          replace ot1 := ot1.ext hx
          clear hbF
          replace hr := hr.ext hx
          replace hX := hX.trans hx
          clear hw hx
          refine hK _ _ ⟨fun _ => trivial, ?_⟩
          clear hK K
          refine wpAnyT_go (i := 7) rfl (by kernel_rfl) fun K hK => ?_
          refine step_app _ rfl (.tmp 37) (.tmp 39) rfl w.heap.size (.slice t1.A t1.n t1.c) (([] ++ ys.take k)) rfl ot1 (some ⟨bF, 0, none⟩) 1 1 [x] rfl BF.rd1 (by have := hm.out; simp; omega) hX.size ?_
          intro t2 w4 ot2 hg hb
          have hlo := hX.size
          have hx : Ext w w4 := hX.grow hg (fun k hk => (ot1.lt k hk).1)
          replace hr := hr0.ext hx
          replace hX := hx
          clear hx hlo hg hb
          refine hK _ _ ⟨fun _ => trivial, ?_⟩
          clear hK K
          refine wpAnyT_go (i := 11) rfl (by kernel_rfl) fun K hK => ?_
          refine step_app _ rfl (.tmp 40) (.tmp 43) rfl w.heap.size (.slice t2.A t2.n t2.c) (([] ++ ys.take k ++ [x])) rfl ot2 (fromA A c k) (m - k) (c - k) (ys.drop k) rfl (Rd.from_ _ hr hkm hcp1) (by have := hm.out; simp; omega) hX.size ?_
          intro t3 w5 ot3 hg hb
          have hlo := hX.size
          have hx : Ext w w5 := hX.grow hg (fun k hk => (ot2.lt k hk).1)
          replace hr := hr0.ext hx
          replace hX := hx
          clear hx hlo hg hb
          refine hK _ _ ⟨fun _ => trivial, ?_⟩
          clear hK K
          refine wpAnyT_go (i := 12) rfl (by kernel_rfl) fun K hK => ?_
          go_simp
          refine hK _ _ ⟨fun h => absurd rfl h, ?_⟩
          clear hK K
          refine wpAnyT_done (by kernel_rfl) ?_ _
          go_wp2_with fail
          go_ret
          exact ⟨t3, rfl, by rw [hi.out]; exact Own.mono (by simpa using ot3) hlo, hX⟩
        · go_simp
          have hx := (Ext.refl w1).alloc (.cells #[.int .i64 x] 2)
          have BF := Blk.new w1 2 (#[.int .i64 x])
          obtain ⟨bF, hbF⟩ : ∃ b, b = w1.heap.size := ⟨_, rfl⟩
          have hFo : ∀ k, Value.ownBlock (.slice (some ⟨b1, 0, none⟩) 0 0) = some k → k ≠ bF := fun k hk e => by have := (o1.lt k hk).2; omega
          generalize hw : World.alloc w1 (.cells #[.int .i64 x] 2) = w2 at hx BF ⊢
          rw [← hbF] at BF ⊢
          replace o1 := o1.ext hx
          clear hbF
          replace hr := hr.ext hx
          replace hX := hX.trans hx
          clear hw hx
          refine hK _ _ ⟨fun _ => trivial, ?_⟩
          clear hK K
          refine wpAnyT_go (i := 4) rfl (by kernel_rfl) fun K hK => ?_
          refine step_app _ rfl (.tmp 33) (.tmp 36) rfl w.heap.size (.slice (some ⟨b1, 0, none⟩) 0 0) ([]) rfl o1 A k c (ys.take k) rfl (hr.take hkm) (by have := hm.out; simp; omega) hX.size ?_
          intro t1 w3 ot1 hg hb
          have hlo := hX.size
          have hFn : ∀ k, Value.ownBlock (.slice t1.A t1.n t1.c) = some k → k ≠ bF := fun k hk e => by (rcases hb with h | h) <;> (rw [h] at hk; first | exact hFo k hk e | (injection hk with hk; have := BF.lt; omega))
          have BF2 := BF.fr (Fr.of_grown hg) (fun e => hFo _ e rfl)
          clear BF hFo
          have BF := BF2
          have hFo := hFn
          clear BF2 hFn
          have hx : Ext w w3 := hX.grow hg (fun k hk => (o1.lt k hk).1)
          replace hr := hr0.ext hx
          replace hX := hx
          clear hx hlo hg hb
          refine hK _ _ ⟨fun _ => trivial, ?_⟩
          clear hK K
          refine wpAnyT_go (i := 7) rfl (by kernel_rfl) fun K hK => ?_
          refine step_app _ rfl (.tmp 37) (.tmp 39) rfl w.heap.size (.slice t1.A t1.n t1.c) (([] ++ ys.take k)) rfl ot1 (some ⟨bF, 0, none⟩) 1 1 [x] rfl BF.rd1 (by have := hm.out; simp; omega) hX.size ?_
          intro t2 w4 ot2 hg hb
          have hlo := hX.size
          have hx : Ext w w4 := hX.grow hg (fun k hk => (ot1.lt k hk).1)
          replace hr := hr0.ext hx
          replace hX := hx
          clear hx hlo hg hb
          refine hK _ _ ⟨fun _ => trivial, ?_⟩
          clear hK K
          refine wpAnyT_go (i := 11) rfl (by kernel_rfl) fun K hK => ?_
          refine step_app _ rfl (.tmp 40) (.tmp 43) rfl w.heap.size (.slice t2.A t2.n t2.c) (([] ++ ys.take k ++ [x])) rfl ot2 (fromA A c k) (m - k) (c - k) (ys.drop k) rfl (Rd.from_ _ hr hkm hcp1) (by have := hm.out; simp; omega) hX.size ?_
          intro t3 w5 ot3 hg hb
          have hlo := hX.size
          have hx : Ext w w5 := hX.grow hg (fun k hk => (ot2.lt k hk).1)
          replace hr := hr0.ext hx
          replace hX := hx
          clear hx hlo hg hb
          refine hK _ _ ⟨fun _ => trivial, ?_⟩
          clear hK K
          refine wpAnyT_go (i := 12) rfl (by kernel_rfl) fun K hK => ?_
          go_simp
          refine hK _ _ ⟨fun h => absurd rfl h, ?_⟩
          clear hK K
          refine wpAnyT_done (by kernel_rfl) ?_ _
          go_wp2_with fail
          go_ret
          exact ⟨t3, rfl, by rw [hi.out]; exact Own.mono (by simpa using ot3) hlo, hX⟩
      · go_simp
        have hx := (Ext.refl w0).alloc (.cells #[.int .i64 x] 2)
        have BF := Blk.new w0 2 (#[.int .i64 x])
        obtain ⟨bF, hbF⟩ : ∃ b, b = w0.heap.size := ⟨_, rfl⟩
        generalize hw : World.alloc w0 (.cells #[.int .i64 x] 2) = w1 at hx BF ⊢
        rw [← hbF] at BF ⊢
        clear hbF
        have BF0 := BF
        clear BF
        replace hr := hr.ext hx
        replace hX := hX.trans hx
        clear hw hx
        refine hK _ _ ⟨fun _ => trivial, ?_⟩
        clear hK K
        refine wpAnyT_go (i := 0) rfl (by kernel_rfl) fun K hK => ?_
        go_simp
        have hx := (Ext.refl w1).alloc (.cells #[] 2)
        have o1 := Own.new0 w1 w.heap.size hX.size
        obtain ⟨b1, hb1⟩ : ∃ b, b = w1.heap.size := ⟨_, rfl⟩
        generalize hw : World.alloc w1 (.cells #[] 2) = w2 at hx o1 ⊢
        rw [← hb1] at o1 ⊢
        have hlF := BF0.lt
        have hFo : ∀ k, Value.ownBlock (.slice (some ⟨b1, 0, none⟩) 0 0) = some k → k ≠ bF := fun k hk e => by have := ownBlock_eq hk; omega
        have BF := BF0.ext hx
        clear BF0 hlF
        clear hb1
        replace hr := hr.ext hx
        replace hX := hX.trans hx
        clear hw hx
        refine hK _ _ ⟨fun _ => trivial, ?_⟩
        clear hK K
        refine wpAnyT_go (i := 4) rfl (by kernel_rfl) fun K hK => ?_
        refine step_app _ rfl (.tmp 33) (.tmp 36) rfl w.heap.size (.slice (some ⟨b1, 0, none⟩) 0 0) ([]) rfl o1 A k c (ys.take k) rfl (hr.take hkm) (by have := hm.out; simp; omega) hX.size ?_
        intro t1 w3 ot1 hg hb
        have hlo := hX.size
        have hFn : ∀ k, Value.ownBlock (.slice t1.A t1.n t1.c) = some k → k ≠ bF := fun k hk e => by (rcases hb with h | h) <;> (rw [h] at hk; first | exact hFo k hk e | (injection hk with hk; have := BF.lt; omega))
        have BF2 := BF.fr (Fr.of_grown hg) (fun e => hFo _ e rfl)
        clear BF hFo
        have BF := BF2
        have hFo := hFn
        clear BF2 hFn
        have hx : Ext w w3 := hX.grow hg (fun k hk => (o1.lt k hk).1)
        replace hr := hr0.ext hx
        replace hX := hx
        clear hx hlo hg hb
        refine hK _ _ ⟨fun _ => trivial, ?_⟩
        clear hK K
        refine wpAnyT_go (i := 7) rfl (by kernel_rfl) fun K hK => ?_
        refine step_app _ rfl (.tmp 37) (.tmp 39) rfl w.heap.size (.slice t1.A t1.n t1.c) (([] ++ ys.take k)) rfl ot1 (some ⟨bF, 0, none⟩) 1 1 [x] rfl BF.rd1 (by have := hm.out; simp; omega) hX.size ?_
        intro t2 w4 ot2 hg hb
        have hlo := hX.size
        have hx : Ext w w4 := hX.grow hg (fun k hk => (ot1.lt k hk).1)
        replace hr := hr0.ext hx
        replace hX := hx
        clear hx hlo hg hb
        refine hK _ _ ⟨fun _ => trivial, ?_⟩
        clear hK K
        refine wpAnyT_go (i := 11) rfl (by kernel_rfl) fun K hK => ?_
        refine step_app _ rfl (.tmp 40) (.tmp 43) rfl w.heap.size (.slice t2.A t2.n t2.c) (([] ++ ys.take k ++ [x])) rfl ot2 (fromA A c k) (m - k) (c - k) (ys.drop k) rfl (Rd.from_ _ hr hkm hcp1) (by have := hm.out; simp; omega) hX.size ?_
        intro t3 w5 ot3 hg hb
        have hlo := hX.size
        have hx : Ext w w5 := hX.grow hg (fun k hk => (ot2.lt k hk).1)
        replace hr := hr0.ext hx
        replace hX := hx
        clear hx hlo hg hb
        refine hK _ _ ⟨fun _ => trivial, ?_⟩
        clear hK K
        refine wpAnyT_go (i := 12) rfl (by kernel_rfl) fun K hK => ?_
        go_simp
        refine hK _ _ ⟨fun h => absurd rfl h, ?_⟩
        clear hK K
        refine wpAnyT_done (by kernel_rfl) ?_ _
        go_wp2_with fail
        go_ret
        exact ⟨t3, rfl, by rw [hi.out]; exact Own.mono (by simpa using ot3) hlo, hX⟩
    obtain ⟨b, off, y, rfl, hbl, hc1, hy⟩ := hr0.el hlt
    have hyk : ys[k]? = some y := hy.out
    by_cases hyx : y < x
    case pos =>
      clear hA hyk
      go_wp2
      go_round
      case rel => exact ⟨k + 1, by omega, by go_num, hide fun j hj hjk => by
        by_cases e : j = k
        · subst e
          have e2 := hy.out
          rw [List.getElem?_eq_getElem hj] at e2
          injection e2 with e2
          rw [e2]; exact hyx
        · exact hno.out j hj (by omega)⟩
      case measure => simp [intOf]; omega
    have hlo2 := hno.out
    have hins := insS_at (lt := ltI) x (l := ys) (k := k) (by have := hm.out; omega) hlo2 (fun hj => by
      have e2 := hyk
      rw [List.getElem?_eq_getElem hj] at e2
      injection e2 with e2
      rw [e2]; exact hyx)
    by_cases hye : y = x
    case pos =>
      have hi := hide (show insS ltI x ys = ys by rw [hins, if_pos (by rw [hyk, hye])])
      have hb : (y == x) = true := by simpa using hye
      clear hins hlo2 hye hno hyk hA
      go_wp2
      go_ret
      exact ⟨⟨some ⟨b, off, none⟩, m, c⟩, rfl, by rw [hi.out]; exact ho, Ext.refl w⟩
    have hi := hide (show insS ltI x ys = ys.take k ++ x :: ys.drop k by rw [hins, if_neg (by rw [hyk]; simpa using hye)])
    have hb : (y == x) = false := by simpa using hye
    clear hins hlo2 hye hno hyk
    go_upto_region 6 with fail
    obtain ⟨A, hAe⟩ : ∃ A, A = some (⟨b, off, none⟩ : Addr) := ⟨_, rfl⟩
    rw [← hAe] at hA hr0 ho ⊢
    clear hAe hbl hc1 hy hyx hb
    refine wp_region_sink (S := fun _ => True) 12 (by kernel_rfl) ?_
    change wpAnyT _ _ _ _ _ _ _ _ _ (World.drew _)
    have hX := (Ext.refl w).drew
    have hr : Rd _ A m ys := hr0.drew
    generalize hwd : World.drew _ = w0 at hX hr ⊢
    clear hwd
    refine wpAnyT_takeL (i := 1) 8 (v := ?_) rfl (by kernel_rfl) (by kernel_rfl) (by kernel_rfl) (by kernel_rfl) (by kernel_rfl) (fun _ _ _ h => h) (Or.inl ⟨by rfl, ?_⟩) trivial ?_
    rotate_left 1
    · (intro W hSw; (try dsimp only at hSw); go_simp) <;> with_reducible rfl
    try simp only [Act.put, List.setIfInBounds_toArray, List.set_cons_zero, List.set_cons_succ]
    refine wpAnyT_takeL (i := 2) 8 (v := ?_) rfl (by kernel_rfl) (by kernel_rfl) (by kernel_rfl) (by kernel_rfl) (by kernel_rfl) (fun _ _ _ h => h) (Or.inl ⟨by rfl, ?_⟩) trivial ?_
    rotate_left 1
    · (intro W hSw; (try dsimp only at hSw); go_simp) <;> with_reducible rfl
    try simp only [Act.put, List.setIfInBounds_toArray, List.set_cons_zero, List.set_cons_succ]
    refine wpAnyT_takeL (i := 3) 8 (v := ?_) rfl (by kernel_rfl) (by kernel_rfl) (by kernel_rfl) (by kernel_rfl) (by kernel_rfl) (fun _ _ _ h => h) (Or.inl ⟨by rfl, ?_⟩) trivial ?_
    rotate_left 1
    · intro W _; (refine (run_toN W (.tmp 34) (.tmp 35) ?_ A m c ?_ k ?_ hkc hA)); all_goals (first | rfl | (go_simp <;> with_reducible rfl))
    try simp only [Act.put, List.setIfInBounds_toArray, List.set_cons_zero, List.set_cons_succ]
    refine wpAnyT_takeL (i := 5) 8 (v := ?_) rfl (by kernel_rfl) (by kernel_rfl) (by kernel_rfl) (by kernel_rfl) (by kernel_rfl) (fun _ _ _ h => h) (Or.inl ⟨by rfl, ?_⟩) trivial ?_
    rotate_left 1
    · (intro W hSw; (try dsimp only at hSw); go_simp) <;> with_reducible rfl
    try simp only [Act.put, List.setIfInBounds_toArray, List.set_cons_zero, List.set_cons_succ]
    refine wpAnyT_takeL (i := 8) 8 (v := ?_) rfl (by kernel_rfl) (by kernel_rfl) (by kernel_rfl) (by kernel_rfl) (by kernel_rfl) (fun _ _ _ h => h) (Or.inl ⟨by rfl, ?_⟩) trivial ?_
    rotate_left 1
    · (intro W hSw; (try dsimp only at hSw); go_simp) <;> with_reducible rfl
    try simp only [Act.put, List.setIfInBounds_toArray, List.set_cons_zero, List.set_cons_succ]
    refine wpAnyT_takeL (i := 9) 8 (v := ?_) rfl (by kernel_rfl) (by kernel_rfl) (by kernel_rfl) (by kernel_rfl) (by kernel_rfl) (fun _ _ _ h => h) (Or.inl ⟨by rfl, ?_⟩) trivial ?_
    rotate_left 1
    · (intro W hSw; (try dsimp only at hSw); go_simp) <;> with_reducible rfl
    try simp only [Act.put, List.setIfInBounds_toArray, List.set_cons_zero, List.set_cons_succ]
    refine wpAnyT_takeL (i := 10) 8 (v := ?_) rfl (by kernel_rfl) (by kernel_rfl) (by kernel_rfl) (by kernel_rfl) (by kernel_rfl) (fun _ _ _ h => h) (Or.inl ⟨by rfl, ?_⟩) trivial ?_
    rotate_left 1
    · intro W _; (refine (run_from W (.tmp 41) (.tmp 42) ?_ A m c ?_ k ?_ hkm)); all_goals (first | rfl | (go_simp <;> with_reducible rfl))
    try simp only [Act.put, List.setIfInBounds_toArray, List.set_cons_zero, List.set_cons_succ]
    refine wpAnyT_go2 (i := 0) (j := 6) rfl rfl (by kernel_rfl) (fun K hK => ?_) (fun K hK => ?_)
    · go_simp
      have hx := (Ext.refl w0).alloc (.cells #[] 2)
      have o1 := Own.new0 w0 w.heap.size hX.size
      obtain ⟨b1, hb1⟩ : ∃ b, b = w0.heap.size := ⟨_, rfl⟩
      generalize hw : World.alloc w0 (.cells #[] 2) = w1 at hx o1 ⊢
      rw [← hb1] at o1 ⊢
      clear hb1
      replace hr := hr.ext hx
      replace hX := hX.trans hx
      clear hw hx
      refine hK _ _ ⟨fun _ => trivial, ?_⟩
      clear hK K
      refine wpAnyT_go2 (i := 4) (j := 6) rfl rfl (by kernel_rfl) (fun K hK => ?_) (fun K hK => ?_)
      · refine step_app _ rfl (.tmp 33) (.tmp 36) rfl w.heap.size (.slice (some ⟨b1, 0, none⟩) 0 0) ([]) rfl o1 A k c (ys.take k) rfl (hr.take hkm) (by have := hm.out; simp; omega) hX.size ?_
        intro t1 w2 ot1 hg hb
        have hlo := hX.size
        have hx : Ext w w2 := hX.grow hg (fun k hk => (o1.lt k hk).1)
        replace hr := hr0.ext hx
        replace hX := hx
        clear hx hlo hg hb
        refine hK _ _ ⟨fun _ => trivial, ?_⟩
        clear hK K
        refine wpAnyT_go (i := 6) rfl (by kernel_rfl) fun K hK => ?_
        go_simp
        have hx := (Ext.refl w2).alloc (.cells #[.int .i64 x] 2)
        have BF := Blk.new w2 2 (#[.int .i64 x])
        obtain ⟨bF, hbF⟩ : ∃ b, b = w2.heap.size := ⟨_, rfl⟩
        have hFo : ∀ k, Value.ownBlock (.slice t1.A t1.n t1.c) = some k → k ≠ bF := fun k hk e => by have := (ot1.lt k hk).2; omega
        generalize hw : World.alloc w2 (.cells #[.int .i64 x] 2) = w3 at hx BF ⊢
        rw [← hbF] at BF ⊢
        replace ot1 := ot1.ext hx
        clear hbF
        replace hr := hr.ext hx
        replace hX := hX.trans hx
        clear hw hx
        refine hK _ _ ⟨fun _ => trivial, ?_⟩
        clear hK K
        refine wpAnyT_go (i := 7) rfl (by kernel_rfl) fun K hK => ?_
        refine step_app _ rfl (.tmp 37) (.tmp 39) rfl w.heap.size (.slice t1.A t1.n t1.c) (([] ++ ys.take k)) rfl ot1 (some ⟨bF, 0, none⟩) 1 1 [x] rfl BF.rd1 (by have := hm.out; simp; omega) hX.size ?_
        intro t2 w4 ot2 hg hb
        have hlo := hX.size
        have hx : Ext w w4 := hX.grow hg (fun k hk => (ot1.lt k hk).1)
        replace hr := hr0.ext hx
        replace hX := hx
        clear hx hlo hg hb
        refine hK _ _ ⟨fun _ => trivial, ?_⟩
        clear hK K
        refine wpAnyT_go (i := 11) rfl (by kernel_rfl) fun K hK => ?_
        refine step_app _ rfl (.tmp 40) (.tmp 43) rfl w.heap.size (.slice t2.A t2.n t2.c) (([] ++ ys.take k ++ [x])) rfl ot2 (fromA A c k) (m - k) (c - k) (ys.drop k) rfl (Rd.from_ _ hr hkm hcp1) (by have := hm.out; simp; omega) hX.size ?_
        intro t3 w5 ot3 hg hb
        have hlo := hX.size
        have hx : Ext w w5 := hX.grow hg (fun k hk => (ot2.lt k hk).1)
        replace hr := hr0.ext hx
        replace hX := hx
        clear hx hlo hg hb
        refine hK _ _ ⟨fun _ => trivial, ?_⟩
        clear hK K
        refine wpAnyT_go (i := 12) rfl (by kernel_rfl) fun K hK => ?_
        go_simp
        refine hK _ _ ⟨fun h => absurd rfl h, ?_⟩
        clear hK K
        refine wpAnyT_done (by kernel_rfl) ?_ _
        go_wp2_with fail
        go_ret
        exact ⟨t3, rfl, by rw [hi.out]; exact Own.mono (by simpa using ot3) hlo, hX⟩
      · go_simp
        have hx := (Ext.refl w1).alloc (.cells #[.int .i64 x] 2)
        have BF := Blk.new w1 2 (#[.int .i64 x])
        obtain ⟨bF, hbF⟩ : ∃ b, b = w1.heap.size := ⟨_, rfl⟩
        have hFo : ∀ k, Value.ownBlock (.slice (some ⟨b1, 0, none⟩) 0 0) = some k → k ≠ bF := fun k hk e => by have := (o1.lt k hk).2; omega
        generalize hw : World.alloc w1 (.cells #[.int .i64 x] 2) = w2 at hx BF ⊢
        rw [← hbF] at BF ⊢
        replace o1 := o1.ext hx
        clear hbF
        replace hr := hr.ext hx
        replace hX := hX.trans hx
        clear hw hx
        refine hK _ _ ⟨fun _ => trivial, ?_⟩
        clear hK K
        refine wpAnyT_go (i := 4) rfl (by kernel_rfl) fun K hK => ?_
        refine step_app _ rfl (.tmp 33) (.tmp 36) rfl w.heap.size (.slice (some ⟨b1, 0, none⟩) 0 0) ([]) rfl o1 A k c (ys.take k) rfl (hr.take hkm) (by have := hm.out; simp; omega) hX.size ?_
        intro t1 w3 ot1 hg hb
        have hlo := hX.size
        have hFn : ∀ k, Value.ownBlock (.slice t1.A t1.n t1.c) = some k → k ≠ bF := fun k hk e => by (rcases hb with h | h) <;> (rw [h] at hk; first | exact hFo k hk e | (injection hk with hk; have := BF.lt; omega))
        have BF2 := BF.fr (Fr.of_grown hg) (fun e => hFo _ e rfl)
        clear BF hFo
        have BF := BF2
        have hFo := hFn
        clear BF2 hFn
        have hx : Ext w w3 := hX.grow hg (fun k hk => (o1.lt k hk).1)
        replace hr := hr0.ext hx
        replace hX := hx
        clear hx hlo hg hb
        refine hK _ _ ⟨fun _ => trivial, ?_⟩
        clear hK K
        refine wpAnyT_go (i := 7) rfl (by kernel_rfl) fun K hK => ?_
        refine step_app _ rfl (.tmp 37) (.tmp 39) rfl w.heap.size (.slice t1.A t1.n t1.c) (([] ++ ys.take k)) rfl ot1 (some ⟨bF, 0, none⟩) 1 1 [x] rfl BF.rd1 (by have := hm.out; simp; omega) hX.size ?_
        intro t2 w4 ot2 hg hb
        have hlo := hX.size
        have hx : Ext w w4 := hX.grow hg (fun k hk => (ot1.lt k hk).1)
        replace hr := hr0.ext hx
        replace hX := hx
        clear hx hlo hg hb
        refine hK _ _ ⟨fun _ => trivial, ?_⟩
        clear hK K
        refine wpAnyT_go (i := 11) rfl (by kernel_rfl) fun K hK => ?_
        refine step_app _ rfl (.tmp 40) (.tmp 43) rfl w.heap.size (.slice t2.A t2.n t2.c) (([] ++ ys.take k ++ [x])) rfl ot2 (fromA A c k) (m - k) (c - k) (ys.drop k) rfl (Rd.from_ _ hr hkm hcp1) (by have := hm.out; simp; omega) hX.size ?_
        intro t3 w5 ot3 hg hb
        have hlo := hX.size
        have hx : Ext w w5 := hX.grow hg (fun k hk => (ot2.lt k hk).1)
        replace hr := hr0.ext hx
        replace hX := hx
        clear hx hlo hg hb
        refine hK _ _ ⟨fun _ => trivial, ?_⟩
        clear hK K
        refine wpAnyT_go (i := 12) rfl (by kernel_rfl) fun K hK => ?_
        go_simp
        refine hK _ _ ⟨fun h => absurd rfl h, ?_⟩
        clear hK K
        refine wpAnyT_done (by kernel_rfl) ?_ _
        go_wp2_with fail
        go_ret
        exact ⟨t3, rfl, by rw [hi.out]; exact Own.mono (by simpa using ot3) hlo, hX⟩
    · go_simp
      have hx := (Ext.refl w0).alloc (.cells #[.int .i64 x] 2)
      have BF := Blk.new w0 2 (#[.int .i64 x])
      obtain ⟨bF, hbF⟩ : ∃ b, b = w0.heap.size := ⟨_, rfl⟩
      generalize hw : World.alloc w0 (.cells #[.int .i64 x] 2) = w1 at hx BF ⊢
      rw [← hbF] at BF ⊢
      clear hbF
      have BF0 := BF
      clear BF
      replace hr := hr.ext hx
      replace hX := hX.trans hx
      clear hw hx
      refine hK _ _ ⟨fun _ => trivial, ?_⟩
      clear hK K
      refine wpAnyT_go (i := 0) rfl (by kernel_rfl) fun K hK => ?_
      go_simp
      have hx := (Ext.refl w1).alloc (.cells #[] 2)
      have o1 := Own.new0 w1 w.heap.size hX.size
      obtain ⟨b1, hb1⟩ : ∃ b, b = w1.heap.size := ⟨_, rfl⟩
      generalize hw : World.alloc w1 (.cells #[] 2) = w2 at hx o1 ⊢
      rw [← hb1] at o1 ⊢
      have hlF := BF0.lt
      have hFo : ∀ k, Value.ownBlock (.slice (some ⟨b1, 0, none⟩) 0 0) = some k → k ≠ bF := fun k hk e => by have := ownBlock_eq hk; omega
      have BF := BF0.ext hx
      clear BF0 hlF
      clear hb1
      replace hr := hr.ext hx
      replace hX := hX.trans hx
      clear hw hx
      refine hK _ _ ⟨fun _ => trivial, ?_⟩
      clear hK K
      refine wpAnyT_go (i := 4) rfl (by kernel_rfl) fun K hK => ?_
      refine step_app _ rfl (.tmp 33) (.tmp 36) rfl w.heap.size (.slice (some ⟨b1, 0, none⟩) 0 0) ([]) rfl o1 A k c (ys.take k) rfl (hr.take hkm) (by have := hm.out; simp; omega) hX.size ?_
      intro t1 w3 ot1 hg hb
      have hlo := hX.size
      have hFn : ∀ k, Value.ownBlock (.slice t1.A t1.n t1.c) = some k → k ≠ bF := fun k hk e => by (rcases hb with h | h) <;> (rw [h] at hk; first | exact hFo k hk e | (injection hk with hk; have := BF.lt; omega))
      have BF2 := BF.fr (Fr.of_grown hg) (fun e => hFo _ e rfl)
      clear BF hFo
      have BF := BF2
      have hFo := hFn
      clear BF2 hFn
      have hx : Ext w w3 := hX.grow hg (fun k hk => (o1.lt k hk).1)
      replace hr := hr0.ext hx
      replace hX := hx
      clear hx hlo hg hb
      refine hK _ _ ⟨fun _ => trivial, ?_⟩
      clear hK K
      refine wpAnyT_go (i := 7) rfl (by kernel_rfl) fun K hK => ?_
      refine step_app _ rfl (.tmp 37) (.tmp 39) rfl w.heap.size (.slice t1.A t1.n t1.c) (([] ++ ys.take k)) rfl ot1 (some ⟨bF, 0, none⟩) 1 1 [x] rfl BF.rd1 (by have := hm.out; simp; omega) hX.size ?_
      intro t2 w4 ot2 hg hb
      have hlo := hX.size
      have hx : Ext w w4 := hX.grow hg (fun k hk => (ot1.lt k hk).1)
      replace hr := hr0.ext hx
      replace hX := hx
      clear hx hlo hg hb
      refine hK _ _ ⟨fun _ => trivial, ?_⟩
      clear hK K
      refine wpAnyT_go (i := 11) rfl (by kernel_rfl) fun K hK => ?_
      refine step_app _ rfl (.tmp 40) (.tmp 43) rfl w.heap.size (.slice t2.A t2.n t2.c) (([] ++ ys.take k ++ [x])) rfl ot2 (fromA A c k) (m - k) (c - k) (ys.drop k) rfl (Rd.from_ _ hr hkm hcp1) (by have := hm.out; simp; omega) hX.size ?_
      intro t3 w5 ot3 hg hb
      have hlo := hX.size
      have hx : Ext w w5 := hX.grow hg (fun k hk => (ot2.lt k hk).1)
      replace hr := hr0.ext hx
      replace hX := hx
      clear hx hlo hg hb
      refine hK _ _ ⟨fun _ => trivial, ?_⟩
      clear hK K
      refine wpAnyT_go (i := 12) rfl (by kernel_rfl) fun K hK => ?_
      go_simp
      refine hK _ _ ⟨fun h => absurd rfl h, ?_⟩
      clear hK K
      refine wpAnyT_done (by kernel_rfl) ?_ _
      go_wp2_with fail
      go_ret
      exact ⟨t3, rfl, by rw [hi.out]; exact Own.mono (by simpa using ot3) hlo, hX⟩
end Go.Proofs.Ytmcnnbjgehmmoaa.mem
