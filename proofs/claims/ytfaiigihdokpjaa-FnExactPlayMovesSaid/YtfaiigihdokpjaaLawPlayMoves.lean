/-
  The law FnExactPlayMoves holds of the given program for every input: it returns true, and each argument reads as it did.
-/
import Derived.Test.YtfaiigihdokpjaaSelOpen
import Derived.Test.YtfaiigihdokpjaaPlayM
namespace Go.Proofs.Ytfaiigihdokpjaa.mem
open Go.ChangeShapes Go.WideShapes Go.ChangeAt Go.RowKit
set_option linter.unusedVariables false
set_option maxHeartbeats 4000000 in
theorem law_PlayMoves (x : SelA) (y : SelL) (u : Sl) (us : List Int) (w : World) (ix : InS w x y) (iu : In1 w u us) :
    Calls Try.prog 7 #[.agg #[.slice x.p.x.A x.p.x.n x.p.x.c, .slice x.p.y.A x.p.y.n x.p.y.c, .slice x.p.z.A x.p.z.n x.p.z.c, .slice x.s.A x.s.n x.s.c, .int .i64 x.t, .int .i64 x.q], .slice u.A u.n u.c] w fun e w' => e = .returned (.bool true) ∧ Ext w w' := by
  have hX := Ext.refl w
  have hPx := Blk.new w 39 (#[.slice x.p.x.A x.p.x.n x.p.x.c, .slice x.p.y.A x.p.y.n x.p.y.c, .slice x.p.z.A x.p.z.n x.p.z.c, .slice x.s.A x.s.n x.s.c, .int .i64 x.t, .int .i64 x.q])
  replace hX := hX.alloc (.cells #[.slice x.p.x.A x.p.x.n x.p.x.c, .slice x.p.y.A x.p.y.n x.p.y.c, .slice x.p.z.A x.p.z.n x.p.z.c, .slice x.s.A x.s.n x.s.c, .int .i64 x.t, .int .i64 x.q] 39)
  have mu := iu.max
  unfold maxLen at mu
  by_cases hsu : u.n ≤ 1048576
  case neg =>
    go_enter Try.func7, Try.ntmps7
    go_wp2
    go_ret
    exact ⟨rfl, hX⟩
  have ru := iu.rds (by omega)
  by_cases hsx : 0 ≤ szS 1048576 x
  case neg =>
    go_enter Try.func7, Try.ntmps7
    obtain ⟨qhPx0, qhPx1, qhPx2, qhPx3, qhPx4, qhPx5⟩ := hPx.c6
    go_wp2_with fail
    refine (szSelection_any x _ _ (by omega) (by omega) ix).mono ?_
    rintro e w1 ⟨rfl, hx⟩
    clear qhPx0 qhPx1 qhPx2 qhPx3 qhPx4 qhPx5
    replace hX := hX.trans hx
    have z1 : w.heap.size + 1 ≤ w1.heap.size := (by have := hx.size; simpa using this)
    replace hPx := hPx.ext hx
    clear hx
    obtain ⟨qhPx0, qhPx1, qhPx2, qhPx3, qhPx4, qhPx5⟩ := hPx.c6
    go_wp2
    go_ret
    exact ⟨rfl, hX⟩
  have rx := ix.rds hsx (by omega)
  have hlx := (szS_pos hsx (by omega)).2
  go_enter Try.func7, Try.ntmps7
  obtain ⟨qhPx0, qhPx1, qhPx2, qhPx3, qhPx4, qhPx5⟩ := hPx.c6
  go_wp2_with fail
  refine (szSelection_any x _ _ (by omega) (by omega) ix).mono ?_
  rintro e w1 ⟨rfl, hx⟩
  clear qhPx0 qhPx1 qhPx2 qhPx3 qhPx4 qhPx5
  replace hX := hX.trans hx
  have z1 : w.heap.size + 1 ≤ w1.heap.size := (by have := hx.size; simpa using this)
  replace hPx := hPx.ext hx
  clear hx
  obtain ⟨qhPx0, qhPx1, qhPx2, qhPx3, qhPx4, qhPx5⟩ := hPx.c6
  go_wp2_with fail
  refine (toSelection_any x y _ (rx.ext hX)).mono ?_
  rintro e w2 ⟨xa, rfl, oxa, hx⟩
  clear qhPx0 qhPx1 qhPx2 qhPx3 qhPx4 qhPx5
  replace hX := hX.trans hx
  have z2 : w1.heap.size ≤ w2.heap.size := (by have := hx.size; simpa using this)
  replace hPx := hPx.ext hx
  have rgoxa : ∀ k, blksS xa k → w1.heap.size ≤ k ∧ k < w2.heap.size := (fun k hk => by have := oxa.lt hk; simpa using this)
  clear hx
  obtain ⟨qhPx0, qhPx1, qhPx2, qhPx3, qhPx4, qhPx5⟩ := hPx.c6
  go_wp2_with fail
  refine (toInt64S_any u us _ (ru.ext hX)).mono ?_
  rintro e w3 ⟨ua, rfl, oua, hx⟩
  clear qhPx0 qhPx1 qhPx2 qhPx3 qhPx4 qhPx5
  replace hX := hX.trans hx
  have z3 : w2.heap.size ≤ w3.heap.size := (by have := hx.size; simpa using this)
  replace hPx := hPx.ext hx
  replace oxa := oxa.ext hx
  have rgoua : ∀ k, Value.ownBlock (.slice ua.A ua.n ua.c) = some k → w2.heap.size ≤ k ∧ k < w3.heap.size := (fun k hk => by have := oua.lt k hk; simpa using this)
  clear hx
  obtain ⟨qhPx0, qhPx1, qhPx2, qhPx3, qhPx4, qhPx5⟩ := hPx.c6
  go_wp2_with fail
  refine (spec.PlayMoves_any xa y ua us _ oxa.rd oua.rd ).mono ?_
  rintro e w4 ⟨tw0, rfl, otw0, hx⟩
  clear qhPx0 qhPx1 qhPx2 qhPx3 qhPx4 qhPx5
  replace hX := hX.trans hx
  have z4 : w3.heap.size ≤ w4.heap.size := (by have := hx.size; simpa using this)
  replace hPx := hPx.ext hx
  replace oxa := oxa.ext hx
  replace oua := oua.ext hx
  have rgotw0 : ∀ k, blksS tw0 k → w3.heap.size ≤ k ∧ k < w4.heap.size := (fun k hk => by have := otw0.lt hk; simpa using this)
  clear hx
  have hTw0 := Blk.new w4 42 (#[.slice tw0.p.x.A tw0.p.x.n tw0.p.x.c, .slice tw0.p.y.A tw0.p.y.n tw0.p.y.c, .slice tw0.p.z.A tw0.p.z.n tw0.p.z.c, .slice tw0.s.A tw0.s.n tw0.s.c, .int .i64 tw0.t, .int .i64 tw0.q])
  replace hPx := hPx.alloc (.cells #[.slice tw0.p.x.A tw0.p.x.n tw0.p.x.c, .slice tw0.p.y.A tw0.p.y.n tw0.p.y.c, .slice tw0.p.z.A tw0.p.z.n tw0.p.z.c, .slice tw0.s.A tw0.s.n tw0.s.c, .int .i64 tw0.t, .int .i64 tw0.q] 42)
  replace oxa := oxa.alloc (.cells #[.slice tw0.p.x.A tw0.p.x.n tw0.p.x.c, .slice tw0.p.y.A tw0.p.y.n tw0.p.y.c, .slice tw0.p.z.A tw0.p.z.n tw0.p.z.c, .slice tw0.s.A tw0.s.n tw0.s.c, .int .i64 tw0.t, .int .i64 tw0.q] 42)
  replace oua := oua.alloc (.cells #[.slice tw0.p.x.A tw0.p.x.n tw0.p.x.c, .slice tw0.p.y.A tw0.p.y.n tw0.p.y.c, .slice tw0.p.z.A tw0.p.z.n tw0.p.z.c, .slice tw0.s.A tw0.s.n tw0.s.c, .int .i64 tw0.t, .int .i64 tw0.q] 42)
  replace otw0 := otw0.alloc (.cells #[.slice tw0.p.x.A tw0.p.x.n tw0.p.x.c, .slice tw0.p.y.A tw0.p.y.n tw0.p.y.c, .slice tw0.p.z.A tw0.p.z.n tw0.p.z.c, .slice tw0.s.A tw0.s.n tw0.s.c, .int .i64 tw0.t, .int .i64 tw0.q] 42)
  replace hX := hX.alloc (.cells #[.slice tw0.p.x.A tw0.p.x.n tw0.p.x.c, .slice tw0.p.y.A tw0.p.y.n tw0.p.y.c, .slice tw0.p.z.A tw0.p.z.n tw0.p.z.c, .slice tw0.s.A tw0.s.n tw0.s.c, .int .i64 tw0.t, .int .i64 tw0.q] 42)
  obtain ⟨qhPx0, qhPx1, qhPx2, qhPx3, qhPx4, qhPx5⟩ := hPx.c6
  obtain ⟨qhTw00, qhTw01, qhTw02, qhTw03, qhTw04, qhTw05⟩ := hTw0.c6
  go_wp2_with fail
  refine (toSelection_any x y _ (rx.ext hX)).mono ?_
  rintro e w5 ⟨xb, rfl, oxb, hx⟩
  clear qhPx0 qhPx1 qhPx2 qhPx3 qhPx4 qhPx5 qhTw00 qhTw01 qhTw02 qhTw03 qhTw04 qhTw05
  replace hX := hX.trans hx
  have z5 : w4.heap.size + 1 ≤ w5.heap.size := (by have := hx.size; simpa using this)
  replace hPx := hPx.ext hx
  replace hTw0 := hTw0.ext hx
  replace oxa := oxa.ext hx
  replace oua := oua.ext hx
  replace otw0 := otw0.ext hx
  have rgoxb : ∀ k, blksS xb k → w4.heap.size + 1 ≤ k ∧ k < w5.heap.size := (fun k hk => by have := oxb.lt hk; simpa using this)
  clear hx
  have hxxb := Blk.new w5 42 (#[.slice xb.p.x.A xb.p.x.n xb.p.x.c, .slice xb.p.y.A xb.p.y.n xb.p.y.c, .slice xb.p.z.A xb.p.z.n xb.p.z.c, .slice xb.s.A xb.s.n xb.s.c, .int .i64 xb.t, .int .i64 xb.q])
  replace hPx := hPx.alloc (.cells #[.slice xb.p.x.A xb.p.x.n xb.p.x.c, .slice xb.p.y.A xb.p.y.n xb.p.y.c, .slice xb.p.z.A xb.p.z.n xb.p.z.c, .slice xb.s.A xb.s.n xb.s.c, .int .i64 xb.t, .int .i64 xb.q] 42)
  replace hTw0 := hTw0.alloc (.cells #[.slice xb.p.x.A xb.p.x.n xb.p.x.c, .slice xb.p.y.A xb.p.y.n xb.p.y.c, .slice xb.p.z.A xb.p.z.n xb.p.z.c, .slice xb.s.A xb.s.n xb.s.c, .int .i64 xb.t, .int .i64 xb.q] 42)
  replace oxa := oxa.alloc (.cells #[.slice xb.p.x.A xb.p.x.n xb.p.x.c, .slice xb.p.y.A xb.p.y.n xb.p.y.c, .slice xb.p.z.A xb.p.z.n xb.p.z.c, .slice xb.s.A xb.s.n xb.s.c, .int .i64 xb.t, .int .i64 xb.q] 42)
  replace oua := oua.alloc (.cells #[.slice xb.p.x.A xb.p.x.n xb.p.x.c, .slice xb.p.y.A xb.p.y.n xb.p.y.c, .slice xb.p.z.A xb.p.z.n xb.p.z.c, .slice xb.s.A xb.s.n xb.s.c, .int .i64 xb.t, .int .i64 xb.q] 42)
  replace otw0 := otw0.alloc (.cells #[.slice xb.p.x.A xb.p.x.n xb.p.x.c, .slice xb.p.y.A xb.p.y.n xb.p.y.c, .slice xb.p.z.A xb.p.z.n xb.p.z.c, .slice xb.s.A xb.s.n xb.s.c, .int .i64 xb.t, .int .i64 xb.q] 42)
  replace oxb := oxb.alloc (.cells #[.slice xb.p.x.A xb.p.x.n xb.p.x.c, .slice xb.p.y.A xb.p.y.n xb.p.y.c, .slice xb.p.z.A xb.p.z.n xb.p.z.c, .slice xb.s.A xb.s.n xb.s.c, .int .i64 xb.t, .int .i64 xb.q] 42)
  replace hX := hX.alloc (.cells #[.slice xb.p.x.A xb.p.x.n xb.p.x.c, .slice xb.p.y.A xb.p.y.n xb.p.y.c, .slice xb.p.z.A xb.p.z.n xb.p.z.c, .slice xb.s.A xb.s.n xb.s.c, .int .i64 xb.t, .int .i64 xb.q] 42)
  obtain ⟨qhPx0, qhPx1, qhPx2, qhPx3, qhPx4, qhPx5⟩ := hPx.c6
  obtain ⟨qhTw00, qhTw01, qhTw02, qhTw03, qhTw04, qhTw05⟩ := hTw0.c6
  obtain ⟨qhxxb0, qhxxb1, qhxxb2, qhxxb3, qhxxb4, qhxxb5⟩ := hxxb.c6
  go_wp2_with fail
  refine (toInt64S_any u us _ (ru.ext hX)).mono ?_
  rintro e w6 ⟨ub, rfl, oub, hx⟩
  clear qhPx0 qhPx1 qhPx2 qhPx3 qhPx4 qhPx5 qhTw00 qhTw01 qhTw02 qhTw03 qhTw04 qhTw05 qhxxb0 qhxxb1 qhxxb2 qhxxb3 qhxxb4 qhxxb5
  replace hX := hX.trans hx
  have z6 : w5.heap.size + 1 ≤ w6.heap.size := (by have := hx.size; simpa using this)
  replace hPx := hPx.ext hx
  replace hTw0 := hTw0.ext hx
  replace hxxb := hxxb.ext hx
  replace oxa := oxa.ext hx
  replace oua := oua.ext hx
  replace otw0 := otw0.ext hx
  replace oxb := oxb.ext hx
  have rgoub : ∀ k, Value.ownBlock (.slice ub.A ub.n ub.c) = some k → w5.heap.size + 1 ≤ k ∧ k < w6.heap.size := (fun k hk => by have := oub.lt k hk; simpa using this)
  clear hx
  obtain ⟨qhPx0, qhPx1, qhPx2, qhPx3, qhPx4, qhPx5⟩ := hPx.c6
  obtain ⟨qhTw00, qhTw01, qhTw02, qhTw03, qhTw04, qhTw05⟩ := hTw0.c6
  obtain ⟨qhxxb0, qhxxb1, qhxxb2, qhxxb3, qhxxb4, qhxxb5⟩ := hxxb.c6
  go_wp2_with fail
  refine (impl.PlayMoves_any xb y ub us _ oxb.rd oub.rd ).mono ?_
  rintro e w7 ⟨tg0, rfl, otg0, hx⟩
  clear qhPx0 qhPx1 qhPx2 qhPx3 qhPx4 qhPx5 qhTw00 qhTw01 qhTw02 qhTw03 qhTw04 qhTw05 qhxxb0 qhxxb1 qhxxb2 qhxxb3 qhxxb4 qhxxb5
  replace hX := hX.trans hx
  have z7 : w6.heap.size ≤ w7.heap.size := (by have := hx.size; simpa using this)
  replace hPx := hPx.ext hx
  replace hTw0 := hTw0.ext hx
  replace hxxb := hxxb.ext hx
  replace oxa := oxa.ext hx
  replace oua := oua.ext hx
  replace otw0 := otw0.ext hx
  replace oxb := oxb.ext hx
  replace oub := oub.ext hx
  have rgotg0 : ∀ k, blksS tg0 k → w6.heap.size ≤ k ∧ k < w7.heap.size := (fun k hk => by have := otg0.lt hk; simpa using this)
  clear hx
  have hTg0 := Blk.new w7 42 (#[.slice tg0.p.x.A tg0.p.x.n tg0.p.x.c, .slice tg0.p.y.A tg0.p.y.n tg0.p.y.c, .slice tg0.p.z.A tg0.p.z.n tg0.p.z.c, .slice tg0.s.A tg0.s.n tg0.s.c, .int .i64 tg0.t, .int .i64 tg0.q])
  replace hPx := hPx.alloc (.cells #[.slice tg0.p.x.A tg0.p.x.n tg0.p.x.c, .slice tg0.p.y.A tg0.p.y.n tg0.p.y.c, .slice tg0.p.z.A tg0.p.z.n tg0.p.z.c, .slice tg0.s.A tg0.s.n tg0.s.c, .int .i64 tg0.t, .int .i64 tg0.q] 42)
  replace hTw0 := hTw0.alloc (.cells #[.slice tg0.p.x.A tg0.p.x.n tg0.p.x.c, .slice tg0.p.y.A tg0.p.y.n tg0.p.y.c, .slice tg0.p.z.A tg0.p.z.n tg0.p.z.c, .slice tg0.s.A tg0.s.n tg0.s.c, .int .i64 tg0.t, .int .i64 tg0.q] 42)
  replace hxxb := hxxb.alloc (.cells #[.slice tg0.p.x.A tg0.p.x.n tg0.p.x.c, .slice tg0.p.y.A tg0.p.y.n tg0.p.y.c, .slice tg0.p.z.A tg0.p.z.n tg0.p.z.c, .slice tg0.s.A tg0.s.n tg0.s.c, .int .i64 tg0.t, .int .i64 tg0.q] 42)
  replace oxa := oxa.alloc (.cells #[.slice tg0.p.x.A tg0.p.x.n tg0.p.x.c, .slice tg0.p.y.A tg0.p.y.n tg0.p.y.c, .slice tg0.p.z.A tg0.p.z.n tg0.p.z.c, .slice tg0.s.A tg0.s.n tg0.s.c, .int .i64 tg0.t, .int .i64 tg0.q] 42)
  replace oua := oua.alloc (.cells #[.slice tg0.p.x.A tg0.p.x.n tg0.p.x.c, .slice tg0.p.y.A tg0.p.y.n tg0.p.y.c, .slice tg0.p.z.A tg0.p.z.n tg0.p.z.c, .slice tg0.s.A tg0.s.n tg0.s.c, .int .i64 tg0.t, .int .i64 tg0.q] 42)
  replace otw0 := otw0.alloc (.cells #[.slice tg0.p.x.A tg0.p.x.n tg0.p.x.c, .slice tg0.p.y.A tg0.p.y.n tg0.p.y.c, .slice tg0.p.z.A tg0.p.z.n tg0.p.z.c, .slice tg0.s.A tg0.s.n tg0.s.c, .int .i64 tg0.t, .int .i64 tg0.q] 42)
  replace oxb := oxb.alloc (.cells #[.slice tg0.p.x.A tg0.p.x.n tg0.p.x.c, .slice tg0.p.y.A tg0.p.y.n tg0.p.y.c, .slice tg0.p.z.A tg0.p.z.n tg0.p.z.c, .slice tg0.s.A tg0.s.n tg0.s.c, .int .i64 tg0.t, .int .i64 tg0.q] 42)
  replace oub := oub.alloc (.cells #[.slice tg0.p.x.A tg0.p.x.n tg0.p.x.c, .slice tg0.p.y.A tg0.p.y.n tg0.p.y.c, .slice tg0.p.z.A tg0.p.z.n tg0.p.z.c, .slice tg0.s.A tg0.s.n tg0.s.c, .int .i64 tg0.t, .int .i64 tg0.q] 42)
  replace otg0 := otg0.alloc (.cells #[.slice tg0.p.x.A tg0.p.x.n tg0.p.x.c, .slice tg0.p.y.A tg0.p.y.n tg0.p.y.c, .slice tg0.p.z.A tg0.p.z.n tg0.p.z.c, .slice tg0.s.A tg0.s.n tg0.s.c, .int .i64 tg0.t, .int .i64 tg0.q] 42)
  replace hX := hX.alloc (.cells #[.slice tg0.p.x.A tg0.p.x.n tg0.p.x.c, .slice tg0.p.y.A tg0.p.y.n tg0.p.y.c, .slice tg0.p.z.A tg0.p.z.n tg0.p.z.c, .slice tg0.s.A tg0.s.n tg0.s.c, .int .i64 tg0.t, .int .i64 tg0.q] 42)
  obtain ⟨qhPx0, qhPx1, qhPx2, qhPx3, qhPx4, qhPx5⟩ := hPx.c6
  obtain ⟨qhTw00, qhTw01, qhTw02, qhTw03, qhTw04, qhTw05⟩ := hTw0.c6
  obtain ⟨qhxxb0, qhxxb1, qhxxb2, qhxxb3, qhxxb4, qhxxb5⟩ := hxxb.c6
  obtain ⟨qhTg00, qhTg01, qhTg02, qhTg03, qhTg04, qhTg05⟩ := hTg0.c6
  go_wp2_with fail
  refine (eqSelection_yes tg0 tw0 _ _ otg0.rd otw0.rd).mono ?_
  rintro e w8 ⟨rfl, hx⟩
  clear qhPx0 qhPx1 qhPx2 qhPx3 qhPx4 qhPx5 qhTw00 qhTw01 qhTw02 qhTw03 qhTw04 qhTw05 qhxxb0 qhxxb1 qhxxb2 qhxxb3 qhxxb4 qhxxb5 qhTg00 qhTg01 qhTg02 qhTg03 qhTg04 qhTg05
  replace hX := hX.trans hx
  have z8 : w7.heap.size + 1 ≤ w8.heap.size := (by have := hx.size; simpa using this)
  replace hPx := hPx.ext hx
  replace hTw0 := hTw0.ext hx
  replace hxxb := hxxb.ext hx
  replace hTg0 := hTg0.ext hx
  replace oxa := oxa.ext hx
  replace oua := oua.ext hx
  replace otw0 := otw0.ext hx
  replace oxb := oxb.ext hx
  replace oub := oub.ext hx
  replace otg0 := otg0.ext hx
  clear hx
  obtain ⟨qhPx0, qhPx1, qhPx2, qhPx3, qhPx4, qhPx5⟩ := hPx.c6
  obtain ⟨qhTw00, qhTw01, qhTw02, qhTw03, qhTw04, qhTw05⟩ := hTw0.c6
  obtain ⟨qhxxb0, qhxxb1, qhxxb2, qhxxb3, qhxxb4, qhxxb5⟩ := hxxb.c6
  obtain ⟨qhTg00, qhTg01, qhTg02, qhTg03, qhTg04, qhTg05⟩ := hTg0.c6
  replace hPx := hPx.drew
  replace hTw0 := hTw0.drew
  replace hxxb := hxxb.drew
  replace hTg0 := hTg0.drew
  replace oxa := oxa.drew
  replace oua := oua.drew
  replace otw0 := otw0.drew
  replace oxb := oxb.drew
  replace oub := oub.drew
  replace otg0 := otg0.drew
  replace hX := hX.drew
  go_wp2_with fail
  go_region_held3 (fun w' => w'.cell? ⟨w.heap.size, 0, none⟩ = some (.slice x.p.x.A x.p.x.n x.p.x.c) ∧ w'.cell? ⟨w.heap.size, 1, none⟩ = some (.slice x.p.y.A x.p.y.n x.p.y.c) ∧ w'.cell? ⟨w.heap.size, 2, none⟩ = some (.slice x.p.z.A x.p.z.n x.p.z.c) ∧ w'.cell? ⟨w.heap.size, 3, none⟩ = some (.slice x.s.A x.s.n x.s.c) ∧ w'.cell? ⟨w.heap.size, 4, none⟩ = some (.int .i64 x.t) ∧ w'.cell? ⟨w.heap.size, 5, none⟩ = some (.int .i64 x.q) ∧ w'.cell? ⟨w5.heap.size, 0, none⟩ = some (.slice xb.p.x.A xb.p.x.n xb.p.x.c) ∧ w'.cell? ⟨w5.heap.size, 1, none⟩ = some (.slice xb.p.y.A xb.p.y.n xb.p.y.c) ∧ w'.cell? ⟨w5.heap.size, 2, none⟩ = some (.slice xb.p.z.A xb.p.z.n xb.p.z.c) ∧ w'.cell? ⟨w5.heap.size, 3, none⟩ = some (.slice xb.s.A xb.s.n xb.s.c) ∧ w'.cell? ⟨w5.heap.size, 4, none⟩ = some (.int .i64 xb.t) ∧ w'.cell? ⟨w5.heap.size, 5, none⟩ = some (.int .i64 xb.q)) (first | exact kk2.2 | exact kk1.2 | go_keep) (first | (go_at_call 24; refine (toSelection_any x y _ (rx.ext hX)).mono ?_; rintro e w9 ⟨xbc, rfl, oxbc, hx⟩; replace hX := hX.trans hx; have z9 : w8.heap.size ≤ w9.heap.size := (by have := hx.size; simpa using this); replace hPx := hPx.ext hx; replace hTw0 := hTw0.ext hx; replace hxxb := hxxb.ext hx; replace hTg0 := hTg0.ext hx; replace oxa := oxa.ext hx; replace oua := oua.ext hx; replace otw0 := otw0.ext hx; replace oxb := oxb.ext hx; replace oub := oub.ext hx; replace otg0 := otg0.ext hx; have kk1 := And.intro trivial (show w9.cell? ⟨w.heap.size, 0, none⟩ = some (.slice x.p.x.A x.p.x.n x.p.x.c) ∧ w9.cell? ⟨w.heap.size, 1, none⟩ = some (.slice x.p.y.A x.p.y.n x.p.y.c) ∧ w9.cell? ⟨w.heap.size, 2, none⟩ = some (.slice x.p.z.A x.p.z.n x.p.z.c) ∧ w9.cell? ⟨w.heap.size, 3, none⟩ = some (.slice x.s.A x.s.n x.s.c) ∧ w9.cell? ⟨w.heap.size, 4, none⟩ = some (.int .i64 x.t) ∧ w9.cell? ⟨w.heap.size, 5, none⟩ = some (.int .i64 x.q) ∧ w9.cell? ⟨w5.heap.size, 0, none⟩ = some (.slice xb.p.x.A xb.p.x.n xb.p.x.c) ∧ w9.cell? ⟨w5.heap.size, 1, none⟩ = some (.slice xb.p.y.A xb.p.y.n xb.p.y.c) ∧ w9.cell? ⟨w5.heap.size, 2, none⟩ = some (.slice xb.p.z.A xb.p.z.n xb.p.z.c) ∧ w9.cell? ⟨w5.heap.size, 3, none⟩ = some (.slice xb.s.A xb.s.n xb.s.c) ∧ w9.cell? ⟨w5.heap.size, 4, none⟩ = some (.int .i64 xb.t) ∧ w9.cell? ⟨w5.heap.size, 5, none⟩ = some (.int .i64 xb.q) from ⟨hPx.c6.1, hPx.c6.2.1, hPx.c6.2.2.1, hPx.c6.2.2.2.1, hPx.c6.2.2.2.2.1, hPx.c6.2.2.2.2.2, hxxb.c6.1, hxxb.c6.2.1, hxxb.c6.2.2.1, hxxb.c6.2.2.2.1, hxxb.c6.2.2.2.2.1, hxxb.c6.2.2.2.2.2⟩); clear hx) | (go_at_call 26; refine (eqSelection_yes xb xbc _ _ oxb.rd oxbc.rd).mono ?_; rintro e w10 ⟨rfl, hx⟩; replace hX := hX.trans hx; have z10 : w9.heap.size ≤ w10.heap.size := (by have := hx.size; simpa using this); replace hPx := hPx.ext hx; replace hTw0 := hTw0.ext hx; replace hxxb := hxxb.ext hx; replace hTg0 := hTg0.ext hx; replace oxa := oxa.ext hx; replace oua := oua.ext hx; replace otw0 := otw0.ext hx; replace oxb := oxb.ext hx; replace oub := oub.ext hx; replace otg0 := otg0.ext hx; have kk2 := And.intro trivial (show w10.cell? ⟨w.heap.size, 0, none⟩ = some (.slice x.p.x.A x.p.x.n x.p.x.c) ∧ w10.cell? ⟨w.heap.size, 1, none⟩ = some (.slice x.p.y.A x.p.y.n x.p.y.c) ∧ w10.cell? ⟨w.heap.size, 2, none⟩ = some (.slice x.p.z.A x.p.z.n x.p.z.c) ∧ w10.cell? ⟨w.heap.size, 3, none⟩ = some (.slice x.s.A x.s.n x.s.c) ∧ w10.cell? ⟨w.heap.size, 4, none⟩ = some (.int .i64 x.t) ∧ w10.cell? ⟨w.heap.size, 5, none⟩ = some (.int .i64 x.q) ∧ w10.cell? ⟨w5.heap.size, 0, none⟩ = some (.slice xb.p.x.A xb.p.x.n xb.p.x.c) ∧ w10.cell? ⟨w5.heap.size, 1, none⟩ = some (.slice xb.p.y.A xb.p.y.n xb.p.y.c) ∧ w10.cell? ⟨w5.heap.size, 2, none⟩ = some (.slice xb.p.z.A xb.p.z.n xb.p.z.c) ∧ w10.cell? ⟨w5.heap.size, 3, none⟩ = some (.slice xb.s.A xb.s.n xb.s.c) ∧ w10.cell? ⟨w5.heap.size, 4, none⟩ = some (.int .i64 xb.t) ∧ w10.cell? ⟨w5.heap.size, 5, none⟩ = some (.int .i64 xb.q) from ⟨hPx.c6.1, hPx.c6.2.1, hPx.c6.2.2.1, hPx.c6.2.2.2.1, hPx.c6.2.2.2.2.1, hPx.c6.2.2.2.2.2, hxxb.c6.1, hxxb.c6.2.1, hxxb.c6.2.2.1, hxxb.c6.2.2.2.1, hxxb.c6.2.2.2.2.1, hxxb.c6.2.2.2.2.2⟩); clear hx))
  clear kk1 kk2
  clear qhPx0 qhPx1 qhPx2 qhPx3 qhPx4 qhPx5 qhTw00 qhTw01 qhTw02 qhTw03 qhTw04 qhTw05 qhxxb0 qhxxb1 qhxxb2 qhxxb3 qhxxb4 qhxxb5 qhTg00 qhTg01 qhTg02 qhTg03 qhTg04 qhTg05
  obtain ⟨qhPx0, qhPx1, qhPx2, qhPx3, qhPx4, qhPx5⟩ := hPx.c6
  obtain ⟨qhTw00, qhTw01, qhTw02, qhTw03, qhTw04, qhTw05⟩ := hTw0.c6
  obtain ⟨qhxxb0, qhxxb1, qhxxb2, qhxxb3, qhxxb4, qhxxb5⟩ := hxxb.c6
  obtain ⟨qhTg00, qhTg01, qhTg02, qhTg03, qhTg04, qhTg05⟩ := hTg0.c6
  go_wp2_with fail
  refine (toInt64S_any u us _ (ru.ext hX)).mono ?_
  rintro e w11 ⟨ubc, rfl, oubc, hx⟩
  clear qhPx0 qhPx1 qhPx2 qhPx3 qhPx4 qhPx5 qhTw00 qhTw01 qhTw02 qhTw03 qhTw04 qhTw05 qhxxb0 qhxxb1 qhxxb2 qhxxb3 qhxxb4 qhxxb5 qhTg00 qhTg01 qhTg02 qhTg03 qhTg04 qhTg05
  replace hX := hX.trans hx
  have z11 : w10.heap.size ≤ w11.heap.size := (by have := hx.size; simpa using this)
  replace hPx := hPx.ext hx
  replace hTw0 := hTw0.ext hx
  replace hxxb := hxxb.ext hx
  replace hTg0 := hTg0.ext hx
  replace oxa := oxa.ext hx
  replace oua := oua.ext hx
  replace otw0 := otw0.ext hx
  replace oxb := oxb.ext hx
  replace oub := oub.ext hx
  replace otg0 := otg0.ext hx
  clear hx
  obtain ⟨qhPx0, qhPx1, qhPx2, qhPx3, qhPx4, qhPx5⟩ := hPx.c6
  obtain ⟨qhTw00, qhTw01, qhTw02, qhTw03, qhTw04, qhTw05⟩ := hTw0.c6
  obtain ⟨qhxxb0, qhxxb1, qhxxb2, qhxxb3, qhxxb4, qhxxb5⟩ := hxxb.c6
  obtain ⟨qhTg00, qhTg01, qhTg02, qhTg03, qhTg04, qhTg05⟩ := hTg0.c6
  go_wp2_with fail
  refine (eqInt64S_yes ub ubc _ _ oub.rd (oubc.ext (Ext.refl _)).rd).mono ?_
  rintro e w12 ⟨rfl, hx⟩
  clear qhPx0 qhPx1 qhPx2 qhPx3 qhPx4 qhPx5 qhTw00 qhTw01 qhTw02 qhTw03 qhTw04 qhTw05 qhxxb0 qhxxb1 qhxxb2 qhxxb3 qhxxb4 qhxxb5 qhTg00 qhTg01 qhTg02 qhTg03 qhTg04 qhTg05
  replace hX := hX.trans hx
  have z12 : w11.heap.size ≤ w12.heap.size := (by have := hx.size; simpa using this)
  replace hPx := hPx.ext hx
  replace hTw0 := hTw0.ext hx
  replace hxxb := hxxb.ext hx
  replace hTg0 := hTg0.ext hx
  replace oxa := oxa.ext hx
  replace oua := oua.ext hx
  replace otw0 := otw0.ext hx
  replace oxb := oxb.ext hx
  replace oub := oub.ext hx
  replace otg0 := otg0.ext hx
  clear hx
  obtain ⟨qhPx0, qhPx1, qhPx2, qhPx3, qhPx4, qhPx5⟩ := hPx.c6
  obtain ⟨qhTw00, qhTw01, qhTw02, qhTw03, qhTw04, qhTw05⟩ := hTw0.c6
  obtain ⟨qhxxb0, qhxxb1, qhxxb2, qhxxb3, qhxxb4, qhxxb5⟩ := hxxb.c6
  obtain ⟨qhTg00, qhTg01, qhTg02, qhTg03, qhTg04, qhTg05⟩ := hTg0.c6
  -- what came in is marked: the result is its own
  have leoxb := lenS_le oxb
  go_wp2_with fail
  refine (markSelection_any xb _ _ 1 _ oxb (by omega) (by omega)).mono ?_
  rintro e w13 ⟨rfl, oxb', hf⟩
  clear qhPx0 qhPx1 qhPx2 qhPx3 qhPx4 qhPx5 qhTw00 qhTw01 qhTw02 qhTw03 qhTw04 qhTw05 qhxxb0 qhxxb1 qhxxb2 qhxxb3 qhxxb4 qhxxb5 qhTg00 qhTg01 qhTg02 qhTg03 qhTg04 qhTg05
  replace hX := hX.fr_trans hf (fun k hk => by have := rgoxb k hk; omega)
  have z13 : w12.heap.size ≤ w13.heap.size := by have := hf.size; simpa using this
  replace hPx := hPx.fr hf (fun hk => by have := rgoxb _ hk; omega)
  replace hTw0 := hTw0.fr hf (fun hk => by have := rgoxb _ hk; omega)
  replace hxxb := hxxb.fr hf (fun hk => by have := rgoxb _ hk; omega)
  replace hTg0 := hTg0.fr hf (fun hk => by have := rgoxb _ hk; omega)
  replace oxa := oxa.fr hf (fun k h1 h2 => by have a1 := rgoxa k h1; have a2 := rgoxb k h2; omega)
  replace oua := oua.fr hf (fun k h1 h2 => by have a1 := rgoua k h1; have a2 := rgoxb k h2; omega)
  replace otw0 := otw0.fr hf (fun k h1 h2 => by have a1 := rgotw0 k h1; have a2 := rgoxb k h2; omega)
  replace oub := oub.fr hf (fun k h1 h2 => by have a1 := rgoub k h1; have a2 := rgoxb k h2; omega)
  replace otg0 := otg0.fr hf (fun k h1 h2 => by have a1 := rgotg0 k h1; have a2 := rgoxb k h2; omega)
  clear hf oxb
  have oxb := oxb'
  clear oxb'
  obtain ⟨qhPx0, qhPx1, qhPx2, qhPx3, qhPx4, qhPx5⟩ := hPx.c6
  obtain ⟨qhTw00, qhTw01, qhTw02, qhTw03, qhTw04, qhTw05⟩ := hTw0.c6
  obtain ⟨qhxxb0, qhxxb1, qhxxb2, qhxxb3, qhxxb4, qhxxb5⟩ := hxxb.c6
  obtain ⟨qhTg00, qhTg01, qhTg02, qhTg03, qhTg04, qhTg05⟩ := hTg0.c6
  have leoub := oub.rd.le
  go_wp2_with fail
  refine (markInt64S_any ub _ (1 + lenS xb) _ _ oub (by omega) (by omega)).mono ?_
  rintro e w14 ⟨rfl, oub', hf⟩
  clear qhPx0 qhPx1 qhPx2 qhPx3 qhPx4 qhPx5 qhTw00 qhTw01 qhTw02 qhTw03 qhTw04 qhTw05 qhxxb0 qhxxb1 qhxxb2 qhxxb3 qhxxb4 qhxxb5 qhTg00 qhTg01 qhTg02 qhTg03 qhTg04 qhTg05
  replace hX := hX.fr_trans hf (fun k hk => by have := rgoub k hk; omega)
  have z14 : w13.heap.size ≤ w14.heap.size := by have := hf.size; simpa using this
  replace hPx := hPx.fr hf (fun hk => by have := rgoub _ hk; omega)
  replace hTw0 := hTw0.fr hf (fun hk => by have := rgoub _ hk; omega)
  replace hxxb := hxxb.fr hf (fun hk => by have := rgoub _ hk; omega)
  replace hTg0 := hTg0.fr hf (fun hk => by have := rgoub _ hk; omega)
  replace oxa := oxa.fr hf (fun k h1 h2 => by have a1 := rgoxa k h1; have a2 := rgoub k h2; omega)
  replace oua := oua.fr hf (fun k h1 h2 => by have a1 := rgoua k h1; have a2 := rgoub k h2; omega)
  replace otw0 := otw0.fr hf (fun k h1 h2 => by have a1 := rgotw0 k h1; have a2 := rgoub k h2; omega)
  replace oxb := oxb.fr hf (fun k h1 h2 => by have a1 := rgoxb k h1; have a2 := rgoub k h2; omega)
  replace otg0 := otg0.fr hf (fun k h1 h2 => by have a1 := rgotg0 k h1; have a2 := rgoub k h2; omega)
  clear hf oub
  have oub := oub'
  clear oub'
  obtain ⟨qhPx0, qhPx1, qhPx2, qhPx3, qhPx4, qhPx5⟩ := hPx.c6
  obtain ⟨qhTw00, qhTw01, qhTw02, qhTw03, qhTw04, qhTw05⟩ := hTw0.c6
  obtain ⟨qhxxb0, qhxxb1, qhxxb2, qhxxb3, qhxxb4, qhxxb5⟩ := hxxb.c6
  obtain ⟨qhTg00, qhTg01, qhTg02, qhTg03, qhTg04, qhTg05⟩ := hTg0.c6
  go_wp2_with fail
  refine (eqSelection_yes tg0 tw0 _ _ otg0.rd otw0.rd).mono ?_
  rintro e w15 ⟨rfl, hx⟩
  clear qhPx0 qhPx1 qhPx2 qhPx3 qhPx4 qhPx5 qhTw00 qhTw01 qhTw02 qhTw03 qhTw04 qhTw05 qhxxb0 qhxxb1 qhxxb2 qhxxb3 qhxxb4 qhxxb5 qhTg00 qhTg01 qhTg02 qhTg03 qhTg04 qhTg05
  replace hX := hX.trans hx
  have z15 : w14.heap.size ≤ w15.heap.size := (by have := hx.size; simpa using this)
  replace hPx := hPx.ext hx
  replace hTw0 := hTw0.ext hx
  replace hxxb := hxxb.ext hx
  replace hTg0 := hTg0.ext hx
  replace oxa := oxa.ext hx
  replace oua := oua.ext hx
  replace otw0 := otw0.ext hx
  replace oxb := oxb.ext hx
  replace oub := oub.ext hx
  replace otg0 := otg0.ext hx
  clear hx
  obtain ⟨qhPx0, qhPx1, qhPx2, qhPx3, qhPx4, qhPx5⟩ := hPx.c6
  obtain ⟨qhTw00, qhTw01, qhTw02, qhTw03, qhTw04, qhTw05⟩ := hTw0.c6
  obtain ⟨qhxxb0, qhxxb1, qhxxb2, qhxxb3, qhxxb4, qhxxb5⟩ := hxxb.c6
  obtain ⟨qhTg00, qhTg01, qhTg02, qhTg03, qhTg04, qhTg05⟩ := hTg0.c6
  have leotg0 := lenS_le otg0
  go_wp2_with fail
  refine (markSelection_any tg0 _ _ 1 _ otg0 (by omega) (by omega)).mono ?_
  rintro e w16 ⟨rfl, otg0', hf⟩
  clear qhPx0 qhPx1 qhPx2 qhPx3 qhPx4 qhPx5 qhTw00 qhTw01 qhTw02 qhTw03 qhTw04 qhTw05 qhxxb0 qhxxb1 qhxxb2 qhxxb3 qhxxb4 qhxxb5 qhTg00 qhTg01 qhTg02 qhTg03 qhTg04 qhTg05
  replace hX := hX.fr_trans hf (fun k hk => by have := rgotg0 k hk; omega)
  have z16 : w15.heap.size ≤ w16.heap.size := by have := hf.size; simpa using this
  replace hPx := hPx.fr hf (fun hk => by have := rgotg0 _ hk; omega)
  replace hTw0 := hTw0.fr hf (fun hk => by have := rgotg0 _ hk; omega)
  replace hxxb := hxxb.fr hf (fun hk => by have := rgotg0 _ hk; omega)
  replace hTg0 := hTg0.fr hf (fun hk => by have := rgotg0 _ hk; omega)
  replace oxa := oxa.fr hf (fun k h1 h2 => by have a1 := rgoxa k h1; have a2 := rgotg0 k h2; omega)
  replace oua := oua.fr hf (fun k h1 h2 => by have a1 := rgoua k h1; have a2 := rgotg0 k h2; omega)
  replace otw0 := otw0.fr hf (fun k h1 h2 => by have a1 := rgotw0 k h1; have a2 := rgotg0 k h2; omega)
  replace oxb := oxb.fr hf (fun k h1 h2 => by have a1 := rgoxb k h1; have a2 := rgotg0 k h2; omega)
  replace oub := oub.fr hf (fun k h1 h2 => by have a1 := rgoub k h1; have a2 := rgotg0 k h2; omega)
  clear hf otg0
  have otg0 := otg0'
  clear otg0'
  obtain ⟨qhPx0, qhPx1, qhPx2, qhPx3, qhPx4, qhPx5⟩ := hPx.c6
  obtain ⟨qhTw00, qhTw01, qhTw02, qhTw03, qhTw04, qhTw05⟩ := hTw0.c6
  obtain ⟨qhxxb0, qhxxb1, qhxxb2, qhxxb3, qhxxb4, qhxxb5⟩ := hxxb.c6
  obtain ⟨qhTg00, qhTg01, qhTg02, qhTg03, qhTg04, qhTg05⟩ := hTg0.c6
  go_wp2_with fail
  refine (heldSelection_any tg0 1 _ otg0.rd (by omega) (by omega)).mono ?_
  rintro e w17 ⟨rfl, hx⟩
  clear qhPx0 qhPx1 qhPx2 qhPx3 qhPx4 qhPx5 qhTw00 qhTw01 qhTw02 qhTw03 qhTw04 qhTw05 qhxxb0 qhxxb1 qhxxb2 qhxxb3 qhxxb4 qhxxb5 qhTg00 qhTg01 qhTg02 qhTg03 qhTg04 qhTg05
  replace hX := hX.trans hx
  have z17 : w16.heap.size ≤ w17.heap.size := (by have := hx.size; simpa using this)
  replace hPx := hPx.ext hx
  replace hTw0 := hTw0.ext hx
  replace hxxb := hxxb.ext hx
  replace hTg0 := hTg0.ext hx
  replace oxa := oxa.ext hx
  replace oua := oua.ext hx
  replace otw0 := otw0.ext hx
  replace oxb := oxb.ext hx
  replace oub := oub.ext hx
  replace otg0 := otg0.ext hx
  clear hx
  obtain ⟨qhPx0, qhPx1, qhPx2, qhPx3, qhPx4, qhPx5⟩ := hPx.c6
  obtain ⟨qhTw00, qhTw01, qhTw02, qhTw03, qhTw04, qhTw05⟩ := hTw0.c6
  obtain ⟨qhxxb0, qhxxb1, qhxxb2, qhxxb3, qhxxb4, qhxxb5⟩ := hxxb.c6
  obtain ⟨qhTg00, qhTg01, qhTg02, qhTg03, qhTg04, qhTg05⟩ := hTg0.c6
  go_wp2_with fail
  refine (toSelection_any x y _ (rx.ext hX)).mono ?_
  rintro e w18 ⟨xd, rfl, oxd, hx⟩
  clear qhPx0 qhPx1 qhPx2 qhPx3 qhPx4 qhPx5 qhTw00 qhTw01 qhTw02 qhTw03 qhTw04 qhTw05 qhxxb0 qhxxb1 qhxxb2 qhxxb3 qhxxb4 qhxxb5 qhTg00 qhTg01 qhTg02 qhTg03 qhTg04 qhTg05
  replace hX := hX.trans hx
  have z18 : w17.heap.size ≤ w18.heap.size := (by have := hx.size; simpa using this)
  replace hPx := hPx.ext hx
  replace hTw0 := hTw0.ext hx
  replace hxxb := hxxb.ext hx
  replace hTg0 := hTg0.ext hx
  replace oxa := oxa.ext hx
  replace oua := oua.ext hx
  replace otw0 := otw0.ext hx
  replace oxb := oxb.ext hx
  replace oub := oub.ext hx
  replace otg0 := otg0.ext hx
  have rgoxd : ∀ k, blksS xd k → w17.heap.size ≤ k ∧ k < w18.heap.size := (fun k hk => by have := oxd.lt hk; simpa using this)
  clear hx
  obtain ⟨qhPx0, qhPx1, qhPx2, qhPx3, qhPx4, qhPx5⟩ := hPx.c6
  obtain ⟨qhTw00, qhTw01, qhTw02, qhTw03, qhTw04, qhTw05⟩ := hTw0.c6
  obtain ⟨qhxxb0, qhxxb1, qhxxb2, qhxxb3, qhxxb4, qhxxb5⟩ := hxxb.c6
  obtain ⟨qhTg00, qhTg01, qhTg02, qhTg03, qhTg04, qhTg05⟩ := hTg0.c6
  go_wp2_with fail
  refine (toInt64S_any u us _ (ru.ext hX)).mono ?_
  rintro e w19 ⟨ud, rfl, oud, hx⟩
  clear qhPx0 qhPx1 qhPx2 qhPx3 qhPx4 qhPx5 qhTw00 qhTw01 qhTw02 qhTw03 qhTw04 qhTw05 qhxxb0 qhxxb1 qhxxb2 qhxxb3 qhxxb4 qhxxb5 qhTg00 qhTg01 qhTg02 qhTg03 qhTg04 qhTg05
  replace hX := hX.trans hx
  have z19 : w18.heap.size ≤ w19.heap.size := (by have := hx.size; simpa using this)
  replace hPx := hPx.ext hx
  replace hTw0 := hTw0.ext hx
  replace hxxb := hxxb.ext hx
  replace hTg0 := hTg0.ext hx
  replace oxa := oxa.ext hx
  replace oua := oua.ext hx
  replace otw0 := otw0.ext hx
  replace oxb := oxb.ext hx
  replace oub := oub.ext hx
  replace otg0 := otg0.ext hx
  replace oxd := oxd.ext hx
  have rgoud : ∀ k, Value.ownBlock (.slice ud.A ud.n ud.c) = some k → w18.heap.size ≤ k ∧ k < w19.heap.size := (fun k hk => by have := oud.lt k hk; simpa using this)
  clear hx
  obtain ⟨qhPx0, qhPx1, qhPx2, qhPx3, qhPx4, qhPx5⟩ := hPx.c6
  obtain ⟨qhTw00, qhTw01, qhTw02, qhTw03, qhTw04, qhTw05⟩ := hTw0.c6
  obtain ⟨qhxxb0, qhxxb1, qhxxb2, qhxxb3, qhxxb4, qhxxb5⟩ := hxxb.c6
  obtain ⟨qhTg00, qhTg01, qhTg02, qhTg03, qhTg04, qhTg05⟩ := hTg0.c6
  go_wp2_with fail
  refine (impl.PlayMoves_any xd y ud us _ oxd.rd oud.rd ).mono ?_
  rintro e w20 ⟨th0, rfl, oth0, hx⟩
  clear qhPx0 qhPx1 qhPx2 qhPx3 qhPx4 qhPx5 qhTw00 qhTw01 qhTw02 qhTw03 qhTw04 qhTw05 qhxxb0 qhxxb1 qhxxb2 qhxxb3 qhxxb4 qhxxb5 qhTg00 qhTg01 qhTg02 qhTg03 qhTg04 qhTg05
  replace hX := hX.trans hx
  have z20 : w19.heap.size ≤ w20.heap.size := (by have := hx.size; simpa using this)
  replace hPx := hPx.ext hx
  replace hTw0 := hTw0.ext hx
  replace hxxb := hxxb.ext hx
  replace hTg0 := hTg0.ext hx
  replace oxa := oxa.ext hx
  replace oua := oua.ext hx
  replace otw0 := otw0.ext hx
  replace oxb := oxb.ext hx
  replace oub := oub.ext hx
  replace otg0 := otg0.ext hx
  replace oxd := oxd.ext hx
  replace oud := oud.ext hx
  have rgoth0 : ∀ k, blksS th0 k → w19.heap.size ≤ k ∧ k < w20.heap.size := (fun k hk => by have := oth0.lt hk; simpa using this)
  clear hx
  have hTh0 := Blk.new w20 42 (#[.slice th0.p.x.A th0.p.x.n th0.p.x.c, .slice th0.p.y.A th0.p.y.n th0.p.y.c, .slice th0.p.z.A th0.p.z.n th0.p.z.c, .slice th0.s.A th0.s.n th0.s.c, .int .i64 th0.t, .int .i64 th0.q])
  replace hPx := hPx.alloc (.cells #[.slice th0.p.x.A th0.p.x.n th0.p.x.c, .slice th0.p.y.A th0.p.y.n th0.p.y.c, .slice th0.p.z.A th0.p.z.n th0.p.z.c, .slice th0.s.A th0.s.n th0.s.c, .int .i64 th0.t, .int .i64 th0.q] 42)
  replace hTw0 := hTw0.alloc (.cells #[.slice th0.p.x.A th0.p.x.n th0.p.x.c, .slice th0.p.y.A th0.p.y.n th0.p.y.c, .slice th0.p.z.A th0.p.z.n th0.p.z.c, .slice th0.s.A th0.s.n th0.s.c, .int .i64 th0.t, .int .i64 th0.q] 42)
  replace hxxb := hxxb.alloc (.cells #[.slice th0.p.x.A th0.p.x.n th0.p.x.c, .slice th0.p.y.A th0.p.y.n th0.p.y.c, .slice th0.p.z.A th0.p.z.n th0.p.z.c, .slice th0.s.A th0.s.n th0.s.c, .int .i64 th0.t, .int .i64 th0.q] 42)
  replace hTg0 := hTg0.alloc (.cells #[.slice th0.p.x.A th0.p.x.n th0.p.x.c, .slice th0.p.y.A th0.p.y.n th0.p.y.c, .slice th0.p.z.A th0.p.z.n th0.p.z.c, .slice th0.s.A th0.s.n th0.s.c, .int .i64 th0.t, .int .i64 th0.q] 42)
  replace oxa := oxa.alloc (.cells #[.slice th0.p.x.A th0.p.x.n th0.p.x.c, .slice th0.p.y.A th0.p.y.n th0.p.y.c, .slice th0.p.z.A th0.p.z.n th0.p.z.c, .slice th0.s.A th0.s.n th0.s.c, .int .i64 th0.t, .int .i64 th0.q] 42)
  replace oua := oua.alloc (.cells #[.slice th0.p.x.A th0.p.x.n th0.p.x.c, .slice th0.p.y.A th0.p.y.n th0.p.y.c, .slice th0.p.z.A th0.p.z.n th0.p.z.c, .slice th0.s.A th0.s.n th0.s.c, .int .i64 th0.t, .int .i64 th0.q] 42)
  replace otw0 := otw0.alloc (.cells #[.slice th0.p.x.A th0.p.x.n th0.p.x.c, .slice th0.p.y.A th0.p.y.n th0.p.y.c, .slice th0.p.z.A th0.p.z.n th0.p.z.c, .slice th0.s.A th0.s.n th0.s.c, .int .i64 th0.t, .int .i64 th0.q] 42)
  replace oxb := oxb.alloc (.cells #[.slice th0.p.x.A th0.p.x.n th0.p.x.c, .slice th0.p.y.A th0.p.y.n th0.p.y.c, .slice th0.p.z.A th0.p.z.n th0.p.z.c, .slice th0.s.A th0.s.n th0.s.c, .int .i64 th0.t, .int .i64 th0.q] 42)
  replace oub := oub.alloc (.cells #[.slice th0.p.x.A th0.p.x.n th0.p.x.c, .slice th0.p.y.A th0.p.y.n th0.p.y.c, .slice th0.p.z.A th0.p.z.n th0.p.z.c, .slice th0.s.A th0.s.n th0.s.c, .int .i64 th0.t, .int .i64 th0.q] 42)
  replace otg0 := otg0.alloc (.cells #[.slice th0.p.x.A th0.p.x.n th0.p.x.c, .slice th0.p.y.A th0.p.y.n th0.p.y.c, .slice th0.p.z.A th0.p.z.n th0.p.z.c, .slice th0.s.A th0.s.n th0.s.c, .int .i64 th0.t, .int .i64 th0.q] 42)
  replace oxd := oxd.alloc (.cells #[.slice th0.p.x.A th0.p.x.n th0.p.x.c, .slice th0.p.y.A th0.p.y.n th0.p.y.c, .slice th0.p.z.A th0.p.z.n th0.p.z.c, .slice th0.s.A th0.s.n th0.s.c, .int .i64 th0.t, .int .i64 th0.q] 42)
  replace oud := oud.alloc (.cells #[.slice th0.p.x.A th0.p.x.n th0.p.x.c, .slice th0.p.y.A th0.p.y.n th0.p.y.c, .slice th0.p.z.A th0.p.z.n th0.p.z.c, .slice th0.s.A th0.s.n th0.s.c, .int .i64 th0.t, .int .i64 th0.q] 42)
  replace oth0 := oth0.alloc (.cells #[.slice th0.p.x.A th0.p.x.n th0.p.x.c, .slice th0.p.y.A th0.p.y.n th0.p.y.c, .slice th0.p.z.A th0.p.z.n th0.p.z.c, .slice th0.s.A th0.s.n th0.s.c, .int .i64 th0.t, .int .i64 th0.q] 42)
  replace hX := hX.alloc (.cells #[.slice th0.p.x.A th0.p.x.n th0.p.x.c, .slice th0.p.y.A th0.p.y.n th0.p.y.c, .slice th0.p.z.A th0.p.z.n th0.p.z.c, .slice th0.s.A th0.s.n th0.s.c, .int .i64 th0.t, .int .i64 th0.q] 42)
  obtain ⟨qhPx0, qhPx1, qhPx2, qhPx3, qhPx4, qhPx5⟩ := hPx.c6
  obtain ⟨qhTw00, qhTw01, qhTw02, qhTw03, qhTw04, qhTw05⟩ := hTw0.c6
  obtain ⟨qhxxb0, qhxxb1, qhxxb2, qhxxb3, qhxxb4, qhxxb5⟩ := hxxb.c6
  obtain ⟨qhTg00, qhTg01, qhTg02, qhTg03, qhTg04, qhTg05⟩ := hTg0.c6
  obtain ⟨qhTh00, qhTh01, qhTh02, qhTh03, qhTh04, qhTh05⟩ := hTh0.c6
  go_wp2_with fail
  refine (eqSelection_yes th0 tw0 _ _ oth0.rd otw0.rd).mono ?_
  rintro e w21 ⟨rfl, hx⟩
  clear qhPx0 qhPx1 qhPx2 qhPx3 qhPx4 qhPx5 qhTw00 qhTw01 qhTw02 qhTw03 qhTw04 qhTw05 qhxxb0 qhxxb1 qhxxb2 qhxxb3 qhxxb4 qhxxb5 qhTg00 qhTg01 qhTg02 qhTg03 qhTg04 qhTg05 qhTh00 qhTh01 qhTh02 qhTh03 qhTh04 qhTh05
  replace hX := hX.trans hx
  have z21 : w20.heap.size + 1 ≤ w21.heap.size := (by have := hx.size; simpa using this)
  replace hPx := hPx.ext hx
  replace hTw0 := hTw0.ext hx
  replace hxxb := hxxb.ext hx
  replace hTg0 := hTg0.ext hx
  replace hTh0 := hTh0.ext hx
  replace oxa := oxa.ext hx
  replace oua := oua.ext hx
  replace otw0 := otw0.ext hx
  replace oxb := oxb.ext hx
  replace oub := oub.ext hx
  replace otg0 := otg0.ext hx
  replace oxd := oxd.ext hx
  replace oud := oud.ext hx
  replace oth0 := oth0.ext hx
  clear hx
  obtain ⟨qhPx0, qhPx1, qhPx2, qhPx3, qhPx4, qhPx5⟩ := hPx.c6
  obtain ⟨qhTw00, qhTw01, qhTw02, qhTw03, qhTw04, qhTw05⟩ := hTw0.c6
  obtain ⟨qhxxb0, qhxxb1, qhxxb2, qhxxb3, qhxxb4, qhxxb5⟩ := hxxb.c6
  obtain ⟨qhTg00, qhTg01, qhTg02, qhTg03, qhTg04, qhTg05⟩ := hTg0.c6
  obtain ⟨qhTh00, qhTh01, qhTh02, qhTh03, qhTh04, qhTh05⟩ := hTh0.c6
  go_wp2_with fail
  refine (heldSelection_any tg0 1 _ otg0.rd (by omega) (by omega)).mono ?_
  rintro e w22 ⟨rfl, hx⟩
  clear qhPx0 qhPx1 qhPx2 qhPx3 qhPx4 qhPx5 qhTw00 qhTw01 qhTw02 qhTw03 qhTw04 qhTw05 qhxxb0 qhxxb1 qhxxb2 qhxxb3 qhxxb4 qhxxb5 qhTg00 qhTg01 qhTg02 qhTg03 qhTg04 qhTg05 qhTh00 qhTh01 qhTh02 qhTh03 qhTh04 qhTh05
  replace hX := hX.trans hx
  have z22 : w21.heap.size ≤ w22.heap.size := (by have := hx.size; simpa using this)
  replace hPx := hPx.ext hx
  replace hTw0 := hTw0.ext hx
  replace hxxb := hxxb.ext hx
  replace hTg0 := hTg0.ext hx
  replace hTh0 := hTh0.ext hx
  replace oxa := oxa.ext hx
  replace oua := oua.ext hx
  replace otw0 := otw0.ext hx
  replace oxb := oxb.ext hx
  replace oub := oub.ext hx
  replace otg0 := otg0.ext hx
  replace oxd := oxd.ext hx
  replace oud := oud.ext hx
  replace oth0 := oth0.ext hx
  clear hx
  obtain ⟨qhPx0, qhPx1, qhPx2, qhPx3, qhPx4, qhPx5⟩ := hPx.c6
  obtain ⟨qhTw00, qhTw01, qhTw02, qhTw03, qhTw04, qhTw05⟩ := hTw0.c6
  obtain ⟨qhxxb0, qhxxb1, qhxxb2, qhxxb3, qhxxb4, qhxxb5⟩ := hxxb.c6
  obtain ⟨qhTg00, qhTg01, qhTg02, qhTg03, qhTg04, qhTg05⟩ := hTg0.c6
  obtain ⟨qhTh00, qhTh01, qhTh02, qhTh03, qhTh04, qhTh05⟩ := hTh0.c6
  go_wp2
  go_ret
  exact ⟨rfl, hX⟩
theorem own_PlayMoves : ownKnob Try.prog.godebug = none := by kernel_rfl
set_option maxRecDepth 100000 in
theorem lifted_PlayMoves (os : Os) (started : os.Started) (H : Type) (enc : TypeId × Value → H) :
    ReturnsInHanded {} Try.checked os 7 .any (Rows.fnExactPlayMovesSpec.pre6 enc Try.prog Try.f7 Rows.fnExactPlayMovesRow.domain false) (Rows.fnExactPlayMovesSpec.post enc Try.prog Try.f7 false true false false) := by
  refine returnsInHanded_of_change (C := Try.checked) own_PlayMoves started (by kernel_rfl) Try.func7
    (ChangeSpec.witness6 (enc := enc) (C := Try.checked) false ⟨#[], #[.agg #[.slice none 0 0, .slice none 0 0, .slice none 0 0, .slice none 0 0, .int .i64 0, .int .i64 0], .slice none 0 0], []⟩ 8 (by kernel_rfl) (by kernel_rfl) (by kernel_rfl) (by kernel_rfl)) ?_
  intro W base args ds gs before hval0 hW hcnd _
  have hval : ∀ (j : Nat) t v, Try.f7.params[j]? = some t → args[j]? = some v → Value.okWide Try.prog W .any base t v := hval0
  have hW' := hW
  obtain ⟨p, q, hA0, hV, rfl, hfz, hnd⟩ := hW
  have hA : DataW.TrodAll enc Try.prog W 0 (fun _ => true) true Try.f7.params.toList args.toList ds p := hA0
  rw [Try.params7] at hA hval
  obtain ⟨v0, vs0, d0, ds0, p0, q0, hargs, rfl, rfl, h0, r0⟩ := trodAll_cons hA
  obtain ⟨v1, vs1, d1, ds1, p1, q1, rfl, rfl, rfl, h1, r1⟩ := trodAll_cons r0
  obtain ⟨rfl, rfl, rfl⟩ := trodAll_nil r1
  obtain rfl : args = #[v0, v1] := by cases args; simp_all
  obtain ⟨rfl, rfl⟩ := trodVars_none hV
  have k0 := h0
  have lt0 : ∀ x ∈ p0, x.block < W.heap.size := by obtain ⟨m, hm⟩ := k0; exact DataW.trod_lt m _ _ _ hm
  obtain ⟨s0, x0, rfl, i0⟩ := open_Selection (hval 0 39 v0 rfl rfl) h0 (fun _ => rfl)
  have k1 := h1
  have lt1 : ∀ x ∈ p1, x.block < W.heap.size := by obtain ⟨m, hm⟩ := k1; exact DataW.trod_lt m _ _ _ hm
  obtain ⟨s1, x1, rfl, i1⟩ := open_arg (hval 1 22 v1 rfl rfl) h1 (fun _ => rfl)
  clear hA0 hval0
  refine (law_PlayMoves s0 x0 s1 x1 W i0 i1).mono fun e W' ⟨he, bel⟩ => ?_
  subst he
  exact ⟨_, rfl, _, _, _, [], _, [], hW', trodAll_mk1 (shut_bool Try.underlying4 _), (trodAll_cons_mk (Below.trod laidOut (by kernel_rfl) (of_decide_eq_true (by kernel_rfl)) k0 bel lt0) (trodAll_cons_mk (Below.trod laidOut (by kernel_rfl) (of_decide_eq_true (by kernel_rfl)) k1 bel lt1) trodAll_mk0)), rfl, Below.frame bel _, fun h => by cases h⟩
theorem over_PlayMoves : Rows.fnExactPlayMovesRow.holds Try.pinned (OpenSpec.ofChange Rows.fnExactPlayMovesSpec) :=
  OpenClaim.holds_of_wide 7 Try.f7 rfl rfl rfl rfl rfl rfl rfl ⟨rfl, rfl, rfl, rfl, rfl⟩ rfl rfl rfl rfl rfl (by kernel_rfl) Try.func7 (by kernel_rfl)
    (of_decide_eq_true (by kernel_rfl)) (by unfold Func.isWrapper; first | (rw [if_pos (by decide +kernel)]; kernel_rfl) | (rw [if_neg (by decide +kernel)]; exact ⟨rfl, rfl⟩))
    (fun os started H enc _ => lifted_PlayMoves os started H enc)
/-- the statement -/
theorem proved_PlayMoves : Rows.FnExactPlayMovesSaid := over_PlayMoves
#print axioms proved_PlayMoves
end Go.Proofs.Ytfaiigihdokpjaa.mem
