/-
  The law FnExactFirstBadMove holds of the given program for every input: it returns true, and each argument reads as it did.
-/
import Derived.Test.YtbkpcfncdnmknaaRecOpen
import Derived.Test.YtbkpcfncdnmknaaCauOpen
import Derived.Test.YtbkpcfncdnmknaaOpen
import Derived.Test.YtbkpcfncdnmknaaRt
namespace Go.Proofs.Ytbkpcfncdnmknaa.mem
open Go.ChangeShapes Go.WideShapes Go.ChangeAt Go.RowKit
set_option linter.unusedVariables false
set_option maxHeartbeats 4000000 in
theorem law_FirstBadMove (x : RecA) (y : RecL) (s : Sl) (ts : List Ti) (u : Sl) (us : List ByteArray) (w : World) (ix : InR w x y) (is : InT w s ts) (iu : InW w u us) :
    Calls Try.prog 4 #[.agg #[.int .i64 x.a, .int .i64 x.b, .int .i64 x.c, .slice x.p.x.A x.p.x.n x.p.x.c, .int .i64 x.d, .slice x.p.y.A x.p.y.n x.p.y.c, .slice x.p.z.A x.p.z.n x.p.z.c, .int .i64 x.e, .int .i64 x.f], .slice s.A s.n s.c, .slice u.A u.n u.c] w fun e w' => e = .returned (.bool true) ∧ Ext w w' := by
  have hX := Ext.refl w
  have hPx := Blk.new w 24 (#[.int .i64 x.a, .int .i64 x.b, .int .i64 x.c, .slice x.p.x.A x.p.x.n x.p.x.c, .int .i64 x.d, .slice x.p.y.A x.p.y.n x.p.y.c, .slice x.p.z.A x.p.z.n x.p.z.c, .int .i64 x.e, .int .i64 x.f])
  replace hX := hX.alloc (.cells #[.int .i64 x.a, .int .i64 x.b, .int .i64 x.c, .slice x.p.x.A x.p.x.n x.p.x.c, .int .i64 x.d, .slice x.p.y.A x.p.y.n x.p.y.c, .slice x.p.z.A x.p.z.n x.p.z.c, .int .i64 x.e, .int .i64 x.f] 24)
  by_cases hsx : 0 ≤ szR 1048576 x
  case neg =>
    go_enter Try.func4, Try.ntmps4
    obtain ⟨qhPx0, qhPx1, qhPx2, qhPx3, qhPx4, qhPx5, qhPx6, qhPx7, qhPx8⟩ := hPx.c9
    go_wp2_with fail
    refine (szRecord_any x _ _ (by omega) (by omega) ix).mono ?_
    rintro e w1 ⟨rfl, hx⟩
    clear qhPx0 qhPx1 qhPx2 qhPx3 qhPx4 qhPx5 qhPx6 qhPx7 qhPx8
    replace hX := hX.trans hx
    have z1 : w.heap.size + 1 ≤ w1.heap.size := (by have := hx.size; simpa using this)
    replace hPx := hPx.ext hx
    clear hx
    obtain ⟨qhPx0, qhPx1, qhPx2, qhPx3, qhPx4, qhPx5, qhPx6, qhPx7, qhPx8⟩ := hPx.c9
    go_wp2
    go_ret
    exact ⟨rfl, hX⟩
  have rx := ix.rds hsx (by omega)
  have hlx := (szR_pos hsx (by omega)).2
  by_cases hss : 0 ≤ szLs (szR 1048576 x) (lensT ts)
  case neg =>
    go_enter Try.func4, Try.ntmps4
    obtain ⟨qhPx0, qhPx1, qhPx2, qhPx3, qhPx4, qhPx5, qhPx6, qhPx7, qhPx8⟩ := hPx.c9
    go_wp2_with fail
    refine (szRecord_any x _ _ (by omega) (by omega) ix).mono ?_
    rintro e w1 ⟨rfl, hx⟩
    clear qhPx0 qhPx1 qhPx2 qhPx3 qhPx4 qhPx5 qhPx6 qhPx7 qhPx8
    replace hX := hX.trans hx
    have z1 : w.heap.size + 1 ≤ w1.heap.size := (by have := hx.size; simpa using this)
    replace hPx := hPx.ext hx
    clear hx
    obtain ⟨qhPx0, qhPx1, qhPx2, qhPx3, qhPx4, qhPx5, qhPx6, qhPx7, qhPx8⟩ := hPx.c9
    go_wp2_with fail
    refine (szTieS_any s ts _ _ (by omega) (by omega) is hX).mono ?_
    rintro e w2 ⟨rfl, hx⟩
    clear qhPx0 qhPx1 qhPx2 qhPx3 qhPx4 qhPx5 qhPx6 qhPx7 qhPx8
    replace hX := hX.trans hx
    have z2 : w1.heap.size ≤ w2.heap.size := (by have := hx.size; simpa using this)
    replace hPx := hPx.ext hx
    clear hx
    obtain ⟨qhPx0, qhPx1, qhPx2, qhPx3, qhPx4, qhPx5, qhPx6, qhPx7, qhPx8⟩ := hPx.c9
    go_wp2
    go_ret
    exact ⟨rfl, hX⟩
  have rs := is.rds hss (by omega)
  have hls := (szLt_pos hss (by omega)).2
  by_cases hsu : 0 ≤ szLs (szLs (szR 1048576 x) (lensT ts)) (lensW us)
  case neg =>
    go_enter Try.func4, Try.ntmps4
    obtain ⟨qhPx0, qhPx1, qhPx2, qhPx3, qhPx4, qhPx5, qhPx6, qhPx7, qhPx8⟩ := hPx.c9
    go_wp2_with fail
    refine (szRecord_any x _ _ (by omega) (by omega) ix).mono ?_
    rintro e w1 ⟨rfl, hx⟩
    clear qhPx0 qhPx1 qhPx2 qhPx3 qhPx4 qhPx5 qhPx6 qhPx7 qhPx8
    replace hX := hX.trans hx
    have z1 : w.heap.size + 1 ≤ w1.heap.size := (by have := hx.size; simpa using this)
    replace hPx := hPx.ext hx
    clear hx
    obtain ⟨qhPx0, qhPx1, qhPx2, qhPx3, qhPx4, qhPx5, qhPx6, qhPx7, qhPx8⟩ := hPx.c9
    go_wp2_with fail
    refine (szTieS_any s ts _ _ (by omega) (by omega) is hX).mono ?_
    rintro e w2 ⟨rfl, hx⟩
    clear qhPx0 qhPx1 qhPx2 qhPx3 qhPx4 qhPx5 qhPx6 qhPx7 qhPx8
    replace hX := hX.trans hx
    have z2 : w1.heap.size ≤ w2.heap.size := (by have := hx.size; simpa using this)
    replace hPx := hPx.ext hx
    clear hx
    obtain ⟨qhPx0, qhPx1, qhPx2, qhPx3, qhPx4, qhPx5, qhPx6, qhPx7, qhPx8⟩ := hPx.c9
    go_wp2_with fail
    refine (szStringS_any u us _ _ (by omega) (by omega) iu hX).mono ?_
    rintro e w3 ⟨rfl, hx⟩
    clear qhPx0 qhPx1 qhPx2 qhPx3 qhPx4 qhPx5 qhPx6 qhPx7 qhPx8
    replace hX := hX.trans hx
    have z3 : w2.heap.size ≤ w3.heap.size := (by have := hx.size; simpa using this)
    replace hPx := hPx.ext hx
    clear hx
    obtain ⟨qhPx0, qhPx1, qhPx2, qhPx3, qhPx4, qhPx5, qhPx6, qhPx7, qhPx8⟩ := hPx.c9
    go_wp2
    go_ret
    exact ⟨rfl, hX⟩
  have ru := iu.rds hsu (by omega)
  have hlu := (szLt_pos hsu (by omega)).2
  go_enter Try.func4, Try.ntmps4
  obtain ⟨qhPx0, qhPx1, qhPx2, qhPx3, qhPx4, qhPx5, qhPx6, qhPx7, qhPx8⟩ := hPx.c9
  go_wp2_with fail
  refine (szRecord_any x _ _ (by omega) (by omega) ix).mono ?_
  rintro e w1 ⟨rfl, hx⟩
  clear qhPx0 qhPx1 qhPx2 qhPx3 qhPx4 qhPx5 qhPx6 qhPx7 qhPx8
  replace hX := hX.trans hx
  have z1 : w.heap.size + 1 ≤ w1.heap.size := (by have := hx.size; simpa using this)
  replace hPx := hPx.ext hx
  clear hx
  obtain ⟨qhPx0, qhPx1, qhPx2, qhPx3, qhPx4, qhPx5, qhPx6, qhPx7, qhPx8⟩ := hPx.c9
  go_wp2_with fail
  refine (szTieS_any s ts _ _ (by omega) (by omega) is hX).mono ?_
  rintro e w2 ⟨rfl, hx⟩
  clear qhPx0 qhPx1 qhPx2 qhPx3 qhPx4 qhPx5 qhPx6 qhPx7 qhPx8
  replace hX := hX.trans hx
  have z2 : w1.heap.size ≤ w2.heap.size := (by have := hx.size; simpa using this)
  replace hPx := hPx.ext hx
  clear hx
  obtain ⟨qhPx0, qhPx1, qhPx2, qhPx3, qhPx4, qhPx5, qhPx6, qhPx7, qhPx8⟩ := hPx.c9
  go_wp2_with fail
  refine (szStringS_any u us _ _ (by omega) (by omega) iu hX).mono ?_
  rintro e w3 ⟨rfl, hx⟩
  clear qhPx0 qhPx1 qhPx2 qhPx3 qhPx4 qhPx5 qhPx6 qhPx7 qhPx8
  replace hX := hX.trans hx
  have z3 : w2.heap.size ≤ w3.heap.size := (by have := hx.size; simpa using this)
  replace hPx := hPx.ext hx
  clear hx
  obtain ⟨qhPx0, qhPx1, qhPx2, qhPx3, qhPx4, qhPx5, qhPx6, qhPx7, qhPx8⟩ := hPx.c9
  go_wp2_with fail
  refine (toRecord_any x y _ (rx.ext hX)).mono ?_
  rintro e w4 ⟨xa, rfl, oxa, hx⟩
  clear qhPx0 qhPx1 qhPx2 qhPx3 qhPx4 qhPx5 qhPx6 qhPx7 qhPx8
  replace hX := hX.trans hx
  have z4 : w3.heap.size ≤ w4.heap.size := (by have := hx.size; simpa using this)
  replace hPx := hPx.ext hx
  have rgoxa : ∀ k, blksR xa k → w3.heap.size ≤ k ∧ k < w4.heap.size := (fun k hk => by have := oxa.lt hk; simpa using this)
  clear hx
  obtain ⟨qhPx0, qhPx1, qhPx2, qhPx3, qhPx4, qhPx5, qhPx6, qhPx7, qhPx8⟩ := hPx.c9
  go_wp2_with fail
  refine (toTieS_any s ts _ (rs.ext hX)).mono ?_
  rintro e w5 ⟨sa, rfl, osa, hx⟩
  clear qhPx0 qhPx1 qhPx2 qhPx3 qhPx4 qhPx5 qhPx6 qhPx7 qhPx8
  replace hX := hX.trans hx
  have z5 : w4.heap.size ≤ w5.heap.size := (by have := hx.size; simpa using this)
  replace hPx := hPx.ext hx
  replace oxa := oxa.ext hx
  have rgosa : ∀ k, Value.ownBlock (.slice sa.A sa.n sa.c) = some k → w4.heap.size ≤ k ∧ k < w5.heap.size := (fun k hk => by have := osa.lt k hk; simpa using this)
  clear hx
  obtain ⟨qhPx0, qhPx1, qhPx2, qhPx3, qhPx4, qhPx5, qhPx6, qhPx7, qhPx8⟩ := hPx.c9
  go_wp2_with fail
  refine (toStringS_any u us _ (ru.ext hX)).mono ?_
  rintro e w6 ⟨ua, rfl, oua, hx⟩
  clear qhPx0 qhPx1 qhPx2 qhPx3 qhPx4 qhPx5 qhPx6 qhPx7 qhPx8
  replace hX := hX.trans hx
  have z6 : w5.heap.size ≤ w6.heap.size := (by have := hx.size; simpa using this)
  replace hPx := hPx.ext hx
  replace oxa := oxa.ext hx
  replace osa := osa.ext hx
  have rgoua : ∀ k, Value.ownBlock (.slice ua.A ua.n ua.c) = some k → w5.heap.size ≤ k ∧ k < w6.heap.size := (fun k hk => by have := oua.lt k hk; simpa using this)
  clear hx
  obtain ⟨qhPx0, qhPx1, qhPx2, qhPx3, qhPx4, qhPx5, qhPx6, qhPx7, qhPx8⟩ := hPx.c9
  go_wp2_with fail
  refine (spec.FirstBadMove_any xa y sa ts ua us _ oxa.rd osa.rd oua.rd ).mono ?_
  rintro e w7 ⟨rfl, hx⟩
  clear qhPx0 qhPx1 qhPx2 qhPx3 qhPx4 qhPx5 qhPx6 qhPx7 qhPx8
  replace hX := hX.trans hx
  have z7 : w6.heap.size ≤ w7.heap.size := (by have := hx.size; simpa using this)
  replace hPx := hPx.ext hx
  replace oxa := oxa.ext hx
  replace osa := osa.ext hx
  replace oua := oua.ext hx
  clear hx
  obtain ⟨qhPx0, qhPx1, qhPx2, qhPx3, qhPx4, qhPx5, qhPx6, qhPx7, qhPx8⟩ := hPx.c9
  go_wp2_with fail
  refine (toRecord_any x y _ (rx.ext hX)).mono ?_
  rintro e w8 ⟨xb, rfl, oxb, hx⟩
  clear qhPx0 qhPx1 qhPx2 qhPx3 qhPx4 qhPx5 qhPx6 qhPx7 qhPx8
  replace hX := hX.trans hx
  have z8 : w7.heap.size ≤ w8.heap.size := (by have := hx.size; simpa using this)
  replace hPx := hPx.ext hx
  replace oxa := oxa.ext hx
  replace osa := osa.ext hx
  replace oua := oua.ext hx
  have rgoxb : ∀ k, blksR xb k → w7.heap.size ≤ k ∧ k < w8.heap.size := (fun k hk => by have := oxb.lt hk; simpa using this)
  clear hx
  have hxxb := Blk.new w8 34 (#[.int .i64 xb.a, .int .i64 xb.b, .int .i64 xb.c, .slice xb.p.x.A xb.p.x.n xb.p.x.c, .int .i64 xb.d, .slice xb.p.y.A xb.p.y.n xb.p.y.c, .slice xb.p.z.A xb.p.z.n xb.p.z.c, .int .i64 xb.e, .int .i64 xb.f])
  replace hPx := hPx.alloc (.cells #[.int .i64 xb.a, .int .i64 xb.b, .int .i64 xb.c, .slice xb.p.x.A xb.p.x.n xb.p.x.c, .int .i64 xb.d, .slice xb.p.y.A xb.p.y.n xb.p.y.c, .slice xb.p.z.A xb.p.z.n xb.p.z.c, .int .i64 xb.e, .int .i64 xb.f] 34)
  replace oxa := oxa.alloc (.cells #[.int .i64 xb.a, .int .i64 xb.b, .int .i64 xb.c, .slice xb.p.x.A xb.p.x.n xb.p.x.c, .int .i64 xb.d, .slice xb.p.y.A xb.p.y.n xb.p.y.c, .slice xb.p.z.A xb.p.z.n xb.p.z.c, .int .i64 xb.e, .int .i64 xb.f] 34)
  replace osa := osa.alloc (.cells #[.int .i64 xb.a, .int .i64 xb.b, .int .i64 xb.c, .slice xb.p.x.A xb.p.x.n xb.p.x.c, .int .i64 xb.d, .slice xb.p.y.A xb.p.y.n xb.p.y.c, .slice xb.p.z.A xb.p.z.n xb.p.z.c, .int .i64 xb.e, .int .i64 xb.f] 34)
  replace oua := oua.alloc (.cells #[.int .i64 xb.a, .int .i64 xb.b, .int .i64 xb.c, .slice xb.p.x.A xb.p.x.n xb.p.x.c, .int .i64 xb.d, .slice xb.p.y.A xb.p.y.n xb.p.y.c, .slice xb.p.z.A xb.p.z.n xb.p.z.c, .int .i64 xb.e, .int .i64 xb.f] 34)
  replace oxb := oxb.alloc (.cells #[.int .i64 xb.a, .int .i64 xb.b, .int .i64 xb.c, .slice xb.p.x.A xb.p.x.n xb.p.x.c, .int .i64 xb.d, .slice xb.p.y.A xb.p.y.n xb.p.y.c, .slice xb.p.z.A xb.p.z.n xb.p.z.c, .int .i64 xb.e, .int .i64 xb.f] 34)
  replace hX := hX.alloc (.cells #[.int .i64 xb.a, .int .i64 xb.b, .int .i64 xb.c, .slice xb.p.x.A xb.p.x.n xb.p.x.c, .int .i64 xb.d, .slice xb.p.y.A xb.p.y.n xb.p.y.c, .slice xb.p.z.A xb.p.z.n xb.p.z.c, .int .i64 xb.e, .int .i64 xb.f] 34)
  obtain ⟨qhPx0, qhPx1, qhPx2, qhPx3, qhPx4, qhPx5, qhPx6, qhPx7, qhPx8⟩ := hPx.c9
  obtain ⟨qhxxb0, qhxxb1, qhxxb2, qhxxb3, qhxxb4, qhxxb5, qhxxb6, qhxxb7, qhxxb8⟩ := hxxb.c9
  go_wp2_with fail
  refine (toTieS_any s ts _ (rs.ext hX)).mono ?_
  rintro e w9 ⟨sb, rfl, osb, hx⟩
  clear qhPx0 qhPx1 qhPx2 qhPx3 qhPx4 qhPx5 qhPx6 qhPx7 qhPx8 qhxxb0 qhxxb1 qhxxb2 qhxxb3 qhxxb4 qhxxb5 qhxxb6 qhxxb7 qhxxb8
  replace hX := hX.trans hx
  have z9 : w8.heap.size + 1 ≤ w9.heap.size := (by have := hx.size; simpa using this)
  replace hPx := hPx.ext hx
  replace hxxb := hxxb.ext hx
  replace oxa := oxa.ext hx
  replace osa := osa.ext hx
  replace oua := oua.ext hx
  replace oxb := oxb.ext hx
  have rgosb : ∀ k, Value.ownBlock (.slice sb.A sb.n sb.c) = some k → w8.heap.size + 1 ≤ k ∧ k < w9.heap.size := (fun k hk => by have := osb.lt k hk; simpa using this)
  clear hx
  obtain ⟨qhPx0, qhPx1, qhPx2, qhPx3, qhPx4, qhPx5, qhPx6, qhPx7, qhPx8⟩ := hPx.c9
  obtain ⟨qhxxb0, qhxxb1, qhxxb2, qhxxb3, qhxxb4, qhxxb5, qhxxb6, qhxxb7, qhxxb8⟩ := hxxb.c9
  go_wp2_with fail
  refine (toStringS_any u us _ (ru.ext hX)).mono ?_
  rintro e w10 ⟨ub, rfl, oub, hx⟩
  clear qhPx0 qhPx1 qhPx2 qhPx3 qhPx4 qhPx5 qhPx6 qhPx7 qhPx8 qhxxb0 qhxxb1 qhxxb2 qhxxb3 qhxxb4 qhxxb5 qhxxb6 qhxxb7 qhxxb8
  replace hX := hX.trans hx
  have z10 : w9.heap.size ≤ w10.heap.size := (by have := hx.size; simpa using this)
  replace hPx := hPx.ext hx
  replace hxxb := hxxb.ext hx
  replace oxa := oxa.ext hx
  replace osa := osa.ext hx
  replace oua := oua.ext hx
  replace oxb := oxb.ext hx
  replace osb := osb.ext hx
  have rgoub : ∀ k, Value.ownBlock (.slice ub.A ub.n ub.c) = some k → w9.heap.size ≤ k ∧ k < w10.heap.size := (fun k hk => by have := oub.lt k hk; simpa using this)
  clear hx
  obtain ⟨qhPx0, qhPx1, qhPx2, qhPx3, qhPx4, qhPx5, qhPx6, qhPx7, qhPx8⟩ := hPx.c9
  obtain ⟨qhxxb0, qhxxb1, qhxxb2, qhxxb3, qhxxb4, qhxxb5, qhxxb6, qhxxb7, qhxxb8⟩ := hxxb.c9
  go_wp2_with fail
  refine (impl.FirstBadMove_any xb y sb ts ub us _ oxb.rd osb.rd oub.rd osb.cap).mono ?_
  rintro e w11 ⟨rfl, hx⟩
  clear qhPx0 qhPx1 qhPx2 qhPx3 qhPx4 qhPx5 qhPx6 qhPx7 qhPx8 qhxxb0 qhxxb1 qhxxb2 qhxxb3 qhxxb4 qhxxb5 qhxxb6 qhxxb7 qhxxb8
  replace hX := hX.trans hx
  have z11 : w10.heap.size ≤ w11.heap.size := (by have := hx.size; simpa using this)
  replace hPx := hPx.ext hx
  replace hxxb := hxxb.ext hx
  replace oxa := oxa.ext hx
  replace osa := osa.ext hx
  replace oua := oua.ext hx
  replace oxb := oxb.ext hx
  replace osb := osb.ext hx
  replace oub := oub.ext hx
  clear hx
  obtain ⟨qhPx0, qhPx1, qhPx2, qhPx3, qhPx4, qhPx5, qhPx6, qhPx7, qhPx8⟩ := hPx.c9
  obtain ⟨qhxxb0, qhxxb1, qhxxb2, qhxxb3, qhxxb4, qhxxb5, qhxxb6, qhxxb7, qhxxb8⟩ := hxxb.c9
  replace hPx := hPx.drew
  replace hxxb := hxxb.drew
  replace oxa := oxa.drew
  replace osa := osa.drew
  replace oua := oua.drew
  replace oxb := oxb.drew
  replace osb := osb.drew
  replace oub := oub.drew
  replace hX := hX.drew
  go_wp2_with fail
  go_region_held3 (fun w' => w'.cell? ⟨w.heap.size, 0, none⟩ = some (.int .i64 x.a) ∧ w'.cell? ⟨w.heap.size, 1, none⟩ = some (.int .i64 x.b) ∧ w'.cell? ⟨w.heap.size, 2, none⟩ = some (.int .i64 x.c) ∧ w'.cell? ⟨w.heap.size, 3, none⟩ = some (.slice x.p.x.A x.p.x.n x.p.x.c) ∧ w'.cell? ⟨w.heap.size, 4, none⟩ = some (.int .i64 x.d) ∧ w'.cell? ⟨w.heap.size, 5, none⟩ = some (.slice x.p.y.A x.p.y.n x.p.y.c) ∧ w'.cell? ⟨w.heap.size, 6, none⟩ = some (.slice x.p.z.A x.p.z.n x.p.z.c) ∧ w'.cell? ⟨w.heap.size, 7, none⟩ = some (.int .i64 x.e) ∧ w'.cell? ⟨w.heap.size, 8, none⟩ = some (.int .i64 x.f) ∧ w'.cell? ⟨w8.heap.size, 0, none⟩ = some (.int .i64 xb.a) ∧ w'.cell? ⟨w8.heap.size, 1, none⟩ = some (.int .i64 xb.b) ∧ w'.cell? ⟨w8.heap.size, 2, none⟩ = some (.int .i64 xb.c) ∧ w'.cell? ⟨w8.heap.size, 3, none⟩ = some (.slice xb.p.x.A xb.p.x.n xb.p.x.c) ∧ w'.cell? ⟨w8.heap.size, 4, none⟩ = some (.int .i64 xb.d) ∧ w'.cell? ⟨w8.heap.size, 5, none⟩ = some (.slice xb.p.y.A xb.p.y.n xb.p.y.c) ∧ w'.cell? ⟨w8.heap.size, 6, none⟩ = some (.slice xb.p.z.A xb.p.z.n xb.p.z.c) ∧ w'.cell? ⟨w8.heap.size, 7, none⟩ = some (.int .i64 xb.e) ∧ w'.cell? ⟨w8.heap.size, 8, none⟩ = some (.int .i64 xb.f)) (first | exact kk2.2 | exact kk1.2 | go_keep) (first | (go_at_call 10; refine (toRecord_any x y _ (rx.ext hX)).mono ?_; rintro e w12 ⟨xbc, rfl, oxbc, hx⟩; replace hX := hX.trans hx; have z12 : w11.heap.size ≤ w12.heap.size := (by have := hx.size; simpa using this); replace hPx := hPx.ext hx; replace hxxb := hxxb.ext hx; replace oxa := oxa.ext hx; replace osa := osa.ext hx; replace oua := oua.ext hx; replace oxb := oxb.ext hx; replace osb := osb.ext hx; replace oub := oub.ext hx; have kk1 := And.intro trivial (show w12.cell? ⟨w.heap.size, 0, none⟩ = some (.int .i64 x.a) ∧ w12.cell? ⟨w.heap.size, 1, none⟩ = some (.int .i64 x.b) ∧ w12.cell? ⟨w.heap.size, 2, none⟩ = some (.int .i64 x.c) ∧ w12.cell? ⟨w.heap.size, 3, none⟩ = some (.slice x.p.x.A x.p.x.n x.p.x.c) ∧ w12.cell? ⟨w.heap.size, 4, none⟩ = some (.int .i64 x.d) ∧ w12.cell? ⟨w.heap.size, 5, none⟩ = some (.slice x.p.y.A x.p.y.n x.p.y.c) ∧ w12.cell? ⟨w.heap.size, 6, none⟩ = some (.slice x.p.z.A x.p.z.n x.p.z.c) ∧ w12.cell? ⟨w.heap.size, 7, none⟩ = some (.int .i64 x.e) ∧ w12.cell? ⟨w.heap.size, 8, none⟩ = some (.int .i64 x.f) ∧ w12.cell? ⟨w8.heap.size, 0, none⟩ = some (.int .i64 xb.a) ∧ w12.cell? ⟨w8.heap.size, 1, none⟩ = some (.int .i64 xb.b) ∧ w12.cell? ⟨w8.heap.size, 2, none⟩ = some (.int .i64 xb.c) ∧ w12.cell? ⟨w8.heap.size, 3, none⟩ = some (.slice xb.p.x.A xb.p.x.n xb.p.x.c) ∧ w12.cell? ⟨w8.heap.size, 4, none⟩ = some (.int .i64 xb.d) ∧ w12.cell? ⟨w8.heap.size, 5, none⟩ = some (.slice xb.p.y.A xb.p.y.n xb.p.y.c) ∧ w12.cell? ⟨w8.heap.size, 6, none⟩ = some (.slice xb.p.z.A xb.p.z.n xb.p.z.c) ∧ w12.cell? ⟨w8.heap.size, 7, none⟩ = some (.int .i64 xb.e) ∧ w12.cell? ⟨w8.heap.size, 8, none⟩ = some (.int .i64 xb.f) from ⟨hPx.c9.1, hPx.c9.2.1, hPx.c9.2.2.1, hPx.c9.2.2.2.1, hPx.c9.2.2.2.2.1, hPx.c9.2.2.2.2.2.1, hPx.c9.2.2.2.2.2.2.1, hPx.c9.2.2.2.2.2.2.2.1, hPx.c9.2.2.2.2.2.2.2.2, hxxb.c9.1, hxxb.c9.2.1, hxxb.c9.2.2.1, hxxb.c9.2.2.2.1, hxxb.c9.2.2.2.2.1, hxxb.c9.2.2.2.2.2.1, hxxb.c9.2.2.2.2.2.2.1, hxxb.c9.2.2.2.2.2.2.2.1, hxxb.c9.2.2.2.2.2.2.2.2⟩); clear hx) | (go_at_call 15; refine (eqRecord_yes xb xbc _ _ oxb.rd oxbc.rd).mono ?_; rintro e w13 ⟨rfl, hx⟩; replace hX := hX.trans hx; have z13 : w12.heap.size ≤ w13.heap.size := (by have := hx.size; simpa using this); replace hPx := hPx.ext hx; replace hxxb := hxxb.ext hx; replace oxa := oxa.ext hx; replace osa := osa.ext hx; replace oua := oua.ext hx; replace oxb := oxb.ext hx; replace osb := osb.ext hx; replace oub := oub.ext hx; have kk2 := And.intro trivial (show w13.cell? ⟨w.heap.size, 0, none⟩ = some (.int .i64 x.a) ∧ w13.cell? ⟨w.heap.size, 1, none⟩ = some (.int .i64 x.b) ∧ w13.cell? ⟨w.heap.size, 2, none⟩ = some (.int .i64 x.c) ∧ w13.cell? ⟨w.heap.size, 3, none⟩ = some (.slice x.p.x.A x.p.x.n x.p.x.c) ∧ w13.cell? ⟨w.heap.size, 4, none⟩ = some (.int .i64 x.d) ∧ w13.cell? ⟨w.heap.size, 5, none⟩ = some (.slice x.p.y.A x.p.y.n x.p.y.c) ∧ w13.cell? ⟨w.heap.size, 6, none⟩ = some (.slice x.p.z.A x.p.z.n x.p.z.c) ∧ w13.cell? ⟨w.heap.size, 7, none⟩ = some (.int .i64 x.e) ∧ w13.cell? ⟨w.heap.size, 8, none⟩ = some (.int .i64 x.f) ∧ w13.cell? ⟨w8.heap.size, 0, none⟩ = some (.int .i64 xb.a) ∧ w13.cell? ⟨w8.heap.size, 1, none⟩ = some (.int .i64 xb.b) ∧ w13.cell? ⟨w8.heap.size, 2, none⟩ = some (.int .i64 xb.c) ∧ w13.cell? ⟨w8.heap.size, 3, none⟩ = some (.slice xb.p.x.A xb.p.x.n xb.p.x.c) ∧ w13.cell? ⟨w8.heap.size, 4, none⟩ = some (.int .i64 xb.d) ∧ w13.cell? ⟨w8.heap.size, 5, none⟩ = some (.slice xb.p.y.A xb.p.y.n xb.p.y.c) ∧ w13.cell? ⟨w8.heap.size, 6, none⟩ = some (.slice xb.p.z.A xb.p.z.n xb.p.z.c) ∧ w13.cell? ⟨w8.heap.size, 7, none⟩ = some (.int .i64 xb.e) ∧ w13.cell? ⟨w8.heap.size, 8, none⟩ = some (.int .i64 xb.f) from ⟨hPx.c9.1, hPx.c9.2.1, hPx.c9.2.2.1, hPx.c9.2.2.2.1, hPx.c9.2.2.2.2.1, hPx.c9.2.2.2.2.2.1, hPx.c9.2.2.2.2.2.2.1, hPx.c9.2.2.2.2.2.2.2.1, hPx.c9.2.2.2.2.2.2.2.2, hxxb.c9.1, hxxb.c9.2.1, hxxb.c9.2.2.1, hxxb.c9.2.2.2.1, hxxb.c9.2.2.2.2.1, hxxb.c9.2.2.2.2.2.1, hxxb.c9.2.2.2.2.2.2.1, hxxb.c9.2.2.2.2.2.2.2.1, hxxb.c9.2.2.2.2.2.2.2.2⟩); clear hx))
  clear kk1 kk2
  clear qhPx0 qhPx1 qhPx2 qhPx3 qhPx4 qhPx5 qhPx6 qhPx7 qhPx8 qhxxb0 qhxxb1 qhxxb2 qhxxb3 qhxxb4 qhxxb5 qhxxb6 qhxxb7 qhxxb8
  obtain ⟨qhPx0, qhPx1, qhPx2, qhPx3, qhPx4, qhPx5, qhPx6, qhPx7, qhPx8⟩ := hPx.c9
  obtain ⟨qhxxb0, qhxxb1, qhxxb2, qhxxb3, qhxxb4, qhxxb5, qhxxb6, qhxxb7, qhxxb8⟩ := hxxb.c9
  go_wp2_with fail
  refine (toTieS_any s ts _ (rs.ext hX)).mono ?_
  rintro e w14 ⟨sbc, rfl, osbc, hx⟩
  clear qhPx0 qhPx1 qhPx2 qhPx3 qhPx4 qhPx5 qhPx6 qhPx7 qhPx8 qhxxb0 qhxxb1 qhxxb2 qhxxb3 qhxxb4 qhxxb5 qhxxb6 qhxxb7 qhxxb8
  replace hX := hX.trans hx
  have z14 : w13.heap.size ≤ w14.heap.size := (by have := hx.size; simpa using this)
  replace hPx := hPx.ext hx
  replace hxxb := hxxb.ext hx
  replace oxa := oxa.ext hx
  replace osa := osa.ext hx
  replace oua := oua.ext hx
  replace oxb := oxb.ext hx
  replace osb := osb.ext hx
  replace oub := oub.ext hx
  clear hx
  obtain ⟨qhPx0, qhPx1, qhPx2, qhPx3, qhPx4, qhPx5, qhPx6, qhPx7, qhPx8⟩ := hPx.c9
  obtain ⟨qhxxb0, qhxxb1, qhxxb2, qhxxb3, qhxxb4, qhxxb5, qhxxb6, qhxxb7, qhxxb8⟩ := hxxb.c9
  go_wp2_with fail
  refine (eqTieS_yes sb sbc _ _ osb.rd (osbc.ext (Ext.refl _)).rd).mono ?_
  rintro e w15 ⟨rfl, hx⟩
  clear qhPx0 qhPx1 qhPx2 qhPx3 qhPx4 qhPx5 qhPx6 qhPx7 qhPx8 qhxxb0 qhxxb1 qhxxb2 qhxxb3 qhxxb4 qhxxb5 qhxxb6 qhxxb7 qhxxb8
  replace hX := hX.trans hx
  have z15 : w14.heap.size ≤ w15.heap.size := (by have := hx.size; simpa using this)
  replace hPx := hPx.ext hx
  replace hxxb := hxxb.ext hx
  replace oxa := oxa.ext hx
  replace osa := osa.ext hx
  replace oua := oua.ext hx
  replace oxb := oxb.ext hx
  replace osb := osb.ext hx
  replace oub := oub.ext hx
  clear hx
  obtain ⟨qhPx0, qhPx1, qhPx2, qhPx3, qhPx4, qhPx5, qhPx6, qhPx7, qhPx8⟩ := hPx.c9
  obtain ⟨qhxxb0, qhxxb1, qhxxb2, qhxxb3, qhxxb4, qhxxb5, qhxxb6, qhxxb7, qhxxb8⟩ := hxxb.c9
  go_wp2_with fail
  refine (toStringS_any u us _ (ru.ext hX)).mono ?_
  rintro e w16 ⟨ubc, rfl, oubc, hx⟩
  clear qhPx0 qhPx1 qhPx2 qhPx3 qhPx4 qhPx5 qhPx6 qhPx7 qhPx8 qhxxb0 qhxxb1 qhxxb2 qhxxb3 qhxxb4 qhxxb5 qhxxb6 qhxxb7 qhxxb8
  replace hX := hX.trans hx
  have z16 : w15.heap.size ≤ w16.heap.size := (by have := hx.size; simpa using this)
  replace hPx := hPx.ext hx
  replace hxxb := hxxb.ext hx
  replace oxa := oxa.ext hx
  replace osa := osa.ext hx
  replace oua := oua.ext hx
  replace oxb := oxb.ext hx
  replace osb := osb.ext hx
  replace oub := oub.ext hx
  clear hx
  obtain ⟨qhPx0, qhPx1, qhPx2, qhPx3, qhPx4, qhPx5, qhPx6, qhPx7, qhPx8⟩ := hPx.c9
  obtain ⟨qhxxb0, qhxxb1, qhxxb2, qhxxb3, qhxxb4, qhxxb5, qhxxb6, qhxxb7, qhxxb8⟩ := hxxb.c9
  go_wp2_with fail
  refine (eqStringS_yes ub ubc _ _ oub.rd (oubc.ext (Ext.refl _)).rd).mono ?_
  rintro e w17 ⟨rfl, hx⟩
  clear qhPx0 qhPx1 qhPx2 qhPx3 qhPx4 qhPx5 qhPx6 qhPx7 qhPx8 qhxxb0 qhxxb1 qhxxb2 qhxxb3 qhxxb4 qhxxb5 qhxxb6 qhxxb7 qhxxb8
  replace hX := hX.trans hx
  have z17 : w16.heap.size ≤ w17.heap.size := (by have := hx.size; simpa using this)
  replace hPx := hPx.ext hx
  replace hxxb := hxxb.ext hx
  replace oxa := oxa.ext hx
  replace osa := osa.ext hx
  replace oua := oua.ext hx
  replace oxb := oxb.ext hx
  replace osb := osb.ext hx
  replace oub := oub.ext hx
  clear hx
  obtain ⟨qhPx0, qhPx1, qhPx2, qhPx3, qhPx4, qhPx5, qhPx6, qhPx7, qhPx8⟩ := hPx.c9
  obtain ⟨qhxxb0, qhxxb1, qhxxb2, qhxxb3, qhxxb4, qhxxb5, qhxxb6, qhxxb7, qhxxb8⟩ := hxxb.c9
  go_wp2
  go_ret
  exact ⟨rfl, hX⟩
theorem own_FirstBadMove : ownKnob Try.prog.godebug = none := by kernel_rfl
set_option maxRecDepth 100000 in
theorem lifted_FirstBadMove (os : Os) (started : os.Started) (H : Type) (enc : TypeId × Value → H) :
    ReturnsInHanded {} Try.checked os 4 .any (Rows.fnExactFirstBadMoveSpec.pre6 enc Try.prog Try.f4 Rows.fnExactFirstBadMoveRow.domain false) (Rows.fnExactFirstBadMoveSpec.post enc Try.prog Try.f4 false true false false) := by
  refine returnsInHanded_of_change (C := Try.checked) own_FirstBadMove started (by kernel_rfl) Try.func4
    (ChangeSpec.witness6 (enc := enc) (C := Try.checked) false ⟨#[], #[.agg #[.int .i64 0, .int .i64 0, .int .i64 0, .slice none 0 0, .int .i64 0, .slice none 0 0, .slice none 0 0, .int .i64 0, .int .i64 0], .slice none 0 0, .slice none 0 0], []⟩ 8 (by kernel_rfl) (by kernel_rfl) (by kernel_rfl) (by kernel_rfl)) ?_
  intro W base args ds gs before hval0 hW hcnd _
  have hval : ∀ (j : Nat) t v, Try.f4.params[j]? = some t → args[j]? = some v → Value.okWide Try.prog W .any base t v := hval0
  have hW' := hW
  obtain ⟨p, q, hA0, hV, rfl, hfz, hnd⟩ := hW
  have hA : DataW.TrodAll enc Try.prog W 0 (fun _ => true) true Try.f4.params.toList args.toList ds p := hA0
  rw [Try.params4] at hA hval
  obtain ⟨v0, vs0, d0, ds0, p0, q0, hargs, rfl, rfl, h0, r0⟩ := trodAll_cons hA
  obtain ⟨v1, vs1, d1, ds1, p1, q1, rfl, rfl, rfl, h1, r1⟩ := trodAll_cons r0
  obtain ⟨v2, vs2, d2, ds2, p2, q2, rfl, rfl, rfl, h2, r2⟩ := trodAll_cons r1
  obtain ⟨rfl, rfl, rfl⟩ := trodAll_nil r2
  obtain rfl : args = #[v0, v1, v2] := by cases args; simp_all
  obtain ⟨rfl, rfl⟩ := trodVars_none hV
  have k0 := h0
  have lt0 : ∀ x ∈ p0, x.block < W.heap.size := by obtain ⟨m, hm⟩ := k0; exact DataW.trod_lt m _ _ _ hm
  obtain ⟨s0, x0, rfl, i0⟩ := open_Record (hval 0 24 v0 rfl rfl) h0 (fun _ => rfl)
  have k1 := h1
  have lt1 : ∀ x ∈ p1, x.block < W.heap.size := by obtain ⟨m, hm⟩ := k1; exact DataW.trod_lt m _ _ _ hm
  obtain ⟨s1, x1, rfl, i1⟩ := open_ties_arg (hval 1 25 v1 rfl rfl) h1 (fun _ => rfl)
  have k2 := h2
  have lt2 : ∀ x ∈ p2, x.block < W.heap.size := by obtain ⟨m, hm⟩ := k2; exact DataW.trod_lt m _ _ _ hm
  obtain ⟨s2, x2, rfl, i2⟩ := open_strs_arg (hval 2 26 v2 rfl rfl) h2 (fun _ => rfl)
  clear hA0 hval0
  refine (law_FirstBadMove s0 x0 s1 x1 s2 x2 W i0 i1 i2).mono fun e W' ⟨he, bel⟩ => ?_
  subst he
  exact ⟨_, rfl, _, _, _, [], _, [], hW', trodAll_mk1 (shut_bool Try.underlying4 _), (trodAll_cons_mk (Below.trod laidOut (by kernel_rfl) (of_decide_eq_true (by kernel_rfl)) k0 bel lt0) (trodAll_cons_mk (Below.trod laidOut (by kernel_rfl) (of_decide_eq_true (by kernel_rfl)) k1 bel lt1) (trodAll_cons_mk (Below.trod laidOut (by kernel_rfl) (of_decide_eq_true (by kernel_rfl)) k2 bel lt2) trodAll_mk0))), rfl, Below.frame bel _, fun h => by cases h⟩
theorem over_FirstBadMove : Rows.fnExactFirstBadMoveRow.holds Try.pinned (OpenSpec.ofChange Rows.fnExactFirstBadMoveSpec) :=
  OpenClaim.holds_of_wide 4 Try.f4 rfl rfl rfl rfl rfl rfl rfl ⟨rfl, rfl, rfl, rfl, rfl⟩ rfl rfl rfl rfl rfl (by kernel_rfl) Try.func4 (by kernel_rfl)
    (of_decide_eq_true (by kernel_rfl)) (by unfold Func.isWrapper; first | (rw [if_pos (by decide +kernel)]; kernel_rfl) | (rw [if_neg (by decide +kernel)]; exact ⟨rfl, rfl⟩))
    (fun os started H enc _ => lifted_FirstBadMove os started H enc)
/-- the statement -/
theorem proved_FirstBadMove : Rows.FnExactFirstBadMoveSaid := over_FirstBadMove
#print axioms proved_FirstBadMove
end Go.Proofs.Ytbkpcfncdnmknaa.mem
