/-
  The law FnExactStruckBy holds of the given program for every input: it returns true, and each argument reads as it did.
-/
import Derived.Test.YtbkpcfncdnmknaaRecOpen
import Derived.Test.YtbkpcfncdnmknaaCauOpen
import Derived.Test.YtbkpcfncdnmknaaOpen
import Derived.Test.YtbkpcfncdnmknaaSt
import Derived.Test.YtbkpcfncdnmknaaRecMk
namespace Go.Proofs.Ytbkpcfncdnmknaa.mem
open Go.ChangeShapes Go.WideShapes Go.ChangeAt Go.RowKit
set_option linter.unusedVariables false
set_option maxHeartbeats 4000000 in
theorem law_StruckBy (x : RecA) (y : RecL) (s : Sl) (ts : List Ti) (u : Sl) (us : List ByteArray) (k : Int) (w : World) (ix : InR w x y) (is : InT w s ts) (iu : InW w u us) (bk : -9223372036854775808 ≤ k ∧ k ≤ 9223372036854775807) :
    Calls Try.prog 5 #[.agg #[.int .i64 x.a, .int .i64 x.b, .int .i64 x.c, .slice x.p.x.A x.p.x.n x.p.x.c, .int .i64 x.d, .slice x.p.y.A x.p.y.n x.p.y.c, .slice x.p.z.A x.p.z.n x.p.z.c, .int .i64 x.e, .int .i64 x.f], .slice s.A s.n s.c, .slice u.A u.n u.c, .int .i64 k] w fun e w' => e = .returned (.bool true) ∧ Ext w w' := by
  have hX := Ext.refl w
  have hPx := Blk.new w 24 (#[.int .i64 x.a, .int .i64 x.b, .int .i64 x.c, .slice x.p.x.A x.p.x.n x.p.x.c, .int .i64 x.d, .slice x.p.y.A x.p.y.n x.p.y.c, .slice x.p.z.A x.p.z.n x.p.z.c, .int .i64 x.e, .int .i64 x.f])
  replace hX := hX.alloc (.cells #[.int .i64 x.a, .int .i64 x.b, .int .i64 x.c, .slice x.p.x.A x.p.x.n x.p.x.c, .int .i64 x.d, .slice x.p.y.A x.p.y.n x.p.y.c, .slice x.p.z.A x.p.z.n x.p.z.c, .int .i64 x.e, .int .i64 x.f] 24)
  by_cases hsx : 0 ≤ szR 1048576 x
  case neg =>
    go_enter Try.func5, Try.ntmps5
    obtain ⟨qhPx0, qhPx1, qhPx2, qhPx3, qhPx4, qhPx5, qhPx6, qhPx7, qhPx8⟩ := hPx.c9
    go_wp2_with fail
    refine (szRecord_any x _ _ (by omega) (by omega) ix).mono ?_
    rintro e w1 ⟨rfl, hx⟩
    clear qhPx0 qhPx1 qhPx2 qhPx3 qhPx4 qhPx5 qhPx6 qhPx7 qhPx8
    replace hX := hX.trans hx
    have z1 : w.heap.size + 1 ≤ w1.heap.size := (by have := hx.size; simpa using this)
    replace hPx := hPx.ext hx
    clear hx
    obtain ⟨qhPx0, qhPx1, qhPx2, qhPx3, qhPx4, qhPx5, qhPx6, qhPx7, qhPx8⟩ := hPx.c9
    go_wp2
    go_ret
    exact ⟨rfl, hX⟩
  have rx := ix.rds hsx (by omega)
  have hlx := (szR_pos hsx (by omega)).2
  by_cases hss : 0 ≤ szLs (szR 1048576 x) (lensT ts)
  case neg =>
    go_enter Try.func5, Try.ntmps5
    obtain ⟨qhPx0, qhPx1, qhPx2, qhPx3, qhPx4, qhPx5, qhPx6, qhPx7, qhPx8⟩ := hPx.c9
    go_wp2_with fail
    refine (szRecord_any x _ _ (by omega) (by omega) ix).mono ?_
    rintro e w1 ⟨rfl, hx⟩
    clear qhPx0 qhPx1 qhPx2 qhPx3 qhPx4 qhPx5 qhPx6 qhPx7 qhPx8
    replace hX := hX.trans hx
    have z1 : w.heap.size + 1 ≤ w1.heap.size := (by have := hx.size; simpa using this)
    replace hPx := hPx.ext hx
    clear hx
    obtain ⟨qhPx0, qhPx1, qhPx2, qhPx3, qhPx4, qhPx5, qhPx6, qhPx7, qhPx8⟩ := hPx.c9
    go_wp2_with fail
    refine (szTieS_any s ts _ _ (by omega) (by omega) is hX).mono ?_
    rintro e w2 ⟨rfl, hx⟩
    clear qhPx0 qhPx1 qhPx2 qhPx3 qhPx4 qhPx5 qhPx6 qhPx7 qhPx8
    replace hX := hX.trans hx
    have z2 : w1.heap.size ≤ w2.heap.size := (by have := hx.size; simpa using this)
    replace hPx := hPx.ext hx
    clear hx
    obtain ⟨qhPx0, qhPx1, qhPx2, qhPx3, qhPx4, qhPx5, qhPx6, qhPx7, qhPx8⟩ := hPx.c9
    go_wp2
    go_ret
    exact ⟨rfl, hX⟩
  have rs := is.rds hss (by omega)
  have hls := (szLt_pos hss (by omega)).2
  by_cases hsu : 0 ≤ szLs (szLs (szR 1048576 x) (lensT ts)) (lensW us)
  case neg =>
    go_enter Try.func5, Try.ntmps5
    obtain ⟨qhPx0, qhPx1, qhPx2, qhPx3, qhPx4, qhPx5, qhPx6, qhPx7, qhPx8⟩ := hPx.c9
    go_wp2_with fail
    refine (szRecord_any x _ _ (by omega) (by omega) ix).mono ?_
    rintro e w1 ⟨rfl, hx⟩
    clear qhPx0 qhPx1 qhPx2 qhPx3 qhPx4 qhPx5 qhPx6 qhPx7 qhPx8
    replace hX := hX.trans hx
    have z1 : w.heap.size + 1 ≤ w1.heap.size := (by have := hx.size; simpa using this)
    replace hPx := hPx.ext hx
    clear hx
    obtain ⟨qhPx0, qhPx1, qhPx2, qhPx3, qhPx4, qhPx5, qhPx6, qhPx7, qhPx8⟩ := hPx.c9
    go_wp2_with fail
    refine (szTieS_any s ts _ _ (by omega) (by omega) is hX).mono ?_
    rintro e w2 ⟨rfl, hx⟩
    clear qhPx0 qhPx1 qhPx2 qhPx3 qhPx4 qhPx5 qhPx6 qhPx7 qhPx8
    replace hX := hX.trans hx
    have z2 : w1.heap.size ≤ w2.heap.size := (by have := hx.size; simpa using this)
    replace hPx := hPx.ext hx
    clear hx
    obtain ⟨qhPx0, qhPx1, qhPx2, qhPx3, qhPx4, qhPx5, qhPx6, qhPx7, qhPx8⟩ := hPx.c9
    go_wp2_with fail
    refine (szStringS_any u us _ _ (by omega) (by omega) iu hX).mono ?_
    rintro e w3 ⟨rfl, hx⟩
    clear qhPx0 qhPx1 qhPx2 qhPx3 qhPx4 qhPx5 qhPx6 qhPx7 qhPx8
    replace hX := hX.trans hx
    have z3 : w2.heap.size ≤ w3.heap.size := (by have := hx.size; simpa using this)
    replace hPx := hPx.ext hx
    clear hx
    obtain ⟨qhPx0, qhPx1, qhPx2, qhPx3, qhPx4, qhPx5, qhPx6, qhPx7, qhPx8⟩ := hPx.c9
    go_wp2
    go_ret
    exact ⟨rfl, hX⟩
  have ru := iu.rds hsu (by omega)
  have hlu := (szLt_pos hsu (by omega)).2
  go_enter Try.func5, Try.ntmps5
  obtain ⟨qhPx0, qhPx1, qhPx2, qhPx3, qhPx4, qhPx5, qhPx6, qhPx7, qhPx8⟩ := hPx.c9
  go_wp2_with fail
  refine (szRecord_any x _ _ (by omega) (by omega) ix).mono ?_
  rintro e w1 ⟨rfl, hx⟩
  clear qhPx0 qhPx1 qhPx2 qhPx3 qhPx4 qhPx5 qhPx6 qhPx7 qhPx8
  replace hX := hX.trans hx
  have z1 : w.heap.size + 1 ≤ w1.heap.size := (by have := hx.size; simpa using this)
  replace hPx := hPx.ext hx
  clear hx
  obtain ⟨qhPx0, qhPx1, qhPx2, qhPx3, qhPx4, qhPx5, qhPx6, qhPx7, qhPx8⟩ := hPx.c9
  go_wp2_with fail
  refine (szTieS_any s ts _ _ (by omega) (by omega) is hX).mono ?_
  rintro e w2 ⟨rfl, hx⟩
  clear qhPx0 qhPx1 qhPx2 qhPx3 qhPx4 qhPx5 qhPx6 qhPx7 qhPx8
  replace hX := hX.trans hx
  have z2 : w1.heap.size ≤ w2.heap.size := (by have := hx.size; simpa using this)
  replace hPx := hPx.ext hx
  clear hx
  obtain ⟨qhPx0, qhPx1, qhPx2, qhPx3, qhPx4, qhPx5, qhPx6, qhPx7, qhPx8⟩ := hPx.c9
  go_wp2_with fail
  refine (szStringS_any u us _ _ (by omega) (by omega) iu hX).mono ?_
  rintro e w3 ⟨rfl, hx⟩
  clear qhPx0 qhPx1 qhPx2 qhPx3 qhPx4 qhPx5 qhPx6 qhPx7 qhPx8
  replace hX := hX.trans hx
  have z3 : w2.heap.size ≤ w3.heap.size := (by have := hx.size; simpa using this)
  replace hPx := hPx.ext hx
  clear hx
  obtain ⟨qhPx0, qhPx1, qhPx2, qhPx3, qhPx4, qhPx5, qhPx6, qhPx7, qhPx8⟩ := hPx.c9
  go_wp2_with fail
  refine (toRecord_any x y _ (rx.ext hX)).mono ?_
  rintro e w4 ⟨xa, rfl, oxa, hx⟩
  clear qhPx0 qhPx1 qhPx2 qhPx3 qhPx4 qhPx5 qhPx6 qhPx7 qhPx8
  replace hX := hX.trans hx
  have z4 : w3.heap.size ≤ w4.heap.size := (by have := hx.size; simpa using this)
  replace hPx := hPx.ext hx
  have rgoxa : ∀ k, blksR xa k → w3.heap.size ≤ k ∧ k < w4.heap.size := (fun k hk => by have := oxa.lt hk; simpa using this)
  clear hx
  obtain ⟨qhPx0, qhPx1, qhPx2, qhPx3, qhPx4, qhPx5, qhPx6, qhPx7, qhPx8⟩ := hPx.c9
  go_wp2_with fail
  refine (toTieS_any s ts _ (rs.ext hX)).mono ?_
  rintro e w5 ⟨sa, rfl, osa, hx⟩
  clear qhPx0 qhPx1 qhPx2 qhPx3 qhPx4 qhPx5 qhPx6 qhPx7 qhPx8
  replace hX := hX.trans hx
  have z5 : w4.heap.size ≤ w5.heap.size := (by have := hx.size; simpa using this)
  replace hPx := hPx.ext hx
  replace oxa := oxa.ext hx
  have rgosa : ∀ k, Value.ownBlock (.slice sa.A sa.n sa.c) = some k → w4.heap.size ≤ k ∧ k < w5.heap.size := (fun k hk => by have := osa.lt k hk; simpa using this)
  clear hx
  obtain ⟨qhPx0, qhPx1, qhPx2, qhPx3, qhPx4, qhPx5, qhPx6, qhPx7, qhPx8⟩ := hPx.c9
  go_wp2_with fail
  refine (toStringS_any u us _ (ru.ext hX)).mono ?_
  rintro e w6 ⟨ua, rfl, oua, hx⟩
  clear qhPx0 qhPx1 qhPx2 qhPx3 qhPx4 qhPx5 qhPx6 qhPx7 qhPx8
  replace hX := hX.trans hx
  have z6 : w5.heap.size ≤ w6.heap.size := (by have := hx.size; simpa using this)
  replace hPx := hPx.ext hx
  replace oxa := oxa.ext hx
  replace osa := osa.ext hx
  have rgoua : ∀ k, Value.ownBlock (.slice ua.A ua.n ua.c) = some k → w5.heap.size ≤ k ∧ k < w6.heap.size := (fun k hk => by have := oua.lt k hk; simpa using this)
  clear hx
  obtain ⟨qhPx0, qhPx1, qhPx2, qhPx3, qhPx4, qhPx5, qhPx6, qhPx7, qhPx8⟩ := hPx.c9
  go_wp2_with fail
  refine (spec.StruckBy_any xa y sa ts ua us k _ oxa.rd osa.rd oua.rd ).mono ?_
  rintro e w7 ⟨tw0, rfl, otw0, hx⟩
  clear qhPx0 qhPx1 qhPx2 qhPx3 qhPx4 qhPx5 qhPx6 qhPx7 qhPx8
  replace hX := hX.trans hx
  have z7 : w6.heap.size ≤ w7.heap.size := (by have := hx.size; simpa using this)
  replace hPx := hPx.ext hx
  replace oxa := oxa.ext hx
  replace osa := osa.ext hx
  replace oua := oua.ext hx
  have rgotw0 : ∀ k, Value.ownBlock (.slice tw0.A tw0.n tw0.c) = some k → w6.heap.size ≤ k ∧ k < w7.heap.size := (fun k hk => by have := otw0.lt k hk; simpa using this)
  clear hx
  obtain ⟨qhPx0, qhPx1, qhPx2, qhPx3, qhPx4, qhPx5, qhPx6, qhPx7, qhPx8⟩ := hPx.c9
  go_wp2_with fail
  refine (toRecord_any x y _ (rx.ext hX)).mono ?_
  rintro e w8 ⟨xb, rfl, oxb, hx⟩
  clear qhPx0 qhPx1 qhPx2 qhPx3 qhPx4 qhPx5 qhPx6 qhPx7 qhPx8
  replace hX := hX.trans hx
  have z8 : w7.heap.size ≤ w8.heap.size := (by have := hx.size; simpa using this)
  replace hPx := hPx.ext hx
  replace oxa := oxa.ext hx
  replace osa := osa.ext hx
  replace oua := oua.ext hx
  replace otw0 := otw0.ext hx
  have rgoxb : ∀ k, blksR xb k → w7.heap.size ≤ k ∧ k < w8.heap.size := (fun k hk => by have := oxb.lt hk; simpa using this)
  clear hx
  have hxxb := Blk.new w8 34 (#[.int .i64 xb.a, .int .i64 xb.b, .int .i64 xb.c, .slice xb.p.x.A xb.p.x.n xb.p.x.c, .int .i64 xb.d, .slice xb.p.y.A xb.p.y.n xb.p.y.c, .slice xb.p.z.A xb.p.z.n xb.p.z.c, .int .i64 xb.e, .int .i64 xb.f])
  replace hPx := hPx.alloc (.cells #[.int .i64 xb.a, .int .i64 xb.b, .int .i64 xb.c, .slice xb.p.x.A xb.p.x.n xb.p.x.c, .int .i64 xb.d, .slice xb.p.y.A xb.p.y.n xb.p.y.c, .slice xb.p.z.A xb.p.z.n xb.p.z.c, .int .i64 xb.e, .int .i64 xb.f] 34)
  replace oxa := oxa.alloc (.cells #[.int .i64 xb.a, .int .i64 xb.b, .int .i64 xb.c, .slice xb.p.x.A xb.p.x.n xb.p.x.c, .int .i64 xb.d, .slice xb.p.y.A xb.p.y.n xb.p.y.c, .slice xb.p.z.A xb.p.z.n xb.p.z.c, .int .i64 xb.e, .int .i64 xb.f] 34)
  replace osa := osa.alloc (.cells #[.int .i64 xb.a, .int .i64 xb.b, .int .i64 xb.c, .slice xb.p.x.A xb.p.x.n xb.p.x.c, .int .i64 xb.d, .slice xb.p.y.A xb.p.y.n xb.p.y.c, .slice xb.p.z.A xb.p.z.n xb.p.z.c, .int .i64 xb.e, .int .i64 xb.f] 34)
  replace oua := oua.alloc (.cells #[.int .i64 xb.a, .int .i64 xb.b, .int .i64 xb.c, .slice xb.p.x.A xb.p.x.n xb.p.x.c, .int .i64 xb.d, .slice xb.p.y.A xb.p.y.n xb.p.y.c, .slice xb.p.z.A xb.p.z.n xb.p.z.c, .int .i64 xb.e, .int .i64 xb.f] 34)
  replace otw0 := otw0.alloc (.cells #[.int .i64 xb.a, .int .i64 xb.b, .int .i64 xb.c, .slice xb.p.x.A xb.p.x.n xb.p.x.c, .int .i64 xb.d, .slice xb.p.y.A xb.p.y.n xb.p.y.c, .slice xb.p.z.A xb.p.z.n xb.p.z.c, .int .i64 xb.e, .int .i64 xb.f] 34)
  replace oxb := oxb.alloc (.cells #[.int .i64 xb.a, .int .i64 xb.b, .int .i64 xb.c, .slice xb.p.x.A xb.p.x.n xb.p.x.c, .int .i64 xb.d, .slice xb.p.y.A xb.p.y.n xb.p.y.c, .slice xb.p.z.A xb.p.z.n xb.p.z.c, .int .i64 xb.e, .int .i64 xb.f] 34)
  replace hX := hX.alloc (.cells #[.int .i64 xb.a, .int .i64 xb.b, .int .i64 xb.c, .slice xb.p.x.A xb.p.x.n xb.p.x.c, .int .i64 xb.d, .slice xb.p.y.A xb.p.y.n xb.p.y.c, .slice xb.p.z.A xb.p.z.n xb.p.z.c, .int .i64 xb.e, .int .i64 xb.f] 34)
  obtain ⟨qhPx0, qhPx1, qhPx2, qhPx3, qhPx4, qhPx5, qhPx6, qhPx7, qhPx8⟩ := hPx.c9
  obtain ⟨qhxxb0, qhxxb1, qhxxb2, qhxxb3, qhxxb4, qhxxb5, qhxxb6, qhxxb7, qhxxb8⟩ := hxxb.c9
  go_wp2_with fail
  refine (toTieS_any s ts _ (rs.ext hX)).mono ?_
  rintro e w9 ⟨sb, rfl, osb, hx⟩
  clear qhPx0 qhPx1 qhPx2 qhPx3 qhPx4 qhPx5 qhPx6 qhPx7 qhPx8 qhxxb0 qhxxb1 qhxxb2 qhxxb3 qhxxb4 qhxxb5 qhxxb6 qhxxb7 qhxxb8
  replace hX := hX.trans hx
  have z9 : w8.heap.size + 1 ≤ w9.heap.size := (by have := hx.size; simpa using this)
  replace hPx := hPx.ext hx
  replace hxxb := hxxb.ext hx
  replace oxa := oxa.ext hx
  replace osa := osa.ext hx
  replace oua := oua.ext hx
  replace otw0 := otw0.ext hx
  replace oxb := oxb.ext hx
  have rgosb : ∀ k, Value.ownBlock (.slice sb.A sb.n sb.c) = some k → w8.heap.size + 1 ≤ k ∧ k < w9.heap.size := (fun k hk => by have := osb.lt k hk; simpa using this)
  clear hx
  obtain ⟨qhPx0, qhPx1, qhPx2, qhPx3, qhPx4, qhPx5, qhPx6, qhPx7, qhPx8⟩ := hPx.c9
  obtain ⟨qhxxb0, qhxxb1, qhxxb2, qhxxb3, qhxxb4, qhxxb5, qhxxb6, qhxxb7, qhxxb8⟩ := hxxb.c9
  go_wp2_with fail
  refine (toStringS_any u us _ (ru.ext hX)).mono ?_
  rintro e w10 ⟨ub, rfl, oub, hx⟩
  clear qhPx0 qhPx1 qhPx2 qhPx3 qhPx4 qhPx5 qhPx6 qhPx7 qhPx8 qhxxb0 qhxxb1 qhxxb2 qhxxb3 qhxxb4 qhxxb5 qhxxb6 qhxxb7 qhxxb8
  replace hX := hX.trans hx
  have z10 : w9.heap.size ≤ w10.heap.size := (by have := hx.size; simpa using this)
  replace hPx := hPx.ext hx
  replace hxxb := hxxb.ext hx
  replace oxa := oxa.ext hx
  replace osa := osa.ext hx
  replace oua := oua.ext hx
  replace otw0 := otw0.ext hx
  replace oxb := oxb.ext hx
  replace osb := osb.ext hx
  have rgoub : ∀ k, Value.ownBlock (.slice ub.A ub.n ub.c) = some k → w9.heap.size ≤ k ∧ k < w10.heap.size := (fun k hk => by have := oub.lt k hk; simpa using this)
  clear hx
  obtain ⟨qhPx0, qhPx1, qhPx2, qhPx3, qhPx4, qhPx5, qhPx6, qhPx7, qhPx8⟩ := hPx.c9
  obtain ⟨qhxxb0, qhxxb1, qhxxb2, qhxxb3, qhxxb4, qhxxb5, qhxxb6, qhxxb7, qhxxb8⟩ := hxxb.c9
  go_wp2_with fail
  refine (impl.StruckBy_any xb y sb ts ub us k _ oxb.rd osb.rd oub.rd osb.cap).mono ?_
  rintro e w11 ⟨tg0, rfl, otg0, hx⟩
  clear qhPx0 qhPx1 qhPx2 qhPx3 qhPx4 qhPx5 qhPx6 qhPx7 qhPx8 qhxxb0 qhxxb1 qhxxb2 qhxxb3 qhxxb4 qhxxb5 qhxxb6 qhxxb7 qhxxb8
  replace hX := hX.trans hx
  have z11 : w10.heap.size ≤ w11.heap.size := (by have := hx.size; simpa using this)
  replace hPx := hPx.ext hx
  replace hxxb := hxxb.ext hx
  replace oxa := oxa.ext hx
  replace osa := osa.ext hx
  replace oua := oua.ext hx
  replace otw0 := otw0.ext hx
  replace oxb := oxb.ext hx
  replace osb := osb.ext hx
  replace oub := oub.ext hx
  have rgotg0 : ∀ k, Value.ownBlock (.slice tg0.A tg0.n tg0.c) = some k → w10.heap.size ≤ k ∧ k < w11.heap.size := (fun k hk => by have := otg0.lt k hk; simpa using this)
  clear hx
  obtain ⟨qhPx0, qhPx1, qhPx2, qhPx3, qhPx4, qhPx5, qhPx6, qhPx7, qhPx8⟩ := hPx.c9
  obtain ⟨qhxxb0, qhxxb1, qhxxb2, qhxxb3, qhxxb4, qhxxb5, qhxxb6, qhxxb7, qhxxb8⟩ := hxxb.c9
  go_wp2_with fail
  refine (eqInt64S_yes tg0 tw0 _ _ otg0.rd otw0.rd).mono ?_
  rintro e w12 ⟨rfl, hx⟩
  clear qhPx0 qhPx1 qhPx2 qhPx3 qhPx4 qhPx5 qhPx6 qhPx7 qhPx8 qhxxb0 qhxxb1 qhxxb2 qhxxb3 qhxxb4 qhxxb5 qhxxb6 qhxxb7 qhxxb8
  replace hX := hX.trans hx
  have z12 : w11.heap.size ≤ w12.heap.size := (by have := hx.size; simpa using this)
  replace hPx := hPx.ext hx
  replace hxxb := hxxb.ext hx
  replace oxa := oxa.ext hx
  replace osa := osa.ext hx
  replace oua := oua.ext hx
  replace otw0 := otw0.ext hx
  replace oxb := oxb.ext hx
  replace osb := osb.ext hx
  replace oub := oub.ext hx
  replace otg0 := otg0.ext hx
  clear hx
  obtain ⟨qhPx0, qhPx1, qhPx2, qhPx3, qhPx4, qhPx5, qhPx6, qhPx7, qhPx8⟩ := hPx.c9
  obtain ⟨qhxxb0, qhxxb1, qhxxb2, qhxxb3, qhxxb4, qhxxb5, qhxxb6, qhxxb7, qhxxb8⟩ := hxxb.c9
  replace hPx := hPx.drew
  replace hxxb := hxxb.drew
  replace oxa := oxa.drew
  replace osa := osa.drew
  replace oua := oua.drew
  replace otw0 := otw0.drew
  replace oxb := oxb.drew
  replace osb := osb.drew
  replace oub := oub.drew
  replace otg0 := otg0.drew
  replace hX := hX.drew
  go_wp2_with fail
  go_region_held3 (fun w' => w'.cell? ⟨w.heap.size, 0, none⟩ = some (.int .i64 x.a) ∧ w'.cell? ⟨w.heap.size, 1, none⟩ = some (.int .i64 x.b) ∧ w'.cell? ⟨w.heap.size, 2, none⟩ = some (.int .i64 x.c) ∧ w'.cell? ⟨w.heap.size, 3, none⟩ = some (.slice x.p.x.A x.p.x.n x.p.x.c) ∧ w'.cell? ⟨w.heap.size, 4, none⟩ = some (.int .i64 x.d) ∧ w'.cell? ⟨w.heap.size, 5, none⟩ = some (.slice x.p.y.A x.p.y.n x.p.y.c) ∧ w'.cell? ⟨w.heap.size, 6, none⟩ = some (.slice x.p.z.A x.p.z.n x.p.z.c) ∧ w'.cell? ⟨w.heap.size, 7, none⟩ = some (.int .i64 x.e) ∧ w'.cell? ⟨w.heap.size, 8, none⟩ = some (.int .i64 x.f) ∧ w'.cell? ⟨w8.heap.size, 0, none⟩ = some (.int .i64 xb.a) ∧ w'.cell? ⟨w8.heap.size, 1, none⟩ = some (.int .i64 xb.b) ∧ w'.cell? ⟨w8.heap.size, 2, none⟩ = some (.int .i64 xb.c) ∧ w'.cell? ⟨w8.heap.size, 3, none⟩ = some (.slice xb.p.x.A xb.p.x.n xb.p.x.c) ∧ w'.cell? ⟨w8.heap.size, 4, none⟩ = some (.int .i64 xb.d) ∧ w'.cell? ⟨w8.heap.size, 5, none⟩ = some (.slice xb.p.y.A xb.p.y.n xb.p.y.c) ∧ w'.cell? ⟨w8.heap.size, 6, none⟩ = some (.slice xb.p.z.A xb.p.z.n xb.p.z.c) ∧ w'.cell? ⟨w8.heap.size, 7, none⟩ = some (.int .i64 xb.e) ∧ w'.cell? ⟨w8.heap.size, 8, none⟩ = some (.int .i64 xb.f)) (first | exact kk2.2 | exact kk1.2 | go_keep) (first | (go_at_call 10; refine (toRecord_any x y _ (rx.ext hX)).mono ?_; rintro e w13 ⟨xbc, rfl, oxbc, hx⟩; replace hX := hX.trans hx; have z13 : w12.heap.size ≤ w13.heap.size := (by have := hx.size; simpa using this); replace hPx := hPx.ext hx; replace hxxb := hxxb.ext hx; replace oxa := oxa.ext hx; replace osa := osa.ext hx; replace oua := oua.ext hx; replace otw0 := otw0.ext hx; replace oxb := oxb.ext hx; replace osb := osb.ext hx; replace oub := oub.ext hx; replace otg0 := otg0.ext hx; have kk1 := And.intro trivial (show w13.cell? ⟨w.heap.size, 0, none⟩ = some (.int .i64 x.a) ∧ w13.cell? ⟨w.heap.size, 1, none⟩ = some (.int .i64 x.b) ∧ w13.cell? ⟨w.heap.size, 2, none⟩ = some (.int .i64 x.c) ∧ w13.cell? ⟨w.heap.size, 3, none⟩ = some (.slice x.p.x.A x.p.x.n x.p.x.c) ∧ w13.cell? ⟨w.heap.size, 4, none⟩ = some (.int .i64 x.d) ∧ w13.cell? ⟨w.heap.size, 5, none⟩ = some (.slice x.p.y.A x.p.y.n x.p.y.c) ∧ w13.cell? ⟨w.heap.size, 6, none⟩ = some (.slice x.p.z.A x.p.z.n x.p.z.c) ∧ w13.cell? ⟨w.heap.size, 7, none⟩ = some (.int .i64 x.e) ∧ w13.cell? ⟨w.heap.size, 8, none⟩ = some (.int .i64 x.f) ∧ w13.cell? ⟨w8.heap.size, 0, none⟩ = some (.int .i64 xb.a) ∧ w13.cell? ⟨w8.heap.size, 1, none⟩ = some (.int .i64 xb.b) ∧ w13.cell? ⟨w8.heap.size, 2, none⟩ = some (.int .i64 xb.c) ∧ w13.cell? ⟨w8.heap.size, 3, none⟩ = some (.slice xb.p.x.A xb.p.x.n xb.p.x.c) ∧ w13.cell? ⟨w8.heap.size, 4, none⟩ = some (.int .i64 xb.d) ∧ w13.cell? ⟨w8.heap.size, 5, none⟩ = some (.slice xb.p.y.A xb.p.y.n xb.p.y.c) ∧ w13.cell? ⟨w8.heap.size, 6, none⟩ = some (.slice xb.p.z.A xb.p.z.n xb.p.z.c) ∧ w13.cell? ⟨w8.heap.size, 7, none⟩ = some (.int .i64 xb.e) ∧ w13.cell? ⟨w8.heap.size, 8, none⟩ = some (.int .i64 xb.f) from ⟨hPx.c9.1, hPx.c9.2.1, hPx.c9.2.2.1, hPx.c9.2.2.2.1, hPx.c9.2.2.2.2.1, hPx.c9.2.2.2.2.2.1, hPx.c9.2.2.2.2.2.2.1, hPx.c9.2.2.2.2.2.2.2.1, hPx.c9.2.2.2.2.2.2.2.2, hxxb.c9.1, hxxb.c9.2.1, hxxb.c9.2.2.1, hxxb.c9.2.2.2.1, hxxb.c9.2.2.2.2.1, hxxb.c9.2.2.2.2.2.1, hxxb.c9.2.2.2.2.2.2.1, hxxb.c9.2.2.2.2.2.2.2.1, hxxb.c9.2.2.2.2.2.2.2.2⟩); clear hx) | (go_at_call 15; refine (eqRecord_yes xb xbc _ _ oxb.rd oxbc.rd).mono ?_; rintro e w14 ⟨rfl, hx⟩; replace hX := hX.trans hx; have z14 : w13.heap.size ≤ w14.heap.size := (by have := hx.size; simpa using this); replace hPx := hPx.ext hx; replace hxxb := hxxb.ext hx; replace oxa := oxa.ext hx; replace osa := osa.ext hx; replace oua := oua.ext hx; replace otw0 := otw0.ext hx; replace oxb := oxb.ext hx; replace osb := osb.ext hx; replace oub := oub.ext hx; replace otg0 := otg0.ext hx; have kk2 := And.intro trivial (show w14.cell? ⟨w.heap.size, 0, none⟩ = some (.int .i64 x.a) ∧ w14.cell? ⟨w.heap.size, 1, none⟩ = some (.int .i64 x.b) ∧ w14.cell? ⟨w.heap.size, 2, none⟩ = some (.int .i64 x.c) ∧ w14.cell? ⟨w.heap.size, 3, none⟩ = some (.slice x.p.x.A x.p.x.n x.p.x.c) ∧ w14.cell? ⟨w.heap.size, 4, none⟩ = some (.int .i64 x.d) ∧ w14.cell? ⟨w.heap.size, 5, none⟩ = some (.slice x.p.y.A x.p.y.n x.p.y.c) ∧ w14.cell? ⟨w.heap.size, 6, none⟩ = some (.slice x.p.z.A x.p.z.n x.p.z.c) ∧ w14.cell? ⟨w.heap.size, 7, none⟩ = some (.int .i64 x.e) ∧ w14.cell? ⟨w.heap.size, 8, none⟩ = some (.int .i64 x.f) ∧ w14.cell? ⟨w8.heap.size, 0, none⟩ = some (.int .i64 xb.a) ∧ w14.cell? ⟨w8.heap.size, 1, none⟩ = some (.int .i64 xb.b) ∧ w14.cell? ⟨w8.heap.size, 2, none⟩ = some (.int .i64 xb.c) ∧ w14.cell? ⟨w8.heap.size, 3, none⟩ = some (.slice xb.p.x.A xb.p.x.n xb.p.x.c) ∧ w14.cell? ⟨w8.heap.size, 4, none⟩ = some (.int .i64 xb.d) ∧ w14.cell? ⟨w8.heap.size, 5, none⟩ = some (.slice xb.p.y.A xb.p.y.n xb.p.y.c) ∧ w14.cell? ⟨w8.heap.size, 6, none⟩ = some (.slice xb.p.z.A xb.p.z.n xb.p.z.c) ∧ w14.cell? ⟨w8.heap.size, 7, none⟩ = some (.int .i64 xb.e) ∧ w14.cell? ⟨w8.heap.size, 8, none⟩ = some (.int .i64 xb.f) from ⟨hPx.c9.1, hPx.c9.2.1, hPx.c9.2.2.1, hPx.c9.2.2.2.1, hPx.c9.2.2.2.2.1, hPx.c9.2.2.2.2.2.1, hPx.c9.2.2.2.2.2.2.1, hPx.c9.2.2.2.2.2.2.2.1, hPx.c9.2.2.2.2.2.2.2.2, hxxb.c9.1, hxxb.c9.2.1, hxxb.c9.2.2.1, hxxb.c9.2.2.2.1, hxxb.c9.2.2.2.2.1, hxxb.c9.2.2.2.2.2.1, hxxb.c9.2.2.2.2.2.2.1, hxxb.c9.2.2.2.2.2.2.2.1, hxxb.c9.2.2.2.2.2.2.2.2⟩); clear hx))
  clear kk1 kk2
  clear qhPx0 qhPx1 qhPx2 qhPx3 qhPx4 qhPx5 qhPx6 qhPx7 qhPx8 qhxxb0 qhxxb1 qhxxb2 qhxxb3 qhxxb4 qhxxb5 qhxxb6 qhxxb7 qhxxb8
  obtain ⟨qhPx0, qhPx1, qhPx2, qhPx3, qhPx4, qhPx5, qhPx6, qhPx7, qhPx8⟩ := hPx.c9
  obtain ⟨qhxxb0, qhxxb1, qhxxb2, qhxxb3, qhxxb4, qhxxb5, qhxxb6, qhxxb7, qhxxb8⟩ := hxxb.c9
  go_wp2_with fail
  refine (toTieS_any s ts _ (rs.ext hX)).mono ?_
  rintro e w15 ⟨sbc, rfl, osbc, hx⟩
  clear qhPx0 qhPx1 qhPx2 qhPx3 qhPx4 qhPx5 qhPx6 qhPx7 qhPx8 qhxxb0 qhxxb1 qhxxb2 qhxxb3 qhxxb4 qhxxb5 qhxxb6 qhxxb7 qhxxb8
  replace hX := hX.trans hx
  have z15 : w14.heap.size ≤ w15.heap.size := (by have := hx.size; simpa using this)
  replace hPx := hPx.ext hx
  replace hxxb := hxxb.ext hx
  replace oxa := oxa.ext hx
  replace osa := osa.ext hx
  replace oua := oua.ext hx
  replace otw0 := otw0.ext hx
  replace oxb := oxb.ext hx
  replace osb := osb.ext hx
  replace oub := oub.ext hx
  replace otg0 := otg0.ext hx
  clear hx
  obtain ⟨qhPx0, qhPx1, qhPx2, qhPx3, qhPx4, qhPx5, qhPx6, qhPx7, qhPx8⟩ := hPx.c9
  obtain ⟨qhxxb0, qhxxb1, qhxxb2, qhxxb3, qhxxb4, qhxxb5, qhxxb6, qhxxb7, qhxxb8⟩ := hxxb.c9
  go_wp2_with fail
  refine (eqTieS_yes sb sbc _ _ osb.rd (osbc.ext (Ext.refl _)).rd).mono ?_
  rintro e w16 ⟨rfl, hx⟩
  clear qhPx0 qhPx1 qhPx2 qhPx3 qhPx4 qhPx5 qhPx6 qhPx7 qhPx8 qhxxb0 qhxxb1 qhxxb2 qhxxb3 qhxxb4 qhxxb5 qhxxb6 qhxxb7 qhxxb8
  replace hX := hX.trans hx
  have z16 : w15.heap.size ≤ w16.heap.size := (by have := hx.size; simpa using this)
  replace hPx := hPx.ext hx
  replace hxxb := hxxb.ext hx
  replace oxa := oxa.ext hx
  replace osa := osa.ext hx
  replace oua := oua.ext hx
  replace otw0 := otw0.ext hx
  replace oxb := oxb.ext hx
  replace osb := osb.ext hx
  replace oub := oub.ext hx
  replace otg0 := otg0.ext hx
  clear hx
  obtain ⟨qhPx0, qhPx1, qhPx2, qhPx3, qhPx4, qhPx5, qhPx6, qhPx7, qhPx8⟩ := hPx.c9
  obtain ⟨qhxxb0, qhxxb1, qhxxb2, qhxxb3, qhxxb4, qhxxb5, qhxxb6, qhxxb7, qhxxb8⟩ := hxxb.c9
  go_wp2_with fail
  refine (toStringS_any u us _ (ru.ext hX)).mono ?_
  rintro e w17 ⟨ubc, rfl, oubc, hx⟩
  clear qhPx0 qhPx1 qhPx2 qhPx3 qhPx4 qhPx5 qhPx6 qhPx7 qhPx8 qhxxb0 qhxxb1 qhxxb2 qhxxb3 qhxxb4 qhxxb5 qhxxb6 qhxxb7 qhxxb8
  replace hX := hX.trans hx
  have z17 : w16.heap.size ≤ w17.heap.size := (by have := hx.size; simpa using this)
  replace hPx := hPx.ext hx
  replace hxxb := hxxb.ext hx
  replace oxa := oxa.ext hx
  replace osa := osa.ext hx
  replace oua := oua.ext hx
  replace otw0 := otw0.ext hx
  replace oxb := oxb.ext hx
  replace osb := osb.ext hx
  replace oub := oub.ext hx
  replace otg0 := otg0.ext hx
  clear hx
  obtain ⟨qhPx0, qhPx1, qhPx2, qhPx3, qhPx4, qhPx5, qhPx6, qhPx7, qhPx8⟩ := hPx.c9
  obtain ⟨qhxxb0, qhxxb1, qhxxb2, qhxxb3, qhxxb4, qhxxb5, qhxxb6, qhxxb7, qhxxb8⟩ := hxxb.c9
  go_wp2_with fail
  refine (eqStringS_yes ub ubc _ _ oub.rd (oubc.ext (Ext.refl _)).rd).mono ?_
  rintro e w18 ⟨rfl, hx⟩
  clear qhPx0 qhPx1 qhPx2 qhPx3 qhPx4 qhPx5 qhPx6 qhPx7 qhPx8 qhxxb0 qhxxb1 qhxxb2 qhxxb3 qhxxb4 qhxxb5 qhxxb6 qhxxb7 qhxxb8
  replace hX := hX.trans hx
  have z18 : w17.heap.size ≤ w18.heap.size := (by have := hx.size; simpa using this)
  replace hPx := hPx.ext hx
  replace hxxb := hxxb.ext hx
  replace oxa := oxa.ext hx
  replace osa := osa.ext hx
  replace oua := oua.ext hx
  replace otw0 := otw0.ext hx
  replace oxb := oxb.ext hx
  replace osb := osb.ext hx
  replace oub := oub.ext hx
  replace otg0 := otg0.ext hx
  clear hx
  obtain ⟨qhPx0, qhPx1, qhPx2, qhPx3, qhPx4, qhPx5, qhPx6, qhPx7, qhPx8⟩ := hPx.c9
  obtain ⟨qhxxb0, qhxxb1, qhxxb2, qhxxb3, qhxxb4, qhxxb5, qhxxb6, qhxxb7, qhxxb8⟩ := hxxb.c9
  -- what came in is marked: the result is its own
  have leoxb := len3_le oxb.1
  go_wp2_with fail
  refine (markRecord_any xb _ _ 1 _ oxb (by omega) (by omega)).mono ?_
  rintro e w19 ⟨rfl, oxb', hf⟩
  clear qhPx0 qhPx1 qhPx2 qhPx3 qhPx4 qhPx5 qhPx6 qhPx7 qhPx8 qhxxb0 qhxxb1 qhxxb2 qhxxb3 qhxxb4 qhxxb5 qhxxb6 qhxxb7 qhxxb8
  replace hX := hX.fr_trans hf (fun k hk => by have := rgoxb k hk; omega)
  have z19 : w18.heap.size ≤ w19.heap.size := by have := hf.size; simpa using this
  replace hPx := hPx.fr hf (fun hk => by have := rgoxb _ hk; omega)
  replace hxxb := hxxb.fr hf (fun hk => by have := rgoxb _ hk; omega)
  replace oxa := oxa.fr hf (fun k h1 h2 => by have a1 := rgoxa k h1; have a2 := rgoxb k h2; omega)
  replace osa := osa.fr hf (fun k h1 h2 => by have a1 := rgosa k h1; have a2 := rgoxb k h2; omega)
  replace oua := oua.fr hf (fun k h1 h2 => by have a1 := rgoua k h1; have a2 := rgoxb k h2; omega)
  replace otw0 := otw0.fr hf (fun k h1 h2 => by have a1 := rgotw0 k h1; have a2 := rgoxb k h2; omega)
  replace osb := osb.fr hf (fun k h1 h2 => by have a1 := rgosb k h1; have a2 := rgoxb k h2; omega)
  replace oub := oub.fr hf (fun k h1 h2 => by have a1 := rgoub k h1; have a2 := rgoxb k h2; omega)
  replace otg0 := otg0.fr hf (fun k h1 h2 => by have a1 := rgotg0 k h1; have a2 := rgoxb k h2; omega)
  clear hf oxb
  have oxb := oxb'
  clear oxb'
  obtain ⟨qhPx0, qhPx1, qhPx2, qhPx3, qhPx4, qhPx5, qhPx6, qhPx7, qhPx8⟩ := hPx.c9
  obtain ⟨qhxxb0, qhxxb1, qhxxb2, qhxxb3, qhxxb4, qhxxb5, qhxxb6, qhxxb7, qhxxb8⟩ := hxxb.c9
  have leosb := osb.2.1
  go_wp2_with fail
  refine (markTieS_any sb _ (1 + len3 xb.p) _ _ osb (by omega) (by omega)).mono ?_
  rintro e w20 ⟨rfl, hf⟩
  clear qhPx0 qhPx1 qhPx2 qhPx3 qhPx4 qhPx5 qhPx6 qhPx7 qhPx8 qhxxb0 qhxxb1 qhxxb2 qhxxb3 qhxxb4 qhxxb5 qhxxb6 qhxxb7 qhxxb8
  replace hX := hX.fr_trans hf (fun k hk => Or.elim hk (fun hk => by have := rgosb k hk; omega) (fun hk => by have := hX.size; (try simp at this hk); omega))
  have z20 : w19.heap.size ≤ w20.heap.size := by have := hf.size; simpa using this
  replace hPx := hPx.fr hf (fun hk => Or.elim hk (fun hk => by have := rgosb _ hk; omega) (fun hk => by have := hPx.lt; omega))
  replace hxxb := hxxb.fr hf (fun hk => Or.elim hk (fun hk => by have := rgosb _ hk; omega) (fun hk => by have := hxxb.lt; omega))
  replace oxa := oxa.fr hf (fun k h1 h2 => Or.elim h2 (fun h2 => by have a1 := rgoxa k h1; have a2 := rgosb k h2; omega) (fun h2 => by have a1 := rgoxa k h1; (try simp at h2); omega))
  replace osa := osa.fr hf (fun k h1 h2 => Or.elim h2 (fun h2 => by have a1 := rgosa k h1; have a2 := rgosb k h2; omega) (fun h2 => by have a1 := rgosa k h1; (try simp at h2); omega))
  replace oua := oua.fr hf (fun k h1 h2 => Or.elim h2 (fun h2 => by have a1 := rgoua k h1; have a2 := rgosb k h2; omega) (fun h2 => by have a1 := rgoua k h1; (try simp at h2); omega))
  replace otw0 := otw0.fr hf (fun k h1 h2 => Or.elim h2 (fun h2 => by have a1 := rgotw0 k h1; have a2 := rgosb k h2; omega) (fun h2 => by have a1 := rgotw0 k h1; (try simp at h2); omega))
  replace oxb := oxb.fr hf (fun k h1 h2 => Or.elim h2 (fun h2 => by have a1 := rgoxb k h1; have a2 := rgosb k h2; omega) (fun h2 => by have a1 := rgoxb k h1; (try simp at h2); omega))
  replace oub := oub.fr hf (fun k h1 h2 => Or.elim h2 (fun h2 => by have a1 := rgoub k h1; have a2 := rgosb k h2; omega) (fun h2 => by have a1 := rgoub k h1; (try simp at h2); omega))
  replace otg0 := otg0.fr hf (fun k h1 h2 => Or.elim h2 (fun h2 => by have a1 := rgotg0 k h1; have a2 := rgosb k h2; omega) (fun h2 => by have a1 := rgotg0 k h1; (try simp at h2); omega))
  clear hf osb
  obtain ⟨qhPx0, qhPx1, qhPx2, qhPx3, qhPx4, qhPx5, qhPx6, qhPx7, qhPx8⟩ := hPx.c9
  obtain ⟨qhxxb0, qhxxb1, qhxxb2, qhxxb3, qhxxb4, qhxxb5, qhxxb6, qhxxb7, qhxxb8⟩ := hxxb.c9
  have leoub := oub.2.1
  go_wp2_with fail
  refine (markStringS_any ub _ ((1 + len3 xb.p) + 4 * (sb.n : Int)) _ _ oub (by omega) (by omega)).mono ?_
  rintro e w21 ⟨rfl, hf⟩
  clear qhPx0 qhPx1 qhPx2 qhPx3 qhPx4 qhPx5 qhPx6 qhPx7 qhPx8 qhxxb0 qhxxb1 qhxxb2 qhxxb3 qhxxb4 qhxxb5 qhxxb6 qhxxb7 qhxxb8
  replace hX := hX.fr_trans hf (fun k hk => Or.elim hk (fun hk => by have := rgoub k hk; omega) (fun hk => by have := hX.size; (try simp at this hk); omega))
  have z21 : w20.heap.size ≤ w21.heap.size := by have := hf.size; simpa using this
  replace hPx := hPx.fr hf (fun hk => Or.elim hk (fun hk => by have := rgoub _ hk; omega) (fun hk => by have := hPx.lt; omega))
  replace hxxb := hxxb.fr hf (fun hk => Or.elim hk (fun hk => by have := rgoub _ hk; omega) (fun hk => by have := hxxb.lt; omega))
  replace oxa := oxa.fr hf (fun k h1 h2 => Or.elim h2 (fun h2 => by have a1 := rgoxa k h1; have a2 := rgoub k h2; omega) (fun h2 => by have a1 := rgoxa k h1; (try simp at h2); omega))
  replace osa := osa.fr hf (fun k h1 h2 => Or.elim h2 (fun h2 => by have a1 := rgosa k h1; have a2 := rgoub k h2; omega) (fun h2 => by have a1 := rgosa k h1; (try simp at h2); omega))
  replace oua := oua.fr hf (fun k h1 h2 => Or.elim h2 (fun h2 => by have a1 := rgoua k h1; have a2 := rgoub k h2; omega) (fun h2 => by have a1 := rgoua k h1; (try simp at h2); omega))
  replace otw0 := otw0.fr hf (fun k h1 h2 => Or.elim h2 (fun h2 => by have a1 := rgotw0 k h1; have a2 := rgoub k h2; omega) (fun h2 => by have a1 := rgotw0 k h1; (try simp at h2); omega))
  replace oxb := oxb.fr hf (fun k h1 h2 => Or.elim h2 (fun h2 => by have a1 := rgoxb k h1; have a2 := rgoub k h2; omega) (fun h2 => by have a1 := rgoxb k h1; (try simp at h2); omega))
  replace otg0 := otg0.fr hf (fun k h1 h2 => Or.elim h2 (fun h2 => by have a1 := rgotg0 k h1; have a2 := rgoub k h2; omega) (fun h2 => by have a1 := rgotg0 k h1; (try simp at h2); omega))
  clear hf oub
  obtain ⟨qhPx0, qhPx1, qhPx2, qhPx3, qhPx4, qhPx5, qhPx6, qhPx7, qhPx8⟩ := hPx.c9
  obtain ⟨qhxxb0, qhxxb1, qhxxb2, qhxxb3, qhxxb4, qhxxb5, qhxxb6, qhxxb7, qhxxb8⟩ := hxxb.c9
  go_wp2_with fail
  refine (eqInt64S_yes tg0 tw0 _ _ otg0.rd otw0.rd).mono ?_
  rintro e w22 ⟨rfl, hx⟩
  clear qhPx0 qhPx1 qhPx2 qhPx3 qhPx4 qhPx5 qhPx6 qhPx7 qhPx8 qhxxb0 qhxxb1 qhxxb2 qhxxb3 qhxxb4 qhxxb5 qhxxb6 qhxxb7 qhxxb8
  replace hX := hX.trans hx
  have z22 : w21.heap.size ≤ w22.heap.size := (by have := hx.size; simpa using this)
  replace hPx := hPx.ext hx
  replace hxxb := hxxb.ext hx
  replace oxa := oxa.ext hx
  replace osa := osa.ext hx
  replace oua := oua.ext hx
  replace otw0 := otw0.ext hx
  replace oxb := oxb.ext hx
  replace otg0 := otg0.ext hx
  clear hx
  obtain ⟨qhPx0, qhPx1, qhPx2, qhPx3, qhPx4, qhPx5, qhPx6, qhPx7, qhPx8⟩ := hPx.c9
  obtain ⟨qhxxb0, qhxxb1, qhxxb2, qhxxb3, qhxxb4, qhxxb5, qhxxb6, qhxxb7, qhxxb8⟩ := hxxb.c9
  have leotg0 := otg0.rd.le
  go_wp2_with fail
  refine (markInt64S_any tg0 _ 1 _ _ otg0 (by omega) (by omega)).mono ?_
  rintro e w23 ⟨rfl, otg0', hf⟩
  clear qhPx0 qhPx1 qhPx2 qhPx3 qhPx4 qhPx5 qhPx6 qhPx7 qhPx8 qhxxb0 qhxxb1 qhxxb2 qhxxb3 qhxxb4 qhxxb5 qhxxb6 qhxxb7 qhxxb8
  replace hX := hX.fr_trans hf (fun k hk => by have := rgotg0 k hk; omega)
  have z23 : w22.heap.size ≤ w23.heap.size := by have := hf.size; simpa using this
  replace hPx := hPx.fr hf (fun hk => by have := rgotg0 _ hk; omega)
  replace hxxb := hxxb.fr hf (fun hk => by have := rgotg0 _ hk; omega)
  replace oxa := oxa.fr hf (fun k h1 h2 => by have a1 := rgoxa k h1; have a2 := rgotg0 k h2; omega)
  replace osa := osa.fr hf (fun k h1 h2 => by have a1 := rgosa k h1; have a2 := rgotg0 k h2; omega)
  replace oua := oua.fr hf (fun k h1 h2 => by have a1 := rgoua k h1; have a2 := rgotg0 k h2; omega)
  replace otw0 := otw0.fr hf (fun k h1 h2 => by have a1 := rgotw0 k h1; have a2 := rgotg0 k h2; omega)
  replace oxb := oxb.fr hf (fun k h1 h2 => by have a1 := rgoxb k h1; have a2 := rgotg0 k h2; omega)
  clear hf otg0
  have otg0 := otg0'
  clear otg0'
  obtain ⟨qhPx0, qhPx1, qhPx2, qhPx3, qhPx4, qhPx5, qhPx6, qhPx7, qhPx8⟩ := hPx.c9
  obtain ⟨qhxxb0, qhxxb1, qhxxb2, qhxxb3, qhxxb4, qhxxb5, qhxxb6, qhxxb7, qhxxb8⟩ := hxxb.c9
  go_wp2_with fail
  refine (heldInt64S_any tg0 1 _ otg0.rd (by omega) (by omega)).mono ?_
  rintro e w' ⟨rfl, rfl⟩
  go_wp2_with fail
  refine (toRecord_any x y _ (rx.ext hX)).mono ?_
  rintro e w24 ⟨xd, rfl, oxd, hx⟩
  clear qhPx0 qhPx1 qhPx2 qhPx3 qhPx4 qhPx5 qhPx6 qhPx7 qhPx8 qhxxb0 qhxxb1 qhxxb2 qhxxb3 qhxxb4 qhxxb5 qhxxb6 qhxxb7 qhxxb8
  replace hX := hX.trans hx
  have z24 : w23.heap.size ≤ w24.heap.size := (by have := hx.size; simpa using this)
  replace hPx := hPx.ext hx
  replace hxxb := hxxb.ext hx
  replace oxa := oxa.ext hx
  replace osa := osa.ext hx
  replace oua := oua.ext hx
  replace otw0 := otw0.ext hx
  replace oxb := oxb.ext hx
  replace otg0 := otg0.ext hx
  have rgoxd : ∀ k, blksR xd k → w23.heap.size ≤ k ∧ k < w24.heap.size := (fun k hk => by have := oxd.lt hk; simpa using this)
  clear hx
  obtain ⟨qhPx0, qhPx1, qhPx2, qhPx3, qhPx4, qhPx5, qhPx6, qhPx7, qhPx8⟩ := hPx.c9
  obtain ⟨qhxxb0, qhxxb1, qhxxb2, qhxxb3, qhxxb4, qhxxb5, qhxxb6, qhxxb7, qhxxb8⟩ := hxxb.c9
  go_wp2_with fail
  refine (toTieS_any s ts _ (rs.ext hX)).mono ?_
  rintro e w25 ⟨sd, rfl, osd, hx⟩
  clear qhPx0 qhPx1 qhPx2 qhPx3 qhPx4 qhPx5 qhPx6 qhPx7 qhPx8 qhxxb0 qhxxb1 qhxxb2 qhxxb3 qhxxb4 qhxxb5 qhxxb6 qhxxb7 qhxxb8
  replace hX := hX.trans hx
  have z25 : w24.heap.size ≤ w25.heap.size := (by have := hx.size; simpa using this)
  replace hPx := hPx.ext hx
  replace hxxb := hxxb.ext hx
  replace oxa := oxa.ext hx
  replace osa := osa.ext hx
  replace oua := oua.ext hx
  replace otw0 := otw0.ext hx
  replace oxb := oxb.ext hx
  replace otg0 := otg0.ext hx
  replace oxd := oxd.ext hx
  have rgosd : ∀ k, Value.ownBlock (.slice sd.A sd.n sd.c) = some k → w24.heap.size ≤ k ∧ k < w25.heap.size := (fun k hk => by have := osd.lt k hk; simpa using this)
  clear hx
  obtain ⟨qhPx0, qhPx1, qhPx2, qhPx3, qhPx4, qhPx5, qhPx6, qhPx7, qhPx8⟩ := hPx.c9
  obtain ⟨qhxxb0, qhxxb1, qhxxb2, qhxxb3, qhxxb4, qhxxb5, qhxxb6, qhxxb7, qhxxb8⟩ := hxxb.c9
  go_wp2_with fail
  refine (toStringS_any u us _ (ru.ext hX)).mono ?_
  rintro e w26 ⟨ud, rfl, oud, hx⟩
  clear qhPx0 qhPx1 qhPx2 qhPx3 qhPx4 qhPx5 qhPx6 qhPx7 qhPx8 qhxxb0 qhxxb1 qhxxb2 qhxxb3 qhxxb4 qhxxb5 qhxxb6 qhxxb7 qhxxb8
  replace hX := hX.trans hx
  have z26 : w25.heap.size ≤ w26.heap.size := (by have := hx.size; simpa using this)
  replace hPx := hPx.ext hx
  replace hxxb := hxxb.ext hx
  replace oxa := oxa.ext hx
  replace osa := osa.ext hx
  replace oua := oua.ext hx
  replace otw0 := otw0.ext hx
  replace oxb := oxb.ext hx
  replace otg0 := otg0.ext hx
  replace oxd := oxd.ext hx
  replace osd := osd.ext hx
  have rgoud : ∀ k, Value.ownBlock (.slice ud.A ud.n ud.c) = some k → w25.heap.size ≤ k ∧ k < w26.heap.size := (fun k hk => by have := oud.lt k hk; simpa using this)
  clear hx
  obtain ⟨qhPx0, qhPx1, qhPx2, qhPx3, qhPx4, qhPx5, qhPx6, qhPx7, qhPx8⟩ := hPx.c9
  obtain ⟨qhxxb0, qhxxb1, qhxxb2, qhxxb3, qhxxb4, qhxxb5, qhxxb6, qhxxb7, qhxxb8⟩ := hxxb.c9
  go_wp2_with fail
  refine (impl.StruckBy_any xd y sd ts ud us k _ oxd.rd osd.rd oud.rd osd.cap).mono ?_
  rintro e w27 ⟨th0, rfl, oth0, hx⟩
  clear qhPx0 qhPx1 qhPx2 qhPx3 qhPx4 qhPx5 qhPx6 qhPx7 qhPx8 qhxxb0 qhxxb1 qhxxb2 qhxxb3 qhxxb4 qhxxb5 qhxxb6 qhxxb7 qhxxb8
  replace hX := hX.trans hx
  have z27 : w26.heap.size ≤ w27.heap.size := (by have := hx.size; simpa using this)
  replace hPx := hPx.ext hx
  replace hxxb := hxxb.ext hx
  replace oxa := oxa.ext hx
  replace osa := osa.ext hx
  replace oua := oua.ext hx
  replace otw0 := otw0.ext hx
  replace oxb := oxb.ext hx
  replace otg0 := otg0.ext hx
  replace oxd := oxd.ext hx
  replace osd := osd.ext hx
  replace oud := oud.ext hx
  have rgoth0 : ∀ k, Value.ownBlock (.slice th0.A th0.n th0.c) = some k → w26.heap.size ≤ k ∧ k < w27.heap.size := (fun k hk => by have := oth0.lt k hk; simpa using this)
  clear hx
  obtain ⟨qhPx0, qhPx1, qhPx2, qhPx3, qhPx4, qhPx5, qhPx6, qhPx7, qhPx8⟩ := hPx.c9
  obtain ⟨qhxxb0, qhxxb1, qhxxb2, qhxxb3, qhxxb4, qhxxb5, qhxxb6, qhxxb7, qhxxb8⟩ := hxxb.c9
  go_wp2_with fail
  refine (eqInt64S_yes th0 tw0 _ _ oth0.rd otw0.rd).mono ?_
  rintro e w28 ⟨rfl, hx⟩
  clear qhPx0 qhPx1 qhPx2 qhPx3 qhPx4 qhPx5 qhPx6 qhPx7 qhPx8 qhxxb0 qhxxb1 qhxxb2 qhxxb3 qhxxb4 qhxxb5 qhxxb6 qhxxb7 qhxxb8
  replace hX := hX.trans hx
  have z28 : w27.heap.size ≤ w28.heap.size := (by have := hx.size; simpa using this)
  replace hPx := hPx.ext hx
  replace hxxb := hxxb.ext hx
  replace oxa := oxa.ext hx
  replace osa := osa.ext hx
  replace oua := oua.ext hx
  replace otw0 := otw0.ext hx
  replace oxb := oxb.ext hx
  replace otg0 := otg0.ext hx
  replace oxd := oxd.ext hx
  replace osd := osd.ext hx
  replace oud := oud.ext hx
  replace oth0 := oth0.ext hx
  clear hx
  obtain ⟨qhPx0, qhPx1, qhPx2, qhPx3, qhPx4, qhPx5, qhPx6, qhPx7, qhPx8⟩ := hPx.c9
  obtain ⟨qhxxb0, qhxxb1, qhxxb2, qhxxb3, qhxxb4, qhxxb5, qhxxb6, qhxxb7, qhxxb8⟩ := hxxb.c9
  go_wp2_with fail
  refine (heldInt64S_any tg0 1 _ otg0.rd (by omega) (by omega)).mono ?_
  rintro e w' ⟨rfl, rfl⟩
  go_wp2
  go_ret
  exact ⟨rfl, hX⟩
theorem own_StruckBy : ownKnob Try.prog.godebug = none := by kernel_rfl
set_option maxRecDepth 100000 in
theorem lifted_StruckBy (os : Os) (started : os.Started) (H : Type) (enc : TypeId × Value → H) :
    ReturnsInHanded {} Try.checked os 5 .any (Rows.fnExactStruckBySpec.pre6 enc Try.prog Try.f5 Rows.fnExactStruckByRow.domain false) (Rows.fnExactStruckBySpec.post enc Try.prog Try.f5 false true false false) := by
  refine returnsInHanded_of_change (C := Try.checked) own_StruckBy started (by kernel_rfl) Try.func5
    (ChangeSpec.witness6 (enc := enc) (C := Try.checked) false ⟨#[], #[.agg #[.int .i64 0, .int .i64 0, .int .i64 0, .slice none 0 0, .int .i64 0, .slice none 0 0, .slice none 0 0, .int .i64 0, .int .i64 0], .slice none 0 0, .slice none 0 0, .int .i64 0], []⟩ 8 (by kernel_rfl) (by kernel_rfl) (by kernel_rfl) (by kernel_rfl)) ?_
  intro W base args ds gs before hval0 hW hcnd _
  have hval : ∀ (j : Nat) t v, Try.f5.params[j]? = some t → args[j]? = some v → Value.okWide Try.prog W .any base t v := hval0
  have hW' := hW
  obtain ⟨p, q, hA0, hV, rfl, hfz, hnd⟩ := hW
  have hA : DataW.TrodAll enc Try.prog W 0 (fun _ => true) true Try.f5.params.toList args.toList ds p := hA0
  rw [Try.params5] at hA hval
  obtain ⟨v0, vs0, d0, ds0, p0, q0, hargs, rfl, rfl, h0, r0⟩ := trodAll_cons hA
  obtain ⟨v1, vs1, d1, ds1, p1, q1, rfl, rfl, rfl, h1, r1⟩ := trodAll_cons r0
  obtain ⟨v2, vs2, d2, ds2, p2, q2, rfl, rfl, rfl, h2, r2⟩ := trodAll_cons r1
  obtain ⟨v3, vs3, d3, ds3, p3, q3, rfl, rfl, rfl, h3, r3⟩ := trodAll_cons r2
  obtain ⟨rfl, rfl, rfl⟩ := trodAll_nil r3
  obtain rfl : args = #[v0, v1, v2, v3] := by cases args; simp_all
  obtain ⟨rfl, rfl⟩ := trodVars_none hV
  have k0 := h0
  have lt0 : ∀ x ∈ p0, x.block < W.heap.size := by obtain ⟨m, hm⟩ := k0; exact DataW.trod_lt m _ _ _ hm
  obtain ⟨s0, x0, rfl, i0⟩ := open_Record (hval 0 24 v0 rfl rfl) h0 (fun _ => rfl)
  have k1 := h1
  have lt1 : ∀ x ∈ p1, x.block < W.heap.size := by obtain ⟨m, hm⟩ := k1; exact DataW.trod_lt m _ _ _ hm
  obtain ⟨s1, x1, rfl, i1⟩ := open_ties_arg (hval 1 25 v1 rfl rfl) h1 (fun _ => rfl)
  have k2 := h2
  have lt2 : ∀ x ∈ p2, x.block < W.heap.size := by obtain ⟨m, hm⟩ := k2; exact DataW.trod_lt m _ _ _ hm
  obtain ⟨s2, x2, rfl, i2⟩ := open_strs_arg (hval 2 26 v2 rfl rfl) h2 (fun _ => rfl)
  have k3 := h3
  have lt3 : ∀ x ∈ p3, x.block < W.heap.size := by obtain ⟨m, hm⟩ := k3; exact DataW.trod_lt m _ _ _ hm
  obtain ⟨a3, rfl, _, _, w3⟩ := open_int Try.underlying2 (hval 3 2 v3 rfl rfl) h3
  clear hA0 hval0
  refine (law_StruckBy s0 x0 s1 x1 s2 x2 a3 W i0 i1 i2 (by simpa [Lit.wf, IntKind.min, IntKind.max, IntKind.signed, IntKind.bits] using w3)).mono fun e W' ⟨he, bel⟩ => ?_
  subst he
  exact ⟨_, rfl, _, _, _, [], _, [], hW', trodAll_mk1 (shut_bool Try.underlying4 _), (trodAll_cons_mk (Below.trod laidOut (by kernel_rfl) (of_decide_eq_true (by kernel_rfl)) k0 bel lt0) (trodAll_cons_mk (Below.trod laidOut (by kernel_rfl) (of_decide_eq_true (by kernel_rfl)) k1 bel lt1) (trodAll_cons_mk (Below.trod laidOut (by kernel_rfl) (of_decide_eq_true (by kernel_rfl)) k2 bel lt2) (trodAll_cons_mk (Below.trod laidOut (by kernel_rfl) (of_decide_eq_true (by kernel_rfl)) k3 bel lt3) trodAll_mk0)))), rfl, Below.frame bel _, fun h => by cases h⟩
theorem over_StruckBy : Rows.fnExactStruckByRow.holds Try.pinned (OpenSpec.ofChange Rows.fnExactStruckBySpec) :=
  OpenClaim.holds_of_wide 5 Try.f5 rfl rfl rfl rfl rfl rfl rfl ⟨rfl, rfl, rfl, rfl, rfl⟩ rfl rfl rfl rfl rfl (by kernel_rfl) Try.func5 (by kernel_rfl)
    (of_decide_eq_true (by kernel_rfl)) (by unfold Func.isWrapper; first | (rw [if_pos (by decide +kernel)]; kernel_rfl) | (rw [if_neg (by decide +kernel)]; exact ⟨rfl, rfl⟩))
    (fun os started H enc _ => lifted_StruckBy os started H enc)
/-- the statement -/
theorem proved_StruckBy : Rows.FnExactStruckBySaid := over_StruckBy
#print axioms proved_StruckBy
end Go.Proofs.Ytbkpcfncdnmknaa.mem
