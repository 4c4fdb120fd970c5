/-
  The law FnExactIsTrueJury holds of the given program for every input: it returns true, and each argument reads as it did.
-/
import Derived.Test.YtbkpcfncdnmknaaGreatRecOpen
import Derived.Test.YtbkpcfncdnmknaaGreatCauOpen
import Derived.Test.YtbkpcfncdnmknaaGreatOpen
import Derived.Test.YtbkpcfncdnmknaaGreatRt
namespace Go.Proofs.YtbkpcfncdnmknaaGreat.mem
open Go.ChangeShapes Go.WideShapes Go.ChangeAt Go.RowKit
set_option linter.unusedVariables false
set_option maxHeartbeats 4000000 in
theorem law_IsTrueJury (x : RecA) (y : RecL) (s : Sl) (ts : List Ti) (u : Sl) (us : List ByteArray) (p : S3) (l : L3) (w : World) (ix : InR w x y) (is : InT w s ts) (iu : InW w u us) (ip : In3 w p l) :
    Calls Tryz.prog 3 #[.agg #[.int .i64 x.a, .int .i64 x.b, .int .i64 x.c, .slice x.p.x.A x.p.x.n x.p.x.c, .int .i64 x.d, .slice x.p.y.A x.p.y.n x.p.y.c, .slice x.p.z.A x.p.z.n x.p.z.c, .int .i64 x.e, .int .i64 x.f], .slice s.A s.n s.c, .slice u.A u.n u.c, .agg #[.slice p.x.A p.x.n p.x.c, .slice p.y.A p.y.n p.y.c, .slice p.z.A p.z.n p.z.c]] w fun e w' => e = .returned (.bool true) ∧ Ext w w' := by
  have hX := Ext.refl w
  have hPx := Blk.new w 24 (#[.int .i64 x.a, .int .i64 x.b, .int .i64 x.c, .slice x.p.x.A x.p.x.n x.p.x.c, .int .i64 x.d, .slice x.p.y.A x.p.y.n x.p.y.c, .slice x.p.z.A x.p.z.n x.p.z.c, .int .i64 x.e, .int .i64 x.f])
  replace hX := hX.alloc (.cells #[.int .i64 x.a, .int .i64 x.b, .int .i64 x.c, .slice x.p.x.A x.p.x.n x.p.x.c, .int .i64 x.d, .slice x.p.y.A x.p.y.n x.p.y.c, .slice x.p.z.A x.p.z.n x.p.z.c, .int .i64 x.e, .int .i64 x.f] 24)
  have hPp := Blk.new (w.alloc (.cells #[.int .i64 x.a, .int .i64 x.b, .int .i64 x.c, .slice x.p.x.A x.p.x.n x.p.x.c, .int .i64 x.d, .slice x.p.y.A x.p.y.n x.p.y.c, .slice x.p.z.A x.p.z.n x.p.z.c, .int .i64 x.e, .int .i64 x.f] 24)) 28 (#[.slice p.x.A p.x.n p.x.c, .slice p.y.A p.y.n p.y.c, .slice p.z.A p.z.n p.z.c])
  simp only [World.size_alloc] at hPp
  replace hPx := hPx.alloc (.cells #[.slice p.x.A p.x.n p.x.c, .slice p.y.A p.y.n p.y.c, .slice p.z.A p.z.n p.z.c] 28)
  replace hX := hX.alloc (.cells #[.slice p.x.A p.x.n p.x.c, .slice p.y.A p.y.n p.y.c, .slice p.z.A p.z.n p.z.c] 28)
  by_cases hsx : 0 ≤ szR 1048576 x
  case neg =>
    go_enter Tryz.func3, Tryz.ntmps3
    obtain ⟨qhPx0, qhPx1, qhPx2, qhPx3, qhPx4, qhPx5, qhPx6, qhPx7, qhPx8⟩ := hPx.c9
    obtain ⟨qhPp0, qhPp1, qhPp2⟩ := hPp.c3
    go_wp2_with fail
    refine (szRecord_any x _ _ (by omega) (by omega) ix).mono ?_
    rintro e w1 ⟨rfl, hx⟩
    clear qhPx0 qhPx1 qhPx2 qhPx3 qhPx4 qhPx5 qhPx6 qhPx7 qhPx8 qhPp0 qhPp1 qhPp2
    replace hX := hX.trans hx
    have z1 : w.heap.size + 2 ≤ w1.heap.size := (by have := hx.size; simpa using this)
    replace hPx := hPx.ext hx
    replace hPp := hPp.ext hx
    clear hx
    obtain ⟨qhPx0, qhPx1, qhPx2, qhPx3, qhPx4, qhPx5, qhPx6, qhPx7, qhPx8⟩ := hPx.c9
    obtain ⟨qhPp0, qhPp1, qhPp2⟩ := hPp.c3
    go_wp2
    go_ret
    exact ⟨rfl, hX⟩
  have rx := ix.rds hsx (by omega)
  have hlx := (szR_pos hsx (by omega)).2
  by_cases hss : 0 ≤ szLs (szR 1048576 x) (lensT ts)
  case neg =>
    go_enter Tryz.func3, Tryz.ntmps3
    obtain ⟨qhPx0, qhPx1, qhPx2, qhPx3, qhPx4, qhPx5, qhPx6, qhPx7, qhPx8⟩ := hPx.c9
    obtain ⟨qhPp0, qhPp1, qhPp2⟩ := hPp.c3
    go_wp2_with fail
    refine (szRecord_any x _ _ (by omega) (by omega) ix).mono ?_
    rintro e w1 ⟨rfl, hx⟩
    clear qhPx0 qhPx1 qhPx2 qhPx3 qhPx4 qhPx5 qhPx6 qhPx7 qhPx8 qhPp0 qhPp1 qhPp2
    replace hX := hX.trans hx
    have z1 : w.heap.size + 2 ≤ w1.heap.size := (by have := hx.size; simpa using this)
    replace hPx := hPx.ext hx
    replace hPp := hPp.ext hx
    clear hx
    obtain ⟨qhPx0, qhPx1, qhPx2, qhPx3, qhPx4, qhPx5, qhPx6, qhPx7, qhPx8⟩ := hPx.c9
    obtain ⟨qhPp0, qhPp1, qhPp2⟩ := hPp.c3
    go_wp2_with fail
    refine (szTieS_any s ts _ _ (by omega) (by omega) is hX).mono ?_
    rintro e w2 ⟨rfl, hx⟩
    clear qhPx0 qhPx1 qhPx2 qhPx3 qhPx4 qhPx5 qhPx6 qhPx7 qhPx8 qhPp0 qhPp1 qhPp2
    replace hX := hX.trans hx
    have z2 : w1.heap.size ≤ w2.heap.size := (by have := hx.size; simpa using this)
    replace hPx := hPx.ext hx
    replace hPp := hPp.ext hx
    clear hx
    obtain ⟨qhPx0, qhPx1, qhPx2, qhPx3, qhPx4, qhPx5, qhPx6, qhPx7, qhPx8⟩ := hPx.c9
    obtain ⟨qhPp0, qhPp1, qhPp2⟩ := hPp.c3
    go_wp2
    go_ret
    exact ⟨rfl, hX⟩
  have rs := is.rds hss (by omega)
  have hls := (szLt_pos hss (by omega)).2
  by_cases hsu : 0 ≤ szLs (szLs (szR 1048576 x) (lensT ts)) (lensW us)
  case neg =>
    go_enter Tryz.func3, Tryz.ntmps3
    obtain ⟨qhPx0, qhPx1, qhPx2, qhPx3, qhPx4, qhPx5, qhPx6, qhPx7, qhPx8⟩ := hPx.c9
    obtain ⟨qhPp0, qhPp1, qhPp2⟩ := hPp.c3
    go_wp2_with fail
    refine (szRecord_any x _ _ (by omega) (by omega) ix).mono ?_
    rintro e w1 ⟨rfl, hx⟩
    clear qhPx0 qhPx1 qhPx2 qhPx3 qhPx4 qhPx5 qhPx6 qhPx7 qhPx8 qhPp0 qhPp1 qhPp2
    replace hX := hX.trans hx
    have z1 : w.heap.size + 2 ≤ w1.heap.size := (by have := hx.size; simpa using this)
    replace hPx := hPx.ext hx
    replace hPp := hPp.ext hx
    clear hx
    obtain ⟨qhPx0, qhPx1, qhPx2, qhPx3, qhPx4, qhPx5, qhPx6, qhPx7, qhPx8⟩ := hPx.c9
    obtain ⟨qhPp0, qhPp1, qhPp2⟩ := hPp.c3
    go_wp2_with fail
    refine (szTieS_any s ts _ _ (by omega) (by omega) is hX).mono ?_
    rintro e w2 ⟨rfl, hx⟩
    clear qhPx0 qhPx1 qhPx2 qhPx3 qhPx4 qhPx5 qhPx6 qhPx7 qhPx8 qhPp0 qhPp1 qhPp2
    replace hX := hX.trans hx
    have z2 : w1.heap.size ≤ w2.heap.size := (by have := hx.size; simpa using this)
    replace hPx := hPx.ext hx
    replace hPp := hPp.ext hx
    clear hx
    obtain ⟨qhPx0, qhPx1, qhPx2, qhPx3, qhPx4, qhPx5, qhPx6, qhPx7, qhPx8⟩ := hPx.c9
    obtain ⟨qhPp0, qhPp1, qhPp2⟩ := hPp.c3
    go_wp2_with fail
    refine (szStringS_any u us _ _ (by omega) (by omega) iu hX).mono ?_
    rintro e w3 ⟨rfl, hx⟩
    clear qhPx0 qhPx1 qhPx2 qhPx3 qhPx4 qhPx5 qhPx6 qhPx7 qhPx8 qhPp0 qhPp1 qhPp2
    replace hX := hX.trans hx
    have z3 : w2.heap.size ≤ w3.heap.size := (by have := hx.size; simpa using this)
    replace hPx := hPx.ext hx
    replace hPp := hPp.ext hx
    clear hx
    obtain ⟨qhPx0, qhPx1, qhPx2, qhPx3, qhPx4, qhPx5, qhPx6, qhPx7, qhPx8⟩ := hPx.c9
    obtain ⟨qhPp0, qhPp1, qhPp2⟩ := hPp.c3
    go_wp2
    go_ret
    exact ⟨rfl, hX⟩
  have ru := iu.rds hsu (by omega)
  have hlu := (szLt_pos hsu (by omega)).2
  by_cases hsp : 0 ≤ sz3 (szLs (szLs (szR 1048576 x) (lensT ts)) (lensW us)) p
  case neg =>
    go_enter Tryz.func3, Tryz.ntmps3
    obtain ⟨qhPx0, qhPx1, qhPx2, qhPx3, qhPx4, qhPx5, qhPx6, qhPx7, qhPx8⟩ := hPx.c9
    obtain ⟨qhPp0, qhPp1, qhPp2⟩ := hPp.c3
    go_wp2_with fail
    refine (szRecord_any x _ _ (by omega) (by omega) ix).mono ?_
    rintro e w1 ⟨rfl, hx⟩
    clear qhPx0 qhPx1 qhPx2 qhPx3 qhPx4 qhPx5 qhPx6 qhPx7 qhPx8 qhPp0 qhPp1 qhPp2
    replace hX := hX.trans hx
    have z1 : w.heap.size + 2 ≤ w1.heap.size := (by have := hx.size; simpa using this)
    replace hPx := hPx.ext hx
    replace hPp := hPp.ext hx
    clear hx
    obtain ⟨qhPx0, qhPx1, qhPx2, qhPx3, qhPx4, qhPx5, qhPx6, qhPx7, qhPx8⟩ := hPx.c9
    obtain ⟨qhPp0, qhPp1, qhPp2⟩ := hPp.c3
    go_wp2_with fail
    refine (szTieS_any s ts _ _ (by omega) (by omega) is hX).mono ?_
    rintro e w2 ⟨rfl, hx⟩
    clear qhPx0 qhPx1 qhPx2 qhPx3 qhPx4 qhPx5 qhPx6 qhPx7 qhPx8 qhPp0 qhPp1 qhPp2
    replace hX := hX.trans hx
    have z2 : w1.heap.size ≤ w2.heap.size := (by have := hx.size; simpa using this)
    replace hPx := hPx.ext hx
    replace hPp := hPp.ext hx
    clear hx
    obtain ⟨qhPx0, qhPx1, qhPx2, qhPx3, qhPx4, qhPx5, qhPx6, qhPx7, qhPx8⟩ := hPx.c9
    obtain ⟨qhPp0, qhPp1, qhPp2⟩ := hPp.c3
    go_wp2_with fail
    refine (szStringS_any u us _ _ (by omega) (by omega) iu hX).mono ?_
    rintro e w3 ⟨rfl, hx⟩
    clear qhPx0 qhPx1 qhPx2 qhPx3 qhPx4 qhPx5 qhPx6 qhPx7 qhPx8 qhPp0 qhPp1 qhPp2
    replace hX := hX.trans hx
    have z3 : w2.heap.size ≤ w3.heap.size := (by have := hx.size; simpa using this)
    replace hPx := hPx.ext hx
    replace hPp := hPp.ext hx
    clear hx
    obtain ⟨qhPx0, qhPx1, qhPx2, qhPx3, qhPx4, qhPx5, qhPx6, qhPx7, qhPx8⟩ := hPx.c9
    obtain ⟨qhPp0, qhPp1, qhPp2⟩ := hPp.c3
    go_wp2_with fail
    refine (szJury_any p _ _ (by omega) (by omega) ip.1.max ip.2.1.max ip.2.2.max).mono ?_
    rintro e w4 ⟨rfl, hx⟩
    clear qhPx0 qhPx1 qhPx2 qhPx3 qhPx4 qhPx5 qhPx6 qhPx7 qhPx8 qhPp0 qhPp1 qhPp2
    replace hX := hX.trans hx
    have z4 : w3.heap.size ≤ w4.heap.size := (by have := hx.size; simpa using this)
    replace hPx := hPx.ext hx
    replace hPp := hPp.ext hx
    clear hx
    obtain ⟨qhPx0, qhPx1, qhPx2, qhPx3, qhPx4, qhPx5, qhPx6, qhPx7, qhPx8⟩ := hPx.c9
    obtain ⟨qhPp0, qhPp1, qhPp2⟩ := hPp.c3
    go_wp2
    go_ret
    exact ⟨rfl, hX⟩
  have rp := ip.rds hsp (by omega)
  have hlp := (sz3_pos hsp (by omega)).2
  go_enter Tryz.func3, Tryz.ntmps3
  obtain ⟨qhPx0, qhPx1, qhPx2, qhPx3, qhPx4, qhPx5, qhPx6, qhPx7, qhPx8⟩ := hPx.c9
  obtain ⟨qhPp0, qhPp1, qhPp2⟩ := hPp.c3
  go_wp2_with fail
  refine (szRecord_any x _ _ (by omega) (by omega) ix).mono ?_
  rintro e w1 ⟨rfl, hx⟩
  clear qhPx0 qhPx1 qhPx2 qhPx3 qhPx4 qhPx5 qhPx6 qhPx7 qhPx8 qhPp0 qhPp1 qhPp2
  replace hX := hX.trans hx
  have z1 : w.heap.size + 2 ≤ w1.heap.size := (by have := hx.size; simpa using this)
  replace hPx := hPx.ext hx
  replace hPp := hPp.ext hx
  clear hx
  obtain ⟨qhPx0, qhPx1, qhPx2, qhPx3, qhPx4, qhPx5, qhPx6, qhPx7, qhPx8⟩ := hPx.c9
  obtain ⟨qhPp0, qhPp1, qhPp2⟩ := hPp.c3
  go_wp2_with fail
  refine (szTieS_any s ts _ _ (by omega) (by omega) is hX).mono ?_
  rintro e w2 ⟨rfl, hx⟩
  clear qhPx0 qhPx1 qhPx2 qhPx3 qhPx4 qhPx5 qhPx6 qhPx7 qhPx8 qhPp0 qhPp1 qhPp2
  replace hX := hX.trans hx
  have z2 : w1.heap.size ≤ w2.heap.size := (by have := hx.size; simpa using this)
  replace hPx := hPx.ext hx
  replace hPp := hPp.ext hx
  clear hx
  obtain ⟨qhPx0, qhPx1, qhPx2, qhPx3, qhPx4, qhPx5, qhPx6, qhPx7, qhPx8⟩ := hPx.c9
  obtain ⟨qhPp0, qhPp1, qhPp2⟩ := hPp.c3
  go_wp2_with fail
  refine (szStringS_any u us _ _ (by omega) (by omega) iu hX).mono ?_
  rintro e w3 ⟨rfl, hx⟩
  clear qhPx0 qhPx1 qhPx2 qhPx3 qhPx4 qhPx5 qhPx6 qhPx7 qhPx8 qhPp0 qhPp1 qhPp2
  replace hX := hX.trans hx
  have z3 : w2.heap.size ≤ w3.heap.size := (by have := hx.size; simpa using this)
  replace hPx := hPx.ext hx
  replace hPp := hPp.ext hx
  clear hx
  obtain ⟨qhPx0, qhPx1, qhPx2, qhPx3, qhPx4, qhPx5, qhPx6, qhPx7, qhPx8⟩ := hPx.c9
  obtain ⟨qhPp0, qhPp1, qhPp2⟩ := hPp.c3
  go_wp2_with fail
  refine (szJury_any p _ _ (by omega) (by omega) ip.1.max ip.2.1.max ip.2.2.max).mono ?_
  rintro e w4 ⟨rfl, hx⟩
  clear qhPx0 qhPx1 qhPx2 qhPx3 qhPx4 qhPx5 qhPx6 qhPx7 qhPx8 qhPp0 qhPp1 qhPp2
  replace hX := hX.trans hx
  have z4 : w3.heap.size ≤ w4.heap.size := (by have := hx.size; simpa using this)
  replace hPx := hPx.ext hx
  replace hPp := hPp.ext hx
  clear hx
  obtain ⟨qhPx0, qhPx1, qhPx2, qhPx3, qhPx4, qhPx5, qhPx6, qhPx7, qhPx8⟩ := hPx.c9
  obtain ⟨qhPp0, qhPp1, qhPp2⟩ := hPp.c3
  replace hPx := hPx.drew
  replace hPp := hPp.drew
  replace hX := hX.drew
  go_wp2_with fail
  go_region_held3 (fun w' => w'.cell? ⟨w.heap.size, 0, none⟩ = some (.int .i64 x.a) ∧ w'.cell? ⟨w.heap.size, 1, none⟩ = some (.int .i64 x.b) ∧ w'.cell? ⟨w.heap.size, 2, none⟩ = some (.int .i64 x.c) ∧ w'.cell? ⟨w.heap.size, 3, none⟩ = some (.slice x.p.x.A x.p.x.n x.p.x.c) ∧ w'.cell? ⟨w.heap.size, 4, none⟩ = some (.int .i64 x.d) ∧ w'.cell? ⟨w.heap.size, 5, none⟩ = some (.slice x.p.y.A x.p.y.n x.p.y.c) ∧ w'.cell? ⟨w.heap.size, 6, none⟩ = some (.slice x.p.z.A x.p.z.n x.p.z.c) ∧ w'.cell? ⟨w.heap.size, 7, none⟩ = some (.int .i64 x.e) ∧ w'.cell? ⟨w.heap.size, 8, none⟩ = some (.int .i64 x.f) ∧ w'.cell? ⟨w.heap.size + 1, 0, none⟩ = some (.slice p.x.A p.x.n p.x.c) ∧ w'.cell? ⟨w.heap.size + 1, 1, none⟩ = some (.slice p.y.A p.y.n p.y.c) ∧ w'.cell? ⟨w.heap.size + 1, 2, none⟩ = some (.slice p.z.A p.z.n p.z.c)) (first | exact kk9.2 | exact kk8.2 | exact kk7.2 | exact kk6.2 | exact kk5.2 | go_keep) (first | (go_at_call 10; refine (toRecord_any x y _ (rx.ext hX)).mono ?_; rintro e w5 ⟨xa, rfl, oxa, hx⟩; replace hX := hX.trans hx; have z5 : w4.heap.size ≤ w5.heap.size := (by have := hx.size; simpa using this); replace hPx := hPx.ext hx; replace hPp := hPp.ext hx; have rgoxa : ∀ k, blksR xa k → w4.heap.size ≤ k ∧ k < w5.heap.size := (fun k hk => by have := oxa.lt hk; simpa using this); have kk5 := And.intro trivial (show w5.cell? ⟨w.heap.size, 0, none⟩ = some (.int .i64 x.a) ∧ w5.cell? ⟨w.heap.size, 1, none⟩ = some (.int .i64 x.b) ∧ w5.cell? ⟨w.heap.size, 2, none⟩ = some (.int .i64 x.c) ∧ w5.cell? ⟨w.heap.size, 3, none⟩ = some (.slice x.p.x.A x.p.x.n x.p.x.c) ∧ w5.cell? ⟨w.heap.size, 4, none⟩ = some (.int .i64 x.d) ∧ w5.cell? ⟨w.heap.size, 5, none⟩ = some (.slice x.p.y.A x.p.y.n x.p.y.c) ∧ w5.cell? ⟨w.heap.size, 6, none⟩ = some (.slice x.p.z.A x.p.z.n x.p.z.c) ∧ w5.cell? ⟨w.heap.size, 7, none⟩ = some (.int .i64 x.e) ∧ w5.cell? ⟨w.heap.size, 8, none⟩ = some (.int .i64 x.f) ∧ w5.cell? ⟨w.heap.size + 1, 0, none⟩ = some (.slice p.x.A p.x.n p.x.c) ∧ w5.cell? ⟨w.heap.size + 1, 1, none⟩ = some (.slice p.y.A p.y.n p.y.c) ∧ w5.cell? ⟨w.heap.size + 1, 2, none⟩ = some (.slice p.z.A p.z.n p.z.c) from ⟨hPx.c9.1, hPx.c9.2.1, hPx.c9.2.2.1, hPx.c9.2.2.2.1, hPx.c9.2.2.2.2.1, hPx.c9.2.2.2.2.2.1, hPx.c9.2.2.2.2.2.2.1, hPx.c9.2.2.2.2.2.2.2.1, hPx.c9.2.2.2.2.2.2.2.2, hPp.c3.1, hPp.c3.2.1, hPp.c3.2.2⟩); clear hx) | (go_at_call 11; refine (toTieS_any s ts _ (rs.ext hX)).mono ?_; rintro e w6 ⟨sa, rfl, osa, hx⟩; replace hX := hX.trans hx; have z6 : w5.heap.size ≤ w6.heap.size := (by have := hx.size; simpa using this); replace hPx := hPx.ext hx; replace hPp := hPp.ext hx; replace oxa := oxa.ext hx; have rgosa : ∀ k, Value.ownBlock (.slice sa.A sa.n sa.c) = some k → w5.heap.size ≤ k ∧ k < w6.heap.size := (fun k hk => by have := osa.lt k hk; simpa using this); have kk6 := And.intro trivial (show w6.cell? ⟨w.heap.size, 0, none⟩ = some (.int .i64 x.a) ∧ w6.cell? ⟨w.heap.size, 1, none⟩ = some (.int .i64 x.b) ∧ w6.cell? ⟨w.heap.size, 2, none⟩ = some (.int .i64 x.c) ∧ w6.cell? ⟨w.heap.size, 3, none⟩ = some (.slice x.p.x.A x.p.x.n x.p.x.c) ∧ w6.cell? ⟨w.heap.size, 4, none⟩ = some (.int .i64 x.d) ∧ w6.cell? ⟨w.heap.size, 5, none⟩ = some (.slice x.p.y.A x.p.y.n x.p.y.c) ∧ w6.cell? ⟨w.heap.size, 6, none⟩ = some (.slice x.p.z.A x.p.z.n x.p.z.c) ∧ w6.cell? ⟨w.heap.size, 7, none⟩ = some (.int .i64 x.e) ∧ w6.cell? ⟨w.heap.size, 8, none⟩ = some (.int .i64 x.f) ∧ w6.cell? ⟨w.heap.size + 1, 0, none⟩ = some (.slice p.x.A p.x.n p.x.c) ∧ w6.cell? ⟨w.heap.size + 1, 1, none⟩ = some (.slice p.y.A p.y.n p.y.c) ∧ w6.cell? ⟨w.heap.size + 1, 2, none⟩ = some (.slice p.z.A p.z.n p.z.c) from ⟨hPx.c9.1, hPx.c9.2.1, hPx.c9.2.2.1, hPx.c9.2.2.2.1, hPx.c9.2.2.2.2.1, hPx.c9.2.2.2.2.2.1, hPx.c9.2.2.2.2.2.2.1, hPx.c9.2.2.2.2.2.2.2.1, hPx.c9.2.2.2.2.2.2.2.2, hPp.c3.1, hPp.c3.2.1, hPp.c3.2.2⟩); clear hx) | (go_at_call 12; refine (toStringS_any u us _ (ru.ext hX)).mono ?_; rintro e w7 ⟨ua, rfl, oua, hx⟩; replace hX := hX.trans hx; have z7 : w6.heap.size ≤ w7.heap.size := (by have := hx.size; simpa using this); replace hPx := hPx.ext hx; replace hPp := hPp.ext hx; replace oxa := oxa.ext hx; replace osa := osa.ext hx; have rgoua : ∀ k, Value.ownBlock (.slice ua.A ua.n ua.c) = some k → w6.heap.size ≤ k ∧ k < w7.heap.size := (fun k hk => by have := oua.lt k hk; simpa using this); have kk7 := And.intro trivial (show w7.cell? ⟨w.heap.size, 0, none⟩ = some (.int .i64 x.a) ∧ w7.cell? ⟨w.heap.size, 1, none⟩ = some (.int .i64 x.b) ∧ w7.cell? ⟨w.heap.size, 2, none⟩ = some (.int .i64 x.c) ∧ w7.cell? ⟨w.heap.size, 3, none⟩ = some (.slice x.p.x.A x.p.x.n x.p.x.c) ∧ w7.cell? ⟨w.heap.size, 4, none⟩ = some (.int .i64 x.d) ∧ w7.cell? ⟨w.heap.size, 5, none⟩ = some (.slice x.p.y.A x.p.y.n x.p.y.c) ∧ w7.cell? ⟨w.heap.size, 6, none⟩ = some (.slice x.p.z.A x.p.z.n x.p.z.c) ∧ w7.cell? ⟨w.heap.size, 7, none⟩ = some (.int .i64 x.e) ∧ w7.cell? ⟨w.heap.size, 8, none⟩ = some (.int .i64 x.f) ∧ w7.cell? ⟨w.heap.size + 1, 0, none⟩ = some (.slice p.x.A p.x.n p.x.c) ∧ w7.cell? ⟨w.heap.size + 1, 1, none⟩ = some (.slice p.y.A p.y.n p.y.c) ∧ w7.cell? ⟨w.heap.size + 1, 2, none⟩ = some (.slice p.z.A p.z.n p.z.c) from ⟨hPx.c9.1, hPx.c9.2.1, hPx.c9.2.2.1, hPx.c9.2.2.2.1, hPx.c9.2.2.2.2.1, hPx.c9.2.2.2.2.2.1, hPx.c9.2.2.2.2.2.2.1, hPx.c9.2.2.2.2.2.2.2.1, hPx.c9.2.2.2.2.2.2.2.2, hPp.c3.1, hPp.c3.2.1, hPp.c3.2.2⟩); clear hx) | (go_at_call 13; refine (toJury_any p l _ (rp.ext hX)).mono ?_; rintro e w8 ⟨pa, rfl, opa, hx⟩; replace hX := hX.trans hx; have z8 : w7.heap.size ≤ w8.heap.size := (by have := hx.size; simpa using this); replace hPx := hPx.ext hx; replace hPp := hPp.ext hx; replace oxa := oxa.ext hx; replace osa := osa.ext hx; replace oua := oua.ext hx; have rgopa : ∀ k, blks pa k → w7.heap.size ≤ k ∧ k < w8.heap.size := (fun k hk => by have := opa.lt hk; simpa using this); have kk8 := And.intro trivial (show w8.cell? ⟨w.heap.size, 0, none⟩ = some (.int .i64 x.a) ∧ w8.cell? ⟨w.heap.size, 1, none⟩ = some (.int .i64 x.b) ∧ w8.cell? ⟨w.heap.size, 2, none⟩ = some (.int .i64 x.c) ∧ w8.cell? ⟨w.heap.size, 3, none⟩ = some (.slice x.p.x.A x.p.x.n x.p.x.c) ∧ w8.cell? ⟨w.heap.size, 4, none⟩ = some (.int .i64 x.d) ∧ w8.cell? ⟨w.heap.size, 5, none⟩ = some (.slice x.p.y.A x.p.y.n x.p.y.c) ∧ w8.cell? ⟨w.heap.size, 6, none⟩ = some (.slice x.p.z.A x.p.z.n x.p.z.c) ∧ w8.cell? ⟨w.heap.size, 7, none⟩ = some (.int .i64 x.e) ∧ w8.cell? ⟨w.heap.size, 8, none⟩ = some (.int .i64 x.f) ∧ w8.cell? ⟨w.heap.size + 1, 0, none⟩ = some (.slice p.x.A p.x.n p.x.c) ∧ w8.cell? ⟨w.heap.size + 1, 1, none⟩ = some (.slice p.y.A p.y.n p.y.c) ∧ w8.cell? ⟨w.heap.size + 1, 2, none⟩ = some (.slice p.z.A p.z.n p.z.c) from ⟨hPx.c9.1, hPx.c9.2.1, hPx.c9.2.2.1, hPx.c9.2.2.2.1, hPx.c9.2.2.2.2.1, hPx.c9.2.2.2.2.2.1, hPx.c9.2.2.2.2.2.2.1, hPx.c9.2.2.2.2.2.2.2.1, hPx.c9.2.2.2.2.2.2.2.2, hPp.c3.1, hPp.c3.2.1, hPp.c3.2.2⟩); clear hx) | (go_at_call 9; refine (spec.IsTrueJury_any xa y sa ts ua us pa l _ oxa.rd osa.rd oua.rd opa.rd ).mono ?_; rintro e w9 ⟨rfl, hx⟩; replace hX := hX.trans hx; have z9 : w8.heap.size ≤ w9.heap.size := (by have := hx.size; simpa using this); replace hPx := hPx.ext hx; replace hPp := hPp.ext hx; replace oxa := oxa.ext hx; replace osa := osa.ext hx; replace oua := oua.ext hx; replace opa := opa.ext hx; have kk9 := And.intro trivial (show w9.cell? ⟨w.heap.size, 0, none⟩ = some (.int .i64 x.a) ∧ w9.cell? ⟨w.heap.size, 1, none⟩ = some (.int .i64 x.b) ∧ w9.cell? ⟨w.heap.size, 2, none⟩ = some (.int .i64 x.c) ∧ w9.cell? ⟨w.heap.size, 3, none⟩ = some (.slice x.p.x.A x.p.x.n x.p.x.c) ∧ w9.cell? ⟨w.heap.size, 4, none⟩ = some (.int .i64 x.d) ∧ w9.cell? ⟨w.heap.size, 5, none⟩ = some (.slice x.p.y.A x.p.y.n x.p.y.c) ∧ w9.cell? ⟨w.heap.size, 6, none⟩ = some (.slice x.p.z.A x.p.z.n x.p.z.c) ∧ w9.cell? ⟨w.heap.size, 7, none⟩ = some (.int .i64 x.e) ∧ w9.cell? ⟨w.heap.size, 8, none⟩ = some (.int .i64 x.f) ∧ w9.cell? ⟨w.heap.size + 1, 0, none⟩ = some (.slice p.x.A p.x.n p.x.c) ∧ w9.cell? ⟨w.heap.size + 1, 1, none⟩ = some (.slice p.y.A p.y.n p.y.c) ∧ w9.cell? ⟨w.heap.size + 1, 2, none⟩ = some (.slice p.z.A p.z.n p.z.c) from ⟨hPx.c9.1, hPx.c9.2.1, hPx.c9.2.2.1, hPx.c9.2.2.2.1, hPx.c9.2.2.2.2.1, hPx.c9.2.2.2.2.2.1, hPx.c9.2.2.2.2.2.2.1, hPx.c9.2.2.2.2.2.2.2.1, hPx.c9.2.2.2.2.2.2.2.2, hPp.c3.1, hPp.c3.2.1, hPp.c3.2.2⟩); clear hx))
  clear kk5 kk6 kk7 kk8 kk9
  clear qhPx0 qhPx1 qhPx2 qhPx3 qhPx4 qhPx5 qhPx6 qhPx7 qhPx8 qhPp0 qhPp1 qhPp2
  obtain ⟨qhPx0, qhPx1, qhPx2, qhPx3, qhPx4, qhPx5, qhPx6, qhPx7, qhPx8⟩ := hPx.c9
  obtain ⟨qhPp0, qhPp1, qhPp2⟩ := hPp.c3
  go_wp2_with fail
  refine (toRecord_any x y _ (rx.ext hX)).mono ?_
  rintro e w10 ⟨xb, rfl, oxb, hx⟩
  clear qhPx0 qhPx1 qhPx2 qhPx3 qhPx4 qhPx5 qhPx6 qhPx7 qhPx8 qhPp0 qhPp1 qhPp2
  replace hX := hX.trans hx
  have z10 : w9.heap.size ≤ w10.heap.size := (by have := hx.size; simpa using this)
  replace hPx := hPx.ext hx
  replace hPp := hPp.ext hx
  replace oxa := oxa.ext hx
  replace osa := osa.ext hx
  replace oua := oua.ext hx
  replace opa := opa.ext hx
  have rgoxb : ∀ k, blksR xb k → w9.heap.size ≤ k ∧ k < w10.heap.size := (fun k hk => by have := oxb.lt hk; simpa using this)
  clear hx
  have hxxb := Blk.new w10 35 (#[.int .i64 xb.a, .int .i64 xb.b, .int .i64 xb.c, .slice xb.p.x.A xb.p.x.n xb.p.x.c, .int .i64 xb.d, .slice xb.p.y.A xb.p.y.n xb.p.y.c, .slice xb.p.z.A xb.p.z.n xb.p.z.c, .int .i64 xb.e, .int .i64 xb.f])
  replace hPx := hPx.alloc (.cells #[.int .i64 xb.a, .int .i64 xb.b, .int .i64 xb.c, .slice xb.p.x.A xb.p.x.n xb.p.x.c, .int .i64 xb.d, .slice xb.p.y.A xb.p.y.n xb.p.y.c, .slice xb.p.z.A xb.p.z.n xb.p.z.c, .int .i64 xb.e, .int .i64 xb.f] 35)
  replace hPp := hPp.alloc (.cells #[.int .i64 xb.a, .int .i64 xb.b, .int .i64 xb.c, .slice xb.p.x.A xb.p.x.n xb.p.x.c, .int .i64 xb.d, .slice xb.p.y.A xb.p.y.n xb.p.y.c, .slice xb.p.z.A xb.p.z.n xb.p.z.c, .int .i64 xb.e, .int .i64 xb.f] 35)
  replace oxa := oxa.alloc (.cells #[.int .i64 xb.a, .int .i64 xb.b, .int .i64 xb.c, .slice xb.p.x.A xb.p.x.n xb.p.x.c, .int .i64 xb.d, .slice xb.p.y.A xb.p.y.n xb.p.y.c, .slice xb.p.z.A xb.p.z.n xb.p.z.c, .int .i64 xb.e, .int .i64 xb.f] 35)
  replace osa := osa.alloc (.cells #[.int .i64 xb.a, .int .i64 xb.b, .int .i64 xb.c, .slice xb.p.x.A xb.p.x.n xb.p.x.c, .int .i64 xb.d, .slice xb.p.y.A xb.p.y.n xb.p.y.c, .slice xb.p.z.A xb.p.z.n xb.p.z.c, .int .i64 xb.e, .int .i64 xb.f] 35)
  replace oua := oua.alloc (.cells #[.int .i64 xb.a, .int .i64 xb.b, .int .i64 xb.c, .slice xb.p.x.A xb.p.x.n xb.p.x.c, .int .i64 xb.d, .slice xb.p.y.A xb.p.y.n xb.p.y.c, .slice xb.p.z.A xb.p.z.n xb.p.z.c, .int .i64 xb.e, .int .i64 xb.f] 35)
  replace opa := opa.alloc (.cells #[.int .i64 xb.a, .int .i64 xb.b, .int .i64 xb.c, .slice xb.p.x.A xb.p.x.n xb.p.x.c, .int .i64 xb.d, .slice xb.p.y.A xb.p.y.n xb.p.y.c, .slice xb.p.z.A xb.p.z.n xb.p.z.c, .int .i64 xb.e, .int .i64 xb.f] 35)
  replace oxb := oxb.alloc (.cells #[.int .i64 xb.a, .int .i64 xb.b, .int .i64 xb.c, .slice xb.p.x.A xb.p.x.n xb.p.x.c, .int .i64 xb.d, .slice xb.p.y.A xb.p.y.n xb.p.y.c, .slice xb.p.z.A xb.p.z.n xb.p.z.c, .int .i64 xb.e, .int .i64 xb.f] 35)
  replace hX := hX.alloc (.cells #[.int .i64 xb.a, .int .i64 xb.b, .int .i64 xb.c, .slice xb.p.x.A xb.p.x.n xb.p.x.c, .int .i64 xb.d, .slice xb.p.y.A xb.p.y.n xb.p.y.c, .slice xb.p.z.A xb.p.z.n xb.p.z.c, .int .i64 xb.e, .int .i64 xb.f] 35)
  obtain ⟨qhPx0, qhPx1, qhPx2, qhPx3, qhPx4, qhPx5, qhPx6, qhPx7, qhPx8⟩ := hPx.c9
  obtain ⟨qhPp0, qhPp1, qhPp2⟩ := hPp.c3
  obtain ⟨qhxxb0, qhxxb1, qhxxb2, qhxxb3, qhxxb4, qhxxb5, qhxxb6, qhxxb7, qhxxb8⟩ := hxxb.c9
  go_wp2_with fail
  refine (toTieS_any s ts _ (rs.ext hX)).mono ?_
  rintro e w11 ⟨sb, rfl, osb, hx⟩
  clear qhPx0 qhPx1 qhPx2 qhPx3 qhPx4 qhPx5 qhPx6 qhPx7 qhPx8 qhPp0 qhPp1 qhPp2 qhxxb0 qhxxb1 qhxxb2 qhxxb3 qhxxb4 qhxxb5 qhxxb6 qhxxb7 qhxxb8
  replace hX := hX.trans hx
  have z11 : w10.heap.size + 1 ≤ w11.heap.size := (by have := hx.size; simpa using this)
  replace hPx := hPx.ext hx
  replace hPp := hPp.ext hx
  replace hxxb := hxxb.ext hx
  replace oxa := oxa.ext hx
  replace osa := osa.ext hx
  replace oua := oua.ext hx
  replace opa := opa.ext hx
  replace oxb := oxb.ext hx
  have rgosb : ∀ k, Value.ownBlock (.slice sb.A sb.n sb.c) = some k → w10.heap.size + 1 ≤ k ∧ k < w11.heap.size := (fun k hk => by have := osb.lt k hk; simpa using this)
  clear hx
  obtain ⟨qhPx0, qhPx1, qhPx2, qhPx3, qhPx4, qhPx5, qhPx6, qhPx7, qhPx8⟩ := hPx.c9
  obtain ⟨qhPp0, qhPp1, qhPp2⟩ := hPp.c3
  obtain ⟨qhxxb0, qhxxb1, qhxxb2, qhxxb3, qhxxb4, qhxxb5, qhxxb6, qhxxb7, qhxxb8⟩ := hxxb.c9
  go_wp2_with fail
  refine (toStringS_any u us _ (ru.ext hX)).mono ?_
  rintro e w12 ⟨ub, rfl, oub, hx⟩
  clear qhPx0 qhPx1 qhPx2 qhPx3 qhPx4 qhPx5 qhPx6 qhPx7 qhPx8 qhPp0 qhPp1 qhPp2 qhxxb0 qhxxb1 qhxxb2 qhxxb3 qhxxb4 qhxxb5 qhxxb6 qhxxb7 qhxxb8
  replace hX := hX.trans hx
  have z12 : w11.heap.size ≤ w12.heap.size := (by have := hx.size; simpa using this)
  replace hPx := hPx.ext hx
  replace hPp := hPp.ext hx
  replace hxxb := hxxb.ext hx
  replace oxa := oxa.ext hx
  replace osa := osa.ext hx
  replace oua := oua.ext hx
  replace opa := opa.ext hx
  replace oxb := oxb.ext hx
  replace osb := osb.ext hx
  have rgoub : ∀ k, Value.ownBlock (.slice ub.A ub.n ub.c) = some k → w11.heap.size ≤ k ∧ k < w12.heap.size := (fun k hk => by have := oub.lt k hk; simpa using this)
  clear hx
  obtain ⟨qhPx0, qhPx1, qhPx2, qhPx3, qhPx4, qhPx5, qhPx6, qhPx7, qhPx8⟩ := hPx.c9
  obtain ⟨qhPp0, qhPp1, qhPp2⟩ := hPp.c3
  obtain ⟨qhxxb0, qhxxb1, qhxxb2, qhxxb3, qhxxb4, qhxxb5, qhxxb6, qhxxb7, qhxxb8⟩ := hxxb.c9
  go_wp2_with fail
  refine (toJury_any p l _ (rp.ext hX)).mono ?_
  rintro e w13 ⟨pb, rfl, opb, hx⟩
  clear qhPx0 qhPx1 qhPx2 qhPx3 qhPx4 qhPx5 qhPx6 qhPx7 qhPx8 qhPp0 qhPp1 qhPp2 qhxxb0 qhxxb1 qhxxb2 qhxxb3 qhxxb4 qhxxb5 qhxxb6 qhxxb7 qhxxb8
  replace hX := hX.trans hx
  have z13 : w12.heap.size ≤ w13.heap.size := (by have := hx.size; simpa using this)
  replace hPx := hPx.ext hx
  replace hPp := hPp.ext hx
  replace hxxb := hxxb.ext hx
  replace oxa := oxa.ext hx
  replace osa := osa.ext hx
  replace oua := oua.ext hx
  replace opa := opa.ext hx
  replace oxb := oxb.ext hx
  replace osb := osb.ext hx
  replace oub := oub.ext hx
  have rgopb : ∀ k, blks pb k → w12.heap.size ≤ k ∧ k < w13.heap.size := (fun k hk => by have := opb.lt hk; simpa using this)
  clear hx
  have hxpb := Blk.new w13 40 (#[.slice pb.x.A pb.x.n pb.x.c, .slice pb.y.A pb.y.n pb.y.c, .slice pb.z.A pb.z.n pb.z.c])
  replace hPx := hPx.alloc (.cells #[.slice pb.x.A pb.x.n pb.x.c, .slice pb.y.A pb.y.n pb.y.c, .slice pb.z.A pb.z.n pb.z.c] 40)
  replace hPp := hPp.alloc (.cells #[.slice pb.x.A pb.x.n pb.x.c, .slice pb.y.A pb.y.n pb.y.c, .slice pb.z.A pb.z.n pb.z.c] 40)
  replace hxxb := hxxb.alloc (.cells #[.slice pb.x.A pb.x.n pb.x.c, .slice pb.y.A pb.y.n pb.y.c, .slice pb.z.A pb.z.n pb.z.c] 40)
  replace oxa := oxa.alloc (.cells #[.slice pb.x.A pb.x.n pb.x.c, .slice pb.y.A pb.y.n pb.y.c, .slice pb.z.A pb.z.n pb.z.c] 40)
  replace osa := osa.alloc (.cells #[.slice pb.x.A pb.x.n pb.x.c, .slice pb.y.A pb.y.n pb.y.c, .slice pb.z.A pb.z.n pb.z.c] 40)
  replace oua := oua.alloc (.cells #[.slice pb.x.A pb.x.n pb.x.c, .slice pb.y.A pb.y.n pb.y.c, .slice pb.z.A pb.z.n pb.z.c] 40)
  replace opa := opa.alloc (.cells #[.slice pb.x.A pb.x.n pb.x.c, .slice pb.y.A pb.y.n pb.y.c, .slice pb.z.A pb.z.n pb.z.c] 40)
  replace oxb := oxb.alloc (.cells #[.slice pb.x.A pb.x.n pb.x.c, .slice pb.y.A pb.y.n pb.y.c, .slice pb.z.A pb.z.n pb.z.c] 40)
  replace osb := osb.alloc (.cells #[.slice pb.x.A pb.x.n pb.x.c, .slice pb.y.A pb.y.n pb.y.c, .slice pb.z.A pb.z.n pb.z.c] 40)
  replace oub := oub.alloc (.cells #[.slice pb.x.A pb.x.n pb.x.c, .slice pb.y.A pb.y.n pb.y.c, .slice pb.z.A pb.z.n pb.z.c] 40)
  replace opb := opb.alloc (.cells #[.slice pb.x.A pb.x.n pb.x.c, .slice pb.y.A pb.y.n pb.y.c, .slice pb.z.A pb.z.n pb.z.c] 40)
  replace hX := hX.alloc (.cells #[.slice pb.x.A pb.x.n pb.x.c, .slice pb.y.A pb.y.n pb.y.c, .slice pb.z.A pb.z.n pb.z.c] 40)
  obtain ⟨qhPx0, qhPx1, qhPx2, qhPx3, qhPx4, qhPx5, qhPx6, qhPx7, qhPx8⟩ := hPx.c9
  obtain ⟨qhPp0, qhPp1, qhPp2⟩ := hPp.c3
  obtain ⟨qhxxb0, qhxxb1, qhxxb2, qhxxb3, qhxxb4, qhxxb5, qhxxb6, qhxxb7, qhxxb8⟩ := hxxb.c9
  obtain ⟨qhxpb0, qhxpb1, qhxpb2⟩ := hxpb.c3
  go_wp2_with fail
  refine (impl.IsTrueJury_any xb y sb ts ub us pb l _ oxb.rd osb.rd oub.rd opb.rd osb.cap).mono ?_
  rintro e w14 ⟨rfl, hx⟩
  clear qhPx0 qhPx1 qhPx2 qhPx3 qhPx4 qhPx5 qhPx6 qhPx7 qhPx8 qhPp0 qhPp1 qhPp2 qhxxb0 qhxxb1 qhxxb2 qhxxb3 qhxxb4 qhxxb5 qhxxb6 qhxxb7 qhxxb8 qhxpb0 qhxpb1 qhxpb2
  replace hX := hX.trans hx
  have z14 : w13.heap.size + 1 ≤ w14.heap.size := (by have := hx.size; simpa using this)
  replace hPx := hPx.ext hx
  replace hPp := hPp.ext hx
  replace hxxb := hxxb.ext hx
  replace hxpb := hxpb.ext hx
  replace oxa := oxa.ext hx
  replace osa := osa.ext hx
  replace oua := oua.ext hx
  replace opa := opa.ext hx
  replace oxb := oxb.ext hx
  replace osb := osb.ext hx
  replace oub := oub.ext hx
  replace opb := opb.ext hx
  clear hx
  obtain ⟨qhPx0, qhPx1, qhPx2, qhPx3, qhPx4, qhPx5, qhPx6, qhPx7, qhPx8⟩ := hPx.c9
  obtain ⟨qhPp0, qhPp1, qhPp2⟩ := hPp.c3
  obtain ⟨qhxxb0, qhxxb1, qhxxb2, qhxxb3, qhxxb4, qhxxb5, qhxxb6, qhxxb7, qhxxb8⟩ := hxxb.c9
  obtain ⟨qhxpb0, qhxpb1, qhxpb2⟩ := hxpb.c3
  replace hPx := hPx.drew
  replace hPp := hPp.drew
  replace hxxb := hxxb.drew
  replace hxpb := hxpb.drew
  replace oxa := oxa.drew
  replace osa := osa.drew
  replace oua := oua.drew
  replace opa := opa.drew
  replace oxb := oxb.drew
  replace osb := osb.drew
  replace oub := oub.drew
  replace opb := opb.drew
  replace hX := hX.drew
  go_wp2_with fail
  go_region_held3 (fun w' => w'.cell? ⟨w.heap.size, 0, none⟩ = some (.int .i64 x.a) ∧ w'.cell? ⟨w.heap.size, 1, none⟩ = some (.int .i64 x.b) ∧ w'.cell? ⟨w.heap.size, 2, none⟩ = some (.int .i64 x.c) ∧ w'.cell? ⟨w.heap.size, 3, none⟩ = some (.slice x.p.x.A x.p.x.n x.p.x.c) ∧ w'.cell? ⟨w.heap.size, 4, none⟩ = some (.int .i64 x.d) ∧ w'.cell? ⟨w.heap.size, 5, none⟩ = some (.slice x.p.y.A x.p.y.n x.p.y.c) ∧ w'.cell? ⟨w.heap.size, 6, none⟩ = some (.slice x.p.z.A x.p.z.n x.p.z.c) ∧ w'.cell? ⟨w.heap.size, 7, none⟩ = some (.int .i64 x.e) ∧ w'.cell? ⟨w.heap.size, 8, none⟩ = some (.int .i64 x.f) ∧ w'.cell? ⟨w10.heap.size, 0, none⟩ = some (.int .i64 xb.a) ∧ w'.cell? ⟨w10.heap.size, 1, none⟩ = some (.int .i64 xb.b) ∧ w'.cell? ⟨w10.heap.size, 2, none⟩ = some (.int .i64 xb.c) ∧ w'.cell? ⟨w10.heap.size, 3, none⟩ = some (.slice xb.p.x.A xb.p.x.n xb.p.x.c) ∧ w'.cell? ⟨w10.heap.size, 4, none⟩ = some (.int .i64 xb.d) ∧ w'.cell? ⟨w10.heap.size, 5, none⟩ = some (.slice xb.p.y.A xb.p.y.n xb.p.y.c) ∧ w'.cell? ⟨w10.heap.size, 6, none⟩ = some (.slice xb.p.z.A xb.p.z.n xb.p.z.c) ∧ w'.cell? ⟨w10.heap.size, 7, none⟩ = some (.int .i64 xb.e) ∧ w'.cell? ⟨w10.heap.size, 8, none⟩ = some (.int .i64 xb.f)) (first | exact kk2.2 | exact kk1.2 | go_keep) (first | (go_at_call 10; refine (toRecord_any x y _ (rx.ext hX)).mono ?_; rintro e w15 ⟨xbc, rfl, oxbc, hx⟩; replace hX := hX.trans hx; have z15 : w14.heap.size ≤ w15.heap.size := (by have := hx.size; simpa using this); replace hPx := hPx.ext hx; replace hPp := hPp.ext hx; replace hxxb := hxxb.ext hx; replace hxpb := hxpb.ext hx; replace oxa := oxa.ext hx; replace osa := osa.ext hx; replace oua := oua.ext hx; replace opa := opa.ext hx; replace oxb := oxb.ext hx; replace osb := osb.ext hx; replace oub := oub.ext hx; replace opb := opb.ext hx; have kk1 := And.intro trivial (show w15.cell? ⟨w.heap.size, 0, none⟩ = some (.int .i64 x.a) ∧ w15.cell? ⟨w.heap.size, 1, none⟩ = some (.int .i64 x.b) ∧ w15.cell? ⟨w.heap.size, 2, none⟩ = some (.int .i64 x.c) ∧ w15.cell? ⟨w.heap.size, 3, none⟩ = some (.slice x.p.x.A x.p.x.n x.p.x.c) ∧ w15.cell? ⟨w.heap.size, 4, none⟩ = some (.int .i64 x.d) ∧ w15.cell? ⟨w.heap.size, 5, none⟩ = some (.slice x.p.y.A x.p.y.n x.p.y.c) ∧ w15.cell? ⟨w.heap.size, 6, none⟩ = some (.slice x.p.z.A x.p.z.n x.p.z.c) ∧ w15.cell? ⟨w.heap.size, 7, none⟩ = some (.int .i64 x.e) ∧ w15.cell? ⟨w.heap.size, 8, none⟩ = some (.int .i64 x.f) ∧ w15.cell? ⟨w10.heap.size, 0, none⟩ = some (.int .i64 xb.a) ∧ w15.cell? ⟨w10.heap.size, 1, none⟩ = some (.int .i64 xb.b) ∧ w15.cell? ⟨w10.heap.size, 2, none⟩ = some (.int .i64 xb.c) ∧ w15.cell? ⟨w10.heap.size, 3, none⟩ = some (.slice xb.p.x.A xb.p.x.n xb.p.x.c) ∧ w15.cell? ⟨w10.heap.size, 4, none⟩ = some (.int .i64 xb.d) ∧ w15.cell? ⟨w10.heap.size, 5, none⟩ = some (.slice xb.p.y.A xb.p.y.n xb.p.y.c) ∧ w15.cell? ⟨w10.heap.size, 6, none⟩ = some (.slice xb.p.z.A xb.p.z.n xb.p.z.c) ∧ w15.cell? ⟨w10.heap.size, 7, none⟩ = some (.int .i64 xb.e) ∧ w15.cell? ⟨w10.heap.size, 8, none⟩ = some (.int .i64 xb.f) from ⟨hPx.c9.1, hPx.c9.2.1, hPx.c9.2.2.1, hPx.c9.2.2.2.1, hPx.c9.2.2.2.2.1, hPx.c9.2.2.2.2.2.1, hPx.c9.2.2.2.2.2.2.1, hPx.c9.2.2.2.2.2.2.2.1, hPx.c9.2.2.2.2.2.2.2.2, hxxb.c9.1, hxxb.c9.2.1, hxxb.c9.2.2.1, hxxb.c9.2.2.2.1, hxxb.c9.2.2.2.2.1, hxxb.c9.2.2.2.2.2.1, hxxb.c9.2.2.2.2.2.2.1, hxxb.c9.2.2.2.2.2.2.2.1, hxxb.c9.2.2.2.2.2.2.2.2⟩); clear hx) | (go_at_call 15; refine (eqRecord_yes xb xbc _ _ oxb.rd oxbc.rd).mono ?_; rintro e w16 ⟨rfl, hx⟩; replace hX := hX.trans hx; have z16 : w15.heap.size ≤ w16.heap.size := (by have := hx.size; simpa using this); replace hPx := hPx.ext hx; replace hPp := hPp.ext hx; replace hxxb := hxxb.ext hx; replace hxpb := hxpb.ext hx; replace oxa := oxa.ext hx; replace osa := osa.ext hx; replace oua := oua.ext hx; replace opa := opa.ext hx; replace oxb := oxb.ext hx; replace osb := osb.ext hx; replace oub := oub.ext hx; replace opb := opb.ext hx; have kk2 := And.intro trivial (show w16.cell? ⟨w.heap.size, 0, none⟩ = some (.int .i64 x.a) ∧ w16.cell? ⟨w.heap.size, 1, none⟩ = some (.int .i64 x.b) ∧ w16.cell? ⟨w.heap.size, 2, none⟩ = some (.int .i64 x.c) ∧ w16.cell? ⟨w.heap.size, 3, none⟩ = some (.slice x.p.x.A x.p.x.n x.p.x.c) ∧ w16.cell? ⟨w.heap.size, 4, none⟩ = some (.int .i64 x.d) ∧ w16.cell? ⟨w.heap.size, 5, none⟩ = some (.slice x.p.y.A x.p.y.n x.p.y.c) ∧ w16.cell? ⟨w.heap.size, 6, none⟩ = some (.slice x.p.z.A x.p.z.n x.p.z.c) ∧ w16.cell? ⟨w.heap.size, 7, none⟩ = some (.int .i64 x.e) ∧ w16.cell? ⟨w.heap.size, 8, none⟩ = some (.int .i64 x.f) ∧ w16.cell? ⟨w10.heap.size, 0, none⟩ = some (.int .i64 xb.a) ∧ w16.cell? ⟨w10.heap.size, 1, none⟩ = some (.int .i64 xb.b) ∧ w16.cell? ⟨w10.heap.size, 2, none⟩ = some (.int .i64 xb.c) ∧ w16.cell? ⟨w10.heap.size, 3, none⟩ = some (.slice xb.p.x.A xb.p.x.n xb.p.x.c) ∧ w16.cell? ⟨w10.heap.size, 4, none⟩ = some (.int .i64 xb.d) ∧ w16.cell? ⟨w10.heap.size, 5, none⟩ = some (.slice xb.p.y.A xb.p.y.n xb.p.y.c) ∧ w16.cell? ⟨w10.heap.size, 6, none⟩ = some (.slice xb.p.z.A xb.p.z.n xb.p.z.c) ∧ w16.cell? ⟨w10.heap.size, 7, none⟩ = some (.int .i64 xb.e) ∧ w16.cell? ⟨w10.heap.size, 8, none⟩ = some (.int .i64 xb.f) from ⟨hPx.c9.1, hPx.c9.2.1, hPx.c9.2.2.1, hPx.c9.2.2.2.1, hPx.c9.2.2.2.2.1, hPx.c9.2.2.2.2.2.1, hPx.c9.2.2.2.2.2.2.1, hPx.c9.2.2.2.2.2.2.2.1, hPx.c9.2.2.2.2.2.2.2.2, hxxb.c9.1, hxxb.c9.2.1, hxxb.c9.2.2.1, hxxb.c9.2.2.2.1, hxxb.c9.2.2.2.2.1, hxxb.c9.2.2.2.2.2.1, hxxb.c9.2.2.2.2.2.2.1, hxxb.c9.2.2.2.2.2.2.2.1, hxxb.c9.2.2.2.2.2.2.2.2⟩); clear hx))
  clear kk1 kk2
  clear qhPx0 qhPx1 qhPx2 qhPx3 qhPx4 qhPx5 qhPx6 qhPx7 qhPx8 qhPp0 qhPp1 qhPp2 qhxxb0 qhxxb1 qhxxb2 qhxxb3 qhxxb4 qhxxb5 qhxxb6 qhxxb7 qhxxb8 qhxpb0 qhxpb1 qhxpb2
  obtain ⟨qhPx0, qhPx1, qhPx2, qhPx3, qhPx4, qhPx5, qhPx6, qhPx7, qhPx8⟩ := hPx.c9
  obtain ⟨qhPp0, qhPp1, qhPp2⟩ := hPp.c3
  obtain ⟨qhxxb0, qhxxb1, qhxxb2, qhxxb3, qhxxb4, qhxxb5, qhxxb6, qhxxb7, qhxxb8⟩ := hxxb.c9
  obtain ⟨qhxpb0, qhxpb1, qhxpb2⟩ := hxpb.c3
  go_wp2_with fail
  refine (toTieS_any s ts _ (rs.ext hX)).mono ?_
  rintro e w17 ⟨sbc, rfl, osbc, hx⟩
  clear qhPx0 qhPx1 qhPx2 qhPx3 qhPx4 qhPx5 qhPx6 qhPx7 qhPx8 qhPp0 qhPp1 qhPp2 qhxxb0 qhxxb1 qhxxb2 qhxxb3 qhxxb4 qhxxb5 qhxxb6 qhxxb7 qhxxb8 qhxpb0 qhxpb1 qhxpb2
  replace hX := hX.trans hx
  have z17 : w16.heap.size ≤ w17.heap.size := (by have := hx.size; simpa using this)
  replace hPx := hPx.ext hx
  replace hPp := hPp.ext hx
  replace hxxb := hxxb.ext hx
  replace hxpb := hxpb.ext hx
  replace oxa := oxa.ext hx
  replace osa := osa.ext hx
  replace oua := oua.ext hx
  replace opa := opa.ext hx
  replace oxb := oxb.ext hx
  replace osb := osb.ext hx
  replace oub := oub.ext hx
  replace opb := opb.ext hx
  clear hx
  obtain ⟨qhPx0, qhPx1, qhPx2, qhPx3, qhPx4, qhPx5, qhPx6, qhPx7, qhPx8⟩ := hPx.c9
  obtain ⟨qhPp0, qhPp1, qhPp2⟩ := hPp.c3
  obtain ⟨qhxxb0, qhxxb1, qhxxb2, qhxxb3, qhxxb4, qhxxb5, qhxxb6, qhxxb7, qhxxb8⟩ := hxxb.c9
  obtain ⟨qhxpb0, qhxpb1, qhxpb2⟩ := hxpb.c3
  go_wp2_with fail
  refine (eqTieS_yes sb sbc _ _ osb.rd (osbc.ext (Ext.refl _)).rd).mono ?_
  rintro e w18 ⟨rfl, hx⟩
  clear qhPx0 qhPx1 qhPx2 qhPx3 qhPx4 qhPx5 qhPx6 qhPx7 qhPx8 qhPp0 qhPp1 qhPp2 qhxxb0 qhxxb1 qhxxb2 qhxxb3 qhxxb4 qhxxb5 qhxxb6 qhxxb7 qhxxb8 qhxpb0 qhxpb1 qhxpb2
  replace hX := hX.trans hx
  have z18 : w17.heap.size ≤ w18.heap.size := (by have := hx.size; simpa using this)
  replace hPx := hPx.ext hx
  replace hPp := hPp.ext hx
  replace hxxb := hxxb.ext hx
  replace hxpb := hxpb.ext hx
  replace oxa := oxa.ext hx
  replace osa := osa.ext hx
  replace oua := oua.ext hx
  replace opa := opa.ext hx
  replace oxb := oxb.ext hx
  replace osb := osb.ext hx
  replace oub := oub.ext hx
  replace opb := opb.ext hx
  clear hx
  obtain ⟨qhPx0, qhPx1, qhPx2, qhPx3, qhPx4, qhPx5, qhPx6, qhPx7, qhPx8⟩ := hPx.c9
  obtain ⟨qhPp0, qhPp1, qhPp2⟩ := hPp.c3
  obtain ⟨qhxxb0, qhxxb1, qhxxb2, qhxxb3, qhxxb4, qhxxb5, qhxxb6, qhxxb7, qhxxb8⟩ := hxxb.c9
  obtain ⟨qhxpb0, qhxpb1, qhxpb2⟩ := hxpb.c3
  go_wp2_with fail
  refine (toStringS_any u us _ (ru.ext hX)).mono ?_
  rintro e w19 ⟨ubc, rfl, oubc, hx⟩
  clear qhPx0 qhPx1 qhPx2 qhPx3 qhPx4 qhPx5 qhPx6 qhPx7 qhPx8 qhPp0 qhPp1 qhPp2 qhxxb0 qhxxb1 qhxxb2 qhxxb3 qhxxb4 qhxxb5 qhxxb6 qhxxb7 qhxxb8 qhxpb0 qhxpb1 qhxpb2
  replace hX := hX.trans hx
  have z19 : w18.heap.size ≤ w19.heap.size := (by have := hx.size; simpa using this)
  replace hPx := hPx.ext hx
  replace hPp := hPp.ext hx
  replace hxxb := hxxb.ext hx
  replace hxpb := hxpb.ext hx
  replace oxa := oxa.ext hx
  replace osa := osa.ext hx
  replace oua := oua.ext hx
  replace opa := opa.ext hx
  replace oxb := oxb.ext hx
  replace osb := osb.ext hx
  replace oub := oub.ext hx
  replace opb := opb.ext hx
  clear hx
  obtain ⟨qhPx0, qhPx1, qhPx2, qhPx3, qhPx4, qhPx5, qhPx6, qhPx7, qhPx8⟩ := hPx.c9
  obtain ⟨qhPp0, qhPp1, qhPp2⟩ := hPp.c3
  obtain ⟨qhxxb0, qhxxb1, qhxxb2, qhxxb3, qhxxb4, qhxxb5, qhxxb6, qhxxb7, qhxxb8⟩ := hxxb.c9
  obtain ⟨qhxpb0, qhxpb1, qhxpb2⟩ := hxpb.c3
  go_wp2_with fail
  refine (eqStringS_yes ub ubc _ _ oub.rd (oubc.ext (Ext.refl _)).rd).mono ?_
  rintro e w20 ⟨rfl, hx⟩
  clear qhPx0 qhPx1 qhPx2 qhPx3 qhPx4 qhPx5 qhPx6 qhPx7 qhPx8 qhPp0 qhPp1 qhPp2 qhxxb0 qhxxb1 qhxxb2 qhxxb3 qhxxb4 qhxxb5 qhxxb6 qhxxb7 qhxxb8 qhxpb0 qhxpb1 qhxpb2
  replace hX := hX.trans hx
  have z20 : w19.heap.size ≤ w20.heap.size := (by have := hx.size; simpa using this)
  replace hPx := hPx.ext hx
  replace hPp := hPp.ext hx
  replace hxxb := hxxb.ext hx
  replace hxpb := hxpb.ext hx
  replace oxa := oxa.ext hx
  replace osa := osa.ext hx
  replace oua := oua.ext hx
  replace opa := opa.ext hx
  replace oxb := oxb.ext hx
  replace osb := osb.ext hx
  replace oub := oub.ext hx
  replace opb := opb.ext hx
  clear hx
  obtain ⟨qhPx0, qhPx1, qhPx2, qhPx3, qhPx4, qhPx5, qhPx6, qhPx7, qhPx8⟩ := hPx.c9
  obtain ⟨qhPp0, qhPp1, qhPp2⟩ := hPp.c3
  obtain ⟨qhxxb0, qhxxb1, qhxxb2, qhxxb3, qhxxb4, qhxxb5, qhxxb6, qhxxb7, qhxxb8⟩ := hxxb.c9
  obtain ⟨qhxpb0, qhxpb1, qhxpb2⟩ := hxpb.c3
  replace hPx := hPx.drew
  replace hPp := hPp.drew
  replace hxxb := hxxb.drew
  replace hxpb := hxpb.drew
  replace oxa := oxa.drew
  replace osa := osa.drew
  replace oua := oua.drew
  replace opa := opa.drew
  replace oxb := oxb.drew
  replace osb := osb.drew
  replace oub := oub.drew
  replace opb := opb.drew
  replace hX := hX.drew
  go_wp2_with fail
  go_region_held3 (fun w' => w'.cell? ⟨w.heap.size + 1, 0, none⟩ = some (.slice p.x.A p.x.n p.x.c) ∧ w'.cell? ⟨w.heap.size + 1, 1, none⟩ = some (.slice p.y.A p.y.n p.y.c) ∧ w'.cell? ⟨w.heap.size + 1, 2, none⟩ = some (.slice p.z.A p.z.n p.z.c) ∧ w'.cell? ⟨w13.heap.size, 0, none⟩ = some (.slice pb.x.A pb.x.n pb.x.c) ∧ w'.cell? ⟨w13.heap.size, 1, none⟩ = some (.slice pb.y.A pb.y.n pb.y.c) ∧ w'.cell? ⟨w13.heap.size, 2, none⟩ = some (.slice pb.z.A pb.z.n pb.z.c)) (first | exact kk2.2 | exact kk1.2 | go_keep) (first | (go_at_call 13; refine (toJury_any p l _ (rp.ext hX)).mono ?_; rintro e w21 ⟨pbc, rfl, opbc, hx⟩; replace hX := hX.trans hx; have z21 : w20.heap.size ≤ w21.heap.size := (by have := hx.size; simpa using this); replace hPx := hPx.ext hx; replace hPp := hPp.ext hx; replace hxxb := hxxb.ext hx; replace hxpb := hxpb.ext hx; replace oxa := oxa.ext hx; replace osa := osa.ext hx; replace oua := oua.ext hx; replace opa := opa.ext hx; replace oxb := oxb.ext hx; replace osb := osb.ext hx; replace oub := oub.ext hx; replace opb := opb.ext hx; have kk1 := And.intro trivial (show w21.cell? ⟨w.heap.size + 1, 0, none⟩ = some (.slice p.x.A p.x.n p.x.c) ∧ w21.cell? ⟨w.heap.size + 1, 1, none⟩ = some (.slice p.y.A p.y.n p.y.c) ∧ w21.cell? ⟨w.heap.size + 1, 2, none⟩ = some (.slice p.z.A p.z.n p.z.c) ∧ w21.cell? ⟨w13.heap.size, 0, none⟩ = some (.slice pb.x.A pb.x.n pb.x.c) ∧ w21.cell? ⟨w13.heap.size, 1, none⟩ = some (.slice pb.y.A pb.y.n pb.y.c) ∧ w21.cell? ⟨w13.heap.size, 2, none⟩ = some (.slice pb.z.A pb.z.n pb.z.c) from ⟨hPp.c3.1, hPp.c3.2.1, hPp.c3.2.2, hxpb.c3.1, hxpb.c3.2.1, hxpb.c3.2.2⟩); clear hx) | (go_at_call 18; refine (eqJury_yes pb pbc _ _ opb.rd opbc.rd).mono ?_; rintro e w22 ⟨rfl, hx⟩; replace hX := hX.trans hx; have z22 : w21.heap.size ≤ w22.heap.size := (by have := hx.size; simpa using this); replace hPx := hPx.ext hx; replace hPp := hPp.ext hx; replace hxxb := hxxb.ext hx; replace hxpb := hxpb.ext hx; replace oxa := oxa.ext hx; replace osa := osa.ext hx; replace oua := oua.ext hx; replace opa := opa.ext hx; replace oxb := oxb.ext hx; replace osb := osb.ext hx; replace oub := oub.ext hx; replace opb := opb.ext hx; have kk2 := And.intro trivial (show w22.cell? ⟨w.heap.size + 1, 0, none⟩ = some (.slice p.x.A p.x.n p.x.c) ∧ w22.cell? ⟨w.heap.size + 1, 1, none⟩ = some (.slice p.y.A p.y.n p.y.c) ∧ w22.cell? ⟨w.heap.size + 1, 2, none⟩ = some (.slice p.z.A p.z.n p.z.c) ∧ w22.cell? ⟨w13.heap.size, 0, none⟩ = some (.slice pb.x.A pb.x.n pb.x.c) ∧ w22.cell? ⟨w13.heap.size, 1, none⟩ = some (.slice pb.y.A pb.y.n pb.y.c) ∧ w22.cell? ⟨w13.heap.size, 2, none⟩ = some (.slice pb.z.A pb.z.n pb.z.c) from ⟨hPp.c3.1, hPp.c3.2.1, hPp.c3.2.2, hxpb.c3.1, hxpb.c3.2.1, hxpb.c3.2.2⟩); clear hx))
  clear kk1 kk2
  clear qhPx0 qhPx1 qhPx2 qhPx3 qhPx4 qhPx5 qhPx6 qhPx7 qhPx8 qhPp0 qhPp1 qhPp2 qhxxb0 qhxxb1 qhxxb2 qhxxb3 qhxxb4 qhxxb5 qhxxb6 qhxxb7 qhxxb8 qhxpb0 qhxpb1 qhxpb2
  obtain ⟨qhPx0, qhPx1, qhPx2, qhPx3, qhPx4, qhPx5, qhPx6, qhPx7, qhPx8⟩ := hPx.c9
  obtain ⟨qhPp0, qhPp1, qhPp2⟩ := hPp.c3
  obtain ⟨qhxxb0, qhxxb1, qhxxb2, qhxxb3, qhxxb4, qhxxb5, qhxxb6, qhxxb7, qhxxb8⟩ := hxxb.c9
  obtain ⟨qhxpb0, qhxpb1, qhxpb2⟩ := hxpb.c3
  go_wp2
  go_ret
  exact ⟨rfl, hX⟩
theorem own_IsTrueJury : ownKnob Tryz.prog.godebug = none := by kernel_rfl
set_option maxRecDepth 100000 in
theorem lifted_IsTrueJury (os : Os) (started : os.Started) (H : Type) (enc : TypeId × Value → H) :
    ReturnsInHanded {} Tryz.checked os 3 .any (Rows.fnExactIsTrueJurySpec.pre6 enc Tryz.prog Tryz.f3 Rows.fnExactIsTrueJuryRow.domain false) (Rows.fnExactIsTrueJurySpec.post enc Tryz.prog Tryz.f3 false true false false) := by
  refine returnsInHanded_of_change (C := Tryz.checked) own_IsTrueJury started (by kernel_rfl) Tryz.func3
    (ChangeSpec.witness6 (enc := enc) (C := Tryz.checked) false ⟨#[], #[.agg #[.int .i64 0, .int .i64 0, .int .i64 0, .slice none 0 0, .int .i64 0, .slice none 0 0, .slice none 0 0, .int .i64 0, .int .i64 0], .slice none 0 0, .slice none 0 0, .agg #[.slice none 0 0, .slice none 0 0, .slice none 0 0]], []⟩ 8 (by kernel_rfl) (by kernel_rfl) (by kernel_rfl) (by kernel_rfl)) ?_
  intro W base args ds gs before hval0 hW hcnd _
  have hval : ∀ (j : Nat) t v, Tryz.f3.params[j]? = some t → args[j]? = some v → Value.okWide Tryz.prog W .any base t v := hval0
  have hW' := hW
  obtain ⟨p, q, hA0, hV, rfl, hfz, hnd⟩ := hW
  have hA : DataW.TrodAll enc Tryz.prog W 0 (fun _ => true) true Tryz.f3.params.toList args.toList ds p := hA0
  rw [Tryz.params3] at hA hval
  obtain ⟨v0, vs0, d0, ds0, p0, q0, hargs, rfl, rfl, h0, r0⟩ := trodAll_cons hA
  obtain ⟨v1, vs1, d1, ds1, p1, q1, rfl, rfl, rfl, h1, r1⟩ := trodAll_cons r0
  obtain ⟨v2, vs2, d2, ds2, p2, q2, rfl, rfl, rfl, h2, r2⟩ := trodAll_cons r1
  obtain ⟨v3, vs3, d3, ds3, p3, q3, rfl, rfl, rfl, h3, r3⟩ := trodAll_cons r2
  obtain ⟨rfl, rfl, rfl⟩ := trodAll_nil r3
  obtain rfl : args = #[v0, v1, v2, v3] := by cases args; simp_all
  obtain ⟨rfl, rfl⟩ := trodVars_none hV
  have k0 := h0
  have lt0 : ∀ x ∈ p0, x.block < W.heap.size := by obtain ⟨m, hm⟩ := k0; exact DataW.trod_lt m _ _ _ hm
  obtain ⟨s0, x0, rfl, i0⟩ := open_Record (hval 0 24 v0 rfl rfl) h0 (fun _ => rfl)
  have k1 := h1
  have lt1 : ∀ x ∈ p1, x.block < W.heap.size := by obtain ⟨m, hm⟩ := k1; exact DataW.trod_lt m _ _ _ hm
  obtain ⟨s1, x1, rfl, i1⟩ := open_ties_arg (hval 1 25 v1 rfl rfl) h1 (fun _ => rfl)
  have k2 := h2
  have lt2 : ∀ x ∈ p2, x.block < W.heap.size := by obtain ⟨m, hm⟩ := k2; exact DataW.trod_lt m _ _ _ hm
  obtain ⟨s2, x2, rfl, i2⟩ := open_strs_arg (hval 2 26 v2 rfl rfl) h2 (fun _ => rfl)
  have k3 := h3
  have lt3 : ∀ x ∈ p3, x.block < W.heap.size := by obtain ⟨m, hm⟩ := k3; exact DataW.trod_lt m _ _ _ hm
  obtain ⟨s3, x3, rfl, i3⟩ := open_Jury (hval 3 28 v3 rfl rfl) h3 (fun _ => rfl)
  clear hA0 hval0
  refine (law_IsTrueJury s0 x0 s1 x1 s2 x2 s3 x3 W i0 i1 i2 i3).mono fun e W' ⟨he, bel⟩ => ?_
  subst he
  exact ⟨_, rfl, _, _, _, [], _, [], hW', trodAll_mk1 (shut_bool Tryz.underlying4 _), (trodAll_cons_mk (Below.trod laidOut (by kernel_rfl) (of_decide_eq_true (by kernel_rfl)) k0 bel lt0) (trodAll_cons_mk (Below.trod laidOut (by kernel_rfl) (of_decide_eq_true (by kernel_rfl)) k1 bel lt1) (trodAll_cons_mk (Below.trod laidOut (by kernel_rfl) (of_decide_eq_true (by kernel_rfl)) k2 bel lt2) (trodAll_cons_mk (Below.trod laidOut (by kernel_rfl) (of_decide_eq_true (by kernel_rfl)) k3 bel lt3) trodAll_mk0)))), rfl, Below.frame bel _, fun h => by cases h⟩
theorem over_IsTrueJury : Rows.fnExactIsTrueJuryRow.holds Tryz.pinned (OpenSpec.ofChange Rows.fnExactIsTrueJurySpec) :=
  OpenClaim.holds_of_wide 3 Tryz.f3 rfl rfl rfl rfl rfl rfl rfl ⟨rfl, rfl, rfl, rfl, rfl⟩ rfl rfl rfl rfl rfl (by kernel_rfl) Tryz.func3 (by kernel_rfl)
    (of_decide_eq_true (by kernel_rfl)) (by unfold Func.isWrapper; first | (rw [if_pos (by decide +kernel)]; kernel_rfl) | (rw [if_neg (by decide +kernel)]; exact ⟨rfl, rfl⟩))
    (fun os started H enc _ => lifted_IsTrueJury os started H enc)
/-- the statement -/
theorem proved_IsTrueJury : Rows.FnExactIsTrueJurySaid := over_IsTrueJury
#print axioms proved_IsTrueJury
end Go.Proofs.YtbkpcfncdnmknaaGreat.mem
