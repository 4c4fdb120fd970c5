/-
  The law FnExactRecordText holds of the given program for every input: it returns true, and each argument reads as it did.
-/
import Derived.Test.YtbjjiamfimgcgaaDoorRecOpen
import Derived.Test.YtbjjiamfimgcgaaDoorOpen
import Derived.Test.YtbjjiamfimgcgaaDoorTr
import Derived.Test.YtbjjiamfimgcgaaDoorTie
import Derived.Test.YtbjjiamfimgcgaaDoorCards
import Derived.SevenTiedAt
import Derived.LaidMore
import Derived.Stop.Joined
import Derived.HandedShaped
import Derived.Stop.LaidErr
import Derived.Lib.SmallJoins
import Derived.Lib.LaidTab
namespace Go.Proofs.YtbjjiamfimgcgaaDoor.mem
open Go.ChangeShapes Go.WideShapes Go.ChangeAt Go.RowKit
set_option linter.unusedVariables false
set_option maxHeartbeats 4000000 in
theorem law_RecordText (x : RecA) (y : RecL) (w : World) (ix : InR w x y) (hT0 : Tab w) :
    Calls Tryd.prog 5 #[.agg #[.int .i64 x.a, .int .i64 x.b, .int .i64 x.c, .slice x.p.x.A x.p.x.n x.p.x.c, .int .i64 x.d, .slice x.p.y.A x.p.y.n x.p.y.c, .slice x.p.z.A x.p.z.n x.p.z.c, .int .i64 x.e, .int .i64 x.f]] w fun e w' => e = .returned (.bool true) ∧ Ext w w' := by
  have hX := Ext.refl w
  have hPx := Blk.new w 37 (#[.int .i64 x.a, .int .i64 x.b, .int .i64 x.c, .slice x.p.x.A x.p.x.n x.p.x.c, .int .i64 x.d, .slice x.p.y.A x.p.y.n x.p.y.c, .slice x.p.z.A x.p.z.n x.p.z.c, .int .i64 x.e, .int .i64 x.f])
  replace hX := hX.alloc (.cells #[.int .i64 x.a, .int .i64 x.b, .int .i64 x.c, .slice x.p.x.A x.p.x.n x.p.x.c, .int .i64 x.d, .slice x.p.y.A x.p.y.n x.p.y.c, .slice x.p.z.A x.p.z.n x.p.z.c, .int .i64 x.e, .int .i64 x.f] 37)
  by_cases hsx : 0 ≤ szR 1048576 x
  case neg =>
    go_enter Tryd.func5, Tryd.ntmps5
    obtain ⟨qhPx0, qhPx1, qhPx2, qhPx3, qhPx4, qhPx5, qhPx6, qhPx7, qhPx8⟩ := hPx.c9
    go_wp2_with fail
    refine (szRecord_any x _ _ (by omega) (by omega) ix).mono ?_
    rintro e w1 ⟨rfl, hx⟩
    clear qhPx0 qhPx1 qhPx2 qhPx3 qhPx4 qhPx5 qhPx6 qhPx7 qhPx8
    replace hX := hX.trans hx
    have z1 : w.heap.size + 1 ≤ w1.heap.size := (by have := hx.size; simpa using this)
    replace hPx := hPx.ext hx
    clear hx
    obtain ⟨qhPx0, qhPx1, qhPx2, qhPx3, qhPx4, qhPx5, qhPx6, qhPx7, qhPx8⟩ := hPx.c9
    go_wp2
    go_ret
    exact ⟨rfl, hX⟩
  have rx := ix.rds hsx (by omega)
  have hlx := (szR_pos hsx (by omega)).2
  go_enter Tryd.func5, Tryd.ntmps5
  obtain ⟨qhPx0, qhPx1, qhPx2, qhPx3, qhPx4, qhPx5, qhPx6, qhPx7, qhPx8⟩ := hPx.c9
  go_wp2_with fail
  refine (szRecord_any x _ _ (by omega) (by omega) ix).mono ?_
  rintro e w1 ⟨rfl, hx⟩
  clear qhPx0 qhPx1 qhPx2 qhPx3 qhPx4 qhPx5 qhPx6 qhPx7 qhPx8
  replace hX := hX.trans hx
  have z1 : w.heap.size + 1 ≤ w1.heap.size := (by have := hx.size; simpa using this)
  replace hPx := hPx.ext hx
  clear hx
  obtain ⟨qhPx0, qhPx1, qhPx2, qhPx3, qhPx4, qhPx5, qhPx6, qhPx7, qhPx8⟩ := hPx.c9
  go_wp2_with fail
  refine (toRecord_any x y _ (rx.ext hX)).mono ?_
  rintro e w2 ⟨xa, rfl, oxa, hx⟩
  clear qhPx0 qhPx1 qhPx2 qhPx3 qhPx4 qhPx5 qhPx6 qhPx7 qhPx8
  replace hX := hX.trans hx
  have z2 : w1.heap.size ≤ w2.heap.size := (by have := hx.size; simpa using this)
  replace hPx := hPx.ext hx
  have rgoxa : ∀ k, blksR xa k → w1.heap.size ≤ k ∧ k < w2.heap.size := (fun k hk => by have := oxa.lt hk; simpa using this)
  clear hx
  obtain ⟨qhPx0, qhPx1, qhPx2, qhPx3, qhPx4, qhPx5, qhPx6, qhPx7, qhPx8⟩ := hPx.c9
  go_wp2_with fail
  refine (spec.RecordText_any xa y _ oxa.rd ).mono ?_
  rintro e w3 ⟨rfl, hx⟩
  clear qhPx0 qhPx1 qhPx2 qhPx3 qhPx4 qhPx5 qhPx6 qhPx7 qhPx8
  replace hX := hX.trans hx
  have z3 : w2.heap.size ≤ w3.heap.size := (by have := hx.size; simpa using this)
  replace hPx := hPx.ext hx
  replace oxa := oxa.ext hx
  clear hx
  obtain ⟨qhPx0, qhPx1, qhPx2, qhPx3, qhPx4, qhPx5, qhPx6, qhPx7, qhPx8⟩ := hPx.c9
  go_wp2_with fail
  refine (toRecord_any x y _ (rx.ext hX)).mono ?_
  rintro e w4 ⟨xb, rfl, oxb, hx⟩
  clear qhPx0 qhPx1 qhPx2 qhPx3 qhPx4 qhPx5 qhPx6 qhPx7 qhPx8
  replace hX := hX.trans hx
  have z4 : w3.heap.size ≤ w4.heap.size := (by have := hx.size; simpa using this)
  replace hPx := hPx.ext hx
  replace oxa := oxa.ext hx
  have rgoxb : ∀ k, blksR xb k → w3.heap.size ≤ k ∧ k < w4.heap.size := (fun k hk => by have := oxb.lt hk; simpa using this)
  clear hx
  have hxxb := Blk.new w4 40 (#[.int .i64 xb.a, .int .i64 xb.b, .int .i64 xb.c, .slice xb.p.x.A xb.p.x.n xb.p.x.c, .int .i64 xb.d, .slice xb.p.y.A xb.p.y.n xb.p.y.c, .slice xb.p.z.A xb.p.z.n xb.p.z.c, .int .i64 xb.e, .int .i64 xb.f])
  replace hPx := hPx.alloc (.cells #[.int .i64 xb.a, .int .i64 xb.b, .int .i64 xb.c, .slice xb.p.x.A xb.p.x.n xb.p.x.c, .int .i64 xb.d, .slice xb.p.y.A xb.p.y.n xb.p.y.c, .slice xb.p.z.A xb.p.z.n xb.p.z.c, .int .i64 xb.e, .int .i64 xb.f] 40)
  replace oxa := oxa.alloc (.cells #[.int .i64 xb.a, .int .i64 xb.b, .int .i64 xb.c, .slice xb.p.x.A xb.p.x.n xb.p.x.c, .int .i64 xb.d, .slice xb.p.y.A xb.p.y.n xb.p.y.c, .slice xb.p.z.A xb.p.z.n xb.p.z.c, .int .i64 xb.e, .int .i64 xb.f] 40)
  replace oxb := oxb.alloc (.cells #[.int .i64 xb.a, .int .i64 xb.b, .int .i64 xb.c, .slice xb.p.x.A xb.p.x.n xb.p.x.c, .int .i64 xb.d, .slice xb.p.y.A xb.p.y.n xb.p.y.c, .slice xb.p.z.A xb.p.z.n xb.p.z.c, .int .i64 xb.e, .int .i64 xb.f] 40)
  replace hX := hX.alloc (.cells #[.int .i64 xb.a, .int .i64 xb.b, .int .i64 xb.c, .slice xb.p.x.A xb.p.x.n xb.p.x.c, .int .i64 xb.d, .slice xb.p.y.A xb.p.y.n xb.p.y.c, .slice xb.p.z.A xb.p.z.n xb.p.z.c, .int .i64 xb.e, .int .i64 xb.f] 40)
  obtain ⟨qhPx0, qhPx1, qhPx2, qhPx3, qhPx4, qhPx5, qhPx6, qhPx7, qhPx8⟩ := hPx.c9
  obtain ⟨qhxxb0, qhxxb1, qhxxb2, qhxxb3, qhxxb4, qhxxb5, qhxxb6, qhxxb7, qhxxb8⟩ := hxxb.c9
  go_wp2_with fail
  refine (impl.RecordText_any xb y _ oxb.rd (hT0.ext hX)).mono ?_
  rintro e w5 ⟨rfl, hx⟩
  clear qhPx0 qhPx1 qhPx2 qhPx3 qhPx4 qhPx5 qhPx6 qhPx7 qhPx8 qhxxb0 qhxxb1 qhxxb2 qhxxb3 qhxxb4 qhxxb5 qhxxb6 qhxxb7 qhxxb8
  replace hX := hX.trans hx
  have z5 : w4.heap.size + 1 ≤ w5.heap.size := (by have := hx.size; simpa using this)
  replace hPx := hPx.ext hx
  replace hxxb := hxxb.ext hx
  replace oxa := oxa.ext hx
  replace oxb := oxb.ext hx
  clear hx
  obtain ⟨qhPx0, qhPx1, qhPx2, qhPx3, qhPx4, qhPx5, qhPx6, qhPx7, qhPx8⟩ := hPx.c9
  obtain ⟨qhxxb0, qhxxb1, qhxxb2, qhxxb3, qhxxb4, qhxxb5, qhxxb6, qhxxb7, qhxxb8⟩ := hxxb.c9
  replace hPx := hPx.drew
  replace hxxb := hxxb.drew
  replace oxa := oxa.drew
  replace oxb := oxb.drew
  replace hX := hX.drew
  go_wp2_with fail
  go_region_held3 (fun w' => w'.cell? ⟨w.heap.size, 0, none⟩ = some (.int .i64 x.a) ∧ w'.cell? ⟨w.heap.size, 1, none⟩ = some (.int .i64 x.b) ∧ w'.cell? ⟨w.heap.size, 2, none⟩ = some (.int .i64 x.c) ∧ w'.cell? ⟨w.heap.size, 3, none⟩ = some (.slice x.p.x.A x.p.x.n x.p.x.c) ∧ w'.cell? ⟨w.heap.size, 4, none⟩ = some (.int .i64 x.d) ∧ w'.cell? ⟨w.heap.size, 5, none⟩ = some (.slice x.p.y.A x.p.y.n x.p.y.c) ∧ w'.cell? ⟨w.heap.size, 6, none⟩ = some (.slice x.p.z.A x.p.z.n x.p.z.c) ∧ w'.cell? ⟨w.heap.size, 7, none⟩ = some (.int .i64 x.e) ∧ w'.cell? ⟨w.heap.size, 8, none⟩ = some (.int .i64 x.f) ∧ w'.cell? ⟨w4.heap.size, 0, none⟩ = some (.int .i64 xb.a) ∧ w'.cell? ⟨w4.heap.size, 1, none⟩ = some (.int .i64 xb.b) ∧ w'.cell? ⟨w4.heap.size, 2, none⟩ = some (.int .i64 xb.c) ∧ w'.cell? ⟨w4.heap.size, 3, none⟩ = some (.slice xb.p.x.A xb.p.x.n xb.p.x.c) ∧ w'.cell? ⟨w4.heap.size, 4, none⟩ = some (.int .i64 xb.d) ∧ w'.cell? ⟨w4.heap.size, 5, none⟩ = some (.slice xb.p.y.A xb.p.y.n xb.p.y.c) ∧ w'.cell? ⟨w4.heap.size, 6, none⟩ = some (.slice xb.p.z.A xb.p.z.n xb.p.z.c) ∧ w'.cell? ⟨w4.heap.size, 7, none⟩ = some (.int .i64 xb.e) ∧ w'.cell? ⟨w4.heap.size, 8, none⟩ = some (.int .i64 xb.f)) (first | exact kk2.2 | exact kk1.2 | go_keep) (first | (go_at_call 17; refine (toRecord_any x y _ (rx.ext hX)).mono ?_; rintro e w6 ⟨xbc, rfl, oxbc, hx⟩; replace hX := hX.trans hx; have z6 : w5.heap.size ≤ w6.heap.size := (by have := hx.size; simpa using this); replace hPx := hPx.ext hx; replace hxxb := hxxb.ext hx; replace oxa := oxa.ext hx; replace oxb := oxb.ext hx; have kk1 := And.intro trivial (show w6.cell? ⟨w.heap.size, 0, none⟩ = some (.int .i64 x.a) ∧ w6.cell? ⟨w.heap.size, 1, none⟩ = some (.int .i64 x.b) ∧ w6.cell? ⟨w.heap.size, 2, none⟩ = some (.int .i64 x.c) ∧ w6.cell? ⟨w.heap.size, 3, none⟩ = some (.slice x.p.x.A x.p.x.n x.p.x.c) ∧ w6.cell? ⟨w.heap.size, 4, none⟩ = some (.int .i64 x.d) ∧ w6.cell? ⟨w.heap.size, 5, none⟩ = some (.slice x.p.y.A x.p.y.n x.p.y.c) ∧ w6.cell? ⟨w.heap.size, 6, none⟩ = some (.slice x.p.z.A x.p.z.n x.p.z.c) ∧ w6.cell? ⟨w.heap.size, 7, none⟩ = some (.int .i64 x.e) ∧ w6.cell? ⟨w.heap.size, 8, none⟩ = some (.int .i64 x.f) ∧ w6.cell? ⟨w4.heap.size, 0, none⟩ = some (.int .i64 xb.a) ∧ w6.cell? ⟨w4.heap.size, 1, none⟩ = some (.int .i64 xb.b) ∧ w6.cell? ⟨w4.heap.size, 2, none⟩ = some (.int .i64 xb.c) ∧ w6.cell? ⟨w4.heap.size, 3, none⟩ = some (.slice xb.p.x.A xb.p.x.n xb.p.x.c) ∧ w6.cell? ⟨w4.heap.size, 4, none⟩ = some (.int .i64 xb.d) ∧ w6.cell? ⟨w4.heap.size, 5, none⟩ = some (.slice xb.p.y.A xb.p.y.n xb.p.y.c) ∧ w6.cell? ⟨w4.heap.size, 6, none⟩ = some (.slice xb.p.z.A xb.p.z.n xb.p.z.c) ∧ w6.cell? ⟨w4.heap.size, 7, none⟩ = some (.int .i64 xb.e) ∧ w6.cell? ⟨w4.heap.size, 8, none⟩ = some (.int .i64 xb.f) from ⟨hPx.c9.1, hPx.c9.2.1, hPx.c9.2.2.1, hPx.c9.2.2.2.1, hPx.c9.2.2.2.2.1, hPx.c9.2.2.2.2.2.1, hPx.c9.2.2.2.2.2.2.1, hPx.c9.2.2.2.2.2.2.2.1, hPx.c9.2.2.2.2.2.2.2.2, hxxb.c9.1, hxxb.c9.2.1, hxxb.c9.2.2.1, hxxb.c9.2.2.2.1, hxxb.c9.2.2.2.2.1, hxxb.c9.2.2.2.2.2.1, hxxb.c9.2.2.2.2.2.2.1, hxxb.c9.2.2.2.2.2.2.2.1, hxxb.c9.2.2.2.2.2.2.2.2⟩); clear hx) | (go_at_call 19; refine (eqRecord_yes xb xbc _ _ oxb.rd oxbc.rd).mono ?_; rintro e w7 ⟨rfl, hx⟩; replace hX := hX.trans hx; have z7 : w6.heap.size ≤ w7.heap.size := (by have := hx.size; simpa using this); replace hPx := hPx.ext hx; replace hxxb := hxxb.ext hx; replace oxa := oxa.ext hx; replace oxb := oxb.ext hx; have kk2 := And.intro trivial (show w7.cell? ⟨w.heap.size, 0, none⟩ = some (.int .i64 x.a) ∧ w7.cell? ⟨w.heap.size, 1, none⟩ = some (.int .i64 x.b) ∧ w7.cell? ⟨w.heap.size, 2, none⟩ = some (.int .i64 x.c) ∧ w7.cell? ⟨w.heap.size, 3, none⟩ = some (.slice x.p.x.A x.p.x.n x.p.x.c) ∧ w7.cell? ⟨w.heap.size, 4, none⟩ = some (.int .i64 x.d) ∧ w7.cell? ⟨w.heap.size, 5, none⟩ = some (.slice x.p.y.A x.p.y.n x.p.y.c) ∧ w7.cell? ⟨w.heap.size, 6, none⟩ = some (.slice x.p.z.A x.p.z.n x.p.z.c) ∧ w7.cell? ⟨w.heap.size, 7, none⟩ = some (.int .i64 x.e) ∧ w7.cell? ⟨w.heap.size, 8, none⟩ = some (.int .i64 x.f) ∧ w7.cell? ⟨w4.heap.size, 0, none⟩ = some (.int .i64 xb.a) ∧ w7.cell? ⟨w4.heap.size, 1, none⟩ = some (.int .i64 xb.b) ∧ w7.cell? ⟨w4.heap.size, 2, none⟩ = some (.int .i64 xb.c) ∧ w7.cell? ⟨w4.heap.size, 3, none⟩ = some (.slice xb.p.x.A xb.p.x.n xb.p.x.c) ∧ w7.cell? ⟨w4.heap.size, 4, none⟩ = some (.int .i64 xb.d) ∧ w7.cell? ⟨w4.heap.size, 5, none⟩ = some (.slice xb.p.y.A xb.p.y.n xb.p.y.c) ∧ w7.cell? ⟨w4.heap.size, 6, none⟩ = some (.slice xb.p.z.A xb.p.z.n xb.p.z.c) ∧ w7.cell? ⟨w4.heap.size, 7, none⟩ = some (.int .i64 xb.e) ∧ w7.cell? ⟨w4.heap.size, 8, none⟩ = some (.int .i64 xb.f) from ⟨hPx.c9.1, hPx.c9.2.1, hPx.c9.2.2.1, hPx.c9.2.2.2.1, hPx.c9.2.2.2.2.1, hPx.c9.2.2.2.2.2.1, hPx.c9.2.2.2.2.2.2.1, hPx.c9.2.2.2.2.2.2.2.1, hPx.c9.2.2.2.2.2.2.2.2, hxxb.c9.1, hxxb.c9.2.1, hxxb.c9.2.2.1, hxxb.c9.2.2.2.1, hxxb.c9.2.2.2.2.1, hxxb.c9.2.2.2.2.2.1, hxxb.c9.2.2.2.2.2.2.1, hxxb.c9.2.2.2.2.2.2.2.1, hxxb.c9.2.2.2.2.2.2.2.2⟩); clear hx))
  clear kk1 kk2
  clear qhPx0 qhPx1 qhPx2 qhPx3 qhPx4 qhPx5 qhPx6 qhPx7 qhPx8 qhxxb0 qhxxb1 qhxxb2 qhxxb3 qhxxb4 qhxxb5 qhxxb6 qhxxb7 qhxxb8
  obtain ⟨qhPx0, qhPx1, qhPx2, qhPx3, qhPx4, qhPx5, qhPx6, qhPx7, qhPx8⟩ := hPx.c9
  obtain ⟨qhxxb0, qhxxb1, qhxxb2, qhxxb3, qhxxb4, qhxxb5, qhxxb6, qhxxb7, qhxxb8⟩ := hxxb.c9
  go_wp2
  go_ret
  exact ⟨rfl, hX⟩
theorem own_RecordText : ownKnob Tryd.prog.godebug = none := by kernel_rfl
theorem Tab.of_laid {W : World} (h : laidMetH Tryd.prog (Rows.fnExactRecordTextRow.laid) W) : Tab W := by
  rw [MakeChecks.laidMetH_plain _ _ _ (by kernel_rfl)] at h
  have h2 : laidMet Tryd.prog (("internal/strconv.uint64pow10", Lib.tabData .u64 Lib.pow10Tab) :: []) W := Go.laidMet.tail (Go.laidMet.tail h)
  have h3 : Lib.TabIs Tryd.prog W "internal/strconv.uint64pow10" .u64 Lib.pow10Tab := Lib.tabIs_of_head (g := 1) (by kernel_rfl) (by kernel_rfl) Tryd.underlying85 Tryd.underlying78 (by kernel_rfl) (by kernel_rfl) h2
  exact fun W1 hx => Go.Joins.tab_stays (g := 1) (by kernel_rfl) h3 hx (Nat.le_refl _)
/-- a world that holds what the row lists: the door's own run -/
theorem met_5 (os : Os) (args : Array Value) : laidMetH Tryd.prog (Rows.fnExactRecordTextRow.laid) ((World.doorLaid Tryd.prog 2000 os).forCall (fun _ _ => 0) ⟨#[], args, []⟩).memory :=
  laidMetH_of_parts3 (fuel := 8) (laidMet_of_run' 8 (by kernel_rfl) (by kernel_rfl)) (by kernel_rfl) (by kernel_rfl)
set_option maxRecDepth 100000 in
theorem lifted_5 (os : Os) (started : os.Started) (H : Type) (enc : TypeId × Value → H) :
    ReturnsInHanded {} Tryd.checked os 5 .any (fun w args => (Rows.fnExactRecordTextSpec.pre enc Tryd.prog Tryd.f5 [] false w args ∧ laidMetH Tryd.prog (Rows.fnExactRecordTextRow.laid) w) ∧ sizedMet enc Tryd.prog Tryd.f5 (OpenSpec.ofChange Rows.fnExactRecordTextSpec) false w args)
      (Rows.fnExactRecordTextSpec.post enc Tryd.prog Tryd.f5 false true false false) := by
  refine returnsInHanded_of_change_and (C := Tryd.checked) (X := fun w _ => laidMetH Tryd.prog (Rows.fnExactRecordTextRow.laid) w) (fun _ _ _ hh h => h.of_heap hh) own_RecordText started (by kernel_rfl) Tryd.func5
    (ChangeSpec.witness_shaped (enc := enc) (C := Tryd.checked) (os := os) (X := fun w _ => laidMetH Tryd.prog (Rows.fnExactRecordTextRow.laid) w) false (World.doorLaid Tryd.prog 2000 os) #[.agg #[.int .i64 0, .int .i64 0, .int .i64 0, .slice none 0 0, .int .i64 0, .slice none 0 0, .slice none 0 0, .int .i64 0, .int .i64 0]] 8 rfl (World.shaped_of_RefB (by kernel_rfl) (by kernel_rfl)) (by kernel_rfl) (by kernel_rfl) (by kernel_rfl) (met_5 os _)) ?_
  intro W base args ds gs before hval0 hW _ _ hL _
  have hval : ∀ (j : Nat) t v, Tryd.f5.params[j]? = some t → args[j]? = some v → Value.okWide Tryd.prog W .any base t v := hval0
  have hW' := hW
  obtain ⟨p, q, hA0, hV, rfl, hfz, hnd⟩ := hW
  have hA : DataW.TrodAll enc Tryd.prog W 0 (fun _ => true) true Tryd.f5.params.toList args.toList ds p := hA0
  rw [Tryd.params5] at hA hval
  obtain ⟨v0, vs0, d0, ds0, p0, q0, hargs, rfl, rfl, h0, r0⟩ := trodAll_cons hA
  obtain ⟨rfl, rfl, rfl⟩ := trodAll_nil r0
  obtain rfl : args = #[v0] := by cases args; simp_all
  obtain ⟨rfl, rfl⟩ := trodVars_none hV
  have k0 := h0
  have lt0 : ∀ x ∈ p0, x.block < W.heap.size := by obtain ⟨m, hm⟩ := k0; exact DataW.trod_lt m _ _ _ hm
  obtain ⟨s0, x0, rfl, i0⟩ := open_Record (hval 0 37 v0 rfl rfl) h0 (fun _ => rfl)
  clear hA0 hval0
  refine (law_RecordText s0 x0 W i0 (Tab.of_laid hL)).mono fun e W' ⟨he, bel⟩ => ?_
  subst he
  exact ⟨_, rfl, _, _, _, [], _, [], hW', trodAll_mk1 (shut_bool Tryd.underlying4 _), (trodAll_cons_mk (Below.trod laidOut (by kernel_rfl) (of_decide_eq_true (by kernel_rfl)) k0 bel lt0) trodAll_mk0), rfl, Below.frame bel _, fun h => by cases h⟩
theorem over_RecordText : Rows.FnExactRecordTextSaid :=
  OpenClaim.holds_of_wide 5 Tryd.f5 rfl rfl rfl rfl rfl rfl rfl ⟨rfl, rfl, rfl, rfl, rfl⟩ rfl rfl rfl rfl rfl (by kernel_rfl) Tryd.func5 (by kernel_rfl)
    (of_decide_eq_true (by kernel_rfl)) (by unfold Func.isWrapper; first | (rw [if_pos (by decide +kernel)]; kernel_rfl) | (rw [if_neg (by decide +kernel)]; exact ⟨rfl, rfl⟩))
    (fun os started H enc _ => lifted_5 os started H enc)
/-- the statement: the tied card -/
theorem proved_RecordText : Rows.FnExactRecordTextCardSaid :=
  Claim7.holds_tied_plain_at .later [] [.data, .data, .data] true _ false
    over_RecordText (fun _ h => by cases h) (by kernel_rfl) (fun _ h => by cases h) fnExactRecordText_row_tie rfl ⟨rfl, rfl⟩ (by kernel_rfl) rfl
    (fun f fn hf hfn => by
      obtain rfl : f = 5 := Option.some.inj ((show Tryd.prog.funcNamed Rows.fnExactRecordTextRow.func = some 5 by kernel_rfl).symm.trans hf) |>.symm
      obtain rfl : fn = Tryd.f5 := (Option.some.inj (Tryd.func5.symm.trans hfn)).symm
      exact ⟨by kernel_rfl, fun j t ht => by
        have hall : (Tryd.f5.params.toList.all fun u => !Tryd.prog.wantsStandIn u) = true := by kernel_rfl
        have hm : t ∈ Tryd.f5.params.toList := by simpa using Array.mem_of_getElem? ht
        exact (show Tryd.prog.wantsStandIn t = false by simpa using List.all_eq_true.1 hall t hm)⟩)
    (by kernel_rfl)
#print axioms proved_RecordText
end Go.Proofs.YtbjjiamfimgcgaaDoor.mem
