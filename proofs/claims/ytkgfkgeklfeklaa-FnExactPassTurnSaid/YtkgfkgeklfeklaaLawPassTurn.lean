/-
  The law FnExactPassTurn holds of the given program for every input: it returns true, and each argument reads as it did.
-/
import Derived.Test.YtkgfkgeklfeklaaSelOpen
import Derived.Test.YtkgfkgeklfeklaaPassTop
namespace Go.Proofs.Ytkgfkgeklfeklaa.mem
open Go.ChangeShapes Go.WideShapes Go.ChangeAt Go.RowKit
set_option linter.unusedVariables false
theorem law_PassTurn (p : SelA) (l : SelL) (w : World) (ip : InS w p l) :
    Calls Try.prog 7 #[.agg #[.slice p.p.x.A p.p.x.n p.p.x.c, .slice p.p.y.A p.p.y.n p.p.y.c, .slice p.p.z.A p.p.z.n p.p.z.c, .slice p.s.A p.s.n p.s.c, .int .i64 p.t, .int .i64 p.q]] w fun e w' => e = .returned (.bool true) ∧ Ext w w' := by
  have hX := Ext.refl w
  have hPp := Blk.new w 26 (#[.slice p.p.x.A p.p.x.n p.p.x.c, .slice p.p.y.A p.p.y.n p.p.y.c, .slice p.p.z.A p.p.z.n p.p.z.c, .slice p.s.A p.s.n p.s.c, .int .i64 p.t, .int .i64 p.q])
  replace hX := hX.alloc (.cells #[.slice p.p.x.A p.p.x.n p.p.x.c, .slice p.p.y.A p.p.y.n p.p.y.c, .slice p.p.z.A p.p.z.n p.p.z.c, .slice p.s.A p.s.n p.s.c, .int .i64 p.t, .int .i64 p.q] 26)
  by_cases hsp : 0 ≤ szS 1048576 p
  case neg =>
    go_enter Try.func7, Try.ntmps7
    obtain ⟨qhPp0, qhPp1, qhPp2, qhPp3, qhPp4, qhPp5⟩ := hPp.c6
    go_wp2_with fail
    refine (szSelection_any p _ _ (by omega) (by omega) ip).mono ?_
    rintro e w1 ⟨rfl, hx⟩
    clear qhPp0 qhPp1 qhPp2 qhPp3 qhPp4 qhPp5
    replace hX := hX.trans hx
    have z1 : w.heap.size + 1 ≤ w1.heap.size := (by have := hx.size; simpa using this)
    replace hPp := hPp.ext hx
    clear hx
    obtain ⟨qhPp0, qhPp1, qhPp2, qhPp3, qhPp4, qhPp5⟩ := hPp.c6
    go_wp2
    go_ret
    exact ⟨rfl, hX⟩
  have rp := ip.rds hsp (by omega)
  have hlp := (szS_pos hsp (by omega)).2
  go_enter Try.func7, Try.ntmps7
  obtain ⟨qhPp0, qhPp1, qhPp2, qhPp3, qhPp4, qhPp5⟩ := hPp.c6
  go_wp2_with fail
  refine (szSelection_any p _ _ (by omega) (by omega) ip).mono ?_
  rintro e w1 ⟨rfl, hx⟩
  clear qhPp0 qhPp1 qhPp2 qhPp3 qhPp4 qhPp5
  replace hX := hX.trans hx
  have z1 : w.heap.size + 1 ≤ w1.heap.size := (by have := hx.size; simpa using this)
  replace hPp := hPp.ext hx
  clear hx
  obtain ⟨qhPp0, qhPp1, qhPp2, qhPp3, qhPp4, qhPp5⟩ := hPp.c6
  go_wp2_with fail
  refine (toSelection_any p l _ (rp.ext hX)).mono ?_
  rintro e w2 ⟨pa, rfl, opa, hx⟩
  clear qhPp0 qhPp1 qhPp2 qhPp3 qhPp4 qhPp5
  replace hX := hX.trans hx
  have z2 : w1.heap.size ≤ w2.heap.size := (by have := hx.size; simpa using this)
  replace hPp := hPp.ext hx
  have rgopa : ∀ k, blksS pa k → w1.heap.size ≤ k ∧ k < w2.heap.size := fun k hk => by have := opa.lt hk; simpa using this
  clear hx
  obtain ⟨qhPp0, qhPp1, qhPp2, qhPp3, qhPp4, qhPp5⟩ := hPp.c6
  go_wp2_with fail
  refine (spec.PassTurn_any pa l _ opa.rd ).mono ?_
  rintro e w3 ⟨tw0, rfl, otw0, hx⟩
  clear qhPp0 qhPp1 qhPp2 qhPp3 qhPp4 qhPp5
  replace hX := hX.trans hx
  have z3 : w2.heap.size ≤ w3.heap.size := (by have := hx.size; simpa using this)
  replace hPp := hPp.ext hx
  replace opa := opa.ext hx
  have rgotw0 : ∀ k, blksS tw0 k → w2.heap.size ≤ k ∧ k < w3.heap.size := fun k hk => by have := otw0.lt hk; simpa using this
  clear hx
  have hTw0 := Blk.new w3 31 (#[.slice tw0.p.x.A tw0.p.x.n tw0.p.x.c, .slice tw0.p.y.A tw0.p.y.n tw0.p.y.c, .slice tw0.p.z.A tw0.p.z.n tw0.p.z.c, .slice tw0.s.A tw0.s.n tw0.s.c, .int .i64 tw0.t, .int .i64 tw0.q])
  replace hPp := hPp.alloc (.cells #[.slice tw0.p.x.A tw0.p.x.n tw0.p.x.c, .slice tw0.p.y.A tw0.p.y.n tw0.p.y.c, .slice tw0.p.z.A tw0.p.z.n tw0.p.z.c, .slice tw0.s.A tw0.s.n tw0.s.c, .int .i64 tw0.t, .int .i64 tw0.q] 31)
  replace opa := opa.alloc (.cells #[.slice tw0.p.x.A tw0.p.x.n tw0.p.x.c, .slice tw0.p.y.A tw0.p.y.n tw0.p.y.c, .slice tw0.p.z.A tw0.p.z.n tw0.p.z.c, .slice tw0.s.A tw0.s.n tw0.s.c, .int .i64 tw0.t, .int .i64 tw0.q] 31)
  replace otw0 := otw0.alloc (.cells #[.slice tw0.p.x.A tw0.p.x.n tw0.p.x.c, .slice tw0.p.y.A tw0.p.y.n tw0.p.y.c, .slice tw0.p.z.A tw0.p.z.n tw0.p.z.c, .slice tw0.s.A tw0.s.n tw0.s.c, .int .i64 tw0.t, .int .i64 tw0.q] 31)
  replace hX := hX.alloc (.cells #[.slice tw0.p.x.A tw0.p.x.n tw0.p.x.c, .slice tw0.p.y.A tw0.p.y.n tw0.p.y.c, .slice tw0.p.z.A tw0.p.z.n tw0.p.z.c, .slice tw0.s.A tw0.s.n tw0.s.c, .int .i64 tw0.t, .int .i64 tw0.q] 31)
  obtain ⟨qhPp0, qhPp1, qhPp2, qhPp3, qhPp4, qhPp5⟩ := hPp.c6
  obtain ⟨qhTw00, qhTw01, qhTw02, qhTw03, qhTw04, qhTw05⟩ := hTw0.c6
  go_wp2_with fail
  refine (toSelection_any p l _ (rp.ext hX)).mono ?_
  rintro e w4 ⟨pb, rfl, opb, hx⟩
  clear qhPp0 qhPp1 qhPp2 qhPp3 qhPp4 qhPp5 qhTw00 qhTw01 qhTw02 qhTw03 qhTw04 qhTw05
  replace hX := hX.trans hx
  have z4 : w3.heap.size + 1 ≤ w4.heap.size := (by have := hx.size; simpa using this)
  replace hPp := hPp.ext hx
  replace hTw0 := hTw0.ext hx
  replace opa := opa.ext hx
  replace otw0 := otw0.ext hx
  have rgopb : ∀ k, blksS pb k → w3.heap.size + 1 ≤ k ∧ k < w4.heap.size := fun k hk => by have := opb.lt hk; simpa using this
  clear hx
  have hxpb := Blk.new w4 31 (#[.slice pb.p.x.A pb.p.x.n pb.p.x.c, .slice pb.p.y.A pb.p.y.n pb.p.y.c, .slice pb.p.z.A pb.p.z.n pb.p.z.c, .slice pb.s.A pb.s.n pb.s.c, .int .i64 pb.t, .int .i64 pb.q])
  replace hPp := hPp.alloc (.cells #[.slice pb.p.x.A pb.p.x.n pb.p.x.c, .slice pb.p.y.A pb.p.y.n pb.p.y.c, .slice pb.p.z.A pb.p.z.n pb.p.z.c, .slice pb.s.A pb.s.n pb.s.c, .int .i64 pb.t, .int .i64 pb.q] 31)
  replace hTw0 := hTw0.alloc (.cells #[.slice pb.p.x.A pb.p.x.n pb.p.x.c, .slice pb.p.y.A pb.p.y.n pb.p.y.c, .slice pb.p.z.A pb.p.z.n pb.p.z.c, .slice pb.s.A pb.s.n pb.s.c, .int .i64 pb.t, .int .i64 pb.q] 31)
  replace opa := opa.alloc (.cells #[.slice pb.p.x.A pb.p.x.n pb.p.x.c, .slice pb.p.y.A pb.p.y.n pb.p.y.c, .slice pb.p.z.A pb.p.z.n pb.p.z.c, .slice pb.s.A pb.s.n pb.s.c, .int .i64 pb.t, .int .i64 pb.q] 31)
  replace otw0 := otw0.alloc (.cells #[.slice pb.p.x.A pb.p.x.n pb.p.x.c, .slice pb.p.y.A pb.p.y.n pb.p.y.c, .slice pb.p.z.A pb.p.z.n pb.p.z.c, .slice pb.s.A pb.s.n pb.s.c, .int .i64 pb.t, .int .i64 pb.q] 31)
  replace opb := opb.alloc (.cells #[.slice pb.p.x.A pb.p.x.n pb.p.x.c, .slice pb.p.y.A pb.p.y.n pb.p.y.c, .slice pb.p.z.A pb.p.z.n pb.p.z.c, .slice pb.s.A pb.s.n pb.s.c, .int .i64 pb.t, .int .i64 pb.q] 31)
  replace hX := hX.alloc (.cells #[.slice pb.p.x.A pb.p.x.n pb.p.x.c, .slice pb.p.y.A pb.p.y.n pb.p.y.c, .slice pb.p.z.A pb.p.z.n pb.p.z.c, .slice pb.s.A pb.s.n pb.s.c, .int .i64 pb.t, .int .i64 pb.q] 31)
  obtain ⟨qhPp0, qhPp1, qhPp2, qhPp3, qhPp4, qhPp5⟩ := hPp.c6
  obtain ⟨qhTw00, qhTw01, qhTw02, qhTw03, qhTw04, qhTw05⟩ := hTw0.c6
  obtain ⟨qhxpb0, qhxpb1, qhxpb2, qhxpb3, qhxpb4, qhxpb5⟩ := hxpb.c6
  go_wp2_with fail
  refine (impl.PassTurn_any pb l _ opb.rd ).mono ?_
  rintro e w5 ⟨tg0, rfl, otg0, hx⟩
  clear qhPp0 qhPp1 qhPp2 qhPp3 qhPp4 qhPp5 qhTw00 qhTw01 qhTw02 qhTw03 qhTw04 qhTw05 qhxpb0 qhxpb1 qhxpb2 qhxpb3 qhxpb4 qhxpb5
  replace hX := hX.trans hx
  have z5 : w4.heap.size + 1 ≤ w5.heap.size := (by have := hx.size; simpa using this)
  replace hPp := hPp.ext hx
  replace hTw0 := hTw0.ext hx
  replace hxpb := hxpb.ext hx
  replace opa := opa.ext hx
  replace otw0 := otw0.ext hx
  replace opb := opb.ext hx
  have rgotg0 : ∀ k, blksS tg0 k → w4.heap.size + 1 ≤ k ∧ k < w5.heap.size := fun k hk => by have := otg0.lt hk; simpa using this
  clear hx
  have hTg0 := Blk.new w5 31 (#[.slice tg0.p.x.A tg0.p.x.n tg0.p.x.c, .slice tg0.p.y.A tg0.p.y.n tg0.p.y.c, .slice tg0.p.z.A tg0.p.z.n tg0.p.z.c, .slice tg0.s.A tg0.s.n tg0.s.c, .int .i64 tg0.t, .int .i64 tg0.q])
  replace hPp := hPp.alloc (.cells #[.slice tg0.p.x.A tg0.p.x.n tg0.p.x.c, .slice tg0.p.y.A tg0.p.y.n tg0.p.y.c, .slice tg0.p.z.A tg0.p.z.n tg0.p.z.c, .slice tg0.s.A tg0.s.n tg0.s.c, .int .i64 tg0.t, .int .i64 tg0.q] 31)
  replace hTw0 := hTw0.alloc (.cells #[.slice tg0.p.x.A tg0.p.x.n tg0.p.x.c, .slice tg0.p.y.A tg0.p.y.n tg0.p.y.c, .slice tg0.p.z.A tg0.p.z.n tg0.p.z.c, .slice tg0.s.A tg0.s.n tg0.s.c, .int .i64 tg0.t, .int .i64 tg0.q] 31)
  replace hxpb := hxpb.alloc (.cells #[.slice tg0.p.x.A tg0.p.x.n tg0.p.x.c, .slice tg0.p.y.A tg0.p.y.n tg0.p.y.c, .slice tg0.p.z.A tg0.p.z.n tg0.p.z.c, .slice tg0.s.A tg0.s.n tg0.s.c, .int .i64 tg0.t, .int .i64 tg0.q] 31)
  replace opa := opa.alloc (.cells #[.slice tg0.p.x.A tg0.p.x.n tg0.p.x.c, .slice tg0.p.y.A tg0.p.y.n tg0.p.y.c, .slice tg0.p.z.A tg0.p.z.n tg0.p.z.c, .slice tg0.s.A tg0.s.n tg0.s.c, .int .i64 tg0.t, .int .i64 tg0.q] 31)
  replace otw0 := otw0.alloc (.cells #[.slice tg0.p.x.A tg0.p.x.n tg0.p.x.c, .slice tg0.p.y.A tg0.p.y.n tg0.p.y.c, .slice tg0.p.z.A tg0.p.z.n tg0.p.z.c, .slice tg0.s.A tg0.s.n tg0.s.c, .int .i64 tg0.t, .int .i64 tg0.q] 31)
  replace opb := opb.alloc (.cells #[.slice tg0.p.x.A tg0.p.x.n tg0.p.x.c, .slice tg0.p.y.A tg0.p.y.n tg0.p.y.c, .slice tg0.p.z.A tg0.p.z.n tg0.p.z.c, .slice tg0.s.A tg0.s.n tg0.s.c, .int .i64 tg0.t, .int .i64 tg0.q] 31)
  replace otg0 := otg0.alloc (.cells #[.slice tg0.p.x.A tg0.p.x.n tg0.p.x.c, .slice tg0.p.y.A tg0.p.y.n tg0.p.y.c, .slice tg0.p.z.A tg0.p.z.n tg0.p.z.c, .slice tg0.s.A tg0.s.n tg0.s.c, .int .i64 tg0.t, .int .i64 tg0.q] 31)
  replace hX := hX.alloc (.cells #[.slice tg0.p.x.A tg0.p.x.n tg0.p.x.c, .slice tg0.p.y.A tg0.p.y.n tg0.p.y.c, .slice tg0.p.z.A tg0.p.z.n tg0.p.z.c, .slice tg0.s.A tg0.s.n tg0.s.c, .int .i64 tg0.t, .int .i64 tg0.q] 31)
  obtain ⟨qhPp0, qhPp1, qhPp2, qhPp3, qhPp4, qhPp5⟩ := hPp.c6
  obtain ⟨qhTw00, qhTw01, qhTw02, qhTw03, qhTw04, qhTw05⟩ := hTw0.c6
  obtain ⟨qhxpb0, qhxpb1, qhxpb2, qhxpb3, qhxpb4, qhxpb5⟩ := hxpb.c6
  obtain ⟨qhTg00, qhTg01, qhTg02, qhTg03, qhTg04, qhTg05⟩ := hTg0.c6
  go_wp2_with fail
  refine (eqSelection_yes tg0 tw0 _ _ otg0.rd otw0.rd).mono ?_
  rintro e w6 ⟨rfl, hx⟩
  clear qhPp0 qhPp1 qhPp2 qhPp3 qhPp4 qhPp5 qhTw00 qhTw01 qhTw02 qhTw03 qhTw04 qhTw05 qhxpb0 qhxpb1 qhxpb2 qhxpb3 qhxpb4 qhxpb5 qhTg00 qhTg01 qhTg02 qhTg03 qhTg04 qhTg05
  replace hX := hX.trans hx
  have z6 : w5.heap.size + 1 ≤ w6.heap.size := (by have := hx.size; simpa using this)
  replace hPp := hPp.ext hx
  replace hTw0 := hTw0.ext hx
  replace hxpb := hxpb.ext hx
  replace hTg0 := hTg0.ext hx
  replace opa := opa.ext hx
  replace otw0 := otw0.ext hx
  replace opb := opb.ext hx
  replace otg0 := otg0.ext hx
  clear hx
  obtain ⟨qhPp0, qhPp1, qhPp2, qhPp3, qhPp4, qhPp5⟩ := hPp.c6
  obtain ⟨qhTw00, qhTw01, qhTw02, qhTw03, qhTw04, qhTw05⟩ := hTw0.c6
  obtain ⟨qhxpb0, qhxpb1, qhxpb2, qhxpb3, qhxpb4, qhxpb5⟩ := hxpb.c6
  obtain ⟨qhTg00, qhTg01, qhTg02, qhTg03, qhTg04, qhTg05⟩ := hTg0.c6
  replace hPp := hPp.drew
  replace hTw0 := hTw0.drew
  replace hxpb := hxpb.drew
  replace hTg0 := hTg0.drew
  replace opa := opa.drew
  replace otw0 := otw0.drew
  replace opb := opb.drew
  replace otg0 := otg0.drew
  replace hX := hX.drew
  go_wp2_with fail
  go_region_held3 (fun w' => w'.cell? ⟨w.heap.size, 0, none⟩ = some (.slice p.p.x.A p.p.x.n p.p.x.c) ∧ w'.cell? ⟨w.heap.size, 1, none⟩ = some (.slice p.p.y.A p.p.y.n p.p.y.c) ∧ w'.cell? ⟨w.heap.size, 2, none⟩ = some (.slice p.p.z.A p.p.z.n p.p.z.c) ∧ w'.cell? ⟨w.heap.size, 3, none⟩ = some (.slice p.s.A p.s.n p.s.c) ∧ w'.cell? ⟨w.heap.size, 4, none⟩ = some (.int .i64 p.t) ∧ w'.cell? ⟨w.heap.size, 5, none⟩ = some (.int .i64 p.q) ∧ w'.cell? ⟨w4.heap.size, 0, none⟩ = some (.slice pb.p.x.A pb.p.x.n pb.p.x.c) ∧ w'.cell? ⟨w4.heap.size, 1, none⟩ = some (.slice pb.p.y.A pb.p.y.n pb.p.y.c) ∧ w'.cell? ⟨w4.heap.size, 2, none⟩ = some (.slice pb.p.z.A pb.p.z.n pb.p.z.c) ∧ w'.cell? ⟨w4.heap.size, 3, none⟩ = some (.slice pb.s.A pb.s.n pb.s.c) ∧ w'.cell? ⟨w4.heap.size, 4, none⟩ = some (.int .i64 pb.t) ∧ w'.cell? ⟨w4.heap.size, 5, none⟩ = some (.int .i64 pb.q)) (first | exact kk2.2 | exact kk1.2 | go_keep) (first | (go_at_call 13; refine (toSelection_any p l _ (rp.ext hX)).mono ?_; rintro e w7 ⟨pbc, rfl, opbc, hx⟩; replace hX := hX.trans hx; have z7 : w6.heap.size ≤ w7.heap.size := (by have := hx.size; simpa using this); replace hPp := hPp.ext hx; replace hTw0 := hTw0.ext hx; replace hxpb := hxpb.ext hx; replace hTg0 := hTg0.ext hx; replace opa := opa.ext hx; replace otw0 := otw0.ext hx; replace opb := opb.ext hx; replace otg0 := otg0.ext hx; have kk1 := And.intro trivial (show w7.cell? ⟨w.heap.size, 0, none⟩ = some (.slice p.p.x.A p.p.x.n p.p.x.c) ∧ w7.cell? ⟨w.heap.size, 1, none⟩ = some (.slice p.p.y.A p.p.y.n p.p.y.c) ∧ w7.cell? ⟨w.heap.size, 2, none⟩ = some (.slice p.p.z.A p.p.z.n p.p.z.c) ∧ w7.cell? ⟨w.heap.size, 3, none⟩ = some (.slice p.s.A p.s.n p.s.c) ∧ w7.cell? ⟨w.heap.size, 4, none⟩ = some (.int .i64 p.t) ∧ w7.cell? ⟨w.heap.size, 5, none⟩ = some (.int .i64 p.q) ∧ w7.cell? ⟨w4.heap.size, 0, none⟩ = some (.slice pb.p.x.A pb.p.x.n pb.p.x.c) ∧ w7.cell? ⟨w4.heap.size, 1, none⟩ = some (.slice pb.p.y.A pb.p.y.n pb.p.y.c) ∧ w7.cell? ⟨w4.heap.size, 2, none⟩ = some (.slice pb.p.z.A pb.p.z.n pb.p.z.c) ∧ w7.cell? ⟨w4.heap.size, 3, none⟩ = some (.slice pb.s.A pb.s.n pb.s.c) ∧ w7.cell? ⟨w4.heap.size, 4, none⟩ = some (.int .i64 pb.t) ∧ w7.cell? ⟨w4.heap.size, 5, none⟩ = some (.int .i64 pb.q) from ⟨hPp.c6.1, hPp.c6.2.1, hPp.c6.2.2.1, hPp.c6.2.2.2.1, hPp.c6.2.2.2.2.1, hPp.c6.2.2.2.2.2, hxpb.c6.1, hxpb.c6.2.1, hxpb.c6.2.2.1, hxpb.c6.2.2.2.1, hxpb.c6.2.2.2.2.1, hxpb.c6.2.2.2.2.2⟩); clear hx) | (go_at_call 15; refine (eqSelection_yes pb pbc _ _ opb.rd opbc.rd).mono ?_; rintro e w8 ⟨rfl, hx⟩; replace hX := hX.trans hx; have z8 : w7.heap.size ≤ w8.heap.size := (by have := hx.size; simpa using this); replace hPp := hPp.ext hx; replace hTw0 := hTw0.ext hx; replace hxpb := hxpb.ext hx; replace hTg0 := hTg0.ext hx; replace opa := opa.ext hx; replace otw0 := otw0.ext hx; replace opb := opb.ext hx; replace otg0 := otg0.ext hx; have kk2 := And.intro trivial (show w8.cell? ⟨w.heap.size, 0, none⟩ = some (.slice p.p.x.A p.p.x.n p.p.x.c) ∧ w8.cell? ⟨w.heap.size, 1, none⟩ = some (.slice p.p.y.A p.p.y.n p.p.y.c) ∧ w8.cell? ⟨w.heap.size, 2, none⟩ = some (.slice p.p.z.A p.p.z.n p.p.z.c) ∧ w8.cell? ⟨w.heap.size, 3, none⟩ = some (.slice p.s.A p.s.n p.s.c) ∧ w8.cell? ⟨w.heap.size, 4, none⟩ = some (.int .i64 p.t) ∧ w8.cell? ⟨w.heap.size, 5, none⟩ = some (.int .i64 p.q) ∧ w8.cell? ⟨w4.heap.size, 0, none⟩ = some (.slice pb.p.x.A pb.p.x.n pb.p.x.c) ∧ w8.cell? ⟨w4.heap.size, 1, none⟩ = some (.slice pb.p.y.A pb.p.y.n pb.p.y.c) ∧ w8.cell? ⟨w4.heap.size, 2, none⟩ = some (.slice pb.p.z.A pb.p.z.n pb.p.z.c) ∧ w8.cell? ⟨w4.heap.size, 3, none⟩ = some (.slice pb.s.A pb.s.n pb.s.c) ∧ w8.cell? ⟨w4.heap.size, 4, none⟩ = some (.int .i64 pb.t) ∧ w8.cell? ⟨w4.heap.size, 5, none⟩ = some (.int .i64 pb.q) from ⟨hPp.c6.1, hPp.c6.2.1, hPp.c6.2.2.1, hPp.c6.2.2.2.1, hPp.c6.2.2.2.2.1, hPp.c6.2.2.2.2.2, hxpb.c6.1, hxpb.c6.2.1, hxpb.c6.2.2.1, hxpb.c6.2.2.2.1, hxpb.c6.2.2.2.2.1, hxpb.c6.2.2.2.2.2⟩); clear hx))
  clear kk1 kk2
  clear qhPp0 qhPp1 qhPp2 qhPp3 qhPp4 qhPp5 qhTw00 qhTw01 qhTw02 qhTw03 qhTw04 qhTw05 qhxpb0 qhxpb1 qhxpb2 qhxpb3 qhxpb4 qhxpb5 qhTg00 qhTg01 qhTg02 qhTg03 qhTg04 qhTg05
  obtain ⟨qhPp0, qhPp1, qhPp2, qhPp3, qhPp4, qhPp5⟩ := hPp.c6
  obtain ⟨qhTw00, qhTw01, qhTw02, qhTw03, qhTw04, qhTw05⟩ := hTw0.c6
  obtain ⟨qhxpb0, qhxpb1, qhxpb2, qhxpb3, qhxpb4, qhxpb5⟩ := hxpb.c6
  obtain ⟨qhTg00, qhTg01, qhTg02, qhTg03, qhTg04, qhTg05⟩ := hTg0.c6
  -- what came in is marked: the result is its own
  have leopb := lenS_le opb
  go_wp2_with fail
  refine (markSelection_any pb _ _ 1 _ opb (by omega) (by omega)).mono ?_
  rintro e w9 ⟨rfl, opb', hf⟩
  clear qhPp0 qhPp1 qhPp2 qhPp3 qhPp4 qhPp5 qhTw00 qhTw01 qhTw02 qhTw03 qhTw04 qhTw05 qhxpb0 qhxpb1 qhxpb2 qhxpb3 qhxpb4 qhxpb5 qhTg00 qhTg01 qhTg02 qhTg03 qhTg04 qhTg05
  replace hX := hX.fr_trans hf (fun k hk => by have := rgopb k hk; omega)
  have z9 : w8.heap.size ≤ w9.heap.size := by have := hf.size; simpa using this
  replace hPp := hPp.fr hf (fun hk => by have := rgopb _ hk; omega)
  replace hTw0 := hTw0.fr hf (fun hk => by have := rgopb _ hk; omega)
  replace hxpb := hxpb.fr hf (fun hk => by have := rgopb _ hk; omega)
  replace hTg0 := hTg0.fr hf (fun hk => by have := rgopb _ hk; omega)
  replace opa := opa.fr hf (fun k h1 h2 => by have a1 := rgopa k h1; have a2 := rgopb k h2; omega)
  replace otw0 := otw0.fr hf (fun k h1 h2 => by have a1 := rgotw0 k h1; have a2 := rgopb k h2; omega)
  replace otg0 := otg0.fr hf (fun k h1 h2 => by have a1 := rgotg0 k h1; have a2 := rgopb k h2; omega)
  clear hf opb
  have opb := opb'
  clear opb'
  obtain ⟨qhPp0, qhPp1, qhPp2, qhPp3, qhPp4, qhPp5⟩ := hPp.c6
  obtain ⟨qhTw00, qhTw01, qhTw02, qhTw03, qhTw04, qhTw05⟩ := hTw0.c6
  obtain ⟨qhxpb0, qhxpb1, qhxpb2, qhxpb3, qhxpb4, qhxpb5⟩ := hxpb.c6
  obtain ⟨qhTg00, qhTg01, qhTg02, qhTg03, qhTg04, qhTg05⟩ := hTg0.c6
  go_wp2_with fail
  refine (eqSelection_yes tg0 tw0 _ _ otg0.rd otw0.rd).mono ?_
  rintro e w10 ⟨rfl, hx⟩
  clear qhPp0 qhPp1 qhPp2 qhPp3 qhPp4 qhPp5 qhTw00 qhTw01 qhTw02 qhTw03 qhTw04 qhTw05 qhxpb0 qhxpb1 qhxpb2 qhxpb3 qhxpb4 qhxpb5 qhTg00 qhTg01 qhTg02 qhTg03 qhTg04 qhTg05
  replace hX := hX.trans hx
  have z10 : w9.heap.size ≤ w10.heap.size := (by have := hx.size; simpa using this)
  replace hPp := hPp.ext hx
  replace hTw0 := hTw0.ext hx
  replace hxpb := hxpb.ext hx
  replace hTg0 := hTg0.ext hx
  replace opa := opa.ext hx
  replace otw0 := otw0.ext hx
  replace opb := opb.ext hx
  replace otg0 := otg0.ext hx
  clear hx
  obtain ⟨qhPp0, qhPp1, qhPp2, qhPp3, qhPp4, qhPp5⟩ := hPp.c6
  obtain ⟨qhTw00, qhTw01, qhTw02, qhTw03, qhTw04, qhTw05⟩ := hTw0.c6
  obtain ⟨qhxpb0, qhxpb1, qhxpb2, qhxpb3, qhxpb4, qhxpb5⟩ := hxpb.c6
  obtain ⟨qhTg00, qhTg01, qhTg02, qhTg03, qhTg04, qhTg05⟩ := hTg0.c6
  have leotg0 := lenS_le otg0
  go_wp2_with fail
  refine (markSelection_any tg0 _ _ 1 _ otg0 (by omega) (by omega)).mono ?_
  rintro e w11 ⟨rfl, otg0', hf⟩
  clear qhPp0 qhPp1 qhPp2 qhPp3 qhPp4 qhPp5 qhTw00 qhTw01 qhTw02 qhTw03 qhTw04 qhTw05 qhxpb0 qhxpb1 qhxpb2 qhxpb3 qhxpb4 qhxpb5 qhTg00 qhTg01 qhTg02 qhTg03 qhTg04 qhTg05
  replace hX := hX.fr_trans hf (fun k hk => by have := rgotg0 k hk; omega)
  have z11 : w10.heap.size ≤ w11.heap.size := by have := hf.size; simpa using this
  replace hPp := hPp.fr hf (fun hk => by have := rgotg0 _ hk; omega)
  replace hTw0 := hTw0.fr hf (fun hk => by have := rgotg0 _ hk; omega)
  replace hxpb := hxpb.fr hf (fun hk => by have := rgotg0 _ hk; omega)
  replace hTg0 := hTg0.fr hf (fun hk => by have := rgotg0 _ hk; omega)
  replace opa := opa.fr hf (fun k h1 h2 => by have a1 := rgopa k h1; have a2 := rgotg0 k h2; omega)
  replace otw0 := otw0.fr hf (fun k h1 h2 => by have a1 := rgotw0 k h1; have a2 := rgotg0 k h2; omega)
  replace opb := opb.fr hf (fun k h1 h2 => by have a1 := rgopb k h1; have a2 := rgotg0 k h2; omega)
  clear hf otg0
  have otg0 := otg0'
  clear otg0'
  obtain ⟨qhPp0, qhPp1, qhPp2, qhPp3, qhPp4, qhPp5⟩ := hPp.c6
  obtain ⟨qhTw00, qhTw01, qhTw02, qhTw03, qhTw04, qhTw05⟩ := hTw0.c6
  obtain ⟨qhxpb0, qhxpb1, qhxpb2, qhxpb3, qhxpb4, qhxpb5⟩ := hxpb.c6
  obtain ⟨qhTg00, qhTg01, qhTg02, qhTg03, qhTg04, qhTg05⟩ := hTg0.c6
  go_wp2_with fail
  refine (heldSelection_any tg0 1 _ otg0.rd (by omega) (by omega)).mono ?_
  rintro e w12 ⟨rfl, hx⟩
  clear qhPp0 qhPp1 qhPp2 qhPp3 qhPp4 qhPp5 qhTw00 qhTw01 qhTw02 qhTw03 qhTw04 qhTw05 qhxpb0 qhxpb1 qhxpb2 qhxpb3 qhxpb4 qhxpb5 qhTg00 qhTg01 qhTg02 qhTg03 qhTg04 qhTg05
  replace hX := hX.trans hx
  have z12 : w11.heap.size ≤ w12.heap.size := (by have := hx.size; simpa using this)
  replace hPp := hPp.ext hx
  replace hTw0 := hTw0.ext hx
  replace hxpb := hxpb.ext hx
  replace hTg0 := hTg0.ext hx
  replace opa := opa.ext hx
  replace otw0 := otw0.ext hx
  replace opb := opb.ext hx
  replace otg0 := otg0.ext hx
  clear hx
  obtain ⟨qhPp0, qhPp1, qhPp2, qhPp3, qhPp4, qhPp5⟩ := hPp.c6
  obtain ⟨qhTw00, qhTw01, qhTw02, qhTw03, qhTw04, qhTw05⟩ := hTw0.c6
  obtain ⟨qhxpb0, qhxpb1, qhxpb2, qhxpb3, qhxpb4, qhxpb5⟩ := hxpb.c6
  obtain ⟨qhTg00, qhTg01, qhTg02, qhTg03, qhTg04, qhTg05⟩ := hTg0.c6
  go_wp2_with fail
  refine (toSelection_any p l _ (rp.ext hX)).mono ?_
  rintro e w13 ⟨pd, rfl, opd, hx⟩
  clear qhPp0 qhPp1 qhPp2 qhPp3 qhPp4 qhPp5 qhTw00 qhTw01 qhTw02 qhTw03 qhTw04 qhTw05 qhxpb0 qhxpb1 qhxpb2 qhxpb3 qhxpb4 qhxpb5 qhTg00 qhTg01 qhTg02 qhTg03 qhTg04 qhTg05
  replace hX := hX.trans hx
  have z13 : w12.heap.size ≤ w13.heap.size := (by have := hx.size; simpa using this)
  replace hPp := hPp.ext hx
  replace hTw0 := hTw0.ext hx
  replace hxpb := hxpb.ext hx
  replace hTg0 := hTg0.ext hx
  replace opa := opa.ext hx
  replace otw0 := otw0.ext hx
  replace opb := opb.ext hx
  replace otg0 := otg0.ext hx
  have rgopd : ∀ k, blksS pd k → w12.heap.size ≤ k ∧ k < w13.heap.size := fun k hk => by have := opd.lt hk; simpa using this
  clear hx
  obtain ⟨qhPp0, qhPp1, qhPp2, qhPp3, qhPp4, qhPp5⟩ := hPp.c6
  obtain ⟨qhTw00, qhTw01, qhTw02, qhTw03, qhTw04, qhTw05⟩ := hTw0.c6
  obtain ⟨qhxpb0, qhxpb1, qhxpb2, qhxpb3, qhxpb4, qhxpb5⟩ := hxpb.c6
  obtain ⟨qhTg00, qhTg01, qhTg02, qhTg03, qhTg04, qhTg05⟩ := hTg0.c6
  go_wp2_with fail
  refine (impl.PassTurn_any pd l _ opd.rd ).mono ?_
  rintro e w14 ⟨th0, rfl, oth0, hx⟩
  clear qhPp0 qhPp1 qhPp2 qhPp3 qhPp4 qhPp5 qhTw00 qhTw01 qhTw02 qhTw03 qhTw04 qhTw05 qhxpb0 qhxpb1 qhxpb2 qhxpb3 qhxpb4 qhxpb5 qhTg00 qhTg01 qhTg02 qhTg03 qhTg04 qhTg05
  replace hX := hX.trans hx
  have z14 : w13.heap.size ≤ w14.heap.size := (by have := hx.size; simpa using this)
  replace hPp := hPp.ext hx
  replace hTw0 := hTw0.ext hx
  replace hxpb := hxpb.ext hx
  replace hTg0 := hTg0.ext hx
  replace opa := opa.ext hx
  replace otw0 := otw0.ext hx
  replace opb := opb.ext hx
  replace otg0 := otg0.ext hx
  replace opd := opd.ext hx
  have rgoth0 : ∀ k, blksS th0 k → w13.heap.size ≤ k ∧ k < w14.heap.size := fun k hk => by have := oth0.lt hk; simpa using this
  clear hx
  have hTh0 := Blk.new w14 31 (#[.slice th0.p.x.A th0.p.x.n th0.p.x.c, .slice th0.p.y.A th0.p.y.n th0.p.y.c, .slice th0.p.z.A th0.p.z.n th0.p.z.c, .slice th0.s.A th0.s.n th0.s.c, .int .i64 th0.t, .int .i64 th0.q])
  replace hPp := hPp.alloc (.cells #[.slice th0.p.x.A th0.p.x.n th0.p.x.c, .slice th0.p.y.A th0.p.y.n th0.p.y.c, .slice th0.p.z.A th0.p.z.n th0.p.z.c, .slice th0.s.A th0.s.n th0.s.c, .int .i64 th0.t, .int .i64 th0.q] 31)
  replace hTw0 := hTw0.alloc (.cells #[.slice th0.p.x.A th0.p.x.n th0.p.x.c, .slice th0.p.y.A th0.p.y.n th0.p.y.c, .slice th0.p.z.A th0.p.z.n th0.p.z.c, .slice th0.s.A th0.s.n th0.s.c, .int .i64 th0.t, .int .i64 th0.q] 31)
  replace hxpb := hxpb.alloc (.cells #[.slice th0.p.x.A th0.p.x.n th0.p.x.c, .slice th0.p.y.A th0.p.y.n th0.p.y.c, .slice th0.p.z.A th0.p.z.n th0.p.z.c, .slice th0.s.A th0.s.n th0.s.c, .int .i64 th0.t, .int .i64 th0.q] 31)
  replace hTg0 := hTg0.alloc (.cells #[.slice th0.p.x.A th0.p.x.n th0.p.x.c, .slice th0.p.y.A th0.p.y.n th0.p.y.c, .slice th0.p.z.A th0.p.z.n th0.p.z.c, .slice th0.s.A th0.s.n th0.s.c, .int .i64 th0.t, .int .i64 th0.q] 31)
  replace opa := opa.alloc (.cells #[.slice th0.p.x.A th0.p.x.n th0.p.x.c, .slice th0.p.y.A th0.p.y.n th0.p.y.c, .slice th0.p.z.A th0.p.z.n th0.p.z.c, .slice th0.s.A th0.s.n th0.s.c, .int .i64 th0.t, .int .i64 th0.q] 31)
  replace otw0 := otw0.alloc (.cells #[.slice th0.p.x.A th0.p.x.n th0.p.x.c, .slice th0.p.y.A th0.p.y.n th0.p.y.c, .slice th0.p.z.A th0.p.z.n th0.p.z.c, .slice th0.s.A th0.s.n th0.s.c, .int .i64 th0.t, .int .i64 th0.q] 31)
  replace opb := opb.alloc (.cells #[.slice th0.p.x.A th0.p.x.n th0.p.x.c, .slice th0.p.y.A th0.p.y.n th0.p.y.c, .slice th0.p.z.A th0.p.z.n th0.p.z.c, .slice th0.s.A th0.s.n th0.s.c, .int .i64 th0.t, .int .i64 th0.q] 31)
  replace otg0 := otg0.alloc (.cells #[.slice th0.p.x.A th0.p.x.n th0.p.x.c, .slice th0.p.y.A th0.p.y.n th0.p.y.c, .slice th0.p.z.A th0.p.z.n th0.p.z.c, .slice th0.s.A th0.s.n th0.s.c, .int .i64 th0.t, .int .i64 th0.q] 31)
  replace opd := opd.alloc (.cells #[.slice th0.p.x.A th0.p.x.n th0.p.x.c, .slice th0.p.y.A th0.p.y.n th0.p.y.c, .slice th0.p.z.A th0.p.z.n th0.p.z.c, .slice th0.s.A th0.s.n th0.s.c, .int .i64 th0.t, .int .i64 th0.q] 31)
  replace oth0 := oth0.alloc (.cells #[.slice th0.p.x.A th0.p.x.n th0.p.x.c, .slice th0.p.y.A th0.p.y.n th0.p.y.c, .slice th0.p.z.A th0.p.z.n th0.p.z.c, .slice th0.s.A th0.s.n th0.s.c, .int .i64 th0.t, .int .i64 th0.q] 31)
  replace hX := hX.alloc (.cells #[.slice th0.p.x.A th0.p.x.n th0.p.x.c, .slice th0.p.y.A th0.p.y.n th0.p.y.c, .slice th0.p.z.A th0.p.z.n th0.p.z.c, .slice th0.s.A th0.s.n th0.s.c, .int .i64 th0.t, .int .i64 th0.q] 31)
  obtain ⟨qhPp0, qhPp1, qhPp2, qhPp3, qhPp4, qhPp5⟩ := hPp.c6
  obtain ⟨qhTw00, qhTw01, qhTw02, qhTw03, qhTw04, qhTw05⟩ := hTw0.c6
  obtain ⟨qhxpb0, qhxpb1, qhxpb2, qhxpb3, qhxpb4, qhxpb5⟩ := hxpb.c6
  obtain ⟨qhTg00, qhTg01, qhTg02, qhTg03, qhTg04, qhTg05⟩ := hTg0.c6
  obtain ⟨qhTh00, qhTh01, qhTh02, qhTh03, qhTh04, qhTh05⟩ := hTh0.c6
  go_wp2_with fail
  refine (eqSelection_yes th0 tw0 _ _ oth0.rd otw0.rd).mono ?_
  rintro e w15 ⟨rfl, hx⟩
  clear qhPp0 qhPp1 qhPp2 qhPp3 qhPp4 qhPp5 qhTw00 qhTw01 qhTw02 qhTw03 qhTw04 qhTw05 qhxpb0 qhxpb1 qhxpb2 qhxpb3 qhxpb4 qhxpb5 qhTg00 qhTg01 qhTg02 qhTg03 qhTg04 qhTg05 qhTh00 qhTh01 qhTh02 qhTh03 qhTh04 qhTh05
  replace hX := hX.trans hx
  have z15 : w14.heap.size + 1 ≤ w15.heap.size := (by have := hx.size; simpa using this)
  replace hPp := hPp.ext hx
  replace hTw0 := hTw0.ext hx
  replace hxpb := hxpb.ext hx
  replace hTg0 := hTg0.ext hx
  replace hTh0 := hTh0.ext hx
  replace opa := opa.ext hx
  replace otw0 := otw0.ext hx
  replace opb := opb.ext hx
  replace otg0 := otg0.ext hx
  replace opd := opd.ext hx
  replace oth0 := oth0.ext hx
  clear hx
  obtain ⟨qhPp0, qhPp1, qhPp2, qhPp3, qhPp4, qhPp5⟩ := hPp.c6
  obtain ⟨qhTw00, qhTw01, qhTw02, qhTw03, qhTw04, qhTw05⟩ := hTw0.c6
  obtain ⟨qhxpb0, qhxpb1, qhxpb2, qhxpb3, qhxpb4, qhxpb5⟩ := hxpb.c6
  obtain ⟨qhTg00, qhTg01, qhTg02, qhTg03, qhTg04, qhTg05⟩ := hTg0.c6
  obtain ⟨qhTh00, qhTh01, qhTh02, qhTh03, qhTh04, qhTh05⟩ := hTh0.c6
  go_wp2_with fail
  refine (heldSelection_any tg0 1 _ otg0.rd (by omega) (by omega)).mono ?_
  rintro e w16 ⟨rfl, hx⟩
  clear qhPp0 qhPp1 qhPp2 qhPp3 qhPp4 qhPp5 qhTw00 qhTw01 qhTw02 qhTw03 qhTw04 qhTw05 qhxpb0 qhxpb1 qhxpb2 qhxpb3 qhxpb4 qhxpb5 qhTg00 qhTg01 qhTg02 qhTg03 qhTg04 qhTg05 qhTh00 qhTh01 qhTh02 qhTh03 qhTh04 qhTh05
  replace hX := hX.trans hx
  have z16 : w15.heap.size ≤ w16.heap.size := (by have := hx.size; simpa using this)
  replace hPp := hPp.ext hx
  replace hTw0 := hTw0.ext hx
  replace hxpb := hxpb.ext hx
  replace hTg0 := hTg0.ext hx
  replace hTh0 := hTh0.ext hx
  replace opa := opa.ext hx
  replace otw0 := otw0.ext hx
  replace opb := opb.ext hx
  replace otg0 := otg0.ext hx
  replace opd := opd.ext hx
  replace oth0 := oth0.ext hx
  clear hx
  obtain ⟨qhPp0, qhPp1, qhPp2, qhPp3, qhPp4, qhPp5⟩ := hPp.c6
  obtain ⟨qhTw00, qhTw01, qhTw02, qhTw03, qhTw04, qhTw05⟩ := hTw0.c6
  obtain ⟨qhxpb0, qhxpb1, qhxpb2, qhxpb3, qhxpb4, qhxpb5⟩ := hxpb.c6
  obtain ⟨qhTg00, qhTg01, qhTg02, qhTg03, qhTg04, qhTg05⟩ := hTg0.c6
  obtain ⟨qhTh00, qhTh01, qhTh02, qhTh03, qhTh04, qhTh05⟩ := hTh0.c6
  go_wp2
  go_ret
  exact ⟨rfl, hX⟩
theorem own_PassTurn : ownKnob Try.prog.godebug = none := by kernel_rfl
set_option maxRecDepth 100000 in
theorem lifted_PassTurn (os : Os) (started : os.Started) (H : Type) (enc : TypeId × Value → H) :
    ReturnsInHanded {} Try.checked os 7 .any (Rows.fnExactPassTurnSpec.pre6 enc Try.prog Try.f7 Rows.fnExactPassTurnRow.domain false) (Rows.fnExactPassTurnSpec.post enc Try.prog Try.f7 false true false false) := by
  refine returnsInHanded_of_change (C := Try.checked) own_PassTurn started (by kernel_rfl) Try.func7
    (ChangeSpec.witness6 (enc := enc) (C := Try.checked) false ⟨#[], #[.agg #[.slice none 0 0, .slice none 0 0, .slice none 0 0, .slice none 0 0, .int .i64 0, .int .i64 0]], []⟩ 8 (by kernel_rfl) (by kernel_rfl) (by kernel_rfl) (by kernel_rfl)) ?_
  intro W base args ds gs before hval0 hW hcnd _
  have hval : ∀ (j : Nat) t v, Try.f7.params[j]? = some t → args[j]? = some v → Value.okWide Try.prog W .any base t v := hval0
  have hW' := hW
  obtain ⟨p, q, hA0, hV, rfl, hfz, hnd⟩ := hW
  have hA : DataW.TrodAll enc Try.prog W 0 (fun _ => true) true Try.f7.params.toList args.toList ds p := hA0
  rw [Try.params7] at hA hval
  obtain ⟨v0, vs0, d0, ds0, p0, q0, hargs, rfl, rfl, h0, r0⟩ := trodAll_cons hA
  obtain ⟨rfl, rfl, rfl⟩ := trodAll_nil r0
  obtain rfl : args = #[v0] := by cases args; simp_all
  obtain ⟨rfl, rfl⟩ := trodVars_none hV
  have k0 := h0
  have lt0 : ∀ x ∈ p0, x.block < W.heap.size := by obtain ⟨m, hm⟩ := k0; exact DataW.trod_lt m _ _ _ hm
  obtain ⟨s0, x0, rfl, i0⟩ := open_Selection (hval 0 26 v0 rfl rfl) h0 (fun _ => rfl)
  clear hA0 hval0
  refine (law_PassTurn s0 x0 W i0).mono fun e W' ⟨he, bel⟩ => ?_
  subst he
  exact ⟨_, rfl, _, _, _, [], _, [], hW', trodAll_mk1 (shut_bool Try.underlying4 _), (trodAll_cons_mk (Below.trod laidOut (by kernel_rfl) (of_decide_eq_true (by kernel_rfl)) k0 bel lt0) trodAll_mk0), rfl, Below.frame bel _, fun h => by cases h⟩
theorem over_PassTurn : Rows.fnExactPassTurnRow.holds Try.pinned (OpenSpec.ofChange Rows.fnExactPassTurnSpec) :=
  OpenClaim.holds_of_wide 7 Try.f7 rfl rfl rfl rfl rfl rfl rfl ⟨rfl, rfl, rfl, rfl, rfl⟩ rfl rfl rfl rfl rfl (by kernel_rfl) Try.func7 (by kernel_rfl)
    (of_decide_eq_true (by kernel_rfl)) (by unfold Func.isWrapper; first | (rw [if_pos (by decide +kernel)]; kernel_rfl) | (rw [if_neg (by decide +kernel)]; exact ⟨rfl, rfl⟩))
    (fun os started H enc _ => lifted_PassTurn os started H enc)
/-- the statement -/
theorem proved_PassTurn : Rows.FnExactPassTurnSaid := over_PassTurn
#print axioms proved_PassTurn
end Go.Proofs.Ytkgfkgeklfeklaa.mem
