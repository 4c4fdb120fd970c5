/-
  The law FnExactLeaveJury holds of the given program for every input: it returns true, and each argument reads as it did.
-/
import Derived.Test.YtfbpjbnldpcbeaaOpen
import Derived.Test.YtfbpjbnldpcbeaaLeave
namespace Go.Proofs.Ytfbpjbnldpcbeaa.mem
open Go.ChangeShapes Go.WideShapes Go.ChangeAt Go.RowKit
set_option linter.unusedVariables false
set_option maxHeartbeats 4000000 in
theorem law_LeaveJury (p : S3) (l : L3) (x : Int) (w : World) (ip : In3 w p l) (bx : -9223372036854775808 ≤ x ∧ x ≤ 9223372036854775807) :
    Calls Try.prog 3 #[.agg #[.slice p.x.A p.x.n p.x.c, .slice p.y.A p.y.n p.y.c, .slice p.z.A p.z.n p.z.c], .int .i64 x] w fun e w' => e = .returned (.bool true) ∧ Ext w w' := by
  have hX := Ext.refl w
  have hPp := Blk.new w 24 (#[.slice p.x.A p.x.n p.x.c, .slice p.y.A p.y.n p.y.c, .slice p.z.A p.z.n p.z.c])
  replace hX := hX.alloc (.cells #[.slice p.x.A p.x.n p.x.c, .slice p.y.A p.y.n p.y.c, .slice p.z.A p.z.n p.z.c] 24)
  by_cases hsp : 0 ≤ sz3 1048576 p
  case neg =>
    go_enter Try.func3, Try.ntmps3
    obtain ⟨qhPp0, qhPp1, qhPp2⟩ := hPp.c3
    go_wp2_with fail
    refine (szJury_any p _ _ (by omega) (by omega) ip.1.max ip.2.1.max ip.2.2.max).mono ?_
    rintro e w1 ⟨rfl, hx⟩
    clear qhPp0 qhPp1 qhPp2
    replace hX := hX.trans hx
    have z1 : w.heap.size + 1 ≤ w1.heap.size := (by have := hx.size; simpa using this)
    replace hPp := hPp.ext hx
    clear hx
    obtain ⟨qhPp0, qhPp1, qhPp2⟩ := hPp.c3
    go_wp2
    go_ret
    exact ⟨rfl, hX⟩
  have rp := ip.rds hsp (by omega)
  have hlp := (sz3_pos hsp (by omega)).2
  go_enter Try.func3, Try.ntmps3
  obtain ⟨qhPp0, qhPp1, qhPp2⟩ := hPp.c3
  go_wp2_with fail
  refine (szJury_any p _ _ (by omega) (by omega) ip.1.max ip.2.1.max ip.2.2.max).mono ?_
  rintro e w1 ⟨rfl, hx⟩
  clear qhPp0 qhPp1 qhPp2
  replace hX := hX.trans hx
  have z1 : w.heap.size + 1 ≤ w1.heap.size := (by have := hx.size; simpa using this)
  replace hPp := hPp.ext hx
  clear hx
  obtain ⟨qhPp0, qhPp1, qhPp2⟩ := hPp.c3
  go_wp2_with fail
  refine (toJury_any p l _ (rp.ext hX)).mono ?_
  rintro e w2 ⟨pa, rfl, opa, hx⟩
  clear qhPp0 qhPp1 qhPp2
  replace hX := hX.trans hx
  have z2 : w1.heap.size ≤ w2.heap.size := (by have := hx.size; simpa using this)
  replace hPp := hPp.ext hx
  have rgopa : ∀ k, blks pa k → w1.heap.size ≤ k ∧ k < w2.heap.size := (fun k hk => by have := opa.lt hk; simpa using this)
  clear hx
  obtain ⟨qhPp0, qhPp1, qhPp2⟩ := hPp.c3
  go_wp2_with fail
  refine (spec.LeaveJury_any pa l x _ opa.rd ).mono ?_
  rintro e w3 ⟨tw0, rfl, otw0, hx⟩
  clear qhPp0 qhPp1 qhPp2
  replace hX := hX.trans hx
  have z3 : w2.heap.size ≤ w3.heap.size := (by have := hx.size; simpa using this)
  replace hPp := hPp.ext hx
  replace opa := opa.ext hx
  have rgotw0 : ∀ k, blks tw0 k → w2.heap.size ≤ k ∧ k < w3.heap.size := (fun k hk => by have := otw0.lt hk; simpa using this)
  clear hx
  have hTw0 := Blk.new w3 26 (#[.slice tw0.x.A tw0.x.n tw0.x.c, .slice tw0.y.A tw0.y.n tw0.y.c, .slice tw0.z.A tw0.z.n tw0.z.c])
  replace hPp := hPp.alloc (.cells #[.slice tw0.x.A tw0.x.n tw0.x.c, .slice tw0.y.A tw0.y.n tw0.y.c, .slice tw0.z.A tw0.z.n tw0.z.c] 26)
  replace opa := opa.alloc (.cells #[.slice tw0.x.A tw0.x.n tw0.x.c, .slice tw0.y.A tw0.y.n tw0.y.c, .slice tw0.z.A tw0.z.n tw0.z.c] 26)
  replace otw0 := otw0.alloc (.cells #[.slice tw0.x.A tw0.x.n tw0.x.c, .slice tw0.y.A tw0.y.n tw0.y.c, .slice tw0.z.A tw0.z.n tw0.z.c] 26)
  replace hX := hX.alloc (.cells #[.slice tw0.x.A tw0.x.n tw0.x.c, .slice tw0.y.A tw0.y.n tw0.y.c, .slice tw0.z.A tw0.z.n tw0.z.c] 26)
  obtain ⟨qhPp0, qhPp1, qhPp2⟩ := hPp.c3
  obtain ⟨qhTw00, qhTw01, qhTw02⟩ := hTw0.c3
  go_wp2_with fail
  refine (toJury_any p l _ (rp.ext hX)).mono ?_
  rintro e w4 ⟨pb, rfl, opb, hx⟩
  clear qhPp0 qhPp1 qhPp2 qhTw00 qhTw01 qhTw02
  replace hX := hX.trans hx
  have z4 : w3.heap.size + 1 ≤ w4.heap.size := (by have := hx.size; simpa using this)
  replace hPp := hPp.ext hx
  replace hTw0 := hTw0.ext hx
  replace opa := opa.ext hx
  replace otw0 := otw0.ext hx
  have rgopb : ∀ k, blks pb k → w3.heap.size + 1 ≤ k ∧ k < w4.heap.size := (fun k hk => by have := opb.lt hk; simpa using this)
  clear hx
  have hxpb := Blk.new w4 26 (#[.slice pb.x.A pb.x.n pb.x.c, .slice pb.y.A pb.y.n pb.y.c, .slice pb.z.A pb.z.n pb.z.c])
  replace hPp := hPp.alloc (.cells #[.slice pb.x.A pb.x.n pb.x.c, .slice pb.y.A pb.y.n pb.y.c, .slice pb.z.A pb.z.n pb.z.c] 26)
  replace hTw0 := hTw0.alloc (.cells #[.slice pb.x.A pb.x.n pb.x.c, .slice pb.y.A pb.y.n pb.y.c, .slice pb.z.A pb.z.n pb.z.c] 26)
  replace opa := opa.alloc (.cells #[.slice pb.x.A pb.x.n pb.x.c, .slice pb.y.A pb.y.n pb.y.c, .slice pb.z.A pb.z.n pb.z.c] 26)
  replace otw0 := otw0.alloc (.cells #[.slice pb.x.A pb.x.n pb.x.c, .slice pb.y.A pb.y.n pb.y.c, .slice pb.z.A pb.z.n pb.z.c] 26)
  replace opb := opb.alloc (.cells #[.slice pb.x.A pb.x.n pb.x.c, .slice pb.y.A pb.y.n pb.y.c, .slice pb.z.A pb.z.n pb.z.c] 26)
  replace hX := hX.alloc (.cells #[.slice pb.x.A pb.x.n pb.x.c, .slice pb.y.A pb.y.n pb.y.c, .slice pb.z.A pb.z.n pb.z.c] 26)
  obtain ⟨qhPp0, qhPp1, qhPp2⟩ := hPp.c3
  obtain ⟨qhTw00, qhTw01, qhTw02⟩ := hTw0.c3
  obtain ⟨qhxpb0, qhxpb1, qhxpb2⟩ := hxpb.c3
  go_wp2_with fail
  refine (impl.LeaveJury_any pb l x _ opb.rd ).mono ?_
  rintro e w5 ⟨tg0, rfl, otg0, hx⟩
  clear qhPp0 qhPp1 qhPp2 qhTw00 qhTw01 qhTw02 qhxpb0 qhxpb1 qhxpb2
  replace hX := hX.trans hx
  have z5 : w4.heap.size + 1 ≤ w5.heap.size := (by have := hx.size; simpa using this)
  replace hPp := hPp.ext hx
  replace hTw0 := hTw0.ext hx
  replace hxpb := hxpb.ext hx
  replace opa := opa.ext hx
  replace otw0 := otw0.ext hx
  replace opb := opb.ext hx
  have rgotg0 : ∀ k, blks tg0 k → w4.heap.size + 1 ≤ k ∧ k < w5.heap.size := (fun k hk => by have := otg0.lt hk; simpa using this)
  clear hx
  have hTg0 := Blk.new w5 26 (#[.slice tg0.x.A tg0.x.n tg0.x.c, .slice tg0.y.A tg0.y.n tg0.y.c, .slice tg0.z.A tg0.z.n tg0.z.c])
  replace hPp := hPp.alloc (.cells #[.slice tg0.x.A tg0.x.n tg0.x.c, .slice tg0.y.A tg0.y.n tg0.y.c, .slice tg0.z.A tg0.z.n tg0.z.c] 26)
  replace hTw0 := hTw0.alloc (.cells #[.slice tg0.x.A tg0.x.n tg0.x.c, .slice tg0.y.A tg0.y.n tg0.y.c, .slice tg0.z.A tg0.z.n tg0.z.c] 26)
  replace hxpb := hxpb.alloc (.cells #[.slice tg0.x.A tg0.x.n tg0.x.c, .slice tg0.y.A tg0.y.n tg0.y.c, .slice tg0.z.A tg0.z.n tg0.z.c] 26)
  replace opa := opa.alloc (.cells #[.slice tg0.x.A tg0.x.n tg0.x.c, .slice tg0.y.A tg0.y.n tg0.y.c, .slice tg0.z.A tg0.z.n tg0.z.c] 26)
  replace otw0 := otw0.alloc (.cells #[.slice tg0.x.A tg0.x.n tg0.x.c, .slice tg0.y.A tg0.y.n tg0.y.c, .slice tg0.z.A tg0.z.n tg0.z.c] 26)
  replace opb := opb.alloc (.cells #[.slice tg0.x.A tg0.x.n tg0.x.c, .slice tg0.y.A tg0.y.n tg0.y.c, .slice tg0.z.A tg0.z.n tg0.z.c] 26)
  replace otg0 := otg0.alloc (.cells #[.slice tg0.x.A tg0.x.n tg0.x.c, .slice tg0.y.A tg0.y.n tg0.y.c, .slice tg0.z.A tg0.z.n tg0.z.c] 26)
  replace hX := hX.alloc (.cells #[.slice tg0.x.A tg0.x.n tg0.x.c, .slice tg0.y.A tg0.y.n tg0.y.c, .slice tg0.z.A tg0.z.n tg0.z.c] 26)
  obtain ⟨qhPp0, qhPp1, qhPp2⟩ := hPp.c3
  obtain ⟨qhTw00, qhTw01, qhTw02⟩ := hTw0.c3
  obtain ⟨qhxpb0, qhxpb1, qhxpb2⟩ := hxpb.c3
  obtain ⟨qhTg00, qhTg01, qhTg02⟩ := hTg0.c3
  go_wp2_with fail
  refine (eqJury_yes tg0 tw0 _ _ otg0.rd otw0.rd).mono ?_
  rintro e w6 ⟨rfl, hx⟩
  clear qhPp0 qhPp1 qhPp2 qhTw00 qhTw01 qhTw02 qhxpb0 qhxpb1 qhxpb2 qhTg00 qhTg01 qhTg02
  replace hX := hX.trans hx
  have z6 : w5.heap.size + 1 ≤ w6.heap.size := (by have := hx.size; simpa using this)
  replace hPp := hPp.ext hx
  replace hTw0 := hTw0.ext hx
  replace hxpb := hxpb.ext hx
  replace hTg0 := hTg0.ext hx
  replace opa := opa.ext hx
  replace otw0 := otw0.ext hx
  replace opb := opb.ext hx
  replace otg0 := otg0.ext hx
  clear hx
  obtain ⟨qhPp0, qhPp1, qhPp2⟩ := hPp.c3
  obtain ⟨qhTw00, qhTw01, qhTw02⟩ := hTw0.c3
  obtain ⟨qhxpb0, qhxpb1, qhxpb2⟩ := hxpb.c3
  obtain ⟨qhTg00, qhTg01, qhTg02⟩ := hTg0.c3
  replace hPp := hPp.drew
  replace hTw0 := hTw0.drew
  replace hxpb := hxpb.drew
  replace hTg0 := hTg0.drew
  replace opa := opa.drew
  replace otw0 := otw0.drew
  replace opb := opb.drew
  replace otg0 := otg0.drew
  replace hX := hX.drew
  go_wp2_with fail
  go_region_held3 (fun w' => w'.cell? ⟨w.heap.size, 0, none⟩ = some (.slice p.x.A p.x.n p.x.c) ∧ w'.cell? ⟨w.heap.size, 1, none⟩ = some (.slice p.y.A p.y.n p.y.c) ∧ w'.cell? ⟨w.heap.size, 2, none⟩ = some (.slice p.z.A p.z.n p.z.c) ∧ w'.cell? ⟨w4.heap.size, 0, none⟩ = some (.slice pb.x.A pb.x.n pb.x.c) ∧ w'.cell? ⟨w4.heap.size, 1, none⟩ = some (.slice pb.y.A pb.y.n pb.y.c) ∧ w'.cell? ⟨w4.heap.size, 2, none⟩ = some (.slice pb.z.A pb.z.n pb.z.c)) (first | exact kk2.2 | exact kk1.2 | go_keep) (first | (go_at_call 7; refine (toJury_any p l _ (rp.ext hX)).mono ?_; rintro e w7 ⟨pbc, rfl, opbc, hx⟩; replace hX := hX.trans hx; have z7 : w6.heap.size ≤ w7.heap.size := (by have := hx.size; simpa using this); replace hPp := hPp.ext hx; replace hTw0 := hTw0.ext hx; replace hxpb := hxpb.ext hx; replace hTg0 := hTg0.ext hx; replace opa := opa.ext hx; replace otw0 := otw0.ext hx; replace opb := opb.ext hx; replace otg0 := otg0.ext hx; have kk1 := And.intro trivial (show w7.cell? ⟨w.heap.size, 0, none⟩ = some (.slice p.x.A p.x.n p.x.c) ∧ w7.cell? ⟨w.heap.size, 1, none⟩ = some (.slice p.y.A p.y.n p.y.c) ∧ w7.cell? ⟨w.heap.size, 2, none⟩ = some (.slice p.z.A p.z.n p.z.c) ∧ w7.cell? ⟨w4.heap.size, 0, none⟩ = some (.slice pb.x.A pb.x.n pb.x.c) ∧ w7.cell? ⟨w4.heap.size, 1, none⟩ = some (.slice pb.y.A pb.y.n pb.y.c) ∧ w7.cell? ⟨w4.heap.size, 2, none⟩ = some (.slice pb.z.A pb.z.n pb.z.c) from ⟨hPp.c3.1, hPp.c3.2.1, hPp.c3.2.2, hxpb.c3.1, hxpb.c3.2.1, hxpb.c3.2.2⟩); clear hx) | (go_at_call 9; refine (eqJury_yes pb pbc _ _ opb.rd opbc.rd).mono ?_; rintro e w8 ⟨rfl, hx⟩; replace hX := hX.trans hx; have z8 : w7.heap.size ≤ w8.heap.size := (by have := hx.size; simpa using this); replace hPp := hPp.ext hx; replace hTw0 := hTw0.ext hx; replace hxpb := hxpb.ext hx; replace hTg0 := hTg0.ext hx; replace opa := opa.ext hx; replace otw0 := otw0.ext hx; replace opb := opb.ext hx; replace otg0 := otg0.ext hx; have kk2 := And.intro trivial (show w8.cell? ⟨w.heap.size, 0, none⟩ = some (.slice p.x.A p.x.n p.x.c) ∧ w8.cell? ⟨w.heap.size, 1, none⟩ = some (.slice p.y.A p.y.n p.y.c) ∧ w8.cell? ⟨w.heap.size, 2, none⟩ = some (.slice p.z.A p.z.n p.z.c) ∧ w8.cell? ⟨w4.heap.size, 0, none⟩ = some (.slice pb.x.A pb.x.n pb.x.c) ∧ w8.cell? ⟨w4.heap.size, 1, none⟩ = some (.slice pb.y.A pb.y.n pb.y.c) ∧ w8.cell? ⟨w4.heap.size, 2, none⟩ = some (.slice pb.z.A pb.z.n pb.z.c) from ⟨hPp.c3.1, hPp.c3.2.1, hPp.c3.2.2, hxpb.c3.1, hxpb.c3.2.1, hxpb.c3.2.2⟩); clear hx))
  clear kk1 kk2
  clear qhPp0 qhPp1 qhPp2 qhTw00 qhTw01 qhTw02 qhxpb0 qhxpb1 qhxpb2 qhTg00 qhTg01 qhTg02
  obtain ⟨qhPp0, qhPp1, qhPp2⟩ := hPp.c3
  obtain ⟨qhTw00, qhTw01, qhTw02⟩ := hTw0.c3
  obtain ⟨qhxpb0, qhxpb1, qhxpb2⟩ := hxpb.c3
  obtain ⟨qhTg00, qhTg01, qhTg02⟩ := hTg0.c3
  -- what came in is marked: the result is its own
  have leopb := len3_le opb
  go_wp2_with fail
  refine (markJury_any pb _ _ 1 _ opb (by omega) (by omega)).mono ?_
  rintro e w9 ⟨rfl, opb', hf⟩
  clear qhPp0 qhPp1 qhPp2 qhTw00 qhTw01 qhTw02 qhxpb0 qhxpb1 qhxpb2 qhTg00 qhTg01 qhTg02
  replace hX := hX.fr_trans hf (fun k hk => by have := rgopb k hk; omega)
  have z9 : w8.heap.size ≤ w9.heap.size := by have := hf.size; simpa using this
  replace hPp := hPp.fr hf (fun hk => by have := rgopb _ hk; omega)
  replace hTw0 := hTw0.fr hf (fun hk => by have := rgopb _ hk; omega)
  replace hxpb := hxpb.fr hf (fun hk => by have := rgopb _ hk; omega)
  replace hTg0 := hTg0.fr hf (fun hk => by have := rgopb _ hk; omega)
  replace opa := opa.fr hf (fun k h1 h2 => by have a1 := rgopa k h1; have a2 := rgopb k h2; omega)
  replace otw0 := otw0.fr hf (fun k h1 h2 => by have a1 := rgotw0 k h1; have a2 := rgopb k h2; omega)
  replace otg0 := otg0.fr hf (fun k h1 h2 => by have a1 := rgotg0 k h1; have a2 := rgopb k h2; omega)
  clear hf opb
  have opb := opb'
  clear opb'
  obtain ⟨qhPp0, qhPp1, qhPp2⟩ := hPp.c3
  obtain ⟨qhTw00, qhTw01, qhTw02⟩ := hTw0.c3
  obtain ⟨qhxpb0, qhxpb1, qhxpb2⟩ := hxpb.c3
  obtain ⟨qhTg00, qhTg01, qhTg02⟩ := hTg0.c3
  go_wp2_with fail
  refine (eqJury_yes tg0 tw0 _ _ otg0.rd otw0.rd).mono ?_
  rintro e w10 ⟨rfl, hx⟩
  clear qhPp0 qhPp1 qhPp2 qhTw00 qhTw01 qhTw02 qhxpb0 qhxpb1 qhxpb2 qhTg00 qhTg01 qhTg02
  replace hX := hX.trans hx
  have z10 : w9.heap.size ≤ w10.heap.size := (by have := hx.size; simpa using this)
  replace hPp := hPp.ext hx
  replace hTw0 := hTw0.ext hx
  replace hxpb := hxpb.ext hx
  replace hTg0 := hTg0.ext hx
  replace opa := opa.ext hx
  replace otw0 := otw0.ext hx
  replace opb := opb.ext hx
  replace otg0 := otg0.ext hx
  clear hx
  obtain ⟨qhPp0, qhPp1, qhPp2⟩ := hPp.c3
  obtain ⟨qhTw00, qhTw01, qhTw02⟩ := hTw0.c3
  obtain ⟨qhxpb0, qhxpb1, qhxpb2⟩ := hxpb.c3
  obtain ⟨qhTg00, qhTg01, qhTg02⟩ := hTg0.c3
  have leotg0 := len3_le otg0
  go_wp2_with fail
  refine (markJury_any tg0 _ _ 1 _ otg0 (by omega) (by omega)).mono ?_
  rintro e w11 ⟨rfl, otg0', hf⟩
  clear qhPp0 qhPp1 qhPp2 qhTw00 qhTw01 qhTw02 qhxpb0 qhxpb1 qhxpb2 qhTg00 qhTg01 qhTg02
  replace hX := hX.fr_trans hf (fun k hk => by have := rgotg0 k hk; omega)
  have z11 : w10.heap.size ≤ w11.heap.size := by have := hf.size; simpa using this
  replace hPp := hPp.fr hf (fun hk => by have := rgotg0 _ hk; omega)
  replace hTw0 := hTw0.fr hf (fun hk => by have := rgotg0 _ hk; omega)
  replace hxpb := hxpb.fr hf (fun hk => by have := rgotg0 _ hk; omega)
  replace hTg0 := hTg0.fr hf (fun hk => by have := rgotg0 _ hk; omega)
  replace opa := opa.fr hf (fun k h1 h2 => by have a1 := rgopa k h1; have a2 := rgotg0 k h2; omega)
  replace otw0 := otw0.fr hf (fun k h1 h2 => by have a1 := rgotw0 k h1; have a2 := rgotg0 k h2; omega)
  replace opb := opb.fr hf (fun k h1 h2 => by have a1 := rgopb k h1; have a2 := rgotg0 k h2; omega)
  clear hf otg0
  have otg0 := otg0'
  clear otg0'
  obtain ⟨qhPp0, qhPp1, qhPp2⟩ := hPp.c3
  obtain ⟨qhTw00, qhTw01, qhTw02⟩ := hTw0.c3
  obtain ⟨qhxpb0, qhxpb1, qhxpb2⟩ := hxpb.c3
  obtain ⟨qhTg00, qhTg01, qhTg02⟩ := hTg0.c3
  go_wp2_with fail
  refine (heldJury_any tg0 1 _ otg0.rd (by omega) (by omega)).mono ?_
  rintro e w12 ⟨rfl, hx⟩
  clear qhPp0 qhPp1 qhPp2 qhTw00 qhTw01 qhTw02 qhxpb0 qhxpb1 qhxpb2 qhTg00 qhTg01 qhTg02
  replace hX := hX.trans hx
  have z12 : w11.heap.size ≤ w12.heap.size := (by have := hx.size; simpa using this)
  replace hPp := hPp.ext hx
  replace hTw0 := hTw0.ext hx
  replace hxpb := hxpb.ext hx
  replace hTg0 := hTg0.ext hx
  replace opa := opa.ext hx
  replace otw0 := otw0.ext hx
  replace opb := opb.ext hx
  replace otg0 := otg0.ext hx
  clear hx
  obtain ⟨qhPp0, qhPp1, qhPp2⟩ := hPp.c3
  obtain ⟨qhTw00, qhTw01, qhTw02⟩ := hTw0.c3
  obtain ⟨qhxpb0, qhxpb1, qhxpb2⟩ := hxpb.c3
  obtain ⟨qhTg00, qhTg01, qhTg02⟩ := hTg0.c3
  go_wp2_with fail
  refine (toJury_any p l _ (rp.ext hX)).mono ?_
  rintro e w13 ⟨pd, rfl, opd, hx⟩
  clear qhPp0 qhPp1 qhPp2 qhTw00 qhTw01 qhTw02 qhxpb0 qhxpb1 qhxpb2 qhTg00 qhTg01 qhTg02
  replace hX := hX.trans hx
  have z13 : w12.heap.size ≤ w13.heap.size := (by have := hx.size; simpa using this)
  replace hPp := hPp.ext hx
  replace hTw0 := hTw0.ext hx
  replace hxpb := hxpb.ext hx
  replace hTg0 := hTg0.ext hx
  replace opa := opa.ext hx
  replace otw0 := otw0.ext hx
  replace opb := opb.ext hx
  replace otg0 := otg0.ext hx
  have rgopd : ∀ k, blks pd k → w12.heap.size ≤ k ∧ k < w13.heap.size := (fun k hk => by have := opd.lt hk; simpa using this)
  clear hx
  obtain ⟨qhPp0, qhPp1, qhPp2⟩ := hPp.c3
  obtain ⟨qhTw00, qhTw01, qhTw02⟩ := hTw0.c3
  obtain ⟨qhxpb0, qhxpb1, qhxpb2⟩ := hxpb.c3
  obtain ⟨qhTg00, qhTg01, qhTg02⟩ := hTg0.c3
  go_wp2_with fail
  refine (impl.LeaveJury_any pd l x _ opd.rd ).mono ?_
  rintro e w14 ⟨th0, rfl, oth0, hx⟩
  clear qhPp0 qhPp1 qhPp2 qhTw00 qhTw01 qhTw02 qhxpb0 qhxpb1 qhxpb2 qhTg00 qhTg01 qhTg02
  replace hX := hX.trans hx
  have z14 : w13.heap.size ≤ w14.heap.size := (by have := hx.size; simpa using this)
  replace hPp := hPp.ext hx
  replace hTw0 := hTw0.ext hx
  replace hxpb := hxpb.ext hx
  replace hTg0 := hTg0.ext hx
  replace opa := opa.ext hx
  replace otw0 := otw0.ext hx
  replace opb := opb.ext hx
  replace otg0 := otg0.ext hx
  replace opd := opd.ext hx
  have rgoth0 : ∀ k, blks th0 k → w13.heap.size ≤ k ∧ k < w14.heap.size := (fun k hk => by have := oth0.lt hk; simpa using this)
  clear hx
  have hTh0 := Blk.new w14 26 (#[.slice th0.x.A th0.x.n th0.x.c, .slice th0.y.A th0.y.n th0.y.c, .slice th0.z.A th0.z.n th0.z.c])
  replace hPp := hPp.alloc (.cells #[.slice th0.x.A th0.x.n th0.x.c, .slice th0.y.A th0.y.n th0.y.c, .slice th0.z.A th0.z.n th0.z.c] 26)
  replace hTw0 := hTw0.alloc (.cells #[.slice th0.x.A th0.x.n th0.x.c, .slice th0.y.A th0.y.n th0.y.c, .slice th0.z.A th0.z.n th0.z.c] 26)
  replace hxpb := hxpb.alloc (.cells #[.slice th0.x.A th0.x.n th0.x.c, .slice th0.y.A th0.y.n th0.y.c, .slice th0.z.A th0.z.n th0.z.c] 26)
  replace hTg0 := hTg0.alloc (.cells #[.slice th0.x.A th0.x.n th0.x.c, .slice th0.y.A th0.y.n th0.y.c, .slice th0.z.A th0.z.n th0.z.c] 26)
  replace opa := opa.alloc (.cells #[.slice th0.x.A th0.x.n th0.x.c, .slice th0.y.A th0.y.n th0.y.c, .slice th0.z.A th0.z.n th0.z.c] 26)
  replace otw0 := otw0.alloc (.cells #[.slice th0.x.A th0.x.n th0.x.c, .slice th0.y.A th0.y.n th0.y.c, .slice th0.z.A th0.z.n th0.z.c] 26)
  replace opb := opb.alloc (.cells #[.slice th0.x.A th0.x.n th0.x.c, .slice th0.y.A th0.y.n th0.y.c, .slice th0.z.A th0.z.n th0.z.c] 26)
  replace otg0 := otg0.alloc (.cells #[.slice th0.x.A th0.x.n th0.x.c, .slice th0.y.A th0.y.n th0.y.c, .slice th0.z.A th0.z.n th0.z.c] 26)
  replace opd := opd.alloc (.cells #[.slice th0.x.A th0.x.n th0.x.c, .slice th0.y.A th0.y.n th0.y.c, .slice th0.z.A th0.z.n th0.z.c] 26)
  replace oth0 := oth0.alloc (.cells #[.slice th0.x.A th0.x.n th0.x.c, .slice th0.y.A th0.y.n th0.y.c, .slice th0.z.A th0.z.n th0.z.c] 26)
  replace hX := hX.alloc (.cells #[.slice th0.x.A th0.x.n th0.x.c, .slice th0.y.A th0.y.n th0.y.c, .slice th0.z.A th0.z.n th0.z.c] 26)
  obtain ⟨qhPp0, qhPp1, qhPp2⟩ := hPp.c3
  obtain ⟨qhTw00, qhTw01, qhTw02⟩ := hTw0.c3
  obtain ⟨qhxpb0, qhxpb1, qhxpb2⟩ := hxpb.c3
  obtain ⟨qhTg00, qhTg01, qhTg02⟩ := hTg0.c3
  obtain ⟨qhTh00, qhTh01, qhTh02⟩ := hTh0.c3
  go_wp2_with fail
  refine (eqJury_yes th0 tw0 _ _ oth0.rd otw0.rd).mono ?_
  rintro e w15 ⟨rfl, hx⟩
  clear qhPp0 qhPp1 qhPp2 qhTw00 qhTw01 qhTw02 qhxpb0 qhxpb1 qhxpb2 qhTg00 qhTg01 qhTg02 qhTh00 qhTh01 qhTh02
  replace hX := hX.trans hx
  have z15 : w14.heap.size + 1 ≤ w15.heap.size := (by have := hx.size; simpa using this)
  replace hPp := hPp.ext hx
  replace hTw0 := hTw0.ext hx
  replace hxpb := hxpb.ext hx
  replace hTg0 := hTg0.ext hx
  replace hTh0 := hTh0.ext hx
  replace opa := opa.ext hx
  replace otw0 := otw0.ext hx
  replace opb := opb.ext hx
  replace otg0 := otg0.ext hx
  replace opd := opd.ext hx
  replace oth0 := oth0.ext hx
  clear hx
  obtain ⟨qhPp0, qhPp1, qhPp2⟩ := hPp.c3
  obtain ⟨qhTw00, qhTw01, qhTw02⟩ := hTw0.c3
  obtain ⟨qhxpb0, qhxpb1, qhxpb2⟩ := hxpb.c3
  obtain ⟨qhTg00, qhTg01, qhTg02⟩ := hTg0.c3
  obtain ⟨qhTh00, qhTh01, qhTh02⟩ := hTh0.c3
  go_wp2_with fail
  refine (heldJury_any tg0 1 _ otg0.rd (by omega) (by omega)).mono ?_
  rintro e w16 ⟨rfl, hx⟩
  clear qhPp0 qhPp1 qhPp2 qhTw00 qhTw01 qhTw02 qhxpb0 qhxpb1 qhxpb2 qhTg00 qhTg01 qhTg02 qhTh00 qhTh01 qhTh02
  replace hX := hX.trans hx
  have z16 : w15.heap.size ≤ w16.heap.size := (by have := hx.size; simpa using this)
  replace hPp := hPp.ext hx
  replace hTw0 := hTw0.ext hx
  replace hxpb := hxpb.ext hx
  replace hTg0 := hTg0.ext hx
  replace hTh0 := hTh0.ext hx
  replace opa := opa.ext hx
  replace otw0 := otw0.ext hx
  replace opb := opb.ext hx
  replace otg0 := otg0.ext hx
  replace opd := opd.ext hx
  replace oth0 := oth0.ext hx
  clear hx
  obtain ⟨qhPp0, qhPp1, qhPp2⟩ := hPp.c3
  obtain ⟨qhTw00, qhTw01, qhTw02⟩ := hTw0.c3
  obtain ⟨qhxpb0, qhxpb1, qhxpb2⟩ := hxpb.c3
  obtain ⟨qhTg00, qhTg01, qhTg02⟩ := hTg0.c3
  obtain ⟨qhTh00, qhTh01, qhTh02⟩ := hTh0.c3
  go_wp2
  go_ret
  exact ⟨rfl, hX⟩
theorem own_LeaveJury : ownKnob Try.prog.godebug = none := by kernel_rfl
set_option maxRecDepth 100000 in
theorem lifted_LeaveJury (os : Os) (started : os.Started) (H : Type) (enc : TypeId × Value → H) :
    ReturnsInHanded {} Try.checked os 3 .any (Rows.fnExactLeaveJurySpec.pre6 enc Try.prog Try.f3 Rows.fnExactLeaveJuryRow.domain false) (Rows.fnExactLeaveJurySpec.post enc Try.prog Try.f3 false true false false) := by
  refine returnsInHanded_of_change (C := Try.checked) own_LeaveJury started (by kernel_rfl) Try.func3
    (ChangeSpec.witness6 (enc := enc) (C := Try.checked) false ⟨#[], #[.agg #[.slice none 0 0, .slice none 0 0, .slice none 0 0], .int .i64 0], []⟩ 8 (by kernel_rfl) (by kernel_rfl) (by kernel_rfl) (by kernel_rfl)) ?_
  intro W base args ds gs before hval0 hW hcnd _
  have hval : ∀ (j : Nat) t v, Try.f3.params[j]? = some t → args[j]? = some v → Value.okWide Try.prog W .any base t v := hval0
  have hW' := hW
  obtain ⟨p, q, hA0, hV, rfl, hfz, hnd⟩ := hW
  have hA : DataW.TrodAll enc Try.prog W 0 (fun _ => true) true Try.f3.params.toList args.toList ds p := hA0
  rw [Try.params3] at hA hval
  obtain ⟨v0, vs0, d0, ds0, p0, q0, hargs, rfl, rfl, h0, r0⟩ := trodAll_cons hA
  obtain ⟨v1, vs1, d1, ds1, p1, q1, rfl, rfl, rfl, h1, r1⟩ := trodAll_cons r0
  obtain ⟨rfl, rfl, rfl⟩ := trodAll_nil r1
  obtain rfl : args = #[v0, v1] := by cases args; simp_all
  obtain ⟨rfl, rfl⟩ := trodVars_none hV
  have k0 := h0
  have lt0 : ∀ x ∈ p0, x.block < W.heap.size := by obtain ⟨m, hm⟩ := k0; exact DataW.trod_lt m _ _ _ hm
  obtain ⟨s0, x0, rfl, i0⟩ := open_Jury (hval 0 24 v0 rfl rfl) h0 (fun _ => rfl)
  have k1 := h1
  have lt1 : ∀ x ∈ p1, x.block < W.heap.size := by obtain ⟨m, hm⟩ := k1; exact DataW.trod_lt m _ _ _ hm
  obtain ⟨a1, rfl, _, _, w1⟩ := open_int Try.underlying2 (hval 1 2 v1 rfl rfl) h1
  clear hA0 hval0
  refine (law_LeaveJury s0 x0 a1 W i0 (by simpa [Lit.wf, IntKind.min, IntKind.max, IntKind.signed, IntKind.bits] using w1)).mono fun e W' ⟨he, bel⟩ => ?_
  subst he
  exact ⟨_, rfl, _, _, _, [], _, [], hW', trodAll_mk1 (shut_bool Try.underlying4 _), (trodAll_cons_mk (Below.trod laidOut (by kernel_rfl) (of_decide_eq_true (by kernel_rfl)) k0 bel lt0) (trodAll_cons_mk (Below.trod laidOut (by kernel_rfl) (of_decide_eq_true (by kernel_rfl)) k1 bel lt1) trodAll_mk0)), rfl, Below.frame bel _, fun h => by cases h⟩
theorem over_LeaveJury : Rows.fnExactLeaveJuryRow.holds Try.pinned (OpenSpec.ofChange Rows.fnExactLeaveJurySpec) :=
  OpenClaim.holds_of_wide 3 Try.f3 rfl rfl rfl rfl rfl rfl rfl ⟨rfl, rfl, rfl, rfl, rfl⟩ rfl rfl rfl rfl rfl (by kernel_rfl) Try.func3 (by kernel_rfl)
    (of_decide_eq_true (by kernel_rfl)) (by unfold Func.isWrapper; first | (rw [if_pos (by decide +kernel)]; kernel_rfl) | (rw [if_neg (by decide +kernel)]; exact ⟨rfl, rfl⟩))
    (fun os started H enc _ => lifted_LeaveJury os started H enc)
/-- the statement -/
theorem proved_LeaveJury : Rows.FnExactLeaveJurySaid := over_LeaveJury
#print axioms proved_LeaveJury
end Go.Proofs.Ytfbpjbnldpcbeaa.mem
