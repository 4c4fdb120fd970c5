/-
  The law FnExactSeatHistory holds of the given program for every input: it returns true, and each argument reads as it did.
-/
import Derived.Test.YtfbpjbnldpcbeaaOpen
import Derived.Test.YtfbpjbnldpcbeaaShS
namespace Go.Proofs.Ytfbpjbnldpcbeaa.mem
open Go.ChangeShapes Go.WideShapes Go.ChangeAt Go.RowKit
set_option linter.unusedVariables false
set_option maxHeartbeats 4000000 in
theorem law_SeatHistory (p : S3) (l : L3) (u : Sl) (us : List Int) (x : Int) (w : World) (ip : In3 w p l) (iu : In1 w u us) (bx : -9223372036854775808 ≤ x ∧ x ≤ 9223372036854775807) :
    Calls Try.prog 4 #[.agg #[.slice p.x.A p.x.n p.x.c, .slice p.y.A p.y.n p.y.c, .slice p.z.A p.z.n p.z.c], .slice u.A u.n u.c, .int .i64 x] w fun e w' => e = .returned (.bool true) ∧ Ext w w' := by
  have hX := Ext.refl w
  have hPp := Blk.new w 24 (#[.slice p.x.A p.x.n p.x.c, .slice p.y.A p.y.n p.y.c, .slice p.z.A p.z.n p.z.c])
  replace hX := hX.alloc (.cells #[.slice p.x.A p.x.n p.x.c, .slice p.y.A p.y.n p.y.c, .slice p.z.A p.z.n p.z.c] 24)
  have mu := iu.max
  unfold maxLen at mu
  by_cases hsu : u.n ≤ 1048576
  case neg =>
    go_enter Try.func4, Try.ntmps4
    go_wp2
    go_ret
    exact ⟨rfl, hX⟩
  have ru := iu.rds (by omega)
  by_cases hsp : 0 ≤ sz3 1048576 p
  case neg =>
    go_enter Try.func4, Try.ntmps4
    obtain ⟨qhPp0, qhPp1, qhPp2⟩ := hPp.c3
    go_wp2_with fail
    refine (szJury_any p _ _ (by omega) (by omega) ip.1.max ip.2.1.max ip.2.2.max).mono ?_
    rintro e w1 ⟨rfl, hx⟩
    clear qhPp0 qhPp1 qhPp2
    replace hX := hX.trans hx
    have z1 : w.heap.size + 1 ≤ w1.heap.size := (by have := hx.size; simpa using this)
    replace hPp := hPp.ext hx
    clear hx
    obtain ⟨qhPp0, qhPp1, qhPp2⟩ := hPp.c3
    go_wp2
    go_ret
    exact ⟨rfl, hX⟩
  have rp := ip.rds hsp (by omega)
  have hlp := (sz3_pos hsp (by omega)).2
  go_enter Try.func4, Try.ntmps4
  obtain ⟨qhPp0, qhPp1, qhPp2⟩ := hPp.c3
  go_wp2_with fail
  refine (szJury_any p _ _ (by omega) (by omega) ip.1.max ip.2.1.max ip.2.2.max).mono ?_
  rintro e w1 ⟨rfl, hx⟩
  clear qhPp0 qhPp1 qhPp2
  replace hX := hX.trans hx
  have z1 : w.heap.size + 1 ≤ w1.heap.size := (by have := hx.size; simpa using this)
  replace hPp := hPp.ext hx
  clear hx
  obtain ⟨qhPp0, qhPp1, qhPp2⟩ := hPp.c3
  go_wp2_with fail
  refine (toJury_any p l _ (rp.ext hX)).mono ?_
  rintro e w2 ⟨pa, rfl, opa, hx⟩
  clear qhPp0 qhPp1 qhPp2
  replace hX := hX.trans hx
  have z2 : w1.heap.size ≤ w2.heap.size := (by have := hx.size; simpa using this)
  replace hPp := hPp.ext hx
  have rgopa : ∀ k, blks pa k → w1.heap.size ≤ k ∧ k < w2.heap.size := (fun k hk => by have := opa.lt hk; simpa using this)
  clear hx
  obtain ⟨qhPp0, qhPp1, qhPp2⟩ := hPp.c3
  go_wp2_with fail
  refine (toInt64S_any u us _ (ru.ext hX)).mono ?_
  rintro e w3 ⟨ua, rfl, oua, hx⟩
  clear qhPp0 qhPp1 qhPp2
  replace hX := hX.trans hx
  have z3 : w2.heap.size ≤ w3.heap.size := (by have := hx.size; simpa using this)
  replace hPp := hPp.ext hx
  replace opa := opa.ext hx
  have rgoua : ∀ k, Value.ownBlock (.slice ua.A ua.n ua.c) = some k → w2.heap.size ≤ k ∧ k < w3.heap.size := (fun k hk => by have := oua.lt k hk; simpa using this)
  clear hx
  obtain ⟨qhPp0, qhPp1, qhPp2⟩ := hPp.c3
  go_wp2_with fail
  refine (spec.SeatHistory_any pa l ua us x _ opa.rd oua.rd (by have := oua.rd.1; have := ru.1; omega)).mono ?_
  rintro e w4 ⟨tw0, rfl, otw0, hx⟩
  clear qhPp0 qhPp1 qhPp2
  replace hX := hX.trans hx
  have z4 : w3.heap.size ≤ w4.heap.size := (by have := hx.size; simpa using this)
  replace hPp := hPp.ext hx
  replace opa := opa.ext hx
  replace oua := oua.ext hx
  have rgotw0 : ∀ k, Value.ownBlock (.slice tw0.A tw0.n tw0.c) = some k → w3.heap.size ≤ k ∧ k < w4.heap.size := (fun k hk => by have := otw0.lt k hk; simpa using this)
  clear hx
  obtain ⟨qhPp0, qhPp1, qhPp2⟩ := hPp.c3
  go_wp2_with fail
  refine (toJury_any p l _ (rp.ext hX)).mono ?_
  rintro e w5 ⟨pb, rfl, opb, hx⟩
  clear qhPp0 qhPp1 qhPp2
  replace hX := hX.trans hx
  have z5 : w4.heap.size ≤ w5.heap.size := (by have := hx.size; simpa using this)
  replace hPp := hPp.ext hx
  replace opa := opa.ext hx
  replace oua := oua.ext hx
  replace otw0 := otw0.ext hx
  have rgopb : ∀ k, blks pb k → w4.heap.size ≤ k ∧ k < w5.heap.size := (fun k hk => by have := opb.lt hk; simpa using this)
  clear hx
  have hxpb := Blk.new w5 26 (#[.slice pb.x.A pb.x.n pb.x.c, .slice pb.y.A pb.y.n pb.y.c, .slice pb.z.A pb.z.n pb.z.c])
  replace hPp := hPp.alloc (.cells #[.slice pb.x.A pb.x.n pb.x.c, .slice pb.y.A pb.y.n pb.y.c, .slice pb.z.A pb.z.n pb.z.c] 26)
  replace opa := opa.alloc (.cells #[.slice pb.x.A pb.x.n pb.x.c, .slice pb.y.A pb.y.n pb.y.c, .slice pb.z.A pb.z.n pb.z.c] 26)
  replace oua := oua.alloc (.cells #[.slice pb.x.A pb.x.n pb.x.c, .slice pb.y.A pb.y.n pb.y.c, .slice pb.z.A pb.z.n pb.z.c] 26)
  replace otw0 := otw0.alloc (.cells #[.slice pb.x.A pb.x.n pb.x.c, .slice pb.y.A pb.y.n pb.y.c, .slice pb.z.A pb.z.n pb.z.c] 26)
  replace opb := opb.alloc (.cells #[.slice pb.x.A pb.x.n pb.x.c, .slice pb.y.A pb.y.n pb.y.c, .slice pb.z.A pb.z.n pb.z.c] 26)
  replace hX := hX.alloc (.cells #[.slice pb.x.A pb.x.n pb.x.c, .slice pb.y.A pb.y.n pb.y.c, .slice pb.z.A pb.z.n pb.z.c] 26)
  obtain ⟨qhPp0, qhPp1, qhPp2⟩ := hPp.c3
  obtain ⟨qhxpb0, qhxpb1, qhxpb2⟩ := hxpb.c3
  go_wp2_with fail
  refine (toInt64S_any u us _ (ru.ext hX)).mono ?_
  rintro e w6 ⟨ub, rfl, oub, hx⟩
  clear qhPp0 qhPp1 qhPp2 qhxpb0 qhxpb1 qhxpb2
  replace hX := hX.trans hx
  have z6 : w5.heap.size + 1 ≤ w6.heap.size := (by have := hx.size; simpa using this)
  replace hPp := hPp.ext hx
  replace hxpb := hxpb.ext hx
  replace opa := opa.ext hx
  replace oua := oua.ext hx
  replace otw0 := otw0.ext hx
  replace opb := opb.ext hx
  have rgoub : ∀ k, Value.ownBlock (.slice ub.A ub.n ub.c) = some k → w5.heap.size + 1 ≤ k ∧ k < w6.heap.size := (fun k hk => by have := oub.lt k hk; simpa using this)
  clear hx
  obtain ⟨qhPp0, qhPp1, qhPp2⟩ := hPp.c3
  obtain ⟨qhxpb0, qhxpb1, qhxpb2⟩ := hxpb.c3
  go_wp2_with fail
  refine (impl.SeatHistory_any pb l ub us x _ opb.rd oub.rd (by have := oub.rd.1; have := ru.1; omega)).mono ?_
  rintro e w7 ⟨tg0, rfl, otg0, hx⟩
  clear qhPp0 qhPp1 qhPp2 qhxpb0 qhxpb1 qhxpb2
  replace hX := hX.trans hx
  have z7 : w6.heap.size ≤ w7.heap.size := (by have := hx.size; simpa using this)
  replace hPp := hPp.ext hx
  replace hxpb := hxpb.ext hx
  replace opa := opa.ext hx
  replace oua := oua.ext hx
  replace otw0 := otw0.ext hx
  replace opb := opb.ext hx
  replace oub := oub.ext hx
  have rgotg0 : ∀ k, Value.ownBlock (.slice tg0.A tg0.n tg0.c) = some k → w6.heap.size ≤ k ∧ k < w7.heap.size := (fun k hk => by have := otg0.lt k hk; simpa using this)
  clear hx
  obtain ⟨qhPp0, qhPp1, qhPp2⟩ := hPp.c3
  obtain ⟨qhxpb0, qhxpb1, qhxpb2⟩ := hxpb.c3
  go_wp2_with fail
  refine (eqInt64S_yes tg0 tw0 _ _ otg0.rd otw0.rd).mono ?_
  rintro e w8 ⟨rfl, hx⟩
  clear qhPp0 qhPp1 qhPp2 qhxpb0 qhxpb1 qhxpb2
  replace hX := hX.trans hx
  have z8 : w7.heap.size ≤ w8.heap.size := (by have := hx.size; simpa using this)
  replace hPp := hPp.ext hx
  replace hxpb := hxpb.ext hx
  replace opa := opa.ext hx
  replace oua := oua.ext hx
  replace otw0 := otw0.ext hx
  replace opb := opb.ext hx
  replace oub := oub.ext hx
  replace otg0 := otg0.ext hx
  clear hx
  obtain ⟨qhPp0, qhPp1, qhPp2⟩ := hPp.c3
  obtain ⟨qhxpb0, qhxpb1, qhxpb2⟩ := hxpb.c3
  replace hPp := hPp.drew
  replace hxpb := hxpb.drew
  replace opa := opa.drew
  replace oua := oua.drew
  replace otw0 := otw0.drew
  replace opb := opb.drew
  replace oub := oub.drew
  replace otg0 := otg0.drew
  replace hX := hX.drew
  go_wp2_with fail
  go_region_held3 (fun w' => w'.cell? ⟨w.heap.size, 0, none⟩ = some (.slice p.x.A p.x.n p.x.c) ∧ w'.cell? ⟨w.heap.size, 1, none⟩ = some (.slice p.y.A p.y.n p.y.c) ∧ w'.cell? ⟨w.heap.size, 2, none⟩ = some (.slice p.z.A p.z.n p.z.c) ∧ w'.cell? ⟨w5.heap.size, 0, none⟩ = some (.slice pb.x.A pb.x.n pb.x.c) ∧ w'.cell? ⟨w5.heap.size, 1, none⟩ = some (.slice pb.y.A pb.y.n pb.y.c) ∧ w'.cell? ⟨w5.heap.size, 2, none⟩ = some (.slice pb.z.A pb.z.n pb.z.c)) (first | exact kk2.2 | exact kk1.2 | go_keep) (first | (go_at_call 7; refine (toJury_any p l _ (rp.ext hX)).mono ?_; rintro e w9 ⟨pbc, rfl, opbc, hx⟩; replace hX := hX.trans hx; have z9 : w8.heap.size ≤ w9.heap.size := (by have := hx.size; simpa using this); replace hPp := hPp.ext hx; replace hxpb := hxpb.ext hx; replace opa := opa.ext hx; replace oua := oua.ext hx; replace otw0 := otw0.ext hx; replace opb := opb.ext hx; replace oub := oub.ext hx; replace otg0 := otg0.ext hx; have kk1 := And.intro trivial (show w9.cell? ⟨w.heap.size, 0, none⟩ = some (.slice p.x.A p.x.n p.x.c) ∧ w9.cell? ⟨w.heap.size, 1, none⟩ = some (.slice p.y.A p.y.n p.y.c) ∧ w9.cell? ⟨w.heap.size, 2, none⟩ = some (.slice p.z.A p.z.n p.z.c) ∧ w9.cell? ⟨w5.heap.size, 0, none⟩ = some (.slice pb.x.A pb.x.n pb.x.c) ∧ w9.cell? ⟨w5.heap.size, 1, none⟩ = some (.slice pb.y.A pb.y.n pb.y.c) ∧ w9.cell? ⟨w5.heap.size, 2, none⟩ = some (.slice pb.z.A pb.z.n pb.z.c) from ⟨hPp.c3.1, hPp.c3.2.1, hPp.c3.2.2, hxpb.c3.1, hxpb.c3.2.1, hxpb.c3.2.2⟩); clear hx) | (go_at_call 9; refine (eqJury_yes pb pbc _ _ opb.rd opbc.rd).mono ?_; rintro e w10 ⟨rfl, hx⟩; replace hX := hX.trans hx; have z10 : w9.heap.size ≤ w10.heap.size := (by have := hx.size; simpa using this); replace hPp := hPp.ext hx; replace hxpb := hxpb.ext hx; replace opa := opa.ext hx; replace oua := oua.ext hx; replace otw0 := otw0.ext hx; replace opb := opb.ext hx; replace oub := oub.ext hx; replace otg0 := otg0.ext hx; have kk2 := And.intro trivial (show w10.cell? ⟨w.heap.size, 0, none⟩ = some (.slice p.x.A p.x.n p.x.c) ∧ w10.cell? ⟨w.heap.size, 1, none⟩ = some (.slice p.y.A p.y.n p.y.c) ∧ w10.cell? ⟨w.heap.size, 2, none⟩ = some (.slice p.z.A p.z.n p.z.c) ∧ w10.cell? ⟨w5.heap.size, 0, none⟩ = some (.slice pb.x.A pb.x.n pb.x.c) ∧ w10.cell? ⟨w5.heap.size, 1, none⟩ = some (.slice pb.y.A pb.y.n pb.y.c) ∧ w10.cell? ⟨w5.heap.size, 2, none⟩ = some (.slice pb.z.A pb.z.n pb.z.c) from ⟨hPp.c3.1, hPp.c3.2.1, hPp.c3.2.2, hxpb.c3.1, hxpb.c3.2.1, hxpb.c3.2.2⟩); clear hx))
  clear kk1 kk2
  clear qhPp0 qhPp1 qhPp2 qhxpb0 qhxpb1 qhxpb2
  obtain ⟨qhPp0, qhPp1, qhPp2⟩ := hPp.c3
  obtain ⟨qhxpb0, qhxpb1, qhxpb2⟩ := hxpb.c3
  go_wp2_with fail
  refine (toInt64S_any u us _ (ru.ext hX)).mono ?_
  rintro e w11 ⟨ubc, rfl, oubc, hx⟩
  clear qhPp0 qhPp1 qhPp2 qhxpb0 qhxpb1 qhxpb2
  replace hX := hX.trans hx
  have z11 : w10.heap.size ≤ w11.heap.size := (by have := hx.size; simpa using this)
  replace hPp := hPp.ext hx
  replace hxpb := hxpb.ext hx
  replace opa := opa.ext hx
  replace oua := oua.ext hx
  replace otw0 := otw0.ext hx
  replace opb := opb.ext hx
  replace oub := oub.ext hx
  replace otg0 := otg0.ext hx
  clear hx
  obtain ⟨qhPp0, qhPp1, qhPp2⟩ := hPp.c3
  obtain ⟨qhxpb0, qhxpb1, qhxpb2⟩ := hxpb.c3
  go_wp2_with fail
  refine (eqInt64S_yes ub ubc _ _ oub.rd (oubc.ext (Ext.refl _)).rd).mono ?_
  rintro e w12 ⟨rfl, hx⟩
  clear qhPp0 qhPp1 qhPp2 qhxpb0 qhxpb1 qhxpb2
  replace hX := hX.trans hx
  have z12 : w11.heap.size ≤ w12.heap.size := (by have := hx.size; simpa using this)
  replace hPp := hPp.ext hx
  replace hxpb := hxpb.ext hx
  replace opa := opa.ext hx
  replace oua := oua.ext hx
  replace otw0 := otw0.ext hx
  replace opb := opb.ext hx
  replace oub := oub.ext hx
  replace otg0 := otg0.ext hx
  clear hx
  obtain ⟨qhPp0, qhPp1, qhPp2⟩ := hPp.c3
  obtain ⟨qhxpb0, qhxpb1, qhxpb2⟩ := hxpb.c3
  -- what came in is marked: the result is its own
  have leopb := len3_le opb
  go_wp2_with fail
  refine (markJury_any pb _ _ 1 _ opb (by omega) (by omega)).mono ?_
  rintro e w13 ⟨rfl, opb', hf⟩
  clear qhPp0 qhPp1 qhPp2 qhxpb0 qhxpb1 qhxpb2
  replace hX := hX.fr_trans hf (fun k hk => by have := rgopb k hk; omega)
  have z13 : w12.heap.size ≤ w13.heap.size := by have := hf.size; simpa using this
  replace hPp := hPp.fr hf (fun hk => by have := rgopb _ hk; omega)
  replace hxpb := hxpb.fr hf (fun hk => by have := rgopb _ hk; omega)
  replace opa := opa.fr hf (fun k h1 h2 => by have a1 := rgopa k h1; have a2 := rgopb k h2; omega)
  replace oua := oua.fr hf (fun k h1 h2 => by have a1 := rgoua k h1; have a2 := rgopb k h2; omega)
  replace otw0 := otw0.fr hf (fun k h1 h2 => by have a1 := rgotw0 k h1; have a2 := rgopb k h2; omega)
  replace oub := oub.fr hf (fun k h1 h2 => by have a1 := rgoub k h1; have a2 := rgopb k h2; omega)
  replace otg0 := otg0.fr hf (fun k h1 h2 => by have a1 := rgotg0 k h1; have a2 := rgopb k h2; omega)
  clear hf opb
  have opb := opb'
  clear opb'
  obtain ⟨qhPp0, qhPp1, qhPp2⟩ := hPp.c3
  obtain ⟨qhxpb0, qhxpb1, qhxpb2⟩ := hxpb.c3
  have leoub := oub.rd.le
  go_wp2_with fail
  refine (markInt64S_any ub _ (1 + len3 pb) _ _ oub (by omega) (by omega)).mono ?_
  rintro e w14 ⟨rfl, oub', hf⟩
  clear qhPp0 qhPp1 qhPp2 qhxpb0 qhxpb1 qhxpb2
  replace hX := hX.fr_trans hf (fun k hk => by have := rgoub k hk; omega)
  have z14 : w13.heap.size ≤ w14.heap.size := by have := hf.size; simpa using this
  replace hPp := hPp.fr hf (fun hk => by have := rgoub _ hk; omega)
  replace hxpb := hxpb.fr hf (fun hk => by have := rgoub _ hk; omega)
  replace opa := opa.fr hf (fun k h1 h2 => by have a1 := rgopa k h1; have a2 := rgoub k h2; omega)
  replace oua := oua.fr hf (fun k h1 h2 => by have a1 := rgoua k h1; have a2 := rgoub k h2; omega)
  replace otw0 := otw0.fr hf (fun k h1 h2 => by have a1 := rgotw0 k h1; have a2 := rgoub k h2; omega)
  replace opb := opb.fr hf (fun k h1 h2 => by have a1 := rgopb k h1; have a2 := rgoub k h2; omega)
  replace otg0 := otg0.fr hf (fun k h1 h2 => by have a1 := rgotg0 k h1; have a2 := rgoub k h2; omega)
  clear hf oub
  have oub := oub'
  clear oub'
  obtain ⟨qhPp0, qhPp1, qhPp2⟩ := hPp.c3
  obtain ⟨qhxpb0, qhxpb1, qhxpb2⟩ := hxpb.c3
  go_wp2_with fail
  refine (eqInt64S_yes tg0 tw0 _ _ otg0.rd otw0.rd).mono ?_
  rintro e w15 ⟨rfl, hx⟩
  clear qhPp0 qhPp1 qhPp2 qhxpb0 qhxpb1 qhxpb2
  replace hX := hX.trans hx
  have z15 : w14.heap.size ≤ w15.heap.size := (by have := hx.size; simpa using this)
  replace hPp := hPp.ext hx
  replace hxpb := hxpb.ext hx
  replace opa := opa.ext hx
  replace oua := oua.ext hx
  replace otw0 := otw0.ext hx
  replace opb := opb.ext hx
  replace oub := oub.ext hx
  replace otg0 := otg0.ext hx
  clear hx
  obtain ⟨qhPp0, qhPp1, qhPp2⟩ := hPp.c3
  obtain ⟨qhxpb0, qhxpb1, qhxpb2⟩ := hxpb.c3
  have leotg0 := otg0.rd.le
  go_wp2_with fail
  refine (markInt64S_any tg0 _ 1 _ _ otg0 (by omega) (by omega)).mono ?_
  rintro e w16 ⟨rfl, otg0', hf⟩
  clear qhPp0 qhPp1 qhPp2 qhxpb0 qhxpb1 qhxpb2
  replace hX := hX.fr_trans hf (fun k hk => by have := rgotg0 k hk; omega)
  have z16 : w15.heap.size ≤ w16.heap.size := by have := hf.size; simpa using this
  replace hPp := hPp.fr hf (fun hk => by have := rgotg0 _ hk; omega)
  replace hxpb := hxpb.fr hf (fun hk => by have := rgotg0 _ hk; omega)
  replace opa := opa.fr hf (fun k h1 h2 => by have a1 := rgopa k h1; have a2 := rgotg0 k h2; omega)
  replace oua := oua.fr hf (fun k h1 h2 => by have a1 := rgoua k h1; have a2 := rgotg0 k h2; omega)
  replace otw0 := otw0.fr hf (fun k h1 h2 => by have a1 := rgotw0 k h1; have a2 := rgotg0 k h2; omega)
  replace opb := opb.fr hf (fun k h1 h2 => by have a1 := rgopb k h1; have a2 := rgotg0 k h2; omega)
  replace oub := oub.fr hf (fun k h1 h2 => by have a1 := rgoub k h1; have a2 := rgotg0 k h2; omega)
  clear hf otg0
  have otg0 := otg0'
  clear otg0'
  obtain ⟨qhPp0, qhPp1, qhPp2⟩ := hPp.c3
  obtain ⟨qhxpb0, qhxpb1, qhxpb2⟩ := hxpb.c3
  go_wp2_with fail
  refine (heldInt64S_any tg0 1 _ otg0.rd (by omega) (by omega)).mono ?_
  rintro e w' ⟨rfl, rfl⟩
  go_wp2_with fail
  refine (toJury_any p l _ (rp.ext hX)).mono ?_
  rintro e w17 ⟨pd, rfl, opd, hx⟩
  clear qhPp0 qhPp1 qhPp2 qhxpb0 qhxpb1 qhxpb2
  replace hX := hX.trans hx
  have z17 : w16.heap.size ≤ w17.heap.size := (by have := hx.size; simpa using this)
  replace hPp := hPp.ext hx
  replace hxpb := hxpb.ext hx
  replace opa := opa.ext hx
  replace oua := oua.ext hx
  replace otw0 := otw0.ext hx
  replace opb := opb.ext hx
  replace oub := oub.ext hx
  replace otg0 := otg0.ext hx
  have rgopd : ∀ k, blks pd k → w16.heap.size ≤ k ∧ k < w17.heap.size := (fun k hk => by have := opd.lt hk; simpa using this)
  clear hx
  obtain ⟨qhPp0, qhPp1, qhPp2⟩ := hPp.c3
  obtain ⟨qhxpb0, qhxpb1, qhxpb2⟩ := hxpb.c3
  go_wp2_with fail
  refine (toInt64S_any u us _ (ru.ext hX)).mono ?_
  rintro e w18 ⟨ud, rfl, oud, hx⟩
  clear qhPp0 qhPp1 qhPp2 qhxpb0 qhxpb1 qhxpb2
  replace hX := hX.trans hx
  have z18 : w17.heap.size ≤ w18.heap.size := (by have := hx.size; simpa using this)
  replace hPp := hPp.ext hx
  replace hxpb := hxpb.ext hx
  replace opa := opa.ext hx
  replace oua := oua.ext hx
  replace otw0 := otw0.ext hx
  replace opb := opb.ext hx
  replace oub := oub.ext hx
  replace otg0 := otg0.ext hx
  replace opd := opd.ext hx
  have rgoud : ∀ k, Value.ownBlock (.slice ud.A ud.n ud.c) = some k → w17.heap.size ≤ k ∧ k < w18.heap.size := (fun k hk => by have := oud.lt k hk; simpa using this)
  clear hx
  obtain ⟨qhPp0, qhPp1, qhPp2⟩ := hPp.c3
  obtain ⟨qhxpb0, qhxpb1, qhxpb2⟩ := hxpb.c3
  go_wp2_with fail
  refine (impl.SeatHistory_any pd l ud us x _ opd.rd oud.rd (by have := oud.rd.1; have := ru.1; omega)).mono ?_
  rintro e w19 ⟨th0, rfl, oth0, hx⟩
  clear qhPp0 qhPp1 qhPp2 qhxpb0 qhxpb1 qhxpb2
  replace hX := hX.trans hx
  have z19 : w18.heap.size ≤ w19.heap.size := (by have := hx.size; simpa using this)
  replace hPp := hPp.ext hx
  replace hxpb := hxpb.ext hx
  replace opa := opa.ext hx
  replace oua := oua.ext hx
  replace otw0 := otw0.ext hx
  replace opb := opb.ext hx
  replace oub := oub.ext hx
  replace otg0 := otg0.ext hx
  replace opd := opd.ext hx
  replace oud := oud.ext hx
  have rgoth0 : ∀ k, Value.ownBlock (.slice th0.A th0.n th0.c) = some k → w18.heap.size ≤ k ∧ k < w19.heap.size := (fun k hk => by have := oth0.lt k hk; simpa using this)
  clear hx
  obtain ⟨qhPp0, qhPp1, qhPp2⟩ := hPp.c3
  obtain ⟨qhxpb0, qhxpb1, qhxpb2⟩ := hxpb.c3
  go_wp2_with fail
  refine (eqInt64S_yes th0 tw0 _ _ oth0.rd otw0.rd).mono ?_
  rintro e w20 ⟨rfl, hx⟩
  clear qhPp0 qhPp1 qhPp2 qhxpb0 qhxpb1 qhxpb2
  replace hX := hX.trans hx
  have z20 : w19.heap.size ≤ w20.heap.size := (by have := hx.size; simpa using this)
  replace hPp := hPp.ext hx
  replace hxpb := hxpb.ext hx
  replace opa := opa.ext hx
  replace oua := oua.ext hx
  replace otw0 := otw0.ext hx
  replace opb := opb.ext hx
  replace oub := oub.ext hx
  replace otg0 := otg0.ext hx
  replace opd := opd.ext hx
  replace oud := oud.ext hx
  replace oth0 := oth0.ext hx
  clear hx
  obtain ⟨qhPp0, qhPp1, qhPp2⟩ := hPp.c3
  obtain ⟨qhxpb0, qhxpb1, qhxpb2⟩ := hxpb.c3
  go_wp2_with fail
  refine (heldInt64S_any tg0 1 _ otg0.rd (by omega) (by omega)).mono ?_
  rintro e w' ⟨rfl, rfl⟩
  go_wp2
  go_ret
  exact ⟨rfl, hX⟩
theorem own_SeatHistory : ownKnob Try.prog.godebug = none := by kernel_rfl
set_option maxRecDepth 100000 in
theorem lifted_SeatHistory (os : Os) (started : os.Started) (H : Type) (enc : TypeId × Value → H) :
    ReturnsInHanded {} Try.checked os 4 .any (Rows.fnExactSeatHistorySpec.pre6 enc Try.prog Try.f4 Rows.fnExactSeatHistoryRow.domain false) (Rows.fnExactSeatHistorySpec.post enc Try.prog Try.f4 false true false false) := by
  refine returnsInHanded_of_change (C := Try.checked) own_SeatHistory started (by kernel_rfl) Try.func4
    (ChangeSpec.witness6 (enc := enc) (C := Try.checked) false ⟨#[], #[.agg #[.slice none 0 0, .slice none 0 0, .slice none 0 0], .slice none 0 0, .int .i64 0], []⟩ 8 (by kernel_rfl) (by kernel_rfl) (by kernel_rfl) (by kernel_rfl)) ?_
  intro W base args ds gs before hval0 hW hcnd _
  have hval : ∀ (j : Nat) t v, Try.f4.params[j]? = some t → args[j]? = some v → Value.okWide Try.prog W .any base t v := hval0
  have hW' := hW
  obtain ⟨p, q, hA0, hV, rfl, hfz, hnd⟩ := hW
  have hA : DataW.TrodAll enc Try.prog W 0 (fun _ => true) true Try.f4.params.toList args.toList ds p := hA0
  rw [Try.params4] at hA hval
  obtain ⟨v0, vs0, d0, ds0, p0, q0, hargs, rfl, rfl, h0, r0⟩ := trodAll_cons hA
  obtain ⟨v1, vs1, d1, ds1, p1, q1, rfl, rfl, rfl, h1, r1⟩ := trodAll_cons r0
  obtain ⟨v2, vs2, d2, ds2, p2, q2, rfl, rfl, rfl, h2, r2⟩ := trodAll_cons r1
  obtain ⟨rfl, rfl, rfl⟩ := trodAll_nil r2
  obtain rfl : args = #[v0, v1, v2] := by cases args; simp_all
  obtain ⟨rfl, rfl⟩ := trodVars_none hV
  have k0 := h0
  have lt0 : ∀ x ∈ p0, x.block < W.heap.size := by obtain ⟨m, hm⟩ := k0; exact DataW.trod_lt m _ _ _ hm
  obtain ⟨s0, x0, rfl, i0⟩ := open_Jury (hval 0 24 v0 rfl rfl) h0 (fun _ => rfl)
  have k1 := h1
  have lt1 : ∀ x ∈ p1, x.block < W.heap.size := by obtain ⟨m, hm⟩ := k1; exact DataW.trod_lt m _ _ _ hm
  obtain ⟨s1, x1, rfl, i1⟩ := open_arg (hval 1 22 v1 rfl rfl) h1 (fun _ => rfl)
  have k2 := h2
  have lt2 : ∀ x ∈ p2, x.block < W.heap.size := by obtain ⟨m, hm⟩ := k2; exact DataW.trod_lt m _ _ _ hm
  obtain ⟨a2, rfl, _, _, w2⟩ := open_int Try.underlying2 (hval 2 2 v2 rfl rfl) h2
  clear hA0 hval0
  refine (law_SeatHistory s0 x0 s1 x1 a2 W i0 i1 (by simpa [Lit.wf, IntKind.min, IntKind.max, IntKind.signed, IntKind.bits] using w2)).mono fun e W' ⟨he, bel⟩ => ?_
  subst he
  exact ⟨_, rfl, _, _, _, [], _, [], hW', trodAll_mk1 (shut_bool Try.underlying4 _), (trodAll_cons_mk (Below.trod laidOut (by kernel_rfl) (of_decide_eq_true (by kernel_rfl)) k0 bel lt0) (trodAll_cons_mk (Below.trod laidOut (by kernel_rfl) (of_decide_eq_true (by kernel_rfl)) k1 bel lt1) (trodAll_cons_mk (Below.trod laidOut (by kernel_rfl) (of_decide_eq_true (by kernel_rfl)) k2 bel lt2) trodAll_mk0))), rfl, Below.frame bel _, fun h => by cases h⟩
theorem over_SeatHistory : Rows.fnExactSeatHistoryRow.holds Try.pinned (OpenSpec.ofChange Rows.fnExactSeatHistorySpec) :=
  OpenClaim.holds_of_wide 4 Try.f4 rfl rfl rfl rfl rfl rfl rfl ⟨rfl, rfl, rfl, rfl, rfl⟩ rfl rfl rfl rfl rfl (by kernel_rfl) Try.func4 (by kernel_rfl)
    (of_decide_eq_true (by kernel_rfl)) (by unfold Func.isWrapper; first | (rw [if_pos (by decide +kernel)]; kernel_rfl) | (rw [if_neg (by decide +kernel)]; exact ⟨rfl, rfl⟩))
    (fun os started H enc _ => lifted_SeatHistory os started H enc)
/-- the statement -/
theorem proved_SeatHistory : Rows.FnExactSeatHistorySaid := over_SeatHistory
#print axioms proved_SeatHistory
end Go.Proofs.Ytfbpjbnldpcbeaa.mem
