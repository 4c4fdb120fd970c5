/-
  The law FnExactFitFor holds of the given program for every input: it returns true, and each argument reads as it did.
-/
import Derived.Test.YtnkljndopjcapaaFit
namespace Go.Proofs.Ytnkljndopjcapaa.mem
open Go.ChangeShapes Go.WideShapes Go.ChangeAt Go.RowKit
set_option linter.unusedVariables false
theorem law_FitFor (s : Sl) (ts : List Ti) (u : Sl) (us : List ByteArray) (p : S3) (l : L3) (w : World) (is : InT w s ts) (iu : InW w u us) (ip : In3 w p l) :
    Calls Try.prog 7 #[.slice s.A s.n s.c, .slice u.A u.n u.c, .agg #[.slice p.x.A p.x.n p.x.c, .slice p.y.A p.y.n p.y.c, .slice p.z.A p.z.n p.z.c]] w fun e w' => e = .returned (.bool true) ∧ Ext w w' := by
  have hX := Ext.refl w
  have hPp := Blk.new w 45 (#[.slice p.x.A p.x.n p.x.c, .slice p.y.A p.y.n p.y.c, .slice p.z.A p.z.n p.z.c])
  replace hX := hX.alloc (.cells #[.slice p.x.A p.x.n p.x.c, .slice p.y.A p.y.n p.y.c, .slice p.z.A p.z.n p.z.c] 45)
  by_cases hss : 0 ≤ szLs 1048576 (lensT ts)
  case neg =>
    go_enter Try.func7, Try.ntmps7
    obtain ⟨qhPp0, qhPp1, qhPp2⟩ := hPp.c3
    go_wp2_with fail
    refine (szTieS_any s ts _ _ (by omega) (by omega) is hX).mono ?_
    rintro e w1 ⟨rfl, hx⟩
    clear qhPp0 qhPp1 qhPp2
    replace hX := hX.trans hx
    have z1 : w.heap.size + 1 ≤ w1.heap.size := (by have := hx.size; simpa using this)
    replace hPp := hPp.ext hx
    clear hx
    obtain ⟨qhPp0, qhPp1, qhPp2⟩ := hPp.c3
    go_wp2
    go_ret
    exact ⟨rfl, hX⟩
  have rs := is.rds hss (by omega)
  have hls := (szLt_pos hss (by omega)).2
  by_cases hsu : 0 ≤ szLs (szLs 1048576 (lensT ts)) (lensW us)
  case neg =>
    go_enter Try.func7, Try.ntmps7
    obtain ⟨qhPp0, qhPp1, qhPp2⟩ := hPp.c3
    go_wp2_with fail
    refine (szTieS_any s ts _ _ (by omega) (by omega) is hX).mono ?_
    rintro e w1 ⟨rfl, hx⟩
    clear qhPp0 qhPp1 qhPp2
    replace hX := hX.trans hx
    have z1 : w.heap.size + 1 ≤ w1.heap.size := (by have := hx.size; simpa using this)
    replace hPp := hPp.ext hx
    clear hx
    obtain ⟨qhPp0, qhPp1, qhPp2⟩ := hPp.c3
    go_wp2_with fail
    refine (szStringS_any u us _ _ (by omega) (by omega) iu hX).mono ?_
    rintro e w2 ⟨rfl, hx⟩
    clear qhPp0 qhPp1 qhPp2
    replace hX := hX.trans hx
    have z2 : w1.heap.size ≤ w2.heap.size := (by have := hx.size; simpa using this)
    replace hPp := hPp.ext hx
    clear hx
    obtain ⟨qhPp0, qhPp1, qhPp2⟩ := hPp.c3
    go_wp2
    go_ret
    exact ⟨rfl, hX⟩
  have ru := iu.rds hsu (by omega)
  have hlu := (szLt_pos hsu (by omega)).2
  by_cases hsp : 0 ≤ sz3 (szLs (szLs 1048576 (lensT ts)) (lensW us)) p
  case neg =>
    go_enter Try.func7, Try.ntmps7
    obtain ⟨qhPp0, qhPp1, qhPp2⟩ := hPp.c3
    go_wp2_with fail
    refine (szTieS_any s ts _ _ (by omega) (by omega) is hX).mono ?_
    rintro e w1 ⟨rfl, hx⟩
    clear qhPp0 qhPp1 qhPp2
    replace hX := hX.trans hx
    have z1 : w.heap.size + 1 ≤ w1.heap.size := (by have := hx.size; simpa using this)
    replace hPp := hPp.ext hx
    clear hx
    obtain ⟨qhPp0, qhPp1, qhPp2⟩ := hPp.c3
    go_wp2_with fail
    refine (szStringS_any u us _ _ (by omega) (by omega) iu hX).mono ?_
    rintro e w2 ⟨rfl, hx⟩
    clear qhPp0 qhPp1 qhPp2
    replace hX := hX.trans hx
    have z2 : w1.heap.size ≤ w2.heap.size := (by have := hx.size; simpa using this)
    replace hPp := hPp.ext hx
    clear hx
    obtain ⟨qhPp0, qhPp1, qhPp2⟩ := hPp.c3
    go_wp2_with fail
    refine (szPanel_any p _ _ (by omega) (by omega) ip.1.max ip.2.1.max ip.2.2.max).mono ?_
    rintro e w3 ⟨rfl, hx⟩
    clear qhPp0 qhPp1 qhPp2
    replace hX := hX.trans hx
    have z3 : w2.heap.size ≤ w3.heap.size := (by have := hx.size; simpa using this)
    replace hPp := hPp.ext hx
    clear hx
    obtain ⟨qhPp0, qhPp1, qhPp2⟩ := hPp.c3
    go_wp2
    go_ret
    exact ⟨rfl, hX⟩
  have rp := ip.rds hsp (by omega)
  have hlp := (sz3_pos hsp (by omega)).2
  go_enter Try.func7, Try.ntmps7
  obtain ⟨qhPp0, qhPp1, qhPp2⟩ := hPp.c3
  go_wp2_with fail
  refine (szTieS_any s ts _ _ (by omega) (by omega) is hX).mono ?_
  rintro e w1 ⟨rfl, hx⟩
  clear qhPp0 qhPp1 qhPp2
  replace hX := hX.trans hx
  have z1 : w.heap.size + 1 ≤ w1.heap.size := (by have := hx.size; simpa using this)
  replace hPp := hPp.ext hx
  clear hx
  obtain ⟨qhPp0, qhPp1, qhPp2⟩ := hPp.c3
  go_wp2_with fail
  refine (szStringS_any u us _ _ (by omega) (by omega) iu hX).mono ?_
  rintro e w2 ⟨rfl, hx⟩
  clear qhPp0 qhPp1 qhPp2
  replace hX := hX.trans hx
  have z2 : w1.heap.size ≤ w2.heap.size := (by have := hx.size; simpa using this)
  replace hPp := hPp.ext hx
  clear hx
  obtain ⟨qhPp0, qhPp1, qhPp2⟩ := hPp.c3
  go_wp2_with fail
  refine (szPanel_any p _ _ (by omega) (by omega) ip.1.max ip.2.1.max ip.2.2.max).mono ?_
  rintro e w3 ⟨rfl, hx⟩
  clear qhPp0 qhPp1 qhPp2
  replace hX := hX.trans hx
  have z3 : w2.heap.size ≤ w3.heap.size := (by have := hx.size; simpa using this)
  replace hPp := hPp.ext hx
  clear hx
  obtain ⟨qhPp0, qhPp1, qhPp2⟩ := hPp.c3
  replace hPp := hPp.drew
  replace hX := hX.drew
  go_wp2_with fail
  go_region_held3 (fun w' => w'.cell? ⟨w.heap.size, 0, none⟩ = some (.slice p.x.A p.x.n p.x.c) ∧ w'.cell? ⟨w.heap.size, 1, none⟩ = some (.slice p.y.A p.y.n p.y.c) ∧ w'.cell? ⟨w.heap.size, 2, none⟩ = some (.slice p.z.A p.z.n p.z.c)) (first | exact kk7.2 | exact kk6.2 | exact kk5.2 | exact kk4.2 | go_keep) (first | (go_at_call 15; refine (toTieS_any s ts _ (rs.ext hX)).mono ?_; rintro e w4 ⟨sa, rfl, osa, hx⟩; replace hX := hX.trans hx; have z4 : w3.heap.size ≤ w4.heap.size := (by have := hx.size; simpa using this); replace hPp := hPp.ext hx; have rgosa : ∀ k, Value.ownBlock (.slice sa.A sa.n sa.c) = some k → w3.heap.size ≤ k ∧ k < w4.heap.size := (fun k hk => by have := osa.lt k hk; simpa using this); have kk4 := And.intro trivial (show w4.cell? ⟨w.heap.size, 0, none⟩ = some (.slice p.x.A p.x.n p.x.c) ∧ w4.cell? ⟨w.heap.size, 1, none⟩ = some (.slice p.y.A p.y.n p.y.c) ∧ w4.cell? ⟨w.heap.size, 2, none⟩ = some (.slice p.z.A p.z.n p.z.c) from ⟨hPp.c3.1, hPp.c3.2.1, hPp.c3.2.2⟩); clear hx) | (go_at_call 20; refine (toStringS_any u us _ (ru.ext hX)).mono ?_; rintro e w5 ⟨ua, rfl, oua, hx⟩; replace hX := hX.trans hx; have z5 : w4.heap.size ≤ w5.heap.size := (by have := hx.size; simpa using this); replace hPp := hPp.ext hx; replace osa := osa.ext hx; have rgoua : ∀ k, Value.ownBlock (.slice ua.A ua.n ua.c) = some k → w4.heap.size ≤ k ∧ k < w5.heap.size := (fun k hk => by have := oua.lt k hk; simpa using this); have kk5 := And.intro trivial (show w5.cell? ⟨w.heap.size, 0, none⟩ = some (.slice p.x.A p.x.n p.x.c) ∧ w5.cell? ⟨w.heap.size, 1, none⟩ = some (.slice p.y.A p.y.n p.y.c) ∧ w5.cell? ⟨w.heap.size, 2, none⟩ = some (.slice p.z.A p.z.n p.z.c) from ⟨hPp.c3.1, hPp.c3.2.1, hPp.c3.2.2⟩); clear hx) | (go_at_call 34; refine (toPanel_any p l _ (rp.ext hX)).mono ?_; rintro e w6 ⟨pa, rfl, opa, hx⟩; replace hX := hX.trans hx; have z6 : w5.heap.size ≤ w6.heap.size := (by have := hx.size; simpa using this); replace hPp := hPp.ext hx; replace osa := osa.ext hx; replace oua := oua.ext hx; have rgopa : ∀ k, blks pa k → w5.heap.size ≤ k ∧ k < w6.heap.size := (fun k hk => by have := opa.lt hk; simpa using this); have kk6 := And.intro trivial (show w6.cell? ⟨w.heap.size, 0, none⟩ = some (.slice p.x.A p.x.n p.x.c) ∧ w6.cell? ⟨w.heap.size, 1, none⟩ = some (.slice p.y.A p.y.n p.y.c) ∧ w6.cell? ⟨w.heap.size, 2, none⟩ = some (.slice p.z.A p.z.n p.z.c) from ⟨hPp.c3.1, hPp.c3.2.1, hPp.c3.2.2⟩); clear hx) | (go_at_call 33; refine (spec.FitFor_any sa ts ua us pa l _ osa.rd oua.rd opa.rd ).mono ?_; rintro e w7 ⟨rfl, hx⟩; replace hX := hX.trans hx; have z7 : w6.heap.size ≤ w7.heap.size := (by have := hx.size; simpa using this); replace hPp := hPp.ext hx; replace osa := osa.ext hx; replace oua := oua.ext hx; replace opa := opa.ext hx; have kk7 := And.intro trivial (show w7.cell? ⟨w.heap.size, 0, none⟩ = some (.slice p.x.A p.x.n p.x.c) ∧ w7.cell? ⟨w.heap.size, 1, none⟩ = some (.slice p.y.A p.y.n p.y.c) ∧ w7.cell? ⟨w.heap.size, 2, none⟩ = some (.slice p.z.A p.z.n p.z.c) from ⟨hPp.c3.1, hPp.c3.2.1, hPp.c3.2.2⟩); clear hx))
  clear kk4 kk5 kk6 kk7
  clear qhPp0 qhPp1 qhPp2
  obtain ⟨qhPp0, qhPp1, qhPp2⟩ := hPp.c3
  go_wp2_with fail
  refine (toTieS_any s ts _ (rs.ext hX)).mono ?_
  rintro e w8 ⟨sb, rfl, osb, hx⟩
  clear qhPp0 qhPp1 qhPp2
  replace hX := hX.trans hx
  have z8 : w7.heap.size ≤ w8.heap.size := (by have := hx.size; simpa using this)
  replace hPp := hPp.ext hx
  replace osa := osa.ext hx
  replace oua := oua.ext hx
  replace opa := opa.ext hx
  have rgosb : ∀ k, Value.ownBlock (.slice sb.A sb.n sb.c) = some k → w7.heap.size ≤ k ∧ k < w8.heap.size := (fun k hk => by have := osb.lt k hk; simpa using this)
  clear hx
  obtain ⟨qhPp0, qhPp1, qhPp2⟩ := hPp.c3
  go_wp2_with fail
  refine (toStringS_any u us _ (ru.ext hX)).mono ?_
  rintro e w9 ⟨ub, rfl, oub, hx⟩
  clear qhPp0 qhPp1 qhPp2
  replace hX := hX.trans hx
  have z9 : w8.heap.size ≤ w9.heap.size := (by have := hx.size; simpa using this)
  replace hPp := hPp.ext hx
  replace osa := osa.ext hx
  replace oua := oua.ext hx
  replace opa := opa.ext hx
  replace osb := osb.ext hx
  have rgoub : ∀ k, Value.ownBlock (.slice ub.A ub.n ub.c) = some k → w8.heap.size ≤ k ∧ k < w9.heap.size := (fun k hk => by have := oub.lt k hk; simpa using this)
  clear hx
  obtain ⟨qhPp0, qhPp1, qhPp2⟩ := hPp.c3
  go_wp2_with fail
  refine (toPanel_any p l _ (rp.ext hX)).mono ?_
  rintro e w10 ⟨pb, rfl, opb, hx⟩
  clear qhPp0 qhPp1 qhPp2
  replace hX := hX.trans hx
  have z10 : w9.heap.size ≤ w10.heap.size := (by have := hx.size; simpa using this)
  replace hPp := hPp.ext hx
  replace osa := osa.ext hx
  replace oua := oua.ext hx
  replace opa := opa.ext hx
  replace osb := osb.ext hx
  replace oub := oub.ext hx
  have rgopb : ∀ k, blks pb k → w9.heap.size ≤ k ∧ k < w10.heap.size := (fun k hk => by have := opb.lt hk; simpa using this)
  clear hx
  have hxpb := Blk.new w10 49 (#[.slice pb.x.A pb.x.n pb.x.c, .slice pb.y.A pb.y.n pb.y.c, .slice pb.z.A pb.z.n pb.z.c])
  replace hPp := hPp.alloc (.cells #[.slice pb.x.A pb.x.n pb.x.c, .slice pb.y.A pb.y.n pb.y.c, .slice pb.z.A pb.z.n pb.z.c] 49)
  replace osa := osa.alloc (.cells #[.slice pb.x.A pb.x.n pb.x.c, .slice pb.y.A pb.y.n pb.y.c, .slice pb.z.A pb.z.n pb.z.c] 49)
  replace oua := oua.alloc (.cells #[.slice pb.x.A pb.x.n pb.x.c, .slice pb.y.A pb.y.n pb.y.c, .slice pb.z.A pb.z.n pb.z.c] 49)
  replace opa := opa.alloc (.cells #[.slice pb.x.A pb.x.n pb.x.c, .slice pb.y.A pb.y.n pb.y.c, .slice pb.z.A pb.z.n pb.z.c] 49)
  replace osb := osb.alloc (.cells #[.slice pb.x.A pb.x.n pb.x.c, .slice pb.y.A pb.y.n pb.y.c, .slice pb.z.A pb.z.n pb.z.c] 49)
  replace oub := oub.alloc (.cells #[.slice pb.x.A pb.x.n pb.x.c, .slice pb.y.A pb.y.n pb.y.c, .slice pb.z.A pb.z.n pb.z.c] 49)
  replace opb := opb.alloc (.cells #[.slice pb.x.A pb.x.n pb.x.c, .slice pb.y.A pb.y.n pb.y.c, .slice pb.z.A pb.z.n pb.z.c] 49)
  replace hX := hX.alloc (.cells #[.slice pb.x.A pb.x.n pb.x.c, .slice pb.y.A pb.y.n pb.y.c, .slice pb.z.A pb.z.n pb.z.c] 49)
  obtain ⟨qhPp0, qhPp1, qhPp2⟩ := hPp.c3
  obtain ⟨qhxpb0, qhxpb1, qhxpb2⟩ := hxpb.c3
  go_wp2_with fail
  refine (impl.FitFor_any sb ts ub us pb l _ osb.rd oub.rd opb.rd osb.cap).mono ?_
  rintro e w11 ⟨rfl, hx⟩
  clear qhPp0 qhPp1 qhPp2 qhxpb0 qhxpb1 qhxpb2
  replace hX := hX.trans hx
  have z11 : w10.heap.size + 1 ≤ w11.heap.size := (by have := hx.size; simpa using this)
  replace hPp := hPp.ext hx
  replace hxpb := hxpb.ext hx
  replace osa := osa.ext hx
  replace oua := oua.ext hx
  replace opa := opa.ext hx
  replace osb := osb.ext hx
  replace oub := oub.ext hx
  replace opb := opb.ext hx
  clear hx
  obtain ⟨qhPp0, qhPp1, qhPp2⟩ := hPp.c3
  obtain ⟨qhxpb0, qhxpb1, qhxpb2⟩ := hxpb.c3
  go_wp2_with fail
  refine (toTieS_any s ts _ (rs.ext hX)).mono ?_
  rintro e w12 ⟨sbc, rfl, osbc, hx⟩
  clear qhPp0 qhPp1 qhPp2 qhxpb0 qhxpb1 qhxpb2
  replace hX := hX.trans hx
  have z12 : w11.heap.size ≤ w12.heap.size := (by have := hx.size; simpa using this)
  replace hPp := hPp.ext hx
  replace hxpb := hxpb.ext hx
  replace osa := osa.ext hx
  replace oua := oua.ext hx
  replace opa := opa.ext hx
  replace osb := osb.ext hx
  replace oub := oub.ext hx
  replace opb := opb.ext hx
  clear hx
  obtain ⟨qhPp0, qhPp1, qhPp2⟩ := hPp.c3
  obtain ⟨qhxpb0, qhxpb1, qhxpb2⟩ := hxpb.c3
  go_wp2_with fail
  refine (eqTieS_yes sb sbc _ _ osb.rd (osbc.ext (Ext.refl _)).rd).mono ?_
  rintro e w13 ⟨rfl, hx⟩
  clear qhPp0 qhPp1 qhPp2 qhxpb0 qhxpb1 qhxpb2
  replace hX := hX.trans hx
  have z13 : w12.heap.size ≤ w13.heap.size := (by have := hx.size; simpa using this)
  replace hPp := hPp.ext hx
  replace hxpb := hxpb.ext hx
  replace osa := osa.ext hx
  replace oua := oua.ext hx
  replace opa := opa.ext hx
  replace osb := osb.ext hx
  replace oub := oub.ext hx
  replace opb := opb.ext hx
  clear hx
  obtain ⟨qhPp0, qhPp1, qhPp2⟩ := hPp.c3
  obtain ⟨qhxpb0, qhxpb1, qhxpb2⟩ := hxpb.c3
  go_wp2_with fail
  refine (toStringS_any u us _ (ru.ext hX)).mono ?_
  rintro e w14 ⟨ubc, rfl, oubc, hx⟩
  clear qhPp0 qhPp1 qhPp2 qhxpb0 qhxpb1 qhxpb2
  replace hX := hX.trans hx
  have z14 : w13.heap.size ≤ w14.heap.size := (by have := hx.size; simpa using this)
  replace hPp := hPp.ext hx
  replace hxpb := hxpb.ext hx
  replace osa := osa.ext hx
  replace oua := oua.ext hx
  replace opa := opa.ext hx
  replace osb := osb.ext hx
  replace oub := oub.ext hx
  replace opb := opb.ext hx
  clear hx
  obtain ⟨qhPp0, qhPp1, qhPp2⟩ := hPp.c3
  obtain ⟨qhxpb0, qhxpb1, qhxpb2⟩ := hxpb.c3
  go_wp2_with fail
  refine (eqStringS_yes ub ubc _ _ oub.rd (oubc.ext (Ext.refl _)).rd).mono ?_
  rintro e w15 ⟨rfl, hx⟩
  clear qhPp0 qhPp1 qhPp2 qhxpb0 qhxpb1 qhxpb2
  replace hX := hX.trans hx
  have z15 : w14.heap.size ≤ w15.heap.size := (by have := hx.size; simpa using this)
  replace hPp := hPp.ext hx
  replace hxpb := hxpb.ext hx
  replace osa := osa.ext hx
  replace oua := oua.ext hx
  replace opa := opa.ext hx
  replace osb := osb.ext hx
  replace oub := oub.ext hx
  replace opb := opb.ext hx
  clear hx
  obtain ⟨qhPp0, qhPp1, qhPp2⟩ := hPp.c3
  obtain ⟨qhxpb0, qhxpb1, qhxpb2⟩ := hxpb.c3
  replace hPp := hPp.drew
  replace hxpb := hxpb.drew
  replace osa := osa.drew
  replace oua := oua.drew
  replace opa := opa.drew
  replace osb := osb.drew
  replace oub := oub.drew
  replace opb := opb.drew
  replace hX := hX.drew
  go_wp2_with fail
  go_region_held3 (fun w' => w'.cell? ⟨w.heap.size, 0, none⟩ = some (.slice p.x.A p.x.n p.x.c) ∧ w'.cell? ⟨w.heap.size, 1, none⟩ = some (.slice p.y.A p.y.n p.y.c) ∧ w'.cell? ⟨w.heap.size, 2, none⟩ = some (.slice p.z.A p.z.n p.z.c) ∧ w'.cell? ⟨w10.heap.size, 0, none⟩ = some (.slice pb.x.A pb.x.n pb.x.c) ∧ w'.cell? ⟨w10.heap.size, 1, none⟩ = some (.slice pb.y.A pb.y.n pb.y.c) ∧ w'.cell? ⟨w10.heap.size, 2, none⟩ = some (.slice pb.z.A pb.z.n pb.z.c)) (first | exact kk2.2 | exact kk1.2 | go_keep) (first | (go_at_call 34; refine (toPanel_any p l _ (rp.ext hX)).mono ?_; rintro e w16 ⟨pbc, rfl, opbc, hx⟩; replace hX := hX.trans hx; have z16 : w15.heap.size ≤ w16.heap.size := (by have := hx.size; simpa using this); replace hPp := hPp.ext hx; replace hxpb := hxpb.ext hx; replace osa := osa.ext hx; replace oua := oua.ext hx; replace opa := opa.ext hx; replace osb := osb.ext hx; replace oub := oub.ext hx; replace opb := opb.ext hx; have kk1 := And.intro trivial (show w16.cell? ⟨w.heap.size, 0, none⟩ = some (.slice p.x.A p.x.n p.x.c) ∧ w16.cell? ⟨w.heap.size, 1, none⟩ = some (.slice p.y.A p.y.n p.y.c) ∧ w16.cell? ⟨w.heap.size, 2, none⟩ = some (.slice p.z.A p.z.n p.z.c) ∧ w16.cell? ⟨w10.heap.size, 0, none⟩ = some (.slice pb.x.A pb.x.n pb.x.c) ∧ w16.cell? ⟨w10.heap.size, 1, none⟩ = some (.slice pb.y.A pb.y.n pb.y.c) ∧ w16.cell? ⟨w10.heap.size, 2, none⟩ = some (.slice pb.z.A pb.z.n pb.z.c) from ⟨hPp.c3.1, hPp.c3.2.1, hPp.c3.2.2, hxpb.c3.1, hxpb.c3.2.1, hxpb.c3.2.2⟩); clear hx) | (go_at_call 36; refine (eqPanel_yes pb pbc _ _ opb.rd opbc.rd).mono ?_; rintro e w17 ⟨rfl, hx⟩; replace hX := hX.trans hx; have z17 : w16.heap.size ≤ w17.heap.size := (by have := hx.size; simpa using this); replace hPp := hPp.ext hx; replace hxpb := hxpb.ext hx; replace osa := osa.ext hx; replace oua := oua.ext hx; replace opa := opa.ext hx; replace osb := osb.ext hx; replace oub := oub.ext hx; replace opb := opb.ext hx; have kk2 := And.intro trivial (show w17.cell? ⟨w.heap.size, 0, none⟩ = some (.slice p.x.A p.x.n p.x.c) ∧ w17.cell? ⟨w.heap.size, 1, none⟩ = some (.slice p.y.A p.y.n p.y.c) ∧ w17.cell? ⟨w.heap.size, 2, none⟩ = some (.slice p.z.A p.z.n p.z.c) ∧ w17.cell? ⟨w10.heap.size, 0, none⟩ = some (.slice pb.x.A pb.x.n pb.x.c) ∧ w17.cell? ⟨w10.heap.size, 1, none⟩ = some (.slice pb.y.A pb.y.n pb.y.c) ∧ w17.cell? ⟨w10.heap.size, 2, none⟩ = some (.slice pb.z.A pb.z.n pb.z.c) from ⟨hPp.c3.1, hPp.c3.2.1, hPp.c3.2.2, hxpb.c3.1, hxpb.c3.2.1, hxpb.c3.2.2⟩); clear hx))
  clear kk1 kk2
  clear qhPp0 qhPp1 qhPp2 qhxpb0 qhxpb1 qhxpb2
  obtain ⟨qhPp0, qhPp1, qhPp2⟩ := hPp.c3
  obtain ⟨qhxpb0, qhxpb1, qhxpb2⟩ := hxpb.c3
  go_wp2
  go_ret
  exact ⟨rfl, hX⟩
theorem own_FitFor : ownKnob Try.prog.godebug = none := by kernel_rfl
set_option maxRecDepth 100000 in
theorem lifted_FitFor (os : Os) (started : os.Started) (H : Type) (enc : TypeId × Value → H) :
    ReturnsInHanded {} Try.checked os 7 .any (Rows.fnExactFitForSpec.pre6 enc Try.prog Try.f7 Rows.fnExactFitForRow.domain false) (Rows.fnExactFitForSpec.post enc Try.prog Try.f7 false true false false) := by
  refine returnsInHanded_of_change (C := Try.checked) own_FitFor started (by kernel_rfl) Try.func7
    (ChangeSpec.witness6 (enc := enc) (C := Try.checked) false ⟨#[], #[.slice none 0 0, .slice none 0 0, .agg #[.slice none 0 0, .slice none 0 0, .slice none 0 0]], []⟩ 8 (by kernel_rfl) (by kernel_rfl) (by kernel_rfl) (by kernel_rfl)) ?_
  intro W base args ds gs before hval0 hW hcnd _
  have hval : ∀ (j : Nat) t v, Try.f7.params[j]? = some t → args[j]? = some v → Value.okWide Try.prog W .any base t v := hval0
  have hW' := hW
  obtain ⟨p, q, hA0, hV, rfl, hfz, hnd⟩ := hW
  have hA : DataW.TrodAll enc Try.prog W 0 (fun _ => true) true Try.f7.params.toList args.toList ds p := hA0
  rw [Try.params7] at hA hval
  obtain ⟨v0, vs0, d0, ds0, p0, q0, hargs, rfl, rfl, h0, r0⟩ := trodAll_cons hA
  obtain ⟨v1, vs1, d1, ds1, p1, q1, rfl, rfl, rfl, h1, r1⟩ := trodAll_cons r0
  obtain ⟨v2, vs2, d2, ds2, p2, q2, rfl, rfl, rfl, h2, r2⟩ := trodAll_cons r1
  obtain ⟨rfl, rfl, rfl⟩ := trodAll_nil r2
  obtain rfl : args = #[v0, v1, v2] := by cases args; simp_all
  obtain ⟨rfl, rfl⟩ := trodVars_none hV
  have k0 := h0
  have lt0 : ∀ x ∈ p0, x.block < W.heap.size := by obtain ⟨m, hm⟩ := k0; exact DataW.trod_lt m _ _ _ hm
  obtain ⟨s0, x0, rfl, i0⟩ := open_ties_arg (hval 0 22 v0 rfl rfl) h0 (fun _ => rfl)
  have k1 := h1
  have lt1 : ∀ x ∈ p1, x.block < W.heap.size := by obtain ⟨m, hm⟩ := k1; exact DataW.trod_lt m _ _ _ hm
  obtain ⟨s1, x1, rfl, i1⟩ := open_strs_arg (hval 1 29 v1 rfl rfl) h1 (fun _ => rfl)
  have k2 := h2
  have lt2 : ∀ x ∈ p2, x.block < W.heap.size := by obtain ⟨m, hm⟩ := k2; exact DataW.trod_lt m _ _ _ hm
  obtain ⟨s2, x2, rfl, i2⟩ := open_Panel (hval 2 45 v2 rfl rfl) h2 (fun _ => rfl)
  clear hA0 hval0
  refine (law_FitFor s0 x0 s1 x1 s2 x2 W i0 i1 i2).mono fun e W' ⟨he, bel⟩ => ?_
  subst he
  exact ⟨_, rfl, _, _, _, [], _, [], hW', trodAll_mk1 (shut_bool Try.underlying4 _), (trodAll_cons_mk (Below.trod laidOut (by kernel_rfl) (of_decide_eq_true (by kernel_rfl)) k0 bel lt0) (trodAll_cons_mk (Below.trod laidOut (by kernel_rfl) (of_decide_eq_true (by kernel_rfl)) k1 bel lt1) (trodAll_cons_mk (Below.trod laidOut (by kernel_rfl) (of_decide_eq_true (by kernel_rfl)) k2 bel lt2) trodAll_mk0))), rfl, Below.frame bel _, fun h => by cases h⟩
theorem over_FitFor : Rows.fnExactFitForRow.holds Try.pinned (OpenSpec.ofChange Rows.fnExactFitForSpec) :=
  OpenClaim.holds_of_wide 7 Try.f7 rfl rfl rfl rfl rfl rfl rfl ⟨rfl, rfl, rfl, rfl, rfl⟩ rfl rfl rfl rfl rfl (by kernel_rfl) Try.func7 (by kernel_rfl)
    (of_decide_eq_true (by kernel_rfl)) (by unfold Func.isWrapper; first | (rw [if_pos (by decide +kernel)]; kernel_rfl) | (rw [if_neg (by decide +kernel)]; exact ⟨rfl, rfl⟩))
    (fun os started H enc _ => lifted_FitFor os started H enc)
/-- the statement -/
theorem proved_FitFor : Rows.FnExactFitForSaid := over_FitFor
#print axioms proved_FitFor
end Go.Proofs.Ytnkljndopjcapaa.mem
