/-
  The law FnExactMakePanel holds of the given program for every input: it returns true, and each argument reads as it did.
-/
import Derived.Test.YtfaiigihdokpjaaOpen
import Derived.Test.YtfaiigihdokpjaaMk
namespace Go.Proofs.Ytfaiigihdokpjaa.mem
open Go.ChangeShapes Go.WideShapes Go.ChangeAt Go.RowKit
set_option linter.unusedVariables false
set_option maxHeartbeats 4000000 in
theorem law_MakePanel (u : Sl) (us : List Int) (k : Int) (w : World) (iu : In1 w u us) (bk : -9223372036854775808 ≤ k ∧ k ≤ 9223372036854775807) :
    Calls Try.prog 3 #[.slice u.A u.n u.c, .int .i64 k] w fun e w' => e = .returned (.bool true) ∧ Ext w w' := by
  have hX := Ext.refl w
  have mu := iu.max
  unfold maxLen at mu
  by_cases hs : u.n ≤ 1048576
  case neg =>
    go_enter Try.func3, Try.ntmps3
    go_wp2
    go_ret
    exact ⟨rfl, hX⟩
  have ru := iu.rds (by omega)
  go_enter Try.func3, Try.ntmps3
  go_wp2_with fail
  refine (toInt64S_any u us _ (ru.ext hX)).mono ?_
  rintro e w1 ⟨ua, rfl, oua, hx⟩
  replace hX := hX.trans hx
  have z1 : w.heap.size ≤ w1.heap.size := (by have := hx.size; simpa using this)
  have rgoua : ∀ k, Value.ownBlock (.slice ua.A ua.n ua.c) = some k → w.heap.size ≤ k ∧ k < w1.heap.size := (fun k hk => by have := oua.lt k hk; simpa using this)
  clear hx
  go_wp2_with fail
  refine (spec.MakePanel_any ua us k _ oua.rd (by have := oua.rd.1; have := ru.1; omega) oua.cap).mono ?_
  rintro e w2 ⟨tw0, rfl, otw0, hx⟩
  replace hX := hX.trans hx
  have z2 : w1.heap.size ≤ w2.heap.size := (by have := hx.size; simpa using this)
  replace oua := oua.ext hx
  have rgotw0 : ∀ k, blks tw0 k → w1.heap.size ≤ k ∧ k < w2.heap.size := (fun k hk => by have := otw0.lt hk; simpa using this)
  clear hx
  have hTw0 := Blk.new w2 24 (#[.slice tw0.x.A tw0.x.n tw0.x.c, .slice tw0.y.A tw0.y.n tw0.y.c, .slice tw0.z.A tw0.z.n tw0.z.c])
  replace oua := oua.alloc (.cells #[.slice tw0.x.A tw0.x.n tw0.x.c, .slice tw0.y.A tw0.y.n tw0.y.c, .slice tw0.z.A tw0.z.n tw0.z.c] 24)
  replace otw0 := otw0.alloc (.cells #[.slice tw0.x.A tw0.x.n tw0.x.c, .slice tw0.y.A tw0.y.n tw0.y.c, .slice tw0.z.A tw0.z.n tw0.z.c] 24)
  replace hX := hX.alloc (.cells #[.slice tw0.x.A tw0.x.n tw0.x.c, .slice tw0.y.A tw0.y.n tw0.y.c, .slice tw0.z.A tw0.z.n tw0.z.c] 24)
  obtain ⟨qhTw00, qhTw01, qhTw02⟩ := hTw0.c3
  go_wp2_with fail
  refine (toInt64S_any u us _ (ru.ext hX)).mono ?_
  rintro e w3 ⟨ub, rfl, oub, hx⟩
  clear qhTw00 qhTw01 qhTw02
  replace hX := hX.trans hx
  have z3 : w2.heap.size + 1 ≤ w3.heap.size := (by have := hx.size; simpa using this)
  replace hTw0 := hTw0.ext hx
  replace oua := oua.ext hx
  replace otw0 := otw0.ext hx
  have rgoub : ∀ k, Value.ownBlock (.slice ub.A ub.n ub.c) = some k → w2.heap.size + 1 ≤ k ∧ k < w3.heap.size := (fun k hk => by have := oub.lt k hk; simpa using this)
  clear hx
  obtain ⟨qhTw00, qhTw01, qhTw02⟩ := hTw0.c3
  go_wp2_with fail
  refine (impl.MakePanel_any ub us k _ oub.rd (by have := oub.rd.1; have := ru.1; omega) oub.cap).mono ?_
  rintro e w4 ⟨tg0, rfl, otg0, hx⟩
  clear qhTw00 qhTw01 qhTw02
  replace hX := hX.trans hx
  have z4 : w3.heap.size ≤ w4.heap.size := (by have := hx.size; simpa using this)
  replace hTw0 := hTw0.ext hx
  replace oua := oua.ext hx
  replace otw0 := otw0.ext hx
  replace oub := oub.ext hx
  have rgotg0 : ∀ k, blks tg0 k → w3.heap.size ≤ k ∧ k < w4.heap.size := (fun k hk => by have := otg0.lt hk; simpa using this)
  clear hx
  have hTg0 := Blk.new w4 24 (#[.slice tg0.x.A tg0.x.n tg0.x.c, .slice tg0.y.A tg0.y.n tg0.y.c, .slice tg0.z.A tg0.z.n tg0.z.c])
  replace hTw0 := hTw0.alloc (.cells #[.slice tg0.x.A tg0.x.n tg0.x.c, .slice tg0.y.A tg0.y.n tg0.y.c, .slice tg0.z.A tg0.z.n tg0.z.c] 24)
  replace oua := oua.alloc (.cells #[.slice tg0.x.A tg0.x.n tg0.x.c, .slice tg0.y.A tg0.y.n tg0.y.c, .slice tg0.z.A tg0.z.n tg0.z.c] 24)
  replace otw0 := otw0.alloc (.cells #[.slice tg0.x.A tg0.x.n tg0.x.c, .slice tg0.y.A tg0.y.n tg0.y.c, .slice tg0.z.A tg0.z.n tg0.z.c] 24)
  replace oub := oub.alloc (.cells #[.slice tg0.x.A tg0.x.n tg0.x.c, .slice tg0.y.A tg0.y.n tg0.y.c, .slice tg0.z.A tg0.z.n tg0.z.c] 24)
  replace otg0 := otg0.alloc (.cells #[.slice tg0.x.A tg0.x.n tg0.x.c, .slice tg0.y.A tg0.y.n tg0.y.c, .slice tg0.z.A tg0.z.n tg0.z.c] 24)
  replace hX := hX.alloc (.cells #[.slice tg0.x.A tg0.x.n tg0.x.c, .slice tg0.y.A tg0.y.n tg0.y.c, .slice tg0.z.A tg0.z.n tg0.z.c] 24)
  obtain ⟨qhTw00, qhTw01, qhTw02⟩ := hTw0.c3
  obtain ⟨qhTg00, qhTg01, qhTg02⟩ := hTg0.c3
  go_wp2_with fail
  refine (eqPanel_yes tg0 tw0 _ _ otg0.rd otw0.rd).mono ?_
  rintro e w5 ⟨rfl, hx⟩
  clear qhTw00 qhTw01 qhTw02 qhTg00 qhTg01 qhTg02
  replace hX := hX.trans hx
  have z5 : w4.heap.size + 1 ≤ w5.heap.size := (by have := hx.size; simpa using this)
  replace hTw0 := hTw0.ext hx
  replace hTg0 := hTg0.ext hx
  replace oua := oua.ext hx
  replace otw0 := otw0.ext hx
  replace oub := oub.ext hx
  replace otg0 := otg0.ext hx
  clear hx
  obtain ⟨qhTw00, qhTw01, qhTw02⟩ := hTw0.c3
  obtain ⟨qhTg00, qhTg01, qhTg02⟩ := hTg0.c3
  go_wp2_with fail
  refine (toInt64S_any u us _ (ru.ext hX)).mono ?_
  rintro e w6 ⟨ubc, rfl, oubc, hx⟩
  clear qhTw00 qhTw01 qhTw02 qhTg00 qhTg01 qhTg02
  replace hX := hX.trans hx
  have z6 : w5.heap.size ≤ w6.heap.size := (by have := hx.size; simpa using this)
  replace hTw0 := hTw0.ext hx
  replace hTg0 := hTg0.ext hx
  replace oua := oua.ext hx
  replace otw0 := otw0.ext hx
  replace oub := oub.ext hx
  replace otg0 := otg0.ext hx
  clear hx
  obtain ⟨qhTw00, qhTw01, qhTw02⟩ := hTw0.c3
  obtain ⟨qhTg00, qhTg01, qhTg02⟩ := hTg0.c3
  go_wp2_with fail
  refine (eqInt64S_yes ub ubc _ _ oub.rd (oubc.ext (Ext.refl _)).rd).mono ?_
  rintro e w7 ⟨rfl, hx⟩
  clear qhTw00 qhTw01 qhTw02 qhTg00 qhTg01 qhTg02
  replace hX := hX.trans hx
  have z7 : w6.heap.size ≤ w7.heap.size := (by have := hx.size; simpa using this)
  replace hTw0 := hTw0.ext hx
  replace hTg0 := hTg0.ext hx
  replace oua := oua.ext hx
  replace otw0 := otw0.ext hx
  replace oub := oub.ext hx
  replace otg0 := otg0.ext hx
  clear hx
  obtain ⟨qhTw00, qhTw01, qhTw02⟩ := hTw0.c3
  obtain ⟨qhTg00, qhTg01, qhTg02⟩ := hTg0.c3
  -- what came in is marked: the result is its own
  have leoub := oub.rd.le
  go_wp2_with fail
  refine (markInt64S_any ub _ 1 _ _ oub (by omega) (by omega)).mono ?_
  rintro e w8 ⟨rfl, oub', hf⟩
  clear qhTw00 qhTw01 qhTw02 qhTg00 qhTg01 qhTg02
  replace hX := hX.fr_trans hf (fun k hk => by have := rgoub k hk; omega)
  have z8 : w7.heap.size ≤ w8.heap.size := by have := hf.size; simpa using this
  replace hTw0 := hTw0.fr hf (fun hk => by have := rgoub _ hk; omega)
  replace hTg0 := hTg0.fr hf (fun hk => by have := rgoub _ hk; omega)
  replace oua := oua.fr hf (fun k h1 h2 => by have a1 := rgoua k h1; have a2 := rgoub k h2; omega)
  replace otw0 := otw0.fr hf (fun k h1 h2 => by have a1 := rgotw0 k h1; have a2 := rgoub k h2; omega)
  replace otg0 := otg0.fr hf (fun k h1 h2 => by have a1 := rgotg0 k h1; have a2 := rgoub k h2; omega)
  clear hf oub
  have oub := oub'
  clear oub'
  obtain ⟨qhTw00, qhTw01, qhTw02⟩ := hTw0.c3
  obtain ⟨qhTg00, qhTg01, qhTg02⟩ := hTg0.c3
  go_wp2_with fail
  refine (eqPanel_yes tg0 tw0 _ _ otg0.rd otw0.rd).mono ?_
  rintro e w9 ⟨rfl, hx⟩
  clear qhTw00 qhTw01 qhTw02 qhTg00 qhTg01 qhTg02
  replace hX := hX.trans hx
  have z9 : w8.heap.size ≤ w9.heap.size := (by have := hx.size; simpa using this)
  replace hTw0 := hTw0.ext hx
  replace hTg0 := hTg0.ext hx
  replace oua := oua.ext hx
  replace otw0 := otw0.ext hx
  replace oub := oub.ext hx
  replace otg0 := otg0.ext hx
  clear hx
  obtain ⟨qhTw00, qhTw01, qhTw02⟩ := hTw0.c3
  obtain ⟨qhTg00, qhTg01, qhTg02⟩ := hTg0.c3
  have leotg0 := len3_le otg0
  go_wp2_with fail
  refine (markPanel_any tg0 _ _ 1 _ otg0 (by omega) (by omega)).mono ?_
  rintro e w10 ⟨rfl, otg0', hf⟩
  clear qhTw00 qhTw01 qhTw02 qhTg00 qhTg01 qhTg02
  replace hX := hX.fr_trans hf (fun k hk => by have := rgotg0 k hk; omega)
  have z10 : w9.heap.size ≤ w10.heap.size := by have := hf.size; simpa using this
  replace hTw0 := hTw0.fr hf (fun hk => by have := rgotg0 _ hk; omega)
  replace hTg0 := hTg0.fr hf (fun hk => by have := rgotg0 _ hk; omega)
  replace oua := oua.fr hf (fun k h1 h2 => by have a1 := rgoua k h1; have a2 := rgotg0 k h2; omega)
  replace otw0 := otw0.fr hf (fun k h1 h2 => by have a1 := rgotw0 k h1; have a2 := rgotg0 k h2; omega)
  replace oub := oub.fr hf (fun k h1 h2 => by have a1 := rgoub k h1; have a2 := rgotg0 k h2; omega)
  clear hf otg0
  have otg0 := otg0'
  clear otg0'
  obtain ⟨qhTw00, qhTw01, qhTw02⟩ := hTw0.c3
  obtain ⟨qhTg00, qhTg01, qhTg02⟩ := hTg0.c3
  go_wp2_with fail
  refine (heldPanel_any tg0 1 _ otg0.rd (by omega) (by omega)).mono ?_
  rintro e w11 ⟨rfl, hx⟩
  clear qhTw00 qhTw01 qhTw02 qhTg00 qhTg01 qhTg02
  replace hX := hX.trans hx
  have z11 : w10.heap.size ≤ w11.heap.size := (by have := hx.size; simpa using this)
  replace hTw0 := hTw0.ext hx
  replace hTg0 := hTg0.ext hx
  replace oua := oua.ext hx
  replace otw0 := otw0.ext hx
  replace oub := oub.ext hx
  replace otg0 := otg0.ext hx
  clear hx
  obtain ⟨qhTw00, qhTw01, qhTw02⟩ := hTw0.c3
  obtain ⟨qhTg00, qhTg01, qhTg02⟩ := hTg0.c3
  go_wp2_with fail
  refine (toInt64S_any u us _ (ru.ext hX)).mono ?_
  rintro e w12 ⟨ud, rfl, oud, hx⟩
  clear qhTw00 qhTw01 qhTw02 qhTg00 qhTg01 qhTg02
  replace hX := hX.trans hx
  have z12 : w11.heap.size ≤ w12.heap.size := (by have := hx.size; simpa using this)
  replace hTw0 := hTw0.ext hx
  replace hTg0 := hTg0.ext hx
  replace oua := oua.ext hx
  replace otw0 := otw0.ext hx
  replace oub := oub.ext hx
  replace otg0 := otg0.ext hx
  have rgoud : ∀ k, Value.ownBlock (.slice ud.A ud.n ud.c) = some k → w11.heap.size ≤ k ∧ k < w12.heap.size := (fun k hk => by have := oud.lt k hk; simpa using this)
  clear hx
  obtain ⟨qhTw00, qhTw01, qhTw02⟩ := hTw0.c3
  obtain ⟨qhTg00, qhTg01, qhTg02⟩ := hTg0.c3
  go_wp2_with fail
  refine (impl.MakePanel_any ud us k _ oud.rd (by have := oud.rd.1; have := ru.1; omega) oud.cap).mono ?_
  rintro e w13 ⟨th0, rfl, oth0, hx⟩
  clear qhTw00 qhTw01 qhTw02 qhTg00 qhTg01 qhTg02
  replace hX := hX.trans hx
  have z13 : w12.heap.size ≤ w13.heap.size := (by have := hx.size; simpa using this)
  replace hTw0 := hTw0.ext hx
  replace hTg0 := hTg0.ext hx
  replace oua := oua.ext hx
  replace otw0 := otw0.ext hx
  replace oub := oub.ext hx
  replace otg0 := otg0.ext hx
  replace oud := oud.ext hx
  have rgoth0 : ∀ k, blks th0 k → w12.heap.size ≤ k ∧ k < w13.heap.size := (fun k hk => by have := oth0.lt hk; simpa using this)
  clear hx
  have hTh0 := Blk.new w13 24 (#[.slice th0.x.A th0.x.n th0.x.c, .slice th0.y.A th0.y.n th0.y.c, .slice th0.z.A th0.z.n th0.z.c])
  replace hTw0 := hTw0.alloc (.cells #[.slice th0.x.A th0.x.n th0.x.c, .slice th0.y.A th0.y.n th0.y.c, .slice th0.z.A th0.z.n th0.z.c] 24)
  replace hTg0 := hTg0.alloc (.cells #[.slice th0.x.A th0.x.n th0.x.c, .slice th0.y.A th0.y.n th0.y.c, .slice th0.z.A th0.z.n th0.z.c] 24)
  replace oua := oua.alloc (.cells #[.slice th0.x.A th0.x.n th0.x.c, .slice th0.y.A th0.y.n th0.y.c, .slice th0.z.A th0.z.n th0.z.c] 24)
  replace otw0 := otw0.alloc (.cells #[.slice th0.x.A th0.x.n th0.x.c, .slice th0.y.A th0.y.n th0.y.c, .slice th0.z.A th0.z.n th0.z.c] 24)
  replace oub := oub.alloc (.cells #[.slice th0.x.A th0.x.n th0.x.c, .slice th0.y.A th0.y.n th0.y.c, .slice th0.z.A th0.z.n th0.z.c] 24)
  replace otg0 := otg0.alloc (.cells #[.slice th0.x.A th0.x.n th0.x.c, .slice th0.y.A th0.y.n th0.y.c, .slice th0.z.A th0.z.n th0.z.c] 24)
  replace oud := oud.alloc (.cells #[.slice th0.x.A th0.x.n th0.x.c, .slice th0.y.A th0.y.n th0.y.c, .slice th0.z.A th0.z.n th0.z.c] 24)
  replace oth0 := oth0.alloc (.cells #[.slice th0.x.A th0.x.n th0.x.c, .slice th0.y.A th0.y.n th0.y.c, .slice th0.z.A th0.z.n th0.z.c] 24)
  replace hX := hX.alloc (.cells #[.slice th0.x.A th0.x.n th0.x.c, .slice th0.y.A th0.y.n th0.y.c, .slice th0.z.A th0.z.n th0.z.c] 24)
  obtain ⟨qhTw00, qhTw01, qhTw02⟩ := hTw0.c3
  obtain ⟨qhTg00, qhTg01, qhTg02⟩ := hTg0.c3
  obtain ⟨qhTh00, qhTh01, qhTh02⟩ := hTh0.c3
  go_wp2_with fail
  refine (eqPanel_yes th0 tw0 _ _ oth0.rd otw0.rd).mono ?_
  rintro e w14 ⟨rfl, hx⟩
  clear qhTw00 qhTw01 qhTw02 qhTg00 qhTg01 qhTg02 qhTh00 qhTh01 qhTh02
  replace hX := hX.trans hx
  have z14 : w13.heap.size + 1 ≤ w14.heap.size := (by have := hx.size; simpa using this)
  replace hTw0 := hTw0.ext hx
  replace hTg0 := hTg0.ext hx
  replace hTh0 := hTh0.ext hx
  replace oua := oua.ext hx
  replace otw0 := otw0.ext hx
  replace oub := oub.ext hx
  replace otg0 := otg0.ext hx
  replace oud := oud.ext hx
  replace oth0 := oth0.ext hx
  clear hx
  obtain ⟨qhTw00, qhTw01, qhTw02⟩ := hTw0.c3
  obtain ⟨qhTg00, qhTg01, qhTg02⟩ := hTg0.c3
  obtain ⟨qhTh00, qhTh01, qhTh02⟩ := hTh0.c3
  go_wp2_with fail
  refine (heldPanel_any tg0 1 _ otg0.rd (by omega) (by omega)).mono ?_
  rintro e w15 ⟨rfl, hx⟩
  clear qhTw00 qhTw01 qhTw02 qhTg00 qhTg01 qhTg02 qhTh00 qhTh01 qhTh02
  replace hX := hX.trans hx
  have z15 : w14.heap.size ≤ w15.heap.size := (by have := hx.size; simpa using this)
  replace hTw0 := hTw0.ext hx
  replace hTg0 := hTg0.ext hx
  replace hTh0 := hTh0.ext hx
  replace oua := oua.ext hx
  replace otw0 := otw0.ext hx
  replace oub := oub.ext hx
  replace otg0 := otg0.ext hx
  replace oud := oud.ext hx
  replace oth0 := oth0.ext hx
  clear hx
  obtain ⟨qhTw00, qhTw01, qhTw02⟩ := hTw0.c3
  obtain ⟨qhTg00, qhTg01, qhTg02⟩ := hTg0.c3
  obtain ⟨qhTh00, qhTh01, qhTh02⟩ := hTh0.c3
  go_wp2
  go_ret
  exact ⟨rfl, hX⟩
theorem own_MakePanel : ownKnob Try.prog.godebug = none := by kernel_rfl
set_option maxRecDepth 100000 in
theorem lifted_MakePanel (os : Os) (started : os.Started) (H : Type) (enc : TypeId × Value → H) :
    ReturnsInHanded {} Try.checked os 3 .any (Rows.fnExactMakePanelSpec.pre6 enc Try.prog Try.f3 Rows.fnExactMakePanelRow.domain false) (Rows.fnExactMakePanelSpec.post enc Try.prog Try.f3 false true false false) := by
  refine returnsInHanded_of_change (C := Try.checked) own_MakePanel started (by kernel_rfl) Try.func3
    (ChangeSpec.witness6 (enc := enc) (C := Try.checked) false ⟨#[], #[.slice none 0 0, .int .i64 0], []⟩ 8 (by kernel_rfl) (by kernel_rfl) (by kernel_rfl) (by kernel_rfl)) ?_
  intro W base args ds gs before hval0 hW hcnd _
  have hval : ∀ (j : Nat) t v, Try.f3.params[j]? = some t → args[j]? = some v → Value.okWide Try.prog W .any base t v := hval0
  have hW' := hW
  obtain ⟨p, q, hA0, hV, rfl, hfz, hnd⟩ := hW
  have hA : DataW.TrodAll enc Try.prog W 0 (fun _ => true) true Try.f3.params.toList args.toList ds p := hA0
  rw [Try.params3] at hA hval
  obtain ⟨v0, vs0, d0, ds0, p0, q0, hargs, rfl, rfl, h0, r0⟩ := trodAll_cons hA
  obtain ⟨v1, vs1, d1, ds1, p1, q1, rfl, rfl, rfl, h1, r1⟩ := trodAll_cons r0
  obtain ⟨rfl, rfl, rfl⟩ := trodAll_nil r1
  obtain rfl : args = #[v0, v1] := by cases args; simp_all
  obtain ⟨rfl, rfl⟩ := trodVars_none hV
  have k0 := h0
  have lt0 : ∀ x ∈ p0, x.block < W.heap.size := by obtain ⟨m, hm⟩ := k0; exact DataW.trod_lt m _ _ _ hm
  obtain ⟨s0, x0, rfl, i0⟩ := open_arg (hval 0 22 v0 rfl rfl) h0 (fun _ => rfl)
  have k1 := h1
  have lt1 : ∀ x ∈ p1, x.block < W.heap.size := by obtain ⟨m, hm⟩ := k1; exact DataW.trod_lt m _ _ _ hm
  obtain ⟨a1, rfl, _, _, w1⟩ := open_int Try.underlying2 (hval 1 2 v1 rfl rfl) h1
  clear hA0 hval0
  refine (law_MakePanel s0 x0 a1 W i0 (by simpa [Lit.wf, IntKind.min, IntKind.max, IntKind.signed, IntKind.bits] using w1)).mono fun e W' ⟨he, bel⟩ => ?_
  subst he
  exact ⟨_, rfl, _, _, _, [], _, [], hW', trodAll_mk1 (shut_bool Try.underlying4 _), (trodAll_cons_mk (Below.trod laidOut (by kernel_rfl) (of_decide_eq_true (by kernel_rfl)) k0 bel lt0) (trodAll_cons_mk (Below.trod laidOut (by kernel_rfl) (of_decide_eq_true (by kernel_rfl)) k1 bel lt1) trodAll_mk0)), rfl, Below.frame bel _, fun h => by cases h⟩
theorem over_MakePanel : Rows.fnExactMakePanelRow.holds Try.pinned (OpenSpec.ofChange Rows.fnExactMakePanelSpec) :=
  OpenClaim.holds_of_wide 3 Try.f3 rfl rfl rfl rfl rfl rfl rfl ⟨rfl, rfl, rfl, rfl, rfl⟩ rfl rfl rfl rfl rfl (by kernel_rfl) Try.func3 (by kernel_rfl)
    (of_decide_eq_true (by kernel_rfl)) (by unfold Func.isWrapper; first | (rw [if_pos (by decide +kernel)]; kernel_rfl) | (rw [if_neg (by decide +kernel)]; exact ⟨rfl, rfl⟩))
    (fun os started H enc _ => lifted_MakePanel os started H enc)
/-- the statement -/
theorem proved_MakePanel : Rows.FnExactMakePanelSaid := over_MakePanel
#print axioms proved_MakePanel
end Go.Proofs.Ytfaiigihdokpjaa.mem
