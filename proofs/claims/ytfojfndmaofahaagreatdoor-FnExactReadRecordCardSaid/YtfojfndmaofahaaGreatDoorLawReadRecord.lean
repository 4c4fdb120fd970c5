/-
  The law FnExactReadRecord holds of the given program for every input: it returns true, and each argument reads as it did.
-/
import Derived.Test.YtfojfndmaofahaaGreatDoorOpen
import Derived.Test.YtfojfndmaofahaaGreatDoorRr
import Derived.Test.YtfojfndmaofahaaGreatDoorLbS
import Derived.Test.YtfojfndmaofahaaGreatDoorTie
import Derived.Test.YtfojfndmaofahaaGreatDoorCards
import Derived.SevenTiedAt
import Derived.LaidMore
import Derived.Stop.Joined
import Derived.HandedShaped
import Derived.Stop.LaidErr
import Derived.Lib.SmallJoins
import Derived.Lib.LaidTab
import Derived.Lay
import Derived.ChangeMaps5
namespace Go.Proofs.YtfojfndmaofahaaGreatDoor.mem
open Go.ChangeShapes Go.WideShapes Go.ChangeAt Go.RowKit
set_option linter.unusedVariables false
set_option maxHeartbeats 4000000 in
theorem law_ReadRecord (u : ByteArray) (w : World) (bu : u.size ≤ maxLen) (hL : Lb w) :
    Calls Tryz.prog 4 #[.string u] w fun e w' => e = .returned (.bool true) ∧ Ext w w' := by
  have hX := Ext.refl w
  have mu := bu
  unfold maxLen at mu
  by_cases hs : u.size ≤ 1048576
  case neg =>
    go_enter Tryz.func4, Tryz.ntmps4
    go_wp2
    go_ret
    exact ⟨rfl, hX⟩
  go_enter Tryz.func4, Tryz.ntmps4
  go_wp2_with fail
  refine (spec.ReadRecord_any u _  hs).mono ?_
  rintro e w1 ⟨tw0, rfl, otw0, hx⟩
  replace hX := hX.trans hx
  have z1 : w.heap.size ≤ w1.heap.size := (by have := hx.size; simpa using this)
  have rgotw0 : ∀ k, blksR tw0 k → w.heap.size ≤ k ∧ k < w1.heap.size := (fun k hk => by have := otw0.lt hk; simpa using this)
  clear hx
  have hTw0 := Blk.new w1 36 (#[.int .i64 tw0.a, .int .i64 tw0.b, .int .i64 tw0.c, .slice tw0.p.x.A tw0.p.x.n tw0.p.x.c, .int .i64 tw0.d, .slice tw0.p.y.A tw0.p.y.n tw0.p.y.c, .slice tw0.p.z.A tw0.p.z.n tw0.p.z.c, .int .i64 tw0.e, .int .i64 tw0.f])
  replace otw0 := otw0.alloc (.cells #[.int .i64 tw0.a, .int .i64 tw0.b, .int .i64 tw0.c, .slice tw0.p.x.A tw0.p.x.n tw0.p.x.c, .int .i64 tw0.d, .slice tw0.p.y.A tw0.p.y.n tw0.p.y.c, .slice tw0.p.z.A tw0.p.z.n tw0.p.z.c, .int .i64 tw0.e, .int .i64 tw0.f] 36)
  replace hX := hX.alloc (.cells #[.int .i64 tw0.a, .int .i64 tw0.b, .int .i64 tw0.c, .slice tw0.p.x.A tw0.p.x.n tw0.p.x.c, .int .i64 tw0.d, .slice tw0.p.y.A tw0.p.y.n tw0.p.y.c, .slice tw0.p.z.A tw0.p.z.n tw0.p.z.c, .int .i64 tw0.e, .int .i64 tw0.f] 36)
  obtain ⟨qhTw00, qhTw01, qhTw02, qhTw03, qhTw04, qhTw05, qhTw06, qhTw07, qhTw08⟩ := hTw0.c9
  go_wp2_with fail
  refine (impl.ReadRecord_any u _  hs (hL.ext hX)).mono ?_
  rintro e w2 ⟨tg0, rfl, otg0, hx⟩
  clear qhTw00 qhTw01 qhTw02 qhTw03 qhTw04 qhTw05 qhTw06 qhTw07 qhTw08
  replace hX := hX.trans hx
  have z2 : w1.heap.size + 1 ≤ w2.heap.size := (by have := hx.size; simpa using this)
  replace hTw0 := hTw0.ext hx
  replace otw0 := otw0.ext hx
  have rgotg0 : ∀ k, blksR tg0 k → w1.heap.size + 1 ≤ k ∧ k < w2.heap.size := (fun k hk => by have := otg0.lt hk; simpa using this)
  clear hx
  have hTg0 := Blk.new w2 36 (#[.int .i64 tg0.a, .int .i64 tg0.b, .int .i64 tg0.c, .slice tg0.p.x.A tg0.p.x.n tg0.p.x.c, .int .i64 tg0.d, .slice tg0.p.y.A tg0.p.y.n tg0.p.y.c, .slice tg0.p.z.A tg0.p.z.n tg0.p.z.c, .int .i64 tg0.e, .int .i64 tg0.f])
  replace hTw0 := hTw0.alloc (.cells #[.int .i64 tg0.a, .int .i64 tg0.b, .int .i64 tg0.c, .slice tg0.p.x.A tg0.p.x.n tg0.p.x.c, .int .i64 tg0.d, .slice tg0.p.y.A tg0.p.y.n tg0.p.y.c, .slice tg0.p.z.A tg0.p.z.n tg0.p.z.c, .int .i64 tg0.e, .int .i64 tg0.f] 36)
  replace otw0 := otw0.alloc (.cells #[.int .i64 tg0.a, .int .i64 tg0.b, .int .i64 tg0.c, .slice tg0.p.x.A tg0.p.x.n tg0.p.x.c, .int .i64 tg0.d, .slice tg0.p.y.A tg0.p.y.n tg0.p.y.c, .slice tg0.p.z.A tg0.p.z.n tg0.p.z.c, .int .i64 tg0.e, .int .i64 tg0.f] 36)
  replace otg0 := otg0.alloc (.cells #[.int .i64 tg0.a, .int .i64 tg0.b, .int .i64 tg0.c, .slice tg0.p.x.A tg0.p.x.n tg0.p.x.c, .int .i64 tg0.d, .slice tg0.p.y.A tg0.p.y.n tg0.p.y.c, .slice tg0.p.z.A tg0.p.z.n tg0.p.z.c, .int .i64 tg0.e, .int .i64 tg0.f] 36)
  replace hX := hX.alloc (.cells #[.int .i64 tg0.a, .int .i64 tg0.b, .int .i64 tg0.c, .slice tg0.p.x.A tg0.p.x.n tg0.p.x.c, .int .i64 tg0.d, .slice tg0.p.y.A tg0.p.y.n tg0.p.y.c, .slice tg0.p.z.A tg0.p.z.n tg0.p.z.c, .int .i64 tg0.e, .int .i64 tg0.f] 36)
  obtain ⟨qhTw00, qhTw01, qhTw02, qhTw03, qhTw04, qhTw05, qhTw06, qhTw07, qhTw08⟩ := hTw0.c9
  obtain ⟨qhTg00, qhTg01, qhTg02, qhTg03, qhTg04, qhTg05, qhTg06, qhTg07, qhTg08⟩ := hTg0.c9
  go_wp2_with fail
  refine (eqRecord_yes tg0 tw0 _ _ otg0.rd otw0.rd).mono ?_
  rintro e w3 ⟨rfl, hx⟩
  clear qhTw00 qhTw01 qhTw02 qhTw03 qhTw04 qhTw05 qhTw06 qhTw07 qhTw08 qhTg00 qhTg01 qhTg02 qhTg03 qhTg04 qhTg05 qhTg06 qhTg07 qhTg08
  replace hX := hX.trans hx
  have z3 : w2.heap.size + 1 ≤ w3.heap.size := (by have := hx.size; simpa using this)
  replace hTw0 := hTw0.ext hx
  replace hTg0 := hTg0.ext hx
  replace otw0 := otw0.ext hx
  replace otg0 := otg0.ext hx
  clear hx
  obtain ⟨qhTw00, qhTw01, qhTw02, qhTw03, qhTw04, qhTw05, qhTw06, qhTw07, qhTw08⟩ := hTw0.c9
  obtain ⟨qhTg00, qhTg01, qhTg02, qhTg03, qhTg04, qhTg05, qhTg06, qhTg07, qhTg08⟩ := hTg0.c9
  -- what came in is marked: the result is its own
  have leotg0 := len3_le otg0.1
  go_wp2_with fail
  refine (markRecord_any tg0 _ _ 1 _ otg0 (by omega) (by omega)).mono ?_
  rintro e w4 ⟨rfl, otg0', hf⟩
  clear qhTw00 qhTw01 qhTw02 qhTw03 qhTw04 qhTw05 qhTw06 qhTw07 qhTw08 qhTg00 qhTg01 qhTg02 qhTg03 qhTg04 qhTg05 qhTg06 qhTg07 qhTg08
  replace hX := hX.fr_trans hf (fun k hk => by have := rgotg0 k hk; omega)
  have z4 : w3.heap.size ≤ w4.heap.size := by have := hf.size; simpa using this
  replace hTw0 := hTw0.fr hf (fun hk => by have := rgotg0 _ hk; omega)
  replace hTg0 := hTg0.fr hf (fun hk => by have := rgotg0 _ hk; omega)
  replace otw0 := otw0.fr hf (fun k h1 h2 => by have a1 := rgotw0 k h1; have a2 := rgotg0 k h2; omega)
  clear hf otg0
  have otg0 := otg0'
  clear otg0'
  obtain ⟨qhTw00, qhTw01, qhTw02, qhTw03, qhTw04, qhTw05, qhTw06, qhTw07, qhTw08⟩ := hTw0.c9
  obtain ⟨qhTg00, qhTg01, qhTg02, qhTg03, qhTg04, qhTg05, qhTg06, qhTg07, qhTg08⟩ := hTg0.c9
  go_wp2_with fail
  refine (heldRecord_any tg0 1 _ otg0.rd (by omega) (by omega)).mono ?_
  rintro e w5 ⟨rfl, hx⟩
  clear qhTw00 qhTw01 qhTw02 qhTw03 qhTw04 qhTw05 qhTw06 qhTw07 qhTw08 qhTg00 qhTg01 qhTg02 qhTg03 qhTg04 qhTg05 qhTg06 qhTg07 qhTg08
  replace hX := hX.trans hx
  have z5 : w4.heap.size ≤ w5.heap.size := (by have := hx.size; simpa using this)
  replace hTw0 := hTw0.ext hx
  replace hTg0 := hTg0.ext hx
  replace otw0 := otw0.ext hx
  replace otg0 := otg0.ext hx
  clear hx
  obtain ⟨qhTw00, qhTw01, qhTw02, qhTw03, qhTw04, qhTw05, qhTw06, qhTw07, qhTw08⟩ := hTw0.c9
  obtain ⟨qhTg00, qhTg01, qhTg02, qhTg03, qhTg04, qhTg05, qhTg06, qhTg07, qhTg08⟩ := hTg0.c9
  go_wp2_with fail
  refine (impl.ReadRecord_any u _  hs (hL.ext hX)).mono ?_
  rintro e w6 ⟨th0, rfl, oth0, hx⟩
  clear qhTw00 qhTw01 qhTw02 qhTw03 qhTw04 qhTw05 qhTw06 qhTw07 qhTw08 qhTg00 qhTg01 qhTg02 qhTg03 qhTg04 qhTg05 qhTg06 qhTg07 qhTg08
  replace hX := hX.trans hx
  have z6 : w5.heap.size ≤ w6.heap.size := (by have := hx.size; simpa using this)
  replace hTw0 := hTw0.ext hx
  replace hTg0 := hTg0.ext hx
  replace otw0 := otw0.ext hx
  replace otg0 := otg0.ext hx
  have rgoth0 : ∀ k, blksR th0 k → w5.heap.size ≤ k ∧ k < w6.heap.size := (fun k hk => by have := oth0.lt hk; simpa using this)
  clear hx
  have hTh0 := Blk.new w6 36 (#[.int .i64 th0.a, .int .i64 th0.b, .int .i64 th0.c, .slice th0.p.x.A th0.p.x.n th0.p.x.c, .int .i64 th0.d, .slice th0.p.y.A th0.p.y.n th0.p.y.c, .slice th0.p.z.A th0.p.z.n th0.p.z.c, .int .i64 th0.e, .int .i64 th0.f])
  replace hTw0 := hTw0.alloc (.cells #[.int .i64 th0.a, .int .i64 th0.b, .int .i64 th0.c, .slice th0.p.x.A th0.p.x.n th0.p.x.c, .int .i64 th0.d, .slice th0.p.y.A th0.p.y.n th0.p.y.c, .slice th0.p.z.A th0.p.z.n th0.p.z.c, .int .i64 th0.e, .int .i64 th0.f] 36)
  replace hTg0 := hTg0.alloc (.cells #[.int .i64 th0.a, .int .i64 th0.b, .int .i64 th0.c, .slice th0.p.x.A th0.p.x.n th0.p.x.c, .int .i64 th0.d, .slice th0.p.y.A th0.p.y.n th0.p.y.c, .slice th0.p.z.A th0.p.z.n th0.p.z.c, .int .i64 th0.e, .int .i64 th0.f] 36)
  replace otw0 := otw0.alloc (.cells #[.int .i64 th0.a, .int .i64 th0.b, .int .i64 th0.c, .slice th0.p.x.A th0.p.x.n th0.p.x.c, .int .i64 th0.d, .slice th0.p.y.A th0.p.y.n th0.p.y.c, .slice th0.p.z.A th0.p.z.n th0.p.z.c, .int .i64 th0.e, .int .i64 th0.f] 36)
  replace otg0 := otg0.alloc (.cells #[.int .i64 th0.a, .int .i64 th0.b, .int .i64 th0.c, .slice th0.p.x.A th0.p.x.n th0.p.x.c, .int .i64 th0.d, .slice th0.p.y.A th0.p.y.n th0.p.y.c, .slice th0.p.z.A th0.p.z.n th0.p.z.c, .int .i64 th0.e, .int .i64 th0.f] 36)
  replace oth0 := oth0.alloc (.cells #[.int .i64 th0.a, .int .i64 th0.b, .int .i64 th0.c, .slice th0.p.x.A th0.p.x.n th0.p.x.c, .int .i64 th0.d, .slice th0.p.y.A th0.p.y.n th0.p.y.c, .slice th0.p.z.A th0.p.z.n th0.p.z.c, .int .i64 th0.e, .int .i64 th0.f] 36)
  replace hX := hX.alloc (.cells #[.int .i64 th0.a, .int .i64 th0.b, .int .i64 th0.c, .slice th0.p.x.A th0.p.x.n th0.p.x.c, .int .i64 th0.d, .slice th0.p.y.A th0.p.y.n th0.p.y.c, .slice th0.p.z.A th0.p.z.n th0.p.z.c, .int .i64 th0.e, .int .i64 th0.f] 36)
  obtain ⟨qhTw00, qhTw01, qhTw02, qhTw03, qhTw04, qhTw05, qhTw06, qhTw07, qhTw08⟩ := hTw0.c9
  obtain ⟨qhTg00, qhTg01, qhTg02, qhTg03, qhTg04, qhTg05, qhTg06, qhTg07, qhTg08⟩ := hTg0.c9
  obtain ⟨qhTh00, qhTh01, qhTh02, qhTh03, qhTh04, qhTh05, qhTh06, qhTh07, qhTh08⟩ := hTh0.c9
  go_wp2_with fail
  refine (eqRecord_yes th0 tw0 _ _ oth0.rd otw0.rd).mono ?_
  rintro e w7 ⟨rfl, hx⟩
  clear qhTw00 qhTw01 qhTw02 qhTw03 qhTw04 qhTw05 qhTw06 qhTw07 qhTw08 qhTg00 qhTg01 qhTg02 qhTg03 qhTg04 qhTg05 qhTg06 qhTg07 qhTg08 qhTh00 qhTh01 qhTh02 qhTh03 qhTh04 qhTh05 qhTh06 qhTh07 qhTh08
  replace hX := hX.trans hx
  have z7 : w6.heap.size + 1 ≤ w7.heap.size := (by have := hx.size; simpa using this)
  replace hTw0 := hTw0.ext hx
  replace hTg0 := hTg0.ext hx
  replace hTh0 := hTh0.ext hx
  replace otw0 := otw0.ext hx
  replace otg0 := otg0.ext hx
  replace oth0 := oth0.ext hx
  clear hx
  obtain ⟨qhTw00, qhTw01, qhTw02, qhTw03, qhTw04, qhTw05, qhTw06, qhTw07, qhTw08⟩ := hTw0.c9
  obtain ⟨qhTg00, qhTg01, qhTg02, qhTg03, qhTg04, qhTg05, qhTg06, qhTg07, qhTg08⟩ := hTg0.c9
  obtain ⟨qhTh00, qhTh01, qhTh02, qhTh03, qhTh04, qhTh05, qhTh06, qhTh07, qhTh08⟩ := hTh0.c9
  go_wp2_with fail
  refine (heldRecord_any tg0 1 _ otg0.rd (by omega) (by omega)).mono ?_
  rintro e w8 ⟨rfl, hx⟩
  clear qhTw00 qhTw01 qhTw02 qhTw03 qhTw04 qhTw05 qhTw06 qhTw07 qhTw08 qhTg00 qhTg01 qhTg02 qhTg03 qhTg04 qhTg05 qhTg06 qhTg07 qhTg08 qhTh00 qhTh01 qhTh02 qhTh03 qhTh04 qhTh05 qhTh06 qhTh07 qhTh08
  replace hX := hX.trans hx
  have z8 : w7.heap.size ≤ w8.heap.size := (by have := hx.size; simpa using this)
  replace hTw0 := hTw0.ext hx
  replace hTg0 := hTg0.ext hx
  replace hTh0 := hTh0.ext hx
  replace otw0 := otw0.ext hx
  replace otg0 := otg0.ext hx
  replace oth0 := oth0.ext hx
  clear hx
  obtain ⟨qhTw00, qhTw01, qhTw02, qhTw03, qhTw04, qhTw05, qhTw06, qhTw07, qhTw08⟩ := hTw0.c9
  obtain ⟨qhTg00, qhTg01, qhTg02, qhTg03, qhTg04, qhTg05, qhTg06, qhTg07, qhTg08⟩ := hTg0.c9
  obtain ⟨qhTh00, qhTh01, qhTh02, qhTh03, qhTh04, qhTh05, qhTh06, qhTh07, qhTh08⟩ := hTh0.c9
  go_wp2
  go_ret
  exact ⟨rfl, hX⟩
theorem own_ReadRecord : ownKnob Tryz.prog.godebug = none := by kernel_rfl
theorem laid_ReadRecord {W : World} (h : laidMetH Tryz.prog (Rows.fnExactReadRecordRow.laid) W) : laidMet Tryz.prog (Rows.fnExactReadRecordRow.laid) W := by
  rw [MakeChecks.laidMetH_plain _ _ _ (by kernel_rfl)] at h
  exact h
/-- a world that holds what the row lists: the door's own run -/
theorem met_4 (os : Os) (args : Array Value) : laidMetH Tryz.prog (Rows.fnExactReadRecordRow.laid) ((World.laidAll Tryz.prog os (Rows.fnExactReadRecordRow.laid)).forCall (fun _ _ => 0) ⟨#[], args, []⟩).memory := by
  rw [MakeChecks.laidMetH_plain _ _ _ (by kernel_rfl)]; exact laidMet_laidAll _ (by kernel_rfl) (by kernel_rfl)
set_option maxRecDepth 100000 in
theorem lifted_4 (os : Os) (started : os.Started) (H : Type) (enc : TypeId × Value → H) :
    ReturnsInHanded {} Tryz.checked os 4 .any (fun w args => (Rows.fnExactReadRecordSpec.pre enc Tryz.prog Tryz.f4 [] false w args ∧ laidMetH Tryz.prog (Rows.fnExactReadRecordRow.laid) w) ∧ sizedMet enc Tryz.prog Tryz.f4 (OpenSpec.ofChange Rows.fnExactReadRecordSpec) false w args)
      (Rows.fnExactReadRecordSpec.post enc Tryz.prog Tryz.f4 false true false false) := by
  refine handed_both (C := Tryz.checked) (X := fun w _ => laidMetH Tryz.prog (Rows.fnExactReadRecordRow.laid) w) (fun _ _ _ hh h => h.of_heap hh) own_ReadRecord started (by kernel_rfl) Tryz.func4
    (ChangeSpec.witness_shaped (enc := enc) (C := Tryz.checked) (os := os) (X := fun w _ => laidMetH Tryz.prog (Rows.fnExactReadRecordRow.laid) w) false (World.laidAll Tryz.prog os (Rows.fnExactReadRecordRow.laid)) #[.string ⟨#[]⟩] 8 (World.laidAll_os _ _ _) (World.shaped_of_ZipB (by kernel_rfl) (by kernel_rfl)) (by kernel_rfl) (by kernel_rfl) (by kernel_rfl) (met_4 os _)) ?_
  intro W base args ds gs before hval0 hW hL hShp
  have hval : ∀ (j : Nat) t v, Tryz.f4.params[j]? = some t → args[j]? = some v → Value.okWide Tryz.prog W .any base t v := hval0
  have hW' := hW
  obtain ⟨p, q, hA0, hV, rfl, hfz, hnd⟩ := hW
  have hA : DataW.TrodAll enc Tryz.prog W 0 (fun _ => true) true Tryz.f4.params.toList args.toList ds p := hA0
  rw [Tryz.params4] at hA hval
  obtain ⟨v0, vs0, d0, ds0, p0, q0, hargs, rfl, rfl, h0, r0⟩ := trodAll_cons hA
  obtain ⟨rfl, rfl, rfl⟩ := trodAll_nil r0
  obtain rfl : args = #[v0] := by cases args; simp_all
  obtain ⟨rfl, rfl⟩ := trodVars_none hV
  have k0 := h0
  have lt0 : ∀ x ∈ p0, x.block < W.heap.size := by obtain ⟨m, hm⟩ := k0; exact DataW.trod_lt m _ _ _ hm
  obtain ⟨a0, rfl, _, _, w0⟩ := Go.ChangeMaps.open_string Tryz.underlying9 (hval 0 9 v0 rfl rfl) h0
  clear hA0 hval0
  refine (law_ReadRecord a0 W w0 (Lb.of_list (laid_ReadRecord hL) hShp)).mono fun e W' ⟨he, bel⟩ => ?_
  subst he
  exact ⟨_, rfl, _, _, _, [], _, [], hW', trodAll_mk1 (shut_bool Tryz.underlying4 _), (trodAll_cons_mk (Below.trod laidOut (by kernel_rfl) (of_decide_eq_true (by kernel_rfl)) k0 bel lt0) trodAll_mk0), rfl, Below.frame bel _, fun h => by cases h⟩
theorem over_ReadRecord : Rows.FnExactReadRecordSaid :=
  OpenClaim.holds_of_wide 4 Tryz.f4 rfl rfl rfl rfl rfl rfl rfl ⟨rfl, rfl, rfl, rfl, rfl⟩ rfl rfl rfl rfl rfl (by kernel_rfl) Tryz.func4 (by kernel_rfl)
    (of_decide_eq_true (by kernel_rfl)) (by unfold Func.isWrapper; first | (rw [if_pos (by decide +kernel)]; kernel_rfl) | (rw [if_neg (by decide +kernel)]; exact ⟨rfl, rfl⟩))
    (fun os started H enc _ => lifted_4 os started H enc)
/-- the statement: the tied card -/
theorem proved_ReadRecord : Rows.FnExactReadRecordCardSaid :=
  Claim7.holds_tied_plain_at .later [] _ true _ _
    over_ReadRecord (fun _ h => by cases h) (by kernel_rfl) (fun _ h => by cases h) fnExactReadRecord_row_tie rfl ⟨rfl, rfl⟩ (by kernel_rfl) rfl
    (fun f fn hf hfn => by
      obtain rfl : f = 4 := Option.some.inj ((show Tryz.prog.funcNamed Rows.fnExactReadRecordRow.func = some 4 by kernel_rfl).symm.trans hf) |>.symm
      obtain rfl : fn = Tryz.f4 := (Option.some.inj (Tryz.func4.symm.trans hfn)).symm
      exact ⟨by kernel_rfl, fun j t ht => by
        have hall : (Tryz.f4.params.toList.all fun u => !Tryz.prog.wantsStandIn u) = true := by kernel_rfl
        have hm : t ∈ Tryz.f4.params.toList := by simpa using Array.mem_of_getElem? ht
        exact (show Tryz.prog.wantsStandIn t = false by simpa using List.all_eq_true.1 hall t hm)⟩)
    (by kernel_rfl)
#print axioms proved_ReadRecord
end Go.Proofs.YtfojfndmaofahaaGreatDoor.mem
