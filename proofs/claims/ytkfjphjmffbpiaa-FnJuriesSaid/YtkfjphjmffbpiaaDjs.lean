/-
  Draws of a jury and numbers, as the laws use them.
-/
import Derived.Test.YtkfjphjmffbpiaaDrJ
import Derived.Test.YtkfjphjmffbpiaaDrW
namespace Go.Proofs.Ytkfjphjmffbpiaa.mem
open Go.ChangeShapes Go.WideShapes Go.ChangeAt Go.RowKit

/-- a jury, or a panel, and a number are drawn -/
def PjP (w : World) (e : Ending) (w' : World) : Prop := ∃ (p : S3) (l : L3) (x : Int), e = .returned (.tuple #[.agg #[.slice p.x.A p.x.n p.x.c, .slice p.y.A p.y.n p.y.c, .slice p.z.A p.z.n p.z.c], .int .i64 x]) ∧ Own3 w' w.heap.size p l ∧ (-9223372036854775808 ≤ x ∧ x ≤ 9223372036854775807) ∧ Ext w w'
set_option maxRecDepth 20000 in
set_option maxHeartbeats 4000000 in
theorem spec.DrawLeaveJury_any (s : Sl) (w : World) (hc : Code w s) :
    Calls Try.prog 50 #[.slice s.A s.n s.c] w fun e w' => ∃ (p : S3) (l : L3) (x : Int), e = .returned (.tuple #[.agg #[.slice p.x.A p.x.n p.x.c, .slice p.y.A p.y.n p.y.c, .slice p.z.A p.z.n p.z.c], .int .i64 x]) ∧ Own3 w' w.heap.size p l ∧ Ext w w' := by
  have hR := Blk.new w 26 #[.slice none 0 0, .slice none 0 0, .slice none 0 0]
  have hX := (Ext.refl w).alloc (.cells #[.slice none 0 0, .slice none 0 0, .slice none 0 0] 26)
  go_enter Try.func50, Try.ntmps50
  go_wp2_with fail
  refine (spec.l01From_any s w _ hX hc).mono ?_
  rintro e w1 ⟨g, rfl, hg, hD, hx1⟩
  rw [World.size_alloc] at hg
  replace hR := hR.ext hx1
  replace hX := hX.trans hx1
  have hz1 := hR.lt
  have hgl := hD.lt
  clear hx1
  go_wp2_with fail
  refine (spec.l15Draw_any g s w _ hD).mono ?_
  rintro e w2 ⟨p, l, rfl, hp, hb, hD2, hO⟩
  replace hR := hR.only hO (by omega)
  replace hX := hX.only hO (by omega)
  have hz2 := hO.size
  clear hD hO
  have hB := Blk.new w2 26 #[.slice p.x.A p.x.n p.x.c, .slice p.y.A p.y.n p.y.c, .slice p.z.A p.z.n p.z.c]
  replace hp := hp.alloc (.cells #[.slice p.x.A p.x.n p.x.c, .slice p.y.A p.y.n p.y.c, .slice p.z.A p.z.n p.z.c] 26)
  replace hR := hR.alloc (.cells #[.slice p.x.A p.x.n p.x.c, .slice p.y.A p.y.n p.y.c, .slice p.z.A p.z.n p.z.c] 26)
  replace hX := hX.alloc (.cells #[.slice p.x.A p.x.n p.x.c, .slice p.y.A p.y.n p.y.c, .slice p.z.A p.z.n p.z.c] 26)
  replace hD2 := hD2.alloc (.cells #[.slice p.x.A p.x.n p.x.c, .slice p.y.A p.y.n p.y.c, .slice p.z.A p.z.n p.z.c] 26)
  have hzb : w.heap.size < w2.heap.size := by omega
  have n1 : ¬ w.heap.size = w2.heap.size := by omega
  have n2 : ¬ w2.heap.size = w.heap.size := by omega
  have n3 : w2.heap.size ≠ w.heap.size := n2
  obtain ⟨k0a, k0b, k0c⟩ := hB.c3
  replace hp := hp.drew
  replace hR := hR.drew
  replace hX := hX.drew
  replace hB := hB.drew
  replace hD2 := hD2.drew
  have hk := spec.l15Number_any g s p l w _ hD2 hp.rd (by omega)
  have k0 := hB.c3
  go_wp2_with fail
  go_region_held3 (fun w' => w'.cell? ⟨w2.heap.size, 0, none⟩ = some (.slice p.x.A p.x.n p.x.c) ∧ w'.cell? ⟨w2.heap.size, 1, none⟩ = some (.slice p.y.A p.y.n p.y.c) ∧ w'.cell? ⟨w2.heap.size, 2, none⟩ = some (.slice p.z.A p.z.n p.z.c)) (first | exact k2 | exact k1 | exact k0 | go_keep | fail) (first | (go_at_call 111; refine hk.mono ?_; rintro e w9 ⟨x, rfl, hD9, hO9⟩; replace hB := hB.only hO9 (by omega); replace hR := hR.only hO9 (by omega); replace hX := hX.only hO9 (by omega); replace hp := hp.only hO9 (by omega); obtain ⟨r0, r1, r2, r3, r4, r5⟩ := res3 hR; have k1 := hB.c3; have k2 := (((hB.off w.heap.size 0 n3 (.slice p.x.A p.x.n p.x.c)).off w.heap.size 1 n3 (.slice p.y.A p.y.n p.y.c)).off w.heap.size 2 n3 (.slice p.z.A p.z.n p.z.c)).c3) | fail)
  have m := Blk.c3 (((hR.set_ 0 (.slice p.x.A p.x.n p.x.c)).set_ 1 (.slice p.y.A p.y.n p.y.c)).set_ 2 (.slice p.z.A p.z.n p.z.c))
  have hpn := ((hp.awayP (g := w.heap.size) (by omega) 0 (.slice p.x.A p.x.n p.x.c)).awayP (g := w.heap.size) (by omega) 1 (.slice p.y.A p.y.n p.y.c)).awayP (g := w.heap.size) (by omega) 2 (.slice p.z.A p.z.n p.z.c)
  have hXn := ((hX.off w.heap.size 0 (by omega) (.slice p.x.A p.x.n p.x.c)).off w.heap.size 1 (by omega) (.slice p.y.A p.y.n p.y.c)).off w.heap.size 2 (by omega) (.slice p.z.A p.z.n p.z.c)
  clear k0 k1 k2 hB
  go_wp2_with fail
  refine bodyPost_ret (v := .tuple #[.agg #[.slice p.x.A p.x.n p.x.c, .slice p.y.A p.y.n p.y.c, .slice p.z.A p.z.n p.z.c], .int .i64 x]) (by simp [results, Try.results50, go_sem, m.1, m.2.1, m.2.2]) rfl ⟨p, l, _, rfl, hpn.mono (by omega), hXn⟩
set_option maxRecDepth 20000 in
set_option maxHeartbeats 4000000 in
theorem spec.DrawRoleOf_any (s : Sl) (w : World) (hc : Code w s) :
    Calls Try.prog 60 #[.slice s.A s.n s.c] w fun e w' => ∃ (p : S3) (l : L3) (x : Int), e = .returned (.tuple #[.agg #[.slice p.x.A p.x.n p.x.c, .slice p.y.A p.y.n p.y.c, .slice p.z.A p.z.n p.z.c], .int .i64 x]) ∧ Own3 w' w.heap.size p l ∧ Ext w w' := by
  have hR := Blk.new w 26 #[.slice none 0 0, .slice none 0 0, .slice none 0 0]
  have hX := (Ext.refl w).alloc (.cells #[.slice none 0 0, .slice none 0 0, .slice none 0 0] 26)
  go_enter Try.func60, Try.ntmps60
  go_wp2_with fail
  refine (spec.DrawLeaveJury_any s _ (hc.ext hX)).mono ?_
  rintro e w1 ⟨p, l, x, rfl, hp, hx⟩
  rw [World.size_alloc] at hp
  replace hR := hR.ext hx
  replace hX := hX.trans hx
  obtain ⟨r0, r1, r2, r3, r4, r5⟩ := res3 hR
  have m := Blk.c3 (((hR.set_ 0 (.slice p.x.A p.x.n p.x.c)).set_ 1 (.slice p.y.A p.y.n p.y.c)).set_ 2 (.slice p.z.A p.z.n p.z.c))
  have hpn := ((hp.awayP (g := w.heap.size) (by omega) 0 (.slice p.x.A p.x.n p.x.c)).awayP (g := w.heap.size) (by omega) 1 (.slice p.y.A p.y.n p.y.c)).awayP (g := w.heap.size) (by omega) 2 (.slice p.z.A p.z.n p.z.c)
  have hXn := ((hX.off w.heap.size 0 (by omega) (.slice p.x.A p.x.n p.x.c)).off w.heap.size 1 (by omega) (.slice p.y.A p.y.n p.y.c)).off w.heap.size 2 (by omega) (.slice p.z.A p.z.n p.z.c)
  clear hx
  go_wp2_with fail
  refine bodyPost_ret (v := .tuple #[.agg #[.slice p.x.A p.x.n p.x.c, .slice p.y.A p.y.n p.y.c, .slice p.z.A p.z.n p.z.c], .int .i64 x]) (by simp [results, Try.results60, go_sem, m.1, m.2.1, m.2.2]) rfl ⟨p, l, x, rfl, hpn.mono (by omega), hXn⟩
set_option maxRecDepth 20000 in
set_option maxHeartbeats 2500000 in
theorem spec.DrawMembersOf_any (s : Sl) (w : World) (hc : Code w s) :
    Calls Try.prog 11 #[.slice s.A s.n s.c] w fun e w' => ∃ (p : S3) (l : L3), e = .returned (.agg #[.slice p.x.A p.x.n p.x.c, .slice p.y.A p.y.n p.y.c, .slice p.z.A p.z.n p.z.c]) ∧ Own3 w' w.heap.size p l ∧ (l.x.length ≤ 70 ∧ l.y.length ≤ 70 ∧ l.z.length ≤ 70) ∧ Ext w w' := by
  have hR := Blk.new w 26 #[.slice none 0 0, .slice none 0 0, .slice none 0 0]
  have hX := (Ext.refl w).alloc (.cells #[.slice none 0 0, .slice none 0 0, .slice none 0 0] 26)
  go_enter Try.func11, Try.ntmps11
  go_wp2_with fail
  refine (spec.l01From_any s w _ hX hc).mono ?_
  rintro e w1 ⟨g, rfl, hg, hD, hx1⟩
  rw [World.size_alloc] at hg
  replace hR := hR.ext hx1
  replace hX := hX.trans hx1
  have hz1 := hR.lt
  clear hx1
  go_wp2_with fail
  refine (spec.l15Draw_any g s w _ hD).mono ?_
  rintro e w2 ⟨p, l, rfl, hp, hb, hD2, hO⟩
  replace hR := hR.only hO (by omega)
  replace hX := hX.only hO (by omega)
  clear hD hD2 hO
  obtain ⟨r0, r1, r2, r3, r4, r5⟩ := res3 hR
  have m := Blk.c3 (((hR.set_ 0 (.slice p.x.A p.x.n p.x.c)).set_ 1 (.slice p.y.A p.y.n p.y.c)).set_ 2 (.slice p.z.A p.z.n p.z.c))
  have hpn := ((hp.awayP (g := w.heap.size) (by omega) 0 (.slice p.x.A p.x.n p.x.c)).awayP (g := w.heap.size) (by omega) 1 (.slice p.y.A p.y.n p.y.c)).awayP (g := w.heap.size) (by omega) 2 (.slice p.z.A p.z.n p.z.c)
  have hXn := ((hX.off w.heap.size 0 (by omega) (.slice p.x.A p.x.n p.x.c)).off w.heap.size 1 (by omega) (.slice p.y.A p.y.n p.y.c)).off w.heap.size 2 (by omega) (.slice p.z.A p.z.n p.z.c)
  go_wp2_with fail
  refine bodyPost_ret (v := .agg #[.slice p.x.A p.x.n p.x.c, .slice p.y.A p.y.n p.y.c, .slice p.z.A p.z.n p.z.c]) (by simp [results, Try.results11, go_sem, m.1, m.2.1, m.2.2]) rfl ⟨p, l, rfl, hpn.mono (by omega), hb, hXn⟩
set_option maxRecDepth 20000 in
set_option maxHeartbeats 4000000 in
theorem spec.DrawMayGoOn_any (s : Sl) (w : World) (hc : Code w s) :
    Calls Try.prog 113 #[.slice s.A s.n s.c] w fun e w' => PjP w e w' := by
  have hR := Blk.new w 26 #[.slice none 0 0, .slice none 0 0, .slice none 0 0]
  have hX := (Ext.refl w).alloc (.cells #[.slice none 0 0, .slice none 0 0, .slice none 0 0] 26)
  go_enter Try.func113, Try.ntmps113
  go_wp2_with fail
  refine (spec.l01From_any s w _ hX hc).mono ?_
  rintro e w1 ⟨g, rfl, hg, hD, hx1⟩
  rw [World.size_alloc] at hg
  replace hR := hR.ext hx1
  replace hX := hX.trans hx1
  have hz1 := hR.lt
  have hgl := hD.lt
  clear hx1
  go_wp2_with fail
  refine (spec.l15Draw_any g s w _ hD).mono ?_
  rintro e w2 ⟨p, l, rfl, hp, hb, hD2, hO⟩
  replace hR := hR.only hO (by omega)
  replace hX := hX.only hO (by omega)
  have hz2 := hO.size
  clear hD hO
  have hB := Blk.new w2 26 #[.slice p.x.A p.x.n p.x.c, .slice p.y.A p.y.n p.y.c, .slice p.z.A p.z.n p.z.c]
  replace hp := hp.alloc (.cells #[.slice p.x.A p.x.n p.x.c, .slice p.y.A p.y.n p.y.c, .slice p.z.A p.z.n p.z.c] 26)
  replace hR := hR.alloc (.cells #[.slice p.x.A p.x.n p.x.c, .slice p.y.A p.y.n p.y.c, .slice p.z.A p.z.n p.z.c] 26)
  replace hX := hX.alloc (.cells #[.slice p.x.A p.x.n p.x.c, .slice p.y.A p.y.n p.y.c, .slice p.z.A p.z.n p.z.c] 26)
  replace hD2 := hD2.alloc (.cells #[.slice p.x.A p.x.n p.x.c, .slice p.y.A p.y.n p.y.c, .slice p.z.A p.z.n p.z.c] 26)
  have hzb : w.heap.size < w2.heap.size := by omega
  have n1 : ¬ w.heap.size = w2.heap.size := by omega
  have n2 : ¬ w2.heap.size = w.heap.size := by omega
  have n3 : w2.heap.size ≠ w.heap.size := n2
  obtain ⟨k0a, k0b, k0c⟩ := hB.c3
  clear k0a k0b k0c
  replace hp := hp.drew
  replace hR := hR.drew
  replace hX := hX.drew
  replace hB := hB.drew
  replace hD2 := hD2.drew
  have hkA := spec.l01Next_any g s 6 w _ hD2 (by omega)
  have hkB := fun W h => spec.l01Next_any g s 6 w W h (by omega)
  have k0 := hB.c3
  go_wp2_with fail
  go_region_held3 (fun w' => w'.cell? ⟨w2.heap.size, 0, none⟩ = some (.slice p.x.A p.x.n p.x.c) ∧ w'.cell? ⟨w2.heap.size, 1, none⟩ = some (.slice p.y.A p.y.n p.y.c) ∧ w'.cell? ⟨w2.heap.size, 2, none⟩ = some (.slice p.z.A p.z.n p.z.c)) (first | exact k2 | exact kD | exact kC | exact kB | exact kA | exact k0 | go_keep | fail) (first | (go_at_call 67; refine hkA.mono ?_; rintro e w8 ⟨a, rfl, ⟨a0, a1⟩, hD8, hO8⟩; clear hkA; have hwa : IntKind.i64.wrap (1 + a) = 1 + a := Go.IntWalk.i64_in _ (by omega); replace hB := hB.only hO8 (by omega); replace hR := hR.only hO8 (by omega); replace hX := hX.only hO8 (by omega); replace hp := hp.only hO8 (by omega); have kA := hB.c3) | (go_at_call 67; refine (hkB _ hD8).mono ?_; rintro e w9 ⟨b, rfl, ⟨b0, b1⟩, hD9, hO9⟩; clear hkB; have hwb : IntKind.i64.wrap (1 + b) = 1 + b := Go.IntWalk.i64_in _ (by omega); replace hB := hB.only hO9 (by omega); replace hR := hR.only hO9 (by omega); replace hX := hX.only hO9 (by omega); replace hp := hp.only hO9 (by omega); have kB := hB.c3; have hl9 := hD9.lt; have hp9 := spec.l01Pick_any g w9.heap.size s [1 + a, 1 + b, 12, 13, 0] w (w9.alloc (.cells #[.int .i64 (1 + a), .int .i64 (1 + b), .int .i64 12, .int .i64 13, .int .i64 0] 2)) (hD9.alloc _) (Blk.new w9 2 _) (by omega) (by simp) (by simp); replace hB := hB.alloc (.cells #[.int .i64 (1 + a), .int .i64 (1 + b), .int .i64 12, .int .i64 13, .int .i64 0] 2); replace hR := hR.alloc (.cells #[.int .i64 (1 + a), .int .i64 (1 + b), .int .i64 12, .int .i64 13, .int .i64 0] 2); replace hX := hX.alloc (.cells #[.int .i64 (1 + a), .int .i64 (1 + b), .int .i64 12, .int .i64 13, .int .i64 0] 2); replace hp := hp.alloc (.cells #[.int .i64 (1 + a), .int .i64 (1 + b), .int .i64 12, .int .i64 13, .int .i64 0] 2); have kC := hB.c3) | (go_at_call 87; refine hp9.mono ?_; rintro e w10 ⟨x, rfl, hxm, hD10, hO10⟩; replace hB := hB.only hO10 (by omega); replace hR := hR.only hO10 (by omega); replace hX := hX.only hO10 (by omega); replace hp := hp.only hO10 (by omega); have kD := hB.c3; have hxb : -9223372036854775808 ≤ x ∧ x ≤ 9223372036854775807 := (by simp only [List.mem_cons, List.not_mem_nil, or_false] at hxm; omega); obtain ⟨r0, r1, r2, r3, r4, r5⟩ := res3 hR; have k1 := hB.c3; have k2 := (((hB.off w.heap.size 0 n3 (.slice p.x.A p.x.n p.x.c)).off w.heap.size 1 n3 (.slice p.y.A p.y.n p.y.c)).off w.heap.size 2 n3 (.slice p.z.A p.z.n p.z.c)).c3) | fail)
  clear k0 kA kB kC kD hp9
  have m := Blk.c3 (((hR.set_ 0 (.slice p.x.A p.x.n p.x.c)).set_ 1 (.slice p.y.A p.y.n p.y.c)).set_ 2 (.slice p.z.A p.z.n p.z.c))
  have hpn := ((hp.awayP (g := w.heap.size) (by omega) 0 (.slice p.x.A p.x.n p.x.c)).awayP (g := w.heap.size) (by omega) 1 (.slice p.y.A p.y.n p.y.c)).awayP (g := w.heap.size) (by omega) 2 (.slice p.z.A p.z.n p.z.c)
  have hXn := ((hX.off w.heap.size 0 (by omega) (.slice p.x.A p.x.n p.x.c)).off w.heap.size 1 (by omega) (.slice p.y.A p.y.n p.y.c)).off w.heap.size 2 (by omega) (.slice p.z.A p.z.n p.z.c)
  clear k2 hB
  go_wp2_with fail
  refine bodyPost_ret (v := .tuple #[.agg #[.slice p.x.A p.x.n p.x.c, .slice p.y.A p.y.n p.y.c, .slice p.z.A p.z.n p.z.c], .int .i64 x]) (by simp [results, Try.results113, go_sem, m.1, m.2.1, m.2.2]) rfl ⟨p, l, _, rfl, hpn.mono (by omega), hxb, hXn⟩
set_option maxRecDepth 20000 in
set_option maxHeartbeats 4000000 in
theorem spec.DrawLossesBorne_any (s : Sl) (w : World) (hc : Code w s) :
    Calls Try.prog 55 #[.slice s.A s.n s.c] w fun e w' => PjP w e w' := by
  have hR := Blk.new w 26 #[.slice none 0 0, .slice none 0 0, .slice none 0 0]
  have hX := (Ext.refl w).alloc (.cells #[.slice none 0 0, .slice none 0 0, .slice none 0 0] 26)
  go_enter Try.func55, Try.ntmps55
  go_wp2_with fail
  refine (spec.DrawMayGoOn_any s _ (hc.ext hX)).mono ?_
  rintro e w1 ⟨p, l, x, rfl, hp, hb, hx⟩
  rw [World.size_alloc] at hp
  replace hR := hR.ext hx
  replace hX := hX.trans hx
  obtain ⟨r0, r1, r2, r3, r4, r5⟩ := res3 hR
  have m := Blk.c3 (((hR.set_ 0 (.slice p.x.A p.x.n p.x.c)).set_ 1 (.slice p.y.A p.y.n p.y.c)).set_ 2 (.slice p.z.A p.z.n p.z.c))
  have hpn := ((hp.awayP (g := w.heap.size) (by omega) 0 (.slice p.x.A p.x.n p.x.c)).awayP (g := w.heap.size) (by omega) 1 (.slice p.y.A p.y.n p.y.c)).awayP (g := w.heap.size) (by omega) 2 (.slice p.z.A p.z.n p.z.c)
  have hXn := ((hX.off w.heap.size 0 (by omega) (.slice p.x.A p.x.n p.x.c)).off w.heap.size 1 (by omega) (.slice p.y.A p.y.n p.y.c)).off w.heap.size 2 (by omega) (.slice p.z.A p.z.n p.z.c)
  clear hx
  go_wp2_with fail
  refine bodyPost_ret (v := .tuple #[.agg #[.slice p.x.A p.x.n p.x.c, .slice p.y.A p.y.n p.y.c, .slice p.z.A p.z.n p.z.c], .int .i64 x]) (by simp [results, Try.results55, go_sem, m.1, m.2.1, m.2.2]) rfl ⟨p, l, x, rfl, hpn.mono (by omega), hb, hXn⟩
set_option maxRecDepth 20000 in
set_option maxHeartbeats 4000000 in
theorem spec.DrawSwearJury_any (s : Sl) (w : World) (hc : Code w s) :
    Calls Try.prog 52 #[.slice s.A s.n s.c] w fun e w' => ∃ (p : S3) (l : L3) (y x : Int), e = .returned (.tuple #[.agg #[.slice p.x.A p.x.n p.x.c, .slice p.y.A p.y.n p.y.c, .slice p.z.A p.z.n p.z.c], .int .i64 y, .int .i64 x]) ∧ Own3 w' w.heap.size p l ∧ (-9223372036854775808 ≤ y ∧ y ≤ 9223372036854775807) ∧ (-9223372036854775808 ≤ x ∧ x ≤ 9223372036854775807) ∧ Ext w w' := by
  have hR := Blk.new w 38 #[.slice none 0 0, .slice none 0 0, .slice none 0 0]
  have hX := (Ext.refl w).alloc (.cells #[.slice none 0 0, .slice none 0 0, .slice none 0 0] 38)
  go_enter Try.func52, Try.ntmps52
  go_wp2_with fail
  refine (spec.l01From_any s w _ hX hc).mono ?_
  rintro e w1 ⟨g, rfl, hg, hD, hx1⟩
  rw [World.size_alloc] at hg
  replace hR := hR.ext hx1
  replace hX := hX.trans hx1
  have hz1 := hR.lt
  have hgl := hD.lt
  clear hx1
  go_wp2_with fail
  refine (spec.l12Draw_any g s w _ hD).mono ?_
  rintro e w2 ⟨p, l, rfl, hp, hb, hD2, hO⟩
  replace hR := hR.only hO (by omega)
  replace hX := hX.only hO (by omega)
  have hz2 := hO.size
  clear hD hO
  have hB := Blk.new w2 38 #[.slice p.x.A p.x.n p.x.c, .slice p.y.A p.y.n p.y.c, .slice p.z.A p.z.n p.z.c]
  replace hp := hp.alloc (.cells #[.slice p.x.A p.x.n p.x.c, .slice p.y.A p.y.n p.y.c, .slice p.z.A p.z.n p.z.c] 38)
  replace hR := hR.alloc (.cells #[.slice p.x.A p.x.n p.x.c, .slice p.y.A p.y.n p.y.c, .slice p.z.A p.z.n p.z.c] 38)
  replace hX := hX.alloc (.cells #[.slice p.x.A p.x.n p.x.c, .slice p.y.A p.y.n p.y.c, .slice p.z.A p.z.n p.z.c] 38)
  replace hD2 := hD2.alloc (.cells #[.slice p.x.A p.x.n p.x.c, .slice p.y.A p.y.n p.y.c, .slice p.z.A p.z.n p.z.c] 38)
  have hzb : w.heap.size < w2.heap.size := by omega
  have n1 : ¬ w.heap.size = w2.heap.size := by omega
  have n2 : ¬ w2.heap.size = w.heap.size := by omega
  have n3 : w2.heap.size ≠ w.heap.size := n2
  have hk5 := fun W h => spec.l01Next_any g s 5 w W h (by omega)
  go_wp2_with fail
  refine (hk5 _ hD2).mono ?_
  rintro e w3 ⟨c, rfl, ⟨c0, c1⟩, hD3, hO3⟩
  replace hB := hB.only hO3 (by omega)
  replace hR := hR.only hO3 (by omega)
  replace hX := hX.only hO3 (by omega)
  replace hp := hp.only hO3 (by omega)
  have hwc : IntKind.i64.wrap (1 + c) = 1 + c := Go.IntWalk.i64_in _ (by omega)
  go_wp2_with fail
  refine (hk5 _ hD3).mono ?_
  rintro e w4 ⟨d, rfl, ⟨d0, d1⟩, hD4, hO4⟩
  replace hB := hB.only hO4 (by omega)
  replace hR := hR.only hO4 (by omega)
  replace hX := hX.only hO4 (by omega)
  replace hp := hp.only hO4 (by omega)
  have hwd : IntKind.i64.wrap (1 + d) = 1 + d := Go.IntWalk.i64_in _ (by omega)
  have hl4 := hD4.lt
  have hp4 := spec.l01Pick_any g w4.heap.size s [1 + c, 1 + d, 12, 13, 0] w (w4.alloc (.cells #[.int .i64 (1 + c), .int .i64 (1 + d), .int .i64 12, .int .i64 13, .int .i64 0] 2)) (hD4.alloc _) (Blk.new w4 2 _) (by omega) (by simp) (by simp)
  replace hB := hB.alloc (.cells #[.int .i64 (1 + c), .int .i64 (1 + d), .int .i64 12, .int .i64 13, .int .i64 0] 2)
  replace hR := hR.alloc (.cells #[.int .i64 (1 + c), .int .i64 (1 + d), .int .i64 12, .int .i64 13, .int .i64 0] 2)
  replace hX := hX.alloc (.cells #[.int .i64 (1 + c), .int .i64 (1 + d), .int .i64 12, .int .i64 13, .int .i64 0] 2)
  replace hp := hp.alloc (.cells #[.int .i64 (1 + c), .int .i64 (1 + d), .int .i64 12, .int .i64 13, .int .i64 0] 2)
  go_wp2_with fail
  refine hp4.mono ?_
  rintro e w5 ⟨y, rfl, hym, hD5, hO5⟩
  replace hB := hB.only hO5 (by omega)
  replace hR := hR.only hO5 (by omega)
  replace hX := hX.only hO5 (by omega)
  replace hp := hp.only hO5 (by omega)
  have hyb : -9223372036854775808 ≤ y ∧ y ≤ 9223372036854775807 := by simp only [List.mem_cons, List.not_mem_nil, or_false] at hym; omega
  clear hD2 hD3 hD4 hO3 hO4 hO5 hp4 hk5 hym hwc hwd c0 c1 d0 d1
  replace hp := hp.drew
  replace hR := hR.drew
  replace hX := hX.drew
  replace hB := hB.drew
  replace hD5 := hD5.drew
  have hkA := spec.l01Next_any g s 3 w _ hD5 (by omega)
  have hkB := fun W h => spec.l01Next_any g s 3 w W h (by omega)
  have k0 := hB.c3
  go_wp2_with fail
  go_region_held3 (fun w' => w'.cell? ⟨w2.heap.size, 0, none⟩ = some (.slice p.x.A p.x.n p.x.c) ∧ w'.cell? ⟨w2.heap.size, 1, none⟩ = some (.slice p.y.A p.y.n p.y.c) ∧ w'.cell? ⟨w2.heap.size, 2, none⟩ = some (.slice p.z.A p.z.n p.z.c)) (first | exact k2 | exact kD | exact kC | exact kB | exact kA | exact k0 | go_keep | fail) (first | (go_at_call 67; refine hkA.mono ?_; rintro e w8 ⟨a, rfl, ⟨a0, a1⟩, hD8, hO8⟩; clear hkA; replace hB := hB.only hO8 (by omega); replace hR := hR.only hO8 (by omega); replace hX := hX.only hO8 (by omega); replace hp := hp.only hO8 (by omega); have kA := hB.c3) | (go_at_call 67; refine (hkB _ hD8).mono ?_; rintro e w9 ⟨b, rfl, ⟨b0, b1⟩, hD9, hO9⟩; clear hkB; replace hB := hB.only hO9 (by omega); replace hR := hR.only hO9 (by omega); replace hX := hX.only hO9 (by omega); replace hp := hp.only hO9 (by omega); have kB := hB.c3; have hl9 := hD9.lt; have hp9 := spec.l01Pick_any g w9.heap.size s [a, b, 6, 7] w (w9.alloc (.cells #[.int .i64 a, .int .i64 b, .int .i64 6, .int .i64 7] 2)) (hD9.alloc _) (Blk.new w9 2 _) (by omega) (by simp) (by simp); replace hB := hB.alloc (.cells #[.int .i64 a, .int .i64 b, .int .i64 6, .int .i64 7] 2); replace hR := hR.alloc (.cells #[.int .i64 a, .int .i64 b, .int .i64 6, .int .i64 7] 2); replace hX := hX.alloc (.cells #[.int .i64 a, .int .i64 b, .int .i64 6, .int .i64 7] 2); replace hp := hp.alloc (.cells #[.int .i64 a, .int .i64 b, .int .i64 6, .int .i64 7] 2); have kC := hB.c3) | (go_at_call 87; refine hp9.mono ?_; rintro e w10 ⟨x, rfl, hxm, hD10, hO10⟩; replace hB := hB.only hO10 (by omega); replace hR := hR.only hO10 (by omega); replace hX := hX.only hO10 (by omega); replace hp := hp.only hO10 (by omega); have kD := hB.c3; have hxb : -9223372036854775808 ≤ x ∧ x ≤ 9223372036854775807 := (by simp only [List.mem_cons, List.not_mem_nil, or_false] at hxm; omega); obtain ⟨r0, r1, r2, r3, r4, r5⟩ := res3 hR; have k1 := hB.c3; have k2 := (((hB.off w.heap.size 0 n3 (.slice p.x.A p.x.n p.x.c)).off w.heap.size 1 n3 (.slice p.y.A p.y.n p.y.c)).off w.heap.size 2 n3 (.slice p.z.A p.z.n p.z.c)).c3) | fail)
  clear k0 kA kB kC kD hp9
  have m := Blk.c3 (((hR.set_ 0 (.slice p.x.A p.x.n p.x.c)).set_ 1 (.slice p.y.A p.y.n p.y.c)).set_ 2 (.slice p.z.A p.z.n p.z.c))
  have hpn := ((hp.awayP (g := w.heap.size) (by omega) 0 (.slice p.x.A p.x.n p.x.c)).awayP (g := w.heap.size) (by omega) 1 (.slice p.y.A p.y.n p.y.c)).awayP (g := w.heap.size) (by omega) 2 (.slice p.z.A p.z.n p.z.c)
  have hXn := ((hX.off w.heap.size 0 (by omega) (.slice p.x.A p.x.n p.x.c)).off w.heap.size 1 (by omega) (.slice p.y.A p.y.n p.y.c)).off w.heap.size 2 (by omega) (.slice p.z.A p.z.n p.z.c)
  clear k2 hB
  go_wp2_with fail
  refine bodyPost_ret (v := .tuple #[.agg #[.slice p.x.A p.x.n p.x.c, .slice p.y.A p.y.n p.y.c, .slice p.z.A p.z.n p.z.c], .int .i64 y, .int .i64 x]) (by simp [results, Try.results52, go_sem, m.1, m.2.1, m.2.2]) rfl ⟨p, l, _, _, rfl, hpn.mono (by omega), hyb, hxb, hXn⟩
/-- a jury has been drawn into block b, the result's block is w's first -/
structure ShI (w0 w : World) (g : Nat) (s : Sl) (b c : Nat) (p : S3) (l : L3) (wr : World) : Prop where
  res : Blk wr w.heap.size 26 #[.slice none 0 0, .slice none 0 0, .slice none 0 0]
  var : Blk wr b 26 #[.slice p.x.A p.x.n p.x.c, .slice p.y.A p.y.n p.y.c, .slice p.z.A p.z.n p.z.c]
  own : Own3 wr c p l
  dr : Dr w0 wr g s
  ex : Ext w wr
  apt : ∀ k, blks p k → k < b
  gb : g < b
  wb : w.heap.size < b ∧ w.heap.size < g
  gc : g < c ∧ w.heap.size < c
section
variable {w0 w wr w2 : World} {g b c : Nat} {s : Sl} {p : S3} {l : L3}
theorem ShI.only (h : ShI w0 w g s b c p l wr) (hO : Only g wr w2) (hD : Dr w0 w2 g s) : ShI w0 w g s b c p l w2 := by
  have h1 := h.gb
  have h2 := h.wb
  exact ⟨h.res.only hO (by omega), h.var.only hO (by omega), h.own.only hO h.gc.1, hD, h.ex.only hO (by omega), h.apt, h1, h2, h.gc⟩
theorem ShI.ext (h : ShI w0 w g s b c p l wr) (hx : Ext wr w2) : ShI w0 w g s b c p l w2 := ⟨h.res.ext hx, h.var.ext hx, h.own.ext hx, h.dr.more hx, h.ex.trans hx, h.apt, h.gb, h.wb, h.gc⟩
theorem ShI.grow {row : Option Nat} (h : ShI w0 w g s b c p l wr) (hg : wr.grownBy w2 row) (hr : ∀ k, row = some k → b + 1 ≤ k) : ShI w0 w g s b c p l w2 := by
  have h1 := h.gb
  have h2 := h.wb
  have hF := Fr.of_grown hg
  have hl := h.dr.ext.size
  exact ⟨h.res.fr hF (fun e => by have := hr _ e; omega), h.var.fr hF (fun e => by have := hr _ e; omega), h.own.fr hF (fun k hk e => by have := hr _ e; have := h.apt k hk; omega), h.dr.keep hF (fun e => by have := hr _ e; omega) (fun k e => by have := hr _ e; have := h.dr.low; omega), h.ex.grow hg (fun k e => by have := hr _ e; omega), h.apt, h1, h2, h.gc⟩
end
set_option maxRecDepth 20000 in
set_option maxHeartbeats 8000000 in
theorem spec.DrawSeatHistory_any (s : Sl) (w : World) (hc : Code w s) :
    Calls Try.prog 8 #[.slice s.A s.n s.c] w fun e w' => ∃ (p : S3) (l : L3) (t : Sl) (ms : List Int) (x : Int), e = .returned (.tuple #[.agg #[.slice p.x.A p.x.n p.x.c, .slice p.y.A p.y.n p.y.c, .slice p.z.A p.z.n p.z.c], .slice t.A t.n t.c, .int .i64 x]) ∧ Own3 w' w.heap.size p l ∧ Own w' w.heap.size (.slice t.A t.n t.c) ms ∧ ms.length ≤ 200 ∧ (-9223372036854775808 ≤ x ∧ x ≤ 9223372036854775807) ∧ Ext w w' := by
  have hR := Blk.new w 26 #[.slice none 0 0, .slice none 0 0, .slice none 0 0]
  have hX := (Ext.refl w).alloc (.cells #[.slice none 0 0, .slice none 0 0, .slice none 0 0] 26)
  go_enter Try.func8, Try.ntmps8
  go_wp2_with fail
  refine (spec.l01From_any s w _ hX hc).mono ?_
  rintro e w1 ⟨g, rfl, hg, hD, hx1⟩
  rw [World.size_alloc] at hg
  replace hR := hR.ext hx1
  replace hX := hX.trans hx1
  have hz1 := hR.lt
  have hgl := hD.lt
  clear hx1
  go_wp2_with fail
  refine (spec.l15Draw_any g s w _ hD).mono ?_
  rintro e w2 ⟨p, l, rfl, hp, hb, hD2, hO⟩
  replace hR := hR.only hO (by omega)
  replace hX := hX.only hO (by omega)
  have hz2 := hO.size
  clear hD hO
  have hpb := fun k (hk : blks p k) => (hp.lt hk).2
  have hB := Blk.new w2 26 #[.slice p.x.A p.x.n p.x.c, .slice p.y.A p.y.n p.y.c, .slice p.z.A p.z.n p.z.c]
  replace hp := hp.alloc (.cells #[.slice p.x.A p.x.n p.x.c, .slice p.y.A p.y.n p.y.c, .slice p.z.A p.z.n p.z.c] 26)
  replace hR := hR.alloc (.cells #[.slice p.x.A p.x.n p.x.c, .slice p.y.A p.y.n p.y.c, .slice p.z.A p.z.n p.z.c] 26)
  replace hX := hX.alloc (.cells #[.slice p.x.A p.x.n p.x.c, .slice p.y.A p.y.n p.y.c, .slice p.z.A p.z.n p.z.c] 26)
  replace hD2 := hD2.alloc (.cells #[.slice p.x.A p.x.n p.x.c, .slice p.y.A p.y.n p.y.c, .slice p.z.A p.z.n p.z.c] 26)
  have hzb : w.heap.size < w2.heap.size := by omega
  have hlx := hide hp.rd.1.1
  have hly := hide hp.rd.2.1.1
  replace hb := hide hb
  obtain ⟨LO, hLO⟩ : ∃ LO, Hid (LO = w2.heap.size + 1) := ⟨_, rfl⟩
  replace hp := hp.drew
  replace hR := hR.drew
  replace hX := hX.drew
  replace hB := hB.drew
  replace hD2 := hD2.drew
  have hk1 := spec.l01Own_any p.x l.x _ hp.rd.1
  have hb1 : l.x.length + p.y.n ≤ 16777216 := by have := hb.out; have := hly.out; omega
  have k0 := hB.c3
  have hzA : w2.heap.size < (World.drew (w2.alloc (.cells #[.slice p.x.A p.x.n p.x.c, .slice p.y.A p.y.n p.y.c, .slice p.z.A p.z.n p.z.c] 26))).heap.size := hB.lt
  go_wp2_with fail
  go_region_held3 (fun w' => w'.cell? ⟨w2.heap.size, 0, none⟩ = some (.slice p.x.A p.x.n p.x.c) ∧ w'.cell? ⟨w2.heap.size, 1, none⟩ = some (.slice p.y.A p.y.n p.y.c) ∧ w'.cell? ⟨w2.heap.size, 2, none⟩ = some (.slice p.z.A p.z.n p.z.c)) (first | exact k2 | exact k1 | exact k0 | go_keep | fail) (first | (go_at_call 66; refine hk1.mono ?_; rintro e w3 ⟨t1, rfl, ho1, hx1⟩; have hz3 := hx1.size; have k1 := (hB.ext hx1).c3; have hp3 := hp.ext hx1) | (refine step_app _ (by rfl) (.tmp 17) (.tmp 19) (by rfl) _ _ _ (by rfl) ho1 _ _ _ l.y (by rfl) hp3.rd.2.1 hb1 hz3 ?_; intro t2 w4 ho2 hg2 hd2; have hX4 := hx1.grow hg2 (fun k hk => (ho1.lt k hk).1); have k2 := (hB.ext hX4).c3) | fail)
  replace ho2 := ho2.mono (lo' := w2.heap.size + 1) (by have := hzA; omega)
  have hlt2 : ∀ k, Value.ownBlock (.slice t2.A t2.n t2.c) = some k → k < w4.heap.size := fun k hk => (ho2.lt k hk).2
  replace hp := hp.ext hX4
  replace hR := hR.ext hX4
  replace hX := hX.trans hX4
  replace hB := hB.ext hX4
  replace hD2 := hD2.more hX4
  have hz4 := hX4.size
  have hal := hide (show (l.x ++ l.y).length ≤ 140 by have := hb.out; simp; omega)
  generalize l.x ++ l.y = al at ho2 hal
  clear k0 k1 k2 hk1 hx1 ho1 hp3 hg2 hd2 hX4 hb1 hz3 hlx hly
  have hk5 := fun W h => spec.l01Next_any g s 5 w W h (by omega)
  have oN := Own.new0 w4 (w2.heap.size + 1) (by omega)
  replace hp := hp.alloc (.cells #[] 2)
  replace hR := hR.alloc (.cells #[] 2)
  replace hX := hX.alloc (.cells #[] 2)
  replace hB := hB.alloc (.cells #[] 2)
  replace ho2 := ho2.alloc (.cells #[] 2)
  replace hD2 := hD2.alloc (.cells #[] 2)
  go_wp2_with fail
  refine (hk5 _ hD2).mono ?_
  rintro e w5 ⟨x, rfl, ⟨x0, x1⟩, hD5, hO5⟩
  replace hB := hB.only hO5 (by omega)
  replace hR := hR.only hO5 (by omega)
  replace hX := hX.only hO5 (by omega)
  replace hp := hp.only hO5 (by omega)
  replace ho2 := ho2.only hO5 (by omega)
  replace oN := oN.only hO5 (by omega)
  obtain ⟨m0, rfl⟩ := Int.eq_ofNat_of_zero_le x0
  have hm0 : m0 ≤ 4 := by omega
  clear hD2 hO5 x0 x1 hk5 hz4 hzA
  have hI : ShI w w g s w2.heap.size w1.heap.size p l w5 := ⟨hR, hB, hp, hD5, hX, hpb, by omega, by omega, by omega⟩
  have hapN : ∀ k, Value.ownBlock (.slice t2.A t2.n t2.c) = some k → Value.ownBlock (.slice (some ⟨w4.heap.size, 0, none⟩) 0 0) ≠ some k := fun k h1 h2 => by have a := ownBlock_eq h2; have b := hlt2 k h1; omega
  clear hR hB hp hX
  go_wp2_with fail
  go_loopw [7, 8, 9, 10] (fun av hv nv _ wr => ∃ (m : Nat) (ta th : Sl) (al hs : List Int), nv = .int .i64 m ∧ av = .slice ta.A ta.n ta.c ∧ hv = .slice th.A th.n th.c ∧ m ≤ 4 ∧ Own wr (w2.heap.size + 1) (.slice ta.A ta.n ta.c) al ∧ Own wr (w2.heap.size + 1) (.slice th.A th.n th.c) hs ∧ Hid (al.length ≤ 140) ∧ Hid (hs.length + m ≤ 4) ∧ apart (.slice ta.A ta.n ta.c) (.slice th.A th.n th.c) ∧ ShI w w g s w2.heap.size w1.heap.size p l wr ∧ Hid (ta.n = al.length)) (fun _ _ nv _ _ => (intOf nv).toNat)
  case atStart => exact ⟨m0, t2, ⟨some ⟨w4.heap.size, 0, none⟩, 0, 0⟩, al, [], rfl, rfl, rfl, hm0, ho2, oN, hal, hide (by simpa using hm0), hapN, hI, ho2.rd.1⟩
  case round =>
    clear ho2 oN hapN hI hal hm0
    obtain ⟨m, ta, th, al, hs, rfl, rfl, rfl, hm4, hoa, hoh, hal, hhs, hap, hI, hta⟩ := hrel
    by_cases hgo : 0 < m ∧ 0 < ta.n
    · obtain ⟨hm, hta0⟩ := hgo
      have hm' : (0 : Int) < (m : Int) := by omega
      have hwm : IntKind.i64.wrap ((m : Int) - 1) = ((m - 1 : Nat) : Int) := by rw [Go.IntWalk.i64_in _ (by omega)]; omega
      have hta' : (0 : Int) < (ta.n : Int) := by omega
      have han : ta.n ≤ 140 := by have := hta.out; have := hal.out; omega
      have hkn := fun W h => spec.l01Next_any g s (ta.n : Int) w W h (by omega)
      go_wp2_with fail
      refine (hkn _ hI.dr).mono ?_
      rintro e w6 ⟨x, rfl, ⟨x0, x1⟩, hD, hO⟩
      obtain ⟨k, rfl⟩ := Int.eq_ofNat_of_zero_le x0
      have hkn' : k < ta.n := by omega
      have hkI : (k : Int) < (ta.n : Int) := by omega
      have hk0 : (0 : Int) ≤ (k : Int) := by omega
      replace hoa := hoa.only hO (by have := hI.gb; omega)
      replace hoh := hoh.only hO (by have := hI.gb; omega)
      replace hI := hI.only hO hD
      clear x0 x1 hD hO hkn
      obtain ⟨Aa, na, ca⟩ := ta
      obtain ⟨ba, rfl, hba1, hba2, _, _, _⟩ := hoa.put hkn'
      obtain ⟨b9, o9, y, hA9, hb9, hc9, hy9⟩ := hoa.rd.el hkn'
      injection hA9 with hA9
      injection hA9 with hA9 hA8
      subst hA9 hA8
      simp only at hta0 han hkn' hkI hta'
      have hcap := Own.cap (s := ⟨some ⟨ba, 0, none⟩, na, ca⟩) hoa
      obtain ⟨hcap1, hcap2⟩ := hcap
      simp only at hcap1 hcap2
      rw [Nat.zero_add] at hc9
      have hV := Rd.one w6 y
      have hl1 : hs.length + 1 ≤ 16777216 := by have := hhs.out; omega
      have hlh := hoh.lt
      go_wp2_with (at_builtin; refine wpList_app _ rfl (.tmp 37) (.tmp 42) rfl (w2.heap.size + 1) _ _ rfl (hoh.alloc _) _ _ _ [y] rfl hV hl1 (by have := hI.var.lt; simp; omega) ?_; intro th2 w7 hoh2 hg2 hb2)
      replace hI := (hI.ext ((Ext.refl w6).alloc (.cells #[.int .i64 y] 2))).grow hg2 (fun k hk => (hlh k hk).1)
      have hoa2 := (hoa.alloc (.cells #[.int .i64 y] 2)).grown hg2 hap
      have hap2 : apart (.slice (some ⟨ba, 0, none⟩) na ca) (.slice th2.A th2.n th2.c) := fun k h1 h2 => by rcases hb2 with e | e; exact hap k h1 (e ▸ h2); (have a := (hoa.lt k h1).2; rw [e] at h2; injection h2 with h2; simp at h2; omega)
      clear hoa hoh hV hc9 hg2 hb2 hlh
      have hz7 := hI.var.lt
      have hwk : IntKind.i64.wrap ((k : Int) + 1) = ((k + 1 : Nat) : Int) := by rw [Go.IntWalk.i64_in _ (by omega)]; omega
      have hkc : k ≤ ca := by omega
      have hk1n : k + 1 ≤ na := by omega
      have hX := (Ext.refl w7).drew
      have h1 := hoa2.rd.take (k := k) (by omega)
      have h1 := hoa2.rd.take (k := k) (by omega)
      have h2 : Rd w7 (fromA (some ⟨ba, 0, none⟩) ca (k + 1)) (na - (k + 1)) (al.drop (k + 1)) := Rd.from_ _ hoa2.rd hk1n hcap1
      have hlt7 : al.length = na := hta.out.symm
      go_upto_region 10 with fail
      refine wp_region_sink (S := fun _ => True) 9 (by kernel_rfl) ?_
      change wpAnyT _ _ _ _ _ _ _ _ _ (World.drew _)
      generalize hwd : World.drew w7 = wd at hX ⊢
      clear hwd
      refine wpAnyT_takeL (i := 0) 6 (v := ?_) rfl (by kernel_rfl) (by kernel_rfl) (by kernel_rfl) (by kernel_rfl) (by kernel_rfl) (fun _ _ _ h => h) (Or.inl ⟨by rfl, ?_⟩) trivial ?_
      rotate_left 1
      · (intro W hSw; (try dsimp only at hSw); go_simp) <;> with_reducible rfl
      try simp only [Act.put, List.setIfInBounds_toArray, List.set_cons_zero, List.set_cons_succ]
      refine wpAnyT_takeL (i := 1) 6 (v := ?_) rfl (by kernel_rfl) (by kernel_rfl) (by kernel_rfl) (by kernel_rfl) (by kernel_rfl) (fun _ _ _ h => h) (Or.inl ⟨by rfl, ?_⟩) trivial ?_
      rotate_left 1
      · (intro W hSw; (try dsimp only at hSw); go_simp) <;> with_reducible rfl
      try simp only [Act.put, List.setIfInBounds_toArray, List.set_cons_zero, List.set_cons_succ]
      refine wpAnyT_takeL (i := 2) 6 (v := ?_) rfl (by kernel_rfl) (by kernel_rfl) (by kernel_rfl) (by kernel_rfl) (by kernel_rfl) (fun _ _ _ h => h) (Or.inl ⟨by rfl, ?_⟩) trivial ?_
      rotate_left 1
      · intro W _; (refine (run_to W (.tmp 44) (.tmp 45) ?_ ba 0 na ca ?_ k ?_ hkc)); all_goals rfl
      try simp only [Act.put, List.setIfInBounds_toArray, List.set_cons_zero, List.set_cons_succ]
      refine wpAnyT_takeL (i := 4) 6 (v := ?_) rfl (by kernel_rfl) (by kernel_rfl) (by kernel_rfl) (by kernel_rfl) (by kernel_rfl) (fun _ _ _ h => h) (Or.inl ⟨by rfl, ?_⟩) trivial ?_
      rotate_left 1
      · (intro W hSw; (try dsimp only at hSw); go_simp) <;> with_reducible rfl
      try simp only [Act.put, List.setIfInBounds_toArray, List.set_cons_zero, List.set_cons_succ]
      refine wpAnyT_takeL (i := 5) 6 (v := ?_) rfl (by kernel_rfl) (by kernel_rfl) (by kernel_rfl) (by kernel_rfl) (by kernel_rfl) (fun _ _ _ h => h) (Or.inl ⟨by rfl, ?_⟩) trivial ?_
      rotate_left 1
      · (intro W hSw; (try dsimp only at hSw); go_simp) <;> with_reducible rfl
      try simp only [Act.put, List.setIfInBounds_toArray, List.set_cons_zero, List.set_cons_succ]
      refine wpAnyT_takeL (i := 6) 6 (v := ?_) rfl (by kernel_rfl) (by kernel_rfl) (by kernel_rfl) (by kernel_rfl) (by kernel_rfl) (fun _ _ _ h => h) (Or.inl ⟨by rfl, ?_⟩) trivial ?_
      rotate_left 1
      · (intro W hSw; (try dsimp only at hSw); go_simp) <;> with_reducible rfl
      try simp only [Act.put, List.setIfInBounds_toArray, List.set_cons_zero, List.set_cons_succ]
      refine wpAnyT_takeL (i := 7) 6 (v := ?_) rfl (by kernel_rfl) (by kernel_rfl) (by kernel_rfl) (by kernel_rfl) (by kernel_rfl) (fun _ _ _ h => h) (Or.inl ⟨by rfl, ?_⟩) trivial ?_
      rotate_left 1
      · intro W _; (refine (run_from W (.tmp 48) (.tmp 50) ?_ (some ⟨ba, 0, none⟩) na ca ?_ (k + 1) ?_ hk1n)); all_goals rfl
      try simp only [Act.put, List.setIfInBounds_toArray, List.set_cons_zero, List.set_cons_succ]
      refine wpAnyT_go (i := 3) rfl (by kernel_rfl) fun K hK => ?_
      go_simp
      go_at_call 66
      refine (spec.l01Own_any ⟨some ⟨ba, 0, none⟩, k, ca⟩ (al.take k) _ (h1.ext hX)).mono ?_
      rintro e w8 ⟨tb, rfl, ob, hx⟩
      go_simp
      have hX8 := hX.trans hx
      have hzd := hX.size
      refine hK _ _ ⟨fun _ => trivial, ?_⟩
      clear hK K
      refine wpAnyT_go (i := 8) rfl (by kernel_rfl) fun K hK => ?_
      refine step_app _ rfl (.tmp 47) (.tmp 51) rfl _ _ _ rfl ob _ _ _ (al.drop (k + 1)) rfl (h2.ext hX8) (by simp only [List.length_take]; omega) (by have := hx.size; omega) ?_
      intro tc w9 oc hg9 hb9'
      have hX9 := hX8.grow hg9 (fun j hj => by have := (ob.lt j hj).1; omega)
      refine hK _ _ ⟨fun _ => trivial, ?_⟩
      clear hK K
      refine wpAnyT_go (i := 9) rfl (by kernel_rfl) fun K hK => ?_
      go_simp
      refine hK _ _ ⟨fun h => absurd rfl h, ?_⟩
      clear hK K
      refine wpAnyT_done (by kernel_rfl) ?_ _
      have hlen9 : (al.take k ++ al.drop (k + 1)).length ≤ 140 := by simp only [List.length_append, List.length_take, List.length_drop]; omega
      have hap9 : apart (.slice tc.A tc.n tc.c) (.slice th2.A th2.n th2.c) := fun j h1 h2 => by have a := (oc.lt j h1).1; have b := (hoh2.lt j h2).2; omega
      replace hoh2 := hoh2.ext hX9
      replace hI := hI.ext hX9
      replace oc := oc.mono (lo' := w2.heap.size + 1) (by omega)
      have htc : tc.n = _ := oc.rd.1
      replace htc := hide htc
      clear hX hX8 hX9 hx ob h1 h2 hoa2 hg9 hb9'
      go_wp2_with fail
      go_roundw
      case rel => exact ⟨m - 1, tc, th2, _, _, by go_num, rfl, rfl, by omega, oc, hoh2, hide hlen9, hide (by have := hhs.out; simp; omega), hap9, hI, htc⟩
      case measure => simp [intOf]; omega
    · have hI0 := hI.var
      have hfin : (m = 0 ∨ (0 < m ∧ ta.n = 0)) := by omega
      replace hR := hI.res
      have hB := hI.var
      have hp := hI.own
      have hX := hI.ex
      have hD2 := hI.dr
      have hpx : p.x.n ≤ 70 := by have a := hp.rd.1.1; have b := hb.out; omega
      obtain ⟨N, hN⟩ : ∃ N, Hid (N = p.x.n + 1) := ⟨_, rfl⟩
      have hNb : N ≤ 71 := by have := hN.out; omega
      have hwN : IntKind.i64.wrap ((p.x.n : Int) + 1) = (N : Int) := by rw [Go.IntWalk.i64_in _ (by omega), hN.out]; simp
      have n1 : ¬ w.heap.size = w2.heap.size := by omega
      have n2 : ¬ w2.heap.size = w.heap.size := by omega
      have n3 : w2.heap.size ≠ w.heap.size := n2
      have hhl := hide (show hs.length ≤ 200 by have := hhs.out; omega)
      clear hI0 hI hap hoa hta hal hhs
      replace hp := hp.drew
      replace hR := hR.drew
      replace hX := hX.drew
      replace hB := hB.drew
      replace hD2 := hD2.drew
      replace hoh := hoh.drew
      have hkA := spec.l01Next_any g s (N : Int) w _ hD2 (by omega)
      have hkB := fun W h => spec.l01Next_any g s 24 w W h (by omega)
      rcases hfin with rfl | ⟨hm, hta0⟩
      · have hm' : ¬ (0 : Int) < ((0 : Nat) : Int) := by omega
        have k0 := hB.c3
        go_wp2_with fail
        go_region_held3 (fun w' => w'.cell? ⟨w2.heap.size, 0, none⟩ = some (.slice p.x.A p.x.n p.x.c) ∧ w'.cell? ⟨w2.heap.size, 1, none⟩ = some (.slice p.y.A p.y.n p.y.c) ∧ w'.cell? ⟨w2.heap.size, 2, none⟩ = some (.slice p.z.A p.z.n p.z.c)) (first | exact k2 | exact k1 | exact kA | exact k0 | go_keep | fail) (first | (go_at_call 67; refine hkA.mono ?_; rintro e w8 ⟨a, rfl, ⟨a0, a1⟩, hD8, hO8⟩; clear hkA; replace hB := hB.only hO8 (by omega); replace hR := hR.only hO8 (by omega); replace hX := hX.only hO8 (by omega); replace hp := hp.only hO8 (by omega); replace hoh := hoh.only hO8 (by omega); have kA := hB.c3; have ha : a < 71 := (by omega)) | (go_at_call 67; refine (hkB _ hD8).mono ?_; rintro e w9 ⟨b, rfl, ⟨b0, b1⟩, hD9, hO9⟩; replace hB := hB.only hO9 (by omega); replace hR := hR.only hO9 (by omega); replace hX := hX.only hO9 (by omega); replace hp := hp.only hO9 (by omega); replace hoh := hoh.only hO9 (by omega); have hq0 : 0 ≤ b / 23 := Int.ediv_nonneg b0 (by decide); have hq1 : b / 23 ≤ 1 := (by omega); have hwq : IntKind.i64.wrap (b / 23) = b / 23 := Go.IntWalk.i64_in _ (by omega); have hws : IntKind.i64.wrap (a - b / 23) = a - b / 23 := Go.IntWalk.i64_in _ (by omega); have hwt : IntKind.i64.wrap (a - IntKind.i64.wrap (b.tdiv 23)) = a - b / 23 := (by rw [Int.tdiv_eq_ediv_of_nonneg b0, hwq, hws]); obtain ⟨r0, r1, r2, r3, r4, r5⟩ := res3 hR; have k1 := hB.c3; have k2 := (((hB.off w.heap.size 0 n3 (.slice p.x.A p.x.n p.x.c)).off w.heap.size 1 n3 (.slice p.y.A p.y.n p.y.c)).off w.heap.size 2 n3 (.slice p.z.A p.z.n p.z.c)).c3) | fail)
        have m3 := Blk.c3 (((hR.set_ 0 (.slice p.x.A p.x.n p.x.c)).set_ 1 (.slice p.y.A p.y.n p.y.c)).set_ 2 (.slice p.z.A p.z.n p.z.c))
        have hpn := ((hp.awayP (g := w.heap.size) (by omega) 0 (.slice p.x.A p.x.n p.x.c)).awayP (g := w.heap.size) (by omega) 1 (.slice p.y.A p.y.n p.y.c)).awayP (g := w.heap.size) (by omega) 2 (.slice p.z.A p.z.n p.z.c)
        have hhn := ((hoh.off w.heap.size 0 (by omega) (.slice p.x.A p.x.n p.x.c)).off w.heap.size 1 (by omega) (.slice p.y.A p.y.n p.y.c)).off w.heap.size 2 (by omega) (.slice p.z.A p.z.n p.z.c)
        have hXn := ((hX.off w.heap.size 0 (by omega) (.slice p.x.A p.x.n p.x.c)).off w.heap.size 1 (by omega) (.slice p.y.A p.y.n p.y.c)).off w.heap.size 2 (by omega) (.slice p.z.A p.z.n p.z.c)
        clear k0 kA k1 k2 hB
        go_wp2_with fail
        refine bodyPost_ret (v := .tuple #[.agg #[.slice p.x.A p.x.n p.x.c, .slice p.y.A p.y.n p.y.c, .slice p.z.A p.z.n p.z.c], .slice th.A th.n th.c, .int .i64 (a - b / 23)]) (by simp [results, Try.results8, go_sem, m3.1, m3.2.1, m3.2.2]) rfl ⟨p, l, th, hs, _, rfl, hpn.mono (by omega), hhn.mono (by omega), hhl.out, by omega, hXn⟩
      · have hm' : (0 : Int) < (m : Int) := by omega
        have hta' : ¬ (0 : Int) < (ta.n : Int) := by omega
        skip
        have k0 := hB.c3
        go_wp2_with fail
        go_region_held3 (fun w' => w'.cell? ⟨w2.heap.size, 0, none⟩ = some (.slice p.x.A p.x.n p.x.c) ∧ w'.cell? ⟨w2.heap.size, 1, none⟩ = some (.slice p.y.A p.y.n p.y.c) ∧ w'.cell? ⟨w2.heap.size, 2, none⟩ = some (.slice p.z.A p.z.n p.z.c)) (first | exact k2 | exact k1 | exact kA | exact k0 | go_keep | fail) (first | (go_at_call 67; refine hkA.mono ?_; rintro e w8 ⟨a, rfl, ⟨a0, a1⟩, hD8, hO8⟩; clear hkA; replace hB := hB.only hO8 (by omega); replace hR := hR.only hO8 (by omega); replace hX := hX.only hO8 (by omega); replace hp := hp.only hO8 (by omega); replace hoh := hoh.only hO8 (by omega); have kA := hB.c3; have ha : a < 71 := (by omega)) | (go_at_call 67; refine (hkB _ hD8).mono ?_; rintro e w9 ⟨b, rfl, ⟨b0, b1⟩, hD9, hO9⟩; replace hB := hB.only hO9 (by omega); replace hR := hR.only hO9 (by omega); replace hX := hX.only hO9 (by omega); replace hp := hp.only hO9 (by omega); replace hoh := hoh.only hO9 (by omega); have hq0 : 0 ≤ b / 23 := Int.ediv_nonneg b0 (by decide); have hq1 : b / 23 ≤ 1 := (by omega); have hwq : IntKind.i64.wrap (b / 23) = b / 23 := Go.IntWalk.i64_in _ (by omega); have hws : IntKind.i64.wrap (a - b / 23) = a - b / 23 := Go.IntWalk.i64_in _ (by omega); have hwt : IntKind.i64.wrap (a - IntKind.i64.wrap (b.tdiv 23)) = a - b / 23 := (by rw [Int.tdiv_eq_ediv_of_nonneg b0, hwq, hws]); obtain ⟨r0, r1, r2, r3, r4, r5⟩ := res3 hR; have k1 := hB.c3; have k2 := (((hB.off w.heap.size 0 n3 (.slice p.x.A p.x.n p.x.c)).off w.heap.size 1 n3 (.slice p.y.A p.y.n p.y.c)).off w.heap.size 2 n3 (.slice p.z.A p.z.n p.z.c)).c3) | fail)
        have m3 := Blk.c3 (((hR.set_ 0 (.slice p.x.A p.x.n p.x.c)).set_ 1 (.slice p.y.A p.y.n p.y.c)).set_ 2 (.slice p.z.A p.z.n p.z.c))
        have hpn := ((hp.awayP (g := w.heap.size) (by omega) 0 (.slice p.x.A p.x.n p.x.c)).awayP (g := w.heap.size) (by omega) 1 (.slice p.y.A p.y.n p.y.c)).awayP (g := w.heap.size) (by omega) 2 (.slice p.z.A p.z.n p.z.c)
        have hhn := ((hoh.off w.heap.size 0 (by omega) (.slice p.x.A p.x.n p.x.c)).off w.heap.size 1 (by omega) (.slice p.y.A p.y.n p.y.c)).off w.heap.size 2 (by omega) (.slice p.z.A p.z.n p.z.c)
        have hXn := ((hX.off w.heap.size 0 (by omega) (.slice p.x.A p.x.n p.x.c)).off w.heap.size 1 (by omega) (.slice p.y.A p.y.n p.y.c)).off w.heap.size 2 (by omega) (.slice p.z.A p.z.n p.z.c)
        clear k0 kA k1 k2 hB
        go_wp2_with fail
        refine bodyPost_ret (v := .tuple #[.agg #[.slice p.x.A p.x.n p.x.c, .slice p.y.A p.y.n p.y.c, .slice p.z.A p.z.n p.z.c], .slice th.A th.n th.c, .int .i64 (a - b / 23)]) (by simp [results, Try.results8, go_sem, m3.1, m3.2.1, m3.2.2]) rfl ⟨p, l, th, hs, _, rfl, hpn.mono (by omega), hhn.mono (by omega), hhl.out, by omega, hXn⟩
end Go.Proofs.Ytkfjphjmffbpiaa.mem
