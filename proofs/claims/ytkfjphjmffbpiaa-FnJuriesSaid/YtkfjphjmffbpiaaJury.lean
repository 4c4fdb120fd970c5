/-
  Contracts of both programs' IsJury: it answers what a jury is.
-/
import Derived.Test.YtkfjphjmffbpiaaList
import Derived.Deep.RegionWith
import Derived.Deep.RegionHeld3
namespace Go.Proofs.Ytkfjphjmffbpiaa.mem
open Go.ChangeShapes Go.WideShapes Go.ChangeAt Go.RowKit

set_option maxHeartbeats 4000000 in
set_option maxRecDepth 20000 in
theorem impl.IsJury_any (p : S3) (l : L3) (w : World) (hr : Rd3 w p l) :
    Calls Try.prog 15 #[.agg #[.slice p.x.A p.x.n p.x.c, .slice p.y.A p.y.n p.y.c, .slice p.z.A p.z.n p.z.c]] w fun e w' => e = .returned (.bool (okJ l)) ∧ Ext w w' := by
  obtain ⟨rx, ry, rz, hs, cx, cy, cz⟩ := hr
  have htot : (nz l.x ++ (l.y ++ l.z)).length ≤ 16777216 := by
    have h1 := nz_le l.x
    have e1 := rx.1
    have e2 := ry.1
    have e3 := rz.1
    simp only [List.length_append]
    omega
  have hB0 := Blk.new w 26 (#[.slice p.x.A p.x.n p.x.c, .slice p.y.A p.y.n p.y.c, .slice p.z.A p.z.n p.z.c])
  have hX0 := (Ext.refl w).alloc (.cells #[.slice p.x.A p.x.n p.x.c, .slice p.y.A p.y.n p.y.c, .slice p.z.A p.z.n p.z.c] 26)
  have hok := hide (show okJ l = (inB (p.x.n : Int) 1 12 && (decide ((p.y.n : Int) ≤ 6) && (decide ((p.z.n : Int) ≤ 60) && (distB (nz l.x ++ (l.y ++ l.z)) && !(hasB l.x 0 && decide (0 < p.y.n)))))) by
    unfold okJ allP
    rw [rx.1, ry.1, rz.1]
    congr 1
    congr 1
    · rw [Bool.eq_iff_iff]; simp; omega
    · congr 1
      rw [Bool.eq_iff_iff]; simp; omega)
  obtain ⟨q0, q1, q2⟩ := hB0.c3
  go_enter Try.func15, Try.ntmps15
  by_cases b45 : hasB l.x 0 = true ∧ 0 < p.y.n
  · obtain ⟨b4, b5⟩ := b45
    go_wp2_with (go_at_call 75; refine (impl.has_any p.x l.x _ _ (rx.ext hX0)).mono ?_; rintro e w' ⟨rfl, rfl⟩)
    go_ret
    exact ⟨by rw [hok.out, b4, decide_eq_true b5]; simp, hX0⟩
  have HB := hide (show (!(hasB l.x 0 && decide (0 < p.y.n))) = true by
    cases hh : hasB l.x 0
    · rfl
    · rw [decide_eq_false (fun h => b45 ⟨hh, h⟩)]; rfl)
  rcases (show hasB l.x 0 = false ∨ (hasB l.x 0 = true ∧ ¬ 0 < p.y.n) by
    cases hh : hasB l.x 0
    · exact .inl rfl
    · exact .inr ⟨rfl, fun h => b45 ⟨hh, h⟩⟩) with b4 | ⟨b4, b5⟩
  all_goals
    clear b45
    go_wp2_with (go_at_call 75; refine (impl.has_any p.x l.x _ _ (rx.ext hX0)).mono ?_; rintro e w' ⟨rfl, rfl⟩)
    have kS := fun W => impl.isSeats_any (p.x.n : Int) W
    have kY := fun W => impl.few_any (p.y.n : Int) 6 W
    have kZ := fun W => impl.few_any (p.z.n : Int) 60 W
    cases b1 : inB (p.x.n : Int) 1 12
    · rw [b1] at hok
      simp only [b1] at kS
      go_quiet ((first | (go_at_call 76; exact quietL0 (kS _)) | (go_at_call 77; exact quietL0 (kY _)) | (go_at_call 77; exact quietL0 (kZ _))))
      go_wp2
      go_ret
      exact ⟨by rw [hok.out]; rfl, hX0.drewN _⟩
    · cases b2 : decide ((p.y.n : Int) ≤ 6)
      · rw [b1, b2] at hok
        simp only [b1] at kS
        simp only [b2] at kY
        go_quiet ((first | (go_at_call 76; exact quietL0 (kS _)) | (go_at_call 77; exact quietL0 (kY _)) | (go_at_call 77; exact quietL0 (kZ _))))
        go_wp2
        go_ret
        exact ⟨by rw [hok.out]; rfl, hX0.drewN _⟩
      · cases b3 : decide ((p.z.n : Int) ≤ 60)
        · rw [b1, b2, b3] at hok
          simp only [b1] at kS
          simp only [b2] at kY
          simp only [b3] at kZ
          go_quiet ((first | (go_at_call 76; exact quietL0 (kS _)) | (go_at_call 77; exact quietL0 (kY _)) | (go_at_call 77; exact quietL0 (kZ _))))
          go_wp2
          go_ret
          exact ⟨by rw [hok.out]; rfl, hX0.drewN _⟩
        · rw [b1, b2, b3, HB.out] at hok
          simp only [b1] at kS
          simp only [b2] at kY
          simp only [b3] at kZ
          go_region_held3 (fun w' => w'.cell? ⟨w.heap.size, 0, none⟩ = some (.slice p.x.A p.x.n p.x.c) ∧ w'.cell? ⟨w.heap.size, 1, none⟩ = some (.slice p.y.A p.y.n p.y.c) ∧ w'.cell? ⟨w.heap.size, 2, none⟩ = some (.slice p.z.A p.z.n p.z.c)) (first | exact q32 | exact q31 | go_keep) (first | (go_at_call 76; (refine (kS _).mono ?_); rintro e w' ⟨rfl, rfl⟩) | (go_at_call 77; (first | (with_reducible refine (kY _).mono ?_) | (with_reducible refine (kZ _).mono ?_)); rintro e w' ⟨rfl, rfl⟩) | (go_at_call 73; refine (impl.seated_any _ _ _ (rx.ext hX0.drew)).mono ?_; rintro e w1 ⟨t1, rfl, ho1, hx1⟩; have hB1 := hB0.drew.ext hx1; have q31 := hB1.c3) | (go_at_call 79; refine (impl.joined3 _ t1 p.y p.z (nz l.x) l.y l.z _ (Blk.new w1 24 (#[.slice t1.A t1.n t1.c, .slice p.y.A p.y.n p.y.c, .slice p.z.A p.z.n p.z.c])) (ho1.rd.alloc _) ((ry.ext (hX0.drew.trans hx1)).alloc _) ((rz.ext (hX0.drew.trans hx1)).alloc _) htot).mono ?_; rintro e w2 ⟨t2, rfl, ho2, hx2⟩; have hX2 := ((hX0.drew.trans hx1).alloc _).trans hx2; have q32 := ((hB1.alloc (.cells #[.slice t1.A t1.n t1.c, .slice p.y.A p.y.n p.y.c, .slice p.z.A p.z.n p.z.c] 24)).ext hx2).c3) | (go_at_call 78; refine (impl.distinct_any t2 _ _ ho2.rd ho2.cap).mono ?_; rintro e w' ⟨rfl, rfl⟩))
          go_wp2
          go_ret
          exact ⟨by rw [hok.out]; simp, hX2⟩
end Go.Proofs.Ytkfjphjmffbpiaa.mem
