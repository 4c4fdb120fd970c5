/-
  Contracts of both programs' PassTurn.
-/
import Derived.Test.YtofglgfjlbehmaaGreatPass
namespace Go.Proofs.YtofglgfjlbehmaaGreat.mem
open Go.ChangeShapes Go.WideShapes Go.ChangeAt Go.RowKit

def ptV (y : SelL) : SelL := if okS y = true then passV y else ⟨⟨[], [], []⟩, [], 0, 0⟩
def ptC (y : SelL) : Int := if okS y = true then passC y else 1

theorem OwnS.off {w : World} {lo : Nat} {x : SelA} {y : SelL} (h : OwnS w lo x y) (b i : Nat) (hb : b < lo) (u : Value) : OwnS (w.setCell ⟨b, i, none⟩ u) lo x y :=
  ⟨h.1.off b i hb u, h.2.1.off b i hb u, h.2.2⟩
theorem OwnS.mono {w : World} {lo lo' : Nat} {x : SelA} {y : SelL} (h : OwnS w lo x y) (hl : lo' ≤ lo) : OwnS w lo' x y := ⟨h.1.mono hl, h.2.1.mono hl, h.2.2⟩
set_option maxHeartbeats 1000000 in
theorem spec.l14Code_any (x : SelA) (y : SelL) (w : World) (hr : RdS w x y) :
    Calls Tryz.prog 75 #[.agg #[.slice x.p.x.A x.p.x.n x.p.x.c, .slice x.p.y.A x.p.y.n x.p.y.c, .slice x.p.z.A x.p.z.n x.p.z.c, .slice x.s.A x.s.n x.s.c, .int .i64 x.t, .int .i64 x.q]] w fun e w' => e = .returned (.int .i64 (ptC y)) ∧ Ext w w' := by
  have hX0 := (Ext.refl w).alloc (.cells #[.slice x.p.x.A x.p.x.n x.p.x.c, .slice x.p.y.A x.p.y.n x.p.y.c, .slice x.p.z.A x.p.z.n x.p.z.c, .slice x.s.A x.s.n x.s.c, .int .i64 x.t, .int .i64 x.q] 70)
  have hB0 := Blk.new w 70 (#[.slice x.p.x.A x.p.x.n x.p.x.c, .slice x.p.y.A x.p.y.n x.p.y.c, .slice x.p.z.A x.p.z.n x.p.z.c, .slice x.s.A x.s.n x.s.c, .int .i64 x.t, .int .i64 x.q])
  obtain ⟨q0, q1, q2, q3, q4, q5⟩ := hB0.c6
  go_enter Tryz.func75, Tryz.ntmps75
  go_wp2_with fail
  refine (spec.IsSelection_any x y _ (hr.ext hX0)).mono ?_
  rintro e w1 ⟨rfl, hx1⟩
  have hX1 := hX0.trans hx1
  clear q0 q1 q2 q3 q4 q5
  obtain ⟨q0, q1, q2, q3, q4, q5⟩ := (hB0.ext hx1).c6
  cases hok : okS y
  · have E1 := hide (show ptC y = 1 by unfold ptC; rw [hok]; rfl)
    go_wp2
    go_ret
    exact ⟨by rw [E1.out]; rfl, hX1⟩
  · obtain ⟨h2, ha, hb⟩ := okS_two (hr.ext hX1) hok
    have hv := spec.l14Over_any x _ _ w1 h2 ha hb
    have hob : ((x.q == 2) || (y.s.getD 0 0 + y.s.getD 1 0 == 0)) = overB y := by unfold overB; rw [hr.2.2.2.2]
    rw [hob] at hv
    clear hob h2 ha hb
    cases hov : overB y
    · have E1 := hide (show ptC y = 0 by unfold ptC passC; rw [hok, hov]; rfl)
      rw [hov] at hv
      go_wp2_with fail
      refine hv.mono ?_
      rintro e w2 ⟨rfl, hx2⟩
      go_wp2
      go_ret
      exact ⟨by rw [E1.out]; rfl, hX1.trans hx2⟩
    · have E1 := hide (show ptC y = 5 by unfold ptC passC; rw [hok, hov]; rfl)
      rw [hov] at hv
      go_wp2_with fail
      refine hv.mono ?_
      rintro e w2 ⟨rfl, hx2⟩
      go_wp2
      go_ret
      exact ⟨by rw [E1.out]; rfl, hX1.trans hx2⟩
end Go.Proofs.YtofglgfjlbehmaaGreat.mem
