/-
  Contracts of both programs' functions on juries that only look: MembersOf, MayGoOn, LossesBorne, RoleOf.
-/
import Derived.Test.YtfbpjbnldpcbeaaJury
import Derived.Test.YtfbpjbnldpcbeaaJuryS
namespace Go.Proofs.Ytfbpjbnldpcbeaa.mem
open Go.ChangeShapes Go.WideShapes Go.ChangeAt Go.RowKit

def okJC (l : L3) : Int := if okJ l = true then 0 else 1
def membersV (l : L3) : List Int := if okJ l = true then nz l.x else []
def codeC (ok b : Bool) : Int := if ok = true then (if b = true then 0 else 2) else 1
def mayV (l : L3) (m : Int) : Bool := okJ l && inB m 1 12 && decide (m ≤ ((nz l.x).length : Int))
def lossV (l : L3) (m : Int) : Int := if okJ l = true ∧ inB m 1 12 = true then (if ((nz l.x).length : Int) < m then -1 else (nz l.x).length - m + l.y.length) else 0
def roleV (l : L3) (x : Int) : Int := if okJ l = true ∧ inB x 1 1000000 = true then (if hasB l.x x = true then 1 else if hasB l.y x = true then 2 else if hasB l.z x = true then 3 else 0) else 0

theorem okJ_bd {l : L3} (h : okJ l = true) : l.x.length ≤ 12 ∧ l.y.length ≤ 6 := by
  unfold okJ at h
  simp only [Bool.and_eq_true, decide_eq_true_eq] at h
  have := inB_iff.1 h.1
  omega

theorem spec.l15Code_any (p : S3) (l : L3) (m : Int) (w : World) (hr : Rd3 w p l) :
    Calls Try.prog 19 #[.agg #[.slice p.x.A p.x.n p.x.c, .slice p.y.A p.y.n p.y.c, .slice p.z.A p.z.n p.z.c], .int .i64 m] w fun e w' => e = .returned (.int .i64 (codeC (okJ l) (inB m 1 1000000))) ∧ Ext w w' := by
  have hX0 := (Ext.refl w).alloc (.cells #[.slice p.x.A p.x.n p.x.c, .slice p.y.A p.y.n p.y.c, .slice p.z.A p.z.n p.z.c] 26)
  have hB0 := Blk.new w 26 (#[.slice p.x.A p.x.n p.x.c, .slice p.y.A p.y.n p.y.c, .slice p.z.A p.z.n p.z.c])
  go_enter Try.func19, Try.ntmps19
  go_wp2_with fail
  refine (spec.IsJury_any p l _ (hr.ext hX0)).mono ?_
  rintro e w1 ⟨rfl, hx1⟩
  have hX1 := hX0.trans hx1
  obtain ⟨q0, q1, q2⟩ := (hB0.ext hx1).c3
  cases hok : okJ l
  · have E1 := hide (show codeC (okJ l) (inB m 1 1000000) = 1 by rw [hok]; rfl)
    go_wp2
    go_ret
    exact ⟨by rw [E1.out]; rfl, hX1⟩
  · have E1 := hide (show codeC (okJ l) (inB m 1 1000000) = if inB m 1 1000000 = true then 0 else 2 by rw [hok]; rfl)
    cases b1 : inB m 1 1000000
    all_goals
      go_wp2_with (go_at_call 25; refine (spec.l01In_any _ _ _ _).mono ?_; rintro e w' ⟨rfl, rfl⟩)
      go_ret
      exact ⟨by rw [E1.out, b1]; rfl, hX1⟩
end Go.Proofs.Ytfbpjbnldpcbeaa.mem
