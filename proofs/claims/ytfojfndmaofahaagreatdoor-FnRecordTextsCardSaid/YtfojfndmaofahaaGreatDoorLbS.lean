/-
  What the library's variables hold where a law is called: out of the world's shape and of what the row lists.
-/
import Derived.Test.YtfojfndmaofahaaGreatDoorLb
import Derived.Test.YtfojfndmaofahaaGreatDoorHb
import Derived.MakeChecks
import Derived.Stop.Joined
import Derived.Lib.SmallJoins
import Derived.Lib.LaidTab
namespace Go.Proofs.YtfojfndmaofahaaGreatDoor.mem
open Go.ChangeShapes Go.WideShapes Go.ChangeAt Go.RowKit

theorem star_err : "*" ++ "errors.errorString" = "*errors.errorString" := by decide
theorem row_err (u : TypeId) (h : Tryz.prog.typeName? 3 u = some "*errors.errorString") : u = 148 :=
  typeName_ptr_named (nm := "errors.errorString") (by rw [star_err]; kernel_rfl) (by kernel_rfl) (by decide) u (by rw [star_err]; exact h)
theorem Lb.of_list {W : World} {a b c : String × DataW Unit} {t1 t2 : List UInt8} {r : List (String × DataW Unit)}
    (h : laidMet Tryz.prog (a :: b :: ("internal/strconv.uint64pow10", Lib.tabData .u64 Lib.pow10Tab) :: c :: ("strconv.ErrRange", .iface "*errors.errorString" (.ptr (.agg [.lit (.string t1)]))) :: ("strconv.ErrSyntax", .iface "*errors.errorString" (.ptr (.agg [.lit (.string t2)]))) :: r) W)
    (hs : W.ShapedOpen Tryz.prog) : Lb W := by
  have h3 := Go.laidMet.tail (Go.laidMet.tail h)
  have hT : Lib.TabIs Tryz.prog W "internal/strconv.uint64pow10" .u64 Lib.pow10Tab := Lib.tabIs_of_head (g := 1) (by kernel_rfl) (by kernel_rfl) Tryz.underlying131 Tryz.underlying117 (by kernel_rfl) (by kernel_rfl) h3
  have h5 := Go.laidMet.tail (Go.laidMet.tail h3)
  have h6 := Go.laidMet.tail h5
  obtain ⟨a1, s1, hv1, _⟩ := laid_sentinel (g := 5) (ti := 93) (tp := 148) (te := 150) (ts := 9) h5 (by kernel_rfl) (by kernel_rfl) Tryz.underlying93 row_err Tryz.underlying148 Tryz.underlying150 rfl rfl Tryz.underlying9 (by kernel_rfl) (by kernel_rfl)
  obtain ⟨a2, s2, hv2, _⟩ := laid_sentinel (g := 4) (ti := 93) (tp := 148) (te := 150) (ts := 9) h6 (by kernel_rfl) (by kernel_rfl) Tryz.underlying93 row_err Tryz.underlying148 Tryz.underlying150 rfl rfl Tryz.underlying9 (by kernel_rfl) (by kernel_rfl)
  have e1 : W.cell? ⟨5, 0, none⟩ = some (.iface 148 (.pointer (some a1))) := by simpa using World.var?_cell (g := 5) (by kernel_rfl) hv1 0
  have e2 : W.cell? ⟨4, 0, none⟩ = some (.iface 148 (.pointer (some a2))) := by simpa using World.var?_cell (g := 4) (by kernel_rfl) hv2 0
  exact ⟨fun W1 hx => Go.Joins.tab_stays (g := 1) (by kernel_rfl) hT hx (Nat.le_refl _), ⟨_, e2, .inr ⟨_, _, rfl⟩⟩, ⟨_, e1, .inr ⟨_, _, rfl⟩⟩, Tryz.laysM146.s1_3 W hs⟩
end Go.Proofs.YtfojfndmaofahaaGreatDoor.mem
