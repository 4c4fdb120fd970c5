/-
  Contracts of both programs' small functions on numbers and on lists of numbers.
-/
import Derived.Test.YtfojfndmaofahaaDoorPure
import Derived.Test.YtfojfndmaofahaaDoorApp
namespace Go.Proofs.YtfojfndmaofahaaDoor.mem
open Go.ChangeShapes Go.WideShapes Go.ChangeAt Go.RowKit

theorem impl.within_any (n lo hi : Int) (w : World) : Calls Tryd.prog 26 #[.int .i64 n, .int .i64 lo, .int .i64 hi] w fun e w' => e = .returned (.bool (inB n lo hi)) ∧ w = w' := by
  by_cases h1 : lo ≤ n
  · by_cases h2 : n ≤ hi
    · go_enter Tryd.func26, Tryd.ntmps26
      go_wp2
      go_ret
      exact ⟨by rw [inB_yes ⟨h1, h2⟩]; rfl, rfl⟩
    · go_enter Tryd.func26, Tryd.ntmps26
      go_wp2
      go_ret
      exact ⟨by rw [inB_no (by omega)]; rfl, rfl⟩
  · go_enter Tryd.func26, Tryd.ntmps26
    go_wp2
    go_ret
    exact ⟨by rw [inB_no (by omega)]; rfl, rfl⟩
theorem spec.l01In_any (n lo hi : Int) (w : World) : Calls Tryd.prog 17 #[.int .i64 n, .int .i64 lo, .int .i64 hi] w fun e w' => e = .returned (.bool (inB n lo hi)) ∧ w = w' := by
  by_cases h1 : lo ≤ n
  · by_cases h2 : n ≤ hi
    · go_enter Tryd.func17, Tryd.ntmps17
      go_wp2
      go_ret
      exact ⟨by rw [inB_yes ⟨h1, h2⟩]; rfl, rfl⟩
    · go_enter Tryd.func17, Tryd.ntmps17
      go_wp2
      go_ret
      exact ⟨by rw [inB_no (by omega)]; rfl, rfl⟩
  · go_enter Tryd.func17, Tryd.ntmps17
    go_wp2
    go_ret
    exact ⟨by rw [inB_no (by omega)]; rfl, rfl⟩
theorem impl.few_any (n m : Int) (w : World) : Calls Tryd.prog 15 #[.int .i64 n, .int .i64 m] w fun e w' => e = .returned (.bool (decide (n ≤ m))) ∧ w = w' := by
  go_enter Tryd.func15, Tryd.ntmps15
  go_wp2
  go_ret
  exact ⟨rfl, rfl⟩
end Go.Proofs.YtfojfndmaofahaaDoor.mem
