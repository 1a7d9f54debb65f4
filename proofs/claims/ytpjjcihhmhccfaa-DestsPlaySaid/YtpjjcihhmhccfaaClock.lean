/- Times: two of them together, No condition but that numbers fit their kinds. -/
import Derived.Test.YtpjjcihhmhccfaaRows
import Derived.Test.YtpjjcihhmhccfaaKp
import Derived.Test.YtpjjcihhmhccfaaOpen
namespace Go.Proofs.Ytpjjcihhmhccfaa
open Go.ChangeShapes Go.WideShapes Go.ChangeAt Go.RowKit
set_option linter.unusedVariables false

/-- Two times together: never more than Forever. -/
def cadd (a b : Int) : Int := if a + b < 9223372036854775807 then a + b else 9223372036854775807
def csecs (n : Int) : Int := if n < 4294967295 then n * 1000 else 9223372036854775807

theorem ret_int {k : IntKind} {a b : Int} (h : a = b) : Ending.returned (.int k a) = .returned (.int k b) := by rw [h]

set_option maxHeartbeats 400000 in
theorem add_any (a b : Int) (w : World) (ha0 : 0 ≤ a) (ha : a ≤ 18446744073709551615) (hb0 : 0 ≤ b) (hb : b ≤ 18446744073709551615) :
    Calls Try.prog 26 #[.int .u64 a, .int .u64 b] w fun e w' => e = .returned (.int .u64 (cadd a b)) ∧ w = w' := by
  by_cases h1 : 9223372036854775807 < a
  · go_enter Try.func26, Try.ntmps26
    go_wp2
    go_ret
    exact ⟨ret_int (by rw [cadd, if_neg (by omega)]), rfl⟩
  · by_cases h2 : 9223372036854775807 < b
    · go_enter Try.func26, Try.ntmps26
      go_wp2
      go_ret
      exact ⟨ret_int (by rw [cadd, if_neg (by omega)]), rfl⟩
    · by_cases h3 : 9223372036854775807 - b < a
      · go_enter Try.func26, Try.ntmps26
        go_wp2
        go_ret
        exact ⟨ret_int (by rw [cadd, if_neg (by omega)]), rfl⟩
      · go_enter Try.func26, Try.ntmps26
        go_wp2
        go_ret
        exact ⟨ret_int (by unfold cadd; split <;> omega), rfl⟩

end Go.Proofs.Ytpjjcihhmhccfaa
