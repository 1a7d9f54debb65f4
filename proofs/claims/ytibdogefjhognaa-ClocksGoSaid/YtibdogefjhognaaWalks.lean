/- The functions of package clocks and of its reference, each walked once: what they return and what they write. No condition but that numbers fit their kinds. -/
import Derived.Test.YtibdogefjhognaaRows
import Derived.WalkKit
import Derived.ProofKit
import Derived.OpenShut
import Derived.Handy
import Derived.Lib.Hide
namespace Go.Proofs.Ytibdogefjhognaa
open Go.ChangeShapes Go.WideShapes Go.ChangeAt Go.RowKit
set_option linter.unusedVariables false

/-- Two times together: never more than Forever. -/
def cadd (a b : Int) : Int := if a + b < 9223372036854775807 then a + b else 9223372036854775807
def csecs (n : Int) : Int := if n < 4294967295 then n * 1000 else 9223372036854775807

theorem ret_int {k : IntKind} {a b : Int} (h : a = b) : Ending.returned (.int k a) = .returned (.int k b) := by rw [h]

set_option maxHeartbeats 400000 in
theorem add_any (a b : Int) (w : World) (ha0 : 0 ≤ a) (ha : a ≤ 18446744073709551615) (hb0 : 0 ≤ b) (hb : b ≤ 18446744073709551615) :
    Calls Try.prog 9 #[.int .u64 a, .int .u64 b] w fun e w' => e = .returned (.int .u64 (cadd a b)) ∧ w = w' := by
  by_cases h1 : 9223372036854775807 < a
  · go_enter Try.func9, Try.ntmps9
    go_wp2
    go_ret
    exact ⟨ret_int (by rw [cadd, if_neg (by omega)]), rfl⟩
  · by_cases h2 : 9223372036854775807 < b
    · go_enter Try.func9, Try.ntmps9
      go_wp2
      go_ret
      exact ⟨ret_int (by rw [cadd, if_neg (by omega)]), rfl⟩
    · by_cases h3 : 9223372036854775807 - b < a
      · go_enter Try.func9, Try.ntmps9
        go_wp2
        go_ret
        exact ⟨ret_int (by rw [cadd, if_neg (by omega)]), rfl⟩
      · go_enter Try.func9, Try.ntmps9
        go_wp2
        go_ret
        exact ⟨ret_int (by unfold cadd; split <;> omega), rfl⟩

set_option maxHeartbeats 400000 in
theorem refAdd_any (a b : Int) (w : World) (ha0 : 0 ≤ a) (ha : a ≤ 18446744073709551615) (hb0 : 0 ≤ b) (hb : b ≤ 18446744073709551615) :
    Calls Try.prog 10 #[.int .u64 a, .int .u64 b] w fun e w' => e = .returned (.int .u64 (cadd a b)) ∧ w = w' := by
  by_cases h1 : 9223372036854775807 ≤ a
  · go_enter Try.func10, Try.ntmps10
    go_wp2
    go_ret
    exact ⟨ret_int (by rw [cadd, if_neg (by omega)]), rfl⟩
  · by_cases h2 : 9223372036854775807 ≤ b
    · go_enter Try.func10, Try.ntmps10
      go_wp2
      go_ret
      exact ⟨ret_int (by rw [cadd, if_neg (by omega)]), rfl⟩
    · by_cases h3 : 9223372036854775807 ≤ a + b
      · go_enter Try.func10, Try.ntmps10
        go_wp2
        go_ret
        exact ⟨ret_int (by rw [cadd, if_neg (by omega)]), rfl⟩
      · go_enter Try.func10, Try.ntmps10
        go_wp2
        go_ret
        exact ⟨ret_int (by unfold cadd; split <;> omega), rfl⟩

theorem secs_any (n : Int) (w : World) (h0 : 0 ≤ n) (h : n ≤ 4294967295) :
    Calls Try.prog 11 #[.int .u32 n] w fun e w' => e = .returned (.int .u64 (csecs n)) ∧ w = w' := by
  by_cases h1 : n = 4294967295
  · go_enter Try.func11, Try.ntmps11
    go_wp2
    go_ret
    exact ⟨ret_int (by rw [csecs, if_neg (by omega)]), rfl⟩
  · go_enter Try.func11, Try.ntmps11
    go_wp2
    go_ret
    exact ⟨ret_int (by unfold csecs; split <;> omega), rfl⟩

theorem refSecs_any (n : Int) (w : World) (h0 : 0 ≤ n) (h : n ≤ 4294967295) :
    Calls Try.prog 12 #[.int .u32 n] w fun e w' => e = .returned (.int .u64 (csecs n)) ∧ w = w' := by
  by_cases h1 : n = 4294967295
  · go_enter Try.func12, Try.ntmps12
    go_wp2
    go_ret
    exact ⟨ret_int (by rw [csecs, if_neg (by omega)]), rfl⟩
  · go_enter Try.func12, Try.ntmps12
    go_wp2
    go_ret
    exact ⟨ret_int (by unfold csecs; split <;> omega), rfl⟩

theorem new_any (w : World) :
    Calls Try.prog 14 #[] w fun e w' => e = .returned (.pointer (some ⟨w.heap.size, 0, none⟩)) ∧ w.alloc (.cells #[.int .u64 0, .int .u8 1] 39) = w' := by
  go_enter Try.func14, Try.ntmps14
  go_wp2
  go_ret
  exact ⟨rfl, rfl⟩

/-- A clock that was made, at time n, in block b. -/
structure IsClock (w : World) (b : Nat) (n : Int) : Prop where
  lo : 0 ≤ n
  hi : n < 9223372036854775807
  now : w.cell? ⟨b, 0, none⟩ = some (.int .u64 n)
  made : w.cell? ⟨b, 1, none⟩ = some (.int .u8 1)
  frz : w.frozen? ⟨b, 0, none⟩ = false

/-- Where a clock goes, and what it says: moved by ms from n. -/
def cgo (n ms : Int) : Int := if n + ms < 9223372036854775807 then n + ms else n
def cok (n ms : Int) : Int := if n + ms < 9223372036854775807 then 0 else 1

theorem now_any (w : World) (b : Nat) (n : Int) (h : w.cell? ⟨b, 0, none⟩ = some (.int .u64 n)) :
    Calls Try.prog 17 #[.pointer (some ⟨b, 0, none⟩)] w fun e w' => e = .returned (.int .u64 n) ∧ w = w' := by
  go_enter Try.func17, Try.ntmps17
  go_wp2
  go_ret
  exact ⟨rfl, rfl⟩
theorem now_nil (w : World) :
    Calls Try.prog 17 #[.pointer none] w fun e w' => e = .returned (.int .u64 0) ∧ w = w' := by
  go_enter Try.func17, Try.ntmps17
  go_wp2
  go_ret
  exact ⟨rfl, rfl⟩
set_option maxHeartbeats 400000 in
theorem advance_yes (w : World) (b : Nat) (n ms : Int) (h : IsClock w b n) (h0 : 0 ≤ ms) (h1 : ms ≤ 18446744073709551615) (hlt : n + ms < 9223372036854775807) :
    Calls Try.prog 15 #[.pointer (some ⟨b, 0, none⟩), .int .u64 ms] w fun e w' => e = .returned (.int .i64 0) ∧ w.setCell ⟨b, 0, none⟩ (.int .u64 (n + ms)) = w' := by
  obtain ⟨hlo, hhi, hn, hm, hf⟩ := h
  have e1 : cadd n ms = n + ms := by rw [cadd, if_pos hlt]
  go_enter Try.func15, Try.ntmps15
  go_wp2_with (go_at_call 9; refine (add_any _ _ _ (by omega) (by omega) (by omega) (by omega)).mono ?_; rintro e w' ⟨rfl, rfl⟩; rw [e1])
  go_ret
  exact ⟨rfl, rfl⟩
set_option maxHeartbeats 400000 in
theorem advance_no (w : World) (b : Nat) (n ms : Int) (h : IsClock w b n) (h0 : 0 ≤ ms) (h1 : ms ≤ 18446744073709551615) (hlt : ¬ n + ms < 9223372036854775807) :
    Calls Try.prog 15 #[.pointer (some ⟨b, 0, none⟩), .int .u64 ms] w fun e w' => e = .returned (.int .i64 1) ∧ w = w' := by
  obtain ⟨hlo, hhi, hn, hm, hf⟩ := h
  have e1 : cadd n ms = 9223372036854775807 := by rw [cadd, if_neg hlt]
  go_enter Try.func15, Try.ntmps15
  go_wp2_with (go_at_call 9; refine (add_any _ _ _ (by omega) (by omega) (by omega) (by omega)).mono ?_; rintro e w' ⟨rfl, rfl⟩; rw [e1])
  go_ret
  exact ⟨rfl, rfl⟩
theorem advance_nil (w : World) (ms : Int) :
    Calls Try.prog 15 #[.pointer none, .int .u64 ms] w fun e w' => e = .returned (.int .i64 2) ∧ w = w' := by
  go_enter Try.func15, Try.ntmps15
  go_wp2
  go_ret
  exact ⟨rfl, rfl⟩
theorem advance_unmade (w : World) (b : Nat) (ms : Int) (h : w.cell? ⟨b, 1, none⟩ = some (.int .u8 0)) :
    Calls Try.prog 15 #[.pointer (some ⟨b, 0, none⟩), .int .u64 ms] w fun e w' => e = .returned (.int .i64 2) ∧ w = w' := by
  go_enter Try.func15, Try.ntmps15
  go_wp2
  go_ret
  exact ⟨rfl, rfl⟩
end Go.Proofs.Ytibdogefjhognaa
