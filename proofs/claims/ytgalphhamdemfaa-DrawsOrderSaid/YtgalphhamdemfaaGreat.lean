/- great(acts): the number of acts and words is counted, no further than 5000. No condition. -/
import Derived.Test.YtgalphhamdemfaaBase
namespace Go.Proofs.Ytgalphhamdemfaa
open Go.ChangeShapes Go.WideShapes Go.ChangeAt Go.RowKit Go.Deep
set_option linter.unusedVariables false

/-- How many acts and words the first k acts are. -/
def cnt (z : Nat → ActV) : Nat → Nat
  | 0 => 0
  | k + 1 => cnt z k + 1 + (z k).n

theorem cnt_mono (z : Nat → ActV) {i k : Nat} (h : i < k) : cnt z i + 1 + (z i).n ≤ cnt z k := by
  induction k with
  | zero => omega
  | succ k ih =>
    simp only [cnt]
    rcases Nat.lt_or_ge i k with h1 | h1
    · have := ih h1; omega
    · obtain rfl : i = k := by omega
      omega

def GreatSays (z : Nat → ActV) (n : Nat) (w : World) (e : Ending) (w' : World) : Prop := ∃ b : Bool, e = .returned (.bool b) ∧ (b = false → cnt z n ≤ 2000) ∧ w = w'

set_option maxRecDepth 100000 in
set_option maxHeartbeats 1000000 in
theorem great_any (w : World) (A : Option Addr) (n c : Nat) (z : Nat → ActV) (h : IsActs w A n c z) :
    Calls Try.prog 7 #[.slice A n c] w (GreatSays z n w) := by
  have hcm := h.cmax
  have hcn := h.cap
  unfold maxLen at hcm
  go_enter Try.func7, Try.ntmps7
  go_wp2
  go_loop [3, 4] (fun m i => ∃ k : Nat, k ≤ n ∧ i = .int .i64 k ∧ m = .int .i64 (cnt z k : Nat)) (fun _ i => n - (intOf i).toNat)
  case atStart => exact ⟨0, Nat.zero_le _, rfl, rfl⟩
  case round =>
    obtain ⟨k, hk, rfl, rfl⟩ := hrel
    obtain ⟨q, hq⟩ : ∃ q, q = cnt z k := ⟨_, rfl⟩
    rw [← hq]
    have hq' := hidd hq
    by_cases hlt : k < n
    · by_cases h5 : q < 5000
      · obtain ⟨b, off, rfl, hb, hc⟩ := h.at_ (by omega)
        have c1 := (hc k hlt).2.1
        have hz1 := (h.rd k hlt).cap
        have hz2 := h.small k hlt
        obtain ⟨a, ha⟩ : ∃ a, a = z k := ⟨_, rfl⟩
        rw [← ha] at c1 hz1 hz2
        have ha' := hidd ha
        clear ha hc h hq
        go_wp2
        go_round
        case rel =>
          refine ⟨k + 1, by omega, by go_num, ?_⟩
          rw [cnt, ← hq'.out, ← ha'.out]
          go_num
        case measure => simp [intOf]; omega
      · have hd : decide ((q : Int) < 5000) = false := by simp; omega
        clear h hq
        go_wp2
        go_ret
        exact ⟨_, rfl, fun hf => absurd hf (by simp; omega), rfl⟩
    · obtain rfl : k = n := by omega
      clear h hq
      go_wp2
      go_ret
      exact ⟨_, rfl, fun hf => by rw [← hq'.out]; simp at hf; omega, rfl⟩
end Go.Proofs.Ytgalphhamdemfaa
