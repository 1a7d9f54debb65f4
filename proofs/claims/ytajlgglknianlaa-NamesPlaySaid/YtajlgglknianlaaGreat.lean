/- Whether the acts are too many, or one of them tells too much, walked once. No condition. -/
import Derived.Test.YtajlgglknianlaaTold
namespace Go.Proofs.Ytajlgglknianlaa
open Go.ChangeShapes Go.WideShapes Go.ChangeAt Go.RowKit Go.Deep
set_option linter.unusedVariables false
set_option linter.unusedSimpArgs false

def GreatSays (z : Nat → ActV) (n : Nat) (w : World) (e : Ending) (w' : World) : Prop := ∃ b : Bool, e = .returned (.bool b) ∧ (b = false → n ≤ 100 ∧ ∀ i, i < n → (z i).sn ≤ 20 ∧ (z i).dn ≤ 20) ∧ w = w'

set_option maxRecDepth 100000 in
set_option maxHeartbeats 1000000 in
theorem great_any (w : World) (A : Option Addr) (n c : Nat) (z : Nat → ActV) (h : IsActs w w.heap.size A n c z) :
    Calls Try.prog 13 #[.slice A n c] w (GreatSays z n w) := by
  have hcm := h.cmax
  have hcn := h.cap
  unfold maxLen at hcm
  by_cases hbig : 100 < n
  · clear h
    go_enter Try.func13, Try.ntmps13
    go_wp2
    go_ret
    exact ⟨true, rfl, (fun e => by cases e), rfl⟩
  · have hd : ¬ (100 : Int) < (n : Int) := by omega
    have h' := hidd h
    clear h
    go_enter Try.func13, Try.ntmps13
    go_wp2
    go_loop [3] (fun i => ∃ k : Nat, k ≤ n ∧ i = .int .i64 k ∧ ∀ i, i < k → (z i).sn ≤ 20 ∧ (z i).dn ≤ 20) (fun i => n - (intOf i).toNat)
    case atStart => exact ⟨0, Nat.zero_le _, rfl, fun i hi => by omega⟩
    case round =>
      obtain ⟨k, hk, rfl, hall⟩ := hrel
      have hall' := hidd hall
      clear hall
      by_cases hlt : k < n
      · obtain ⟨b, off, rfl, hb, hc⟩ := h'.out.at_ (by omega)
        have c1 := hc k hlt 1 _ rfl
        have c2 := hc k hlt 2 _ rfl
        have s1 := (h'.out.each k hlt).s.cap
        have s2 := (h'.out.each k hlt).s.cmax
        have s3 := (h'.out.each k hlt).d.cap
        have s4 := (h'.out.each k hlt).d.cmax
        unfold maxLen at s2 s4
        obtain ⟨a, ha⟩ : ∃ a, a = z k := ⟨_, rfl⟩
        rw [← ha] at c1 c2 s1 s2 s3 s4
        have ha' := hidd ha
        clear ha hc
        by_cases h1 : 20 < a.sn
        · go_wp2
          go_ret
          exact ⟨true, rfl, (fun e => by cases e), rfl⟩
        · have e1 : decide ((20 : Int) < (a.sn : Int)) = false := by simp; omega
          by_cases h2 : 20 < a.dn
          · go_wp2
            go_ret
            exact ⟨true, rfl, (fun e => by cases e), rfl⟩
          · go_wp2
            go_round
            case rel => exact ⟨k + 1, by omega, by go_num, fun i hi => by
              rcases Nat.lt_or_ge i k with hi' | hi'
              · exact hall'.out i hi'
              · obtain rfl : i = k := by omega
                rw [← ha'.out]
                exact ⟨by omega, by omega⟩⟩
            case measure => simp [intOf]; omega
      · obtain rfl : k = n := by omega
        go_wp2
        go_ret
        exact ⟨false, rfl, fun _ => ⟨by omega, hall'.out⟩, rfl⟩
end Go.Proofs.Ytajlgglknianlaa
