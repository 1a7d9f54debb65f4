/- Numbers set side by side; the first that is not nought. Each function walked once. No condition. -/
import Derived.Test.YtepenfgoejhofaaMap
namespace Go.Proofs.Ytepenfgoejhofaa
open Go.ChangeShapes Go.WideShapes Go.ChangeAt Go.RowKit Go.Deep
set_option linter.unusedVariables false
set_option linter.unusedSimpArgs false

def cmpI (x y : Int) : Int := if x < y then -1 else if y < x then 1 else 0
theorem nan_u64 (x : Int) (w : World) : Calls Try.prog 54 #[.int .u64 x] w fun r w' => r = .returned (.bool false) ∧ w = w' := by
  have h : (x != x) = false := by simp
  go_enter Try.func54, Try.ntmps54
  go_wp2
  go_ret
  exact ⟨rfl, rfl⟩
theorem nan_u8 (x : Int) (w : World) : Calls Try.prog 55 #[.int .u8 x] w fun r w' => r = .returned (.bool false) ∧ w = w' := by
  have h : (x != x) = false := by simp
  go_enter Try.func55, Try.ntmps55
  go_wp2
  go_ret
  exact ⟨rfl, rfl⟩
theorem cmp_u64 (x y : Int) (w : World) : Calls Try.prog 52 #[.int .u64 x, .int .u64 y] w fun r w' => r = .returned (.int .i64 (cmpI x y)) ∧ w = w' := by
  have m1 : x < y → (-1 : Int) = cmpI x y := fun h => by unfold cmpI; rw [if_pos h]
  have m2 : y < x → (1 : Int) = cmpI x y := fun h => by unfold cmpI; rw [if_neg (by omega), if_pos h]
  have m3 : x = y → (0 : Int) = cmpI x y := fun h => by unfold cmpI; rw [if_neg (by omega), if_neg (by omega)]
  generalize cmpI x y = z at m1 m2 m3 ⊢
  go_enter Try.func52, Try.ntmps52
  go_wp2_with (go_at_call 54; refine (nan_u64 _ _).mono ?_; rintro r w' ⟨rfl, rfl⟩)
  · go_ret
    exact ⟨congrArg (fun z => Ending.returned (.int .i64 z)) (m1 (by omega)), rfl⟩
  · go_ret
    exact ⟨congrArg (fun z => Ending.returned (.int .i64 z)) (m2 (by omega)), rfl⟩
  · go_ret
    exact ⟨congrArg (fun z => Ending.returned (.int .i64 z)) (m3 (by omega)), rfl⟩
theorem cmp_u8 (x y : Int) (w : World) : Calls Try.prog 53 #[.int .u8 x, .int .u8 y] w fun r w' => r = .returned (.int .i64 (cmpI x y)) ∧ w = w' := by
  have m1 : x < y → (-1 : Int) = cmpI x y := fun h => by unfold cmpI; rw [if_pos h]
  have m2 : y < x → (1 : Int) = cmpI x y := fun h => by unfold cmpI; rw [if_neg (by omega), if_pos h]
  have m3 : x = y → (0 : Int) = cmpI x y := fun h => by unfold cmpI; rw [if_neg (by omega), if_neg (by omega)]
  generalize cmpI x y = z at m1 m2 m3 ⊢
  go_enter Try.func53, Try.ntmps53
  go_wp2_with (go_at_call 55; refine (nan_u8 _ _).mono ?_; rintro r w' ⟨rfl, rfl⟩)
  · go_ret
    exact ⟨congrArg (fun z => Ending.returned (.int .i64 z)) (m1 (by omega)), rfl⟩
  · go_ret
    exact ⟨congrArg (fun z => Ending.returned (.int .i64 z)) (m2 (by omega)), rfl⟩
  · go_ret
    exact ⟨congrArg (fun z => Ending.returned (.int .i64 z)) (m3 (by omega)), rfl⟩
def orI (x y z : Int) : Int := if x ≠ 0 then x else if y ≠ 0 then y else z
theorem or_any (v : Nat → Int) (w : World) (g : Nat) (h : ∀ k, k < 3 → w.cell? ⟨g, k, none⟩ = some (.int .i64 (v k))) :
    Calls Try.prog 51 #[.slice (some ⟨g, 0, none⟩) 3 3] w fun r w' => r = .returned (.int .i64 (orI (v 0) (v 1) (v 2))) ∧ w = w' := by
  have K := hidd h
  have m1 : ∀ k, k < 3 → (∀ i, i < k → v i = 0) → v k ≠ 0 → v k = orI (v 0) (v 1) (v 2) := fun k hk hz hn => by
    unfold orI
    rcases (show k = 0 ∨ k = 1 ∨ k = 2 by omega) with rfl | rfl | rfl
    · rw [if_pos hn]
    · rw [if_neg (by simp [hz 0 (by omega)]), if_pos hn]
    · rw [if_neg (by simp [hz 0 (by omega)]), if_neg (by simp [hz 1 (by omega)])]
  have m2 : (∀ i, i < 3 → v i = 0) → (0 : Int) = orI (v 0) (v 1) (v 2) := fun hz => by
    unfold orI
    rw [if_neg (by simp [hz 0 (by omega)]), if_neg (by simp [hz 1 (by omega)]), hz 2 (by omega)]
  generalize orI (v 0) (v 1) (v 2) = o at m1 m2 ⊢
  have M1 := hidd m1
  have M2 := hidd m2
  clear h m1 m2
  go_enter Try.func51, Try.ntmps51
  go_wp2_with fail
  go_loopw [8] (fun i wr => ∃ k : Nat, k ≤ 3 ∧ i = .int .i64 k ∧ w = wr ∧ Hid (∀ i, i < k → v i = 0)) (fun i _ => 3 - (intOf i).toNat)
  case atStart => exact ⟨0, Nat.zero_le _, rfl, rfl, hidd (fun i hi => by omega)⟩
  case round =>
    obtain ⟨k, hk, rfl, hww, hz⟩ := hrel
    subst hww
    by_cases hk3 : k < 3
    · have hc := K.out k hk3
      have hd : decide ((k : Int) < 3) = true := by simp; omega
      obtain ⟨x, hx⟩ : ∃ x, v k = x := ⟨_, rfl⟩
      rw [hx] at hc
      by_cases hv0 : x = 0
      · have hne : (x != 0) = false := by simp [hv0]
        have hz' := hidd (fun (i : Nat) (hi : i < k + 1) => (show v i = 0 from by
          by_cases e : i = k
          · rw [e, hx]; exact hv0
          · exact hz.out i (by omega)))
        clear hv0
        go_wp2
        go_roundw
        case rel => exact ⟨k + 1, by omega, by go_num, trivial, hz'⟩
        case measure => simp [intOf]; omega
      · have hne : (x != 0) = true := by simp [hv0]
        go_wp2
        go_ret
        exact ⟨congrArg (fun z => Ending.returned (.int .i64 z)) (hx ▸ M1.out k hk3 hz.out (by rw [hx]; exact hv0)), rfl⟩
    · obtain rfl : k = 3 := by omega
      go_wp2
      go_ret
      exact ⟨congrArg (fun z => Ending.returned (.int .i64 z)) (M2.out hz.out), rfl⟩
theorem bef_cmp (a b : T3) : decide (orI (cmpI a.2.2 b.2.2) (cmpI a.1 b.1) (cmpI a.2.1 b.2.1) < 0) = bef a b := by
  have h := bef_iff a b
  have e : (orI (cmpI a.2.2 b.2.2) (cmpI a.1 b.1) (cmpI a.2.1 b.2.1) < 0) ↔ bef a b = true := by
    rw [h]
    unfold orI cmpI
    repeat' split
    all_goals omega
  cases hb : bef a b with
  | true => rw [decide_eq_true_eq]; exact e.2 hb
  | false => rw [decide_eq_false_iff_not]; exact fun k => by rw [e.1 k] at hb; cases hb
end Go.Proofs.Ytepenfgoejhofaa
