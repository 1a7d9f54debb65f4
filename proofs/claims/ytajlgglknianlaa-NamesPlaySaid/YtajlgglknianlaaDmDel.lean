/- Delete of one thing, walked once. No condition. -/
import Derived.Test.YtajlgglknianlaaDmKeep
import Derived.Deep.RegionLaw
namespace Go.Proofs.Ytajlgglknianlaa.Dm
open Go.Proofs.Ytajlgglknianlaa Go.ChangeShapes Go.WideShapes Go.ChangeAt Go.RowKit Go.Deep
set_option linter.unusedVariables false
set_option linter.unusedSimpArgs false

set_option maxRecDepth 100000 in
theorem delete_any (w : World) (base g n c i : Nat) (xs : List Value) (h : w.ownsRow base 71 2 (.slice (some ⟨g, 0, none⟩) n c) n xs) (h1 : ∀ u ∈ xs, u.oneCell' = true) (hi : i < n) :
    Calls Try.prog 46 #[.slice (some ⟨g, 0, none⟩) n c, .int .i64 i, .int .i64 ((i : Int) + 1)] w fun e w' => e = .returned (.slice (some ⟨g, 0, none⟩) (n - 1) c) ∧
      w'.ownsRow base 71 2 (.slice (some ⟨g, 0, none⟩) (n - 1) c) (n - 1) (xs.take (i * 2) ++ xs.drop ((i + 1) * 2)) ∧ Fr (· = g) w w' := by
  obtain ⟨hnc, hcm⟩ := own_cap h
  have o1 := hidd (own_drew (own_cut h (m := i) (by omega)))
  obtain ⟨A, hA⟩ : ∃ A : Option Addr, (if c = i + 1 then some (⟨g, 0, none⟩ : Addr) else some ⟨g, (i + 1) * 2, none⟩) = A := ⟨_, rfl⟩
  have hA' : (if c = i + 1 then some (⟨g, 0, none⟩ : Addr) else (some (⟨g, 0, none⟩ : Addr)).map (·.add ((i + 1) * 2))) = A := by rw [← hA]; simp [Addr.add]
  have r1 := hidd ((Rd.of_own h).drew.cut (k := i + 1) (by omega))
  rw [hA'] at r1
  have h1' : Hid (∀ u ∈ xs.drop ((i + 1) * 2), u.oneCell' = true) := fun u hu => h1 u (List.mem_of_mem_drop hu)
  have f0 := hidd ((Fr.refl (· = g) w).drew)
  unfold maxLen at hcm
  have q1 : i ≤ c := by omega
  have q2 : i + 1 ≤ c := by omega
  have q3 : 0 ≤ (i : Int) + 1 := by omega
  have q4 : (i : Int) + 1 ≤ (n : Int) := by omega
  clear h h1
  go_enter Try.func46, Try.ntmps46
  go_wp2_with fail
  go_region_law (refine step_append_fits _ rfl (.tmp 22) (.tmp 25) slTy rfl (by simp [Act.eval, Act.put]) o1.out (by simp [Act.eval, Act.put]) r1.out h1'.out (by omega) ?_; intro W o2 f2)
  all_goals
    obtain ⟨m, hm⟩ : ∃ m, i + (n - (i + 1)) = m := ⟨_, rfl⟩
    rw [hm] at o2 ⊢
    try simp only [hA]
    clear hA hA'
    obtain ⟨vs, hcl⟩ := run_clear_own (P := Try.prog) W Try.underlying59 zeroE (size := 2) rfl (by decide) g (m * 2) (n - m) (c - m) (by omega) (by omega) (own_there o2 (by rw [← Nat.add_mul]; exact Nat.mul_le_mul_right _ (by omega)))
    have o3 := hidd (own_past o2 (Nat.le_refl _) vs)
    have f3 := hidd ((f0.out.trans f2).trans (fr_cells W g vs (m * 2)))
    have hne : ¬ c = m := by omega
    have q5 : m ≤ n := by omega
    have q6 : n ≤ c := by omega
    have q7 : n - 1 = m := by omega
    clear o1 r1 h1' o2 f2 f0
    go_wp2
    go_ret
    try rw [q7]
    exact ⟨rfl, o3.out, f3.out⟩
end Go.Proofs.Ytajlgglknianlaa.Dm
