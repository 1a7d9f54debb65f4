/- 'DrawsBelow': for every input the law returns true; nothing that was there is written. No condition. -/
import Derived.Test.YtgalphhamdemfaaGreat
namespace Go.Proofs.Ytgalphhamdemfaa
open Go.ChangeShapes Go.WideShapes Go.ChangeAt Go.RowKit Go.Deep
set_option linter.unusedVariables false

theorem open_pair {H : Type} {enc : TypeId × Value → H} {W : World} {r : Reach} {b0 : Nat} {v : Value} {d : DataW H} {p : List MemPlace} (hv : Value.okWide Try.prog W r b0 46 v) (h : DataW.Trod enc Try.prog W 0 (fun _ => true) true 46 v d p) (hw : Fit Try.prog 46 d) :
    ∃ x y, v = .agg #[.int .u32 x, .int .u32 y] ∧ (0 ≤ x ∧ x ≤ 4294967295) ∧ (0 ≤ y ∧ y ≤ 4294967295) := by
  simp only [Value.okWide, Try.underlying46] at hv
  obtain ⟨cs, rfl, hs, _⟩ := hv
  obtain ⟨fuel, hf⟩ := h
  obtain ⟨l, hl, hn, hwf⟩ := array_ints Try.underlying46 Try.underlying31 (by kernel_rfl) (by kernel_rfl) hf
  match l, hn with
  | [x, y], _ =>
    refine ⟨x, y, ?_, u32b (hwf x (by simp)), u32b (hwf y (by simp))⟩
    simp only [Value.cells, List.map_cons, List.map_nil] at hl
    congr 1
    exact Array.toList_inj.1 hl

theorem below_lo {x n : Int} (x0 : 0 ≤ x) (n0 : 0 ≤ n) : 0 ≤ below x n := by
  unfold below
  exact Int.ediv_nonneg (Int.mul_nonneg x0 n0) (by omega)
theorem below_hi {x n : Int} (x0 : 0 ≤ x) (x1 : x ≤ 4294967295) (n0 : 0 < n) : below x n < n := by
  unfold below
  apply Int.ediv_lt_of_lt_mul (by omega)
  have : x * n ≤ 4294967295 * n := Int.mul_le_mul_of_nonneg_right x1 (by omega)
  omega
theorem below_mono {x y n : Int} (h : x ≤ y) (n0 : 0 ≤ n) : below x n ≤ below y n := by
  unfold below
  exact Int.ediv_le_ediv (by omega) (Int.mul_le_mul_of_nonneg_right h n0)
theorem IsW.one_cell {w : World} {b : Nat} {x : Int} (h : IsW w b [x]) : w.cell? ⟨b, 257, none⟩ = some (.int .i64 1) := by
  obtain ⟨cs, f, hb, hc⟩ := h
  exact hb.at_ hc.many
theorem below_zero (x : Int) : below x 0 = 0 := by simp [below]

theorem pow_below (a : Int) (k : Nat) (hk : k < 32) : below a ((2 : Int) ^ k) = a / (2 : Int) ^ (32 - k) := by
  unfold below
  have e : (4294967296 : Int) = (2 : Int) ^ (32 - k) * (2 : Int) ^ k := by
    rw [← Int.pow_add, show 32 - k + k = 32 by omega]
    rfl
  rw [e]
  exact Int.mul_ediv_mul_of_pos_left _ _ (Int.pow_pos (by omega))

theorem pow_small (y : Int) (h0 : 0 ≤ y) : (2 : Int) ^ (y % 32).toNat % 4294967296 = (2 : Int) ^ (y % 32).toNat := by
  have hk : (y % 32).toNat < 32 := by omega
  apply Int.emod_eq_of_lt (Int.le_of_lt (Int.pow_pos (by omega)))
  have : (2 : Int) ^ (y % 32).toNat < (2 : Int) ^ 32 := Int.pow_lt_pow_of_lt (by omega) hk
  exact this

theorem pow_top (a y : Int) (h0 : 0 ≤ y) : below a ((2 : Int) ^ (y % 32).toNat % 4294967296) = a / (2 : Int) ^ (32 - y % 32).toNat := by
  have hk : (y % 32).toNat < 32 := by omega
  rw [pow_small y h0, pow_below a _ hk]
  congr 2
  omega

set_option maxRecDepth 100000 in
set_option maxHeartbeats 4000000 in
/-- From where the words were fed on. -/
theorem walkDrawsBelow (a0 a1 x2 y2 : Int) (w : World) (w0 : (Lit.int .u32 a0).wf = true) (w1 : (Lit.int .u32 a1).wf = true) (w2 : (0 ≤ x2 ∧ x2 ≤ 4294967295) ∧ (0 ≤ y2 ∧ y2 ≤ 4294967295)) :
    Calls Try.prog 6 #[.int .u32 a0, .int .u32 a1, .agg #[.int .u32 x2, .int .u32 y2]] w fun e w' => e = .returned (.bool true) ∧ Below w.heap.size w w' := by
  obtain ⟨b0, d0⟩ := u32b w0
  obtain ⟨b1, d1⟩ := u32b w1
  obtain ⟨⟨e0, e1⟩, f0, f1⟩ := w2
  clear w0 w1
  rcases Int.lt_trichotomy a0 a1 with hab | hab | hab
  · have hab' : a0 ≤ a1 := by omega
    have m1 := hidd (below_mono (n := x2) hab' e0)
    have m2 := hidd (below_lo (x := a0) (n := x2) (by omega) e0)
    have m3 := hidd (below_lo (x := a1) (n := x2) (by omega) e0)
    go_enter Try.func6, Try.ntmps6
    go_wp2_with fail
    refine (new_any _).mono ?_
    rintro e w1 ⟨rfl, hW1, hF1, hz1⟩
    simp only [World.size_alloc] at hz1 hW1
    have bl1 := hidd (((Below.refl _ w).alloc (Nat.le_refl _) (.cells #[Value.int .u32 x2, Value.int .u32 y2] 46)).trans (hF1.below (B := w.heap.size) (by simp) (fun _ h => h.elim)))
    clear hF1
    go_wp2_with fail
    have hW1' := hidd (hW1.fr ((Fr.refl (fun _ => False) w1).alloc (.cells #[Value.int .u32 a0, Value.int .u32 a1, Value.int .u32 a0, Value.int .u32 a0] 31)) (fun h => h))
    refine (feed_any _ _ _ hW1' _ _ _ [a0, a1, a0, a0] ?rd ?far ?rng).mono ?_
    case rng => intro x hx; simp at hx; omega
    case far => intro bb off sp h; injection h with h; injection h with h1 h2 h3; omega
    case rd =>
      have := (Blk.new w1 31 #[Value.int .u32 a0, Value.int .u32 a1, Value.int .u32 a0, Value.int .u32 a0]).rd 1 4 4 rfl (by omega) (by decide) (B := w1.heap.size + 1) (by omega)
      rw [hz1] at this
      simpa [hz1] using this
    rintro e w2 ⟨rfl, hW2, hF2⟩
    have bl2 := hidd (bl1.out.trans (((Below.refl _ w1).alloc (by omega) _).trans (hF2.below (B := w.heap.size) (by simp; omega) (fun k hk => by omega))))
    have hW2' : IsW w2 (w.heap.size + 1) [a0, a1, a0, a0] := by simpa using hW2
    have hs2 : w.heap.size < w2.heap.size := by have := hW2'.lt; omega
    clear hF2 hW1' hW1 hW2 hz1 bl1
    go_wp2_with fail
    refine (below_yes _ _ _ _ _ hW2' (by omega) (by omega)).mono ?_
    rintro e w3 ⟨rfl, hW3, hF3⟩
    have bl3 := hidd (bl2.out.trans (hF3.below (B := w.heap.size) (by omega) (fun k hk => by omega)))
    have hs3 : w.heap.size < w3.heap.size := by have := hW3.lt; omega
    clear hF3 hW2' bl2 hs2
    go_wp2_with fail
    refine (below_yes _ _ _ _ _ hW3 (by omega) (by omega)).mono ?_
    rintro e w4 ⟨rfl, hW4, hF4⟩
    have bl4 := hidd (bl3.out.trans (hF4.below (B := w.heap.size) (by omega) (fun k hk => by omega)))
    have hs4 : w.heap.size < w4.heap.size := by have := hW4.lt; omega
    clear hF4 hW3 bl3 hs3
    by_cases hn : 0 < x2
    · have k1 := below_hi (x := a0) (n := x2) (by omega) (by omega) hn
      have k2 := below_hi (x := a1) (n := x2) (by omega) (by omega) hn
      have k3 := m1.out
      have k4 := m2.out
      have k5 := m3.out
      go_wp2_with fail
      refine (below_yes _ _ _ _ _ hW4 (by omega) (by omega)).mono ?_
      rintro e w5 ⟨rfl, hW5, hF5⟩
      have bl5 := hidd (bl4.out.trans (hF5.below (B := w.heap.size) (by omega) (fun k hk => by omega)))
      have hs5 : w.heap.size < w5.heap.size := by have := hW5.lt; omega
      have hm5 := hW5.one_cell
      clear hF5 hW4 bl4 hs4
      rw [pow_top a0 y2 f0]
      go_wp2_with (go_at_call 18; refine (len_any _ _ _ hm5).mono ?_; rintro e w' ⟨rfl, rfl⟩)
      refine (below_yes _ _ _ _ _ hW5 (by omega) (by omega)).mono ?_
      rintro e w6 ⟨rfl, hW6, hF6⟩
      have bl6 := hidd (bl5.out.trans (hF6.below (B := w.heap.size) (by omega) (fun k hk => by omega)))
      have hm6 := hW6.none_cell
      clear hF6 hW5 bl5 hs5 hm5 hW6
      rw [below_zero]
      go_wp2_with (first
        | (go_at_call 18; refine (len_any _ _ _ hm6).mono ?_; rintro e w' ⟨rfl, rfl⟩)
        | (go_at_call 8; refine (lives_any _).mono ?_; rintro e w' ⟨rfl, hbel⟩))
      go_ret
      exact ⟨rfl, bl6.out.trans (hbel.mono bl6.out.size)⟩
    · have hx : x2 = 0 := by omega
      clear m1 m2 m3
      subst hx
      simp only [below_zero]
      go_wp2_with fail
      refine (below_yes _ _ _ _ _ hW4 (by omega) (by omega)).mono ?_
      rintro e w5 ⟨rfl, hW5, hF5⟩
      have bl5 := hidd (bl4.out.trans (hF5.below (B := w.heap.size) (by omega) (fun k hk => by omega)))
      have hs5 : w.heap.size < w5.heap.size := by have := hW5.lt; omega
      have hm5 := hW5.one_cell
      clear hF5 hW4 bl4 hs4
      rw [pow_top a0 y2 f0]
      go_wp2_with (go_at_call 18; refine (len_any _ _ _ hm5).mono ?_; rintro e w' ⟨rfl, rfl⟩)
      refine (below_yes _ _ _ _ _ hW5 (by omega) (by omega)).mono ?_
      rintro e w6 ⟨rfl, hW6, hF6⟩
      have bl6 := hidd (bl5.out.trans (hF6.below (B := w.heap.size) (by omega) (fun k hk => by omega)))
      have hm6 := hW6.none_cell
      clear hF6 hW5 bl5 hs5 hm5 hW6
      rw [below_zero]
      go_wp2_with (first
        | (go_at_call 18; refine (len_any _ _ _ hm6).mono ?_; rintro e w' ⟨rfl, rfl⟩)
        | (go_at_call 8; refine (lives_any _).mono ?_; rintro e w' ⟨rfl, hbel⟩))
      go_ret
      exact ⟨rfl, bl6.out.trans (hbel.mono bl6.out.size)⟩
  · subst hab
    have hab' : a0 ≤ a0 := by omega
    have m1 := hidd (below_mono (n := x2) hab' e0)
    have m2 := hidd (below_lo (x := a0) (n := x2) (by omega) e0)
    have m3 := hidd (below_lo (x := a0) (n := x2) (by omega) e0)
    go_enter Try.func6, Try.ntmps6
    go_wp2_with fail
    refine (new_any _).mono ?_
    rintro e w1 ⟨rfl, hW1, hF1, hz1⟩
    simp only [World.size_alloc] at hz1 hW1
    have bl1 := hidd (((Below.refl _ w).alloc (Nat.le_refl _) (.cells #[Value.int .u32 x2, Value.int .u32 y2] 46)).trans (hF1.below (B := w.heap.size) (by simp) (fun _ h => h.elim)))
    clear hF1
    go_wp2_with fail
    have hW1' := hidd (hW1.fr ((Fr.refl (fun _ => False) w1).alloc (.cells #[Value.int .u32 a0, Value.int .u32 a0, Value.int .u32 a0, Value.int .u32 a0] 31)) (fun h => h))
    refine (feed_any _ _ _ hW1' _ _ _ [a0, a0, a0, a0] ?rd ?far ?rng).mono ?_
    case rng => intro x hx; simp at hx; omega
    case far => intro bb off sp h; injection h with h; injection h with h1 h2 h3; omega
    case rd =>
      have := (Blk.new w1 31 #[Value.int .u32 a0, Value.int .u32 a0, Value.int .u32 a0, Value.int .u32 a0]).rd 1 4 4 rfl (by omega) (by decide) (B := w1.heap.size + 1) (by omega)
      rw [hz1] at this
      simpa [hz1] using this
    rintro e w2 ⟨rfl, hW2, hF2⟩
    have bl2 := hidd (bl1.out.trans (((Below.refl _ w1).alloc (by omega) _).trans (hF2.below (B := w.heap.size) (by simp; omega) (fun k hk => by omega))))
    have hW2' : IsW w2 (w.heap.size + 1) [a0, a0, a0, a0] := by simpa using hW2
    have hs2 : w.heap.size < w2.heap.size := by have := hW2'.lt; omega
    clear hF2 hW1' hW1 hW2 hz1 bl1
    go_wp2_with fail
    refine (below_yes _ _ _ _ _ hW2' (by omega) (by omega)).mono ?_
    rintro e w3 ⟨rfl, hW3, hF3⟩
    have bl3 := hidd (bl2.out.trans (hF3.below (B := w.heap.size) (by omega) (fun k hk => by omega)))
    have hs3 : w.heap.size < w3.heap.size := by have := hW3.lt; omega
    clear hF3 hW2' bl2 hs2
    go_wp2_with fail
    refine (below_yes _ _ _ _ _ hW3 (by omega) (by omega)).mono ?_
    rintro e w4 ⟨rfl, hW4, hF4⟩
    have bl4 := hidd (bl3.out.trans (hF4.below (B := w.heap.size) (by omega) (fun k hk => by omega)))
    have hs4 : w.heap.size < w4.heap.size := by have := hW4.lt; omega
    clear hF4 hW3 bl3 hs3
    by_cases hn : 0 < x2
    · have k1 := below_hi (x := a0) (n := x2) (by omega) (by omega) hn
      have k2 := below_hi (x := a0) (n := x2) (by omega) (by omega) hn
      have k3 := m1.out
      have k4 := m2.out
      have k5 := m3.out
      go_wp2_with fail
      refine (below_yes _ _ _ _ _ hW4 (by omega) (by omega)).mono ?_
      rintro e w5 ⟨rfl, hW5, hF5⟩
      have bl5 := hidd (bl4.out.trans (hF5.below (B := w.heap.size) (by omega) (fun k hk => by omega)))
      have hs5 : w.heap.size < w5.heap.size := by have := hW5.lt; omega
      have hm5 := hW5.one_cell
      clear hF5 hW4 bl4 hs4
      rw [pow_top a0 y2 f0]
      go_wp2_with (go_at_call 18; refine (len_any _ _ _ hm5).mono ?_; rintro e w' ⟨rfl, rfl⟩)
      refine (below_yes _ _ _ _ _ hW5 (by omega) (by omega)).mono ?_
      rintro e w6 ⟨rfl, hW6, hF6⟩
      have bl6 := hidd (bl5.out.trans (hF6.below (B := w.heap.size) (by omega) (fun k hk => by omega)))
      have hm6 := hW6.none_cell
      clear hF6 hW5 bl5 hs5 hm5 hW6
      rw [below_zero]
      go_wp2_with (first
        | (go_at_call 18; refine (len_any _ _ _ hm6).mono ?_; rintro e w' ⟨rfl, rfl⟩)
        | (go_at_call 8; refine (lives_any _).mono ?_; rintro e w' ⟨rfl, hbel⟩))
      go_ret
      exact ⟨rfl, bl6.out.trans (hbel.mono bl6.out.size)⟩
    · have hx : x2 = 0 := by omega
      clear m1 m2 m3
      subst hx
      simp only [below_zero]
      go_wp2_with fail
      refine (below_yes _ _ _ _ _ hW4 (by omega) (by omega)).mono ?_
      rintro e w5 ⟨rfl, hW5, hF5⟩
      have bl5 := hidd (bl4.out.trans (hF5.below (B := w.heap.size) (by omega) (fun k hk => by omega)))
      have hs5 : w.heap.size < w5.heap.size := by have := hW5.lt; omega
      have hm5 := hW5.one_cell
      clear hF5 hW4 bl4 hs4
      rw [pow_top a0 y2 f0]
      go_wp2_with (go_at_call 18; refine (len_any _ _ _ hm5).mono ?_; rintro e w' ⟨rfl, rfl⟩)
      refine (below_yes _ _ _ _ _ hW5 (by omega) (by omega)).mono ?_
      rintro e w6 ⟨rfl, hW6, hF6⟩
      have bl6 := hidd (bl5.out.trans (hF6.below (B := w.heap.size) (by omega) (fun k hk => by omega)))
      have hm6 := hW6.none_cell
      clear hF6 hW5 bl5 hs5 hm5 hW6
      rw [below_zero]
      go_wp2_with (first
        | (go_at_call 18; refine (len_any _ _ _ hm6).mono ?_; rintro e w' ⟨rfl, rfl⟩)
        | (go_at_call 8; refine (lives_any _).mono ?_; rintro e w' ⟨rfl, hbel⟩))
      go_ret
      exact ⟨rfl, bl6.out.trans (hbel.mono bl6.out.size)⟩
  · have hab' : a1 ≤ a0 := by omega
    have m1 := hidd (below_mono (n := x2) hab' e0)
    have m2 := hidd (below_lo (x := a1) (n := x2) (by omega) e0)
    have m3 := hidd (below_lo (x := a0) (n := x2) (by omega) e0)
    go_enter Try.func6, Try.ntmps6
    go_wp2_with fail
    refine (new_any _).mono ?_
    rintro e w1 ⟨rfl, hW1, hF1, hz1⟩
    simp only [World.size_alloc] at hz1 hW1
    have bl1 := hidd (((Below.refl _ w).alloc (Nat.le_refl _) (.cells #[Value.int .u32 x2, Value.int .u32 y2] 46)).trans (hF1.below (B := w.heap.size) (by simp) (fun _ h => h.elim)))
    clear hF1
    go_wp2_with fail
    have hW1' := hidd (hW1.fr ((Fr.refl (fun _ => False) w1).alloc (.cells #[Value.int .u32 a1, Value.int .u32 a0, Value.int .u32 a0, Value.int .u32 a0] 31)) (fun h => h))
    refine (feed_any _ _ _ hW1' _ _ _ [a1, a0, a0, a0] ?rd ?far ?rng).mono ?_
    case rng => intro x hx; simp at hx; omega
    case far => intro bb off sp h; injection h with h; injection h with h1 h2 h3; omega
    case rd =>
      have := (Blk.new w1 31 #[Value.int .u32 a1, Value.int .u32 a0, Value.int .u32 a0, Value.int .u32 a0]).rd 1 4 4 rfl (by omega) (by decide) (B := w1.heap.size + 1) (by omega)
      rw [hz1] at this
      simpa [hz1] using this
    rintro e w2 ⟨rfl, hW2, hF2⟩
    have bl2 := hidd (bl1.out.trans (((Below.refl _ w1).alloc (by omega) _).trans (hF2.below (B := w.heap.size) (by simp; omega) (fun k hk => by omega))))
    have hW2' : IsW w2 (w.heap.size + 1) [a1, a0, a0, a0] := by simpa using hW2
    have hs2 : w.heap.size < w2.heap.size := by have := hW2'.lt; omega
    clear hF2 hW1' hW1 hW2 hz1 bl1
    go_wp2_with fail
    refine (below_yes _ _ _ _ _ hW2' (by omega) (by omega)).mono ?_
    rintro e w3 ⟨rfl, hW3, hF3⟩
    have bl3 := hidd (bl2.out.trans (hF3.below (B := w.heap.size) (by omega) (fun k hk => by omega)))
    have hs3 : w.heap.size < w3.heap.size := by have := hW3.lt; omega
    clear hF3 hW2' bl2 hs2
    go_wp2_with fail
    refine (below_yes _ _ _ _ _ hW3 (by omega) (by omega)).mono ?_
    rintro e w4 ⟨rfl, hW4, hF4⟩
    have bl4 := hidd (bl3.out.trans (hF4.below (B := w.heap.size) (by omega) (fun k hk => by omega)))
    have hs4 : w.heap.size < w4.heap.size := by have := hW4.lt; omega
    clear hF4 hW3 bl3 hs3
    by_cases hn : 0 < x2
    · have k1 := below_hi (x := a1) (n := x2) (by omega) (by omega) hn
      have k2 := below_hi (x := a0) (n := x2) (by omega) (by omega) hn
      have k3 := m1.out
      have k4 := m2.out
      have k5 := m3.out
      go_wp2_with fail
      refine (below_yes _ _ _ _ _ hW4 (by omega) (by omega)).mono ?_
      rintro e w5 ⟨rfl, hW5, hF5⟩
      have bl5 := hidd (bl4.out.trans (hF5.below (B := w.heap.size) (by omega) (fun k hk => by omega)))
      have hs5 : w.heap.size < w5.heap.size := by have := hW5.lt; omega
      have hm5 := hW5.one_cell
      clear hF5 hW4 bl4 hs4
      rw [pow_top a0 y2 f0]
      go_wp2_with (go_at_call 18; refine (len_any _ _ _ hm5).mono ?_; rintro e w' ⟨rfl, rfl⟩)
      refine (below_yes _ _ _ _ _ hW5 (by omega) (by omega)).mono ?_
      rintro e w6 ⟨rfl, hW6, hF6⟩
      have bl6 := hidd (bl5.out.trans (hF6.below (B := w.heap.size) (by omega) (fun k hk => by omega)))
      have hm6 := hW6.none_cell
      clear hF6 hW5 bl5 hs5 hm5 hW6
      rw [below_zero]
      go_wp2_with (first
        | (go_at_call 18; refine (len_any _ _ _ hm6).mono ?_; rintro e w' ⟨rfl, rfl⟩)
        | (go_at_call 8; refine (lives_any _).mono ?_; rintro e w' ⟨rfl, hbel⟩))
      go_ret
      exact ⟨rfl, bl6.out.trans (hbel.mono bl6.out.size)⟩
    · have hx : x2 = 0 := by omega
      clear m1 m2 m3
      subst hx
      simp only [below_zero]
      go_wp2_with fail
      refine (below_yes _ _ _ _ _ hW4 (by omega) (by omega)).mono ?_
      rintro e w5 ⟨rfl, hW5, hF5⟩
      have bl5 := hidd (bl4.out.trans (hF5.below (B := w.heap.size) (by omega) (fun k hk => by omega)))
      have hs5 : w.heap.size < w5.heap.size := by have := hW5.lt; omega
      have hm5 := hW5.one_cell
      clear hF5 hW4 bl4 hs4
      rw [pow_top a0 y2 f0]
      go_wp2_with (go_at_call 18; refine (len_any _ _ _ hm5).mono ?_; rintro e w' ⟨rfl, rfl⟩)
      refine (below_yes _ _ _ _ _ hW5 (by omega) (by omega)).mono ?_
      rintro e w6 ⟨rfl, hW6, hF6⟩
      have bl6 := hidd (bl5.out.trans (hF6.below (B := w.heap.size) (by omega) (fun k hk => by omega)))
      have hm6 := hW6.none_cell
      clear hF6 hW5 bl5 hs5 hm5 hW6
      rw [below_zero]
      go_wp2_with (first
        | (go_at_call 18; refine (len_any _ _ _ hm6).mono ?_; rintro e w' ⟨rfl, rfl⟩)
        | (go_at_call 8; refine (lives_any _).mono ?_; rintro e w' ⟨rfl, hbel⟩))
      go_ret
      exact ⟨rfl, bl6.out.trans (hbel.mono bl6.out.size)⟩

set_option maxRecDepth 100000 in
theorem liftedDrawsBelow (os : Os) (started : os.Started) (H : Type) (enc : TypeId × Value → H) :
    ReturnsInHanded {} Try.checked os 6 .any (Rows.drawsBelowSpec.pre6 enc Try.prog Try.f6 Rows.drawsBelowRow.domain false) (Rows.drawsBelowSpec.post enc Try.prog Try.f6 false true false false) := by
  refine returnsInHanded_of_change_sized (C := Try.checked) own started (by kernel_rfl) Try.func6
    (ChangeSpec.witness6 (enc := enc) (C := Try.checked) false ⟨#[], #[.int .u32 0, .int .u32 0, .agg #[.int .u32 0, .int .u32 0]], []⟩ 8 (by kernel_rfl) (by kernel_rfl) (by kernel_rfl) (by kernel_rfl)) ?_
  intro W base args ds gs before hval0 hW hcnd hsz0 _
  have hval : ∀ (j : Nat) t v, Try.f6.params[j]? = some t → args[j]? = some v → Value.okWide Try.prog W .any base t v := hval0
  have hW' := hW
  obtain ⟨p, q, hA0, hV, rfl, hfz, hnd⟩ := hW
  have hA : DataW.TrodAll enc Try.prog W 0 (fun _ => true) true Try.f6.params.toList args.toList ds p := hA0
  have hsz : (DataW.weightsEach Try.prog (Try.f6.params.toList ++ Rows.drawsBelowSpec.plain.varTypes Try.prog) (ds ++ gs)).all (· ≤ reachBytes) = true := hsz0
  rw [Try.params6] at hA hval hsz
  obtain ⟨v0, vs0, d0, ds0, p0, q0, hargs, rfl, rfl, h0, r0⟩ := trodAll_cons hA
  obtain ⟨v1, vs1, d1, ds1, p1, q1, rfl, rfl, rfl, h1, r1⟩ := trodAll_cons r0
  obtain ⟨v2, vs2, d2, ds2, p2, q2, rfl, rfl, rfl, h2, r2⟩ := trodAll_cons r1
  obtain ⟨rfl, rfl, rfl⟩ := trodAll_nil r2
  obtain rfl : args = #[v0, v1, v2] := by cases args; simp_all
  obtain ⟨rfl, rfl⟩ := trodVars_none hV
  have k0 := h0
  have lt0 : ∀ x ∈ p0, x.block < W.heap.size := by obtain ⟨m, hm⟩ := k0; exact DataW.trod_lt m _ _ _ hm
  have fit0 : Fit Try.prog 31 d0 := fun m hm => by simpa using List.all_eq_true.1 hsz _ (DataW.weights_mem_each (j := 0) (t := 31) rfl rfl m hm)
  obtain ⟨a0, rfl, _, _, w0⟩ := open_int Try.underlying31 (hval 0 31 v0 rfl rfl) h0
  have k1 := h1
  have lt1 : ∀ x ∈ p1, x.block < W.heap.size := by obtain ⟨m, hm⟩ := k1; exact DataW.trod_lt m _ _ _ hm
  have fit1 : Fit Try.prog 31 d1 := fun m hm => by simpa using List.all_eq_true.1 hsz _ (DataW.weights_mem_each (j := 1) (t := 31) rfl rfl m hm)
  obtain ⟨a1, rfl, _, _, w1⟩ := open_int Try.underlying31 (hval 1 31 v1 rfl rfl) h1
  have k2 := h2
  have lt2 : ∀ x ∈ p2, x.block < W.heap.size := by obtain ⟨m, hm⟩ := k2; exact DataW.trod_lt m _ _ _ hm
  have fit2 : Fit Try.prog 46 d2 := fun m hm => by simpa using List.all_eq_true.1 hsz _ (DataW.weights_mem_each (j := 2) (t := 46) rfl rfl m hm)
  obtain ⟨x2, y2, ev2, w2⟩ := open_pair (hval 2 46 v2 rfl rfl) h2 fit2
  subst ev2
  clear hA0 hval0
  refine (walkDrawsBelow a0 a1 x2 y2 W w0 w1 w2).mono fun e W' ⟨he, bel⟩ => ?_
  subst he
  exact ⟨_, rfl, _, _, _, [], _, [], hW', trodAll_mk1 (shut_bool Try.underlying4 _), (trodAll_cons_mk (Below.trod laidOut (by kernel_rfl) (of_decide_eq_true (by kernel_rfl)) k0 bel lt0) (trodAll_cons_mk (Below.trod laidOut (by kernel_rfl) (of_decide_eq_true (by kernel_rfl)) k1 bel lt1) (trodAll_cons_mk (Below.trod laidOut (by kernel_rfl) (of_decide_eq_true (by kernel_rfl)) k2 bel lt2) trodAll_mk0))), rfl, bel.frame _, fun h => by cases h⟩

/-- THE STATEMENT: 'DrawsBelow'. -/
theorem drawsBelow_holds : Rows.DrawsBelowSaid :=
  OpenClaim.holds_of_wide 6 Try.f6 rfl rfl rfl rfl rfl rfl rfl ⟨rfl, rfl, rfl, rfl, rfl⟩ rfl rfl rfl rfl rfl (by kernel_rfl) Try.func6 (by kernel_rfl)
    (of_decide_eq_true (by kernel_rfl)) (by unfold Func.isWrapper; first | (rw [if_pos (by decide +kernel)]; kernel_rfl) | (rw [if_neg (by decide +kernel)]; exact ⟨rfl, rfl⟩))
    (fun os started H enc _ => liftedDrawsBelow os started H enc)

end Go.Proofs.Ytgalphhamdemfaa
