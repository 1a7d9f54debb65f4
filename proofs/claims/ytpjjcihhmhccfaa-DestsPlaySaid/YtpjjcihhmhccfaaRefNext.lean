/- The reference: the time that comes next; each function walked once. No condition. -/
import Derived.Test.YtpjjcihhmhccfaaRefLow
namespace Go.Proofs.Ytpjjcihhmhccfaa
open Go.ChangeShapes Go.WideShapes Go.ChangeAt Go.RowKit Go.Deep
set_option linter.unusedVariables false
set_option linter.unusedSimpArgs false

set_option maxRecDepth 100000 in
set_option maxHeartbeats 4000000 in
theorem next_ref (w : World) {M : Nat} {v : Value} {es : List E} (h : Rf w M v es) : Calls Try.prog 34 #[ptr M] w fun r w' => r = .returned (.int .u64 (nextT es)) ∧ w = w' := by
  obtain ⟨A, c, rfl, hcn, hcm⟩ := h.slice
  obtain ⟨n, hn⟩ : ∃ n, es.length = n := ⟨_, rfl⟩
  have hmax := h.max
  have c0 := h.v0
  have R1 := hidd h
  rw [hn] at R1 hcn hmax c0
  have hn' := hidd hn
  clear h hn
  go_enter Try.func34, Try.ntmps34
  go_wp2
  go_loop [3, 4] (fun a i => ∃ j : Nat, j ≤ n ∧ i = .int .i64 j ∧ a = .int .u64 (nextT (es.take j))) (fun _ i => n - (intOf i).toNat)
  case atStart => exact ⟨0, Nat.zero_le _, rfl, rfl⟩
  case round =>
    obtain ⟨j, hj, rfl, rfl⟩ := hrel
    by_cases hjn : j < n
    · obtain ⟨e, he⟩ : ∃ e, es[j]? = some e := ⟨_, List.getElem?_eq_getElem (by rw [hn'.out]; omega)⟩
      have hE := hidd (R1.out.ok e (List.mem_of_getElem? he))
      obtain ⟨g, c2, hv, hg, hrow⟩ := R1.out.pos (by rw [hn'.out]; omega)
      injection hv with hA hn2 hc2
      subst hA hc2
      have c32 := gMtu hE.out (hrow j e he)
      have c33 := gUntil hE.out (hrow j e he)
      have hjz : (j : Int) < (n : Int) := by omega
      have hs := nextT_snoc he
      have hm0 := hE.out.m.1
      obtain ⟨t, ht⟩ : ∃ t, nextT (es.take j) = t := ⟨_, rfl⟩
      obtain ⟨t', ht'⟩ : ∃ t', nextT (es.take (j + 1)) = t' := ⟨_, rfl⟩
      rw [ht, ht'] at hs
      rw [ht]
      have hs' := hidd hs
      have ht2 := hidd ht'
      obtain ⟨mt, hmt⟩ : ∃ mt, e.2.2.1 = mt := ⟨_, rfl⟩
      obtain ⟨u, hu⟩ : ∃ u, e.2.2.2 = u := ⟨_, rfl⟩
      rw [hmt] at c32 hs' hm0
      rw [hu] at c33 hs'
      clear hrow he hn2 hs ht ht' hmt hu
      by_cases hz : mt = 0
      · have h1 : (mt == 0) = true := by simpa using hz
        have h1' : decide (mt = 0) = true := by simpa using hz
        go_wp2
        go_round
        case rel => exact ⟨j + 1, by omega, by go_num, by rw [ht2.out, hs'.out, if_neg (by omega)]⟩
        case measure => simp [intOf]; omega
      · have h1 : (mt == 0) = false := by simpa using hz
        have h1' : decide (mt = 0) = false := by simpa using hz
        go_wp2
        go_round
        case rel => exact ⟨j + 1, by omega, by go_num, by rw [ht2.out, hs'.out, if_pos (by omega)]⟩
        case measure => simp [intOf]; omega
    · have hjn' : j = n := by omega
      subst hjn'
      rw [List.take_of_length_le (by rw [hn'.out]; exact Nat.le_refl _)]
      go_wp2
      go_ret
      exact ⟨rfl, rfl⟩
end Go.Proofs.Ytpjjcihhmhccfaa
