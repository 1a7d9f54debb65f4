/- The reference's checksum of one list, walked once. No condition but that the list reads as said. -/
import Derived.Test.YtekmkainhehnpaaSeq
import Derived.Test.YtekmkainhehnpaaAid
namespace Go.Proofs.Ytekmkainhehnpaa
open Go.ChangeShapes Go.WideShapes Go.ChangeAt Go.RowKit
set_option linter.unusedVariables false

theorem wsum_item {l : List Int} {j : Nat} {y : Int} (h : l[j]? = some y) (h0 : 0 ≤ y) (h1 : y ≤ 255) :
    wsum (upto (item l) (j + 1)) = wsum (upto (item l) j) + y * (if j % 2 = 0 then 256 else 1) := by
  rw [upto_succ, wsum_snoc, item_fst h h0 h1]
  have e : (item l j).1.2 = 8 - 8 * ((j : Int) % 2) := rfl
  rw [e]
  by_cases hj : j % 2 = 0
  · rw [if_pos hj, if_pos (by omega)]
  · rw [if_neg hj, if_neg (by omega)]

theorem canon_add {s x : Int} (hs : 0 ≤ s) (h0 : 0 ≤ x) (h1 : x ≤ 65535) : canon (s + x) = if canon s + x ≤ 65535 then canon s + x else canon s + x - 65535 := by
  unfold canon
  split <;> split <;> split <;> omega

theorem canon_bound {s : Int} (hs : 0 ≤ s) : 0 ≤ canon s ∧ canon s ≤ 65535 := by
  unfold canon; split <;> omega

set_option maxRecDepth 100000 in
set_option maxHeartbeats 1000000 in
theorem refOf_any (w : World) (B : Nat) (A : Option Addr) (n c : Nat) (xs : List Int) (hx : Rd w B 1 A n c (xs.map (Value.int .u8))) (hr : ∀ x ∈ xs, 0 ≤ x ∧ x ≤ 255) (hn : n ≤ 4294967296) :
    Calls Try.prog 11 #[.slice A n c] w fun e w' => e = .returned (.int .u16 (ck xs)) ∧ w = w' := by
  have hlen : xs.length = n := by have := hx.len; simpa using this
  have hcm := hx.cmax
  have hcn := hx.cap
  unfold maxLen at hcm
  go_enter Try.func11, Try.ntmps11
  go_wp2
  go_loop [3, 4] (fun s i => ∃ k : Nat, 2 * k ≤ n + 1 ∧ i = .int .i64 ((2 * k : Nat) : Int) ∧ s = .int .u32 (canon (wsum (upto (item xs) (min (2 * k) n))))) (fun _ i => n + 2 - (intOf i).toNat)
  case atStart => exact ⟨0, by omega, rfl, rfl⟩
  case round =>
    obtain ⟨k, hk, rfl, rfl⟩ := hrel
    by_cases hlt : 2 * k < n
    · obtain ⟨b, off, rfl, hb, hc⟩ := hx.ints (by omega)
      have c1 := hc (2 * k) hlt
      obtain ⟨y, hy⟩ : ∃ y, xs[2 * k]? = some y := ⟨xs[2 * k]'(by omega), List.getElem?_eq_getElem _⟩
      rw [hy, Option.getD_some] at c1
      obtain ⟨y0, y1⟩ := hr y (List.mem_of_getElem? hy)
      have w1 := wsum_item hy y0 y1
      rw [if_pos (by omega)] at w1
      obtain ⟨p0, _⟩ := wsum_bound (upto (item xs) (2 * k))
      have e1 : min (2 * k) n = 2 * k := by omega
      rw [e1]
      obtain ⟨s, hs⟩ : ∃ s, s = wsum (upto (item xs) (2 * k)) := ⟨_, rfl⟩
      rw [← hs] at w1 p0 ⊢
      obtain ⟨q0, q1⟩ := canon_bound p0
      by_cases hlt2 : 2 * k + 1 < n
      · have c2 := hc (2 * k + 1) hlt2
        obtain ⟨z, hz⟩ : ∃ z, xs[2 * k + 1]? = some z := ⟨xs[2 * k + 1]'(by omega), List.getElem?_eq_getElem _⟩
        rw [hz, Option.getD_some] at c2
        obtain ⟨z0, z1⟩ := hr z (List.mem_of_getElem? hz)
        have w2 := wsum_item hz z0 z1
        rw [if_neg (by omega), w1, Int.mul_one, Int.add_assoc] at w2
        have hca := canon_add (x := y * 256 + z) p0 (by omega) (by omega)
        rw [← w2] at hca
        have e2 : min (2 * (k + 1)) n = 2 * k + 1 + 1 := by omega
        have hfin := hidd hca
        have e2' := hidd e2
        obtain ⟨t, ht⟩ : ∃ t, t = canon s := ⟨_, rfl⟩
        rw [← ht] at q0 q1 hfin ⊢
        clear hs ht w1 w2 hca e1 e2 hc hx hr hy hz
        by_cases hbig : t + (y * 256 + z) ≤ 65535
        · go_wp2
          go_round
          case rel => exact ⟨k + 1, by omega, by go_num, by rw [e2'.out, hfin.out, if_pos hbig]; go_num⟩
          case measure => simp [intOf]; omega
        · go_wp2
          go_round
          case rel => exact ⟨k + 1, by omega, by go_num, by rw [e2'.out, hfin.out, if_neg hbig]; go_num⟩
          case measure => simp [intOf]; omega
      · have hca := canon_add (x := y * 256) p0 (by omega) (by omega)
        rw [← w1] at hca
        have e2 : min (2 * (k + 1)) n = 2 * k + 1 := by omega
        have hfin := hidd hca
        have e2' := hidd e2
        obtain ⟨t, ht⟩ : ∃ t, t = canon s := ⟨_, rfl⟩
        rw [← ht] at q0 q1 hfin ⊢
        clear hs ht w1 hca e1 e2 hc hx hr hy
        by_cases hbig : t + y * 256 ≤ 65535
        · go_wp2
          go_round
          case rel => exact ⟨k + 1, by omega, by go_num, by rw [e2'.out, hfin.out, if_pos hbig]; go_num⟩
          case measure => simp [intOf]; omega
        · go_wp2
          go_round
          case rel => exact ⟨k + 1, by omega, by go_num, by rw [e2'.out, hfin.out, if_neg hbig]; go_num⟩
          case measure => simp [intOf]; omega
    · have e1 : min (2 * k) n = n := by omega
      obtain ⟨p0, _⟩ := wsum_bound (upto (item xs) n)
      rw [e1]
      obtain ⟨q0, q1⟩ := canon_bound p0
      have hck : Hid (ck xs = 65535 - canon (wsum (upto (item xs) n))) := by rw [← hlen]; rfl
      obtain ⟨t, ht⟩ : ∃ t, t = canon (wsum (upto (item xs) n)) := ⟨_, rfl⟩
      rw [← ht] at q0 q1 hck ⊢
      clear ht p0 hx hr e1
      go_wp2
      go_ret
      rw [hck.out]
      exact ⟨rfl, rfl⟩
end Go.Proofs.Ytekmkainhehnpaa
