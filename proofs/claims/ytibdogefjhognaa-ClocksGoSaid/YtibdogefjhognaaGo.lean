/- 'ClocksGo': for every input the law returns true; nothing that was there is written. No condition. -/
import Derived.Test.YtibdogefjhognaaBase
namespace Go.Proofs.Ytibdogefjhognaa
open Go.ChangeShapes Go.WideShapes Go.ChangeAt Go.RowKit
set_option linter.unusedVariables false

theorem later_yes (n ms : Int) (w : World) (h0 : 0 ≤ n) (h1 : n < 9223372036854775807) (b0 : 0 ≤ ms) (b1 : ms ≤ 18446744073709551615) (hlt : n + ms < 9223372036854775807) :
    Calls Try.prog 16 #[.int .u64 n, .int .u64 ms] w fun e w' => e = .returned (.tuple #[.int .u64 (n + ms), .bool true]) ∧ w = w' := by
  have e1 : cadd n ms = n + ms := by rw [cadd, if_pos hlt]
  go_enter Try.func16, Try.ntmps16
  go_wp2_with (go_at_call 10; refine (refAdd_any _ _ _ (by omega) (by omega) (by omega) (by omega)).mono ?_; rintro e w' ⟨rfl, rfl⟩; rw [e1])
  go_ret2
  exact ⟨rfl, rfl⟩
theorem later_no (n ms : Int) (w : World) (h0 : 0 ≤ n) (h1 : n < 9223372036854775807) (b0 : 0 ≤ ms) (b1 : ms ≤ 18446744073709551615) (hlt : 9223372036854775807 ≤ n + ms) :
    Calls Try.prog 16 #[.int .u64 n, .int .u64 ms] w fun e w' => e = .returned (.tuple #[.int .u64 n, .bool false]) ∧ w = w' := by
  have e1 : cadd n ms = 9223372036854775807 := by rw [cadd, if_neg (by omega)]
  go_enter Try.func16, Try.ntmps16
  go_wp2_with (go_at_call 10; refine (refAdd_any _ _ _ (by omega) (by omega) (by omega) (by omega)).mono ?_; rintro e w' ⟨rfl, rfl⟩; rw [e1])
  go_ret2
  exact ⟨rfl, rfl⟩

theorem IsRow.plain {k : IntKind} {w : World} {a : Option Addr} {len cap : Nat} {zs : List Int} (h : IsRow k w a len cap zs) (hl : len ≠ 0) :
    ∃ b off, a = some ⟨b, off, none⟩ ∧ b < w.heap.size ∧ len ≤ zs.length ∧ (∀ j, j < len → w.cell? ⟨b, off + j, none⟩ = some (.int k (zs[j]?.getD 0))) ∧ ∀ n ∈ zs, (Lit.int k n).wf = true := by
  rcases h with ⟨_, rfl, _, _⟩ | ⟨x, rfl, hlc, hm, hz, hc, hw⟩
  · exact absurd rfl hl
  · obtain ⟨b, off, spot⟩ := x
    have h0 := hc 0 (by omega)
    have hs : spot = none := by simpa [Addr.add] using World.cell?_spot h0
    subst hs
    refine ⟨b, off, rfl, ?_, by omega, fun j hj => ?_, hw⟩
    · have := World.block_lt_of_cell? w _ h0
      simpa [Addr.add] using this
    · have := hc j (by omega)
      rw [List.getD_eq_getElem?_getD] at this
      rw [← this]
      congr 1
      by_cases hj0 : j = 0 <;> simp [Addr.add, hj0]

theorem IsClock.below {w w' : World} {b : Nat} {n : Int} (h : IsClock w b n) (hb : ∀ p : Addr, p.block = b → w'.cell? p = w.cell? p ∧ w'.frozen? p = w.frozen? p) : IsClock w' b n :=
  ⟨h.lo, h.hi, (hb _ rfl).1.trans h.now, (hb _ rfl).1.trans h.made, (hb _ rfl).2.trans h.frz⟩

set_option maxRecDepth 100000 in
set_option maxHeartbeats 2000000 in
theorem walkClocksGo (a0 : Option Addr) (len0 cap0 : Nat) (z0 : List Int) (w : World) (w0 : IsRow .u64 w a0 len0 cap0 z0) :
    Calls Try.prog 4 #[.slice a0 len0 cap0] w fun e w' => e = .returned (.bool true) ∧ Below w.heap.size w w' := by
  by_cases hbig : 500 < len0
  · have hb : (500 : Int) < (len0 : Int) := by omega
    go_enter Try.func4, Try.ntmps4
    go_wp2_with (first
      | (go_at_call 13; refine (lives_any _).mono ?_; rintro e w' ⟨rfl, hbel⟩))
    go_ret
    exact ⟨rfl, hbel⟩
  · by_cases hz : len0 = 0
    · subst hz
      go_enter Try.func4, Try.ntmps4
      go_wp2
      refine wp_loop_rounds 2 ?_
      rw [rounds_succ]
      go_wp2_with (first
        | (go_at_call 13; refine (lives_any _).mono ?_; rintro e w' ⟨rfl, hbel⟩)
        | go_in)
      go_ret
      refine ⟨rfl, Below.trans ?_ (hbel.mono ?_)⟩
      · go_grown
      · simp
    · obtain ⟨b, off, rfl, hb, hzl, hc, hw⟩ := w0.plain hz
      have hr := range_u64 hw
      have hle : (len0 : Int) ≤ 500 := by omega
      clear hw w0
      have hd : decide ((500 : Int) < (len0 : Int)) = false := by simp; omega
      go_enter Try.func4, Try.ntmps4
      go_wp2_with (go_at_call 14; refine (new_any _).mono ?_; rintro e w' ⟨rfl, rfl⟩)
      go_loopw [4, 5] (fun now i wr => ∃ (k : Nat) (n : Int), k ≤ len0 ∧ i = .int .i64 k ∧ now = .int .u64 n ∧ IsClock wr w.heap.size n ∧ Below w.heap.size w wr) (fun _ i _ => len0 - (intOf i).toNat)
      case atStart =>
        refine ⟨0, 0, Nat.zero_le _, rfl, rfl, ⟨by omega, by omega, ?_, ?_, ?_⟩, by go_grown⟩ <;> simp [go_sem]
      case round =>
        obtain ⟨k, n, hk, rfl, rfl, hcl, hbel⟩ := hrel
        by_cases hlt : k < len0
        · obtain ⟨r0, r1⟩ := hr k
          have hcx : wr.cell? ⟨b, off + k, none⟩ = some (.int .u64 (z0[k]?.getD 0)) := (hbel.cell (by exact hb)).trans (hc k hlt)
          obtain ⟨x, hx⟩ : ∃ x, x = z0[k]?.getD 0 := ⟨_, rfl⟩
          rw [← hx] at hcx r0 r1
          clear hx hr hc
          obtain ⟨c1, c2, c3, c4, c5⟩ := hcl
          by_cases hy : n + x < 9223372036854775807
          · have hcl' : IsClock wr w.heap.size n := ⟨c1, c2, c3, c4, c5⟩
            have c3' : (wr.setCell ⟨w.heap.size, 0, none⟩ (.int .u64 (n + x))).cell? ⟨w.heap.size, 0, none⟩ = some (.int .u64 (n + x)) := World.cell?_setCell_same' _ _ _ (by rw [c3]; rfl)
            go_wp2_with (first
              | (go_at_call 15; refine (advance_yes _ _ _ _ hcl' r0 (by omega) hy).mono ?_; rintro e w' ⟨rfl, rfl⟩)
              | (go_at_call 16; refine (later_yes _ _ _ c1 c2 r0 (by omega) hy).mono ?_; rintro e w' ⟨rfl, rfl⟩)
              | (go_at_call 17; refine (now_any _ _ _ c3').mono ?_; rintro e w' ⟨rfl, rfl⟩))
            go_roundw
            case rel => exact ⟨k + 1, n + x, by omega, by go_num, rfl, ⟨by omega, hy, c3', (World.cell?_setCell_other _ _ _ _ (by simp)).trans c4, (World.frozen?_setCell _ _ _ _).trans c5⟩, hbel.setCell (Nat.le_refl _) _⟩
            case measure => simp [intOf]; omega
          · have hcl' : IsClock wr w.heap.size n := ⟨c1, c2, c3, c4, c5⟩
            go_wp2_with (first
              | (go_at_call 15; refine (advance_no _ _ _ _ hcl' r0 (by omega) (by omega)).mono ?_; rintro e w' ⟨rfl, rfl⟩)
              | (go_at_call 16; refine (later_no _ _ _ c1 c2 r0 (by omega) (by omega)).mono ?_; rintro e w' ⟨rfl, rfl⟩)
              | (go_at_call 17; refine (now_any _ _ _ c3).mono ?_; rintro e w' ⟨rfl, rfl⟩))
            go_roundw
            case rel => exact ⟨k + 1, n, by omega, by go_num, rfl, hcl', hbel⟩
            case measure => simp [intOf]; omega
        · have c3 := hcl.now
          go_wp2_with (first
            | (go_at_call 17; refine (now_any _ _ _ c3).mono ?_; rintro e w' ⟨rfl, rfl⟩)
            | (go_at_call 13; refine (lives_any _).mono ?_; rintro e w' ⟨rfl, hbel2⟩))
          go_ret
          exact ⟨rfl, hbel.trans (hbel2.mono hbel.size)⟩

set_option maxRecDepth 100000 in
theorem liftedClocksGo (os : Os) (started : os.Started) (H : Type) (enc : TypeId × Value → H) :
    ReturnsInHanded {} Try.checked os 4 .any (Rows.clocksGoSpec.pre6 enc Try.prog Try.f4 Rows.clocksGoRow.domain false) (Rows.clocksGoSpec.post enc Try.prog Try.f4 false true false false) := by
  refine returnsInHanded_of_change (C := Try.checked) own started (by kernel_rfl) Try.func4
    (ChangeSpec.witness6 (enc := enc) (C := Try.checked) false ⟨#[], #[.slice none 0 0], []⟩ 8 (by kernel_rfl) (by kernel_rfl) (by kernel_rfl) (by kernel_rfl)) ?_
  intro W base args ds gs before hval0 hW hcnd _
  have hval : ∀ (j : Nat) t v, Try.f4.params[j]? = some t → args[j]? = some v → Value.okWide Try.prog W .any base t v := hval0
  have hW' := hW
  obtain ⟨p, q, hA0, hV, rfl, hfz, hnd⟩ := hW
  have hA : DataW.TrodAll enc Try.prog W 0 (fun _ => true) true Try.f4.params.toList args.toList ds p := hA0
  rw [Try.params4] at hA hval
  obtain ⟨v0, vs0, d0, ds0, p0, q0, hargs, rfl, rfl, h0, r0⟩ := trodAll_cons hA
  obtain ⟨rfl, rfl, rfl⟩ := trodAll_nil r0
  obtain rfl : args = #[v0] := by cases args; simp_all
  obtain ⟨rfl, rfl⟩ := trodVars_none hV
  obtain ⟨a0, len0, cap0, rfl⟩ := okWide_slice Try.underlying28 (hval 0 28 v0 rfl rfl)
  have k0 := h0
  have lt0 : ∀ x ∈ p0, x.block < W.heap.size := by obtain ⟨m, hm⟩ := k0; exact DataW.trod_lt m _ _ _ hm
  obtain ⟨z0, w0⟩ : ∃ zs, IsRow .u64 W a0 len0 cap0 zs := by
    obtain ⟨fuel, hf⟩ := h0
    rcases open_ints Try.underlying28 Try.underlying22 (by kernel_rfl) hf with ⟨hcs, _⟩ | ⟨x, l, c, zs, hcs, _, hl, hm, hz, hx, hcell, hwz⟩
    · simp [Value.cells] at hcs
      obtain ⟨rfl, rfl, rfl⟩ := hcs
      exact ⟨[], .inl ⟨rfl, rfl, rfl, rfl⟩⟩
    · simp [Value.cells] at hcs
      obtain ⟨rfl, rfl, rfl⟩ := hcs
      exact ⟨zs, .inr ⟨_, rfl, hl, hm, by simpa using hz, hcell, hwz⟩⟩
  clear hA0 hval0
  refine (walkClocksGo a0 len0 cap0 z0 W w0).mono fun e W' ⟨he, bel⟩ => ?_
  subst he
  exact ⟨_, rfl, _, _, _, [], _, [], hW', trodAll_mk1 (shut_bool Try.underlying4 _), (trodAll_cons_mk (Below.trod laidOut (by kernel_rfl) (of_decide_eq_true (by kernel_rfl)) k0 bel lt0) trodAll_mk0), rfl, bel.frame _, fun h => by cases h⟩

/-- THE STATEMENT: 'ClocksGo'. -/
theorem clocksGo_holds : Rows.ClocksGoSaid :=
  OpenClaim.holds_of_wide 4 Try.f4 rfl rfl rfl rfl rfl rfl rfl ⟨rfl, rfl, rfl, rfl, rfl⟩ rfl rfl rfl rfl rfl (by kernel_rfl) Try.func4 (by kernel_rfl)
    (of_decide_eq_true (by kernel_rfl)) (by unfold Func.isWrapper; first | (rw [if_pos (by decide +kernel)]; kernel_rfl) | (rw [if_neg (by decide +kernel)]; exact ⟨rfl, rfl⟩))
    (fun os started H enc _ => liftedClocksGo os started H enc)
end Go.Proofs.Ytibdogefjhognaa
