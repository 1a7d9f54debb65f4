/- 'ClocksLater': for every input the law returns true; nothing that was there is written. No condition. -/
import Derived.Test.YtibdogefjhognaaBase
namespace Go.Proofs.Ytibdogefjhognaa
open Go.ChangeShapes Go.WideShapes Go.ChangeAt Go.RowKit
set_option linter.unusedVariables false

set_option maxRecDepth 100000 in
set_option maxHeartbeats 1000000 in
theorem walkClocksLater (a0 a1 : Int) (w0 : (Lit.int .u64 a0).wf = true) (w1 : (Lit.int .u64 a1).wf = true) (w : World) :
    Calls Try.prog 7 #[.int .u64 a0, .int .u64 a1] w fun e w' => e = .returned (.bool true) ∧ Below w.heap.size w w' := by
  obtain ⟨b0, c0⟩ := u64b w0
  obtain ⟨b1, c1⟩ := u64b w1
  clear w0 w1
  by_cases h0 : a0 < 9223372036854775807
  · by_cases h1 : a0 + a1 < 9223372036854775807
    · go_enter Try.func7, Try.ntmps7
      go_wp2_with (first
        | (go_at_call 13; refine (lives_any _).mono ?_; rintro e w' ⟨rfl, hbel⟩)
        | go_in)
      go_ret
      refine ⟨rfl, Below.trans ?_ (hbel.mono ?_)⟩
      · go_grown
      · simp; omega
    · by_cases h2 : 9223372036854775807 < a1
      · go_enter Try.func7, Try.ntmps7
        go_wp2_with (first
          | (go_at_call 13; refine (lives_any _).mono ?_; rintro e w' ⟨rfl, hbel⟩)
          | go_in)
        go_ret
        refine ⟨rfl, Below.trans ?_ (hbel.mono ?_)⟩
        · go_grown
        · simp; omega
      · by_cases h3 : a0 + a1 = 9223372036854775807
        · go_enter Try.func7, Try.ntmps7
          go_wp2_with (first
            | (go_at_call 13; refine (lives_any _).mono ?_; rintro e w' ⟨rfl, hbel⟩)
            | go_in)
          go_ret
          refine ⟨rfl, Below.trans ?_ (hbel.mono ?_)⟩
          · go_grown
          · simp; omega
        · go_enter Try.func7, Try.ntmps7
          go_wp2_with (first
            | (go_at_call 13; refine (lives_any _).mono ?_; rintro e w' ⟨rfl, hbel⟩)
            | go_in)
          go_ret
          refine ⟨rfl, Below.trans ?_ (hbel.mono ?_)⟩
          · go_grown
          · simp; omega
  · have h0' : 9223372036854775807 ≤ a0 := by omega
    clear h0
    by_cases h4 : a0 = 9223372036854775807
    · subst h4
      by_cases h1 : a1 < 9223372036854775807
      · go_enter Try.func7, Try.ntmps7
        go_wp2_with (first
          | (go_at_call 13; refine (lives_any _).mono ?_; rintro e w' ⟨rfl, hbel⟩)
          | go_in)
        go_ret
        refine ⟨rfl, Below.trans ?_ (hbel.mono ?_)⟩
        · go_grown
        · simp; omega
      · by_cases h2 : a1 = 9223372036854775807
        · subst h2
          go_enter Try.func7, Try.ntmps7
          go_wp2_with (first
            | (go_at_call 13; refine (lives_any _).mono ?_; rintro e w' ⟨rfl, hbel⟩)
            | go_in)
          go_ret
          refine ⟨rfl, Below.trans ?_ (hbel.mono ?_)⟩
          · go_grown
          · simp; omega
        · have h3 : 9223372036854775807 < a1 := by omega
          go_enter Try.func7, Try.ntmps7
          go_wp2_with (first
            | (go_at_call 13; refine (lives_any _).mono ?_; rintro e w' ⟨rfl, hbel⟩)
            | go_in)
          go_ret
          refine ⟨rfl, Below.trans ?_ (hbel.mono ?_)⟩
          · go_grown
          · simp; omega
    · have h5 : 9223372036854775807 < a0 := by omega
      by_cases h1 : a1 < 9223372036854775807
      · go_enter Try.func7, Try.ntmps7
        go_wp2_with (first
          | (go_at_call 13; refine (lives_any _).mono ?_; rintro e w' ⟨rfl, hbel⟩)
          | go_in)
        go_ret
        refine ⟨rfl, Below.trans ?_ (hbel.mono ?_)⟩
        · go_grown
        · simp; omega
      · by_cases h2 : a1 = 9223372036854775807
        · subst h2
          go_enter Try.func7, Try.ntmps7
          go_wp2_with (first
            | (go_at_call 13; refine (lives_any _).mono ?_; rintro e w' ⟨rfl, hbel⟩)
            | go_in)
          go_ret
          refine ⟨rfl, Below.trans ?_ (hbel.mono ?_)⟩
          · go_grown
          · simp; omega
        · have h3 : 9223372036854775807 < a1 := by omega
          go_enter Try.func7, Try.ntmps7
          go_wp2_with (first
            | (go_at_call 13; refine (lives_any _).mono ?_; rintro e w' ⟨rfl, hbel⟩)
            | go_in)
          go_ret
          refine ⟨rfl, Below.trans ?_ (hbel.mono ?_)⟩
          · go_grown
          · simp; omega

set_option maxRecDepth 100000 in
theorem liftedClocksLater (os : Os) (started : os.Started) (H : Type) (enc : TypeId × Value → H) :
    ReturnsInHanded {} Try.checked os 7 .any (Rows.clocksLaterSpec.pre6 enc Try.prog Try.f7 Rows.clocksLaterRow.domain false) (Rows.clocksLaterSpec.post enc Try.prog Try.f7 false true false false) := by
  refine returnsInHanded_of_change (C := Try.checked) own started (by kernel_rfl) Try.func7
    (ChangeSpec.witness6 (enc := enc) (C := Try.checked) false ⟨#[], #[.int .u64 0, .int .u64 0], []⟩ 8 (by kernel_rfl) (by kernel_rfl) (by kernel_rfl) (by kernel_rfl)) ?_
  intro W base args ds gs before hval0 hW hcnd _
  have hval : ∀ (j : Nat) t v, Try.f7.params[j]? = some t → args[j]? = some v → Value.okWide Try.prog W .any base t v := hval0
  have hW' := hW
  obtain ⟨p, q, hA0, hV, rfl, hfz, hnd⟩ := hW
  have hA : DataW.TrodAll enc Try.prog W 0 (fun _ => true) true Try.f7.params.toList args.toList ds p := hA0
  rw [Try.params7] at hA hval
  obtain ⟨v0, vs0, d0, ds0, p0, q0, hargs, rfl, rfl, h0, r0⟩ := trodAll_cons hA
  obtain ⟨v1, vs1, d1, ds1, p1, q1, rfl, rfl, rfl, h1, r1⟩ := trodAll_cons r0
  obtain ⟨rfl, rfl, rfl⟩ := trodAll_nil r1
  obtain rfl : args = #[v0, v1] := by cases args; simp_all
  obtain ⟨rfl, rfl⟩ := trodVars_none hV
  obtain ⟨a0, rfl, rfl, rfl, w0⟩ := open_int Try.underlying22 (hval 0 22 v0 rfl rfl) h0
  obtain ⟨a1, rfl, rfl, rfl, w1⟩ := open_int Try.underlying22 (hval 1 22 v1 rfl rfl) h1
  clear hA0 hval0
  refine (walkClocksLater a0 a1 w0 w1 W).mono fun e W' ⟨he, bel⟩ => ?_
  subst he
  exact ⟨_, rfl, _, _, _, [], _, [], hW', trodAll_mk1 (shut_bool Try.underlying4 _), (trodAll_cons_mk (shut_int Try.underlying22 w0) (trodAll_cons_mk (shut_int Try.underlying22 w1) trodAll_mk0)), rfl, bel.frame _, fun h => by cases h⟩

/-- THE STATEMENT: 'ClocksLater'. -/
theorem clocksLater_holds : Rows.ClocksLaterSaid :=
  OpenClaim.holds_of_wide 7 Try.f7 rfl rfl rfl rfl rfl rfl rfl ⟨rfl, rfl, rfl, rfl, rfl⟩ rfl rfl rfl rfl rfl (by kernel_rfl) Try.func7 (by kernel_rfl)
    (of_decide_eq_true (by kernel_rfl)) (by unfold Func.isWrapper; first | (rw [if_pos (by decide +kernel)]; kernel_rfl) | (rw [if_neg (by decide +kernel)]; exact ⟨rfl, rfl⟩))
    (fun os started H enc _ => liftedClocksLater os started H enc)
end Go.Proofs.Ytibdogefjhognaa
