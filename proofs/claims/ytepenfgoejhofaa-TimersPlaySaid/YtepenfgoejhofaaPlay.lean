/- 'TimersPlay': for every input the law returns true; nothing that was there is written. No condition. -/
import Derived.Test.YtepenfgoejhofaaAlike
namespace Go.Proofs.Ytepenfgoejhofaa
open Go.ChangeShapes Go.WideShapes Go.ChangeAt Go.RowKit Go.Deep
set_option linter.unusedVariables false
set_option linter.unusedSimpArgs false

set_option maxRecDepth 100000 in
set_option maxHeartbeats 8000000 in
theorem walkTimersPlay (A0 : Option Addr) (n0 c0 : Nat) (z0 : Nat → ActV) (w : World) (h0 : IsActs w w.heap.size A0 n0 c0 z0) :
    Calls Try.prog 4 #[.slice A0 n0 c0] w fun e w' => e = .returned (.bool true) ∧ Below w.heap.size w w' := by
  have hcm := h0.cmax
  have hcn := h0.cap
  have h0' := hidd h0
  unfold maxLen at hcm
  clear h0
  by_cases hbig : 400 < n0
  · go_enter Try.func4, Try.ntmps4
    go_wp2_with fail
    refine (lives_any w).mono ?_
    rintro rr V ⟨rfl, hb⟩
    go_wp2
    go_ret
    exact ⟨rfl, hb⟩
  · have hsm : decide ((400 : Int) < (n0 : Int)) = false := by simp; omega
    go_enter Try.func4, Try.ntmps4
    go_wp2_with fail
    refine (new_cl w w (Below.refl _ w)).mono ?_
    rintro rr V0 ⟨B, rfl, c, _, _⟩
    obtain ⟨M, hM⟩ : ∃ M, V0.heap.size = M := ⟨_, rfl⟩
    obtain ⟨U0, hU0⟩ : ∃ U, V0.alloc (.cells #[.slice none 0 0] 42) = U := ⟨_, rfl⟩
    have C0 := hidd (show Bo w U0 B M [] [] [] from hU0 ▸ start_bo c hM)
    clear c
    go_wp2_with fail
    try rw [hM]
    try rw [hU0]
    clear hU0 hM
    go_loopw [5] (fun i wr => ∃ (k : Nat) (m : List T3), k ≤ n0 ∧ i = .int .i64 k ∧ Hid (Bo w wr B M m m [])) (fun i _ => n0 - (intOf i).toNat)
    case atStart => exact ⟨0, [], Nat.zero_le _, rfl, C0⟩
    case round =>
      clear C0
      obtain ⟨k, m, hk, rfl, C1⟩ := hrel
      by_cases hkn : k < n0
      · obtain ⟨bl, off, rfl, hbl, hc⟩ := h0'.out.at_ (by omega)
        have hA := hidd (h0'.out.each k hkn)
        obtain ⟨x, hx⟩ : ∃ a, z0 k = a := ⟨_, rfl⟩
        have hS8 := hidd (fun (V : World) (hb : Below w.heap.size w V) (j : Nat) (u : Value) (hu : x.cells[j]? = some u) => (show V.cell? ⟨bl, off + k * 4 + j, none⟩ = some u from by
          rw [← hx] at hu
          exact (World.cell?_of_block (w := w) (hb.block bl hbl)).trans (hc k hkn j u hu)))
        rw [hx] at hA
        have hkz : (k : Int) < (n0 : Int) := by omega
        have d0 := hS8.out wr C1.out.bel 0 _ rfl
        have d1 := hS8.out wr C1.out.bel 1 _ rfl
        have d2 := hS8.out wr C1.out.bel 2 _ rfl
        have d3 := hS8.out wr C1.out.bel 3 _ rfl
        rw [Nat.add_zero] at d0
        clear hc hx
        go_wp2_with fail
        refine (one_any wr C1.out x hA.out).mono ?_
        rintro rr E ⟨rfl, m2, c⟩
        have C2 := hidd c
        have e1 := hS8.out E c.bel 1 _ rfl
        have e2 := hS8.out E c.bel 2 _ rfl
        clear c C1 d0 d1 d2 d3
        go_wp2_with fail
        refine (alike_any E C2.out (kOf x.t) hA.out.t.k).mono ?_
        rintro rr E2 ⟨rfl, c⟩
        have C3 := hidd c
        clear c C2 e1 e2
        go_wp2
        go_roundw
        case rel => exact ⟨k + 1, m2, by omega, by go_num, C3⟩
        case measure => simp [intOf]; omega
      · have hkn' : k = n0 := by omega
        subst hkn'
        go_wp2_with fail
        go_loopw [6] (fun i wr => ∃ j : Nat, j ≤ k ∧ i = .int .i64 j ∧ Hid (Bo w wr B M m m [])) (fun i _ => k - (intOf i).toNat)
        case atStart => exact ⟨0, Nat.zero_le _, rfl, C1⟩
        case round =>
          clear C1
          obtain ⟨j, hj, rfl, C1⟩ := hrel
          by_cases hjn : j < k
          · obtain ⟨bl, off, rfl, hbl, hc⟩ := h0'.out.at_ (by omega)
            have hA := hidd (h0'.out.each j hjn)
            obtain ⟨x, hx⟩ : ∃ a, z0 j = a := ⟨_, rfl⟩
            have hS : ∀ i u, x.cells[i]? = some u → wr.cell? ⟨bl, off + j * 4 + i, none⟩ = some u := fun i u hu => (World.cell?_of_block (w := w) (C1.out.bel.block bl hbl)).trans (hc j hjn i u (hx ▸ hu))
            have e1 := hS 1 _ rfl
            have e2 := hS 2 _ rfl
            rw [hx] at hA
            have hjz : (j : Int) < (k : Int) := by omega
            clear hc hx hS
            go_wp2_with fail
            refine (alike_any wr C1.out (kOf x.t) hA.out.t.k).mono ?_
            rintro rr E ⟨rfl, c⟩
            have C3 := hidd c
            clear c C1 e1 e2
            go_wp2
            go_roundw
            case rel => exact ⟨j + 1, by omega, by go_num, C3⟩
            case measure => simp [intOf]; omega
          · have hjn' : j = k := by omega
            subst hjn'
            go_wp2_with fail
            refine (lives_any wr).mono ?_
            rintro rr V2 ⟨rfl, hb2⟩
            go_wp2
            go_ret
            exact ⟨rfl, C1.out.bel.trans (hb2.mono C1.out.bel.size)⟩

set_option maxRecDepth 100000 in
theorem liftedTimersPlay (os : Os) (started : os.Started) (H : Type) (enc : TypeId × Value → H) :
    ReturnsInHanded {} Try.checked os 4 .any (Rows.timersPlaySpec.pre6 enc Try.prog Try.f4 Rows.timersPlayRow.domain false) (Rows.timersPlaySpec.post enc Try.prog Try.f4 false true false false) := by
  refine returnsInHanded_of_change_sized (C := Try.checked) own started (by kernel_rfl) Try.func4
    (ChangeSpec.witness6 (enc := enc) (C := Try.checked) false ⟨#[], #[.slice none 0 0], []⟩ 8 (by kernel_rfl) (by kernel_rfl) (by kernel_rfl) (by kernel_rfl)) ?_
  intro W base args ds gs before hval0 hW hcnd hsz0 _
  have hval : ∀ (j : Nat) t v, Try.f4.params[j]? = some t → args[j]? = some v → Value.okWide Try.prog W .any base t v := hval0
  have hW' := hW
  obtain ⟨p, q, hA0, hV, rfl, hfz, hnd⟩ := hW
  have hA : DataW.TrodAll enc Try.prog W 0 (fun _ => true) true Try.f4.params.toList args.toList ds p := hA0
  have hsz : (DataW.weightsEach Try.prog (Try.f4.params.toList ++ Rows.timersPlaySpec.plain.varTypes Try.prog) (ds ++ gs)).all (· ≤ reachBytes) = true := hsz0
  rw [Try.params4] at hA hval hsz
  obtain ⟨v0, vs0, d0, ds0, p0, q0, hargs, rfl, rfl, h0, r0⟩ := trodAll_cons hA
  obtain ⟨rfl, rfl, rfl⟩ := trodAll_nil r0
  obtain rfl : args = #[v0] := by cases args; simp_all
  obtain ⟨rfl, rfl⟩ := trodVars_none hV
  have k0 := h0
  have lt0 : ∀ x ∈ p0, x.block < W.heap.size := by obtain ⟨m, hm⟩ := k0; exact DataW.trod_lt m _ _ _ hm
  have fit0 : Fit Try.prog 22 d0 := fun m hm => by simpa using List.all_eq_true.1 hsz _ (DataW.weights_mem_each (j := 0) (t := 22) rfl rfl m hm)
  obtain ⟨A0, n0, c0, z0, ev0, w0⟩ := open_acts (hval 0 22 v0 rfl rfl) h0 fit0
  subst ev0
  clear hA0 hval0
  refine (walkTimersPlay A0 n0 c0 z0 W w0).mono fun e W' ⟨he, bel⟩ => ?_
  subst he
  exact ⟨_, rfl, _, _, _, [], _, [], hW', trodAll_mk1 (shut_bool Try.underlying4 _), (trodAll_cons_mk (Below.trod laidOut (by kernel_rfl) (of_decide_eq_true (by kernel_rfl)) k0 bel lt0) trodAll_mk0), rfl, bel.frame _, fun h => by cases h⟩

/-- THE STATEMENT: 'TimersPlay'. -/
theorem timersPlay_holds : Rows.TimersPlaySaid :=
  OpenClaim.holds_of_wide 4 Try.f4 rfl rfl rfl rfl rfl rfl rfl ⟨rfl, rfl, rfl, rfl, rfl⟩ rfl rfl rfl rfl rfl (by kernel_rfl) Try.func4 (by kernel_rfl)
    (of_decide_eq_true (by kernel_rfl)) (by unfold Func.isWrapper; first | (rw [if_pos (by decide +kernel)]; kernel_rfl) | (rw [if_neg (by decide +kernel)]; exact ⟨rfl, rfl⟩))
    (fun os started H enc _ => liftedTimersPlay os started H enc)

end Go.Proofs.Ytepenfgoejhofaa
