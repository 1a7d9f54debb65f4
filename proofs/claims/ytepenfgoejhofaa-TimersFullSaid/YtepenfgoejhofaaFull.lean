/- 'TimersFull': for every input the law returns true; nothing that was there is written. No condition. -/
import Derived.Test.YtepenfgoejhofaaLives
namespace Go.Proofs.Ytepenfgoejhofaa
open Go.ChangeShapes Go.WideShapes Go.ChangeAt Go.RowKit Go.Deep
set_option linter.unusedVariables false
set_option linter.unusedSimpArgs false

theorem own : ownKnob Try.prog.godebug = none := by kernel_rfl
theorem laidOut : laidOutB Try.prog = true := by kernel_rfl
theorem u64b {a : Int} (h : (Lit.int .u64 a).wf = true) : 0 ≤ a ∧ a ≤ 18446744073709551615 := by
  have := bounds_u64 h; omega
theorem u64mod (x : Int) : IntKind.u64.wrap x = x % 18446744073709551616 := by simp [IntKind.wrap, IntKind.bits, IntKind.signed]
theorem u64wrap (x : Int) : 0 ≤ IntKind.u64.wrap x ∧ IntKind.u64.wrap x ≤ 18446744073709551615 := by rw [u64mod]; omega
/-- The timers that are armed ahead. -/
def fmT (f a : Int) (j : Nat) : T3 := ((j : Int) % 3, IntKind.u64.wrap (f + j), IntKind.u64.wrap (a + j))
def fm (f a : Int) (i : Nat) : List T3 := (List.range i).map (fmT f a)
theorem fm_len (f a : Int) (i : Nat) : (fm f a i).length = i := by simp [fm]
theorem fm_at (f a : Int) {i j : Nat} (h : j < i) : (fm f a i)[j]? = some (fmT f a j) := by
  unfold fm; rw [List.getElem?_map, List.getElem?_range h]; rfl
theorem fm_mem {f a : Int} {i : Nat} {t : T3} (h : t ∈ fm f a i) : ∃ j, j < i ∧ t = fmT f a j := by
  obtain ⟨j, hj, rfl⟩ := List.mem_map.1 h
  exact ⟨j, List.mem_range.1 hj, rfl⟩
theorem fm_snoc (f a : Int) (i : Nat) : fm f a i ++ [fmT f a i] = fm f a (i + 1) := by unfold fm; rw [List.range_succ, List.map_append]; rfl
theorem fm_no (f a : Int) {i : Nat} (h : i < 256) : fdx (kOf (fmT f a i)) (fm f a i) = none := fdx_no fun t ht e => by
  obtain ⟨j, hj, rfl⟩ := fm_mem ht
  have h2 := congrArg Prod.snd e
  simp only [kOf, fmT, u64mod] at h2
  omega
theorem arm_fm (f a : Int) {i : Nat} (h : i < 256) : armM (fm f a i) (kOf (fmT f a i)) (IntKind.u64.wrap (a + i)) = (0, fm f a (i + 1)) := by
  unfold armM
  rw [fm_no f a h]
  simp only
  rw [if_neg (by rw [fm_len]; omega), ← fm_snoc]; rfl
theorem set_get {α : Type} {l : List α} {p q : Nat} {x y : α} (h : l[q]? = some y) (hne : q ≠ p) : (l.set p x)[q]? = some y := by
  rw [List.getElem?_set_ne (Ne.symm hne)]; exact h
set_option maxRecDepth 100000 in
set_option maxHeartbeats 8000000 in
theorem walkTimersFull (f a b : Int) (w : World) (wf : (Lit.int .u64 f).wf = true) (wa : (Lit.int .u64 a).wf = true) (wb : (Lit.int .u64 b).wf = true) :
    Calls Try.prog 6 #[.int .u64 f, .int .u64 a, .int .u64 b] w fun e w' => e = .returned (.bool true) ∧ Below w.heap.size w w' := by
  have hf := u64b wf
  have hb := u64b wb
  clear wf wa wb
  go_enter Try.func6, Try.ntmps6
  go_wp2_with fail
  refine (new_cl w w (Below.refl _ w)).mono ?_
  rintro r V0 ⟨B, rfl, c, _, _⟩
  have C := hidd c
  clear c
  go_wp2_with fail
  go_loopw [8] (fun i wr => ∃ k : Nat, k ≤ 256 ∧ i = .int .u64 k ∧ Hid (CL w wr B (fm f a k) [])) (fun i _ => 256 - (intOf i).toNat)
  case atStart => exact ⟨0, Nat.zero_le _, rfl, C⟩
  case round =>
    obtain ⟨k, hk, rfl, C1⟩ := hrel
    clear C
    by_cases hk2 : k < 256
    · have hd : decide ((k : Int) < 256) = true := by simp; omega
      have hw : IntKind.u64.wrap ((k : Int) + 1) = ((k + 1 : Nat) : Int) := by rw [u64mod]; omega
      go_wp2_with fail
      refine (timer_cl wr C1.out _ _).mono ?_
      rintro r V1 ⟨rfl, c⟩
      clear C1
      have C1 := hidd c
      clear c
      go_wp2_with fail
      have hab := u64wrap (a + (k : Int))
      refine (arm_cl V1 C1.out (kOf (fmT f a k)) ⟨by simp only [kOf, fmT]; omega, u64wrap (f + (k : Int))⟩ (IntKind.u64.wrap (a + (k : Int))) hab).mono ?_
      rintro r V2 ⟨rfl, c⟩
      rw [arm_fm f a hk2] at c ⊢
      clear C1
      have C2 := hidd (show CL w V2 B (fm f a (k + 1)) [] from c)
      clear c
      dsimp only
      go_wp2
      go_roundw
      case rel => exact ⟨k + 1, by omega, by go_num, C2⟩
      case measure => simp [intOf]; omega
    · obtain rfl : k = 256 := by omega
      have hm : ∃ m, fm f a 256 = m ∧ m.length = 256 ∧ fdx (7, f) m = none ∧ fdx (0, f) m = some 0 ∧ (∃ t, m[1]? = some t ∧ kOf t = (1, IntKind.u64.wrap (f + 1))) ∧ (∀ t ∈ m, kOf t ≠ (7, f)) := by
        have h7 : ∀ t ∈ fm f a 256, kOf t ≠ (7, f) := fun t ht e => by
          obtain ⟨j, hj, rfl⟩ := fm_mem ht
          have h2 := congrArg Prod.fst e
          simp only [kOf, fmT] at h2
          omega
        refine ⟨_, rfl, fm_len f a 256, fdx_no h7, ?_, ⟨_, fm_at f a (by omega), ?_⟩, h7⟩
        · have e0 : kOf (fmT f a 0) = (0, f) := by
            have : IntKind.u64.wrap (f + ((0 : Nat) : Int)) = f := by rw [u64mod]; omega
            simp only [kOf, fmT, this]; rfl
          exact fdx_at C1.out.nd (fm_at f a (by omega)) e0
        · simp only [kOf, fmT]; rfl
      obtain ⟨m, hm0, hlen, h7, h0, ⟨t1, ht1, hk1⟩, hn7⟩ := hm
      rw [hm0] at C1
      have hw1 := u64wrap (f + 1)
      obtain ⟨f1, hf1⟩ : ∃ x, IntKind.u64.wrap (f + 1) = x := ⟨_, rfl⟩
      rw [hf1] at hk1 hw1
      have hf1' := hidd hf1
      clear hf1
      -- what is left by each act
      have a1 : armM m (7, f) b = (3, m) := by unfold armM; rw [h7]; simp only; rw [if_pos hlen]
      have a2 : armM m (0, f) b = (0, m.set 0 (0, f, b)) := by unfold armM; rw [h0]
      have n7 : ∀ t ∈ m.set 0 (0, f, b), kOf t ≠ (7, f) := fun t ht => by
        rcases List.mem_or_eq_of_mem_set ht with h | rfl
        · exact hn7 t h
        · simp [kOf]
      have l0 : (m.set 0 (0, f, b))[0]? = some (0, f, b) := List.getElem?_set_self (by omega)
      have l1 : (m.set 0 (0, f, b))[1]? = some t1 := set_get ht1 (by omega)
      have hlen2 : (m.set 0 (0, f, b)).length = 256 := by rw [List.length_set]; exact hlen
      generalize hm2 : m.set 0 (0, f, b) = m2 at a2 n7 l0 l1 hlen2
      have F1 := hidd (And.intro a1 (And.intro a2 (And.intro n7 (And.intro l0 (And.intro l1 (And.intro hlen2 (And.intro hk1 (And.intro hlen hw1))))))))
      clear a1 a2 n7 l0 l1 hlen2 hm2 hm0 hlen h7 h0 ht1 hk1 hn7
      have hk7 : IsK (7, f) := ⟨⟨by simp, by simp⟩, hf⟩
      have hk0 : IsK (0, f) := ⟨⟨by simp, by simp⟩, hf⟩
      have hk1 : IsK (1, f1) := ⟨⟨by simp, by simp⟩, hw1⟩
      go_wp2_with fail
      refine (timer_cl wr C1.out _ _).mono ?_
      rintro r V1 ⟨rfl, c⟩
      have C2 := hidd c
      clear c C1
      go_wp2_with fail
      refine (arm_cl V1 C2.out (7, f) hk7 b hb).mono ?_
      rintro r V2 ⟨rfl, c⟩
      rw [F1.out.1] at c ⊢
      dsimp only at c ⊢
      have C3 := hidd c
      clear c C2
      go_wp2_with fail
      refine (size_cl V2 C3.out).mono ?_
      rintro r V3 ⟨rfl, hV⟩
      subst hV
      rw [F1.out.2.2.2.2.2.2.2.1]
      go_wp2_with fail
      refine (timer_cl V2 C3.out _ _).mono ?_
      rintro r V4 ⟨rfl, c⟩
      have C4 := hidd c
      clear c C3
      go_wp2_with fail
      refine (arm_cl V4 C4.out (0, f) hk0 b hb).mono ?_
      rintro r V5 ⟨rfl, c⟩
      rw [F1.out.2.1] at c ⊢
      dsimp only at c ⊢
      have C5 := hidd c
      clear c C4
      go_wp2_with fail
      refine (size_cl V5 C5.out).mono ?_
      rintro r V6 ⟨rfl, hV⟩
      subst hV
      rw [F1.out.2.2.2.2.2.1]
      have nd2 := C5.out.nd
      have b7 : fdx (7, f) m2 = none := fdx_no F1.out.2.2.1
      have b0 : fdx (0, f) m2 = some 0 := fdx_at nd2 F1.out.2.2.2.1 rfl
      have b1 : fdx (1, f1) m2 = some 1 := fdx_at nd2 F1.out.2.2.2.2.1 F1.out.2.2.2.2.2.2.1
      have v0 : atV m2 (0, f) = .tuple #[.int .u64 b, .bool true] := by unfold atV; rw [b0]; simp [F1.out.2.2.2.1]
      have v7 : atV m2 (7, f) = .tuple #[.int .u64 0, .bool false] := by unfold atV; rw [b7]
      have e7 : canM m2 (7, f) = (false, m2) := by unfold canM; rw [b7]
      have e1 : canM m2 (1, f1) = (true, m2.eraseIdx 1) := by unfold canM; rw [b1]
      have no1 : ∀ t ∈ m2.eraseIdx 1, kOf t ≠ (1, f1) := fun t ht e => by
        have hp := (erase_perm F1.out.2.2.2.2.1).map kOf
        have hnd := hp.nodup_iff.1 nd2
        rw [List.map_cons, List.nodup_cons] at hnd
        refine hnd.1 ?_
        rw [F1.out.2.2.2.2.2.2.1, ← e]
        exact List.mem_map.2 ⟨t, ht, rfl⟩
      have e2 : canM (m2.eraseIdx 1) (1, f1) = (false, m2.eraseIdx 1) := by unfold canM; rw [fdx_no no1]
      have hl3 : (m2.eraseIdx 1).length = 255 := by rw [List.length_eraseIdx_of_lt (by rw [F1.out.2.2.2.2.2.1]; omega), F1.out.2.2.2.2.2.1]
      have a3 : armM (m2.eraseIdx 1) (7, f) b = (0, m2.eraseIdx 1 ++ [(7, f, b)]) := by
        unfold armM
        rw [fdx_no (fun t ht => F1.out.2.2.1 t (List.mem_of_mem_eraseIdx ht))]
        simp only
        rw [if_neg (by rw [hl3]; omega)]
      have hl4 : (m2.eraseIdx 1 ++ [((7 : Int), f, b)]).length = 256 := by rw [List.length_append, hl3]; rfl
      have F2 := hidd (And.intro v0 (And.intro v7 (And.intro e7 (And.intro e1 (And.intro e2 (And.intro a3 hl4))))))
      clear nd2 b7 b0 b1 v0 v7 e7 e1 no1 e2 hl3 a3 hl4
      go_wp2_with fail
      refine (timer_cl V5 C5.out _ _).mono ?_
      rintro r V7 ⟨rfl, c⟩
      have C7 := hidd c
      clear c C5
      go_wp2_with fail
      refine (at_cl V7 C7.out (0, f) hk0).mono ?_
      rintro r V8 ⟨rfl, c⟩
      rw [F2.out.1]
      have C8 := hidd c
      clear c C7
      go_wp2_with fail
      refine (timer_cl V8 C8.out _ _).mono ?_
      rintro r V9 ⟨rfl, c⟩
      have C9 := hidd c
      clear c C8
      go_wp2_with fail
      refine (at_cl V9 C9.out (7, f) hk7).mono ?_
      rintro r V10 ⟨rfl, c⟩
      rw [F2.out.2.1]
      have C10 := hidd c
      clear c C9
      have hbb : (b != b) = false := by simp
      go_wp2_with fail
      refine (timer_cl V10 C10.out _ _).mono ?_
      rintro r V11 ⟨rfl, c⟩
      have C11 := hidd c
      clear c C10
      go_wp2_with fail
      refine (cancel_cl V11 C11.out (7, f) hk7).mono ?_
      rintro r V12 ⟨rfl, c⟩
      rw [F2.out.2.2.1] at c ⊢
      dsimp only at c ⊢
      have C12 := hidd c
      clear c C11
      go_wp2_with fail
      rw [hf1'.out]
      refine (timer_cl V12 C12.out _ _).mono ?_
      rintro r V13 ⟨rfl, c⟩
      have C13 := hidd c
      clear c C12
      go_wp2_with fail
      refine (cancel_cl V13 C13.out (1, f1) hk1).mono ?_
      rintro r V14 ⟨rfl, c⟩
      rw [F2.out.2.2.2.1] at c ⊢
      dsimp only at c ⊢
      have C14 := hidd c
      clear c C13
      go_wp2_with fail
      rw [hf1'.out]
      refine (timer_cl V14 C14.out _ _).mono ?_
      rintro r V15 ⟨rfl, c⟩
      have C15 := hidd c
      clear c C14
      go_wp2_with fail
      refine (cancel_cl V15 C15.out (1, f1) hk1).mono ?_
      rintro r V16 ⟨rfl, c⟩
      rw [F2.out.2.2.2.2.1] at c ⊢
      dsimp only at c ⊢
      have C16 := hidd c
      clear c C15
      go_wp2_with fail
      refine (timer_cl V16 C16.out _ _).mono ?_
      rintro r V17 ⟨rfl, c⟩
      have C17 := hidd c
      clear c C16
      go_wp2_with fail
      refine (arm_cl V17 C17.out (7, f) hk7 b hb).mono ?_
      rintro r V18 ⟨rfl, c⟩
      rw [F2.out.2.2.2.2.2.1] at c ⊢
      dsimp only at c ⊢
      have C18 := hidd c
      clear c C17
      go_wp2_with fail
      refine (size_cl V18 C18.out).mono ?_
      rintro r V19 ⟨rfl, hV⟩
      subst hV
      rw [F2.out.2.2.2.2.2.2]
      go_wp2_with fail
      refine (lives_any V18).mono ?_
      rintro r V20 ⟨rfl, hb2⟩
      go_wp2
      go_ret
      exact ⟨rfl, C18.out.bel.trans (hb2.mono C18.out.bel.size)⟩

set_option maxRecDepth 100000 in
theorem liftedTimersFull (os : Os) (started : os.Started) (H : Type) (enc : TypeId × Value → H) :
    ReturnsInHanded {} Try.checked os 6 .any (Rows.timersFullSpec.pre6 enc Try.prog Try.f6 Rows.timersFullRow.domain false) (Rows.timersFullSpec.post enc Try.prog Try.f6 false true false false) := by
  refine returnsInHanded_of_change_sized (C := Try.checked) own started (by kernel_rfl) Try.func6
    (ChangeSpec.witness6 (enc := enc) (C := Try.checked) false ⟨#[], #[.int .u64 0, .int .u64 0, .int .u64 0], []⟩ 8 (by kernel_rfl) (by kernel_rfl) (by kernel_rfl) (by kernel_rfl)) ?_
  intro W base args ds gs before hval0 hW hcnd hsz0 _
  have hval : ∀ (j : Nat) t v, Try.f6.params[j]? = some t → args[j]? = some v → Value.okWide Try.prog W .any base t v := hval0
  have hW' := hW
  obtain ⟨p, q, hA0, hV, rfl, hfz, hnd⟩ := hW
  have hA : DataW.TrodAll enc Try.prog W 0 (fun _ => true) true Try.f6.params.toList args.toList ds p := hA0
  have hsz : (DataW.weightsEach Try.prog (Try.f6.params.toList ++ Rows.timersFullSpec.plain.varTypes Try.prog) (ds ++ gs)).all (· ≤ reachBytes) = true := hsz0
  rw [Try.params6] at hA hval hsz
  obtain ⟨v0, vs0, d0, ds0, p0, q0, hargs, rfl, rfl, h0, r0⟩ := trodAll_cons hA
  obtain ⟨v1, vs1, d1, ds1, p1, q1, rfl, rfl, rfl, h1, r1⟩ := trodAll_cons r0
  obtain ⟨v2, vs2, d2, ds2, p2, q2, rfl, rfl, rfl, h2, r2⟩ := trodAll_cons r1
  obtain ⟨rfl, rfl, rfl⟩ := trodAll_nil r2
  obtain rfl : args = #[v0, v1, v2] := by cases args; simp_all
  obtain ⟨rfl, rfl⟩ := trodVars_none hV
  have k0 := h0
  have lt0 : ∀ x ∈ p0, x.block < W.heap.size := by obtain ⟨m, hm⟩ := k0; exact DataW.trod_lt m _ _ _ hm
  have fit0 : Fit Try.prog 23 d0 := fun m hm => by simpa using List.all_eq_true.1 hsz _ (DataW.weights_mem_each (j := 0) (t := 23) rfl rfl m hm)
  obtain ⟨a0, rfl, _, _, w0⟩ := open_int Try.underlying23 (hval 0 23 v0 rfl rfl) h0
  have k1 := h1
  have lt1 : ∀ x ∈ p1, x.block < W.heap.size := by obtain ⟨m, hm⟩ := k1; exact DataW.trod_lt m _ _ _ hm
  have fit1 : Fit Try.prog 23 d1 := fun m hm => by simpa using List.all_eq_true.1 hsz _ (DataW.weights_mem_each (j := 1) (t := 23) rfl rfl m hm)
  obtain ⟨a1, rfl, _, _, w1⟩ := open_int Try.underlying23 (hval 1 23 v1 rfl rfl) h1
  have k2 := h2
  have lt2 : ∀ x ∈ p2, x.block < W.heap.size := by obtain ⟨m, hm⟩ := k2; exact DataW.trod_lt m _ _ _ hm
  have fit2 : Fit Try.prog 23 d2 := fun m hm => by simpa using List.all_eq_true.1 hsz _ (DataW.weights_mem_each (j := 2) (t := 23) rfl rfl m hm)
  obtain ⟨a2, rfl, _, _, w2⟩ := open_int Try.underlying23 (hval 2 23 v2 rfl rfl) h2
  clear hA0 hval0
  refine (walkTimersFull a0 a1 a2 W w0 w1 w2).mono fun e W' ⟨he, bel⟩ => ?_
  subst he
  exact ⟨_, rfl, _, _, _, [], _, [], hW', trodAll_mk1 (shut_bool Try.underlying4 _), (trodAll_cons_mk (Below.trod laidOut (by kernel_rfl) (of_decide_eq_true (by kernel_rfl)) k0 bel lt0) (trodAll_cons_mk (Below.trod laidOut (by kernel_rfl) (of_decide_eq_true (by kernel_rfl)) k1 bel lt1) (trodAll_cons_mk (Below.trod laidOut (by kernel_rfl) (of_decide_eq_true (by kernel_rfl)) k2 bel lt2) trodAll_mk0))), rfl, bel.frame _, fun h => by cases h⟩

/-- THE STATEMENT: 'TimersFull'. -/
theorem timersFull_holds : Rows.TimersFullSaid :=
  OpenClaim.holds_of_wide 6 Try.f6 rfl rfl rfl rfl rfl rfl rfl ⟨rfl, rfl, rfl, rfl, rfl⟩ rfl rfl rfl rfl rfl (by kernel_rfl) Try.func6 (by kernel_rfl)
    (of_decide_eq_true (by kernel_rfl)) (by unfold Func.isWrapper; first | (rw [if_pos (by decide +kernel)]; kernel_rfl) | (rw [if_neg (by decide +kernel)]; exact ⟨rfl, rfl⟩))
    (fun os started H enc _ => liftedTimersFull os started H enc)

end Go.Proofs.Ytepenfgoejhofaa
