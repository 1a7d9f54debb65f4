/- 'SumsOf': for every input the law returns true; nothing that was there is written. No condition. -/
import Derived.Test.YtekmkainhehnpaaLaid
namespace Go.Proofs.Ytekmkainhehnpaa
open Go.ChangeShapes Go.WideShapes Go.ChangeAt Go.RowKit Go.Deep
set_option linter.unusedVariables false

set_option maxRecDepth 100000 in
set_option maxHeartbeats 4000000 in
theorem walkSumsOf (a0 : Option Addr) (n0 c0 : Nat) (z0 : List Int) (a1 : Option Addr) (n1 c1 : Nat) (z1 : List Int) (a2 : Option Addr) (n2 c2 : Nat) (z2 : List Int) (w : World)
    (r0 : Rd w w.heap.size 1 a0 n0 c0 (z0.map (Value.int .u8))) (y0 : c0 * Try.prog.bytesOf 5 ≤ reachBytes) (w0 : ∀ y ∈ z0, (Lit.int .u8 y).wf = true)
    (r1 : Rd w w.heap.size 1 a1 n1 c1 (z1.map (Value.int .u8))) (y1 : c1 * Try.prog.bytesOf 5 ≤ reachBytes) (w1 : ∀ y ∈ z1, (Lit.int .u8 y).wf = true)
    (r2 : Rd w w.heap.size 1 a2 n2 c2 (z2.map (Value.int .u8))) (y2 : c2 * Try.prog.bytesOf 5 ≤ reachBytes) (w2 : ∀ y ∈ z2, (Lit.int .u8 y).wf = true) :
    Calls Try.prog 3 #[.slice a0 n0 c0, .slice a1 n1 c1, .slice a2 n2 c2] w fun e w' => e = .returned (.bool true) ∧ Below w.heap.size w w' := by
  clear y0 y1 y2
  have m0 := r0.cmax
  have m1 := r1.cmax
  have m2 := r2.cmax
  have k0 := r0.cap
  have k1 := r1.cap
  have k2 := r2.cap
  unfold maxLen at m0 m1 m2
  by_cases h : n0 ≤ 5000 ∧ n1 ≤ 5000 ∧ n2 ≤ 5000
  · obtain ⟨h0, h1, h2⟩ := h
    have e0 : z0.length = n0 := by have := r0.len; simpa using this
    have e1 : z1.length = n1 := by have := r1.len; simpa using this
    have e2 : z2.length = n2 := by have := r2.len; simpa using this
    have q0 : Hid (By w a0 n0 c0 z0) := ⟨r0, fun x hx => u8b (w0 x hx), by omega⟩
    have q1 : Hid (By w a1 n1 c1 z1) := ⟨r1, fun x hx => u8b (w1 x hx), by omega⟩
    have q2 : Hid (By w a2 n2 c2 z2) := ⟨r2, fun x hx => u8b (w2 x hx), by omega⟩
    have e0' := hidd e0
    have e1' := hidd e1
    have e2' := hidd e2
    clear r0 r1 r2 w0 w1 w2 e0 e1 e2
    go_enter Try.func3, Try.ntmps3
    go_wp2_with fail
    refine (twinBytes_any w a1 n1 c1 z1 q1.out.rd (by omega)).mono ?_
    rintro e v1 ⟨rfl, hT, hF, hz⟩
    have b1 := hidd (hF.below (Nat.le_refl w.heap.size) (fun _ e => e.elim))
    have hT1 := hidd hT
    have qT : Hid (By v1 (some ⟨w.heap.size, 0, none⟩) n1 (n1 + 4) z1) := by
      have := hT.twin_rd (B := v1.heap.size) hT.lt (by rw [e1'.out]; unfold maxLen; omega)
      rw [e1'.out] at this
      exact ⟨this, q1.out.rng, q1.out.len⟩
    clear hT hF
    go_wp2_with (first
      | (at_builtin
         refine wpList_append_rd (v := .slice none 0 0) _ rfl (.const (.slice none 0 0)) (.tmp 25) T22 rfl rfl (World.ownsRow_nil _ v1.heap.size _ _) rfl (q0.out.below b1.out).rd (ints_one _ _) (by unfold maxLen; omega) (by omega) (Nat.le_refl _) ?_
         intro x2 v2 o2 g2 t2 l2
         clear l2 t2
         have b2 := hidd (grown_below (World.ownsRow_nil _ v1.heap.size 5 1) g2 (Nat.le_refl _))
         rw [Nat.zero_add] at o2
         obtain ⟨A2, d2, rfl⟩ := slice_of_own o2
         have o2' := hidd o2
         clear o2 g2)
      | (at_builtin
         have s2 := b2.out.size
         refine wpList_append_rd (v := .slice A2 n0 d2) _ rfl (.tmp 26) (.tmp 27) T22 rfl rfl o2'.out rfl ((q1.out.below b1.out).below b2.out).rd (ints_one _ _) (by unfold maxLen; omega) (by omega) s2 ?_
         intro x3 v3 o3 g3 t3 l3
         clear l3 t3
         have b3 := hidd (b2.out.trans (grown_below o2'.out g3 s2))
         obtain ⟨A3, d3, rfl⟩ := slice_of_own o3
         have o3' := hidd o3
         clear o3 g3 s2)
      | (at_builtin
         have s3 := b3.out.size
         refine wpList_append_rd (v := .slice A3 (n0 + n1) d3) _ rfl (.tmp 28) (.tmp 29) T22 rfl rfl o3'.out rfl ((q2.out.below b1.out).below b3.out).rd (ints_one _ _) (by unfold maxLen; omega) (by omega) s3 ?_
         intro x4 v4 o4 g4 t4 l4
         clear l4 t4
         have b4 := hidd (b3.out.trans (grown_below o3'.out g4 s3))
         obtain ⟨A4, d4, rfl, qA⟩ := grown_own o4 (l := z0 ++ z1 ++ z2) (by simp) (by simp only [List.mem_append]; rintro x ((hx | hx) | hx); exact q0.out.rng x hx; exact q1.out.rng x hx; exact q2.out.rng x hx) (by have := e0'.out; have := e1'.out; have := e2'.out; simp; omega)
         have qA' := hidd qA
         clear o4 g4 s3 o2' o3' b2 b3 qA)
      | fail)
    refine (of_l3 v4 _ _ _ _ _ _ _ _ _ z0 z1 z2 ((q0.out.below b1.out).below b4.out) (qT.out.below b4.out) ((q2.out.below b1.out).below b4.out)).mono ?_
    rintro e v5 ⟨rfl, b5⟩
    have c5 := hidd (b4.out.trans (b5.mono b4.out.size))
    have qA5 := hidd (qA'.out.below b5)
    clear b5 qA' b4
    go_wp2_with fail
    refine (refOf_by v5 _ _ _ _ qA5.out).mono ?_
    rintro e v6 ⟨rfl, rfl⟩
    go_wp2_with fail
    refine (of_l1 v5 _ _ _ _ (qT.out.below c5.out)).mono ?_
    rintro e v6 ⟨rfl, b6⟩
    have c6 := hidd (c5.out.trans (b6.mono c5.out.size))
    clear b6 c5 qA5
    go_wp2_with fail
    refine (refOf_by v6 _ _ _ _ ((q1.out.below b1.out).below c6.out)).mono ?_
    rintro e v7 ⟨rfl, rfl⟩
    go_wp2_with fail
    refine (leftBytes_yes v6 w.heap.size a1 n1 c1 z1 (hT1.out.below c6.out hT1.out.lt) ((q1.out.below b1.out).below c6.out).rd (by omega)).mono ?_
    rintro e v7 ⟨rfl, k, rfl⟩
    go_wp2_with fail
    refine (lives_any _).mono ?_
    rintro e v8 ⟨rfl, b8⟩
    go_wp2
    go_ret
    have c7 : Below w.heap.size w (v6.drewN k) := by
      have h := b1.out.trans (c6.out.mono b1.out.size)
      exact ⟨h.os, h.tape, h.output, h.size, h.block⟩
    exact ⟨rfl, c7.trans (b8.mono c7.size)⟩
  · have hb : (decide (5000 < (n0 : Int)) || decide (5000 < (n1 : Int)) || decide (5000 < (n2 : Int))) = true := by simp; omega
    clear h r0 r1 r2 w0 w1 w2
    go_enter Try.func3, Try.ntmps3
    go_wp2_with (go_at_call 8; refine (lives_any _).mono ?_; rintro e w' ⟨rfl, hbel⟩)
    all_goals go_ret
    all_goals exact ⟨rfl, hbel⟩

set_option maxRecDepth 100000 in
theorem liftedSumsOf (os : Os) (started : os.Started) (H : Type) (enc : TypeId × Value → H) :
    ReturnsInHanded {} Try.checked os 3 .any (Rows.sumsOfSpec.pre6 enc Try.prog Try.f3 Rows.sumsOfRow.domain false) (Rows.sumsOfSpec.post enc Try.prog Try.f3 false true false false) := by
  refine returnsInHanded_of_change_sized (C := Try.checked) own started (by kernel_rfl) Try.func3
    (ChangeSpec.witness6 (enc := enc) (C := Try.checked) false ⟨#[], #[.slice none 0 0, .slice none 0 0, .slice none 0 0], []⟩ 8 (by kernel_rfl) (by kernel_rfl) (by kernel_rfl) (by kernel_rfl)) ?_
  intro W base args ds gs before hval0 hW hcnd hsz0 _
  have hval : ∀ (j : Nat) t v, Try.f3.params[j]? = some t → args[j]? = some v → Value.okWide Try.prog W .any base t v := hval0
  have hW' := hW
  obtain ⟨p, q, hA0, hV, rfl, hfz, hnd⟩ := hW
  have hA : DataW.TrodAll enc Try.prog W 0 (fun _ => true) true Try.f3.params.toList args.toList ds p := hA0
  have hsz : (DataW.weightsEach Try.prog (Try.f3.params.toList ++ Rows.sumsOfSpec.plain.varTypes Try.prog) (ds ++ gs)).all (· ≤ reachBytes) = true := hsz0
  rw [Try.params3] at hA hval hsz
  obtain ⟨v0, vs0, d0, ds0, p0, q0, hargs, rfl, rfl, h0, r0⟩ := trodAll_cons hA
  obtain ⟨v1, vs1, d1, ds1, p1, q1, rfl, rfl, rfl, h1, r1⟩ := trodAll_cons r0
  obtain ⟨v2, vs2, d2, ds2, p2, q2, rfl, rfl, rfl, h2, r2⟩ := trodAll_cons r1
  obtain ⟨rfl, rfl, rfl⟩ := trodAll_nil r2
  obtain rfl : args = #[v0, v1, v2] := by cases args; simp_all
  obtain ⟨rfl, rfl⟩ := trodVars_none hV
  have k0 := h0
  have lt0 : ∀ x ∈ p0, x.block < W.heap.size := by obtain ⟨m, hm⟩ := k0; exact DataW.trod_lt m _ _ _ hm
  have fit0 : Fit Try.prog 22 d0 := fun m hm => by simpa using List.all_eq_true.1 hsz _ (DataW.weights_mem_each (j := 0) (t := 22) rfl rfl m hm)
  obtain ⟨a0, n0, c0, rfl⟩ := okWide_slice Try.underlying22 (hval 0 22 v0 rfl rfl)
  obtain ⟨fuel0, hf0⟩ := h0
  obtain ⟨a0', n0', c0', z0, ev0, r0', y0, w0⟩ := ints_rd Try.underlying22 Try.underlying5 (by kernel_rfl) hf0 fit0
  simp only [Value.cells, List.cons.injEq, and_true, Value.slice.injEq] at ev0
  obtain ⟨rfl, rfl, rfl⟩ := ev0
  have k1 := h1
  have lt1 : ∀ x ∈ p1, x.block < W.heap.size := by obtain ⟨m, hm⟩ := k1; exact DataW.trod_lt m _ _ _ hm
  have fit1 : Fit Try.prog 22 d1 := fun m hm => by simpa using List.all_eq_true.1 hsz _ (DataW.weights_mem_each (j := 1) (t := 22) rfl rfl m hm)
  obtain ⟨a1, n1, c1, rfl⟩ := okWide_slice Try.underlying22 (hval 1 22 v1 rfl rfl)
  obtain ⟨fuel1, hf1⟩ := h1
  obtain ⟨a1', n1', c1', z1, ev1, r1', y1, w1⟩ := ints_rd Try.underlying22 Try.underlying5 (by kernel_rfl) hf1 fit1
  simp only [Value.cells, List.cons.injEq, and_true, Value.slice.injEq] at ev1
  obtain ⟨rfl, rfl, rfl⟩ := ev1
  have k2 := h2
  have lt2 : ∀ x ∈ p2, x.block < W.heap.size := by obtain ⟨m, hm⟩ := k2; exact DataW.trod_lt m _ _ _ hm
  have fit2 : Fit Try.prog 22 d2 := fun m hm => by simpa using List.all_eq_true.1 hsz _ (DataW.weights_mem_each (j := 2) (t := 22) rfl rfl m hm)
  obtain ⟨a2, n2, c2, rfl⟩ := okWide_slice Try.underlying22 (hval 2 22 v2 rfl rfl)
  obtain ⟨fuel2, hf2⟩ := h2
  obtain ⟨a2', n2', c2', z2, ev2, r2', y2, w2⟩ := ints_rd Try.underlying22 Try.underlying5 (by kernel_rfl) hf2 fit2
  simp only [Value.cells, List.cons.injEq, and_true, Value.slice.injEq] at ev2
  obtain ⟨rfl, rfl, rfl⟩ := ev2
  clear hA0 hval0
  refine (walkSumsOf a0 n0 c0 z0 a1 n1 c1 z1 a2 n2 c2 z2 W r0' y0 w0 r1' y1 w1 r2' y2 w2).mono fun e W' ⟨he, bel⟩ => ?_
  subst he
  exact ⟨_, rfl, _, _, _, [], _, [], hW', trodAll_mk1 (shut_bool Try.underlying4 _), (trodAll_cons_mk (Below.trod laidOut (by kernel_rfl) (of_decide_eq_true (by kernel_rfl)) k0 bel lt0) (trodAll_cons_mk (Below.trod laidOut (by kernel_rfl) (of_decide_eq_true (by kernel_rfl)) k1 bel lt1) (trodAll_cons_mk (Below.trod laidOut (by kernel_rfl) (of_decide_eq_true (by kernel_rfl)) k2 bel lt2) trodAll_mk0))), rfl, bel.frame _, fun h => by cases h⟩

/-- THE STATEMENT: 'SumsOf'. -/
theorem sumsOf_holds : Rows.SumsOfSaid :=
  OpenClaim.holds_of_wide 3 Try.f3 rfl rfl rfl rfl rfl rfl rfl ⟨rfl, rfl, rfl, rfl, rfl⟩ rfl rfl rfl rfl rfl (by kernel_rfl) Try.func3 (by kernel_rfl)
    (of_decide_eq_true (by kernel_rfl)) (by unfold Func.isWrapper; first | (rw [if_pos (by decide +kernel)]; kernel_rfl) | (rw [if_neg (by decide +kernel)]; exact ⟨rfl, rfl⟩))
    (fun os started H enc _ => liftedSumsOf os started H enc)

end Go.Proofs.Ytekmkainhehnpaa
