/- 'DrawsVoid': for every input the law returns true; nothing that was there is written. No condition. -/
import Derived.Test.YtgalphhamdemfaaGreat
namespace Go.Proofs.Ytgalphhamdemfaa
open Go.ChangeShapes Go.WideShapes Go.ChangeAt Go.RowKit Go.Deep
set_option linter.unusedVariables false

set_option maxRecDepth 100000 in
set_option maxHeartbeats 2000000 in
theorem walkDrawsVoid (a0 : Option Addr) (n0 c0 : Nat) (z0 : List Int) (a1 : Int) (w : World) (r0 : Rd w w.heap.size 1 a0 n0 c0 (z0.map (Value.int .u32))) (y0 : c0 * Try.prog.bytesOf 31 ≤ reachBytes) (w0 : ∀ y ∈ z0, (Lit.int .u32 y).wf = true) (w1 : (Lit.int .u32 a1).wf = true) :
    Calls Try.prog 4 #[.slice a0 n0 c0, .int .u32 a1] w fun e w' => e = .returned (.bool true) ∧ Below w.heap.size w w' := by
  obtain ⟨b1, d1⟩ := u32b w1
  clear y0 w0 w1 r0
  obtain ⟨cs, hz, hs, g1, g2⟩ : ∃ cs : Array Value, (∀ w, (zeroValue 43).run Try.prog w = .ok (.agg cs) w) ∧ cs.size = 259 ∧ cs[257]? = some (.int .i64 0) ∧ cs[258]? = some (.bool false) := ⟨zWords, zWords_run, zWords_size, by rw [zWords_get]; rfl, by rw [zWords_get]; rfl⟩
  have g1' := hidd g1
  have g2' := hidd g2
  clear g1 g2
  go_enter Try.func4, Try.ntmps4
  go_wp2
  have c1 := ((Blk.new w 43 cs).alloc (.cells #[Value.pointer none, Value.pointer (some ⟨w.heap.size, 0, none⟩)] 25)).at_ g1'.out
  have c2 := ((Blk.new w 43 cs).alloc (.cells #[Value.pointer none, Value.pointer (some ⟨w.heap.size, 0, none⟩)] 25)).at_ g2'.out
  clear hz hs
  refine wp_loop_rounds 4 ?_
  rw [rounds_succ]
  go_wp2_with (first
    | (go_at_call 11; refine (feed_nil _ _ _ _).mono ?_; rintro e w' ⟨rfl, rfl⟩)
    | (go_at_call 14; refine (next_nil _).mono ?_; rintro e w' ⟨rfl, rfl⟩)
    | (go_at_call 16; refine (below_nil _ _ b1 d1).mono ?_; rintro e w' ⟨rfl, rfl⟩)
    | (go_at_call 18; refine (len_nil _).mono ?_; rintro e w' ⟨rfl, rfl⟩))
  rw [rounds_succ]
  go_wp2_with (first
    | (go_at_call 11; refine (feed_unmade _ _ _ _ _ c2).mono ?_; rintro e w' ⟨rfl, rfl⟩)
    | (go_at_call 14; refine (next_no _ _ c1).mono ?_; rintro e w' ⟨rfl, rfl⟩)
    | (go_at_call 16; refine (below_no _ _ _ c1 b1 d1).mono ?_; rintro e w' ⟨rfl, rfl⟩)
    | (go_at_call 18; refine (len_any _ _ _ c1).mono ?_; rintro e w' ⟨rfl, rfl⟩))
  rw [rounds_succ]
  go_wp2_with (first
    | (go_at_call 8; refine (lives_any _).mono ?_; rintro e w' ⟨rfl, hbel⟩))
  go_ret
  refine ⟨rfl, Below.trans ?_ (hbel.mono ?_)⟩
  · go_grown
  · simp; omega

set_option maxRecDepth 100000 in
theorem liftedDrawsVoid (os : Os) (started : os.Started) (H : Type) (enc : TypeId × Value → H) :
    ReturnsInHanded {} Try.checked os 4 .any (Rows.drawsVoidSpec.pre6 enc Try.prog Try.f4 Rows.drawsVoidRow.domain false) (Rows.drawsVoidSpec.post enc Try.prog Try.f4 false true false false) := by
  refine returnsInHanded_of_change_sized (C := Try.checked) own started (by kernel_rfl) Try.func4
    (ChangeSpec.witness6 (enc := enc) (C := Try.checked) false ⟨#[], #[.slice none 0 0, .int .u32 0], []⟩ 8 (by kernel_rfl) (by kernel_rfl) (by kernel_rfl) (by kernel_rfl)) ?_
  intro W base args ds gs before hval0 hW hcnd hsz0 _
  have hval : ∀ (j : Nat) t v, Try.f4.params[j]? = some t → args[j]? = some v → Value.okWide Try.prog W .any base t v := hval0
  have hW' := hW
  obtain ⟨p, q, hA0, hV, rfl, hfz, hnd⟩ := hW
  have hA : DataW.TrodAll enc Try.prog W 0 (fun _ => true) true Try.f4.params.toList args.toList ds p := hA0
  have hsz : (DataW.weightsEach Try.prog (Try.f4.params.toList ++ Rows.drawsVoidSpec.plain.varTypes Try.prog) (ds ++ gs)).all (· ≤ reachBytes) = true := hsz0
  rw [Try.params4] at hA hval hsz
  obtain ⟨v0, vs0, d0, ds0, p0, q0, hargs, rfl, rfl, h0, r0⟩ := trodAll_cons hA
  obtain ⟨v1, vs1, d1, ds1, p1, q1, rfl, rfl, rfl, h1, r1⟩ := trodAll_cons r0
  obtain ⟨rfl, rfl, rfl⟩ := trodAll_nil r1
  obtain rfl : args = #[v0, v1] := by cases args; simp_all
  obtain ⟨rfl, rfl⟩ := trodVars_none hV
  have k0 := h0
  have lt0 : ∀ x ∈ p0, x.block < W.heap.size := by obtain ⟨m, hm⟩ := k0; exact DataW.trod_lt m _ _ _ hm
  have fit0 : Fit Try.prog 28 d0 := fun m hm => by simpa using List.all_eq_true.1 hsz _ (DataW.weights_mem_each (j := 0) (t := 28) rfl rfl m hm)
  obtain ⟨a0, n0, c0, rfl⟩ := okWide_slice Try.underlying28 (hval 0 28 v0 rfl rfl)
  obtain ⟨fuel0, hf0⟩ := h0
  obtain ⟨a0', n0', c0', z0, ev0, r0', y0, w0⟩ := ints_rd Try.underlying28 Try.underlying31 (by kernel_rfl) hf0 fit0
  simp only [Value.cells, List.cons.injEq, and_true, Value.slice.injEq] at ev0
  obtain ⟨rfl, rfl, rfl⟩ := ev0
  have k1 := h1
  have lt1 : ∀ x ∈ p1, x.block < W.heap.size := by obtain ⟨m, hm⟩ := k1; exact DataW.trod_lt m _ _ _ hm
  have fit1 : Fit Try.prog 31 d1 := fun m hm => by simpa using List.all_eq_true.1 hsz _ (DataW.weights_mem_each (j := 1) (t := 31) rfl rfl m hm)
  obtain ⟨a1, rfl, _, _, w1⟩ := open_int Try.underlying31 (hval 1 31 v1 rfl rfl) h1
  clear hA0 hval0
  refine (walkDrawsVoid a0 n0 c0 z0 a1 W r0' y0 w0 w1).mono fun e W' ⟨he, bel⟩ => ?_
  subst he
  exact ⟨_, rfl, _, _, _, [], _, [], hW', trodAll_mk1 (shut_bool Try.underlying4 _), (trodAll_cons_mk (Below.trod laidOut (by kernel_rfl) (of_decide_eq_true (by kernel_rfl)) k0 bel lt0) (trodAll_cons_mk (Below.trod laidOut (by kernel_rfl) (of_decide_eq_true (by kernel_rfl)) k1 bel lt1) trodAll_mk0)), rfl, bel.frame _, fun h => by cases h⟩

/-- THE STATEMENT: 'DrawsVoid'. -/
theorem drawsVoid_holds : Rows.DrawsVoidSaid :=
  OpenClaim.holds_of_wide 4 Try.f4 rfl rfl rfl rfl rfl rfl rfl ⟨rfl, rfl, rfl, rfl, rfl⟩ rfl rfl rfl rfl rfl (by kernel_rfl) Try.func4 (by kernel_rfl)
    (of_decide_eq_true (by kernel_rfl)) (by unfold Func.isWrapper; first | (rw [if_pos (by decide +kernel)]; kernel_rfl) | (rw [if_neg (by decide +kernel)]; exact ⟨rfl, rfl⟩))
    (fun os started H enc _ => liftedDrawsVoid os started H enc)

end Go.Proofs.Ytgalphhamdemfaa
