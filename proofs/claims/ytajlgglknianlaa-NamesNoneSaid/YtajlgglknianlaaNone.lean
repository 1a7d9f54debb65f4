/- 'NamesNone': for every input the law returns true; nothing that was there is written. No condition. -/
import Derived.Test.YtajlgglknianlaaBase
namespace Go.Proofs.Ytajlgglknianlaa
open Go.ChangeShapes Go.WideShapes Go.ChangeAt Go.RowKit Go.Deep
set_option linter.unusedVariables false
set_option linter.unusedSimpArgs false

set_option maxRecDepth 100000 in
set_option maxHeartbeats 2000000 in
theorem walkNamesNone (a : ActV) (w : World) (h : IsAct w w.heap.size a) :
    Calls Try.prog 6 #[.agg a.cells.toArray] w fun e w' => e = .returned (.bool true) ∧ Below w.heap.size w w' := by
  show Calls Try.prog 6 #[.agg #[.int .u8 a.kind, .slice a.sA a.sn a.sc, .slice a.dA a.dn a.dc, .int .u32 a.life, .int .u32 a.later]] w _
  clear h
  go_enter Try.func6, Try.ntmps6
  go_wp2_with fail
  have K3 : Hid (Kp w (((w.alloc (.cells #[.int .u8 a.kind, .slice a.sA a.sn a.sc, .slice a.dA a.dn a.dc, .int .u32 a.life, .int .u32 a.later] 42)).alloc (.cells #[.int .i64 0, .slice none 0 0, .int .i64 0, .slice none 0 0] 63)).alloc (.cells #[.pointer none, .pointer (some ⟨w.heap.size + 1, 0, none⟩)] 25)) _) :=
    (((Kp.nil w).new rfl 42 #[.int .u8 a.kind, .slice a.sA a.sn a.sc, .slice a.dA a.dn a.dc, .int .u32 a.life, .int .u32 a.later]).new (g := w.heap.size + 1) (by simp) 63 #[.int .i64 0, .slice none 0 0, .int .i64 0, .slice none 0 0]).new (g := w.heap.size + 1 + 1) (by simp) 25 #[.pointer none, .pointer (some ⟨w.heap.size + 1, 0, none⟩)]
  generalize ((w.alloc (.cells #[.int .u8 a.kind, .slice a.sA a.sn a.sc, .slice a.dA a.dn a.dc, .int .u32 a.life, .int .u32 a.later] 42)).alloc (.cells #[.int .i64 0, .slice none 0 0, .int .i64 0, .slice none 0 0] 63)).alloc (.cells #[.pointer none, .pointer (some ⟨w.heap.size + 1, 0, none⟩)] 25) = V at K3 ⊢
  have c1 := K3.out.cell 0 rfl (i := 1) rfl
  have c2 := K3.out.cell 0 rfl (i := 2) rfl
  have c3 := K3.out.cell 0 rfl (i := 3) rfl
  have c4 := K3.out.cell 2 rfl (i := 0) rfl
  have c5 := K3.out.cell 2 rfl (i := 1) rfl
  have n1 : Hid (Not V (.pointer none)) := .inl rfl
  have n2 : Hid (Not V (.pointer (some ⟨w.heap.size + 1, 0, none⟩))) := .inr ⟨_, rfl, K3.out.cell 1 rfl (i := 0) rfl⟩
  refine wp_loop_rounds 4 ?_
  rw [rounds_succ]
  go_wp2_with (first
    | (go_at_call 9; refine (servers_not _ _ _ _ _ n1.out).mono ?_; rintro e w' ⟨⟨r, rfl⟩, rfl⟩)
    | (go_at_call 15; refine (domains_not _ _ _ _ _ n1.out).mono ?_; rintro e w' ⟨⟨r, rfl⟩, rfl⟩)
    | (go_at_call 10; refine (tick_not _ _ _ n1.out).mono ?_; rintro e w' ⟨⟨r, rfl⟩, rfl⟩)
    | (go_at_call 11; refine (allS_not _ _ n1.out).mono ?_; rintro e w' ⟨rfl, rfl⟩)
    | (go_at_call 14; refine (allD_not _ _ n1.out).mono ?_; rintro e w' ⟨rfl, rfl⟩)
    | (go_at_call 12; refine (next_not _ _ n1.out).mono ?_; rintro e w' ⟨rfl, rfl⟩))
  rw [rounds_succ]
  go_wp2_with (first
    | (go_at_call 9; refine (servers_not _ _ _ _ _ n2.out).mono ?_; rintro e w' ⟨⟨r, rfl⟩, rfl⟩)
    | (go_at_call 15; refine (domains_not _ _ _ _ _ n2.out).mono ?_; rintro e w' ⟨⟨r, rfl⟩, rfl⟩)
    | (go_at_call 10; refine (tick_not _ _ _ n2.out).mono ?_; rintro e w' ⟨⟨r, rfl⟩, rfl⟩)
    | (go_at_call 11; refine (allS_not _ _ n2.out).mono ?_; rintro e w' ⟨rfl, rfl⟩)
    | (go_at_call 14; refine (allD_not _ _ n2.out).mono ?_; rintro e w' ⟨rfl, rfl⟩)
    | (go_at_call 12; refine (next_not _ _ n2.out).mono ?_; rintro e w' ⟨rfl, rfl⟩))
  rw [rounds_succ]
  go_wp2_with (first
    | (go_at_call 7; refine (lives_any _).mono ?_; rintro e w' ⟨rfl, hbel⟩))
  go_ret
  exact ⟨rfl, (K3.out.call hbel).bel⟩

set_option maxRecDepth 100000 in
theorem liftedNamesNone (os : Os) (started : os.Started) (H : Type) (enc : TypeId × Value → H) :
    ReturnsInHanded {} Try.checked os 6 .any (Rows.namesNoneSpec.pre6 enc Try.prog Try.f6 Rows.namesNoneRow.domain false) (Rows.namesNoneSpec.post enc Try.prog Try.f6 false true false false) := by
  refine returnsInHanded_of_change_sized (C := Try.checked) own started (by kernel_rfl) Try.func6
    (ChangeSpec.witness6 (enc := enc) (C := Try.checked) false ⟨#[], #[.agg #[.int .u8 0, .slice none 0 0, .slice none 0 0, .int .u32 0, .int .u32 0]], []⟩ 8 (by kernel_rfl) (by kernel_rfl) (by kernel_rfl) (by kernel_rfl)) ?_
  intro W base args ds gs before hval0 hW hcnd hsz0 _
  have hval : ∀ (j : Nat) t v, Try.f6.params[j]? = some t → args[j]? = some v → Value.okWide Try.prog W .any base t v := hval0
  have hW' := hW
  obtain ⟨p, q, hA0, hV, rfl, hfz, hnd⟩ := hW
  have hA : DataW.TrodAll enc Try.prog W 0 (fun _ => true) true Try.f6.params.toList args.toList ds p := hA0
  have hsz : (DataW.weightsEach Try.prog (Try.f6.params.toList ++ Rows.namesNoneSpec.plain.varTypes Try.prog) (ds ++ gs)).all (· ≤ reachBytes) = true := hsz0
  rw [Try.params6] at hA hval hsz
  obtain ⟨v0, vs0, d0, ds0, p0, q0, hargs, rfl, rfl, h0, r0⟩ := trodAll_cons hA
  obtain ⟨rfl, rfl, rfl⟩ := trodAll_nil r0
  obtain rfl : args = #[v0] := by cases args; simp_all
  obtain ⟨rfl, rfl⟩ := trodVars_none hV
  have k0 := h0
  have lt0 : ∀ x ∈ p0, x.block < W.heap.size := by obtain ⟨m, hm⟩ := k0; exact DataW.trod_lt m _ _ _ hm
  have fit0 : Fit Try.prog 42 d0 := fun m hm => by simpa using List.all_eq_true.1 hsz _ (DataW.weights_mem_each (j := 0) (t := 42) rfl rfl m hm)
  obtain ⟨a0, ev0, w0⟩ := open_act (hval 0 42 v0 rfl rfl) h0 fit0
  subst ev0
  clear hA0 hval0
  refine (walkNamesNone a0 W w0).mono fun e W' ⟨he, bel⟩ => ?_
  subst he
  exact ⟨_, rfl, _, _, _, [], _, [], hW', trodAll_mk1 (shut_bool Try.underlying4 _), (trodAll_cons_mk (Below.trod laidOut (by kernel_rfl) (of_decide_eq_true (by kernel_rfl)) k0 bel lt0) trodAll_mk0), rfl, bel.frame _, fun h => by cases h⟩

/-- THE STATEMENT: 'NamesNone'. -/
theorem namesNone_holds : Rows.NamesNoneSaid :=
  OpenClaim.holds_of_wide 6 Try.f6 rfl rfl rfl rfl rfl rfl rfl ⟨rfl, rfl, rfl, rfl, rfl⟩ rfl rfl rfl rfl rfl (by kernel_rfl) Try.func6 (by kernel_rfl)
    (of_decide_eq_true (by kernel_rfl)) (by unfold Func.isWrapper; first | (rw [if_pos (by decide +kernel)]; kernel_rfl) | (rw [if_neg (by decide +kernel)]; exact ⟨rfl, rfl⟩))
    (fun os started H enc _ => liftedNamesNone os started H enc)

end Go.Proofs.Ytajlgglknianlaa
