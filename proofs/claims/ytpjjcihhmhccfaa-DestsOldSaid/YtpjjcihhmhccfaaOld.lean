/- 'DestsOld': for every input the law returns true; nothing that was there is written. No condition. -/
import Derived.Test.YtpjjcihhmhccfaaOlds
import Derived.Deep.RegionHeld3
namespace Go.Proofs.Ytpjjcihhmhccfaa
open Go.ChangeShapes Go.WideShapes Go.ChangeAt Go.RowKit Go.Deep
set_option linter.unusedVariables false
set_option linter.unusedSimpArgs false

theorem Jn.mono {c : Int} {k m m' : Nat} {os : List En} (h : Jn c k m os) (hm : m ≤ m') : Jn c k m' os := by
  obtain ⟨A, S, h1, h2, h3⟩ := h
  exact ⟨A, S, h1, h2, Nat.le_trans h3 hm⟩
theorem ol_is {c : Int} (hc : 0 ≤ c ∧ c ≤ 255) : IsE (Ol c) := ⟨addr2_is (by decide) hc, sevA_is, (by decide : (0 : Int) ≤ 0 ∧ (0 : Int) ≤ 4294967295), (by decide : (0 : Int) ≤ 0 ∧ (0 : Int) ≤ 18446744073709551615)⟩

theorem run_field_next (W : World) {e : E} (he : IsE e) : (Instr.field 33 (.agg (encV e)) 1).run Try.prog W = .ok (.agg (bytesV e.2.1)) W := by
  have hp := part_next W he
  obtain ⟨fs, hfs⟩ : ∃ fs, Try.prog.underlying 33 = some (.struct fs) := ⟨_, Try.underlying33⟩
  have hf : (fs[1]?.map fun f => (f.type, f.offset)) = some (24, 16) := by
    have h2 : (match Try.prog.underlying 33 with | some (.struct fs) => (fs[1]?.map fun f => (f.type, f.offset)) | _ => none) = some (24, 16) := by kernel_rfl
    rw [hfs] at h2; exact h2
  obtain ⟨f, hf1, hf2⟩ := Option.map_eq_some_iff.1 hf
  have h1 : f.type = 24 := congrArg Prod.fst hf2
  have h2 : f.offset = 16 := congrArg Prod.snd hf2
  rw [← h1, ← h2] at hp
  unfold Instr.field
  simp only [Sem.run_bind, run_underlying hfs, Result.andThen_ok, hf1, asAgg, Sem.run_pure, hp]
theorem wpList_field_want {P : Program} {W : World} {ops : Array Oper} {rest : List Oper} {o : Oper} {a : Act} {Q : Exit → Act → World → Prop} (hw : Region.wanted o (yielded ops a.tmps) = true) (t : TypeId) (x : Operand) (i : Nat) (ho : o.op = .field t x i) (xv v : Value) (hx : a.eval x = xv)
    (hf : (Instr.field t xv i).run P W = .ok v W) (h : wpList P ops Q rest (a.put o.dst v) W) : wpList P ops Q (o :: rest) a W :=
  wpList_step fun K hK => by
    rw [if_pos hw]
    unfold Oper.wp execOp
    simp only [ho, hx, Sem.run_bind, hf, Result.andThen_ok, Sem.run_pure]
    exact hK _ _ h

set_option maxRecDepth 100000 in
set_option maxHeartbeats 8000000 in
theorem walkDestsOld (a0 b0 : Int) (w : World) (w0 : (Lit.int .u8 a0).wf = true) (w1 : (Lit.int .u8 b0).wf = true) :
    Calls Try.prog 5 #[.int .u8 a0, .int .u8 b0] w fun e w' => e = .returned (.bool true) ∧ Below w.heap.size w w' := by
  have ha : 0 ≤ a0 ∧ a0 ≤ 255 := by have := bounds_u8 w0; omega
  have hb : 0 ≤ b0 ∧ b0 ≤ 255 := by have := bounds_u8 w1; omega
  obtain ⟨n, hn⟩ : ∃ n : Nat, a0.tmod 100 = (n : Int) := ⟨(a0.tmod 100).toNat, by rw [Int.toNat_of_nonneg (Int.tmod_nonneg _ ha.1)]⟩
  have hn100 : n < 100 := by have := Int.tmod_lt_of_pos a0 (show (0 : Int) < 100 by decide); omega
  have hwa : IntKind.i64.wrap a0 = a0 := IntWalk.i64_in _ (by omega)
  have hold := hidd (addr2_is (show (0 : Int) ≤ 9 ∧ (9 : Int) ≤ 255 by decide) hb)
  have hOl := hidd (ol_is hb)
  have hes := fun V => eql24 V sevA_is sevA_is
  rw [show (sevA == sevA) = true by decide] at hes
  have hgd := guard24
  clear w0 w1
  go_enter Try.func5, Try.ntmps5
  go_wp2_with fail
  refine (new_any w).mono ?_
  rintro e V1 ⟨B, rfl, c1, _⟩
  have C1 := hidd c1
  obtain ⟨q, Sq⟩ : ∃ q, V1.heap.size = q := ⟨_, rfl⟩
  have C2 := hidd (c1.new 24 (bytesV (addr2 9 b0)) Sq)
  clear c1
  go_wp2_with (first
    | (with_reducible show wpList _ _ _ (⟨_, Op.build 24 _, _, _, _, _⟩ :: _) _ _; first
        | refine wpList_build_want rfl 24 #[(0, .const (.int .u8 9)), (1, .tmp 15)] rfl (bytesV (addr2 9 b0)) (by kernel_rfl) ?_
        | refine wpList_build_want rfl 24 #[(0, .const (.int .u8 7))] rfl (bytesV sevA) (by kernel_rfl) ?_)
    | (with_reducible show wpList _ _ _ (⟨_, Op.store 24 (.tmp 7) _, _, _, _, _⟩ :: _) _ _
       refine wpList_store_new rfl rfl 24 (.tmp 7) _ rfl _ _ (bytesV (addr2 9 b0)) rfl Sq.symm rfl (size_a hold.out) rfl (ones_b _) ?_
       generalize V1.alloc (.cells (bytesV (addr2 9 b0)) 24) = V2 at C2 ⊢
       have l2 := hidd (ld24 C2.out.last hold.out)
       clear C1)
    | (with_reducible show wpList _ _ _ (⟨_, Op.load 24 _, _, _, _, _⟩ :: _) _ _; refine wpList_load_want (by kernel_rfl) 24 _ rfl _ rfl _ (by with_reducible exact l2.out) ?_))
  refine (redirect_any V2 C2.out (addr2 9 b0) sevA hold.out sevA_is).mono ?_
  rintro r V3 ⟨⟨z, rfl⟩, hr⟩
  obtain ⟨os3, c3, j3⟩ := j_first hr
  have C3 := hidd c3
  have J3 := hidd j3
  clear hr c3 j3 C2 l2
  go_wp2_with fail
  go_loopw [8] (fun i wr => ∃ (k : Nat) (os : List En), k ≤ n ∧ i = .int .i64 k ∧ Ch w wr B os ([] ++ [(q, 24, bytesV (addr2 9 b0))]) ∧ Jn b0 k ((k + 19) % 20) os) (fun i _ => n - (intOf i).toNat)
  case atStart => exact ⟨0, os3, Nat.zero_le _, rfl, C3.out, J3.out.mono (Nat.zero_le _)⟩
  case round =>
    obtain ⟨k, os, hk, rfl, hC, hJ⟩ := hrel
    have C4 := hidd hC
    have J4 := hidd hJ
    clear hC hJ C3 J3
    by_cases hkn : k < n
    · have hkz : decide ((k : Int) < (n : Int)) = true := by simp; omega
      have hkw : IntKind.u8.wrap (k : Int) = (k : Int) := IntWalk.u8_in _ (by omega)
      have hka := addr2_is (show (0 : Int) ≤ 1 ∧ (1 : Int) ≤ 255 by decide) (show (0 : Int) ≤ (k : Int) ∧ (k : Int) ≤ 255 by omega)
      go_wp2_with (first
        | (with_reducible show wpList _ _ _ (⟨_, Op.build 24 _, _, _, _, _⟩ :: _) _ _; first
            | refine wpList_build_want rfl 24 #[(0, .const (.int .u8 1)), (1, .tmp 28)] rfl (bytesV (addr2 1 k)) (by kernel_rfl) ?_
            | refine wpList_build_want rfl 24 #[(0, .const (.int .u8 8))] rfl (bytesV eigA) (by kernel_rfl) ?_))
      refine (redirect_any wr C4.out (addr2 1 k) eigA hka eigA_is).mono ?_
      rintro r V5 ⟨⟨z, rfl⟩, hr⟩
      obtain ⟨os5, c5, j5⟩ := j_red J4.out (by omega) hr
      have C5 := hidd c5
      have J5 := hidd j5
      have l5 := hidd (ld24 c5.last hold.out)
      clear hr c5 j5 C4 J4
      by_cases hk20 : k % 20 = 0
      · have h1 : ((k : Int).tmod 20 == 0) = true := by
          rw [Int.tmod_eq_emod_of_nonneg (by omega)]; simp; omega
        have h1' : decide ((k : Int).tmod 20 = 0) = true := by simpa using h1
        go_wp2_with (first
          | (with_reducible show wpList _ _ _ (⟨_, Op.load 24 _, _, _, _, _⟩ :: _) _ _; refine wpList_load_want (by kernel_rfl) 24 _ rfl _ rfl _ (by with_reducible exact l5.out) ?_))
        refine (of_any V5 C5.out (addr2 9 b0) hold.out).mono ?_
        rintro r V6 ⟨rfl, c6⟩
        rw [of_old C5.out J5.out.perm]
        have C6 := hidd c6
        have J6 := hidd (j_of C5.out J5.out)
        clear c6 C5 J5 l5
        go_wp2_with (first
          | (with_reducible show wpList _ _ _ (⟨_, Op.field 33 _ _, _, _, _, _⟩ :: _) _ _; refine wpList_field_want (by kernel_rfl) 33 _ 1 rfl (.agg (encV (Ol b0))) (.agg (bytesV sevA)) rfl (run_field_next _ hOl.out) ?_)
          | (with_reducible show wpList _ _ _ (⟨_, Op.build 24 _, _, _, _, _⟩ :: _) _ _; refine wpList_build_wantG (by kernel_rfl) 24 #[(0, .const (.int .u8 7))] rfl (bytesV sevA) (by kernel_rfl) ?_))
        go_roundw
        case rel => exact ⟨k + 1, _, by omega, by go_num, C6.out, J6.out.mono (Nat.zero_le _)⟩
        case measure => simp [intOf]; omega
      · have h1 : ((k : Int).tmod 20 == 0) = false := by
          rw [Int.tmod_eq_emod_of_nonneg (by omega)]; simp; omega
        have h1' : decide ((k : Int).tmod 20 = 0) = false := by simpa using h1
        go_wp2
        go_roundw
        case rel => exact ⟨k + 1, _, by omega, by go_num, C5.out, J5.out.mono (by omega)⟩
        case measure => simp [intOf]; omega
    · have hkn' : k = n := by omega
      have hkz : decide ((k : Int) < (n : Int)) = false := by simp; omega
      have l5 := hidd (ld24 C4.out.last hold.out)
      have P4 : Hid (Pm b0 n os) := by rw [← hkn']; exact J4.out.perm
      clear J4
      go_wp2_with (first
        | (with_reducible show wpList _ _ _ (⟨_, Op.load 24 _, _, _, _, _⟩ :: _) _ _; refine wpList_load_want (by kernel_rfl) 24 _ rfl _ rfl _ (by with_reducible exact l5.out) ?_))
      refine (of_any wr C4.out (addr2 9 b0) hold.out).mono ?_
      rintro r V6 ⟨rfl, c6⟩
      rw [of_old C4.out P4.out]
      have C6 := hidd c6
      have P6 := hidd (pm_tch C4.out P4.out (addr2 9 b0))
      obtain ⟨os6, hos6⟩ : ∃ o, tch (addr2 9 b0) os = o := ⟨_, rfl⟩
      rw [hos6] at C6 P6
      clear c6 C4 l5 P4 hos6
      go_wp2_with (first
        | (with_reducible show wpList _ _ _ (⟨_, Op.field 33 _ _, _, _, _, _⟩ :: _) _ _; refine wpList_field_want (by kernel_rfl) 33 _ 1 rfl (.agg (encV (Ol b0))) (.agg (bytesV sevA)) rfl (run_field_next _ hOl.out) ?_)
        | (with_reducible show wpList _ _ _ (⟨_, Op.build 24 _, _, _, _, _⟩ :: _) _ _; refine wpList_build_want rfl 24 #[(0, .const (.int .u8 7))] rfl (bytesV sevA) (by kernel_rfl) ?_))
      refine (list_any V6 C6.out).mono ?_
      rintro r V7 ⟨g, rfl, o7, c7, b7⟩
      have hl7 := pm_len P6.out
      obtain ⟨q7, hq7⟩ : ∃ q7, os6.length = q7 := ⟨_, rfl⟩
      have hmin : min (32 : Int) ((n : Int) + 1) = (q7 : Int) := by omega
      have hw1 : IntKind.i64.wrap ((n : Int) + 1) = (n : Int) + 1 := IntWalk.i64_in _ (by omega)
      have C7 := hidd c7
      rw [hq7]
      clear c7 o7 b7 C6 hq7 hl7
      go_wp2
      go_loopw [9] (fun i wr => ∃ (k : Nat) (os : List En), k ≤ n ∧ i = .int .i64 k ∧ Ch w wr B os ([] ++ [(q, 24, bytesV (addr2 9 b0))]) ∧ Pm b0 n os) (fun i _ => n - (intOf i).toNat)
      case atStart => exact ⟨0, os6, Nat.zero_le _, rfl, C7.out, P6.out⟩
      case round =>
        obtain ⟨j, os8, hj, rfl, hC, hP⟩ := hrel
        have C8 := hidd hC
        have P8 := hidd hP
        clear hC hP C7 P6
        by_cases hjn : j < n
        · have hjz : decide ((j : Int) < (n : Int)) = true := by simp; omega
          have hjw : IntKind.u8.wrap (j : Int) = (j : Int) := IntWalk.u8_in _ (by omega)
          have hja := addr2_is (show (0 : Int) ≤ 1 ∧ (1 : Int) ≤ 255 by decide) (show (0 : Int) ≤ (j : Int) ∧ (j : Int) ≤ 255 by omega)
          have hws : IntKind.i64.wrap ((n : Int) - 31) = (n : Int) - 31 := IntWalk.i64_in _ (by omega)
          go_wp2_with (first
            | (with_reducible show wpList _ _ _ (⟨_, Op.build 24 _, _, _, _, _⟩ :: _) _ _; refine wpList_build_want rfl 24 #[(0, .const (.int .u8 1)), (1, .tmp 65)] rfl (bytesV (addr2 1 j)) (by kernel_rfl) ?_))
          refine (of_any wr C8.out (addr2 1 j) hja).mono ?_
          rintro r V9 ⟨rfl, c9⟩
          have hE := hidd (ofE_is C8.out hja)
          have hnx := of_new C8.out P8.out hjn
          have C9 := hidd c9
          have P9 := hidd (pm_tch C8.out P8.out (addr2 1 j))
          obtain ⟨e9, he9⟩ : ∃ e, ofE (addr2 1 j) os8 = e := ⟨_, rfl⟩
          rw [he9] at hE hnx ⊢
          have he8 := fun V => eql24 V hE.out.n eigA_is
          clear c9 C8 P8 he9
          by_cases h31 : n ≤ j + 31
          · have hb8 : (e9.2.1 == eigA) = true := by rw [hnx, if_pos h31]; decide
            rw [hb8] at he8
            clear hb8
            have hd : decide ((n : Int) - 31 ≤ (j : Int)) = true := by simp; omega
            clear hnx
            go_wp2_with (first
              | (with_reducible show wpList _ _ _ (⟨_, Op.field 33 _ _, _, _, _, _⟩ :: _) _ _; refine wpList_field_want (by kernel_rfl) 33 _ 1 rfl (.agg (encV e9)) (.agg (bytesV e9.2.1)) rfl (run_field_next _ hE.out) ?_)
              | (with_reducible show wpList _ _ _ (⟨_, Op.build 24 _, _, _, _, _⟩ :: _) _ _; refine wpList_build_want rfl 24 #[(0, .const (.int .u8 8))] rfl (bytesV eigA) (by kernel_rfl) ?_))
            go_roundw
            case rel => exact ⟨j + 1, _, by omega, by go_num, C9.out, P9.out⟩
            case measure => simp [intOf]; omega
          · have hb8 : (e9.2.1 == eigA) = false := by rw [hnx, if_neg h31]; decide
            rw [hb8] at he8
            clear hb8
            have hd : decide ((n : Int) - 31 ≤ (j : Int)) = false := by simp; omega
            clear hnx
            go_wp2_with (first
              | (with_reducible show wpList _ _ _ (⟨_, Op.field 33 _ _, _, _, _, _⟩ :: _) _ _; refine wpList_field_want (by kernel_rfl) 33 _ 1 rfl (.agg (encV e9)) (.agg (bytesV e9.2.1)) rfl (run_field_next _ hE.out) ?_)
              | (with_reducible show wpList _ _ _ (⟨_, Op.build 24 _, _, _, _, _⟩ :: _) _ _; refine wpList_build_want rfl 24 #[(0, .const (.int .u8 8))] rfl (bytesV eigA) (by kernel_rfl) ?_))
            go_roundw
            case rel => exact ⟨j + 1, _, by omega, by go_num, C9.out, P9.out⟩
            case measure => simp [intOf]; omega
        · have hjn' : j = n := by omega
          have hjz : decide ((j : Int) < (n : Int)) = false := by simp; omega
          go_wp2_with (first
            | (with_reducible show wpList _ _ _ (⟨_, Op.build 24 _, _, _, _, _⟩ :: _) _ _; refine wpList_build_want rfl 24 #[(0, .const (.int .u8 8))] rfl (bytesV eigA) (by kernel_rfl) ?_))
          refine (forget_any wr C8.out eigA eigA_is).mono ?_
          rintro r V9 ⟨rfl, c9⟩
          have hl9 := pm_forg P8.out
          have h1 := pm_left P8.out
          obtain ⟨q9, hq9⟩ : ∃ q9, forgN eigA os8 = q9 := ⟨_, rfl⟩
          rw [hq9] at hl9 ⊢
          have hmin9 : min (31 : Int) (n : Int) = (q9 : Int) := by omega
          have C9 := hidd c9
          clear c9 C8 P8 hq9 hl9
          go_wp2_with fail
          refine (list_any V9 C9.out).mono ?_
          rintro r V10 ⟨g2, rfl, o10, c10, b10⟩
          rw [h1]
          have C10 := hidd c10
          clear o10 b10 C9 c10
          go_wp2_with fail
          refine (lives_any V10).mono ?_
          rintro e w' ⟨rfl, hbel⟩
          go_wp2
          go_ret
          exact ⟨rfl, (C10.out.call hbel).bel⟩

set_option maxRecDepth 100000 in
theorem liftedDestsOld (os : Os) (started : os.Started) (H : Type) (enc : TypeId × Value → H) :
    ReturnsInHanded {} Try.checked os 5 .any (Rows.destsOldSpec.pre6 enc Try.prog Try.f5 Rows.destsOldRow.domain false) (Rows.destsOldSpec.post enc Try.prog Try.f5 false true false false) := by
  refine returnsInHanded_of_change_sized (C := Try.checked) own started (by kernel_rfl) Try.func5
    (ChangeSpec.witness6 (enc := enc) (C := Try.checked) false ⟨#[], #[.int .u8 0, .int .u8 0], []⟩ 8 (by kernel_rfl) (by kernel_rfl) (by kernel_rfl) (by kernel_rfl)) ?_
  intro W base args ds gs before hval0 hW hcnd hsz0 _
  have hval : ∀ (j : Nat) t v, Try.f5.params[j]? = some t → args[j]? = some v → Value.okWide Try.prog W .any base t v := hval0
  have hW' := hW
  obtain ⟨p, q, hA0, hV, rfl, hfz, hnd⟩ := hW
  have hA : DataW.TrodAll enc Try.prog W 0 (fun _ => true) true Try.f5.params.toList args.toList ds p := hA0
  have hsz : (DataW.weightsEach Try.prog (Try.f5.params.toList ++ Rows.destsOldSpec.plain.varTypes Try.prog) (ds ++ gs)).all (· ≤ reachBytes) = true := hsz0
  rw [Try.params5] at hA hval hsz
  obtain ⟨v0, vs0, d0, ds0, p0, q0, hargs, rfl, rfl, h0, r0⟩ := trodAll_cons hA
  obtain ⟨v1, vs1, d1, ds1, p1, q1, rfl, rfl, rfl, h1, r1⟩ := trodAll_cons r0
  obtain ⟨rfl, rfl, rfl⟩ := trodAll_nil r1
  obtain rfl : args = #[v0, v1] := by cases args; simp_all
  obtain ⟨rfl, rfl⟩ := trodVars_none hV
  have k0 := h0
  have lt0 : ∀ x ∈ p0, x.block < W.heap.size := by obtain ⟨m, hm⟩ := k0; exact DataW.trod_lt m _ _ _ hm
  have fit0 : Fit Try.prog 5 d0 := fun m hm => by simpa using List.all_eq_true.1 hsz _ (DataW.weights_mem_each (j := 0) (t := 5) rfl rfl m hm)
  obtain ⟨a0, rfl, _, _, w0⟩ := open_int Try.underlying5 (hval 0 5 v0 rfl rfl) h0
  have k1 := h1
  have lt1 : ∀ x ∈ p1, x.block < W.heap.size := by obtain ⟨m, hm⟩ := k1; exact DataW.trod_lt m _ _ _ hm
  have fit1 : Fit Try.prog 5 d1 := fun m hm => by simpa using List.all_eq_true.1 hsz _ (DataW.weights_mem_each (j := 1) (t := 5) rfl rfl m hm)
  obtain ⟨a1, rfl, _, _, w1⟩ := open_int Try.underlying5 (hval 1 5 v1 rfl rfl) h1
  clear hA0 hval0
  refine (walkDestsOld a0 a1 W w0 w1).mono fun e W' ⟨he, bel⟩ => ?_
  subst he
  exact ⟨_, rfl, _, _, _, [], _, [], hW', trodAll_mk1 (shut_bool Try.underlying4 _), (trodAll_cons_mk (Below.trod laidOut (by kernel_rfl) (of_decide_eq_true (by kernel_rfl)) k0 bel lt0) (trodAll_cons_mk (Below.trod laidOut (by kernel_rfl) (of_decide_eq_true (by kernel_rfl)) k1 bel lt1) trodAll_mk0)), rfl, bel.frame _, fun h => by cases h⟩

/-- THE STATEMENT: 'DestsOld'. -/
theorem destsOld_holds : Rows.DestsOldSaid :=
  OpenClaim.holds_of_wide 5 Try.f5 rfl rfl rfl rfl rfl rfl rfl ⟨rfl, rfl, rfl, rfl, rfl⟩ rfl rfl rfl rfl rfl (by kernel_rfl) Try.func5 (by kernel_rfl)
    (of_decide_eq_true (by kernel_rfl)) (by unfold Func.isWrapper; first | (rw [if_pos (by decide +kernel)]; kernel_rfl) | (rw [if_neg (by decide +kernel)]; exact ⟨rfl, rfl⟩))
    (fun os started H enc _ => liftedDestsOld os started H enc)

end Go.Proofs.Ytpjjcihhmhccfaa
