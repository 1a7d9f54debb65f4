/- 'DestsPlay': for every input the law returns true; nothing that was there is written. No condition. -/
import Derived.Test.YtpjjcihhmhccfaaSame
namespace Go.Proofs.Ytpjjcihhmhccfaa
open Go.ChangeShapes Go.WideShapes Go.ChangeAt Go.RowKit Go.Deep
set_option linter.unusedVariables false
set_option linter.unusedSimpArgs false

theorem old_both {w0 W : World} {B M : Nat} {os : List En} {L : List Bx} {x : List Int} (h : Both w0 W B M os L) (hx : IsAddr x) : IsE (oldE x (os.map (·.2))) := by
  obtain ⟨⟨v, Lr, h1, h2, h3, h4⟩, hn⟩ := h
  exact oldE_is h2.ok hx
theorem u64wrap (x : Int) : 0 ≤ IntKind.u64.wrap x ∧ IntKind.u64.wrap x ≤ 18446744073709551615 := by
  have h : IntKind.u64.wrap x = x % 18446744073709551616 := by
    simp [IntKind.wrap, IntKind.bits, IntKind.signed]
  rw [h]; omega
set_option maxRecDepth 100000 in
set_option maxHeartbeats 8000000 in
theorem walkDestsPlay (A0 : Option Addr) (n0 c0 : Nat) (z0 : Nat → ActV) (a1 : Int) (w : World) (h0 : IsActs w w.heap.size A0 n0 c0 z0) (w1 : (Lit.int .u64 a1).wf = true) :
    Calls Try.prog 6 #[.slice A0 n0 c0, .int .u64 a1] w fun e w' => e = .returned (.bool true) ∧ Below w.heap.size w w' := by
  have hcm := h0.cmax
  have hcn := h0.cap
  have h0' := hidd h0
  have hfr : 0 ≤ a1 ∧ a1 ≤ 18446744073709551615 := by have := bounds_u64 w1; omega
  unfold maxLen at hcm
  clear h0 w1
  by_cases hbig : 200 < n0
  · go_enter Try.func6, Try.ntmps6
    go_wp2_with (go_at_call 8; refine (lives_any _).mono ?_; rintro e w' ⟨rfl, hbel⟩)
    go_ret
    exact ⟨rfl, hbel⟩
  · have hsm : decide ((200 : Int) < (n0 : Int)) = false := by simp; omega
    go_enter Try.func6, Try.ntmps6
    go_wp2_with fail
    refine (new_any w).mono ?_
    rintro e V1 ⟨B, rfl, c1, _⟩
    obtain ⟨M, hM⟩ : ∃ M, V1.heap.size = M := ⟨_, rfl⟩
    have P1 := hidd (Both.mk0 c1 hM)
    clear c1
    go_wp2_with fail
    try rw [hM]
    generalize V1.alloc (.cells #[.slice none 0 0] 49) = V2 at P1 ⊢
    go_loopw [7, 8] (fun t i wr => ∃ (k : Nat) (now : Int) (os : List En), k ≤ n0 ∧ i = .int .i64 k ∧ t = .int .u64 now ∧ 0 ≤ now ∧ now ≤ 18446744073709551615 ∧ Both w wr B M os []) (fun _ i _ => n0 - (intOf i).toNat)
    case atStart => exact ⟨0, a1, [], Nat.zero_le _, rfl, rfl, hfr.1, hfr.2, P1.out⟩
    case round =>
      obtain ⟨k, now, os, hk, rfl, rfl, hn0, hn1, hP⟩ := hrel
      have P := hidd hP
      clear hP P1
      by_cases hkn : k < n0
      · obtain ⟨b, off, rfl, hb, hc⟩ := h0'.out.at_ (by omega)
        have hA := hidd (h0'.out.each k hkn)
        have hS : wr.rangeAt b (off + k * 35) (z0 k).cells := fun j u hu => (World.cell?_of_block (w := w) (P.out.1.bel.block b hb)).trans (hc k hkn j u hu)
        obtain ⟨a, ha⟩ : ∃ a, z0 k = a := ⟨_, rfl⟩
        rw [ha] at hA hS
        have la := hidd (ldAct hA.out hS)
        have hkz : (k : Int) < (n0 : Int) := by omega
        obtain ⟨bx, Sx⟩ : ∃ bx, wr.heap.size = bx := ⟨_, rfl⟩
        have P3 := hidd (P.out.push 39 (actV a) Sx)
        have hbx := hidd (fun (W : World) (os : List En) (es : List E) (h : Half w W B M os es ([] ++ [(bx, 39, actV a)])) => (show Blk W bx 39 (actV a) from h.box (x := (bx, 39, actV a)) (by simp)))
        obtain ⟨nw, hnw⟩ : ∃ nw, IntKind.u64.wrap (now + a.later) = nw := ⟨_, rfl⟩
        have hnb := u64wrap (now + a.later)
        rw [hnw] at hnb
        have hlw : IntKind.u64.wrap a.later = a.later := IntWalk.u64_in _ (by have := hA.out.later; omega)
        obtain ⟨hk0, hk1⟩ := hA.out.kind
        clear hc ha hS P
        rcases (show a.kind.tmod 6 = 0 ∨ a.kind.tmod 6 = 1 ∨ a.kind.tmod 6 = 2 ∨ a.kind.tmod 6 = 3 ∨ a.kind.tmod 6 = 4 ∨ a.kind.tmod 6 = 5 by rw [Int.tmod_eq_emod_of_nonneg hk0]; omega) with hkd | hkd | hkd | hkd | hkd | hkd
        · skip
          go_wp2_with (first
            | (with_reducible show wpList _ _ _ (⟨_, Op.load 39 _, _, _, _, _⟩ :: _) _ _; refine wpList_load_want (by kernel_rfl) 39 _ rfl _ rfl _ (by with_reducible exact la.out) ?_)
            | (with_reducible show wpList _ _ _ (⟨_, Op.store 39 (.tmp 9) _, _, _, _, _⟩ :: _) _ _
               refine wpList_store_new rfl rfl 39 (.tmp 9) _ rfl _ _ (actV a) rfl Sx.symm rfl (size_act hA.out) (Eq.trans (b := 35) (by kernel_rfl) (by rw [List.size_toArray, hA.out.len])) (ones_act a) ?_
               generalize wr.alloc (.cells (actV a) 39) = W3 at P3 ⊢
               have k3 := hbx.out _ _ _ P3.out.1
               have c0 := act_kind hA.out k3
               have cl := act_later hA.out k3
               have l1 := hidd (act_a hA.out k3)
               have l2 := hidd (act_b hA.out k3)
               clear la k3)
            | (with_reducible show wpList _ _ _ (⟨_, Op.load 24 (.tmp 46), _, _, _, _⟩ :: _) _ _; refine wpList_load_want (by kernel_rfl) 24 _ rfl _ rfl _ (by with_reducible exact l1.out) ?_)
            | (with_reducible show wpList _ _ _ (⟨_, Op.load 24 (.tmp 48), _, _, _, _⟩ :: _) _ _; refine wpList_load_want (by kernel_rfl) 24 _ rfl _ rfl _ (by with_reducible exact l2.out) ?_))
          refine (redirect_half P3.out hA.out.addr hA.out.next).mono ?_
          rintro r w4 ⟨⟨z, rfl⟩, os4, h4, e4, n4⟩
          have H4 := hidd (And.intro h4 (And.intro e4 n4))
          have k4 := hbx.out _ _ _ h4
          have m1 := hidd (act_a hA.out k4)
          have m2 := hidd (act_b hA.out k4)
          clear h4 e4 n4 k4 P3 l1 l2 c0 cl
          go_wp2_with (first
            | (with_reducible show wpList _ _ _ (⟨_, Op.load 24 (.tmp 52), _, _, _, _⟩ :: _) _ _; refine wpList_load_want (by kernel_rfl) 24 _ rfl _ rfl _ (by with_reducible exact m1.out) ?_)
            | (with_reducible show wpList _ _ _ (⟨_, Op.load 24 (.tmp 54), _, _, _, _⟩ :: _) _ _; refine wpList_load_want (by kernel_rfl) 24 _ rfl _ rfl _ (by with_reducible exact m2.out) ?_))
          refine (redirect_both H4.out.1 H4.out.2.1 H4.out.2.2 hA.out.addr hA.out.next).mono ?_
          rintro r w5 ⟨⟨z2, rfl⟩, d5⟩
          clear H4 m1 m2
          have D5 := hidd d5
          clear d5
          go_wp2_with fail
          refine (same_both w5 D5.out).mono ?_
          rintro r w6 ⟨rfl, d6⟩
          have D6 := hidd d6.pop
          clear d6 D5
          go_wp2
          go_roundw
          case rel => exact ⟨k + 1, nw, _, by omega, by go_num, rfl, hnb.1, hnb.2, D6.out⟩
          case measure => simp [intOf]; omega
        · skip
          go_wp2_with (first
            | (with_reducible show wpList _ _ _ (⟨_, Op.load 39 _, _, _, _, _⟩ :: _) _ _; refine wpList_load_want (by kernel_rfl) 39 _ rfl _ rfl _ (by with_reducible exact la.out) ?_)
            | (with_reducible show wpList _ _ _ (⟨_, Op.store 39 (.tmp 9) _, _, _, _, _⟩ :: _) _ _
               refine wpList_store_new rfl rfl 39 (.tmp 9) _ rfl _ _ (actV a) rfl Sx.symm rfl (size_act hA.out) (Eq.trans (b := 35) (by kernel_rfl) (by rw [List.size_toArray, hA.out.len])) (ones_act a) ?_
               generalize wr.alloc (.cells (actV a) 39) = W3 at P3 ⊢
               have k3 := hbx.out _ _ _ P3.out.1
               have c0 := act_kind hA.out k3
               have cl := act_later hA.out k3
               have l1 := hidd (act_a hA.out k3)
               have l2 := hidd (act_b hA.out k3)
               clear la k3)
            | (with_reducible show wpList _ _ _ (⟨_, Op.load 24 (.tmp 46), _, _, _, _⟩ :: _) _ _; refine wpList_load_want (by kernel_rfl) 24 _ rfl _ rfl _ (by with_reducible exact l1.out) ?_)
            | (with_reducible show wpList _ _ _ (⟨_, Op.load 24 (.tmp 48), _, _, _, _⟩ :: _) _ _; refine wpList_load_want (by kernel_rfl) 24 _ rfl _ rfl _ (by with_reducible exact l2.out) ?_))
          refine (redirect_half P3.out hA.out.addr hA.out.next).mono ?_
          rintro r w4 ⟨⟨z, rfl⟩, os4, h4, e4, n4⟩
          have H4 := hidd (And.intro h4 (And.intro e4 n4))
          have k4 := hbx.out _ _ _ h4
          have m1 := hidd (act_a hA.out k4)
          have m2 := hidd (act_b hA.out k4)
          clear h4 e4 n4 k4 P3 l1 l2 c0 cl
          go_wp2_with (first
            | (with_reducible show wpList _ _ _ (⟨_, Op.load 24 (.tmp 52), _, _, _, _⟩ :: _) _ _; refine wpList_load_want (by kernel_rfl) 24 _ rfl _ rfl _ (by with_reducible exact m1.out) ?_)
            | (with_reducible show wpList _ _ _ (⟨_, Op.load 24 (.tmp 54), _, _, _, _⟩ :: _) _ _; refine wpList_load_want (by kernel_rfl) 24 _ rfl _ rfl _ (by with_reducible exact m2.out) ?_))
          refine (redirect_both H4.out.1 H4.out.2.1 H4.out.2.2 hA.out.addr hA.out.next).mono ?_
          rintro r w5 ⟨⟨z2, rfl⟩, d5⟩
          clear H4 m1 m2
          have D5 := hidd d5
          clear d5
          go_wp2_with fail
          refine (same_both w5 D5.out).mono ?_
          rintro r w6 ⟨rfl, d6⟩
          have D6 := hidd d6.pop
          clear d6 D5
          go_wp2
          go_roundw
          case rel => exact ⟨k + 1, nw, _, by omega, by go_num, rfl, hnb.1, hnb.2, D6.out⟩
          case measure => simp [intOf]; omega
        · skip
          have hS := hidd (fun (V : World) (es : List E) (os : List En) (h : Half w V B M os es ([] ++ [(bx, 39, actV a)])) => (show (loadVar 24 ⟨bx, 1, none⟩).run Try.prog V = .ok (.agg (bytesV a.a)) V ∧ V.cell? ⟨bx, 33, none⟩ = some (.int .u32 a.mtu) from ⟨act_a hA.out (hbx.out _ _ _ h), act_mtu hA.out (hbx.out _ _ _ h)⟩))
          obtain ⟨z, hz⟩ : ∃ z, (!lowR (lowM a.mtu) (oldE a.a (os.map (·.2)))) = z := ⟨_, rfl⟩
          have hm0 := hA.out.mtu
          go_wp2_with (first
            | (with_reducible show wpList _ _ _ (⟨_, Op.load 39 _, _, _, _, _⟩ :: _) _ _; refine wpList_load_want (by kernel_rfl) 39 _ rfl _ rfl _ (by with_reducible exact la.out) ?_)
            | (with_reducible show wpList _ _ _ (⟨_, Op.store 39 (.tmp 9) _, _, _, _, _⟩ :: _) _ _
               refine wpList_store_new rfl rfl 39 (.tmp 9) _ rfl _ _ (actV a) rfl Sx.symm rfl (size_act hA.out) (Eq.trans (b := 35) (by kernel_rfl) (by rw [List.size_toArray, hA.out.len])) (ones_act a) ?_
               generalize wr.alloc (.cells (actV a) 39) = W3 at P3 ⊢
               have k3 := hbx.out _ _ _ P3.out.1
               have c0 := act_kind hA.out k3
               have cl := act_later hA.out k3
               have l1 := hidd (act_a hA.out k3)
               have l2 := hidd (act_b hA.out k3)
               clear la k3))
          have P4 := hidd (P3.out.call (Below.refl _ W3).drew)
          have S4 := hidd (hS.out _ _ _ P4.out.1)
          clear P3 l1 l2 c0 cl
          refine wp_region_held_drew (S := (fun V => (loadVar 24 ⟨bx, 1, none⟩).run Try.prog V = .ok (.agg (bytesV a.a)) V ∧ V.cell? ⟨bx, 33, none⟩ = some (.int .u32 a.mtu))) (by kernel_rfl) S4.out (fun hHeld => ?_)
          generalize W3.drew = D at P4 S4 hHeld ⊢
          refine wpAnyH_take (i := 0) (v := ?_) rfl (by kernel_rfl) (by kernel_rfl) (by kernel_rfl) (fun _ _ _ h => h) (Or.inl ⟨by kernel_rfl, ?_⟩) hHeld ?_
          rotate_left
          · intro wh hSw
            go_simp
            try with_reducible rfl
          try simp only [Act.put, List.getElem_toArray, List.getElem_cons_zero, List.getElem_cons_succ, List.setIfInBounds_toArray, List.set_cons_zero, List.set_cons_succ]
          refine wpAnyH_take (i := 1) (v := ?_) rfl (by kernel_rfl) (by kernel_rfl) (by kernel_rfl) (fun _ _ _ h => h) (Or.inl ⟨by kernel_rfl, ?_⟩) hHeld ?_
          rotate_left
          · intro wh hSw
            go_simp
            try with_reducible rfl
          try simp only [Act.put, List.getElem_toArray, List.getElem_cons_zero, List.getElem_cons_succ, List.setIfInBounds_toArray, List.set_cons_zero, List.set_cons_succ]
          refine wpAnyH_take (i := 2) (v := ?_) rfl (by kernel_rfl) (by kernel_rfl) (by kernel_rfl) (fun _ _ _ h => h) (Or.inl ⟨by kernel_rfl, ?_⟩) hHeld ?_
          rotate_left
          · intro wh hSw
            go_simp
            try with_reducible rfl
          try simp only [Act.put, List.getElem_toArray, List.getElem_cons_zero, List.getElem_cons_succ, List.setIfInBounds_toArray, List.set_cons_zero, List.set_cons_succ]
          refine wpAnyH_take (i := 3) rfl (by kernel_rfl) (by kernel_rfl) (by kernel_rfl) (fun _ _ _ h => h) (yieldsIf_load_want (by kernel_rfl) 24 _ rfl _ rfl _ (fun wh hSw => hSw.1)) hHeld ?_
          try simp only [Act.put, List.getElem_toArray, List.getElem_cons_zero, List.getElem_cons_succ, List.setIfInBounds_toArray, List.set_cons_zero, List.set_cons_succ]
          refine wpAnyH_take (i := 4) (v := ?_) rfl (by kernel_rfl) (by kernel_rfl) (by kernel_rfl) (fun _ _ _ h => h) (Or.inl ⟨by kernel_rfl, ?_⟩) hHeld ?_
          rotate_left
          · intro wh hSw
            go_simp
            try with_reducible rfl
          try simp only [Act.put, List.getElem_toArray, List.getElem_cons_zero, List.getElem_cons_succ, List.setIfInBounds_toArray, List.set_cons_zero, List.set_cons_succ]
          refine wpAnyH_take (i := 5) (v := ?_) rfl (by kernel_rfl) (by kernel_rfl) (by kernel_rfl) (fun _ _ _ h => h) (Or.inl ⟨by kernel_rfl, ?_⟩) hHeld ?_
          rotate_left
          · intro wh hSw
            have hcell := hSw.2
            go_simp
            try with_reducible rfl
          try simp only [Act.put, List.getElem_toArray, List.getElem_cons_zero, List.getElem_cons_succ, List.setIfInBounds_toArray, List.set_cons_zero, List.set_cons_succ]
          refine wpAnyH_take (i := 7) (v := ?_) rfl (by kernel_rfl) (by kernel_rfl) (by kernel_rfl) (fun _ _ _ h => h) (Or.inl ⟨by kernel_rfl, ?_⟩) hHeld ?_
          rotate_left
          · intro wh hSw
            go_simp
            try with_reducible rfl
          try simp only [Act.put, List.getElem_toArray, List.getElem_cons_zero, List.getElem_cons_succ, List.setIfInBounds_toArray, List.set_cons_zero, List.set_cons_succ]
          refine wpAnyH_take (i := 8) (v := ?_) rfl (by kernel_rfl) (by kernel_rfl) (by kernel_rfl) (fun _ _ _ h => h) (Or.inl ⟨by kernel_rfl, ?_⟩) hHeld ?_
          rotate_left
          · intro wh hSw
            go_simp
            try with_reducible rfl
          try simp only [Act.put, List.getElem_toArray, List.getElem_cons_zero, List.getElem_cons_succ, List.setIfInBounds_toArray, List.set_cons_zero, List.set_cons_succ]
          refine wpAnyH_take (i := 9) (v := ?_) rfl (by kernel_rfl) (by kernel_rfl) (by kernel_rfl) (fun _ _ _ h => h) (Or.inl ⟨by kernel_rfl, ?_⟩) hHeld ?_
          rotate_left
          · intro wh hSw
            go_simp
            try with_reducible rfl
          try simp only [Act.put, List.getElem_toArray, List.getElem_cons_zero, List.getElem_cons_succ, List.setIfInBounds_toArray, List.set_cons_zero, List.set_cons_succ]
          refine wpAnyH_take (i := 10) rfl (by kernel_rfl) (by kernel_rfl) (by kernel_rfl) (fun _ _ _ h => h) (yieldsIf_load_want (by kernel_rfl) 24 _ rfl _ rfl _ (fun wh hSw => hSw.1)) hHeld ?_
          try simp only [Act.put, List.getElem_toArray, List.getElem_cons_zero, List.getElem_cons_succ, List.setIfInBounds_toArray, List.set_cons_zero, List.set_cons_succ]
          refine wpAnyH_take (i := 11) (v := ?_) rfl (by kernel_rfl) (by kernel_rfl) (by kernel_rfl) (fun _ _ _ h => h) (Or.inl ⟨by kernel_rfl, ?_⟩) hHeld ?_
          rotate_left
          · intro wh hSw
            go_simp
            try with_reducible rfl
          try simp only [Act.put, List.getElem_toArray, List.getElem_cons_zero, List.getElem_cons_succ, List.setIfInBounds_toArray, List.set_cons_zero, List.set_cons_succ]
          refine wpAnyH_take (i := 12) (v := ?_) rfl (by kernel_rfl) (by kernel_rfl) (by kernel_rfl) (fun _ _ _ h => h) (Or.inl ⟨by kernel_rfl, ?_⟩) hHeld ?_
          rotate_left
          · intro wh hSw
            have hcell := hSw.2
            go_simp
            try with_reducible rfl
          try simp only [Act.put, List.getElem_toArray, List.getElem_cons_zero, List.getElem_cons_succ, List.setIfInBounds_toArray, List.set_cons_zero, List.set_cons_succ]
          refine wpAnyH_ready (rs := [6]) (by kernel_rfl) (by simp) (AllReadyH.cons rfl (fun K hK => ?_) AllReadyH.nil)
          clear hHeld
          go_simp
          refine (lower_half P4.out hA.out.addr hnb.1 hnb.2 hm0.1 hm0.2).mono ?_
          rintro r D5 ⟨hr, os5, h5, e5, n5⟩
          rw [hz] at hr
          subst hr
          dsimp only
          have H5 := hidd (And.intro h5 (And.intro e5 n5))
          clear h5 e5 n5 S4 P4
          refine hK.out _ _ (hS.out _ _ _ H5.out.1) (fun hHeld => ?_)
          clear hK K
          try simp only [Act.put, List.getElem_toArray, List.getElem_cons_zero, List.getElem_cons_succ, List.setIfInBounds_toArray, List.set_cons_zero, List.set_cons_succ]
          refine wpAnyH_ready (rs := [13]) (by kernel_rfl) (by simp) (AllReadyH.cons rfl (fun K hK => ?_) AllReadyH.nil)
          clear hHeld
          go_simp
          refine (lower_both H5.out.1 H5.out.2.1 H5.out.2.2 hA.out.addr hnb.1 hnb.2 hm0.1 hm0.2).mono ?_
          rintro r w5 ⟨hr, d5⟩
          rw [hz] at hr
          subst hr
          dsimp only
          have D5 := hidd d5
          clear d5 H5
          refine hK.out _ _ (hS.out _ _ _ D5.out.1) (fun hHeld => ?_)
          clear hK K
          try simp only [Act.put, List.getElem_toArray, List.getElem_cons_zero, List.getElem_cons_succ, List.setIfInBounds_toArray, List.set_cons_zero, List.set_cons_succ]
          refine wpAnyH_take (i := 14) (v := ?_) rfl (by kernel_rfl) (by kernel_rfl) (by kernel_rfl) (fun _ _ _ h => h) (Or.inl ⟨by kernel_rfl, ?_⟩) hHeld ?_
          rotate_left
          · intro wh hSw
            go_simp
            try with_reducible rfl
          try simp only [Act.put, List.getElem_toArray, List.getElem_cons_zero, List.getElem_cons_succ, List.setIfInBounds_toArray, List.set_cons_zero, List.set_cons_succ]
          refine wpAnyH_done (by kernel_rfl) ?_ _
          clear hHeld
          go_wp2_with fail
          refine (same_both w5 D5.out).mono ?_
          rintro r w6 ⟨rfl, d6⟩
          have D6 := hidd d6.pop
          clear d6 D5
          go_wp2
          go_roundw
          case rel => exact ⟨k + 1, nw, _, by omega, by go_num, rfl, hnb.1, hnb.2, D6.out⟩
          case measure => simp [intOf]; omega
        · skip
          have hS := hidd (fun (V : World) (es : List E) (os : List En) (h : Half w V B M os es ([] ++ [(bx, 39, actV a)])) => (show (loadVar 24 ⟨bx, 1, none⟩).run Try.prog V = .ok (.agg (bytesV a.a)) V from act_a hA.out (hbx.out _ _ _ h)))
          have hE0 := old_both P3.out hA.out.addr
          obtain ⟨e, he⟩ : ∃ e, oldE a.a (os.map (·.2)) = e := ⟨_, rfl⟩
          rw [he] at hE0
          have hE := hidd hE0
          clear hE0
          have heq := fun V => eq33 V hE.out
          have hgd := guard33
          go_wp2_with (first
            | (with_reducible show wpList _ _ _ (⟨_, Op.load 39 _, _, _, _, _⟩ :: _) _ _; refine wpList_load_want (by kernel_rfl) 39 _ rfl _ rfl _ (by with_reducible exact la.out) ?_)
            | (with_reducible show wpList _ _ _ (⟨_, Op.store 39 (.tmp 9) _, _, _, _, _⟩ :: _) _ _
               refine wpList_store_new rfl rfl 39 (.tmp 9) _ rfl _ _ (actV a) rfl Sx.symm rfl (size_act hA.out) (Eq.trans (b := 35) (by kernel_rfl) (by rw [List.size_toArray, hA.out.len])) (ones_act a) ?_
               generalize wr.alloc (.cells (actV a) 39) = W3 at P3 ⊢
               have k3 := hbx.out _ _ _ P3.out.1
               have c0 := act_kind hA.out k3
               have cl := act_later hA.out k3
               have l1 := hidd (act_a hA.out k3)
               have l2 := hidd (act_b hA.out k3)
               clear la k3))
          have P4 := hidd (P3.out.call (Below.refl _ W3).drew)
          have S4 := hidd (hS.out _ _ _ P4.out.1)
          clear P3 l1 l2 c0 cl
          refine wp_region_held_drew (S := (fun V => (loadVar 24 ⟨bx, 1, none⟩).run Try.prog V = .ok (.agg (bytesV a.a)) V)) (by kernel_rfl) S4.out (fun hHeld => ?_)
          generalize W3.drew = D at P4 S4 hHeld ⊢
          refine wpAnyH_take (i := 0) (v := ?_) rfl (by kernel_rfl) (by kernel_rfl) (by kernel_rfl) (fun _ _ _ h => h) (Or.inl ⟨by kernel_rfl, ?_⟩) hHeld ?_
          rotate_left
          · intro wh hSw
            go_simp
            try with_reducible rfl
          try simp only [Act.put, List.getElem_toArray, List.getElem_cons_zero, List.getElem_cons_succ, List.setIfInBounds_toArray, List.set_cons_zero, List.set_cons_succ]
          refine wpAnyH_take (i := 1) (v := ?_) rfl (by kernel_rfl) (by kernel_rfl) (by kernel_rfl) (fun _ _ _ h => h) (Or.inl ⟨by kernel_rfl, ?_⟩) hHeld ?_
          rotate_left
          · intro wh hSw
            go_simp
            try with_reducible rfl
          try simp only [Act.put, List.getElem_toArray, List.getElem_cons_zero, List.getElem_cons_succ, List.setIfInBounds_toArray, List.set_cons_zero, List.set_cons_succ]
          refine wpAnyH_take (i := 2) rfl (by kernel_rfl) (by kernel_rfl) (by kernel_rfl) (fun _ _ _ h => h) (yieldsIf_load_want (by kernel_rfl) 24 _ rfl _ rfl _ (fun wh hSw => hSw)) hHeld ?_
          try simp only [Act.put, List.getElem_toArray, List.getElem_cons_zero, List.getElem_cons_succ, List.setIfInBounds_toArray, List.set_cons_zero, List.set_cons_succ]
          refine wpAnyH_take (i := 4) (v := ?_) rfl (by kernel_rfl) (by kernel_rfl) (by kernel_rfl) (fun _ _ _ h => h) (Or.inl ⟨by kernel_rfl, ?_⟩) hHeld ?_
          rotate_left
          · intro wh hSw
            go_simp
            try with_reducible rfl
          try simp only [Act.put, List.getElem_toArray, List.getElem_cons_zero, List.getElem_cons_succ, List.setIfInBounds_toArray, List.set_cons_zero, List.set_cons_succ]
          refine wpAnyH_take (i := 5) (v := ?_) rfl (by kernel_rfl) (by kernel_rfl) (by kernel_rfl) (fun _ _ _ h => h) (Or.inl ⟨by kernel_rfl, ?_⟩) hHeld ?_
          rotate_left
          · intro wh hSw
            go_simp
            try with_reducible rfl
          try simp only [Act.put, List.getElem_toArray, List.getElem_cons_zero, List.getElem_cons_succ, List.setIfInBounds_toArray, List.set_cons_zero, List.set_cons_succ]
          refine wpAnyH_take (i := 6) rfl (by kernel_rfl) (by kernel_rfl) (by kernel_rfl) (fun _ _ _ h => h) (yieldsIf_load_want (by kernel_rfl) 24 _ rfl _ rfl _ (fun wh hSw => hSw)) hHeld ?_
          try simp only [Act.put, List.getElem_toArray, List.getElem_cons_zero, List.getElem_cons_succ, List.setIfInBounds_toArray, List.set_cons_zero, List.set_cons_succ]
          refine wpAnyH_ready (rs := [3]) (by kernel_rfl) (by simp) (AllReadyH.cons rfl (fun K hK => ?_) AllReadyH.nil)
          clear hHeld
          go_simp
          refine (of_half P4.out hA.out.addr).mono ?_
          rintro r D5 ⟨hr, h5, e5, n5⟩
          rw [he] at hr
          subst hr
          dsimp only
          have H5 := hidd (And.intro h5 (And.intro e5 n5))
          clear h5 e5 n5 S4 P4
          refine hK.out _ _ (hS.out _ _ _ H5.out.1) (fun hHeld => ?_)
          clear hK K
          try simp only [Act.put, List.getElem_toArray, List.getElem_cons_zero, List.getElem_cons_succ, List.setIfInBounds_toArray, List.set_cons_zero, List.set_cons_succ]
          refine wpAnyH_ready (rs := [7]) (by kernel_rfl) (by simp) (AllReadyH.cons rfl (fun K hK => ?_) AllReadyH.nil)
          clear hHeld
          go_simp
          refine (of_both H5.out.1 H5.out.2.1 H5.out.2.2 hA.out.addr).mono ?_
          rintro r D6 ⟨hr, d6⟩
          rw [he] at hr
          subst hr
          dsimp only
          have D6' := hidd d6
          clear d6 H5
          refine hK.out _ _ (hS.out _ _ _ D6'.out.1) (fun hHeld => ?_)
          clear hK K
          try simp only [Act.put, List.getElem_toArray, List.getElem_cons_zero, List.getElem_cons_succ, List.setIfInBounds_toArray, List.set_cons_zero, List.set_cons_succ]
          refine wpAnyH_ready (rs := [8]) (by kernel_rfl) (by simp) (AllReadyH.cons rfl (fun K hK => ?_) AllReadyH.nil)
          clear hHeld
          go_simp
          refine (entry_ref D6 e hE.out).mono ?_
          rintro r w5 ⟨rfl, b5⟩
          dsimp only
          have D5 := hidd (D6'.out.call b5)
          clear b5 D6'
          refine hK.out _ _ (hS.out _ _ _ D5.out.1) (fun hHeld => ?_)
          clear hK K
          try simp only [Act.put, List.getElem_toArray, List.getElem_cons_zero, List.getElem_cons_succ, List.setIfInBounds_toArray, List.set_cons_zero, List.set_cons_succ]
          refine wpAnyH_take (i := 9) (v := ?_) rfl (by kernel_rfl) (by kernel_rfl) (by kernel_rfl) (fun _ _ _ h => h) (Or.inl ⟨by kernel_rfl, ?_⟩) hHeld ?_
          rotate_left
          · intro wh hSw
            go_simp
            try with_reducible rfl
          try simp only [Act.put, List.getElem_toArray, List.getElem_cons_zero, List.getElem_cons_succ, List.setIfInBounds_toArray, List.set_cons_zero, List.set_cons_succ]
          refine wpAnyH_done (by kernel_rfl) ?_ _
          clear hHeld
          go_wp2_with fail
          refine (same_both w5 D5.out).mono ?_
          rintro r w6 ⟨rfl, d6⟩
          have D6 := hidd d6.pop
          clear d6 D5
          go_wp2
          go_roundw
          case rel => exact ⟨k + 1, nw, _, by omega, by go_num, rfl, hnb.1, hnb.2, D6.out⟩
          case measure => simp [intOf]; omega
        · skip
          have hS := hidd (fun (V : World) (es : List E) (os : List En) (h : Half w V B M os es ([] ++ [(bx, 39, actV a)])) => (show (loadVar 24 ⟨bx, 17, none⟩).run Try.prog V = .ok (.agg (bytesV a.b)) V from act_b hA.out (hbx.out _ _ _ h)))
          obtain ⟨z, hz⟩ : ∃ z, forgN a.b os = z := ⟨_, rfl⟩
          go_wp2_with (first
            | (with_reducible show wpList _ _ _ (⟨_, Op.load 39 _, _, _, _, _⟩ :: _) _ _; refine wpList_load_want (by kernel_rfl) 39 _ rfl _ rfl _ (by with_reducible exact la.out) ?_)
            | (with_reducible show wpList _ _ _ (⟨_, Op.store 39 (.tmp 9) _, _, _, _, _⟩ :: _) _ _
               refine wpList_store_new rfl rfl 39 (.tmp 9) _ rfl _ _ (actV a) rfl Sx.symm rfl (size_act hA.out) (Eq.trans (b := 35) (by kernel_rfl) (by rw [List.size_toArray, hA.out.len])) (ones_act a) ?_
               generalize wr.alloc (.cells (actV a) 39) = W3 at P3 ⊢
               have k3 := hbx.out _ _ _ P3.out.1
               have c0 := act_kind hA.out k3
               have cl := act_later hA.out k3
               have l1 := hidd (act_a hA.out k3)
               have l2 := hidd (act_b hA.out k3)
               clear la k3))
          have P4 := hidd (P3.out.call (Below.refl _ W3).drew)
          have S4 := hidd (hS.out _ _ _ P4.out.1)
          clear P3 l1 l2 c0 cl
          refine wp_region_held_drew (S := (fun V => (loadVar 24 ⟨bx, 17, none⟩).run Try.prog V = .ok (.agg (bytesV a.b)) V)) (by kernel_rfl) S4.out (fun hHeld => ?_)
          generalize W3.drew = D at P4 S4 hHeld ⊢
          refine wpAnyH_take (i := 0) (v := ?_) rfl (by kernel_rfl) (by kernel_rfl) (by kernel_rfl) (fun _ _ _ h => h) (Or.inl ⟨by kernel_rfl, ?_⟩) hHeld ?_
          rotate_left
          · intro wh hSw
            go_simp
            try with_reducible rfl
          try simp only [Act.put, List.getElem_toArray, List.getElem_cons_zero, List.getElem_cons_succ, List.setIfInBounds_toArray, List.set_cons_zero, List.set_cons_succ]
          refine wpAnyH_take (i := 1) (v := ?_) rfl (by kernel_rfl) (by kernel_rfl) (by kernel_rfl) (fun _ _ _ h => h) (Or.inl ⟨by kernel_rfl, ?_⟩) hHeld ?_
          rotate_left
          · intro wh hSw
            go_simp
            try with_reducible rfl
          try simp only [Act.put, List.getElem_toArray, List.getElem_cons_zero, List.getElem_cons_succ, List.setIfInBounds_toArray, List.set_cons_zero, List.set_cons_succ]
          refine wpAnyH_take (i := 2) rfl (by kernel_rfl) (by kernel_rfl) (by kernel_rfl) (fun _ _ _ h => h) (yieldsIf_load_want (by kernel_rfl) 24 _ rfl _ rfl _ (fun wh hSw => hSw)) hHeld ?_
          try simp only [Act.put, List.getElem_toArray, List.getElem_cons_zero, List.getElem_cons_succ, List.setIfInBounds_toArray, List.set_cons_zero, List.set_cons_succ]
          refine wpAnyH_take (i := 4) (v := ?_) rfl (by kernel_rfl) (by kernel_rfl) (by kernel_rfl) (fun _ _ _ h => h) (Or.inl ⟨by kernel_rfl, ?_⟩) hHeld ?_
          rotate_left
          · intro wh hSw
            go_simp
            try with_reducible rfl
          try simp only [Act.put, List.getElem_toArray, List.getElem_cons_zero, List.getElem_cons_succ, List.setIfInBounds_toArray, List.set_cons_zero, List.set_cons_succ]
          refine wpAnyH_take (i := 5) (v := ?_) rfl (by kernel_rfl) (by kernel_rfl) (by kernel_rfl) (fun _ _ _ h => h) (Or.inl ⟨by kernel_rfl, ?_⟩) hHeld ?_
          rotate_left
          · intro wh hSw
            go_simp
            try with_reducible rfl
          try simp only [Act.put, List.getElem_toArray, List.getElem_cons_zero, List.getElem_cons_succ, List.setIfInBounds_toArray, List.set_cons_zero, List.set_cons_succ]
          refine wpAnyH_take (i := 6) rfl (by kernel_rfl) (by kernel_rfl) (by kernel_rfl) (fun _ _ _ h => h) (yieldsIf_load_want (by kernel_rfl) 24 _ rfl _ rfl _ (fun wh hSw => hSw)) hHeld ?_
          try simp only [Act.put, List.getElem_toArray, List.getElem_cons_zero, List.getElem_cons_succ, List.setIfInBounds_toArray, List.set_cons_zero, List.set_cons_succ]
          refine wpAnyH_ready (rs := [3]) (by kernel_rfl) (by simp) (AllReadyH.cons rfl (fun K hK => ?_) AllReadyH.nil)
          clear hHeld
          go_simp
          refine (forget_half P4.out hA.out.next).mono ?_
          rintro r D5 ⟨hr, h5⟩
          rw [hz] at hr
          subst hr
          dsimp only
          have H5 := hidd h5
          clear h5 S4 P4
          refine hK.out _ _ (hS.out _ _ _ H5.out.1) (fun hHeld => ?_)
          clear hK K
          try simp only [Act.put, List.getElem_toArray, List.getElem_cons_zero, List.getElem_cons_succ, List.setIfInBounds_toArray, List.set_cons_zero, List.set_cons_succ]
          refine wpAnyH_ready (rs := [7]) (by kernel_rfl) (by simp) (AllReadyH.cons rfl (fun K hK => ?_) AllReadyH.nil)
          clear hHeld
          go_simp
          refine (forget_both H5.out hA.out.next).mono ?_
          rintro r w5 ⟨hr, d5⟩
          rw [hz] at hr
          subst hr
          dsimp only
          have D5 := hidd d5
          clear d5 H5
          refine hK.out _ _ (hS.out _ _ _ D5.out.1) (fun hHeld => ?_)
          clear hK K
          try simp only [Act.put, List.getElem_toArray, List.getElem_cons_zero, List.getElem_cons_succ, List.setIfInBounds_toArray, List.set_cons_zero, List.set_cons_succ]
          refine wpAnyH_take (i := 8) (v := ?_) rfl (by kernel_rfl) (by kernel_rfl) (by kernel_rfl) (fun _ _ _ h => h) (Or.inl ⟨by kernel_rfl, ?_⟩) hHeld ?_
          rotate_left
          · intro wh hSw
            go_simp
            try with_reducible rfl
          try simp only [Act.put, List.getElem_toArray, List.getElem_cons_zero, List.getElem_cons_succ, List.setIfInBounds_toArray, List.set_cons_zero, List.set_cons_succ]
          refine wpAnyH_done (by kernel_rfl) ?_ _
          clear hHeld
          go_wp2_with fail
          refine (same_both w5 D5.out).mono ?_
          rintro r w6 ⟨rfl, d6⟩
          have D6 := hidd d6.pop
          clear d6 D5
          go_wp2
          go_roundw
          case rel => exact ⟨k + 1, nw, _, by omega, by go_num, rfl, hnb.1, hnb.2, D6.out⟩
          case measure => simp [intOf]; omega
        · skip
          go_wp2_with (first
            | (with_reducible show wpList _ _ _ (⟨_, Op.load 39 _, _, _, _, _⟩ :: _) _ _; refine wpList_load_want (by kernel_rfl) 39 _ rfl _ rfl _ (by with_reducible exact la.out) ?_)
            | (with_reducible show wpList _ _ _ (⟨_, Op.store 39 (.tmp 9) _, _, _, _, _⟩ :: _) _ _
               refine wpList_store_new rfl rfl 39 (.tmp 9) _ rfl _ _ (actV a) rfl Sx.symm rfl (size_act hA.out) (Eq.trans (b := 35) (by kernel_rfl) (by rw [List.size_toArray, hA.out.len])) (ones_act a) ?_
               generalize wr.alloc (.cells (actV a) 39) = W3 at P3 ⊢
               have k3 := hbx.out _ _ _ P3.out.1
               have c0 := act_kind hA.out k3
               have cl := act_later hA.out k3
               have l1 := hidd (act_a hA.out k3)
               have l2 := hidd (act_b hA.out k3)
               clear la k3))
          refine (tick_half P3.out hnb.1 hnb.2).mono ?_
          rintro r w4 ⟨⟨z, rfl⟩, h4⟩
          have H4 := hidd h4
          clear h4 P3 l1 l2 c0 cl
          go_wp2_with fail
          refine (tick_both H4.out hnb.1 hnb.2).mono ?_
          rintro r w5 ⟨⟨z2, rfl⟩, d5⟩
          clear H4
          have D5 := hidd d5
          clear d5
          go_wp2_with fail
          refine (same_both w5 D5.out).mono ?_
          rintro r w6 ⟨rfl, d6⟩
          have D6 := hidd d6.pop
          clear d6 D5
          go_wp2
          go_roundw
          case rel => exact ⟨k + 1, nw, _, by omega, by go_num, rfl, hnb.1, hnb.2, D6.out⟩
          case measure => simp [intOf]; omega
      · have hkn' : k = n0 := by omega
        subst hkn'
        go_wp2_with (go_at_call 8; refine (lives_any _).mono ?_; rintro e w' ⟨rfl, hbel⟩)
        go_ret
        exact ⟨rfl, P.out.1.bel.trans (hbel.mono P.out.1.bel.size)⟩

set_option maxRecDepth 100000 in
theorem liftedDestsPlay (os : Os) (started : os.Started) (H : Type) (enc : TypeId × Value → H) :
    ReturnsInHanded {} Try.checked os 6 .any (Rows.destsPlaySpec.pre6 enc Try.prog Try.f6 Rows.destsPlayRow.domain false) (Rows.destsPlaySpec.post enc Try.prog Try.f6 false true false false) := by
  refine returnsInHanded_of_change_sized (C := Try.checked) own started (by kernel_rfl) Try.func6
    (ChangeSpec.witness6 (enc := enc) (C := Try.checked) false ⟨#[], #[.slice none 0 0, .int .u64 0], []⟩ 8 (by kernel_rfl) (by kernel_rfl) (by kernel_rfl) (by kernel_rfl)) ?_
  intro W base args ds gs before hval0 hW hcnd hsz0 _
  have hval : ∀ (j : Nat) t v, Try.f6.params[j]? = some t → args[j]? = some v → Value.okWide Try.prog W .any base t v := hval0
  have hW' := hW
  obtain ⟨p, q, hA0, hV, rfl, hfz, hnd⟩ := hW
  have hA : DataW.TrodAll enc Try.prog W 0 (fun _ => true) true Try.f6.params.toList args.toList ds p := hA0
  have hsz : (DataW.weightsEach Try.prog (Try.f6.params.toList ++ Rows.destsPlaySpec.plain.varTypes Try.prog) (ds ++ gs)).all (· ≤ reachBytes) = true := hsz0
  rw [Try.params6] at hA hval hsz
  obtain ⟨v0, vs0, d0, ds0, p0, q0, hargs, rfl, rfl, h0, r0⟩ := trodAll_cons hA
  obtain ⟨v1, vs1, d1, ds1, p1, q1, rfl, rfl, rfl, h1, r1⟩ := trodAll_cons r0
  obtain ⟨rfl, rfl, rfl⟩ := trodAll_nil r1
  obtain rfl : args = #[v0, v1] := by cases args; simp_all
  obtain ⟨rfl, rfl⟩ := trodVars_none hV
  have k0 := h0
  have lt0 : ∀ x ∈ p0, x.block < W.heap.size := by obtain ⟨m, hm⟩ := k0; exact DataW.trod_lt m _ _ _ hm
  have fit0 : Fit Try.prog 37 d0 := fun m hm => by simpa using List.all_eq_true.1 hsz _ (DataW.weights_mem_each (j := 0) (t := 37) rfl rfl m hm)
  obtain ⟨A0, n0, c0, z0, ev0, w0⟩ := open_acts (hval 0 37 v0 rfl rfl) h0 fit0
  subst ev0
  have k1 := h1
  have lt1 : ∀ x ∈ p1, x.block < W.heap.size := by obtain ⟨m, hm⟩ := k1; exact DataW.trod_lt m _ _ _ hm
  have fit1 : Fit Try.prog 29 d1 := fun m hm => by simpa using List.all_eq_true.1 hsz _ (DataW.weights_mem_each (j := 1) (t := 29) rfl rfl m hm)
  obtain ⟨a1, rfl, _, _, w1⟩ := open_int Try.underlying29 (hval 1 29 v1 rfl rfl) h1
  clear hA0 hval0
  refine (walkDestsPlay A0 n0 c0 z0 a1 W w0 w1).mono fun e W' ⟨he, bel⟩ => ?_
  subst he
  exact ⟨_, rfl, _, _, _, [], _, [], hW', trodAll_mk1 (shut_bool Try.underlying4 _), (trodAll_cons_mk (Below.trod laidOut (by kernel_rfl) (of_decide_eq_true (by kernel_rfl)) k0 bel lt0) (trodAll_cons_mk (Below.trod laidOut (by kernel_rfl) (of_decide_eq_true (by kernel_rfl)) k1 bel lt1) trodAll_mk0)), rfl, bel.frame _, fun h => by cases h⟩

/-- THE STATEMENT: 'DestsPlay'. -/
theorem destsPlay_holds : Rows.DestsPlaySaid :=
  OpenClaim.holds_of_wide 6 Try.f6 rfl rfl rfl rfl rfl rfl rfl ⟨rfl, rfl, rfl, rfl, rfl⟩ rfl rfl rfl rfl rfl (by kernel_rfl) Try.func6 (by kernel_rfl)
    (of_decide_eq_true (by kernel_rfl)) (by unfold Func.isWrapper; first | (rw [if_pos (by decide +kernel)]; kernel_rfl) | (rw [if_neg (by decide +kernel)]; exact ⟨rfl, rfl⟩))
    (fun os started H enc _ => liftedDestsPlay os started H enc)

end Go.Proofs.Ytpjjcihhmhccfaa
