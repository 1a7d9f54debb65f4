/- 'DestsBound': for every input the law returns true; nothing that was there is written. No condition. -/
import Derived.Test.YtpjjcihhmhccfaaBase
import Derived.Deep.RegionHeld3
namespace Go.Proofs.Ytpjjcihhmhccfaa
open Go.ChangeShapes Go.WideShapes Go.ChangeAt Go.RowKit Go.Deep
set_option linter.unusedVariables false
set_option linter.unusedSimpArgs false

/-- What each entry keeps. -/
def Okc (os : List En) : Prop := ∀ o ∈ os, (o.2.2.2.1 = 0 ∨ (1280 ≤ o.2.2.2.1 ∧ o.2.2.2.1 < 1500)) ∧ bareE o.2 = false
section
variable {w0 w' : World} {B b : Nat} {os rest : List En} {L : List Bx} {x dst next : List Int} {e : E} {now mtu : Int} {r : Ending}
theorem okc_mk (h : Okc os) (hm : Mk x os b e rest) : Okc rest ∧ (e.2.2.1 = 0 ∨ (1280 ≤ e.2.2.1 ∧ e.2.2.1 < 1500)) := by
  rcases hm with ⟨hf, rfl⟩ | ⟨hf, rfl, rfl⟩
  · exact ⟨fun o ho => h o (List.mem_filter.1 ho).1, (h _ (fo_some hf).1).1⟩
  · refine ⟨fun o ho => h o ?_, .inl rfl⟩
    unfold room at ho
    split at ho
    · exact List.dropLast_subset _ ho
    · exact ho
theorem okc_red (h : Okc os) (hr : RedSays w0 B dst next os L w') : ∃ os', Ch w0 w' B os' L ∧ Okc os' := by
  obtain ⟨b, e, rest, hm, hc⟩ := hr
  obtain ⟨h1, h2⟩ := okc_mk h hm
  refine ⟨_, hc, fun o ho => ?_⟩
  unfold bareO at ho
  split at ho
  · obtain ⟨h3, h4⟩ := List.mem_filter.1 ho
    rcases List.mem_cons.1 h3 with rfl | h3
    · simp at h4
    · exact h1 o h3
  · rename_i hb
    rcases List.mem_cons.1 ho with rfl | ho
    · exact ⟨h2, by simpa using hb⟩
    · exact h1 o ho
theorem okc_low (h : Okc os) (hr : LowSays w0 B now mtu dst os L r w') : (∃ z, r = .returned z) ∧ ∃ os', Ch w0 w' B os' L ∧ Okc os' := by
  rcases hr with ⟨_, hr, hc⟩ | ⟨hn, hr, b, e, rest, hm, hc⟩
  · exact ⟨⟨_, hr⟩, os, hc, h⟩
  · obtain ⟨h1, h2⟩ := okc_mk h hm
    refine ⟨⟨_, hr⟩, _, hc, fun o ho => ?_⟩
    rcases List.mem_cons.1 ho with rfl | ho
    · have h3 : ¬ 1500 ≤ lowM mtu := fun hge => by rw [lowNo, show decide (1500 ≤ lowM mtu) = true by simpa using hge, Bool.true_or] at hn; cases hn
      have h4 : 1280 ≤ lowM mtu := Int.le_max_right _ _
      refine ⟨.inr ⟨h4, by simp only [lowE]; omega⟩, ?_⟩
      have h5 : (lowM mtu == 0) = false := by simp only [beq_eq_false_iff_ne]; omega
      simp only [bareE, lowE, h5, Bool.and_false]
    · exact h1 o ho
end
/-- While a round's list is looked at. -/
structure Bt (w0 W : World) (B g : Nat) (os : List En) (L : List Bx) : Prop where
  ch : Ch w0 W B os L
  row : ∀ j o, os[j]? = some o → W.rangeAt g (j * 34) (enc o.2)
theorem Bt.draw {w0 W : World} {B g : Nat} {os : List En} {L : List Bx} (h : Bt w0 W B g os L) : Bt w0 W.drew B g os L := ⟨h.ch.call (Below.refl _ _).drew, fun j o ho i v hv => h.row j o ho i v hv⟩
section
variable {W : World} {g j : Nat} {e : E}
theorem rowMtu (he : IsE e) (h : W.rangeAt g (j * 34) (enc e)) : W.cell? ⟨g, j * 34 + 32, none⟩ = some (.int .u32 e.2.2.1) := h 32 _ (by have := at_mtu he; rwa [encV, List.getElem?_toArray] at this)
theorem rowDst (he : IsE e) (h : W.rangeAt g (j * 34) (enc e)) : (loadVar 24 ⟨g, j * 34, none⟩).run Try.prog W = .ok (.agg (bytesV e.1)) W :=
  run_loadVar_mid (P := Try.prog) W g (j * 34) 24 (e.1.map (Value.int .u8)) _ (fun i v hv => h i v (by rw [enc, List.getElem?_append_left (List.getElem?_eq_some_iff.1 hv).1]; exact hv)) Try.underlying24 rfl (by rw [List.length_map, he.a.len]; exact info24)
theorem rowNext (he : IsE e) (h : W.rangeAt g (j * 34) (enc e)) : (loadVar 24 ⟨g, j * 34 + 16, none⟩).run Try.prog W = .ok (.agg (bytesV e.2.1)) W :=
  run_loadVar_mid (P := Try.prog) W g (j * 34 + 16) 24 (e.2.1.map (Value.int .u8)) _ (fun i v hv => by
    rw [Nat.add_assoc]
    refine h (16 + i) v ?_
    have h1 := List.getElem?_eq_some_iff.1 hv
    obtain ⟨h1, h2⟩ := h1
    rw [enc, List.getElem?_append_right (by simp [he.a.len]), List.getElem?_append_left (by simp [he.a.len] at h1 ⊢; omega)]
    simp only [List.length_map, he.a.len, Nat.add_sub_cancel_left]
    exact hv) Try.underlying24 rfl (by rw [List.length_map, he.n.len]; exact info24)
end

set_option maxRecDepth 100000 in
set_option maxHeartbeats 8000000 in
theorem walkDestsBound (A0 : Option Addr) (n0 c0 : Nat) (z0 : Nat → ActV) (w : World) (h0 : IsActs w w.heap.size A0 n0 c0 z0) :
    Calls Try.prog 4 #[.slice A0 n0 c0] w fun e w' => e = .returned (.bool true) ∧ Below w.heap.size w w' := by
  have hcm := h0.cmax
  have hcn := h0.cap
  have h0' := hidd h0
  unfold maxLen at hcm
  clear h0
  by_cases hbig : 200 < n0
  · go_enter Try.func4, Try.ntmps4
    go_wp2_with (go_at_call 8; refine (lives_any _).mono ?_; rintro e w' ⟨rfl, hbel⟩)
    go_ret
    exact ⟨rfl, hbel⟩
  · have hsm : decide ((200 : Int) < (n0 : Int)) = false := by simp; omega
    go_enter Try.func4, Try.ntmps4
    go_wp2_with fail
    refine (new_any w).mono ?_
    rintro e V1 ⟨B, rfl, c1, _⟩
    have C1 := hidd c1
    clear c1
    go_wp2_with fail
    go_loopw [4] (fun i wr => ∃ (k : Nat) (os : List En), k ≤ n0 ∧ i = .int .i64 k ∧ Ch w wr B os [] ∧ Okc os) (fun i _ => n0 - (intOf i).toNat)
    case atStart => exact ⟨0, [], Nat.zero_le _, rfl, C1.out, fun o ho => by simp at ho⟩
    case round =>
      obtain ⟨k, os, hk, rfl, hC, hO⟩ := hrel
      have C2 := hidd hC
      have O2 := hidd hO
      clear hC hO C1
      by_cases hkn : k < n0
      · obtain ⟨b, off, rfl, hb, hc⟩ := h0'.out.at_ (by omega)
        have hA := hidd (h0'.out.each k hkn)
        have hS : wr.rangeAt b (off + k * 35) (z0 k).cells := fun j u hu => (World.cell?_of_block (w := w) (C2.out.bel.block b hb)).trans (hc k hkn j u hu)
        obtain ⟨a, ha⟩ : ∃ a, z0 k = a := ⟨_, rfl⟩
        rw [ha] at hA hS
        have la := hidd (ldAct hA.out hS)
        have hkz : (k : Int) < (n0 : Int) := by omega
        obtain ⟨bx, Sx⟩ : ∃ bx, wr.heap.size = bx := ⟨_, rfl⟩
        have C3 := hidd (C2.out.new 39 (actV a) Sx)
        have hks : IntKind.u64.wrap (k : Int) = (k : Int) := IntWalk.u64_in _ (by omega)
        have hl0 := hA.out.mtu
        clear hc ha hS
        cases hkd : (a.kind.tmod 2 == 0) with
        | true =>
          go_wp2_with (first
            | (with_reducible show wpList _ _ _ (⟨_, Op.load 39 _, _, _, _, _⟩ :: _) _ _; refine wpList_load_want (by kernel_rfl) 39 _ rfl _ rfl _ (by with_reducible exact la.out) ?_)
            | (with_reducible show wpList _ _ _ (⟨_, Op.store 39 (.tmp 5) _, _, _, _, _⟩ :: _) _ _
               refine wpList_store_new rfl rfl 39 (.tmp 5) _ rfl _ _ (actV a) rfl Sx.symm rfl (size_act hA.out) (Eq.trans (b := 35) (by kernel_rfl) (by rw [List.size_toArray, hA.out.len])) (ones_act a) ?_
               generalize wr.alloc (.cells (actV a) 39) = W3 at C3 ⊢
               have c0 := act_kind hA.out C3.out.last
               have cm := act_mtu hA.out C3.out.last
               have l1 := hidd (act_a hA.out C3.out.last)
               have l2 := hidd (act_b hA.out C3.out.last)
               clear la C2)
            | (with_reducible show wpList _ _ _ (⟨_, Op.load 24 (.tmp 29), _, _, _, _⟩ :: _) _ _; refine wpList_load_want (by kernel_rfl) 24 _ rfl _ rfl _ (by with_reducible exact l1.out) ?_)
            | (with_reducible show wpList _ _ _ (⟨_, Op.load 24 (.tmp 31), _, _, _, _⟩ :: _) _ _; refine wpList_load_want (by kernel_rfl) 24 _ rfl _ rfl _ (by with_reducible exact l2.out) ?_)
            | (with_reducible show wpList _ _ _ (⟨_, Op.load 24 (.tmp 37), _, _, _, _⟩ :: _) _ _; refine wpList_load_want (by kernel_rfl) 24 _ rfl _ rfl _ (by with_reducible exact l1.out) ?_))
          refine (redirect_any W3 C3.out a.a a.b hA.out.addr hA.out.next).mono ?_
          rintro r w4 ⟨⟨z, rfl⟩, hr⟩
          obtain ⟨os4, c4, o4⟩ := okc_red O2.out hr
          clear hr hkd
          have C4 := hidd c4
          have O4 := hidd o4
          clear c4 o4 C3 O2 l1 l2 c0 cm
          go_wp2_with fail
          refine (list_any w4 C4.out).mono ?_
          rintro r w5 ⟨g, rfl, o5, c5, b5⟩
          have hmax := c5.nb.2.2
          have hnd := hidd c5.nb.2.1
          have hok := hidd (fun (o : En) (ho : o ∈ os4) => (c5.ent ho).2)
          have T0 : Hid (Bt w w5 B g os4 ([] ++ [(bx, 39, actV a)])) := ⟨c5, fun j o ho => own_range o5 isEnc (by simp) (fun e he => by
            obtain ⟨o, ho, rfl⟩ := List.mem_map.1 he
            exact hok.out o ho) (by rw [List.getElem?_map, ho]; rfl)⟩
          obtain ⟨n5, hn5⟩ : ∃ n5, os4.length = n5 := ⟨_, rfl⟩
          rw [hn5] at hmax ⊢
          have hgt : decide ((32 : Int) < (n5 : Int)) = false := by simp; omega
          clear c5 b5 o5 C4
          go_wp2_with fail
          go_loopw [7] (fun i wr => ∃ j : Nat, j ≤ n5 ∧ i = .int .i64 j ∧ Bt w wr B g os4 ([] ++ [(bx, 39, actV a)])) (fun i _ => n5 - (intOf i).toNat)
          case atStart => exact ⟨0, Nat.zero_le _, rfl, T0.out⟩
          case round =>
            obtain ⟨j, hj, rfl, hT⟩ := hrel
            have T1 := hidd hT
            clear hT T0
            by_cases hjn : j < n5
            · obtain ⟨o, ho⟩ : ∃ o, os4[j]? = some o := ⟨_, List.getElem?_eq_getElem (by omega)⟩
              obtain ⟨be, e⟩ := o
              have ho' := hidd ho
              have hE := hidd (hok.out _ (List.mem_of_getElem? ho))
              obtain ⟨hm, hbare⟩ := O4.out _ (List.mem_of_getElem? ho)
              have c32 := rowMtu hE.out (T1.out.row j _ ho)
              have l16 := hidd (rowNext hE.out (T1.out.row j _ ho))
              have heq := fun V => eql24 V hE.out.n zeroA_is
              have hgd := guard24
              have hjz : (j : Int) < (n5 : Int) := by omega
              have T2 := hidd T1.out
              simp only at hm hbare
              obtain ⟨m, hmm⟩ : ∃ m, e.2.2.1 = m := ⟨_, rfl⟩
              rw [hmm] at c32 hm
              clear T1 ho
              by_cases hm0 : m = 0
              · subst hm0
                have hz : (e.2.1 == zeroA) = false := by rw [bareE, hmm] at hbare; simpa using hbare
                rw [hz] at heq
                clear hm hbare hmm hz
                go_wp2_with (first
                  | (with_reducible show wpList _ _ _ (⟨_, Op.load 24 _, _, _, _, _⟩ :: _) _ _; refine wpList_load_want (by kernel_rfl) 24 _ rfl _ rfl _ (by with_reducible exact l16.out) ?_)
                  | (with_reducible show wpList _ _ _ (⟨_, Op.build 24 _, _, _, _, _⟩ :: _) _ _; refine wpList_build_wantG (by kernel_rfl) 24 #[] rfl (bytesV zeroA) (by kernel_rfl) ?_))
                go_loopw [8] (fun i wr => ∃ q : Nat, q ≤ j ∧ i = .int .i64 q ∧ Bt w wr B g os4 ([] ++ [(bx, 39, actV a)])) (fun i _ => j - (intOf i).toNat)
                case atStart => exact ⟨0, Nat.zero_le _, rfl, T2.out⟩
                case round =>
                  obtain ⟨q, hq, rfl, hT3⟩ := hrel
                  have T3 := hidd hT3
                  clear hT3 T2
                  by_cases hqj : q < j
                  · obtain ⟨o2, ho2⟩ : ∃ o, os4[q]? = some o := ⟨_, List.getElem?_eq_getElem (by omega)⟩
                    obtain ⟨bq, f⟩ := o2
                    have hF := hidd (hok.out _ (List.mem_of_getElem? ho2))
                    have hne : (f.1 == e.1) = false := by
                      obtain ⟨h1, h2⟩ := List.getElem?_eq_some_iff.1 ho2
                      obtain ⟨h3, h4⟩ := List.getElem?_eq_some_iff.1 ho'.out
                      have := List.pairwise_iff_getElem.1 hnd.out q j h1 h3 hqj
                      rw [h2, h4] at this
                      simpa using this
                    have T4 := hidd T3.out.draw
                    have S6 : Hid ((loadVar 24 ⟨g, q * 34, none⟩).run Try.prog wr.drew = .ok (.agg (bytesV f.1)) wr.drew ∧ (loadVar 24 ⟨g, j * 34, none⟩).run Try.prog wr.drew = .ok (.agg (bytesV e.1)) wr.drew) := ⟨rowDst hF.out (T4.out.row q _ ho2), rowDst hE.out (T4.out.row j _ ho'.out)⟩
                    have heq3 := fun V => eql24 V hF.out.a hE.out.a
                    rw [hne] at heq3
                    have hgd := guard24
                    have hqz : (q : Int) < (n5 : Int) := by omega
                    have hqz2 : decide ((q : Int) < (j : Int)) = true := by simp; omega
                    clear T3 hne ho2
                    go_wp2
                    refine wp_region_held_drew (S := (fun V => (loadVar 24 ⟨g, q * 34, none⟩).run Try.prog V = .ok (.agg (bytesV f.1)) V ∧ (loadVar 24 ⟨g, j * 34, none⟩).run Try.prog V = .ok (.agg (bytesV e.1)) V)) (by kernel_rfl) S6.out (fun hHeld => ?_)
                    generalize wr.drew = D at T4 S6 hHeld ⊢
                    refine wpAnyH_take (i := 0) (v := ?_) rfl (by kernel_rfl) (by kernel_rfl) (by kernel_rfl) (fun _ _ _ h => h) (Or.inl ⟨by kernel_rfl, ?_⟩) hHeld ?_
                    rotate_left
                    · intro wh hSw
                      go_simp
                      try with_reducible rfl
                    try simp only [Act.put, List.getElem_toArray, List.getElem_cons_zero, List.getElem_cons_succ, List.setIfInBounds_toArray, List.set_cons_zero, List.set_cons_succ]
                    refine wpAnyH_take (i := 1) (v := ?_) rfl (by kernel_rfl) (by kernel_rfl) (by kernel_rfl) (fun _ _ _ h => h) (Or.inl ⟨by kernel_rfl, ?_⟩) hHeld ?_
                    rotate_left
                    · intro wh hSw
                      go_simp
                      try with_reducible rfl
                    try simp only [Act.put, List.getElem_toArray, List.getElem_cons_zero, List.getElem_cons_succ, List.setIfInBounds_toArray, List.set_cons_zero, List.set_cons_succ]
                    refine wpAnyH_take (i := 2) (v := ?_) rfl (by kernel_rfl) (by kernel_rfl) (by kernel_rfl) (fun _ _ _ h => h) (Or.inl ⟨by kernel_rfl, ?_⟩) hHeld ?_
                    rotate_left
                    · intro wh hSw
                      go_simp
                      try with_reducible rfl
                    try simp only [Act.put, List.getElem_toArray, List.getElem_cons_zero, List.getElem_cons_succ, List.setIfInBounds_toArray, List.set_cons_zero, List.set_cons_succ]
                    refine wpAnyH_take (i := 3) (v := ?_) rfl (by kernel_rfl) (by kernel_rfl) (by kernel_rfl) (fun _ _ _ h => h) (Or.inl ⟨by kernel_rfl, ?_⟩) hHeld ?_
                    rotate_left
                    · intro wh hSw
                      go_simp
                      try with_reducible rfl
                    try simp only [Act.put, List.getElem_toArray, List.getElem_cons_zero, List.getElem_cons_succ, List.setIfInBounds_toArray, List.set_cons_zero, List.set_cons_succ]
                    refine wpAnyH_take (i := 4) rfl (by kernel_rfl) (by kernel_rfl) (by kernel_rfl) (fun _ _ _ h => h) (yieldsIf_load_want (by kernel_rfl) 24 _ rfl _ rfl _ (fun wh hSw => hSw.1)) hHeld ?_
                    try simp only [Act.put, List.getElem_toArray, List.getElem_cons_zero, List.getElem_cons_succ, List.setIfInBounds_toArray, List.set_cons_zero, List.set_cons_succ]
                    refine wpAnyH_take (i := 5) (v := ?_) rfl (by kernel_rfl) (by kernel_rfl) (by kernel_rfl) (fun _ _ _ h => h) (Or.inl ⟨by kernel_rfl, ?_⟩) hHeld ?_
                    rotate_left
                    · intro wh hSw
                      go_simp
                      try with_reducible rfl
                    try simp only [Act.put, List.getElem_toArray, List.getElem_cons_zero, List.getElem_cons_succ, List.setIfInBounds_toArray, List.set_cons_zero, List.set_cons_succ]
                    refine wpAnyH_take (i := 6) (v := ?_) rfl (by kernel_rfl) (by kernel_rfl) (by kernel_rfl) (fun _ _ _ h => h) (Or.inl ⟨by kernel_rfl, ?_⟩) hHeld ?_
                    rotate_left
                    · intro wh hSw
                      go_simp
                      try with_reducible rfl
                    try simp only [Act.put, List.getElem_toArray, List.getElem_cons_zero, List.getElem_cons_succ, List.setIfInBounds_toArray, List.set_cons_zero, List.set_cons_succ]
                    refine wpAnyH_take (i := 7) (v := ?_) rfl (by kernel_rfl) (by kernel_rfl) (by kernel_rfl) (fun _ _ _ h => h) (Or.inl ⟨by kernel_rfl, ?_⟩) hHeld ?_
                    rotate_left
                    · intro wh hSw
                      go_simp
                      try with_reducible rfl
                    try simp only [Act.put, List.getElem_toArray, List.getElem_cons_zero, List.getElem_cons_succ, List.setIfInBounds_toArray, List.set_cons_zero, List.set_cons_succ]
                    refine wpAnyH_take (i := 8) (v := ?_) rfl (by kernel_rfl) (by kernel_rfl) (by kernel_rfl) (fun _ _ _ h => h) (Or.inl ⟨by kernel_rfl, ?_⟩) hHeld ?_
                    rotate_left
                    · intro wh hSw
                      go_simp
                      try with_reducible rfl
                    try simp only [Act.put, List.getElem_toArray, List.getElem_cons_zero, List.getElem_cons_succ, List.setIfInBounds_toArray, List.set_cons_zero, List.set_cons_succ]
                    refine wpAnyH_take (i := 9) rfl (by kernel_rfl) (by kernel_rfl) (by kernel_rfl) (fun _ _ _ h => h) (yieldsIf_load_want (by kernel_rfl) 24 _ rfl _ rfl _ (fun wh hSw => hSw.2)) hHeld ?_
                    try simp only [Act.put, List.getElem_toArray, List.getElem_cons_zero, List.getElem_cons_succ, List.setIfInBounds_toArray, List.set_cons_zero, List.set_cons_succ]
                    refine wpAnyH_take (i := 10) (v := ?_) rfl (by kernel_rfl) (by kernel_rfl) (by kernel_rfl) (fun _ _ _ h => h) (Or.inl ⟨by kernel_rfl, ?_⟩) hHeld ?_
                    rotate_left
                    · intro wh hSw
                      go_simp
                      try with_reducible rfl
                    try simp only [Act.put, List.getElem_toArray, List.getElem_cons_zero, List.getElem_cons_succ, List.setIfInBounds_toArray, List.set_cons_zero, List.set_cons_succ]
                    refine wpAnyH_done (by kernel_rfl) ?_ _
                    clear hHeld
                    go_wp2
                    go_roundw
                    case rel => exact ⟨q + 1, by omega, by go_num, T4.out⟩
                    case measure => simp [intOf]; omega
                  · have hqj' : q = j := by omega
                    have hqz2 : decide ((q : Int) < (j : Int)) = false := by simp; omega
                    clear hqj
                    go_wp2
                    go_roundw
                    case rel => exact ⟨j + 1, by omega, by go_num, T3.out⟩
                    case measure => simp [intOf]; omega
              · have h1 : (m == 0) = false := by simpa using hm0
                have h1' : decide (m = 0) = false := by simpa using hm0
                have h2 : decide (m < 1280) = false := by simp; omega
                have h3 : decide (1500 ≤ m) = false := by simp; omega
                have hm0' : ¬ m = 0 := hm0
                clear hm hbare hmm l16 heq
                go_wp2
                go_loopw [8] (fun i wr => ∃ q : Nat, q ≤ j ∧ i = .int .i64 q ∧ Bt w wr B g os4 ([] ++ [(bx, 39, actV a)])) (fun i _ => j - (intOf i).toNat)
                case atStart => exact ⟨0, Nat.zero_le _, rfl, T2.out⟩
                case round =>
                  obtain ⟨q, hq, rfl, hT3⟩ := hrel
                  have T3 := hidd hT3
                  clear hT3 T2
                  by_cases hqj : q < j
                  · obtain ⟨o2, ho2⟩ : ∃ o, os4[q]? = some o := ⟨_, List.getElem?_eq_getElem (by omega)⟩
                    obtain ⟨bq, f⟩ := o2
                    have hF := hidd (hok.out _ (List.mem_of_getElem? ho2))
                    have hne : (f.1 == e.1) = false := by
                      obtain ⟨h1, h2⟩ := List.getElem?_eq_some_iff.1 ho2
                      obtain ⟨h3, h4⟩ := List.getElem?_eq_some_iff.1 ho'.out
                      have := List.pairwise_iff_getElem.1 hnd.out q j h1 h3 hqj
                      rw [h2, h4] at this
                      simpa using this
                    have T4 := hidd T3.out.draw
                    have S6 : Hid ((loadVar 24 ⟨g, q * 34, none⟩).run Try.prog wr.drew = .ok (.agg (bytesV f.1)) wr.drew ∧ (loadVar 24 ⟨g, j * 34, none⟩).run Try.prog wr.drew = .ok (.agg (bytesV e.1)) wr.drew) := ⟨rowDst hF.out (T4.out.row q _ ho2), rowDst hE.out (T4.out.row j _ ho'.out)⟩
                    have heq3 := fun V => eql24 V hF.out.a hE.out.a
                    rw [hne] at heq3
                    have hgd := guard24
                    have hqz : (q : Int) < (n5 : Int) := by omega
                    have hqz2 : decide ((q : Int) < (j : Int)) = true := by simp; omega
                    clear T3 hne ho2
                    go_wp2
                    refine wp_region_held_drew (S := (fun V => (loadVar 24 ⟨g, q * 34, none⟩).run Try.prog V = .ok (.agg (bytesV f.1)) V ∧ (loadVar 24 ⟨g, j * 34, none⟩).run Try.prog V = .ok (.agg (bytesV e.1)) V)) (by kernel_rfl) S6.out (fun hHeld => ?_)
                    generalize wr.drew = D at T4 S6 hHeld ⊢
                    refine wpAnyH_take (i := 0) (v := ?_) rfl (by kernel_rfl) (by kernel_rfl) (by kernel_rfl) (fun _ _ _ h => h) (Or.inl ⟨by kernel_rfl, ?_⟩) hHeld ?_
                    rotate_left
                    · intro wh hSw
                      go_simp
                      try with_reducible rfl
                    try simp only [Act.put, List.getElem_toArray, List.getElem_cons_zero, List.getElem_cons_succ, List.setIfInBounds_toArray, List.set_cons_zero, List.set_cons_succ]
                    refine wpAnyH_take (i := 1) (v := ?_) rfl (by kernel_rfl) (by kernel_rfl) (by kernel_rfl) (fun _ _ _ h => h) (Or.inl ⟨by kernel_rfl, ?_⟩) hHeld ?_
                    rotate_left
                    · intro wh hSw
                      go_simp
                      try with_reducible rfl
                    try simp only [Act.put, List.getElem_toArray, List.getElem_cons_zero, List.getElem_cons_succ, List.setIfInBounds_toArray, List.set_cons_zero, List.set_cons_succ]
                    refine wpAnyH_take (i := 2) (v := ?_) rfl (by kernel_rfl) (by kernel_rfl) (by kernel_rfl) (fun _ _ _ h => h) (Or.inl ⟨by kernel_rfl, ?_⟩) hHeld ?_
                    rotate_left
                    · intro wh hSw
                      go_simp
                      try with_reducible rfl
                    try simp only [Act.put, List.getElem_toArray, List.getElem_cons_zero, List.getElem_cons_succ, List.setIfInBounds_toArray, List.set_cons_zero, List.set_cons_succ]
                    refine wpAnyH_take (i := 3) (v := ?_) rfl (by kernel_rfl) (by kernel_rfl) (by kernel_rfl) (fun _ _ _ h => h) (Or.inl ⟨by kernel_rfl, ?_⟩) hHeld ?_
                    rotate_left
                    · intro wh hSw
                      go_simp
                      try with_reducible rfl
                    try simp only [Act.put, List.getElem_toArray, List.getElem_cons_zero, List.getElem_cons_succ, List.setIfInBounds_toArray, List.set_cons_zero, List.set_cons_succ]
                    refine wpAnyH_take (i := 4) rfl (by kernel_rfl) (by kernel_rfl) (by kernel_rfl) (fun _ _ _ h => h) (yieldsIf_load_want (by kernel_rfl) 24 _ rfl _ rfl _ (fun wh hSw => hSw.1)) hHeld ?_
                    try simp only [Act.put, List.getElem_toArray, List.getElem_cons_zero, List.getElem_cons_succ, List.setIfInBounds_toArray, List.set_cons_zero, List.set_cons_succ]
                    refine wpAnyH_take (i := 5) (v := ?_) rfl (by kernel_rfl) (by kernel_rfl) (by kernel_rfl) (fun _ _ _ h => h) (Or.inl ⟨by kernel_rfl, ?_⟩) hHeld ?_
                    rotate_left
                    · intro wh hSw
                      go_simp
                      try with_reducible rfl
                    try simp only [Act.put, List.getElem_toArray, List.getElem_cons_zero, List.getElem_cons_succ, List.setIfInBounds_toArray, List.set_cons_zero, List.set_cons_succ]
                    refine wpAnyH_take (i := 6) (v := ?_) rfl (by kernel_rfl) (by kernel_rfl) (by kernel_rfl) (fun _ _ _ h => h) (Or.inl ⟨by kernel_rfl, ?_⟩) hHeld ?_
                    rotate_left
                    · intro wh hSw
                      go_simp
                      try with_reducible rfl
                    try simp only [Act.put, List.getElem_toArray, List.getElem_cons_zero, List.getElem_cons_succ, List.setIfInBounds_toArray, List.set_cons_zero, List.set_cons_succ]
                    refine wpAnyH_take (i := 7) (v := ?_) rfl (by kernel_rfl) (by kernel_rfl) (by kernel_rfl) (fun _ _ _ h => h) (Or.inl ⟨by kernel_rfl, ?_⟩) hHeld ?_
                    rotate_left
                    · intro wh hSw
                      go_simp
                      try with_reducible rfl
                    try simp only [Act.put, List.getElem_toArray, List.getElem_cons_zero, List.getElem_cons_succ, List.setIfInBounds_toArray, List.set_cons_zero, List.set_cons_succ]
                    refine wpAnyH_take (i := 8) (v := ?_) rfl (by kernel_rfl) (by kernel_rfl) (by kernel_rfl) (fun _ _ _ h => h) (Or.inl ⟨by kernel_rfl, ?_⟩) hHeld ?_
                    rotate_left
                    · intro wh hSw
                      go_simp
                      try with_reducible rfl
                    try simp only [Act.put, List.getElem_toArray, List.getElem_cons_zero, List.getElem_cons_succ, List.setIfInBounds_toArray, List.set_cons_zero, List.set_cons_succ]
                    refine wpAnyH_take (i := 9) rfl (by kernel_rfl) (by kernel_rfl) (by kernel_rfl) (fun _ _ _ h => h) (yieldsIf_load_want (by kernel_rfl) 24 _ rfl _ rfl _ (fun wh hSw => hSw.2)) hHeld ?_
                    try simp only [Act.put, List.getElem_toArray, List.getElem_cons_zero, List.getElem_cons_succ, List.setIfInBounds_toArray, List.set_cons_zero, List.set_cons_succ]
                    refine wpAnyH_take (i := 10) (v := ?_) rfl (by kernel_rfl) (by kernel_rfl) (by kernel_rfl) (fun _ _ _ h => h) (Or.inl ⟨by kernel_rfl, ?_⟩) hHeld ?_
                    rotate_left
                    · intro wh hSw
                      go_simp
                      try with_reducible rfl
                    try simp only [Act.put, List.getElem_toArray, List.getElem_cons_zero, List.getElem_cons_succ, List.setIfInBounds_toArray, List.set_cons_zero, List.set_cons_succ]
                    refine wpAnyH_done (by kernel_rfl) ?_ _
                    clear hHeld
                    go_wp2
                    go_roundw
                    case rel => exact ⟨q + 1, by omega, by go_num, T4.out⟩
                    case measure => simp [intOf]; omega
                  · have hqj' : q = j := by omega
                    have hqz2 : decide ((q : Int) < (j : Int)) = false := by simp; omega
                    clear hqj
                    go_wp2
                    go_roundw
                    case rel => exact ⟨j + 1, by omega, by go_num, T3.out⟩
                    case measure => simp [intOf]; omega
            · have hjn' : j = n5 := by omega
              subst hjn'
              go_wp2
              go_roundw
              case rel => exact ⟨k + 1, os4, by omega, by go_num, T1.out.ch.pop, O4.out⟩
              case measure => simp [intOf]; omega
        | false =>
          go_wp2_with (first
            | (with_reducible show wpList _ _ _ (⟨_, Op.load 39 _, _, _, _, _⟩ :: _) _ _; refine wpList_load_want (by kernel_rfl) 39 _ rfl _ rfl _ (by with_reducible exact la.out) ?_)
            | (with_reducible show wpList _ _ _ (⟨_, Op.store 39 (.tmp 5) _, _, _, _, _⟩ :: _) _ _
               refine wpList_store_new rfl rfl 39 (.tmp 5) _ rfl _ _ (actV a) rfl Sx.symm rfl (size_act hA.out) (Eq.trans (b := 35) (by kernel_rfl) (by rw [List.size_toArray, hA.out.len])) (ones_act a) ?_
               generalize wr.alloc (.cells (actV a) 39) = W3 at C3 ⊢
               have c0 := act_kind hA.out C3.out.last
               have cm := act_mtu hA.out C3.out.last
               have l1 := hidd (act_a hA.out C3.out.last)
               have l2 := hidd (act_b hA.out C3.out.last)
               clear la C2)
            | (with_reducible show wpList _ _ _ (⟨_, Op.load 24 (.tmp 29), _, _, _, _⟩ :: _) _ _; refine wpList_load_want (by kernel_rfl) 24 _ rfl _ rfl _ (by with_reducible exact l1.out) ?_)
            | (with_reducible show wpList _ _ _ (⟨_, Op.load 24 (.tmp 31), _, _, _, _⟩ :: _) _ _; refine wpList_load_want (by kernel_rfl) 24 _ rfl _ rfl _ (by with_reducible exact l2.out) ?_)
            | (with_reducible show wpList _ _ _ (⟨_, Op.load 24 (.tmp 37), _, _, _, _⟩ :: _) _ _; refine wpList_load_want (by kernel_rfl) 24 _ rfl _ rfl _ (by with_reducible exact l1.out) ?_))
          refine (lower_any W3 C3.out k a.mtu a.a hA.out.addr (by omega) (by omega) hA.out.mtu.1 hA.out.mtu.2).mono ?_
          rintro r w4 hr
          obtain ⟨⟨z, rfl⟩, os4, c4, o4⟩ := okc_low O2.out hr
          clear hr hkd
          have C4 := hidd c4
          have O4 := hidd o4
          clear c4 o4 C3 O2 l1 l2 c0 cm
          go_wp2_with fail
          refine (list_any w4 C4.out).mono ?_
          rintro r w5 ⟨g, rfl, o5, c5, b5⟩
          have hmax := c5.nb.2.2
          have hnd := hidd c5.nb.2.1
          have hok := hidd (fun (o : En) (ho : o ∈ os4) => (c5.ent ho).2)
          have T0 : Hid (Bt w w5 B g os4 ([] ++ [(bx, 39, actV a)])) := ⟨c5, fun j o ho => own_range o5 isEnc (by simp) (fun e he => by
            obtain ⟨o, ho, rfl⟩ := List.mem_map.1 he
            exact hok.out o ho) (by rw [List.getElem?_map, ho]; rfl)⟩
          obtain ⟨n5, hn5⟩ : ∃ n5, os4.length = n5 := ⟨_, rfl⟩
          rw [hn5] at hmax ⊢
          have hgt : decide ((32 : Int) < (n5 : Int)) = false := by simp; omega
          clear c5 b5 o5 C4
          go_wp2_with fail
          go_loopw [7] (fun i wr => ∃ j : Nat, j ≤ n5 ∧ i = .int .i64 j ∧ Bt w wr B g os4 ([] ++ [(bx, 39, actV a)])) (fun i _ => n5 - (intOf i).toNat)
          case atStart => exact ⟨0, Nat.zero_le _, rfl, T0.out⟩
          case round =>
            obtain ⟨j, hj, rfl, hT⟩ := hrel
            have T1 := hidd hT
            clear hT T0
            by_cases hjn : j < n5
            · obtain ⟨o, ho⟩ : ∃ o, os4[j]? = some o := ⟨_, List.getElem?_eq_getElem (by omega)⟩
              obtain ⟨be, e⟩ := o
              have ho' := hidd ho
              have hE := hidd (hok.out _ (List.mem_of_getElem? ho))
              obtain ⟨hm, hbare⟩ := O4.out _ (List.mem_of_getElem? ho)
              have c32 := rowMtu hE.out (T1.out.row j _ ho)
              have l16 := hidd (rowNext hE.out (T1.out.row j _ ho))
              have heq := fun V => eql24 V hE.out.n zeroA_is
              have hgd := guard24
              have hjz : (j : Int) < (n5 : Int) := by omega
              have T2 := hidd T1.out
              simp only at hm hbare
              obtain ⟨m, hmm⟩ : ∃ m, e.2.2.1 = m := ⟨_, rfl⟩
              rw [hmm] at c32 hm
              clear T1 ho
              by_cases hm0 : m = 0
              · subst hm0
                have hz : (e.2.1 == zeroA) = false := by rw [bareE, hmm] at hbare; simpa using hbare
                rw [hz] at heq
                clear hm hbare hmm hz
                go_wp2_with (first
                  | (with_reducible show wpList _ _ _ (⟨_, Op.load 24 _, _, _, _, _⟩ :: _) _ _; refine wpList_load_want (by kernel_rfl) 24 _ rfl _ rfl _ (by with_reducible exact l16.out) ?_)
                  | (with_reducible show wpList _ _ _ (⟨_, Op.build 24 _, _, _, _, _⟩ :: _) _ _; refine wpList_build_wantG (by kernel_rfl) 24 #[] rfl (bytesV zeroA) (by kernel_rfl) ?_))
                go_loopw [8] (fun i wr => ∃ q : Nat, q ≤ j ∧ i = .int .i64 q ∧ Bt w wr B g os4 ([] ++ [(bx, 39, actV a)])) (fun i _ => j - (intOf i).toNat)
                case atStart => exact ⟨0, Nat.zero_le _, rfl, T2.out⟩
                case round =>
                  obtain ⟨q, hq, rfl, hT3⟩ := hrel
                  have T3 := hidd hT3
                  clear hT3 T2
                  by_cases hqj : q < j
                  · obtain ⟨o2, ho2⟩ : ∃ o, os4[q]? = some o := ⟨_, List.getElem?_eq_getElem (by omega)⟩
                    obtain ⟨bq, f⟩ := o2
                    have hF := hidd (hok.out _ (List.mem_of_getElem? ho2))
                    have hne : (f.1 == e.1) = false := by
                      obtain ⟨h1, h2⟩ := List.getElem?_eq_some_iff.1 ho2
                      obtain ⟨h3, h4⟩ := List.getElem?_eq_some_iff.1 ho'.out
                      have := List.pairwise_iff_getElem.1 hnd.out q j h1 h3 hqj
                      rw [h2, h4] at this
                      simpa using this
                    have T4 := hidd T3.out.draw
                    have S6 : Hid ((loadVar 24 ⟨g, q * 34, none⟩).run Try.prog wr.drew = .ok (.agg (bytesV f.1)) wr.drew ∧ (loadVar 24 ⟨g, j * 34, none⟩).run Try.prog wr.drew = .ok (.agg (bytesV e.1)) wr.drew) := ⟨rowDst hF.out (T4.out.row q _ ho2), rowDst hE.out (T4.out.row j _ ho'.out)⟩
                    have heq3 := fun V => eql24 V hF.out.a hE.out.a
                    rw [hne] at heq3
                    have hgd := guard24
                    have hqz : (q : Int) < (n5 : Int) := by omega
                    have hqz2 : decide ((q : Int) < (j : Int)) = true := by simp; omega
                    clear T3 hne ho2
                    go_wp2
                    refine wp_region_held_drew (S := (fun V => (loadVar 24 ⟨g, q * 34, none⟩).run Try.prog V = .ok (.agg (bytesV f.1)) V ∧ (loadVar 24 ⟨g, j * 34, none⟩).run Try.prog V = .ok (.agg (bytesV e.1)) V)) (by kernel_rfl) S6.out (fun hHeld => ?_)
                    generalize wr.drew = D at T4 S6 hHeld ⊢
                    refine wpAnyH_take (i := 0) (v := ?_) rfl (by kernel_rfl) (by kernel_rfl) (by kernel_rfl) (fun _ _ _ h => h) (Or.inl ⟨by kernel_rfl, ?_⟩) hHeld ?_
                    rotate_left
                    · intro wh hSw
                      go_simp
                      try with_reducible rfl
                    try simp only [Act.put, List.getElem_toArray, List.getElem_cons_zero, List.getElem_cons_succ, List.setIfInBounds_toArray, List.set_cons_zero, List.set_cons_succ]
                    refine wpAnyH_take (i := 1) (v := ?_) rfl (by kernel_rfl) (by kernel_rfl) (by kernel_rfl) (fun _ _ _ h => h) (Or.inl ⟨by kernel_rfl, ?_⟩) hHeld ?_
                    rotate_left
                    · intro wh hSw
                      go_simp
                      try with_reducible rfl
                    try simp only [Act.put, List.getElem_toArray, List.getElem_cons_zero, List.getElem_cons_succ, List.setIfInBounds_toArray, List.set_cons_zero, List.set_cons_succ]
                    refine wpAnyH_take (i := 2) (v := ?_) rfl (by kernel_rfl) (by kernel_rfl) (by kernel_rfl) (fun _ _ _ h => h) (Or.inl ⟨by kernel_rfl, ?_⟩) hHeld ?_
                    rotate_left
                    · intro wh hSw
                      go_simp
                      try with_reducible rfl
                    try simp only [Act.put, List.getElem_toArray, List.getElem_cons_zero, List.getElem_cons_succ, List.setIfInBounds_toArray, List.set_cons_zero, List.set_cons_succ]
                    refine wpAnyH_take (i := 3) (v := ?_) rfl (by kernel_rfl) (by kernel_rfl) (by kernel_rfl) (fun _ _ _ h => h) (Or.inl ⟨by kernel_rfl, ?_⟩) hHeld ?_
                    rotate_left
                    · intro wh hSw
                      go_simp
                      try with_reducible rfl
                    try simp only [Act.put, List.getElem_toArray, List.getElem_cons_zero, List.getElem_cons_succ, List.setIfInBounds_toArray, List.set_cons_zero, List.set_cons_succ]
                    refine wpAnyH_take (i := 4) rfl (by kernel_rfl) (by kernel_rfl) (by kernel_rfl) (fun _ _ _ h => h) (yieldsIf_load_want (by kernel_rfl) 24 _ rfl _ rfl _ (fun wh hSw => hSw.1)) hHeld ?_
                    try simp only [Act.put, List.getElem_toArray, List.getElem_cons_zero, List.getElem_cons_succ, List.setIfInBounds_toArray, List.set_cons_zero, List.set_cons_succ]
                    refine wpAnyH_take (i := 5) (v := ?_) rfl (by kernel_rfl) (by kernel_rfl) (by kernel_rfl) (fun _ _ _ h => h) (Or.inl ⟨by kernel_rfl, ?_⟩) hHeld ?_
                    rotate_left
                    · intro wh hSw
                      go_simp
                      try with_reducible rfl
                    try simp only [Act.put, List.getElem_toArray, List.getElem_cons_zero, List.getElem_cons_succ, List.setIfInBounds_toArray, List.set_cons_zero, List.set_cons_succ]
                    refine wpAnyH_take (i := 6) (v := ?_) rfl (by kernel_rfl) (by kernel_rfl) (by kernel_rfl) (fun _ _ _ h => h) (Or.inl ⟨by kernel_rfl, ?_⟩) hHeld ?_
                    rotate_left
                    · intro wh hSw
                      go_simp
                      try with_reducible rfl
                    try simp only [Act.put, List.getElem_toArray, List.getElem_cons_zero, List.getElem_cons_succ, List.setIfInBounds_toArray, List.set_cons_zero, List.set_cons_succ]
                    refine wpAnyH_take (i := 7) (v := ?_) rfl (by kernel_rfl) (by kernel_rfl) (by kernel_rfl) (fun _ _ _ h => h) (Or.inl ⟨by kernel_rfl, ?_⟩) hHeld ?_
                    rotate_left
                    · intro wh hSw
                      go_simp
                      try with_reducible rfl
                    try simp only [Act.put, List.getElem_toArray, List.getElem_cons_zero, List.getElem_cons_succ, List.setIfInBounds_toArray, List.set_cons_zero, List.set_cons_succ]
                    refine wpAnyH_take (i := 8) (v := ?_) rfl (by kernel_rfl) (by kernel_rfl) (by kernel_rfl) (fun _ _ _ h => h) (Or.inl ⟨by kernel_rfl, ?_⟩) hHeld ?_
                    rotate_left
                    · intro wh hSw
                      go_simp
                      try with_reducible rfl
                    try simp only [Act.put, List.getElem_toArray, List.getElem_cons_zero, List.getElem_cons_succ, List.setIfInBounds_toArray, List.set_cons_zero, List.set_cons_succ]
                    refine wpAnyH_take (i := 9) rfl (by kernel_rfl) (by kernel_rfl) (by kernel_rfl) (fun _ _ _ h => h) (yieldsIf_load_want (by kernel_rfl) 24 _ rfl _ rfl _ (fun wh hSw => hSw.2)) hHeld ?_
                    try simp only [Act.put, List.getElem_toArray, List.getElem_cons_zero, List.getElem_cons_succ, List.setIfInBounds_toArray, List.set_cons_zero, List.set_cons_succ]
                    refine wpAnyH_take (i := 10) (v := ?_) rfl (by kernel_rfl) (by kernel_rfl) (by kernel_rfl) (fun _ _ _ h => h) (Or.inl ⟨by kernel_rfl, ?_⟩) hHeld ?_
                    rotate_left
                    · intro wh hSw
                      go_simp
                      try with_reducible rfl
                    try simp only [Act.put, List.getElem_toArray, List.getElem_cons_zero, List.getElem_cons_succ, List.setIfInBounds_toArray, List.set_cons_zero, List.set_cons_succ]
                    refine wpAnyH_done (by kernel_rfl) ?_ _
                    clear hHeld
                    go_wp2
                    go_roundw
                    case rel => exact ⟨q + 1, by omega, by go_num, T4.out⟩
                    case measure => simp [intOf]; omega
                  · have hqj' : q = j := by omega
                    have hqz2 : decide ((q : Int) < (j : Int)) = false := by simp; omega
                    clear hqj
                    go_wp2
                    go_roundw
                    case rel => exact ⟨j + 1, by omega, by go_num, T3.out⟩
                    case measure => simp [intOf]; omega
              · have h1 : (m == 0) = false := by simpa using hm0
                have h1' : decide (m = 0) = false := by simpa using hm0
                have h2 : decide (m < 1280) = false := by simp; omega
                have h3 : decide (1500 ≤ m) = false := by simp; omega
                have hm0' : ¬ m = 0 := hm0
                clear hm hbare hmm l16 heq
                go_wp2
                go_loopw [8] (fun i wr => ∃ q : Nat, q ≤ j ∧ i = .int .i64 q ∧ Bt w wr B g os4 ([] ++ [(bx, 39, actV a)])) (fun i _ => j - (intOf i).toNat)
                case atStart => exact ⟨0, Nat.zero_le _, rfl, T2.out⟩
                case round =>
                  obtain ⟨q, hq, rfl, hT3⟩ := hrel
                  have T3 := hidd hT3
                  clear hT3 T2
                  by_cases hqj : q < j
                  · obtain ⟨o2, ho2⟩ : ∃ o, os4[q]? = some o := ⟨_, List.getElem?_eq_getElem (by omega)⟩
                    obtain ⟨bq, f⟩ := o2
                    have hF := hidd (hok.out _ (List.mem_of_getElem? ho2))
                    have hne : (f.1 == e.1) = false := by
                      obtain ⟨h1, h2⟩ := List.getElem?_eq_some_iff.1 ho2
                      obtain ⟨h3, h4⟩ := List.getElem?_eq_some_iff.1 ho'.out
                      have := List.pairwise_iff_getElem.1 hnd.out q j h1 h3 hqj
                      rw [h2, h4] at this
                      simpa using this
                    have T4 := hidd T3.out.draw
                    have S6 : Hid ((loadVar 24 ⟨g, q * 34, none⟩).run Try.prog wr.drew = .ok (.agg (bytesV f.1)) wr.drew ∧ (loadVar 24 ⟨g, j * 34, none⟩).run Try.prog wr.drew = .ok (.agg (bytesV e.1)) wr.drew) := ⟨rowDst hF.out (T4.out.row q _ ho2), rowDst hE.out (T4.out.row j _ ho'.out)⟩
                    have heq3 := fun V => eql24 V hF.out.a hE.out.a
                    rw [hne] at heq3
                    have hgd := guard24
                    have hqz : (q : Int) < (n5 : Int) := by omega
                    have hqz2 : decide ((q : Int) < (j : Int)) = true := by simp; omega
                    clear T3 hne ho2
                    go_wp2
                    refine wp_region_held_drew (S := (fun V => (loadVar 24 ⟨g, q * 34, none⟩).run Try.prog V = .ok (.agg (bytesV f.1)) V ∧ (loadVar 24 ⟨g, j * 34, none⟩).run Try.prog V = .ok (.agg (bytesV e.1)) V)) (by kernel_rfl) S6.out (fun hHeld => ?_)
                    generalize wr.drew = D at T4 S6 hHeld ⊢
                    refine wpAnyH_take (i := 0) (v := ?_) rfl (by kernel_rfl) (by kernel_rfl) (by kernel_rfl) (fun _ _ _ h => h) (Or.inl ⟨by kernel_rfl, ?_⟩) hHeld ?_
                    rotate_left
                    · intro wh hSw
                      go_simp
                      try with_reducible rfl
                    try simp only [Act.put, List.getElem_toArray, List.getElem_cons_zero, List.getElem_cons_succ, List.setIfInBounds_toArray, List.set_cons_zero, List.set_cons_succ]
                    refine wpAnyH_take (i := 1) (v := ?_) rfl (by kernel_rfl) (by kernel_rfl) (by kernel_rfl) (fun _ _ _ h => h) (Or.inl ⟨by kernel_rfl, ?_⟩) hHeld ?_
                    rotate_left
                    · intro wh hSw
                      go_simp
                      try with_reducible rfl
                    try simp only [Act.put, List.getElem_toArray, List.getElem_cons_zero, List.getElem_cons_succ, List.setIfInBounds_toArray, List.set_cons_zero, List.set_cons_succ]
                    refine wpAnyH_take (i := 2) (v := ?_) rfl (by kernel_rfl) (by kernel_rfl) (by kernel_rfl) (fun _ _ _ h => h) (Or.inl ⟨by kernel_rfl, ?_⟩) hHeld ?_
                    rotate_left
                    · intro wh hSw
                      go_simp
                      try with_reducible rfl
                    try simp only [Act.put, List.getElem_toArray, List.getElem_cons_zero, List.getElem_cons_succ, List.setIfInBounds_toArray, List.set_cons_zero, List.set_cons_succ]
                    refine wpAnyH_take (i := 3) (v := ?_) rfl (by kernel_rfl) (by kernel_rfl) (by kernel_rfl) (fun _ _ _ h => h) (Or.inl ⟨by kernel_rfl, ?_⟩) hHeld ?_
                    rotate_left
                    · intro wh hSw
                      go_simp
                      try with_reducible rfl
                    try simp only [Act.put, List.getElem_toArray, List.getElem_cons_zero, List.getElem_cons_succ, List.setIfInBounds_toArray, List.set_cons_zero, List.set_cons_succ]
                    refine wpAnyH_take (i := 4) rfl (by kernel_rfl) (by kernel_rfl) (by kernel_rfl) (fun _ _ _ h => h) (yieldsIf_load_want (by kernel_rfl) 24 _ rfl _ rfl _ (fun wh hSw => hSw.1)) hHeld ?_
                    try simp only [Act.put, List.getElem_toArray, List.getElem_cons_zero, List.getElem_cons_succ, List.setIfInBounds_toArray, List.set_cons_zero, List.set_cons_succ]
                    refine wpAnyH_take (i := 5) (v := ?_) rfl (by kernel_rfl) (by kernel_rfl) (by kernel_rfl) (fun _ _ _ h => h) (Or.inl ⟨by kernel_rfl, ?_⟩) hHeld ?_
                    rotate_left
                    · intro wh hSw
                      go_simp
                      try with_reducible rfl
                    try simp only [Act.put, List.getElem_toArray, List.getElem_cons_zero, List.getElem_cons_succ, List.setIfInBounds_toArray, List.set_cons_zero, List.set_cons_succ]
                    refine wpAnyH_take (i := 6) (v := ?_) rfl (by kernel_rfl) (by kernel_rfl) (by kernel_rfl) (fun _ _ _ h => h) (Or.inl ⟨by kernel_rfl, ?_⟩) hHeld ?_
                    rotate_left
                    · intro wh hSw
                      go_simp
                      try with_reducible rfl
                    try simp only [Act.put, List.getElem_toArray, List.getElem_cons_zero, List.getElem_cons_succ, List.setIfInBounds_toArray, List.set_cons_zero, List.set_cons_succ]
                    refine wpAnyH_take (i := 7) (v := ?_) rfl (by kernel_rfl) (by kernel_rfl) (by kernel_rfl) (fun _ _ _ h => h) (Or.inl ⟨by kernel_rfl, ?_⟩) hHeld ?_
                    rotate_left
                    · intro wh hSw
                      go_simp
                      try with_reducible rfl
                    try simp only [Act.put, List.getElem_toArray, List.getElem_cons_zero, List.getElem_cons_succ, List.setIfInBounds_toArray, List.set_cons_zero, List.set_cons_succ]
                    refine wpAnyH_take (i := 8) (v := ?_) rfl (by kernel_rfl) (by kernel_rfl) (by kernel_rfl) (fun _ _ _ h => h) (Or.inl ⟨by kernel_rfl, ?_⟩) hHeld ?_
                    rotate_left
                    · intro wh hSw
                      go_simp
                      try with_reducible rfl
                    try simp only [Act.put, List.getElem_toArray, List.getElem_cons_zero, List.getElem_cons_succ, List.setIfInBounds_toArray, List.set_cons_zero, List.set_cons_succ]
                    refine wpAnyH_take (i := 9) rfl (by kernel_rfl) (by kernel_rfl) (by kernel_rfl) (fun _ _ _ h => h) (yieldsIf_load_want (by kernel_rfl) 24 _ rfl _ rfl _ (fun wh hSw => hSw.2)) hHeld ?_
                    try simp only [Act.put, List.getElem_toArray, List.getElem_cons_zero, List.getElem_cons_succ, List.setIfInBounds_toArray, List.set_cons_zero, List.set_cons_succ]
                    refine wpAnyH_take (i := 10) (v := ?_) rfl (by kernel_rfl) (by kernel_rfl) (by kernel_rfl) (fun _ _ _ h => h) (Or.inl ⟨by kernel_rfl, ?_⟩) hHeld ?_
                    rotate_left
                    · intro wh hSw
                      go_simp
                      try with_reducible rfl
                    try simp only [Act.put, List.getElem_toArray, List.getElem_cons_zero, List.getElem_cons_succ, List.setIfInBounds_toArray, List.set_cons_zero, List.set_cons_succ]
                    refine wpAnyH_done (by kernel_rfl) ?_ _
                    clear hHeld
                    go_wp2
                    go_roundw
                    case rel => exact ⟨q + 1, by omega, by go_num, T4.out⟩
                    case measure => simp [intOf]; omega
                  · have hqj' : q = j := by omega
                    have hqz2 : decide ((q : Int) < (j : Int)) = false := by simp; omega
                    clear hqj
                    go_wp2
                    go_roundw
                    case rel => exact ⟨j + 1, by omega, by go_num, T3.out⟩
                    case measure => simp [intOf]; omega
            · have hjn' : j = n5 := by omega
              subst hjn'
              go_wp2
              go_roundw
              case rel => exact ⟨k + 1, os4, by omega, by go_num, T1.out.ch.pop, O4.out⟩
              case measure => simp [intOf]; omega
      · have hkn' : k = n0 := by omega
        subst hkn'
        go_wp2_with (go_at_call 8; refine (lives_any _).mono ?_; rintro e w' ⟨rfl, hbel⟩)
        go_ret
        exact ⟨rfl, C2.out.bel.trans (hbel.mono C2.out.bel.size)⟩

set_option maxRecDepth 100000 in
theorem liftedDestsBound (os : Os) (started : os.Started) (H : Type) (enc : TypeId × Value → H) :
    ReturnsInHanded {} Try.checked os 4 .any (Rows.destsBoundSpec.pre6 enc Try.prog Try.f4 Rows.destsBoundRow.domain false) (Rows.destsBoundSpec.post enc Try.prog Try.f4 false true false false) := by
  refine returnsInHanded_of_change_sized (C := Try.checked) own started (by kernel_rfl) Try.func4
    (ChangeSpec.witness6 (enc := enc) (C := Try.checked) false ⟨#[], #[.slice none 0 0], []⟩ 8 (by kernel_rfl) (by kernel_rfl) (by kernel_rfl) (by kernel_rfl)) ?_
  intro W base args ds gs before hval0 hW hcnd hsz0 _
  have hval : ∀ (j : Nat) t v, Try.f4.params[j]? = some t → args[j]? = some v → Value.okWide Try.prog W .any base t v := hval0
  have hW' := hW
  obtain ⟨p, q, hA0, hV, rfl, hfz, hnd⟩ := hW
  have hA : DataW.TrodAll enc Try.prog W 0 (fun _ => true) true Try.f4.params.toList args.toList ds p := hA0
  have hsz : (DataW.weightsEach Try.prog (Try.f4.params.toList ++ Rows.destsBoundSpec.plain.varTypes Try.prog) (ds ++ gs)).all (· ≤ reachBytes) = true := hsz0
  rw [Try.params4] at hA hval hsz
  obtain ⟨v0, vs0, d0, ds0, p0, q0, hargs, rfl, rfl, h0, r0⟩ := trodAll_cons hA
  obtain ⟨rfl, rfl, rfl⟩ := trodAll_nil r0
  obtain rfl : args = #[v0] := by cases args; simp_all
  obtain ⟨rfl, rfl⟩ := trodVars_none hV
  have k0 := h0
  have lt0 : ∀ x ∈ p0, x.block < W.heap.size := by obtain ⟨m, hm⟩ := k0; exact DataW.trod_lt m _ _ _ hm
  have fit0 : Fit Try.prog 37 d0 := fun m hm => by simpa using List.all_eq_true.1 hsz _ (DataW.weights_mem_each (j := 0) (t := 37) rfl rfl m hm)
  obtain ⟨A0, n0, c0, z0, ev0, w0⟩ := open_acts (hval 0 37 v0 rfl rfl) h0 fit0
  subst ev0
  clear hA0 hval0
  refine (walkDestsBound A0 n0 c0 z0 W w0).mono fun e W' ⟨he, bel⟩ => ?_
  subst he
  exact ⟨_, rfl, _, _, _, [], _, [], hW', trodAll_mk1 (shut_bool Try.underlying4 _), (trodAll_cons_mk (Below.trod laidOut (by kernel_rfl) (of_decide_eq_true (by kernel_rfl)) k0 bel lt0) trodAll_mk0), rfl, bel.frame _, fun h => by cases h⟩

/-- THE STATEMENT: 'DestsBound'. -/
theorem destsBound_holds : Rows.DestsBoundSaid :=
  OpenClaim.holds_of_wide 4 Try.f4 rfl rfl rfl rfl rfl rfl rfl ⟨rfl, rfl, rfl, rfl, rfl⟩ rfl rfl rfl rfl rfl (by kernel_rfl) Try.func4 (by kernel_rfl)
    (of_decide_eq_true (by kernel_rfl)) (by unfold Func.isWrapper; first | (rw [if_pos (by decide +kernel)]; kernel_rfl) | (rw [if_neg (by decide +kernel)]; exact ⟨rfl, rfl⟩))
    (fun os started H enc _ => liftedDestsBound os started H enc)

end Go.Proofs.Ytpjjcihhmhccfaa
