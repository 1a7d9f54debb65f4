/- 'DestsFalls': for every input the law returns true; nothing that was there is written. No condition. -/
import Derived.Test.YtpjjcihhmhccfaaSeen
import Derived.Deep.RegionHeld3
namespace Go.Proofs.Ytpjjcihhmhccfaa
open Go.ChangeShapes Go.WideShapes Go.ChangeAt Go.RowKit Go.Deep
set_option linter.unusedVariables false
set_option linter.unusedSimpArgs false

/-- What a cache has of which one address was told falling mtus. -/
def Fs (x : List Int) (l t : Int) (os : List En) : Prop := (l = 1500 ∧ os = []) ∨ (1280 ≤ l ∧ l < 1500 ∧ ∃ b, os = [(b, (x, zeroA, l, t + 600000))])
section
variable {w0 w' : World} {B : Nat} {os : List En} {L : List Bx} {x : List Int} {l t k mtu : Int} {r : Ending}
theorem fo_one (b : Nat) (n : List Int) (m u : Int) : fo x [(b, (x, n, m, u))] = some (b, (x, n, m, u)) := by simp [fo]
theorem fs_yes {M : Int} (h : Fs x l t os) (hk : 0 ≤ k ∧ k ≤ 1000) (hM : lowM mtu = M) (h0 : 1280 ≤ M) (hm : M < l) (hl : LowSays w0 B k mtu x os L r w') : r = .returned (.bool true) ∧ ∃ os', Ch w0 w' B os' L ∧ Fs x M k os' := by
  have hc : cadd k 600000 = k + 600000 := by rw [cadd, if_pos (by omega)]
  rw [LowSays, hM] at hl
  rcases h with ⟨rfl, rfl⟩ | ⟨h1, h2, b, rfl⟩
  · rcases hl with ⟨hn, _⟩ | ⟨_, rfl, b, e, rest, hmk, hC⟩
    · rw [lowNo, decide_eq_false (show ¬ 1500 ≤ M by omega)] at hn; cases hn
    · refine ⟨rfl, _, hC, .inr ⟨by omega, by omega, b, ?_⟩⟩
      rcases hmk with ⟨h, _⟩ | ⟨_, rfl, rfl⟩
      · cases h
      · simp only [lowE, hc, newE]; rfl
  · rcases hl with ⟨hn, _⟩ | ⟨_, rfl, b', e, rest, hmk, hC⟩
    · rw [lowNo, decide_eq_false (show ¬ 1500 ≤ M by omega), fo_one] at hn
      simp only [decide_eq_false (show ¬ l ≤ M by omega), Bool.and_false, Bool.or_false, Bool.false_eq_true] at hn
    · refine ⟨rfl, _, hC, .inr ⟨by omega, by omega, b, ?_⟩⟩
      rcases hmk with ⟨h, rfl⟩ | ⟨h, _⟩
      · rw [fo_one] at h
        injection h with h
        injection h with h5 h6
        subst h5 h6
        simp [lowE, hc, outO]
      · rw [fo_one] at h; cases h
theorem fs_no {M : Int} (h : Fs x l t os) (hM : lowM mtu = M) (hm : ¬ M < l) (hl : LowSays w0 B k mtu x os L r w') : r = .returned (.bool false) ∧ Ch w0 w' B os L := by
  rw [LowSays, hM] at hl
  rcases hl with ⟨_, rfl, hC⟩ | ⟨hn, _⟩
  · exact ⟨rfl, hC⟩
  · rcases h with ⟨rfl, rfl⟩ | ⟨h1, h2, b, rfl⟩
    · rw [lowNo, decide_eq_true (show 1500 ≤ M by omega)] at hn; cases hn
    · rw [lowNo, fo_one] at hn
      simp only [decide_eq_true (show l ≤ M by omega), decide_eq_true (show 0 < l by omega), Bool.and_self, Bool.or_true, Bool.true_eq_false] at hn
theorem fs_tick (h : Fs x l t os) (hk : k < t + 600000) : visO (dueE k) overE os = os := by
  rcases h with ⟨rfl, rfl⟩ | ⟨h1, h2, b, rfl⟩
  · rfl
  · have : dueE k (x, zeroA, l, t + 600000) = false := by
      have h3 : decide (t + 600000 ≤ k) = false := by simp only [decide_eq_false_iff_not]; omega
      simp only [dueE, h3, Bool.and_false]
    simp [visO, this]
theorem fs_over (h : Fs x l t os) : visO (dueE (t + 600000)) overE os = [] := by
  rcases h with ⟨rfl, rfl⟩ | ⟨h1, h2, b, rfl⟩
  · rfl
  · have h0 : dueE (t + 600000) (x, zeroA, l, t + 600000) = true := by
      have h3 : decide (0 < l) = true := by simp only [decide_eq_true_eq]; omega
      simp only [dueE, h3, Int.le_refl, decide_true, Bool.and_self]
    have h1 : bareE (overE (x, zeroA, l, t + 600000)) = true := by simp [bareE, overE]
    simp [visO, h0, h1]
theorem fs_tch (h : Fs x l t os) : tch x os = os := by
  rcases h with ⟨rfl, rfl⟩ | ⟨h1, h2, b, rfl⟩
  · rfl
  · rw [tch, fo_one]; simp [outO]
theorem fs_of (h : Fs x l t os) (hx : IsAddr x) (ht : 0 ≤ t ∧ t ≤ 1000) : ∃ e, ofE x os = e ∧ IsE e ∧ ((l = 1500 ∧ e.2.2.1 = 0) ∨ (1280 ≤ l ∧ l < 1500 ∧ e.2.2.1 = l ∧ e.2.2.2 = t + 600000)) := by
  rcases h with ⟨rfl, rfl⟩ | ⟨h1, h2, b, rfl⟩
  · exact ⟨_, rfl, newE_is hx, .inl ⟨rfl, rfl⟩⟩
  · refine ⟨(x, zeroA, l, t + 600000), by rw [ofE, fo_one], ⟨hx, zeroA_is, ?_, ?_⟩, .inr ⟨h1, h2, rfl, rfl⟩⟩ <;> constructor <;> simp only <;> omega
end

set_option maxRecDepth 100000 in
set_option maxHeartbeats 8000000 in
theorem walkDestsFalls (a0 : Option Addr) (n0 c0 : Nat) (z0 : List Int) (x : List Int) (w : World) (r0 : Rd w w.heap.size 1 a0 n0 c0 (z0.map (Value.int .u32))) (y0 : c0 * Try.prog.bytesOf 28 ≤ reachBytes) (w0 : ∀ y ∈ z0, (Lit.int .u32 y).wf = true) (hx0 : IsAddr x) :
    Calls Try.prog 3 #[.slice a0 n0 c0, .agg (bytesV x)] w fun e w' => e = .returned (.bool true) ∧ Below w.heap.size w w' := by
  have hcm := r0.cmax
  have hcn := r0.cap
  have hx := hidd hx0
  have r0' := hidd r0
  have hz0 := hidd w0
  have hzl : z0.length = n0 := by have := r0.len; simpa using this
  unfold maxLen at hcm
  obtain ⟨bx, Sx⟩ : ∃ bx, w.heap.size = bx := ⟨_, rfl⟩
  have hbx : Hid (Blk (w.alloc (.cells (bytesV x) 24)) bx 24 (bytesV x)) := by rw [← Sx]; exact Blk.new w 24 _
  have hb0 : Hid (Below w.heap.size w (w.alloc (.cells (bytesV x) 24))) := (Below.refl _ w).alloc (Nat.le_refl _) _
  clear y0 w0 r0 hx0
  by_cases hbig : 100 < n0
  · go_enter Try.func3, Try.ntmps3
    go_wp2_with fail
    generalize w.alloc (.cells (bytesV x) 24) = w1 at hbx hb0 ⊢
    refine (lives_any w1).mono ?_
    rintro e w' ⟨rfl, hbel⟩
    go_wp2
    go_ret
    exact ⟨rfl, hb0.out.trans (hbel.mono hb0.out.size)⟩
  · have hsm : decide ((100 : Int) < (n0 : Int)) = false := by simp; omega
    go_enter Try.func3, Try.ntmps3
    go_wp2_with fail
    generalize w.alloc (.cells (bytesV x) 24) = w1 at hbx hb0 ⊢
    have hS := hidd (fun (V : World) (hV : Below w1.heap.size w1 V) => (show Blk V bx 24 (bytesV x) from hbx.out.below hV hbx.out.lt))
    refine (new_any w1).mono ?_
    rintro e V1 ⟨B, rfl, c1, _⟩
    have C1 := hidd c1
    clear c1
    go_wp2_with fail
    go_loopw [6, 7, 8] (fun l t i wr => ∃ (k : Nat) (lv tv : Int) (os : List En), k ≤ n0 ∧ i = .int .i64 k ∧ l = .int .u32 lv ∧ t = .int .u64 tv ∧ 0 ≤ tv ∧ tv ≤ k ∧ Ch w1 wr B os [] ∧ Fs x lv tv os) (fun _ _ i _ => n0 - (intOf i).toNat)
    case atStart => exact ⟨0, 1500, 0, [], Nat.zero_le _, rfl, rfl, rfl, Int.le_refl _, Int.le_refl _, C1.out, .inl ⟨rfl, rfl⟩⟩
    case round =>
      obtain ⟨k, lv, tv, os, hk, rfl, rfl, rfl, ht0, htk, hC, hF⟩ := hrel
      have C2 := hidd hC
      have F2 := hidd hF
      clear hC hF C1
      have hlv : 1280 ≤ lv ∧ lv ≤ 1500 := by rcases F2.out with ⟨h, _⟩ | ⟨h1, h2, _⟩ <;> omega
      by_cases hkn : k < n0
      · obtain ⟨b, off, rfl, hb, hc⟩ := r0'.out.ints (by omega)
        have hce := hc k hkn
        obtain ⟨m, hm⟩ : ∃ m, z0[k]?.getD 0 = m := ⟨_, rfl⟩
        rw [hm] at hce
        have hmw : 0 ≤ m ∧ m ≤ 4294967295 := u32b (hz0.out m (by rw [← hm, List.getElem?_eq_getElem (by omega)]; exact List.getElem_mem _))
        have hcell := hidd (fun (V : World) (hV : Below w1.heap.size w1 V) => (show V.cell? ⟨b, off + k, none⟩ = some (.int .u32 m) from (hV.cell (p := ⟨b, off + k, none⟩) (Nat.lt_of_lt_of_le hb hb0.out.size)).trans ((hb0.out.cell (p := ⟨b, off + k, none⟩) hb).trans hce)))
        have ck := hcell.out _ C2.out.bel
        have hks : IntKind.u64.wrap (k : Int) = (k : Int) := IntWalk.u64_in _ (by omega)
        have hkz : (k : Int) < (n0 : Int) := by omega
        have C3 := hidd (C2.out.call (Below.refl _ wr).drew)
        have S2 : Hid (Blk wr.drew bx 24 (bytesV x) ∧ wr.drew.cell? ⟨b, off + k, none⟩ = some (.int .u32 m)) := ⟨hS.out _ C3.out.bel, hcell.out _ C3.out.bel⟩
        clear hc hce hm
        obtain ⟨M, hM⟩ : ∃ M, max m 1280 = M := ⟨_, rfl⟩
        have hM0 : 1280 ≤ M := by omega
        have hM' : lowM m = M := hM
        by_cases hml : M < lv
        · have hd : decide (M < lv) = true := by simpa using hml
          go_wp2_with fail
          refine wp_region_held_drew (S := (fun V => Blk V bx 24 (bytesV x) ∧ V.cell? ⟨b, off + k, none⟩ = some (.int .u32 m))) (by kernel_rfl) S2.out (fun hHeld => ?_)
          generalize wr.drew = D3 at C3 S2 hHeld ⊢
          refine wpAnyH_take (i := 0) (v := ?_) rfl (by kernel_rfl) (by kernel_rfl) (by kernel_rfl) (fun _ _ _ h => h) (Or.inl ⟨by kernel_rfl, ?_⟩) hHeld ?_
          rotate_left
          · intro wh hSw
            go_simp
            try with_reducible rfl
          try simp only [Act.put, List.getElem_toArray, List.getElem_cons_zero, List.getElem_cons_succ, List.setIfInBounds_toArray, List.set_cons_zero, List.set_cons_succ]
          refine wpAnyH_take (i := 1) (v := ?_) rfl (by kernel_rfl) (by kernel_rfl) (by kernel_rfl) (fun _ _ _ h => h) (Or.inl ⟨by kernel_rfl, ?_⟩) hHeld ?_
          rotate_left
          · intro wh hSw
            go_simp
            try with_reducible rfl
          try simp only [Act.put, List.getElem_toArray, List.getElem_cons_zero, List.getElem_cons_succ, List.setIfInBounds_toArray, List.set_cons_zero, List.set_cons_succ]
          refine wpAnyH_take (i := 3) rfl (by kernel_rfl) (by kernel_rfl) (by kernel_rfl) (fun _ _ _ h => h) (yieldsIf_load_want (by kernel_rfl) 24 _ rfl _ rfl _ (fun wh hSw => ld24 hSw.1 hx.out)) hHeld ?_
          try simp only [Act.put, List.getElem_toArray, List.getElem_cons_zero, List.getElem_cons_succ, List.setIfInBounds_toArray, List.set_cons_zero, List.set_cons_succ]
          refine wpAnyH_take (i := 4) (v := ?_) rfl (by kernel_rfl) (by kernel_rfl) (by kernel_rfl) (fun _ _ _ h => h) (Or.inl ⟨by kernel_rfl, ?_⟩) hHeld ?_
          rotate_left
          · intro wh hSw
            go_simp
            try with_reducible rfl
          try simp only [Act.put, List.getElem_toArray, List.getElem_cons_zero, List.getElem_cons_succ, List.setIfInBounds_toArray, List.set_cons_zero, List.set_cons_succ]
          refine wpAnyH_take (i := 5) (v := ?_) rfl (by kernel_rfl) (by kernel_rfl) (by kernel_rfl) (fun _ _ _ h => h) (Or.inl ⟨by kernel_rfl, ?_⟩) hHeld ?_
          rotate_left
          · intro wh hSw
            go_simp
            try with_reducible rfl
          try simp only [Act.put, List.getElem_toArray, List.getElem_cons_zero, List.getElem_cons_succ, List.setIfInBounds_toArray, List.set_cons_zero, List.set_cons_succ]
          refine wpAnyH_take (i := 6) (v := ?_) rfl (by kernel_rfl) (by kernel_rfl) (by kernel_rfl) (fun _ _ _ h => h) (Or.inl ⟨by kernel_rfl, ?_⟩) hHeld ?_
          rotate_left
          · intro wh hSw
            go_simp
            try with_reducible rfl
          try simp only [Act.put, List.getElem_toArray, List.getElem_cons_zero, List.getElem_cons_succ, List.setIfInBounds_toArray, List.set_cons_zero, List.set_cons_succ]
          refine wpAnyH_take (i := 7) (v := ?_) rfl (by kernel_rfl) (by kernel_rfl) (by kernel_rfl) (fun _ _ _ h => h) (Or.inl ⟨by kernel_rfl, ?_⟩) hHeld ?_
          rotate_left
          · intro wh hSw
            have hcell := hSw.2
            go_simp
            try with_reducible rfl
          try simp only [Act.put, List.getElem_toArray, List.getElem_cons_zero, List.getElem_cons_succ, List.setIfInBounds_toArray, List.set_cons_zero, List.set_cons_succ]
          refine wpAnyH_ready (rs := [2]) (by kernel_rfl) (by simp) (AllReadyH.cons rfl (fun K hK => ?_) AllReadyH.nil)
          clear hHeld
          go_simp
          refine hK.out _ _ S2.out (fun hHeld => ?_)
          clear hK K
          try simp only [Act.put, List.getElem_toArray, List.getElem_cons_zero, List.getElem_cons_succ, List.setIfInBounds_toArray, List.set_cons_zero, List.set_cons_succ]
          refine wpAnyH_ready (rs := [8]) (by kernel_rfl) (by simp) (AllReadyH.cons rfl (fun K hK => ?_) AllReadyH.nil)
          clear hHeld
          go_simp
          refine (lower_any D3 C3.out k m x hx.out (by omega) (by omega) hmw.1 hmw.2).mono ?_
          rintro r D4 hl
          obtain ⟨rfl, os4, c4, f4⟩ := fs_yes F2.out (by omega) hM' hM0 hml hl
          dsimp only
          have C4 := hidd c4
          have F4 := hidd f4
          have S4 : Hid (Blk D4 bx 24 (bytesV x) ∧ D4.cell? ⟨b, off + k, none⟩ = some (.int .u32 m)) := ⟨hS.out _ c4.bel, hcell.out _ c4.bel⟩
          clear c4 f4 hl
          refine hK.out _ _ S4.out (fun hHeld => ?_)
          clear hK K
          try simp only [Act.put, List.getElem_toArray, List.getElem_cons_zero, List.getElem_cons_succ, List.setIfInBounds_toArray, List.set_cons_zero, List.set_cons_succ]
          refine wpAnyH_ready (rs := [9]) (by kernel_rfl) (by simp) (AllReadyH.cons rfl (fun K hK => ?_) AllReadyH.nil)
          clear hHeld
          go_simp
          refine hK.out _ _ S4.out (fun hHeld => ?_)
          clear hK K
          try simp only [Act.put, List.getElem_toArray, List.getElem_cons_zero, List.getElem_cons_succ, List.setIfInBounds_toArray, List.set_cons_zero, List.set_cons_succ]
          refine wpAnyH_done (by kernel_rfl) ?_ _
          clear hHeld
          have ht4 : (0 : Int) ≤ (k : Int) ∧ (k : Int) ≤ 1000 := by omega
          go_wp2_with fail
          refine (tick_any D4 C4.out k (by omega) (by omega)).mono ?_
          rintro r w5 ⟨⟨z, rfl⟩, c5⟩
          rw [fs_tick F4.out (by omega)] at c5
          have C5 := hidd c5
          have l5 := hidd (ld24 (hS.out _ c5.bel) hx.out)
          clear c5 C4
          go_wp2_with (with_reducible show wpList _ _ _ (⟨_, Op.load 24 _, _, _, _, _⟩ :: _) _ _; refine wpList_load_want (by kernel_rfl) 24 _ rfl _ rfl _ (by with_reducible exact l5.out) ?_)
          refine (of_any w5 C5.out x hx.out).mono ?_
          rintro r w6 ⟨rfl, c6⟩
          rw [fs_tch F4.out] at c6
          obtain ⟨e, hoe, hE0, he⟩ := fs_of F4.out hx.out ht4
          rw [hoe]
          have hE := hidd hE0
          obtain ⟨d, Sd⟩ : ∃ d, w6.heap.size = d := ⟨_, rfl⟩
          have C7 := hidd (c6.new 33 (encV e) Sd)
          clear c6 C5 hE0 hoe
          rcases he with ⟨hl, he⟩ | ⟨h1, h2, he, hu⟩
          · omega
          · have hl1 : decide (M < 1500) = true := by simpa using h2
            have hl2 : (M == 1500) = false := by simp; omega
            have hl3 : decide (M = 1500) = false := by simp; omega
            have hw6 : IntKind.u64.wrap (k + 600000) = k + 600000 := IntWalk.u64_in _ (by omega)
            go_wp2_with (first
              | (with_reducible show wpList _ _ _ (⟨_, Op.store 33 (.tmp 11) _, _, _, _, _⟩ :: _) _ _
                 refine wpList_store_new rfl rfl 33 (.tmp 11) _ rfl _ _ (encV e) rfl Sd.symm rfl (size_enc hE.out) (Eq.trans (b := 34) (by kernel_rfl) (encV_size hE.out).symm) (ones_enc e) ?_
                 generalize w6.alloc (.cells (encV e) 33) = W7 at C7 ⊢
                 have c32 := C7.out.last.at_ (at_mtu hE.out)
                 have c33 := C7.out.last.at_ (at_until hE.out)
                 rw [he] at c32
                 rw [hu] at c33))
            go_roundw
            case rel => exact ⟨k + 1, M, k, os4, by omega, by go_num, rfl, rfl, by omega, by omega, C7.out.pop, F4.out⟩
            case measure => simp [intOf]; omega
        · have hd : decide (M < lv) = false := by simpa using hml
          go_wp2_with fail
          refine wp_region_held_drew (S := (fun V => Blk V bx 24 (bytesV x) ∧ V.cell? ⟨b, off + k, none⟩ = some (.int .u32 m))) (by kernel_rfl) S2.out (fun hHeld => ?_)
          generalize wr.drew = D3 at C3 S2 hHeld ⊢
          refine wpAnyH_take (i := 0) (v := ?_) rfl (by kernel_rfl) (by kernel_rfl) (by kernel_rfl) (fun _ _ _ h => h) (Or.inl ⟨by kernel_rfl, ?_⟩) hHeld ?_
          rotate_left
          · intro wh hSw
            go_simp
            try with_reducible rfl
          try simp only [Act.put, List.getElem_toArray, List.getElem_cons_zero, List.getElem_cons_succ, List.setIfInBounds_toArray, List.set_cons_zero, List.set_cons_succ]
          refine wpAnyH_take (i := 1) (v := ?_) rfl (by kernel_rfl) (by kernel_rfl) (by kernel_rfl) (fun _ _ _ h => h) (Or.inl ⟨by kernel_rfl, ?_⟩) hHeld ?_
          rotate_left
          · intro wh hSw
            go_simp
            try with_reducible rfl
          try simp only [Act.put, List.getElem_toArray, List.getElem_cons_zero, List.getElem_cons_succ, List.setIfInBounds_toArray, List.set_cons_zero, List.set_cons_succ]
          refine wpAnyH_take (i := 3) rfl (by kernel_rfl) (by kernel_rfl) (by kernel_rfl) (fun _ _ _ h => h) (yieldsIf_load_want (by kernel_rfl) 24 _ rfl _ rfl _ (fun wh hSw => ld24 hSw.1 hx.out)) hHeld ?_
          try simp only [Act.put, List.getElem_toArray, List.getElem_cons_zero, List.getElem_cons_succ, List.setIfInBounds_toArray, List.set_cons_zero, List.set_cons_succ]
          refine wpAnyH_take (i := 4) (v := ?_) rfl (by kernel_rfl) (by kernel_rfl) (by kernel_rfl) (fun _ _ _ h => h) (Or.inl ⟨by kernel_rfl, ?_⟩) hHeld ?_
          rotate_left
          · intro wh hSw
            go_simp
            try with_reducible rfl
          try simp only [Act.put, List.getElem_toArray, List.getElem_cons_zero, List.getElem_cons_succ, List.setIfInBounds_toArray, List.set_cons_zero, List.set_cons_succ]
          refine wpAnyH_take (i := 5) (v := ?_) rfl (by kernel_rfl) (by kernel_rfl) (by kernel_rfl) (fun _ _ _ h => h) (Or.inl ⟨by kernel_rfl, ?_⟩) hHeld ?_
          rotate_left
          · intro wh hSw
            go_simp
            try with_reducible rfl
          try simp only [Act.put, List.getElem_toArray, List.getElem_cons_zero, List.getElem_cons_succ, List.setIfInBounds_toArray, List.set_cons_zero, List.set_cons_succ]
          refine wpAnyH_take (i := 6) (v := ?_) rfl (by kernel_rfl) (by kernel_rfl) (by kernel_rfl) (fun _ _ _ h => h) (Or.inl ⟨by kernel_rfl, ?_⟩) hHeld ?_
          rotate_left
          · intro wh hSw
            go_simp
            try with_reducible rfl
          try simp only [Act.put, List.getElem_toArray, List.getElem_cons_zero, List.getElem_cons_succ, List.setIfInBounds_toArray, List.set_cons_zero, List.set_cons_succ]
          refine wpAnyH_take (i := 7) (v := ?_) rfl (by kernel_rfl) (by kernel_rfl) (by kernel_rfl) (fun _ _ _ h => h) (Or.inl ⟨by kernel_rfl, ?_⟩) hHeld ?_
          rotate_left
          · intro wh hSw
            have hcell := hSw.2
            go_simp
            try with_reducible rfl
          try simp only [Act.put, List.getElem_toArray, List.getElem_cons_zero, List.getElem_cons_succ, List.setIfInBounds_toArray, List.set_cons_zero, List.set_cons_succ]
          refine wpAnyH_ready (rs := [2]) (by kernel_rfl) (by simp) (AllReadyH.cons rfl (fun K hK => ?_) AllReadyH.nil)
          clear hHeld
          go_simp
          refine hK.out _ _ S2.out (fun hHeld => ?_)
          clear hK K
          try simp only [Act.put, List.getElem_toArray, List.getElem_cons_zero, List.getElem_cons_succ, List.setIfInBounds_toArray, List.set_cons_zero, List.set_cons_succ]
          refine wpAnyH_ready (rs := [8]) (by kernel_rfl) (by simp) (AllReadyH.cons rfl (fun K hK => ?_) AllReadyH.nil)
          clear hHeld
          go_simp
          refine (lower_any D3 C3.out k m x hx.out (by omega) (by omega) hmw.1 hmw.2).mono ?_
          rintro r D4 hl
          obtain ⟨rfl, c4⟩ := fs_no F2.out hM' (by omega) hl
          have f4 := F2.out
          dsimp only
          have C4 := hidd c4
          have F4 := hidd f4
          have S4 : Hid (Blk D4 bx 24 (bytesV x) ∧ D4.cell? ⟨b, off + k, none⟩ = some (.int .u32 m)) := ⟨hS.out _ c4.bel, hcell.out _ c4.bel⟩
          clear c4 f4 hl
          refine hK.out _ _ S4.out (fun hHeld => ?_)
          clear hK K
          try simp only [Act.put, List.getElem_toArray, List.getElem_cons_zero, List.getElem_cons_succ, List.setIfInBounds_toArray, List.set_cons_zero, List.set_cons_succ]
          refine wpAnyH_ready (rs := [9]) (by kernel_rfl) (by simp) (AllReadyH.cons rfl (fun K hK => ?_) AllReadyH.nil)
          clear hHeld
          go_simp
          refine hK.out _ _ S4.out (fun hHeld => ?_)
          clear hK K
          try simp only [Act.put, List.getElem_toArray, List.getElem_cons_zero, List.getElem_cons_succ, List.setIfInBounds_toArray, List.set_cons_zero, List.set_cons_succ]
          refine wpAnyH_done (by kernel_rfl) ?_ _
          clear hHeld
          have ht4 : (0 : Int) ≤ tv ∧ tv ≤ 1000 := by omega
          go_wp2_with fail
          refine (tick_any D4 C4.out k (by omega) (by omega)).mono ?_
          rintro r w5 ⟨⟨z, rfl⟩, c5⟩
          rw [fs_tick F4.out (by omega)] at c5
          have C5 := hidd c5
          have l5 := hidd (ld24 (hS.out _ c5.bel) hx.out)
          clear c5 C4
          go_wp2_with (with_reducible show wpList _ _ _ (⟨_, Op.load 24 _, _, _, _, _⟩ :: _) _ _; refine wpList_load_want (by kernel_rfl) 24 _ rfl _ rfl _ (by with_reducible exact l5.out) ?_)
          refine (of_any w5 C5.out x hx.out).mono ?_
          rintro r w6 ⟨rfl, c6⟩
          rw [fs_tch F4.out] at c6
          obtain ⟨e, hoe, hE0, he⟩ := fs_of F4.out hx.out ht4
          rw [hoe]
          have hE := hidd hE0
          obtain ⟨d, Sd⟩ : ∃ d, w6.heap.size = d := ⟨_, rfl⟩
          have C7 := hidd (c6.new 33 (encV e) Sd)
          clear c6 C5 hE0 hoe
          rcases he with ⟨hl, he⟩ | ⟨h1, h2, he, hu⟩
          · have hl1 : decide (lv < 1500) = false := by simp; omega
            have hl2 : (lv == 1500) = true := by simpa using hl
            have hl3 : decide (lv = 1500) = true := by simpa using hl
            clear hl
            go_wp2_with (first
              | (with_reducible show wpList _ _ _ (⟨_, Op.store 33 (.tmp 11) _, _, _, _, _⟩ :: _) _ _
                 refine wpList_store_new rfl rfl 33 (.tmp 11) _ rfl _ _ (encV e) rfl Sd.symm rfl (size_enc hE.out) (Eq.trans (b := 34) (by kernel_rfl) (encV_size hE.out).symm) (ones_enc e) ?_
                 generalize w6.alloc (.cells (encV e) 33) = W7 at C7 ⊢
                 have c32 := C7.out.last.at_ (at_mtu hE.out)
                 have c33 := C7.out.last.at_ (at_until hE.out)
                 rw [he] at c32))
            go_roundw
            case rel => exact ⟨k + 1, lv, tv, os, by omega, by go_num, rfl, rfl, by omega, by omega, C7.out.pop, F4.out⟩
            case measure => simp [intOf]; omega
          · have hl1 : decide (lv < 1500) = true := by simpa using h2
            have hl2 : (lv == 1500) = false := by simp; omega
            have hl3 : decide (lv = 1500) = false := by simp; omega
            have hw6 : IntKind.u64.wrap (tv + 600000) = tv + 600000 := IntWalk.u64_in _ (by omega)
            go_wp2_with (first
              | (with_reducible show wpList _ _ _ (⟨_, Op.store 33 (.tmp 11) _, _, _, _, _⟩ :: _) _ _
                 refine wpList_store_new rfl rfl 33 (.tmp 11) _ rfl _ _ (encV e) rfl Sd.symm rfl (size_enc hE.out) (Eq.trans (b := 34) (by kernel_rfl) (encV_size hE.out).symm) (ones_enc e) ?_
                 generalize w6.alloc (.cells (encV e) 33) = W7 at C7 ⊢
                 have c32 := C7.out.last.at_ (at_mtu hE.out)
                 have c33 := C7.out.last.at_ (at_until hE.out)
                 rw [he] at c32
                 rw [hu] at c33))
            go_roundw
            case rel => exact ⟨k + 1, lv, tv, os, by omega, by go_num, rfl, rfl, by omega, by omega, C7.out.pop, F4.out⟩
            case measure => simp [intOf]; omega
      · have hkn' : k = n0 := by omega
        subst hkn'
        have hw6 : IntKind.u64.wrap (tv + 600000) = tv + 600000 := IntWalk.u64_in _ (by omega)
        go_wp2_with fail
        refine (tick_any wr C2.out (tv + 600000) (by omega) (by omega)).mono ?_
        rintro r w3 ⟨⟨z, rfl⟩, c3⟩
        rw [fs_over F2.out] at c3
        have C4 := hidd (c3.call (Below.refl _ w3).drew)
        have S4 : Hid (Blk w3.drew bx 24 (bytesV x)) := hS.out _ C4.out.bel
        have heq := fun V => eq33 V (newE_is hx.out)
        have hgd := guard33
        clear c3 C2
        go_wp2_with fail
        refine wp_region_held_drew (S := (fun V => Blk V bx 24 (bytesV x))) (by kernel_rfl) S4.out (fun hHeld => ?_)
        generalize w3.drew = D4 at C4 S4 hHeld ⊢
        refine wpAnyH_take (i := 0) (v := ?_) rfl (by kernel_rfl) (by kernel_rfl) (by kernel_rfl) (fun _ _ _ h => h) (Or.inl ⟨by kernel_rfl, ?_⟩) hHeld ?_
        rotate_left
        · intro wh hSw
          go_simp
          try with_reducible rfl
        try simp only [Act.put, List.getElem_toArray, List.getElem_cons_zero, List.getElem_cons_succ, List.setIfInBounds_toArray, List.set_cons_zero, List.set_cons_succ]
        refine wpAnyH_take (i := 1) rfl (by kernel_rfl) (by kernel_rfl) (by kernel_rfl) (fun _ _ _ h => h) (yieldsIf_load_want (by kernel_rfl) 24 _ rfl _ rfl _ (fun wh hSw => ld24 hSw hx.out)) hHeld ?_
        try simp only [Act.put, List.getElem_toArray, List.getElem_cons_zero, List.getElem_cons_succ, List.setIfInBounds_toArray, List.set_cons_zero, List.set_cons_succ]
        refine wpAnyH_take (i := 3) rfl (by kernel_rfl) (by kernel_rfl) (by kernel_rfl) (fun _ _ _ h => h) (yieldsIf_load_want (by kernel_rfl) 24 _ rfl _ rfl _ (fun wh hSw => ld24 hSw hx.out)) hHeld ?_
        try simp only [Act.put, List.getElem_toArray, List.getElem_cons_zero, List.getElem_cons_succ, List.setIfInBounds_toArray, List.set_cons_zero, List.set_cons_succ]
        refine wpAnyH_take (i := 4) rfl (by kernel_rfl) (by kernel_rfl) (by kernel_rfl) (fun _ _ _ h => h) (yieldsIf_build_want (by kernel_rfl) 33 #[(0, .tmp 84)] rfl (encV (newE x)) (Eq.trans (b := Try.prog.built 33 [(0, .agg (bytesV x))]) (by kernel_rfl) (builtE hx.out))) hHeld ?_
        try simp only [Act.put, List.getElem_toArray, List.getElem_cons_zero, List.getElem_cons_succ, List.setIfInBounds_toArray, List.set_cons_zero, List.set_cons_succ]
        refine wpAnyH_ready (rs := [2]) (by kernel_rfl) (by simp) (AllReadyH.cons rfl (fun K hK => ?_) AllReadyH.nil)
        clear hHeld
        go_simp
        refine (of_any D4 C4.out x hx.out).mono ?_
        rintro r D5 ⟨rfl, c5⟩
        dsimp only
        rw [show ofE x [] = newE x from rfl]
        have C5 := hidd c5
        have S5 := hidd (hS.out _ c5.bel)
        clear c5
        refine hK.out _ _ S5.out (fun hHeld => ?_)
        clear hK K
        try simp only [Act.put, List.getElem_toArray, List.getElem_cons_zero, List.getElem_cons_succ, List.setIfInBounds_toArray, List.set_cons_zero, List.set_cons_succ]
        refine wpAnyH_take (i := 5) (v := ?_) rfl (by kernel_rfl) (by kernel_rfl) (by kernel_rfl) (fun _ _ _ h => h) (Or.inl ⟨by kernel_rfl, ?_⟩) hHeld ?_
        rotate_left
        · intro wh hSw
          go_simp
          try with_reducible rfl
        try simp only [Act.put, List.getElem_toArray, List.getElem_cons_zero, List.getElem_cons_succ, List.setIfInBounds_toArray, List.set_cons_zero, List.set_cons_succ]
        refine wpAnyH_take (i := 6) (v := ?_) rfl (by kernel_rfl) (by kernel_rfl) (by kernel_rfl) (fun _ _ _ h => h) (Or.inl ⟨by kernel_rfl, ?_⟩) hHeld ?_
        rotate_left
        · intro wh hSw
          go_simp
          try with_reducible rfl
        try simp only [Act.put, List.getElem_toArray, List.getElem_cons_zero, List.getElem_cons_succ, List.setIfInBounds_toArray, List.set_cons_zero, List.set_cons_succ]
        refine wpAnyH_take (i := 7) (v := ?_) rfl (by kernel_rfl) (by kernel_rfl) (by kernel_rfl) (fun _ _ _ h => h) (Or.inl ⟨by kernel_rfl, ?_⟩) hHeld ?_
        rotate_left
        · intro wh hSw
          go_simp
          try with_reducible rfl
        try simp only [Act.put, List.getElem_toArray, List.getElem_cons_zero, List.getElem_cons_succ, List.setIfInBounds_toArray, List.set_cons_zero, List.set_cons_succ]
        refine wpAnyH_ready (rs := [8]) (by kernel_rfl) (by simp) (AllReadyH.cons rfl (fun K hK => ?_) AllReadyH.nil)
        clear hHeld
        go_simp
        refine (next_any D5 C5.out).mono ?_
        rintro r D6 ⟨rfl, c6, b6⟩
        dsimp only
        rw [show nextT (List.map (fun x : En => x.2) (tch x [])) = 9223372036854775807 from rfl]
        have C6 := hidd c6
        have S6 := hidd (hS.out _ c6.bel)
        clear c6
        refine hK.out _ _ S6.out (fun hHeld => ?_)
        clear hK K
        try simp only [Act.put, List.getElem_toArray, List.getElem_cons_zero, List.getElem_cons_succ, List.setIfInBounds_toArray, List.set_cons_zero, List.set_cons_succ]
        refine wpAnyH_take (i := 9) (v := ?_) rfl (by kernel_rfl) (by kernel_rfl) (by kernel_rfl) (fun _ _ _ h => h) (Or.inl ⟨by kernel_rfl, ?_⟩) hHeld ?_
        rotate_left
        · intro wh hSw
          go_simp
          try with_reducible rfl
        try simp only [Act.put, List.getElem_toArray, List.getElem_cons_zero, List.getElem_cons_succ, List.setIfInBounds_toArray, List.set_cons_zero, List.set_cons_succ]
        refine wpAnyH_take (i := 10) (v := ?_) rfl (by kernel_rfl) (by kernel_rfl) (by kernel_rfl) (fun _ _ _ h => h) (Or.inl ⟨by kernel_rfl, ?_⟩) hHeld ?_
        rotate_left
        · intro wh hSw
          go_simp
          try with_reducible rfl
        try simp only [Act.put, List.getElem_toArray, List.getElem_cons_zero, List.getElem_cons_succ, List.setIfInBounds_toArray, List.set_cons_zero, List.set_cons_succ]
        refine wpAnyH_take (i := 11) (v := ?_) rfl (by kernel_rfl) (by kernel_rfl) (by kernel_rfl) (fun _ _ _ h => h) (Or.inl ⟨by kernel_rfl, ?_⟩) hHeld ?_
        rotate_left
        · intro wh hSw
          go_simp
          try with_reducible rfl
        try simp only [Act.put, List.getElem_toArray, List.getElem_cons_zero, List.getElem_cons_succ, List.setIfInBounds_toArray, List.set_cons_zero, List.set_cons_succ]
        refine wpAnyH_ready (rs := [12]) (by kernel_rfl) (by simp) (AllReadyH.cons rfl (fun K hK => ?_) AllReadyH.nil)
        clear hHeld
        go_simp
        refine (lives_any D6).mono ?_
        rintro r D9 ⟨rfl, b9⟩
        dsimp only
        have C9 := hidd (C6.out.call b9)
        have S9 := hidd (hS.out _ C9.out.bel)
        refine hK.out _ _ S9.out (fun hHeld => ?_)
        clear hK K
        try simp only [Act.put, List.getElem_toArray, List.getElem_cons_zero, List.getElem_cons_succ, List.setIfInBounds_toArray, List.set_cons_zero, List.set_cons_succ]
        refine wpAnyH_take (i := 13) (v := ?_) rfl (by kernel_rfl) (by kernel_rfl) (by kernel_rfl) (fun _ _ _ h => h) (Or.inl ⟨by kernel_rfl, ?_⟩) hHeld ?_
        rotate_left
        · intro wh hSw
          go_simp
          try with_reducible rfl
        try simp only [Act.put, List.getElem_toArray, List.getElem_cons_zero, List.getElem_cons_succ, List.setIfInBounds_toArray, List.set_cons_zero, List.set_cons_succ]
        refine wpAnyH_ready (rs := [14]) (by kernel_rfl) (by simp) (AllReadyH.cons rfl (fun K hK => ?_) AllReadyH.nil)
        clear hHeld
        go_simp
        refine hK.out _ _ S9.out (fun hHeld => ?_)
        clear hK K
        try simp only [Act.put, List.getElem_toArray, List.getElem_cons_zero, List.getElem_cons_succ, List.setIfInBounds_toArray, List.set_cons_zero, List.set_cons_succ]
        refine wpAnyH_done (by kernel_rfl) ?_ _
        clear hHeld
        go_wp2
        go_ret
        exact ⟨rfl, hb0.out.trans ((C9.out.bel).mono hb0.out.size)⟩

set_option maxRecDepth 100000 in
theorem liftedDestsFalls (os : Os) (started : os.Started) (H : Type) (enc : TypeId × Value → H) :
    ReturnsInHanded {} Try.checked os 3 .any (Rows.destsFallsSpec.pre6 enc Try.prog Try.f3 Rows.destsFallsRow.domain false) (Rows.destsFallsSpec.post enc Try.prog Try.f3 false true false false) := by
  refine returnsInHanded_of_change_sized (C := Try.checked) own started (by kernel_rfl) Try.func3
    (ChangeSpec.witness6 (enc := enc) (C := Try.checked) false ⟨#[], #[.slice none 0 0, .agg #[.int .u8 0, .int .u8 0, .int .u8 0, .int .u8 0, .int .u8 0, .int .u8 0, .int .u8 0, .int .u8 0, .int .u8 0, .int .u8 0, .int .u8 0, .int .u8 0, .int .u8 0, .int .u8 0, .int .u8 0, .int .u8 0]], []⟩ 8 (by kernel_rfl) (by kernel_rfl) (by kernel_rfl) (by kernel_rfl)) ?_
  intro W base args ds gs before hval0 hW hcnd hsz0 _
  have hval : ∀ (j : Nat) t v, Try.f3.params[j]? = some t → args[j]? = some v → Value.okWide Try.prog W .any base t v := hval0
  have hW' := hW
  obtain ⟨p, q, hA0, hV, rfl, hfz, hnd⟩ := hW
  have hA : DataW.TrodAll enc Try.prog W 0 (fun _ => true) true Try.f3.params.toList args.toList ds p := hA0
  have hsz : (DataW.weightsEach Try.prog (Try.f3.params.toList ++ Rows.destsFallsSpec.plain.varTypes Try.prog) (ds ++ gs)).all (· ≤ reachBytes) = true := hsz0
  rw [Try.params3] at hA hval hsz
  obtain ⟨v0, vs0, d0, ds0, p0, q0, hargs, rfl, rfl, h0, r0⟩ := trodAll_cons hA
  obtain ⟨v1, vs1, d1, ds1, p1, q1, rfl, rfl, rfl, h1, r1⟩ := trodAll_cons r0
  obtain ⟨rfl, rfl, rfl⟩ := trodAll_nil r1
  obtain rfl : args = #[v0, v1] := by cases args; simp_all
  obtain ⟨rfl, rfl⟩ := trodVars_none hV
  have k0 := h0
  have lt0 : ∀ x ∈ p0, x.block < W.heap.size := by obtain ⟨m, hm⟩ := k0; exact DataW.trod_lt m _ _ _ hm
  have fit0 : Fit Try.prog 22 d0 := fun m hm => by simpa using List.all_eq_true.1 hsz _ (DataW.weights_mem_each (j := 0) (t := 22) rfl rfl m hm)
  obtain ⟨a0, n0, c0, rfl⟩ := okWide_slice Try.underlying22 (hval 0 22 v0 rfl rfl)
  obtain ⟨fuel0, hf0⟩ := h0
  obtain ⟨a0', n0', c0', z0, ev0, r0', y0, w0⟩ := ints_rd Try.underlying22 Try.underlying28 (by kernel_rfl) hf0 fit0
  simp only [Value.cells, List.cons.injEq, and_true, Value.slice.injEq] at ev0
  obtain ⟨rfl, rfl, rfl⟩ := ev0
  have k1 := h1
  have lt1 : ∀ x ∈ p1, x.block < W.heap.size := by obtain ⟨m, hm⟩ := k1; exact DataW.trod_lt m _ _ _ hm
  have fit1 : Fit Try.prog 24 d1 := fun m hm => by simpa using List.all_eq_true.1 hsz _ (DataW.weights_mem_each (j := 1) (t := 24) rfl rfl m hm)
  obtain ⟨l1, ev1, w1⟩ := open_addrF (hval 1 24 v1 rfl rfl) h1 fit1
  subst ev1
  clear hA0 hval0
  refine (walkDestsFalls a0 n0 c0 z0 l1 W r0' y0 w0 w1).mono fun e W' ⟨he, bel⟩ => ?_
  subst he
  exact ⟨_, rfl, _, _, _, [], _, [], hW', trodAll_mk1 (shut_bool Try.underlying4 _), (trodAll_cons_mk (Below.trod laidOut (by kernel_rfl) (of_decide_eq_true (by kernel_rfl)) k0 bel lt0) (trodAll_cons_mk (Below.trod laidOut (by kernel_rfl) (of_decide_eq_true (by kernel_rfl)) k1 bel lt1) trodAll_mk0)), rfl, bel.frame _, fun h => by cases h⟩

/-- THE STATEMENT: 'DestsFalls'. -/
theorem destsFalls_holds : Rows.DestsFallsSaid :=
  OpenClaim.holds_of_wide 3 Try.f3 rfl rfl rfl rfl rfl rfl rfl ⟨rfl, rfl, rfl, rfl, rfl⟩ rfl rfl rfl rfl rfl (by kernel_rfl) Try.func3 (by kernel_rfl)
    (of_decide_eq_true (by kernel_rfl)) (by unfold Func.isWrapper; first | (rw [if_pos (by decide +kernel)]; kernel_rfl) | (rw [if_neg (by decide +kernel)]; exact ⟨rfl, rfl⟩))
    (fun os started H enc _ => liftedDestsFalls os started H enc)

end Go.Proofs.Ytpjjcihhmhccfaa
