/- The reference: an entry turned; a lower mtu; each function walked once. No condition. -/
import Derived.Test.YtpjjcihhmhccfaaRefOf
namespace Go.Proofs.Ytpjjcihhmhccfaa
open Go.ChangeShapes Go.WideShapes Go.ChangeAt Go.RowKit Go.Deep
set_option linter.unusedVariables false
set_option linter.unusedSimpArgs false

theorem built33 {a n : List Int} (ha : IsAddr a) (hn : IsAddr n) (m u : Int) : Try.prog.built 33 [(0, .agg (bytesV a)), (1, .agg (bytesV n)), (2, .int .u32 m), (3, .int .u64 u)] = some (encV (a, n, m, u)) := by
  obtain ⟨_, _, _, _, _, _, _, _, _, _, _, _, _, _, _, _, rfl⟩ := addr_ex ha
  obtain ⟨_, _, _, _, _, _, _, _, _, _, _, _, _, _, _, _, rfl⟩ := addr_ex hn
  kernel_rfl
set_option maxRecDepth 100000 in
theorem entry_ref (w : World) (e : E) (he0 : IsE e) : Calls Try.prog 19 #[.agg (encV e)] w fun r w' => r = .returned (.agg (encV e)) ∧ Below w.heap.size w w' := by
  obtain ⟨q, hq⟩ : ∃ q, w.heap.size = q := ⟨_, rfl⟩
  have he := hidd he0
  have b1 : Hid (Below q w ((w.alloc (.cells (encV e) 51)).alloc (.cells (encV zeroE34) 33))) := by rw [← hq]; exact ((Below.refl _ w).alloc (Nat.le_refl _) _).alloc (by simp) _
  have k1 : Hid (Blk ((w.alloc (.cells (encV e) 51)).alloc (.cells (encV zeroE34) 33)) q 51 (encV e)) := by rw [← hq]; exact (Blk.new w 51 _).alloc _
  have k2 : Hid (Blk ((w.alloc (.cells (encV e) 51)).alloc (.cells (encV zeroE34) 33)) (q + 1) 33 (encV zeroE34)) := by
    have := Blk.new (w.alloc (.cells (encV e) 51)) 33 (encV zeroE34)
    rw [show (w.alloc (.cells (encV e) 51)).heap.size = q + 1 by simp [hq]] at this
    exact this
  have l1 := hidd (bDst he.out k1.out)
  have l2 := hidd (bNext he.out k1.out)
  have c32 := k1.out.at_ (at_mtu he.out)
  have c33 := k1.out.at_ (at_until he.out)
  rw [hq]
  clear he0
  go_enter Try.func19, Try.ntmps19
  go_wp2_with (first
    | (with_reducible show wpList _ _ _ (⟨_, Op.load 24 (.tmp 3), _, _, _, _⟩ :: _) _ _
       rw [show (#[.int .u8 0, .int .u8 0, .int .u8 0, .int .u8 0, .int .u8 0, .int .u8 0, .int .u8 0, .int .u8 0, .int .u8 0, .int .u8 0, .int .u8 0, .int .u8 0, .int .u8 0, .int .u8 0, .int .u8 0, .int .u8 0, .int .u8 0, .int .u8 0, .int .u8 0, .int .u8 0, .int .u8 0, .int .u8 0, .int .u8 0, .int .u8 0, .int .u8 0, .int .u8 0, .int .u8 0, .int .u8 0, .int .u8 0, .int .u8 0, .int .u8 0, .int .u8 0, .int .u32 0, .int .u64 0] : Array Value) = encV zeroE34 from rfl]
       generalize (w.alloc (.cells (encV e) 51)).alloc (.cells (encV zeroE34) 33) = W1 at k1 k2 b1 l1 l2 c32 c33 ⊢
       refine wpList_load_want (by kernel_rfl) 24 _ rfl _ rfl _ (by with_reducible exact l1.out) ?_)
    | (with_reducible show wpList _ _ _ (⟨_, Op.load 24 (.tmp 5), _, _, _, _⟩ :: _) _ _; refine wpList_load_want (by kernel_rfl) 24 _ rfl _ rfl _ (by with_reducible exact l2.out) ?_)
    | (with_reducible show wpList _ _ _ (⟨_, Op.build 33 _, _, _, _, _⟩ :: _) _ _; refine wpList_build_want rfl 33 #[(0, .tmp 4), (1, .tmp 6), (2, .tmp 8), (3, .tmp 10)] rfl (encV e) (Eq.trans (b := Try.prog.built 33 [(0, .agg (bytesV e.1)), (1, .agg (bytesV e.2.1)), (2, .int .u32 e.2.2.1), (3, .int .u64 e.2.2.2)]) (by kernel_rfl) (built33 he.out.a he.out.n _ _)) ?_)
    | (with_reducible show wpList _ _ _ (⟨_, Op.store 33 (.tmp 2) _, _, _, _, _⟩ :: _) _ _; refine wpList_store_blk rfl rfl 33 (.tmp 2) _ rfl (q + 1) 33 (encV zeroE34) (encV e) k2.out rfl rfl (size_enc he.out) (by rw [encV_size he.out, encV_size z34_is]) (ones_enc _) ?_))
  exact bodyPost_ret (res19 he.out rfl (k2.out.setRow _)) rfl ⟨rfl, below_setRow b1.out (by omega) _⟩
def lowR (m : Int) (e : E) : Bool := decide (1500 ≤ m) || (!(e.2.2.1 == 0) && decide (e.2.2.1 ≤ m))
def LowRSays (w : World) (M : Nat) (v : Value) (now mtu : Int) (x : List Int) (es : List E) (r : Ending) (w' : World) : Prop :=
  (lowR (lowM mtu) (oldE x es) = true ∧ r = .returned (.bool false) ∧ TurnSays w M v es w') ∨
  (lowR (lowM mtu) (oldE x es) = false ∧ r = .returned (.bool true) ∧ TurnSays w M v (frontE (lowE now (lowM mtu) (oldE x es)) es) w')
set_option maxRecDepth 100000 in
set_option maxHeartbeats 8000000 in
theorem lower_ref (w : World) {M : Nat} {v : Value} {es : List E} (h : Rf w M v es) (now mtu : Int) (x : List Int) (hx0 : IsAddr x) (hn0 : 0 ≤ now) (hn1 : now ≤ 18446744073709551615) (hm0' : 0 ≤ mtu) (hm1' : mtu ≤ 4294967295) :
    Calls Try.prog 18 #[ptr M, .int .u64 now, .agg (bytesV x), .int .u32 mtu] w (LowRSays w M v now mtu x es) := by
  obtain ⟨q, hq⟩ : ∃ q, w.heap.size = q := ⟨_, rfl⟩
  have hx := hidd hx0
  have b1' : Hid (Below q w (w.alloc (.cells (bytesV x) 24))) := by rw [← hq]; exact (Below.refl _ w).alloc (Nat.le_refl _) _
  have k1 : Hid (Blk (w.alloc (.cells (bytesV x) 24)) q 24 (bytesV x)) := by rw [← hq]; exact Blk.new w 24 _
  have R1 := hidd (h.to ((Below.refl _ w).alloc (Nat.le_refl _) (.cells (bytesV x) 24)))
  have l1 := hidd (ld24 k1.out hx.out)
  have hE := hidd (oldE_is h.ok hx.out)
  have hlt := hidd (fun k (hk : v.ownBlock = some k) => (h.own.lt k hk).2)
  have hM := h.blk.lt
  rw [hq] at hlt hM
  clear h hx0
  by_cases hlo : mtu < 1280
  · have hdl : decide (mtu < 1280) = true := by simpa using hlo
    obtain ⟨m, hm⟩ : ∃ m : Int, 1280 = m := ⟨_, rfl⟩
    have hlm : Hid (lowM mtu = m) := by refine hidd ?_; rw [lowM]; omega
    have hmm : 1280 ≤ m ∧ m ≤ 4294967295 := by omega
    subst hm
    go_enter Try.func18, Try.ntmps18
    go_wp2_with (with_reducible show wpList _ _ _ (⟨_, Op.load 24 (.tmp 6), _, _, _, _⟩ :: _) _ _
                 generalize w.alloc (.cells (bytesV x) 24) = W1 at k1 b1' l1 R1 ⊢
                 refine wpList_load_want (by kernel_rfl) 24 _ rfl _ rfl _ (by with_reducible exact l1.out) ?_)
    refine (old_ref W1 R1.out x hx.out).mono ?_
    rintro r W2 ⟨rfl, b2⟩
    obtain ⟨e, hoe⟩ : ∃ e, oldE x es = e := ⟨_, rfl⟩
    rw [hoe] at hE ⊢
    have hoe' := hidd hoe
    have R2 := hidd (R1.out.to b2)
    have b3 : Hid (Below q w W2) := b1'.out.trans (b2.mono (by have := b1'.out.size; omega))
    have hqW : q ≤ W2.heap.size := by have := b3.out.size; omega
    obtain ⟨d, hd⟩ : ∃ d, W2.heap.size = d := ⟨_, rfl⟩
    rw [hd] at hqW
    have K5 : Hid (Blk (W2.alloc (.cells (encV e) 51)) d 51 (encV e)) := by rw [← hd]; exact Blk.new W2 51 _
    have R5 := hidd (R2.out.to ((Below.refl _ W2).alloc (Nat.le_refl _) (.cells (encV e) 51)))
    have b5 := hidd (b3.out.alloc (by omega) (.cells (encV e) 51))
    clear b2 k1 l1 R1 b1' b3 R2 hoe
    obtain ⟨mt, hmt⟩ : ∃ mt, e.2.2.1 = mt := ⟨_, rfl⟩
    have hmt' := hidd hmt
    clear hmt
    by_cases h15 : (1500 : Int) ≤ 1280
    · exact absurd h15 (by decide)
    · have hd1 := decide_eq_false h15
      by_cases hm0 : mt = 0
      · have hno : Hid (lowR 1280 e = false) := by refine hidd ?_; rw [lowR, hmt'.out]; simp; omega
        have h1 : (mt == 0) = true := by simpa using hm0
        have h1' : decide (mt = 0) = true := by simpa using hm0
        by_cases hnow : now < 9223372036854175807
        · have hca : cadd now 600000 = now + 600000 := by rw [cadd, if_pos (by omega)]
          have hw6 : IntKind.u64.wrap (now + 600000) = now + 600000 := IntWalk.u64_in _ (by omega)
          have hd6 : decide (now < 9223372036854175807) = true := by simpa using hnow
          have hEl : Hid (IsE (lowE now 1280 e)) := ⟨hE.out.a, hE.out.n, by constructor <;> simp only [lowE] <;> omega, by constructor <;> simp only [lowE, hca] <;> omega⟩
          go_wp2_with (first
            | (with_reducible show wpList _ _ _ (⟨_, Op.store 51 (.tmp 9) _, _, _, _, _⟩ :: _) _ _
               refine wpList_store_new rfl rfl 51 (.tmp 9) _ rfl _ _ (encV e) rfl hd.symm rfl (size51 hE.out) (Eq.trans (b := 34) (by kernel_rfl) (encV_size hE.out).symm) (ones_enc e) ?_
               generalize W2.alloc (.cells (encV e) 51) = W5 at K5 R5 b5 ⊢
               have c32 := K5.out.at_ (at_mtu hE.out)
               rw [hmt'.out] at c32
               have c33 := K5.out.at_ (at_until hE.out)
               have z32 := K5.out.frozen 32
               have z33 := K5.out.frozen 33
               have K6 : Hid (Blk (((W5.setCell ⟨d, 32, none⟩ (.int .u32 1280)).setCell ⟨d, 33, none⟩ (.int .u64 9223372036854775807)).setCell ⟨d, 33, none⟩ (.int .u64 (now + 600000))) d 51 (encV (lowE now 1280 e))) := by
                 have k1 := K5.out.set 32 (.int .u32 1280)
                 rw [set_mtu hE.out 1280] at k1
                 have k2 := k1.set 33 (.int .u64 9223372036854775807)
                 rw [set_until (e := (e.1, e.2.1, 1280, e.2.2.2)) ⟨hE.out.a, hE.out.n, by constructor <;> simp only <;> omega, hE.out.u⟩] at k2
                 have k3 := k2.set 33 (.int .u64 (now + 600000))
                 rw [set_until (e := (e.1, e.2.1, 1280, 9223372036854775807)) ⟨hE.out.a, hE.out.n, by constructor <;> simp only <;> omega, by constructor <;> simp only <;> omega⟩] at k3
                 rw [lowE, hca]; exact k3
               have f6 : Hid (Fr (· = d) W5 (((W5.setCell ⟨d, 32, none⟩ (.int .u32 1280)).setCell ⟨d, 33, none⟩ (.int .u64 9223372036854775807)).setCell ⟨d, 33, none⟩ (.int .u64 (now + 600000)))) := (((Fr.refl (· = d) W5).setB (.int .u32 1280)).setB (.int .u64 9223372036854775807)).setB (.int .u64 (now + 600000)))
            | (with_reducible show wpList _ _ _ (⟨_, Op.load 51 _, _, _, _, _⟩ :: _) _ _
               generalize ((W5.setCell ⟨d, 32, none⟩ (.int .u32 1280)).setCell ⟨d, 33, none⟩ (.int .u64 9223372036854775807)).setCell ⟨d, 33, none⟩ (.int .u64 (now + 600000)) = W6 at K6 f6 ⊢
               have l6 := hidd (ld51 K6.out hEl.out)
               refine wpList_load_want (by kernel_rfl) 51 _ rfl _ rfl _ (by with_reducible exact l6.out) ?_))
          have R6 : Hid (Rf W6 M v es) := ⟨R5.out.blk.fr f6.out (by omega), ownRow_fr R5.out.own f6.out (fun k hk e => by have := hlt.out k hk; omega), R5.out.ok, R5.out.max⟩
          have B6 : Hid (Below q w W6) := b5.out.trans (f6.out.below (by have := b5.out.size; omega) (fun k e => by omega))
          refine (front_ref W6 R6.out (lowE now 1280 e) hEl.out).mono ?_
          rintro r W7 ⟨⟨z, rfl⟩, v7, R7, f7, s7⟩
          have T7 : Hid (TurnSays w M v (frontE (lowE now 1280 e) es) W7) := ⟨v7, R7, (Fr.of_below (by rw [hq]; exact B6.out) _).trans f7, fun k hk => by
            rcases s7 k hk with h | h
            · exact .inl h
            · exact .inr (by have := B6.out.size; omega)⟩
          clear R7 f7 s7
          go_wp2
          go_ret
          exact .inr ⟨by rw [hlm.out, hoe'.out]; exact hno.out, rfl, by rw [hlm.out, hoe'.out]; exact T7.out⟩
        · have hca : cadd now 600000 = 9223372036854775807 := by rw [cadd, if_neg (by omega)]
          have hd6 : decide (now < 9223372036854175807) = false := by simpa using hnow
          have hEl : Hid (IsE (lowE now 1280 e)) := ⟨hE.out.a, hE.out.n, by constructor <;> simp only [lowE] <;> omega, by constructor <;> simp only [lowE, hca] <;> omega⟩
          go_wp2_with (first
            | (with_reducible show wpList _ _ _ (⟨_, Op.store 51 (.tmp 9) _, _, _, _, _⟩ :: _) _ _
               refine wpList_store_new rfl rfl 51 (.tmp 9) _ rfl _ _ (encV e) rfl hd.symm rfl (size51 hE.out) (Eq.trans (b := 34) (by kernel_rfl) (encV_size hE.out).symm) (ones_enc e) ?_
               generalize W2.alloc (.cells (encV e) 51) = W5 at K5 R5 b5 ⊢
               have c32 := K5.out.at_ (at_mtu hE.out)
               rw [hmt'.out] at c32
               have c33 := K5.out.at_ (at_until hE.out)
               have z32 := K5.out.frozen 32
               have z33 := K5.out.frozen 33
               have K6 : Hid (Blk ((W5.setCell ⟨d, 32, none⟩ (.int .u32 1280)).setCell ⟨d, 33, none⟩ (.int .u64 9223372036854775807)) d 51 (encV (lowE now 1280 e))) := by
                 have k1 := K5.out.set 32 (.int .u32 1280)
                 rw [set_mtu hE.out 1280] at k1
                 have k2 := k1.set 33 (.int .u64 9223372036854775807)
                 rw [set_until (e := (e.1, e.2.1, 1280, e.2.2.2)) ⟨hE.out.a, hE.out.n, by constructor <;> simp only <;> omega, hE.out.u⟩] at k2
                 rw [lowE, hca]; exact k2
               have f6 : Hid (Fr (· = d) W5 ((W5.setCell ⟨d, 32, none⟩ (.int .u32 1280)).setCell ⟨d, 33, none⟩ (.int .u64 9223372036854775807))) := (((Fr.refl (· = d) W5).setB (.int .u32 1280)).setB (.int .u64 9223372036854775807)))
            | (with_reducible show wpList _ _ _ (⟨_, Op.load 51 _, _, _, _, _⟩ :: _) _ _
               generalize (W5.setCell ⟨d, 32, none⟩ (.int .u32 1280)).setCell ⟨d, 33, none⟩ (.int .u64 9223372036854775807) = W6 at K6 f6 ⊢
               have l6 := hidd (ld51 K6.out hEl.out)
               refine wpList_load_want (by kernel_rfl) 51 _ rfl _ rfl _ (by with_reducible exact l6.out) ?_))
          have R6 : Hid (Rf W6 M v es) := ⟨R5.out.blk.fr f6.out (by omega), ownRow_fr R5.out.own f6.out (fun k hk e => by have := hlt.out k hk; omega), R5.out.ok, R5.out.max⟩
          have B6 : Hid (Below q w W6) := b5.out.trans (f6.out.below (by have := b5.out.size; omega) (fun k e => by omega))
          refine (front_ref W6 R6.out (lowE now 1280 e) hEl.out).mono ?_
          rintro r W7 ⟨⟨z, rfl⟩, v7, R7, f7, s7⟩
          have T7 : Hid (TurnSays w M v (frontE (lowE now 1280 e) es) W7) := ⟨v7, R7, (Fr.of_below (by rw [hq]; exact B6.out) _).trans f7, fun k hk => by
            rcases s7 k hk with h | h
            · exact .inl h
            · exact .inr (by have := B6.out.size; omega)⟩
          clear R7 f7 s7
          go_wp2
          go_ret
          exact .inr ⟨by rw [hlm.out, hoe'.out]; exact hno.out, rfl, by rw [hlm.out, hoe'.out]; exact T7.out⟩
      · have h1 : (mt == 0) = false := by simpa using hm0
        have h1' : decide (mt = 0) = false := by simpa using hm0
        by_cases hle : mt ≤ 1280
        · have hd2 : decide (mt ≤ 1280) = true := by simpa using hle
          have hno : Hid (lowR 1280 e = true) := by refine hidd ?_; rw [lowR, hmt'.out]; simp; omega
          go_wp2_with (first
            | (with_reducible show wpList _ _ _ (⟨_, Op.store 51 (.tmp 9) _, _, _, _, _⟩ :: _) _ _
               refine wpList_store_new rfl rfl 51 (.tmp 9) _ rfl _ _ (encV e) rfl hd.symm rfl (size51 hE.out) (Eq.trans (b := 34) (by kernel_rfl) (encV_size hE.out).symm) (ones_enc e) ?_
               generalize W2.alloc (.cells (encV e) 51) = W5 at K5 R5 b5 ⊢
               have c32 := K5.out.at_ (at_mtu hE.out)
               rw [hmt'.out] at c32
               have c33 := K5.out.at_ (at_until hE.out)
               have z32 := K5.out.frozen 32
               have z33 := K5.out.frozen 33))
          go_ret
          exact .inl ⟨by rw [hlm.out, hoe'.out]; exact hno.out, rfl, v, R5.out, Fr.of_below (by rw [hq]; exact b5.out) _, fun k hk => .inl hk⟩
        · have hd2 : decide (mt ≤ 1280) = false := by simpa using hle
          have hno : Hid (lowR 1280 e = false) := by refine hidd ?_; rw [lowR, hmt'.out]; simp; omega
          by_cases hnow : now < 9223372036854175807
          · have hca : cadd now 600000 = now + 600000 := by rw [cadd, if_pos (by omega)]
            have hw6 : IntKind.u64.wrap (now + 600000) = now + 600000 := IntWalk.u64_in _ (by omega)
            have hd6 : decide (now < 9223372036854175807) = true := by simpa using hnow
            have hEl : Hid (IsE (lowE now 1280 e)) := ⟨hE.out.a, hE.out.n, by constructor <;> simp only [lowE] <;> omega, by constructor <;> simp only [lowE, hca] <;> omega⟩
            go_wp2_with (first
              | (with_reducible show wpList _ _ _ (⟨_, Op.store 51 (.tmp 9) _, _, _, _, _⟩ :: _) _ _
                 refine wpList_store_new rfl rfl 51 (.tmp 9) _ rfl _ _ (encV e) rfl hd.symm rfl (size51 hE.out) (Eq.trans (b := 34) (by kernel_rfl) (encV_size hE.out).symm) (ones_enc e) ?_
                 generalize W2.alloc (.cells (encV e) 51) = W5 at K5 R5 b5 ⊢
                 have c32 := K5.out.at_ (at_mtu hE.out)
                 rw [hmt'.out] at c32
                 have c33 := K5.out.at_ (at_until hE.out)
                 have z32 := K5.out.frozen 32
                 have z33 := K5.out.frozen 33
                 have K6 : Hid (Blk (((W5.setCell ⟨d, 32, none⟩ (.int .u32 1280)).setCell ⟨d, 33, none⟩ (.int .u64 9223372036854775807)).setCell ⟨d, 33, none⟩ (.int .u64 (now + 600000))) d 51 (encV (lowE now 1280 e))) := by
                   have k1 := K5.out.set 32 (.int .u32 1280)
                   rw [set_mtu hE.out 1280] at k1
                   have k2 := k1.set 33 (.int .u64 9223372036854775807)
                   rw [set_until (e := (e.1, e.2.1, 1280, e.2.2.2)) ⟨hE.out.a, hE.out.n, by constructor <;> simp only <;> omega, hE.out.u⟩] at k2
                   have k3 := k2.set 33 (.int .u64 (now + 600000))
                   rw [set_until (e := (e.1, e.2.1, 1280, 9223372036854775807)) ⟨hE.out.a, hE.out.n, by constructor <;> simp only <;> omega, by constructor <;> simp only <;> omega⟩] at k3
                   rw [lowE, hca]; exact k3
                 have f6 : Hid (Fr (· = d) W5 (((W5.setCell ⟨d, 32, none⟩ (.int .u32 1280)).setCell ⟨d, 33, none⟩ (.int .u64 9223372036854775807)).setCell ⟨d, 33, none⟩ (.int .u64 (now + 600000)))) := (((Fr.refl (· = d) W5).setB (.int .u32 1280)).setB (.int .u64 9223372036854775807)).setB (.int .u64 (now + 600000)))
              | (with_reducible show wpList _ _ _ (⟨_, Op.load 51 _, _, _, _, _⟩ :: _) _ _
                 generalize ((W5.setCell ⟨d, 32, none⟩ (.int .u32 1280)).setCell ⟨d, 33, none⟩ (.int .u64 9223372036854775807)).setCell ⟨d, 33, none⟩ (.int .u64 (now + 600000)) = W6 at K6 f6 ⊢
                 have l6 := hidd (ld51 K6.out hEl.out)
                 refine wpList_load_want (by kernel_rfl) 51 _ rfl _ rfl _ (by with_reducible exact l6.out) ?_))
            have R6 : Hid (Rf W6 M v es) := ⟨R5.out.blk.fr f6.out (by omega), ownRow_fr R5.out.own f6.out (fun k hk e => by have := hlt.out k hk; omega), R5.out.ok, R5.out.max⟩
            have B6 : Hid (Below q w W6) := b5.out.trans (f6.out.below (by have := b5.out.size; omega) (fun k e => by omega))
            refine (front_ref W6 R6.out (lowE now 1280 e) hEl.out).mono ?_
            rintro r W7 ⟨⟨z, rfl⟩, v7, R7, f7, s7⟩
            have T7 : Hid (TurnSays w M v (frontE (lowE now 1280 e) es) W7) := ⟨v7, R7, (Fr.of_below (by rw [hq]; exact B6.out) _).trans f7, fun k hk => by
              rcases s7 k hk with h | h
              · exact .inl h
              · exact .inr (by have := B6.out.size; omega)⟩
            clear R7 f7 s7
            go_wp2
            go_ret
            exact .inr ⟨by rw [hlm.out, hoe'.out]; exact hno.out, rfl, by rw [hlm.out, hoe'.out]; exact T7.out⟩
          · have hca : cadd now 600000 = 9223372036854775807 := by rw [cadd, if_neg (by omega)]
            have hd6 : decide (now < 9223372036854175807) = false := by simpa using hnow
            have hEl : Hid (IsE (lowE now 1280 e)) := ⟨hE.out.a, hE.out.n, by constructor <;> simp only [lowE] <;> omega, by constructor <;> simp only [lowE, hca] <;> omega⟩
            go_wp2_with (first
              | (with_reducible show wpList _ _ _ (⟨_, Op.store 51 (.tmp 9) _, _, _, _, _⟩ :: _) _ _
                 refine wpList_store_new rfl rfl 51 (.tmp 9) _ rfl _ _ (encV e) rfl hd.symm rfl (size51 hE.out) (Eq.trans (b := 34) (by kernel_rfl) (encV_size hE.out).symm) (ones_enc e) ?_
                 generalize W2.alloc (.cells (encV e) 51) = W5 at K5 R5 b5 ⊢
                 have c32 := K5.out.at_ (at_mtu hE.out)
                 rw [hmt'.out] at c32
                 have c33 := K5.out.at_ (at_until hE.out)
                 have z32 := K5.out.frozen 32
                 have z33 := K5.out.frozen 33
                 have K6 : Hid (Blk ((W5.setCell ⟨d, 32, none⟩ (.int .u32 1280)).setCell ⟨d, 33, none⟩ (.int .u64 9223372036854775807)) d 51 (encV (lowE now 1280 e))) := by
                   have k1 := K5.out.set 32 (.int .u32 1280)
                   rw [set_mtu hE.out 1280] at k1
                   have k2 := k1.set 33 (.int .u64 9223372036854775807)
                   rw [set_until (e := (e.1, e.2.1, 1280, e.2.2.2)) ⟨hE.out.a, hE.out.n, by constructor <;> simp only <;> omega, hE.out.u⟩] at k2
                   rw [lowE, hca]; exact k2
                 have f6 : Hid (Fr (· = d) W5 ((W5.setCell ⟨d, 32, none⟩ (.int .u32 1280)).setCell ⟨d, 33, none⟩ (.int .u64 9223372036854775807))) := (((Fr.refl (· = d) W5).setB (.int .u32 1280)).setB (.int .u64 9223372036854775807)))
              | (with_reducible show wpList _ _ _ (⟨_, Op.load 51 _, _, _, _, _⟩ :: _) _ _
                 generalize (W5.setCell ⟨d, 32, none⟩ (.int .u32 1280)).setCell ⟨d, 33, none⟩ (.int .u64 9223372036854775807) = W6 at K6 f6 ⊢
                 have l6 := hidd (ld51 K6.out hEl.out)
                 refine wpList_load_want (by kernel_rfl) 51 _ rfl _ rfl _ (by with_reducible exact l6.out) ?_))
            have R6 : Hid (Rf W6 M v es) := ⟨R5.out.blk.fr f6.out (by omega), ownRow_fr R5.out.own f6.out (fun k hk e => by have := hlt.out k hk; omega), R5.out.ok, R5.out.max⟩
            have B6 : Hid (Below q w W6) := b5.out.trans (f6.out.below (by have := b5.out.size; omega) (fun k e => by omega))
            refine (front_ref W6 R6.out (lowE now 1280 e) hEl.out).mono ?_
            rintro r W7 ⟨⟨z, rfl⟩, v7, R7, f7, s7⟩
            have T7 : Hid (TurnSays w M v (frontE (lowE now 1280 e) es) W7) := ⟨v7, R7, (Fr.of_below (by rw [hq]; exact B6.out) _).trans f7, fun k hk => by
              rcases s7 k hk with h | h
              · exact .inl h
              · exact .inr (by have := B6.out.size; omega)⟩
            clear R7 f7 s7
            go_wp2
            go_ret
            exact .inr ⟨by rw [hlm.out, hoe'.out]; exact hno.out, rfl, by rw [hlm.out, hoe'.out]; exact T7.out⟩
  · have hdl : decide (mtu < 1280) = false := by simpa using hlo
    obtain ⟨m, hm⟩ : ∃ m : Int, mtu = m := ⟨_, rfl⟩
    have hlm : Hid (lowM mtu = m) := by refine hidd ?_; rw [lowM]; omega
    have hmm : 1280 ≤ m ∧ m ≤ 4294967295 := by omega
    subst hm
    go_enter Try.func18, Try.ntmps18
    go_wp2_with (with_reducible show wpList _ _ _ (⟨_, Op.load 24 (.tmp 6), _, _, _, _⟩ :: _) _ _
                 generalize w.alloc (.cells (bytesV x) 24) = W1 at k1 b1' l1 R1 ⊢
                 refine wpList_load_want (by kernel_rfl) 24 _ rfl _ rfl _ (by with_reducible exact l1.out) ?_)
    refine (old_ref W1 R1.out x hx.out).mono ?_
    rintro r W2 ⟨rfl, b2⟩
    obtain ⟨e, hoe⟩ : ∃ e, oldE x es = e := ⟨_, rfl⟩
    rw [hoe] at hE ⊢
    have hoe' := hidd hoe
    have R2 := hidd (R1.out.to b2)
    have b3 : Hid (Below q w W2) := b1'.out.trans (b2.mono (by have := b1'.out.size; omega))
    have hqW : q ≤ W2.heap.size := by have := b3.out.size; omega
    obtain ⟨d, hd⟩ : ∃ d, W2.heap.size = d := ⟨_, rfl⟩
    rw [hd] at hqW
    have K5 : Hid (Blk (W2.alloc (.cells (encV e) 51)) d 51 (encV e)) := by rw [← hd]; exact Blk.new W2 51 _
    have R5 := hidd (R2.out.to ((Below.refl _ W2).alloc (Nat.le_refl _) (.cells (encV e) 51)))
    have b5 := hidd (b3.out.alloc (by omega) (.cells (encV e) 51))
    clear b2 k1 l1 R1 b1' b3 R2 hoe
    obtain ⟨mt, hmt⟩ : ∃ mt, e.2.2.1 = mt := ⟨_, rfl⟩
    have hmt' := hidd hmt
    clear hmt
    by_cases h15 : (1500 : Int) ≤ mtu
    · have hd1 := decide_eq_true h15
      have hno : Hid (lowR mtu e = true) := by refine hidd ?_; rw [lowR, hmt'.out]; simp; omega
      go_wp2_with (first
        | (with_reducible show wpList _ _ _ (⟨_, Op.store 51 (.tmp 9) _, _, _, _, _⟩ :: _) _ _
           refine wpList_store_new rfl rfl 51 (.tmp 9) _ rfl _ _ (encV e) rfl hd.symm rfl (size51 hE.out) (Eq.trans (b := 34) (by kernel_rfl) (encV_size hE.out).symm) (ones_enc e) ?_
           generalize W2.alloc (.cells (encV e) 51) = W5 at K5 R5 b5 ⊢
           have c32 := K5.out.at_ (at_mtu hE.out)
           rw [hmt'.out] at c32
           have c33 := K5.out.at_ (at_until hE.out)
           have z32 := K5.out.frozen 32
           have z33 := K5.out.frozen 33))
      go_ret
      exact .inl ⟨by rw [hlm.out, hoe'.out]; exact hno.out, rfl, v, R5.out, Fr.of_below (by rw [hq]; exact b5.out) _, fun k hk => .inl hk⟩
    · have hd1 := decide_eq_false h15
      by_cases hm0 : mt = 0
      · have hno : Hid (lowR mtu e = false) := by refine hidd ?_; rw [lowR, hmt'.out]; simp; omega
        have h1 : (mt == 0) = true := by simpa using hm0
        have h1' : decide (mt = 0) = true := by simpa using hm0
        by_cases hnow : now < 9223372036854175807
        · have hca : cadd now 600000 = now + 600000 := by rw [cadd, if_pos (by omega)]
          have hw6 : IntKind.u64.wrap (now + 600000) = now + 600000 := IntWalk.u64_in _ (by omega)
          have hd6 : decide (now < 9223372036854175807) = true := by simpa using hnow
          have hEl : Hid (IsE (lowE now mtu e)) := ⟨hE.out.a, hE.out.n, by constructor <;> simp only [lowE] <;> omega, by constructor <;> simp only [lowE, hca] <;> omega⟩
          go_wp2_with (first
            | (with_reducible show wpList _ _ _ (⟨_, Op.store 51 (.tmp 9) _, _, _, _, _⟩ :: _) _ _
               refine wpList_store_new rfl rfl 51 (.tmp 9) _ rfl _ _ (encV e) rfl hd.symm rfl (size51 hE.out) (Eq.trans (b := 34) (by kernel_rfl) (encV_size hE.out).symm) (ones_enc e) ?_
               generalize W2.alloc (.cells (encV e) 51) = W5 at K5 R5 b5 ⊢
               have c32 := K5.out.at_ (at_mtu hE.out)
               rw [hmt'.out] at c32
               have c33 := K5.out.at_ (at_until hE.out)
               have z32 := K5.out.frozen 32
               have z33 := K5.out.frozen 33
               have K6 : Hid (Blk (((W5.setCell ⟨d, 32, none⟩ (.int .u32 mtu)).setCell ⟨d, 33, none⟩ (.int .u64 9223372036854775807)).setCell ⟨d, 33, none⟩ (.int .u64 (now + 600000))) d 51 (encV (lowE now mtu e))) := by
                 have k1 := K5.out.set 32 (.int .u32 mtu)
                 rw [set_mtu hE.out mtu] at k1
                 have k2 := k1.set 33 (.int .u64 9223372036854775807)
                 rw [set_until (e := (e.1, e.2.1, mtu, e.2.2.2)) ⟨hE.out.a, hE.out.n, by constructor <;> simp only <;> omega, hE.out.u⟩] at k2
                 have k3 := k2.set 33 (.int .u64 (now + 600000))
                 rw [set_until (e := (e.1, e.2.1, mtu, 9223372036854775807)) ⟨hE.out.a, hE.out.n, by constructor <;> simp only <;> omega, by constructor <;> simp only <;> omega⟩] at k3
                 rw [lowE, hca]; exact k3
               have f6 : Hid (Fr (· = d) W5 (((W5.setCell ⟨d, 32, none⟩ (.int .u32 mtu)).setCell ⟨d, 33, none⟩ (.int .u64 9223372036854775807)).setCell ⟨d, 33, none⟩ (.int .u64 (now + 600000)))) := (((Fr.refl (· = d) W5).setB (.int .u32 mtu)).setB (.int .u64 9223372036854775807)).setB (.int .u64 (now + 600000)))
            | (with_reducible show wpList _ _ _ (⟨_, Op.load 51 _, _, _, _, _⟩ :: _) _ _
               generalize ((W5.setCell ⟨d, 32, none⟩ (.int .u32 mtu)).setCell ⟨d, 33, none⟩ (.int .u64 9223372036854775807)).setCell ⟨d, 33, none⟩ (.int .u64 (now + 600000)) = W6 at K6 f6 ⊢
               have l6 := hidd (ld51 K6.out hEl.out)
               refine wpList_load_want (by kernel_rfl) 51 _ rfl _ rfl _ (by with_reducible exact l6.out) ?_))
          have R6 : Hid (Rf W6 M v es) := ⟨R5.out.blk.fr f6.out (by omega), ownRow_fr R5.out.own f6.out (fun k hk e => by have := hlt.out k hk; omega), R5.out.ok, R5.out.max⟩
          have B6 : Hid (Below q w W6) := b5.out.trans (f6.out.below (by have := b5.out.size; omega) (fun k e => by omega))
          refine (front_ref W6 R6.out (lowE now mtu e) hEl.out).mono ?_
          rintro r W7 ⟨⟨z, rfl⟩, v7, R7, f7, s7⟩
          have T7 : Hid (TurnSays w M v (frontE (lowE now mtu e) es) W7) := ⟨v7, R7, (Fr.of_below (by rw [hq]; exact B6.out) _).trans f7, fun k hk => by
            rcases s7 k hk with h | h
            · exact .inl h
            · exact .inr (by have := B6.out.size; omega)⟩
          clear R7 f7 s7
          go_wp2
          go_ret
          exact .inr ⟨by rw [hlm.out, hoe'.out]; exact hno.out, rfl, by rw [hlm.out, hoe'.out]; exact T7.out⟩
        · have hca : cadd now 600000 = 9223372036854775807 := by rw [cadd, if_neg (by omega)]
          have hd6 : decide (now < 9223372036854175807) = false := by simpa using hnow
          have hEl : Hid (IsE (lowE now mtu e)) := ⟨hE.out.a, hE.out.n, by constructor <;> simp only [lowE] <;> omega, by constructor <;> simp only [lowE, hca] <;> omega⟩
          go_wp2_with (first
            | (with_reducible show wpList _ _ _ (⟨_, Op.store 51 (.tmp 9) _, _, _, _, _⟩ :: _) _ _
               refine wpList_store_new rfl rfl 51 (.tmp 9) _ rfl _ _ (encV e) rfl hd.symm rfl (size51 hE.out) (Eq.trans (b := 34) (by kernel_rfl) (encV_size hE.out).symm) (ones_enc e) ?_
               generalize W2.alloc (.cells (encV e) 51) = W5 at K5 R5 b5 ⊢
               have c32 := K5.out.at_ (at_mtu hE.out)
               rw [hmt'.out] at c32
               have c33 := K5.out.at_ (at_until hE.out)
               have z32 := K5.out.frozen 32
               have z33 := K5.out.frozen 33
               have K6 : Hid (Blk ((W5.setCell ⟨d, 32, none⟩ (.int .u32 mtu)).setCell ⟨d, 33, none⟩ (.int .u64 9223372036854775807)) d 51 (encV (lowE now mtu e))) := by
                 have k1 := K5.out.set 32 (.int .u32 mtu)
                 rw [set_mtu hE.out mtu] at k1
                 have k2 := k1.set 33 (.int .u64 9223372036854775807)
                 rw [set_until (e := (e.1, e.2.1, mtu, e.2.2.2)) ⟨hE.out.a, hE.out.n, by constructor <;> simp only <;> omega, hE.out.u⟩] at k2
                 rw [lowE, hca]; exact k2
               have f6 : Hid (Fr (· = d) W5 ((W5.setCell ⟨d, 32, none⟩ (.int .u32 mtu)).setCell ⟨d, 33, none⟩ (.int .u64 9223372036854775807))) := (((Fr.refl (· = d) W5).setB (.int .u32 mtu)).setB (.int .u64 9223372036854775807)))
            | (with_reducible show wpList _ _ _ (⟨_, Op.load 51 _, _, _, _, _⟩ :: _) _ _
               generalize (W5.setCell ⟨d, 32, none⟩ (.int .u32 mtu)).setCell ⟨d, 33, none⟩ (.int .u64 9223372036854775807) = W6 at K6 f6 ⊢
               have l6 := hidd (ld51 K6.out hEl.out)
               refine wpList_load_want (by kernel_rfl) 51 _ rfl _ rfl _ (by with_reducible exact l6.out) ?_))
          have R6 : Hid (Rf W6 M v es) := ⟨R5.out.blk.fr f6.out (by omega), ownRow_fr R5.out.own f6.out (fun k hk e => by have := hlt.out k hk; omega), R5.out.ok, R5.out.max⟩
          have B6 : Hid (Below q w W6) := b5.out.trans (f6.out.below (by have := b5.out.size; omega) (fun k e => by omega))
          refine (front_ref W6 R6.out (lowE now mtu e) hEl.out).mono ?_
          rintro r W7 ⟨⟨z, rfl⟩, v7, R7, f7, s7⟩
          have T7 : Hid (TurnSays w M v (frontE (lowE now mtu e) es) W7) := ⟨v7, R7, (Fr.of_below (by rw [hq]; exact B6.out) _).trans f7, fun k hk => by
            rcases s7 k hk with h | h
            · exact .inl h
            · exact .inr (by have := B6.out.size; omega)⟩
          clear R7 f7 s7
          go_wp2
          go_ret
          exact .inr ⟨by rw [hlm.out, hoe'.out]; exact hno.out, rfl, by rw [hlm.out, hoe'.out]; exact T7.out⟩
      · have h1 : (mt == 0) = false := by simpa using hm0
        have h1' : decide (mt = 0) = false := by simpa using hm0
        by_cases hle : mt ≤ mtu
        · have hd2 : decide (mt ≤ mtu) = true := by simpa using hle
          have hno : Hid (lowR mtu e = true) := by refine hidd ?_; rw [lowR, hmt'.out]; simp; omega
          go_wp2_with (first
            | (with_reducible show wpList _ _ _ (⟨_, Op.store 51 (.tmp 9) _, _, _, _, _⟩ :: _) _ _
               refine wpList_store_new rfl rfl 51 (.tmp 9) _ rfl _ _ (encV e) rfl hd.symm rfl (size51 hE.out) (Eq.trans (b := 34) (by kernel_rfl) (encV_size hE.out).symm) (ones_enc e) ?_
               generalize W2.alloc (.cells (encV e) 51) = W5 at K5 R5 b5 ⊢
               have c32 := K5.out.at_ (at_mtu hE.out)
               rw [hmt'.out] at c32
               have c33 := K5.out.at_ (at_until hE.out)
               have z32 := K5.out.frozen 32
               have z33 := K5.out.frozen 33))
          go_ret
          exact .inl ⟨by rw [hlm.out, hoe'.out]; exact hno.out, rfl, v, R5.out, Fr.of_below (by rw [hq]; exact b5.out) _, fun k hk => .inl hk⟩
        · have hd2 : decide (mt ≤ mtu) = false := by simpa using hle
          have hno : Hid (lowR mtu e = false) := by refine hidd ?_; rw [lowR, hmt'.out]; simp; omega
          by_cases hnow : now < 9223372036854175807
          · have hca : cadd now 600000 = now + 600000 := by rw [cadd, if_pos (by omega)]
            have hw6 : IntKind.u64.wrap (now + 600000) = now + 600000 := IntWalk.u64_in _ (by omega)
            have hd6 : decide (now < 9223372036854175807) = true := by simpa using hnow
            have hEl : Hid (IsE (lowE now mtu e)) := ⟨hE.out.a, hE.out.n, by constructor <;> simp only [lowE] <;> omega, by constructor <;> simp only [lowE, hca] <;> omega⟩
            go_wp2_with (first
              | (with_reducible show wpList _ _ _ (⟨_, Op.store 51 (.tmp 9) _, _, _, _, _⟩ :: _) _ _
                 refine wpList_store_new rfl rfl 51 (.tmp 9) _ rfl _ _ (encV e) rfl hd.symm rfl (size51 hE.out) (Eq.trans (b := 34) (by kernel_rfl) (encV_size hE.out).symm) (ones_enc e) ?_
                 generalize W2.alloc (.cells (encV e) 51) = W5 at K5 R5 b5 ⊢
                 have c32 := K5.out.at_ (at_mtu hE.out)
                 rw [hmt'.out] at c32
                 have c33 := K5.out.at_ (at_until hE.out)
                 have z32 := K5.out.frozen 32
                 have z33 := K5.out.frozen 33
                 have K6 : Hid (Blk (((W5.setCell ⟨d, 32, none⟩ (.int .u32 mtu)).setCell ⟨d, 33, none⟩ (.int .u64 9223372036854775807)).setCell ⟨d, 33, none⟩ (.int .u64 (now + 600000))) d 51 (encV (lowE now mtu e))) := by
                   have k1 := K5.out.set 32 (.int .u32 mtu)
                   rw [set_mtu hE.out mtu] at k1
                   have k2 := k1.set 33 (.int .u64 9223372036854775807)
                   rw [set_until (e := (e.1, e.2.1, mtu, e.2.2.2)) ⟨hE.out.a, hE.out.n, by constructor <;> simp only <;> omega, hE.out.u⟩] at k2
                   have k3 := k2.set 33 (.int .u64 (now + 600000))
                   rw [set_until (e := (e.1, e.2.1, mtu, 9223372036854775807)) ⟨hE.out.a, hE.out.n, by constructor <;> simp only <;> omega, by constructor <;> simp only <;> omega⟩] at k3
                   rw [lowE, hca]; exact k3
                 have f6 : Hid (Fr (· = d) W5 (((W5.setCell ⟨d, 32, none⟩ (.int .u32 mtu)).setCell ⟨d, 33, none⟩ (.int .u64 9223372036854775807)).setCell ⟨d, 33, none⟩ (.int .u64 (now + 600000)))) := (((Fr.refl (· = d) W5).setB (.int .u32 mtu)).setB (.int .u64 9223372036854775807)).setB (.int .u64 (now + 600000)))
              | (with_reducible show wpList _ _ _ (⟨_, Op.load 51 _, _, _, _, _⟩ :: _) _ _
                 generalize ((W5.setCell ⟨d, 32, none⟩ (.int .u32 mtu)).setCell ⟨d, 33, none⟩ (.int .u64 9223372036854775807)).setCell ⟨d, 33, none⟩ (.int .u64 (now + 600000)) = W6 at K6 f6 ⊢
                 have l6 := hidd (ld51 K6.out hEl.out)
                 refine wpList_load_want (by kernel_rfl) 51 _ rfl _ rfl _ (by with_reducible exact l6.out) ?_))
            have R6 : Hid (Rf W6 M v es) := ⟨R5.out.blk.fr f6.out (by omega), ownRow_fr R5.out.own f6.out (fun k hk e => by have := hlt.out k hk; omega), R5.out.ok, R5.out.max⟩
            have B6 : Hid (Below q w W6) := b5.out.trans (f6.out.below (by have := b5.out.size; omega) (fun k e => by omega))
            refine (front_ref W6 R6.out (lowE now mtu e) hEl.out).mono ?_
            rintro r W7 ⟨⟨z, rfl⟩, v7, R7, f7, s7⟩
            have T7 : Hid (TurnSays w M v (frontE (lowE now mtu e) es) W7) := ⟨v7, R7, (Fr.of_below (by rw [hq]; exact B6.out) _).trans f7, fun k hk => by
              rcases s7 k hk with h | h
              · exact .inl h
              · exact .inr (by have := B6.out.size; omega)⟩
            clear R7 f7 s7
            go_wp2
            go_ret
            exact .inr ⟨by rw [hlm.out, hoe'.out]; exact hno.out, rfl, by rw [hlm.out, hoe'.out]; exact T7.out⟩
          · have hca : cadd now 600000 = 9223372036854775807 := by rw [cadd, if_neg (by omega)]
            have hd6 : decide (now < 9223372036854175807) = false := by simpa using hnow
            have hEl : Hid (IsE (lowE now mtu e)) := ⟨hE.out.a, hE.out.n, by constructor <;> simp only [lowE] <;> omega, by constructor <;> simp only [lowE, hca] <;> omega⟩
            go_wp2_with (first
              | (with_reducible show wpList _ _ _ (⟨_, Op.store 51 (.tmp 9) _, _, _, _, _⟩ :: _) _ _
                 refine wpList_store_new rfl rfl 51 (.tmp 9) _ rfl _ _ (encV e) rfl hd.symm rfl (size51 hE.out) (Eq.trans (b := 34) (by kernel_rfl) (encV_size hE.out).symm) (ones_enc e) ?_
                 generalize W2.alloc (.cells (encV e) 51) = W5 at K5 R5 b5 ⊢
                 have c32 := K5.out.at_ (at_mtu hE.out)
                 rw [hmt'.out] at c32
                 have c33 := K5.out.at_ (at_until hE.out)
                 have z32 := K5.out.frozen 32
                 have z33 := K5.out.frozen 33
                 have K6 : Hid (Blk ((W5.setCell ⟨d, 32, none⟩ (.int .u32 mtu)).setCell ⟨d, 33, none⟩ (.int .u64 9223372036854775807)) d 51 (encV (lowE now mtu e))) := by
                   have k1 := K5.out.set 32 (.int .u32 mtu)
                   rw [set_mtu hE.out mtu] at k1
                   have k2 := k1.set 33 (.int .u64 9223372036854775807)
                   rw [set_until (e := (e.1, e.2.1, mtu, e.2.2.2)) ⟨hE.out.a, hE.out.n, by constructor <;> simp only <;> omega, hE.out.u⟩] at k2
                   rw [lowE, hca]; exact k2
                 have f6 : Hid (Fr (· = d) W5 ((W5.setCell ⟨d, 32, none⟩ (.int .u32 mtu)).setCell ⟨d, 33, none⟩ (.int .u64 9223372036854775807))) := (((Fr.refl (· = d) W5).setB (.int .u32 mtu)).setB (.int .u64 9223372036854775807)))
              | (with_reducible show wpList _ _ _ (⟨_, Op.load 51 _, _, _, _, _⟩ :: _) _ _
                 generalize (W5.setCell ⟨d, 32, none⟩ (.int .u32 mtu)).setCell ⟨d, 33, none⟩ (.int .u64 9223372036854775807) = W6 at K6 f6 ⊢
                 have l6 := hidd (ld51 K6.out hEl.out)
                 refine wpList_load_want (by kernel_rfl) 51 _ rfl _ rfl _ (by with_reducible exact l6.out) ?_))
            have R6 : Hid (Rf W6 M v es) := ⟨R5.out.blk.fr f6.out (by omega), ownRow_fr R5.out.own f6.out (fun k hk e => by have := hlt.out k hk; omega), R5.out.ok, R5.out.max⟩
            have B6 : Hid (Below q w W6) := b5.out.trans (f6.out.below (by have := b5.out.size; omega) (fun k e => by omega))
            refine (front_ref W6 R6.out (lowE now mtu e) hEl.out).mono ?_
            rintro r W7 ⟨⟨z, rfl⟩, v7, R7, f7, s7⟩
            have T7 : Hid (TurnSays w M v (frontE (lowE now mtu e) es) W7) := ⟨v7, R7, (Fr.of_below (by rw [hq]; exact B6.out) _).trans f7, fun k hk => by
              rcases s7 k hk with h | h
              · exact .inl h
              · exact .inr (by have := B6.out.size; omega)⟩
            clear R7 f7 s7
            go_wp2
            go_ret
            exact .inr ⟨by rw [hlm.out, hoe'.out]; exact hno.out, rfl, by rw [hlm.out, hoe'.out]; exact T7.out⟩
end Go.Proofs.Ytpjjcihhmhccfaa
