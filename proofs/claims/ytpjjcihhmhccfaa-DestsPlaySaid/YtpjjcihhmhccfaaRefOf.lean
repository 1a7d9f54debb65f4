/- The reference: a look; an entry that is turned; each function walked once. No condition. -/
import Derived.Test.YtpjjcihhmhccfaaRefActs
namespace Go.Proofs.Ytpjjcihhmhccfaa
open Go.ChangeShapes Go.WideShapes Go.ChangeAt Go.RowKit Go.Deep
set_option linter.unusedVariables false
set_option linter.unusedSimpArgs false

def ofL (x : List Int) (es : List E) : List E := if idx (isA x) es < 0 then es else frontE (oldE x es) es
theorem fr_row (W : World) (p : Nat) (c' : Array Value) : Fr (· = p) W (W.setRow p c') := by
  have hb := below_setRow (Below.refl p W) (Nat.le_refl _) c'
  exact ⟨hb.os, hb.tape, hb.output, hb.size, fun k hk hS => setRow_other W p k c' hS⟩
theorem Fr.far {S T : Nat → Prop} {a b c : World} (h : Fr S a b) (k : Fr T b c) (hT : ∀ j, T j → a.heap.size ≤ j) : Fr S a c :=
  ⟨k.os.trans h.os, k.tape.trans h.tape, k.output.trans h.output, Nat.le_trans h.size k.size, fun j hj hS => (k.block j (Nat.lt_of_lt_of_le hj h.size) (fun e => by have := hT j e; omega)).trans (h.block j hj hS)⟩
theorem res20 {tmps : Array Value} {W : World} {p : Nat} {e : E} (he : IsE e) (h4 : tmps.getD 4 undef = .pointer (some ⟨p, 0, none⟩)) (hc : Blk W p 51 (encV e)) : (results Try.f20 tmps).run Try.prog W = .ok (.agg (encV e)) W := by
  have l := ld51 hc he
  simp only [Array.getD_eq_getD_getElem?] at h4
  simp [results, Try.results20, asAddr, h4, l]
theorem res19 {tmps : Array Value} {W : World} {p : Nat} {e : E} (he : IsE e) (h4 : tmps.getD 2 undef = .pointer (some ⟨p, 0, none⟩)) (hc : Blk W p 33 (encV e)) : (results Try.f19 tmps).run Try.prog W = .ok (.agg (encV e)) W := by
  have l := ld33 hc he
  simp only [Array.getD_eq_getD_getElem?] at h4
  simp [results, Try.results19, asAddr, h4, l]
theorem z34_is : IsE zeroE34 := ⟨zeroA_is, zeroA_is, (by decide : (0 : Int) ≤ 0 ∧ (0 : Int) ≤ 4294967295), (by decide : (0 : Int) ≤ 0 ∧ (0 : Int) ≤ 18446744073709551615)⟩
set_option maxRecDepth 100000 in
set_option maxHeartbeats 4000000 in
theorem of_ref (w : World) {M : Nat} {v : Value} {es : List E} (h : Rf w M v es) (x : List Int) (hx0 : IsAddr x) :
    Calls Try.prog 20 #[ptr M, .agg (bytesV x)] w fun r w' => r = .returned (.agg (encV (oldE x es))) ∧ TurnSays w M v (ofL x es) w' := by
  obtain ⟨q, hq⟩ : ∃ q, w.heap.size = q := ⟨_, rfl⟩
  have hx := hidd hx0
  have b1 : Below q w ((w.alloc (.cells (bytesV x) 24)).alloc (.cells (encV zeroE34) 51)) := by rw [← hq]; exact ((Below.refl _ w).alloc (Nat.le_refl _) _).alloc (by simp) _
  have k1 : Hid (Blk ((w.alloc (.cells (bytesV x) 24)).alloc (.cells (encV zeroE34) 51)) q 24 (bytesV x)) := by rw [← hq]; exact (Blk.new w 24 _).alloc _
  have k2 : Hid (Blk ((w.alloc (.cells (bytesV x) 24)).alloc (.cells (encV zeroE34) 51)) (q + 1) 51 (encV zeroE34)) := by
    have := Blk.new (w.alloc (.cells (bytesV x) 24)) 51 (encV zeroE34)
    rw [show (w.alloc (.cells (bytesV x) 24)).heap.size = q + 1 by simp [hq]] at this
    exact this
  have R1 := hidd (h.to (by rw [hq]; exact b1))
  have b1' := hidd b1
  have l1 := hidd (ld24 k1.out hx.out)
  have hE := hidd (oldE_is h.ok hx.out)
  have hlt := hidd (fun k (hk : v.ownBlock = some k) => (h.own.lt k hk).2)
  have hM := h.blk.lt
  rw [hq] at hlt hM
  clear h hx0 b1
  go_enter Try.func20, Try.ntmps20
  go_wp2_with (with_reducible show wpList _ _ _ (⟨_, Op.load 24 (.tmp 3), _, _, _, _⟩ :: _) _ _
               rw [show (#[.int .u8 0, .int .u8 0, .int .u8 0, .int .u8 0, .int .u8 0, .int .u8 0, .int .u8 0, .int .u8 0, .int .u8 0, .int .u8 0, .int .u8 0, .int .u8 0, .int .u8 0, .int .u8 0, .int .u8 0, .int .u8 0, .int .u8 0, .int .u8 0, .int .u8 0, .int .u8 0, .int .u8 0, .int .u8 0, .int .u8 0, .int .u8 0, .int .u8 0, .int .u8 0, .int .u8 0, .int .u8 0, .int .u8 0, .int .u8 0, .int .u8 0, .int .u8 0, .int .u32 0, .int .u64 0] : Array Value) = encV zeroE34 from rfl]
               generalize (w.alloc (.cells (bytesV x) 24)).alloc (.cells (encV zeroE34) 51) = W1 at k1 k2 b1' l1 R1 ⊢
               refine wpList_load_want (by kernel_rfl) 24 _ rfl _ rfl _ (by with_reducible exact l1.out) ?_)
  refine (old_ref W1 R1.out x hx.out).mono ?_
  rintro r W2 ⟨rfl, b2⟩
  obtain ⟨e, hoe⟩ : ∃ e, oldE x es = e := ⟨_, rfl⟩
  rw [hoe] at hE ⊢
  have hoe' := hidd hoe
  have R2 := hidd (R1.out.to b2)
  have k3 := hidd (k1.out.below b2 k1.out.lt)
  have k4 := hidd (k2.out.below b2 k2.out.lt)
  have b3 : Hid (Below q w W2) := b1'.out.trans (b2.mono (by have := b1'.out.size; omega))
  obtain ⟨d, hd⟩ : ∃ d, W2.heap.size = d := ⟨_, rfl⟩
  have hqd : q + 1 < d := by have := k4.out.lt; omega
  have K5 : Hid (Blk (W2.alloc (.cells (encV e) 51)) d 51 (encV e)) := by rw [← hd]; exact Blk.new W2 51 _
  have R5 := hidd (R2.out.to ((Below.refl _ W2).alloc (Nat.le_refl _) (.cells (encV e) 51)))
  have b5 := hidd (b3.out.alloc (by omega) (.cells (encV e) 51))
  have k5 : Hid (Blk (W2.alloc (.cells (encV e) 51)) q 24 (bytesV x)) := k3.out.alloc _
  have k6 : Hid (Blk (W2.alloc (.cells (encV e) 51)) (q + 1) 51 (encV zeroE34)) := k4.out.alloc _
  clear b2 k1 k2 l1 R1 b1' b3 R2 k4 k3 hoe
  go_wp2_with (first
    | (with_reducible show wpList _ _ _ (⟨_, Op.store 51 (.tmp 5) _, _, _, _, _⟩ :: _) _ _
       refine wpList_store_new rfl rfl 51 (.tmp 5) _ rfl _ _ (encV e) rfl hd.symm rfl (size51 hE.out) (Eq.trans (b := 34) (by kernel_rfl) (encV_size hE.out).symm) (ones_enc e) ?_
       generalize W2.alloc (.cells (encV e) 51) = W5 at K5 R5 b5 k5 k6 ⊢
       have l5 := hidd (ld24 k5.out hx.out))
    | (with_reducible show wpList _ _ _ (⟨_, Op.load 24 _, _, _, _, _⟩ :: _) _ _; refine wpList_load_want (by kernel_rfl) 24 _ rfl _ rfl _ (by with_reducible exact l5.out) ?_))
  refine (at_ref W5 R5.out x hx.out).mono ?_
  rintro r W6 ⟨rfl, b6⟩
  have R6 := hidd (R5.out.to b6)
  have K6 := hidd (K5.out.below b6 K5.out.lt)
  have k7 := hidd (k6.out.below b6 k6.out.lt)
  have B6 : Hid (Below q w W6) := b5.out.trans (b6.mono (by have := b5.out.size; omega))
  have l6 := hidd (ld51 K6.out hE.out)
  clear b6 K5 R5 b5 k5 k6 l5
  by_cases hi : idx (isA x) es < 0
  · have hL : Hid (ofL x es = es) := by refine hidd ?_; rw [ofL, if_pos hi]
    obtain ⟨ii, hii⟩ : ∃ ii, idx (isA x) es = ii := ⟨_, rfl⟩
    rw [hii] at hi ⊢
    have hge : decide (0 ≤ ii) = false := by simp; omega
    clear hii
    go_wp2_with (first
      | (with_reducible show wpList _ _ _ (⟨_, Op.load 51 _, _, _, _, _⟩ :: _) _ _; refine wpList_load_want (by kernel_rfl) 51 _ rfl _ rfl _ (by with_reducible exact l6.out) ?_)
      | (with_reducible show wpList _ _ _ (⟨_, Op.store 51 (.tmp 4) _, _, _, _, _⟩ :: _) _ _; refine wpList_store_blk rfl rfl 51 (.tmp 4) _ rfl (q + 1) 51 (encV zeroE34) (encV e) k7.out rfl rfl (size51 hE.out) (by rw [encV_size hE.out, encV_size z34_is]) (ones_enc _) ?_))
    refine bodyPost_ret (res20 hE.out rfl (k7.out.setRow _)) rfl ⟨by rw [hoe'.out], v, ?_, Fr.of_below (by rw [hq]; exact below_setRow B6.out (by omega) _) _, fun k hk => .inl hk⟩
    rw [hL.out]
    have f8 : Fr (· = q + 1) W6 (W6.setRow (q + 1) (encV e)) := fr_row W6 (q + 1) (encV e)
    exact ⟨R6.out.blk.fr f8 (by omega), ownRow_fr R6.out.own f8 (fun k hk e => by have := hlt.out k hk; omega), R6.out.ok, R6.out.max⟩
  · have hL : Hid (ofL x es = frontE e es) := by refine hidd ?_; rw [ofL, if_neg hi, hoe'.out]
    obtain ⟨ii, hii⟩ : ∃ ii, idx (isA x) es = ii := ⟨_, rfl⟩
    rw [hii] at hi ⊢
    have hge : decide (0 ≤ ii) = true := by simp; omega
    clear hii
    go_wp2_with (first
      | (with_reducible show wpList _ _ _ (⟨_, Op.load 51 _, _, _, _, _⟩ :: _) _ _; refine wpList_load_want (by kernel_rfl) 51 _ rfl _ rfl _ (by with_reducible exact l6.out) ?_))
    refine (front_ref W6 R6.out e hE.out).mono ?_
    rintro r W7 ⟨⟨z, rfl⟩, v7, r7, f7, s7⟩
    have R7 := hidd r7
    have F7 := hidd f7
    have S7 := hidd s7
    have hW6 := B6.out.size
    have hS7 : ∀ k, (k = M ∨ v.ownBlock = some k) → k < q := fun k hk => by
      rcases hk with e | e
      · omega
      · exact hlt.out k e
    have K7 := hidd (K6.out.fr f7 (fun h => by have := hS7 _ h; omega))
    have k8 := hidd (k7.out.fr f7 (fun h => by have := hS7 _ h; omega))
    have l7 := hidd (ld51 K7.out hE.out)
    clear r7 f7 s7 l6
    go_wp2_with (first
      | (with_reducible show wpList _ _ _ (⟨_, Op.load 51 _, _, _, _, _⟩ :: _) _ _; refine wpList_load_want (by kernel_rfl) 51 _ rfl _ rfl _ (by with_reducible exact l7.out) ?_)
      | (with_reducible show wpList _ _ _ (⟨_, Op.store 51 (.tmp 4) _, _, _, _, _⟩ :: _) _ _; refine wpList_store_blk rfl rfl 51 (.tmp 4) _ rfl (q + 1) 51 (encV zeroE34) (encV e) k8.out rfl rfl (size51 hE.out) (by rw [encV_size hE.out, encV_size z34_is]) (ones_enc _) ?_))
    have f8 : Fr (· = q + 1) W7 (W7.setRow (q + 1) (encV e)) := fr_row W7 (q + 1) (encV e)
    refine bodyPost_ret (res20 hE.out rfl (k8.out.setRow _)) rfl ⟨by rw [hoe'.out], v7, ?_, ?_, fun k hk => ?_⟩
    · rw [hL.out]
      exact ⟨R7.out.blk.fr f8 (by omega), ownRow_fr R7.out.own f8 (fun k hk e => by
        rcases S7.out k hk with h | h
        · have := hlt.out k h; omega
        · have := k7.out.lt; omega), R7.out.ok, R7.out.max⟩
    · exact ((Fr.of_below (by rw [hq]; exact B6.out) _).trans F7.out).far f8 (fun j e => by omega)
    · rcases S7.out k hk with h | h
      · exact .inl h
      · exact .inr (by omega)
end Go.Proofs.Ytpjjcihhmhccfaa
