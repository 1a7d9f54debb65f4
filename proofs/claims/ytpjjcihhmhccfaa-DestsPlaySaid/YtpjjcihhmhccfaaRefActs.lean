/- The reference: a redirect, a look, an entry that is turned; each function walked once. No condition. -/
import Derived.Test.YtpjjcihhmhccfaaBare
namespace Go.Proofs.Ytpjjcihhmhccfaa
open Go.ChangeShapes Go.WideShapes Go.ChangeAt Go.RowKit Go.Deep
set_option linter.unusedVariables false
set_option linter.unusedSimpArgs false

theorem oldE_is {x : List Int} {es : List E} (hok : ∀ e ∈ es, IsE e) (hx : IsAddr x) : IsE (oldE x es) := by
  rw [oldE]
  split
  · exact newE_is hx
  · cases h : es[(idx (isA x) es).toNat]? with
    | none => exact newE_is hx
    | some e => exact hok e (List.mem_of_getElem? h)
set_option maxRecDepth 100000 in
set_option maxHeartbeats 4000000 in
theorem redirect_ref (w : World) {M : Nat} {v : Value} {es : List E} (h : Rf w M v es) (x y : List Int) (hx0 : IsAddr x) (hy0 : IsAddr y) :
    Calls Try.prog 17 #[ptr M, .agg (bytesV x), .agg (bytesV y)] w fun r w' => (∃ z, r = .returned z) ∧ TurnSays w M v (frontE ((oldE x es).1, y, (oldE x es).2.2) es) w' := by
  obtain ⟨q, hq⟩ : ∃ q, w.heap.size = q := ⟨_, rfl⟩
  have hx := hidd hx0
  have hy := hidd hy0
  have b1 : Below q w ((w.alloc (.cells (bytesV x) 24)).alloc (.cells (bytesV y) 24)) := by rw [← hq]; exact ((Below.refl _ w).alloc (Nat.le_refl _) _).alloc (by simp) _
  have k1 : Hid (Blk ((w.alloc (.cells (bytesV x) 24)).alloc (.cells (bytesV y) 24)) q 24 (bytesV x)) := by rw [← hq]; exact (Blk.new w 24 _).alloc _
  have k2 : Hid (Blk ((w.alloc (.cells (bytesV x) 24)).alloc (.cells (bytesV y) 24)) (q + 1) 24 (bytesV y)) := by
    have := Blk.new (w.alloc (.cells (bytesV x) 24)) 24 (bytesV y)
    rw [show (w.alloc (.cells (bytesV x) 24)).heap.size = q + 1 by simp [hq]] at this
    exact this
  have R1 := hidd (h.to (by rw [hq]; exact b1))
  have b1' := hidd b1
  have l1 := hidd (ld24 k1.out hx.out)
  have hE := hidd (oldE_is h.ok hx.out)
  have hlt := hidd (fun k (hk : v.ownBlock = some k) => (h.own.lt k hk).2)
  have hM := h.blk.lt
  clear h hx0 hy0 b1
  go_enter Try.func17, Try.ntmps17
  go_wp2_with (with_reducible show wpList _ _ _ (⟨_, Op.load 24 (.tmp 4), _, _, _, _⟩ :: _) _ _
               generalize (w.alloc (.cells (bytesV x) 24)).alloc (.cells (bytesV y) 24) = W1 at k1 k2 b1' l1 R1 ⊢
               refine wpList_load_want (by kernel_rfl) 24 _ rfl _ rfl _ (by with_reducible exact l1.out) ?_)
  refine (old_ref W1 R1.out x hx.out).mono ?_
  rintro r W2 ⟨rfl, b2⟩
  obtain ⟨e, hoe⟩ : ∃ e, oldE x es = e := ⟨_, rfl⟩
  rw [hoe] at hE ⊢
  have hoe' := hidd hoe
  have R2 := hidd (R1.out.to b2)
  have k4 := hidd (k2.out.below b2 k2.out.lt)
  have b3 : Hid (Below q w W2) := b1'.out.trans (b2.mono (by have := b1'.out.size; omega))
  obtain ⟨d, hd⟩ : ∃ d, W2.heap.size = d := ⟨_, rfl⟩
  have hqd : q + 1 < d := by have := k4.out.lt; omega
  have K5 : Hid (Blk (W2.alloc (.cells (encV e) 51)) d 51 (encV e)) := by rw [← hd]; exact Blk.new W2 51 _
  have R5 := hidd (R2.out.to ((Below.refl _ W2).alloc (Nat.le_refl _) (.cells (encV e) 51)))
  have b5 := hidd (b3.out.alloc (by omega) (.cells (encV e) 51))
  have k5 : Hid (Blk (W2.alloc (.cells (encV e) 51)) (q + 1) 24 (bytesV y)) := k4.out.alloc _
  clear b2 k1 k2 l1 R1 b1' b3 R2 k4 hoe
  have hEy : Hid (IsE (e.1, y, e.2.2)) := ⟨hE.out.a, hy.out, hE.out.m, hE.out.u⟩
  go_wp2_with (first
    | (with_reducible show wpList _ _ _ (⟨_, Op.store 51 (.tmp 6) _, _, _, _, _⟩ :: _) _ _
       refine wpList_store_new rfl rfl 51 (.tmp 6) _ rfl _ _ (encV e) rfl hd.symm rfl (size51 hE.out) (Eq.trans (b := 34) (by kernel_rfl) (encV_size hE.out).symm) (ones_enc e) ?_
       generalize W2.alloc (.cells (encV e) 51) = W5 at K5 R5 b5 k5 ⊢
       have l5 := hidd (ld24 k5.out hy.out)
       have hth := hidd (K5.out.there (o := 16) (n := 16) (by rw [encV_size hE.out]; omega))
       have K6 : Hid (Blk (W5.setCells d 16 (y.map (Value.int .u8))) d 51 (encV (e.1, y, e.2.2))) := by
         have hk := Blk.over (W := W5) (y.map (Value.int .u8)) 16 W5 (encV e) K5.out
         rwa [set_next hE.out hy.out] at hk
       have f6 := hidd (fr_cells W5 d (y.map (Value.int .u8)) 16))
    | (with_reducible show wpList _ _ _ (⟨_, Op.load 24 _, _, _, _, _⟩ :: _) _ _; refine wpList_load_want (by kernel_rfl) 24 _ rfl _ rfl _ (by with_reducible exact l5.out) ?_)
    | (with_reducible show wpList _ _ _ (⟨_, Op.store 24 _ _, _, _, _, _⟩ :: _) _ _
       refine wpList_store_bytes rfl rfl 24 _ _ rfl d 16 y rfl rfl (by rw [hy.out.len]; exact hth.out) (by rw [hy.out.len]; exact info24) ?_
       generalize W5.setCells d 16 (y.map (Value.int .u8)) = W6 at K6 f6 ⊢
       have l6 := hidd (ld51 K6.out hEy.out))
    | (with_reducible show wpList _ _ _ (⟨_, Op.load 51 _, _, _, _, _⟩ :: _) _ _; refine wpList_load_want (by kernel_rfl) 51 _ rfl _ rfl _ (by with_reducible exact l6.out) ?_))
  have R6 : Hid (Rf W6 M v es) := ⟨R5.out.blk.fr f6.out (by omega), ownRow_fr R5.out.own f6.out (fun k hk e => by have := hlt.out k hk; omega), R5.out.ok, R5.out.max⟩
  have B6 : Hid (Below q w W6) := b5.out.trans (f6.out.below (by have := b5.out.size; omega) (fun k e => by omega))
  refine (front_ref W6 R6.out (e.1, y, e.2.2) hEy.out).mono ?_
  rintro r W7 ⟨⟨z, rfl⟩, v7, R7, f7, s7⟩
  have T7 : Hid (TurnSays w M v (frontE (e.1, y, e.2.2) es) W7) := ⟨v7, R7, (Fr.of_below (by rw [hq]; exact B6.out) _).trans f7, fun k hk => by
    rcases s7 k hk with h | h
    · exact .inl h
    · exact .inr (by have := B6.out.size; omega)⟩
  clear R7 f7 s7
  go_wp2
  go_end0
  exact ⟨⟨_, rfl⟩, by rw [hoe'.out]; exact T7.out⟩
end Go.Proofs.Ytpjjcihhmhccfaa
