/- The reference's cache in memory; where an address is; each function walked once. No condition. -/
import Derived.Test.YtpjjcihhmhccfaaSeen
import Derived.Deep.RegionHeld3
namespace Go.Proofs.Ytpjjcihhmhccfaa
open Go.ChangeShapes Go.WideShapes Go.ChangeAt Go.RowKit Go.Deep
set_option linter.unusedVariables false
set_option linter.unusedSimpArgs false

theorem info51 : (Try.prog.info? 51).map (·.size) = some 34 := by kernel_rfl
theorem size51 {e : E} (h : IsE e) : (Try.prog.info? 51).map (·.size) = some (encV e).size := by rw [encV_size h]; exact info51
theorem ld51 {W : World} {b : Nat} {e : E} (h : Blk W b 51 (encV e)) (he : IsE e) : (loadVar 51 ⟨b, 0, none⟩).run Try.prog W = .ok (.agg (encV e)) W := h.load Try.underlying51 rfl (size51 he)
section
variable {W : World} {b g j : Nat} {t : TypeId} {e : E}
theorem bDst (he : IsE e) (h : Blk W b t (encV e)) : (loadVar 24 ⟨b, 0, none⟩).run Try.prog W = .ok (.agg (bytesV e.1)) W := h.part (at_dst he) Try.underlying24 rfl (by rw [he.a.len]; exact info24)
theorem bNext (he : IsE e) (h : Blk W b t (encV e)) : (loadVar 24 ⟨b, 16, none⟩).run Try.prog W = .ok (.agg (bytesV e.2.1)) W := h.part (at_next he) Try.underlying24 rfl (by rw [he.n.len]; exact info24)
theorem gMtu (he : IsE e) (h : W.rangeAt g (j * 34) (enc e)) : W.cell? ⟨g, j * 34 + 32, none⟩ = some (.int .u32 e.2.2.1) := h 32 _ (by have := at_mtu he; rwa [encV, List.getElem?_toArray] at this)
theorem gUntil (he : IsE e) (h : W.rangeAt g (j * 34) (enc e)) : W.cell? ⟨g, j * 34 + 33, none⟩ = some (.int .u64 e.2.2.2) := h 33 _ (by have := at_until he; rwa [encV, List.getElem?_toArray] at this)
theorem gAll (he : IsE e) (h : W.rangeAt g (j * 34) (enc e)) : (loadVar 51 ⟨g, j * 34, none⟩).run Try.prog W = .ok (.agg (encV e)) W :=
  run_loadVar_mid (P := Try.prog) W g (j * 34) 51 (enc e) _ h Try.underlying51 rfl (by rw [isEnc.len e he]; exact info51)
theorem gDst (he : IsE e) (h : W.rangeAt g (j * 34) (enc e)) : (loadVar 24 ⟨g, j * 34, none⟩).run Try.prog W = .ok (.agg (bytesV e.1)) W :=
  run_loadVar_mid (P := Try.prog) W g (j * 34) 24 (e.1.map (Value.int .u8)) _ (fun i v hv => h i v (by rw [enc, List.getElem?_append_left (List.getElem?_eq_some_iff.1 hv).1]; exact hv)) Try.underlying24 rfl (by rw [List.length_map, he.a.len]; exact info24)
theorem gNext (he : IsE e) (h : W.rangeAt g (j * 34) (enc e)) : (loadVar 24 ⟨g, j * 34 + 16, none⟩).run Try.prog W = .ok (.agg (bytesV e.2.1)) W :=
  run_loadVar_mid (P := Try.prog) W g (j * 34 + 16) 24 (e.2.1.map (Value.int .u8)) _ (fun i v hv => by
    rw [Nat.add_assoc]
    refine h (16 + i) v ?_
    have h1 := List.getElem?_eq_some_iff.1 hv
    obtain ⟨h1, h2⟩ := h1
    rw [enc, List.getElem?_append_right (by simp [he.a.len]), List.getElem?_append_left (by simp [he.a.len] at h1 ⊢; omega)]
    simp only [List.length_map, he.a.len, Nat.add_sub_cancel_left]
    exact hv) Try.underlying24 rfl (by rw [List.length_map, he.n.len]; exact info24)
end
/-- The reference's cache. -/
structure Rf (W : World) (M : Nat) (v : Value) (es : List E) : Prop where
  blk : Blk W M 49 #[v]
  own : W.ownsRow (M + 1) 51 34 v es.length (flatE es)
  ok : ∀ e ∈ es, IsE e
  max : es.length ≤ 32
section
variable {w W V : World} {M : Nat} {v : Value} {es : List E}
theorem Rf.to (h : Rf W M v es) (hb : Below W.heap.size W V) : Rf V M v es := ⟨h.blk.below hb h.blk.lt, ownRow_fr h.own (Fr.of_below hb (fun _ => False)) (fun _ _ e => e), h.ok, h.max⟩
theorem Rf.draw (h : Rf W M v es) : Rf W.drew M v es := h.to (Below.refl _ W).drew
theorem Rf.v0 (h : Rf W M v es) : W.cell? ⟨M, 0, none⟩ = some v := h.blk.at_ rfl
theorem Rf.slice (h : Rf W M v es) : ∃ A c, v = .slice A es.length c ∧ es.length ≤ c ∧ c ≤ 9223372036854775807 := by
  obtain ⟨A, c, rfl, hr⟩ := own_rd h.own
  have := hr.cmax
  unfold maxLen at this
  exact ⟨A, c, rfl, hr.cap, by omega⟩
theorem Rf.pos (h : Rf W M v es) (hn : 0 < es.length) : ∃ g c, v = .slice (some ⟨g, 0, none⟩) es.length c ∧ M < g ∧ ∀ j e, es[j]? = some e → W.rangeAt g (j * 34) (enc e) := by
  obtain ⟨g, c, rfl, h1, h2⟩ := own_pos h.own hn
  exact ⟨g, c, rfl, by omega, fun j e he => own_range h.own isEnc rfl h.ok he⟩
end
/-- While it is looked for. -/
structure Rx (w W : World) (M q : Nat) (v : Value) (es : List E) (x : List Int) : Prop where
  rf : Rf W M v es
  box : Blk W q 24 (bytesV x)
  bel : Below w.heap.size w W
theorem Rx.draw {w W : World} {M q : Nat} {v : Value} {es : List E} {x : List Int} (h : Rx w W M q v es x) : Rx w W.drew M q v es x := ⟨h.rf.draw, h.box.drew, h.bel.drew⟩
theorem Rx.new {w : World} {M : Nat} {v : Value} {es : List E} (h : Rf w M v es) (x : List Int) {q : Nat} (hq : w.heap.size = q) : Rx w (w.alloc (.cells (bytesV x) 24)) M q v es x :=
  ⟨h.to ((Below.refl _ w).alloc (Nat.le_refl _) _), by rw [← hq]; exact Blk.new w 24 _, (Below.refl _ w).alloc (Nat.le_refl _) _⟩
abbrev isA (x : List Int) (e : E) : Bool := e.1 == x
set_option maxRecDepth 100000 in
set_option maxHeartbeats 4000000 in
theorem at_ref (w : World) {M : Nat} {v : Value} {es : List E} (h : Rf w M v es) (x : List Int) (hx0 : IsAddr x) : Calls Try.prog 32 #[ptr M, .agg (bytesV x)] w fun r w' => r = .returned (.int .i64 (idx (isA x) es)) ∧ Below w.heap.size w w' := by
  obtain ⟨A, c, rfl, hcn, hcm⟩ := h.slice
  obtain ⟨q, hq⟩ : ∃ q, w.heap.size = q := ⟨_, rfl⟩
  obtain ⟨n, hn⟩ : ∃ n, es.length = n := ⟨_, rfl⟩
  have R1 := hidd (Rx.new h x hq)
  have hx := hidd hx0
  have hmax := h.max
  have hok := hidd h.ok
  rw [hn] at R1 hmax hcn
  have hn' := hidd hn
  clear h hx0
  go_enter Try.func32, Try.ntmps32
  go_wp2_with fail
  generalize w.alloc (.cells (bytesV x) 24) = w1 at R1 ⊢
  go_loopw [5] (fun i wr => ∃ j : Nat, j ≤ n ∧ i = .int .i64 j ∧ Rx w wr M q (.slice A n c) es x ∧ (es.take j).any (isA x) = false) (fun i _ => n - (intOf i).toNat)
  case atStart => exact ⟨0, Nat.zero_le _, rfl, R1.out, rfl⟩
  case round =>
    obtain ⟨j, hj, rfl, hR, hno⟩ := hrel
    have R2 := hidd hR
    have hno' := hidd hno
    have c0 := hR.rf.v0
    clear hR R1 hno
    by_cases hjn : j < n
    · obtain ⟨e, he⟩ : ∃ e, es[j]? = some e := ⟨_, List.getElem?_eq_getElem (by omega)⟩
      have hE := hidd (hok.out e (List.mem_of_getElem? he))
      obtain ⟨g, c2, hv, hg, hrow⟩ := R2.out.rf.pos (by omega)
      injection hv with hA hn2 hc2
      subst hA hc2
      have R3 := hidd R2.out.draw
      have S4 : Hid (wr.drew.cell? ⟨M, 0, none⟩ = some (.slice (some ⟨g, 0, none⟩) n c) ∧ (loadVar 24 ⟨g, j * 34, none⟩).run Try.prog wr.drew = .ok (.agg (bytesV e.1)) wr.drew ∧ (loadVar 24 ⟨q, 0, none⟩).run Try.prog wr.drew = .ok (.agg (bytesV x)) wr.drew) :=
        ⟨R3.out.rf.v0, gDst (W := wr.drew) hE.out (hrow j e he), ld24 R3.out.box hx.out⟩
      have heq := fun V => eql24 V hE.out.a hx.out
      have hgd := guard24
      have hjz : (j : Int) < (n : Int) := by omega
      have he' := hidd he
      clear hrow he hn2
      cases hd : isA x e with
      | true =>
        have hd' : (e.1 == x) = true := hd
        rw [hd'] at heq
        have hix := hidd (idx_at he'.out hd hno'.out)
        clear hd hd'
        go_wp2
        refine wp_region_held_drew (S := (fun V => V.cell? ⟨M, 0, none⟩ = some (.slice (some ⟨g, 0, none⟩) n c) ∧ (loadVar 24 ⟨g, j * 34, none⟩).run Try.prog V = .ok (.agg (bytesV e.1)) V ∧ (loadVar 24 ⟨q, 0, none⟩).run Try.prog V = .ok (.agg (bytesV x)) V)) (by kernel_rfl) S4.out (fun hHeld => ?_)
        generalize wr.drew = D at R3 S4 hHeld ⊢
        refine wpAnyH_take (i := 0) (v := ?_) rfl (by kernel_rfl) (by kernel_rfl) (by kernel_rfl) (fun _ _ _ h => h) (Or.inl ⟨by kernel_rfl, ?_⟩) hHeld ?_
        rotate_left
        · intro wh hSw
          go_simp
          try with_reducible rfl
        try simp only [Act.put, List.getElem_toArray, List.getElem_cons_zero, List.getElem_cons_succ, List.setIfInBounds_toArray, List.set_cons_zero, List.set_cons_succ]
        refine wpAnyH_take (i := 1) (v := ?_) rfl (by kernel_rfl) (by kernel_rfl) (by kernel_rfl) (fun _ _ _ h => h) (Or.inl ⟨by kernel_rfl, ?_⟩) hHeld ?_
        rotate_left
        · intro wh hSw
          go_simp
          try with_reducible rfl
        try simp only [Act.put, List.getElem_toArray, List.getElem_cons_zero, List.getElem_cons_succ, List.setIfInBounds_toArray, List.set_cons_zero, List.set_cons_succ]
        refine wpAnyH_take (i := 2) (v := ?_) rfl (by kernel_rfl) (by kernel_rfl) (by kernel_rfl) (fun _ _ _ h => h) (Or.inl ⟨by kernel_rfl, ?_⟩) hHeld ?_
        rotate_left
        · intro wh hSw
          go_simp
          try with_reducible rfl
        try simp only [Act.put, List.getElem_toArray, List.getElem_cons_zero, List.getElem_cons_succ, List.setIfInBounds_toArray, List.set_cons_zero, List.set_cons_succ]
        refine wpAnyH_take (i := 3) (v := ?_) rfl (by kernel_rfl) (by kernel_rfl) (by kernel_rfl) (fun _ _ _ h => h) (Or.inl ⟨by kernel_rfl, ?_⟩) hHeld ?_
        rotate_left
        · intro wh hSw
          have hcell := hSw.1
          go_simp
          try with_reducible rfl
        try simp only [Act.put, List.getElem_toArray, List.getElem_cons_zero, List.getElem_cons_succ, List.setIfInBounds_toArray, List.set_cons_zero, List.set_cons_succ]
        refine wpAnyH_take (i := 4) (v := ?_) rfl (by kernel_rfl) (by kernel_rfl) (by kernel_rfl) (fun _ _ _ h => h) (Or.inl ⟨by kernel_rfl, ?_⟩) hHeld ?_
        rotate_left
        · intro wh hSw
          go_simp
          try with_reducible rfl
        try simp only [Act.put, List.getElem_toArray, List.getElem_cons_zero, List.getElem_cons_succ, List.setIfInBounds_toArray, List.set_cons_zero, List.set_cons_succ]
        refine wpAnyH_take (i := 5) (v := ?_) rfl (by kernel_rfl) (by kernel_rfl) (by kernel_rfl) (fun _ _ _ h => h) (Or.inl ⟨by kernel_rfl, ?_⟩) hHeld ?_
        rotate_left
        · intro wh hSw
          go_simp
          try with_reducible rfl
        try simp only [Act.put, List.getElem_toArray, List.getElem_cons_zero, List.getElem_cons_succ, List.setIfInBounds_toArray, List.set_cons_zero, List.set_cons_succ]
        refine wpAnyH_take (i := 6) (v := ?_) rfl (by kernel_rfl) (by kernel_rfl) (by kernel_rfl) (fun _ _ _ h => h) (Or.inl ⟨by kernel_rfl, ?_⟩) hHeld ?_
        rotate_left
        · intro wh hSw
          go_simp
          try with_reducible rfl
        try simp only [Act.put, List.getElem_toArray, List.getElem_cons_zero, List.getElem_cons_succ, List.setIfInBounds_toArray, List.set_cons_zero, List.set_cons_succ]
        refine wpAnyH_take (i := 7) rfl (by kernel_rfl) (by kernel_rfl) (by kernel_rfl) (fun _ _ _ h => h) (yieldsIf_load_want (by kernel_rfl) 24 _ rfl _ rfl _ (fun wh hSw => hSw.2.1)) hHeld ?_
        try simp only [Act.put, List.getElem_toArray, List.getElem_cons_zero, List.getElem_cons_succ, List.setIfInBounds_toArray, List.set_cons_zero, List.set_cons_succ]
        refine wpAnyH_take (i := 8) rfl (by kernel_rfl) (by kernel_rfl) (by kernel_rfl) (fun _ _ _ h => h) (yieldsIf_load_want (by kernel_rfl) 24 _ rfl _ rfl _ (fun wh hSw => hSw.2.2)) hHeld ?_
        try simp only [Act.put, List.getElem_toArray, List.getElem_cons_zero, List.getElem_cons_succ, List.setIfInBounds_toArray, List.set_cons_zero, List.set_cons_succ]
        refine wpAnyH_take (i := 9) (v := ?_) rfl (by kernel_rfl) (by kernel_rfl) (by kernel_rfl) (fun _ _ _ h => h) (Or.inl ⟨by kernel_rfl, ?_⟩) hHeld ?_
        rotate_left
        · intro wh hSw
          go_simp
          try with_reducible rfl
        try simp only [Act.put, List.getElem_toArray, List.getElem_cons_zero, List.getElem_cons_succ, List.setIfInBounds_toArray, List.set_cons_zero, List.set_cons_succ]
        refine wpAnyH_done (by kernel_rfl) ?_ _
        clear hHeld
        go_wp2
        go_ret
        exact ⟨by rw [hix.out]; rfl, R3.out.bel⟩
      | false =>
        have hd' : (e.1 == x) = false := hd
        rw [hd'] at heq
        have hne := hidd ((take_any he'.out hno'.out).trans hd)
        clear hd hd'
        go_wp2
        refine wp_region_held_drew (S := (fun V => V.cell? ⟨M, 0, none⟩ = some (.slice (some ⟨g, 0, none⟩) n c) ∧ (loadVar 24 ⟨g, j * 34, none⟩).run Try.prog V = .ok (.agg (bytesV e.1)) V ∧ (loadVar 24 ⟨q, 0, none⟩).run Try.prog V = .ok (.agg (bytesV x)) V)) (by kernel_rfl) S4.out (fun hHeld => ?_)
        generalize wr.drew = D at R3 S4 hHeld ⊢
        refine wpAnyH_take (i := 0) (v := ?_) rfl (by kernel_rfl) (by kernel_rfl) (by kernel_rfl) (fun _ _ _ h => h) (Or.inl ⟨by kernel_rfl, ?_⟩) hHeld ?_
        rotate_left
        · intro wh hSw
          go_simp
          try with_reducible rfl
        try simp only [Act.put, List.getElem_toArray, List.getElem_cons_zero, List.getElem_cons_succ, List.setIfInBounds_toArray, List.set_cons_zero, List.set_cons_succ]
        refine wpAnyH_take (i := 1) (v := ?_) rfl (by kernel_rfl) (by kernel_rfl) (by kernel_rfl) (fun _ _ _ h => h) (Or.inl ⟨by kernel_rfl, ?_⟩) hHeld ?_
        rotate_left
        · intro wh hSw
          go_simp
          try with_reducible rfl
        try simp only [Act.put, List.getElem_toArray, List.getElem_cons_zero, List.getElem_cons_succ, List.setIfInBounds_toArray, List.set_cons_zero, List.set_cons_succ]
        refine wpAnyH_take (i := 2) (v := ?_) rfl (by kernel_rfl) (by kernel_rfl) (by kernel_rfl) (fun _ _ _ h => h) (Or.inl ⟨by kernel_rfl, ?_⟩) hHeld ?_
        rotate_left
        · intro wh hSw
          go_simp
          try with_reducible rfl
        try simp only [Act.put, List.getElem_toArray, List.getElem_cons_zero, List.getElem_cons_succ, List.setIfInBounds_toArray, List.set_cons_zero, List.set_cons_succ]
        refine wpAnyH_take (i := 3) (v := ?_) rfl (by kernel_rfl) (by kernel_rfl) (by kernel_rfl) (fun _ _ _ h => h) (Or.inl ⟨by kernel_rfl, ?_⟩) hHeld ?_
        rotate_left
        · intro wh hSw
          have hcell := hSw.1
          go_simp
          try with_reducible rfl
        try simp only [Act.put, List.getElem_toArray, List.getElem_cons_zero, List.getElem_cons_succ, List.setIfInBounds_toArray, List.set_cons_zero, List.set_cons_succ]
        refine wpAnyH_take (i := 4) (v := ?_) rfl (by kernel_rfl) (by kernel_rfl) (by kernel_rfl) (fun _ _ _ h => h) (Or.inl ⟨by kernel_rfl, ?_⟩) hHeld ?_
        rotate_left
        · intro wh hSw
          go_simp
          try with_reducible rfl
        try simp only [Act.put, List.getElem_toArray, List.getElem_cons_zero, List.getElem_cons_succ, List.setIfInBounds_toArray, List.set_cons_zero, List.set_cons_succ]
        refine wpAnyH_take (i := 5) (v := ?_) rfl (by kernel_rfl) (by kernel_rfl) (by kernel_rfl) (fun _ _ _ h => h) (Or.inl ⟨by kernel_rfl, ?_⟩) hHeld ?_
        rotate_left
        · intro wh hSw
          go_simp
          try with_reducible rfl
        try simp only [Act.put, List.getElem_toArray, List.getElem_cons_zero, List.getElem_cons_succ, List.setIfInBounds_toArray, List.set_cons_zero, List.set_cons_succ]
        refine wpAnyH_take (i := 6) (v := ?_) rfl (by kernel_rfl) (by kernel_rfl) (by kernel_rfl) (fun _ _ _ h => h) (Or.inl ⟨by kernel_rfl, ?_⟩) hHeld ?_
        rotate_left
        · intro wh hSw
          go_simp
          try with_reducible rfl
        try simp only [Act.put, List.getElem_toArray, List.getElem_cons_zero, List.getElem_cons_succ, List.setIfInBounds_toArray, List.set_cons_zero, List.set_cons_succ]
        refine wpAnyH_take (i := 7) rfl (by kernel_rfl) (by kernel_rfl) (by kernel_rfl) (fun _ _ _ h => h) (yieldsIf_load_want (by kernel_rfl) 24 _ rfl _ rfl _ (fun wh hSw => hSw.2.1)) hHeld ?_
        try simp only [Act.put, List.getElem_toArray, List.getElem_cons_zero, List.getElem_cons_succ, List.setIfInBounds_toArray, List.set_cons_zero, List.set_cons_succ]
        refine wpAnyH_take (i := 8) rfl (by kernel_rfl) (by kernel_rfl) (by kernel_rfl) (fun _ _ _ h => h) (yieldsIf_load_want (by kernel_rfl) 24 _ rfl _ rfl _ (fun wh hSw => hSw.2.2)) hHeld ?_
        try simp only [Act.put, List.getElem_toArray, List.getElem_cons_zero, List.getElem_cons_succ, List.setIfInBounds_toArray, List.set_cons_zero, List.set_cons_succ]
        refine wpAnyH_take (i := 9) (v := ?_) rfl (by kernel_rfl) (by kernel_rfl) (by kernel_rfl) (fun _ _ _ h => h) (Or.inl ⟨by kernel_rfl, ?_⟩) hHeld ?_
        rotate_left
        · intro wh hSw
          go_simp
          try with_reducible rfl
        try simp only [Act.put, List.getElem_toArray, List.getElem_cons_zero, List.getElem_cons_succ, List.setIfInBounds_toArray, List.set_cons_zero, List.set_cons_succ]
        refine wpAnyH_done (by kernel_rfl) ?_ _
        clear hHeld
        go_wp2
        go_roundw
        case rel => exact ⟨j + 1, by omega, by go_num, R3.out, hne.out⟩
        case measure => simp [intOf]; omega
    · have hjn' : j = n := by omega
      have hno2 := hno'.out
      rw [List.take_of_length_le (by rw [hn'.out]; omega)] at hno2
      have hix := hidd (idx_none hno2)
      clear hno2
      subst hjn'
      go_wp2
      go_ret
      exact ⟨by rw [hix.out]; rfl, R2.out.bel⟩
end Go.Proofs.Ytpjjcihhmhccfaa
