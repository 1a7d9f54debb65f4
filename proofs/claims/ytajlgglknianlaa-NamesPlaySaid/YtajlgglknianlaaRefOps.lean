/- The document's book: servers and domains told, walked once. No condition. -/
import Derived.Test.YtajlgglknianlaaRefPut
namespace Go.Proofs.Ytajlgglknianlaa.Rf
open Go.Proofs.Ytajlgglknianlaa Go.ChangeShapes Go.WideShapes Go.ChangeAt Go.RowKit Go.Deep
set_option linter.unusedVariables false
set_option linter.unusedSimpArgs false

theorem own_base {w : World} {base base' : Nat} {t : TypeId} {size n : Nat} {v : Value} {xs : List Value} (h : w.ownsRow base t size v n xs) (hb : base' ≤ base) : w.ownsRow base' t size v n xs := by
  refine ⟨h.1, ?_⟩
  rcases h.2 with h' | ⟨g, cap, cur, hv, h1, h2⟩
  · exact .inl h'
  · exact .inr ⟨g, cap, cur, hv, by omega, h2⟩
/-- The document's book: its block, both lists. -/
structure Rb (W : World) (M : Nat) (v d : Value) (es ds : List E) : Prop where
  blk : Blk W M 53 #[v, d]
  s : W.ownsRow (M + 1) 79 18 v es.length (flat es)
  d : W.ownsRow (M + 1) 79 18 d ds.length (flat ds)
  sok : ∀ e ∈ es, IsE e
  dok : ∀ e ∈ ds, IsE e
  s4 : es.length ≤ 4
  d4 : ds.length ≤ 4
section
variable {w W : World} {M : Nat} {v d : Value} {es ds : List E} {S : Nat → Prop}
theorem Rb.lt (h : Rb w M v d es ds) : M < w.heap.size := h.blk.lt
theorem Rb.fr (h : Rb w M v d es ds) (hf : Fr S w W) (h1 : ¬ S M) (h2 : ∀ k, v.ownBlock = some k → ¬ S k) (h3 : ∀ k, d.ownBlock = some k → ¬ S k) : Rb W M v d es ds :=
  ⟨h.blk.fr hf h1, ownRow_fr h.s hf h2, ownRow_fr h.d hf h3, h.sok, h.dok, h.s4, h.d4⟩
theorem Rb.to (h : Rb w M v d es ds) (hb : Below w.heap.size w W) : Rb W M v d es ds := h.fr (Fr.of_below hb (fun _ => False)) id (fun _ _ => id) (fun _ _ => id)
theorem Rb.turnS (h : Rb w M v d es ds) {v' : Value} {es' : List E} (hb : Below w.heap.size w W) (ho : W.ownsRow w.heap.size 79 18 v' es'.length (flat es')) (hok : ∀ e ∈ es', IsE e) (h4 : es'.length ≤ 4) :
    Rb (W.setCell ⟨M, 0, none⟩ v') M v' d es' ds ∧ Fr (· = M) w (W.setCell ⟨M, 0, none⟩ v') ∧ ∀ k, v'.ownBlock = some k → w.heap.size ≤ k := by
  have hM := h.lt
  have h1 := h.to hb
  have F : Fr (· = M) W (W.setCell ⟨M, 0, none⟩ v') := (Fr.refl _ W).setB v'
  refine ⟨⟨h1.blk.set 0 v', ownRow_fr (own_base ho (by omega)) F (fun k hk e => by have := (ho.lt k hk).1; omega), ownRow_fr h1.d F (fun k hk e => by have := (h.d.lt k hk).1; omega), hok, h.dok, h4, h.d4⟩, (Fr.of_below hb _).trans F, fun k hk => by have := (ho.lt k hk).1; omega⟩
theorem Rb.turnD (h : Rb w M v d es ds) {d' : Value} {ds' : List E} (hb : Below w.heap.size w W) (ho : W.ownsRow w.heap.size 79 18 d' ds'.length (flat ds')) (hok : ∀ e ∈ ds', IsE e) (h4 : ds'.length ≤ 4) :
    Rb (W.setCell ⟨M, 1, none⟩ d') M v d' es ds' ∧ Fr (· = M) w (W.setCell ⟨M, 1, none⟩ d') ∧ ∀ k, d'.ownBlock = some k → w.heap.size ≤ k := by
  have hM := h.lt
  have h1 := h.to hb
  have F : Fr (· = M) W (W.setCell ⟨M, 1, none⟩ d') := (Fr.refl _ W).setB d'
  refine ⟨⟨h1.blk.set 1 d', ownRow_fr h1.s F (fun k hk e => by have := (h.s.lt k hk).1; omega), ownRow_fr (own_base ho (by omega)) F (fun k hk e => by have := (ho.lt k hk).1; omega), h.sok, hok, h.s4, h4⟩, (Fr.of_below hb _).trans F, fun k hk => by have := (ho.lt k hk).1; omega⟩
end
theorem builtS {x : List Int} (h : IsAddr x) (u : Int) : Try.prog.built 79 [(0, .agg (bytesV x)), (2, .int .u64 u)] = some (encV (embS (x, u))) := by
  obtain ⟨_, _, _, _, _, _, _, _, _, _, _, _, _, _, _, _, rfl⟩ := Sv.addr_ex h
  kernel_rfl
theorem builtD (x : ByteArray) (u : Int) : Try.prog.built 79 [(1, .string x), (2, .int .u64 u)] = some (encV (embD (x, u))) := by
  kernel_rfl

set_option maxRecDepth 100000 in
set_option maxHeartbeats 4000000 in
theorem servers_any (w : World) (M : Nat) (v d : Value) (ss : List Sv.E) (dd : List E) (h : Rb w M v d (ss.map embS) dd) (hnd : NoDup Sv.sameT ss) (now life : Int) (h0 : 0 ≤ now) (h1 : now ≤ 18446744073709551615) (l0 : 0 ≤ life) (l1 : life ≤ 4294967295)
    (A : Option Addr) (n c : Nat) (xs : List (List Int)) (hx : Sv.IsL w (· ≠ M) A n c xs) :
    Calls Try.prog 16 #[.pointer (some ⟨M, 0, none⟩), .int .u64 now, .int .u32 life, .slice A n c] w fun e w' => (∃ r, e = .returned r) ∧
      ∃ v', Rb w' M v' d ((putAll Sv.sameT (cadd now (csecs life)) life ss xs).map embS) dd ∧ Fr (· = M) w w' ∧ ∀ k, v'.ownBlock = some k → v.ownBlock = some k ∨ w.heap.size ≤ k := by
  have hcm := hx.cmax
  have hcn := hx.cap
  have hl := hx.len
  have hse : 0 ≤ csecs life ∧ csecs life ≤ 9223372036854775807 := by unfold csecs; split <;> omega
  have ht0 : 0 ≤ cadd now (csecs life) ∧ cadd now (csecs life) ≤ 9223372036854775807 := by unfold cadd; split <;> omega
  unfold maxLen at hcm
  have hx' := hidd hx
  have h' := hidd h
  have hnd' := hidd hnd
  obtain ⟨til, htil⟩ : ∃ til, cadd now (csecs life) = til := ⟨_, rfl⟩
  rw [htil] at ht0
  clear h hx hnd hse
  go_enter Try.func16, Try.ntmps16
  rw [htil]
  have htil' := hidd htil
  clear htil
  go_wp2
  go_loopw [8] (fun i wr => ∃ (j : Nat) (v' : Value), j ≤ n ∧ i = .int .i64 j ∧ Rb wr M v' d ((putAll Sv.sameT til life ss (xs.take j)).map embS) dd ∧ Fr (· = M) w wr ∧ ∀ k, v'.ownBlock = some k → v.ownBlock = some k ∨ w.heap.size ≤ k) (fun i _ => n - (intOf i).toNat)
  case atStart => exact ⟨0, v, Nat.zero_le _, rfl, h'.out, Fr.refl _ _, fun k hk => .inl hk⟩
  case round =>
    obtain ⟨j, v', hj, rfl, hR, hF, hm⟩ := hrel
    by_cases hjn : j < n
    · obtain ⟨x, hxj⟩ : ∃ x, xs[j]? = some x := ⟨_, List.getElem?_eq_getElem (by omega)⟩
      have hax := hidd (hx'.out.ok x (List.mem_of_getElem? hxj))
      have hne : Hid (IsE (embS (x, til))) := ⟨hax.out, ht0.1, by show til ≤ _; omega⟩
      obtain ⟨es, hes⟩ : ∃ es, putAll Sv.sameT til life ss (xs.take j) = es := ⟨_, rfl⟩
      have hsn : (putAll Sv.sameT til life ss (xs.take (j + 1))).map embS = (putOne Sv.sameT til life es x).map embS := by rw [putAll_snoc hxj, hes]
      have hstep := isS.put svSame_symm (x := x) (t := til) (life := life) (es := es) (by rw [← hes]; exact putAll_nodup svSame_symm _ hnd'.out) (by have := hR.s4; rw [List.length_map, hes] at this; exact this)
      rw [hes] at hR
      obtain ⟨Av, cv, hv⟩ := slice_of_own hR.s
      rw [List.length_map] at hv
      subst hv
      obtain ⟨b, off, rfl, hblt, hbM, hr⟩ := (hx'.out.fr hF (fun k hk e => hk e)).at_ (by omega)
      have hbu := builtS hax.out til
      have R0 : Hid (Rb wr.drew M (.slice Av es.length cv) d (es.map embS) dd) := hR.to (Below.refl _ _).drew
      have hput := hidd (put_any wr.drew Av es.length cv _ (Ls.of_own (by have := R0.out.s; rwa [List.length_map] at this) (List.length_map _) R0.out.sok) R0.out.s4 (embS (x, til)) hne.out life l0 l1)
      have hok2 : ∀ e ∈ (putOne Sv.sameT til life es x).map embS, IsE e := by rw [← hstep]; exact put_ok hR.sok hne.out
      have h42 : ((putOne Sv.sameT til life es x).map embS).length ≤ 4 := by rw [List.length_map]; exact putOne_four _ _ _ _ _ (by have := hR.s4; rwa [List.length_map] at this)
      have c1 : wr.drew.cell? ⟨M, 0, none⟩ = some (.slice Av es.length cv) := hR.blk.at_ rfl
      have fz : wr.drew.frozen? ⟨M, 0, none⟩ = false := hR.blk.frozen 0
      have l31 : ∀ V : World, V.rangeAt b (off + j * 16) (Sv.encT x) → (loadVar 31 ⟨b, off + j * 16, none⟩).run Try.prog V = .ok (.agg (bytesV x)) V := fun V hV =>
        run_loadVar_mid (P := Try.prog) V b (off + j * 16) 31 (Sv.encT x) _ hV Try.underlying31 rfl (by rw [Sv.encT, List.length_map, hax.out.len]; exact Sv.info31)
      have S0 := hidd (l31 wr.drew (hr j x hxj))
      have SD : Hid ((∀ V, Below wr.drew.heap.size wr.drew V → (loadVar 31 ⟨b, off + j * 16, none⟩).run Try.prog V = .ok (.agg (bytesV x)) V) ∧ ∀ V, Below wr.drew.heap.size wr.drew V → ∀ u, (loadVar 31 ⟨b, off + j * 16, none⟩).run Try.prog (V.setCell ⟨M, 0, none⟩ u) = .ok (.agg (bytesV x)) (V.setCell ⟨M, 0, none⟩ u)) :=
        ⟨fun V hV => l31 V (fun i v hv => (hV.cell (p := ⟨b, off + j * 16 + i, none⟩) hblt).trans (hr j x hxj i v hv)),
         fun V hV u => l31 _ (fun i v hv => (((Fr.refl (· = M) V).setB (i := 0) u).cell (p := ⟨b, off + j * 16 + i, none⟩) (by have := hV.size; show b < _; exact Nat.lt_of_lt_of_le hblt this) hbM).trans ((hV.cell (p := ⟨b, off + j * 16 + i, none⟩) hblt).trans (hr j x hxj i v hv)))⟩
      have hMD : M < wr.drew.heap.size := R0.out.lt
      have hwD : w.heap.size ≤ wr.drew.heap.size := hF.size
      have hFr := hidd hF.drew
      clear hR hF hm hr hxj hes l31
      go_wp2
      refine wp_region_held_drew (S := (fun V => (loadVar 31 ⟨b, off + j * 16, none⟩).run Try.prog V = .ok (.agg (bytesV x)) V)) (by kernel_rfl) S0.out (fun hHeld => ?_)
      generalize wr.drew = D at R0 S0 SD c1 fz hput hMD hwD hFr hHeld ⊢
      refine wpAnyH_take (i := 0) (v := ?_) rfl (by kernel_rfl) (by kernel_rfl) (by kernel_rfl) (fun _ _ _ h => h) (Or.inl ⟨by kernel_rfl, ?_⟩) hHeld ?_
      rotate_left
      · intro wh hSw
        go_simp
        try with_reducible rfl
      try simp only [Act.put, List.getElem_toArray, List.getElem_cons_zero, List.getElem_cons_succ, List.setIfInBounds_toArray, List.set_cons_zero, List.set_cons_succ]
      refine wpAnyH_take (i := 1) (v := ?_) rfl (by kernel_rfl) (by kernel_rfl) (by kernel_rfl) (fun _ _ _ h => h) (Or.inl ⟨by kernel_rfl, ?_⟩) hHeld ?_
      rotate_left
      · intro wh hSw
        go_simp
        try with_reducible rfl
      try simp only [Act.put, List.getElem_toArray, List.getElem_cons_zero, List.getElem_cons_succ, List.setIfInBounds_toArray, List.set_cons_zero, List.set_cons_succ]
      refine wpAnyH_take (i := 2) (v := ?_) rfl (by kernel_rfl) (by kernel_rfl) (by kernel_rfl) (fun _ _ _ h => h) (Or.inl ⟨by kernel_rfl, ?_⟩) hHeld ?_
      rotate_left
      · intro wh hSw
        go_simp
        try with_reducible rfl
      try simp only [Act.put, List.getElem_toArray, List.getElem_cons_zero, List.getElem_cons_succ, List.setIfInBounds_toArray, List.set_cons_zero, List.set_cons_succ]
      refine wpAnyH_take (i := 3) (v := ?_) rfl (by kernel_rfl) (by kernel_rfl) (by kernel_rfl) (fun _ _ _ h => h) (Or.inl ⟨by kernel_rfl, ?_⟩) hHeld ?_
      rotate_left
      · intro wh hSw
        go_simp
        try with_reducible rfl
      try simp only [Act.put, List.getElem_toArray, List.getElem_cons_zero, List.getElem_cons_succ, List.setIfInBounds_toArray, List.set_cons_zero, List.set_cons_succ]
      refine wpAnyH_take (i := 5) (v := ?_) rfl (by kernel_rfl) (by kernel_rfl) (by kernel_rfl) (fun _ _ _ h => h) (Or.inl ⟨by kernel_rfl, ?_⟩) hHeld ?_
      rotate_left
      · intro wh hSw
        go_simp
        try with_reducible rfl
      try simp only [Act.put, List.getElem_toArray, List.getElem_cons_zero, List.getElem_cons_succ, List.setIfInBounds_toArray, List.set_cons_zero, List.set_cons_succ]
      refine wpAnyH_take (i := 6) (v := ?_) rfl (by kernel_rfl) (by kernel_rfl) (by kernel_rfl) (fun _ _ _ h => h) (Or.inl ⟨by kernel_rfl, ?_⟩) hHeld ?_
      rotate_left
      · intro wh hSw
        go_simp
        try with_reducible rfl
      try simp only [Act.put, List.getElem_toArray, List.getElem_cons_zero, List.getElem_cons_succ, List.setIfInBounds_toArray, List.set_cons_zero, List.set_cons_succ]
      refine wpAnyH_take (i := 7) (v := ?_) rfl (by kernel_rfl) (by kernel_rfl) (by kernel_rfl) (fun _ _ _ h => h) (Or.inl ⟨by kernel_rfl, ?_⟩) hHeld ?_
      rotate_left
      · intro wh hSw
        go_simp
        try with_reducible rfl
      try simp only [Act.put, List.getElem_toArray, List.getElem_cons_zero, List.getElem_cons_succ, List.setIfInBounds_toArray, List.set_cons_zero, List.set_cons_succ]
      refine wpAnyH_take (i := 8) rfl (by kernel_rfl) (by kernel_rfl) (by kernel_rfl) (fun _ _ _ h => h) (yieldsIf_load_want (by kernel_rfl) 31 _ rfl _ rfl _ (fun wh hSw => hSw)) hHeld ?_
      try simp only [Act.put, List.getElem_toArray, List.getElem_cons_zero, List.getElem_cons_succ, List.setIfInBounds_toArray, List.set_cons_zero, List.set_cons_succ]
      refine wpAnyH_take (i := 9) (v := ?_) rfl (by kernel_rfl) (by kernel_rfl) (by kernel_rfl) (fun _ _ _ h => h) (Or.inl ⟨by kernel_rfl, ?_⟩) hHeld ?_
      rotate_left
      · intro wh hSw
        go_simp
        try with_reducible rfl
      try simp only [Act.put, List.getElem_toArray, List.getElem_cons_zero, List.getElem_cons_succ, List.setIfInBounds_toArray, List.set_cons_zero, List.set_cons_succ]
      refine wpAnyH_take (i := 10) (v := ?_) rfl (by kernel_rfl) (by kernel_rfl) (by kernel_rfl) (fun _ _ _ h => h) (Or.inl ⟨by kernel_rfl, ?_⟩) hHeld ?_
      rotate_left
      · intro wh hSw
        go_simp
        try with_reducible rfl
      try simp only [Act.put, List.getElem_toArray, List.getElem_cons_zero, List.getElem_cons_succ, List.setIfInBounds_toArray, List.set_cons_zero, List.set_cons_succ]
      refine wpAnyH_take (i := 13) (v := ?_) rfl (by kernel_rfl) (by kernel_rfl) (by kernel_rfl) (fun _ _ _ h => h) (Or.inl ⟨by kernel_rfl, ?_⟩) hHeld ?_
      rotate_left
      · intro wh hSw
        go_simp
        try with_reducible rfl
      try simp only [Act.put, List.getElem_toArray, List.getElem_cons_zero, List.getElem_cons_succ, List.setIfInBounds_toArray, List.set_cons_zero, List.set_cons_succ]
      refine wpAnyH_ready (rs := [4, 11]) (by kernel_rfl) (by simp) (AllReadyH.cons rfl (fun K hK => ?_) (AllReadyH.cons rfl (fun K hK => ?_) AllReadyH.nil))
      · skip
        clear hHeld
        go_simp
        refine hK.out _ _ S0.out (fun hHeld => ?_)
        clear hK K
        try simp only [Act.put, List.getElem_toArray, List.getElem_cons_zero, List.getElem_cons_succ, List.setIfInBounds_toArray, List.set_cons_zero, List.set_cons_succ]
        refine wpAnyH_ready (rs := [11]) (by kernel_rfl) (by simp) (AllReadyH.cons rfl (fun K hK => ?_) AllReadyH.nil)
        clear hHeld
        go_simp
        with_reducible refine Calls.mono (until_any now life D h0 h1 l0 l1) ?_
        rintro e V1 ⟨rfl, rfl⟩
        dsimp only
        rw [htil'.out]
        refine hK.out _ _ S0.out (fun hHeld => ?_)
        clear hK K
        try simp only [Act.put, List.getElem_toArray, List.getElem_cons_zero, List.getElem_cons_succ, List.setIfInBounds_toArray, List.set_cons_zero, List.set_cons_succ]
        refine wpAnyH_take (i := 12) rfl (by kernel_rfl) (by kernel_rfl) (by kernel_rfl) (fun _ _ _ h => h) (yieldsIf_build_want (by kernel_rfl) 79 _ rfl (encV (embS (x, til))) (Eq.trans (b := Try.prog.built 79 [(0, .agg (bytesV x)), (2, .int .u64 til)]) (by kernel_rfl) hbu)) hHeld ?_
        try simp only [Act.put, List.getElem_toArray, List.getElem_cons_zero, List.getElem_cons_succ, List.setIfInBounds_toArray, List.set_cons_zero, List.set_cons_succ]
        refine wpAnyH_ready (rs := [14]) (by kernel_rfl) (by simp) (AllReadyH.cons rfl (fun K hK => ?_) AllReadyH.nil)
        clear hHeld
        go_simp
        with_reducible refine Calls.mono hput.out ?_
        rintro e V2 ⟨v2, rfl, o2, b2⟩
        dsimp only
        rw [hstep] at o2
        obtain ⟨A2, k2, hv2⟩ := slice_of_own o2
        rw [List.length_map] at hv2
        subst hv2
        have S2 := hidd (SD.out.1 V2 b2)
        have fz2 := (b2.frozen (p := ⟨M, 0, none⟩) hMD).trans fz
        have c2 := (b2.cell (p := ⟨M, 0, none⟩) hMD).trans c1
        have R2 := hidd (R0.out.turnS b2 (own_base o2 (Nat.le_succ _)) hok2 h42)
        clear o2
        refine hK.out _ _ S2.out (fun hHeld => ?_)
        clear hK K
        try simp only [Act.put, List.getElem_toArray, List.getElem_cons_zero, List.getElem_cons_succ, List.setIfInBounds_toArray, List.set_cons_zero, List.set_cons_succ]
        refine wpAnyH_take (i := 15) (v := ?_) rfl (by kernel_rfl) (by kernel_rfl) (by kernel_rfl) (fun _ _ _ h => h) (Or.inl ⟨by kernel_rfl, ?_⟩) hHeld ?_
        rotate_left
        · intro wh hSw
          go_simp
          try with_reducible rfl
        try simp only [Act.put, List.getElem_toArray, List.getElem_cons_zero, List.getElem_cons_succ, List.setIfInBounds_toArray, List.set_cons_zero, List.set_cons_succ]
        refine wpAnyH_take (i := 16) (v := ?_) rfl (by kernel_rfl) (by kernel_rfl) (by kernel_rfl) (fun _ _ _ h => h) (Or.inl ⟨by kernel_rfl, ?_⟩) hHeld ?_
        rotate_left
        · intro wh hSw
          go_simp
          try with_reducible rfl
        try simp only [Act.put, List.getElem_toArray, List.getElem_cons_zero, List.getElem_cons_succ, List.setIfInBounds_toArray, List.set_cons_zero, List.set_cons_succ]
        refine wpAnyH_ready (rs := [17]) (by kernel_rfl) (by simp) (AllReadyH.cons rfl (fun K hK => ?_) AllReadyH.nil)
        clear hHeld
        go_simp
        refine hK.out _ _ (SD.out.2 V2 b2 _) (fun hHeld => ?_)
        clear hK K
        try simp only [Act.put, List.getElem_toArray, List.getElem_cons_zero, List.getElem_cons_succ, List.setIfInBounds_toArray, List.set_cons_zero, List.set_cons_succ]
        refine wpAnyH_done (by kernel_rfl) ?_ _
        clear hHeld
        go_wp2
        go_roundw
        case rel => exact ⟨j + 1, _, by omega, by go_num, by rw [hsn]; exact R2.out.1, hFr.out.trans R2.out.2.1, fun k hk => .inr (Nat.le_trans hwD (R2.out.2.2 k hk))⟩
        case measure => simp [intOf]; omega
      · skip
        clear hHeld
        go_simp
        with_reducible refine Calls.mono (until_any now life D h0 h1 l0 l1) ?_
        rintro e V1 ⟨rfl, rfl⟩
        dsimp only
        rw [htil'.out]
        refine hK.out _ _ S0.out (fun hHeld => ?_)
        clear hK K
        try simp only [Act.put, List.getElem_toArray, List.getElem_cons_zero, List.getElem_cons_succ, List.setIfInBounds_toArray, List.set_cons_zero, List.set_cons_succ]
        refine wpAnyH_take (i := 12) rfl (by kernel_rfl) (by kernel_rfl) (by kernel_rfl) (fun _ _ _ h => h) (yieldsIf_build_want (by kernel_rfl) 79 _ rfl (encV (embS (x, til))) (Eq.trans (b := Try.prog.built 79 [(0, .agg (bytesV x)), (2, .int .u64 til)]) (by kernel_rfl) hbu)) hHeld ?_
        try simp only [Act.put, List.getElem_toArray, List.getElem_cons_zero, List.getElem_cons_succ, List.setIfInBounds_toArray, List.set_cons_zero, List.set_cons_succ]
        refine wpAnyH_ready (rs := [4]) (by kernel_rfl) (by simp) (AllReadyH.cons rfl (fun K hK => ?_) AllReadyH.nil)
        clear hHeld
        go_simp
        refine hK.out _ _ S0.out (fun hHeld => ?_)
        clear hK K
        try simp only [Act.put, List.getElem_toArray, List.getElem_cons_zero, List.getElem_cons_succ, List.setIfInBounds_toArray, List.set_cons_zero, List.set_cons_succ]
        refine wpAnyH_ready (rs := [14]) (by kernel_rfl) (by simp) (AllReadyH.cons rfl (fun K hK => ?_) AllReadyH.nil)
        clear hHeld
        go_simp
        with_reducible refine Calls.mono hput.out ?_
        rintro e V2 ⟨v2, rfl, o2, b2⟩
        dsimp only
        rw [hstep] at o2
        obtain ⟨A2, k2, hv2⟩ := slice_of_own o2
        rw [List.length_map] at hv2
        subst hv2
        have S2 := hidd (SD.out.1 V2 b2)
        have fz2 := (b2.frozen (p := ⟨M, 0, none⟩) hMD).trans fz
        have c2 := (b2.cell (p := ⟨M, 0, none⟩) hMD).trans c1
        have R2 := hidd (R0.out.turnS b2 (own_base o2 (Nat.le_succ _)) hok2 h42)
        clear o2
        refine hK.out _ _ S2.out (fun hHeld => ?_)
        clear hK K
        try simp only [Act.put, List.getElem_toArray, List.getElem_cons_zero, List.getElem_cons_succ, List.setIfInBounds_toArray, List.set_cons_zero, List.set_cons_succ]
        refine wpAnyH_take (i := 15) (v := ?_) rfl (by kernel_rfl) (by kernel_rfl) (by kernel_rfl) (fun _ _ _ h => h) (Or.inl ⟨by kernel_rfl, ?_⟩) hHeld ?_
        rotate_left
        · intro wh hSw
          go_simp
          try with_reducible rfl
        try simp only [Act.put, List.getElem_toArray, List.getElem_cons_zero, List.getElem_cons_succ, List.setIfInBounds_toArray, List.set_cons_zero, List.set_cons_succ]
        refine wpAnyH_take (i := 16) (v := ?_) rfl (by kernel_rfl) (by kernel_rfl) (by kernel_rfl) (fun _ _ _ h => h) (Or.inl ⟨by kernel_rfl, ?_⟩) hHeld ?_
        rotate_left
        · intro wh hSw
          go_simp
          try with_reducible rfl
        try simp only [Act.put, List.getElem_toArray, List.getElem_cons_zero, List.getElem_cons_succ, List.setIfInBounds_toArray, List.set_cons_zero, List.set_cons_succ]
        refine wpAnyH_ready (rs := [17]) (by kernel_rfl) (by simp) (AllReadyH.cons rfl (fun K hK => ?_) AllReadyH.nil)
        clear hHeld
        go_simp
        refine hK.out _ _ (SD.out.2 V2 b2 _) (fun hHeld => ?_)
        clear hK K
        try simp only [Act.put, List.getElem_toArray, List.getElem_cons_zero, List.getElem_cons_succ, List.setIfInBounds_toArray, List.set_cons_zero, List.set_cons_succ]
        refine wpAnyH_done (by kernel_rfl) ?_ _
        clear hHeld
        go_wp2
        go_roundw
        case rel => exact ⟨j + 1, _, by omega, by go_num, by rw [hsn]; exact R2.out.1, hFr.out.trans R2.out.2.1, fun k hk => .inr (Nat.le_trans hwD (R2.out.2.2 k hk))⟩
        case measure => simp [intOf]; omega
    · have hjn' : j = n := by omega
      subst hjn'
      rw [List.take_of_length_le (by omega)] at hR
      have hR' := hidd hR
      have hF' := hidd hF
      have hm' := hidd hm
      clear hR hF hm
      go_wp2
      go_end0
      exact ⟨⟨_, rfl⟩, v', hR'.out, hF'.out, hm'.out⟩
end Go.Proofs.Ytajlgglknianlaa.Rf
