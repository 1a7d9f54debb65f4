/- The document's book: domains told; ticks; when the next one's time is over, walked once. No condition. -/
import Derived.Test.YtajlgglknianlaaRefOps
namespace Go.Proofs.Ytajlgglknianlaa.Rf
open Go.Proofs.Ytajlgglknianlaa Go.ChangeShapes Go.WideShapes Go.ChangeAt Go.RowKit Go.Deep
set_option linter.unusedVariables false
set_option linter.unusedSimpArgs false

set_option maxRecDepth 100000 in
set_option maxHeartbeats 4000000 in
theorem domains_any (w : World) (M : Nat) (v d : Value) (ss : List E) (dd : List Dm.E) (h : Rb w M v d ss (dd.map embD)) (hnd : NoDup Dm.sameT dd) (now life : Int) (h0 : 0 ≤ now) (h1 : now ≤ 18446744073709551615) (l0 : 0 ≤ life) (l1 : life ≤ 4294967295)
    (A : Option Addr) (n c : Nat) (xs : List ByteArray) (hx : Dm.IsL w (· ≠ M) A n c xs) :
    Calls Try.prog 17 #[.pointer (some ⟨M, 0, none⟩), .int .u64 now, .int .u32 life, .slice A n c] w fun e w' => (∃ r, e = .returned r) ∧
      ∃ d', Rb w' M v d' ss ((putAll Dm.sameT (cadd now (csecs life)) life dd (St.left xs)).map embD) ∧ Fr (· = M) w w' ∧ ∀ k, d'.ownBlock = some k → d.ownBlock = some k ∨ w.heap.size ≤ k := by
  have hcm := hx.cmax
  have hcn := hx.cap
  have hl := hx.len
  have hse : 0 ≤ csecs life ∧ csecs life ≤ 9223372036854775807 := by unfold csecs; split <;> omega
  have ht0 : 0 ≤ cadd now (csecs life) ∧ cadd now (csecs life) ≤ 9223372036854775807 := by unfold cadd; split <;> omega
  unfold maxLen at hcm
  have hx' := hidd hx
  have h' := hidd h
  have hnd' := hidd hnd
  obtain ⟨til, htil⟩ : ∃ til, cadd now (csecs life) = til := ⟨_, rfl⟩
  rw [htil] at ht0
  clear h hx hnd hse
  go_enter Try.func17, Try.ntmps17
  rw [htil]
  have htil' := hidd htil
  clear htil
  go_wp2
  go_loopw [8] (fun i wr => ∃ (j : Nat) (d' : Value), j ≤ n ∧ i = .int .i64 j ∧ Rb wr M v d' ss ((putAll Dm.sameT til life dd (St.left (xs.take j))).map embD) ∧ Fr (· = M) w wr ∧ ∀ k, d'.ownBlock = some k → d.ownBlock = some k ∨ w.heap.size ≤ k) (fun i _ => n - (intOf i).toNat)
  case atStart => exact ⟨0, d, Nat.zero_le _, rfl, h'.out, Fr.refl _ _, fun k hk => .inl hk⟩
  case round =>
    obtain ⟨j, d', hj, rfl, hR, hF, hm⟩ := hrel
    by_cases hjn : j < n
    · obtain ⟨x, hxj⟩ : ∃ x, xs[j]? = some x := ⟨_, List.getElem?_eq_getElem (by omega)⟩
      obtain ⟨b, off, rfl, hblt, hbM, hr⟩ := (hx'.out.fr hF (fun k hk e => hk e)).at_ (by omega)
      have c0 : wr.cell? ⟨b, off + j, none⟩ = some (.string x) := by have := hr j x hxj 0 _ rfl; rwa [Nat.mul_one, Nat.add_zero] at this
      cases hgn : St.gone x
      · have hls := St.left_snoc hxj
        rw [hgn] at hls
        have hg1 : x.toList.isEmpty = false := hgn
        have hg2 : (!x.toList.isEmpty) = true := by rw [hg1]; rfl
        have hne : Hid (IsE (embD (x, til))) := ⟨zeroA_is, ht0.1, by show til ≤ _; omega⟩
        obtain ⟨es, hes⟩ : ∃ es, putAll Dm.sameT til life dd (St.left (xs.take j)) = es := ⟨_, rfl⟩
        have hsn := hidd (show (putAll Dm.sameT til life dd (St.left (xs.take (j + 1)))).map embD = (putOne Dm.sameT til life es x).map embD from by
          rw [hls, ← hes]
          simp only [putAll, List.foldl_append]; rfl)
        have hstep := isD.put dmSame_symm (x := x) (t := til) (life := life) (es := es) (by rw [← hes]; exact putAll_nodup dmSame_symm _ hnd'.out) (by have := hR.d4; rw [List.length_map, hes] at this; exact this)
        rw [hes] at hR
        obtain ⟨Av, cv, hv⟩ := slice_of_own hR.d
        rw [List.length_map] at hv
        subst hv
        have hbu := builtD x til
        have R0 : Hid (Rb wr.drew M v (.slice Av es.length cv) ss (es.map embD)) := hR.to (Below.refl _ _).drew
        have hput := hidd (put_any wr.drew Av es.length cv _ (Ls.of_own (by have := R0.out.d; rwa [List.length_map] at this) (List.length_map _) R0.out.dok) R0.out.d4 (embD (x, til)) hne.out life l0 l1)
        have hok2 : ∀ e ∈ (putOne Dm.sameT til life es x).map embD, IsE e := by rw [← hstep]; exact put_ok hR.dok hne.out
        have h42 : ((putOne Dm.sameT til life es x).map embD).length ≤ 4 := by rw [List.length_map]; exact putOne_four _ _ _ _ _ (by have := hR.d4; rwa [List.length_map] at this)
        have c1 : wr.drew.cell? ⟨M, 1, none⟩ = some (.slice Av es.length cv) := hR.blk.at_ rfl
        have fz : wr.drew.frozen? ⟨M, 1, none⟩ = false := hR.blk.frozen 1
        have S0 : Hid (wr.drew.cell? ⟨b, off + j, none⟩ = some (.string x)) := c0
        have SD : Hid ((∀ V, Below wr.drew.heap.size wr.drew V → V.cell? ⟨b, off + j, none⟩ = some (.string x)) ∧ ∀ V, Below wr.drew.heap.size wr.drew V → ∀ u, (V.setCell ⟨M, 1, none⟩ u).cell? ⟨b, off + j, none⟩ = some (.string x)) :=
          ⟨fun V hV => (hV.cell (p := ⟨b, off + j, none⟩) hblt).trans c0,
           fun V hV u => (((Fr.refl (· = M) V).setB (i := 1) u).cell (p := ⟨b, off + j, none⟩) (by have := hV.size; show b < _; exact Nat.lt_of_lt_of_le hblt this) hbM).trans ((hV.cell (p := ⟨b, off + j, none⟩) hblt).trans c0)⟩
        have hMD : M < wr.drew.heap.size := R0.out.lt
        have hwD : w.heap.size ≤ wr.drew.heap.size := hF.size
        have hFr := hidd hF.drew
        clear hR hF hm hr hxj hes hls
        go_wp2
        clear c0 hg1 hg2 hgn
        refine wp_region_held_drew (S := (fun V => V.cell? ⟨b, off + j, none⟩ = some (.string x))) (by kernel_rfl) S0.out (fun hHeld => ?_)
        generalize wr.drew = D at R0 S0 SD c1 fz hput hMD hwD hFr hHeld ⊢
        refine wpAnyH_take (i := 0) (v := ?_) rfl (by kernel_rfl) (by kernel_rfl) (by kernel_rfl) (fun _ _ _ h => h) (Or.inl ⟨by kernel_rfl, ?_⟩) hHeld ?_
        rotate_left
        · intro wh hSw
          go_simp
          try with_reducible rfl
        try simp only [Act.put, List.getElem_toArray, List.getElem_cons_zero, List.getElem_cons_succ, List.setIfInBounds_toArray, List.set_cons_zero, List.set_cons_succ]
        refine wpAnyH_take (i := 1) (v := ?_) rfl (by kernel_rfl) (by kernel_rfl) (by kernel_rfl) (fun _ _ _ h => h) (Or.inl ⟨by kernel_rfl, ?_⟩) hHeld ?_
        rotate_left
        · intro wh hSw
          go_simp
          try with_reducible rfl
        try simp only [Act.put, List.getElem_toArray, List.getElem_cons_zero, List.getElem_cons_succ, List.setIfInBounds_toArray, List.set_cons_zero, List.set_cons_succ]
        refine wpAnyH_take (i := 2) (v := ?_) rfl (by kernel_rfl) (by kernel_rfl) (by kernel_rfl) (fun _ _ _ h => h) (Or.inl ⟨by kernel_rfl, ?_⟩) hHeld ?_
        rotate_left
        · intro wh hSw
          go_simp
          try with_reducible rfl
        try simp only [Act.put, List.getElem_toArray, List.getElem_cons_zero, List.getElem_cons_succ, List.setIfInBounds_toArray, List.set_cons_zero, List.set_cons_succ]
        refine wpAnyH_take (i := 3) (v := ?_) rfl (by kernel_rfl) (by kernel_rfl) (by kernel_rfl) (fun _ _ _ h => h) (Or.inl ⟨by kernel_rfl, ?_⟩) hHeld ?_
        rotate_left
        · intro wh hSw
          go_simp
          try with_reducible rfl
        try simp only [Act.put, List.getElem_toArray, List.getElem_cons_zero, List.getElem_cons_succ, List.setIfInBounds_toArray, List.set_cons_zero, List.set_cons_succ]
        refine wpAnyH_take (i := 5) (v := ?_) rfl (by kernel_rfl) (by kernel_rfl) (by kernel_rfl) (fun _ _ _ h => h) (Or.inl ⟨by kernel_rfl, ?_⟩) hHeld ?_
        rotate_left
        · intro wh hSw
          go_simp
          try with_reducible rfl
        try simp only [Act.put, List.getElem_toArray, List.getElem_cons_zero, List.getElem_cons_succ, List.setIfInBounds_toArray, List.set_cons_zero, List.set_cons_succ]
        refine wpAnyH_take (i := 6) (v := ?_) rfl (by kernel_rfl) (by kernel_rfl) (by kernel_rfl) (fun _ _ _ h => h) (Or.inl ⟨by kernel_rfl, ?_⟩) hHeld ?_
        rotate_left
        · intro wh hSw
          go_simp
          try with_reducible rfl
        try simp only [Act.put, List.getElem_toArray, List.getElem_cons_zero, List.getElem_cons_succ, List.setIfInBounds_toArray, List.set_cons_zero, List.set_cons_succ]
        refine wpAnyH_take (i := 7) (v := ?_) rfl (by kernel_rfl) (by kernel_rfl) (by kernel_rfl) (fun _ _ _ h => h) (Or.inl ⟨by kernel_rfl, ?_⟩) hHeld ?_
        rotate_left
        · intro wh hSw
          go_simp
          try with_reducible rfl
        try simp only [Act.put, List.getElem_toArray, List.getElem_cons_zero, List.getElem_cons_succ, List.setIfInBounds_toArray, List.set_cons_zero, List.set_cons_succ]
        refine wpAnyH_take (i := 8) (v := ?_) rfl (by kernel_rfl) (by kernel_rfl) (by kernel_rfl) (fun _ _ _ h => h) (Or.inl ⟨by kernel_rfl, ?_⟩) hHeld ?_
        rotate_left
        · intro wh hSw
          have hcell := hSw
          go_simp
          try with_reducible rfl
        try simp only [Act.put, List.getElem_toArray, List.getElem_cons_zero, List.getElem_cons_succ, List.setIfInBounds_toArray, List.set_cons_zero, List.set_cons_succ]
        refine wpAnyH_take (i := 9) (v := ?_) rfl (by kernel_rfl) (by kernel_rfl) (by kernel_rfl) (fun _ _ _ h => h) (Or.inl ⟨by kernel_rfl, ?_⟩) hHeld ?_
        rotate_left
        · intro wh hSw
          go_simp
          try with_reducible rfl
        try simp only [Act.put, List.getElem_toArray, List.getElem_cons_zero, List.getElem_cons_succ, List.setIfInBounds_toArray, List.set_cons_zero, List.set_cons_succ]
        refine wpAnyH_take (i := 10) (v := ?_) rfl (by kernel_rfl) (by kernel_rfl) (by kernel_rfl) (fun _ _ _ h => h) (Or.inl ⟨by kernel_rfl, ?_⟩) hHeld ?_
        rotate_left
        · intro wh hSw
          go_simp
          try with_reducible rfl
        try simp only [Act.put, List.getElem_toArray, List.getElem_cons_zero, List.getElem_cons_succ, List.setIfInBounds_toArray, List.set_cons_zero, List.set_cons_succ]
        refine wpAnyH_take (i := 13) (v := ?_) rfl (by kernel_rfl) (by kernel_rfl) (by kernel_rfl) (fun _ _ _ h => h) (Or.inl ⟨by kernel_rfl, ?_⟩) hHeld ?_
        rotate_left
        · intro wh hSw
          go_simp
          try with_reducible rfl
        try simp only [Act.put, List.getElem_toArray, List.getElem_cons_zero, List.getElem_cons_succ, List.setIfInBounds_toArray, List.set_cons_zero, List.set_cons_succ]
        refine wpAnyH_ready (rs := [4, 11]) (by kernel_rfl) (by simp) (AllReadyH.cons rfl (fun K hK => ?_) (AllReadyH.cons rfl (fun K hK => ?_) AllReadyH.nil))
        · skip
          clear hHeld
          go_simp
          refine hK.out _ _ S0.out (fun hHeld => ?_)
          clear hK K
          try simp only [Act.put, List.getElem_toArray, List.getElem_cons_zero, List.getElem_cons_succ, List.setIfInBounds_toArray, List.set_cons_zero, List.set_cons_succ]
          refine wpAnyH_ready (rs := [11]) (by kernel_rfl) (by simp) (AllReadyH.cons rfl (fun K hK => ?_) AllReadyH.nil)
          clear hHeld
          go_simp
          with_reducible refine Calls.mono (until_any now life D h0 h1 l0 l1) ?_
          rintro e V1 ⟨rfl, rfl⟩
          dsimp only
          rw [htil'.out]
          refine hK.out _ _ S0.out (fun hHeld => ?_)
          clear hK K
          try simp only [Act.put, List.getElem_toArray, List.getElem_cons_zero, List.getElem_cons_succ, List.setIfInBounds_toArray, List.set_cons_zero, List.set_cons_succ]
          refine wpAnyH_take (i := 12) rfl (by kernel_rfl) (by kernel_rfl) (by kernel_rfl) (fun _ _ _ h => h) (yieldsIf_build_want (by kernel_rfl) 79 _ rfl (encV (embD (x, til))) (Eq.trans (b := Try.prog.built 79 [(1, .string x), (2, .int .u64 til)]) (by kernel_rfl) hbu)) hHeld ?_
          try simp only [Act.put, List.getElem_toArray, List.getElem_cons_zero, List.getElem_cons_succ, List.setIfInBounds_toArray, List.set_cons_zero, List.set_cons_succ]
          refine wpAnyH_ready (rs := [14]) (by kernel_rfl) (by simp) (AllReadyH.cons rfl (fun K hK => ?_) AllReadyH.nil)
          clear hHeld
          go_simp
          with_reducible refine Calls.mono hput.out ?_
          rintro e V2 ⟨v2, rfl, o2, b2⟩
          dsimp only
          rw [hstep] at o2
          obtain ⟨A2, k2, hv2⟩ := slice_of_own o2
          rw [List.length_map] at hv2
          subst hv2
          have S2 := hidd (SD.out.1 V2 b2)
          have fz2 := (b2.frozen (p := ⟨M, 1, none⟩) hMD).trans fz
          have c2 := (b2.cell (p := ⟨M, 1, none⟩) hMD).trans c1
          have R2 := hidd (R0.out.turnD b2 (own_base o2 (Nat.le_succ _)) hok2 h42)
          clear o2
          refine hK.out _ _ S2.out (fun hHeld => ?_)
          clear hK K
          try simp only [Act.put, List.getElem_toArray, List.getElem_cons_zero, List.getElem_cons_succ, List.setIfInBounds_toArray, List.set_cons_zero, List.set_cons_succ]
          refine wpAnyH_take (i := 15) (v := ?_) rfl (by kernel_rfl) (by kernel_rfl) (by kernel_rfl) (fun _ _ _ h => h) (Or.inl ⟨by kernel_rfl, ?_⟩) hHeld ?_
          rotate_left
          · intro wh hSw
            go_simp
            try with_reducible rfl
          try simp only [Act.put, List.getElem_toArray, List.getElem_cons_zero, List.getElem_cons_succ, List.setIfInBounds_toArray, List.set_cons_zero, List.set_cons_succ]
          refine wpAnyH_take (i := 16) (v := ?_) rfl (by kernel_rfl) (by kernel_rfl) (by kernel_rfl) (fun _ _ _ h => h) (Or.inl ⟨by kernel_rfl, ?_⟩) hHeld ?_
          rotate_left
          · intro wh hSw
            go_simp
            try with_reducible rfl
          try simp only [Act.put, List.getElem_toArray, List.getElem_cons_zero, List.getElem_cons_succ, List.setIfInBounds_toArray, List.set_cons_zero, List.set_cons_succ]
          refine wpAnyH_ready (rs := [17]) (by kernel_rfl) (by simp) (AllReadyH.cons rfl (fun K hK => ?_) AllReadyH.nil)
          clear hHeld
          go_simp
          refine hK.out _ _ (SD.out.2 V2 b2 _) (fun hHeld => ?_)
          clear hK K
          try simp only [Act.put, List.getElem_toArray, List.getElem_cons_zero, List.getElem_cons_succ, List.setIfInBounds_toArray, List.set_cons_zero, List.set_cons_succ]
          refine wpAnyH_done (by kernel_rfl) ?_ _
          clear hHeld
          go_wp2
          go_roundw
          case rel => exact ⟨j + 1, _, by omega, by go_num, by rw [hsn]; exact R2.out.1, hFr.out.trans R2.out.2.1, fun k hk => .inr (Nat.le_trans hwD (R2.out.2.2 k hk))⟩
          case measure => simp [intOf]; omega
        · skip
          clear hHeld
          go_simp
          with_reducible refine Calls.mono (until_any now life D h0 h1 l0 l1) ?_
          rintro e V1 ⟨rfl, rfl⟩
          dsimp only
          rw [htil'.out]
          refine hK.out _ _ S0.out (fun hHeld => ?_)
          clear hK K
          try simp only [Act.put, List.getElem_toArray, List.getElem_cons_zero, List.getElem_cons_succ, List.setIfInBounds_toArray, List.set_cons_zero, List.set_cons_succ]
          refine wpAnyH_take (i := 12) rfl (by kernel_rfl) (by kernel_rfl) (by kernel_rfl) (fun _ _ _ h => h) (yieldsIf_build_want (by kernel_rfl) 79 _ rfl (encV (embD (x, til))) (Eq.trans (b := Try.prog.built 79 [(1, .string x), (2, .int .u64 til)]) (by kernel_rfl) hbu)) hHeld ?_
          try simp only [Act.put, List.getElem_toArray, List.getElem_cons_zero, List.getElem_cons_succ, List.setIfInBounds_toArray, List.set_cons_zero, List.set_cons_succ]
          refine wpAnyH_ready (rs := [4]) (by kernel_rfl) (by simp) (AllReadyH.cons rfl (fun K hK => ?_) AllReadyH.nil)
          clear hHeld
          go_simp
          refine hK.out _ _ S0.out (fun hHeld => ?_)
          clear hK K
          try simp only [Act.put, List.getElem_toArray, List.getElem_cons_zero, List.getElem_cons_succ, List.setIfInBounds_toArray, List.set_cons_zero, List.set_cons_succ]
          refine wpAnyH_ready (rs := [14]) (by kernel_rfl) (by simp) (AllReadyH.cons rfl (fun K hK => ?_) AllReadyH.nil)
          clear hHeld
          go_simp
          with_reducible refine Calls.mono hput.out ?_
          rintro e V2 ⟨v2, rfl, o2, b2⟩
          dsimp only
          rw [hstep] at o2
          obtain ⟨A2, k2, hv2⟩ := slice_of_own o2
          rw [List.length_map] at hv2
          subst hv2
          have S2 := hidd (SD.out.1 V2 b2)
          have fz2 := (b2.frozen (p := ⟨M, 1, none⟩) hMD).trans fz
          have c2 := (b2.cell (p := ⟨M, 1, none⟩) hMD).trans c1
          have R2 := hidd (R0.out.turnD b2 (own_base o2 (Nat.le_succ _)) hok2 h42)
          clear o2
          refine hK.out _ _ S2.out (fun hHeld => ?_)
          clear hK K
          try simp only [Act.put, List.getElem_toArray, List.getElem_cons_zero, List.getElem_cons_succ, List.setIfInBounds_toArray, List.set_cons_zero, List.set_cons_succ]
          refine wpAnyH_take (i := 15) (v := ?_) rfl (by kernel_rfl) (by kernel_rfl) (by kernel_rfl) (fun _ _ _ h => h) (Or.inl ⟨by kernel_rfl, ?_⟩) hHeld ?_
          rotate_left
          · intro wh hSw
            go_simp
            try with_reducible rfl
          try simp only [Act.put, List.getElem_toArray, List.getElem_cons_zero, List.getElem_cons_succ, List.setIfInBounds_toArray, List.set_cons_zero, List.set_cons_succ]
          refine wpAnyH_take (i := 16) (v := ?_) rfl (by kernel_rfl) (by kernel_rfl) (by kernel_rfl) (fun _ _ _ h => h) (Or.inl ⟨by kernel_rfl, ?_⟩) hHeld ?_
          rotate_left
          · intro wh hSw
            go_simp
            try with_reducible rfl
          try simp only [Act.put, List.getElem_toArray, List.getElem_cons_zero, List.getElem_cons_succ, List.setIfInBounds_toArray, List.set_cons_zero, List.set_cons_succ]
          refine wpAnyH_ready (rs := [17]) (by kernel_rfl) (by simp) (AllReadyH.cons rfl (fun K hK => ?_) AllReadyH.nil)
          clear hHeld
          go_simp
          refine hK.out _ _ (SD.out.2 V2 b2 _) (fun hHeld => ?_)
          clear hK K
          try simp only [Act.put, List.getElem_toArray, List.getElem_cons_zero, List.getElem_cons_succ, List.setIfInBounds_toArray, List.set_cons_zero, List.set_cons_succ]
          refine wpAnyH_done (by kernel_rfl) ?_ _
          clear hHeld
          go_wp2
          go_roundw
          case rel => exact ⟨j + 1, _, by omega, by go_num, by rw [hsn]; exact R2.out.1, hFr.out.trans R2.out.2.1, fun k hk => .inr (Nat.le_trans hwD (R2.out.2.2 k hk))⟩
          case measure => simp [intOf]; omega
      · have hls := St.left_snoc hxj
        rw [hgn] at hls
        have hg1 : x.toList.isEmpty = true := hgn
        have hg2 : (!x.toList.isEmpty) = false := by rw [hg1]; rfl
        have hls' := hidd (show St.left (xs.take (j + 1)) = St.left (xs.take j) from by rw [hls]; simp)
        have hR' := hidd hR
        have hF' := hidd hF
        have hm' := hidd hm
        clear hls hR hF hm hr hxj
        go_wp2
        go_roundw
        case rel => exact ⟨j + 1, d', by omega, by go_num, by rw [hls'.out]; exact hR'.out, hF'.out, hm'.out⟩
        case measure => simp [intOf]; omega
    · have hjn' : j = n := by omega
      subst hjn'
      rw [List.take_of_length_le (by omega)] at hR
      have hR' := hidd hR
      have hF' := hidd hF
      have hm' := hidd hm
      clear hR hF hm
      go_wp2
      go_end0
      exact ⟨⟨_, rfl⟩, d', hR'.out, hF'.out, hm'.out⟩

/-- Those whose time is not over. -/
abbrev rleft (now : Int) (es : List E) : List E := es.filter fun e => decide (now < e.2.2)
theorem rleft_snoc {now : Int} {es : List E} {j : Nat} {e : E} (h : es[j]? = some e) : rleft now (es.take (j + 1)) = rleft now (es.take j) ++ if now < e.2.2 then [e] else [] := by
  rw [rleft, List.take_add_one, h, List.filter_append]
  by_cases hp : now < e.2.2 <;> simp [hp]
theorem own_snoc {W : World} {base : Nat} {v : Value} {os : List E} {y : E} (h : W.ownsRow base 79 18 v (os.length + 1) (flat os ++ (encV y).toList)) : W.ownsRow base 79 18 v (os ++ [y]).length (flat (os ++ [y])) := by
  rw [List.length_append, flat, flat_append]
  simpa [flatOf, encV] using h
set_option maxRecDepth 100000 in
set_option maxHeartbeats 1000000 in
theorem left_any (w : World) (A : Option Addr) (n c : Nat) (es : List E) (hk : IsL w w.heap.size A n c es) (h4 : es.length ≤ 4) (now : Int) (n0 : 0 ≤ now) (n1 : now ≤ 18446744073709551615) :
    Calls Try.prog 34 #[.slice A n c, .int .u64 now] w fun e w' => ∃ v', e = .returned v' ∧ w'.ownsRow w.heap.size 79 18 v' (rleft now es).length (flat (rleft now es)) ∧ Below w.heap.size w w' := by
  have hcm := hk.rd.cmax
  have hcn := hk.rd.cap
  have hl := hk.len
  have hk' := hidd hk
  unfold maxLen at hcm
  obtain ⟨B, SB⟩ : ∃ B, w.heap.size = B := ⟨_, rfl⟩
  rw [SB]
  clear hk
  go_enter Try.func34, Try.ntmps34
  go_wp2
  go_loopw [5, 6] (fun v i wr => ∃ j : Nat, j ≤ n ∧ i = .int .i64 j ∧ wr.ownsRow B 79 18 v (rleft now (es.take j)).length (flat (rleft now (es.take j))) ∧ Below B w wr) (fun _ i _ => n - (intOf i).toNat)
  case atStart => exact ⟨0, Nat.zero_le _, rfl, World.ownsRow_nil _ _ _ _, by rw [← SB]; exact Below.refl _ _⟩
  case round =>
    obtain ⟨j, hj, rfl, hv, hb⟩ := hrel
    obtain ⟨os, hos⟩ : ∃ os, rleft now (es.take j) = os := ⟨_, rfl⟩
    have hol : os.length ≤ j := by rw [← hos]; exact Nat.le_trans (List.length_filter_le _ _) (by rw [List.length_take]; omega)
    rw [hos] at hv
    obtain ⟨Ao, co, rfl⟩ := slice_of_own hv
    have hws : B ≤ wr.heap.size := by have := hb.size; omega
    by_cases hjn : j < n
    · obtain ⟨b, off, rfl, hblt, hr⟩ := (hk'.out.below (by rw [SB]; exact hb)).range isEnc (by omega)
      obtain ⟨e, he⟩ : ∃ e, es[j]? = some e := ⟨es[j]'(by omega), List.getElem?_eq_getElem _⟩
      have hE := hidd (hk'.out.ok e (List.mem_of_getElem? he))
      have hgs := hidd (rleft_snoc (now := now) he)
      have l1 := hidd (loadE hE.out (hr j e he))
      have c1 : wr.cell? ⟨b, off + j * 18 + 17, none⟩ = some (.int .u64 e.2.2) := hr j e he 17 _ (until_enc hE.out)
      have hv' := hidd hv
      have hb' := hidd hb
      rw [hos] at hgs
      clear hr he hv hb
      by_cases hlt : now < e.2.2
      · have hgs' := hidd (show rleft now (es.take (j + 1)) = os ++ [e] from by rw [hgs.out, if_pos hlt])
        clear hgs
        go_wp2_with (first
          | (with_reducible show wpList _ _ _ (⟨_, Op.load 79 _, _, _, _, _⟩ :: _) _ _; refine wpList_load_want (by kernel_rfl) 79 _ rfl _ rfl _ (by with_reducible exact l1.out) ?_)
          | (with_reducible show wpList _ _ _ (⟨_, Op.buildSlice 51 _ _, _, _, _, _⟩ :: _) _ _; refine wpList_bs1 rfl (.tmp 24) slTy (by decide) rfl (encV e) rfl (encV_size hE.out) ?_)
          | (at_builtin
             refine wpList_append_rd (v := .slice Ao os.length co) (wr.alloc (.cells (encV e) 79)) rfl (.tmp 20) (.tmp 25) slTy rfl rfl (own_al hv'.out _) rfl (rd_one wr 79 18 (encV e) (encV_size hE.out)) (by intro u hu; exact isEnc.one e u (by simpa [encV] using hu)) (by unfold maxLen; omega) (by omega) (by simp; omega) ?_
             intro v5 w5 o5 g5 t5 l5
             clear l5 t5
             have o6 : Hid (w5.ownsRow B 79 18 v5 (os ++ [e]).length (flat (os ++ [e]))) := own_snoc o5
             have b6 := hidd (hb'.out.trans (((Below.refl B wr).alloc hws _).trans (grown_below (own_al hv'.out _) g5 (by simp; omega))))
             clear o5 g5))
        go_roundw
        case rel => exact ⟨j + 1, by omega, by go_num, by rw [hgs'.out]; exact o6.out, b6.out⟩
        case measure => simp [intOf]; omega
      · have hgs' := hidd (show rleft now (es.take (j + 1)) = os from by rw [hgs.out, if_neg hlt, List.append_nil])
        clear hgs
        go_wp2
        go_roundw
        case rel => exact ⟨j + 1, by omega, by go_num, by rw [hgs'.out]; exact hv'.out, hb'.out⟩
        case measure => simp [intOf]; omega
    · have hjn' : j = n := by omega
      subst hjn'
      rw [List.take_of_length_le (by omega)] at hos
      have hv' := hidd hv
      have hb' := hidd hb
      clear hv hb
      go_wp2
      go_ret
      rw [hos]
      exact ⟨_, rfl, hv'.out, hb'.out⟩
theorem rleft_S (now : Int) (es : List Sv.E) : rleft now (es.map embS) = (Sv.ticked now es).map embS := by
  rw [rleft, Sv.ticked, List.filter_map]
  congr 1
  apply List.filter_congr
  intro e _
  show decide (now < e.2) = !decide (e.2 ≤ now)
  rw [← decide_not]
  exact decide_eq_decide.2 (by omega)
theorem rleft_D (now : Int) (es : List Dm.E) : rleft now (es.map embD) = (Dm.ticked now es).map embD := by
  rw [rleft, Dm.ticked, List.filter_map]
  congr 1
  apply List.filter_congr
  intro e _
  show decide (now < e.2) = !decide (e.2 ≤ now)
  rw [← decide_not]
  exact decide_eq_decide.2 (by omega)
end Go.Proofs.Ytajlgglknianlaa.Rf
