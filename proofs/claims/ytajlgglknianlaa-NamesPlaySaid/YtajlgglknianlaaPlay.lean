/- 'NamesPlay': for every input the law returns true; nothing that was there is written. No condition. -/
import Derived.Test.YtajlgglknianlaaPlayP
import Derived.Deep.RegionHeld3
namespace Go.Proofs.Ytajlgglknianlaa
open Go.ChangeShapes Go.WideShapes Go.ChangeAt Go.RowKit Go.Deep
set_option linter.unusedVariables false
set_option linter.unusedSimpArgs false

theorem sl16 : SlTy Try.prog 32 31 16 16 := .mk_ (z := .agg (bytesV (List.replicate 16 0))) Try.underlying32 (by kernel_rfl) rfl (by omega)
set_option maxRecDepth 100000 in
set_option maxHeartbeats 8000000 in
theorem walkNamesPlay (A0 : Option Addr) (n0 c0 : Nat) (z0 : Nat → ActV) (a1 : Int) (w : World) (h0 : IsActs w w.heap.size A0 n0 c0 z0) (w1 : (Lit.int .u64 a1).wf = true) :
    Calls Try.prog 5 #[.slice A0 n0 c0, .int .u64 a1] w fun e w' => e = .returned (.bool true) ∧ Below w.heap.size w w' := by
  have hgr := hidd (great_any w A0 n0 c0 z0 h0)
  have hcm := h0.cmax
  have hcn := h0.cap
  have h0' := hidd h0
  have hfr : 0 ≤ a1 ∧ a1 ≤ 18446744073709551615 := by have := bounds_u64 w1; omega
  unfold maxLen at hcm
  clear h0 w1
  go_enter Try.func5, Try.ntmps5
  go_wp2_with fail
  refine Calls.mono hgr.out ?_
  rintro e w' ⟨g, rfl, hg, rfl⟩
  clear hgr
  cases g with
  | true =>
    clear hg
    go_wp2_with (go_at_call 7; refine (lives_any _).mono ?_; rintro e w' ⟨rfl, hbel⟩)
    go_ret
    exact ⟨rfl, hbel⟩
  | false =>
    have hsm := hidd (hg rfl)
    clear hg
    go_wp2_with fail
    refine (new_any w).mono ?_
    rintro e V1 ⟨rfl, k1, b1⟩
    obtain ⟨B, hB⟩ : ∃ B, w.heap.size = B := ⟨_, rfl⟩
    obtain ⟨M, hM⟩ : ∃ M, V1.heap.size = M := ⟨_, rfl⟩
    have P1 : Hid (Pl w B M (.slice none 0 0) (.slice none 0 0) (.slice none 0 0) (.slice none 0 0) [] [] (V1.alloc (.cells #[.slice none 0 0, .slice none 0 0] 53))) := by
      rw [hB] at k1 b1
      have b2 := (Below.refl V1.heap.size V1).alloc (Nat.le_refl _) (.cells #[.slice none 0 0, .slice none 0 0] 53)
      refine ⟨k1.to b2, ⟨?_, World.ownsRow_nil _ _ _ _, World.ownsRow_nil _ _ _ _, fun e he => by simp at he, fun e he => by simp at he, by simp, by simp⟩, List.Pairwise.nil, List.Pairwise.nil, (by rw [hB]; exact b1.trans (b2.mono (by have := k1.lt; omega))), (by omega), (by have := k1.lt; omega), (fun k hk => by cases hk), (fun k hk => by cases hk)⟩
      rw [← hM]
      exact Blk.new _ _ _
    rw [hB]
    clear k1 b1
    go_wp2_with fail
    go_loopw [7, 8] (fun t i wr => ∃ (k : Nat) (now : Int) (vs vd rs rd : Value) (ss : List Sv.E) (dd : List Dm.E), k ≤ n0 ∧ i = .int .i64 k ∧ t = .int .u64 now ∧ 0 ≤ now ∧ now ≤ 18446744073709551615 ∧ Pl w B M vs vd rs rd ss dd wr) (fun _ i _ => n0 - (intOf i).toNat)
    case atStart => exact ⟨0, a1, _, _, _, _, _, _, by omega, rfl, rfl, hfr.1, hfr.2, P1.out⟩
    case round =>
      obtain ⟨k, now, vs, vd, rs, rd, ss, dd, hk, rfl, rfl, hn0, hn1, hP⟩ := hrel
      have P := hidd hP
      clear hP P1
      by_cases hkn : k < n0
      · obtain ⟨b, off, rfl, hb, hc⟩ := h0'.out.at_ (by omega)
        have hA := hidd ((h0'.out.each k hkn).to (Nat.le_refl _) P.out.bel)
        have hsk := hidd (hsm.out.2 k hkn)
        have hc' : ∀ j v, (z0 k).cells[j]? = some v → wr.cell? ⟨b, off + k * 5 + j, none⟩ = some v := fun j v hv => (P.out.bel.cell (p := ⟨b, off + k * 5 + j, none⟩) hb).trans (hc k hkn j v hv)
        have c0 : wr.cell? ⟨b, off + k * 5, none⟩ = some (.int .u8 (z0 k).kind) := hc' 0 _ rfl
        have c1 := hc' 1 _ rfl
        have c2 := hc' 2 _ rfl
        have c3 := hc' 3 _ rfl
        have c4 := hc' 4 _ rfl
        obtain ⟨a, ha⟩ : ∃ a, a = z0 k := ⟨_, rfl⟩
        rw [← ha] at c0 c1 c2 c3 c4 hA hsk
        obtain ⟨bx, Sx⟩ : ∃ bx, wr.heap.size = bx := ⟨_, rfl⟩
        have hMx : B < M ∧ M < bx := ⟨P.out.BM, by have := P.out.lt.2; omega⟩
        obtain ⟨nw, hnw⟩ : ∃ nw, IntKind.u64.wrap (now + a.later) = nw := ⟨_, rfl⟩
        have hnb := u64w (now + a.later)
        rw [hnw] at hnb
        obtain ⟨hl0, hl1⟩ := hA.out.life
        obtain ⟨hq0, hq1⟩ := hA.out.later
        obtain ⟨hk0, hk1⟩ := hA.out.kind
        have B2 := (Below.refl bx wr).alloc (by omega) (.cells #[.int .u8 a.kind, .slice a.sA a.sn a.sc, .slice a.dA a.dn a.dc, .int .u32 a.life, .int .u32 a.later] 42)
        have P2 := hidd (P.out.to (by rw [Sx]; exact B2))
        have X2 : Hid (Blk (wr.alloc (.cells #[.int .u8 a.kind, .slice a.sA a.sn a.sc, .slice a.dA a.dn a.dc, .int .u32 a.life, .int .u32 a.later] 42)) bx 42 a.cells.toArray) := by rw [← Sx]; exact Blk.new _ _ _
        have A2 := hidd (hA.out.to P.out.bel.size (B2.mono (by have := P.out.bel.size; omega)))
        have S2 : (wr.alloc (.cells #[.int .u8 a.kind, .slice a.sA a.sn a.sc, .slice a.dA a.dn a.dc, .int .u32 a.life, .int .u32 a.later] 42)).heap.size = bx + 1 := by simp [Sx]
        have hwx : w.heap.size ≤ bx := by have := P.out.bel.size; omega
        have S2' := hidd S2
        have hfree := hidd (fun g (hg : bx ≤ g) => P.out.free (g := g) (by omega))
        clear ha hc hc' B2 P hA S2
        rcases (show a.kind % 3 = 0 ∨ a.kind % 3 = 1 ∨ a.kind % 3 = 2 by omega) with hkd | hkd | hkd
        · go_wp2_with (at_builtin
                       refine wpList_append_rd (v := .slice none 0 0) (wr.alloc (.cells #[.int .u8 a.kind, .slice a.sA a.sn a.sc, .slice a.dA a.dn a.dc, .int .u32 a.life, .int .u32 a.later] 42)) rfl (.const (.slice none 0 0)) (.tmp 48) sl16 rfl rfl (World.ownsRow_nil _ (bx + 1) _ _) rfl (rd16 A2.out.s A2.out.snil) (isEnc16.flat_one _) (by have := hsk.out.1; unfold maxLen; omega) (by have := hsk.out.1; omega) (by rw [S2'.out]; omega) ?_
                       intro v5 w5 o5 g5 t5 l5
                       clear l5 t5
                       rw [Nat.zero_add, List.nil_append] at o5
                       obtain ⟨Al, cl, rfl⟩ := slice_of_own o5
                       have B5 : Below (wr.alloc (.cells #[.int .u8 a.kind, .slice a.sA a.sn a.sc, .slice a.dA a.dn a.dc, .int .u32 a.life, .int .u32 a.later] 42)).heap.size (wr.alloc (.cells #[.int .u8 a.kind, .slice a.sA a.sn a.sc, .slice a.dA a.dn a.dc, .int .u32 a.life, .int .u32 a.later] 42)) w5 := (Fr.of_grown g5).below (Nat.le_refl _) (fun k e => by cases e)
                       have P5 := hidd (P2.out.to B5)
                       have X5 := hidd (X2.out.below B5 (by rw [S2'.out]; omega))
                       have A5 := hidd (A2.out.to P2.out.bel.size (B5.mono P2.out.bel.size))
                       have O5 := hidd o5
                       have cx1 : w5.cell? ⟨bx, 1, none⟩ = some (.slice a.sA a.sn a.sc) := X5.out.at_ rfl
                       have cx3 : w5.cell? ⟨bx, 3, none⟩ = some (.int .u32 a.life) := X5.out.at_ rfl
                       clear B5 g5 o5 P2 X2 A2 S2' c0 c1 c2 c3 c4)
          have hIL := hidd (Sv.isL_mono (q := fun k => k ≠ B ∧ vs.ownBlock ≠ some k) (cp_isL O5.out A5.out.s.len A5.out.s.ok) (fun k _ hk => ⟨by omega, (hfree.out k (by omega)).vs⟩))
          refine (servers_any w5 B vs vd ss dd P5.out.bk nw a.life hnb ⟨hl0, hl1⟩ Al a.sn cl a.xs hIL.out).mono ?_
          rintro e w6 ⟨⟨r, rfl⟩, v6, k6, f6, m6⟩
          have R6 := P5.out.rbS f6
          have X6 := X5.out.fr f6 (fun e => by rcases e with e | e; omega; exact (hfree.out bx (Nat.le_refl _)).vs e)
          have A6 := hidd (A5.out.to P5.out.bel.size (P5.out.lowS f6))
          have O6 := ownRow_fr O5.out f6 (fun k hk e => by have := (O5.out.lt k hk).1; rcases e with e | e; omega; exact (hfree.out k (by omega)).vs e)
          have cx1' : w6.cell? ⟨bx, 1, none⟩ = some (.slice a.sA a.sn a.sc) := X6.at_ rfl
          have cx3' : w6.cell? ⟨bx, 3, none⟩ = some (.int .u32 a.life) := X6.at_ rfl
          have H6 := hidd (And.intro k6 (And.intro f6 (And.intro m6 (And.intro R6 (And.intro X6 O6)))))
          clear k6 f6 m6 R6 X6 O6 cx1 cx3 hIL
          go_wp2_with fail
          have hIM := hidd (Sv.isL_mono (q := (· ≠ M)) A6.out.s (fun k _ hk => by have := P5.out.lo; omega))
          refine (Rf.servers_any w6 M rs rd ss (dd.map Rf.embD) H6.out.2.2.2.1 P5.out.ns nw a.life hnb.1 hnb.2 hl0 hl1 a.sA a.sn a.sc a.xs hIM.out).mono ?_
          rintro e w7 ⟨⟨r, rfl⟩, r7, k7, f7, m7⟩
          have hfl := hidd (show ∀ g, Al = some ⟨g, 0, none⟩ → bx < g ∧ Free B M v6 vd r7 rd g from fun g hg => by
            subst hg
            have h1 := O5.out.lt g rfl
            have hq := hfree.out g (by omega)
            have hz5 := H6.out.2.1.size
            refine ⟨by omega, hq.b, hq.m, fun e => ?_, hq.vd, fun e => ?_, hq.rd⟩
            · rcases H6.out.2.2.1 g e with e | e
              · exact hq.vs e
              · omega
            · rcases m7 g e with e | e
              · exact hq.rs e
              · omega)
          have P7 := P5.out.servers H6.out.1 H6.out.2.1 H6.out.2.2.1 k7 f7 m7
          have L7 := hidd (show Lp w B M bx a v6 vd r7 rd (putAll Sv.sameT (cadd nw (csecs a.life)) a.life ss a.xs) dd w7 from ⟨P7, H6.out.2.2.2.2.1.fr f7 (by omega), A6.out.to (by have := P5.out.bel.size; have := H6.out.2.1.size; omega) (f7.below (by have := P5.out.bel.size; have := H6.out.2.1.size; omega) (fun k e => by have := P5.out.lo; omega)), hwx⟩)
          have C7 := hidd (show Cp (bx + 1) w7 Al a.sn cl a.xs 0 from ⟨a.xs, ownRow_fr H6.out.2.2.2.2.2 f7 (fun k hk e => by have := (H6.out.2.2.2.2.2.lt k hk).1; omega), A6.out.s.len, A6.out.s.ok, fun i _ => rfl⟩)
          obtain ⟨ss7, hss7⟩ : ∃ ss7, putAll Sv.sameT (cadd nw (csecs a.life)) a.life ss a.xs = ss7 := ⟨_, rfl⟩
          rw [hss7] at L7
          have hsn := hsk.out.1
          clear P7 k7 f7 m7 H6 O5 P5 X5 A5 A6 hIM hss7 cx1' cx3' hfree
          go_wp2
          obtain ⟨wo, rfl⟩ : ∃ wo : World, wo = wr := ⟨_, rfl⟩
          go_loopw [11] (fun i wr => ∃ j : Nat, j ≤ a.sn ∧ i = .int .i64 j ∧ Lp w B M bx a v6 vd r7 rd ss7 dd wr ∧ Cp (bx + 1) wr Al a.sn cl a.xs j) (fun i _ => a.sn - (intOf i).toNat)
          case atStart => exact ⟨0, by omega, rfl, L7.out, C7.out⟩
          case round =>
            obtain ⟨j, hj, rfl, hL, hC⟩ := hrel
            have L := hidd hL
            have C := hidd hC
            clear hL hC L7 C7
            by_cases hjn : j < a.sn
            · obtain ⟨ys, O, hyl, hyo, hys⟩ := C.out.own
              obtain ⟨gl, cl', hA, hbg, hgl⟩ := own_pos O (by omega)
              injection hA with hA hA2 hA3
              subst hA hA3
              obtain ⟨x, hx⟩ : ∃ x, a.xs[j]? = some x := ⟨_, List.getElem?_eq_getElem (by rw [L.out.act.s.len]; exact hjn)⟩
              have hax := L.out.act.s.ok x (List.mem_of_getElem? hx)
              have hyj := hys j (Nat.le_refl _)
              rw [hx] at hyj
              obtain ⟨b5, off5, hA5, hb5, _, hr5⟩ := L.out.act.s.at_ (by omega)
              have cx1 : wr.drew.cell? ⟨bx, 1, none⟩ = some (.slice a.sA a.sn a.sc) := L.out.x.at_ rfl
              rw [hA5] at cx1
              have i16 : (Try.prog.info? 31).map (·.size) = some (enc16 x).length := by rw [enc16, List.length_map, hax.len]; exact Sv.info31
              have S1 : Hid ((loadVar 31 ⟨gl, j * 16, none⟩).run Try.prog wr.drew = .ok (.agg (bytesV x)) wr.drew ∧ wr.drew.cell? ⟨bx, 1, none⟩ = some (.slice (some ⟨b5, off5, none⟩) a.sn a.sc) ∧ (loadVar 31 ⟨b5, off5 + j * 16, none⟩).run Try.prog wr.drew = .ok (.agg (bytesV x)) wr.drew) :=
                ⟨run_loadVar_mid (P := Try.prog) wr.drew gl (j * 16) 31 (enc16 x) _ (own_range (w := wr.drew) O isEnc16 hyl hyo hyj) Try.underlying31 rfl i16, cx1,
                 run_loadVar_mid (P := Try.prog) wr.drew b5 (off5 + j * 16) 31 (Sv.encT x) _ (hr5 j x hx) Try.underlying31 rfl i16⟩
              have heq := fun V => Sv.eql31 V hax hax
              have hxx : (x == x) = true := by simp
              rw [hxx] at heq
              have hgd := Sv.guard31
              have hjz : (j : Int) < (a.sn : Int) := by omega
              obtain ⟨hg1, hg2⟩ := hfl.out gl rfl
              obtain ⟨hcc1, hcc2⟩ := own_cap O
              have hca := L.out.act.s.cap
              have hcb := L.out.act.s.cmax
              unfold maxLen at hcb hcc2
              have ht := hidd (own_there (w := wr.drew) O (o := j * 16) (k := 16) (by show j * 16 + 16 ≤ cl * 16; omega))
              have F5 := fr_cells wr.drew gl (enc16 Rf.zeroA) (j * 16)
              have L5 := hidd (L.out.draw.far hg2 hg1 F5)
              have C5 : Hid (Cp (bx + 1) (wr.drew.setCells gl (j * 16) (enc16 Rf.zeroA)) (some ⟨gl, 0, none⟩) a.sn cl a.xs (j + 1)) := ⟨ys.set j Rf.zeroA, own_store (w := wr.drew) O isEnc16 hyo Rf.zeroA_is (by omega), by rw [List.length_set]; exact hyl, fun y hy => by
                rcases List.mem_or_eq_of_mem_set hy with hy | rfl
                · exact hyo y hy
                · exact Rf.zeroA_is, fun i hi => by rw [List.getElem?_set_ne (by omega)]; exact hys i (by omega)⟩
              clear hA2 F5 O hyl hyo hys hx hyj hA5 hr5 hxx L C hbg hgl i16
              go_wp2
              clear cx1
              refine wp_region_held_drew (S := (fun V => (loadVar 31 ⟨gl, j * 16, none⟩).run Try.prog V = .ok (.agg (bytesV x)) V ∧ V.cell? ⟨bx, 1, none⟩ = some (.slice (some ⟨b5, off5, none⟩) a.sn a.sc) ∧ (loadVar 31 ⟨b5, off5 + j * 16, none⟩).run Try.prog V = .ok (.agg (bytesV x)) V)) (by kernel_rfl) S1.out (fun hHeld => ?_)
              refine wpAnyH_take (i := 0) (v := ?_) rfl (by kernel_rfl) (by kernel_rfl) (by kernel_rfl) (fun _ _ _ h => h) (Or.inl ⟨by kernel_rfl, ?_⟩) hHeld ?_
              rotate_left
              · intro wh hSw
                go_simp
                try with_reducible rfl
              try simp only [Act.put, List.getElem_toArray, List.getElem_cons_zero, List.getElem_cons_succ, List.setIfInBounds_toArray, List.set_cons_zero, List.set_cons_succ]
              refine wpAnyH_take (i := 1) (v := ?_) rfl (by kernel_rfl) (by kernel_rfl) (by kernel_rfl) (fun _ _ _ h => h) (Or.inl ⟨by kernel_rfl, ?_⟩) hHeld ?_
              rotate_left
              · intro wh hSw
                go_simp
                try with_reducible rfl
              try simp only [Act.put, List.getElem_toArray, List.getElem_cons_zero, List.getElem_cons_succ, List.setIfInBounds_toArray, List.set_cons_zero, List.set_cons_succ]
              refine wpAnyH_take (i := 2) (v := ?_) rfl (by kernel_rfl) (by kernel_rfl) (by kernel_rfl) (fun _ _ _ h => h) (Or.inl ⟨by kernel_rfl, ?_⟩) hHeld ?_
              rotate_left
              · intro wh hSw
                go_simp
                try with_reducible rfl
              try simp only [Act.put, List.getElem_toArray, List.getElem_cons_zero, List.getElem_cons_succ, List.setIfInBounds_toArray, List.set_cons_zero, List.set_cons_succ]
              refine wpAnyH_take (i := 3) rfl (by kernel_rfl) (by kernel_rfl) (by kernel_rfl) (fun _ _ _ h => h) (yieldsIf_load_want (by kernel_rfl) 31 _ rfl _ rfl _ (fun wh hSw => hSw.1)) hHeld ?_
              try simp only [Act.put, List.getElem_toArray, List.getElem_cons_zero, List.getElem_cons_succ, List.setIfInBounds_toArray, List.set_cons_zero, List.set_cons_succ]
              refine wpAnyH_take (i := 4) (v := ?_) rfl (by kernel_rfl) (by kernel_rfl) (by kernel_rfl) (fun _ _ _ h => h) (Or.inl ⟨by kernel_rfl, ?_⟩) hHeld ?_
              rotate_left
              · intro wh hSw
                go_simp
                try with_reducible rfl
              try simp only [Act.put, List.getElem_toArray, List.getElem_cons_zero, List.getElem_cons_succ, List.setIfInBounds_toArray, List.set_cons_zero, List.set_cons_succ]
              refine wpAnyH_take (i := 5) (v := ?_) rfl (by kernel_rfl) (by kernel_rfl) (by kernel_rfl) (fun _ _ _ h => h) (Or.inl ⟨by kernel_rfl, ?_⟩) hHeld ?_
              rotate_left
              · intro wh hSw
                have hcell := hSw.2.1
                go_simp
                try with_reducible rfl
              try simp only [Act.put, List.getElem_toArray, List.getElem_cons_zero, List.getElem_cons_succ, List.setIfInBounds_toArray, List.set_cons_zero, List.set_cons_succ]
              refine wpAnyH_take (i := 6) (v := ?_) rfl (by kernel_rfl) (by kernel_rfl) (by kernel_rfl) (fun _ _ _ h => h) (Or.inl ⟨by kernel_rfl, ?_⟩) hHeld ?_
              rotate_left
              · intro wh hSw
                go_simp
                try with_reducible rfl
              try simp only [Act.put, List.getElem_toArray, List.getElem_cons_zero, List.getElem_cons_succ, List.setIfInBounds_toArray, List.set_cons_zero, List.set_cons_succ]
              refine wpAnyH_take (i := 7) (v := ?_) rfl (by kernel_rfl) (by kernel_rfl) (by kernel_rfl) (fun _ _ _ h => h) (Or.inl ⟨by kernel_rfl, ?_⟩) hHeld ?_
              rotate_left
              · intro wh hSw
                go_simp
                try with_reducible rfl
              try simp only [Act.put, List.getElem_toArray, List.getElem_cons_zero, List.getElem_cons_succ, List.setIfInBounds_toArray, List.set_cons_zero, List.set_cons_succ]
              refine wpAnyH_take (i := 8) rfl (by kernel_rfl) (by kernel_rfl) (by kernel_rfl) (fun _ _ _ h => h) (yieldsIf_load_want (by kernel_rfl) 31 _ rfl _ rfl _ (fun wh hSw => hSw.2.2)) hHeld ?_
              try simp only [Act.put, List.getElem_toArray, List.getElem_cons_zero, List.getElem_cons_succ, List.setIfInBounds_toArray, List.set_cons_zero, List.set_cons_succ]
              refine wpAnyH_take (i := 9) (v := ?_) rfl (by kernel_rfl) (by kernel_rfl) (by kernel_rfl) (fun _ _ _ h => h) (Or.inl ⟨by kernel_rfl, ?_⟩) hHeld ?_
              rotate_left
              · intro wh hSw
                go_simp
                try with_reducible rfl
              try simp only [Act.put, List.getElem_toArray, List.getElem_cons_zero, List.getElem_cons_succ, List.setIfInBounds_toArray, List.set_cons_zero, List.set_cons_succ]
              refine wpAnyH_done (by kernel_rfl) ?_ _
              clear hHeld
              go_wp2_with (first
                | (with_reducible show wpList _ _ _ (⟨_, Op.build 31 _, _, _, _, _⟩ :: _) _ _; refine wpList_build_want rfl 31 #[] rfl (bytesV Rf.zeroA) (by kernel_rfl) ?_)
                | (with_reducible show wpList _ _ _ (⟨_, Op.store 31 (.tmp 82) _, _, _, _, _⟩ :: _) _ _
                   refine wpList_store_vals rfl rfl 31 (.tmp 82) _ rfl gl (j * 16) (enc16 Rf.zeroA) rfl rfl ht.out (by rw [enc16, List.length_map]; exact Sv.info31) (isEnc16.one _) ?_))
              go_roundw
              case rel => exact ⟨j + 1, by omega, by go_num, L5.out, C5.out⟩
              case measure => simp [intOf]; omega
            · have P := hidd L.out.pl
              clear L C
              go_wp2_with fail
              refine (same_any _ B M _ _ _ _ _ _ (P.out).bk (P.out).rb).mono ?_
              rintro e W8 ⟨rfl, b8⟩
              have P8 := hidd ((P.out).to b8)
              clear b8
              go_wp2_with fail
              refine (same_any W8 B M _ _ _ _ _ _ P8.out.bk P8.out.rb).mono ?_
              rintro e W9 ⟨rfl, b9⟩
              have P9 := hidd (P8.out.to b9)
              clear b9 P8
              go_wp2
              go_roundw
              case rel => exact ⟨k + 1, nw, _, _, _, _, _, _, by omega, by go_num, rfl, hnb.1, hnb.2, P9.out⟩
              case measure => simp [intOf]; omega
        · go_wp2_with (at_builtin
                       refine wpList_append_rd (v := .slice none 0 0) (wr.alloc (.cells #[.int .u8 a.kind, .slice a.sA a.sn a.sc, .slice a.dA a.dn a.dc, .int .u32 a.life, .int .u32 a.later] 42)) rfl (.const (.slice none 0 0)) (.tmp 86) St.slTy rfl rfl (World.ownsRow_nil _ (bx + 1) _ _) rfl (St.rd_of A2.out.d A2.out.dnil) (St.isEnc.flat_one _) (by have := hsk.out.2; unfold maxLen; omega) (by have := hsk.out.2; omega) (by rw [S2'.out]; omega) ?_
                       intro v5 w5 o5 g5 t5 l5
                       clear l5 t5
                       rw [Nat.zero_add, List.nil_append] at o5
                       obtain ⟨Al, cl, rfl⟩ := slice_of_own o5
                       have B5 : Below (wr.alloc (.cells #[.int .u8 a.kind, .slice a.sA a.sn a.sc, .slice a.dA a.dn a.dc, .int .u32 a.life, .int .u32 a.later] 42)).heap.size (wr.alloc (.cells #[.int .u8 a.kind, .slice a.sA a.sn a.sc, .slice a.dA a.dn a.dc, .int .u32 a.life, .int .u32 a.later] 42)) w5 := (Fr.of_grown g5).below (Nat.le_refl _) (fun k e => by cases e)
                       have P5 := hidd (P2.out.to B5)
                       have X5 := hidd (X2.out.below B5 (by rw [S2'.out]; omega))
                       have A5 := hidd (A2.out.to P2.out.bel.size (B5.mono P2.out.bel.size))
                       have O5 := hidd o5
                       have cx1 : w5.cell? ⟨bx, 2, none⟩ = some (.slice a.dA a.dn a.dc) := X5.out.at_ rfl
                       have cx3 : w5.cell? ⟨bx, 3, none⟩ = some (.int .u32 a.life) := X5.out.at_ rfl
                       clear B5 g5 o5 P2 X2 A2 S2' c0 c1 c2 c3 c4)
          have hIL := hidd (cpD_isL O5.out A5.out.d.len)
          refine (St.domains_any w5 B vs vd ss dd P5.out.bk nw a.life hnb ⟨hl0, hl1⟩ _ Al a.dn cl a.ys hIL.out (by have := hsk.out.2; omega)).mono ?_
          rintro e w6 ⟨⟨r, rfl⟩, v6, k6, f6, m6⟩
          have R6 := P5.out.rbD f6
          have X6 := X5.out.fr f6 (fun e => by rcases e with e | e; omega; exact (hfree.out bx (Nat.le_refl _)).vd e)
          have A6 := hidd (A5.out.to P5.out.bel.size (P5.out.lowD f6))
          have O6 := ownRow_fr O5.out f6 (fun k hk e => by have := (O5.out.lt k hk).1; rcases e with e | e; omega; exact (hfree.out k (by omega)).vd e)
          have cx1' : w6.cell? ⟨bx, 2, none⟩ = some (.slice a.dA a.dn a.dc) := X6.at_ rfl
          have cx3' : w6.cell? ⟨bx, 3, none⟩ = some (.int .u32 a.life) := X6.at_ rfl
          have H6 := hidd (And.intro k6 (And.intro f6 (And.intro m6 (And.intro R6 (And.intro X6 O6)))))
          clear k6 f6 m6 R6 X6 O6 cx1 cx3 hIL
          go_wp2_with fail
          have hIM := hidd (Dm.isL_mono (q := (· ≠ M)) A6.out.d (fun k _ hk => by have := P5.out.lo; omega))
          refine (Rf.domains_any w6 M rs rd (ss.map Rf.embS) dd H6.out.2.2.2.1 P5.out.nd nw a.life hnb.1 hnb.2 hl0 hl1 a.dA a.dn a.dc a.ys hIM.out).mono ?_
          rintro e w7 ⟨⟨r, rfl⟩, r7, k7, f7, m7⟩
          have hfl := hidd (show ∀ g, Al = some ⟨g, 0, none⟩ → bx < g ∧ Free B M vs v6 rs r7 g from fun g hg => by
            subst hg
            have h1 := O5.out.lt g rfl
            have hq := hfree.out g (by omega)
            have hz5 := H6.out.2.1.size
            refine ⟨by omega, hq.b, hq.m, hq.vs, fun e => ?_, hq.rs, fun e => ?_⟩
            · rcases H6.out.2.2.1 g e with e | e
              · exact hq.vd e
              · omega
            · rcases m7 g e with e | e
              · exact hq.rd e
              · omega)
          have P7 := P5.out.domains H6.out.1 H6.out.2.1 H6.out.2.2.1 k7 f7 m7
          have L7 := hidd (show Lp w B M bx a vs v6 rs r7 ss (putAll Dm.sameT (cadd nw (csecs a.life)) a.life dd (St.left a.ys)) w7 from ⟨P7, H6.out.2.2.2.2.1.fr f7 (by omega), A6.out.to (by have := P5.out.bel.size; have := H6.out.2.1.size; omega) (f7.below (by have := P5.out.bel.size; have := H6.out.2.1.size; omega) (fun k e => by have := P5.out.lo; omega)), hwx⟩)
          have C7 := hidd (show CpD (bx + 1) w7 Al a.dn cl a.ys 0 from ⟨a.ys, ownRow_fr H6.out.2.2.2.2.2 f7 (fun k hk e => by have := (H6.out.2.2.2.2.2.lt k hk).1; omega), A6.out.d.len, fun i _ => rfl⟩)
          obtain ⟨dd7, hdd7⟩ : ∃ dd7, putAll Dm.sameT (cadd nw (csecs a.life)) a.life dd (St.left a.ys) = dd7 := ⟨_, rfl⟩
          rw [hdd7] at L7
          have hsn := hsk.out.2
          clear P7 k7 f7 m7 H6 O5 P5 X5 A5 A6 hIM hdd7 cx1' cx3' hfree
          go_wp2
          obtain ⟨wo, rfl⟩ : ∃ wo : World, wo = wr := ⟨_, rfl⟩
          go_loopw [13] (fun i wr => ∃ j : Nat, j ≤ a.dn ∧ i = .int .i64 j ∧ Lp w B M bx a vs v6 rs r7 ss dd7 wr ∧ CpD (bx + 1) wr Al a.dn cl a.ys j) (fun i _ => a.dn - (intOf i).toNat)
          case atStart => exact ⟨0, by omega, rfl, L7.out, C7.out⟩
          case round =>
            obtain ⟨j, hj, rfl, hL, hC⟩ := hrel
            have L := hidd hL
            have C := hidd hC
            clear hL hC L7 C7
            by_cases hjn : j < a.dn
            · obtain ⟨ys, O, hyl, hys⟩ := C.out.own
              obtain ⟨gl, cl', hA, hbg, hgl⟩ := own_pos O (by omega)
              injection hA with hA hA2 hA3
              subst hA hA3
              obtain ⟨x, hx⟩ : ∃ x, a.ys[j]? = some x := ⟨_, List.getElem?_eq_getElem (by rw [L.out.act.d.len]; exact hjn)⟩
              have hyj := hys j (Nat.le_refl _)
              rw [hx] at hyj
              obtain ⟨b5, off5, hA5, hb5, _, hr5⟩ := L.out.act.d.at_ (by omega)
              have cx1 : wr.drew.cell? ⟨bx, 2, none⟩ = some (.slice a.dA a.dn a.dc) := L.out.x.at_ rfl
              rw [hA5] at cx1
              have cl1 : wr.drew.cell? ⟨gl, j, none⟩ = some (.string x) := by
                have := own_range (w := wr.drew) O St.isEnc hyl (fun _ _ => trivial) hyj 0 _ rfl
                rwa [Nat.mul_one, Nat.add_zero] at this
              have S1 : Hid (wr.drew.cell? ⟨gl, j, none⟩ = some (.string x) ∧ wr.drew.cell? ⟨bx, 2, none⟩ = some (.slice (some ⟨b5, off5, none⟩) a.dn a.dc) ∧ wr.drew.cell? ⟨b5, off5 + j, none⟩ = some (.string x)) :=
                ⟨cl1, cx1, by have := hr5 j x hx 0 _ rfl; rwa [Nat.mul_one, Nat.add_zero] at this⟩
              have hxx : (x.toList == x.toList) = true := by simp
              have hjz : (j : Int) < (a.dn : Int) := by omega
              obtain ⟨hg1, hg2⟩ := hfl.out gl rfl
              obtain ⟨hcc1, hcc2⟩ := own_cap O
              have hca := L.out.act.d.cap
              have hcb := L.out.act.d.cmax
              unfold maxLen at hcb hcc2
              have fl1 : wr.drew.frozen? ⟨gl, j, none⟩ = false := O.frozenAt j
              have L5 := hidd (L.out.draw.far (V := wr.drew.setCell ⟨gl, j, none⟩ (.string ⟨#[33]⟩)) hg2 hg1 ((Fr.refl (· = gl) wr.drew).setB _))
              have C5 : Hid (CpD (bx + 1) (wr.drew.setCell ⟨gl, j, none⟩ (.string ⟨#[33]⟩)) (some ⟨gl, 0, none⟩) a.dn cl a.ys (j + 1)) := ⟨ys.set j ⟨#[33]⟩, by
                have := own_store (w := wr.drew) O St.isEnc (fun _ _ => trivial) (j := j) (e := ⟨#[33]⟩) trivial (by omega)
                rwa [Nat.mul_one] at this, by rw [List.length_set]; exact hyl, fun i hi => by rw [List.getElem?_set_ne (by omega)]; exact hys i (by omega)⟩
              clear hA2 O hyl hys hx hyj hA5 hr5 L C hbg hgl
              go_wp2
              clear cx1
              refine wp_region_held_drew (S := (fun V => V.cell? ⟨gl, j, none⟩ = some (.string x) ∧ V.cell? ⟨bx, 2, none⟩ = some (.slice (some ⟨b5, off5, none⟩) a.dn a.dc) ∧ V.cell? ⟨b5, off5 + j, none⟩ = some (.string x))) (by kernel_rfl) S1.out (fun hHeld => ?_)
              refine wpAnyH_take (i := 0) (v := ?_) rfl (by kernel_rfl) (by kernel_rfl) (by kernel_rfl) (fun _ _ _ h => h) (Or.inl ⟨by kernel_rfl, ?_⟩) hHeld ?_
              rotate_left
              · intro wh hSw
                go_simp
                try with_reducible rfl
              try simp only [Act.put, List.getElem_toArray, List.getElem_cons_zero, List.getElem_cons_succ, List.setIfInBounds_toArray, List.set_cons_zero, List.set_cons_succ]
              refine wpAnyH_take (i := 1) (v := ?_) rfl (by kernel_rfl) (by kernel_rfl) (by kernel_rfl) (fun _ _ _ h => h) (Or.inl ⟨by kernel_rfl, ?_⟩) hHeld ?_
              rotate_left
              · intro wh hSw
                go_simp
                try with_reducible rfl
              try simp only [Act.put, List.getElem_toArray, List.getElem_cons_zero, List.getElem_cons_succ, List.setIfInBounds_toArray, List.set_cons_zero, List.set_cons_succ]
              refine wpAnyH_take (i := 2) (v := ?_) rfl (by kernel_rfl) (by kernel_rfl) (by kernel_rfl) (fun _ _ _ h => h) (Or.inl ⟨by kernel_rfl, ?_⟩) hHeld ?_
              rotate_left
              · intro wh hSw
                go_simp
                try with_reducible rfl
              try simp only [Act.put, List.getElem_toArray, List.getElem_cons_zero, List.getElem_cons_succ, List.setIfInBounds_toArray, List.set_cons_zero, List.set_cons_succ]
              refine wpAnyH_take (i := 3) (v := ?_) rfl (by kernel_rfl) (by kernel_rfl) (by kernel_rfl) (fun _ _ _ h => h) (Or.inl ⟨by kernel_rfl, ?_⟩) hHeld ?_
              rotate_left
              · intro wh hSw
                have hcell := hSw.1
                go_simp
                try with_reducible rfl
              try simp only [Act.put, List.getElem_toArray, List.getElem_cons_zero, List.getElem_cons_succ, List.setIfInBounds_toArray, List.set_cons_zero, List.set_cons_succ]
              refine wpAnyH_take (i := 4) (v := ?_) rfl (by kernel_rfl) (by kernel_rfl) (by kernel_rfl) (fun _ _ _ h => h) (Or.inl ⟨by kernel_rfl, ?_⟩) hHeld ?_
              rotate_left
              · intro wh hSw
                go_simp
                try with_reducible rfl
              try simp only [Act.put, List.getElem_toArray, List.getElem_cons_zero, List.getElem_cons_succ, List.setIfInBounds_toArray, List.set_cons_zero, List.set_cons_succ]
              refine wpAnyH_take (i := 5) (v := ?_) rfl (by kernel_rfl) (by kernel_rfl) (by kernel_rfl) (fun _ _ _ h => h) (Or.inl ⟨by kernel_rfl, ?_⟩) hHeld ?_
              rotate_left
              · intro wh hSw
                have hcell := hSw.2.1
                go_simp
                try with_reducible rfl
              try simp only [Act.put, List.getElem_toArray, List.getElem_cons_zero, List.getElem_cons_succ, List.setIfInBounds_toArray, List.set_cons_zero, List.set_cons_succ]
              refine wpAnyH_take (i := 6) (v := ?_) rfl (by kernel_rfl) (by kernel_rfl) (by kernel_rfl) (fun _ _ _ h => h) (Or.inl ⟨by kernel_rfl, ?_⟩) hHeld ?_
              rotate_left
              · intro wh hSw
                go_simp
                try with_reducible rfl
              try simp only [Act.put, List.getElem_toArray, List.getElem_cons_zero, List.getElem_cons_succ, List.setIfInBounds_toArray, List.set_cons_zero, List.set_cons_succ]
              refine wpAnyH_take (i := 7) (v := ?_) rfl (by kernel_rfl) (by kernel_rfl) (by kernel_rfl) (fun _ _ _ h => h) (Or.inl ⟨by kernel_rfl, ?_⟩) hHeld ?_
              rotate_left
              · intro wh hSw
                go_simp
                try with_reducible rfl
              try simp only [Act.put, List.getElem_toArray, List.getElem_cons_zero, List.getElem_cons_succ, List.setIfInBounds_toArray, List.set_cons_zero, List.set_cons_succ]
              refine wpAnyH_take (i := 8) (v := ?_) rfl (by kernel_rfl) (by kernel_rfl) (by kernel_rfl) (fun _ _ _ h => h) (Or.inl ⟨by kernel_rfl, ?_⟩) hHeld ?_
              rotate_left
              · intro wh hSw
                have hcell := hSw.2.2
                go_simp
                try with_reducible rfl
              try simp only [Act.put, List.getElem_toArray, List.getElem_cons_zero, List.getElem_cons_succ, List.setIfInBounds_toArray, List.set_cons_zero, List.set_cons_succ]
              refine wpAnyH_take (i := 9) (v := ?_) rfl (by kernel_rfl) (by kernel_rfl) (by kernel_rfl) (fun _ _ _ h => h) (Or.inl ⟨by kernel_rfl, ?_⟩) hHeld ?_
              rotate_left
              · intro wh hSw
                go_simp
                try with_reducible rfl
              try simp only [Act.put, List.getElem_toArray, List.getElem_cons_zero, List.getElem_cons_succ, List.setIfInBounds_toArray, List.set_cons_zero, List.set_cons_succ]
              refine wpAnyH_done (by kernel_rfl) ?_ _
              clear hHeld
              go_wp2
              go_roundw
              case rel => exact ⟨j + 1, by omega, by go_num, L5.out, C5.out⟩
              case measure => simp [intOf]; omega
            · have P := hidd L.out.pl
              clear L C
              go_wp2_with fail
              refine (same_any _ B M _ _ _ _ _ _ (P.out).bk (P.out).rb).mono ?_
              rintro e W8 ⟨rfl, b8⟩
              have P8 := hidd ((P.out).to b8)
              clear b8
              go_wp2_with fail
              refine (same_any W8 B M _ _ _ _ _ _ P8.out.bk P8.out.rb).mono ?_
              rintro e W9 ⟨rfl, b9⟩
              have P9 := hidd (P8.out.to b9)
              clear b9 P8
              go_wp2
              go_roundw
              case rel => exact ⟨k + 1, nw, _, _, _, _, _, _, by omega, by go_num, rfl, hnb.1, hnb.2, P9.out⟩
              case measure => simp [intOf]; omega
        · go_wp2_with fail
          refine (tick_more _ B vs vd ss dd P2.out.bk nw).mono ?_
          rintro e w5 ⟨⟨r, rfl⟩, v5, d5, k5, f5, m5, q5⟩
          have R5 := P2.out.rbT f5
          have H5 := hidd (And.intro k5 (And.intro f5 (And.intro m5 (And.intro q5 R5))))
          clear k5 f5 m5 q5 R5
          go_wp2_with fail
          refine (Rf.tick_any w5 M rs rd ss dd H5.out.2.2.2.2 nw hnb.1 hnb.2).mono ?_
          rintro e w6 ⟨⟨r, rfl⟩, v6, d6, k6, f6, m6, q6⟩
          have P := hidd (P2.out.tick H5.out.1 H5.out.2.1 H5.out.2.2.1 H5.out.2.2.2.1 k6 f6 m6 q6)
          clear k6 f6 m6 q6 H5 P2 X2 A2 S2' c0 c1 c2 c3 c4 hfree
          go_wp2_with fail
          refine (same_any _ B M _ _ _ _ _ _ (P.out).bk (P.out).rb).mono ?_
          rintro e W8 ⟨rfl, b8⟩
          have P8 := hidd ((P.out).to b8)
          clear b8
          go_wp2_with fail
          refine (same_any W8 B M _ _ _ _ _ _ P8.out.bk P8.out.rb).mono ?_
          rintro e W9 ⟨rfl, b9⟩
          have P9 := hidd (P8.out.to b9)
          clear b9 P8
          go_wp2
          go_roundw
          case rel => exact ⟨k + 1, nw, _, _, _, _, _, _, by omega, by go_num, rfl, hnb.1, hnb.2, P9.out⟩
          case measure => simp [intOf]; omega
      · have hkn' : k = n0 := by omega
        subst hkn'
        go_wp2_with (go_at_call 7; refine (lives_any _).mono ?_; rintro e w' ⟨rfl, hbel⟩)
        go_ret
        exact ⟨rfl, by first | exact P.out.bel.trans (hbel.mono P.out.bel.size) | (rw [← hB]; exact P.out.bel.trans (hbel.mono P.out.bel.size))⟩

set_option maxRecDepth 100000 in
theorem liftedNamesPlay (os : Os) (started : os.Started) (H : Type) (enc : TypeId × Value → H) :
    ReturnsInHanded {} Try.checked os 5 .any (Rows.namesPlaySpec.pre6 enc Try.prog Try.f5 Rows.namesPlayRow.domain false) (Rows.namesPlaySpec.post enc Try.prog Try.f5 false true false false) := by
  refine returnsInHanded_of_change_sized (C := Try.checked) own started (by kernel_rfl) Try.func5
    (ChangeSpec.witness6 (enc := enc) (C := Try.checked) false ⟨#[], #[.slice none 0 0, .int .u64 0], []⟩ 8 (by kernel_rfl) (by kernel_rfl) (by kernel_rfl) (by kernel_rfl)) ?_
  intro W base args ds gs before hval0 hW hcnd hsz0 _
  have hval : ∀ (j : Nat) t v, Try.f5.params[j]? = some t → args[j]? = some v → Value.okWide Try.prog W .any base t v := hval0
  have hW' := hW
  obtain ⟨p, q, hA0, hV, rfl, hfz, hnd⟩ := hW
  have hA : DataW.TrodAll enc Try.prog W 0 (fun _ => true) true Try.f5.params.toList args.toList ds p := hA0
  have hsz : (DataW.weightsEach Try.prog (Try.f5.params.toList ++ Rows.namesPlaySpec.plain.varTypes Try.prog) (ds ++ gs)).all (· ≤ reachBytes) = true := hsz0
  rw [Try.params5] at hA hval hsz
  obtain ⟨v0, vs0, d0, ds0, p0, q0, hargs, rfl, rfl, h0, r0⟩ := trodAll_cons hA
  obtain ⟨v1, vs1, d1, ds1, p1, q1, rfl, rfl, rfl, h1, r1⟩ := trodAll_cons r0
  obtain ⟨rfl, rfl, rfl⟩ := trodAll_nil r1
  obtain rfl : args = #[v0, v1] := by cases args; simp_all
  obtain ⟨rfl, rfl⟩ := trodVars_none hV
  have k0 := h0
  have lt0 : ∀ x ∈ p0, x.block < W.heap.size := by obtain ⟨m, hm⟩ := k0; exact DataW.trod_lt m _ _ _ hm
  have fit0 : Fit Try.prog 38 d0 := fun m hm => by simpa using List.all_eq_true.1 hsz _ (DataW.weights_mem_each (j := 0) (t := 38) rfl rfl m hm)
  obtain ⟨A0, n0, c0, z0, ev0, w0⟩ := open_acts (hval 0 38 v0 rfl rfl) h0 fit0
  subst ev0
  have k1 := h1
  have lt1 : ∀ x ∈ p1, x.block < W.heap.size := by obtain ⟨m, hm⟩ := k1; exact DataW.trod_lt m _ _ _ hm
  have fit1 : Fit Try.prog 28 d1 := fun m hm => by simpa using List.all_eq_true.1 hsz _ (DataW.weights_mem_each (j := 1) (t := 28) rfl rfl m hm)
  obtain ⟨a1, rfl, _, _, w1⟩ := open_int Try.underlying28 (hval 1 28 v1 rfl rfl) h1
  clear hA0 hval0
  refine (walkNamesPlay A0 n0 c0 z0 a1 W w0 w1).mono fun e W' ⟨he, bel⟩ => ?_
  subst he
  exact ⟨_, rfl, _, _, _, [], _, [], hW', trodAll_mk1 (shut_bool Try.underlying4 _), (trodAll_cons_mk (Below.trod laidOut (by kernel_rfl) (of_decide_eq_true (by kernel_rfl)) k0 bel lt0) (trodAll_cons_mk (Below.trod laidOut (by kernel_rfl) (of_decide_eq_true (by kernel_rfl)) k1 bel lt1) trodAll_mk0)), rfl, bel.frame _, fun h => by cases h⟩

/-- THE STATEMENT: 'NamesPlay'. -/
theorem namesPlay_holds : Rows.NamesPlaySaid :=
  OpenClaim.holds_of_wide 5 Try.f5 rfl rfl rfl rfl rfl rfl rfl ⟨rfl, rfl, rfl, rfl, rfl⟩ rfl rfl rfl rfl rfl (by kernel_rfl) Try.func5 (by kernel_rfl)
    (of_decide_eq_true (by kernel_rfl)) (by unfold Func.isWrapper; first | (rw [if_pos (by decide +kernel)]; kernel_rfl) | (rw [if_neg (by decide +kernel)]; exact ⟨rfl, rfl⟩))
    (fun os started H enc _ => liftedNamesPlay os started H enc)

end Go.Proofs.Ytajlgglknianlaa
