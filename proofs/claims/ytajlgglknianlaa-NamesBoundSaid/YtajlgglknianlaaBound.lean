/- 'NamesBound': for every input the law returns true; nothing that was there is written. No condition. -/
import Derived.Test.YtajlgglknianlaaSeen
import Derived.Deep.RegionHeld3
import Derived.Deep.QuietTactic
import Derived.BigQuiet
namespace Go.Proofs.Ytajlgglknianlaa
open Go.ChangeShapes Go.WideShapes Go.ChangeAt Go.RowKit Go.Deep
set_option linter.unusedVariables false
set_option linter.unusedSimpArgs false

set_option maxRecDepth 100000 in
set_option maxHeartbeats 8000000 in
theorem walkNamesBound (A0 : Option Addr) (n0 c0 : Nat) (z0 : Nat → ActV) (w : World) (h0 : IsActs w w.heap.size A0 n0 c0 z0) :
    Calls Try.prog 4 #[.slice A0 n0 c0] w fun e w' => e = .returned (.bool true) ∧ Below w.heap.size w w' := by
  have hgr := hidd (great_any w A0 n0 c0 z0 h0)
  have hcm := h0.cmax
  have hcn := h0.cap
  have h0' := hidd h0
  unfold maxLen at hcm
  clear h0
  go_enter Try.func4, Try.ntmps4
  go_wp2_with fail
  refine Calls.mono hgr.out ?_
  rintro e w' ⟨g, rfl, hg, rfl⟩
  clear hgr
  cases g with
  | true =>
    clear hg
    go_wp2_with (go_at_call 7; refine (lives_any _).mono ?_; rintro e w' ⟨rfl, hbel⟩)
    go_ret
    exact ⟨rfl, hbel⟩
  | false =>
    have hsm := hidd (hg rfl)
    clear hg
    go_wp2_with fail
    refine (new_any w).mono ?_
    rintro e V1 ⟨rfl, k1, b1'⟩
    have K1 := hidd k1
    have B1 := hidd b1'
    obtain ⟨B, hB⟩ : ∃ B, w.heap.size = B := ⟨_, rfl⟩
    rw [hB] at K1 B1 ⊢
    clear k1 b1'
    go_wp2_with fail
    go_loopw [4] (fun i wr => ∃ (k : Nat) (vs vd : Value) (ss : List Sv.E) (ds : List Dm.E), k ≤ n0 ∧ i = .int .i64 k ∧ Bk wr B vs vd ss ds ∧ NoDup Sv.sameT ss ∧ NoDup Dm.sameT ds ∧ (∀ e ∈ ds, St.gone e.1 = false) ∧ Below B w wr) (fun i _ => n0 - (intOf i).toNat)
    case atStart => exact ⟨0, _, _, _, _, by omega, rfl, K1.out, List.Pairwise.nil, List.Pairwise.nil, fun e he => by simp at he, B1.out⟩
    case round =>
      obtain ⟨k, vs, vd, ss, ds, hk, rfl, hbk, hns, hnd, hne, hbl⟩ := hrel
      have K := hidd hbk
      have hns' := hidd hns
      have hnd' := hidd hnd
      have hne' := hidd hne
      have b0 := hidd hbl
      clear hbk hns hnd hne hbl K1 B1
      by_cases hkn : k < n0
      · obtain ⟨b, off, rfl, hb, hc⟩ := h0'.out.at_ (by omega)
        have hA := hidd ((h0'.out.each k hkn).to (Nat.le_refl _) (by rw [hB]; exact b0.out))
        have hsk := hidd (hsm.out.2 k hkn)
        have hc' : ∀ j v, (z0 k).cells[j]? = some v → wr.cell? ⟨b, off + k * 5 + j, none⟩ = some v := fun j v hv => (b0.out.cell (p := ⟨b, off + k * 5 + j, none⟩) (by rw [← hB]; exact hb)).trans (hc k hkn j v hv)
        have c0 : wr.cell? ⟨b, off + k * 5, none⟩ = some (.int .u8 (z0 k).kind) := hc' 0 _ rfl
        have c1 := hc' 1 _ rfl
        have c2 := hc' 2 _ rfl
        have c3 := hc' 3 _ rfl
        have c4 := hc' 4 _ rfl
        obtain ⟨a, ha⟩ : ∃ a, a = z0 k := ⟨_, rfl⟩
        rw [← ha] at c0 c1 c2 c3 c4 hA hsk
        obtain ⟨bx, Sx⟩ : ∃ bx, wr.heap.size = bx := ⟨_, rfl⟩
        have hBx : B < bx := by have := K.out.lt; omega
        clear ha hc hc'
        obtain ⟨hl0, hl1⟩ := hA.out.life
        go_wp2_with fail
        have B2 := (Below.refl bx wr).alloc (by omega) (.cells #[.int .u8 a.kind, .slice a.sA a.sn a.sc, .slice a.dA a.dn a.dc, .int .u32 a.life, .int .u32 a.later] 42)
        have K2 := hidd (K.out.to (by rw [Sx]; exact B2))
        have X2 : Hid (Blk (wr.alloc (.cells #[.int .u8 a.kind, .slice a.sA a.sn a.sc, .slice a.dA a.dn a.dc, .int .u32 a.life, .int .u32 a.later] 42)) bx 42 a.cells.toArray) := by rw [← Sx]; exact Blk.new _ _ _
        have b2 := hidd (b0.out.trans (B2.mono (by omega)))
        have A2 := hidd (hA.out.to (by rw [hB]; omega) (B2.mono (by rw [hB]; omega)))
        obtain ⟨V2, hV2⟩ : ∃ V2, wr.alloc (.cells #[.int .u8 a.kind, .slice a.sA a.sn a.sc, .slice a.dA a.dn a.dc, .int .u32 a.life, .int .u32 a.later] 42) = V2 := ⟨_, rfl⟩
        rw [hV2] at K2 X2 b2 A2 B2 ⊢
        have S2 : Hid (V2.heap.size = bx + 1) := by rw [← hV2]; show (wr.alloc _).heap.size = _; simp [Sx]
        have o2s := hidd K.out.s.lt
        have o2d := hidd K.out.d.lt
        clear hV2 B2 K b0 hA c0 c1 c2 c3 c4
        refine (allD_any V2 B _ _ _ _ K2.out).mono ?_
        rintro e V3 ⟨dv, rfl, G3⟩
        have D3 := hidd (G3.l.to2 (lo' := bx + 1) (by rw [S2.out]; omega))
        have K3 := hidd (K2.out.to G3.bel)
        have X3 := hidd (X2.out.below G3.bel (by rw [S2.out]; omega))
        have b3 := hidd (b2.out.trans (G3.bel.mono (by rw [S2.out]; omega)))
        have A3 := hidd (A2.out.to (by have := b2.out.size; rw [hB] at this ⊢; exact this) (G3.bel.mono (by rw [S2.out, hB]; omega)))
        have S3 : bx + 1 ≤ V3.heap.size := by have := G3.bel.size; rw [S2.out] at this; exact this
        obtain ⟨Ad, hdv⟩ : ∃ Ad, dv = .slice Ad ds.length ds.length := ⟨_, D3.out.choose_spec.1⟩
        subst hdv
        have cx1 : V3.cell? ⟨bx, 1, none⟩ = some (.slice a.sA a.sn a.sc) := X3.out.at_ rfl
        have cx3 : V3.cell? ⟨bx, 3, none⟩ = some (.int .u32 a.life) := X3.out.at_ rfl
        clear G3 K2 X2 b2 A2 S2
        go_wp2_with fail
        refine (servers_any V3 B vs vd ss ds K3.out 0 a.life (by omega) (by omega) a.sA a.sn a.sc a.xs (Sv.isL_mono A3.out.s (fun b hb hp => ⟨by rw [hB] at hp; omega, fun e => by have := (K3.out.s.lt b e).1; rw [hB] at hp; omega⟩))).mono ?_
        rintro e V4 ⟨⟨r, rfl⟩, vs4, k4, f4, m4⟩
        have hS : ∀ k, Own B vs k → B ≤ k ∧ k < bx := fun k e => by
          rcases e with e | e
          · omega
          · have := o2s.out k e; omega
        have hn4 := hidd (putAll_nodup (til := cadd 0 (csecs a.life)) (life := a.life) svSame_symm a.xs hns'.out)
        have hz4 := hidd (show a.life = 0 → ∀ e ∈ putAll Sv.sameT (cadd 0 (csecs a.life)) a.life ss a.xs, ∀ x ∈ a.xs, Sv.sameT e.1 x = false from fun h => by rw [h]; exact putAll_zero svSame_symm svSame_trans a.xs hns'.out)
        obtain ⟨ss4, h4⟩ : ∃ ss4, putAll Sv.sameT (cadd 0 (csecs a.life)) a.life ss a.xs = ss4 := ⟨_, rfl⟩
        rw [h4] at k4 hn4 hz4
        have K4 := hidd k4
        have D4 := hidd (D3.out.fr f4 (fun k e => by have := (hS k e).2; omega))
        have X4 := hidd (X3.out.fr f4 (fun e => by have := (hS bx e).2; omega))
        have F4 : Below B V3 V4 := f4.below (by have := K3.out.lt; omega) (fun k e => (hS k e).1)
        have b4 := hidd (b3.out.trans F4)
        have A4 := hidd (A3.out.to (by have := b3.out.size; rw [hB] at this ⊢; exact this) (by rw [hB]; exact F4))
        have S4 := f4.size
        clear h4 k4 f4 m4 F4 K3 D3 X3 b3 A3 cx1 cx3 hS
        go_wp2_with fail
        refine (allS_any V4 B _ _ _ _ K4.out).mono ?_
        rintro e V5 ⟨sv, rfl, G5⟩
        have L5 := hidd (show SvL (bx + 1) V5 sv ss4 from by
          obtain ⟨A, hA, hc⟩ := G5.l
          exact ⟨A, hA, fun hn => by
            obtain ⟨g, cur, h1, h2, h3, h5⟩ := hc hn
            exact ⟨g, cur, h1, by omega, h3, h5⟩⟩)
        have K5 := hidd (K4.out.to G5.bel)
        have D5 := hidd (D4.out.to G5.bel)
        have X5 := hidd (X4.out.below G5.bel (by omega))
        have b5 := hidd (b4.out.trans (G5.bel.mono (by omega)))
        have A5 := hidd (A4.out.to (by rw [hB]; omega) (G5.bel.mono (by rw [hB]; omega)))
        have S5 := G5.bel.size
        obtain ⟨As, hsv⟩ : ∃ As, sv = .slice As ss4.length ss4.length := ⟨_, L5.out.choose_spec.1⟩
        subst hsv
        clear G5 K4 D4 X4 b4 A4
        go_wp2_with fail
        refine (allD_any V5 B _ _ _ _ K5.out).mono ?_
        rintro e V6 ⟨ev, rfl, G6⟩
        have E6 := hidd (show Bd w B bx a vs4 vd ss4 ds (.slice Ad ds.length ds.length) ev (.slice As ss4.length ss4.length) V6 from
          ⟨K5.out.to G6.bel, D5.out.to G6.bel, G6.l.to2 (by omega), L5.out.to G6.bel, X5.out.below G6.bel (by omega), A5.out.to (by rw [hB]; omega) (G6.bel.mono (by rw [hB]; omega)), by rw [hB]; exact b5.out.trans (G6.bel.mono (by omega)), by have := G6.bel.size; omega⟩)
        obtain ⟨Ae, hev⟩ : ∃ Ae, ev = .slice Ae ds.length ds.length := ⟨_, E6.out.e.choose_spec.1⟩
        subst hev
        have hs4 : (ss4.length : Int) ≤ 4 := by have := K5.out.s4; omega
        have hd4 : (ds.length : Int) ≤ 4 := by have := K5.out.d4; omega
        clear G6 K5 D5 X5 b5 A5 L5 S3 S4 S5 o2s o2d
        go_wp2
        -- each domain stays
        obtain ⟨wo, rfl⟩ : ∃ wo : World, wo = wr := ⟨_, rfl⟩
        go_loopw [9] (fun i wr => ∃ j : Nat, j ≤ ds.length ∧ i = .int .i64 j ∧ Bd w B bx a vs4 vd ss4 ds (.slice Ad ds.length ds.length) (.slice Ae ds.length ds.length) (.slice As ss4.length ss4.length) wr) (fun i _ => ds.length - (intOf i).toNat)
        case atStart => exact ⟨0, by omega, rfl, E6.out⟩
        case round =>
          obtain ⟨j, hj, rfl, hE⟩ := hrel
          have E := hidd hE
          clear hE E6
          by_cases hjn : j < ds.length
          · obtain ⟨x, hx⟩ : ∃ x, ds[j]? = some x := ⟨_, List.getElem?_eq_getElem hjn⟩
            obtain ⟨gd, curd, e1, _, Kd, hd⟩ := E.out.d.blk E.out.bk.dok (by omega)
            obtain ⟨ge, cure, e2, _, Ke, he⟩ := E.out.e.blk E.out.bk.dok (by omega)
            injection e1 with e1
            injection e2 with e2
            subst e1 e2
            have c1 := Kd.at_ (hd j x hx).1
            have c2 := Kd.at_ (hd j x hx).2
            have c3 := Ke.at_ (he j x hx).1
            have c4 := Ke.at_ (he j x hx).2
            have hq : (Dm.sameT x.1 x.1 && x.2 == x.2) = true := by simp [Dm.sameT]
            have heq := fun V => eq46 V x x
            rw [hq] at heq
            have hgd := guard46
            have hjz : (j : Int) < (ds.length : Int) := by omega
            clear hd he hx Kd Ke hq
            go_wp2
            go_quiet (fail)
            go_wp2
            go_roundw
            case rel => exact ⟨j + 1, by omega, by go_num, E.out.to ⟨rfl, rfl, rfl, Nat.le_refl _, fun _ _ => rfl⟩⟩
            case measure => simp [intOf]; omega
          · have hjn' : j = ds.length := by omega
            subst hjn'
            go_wp2
            -- the servers
            obtain ⟨w2, rfl⟩ : ∃ w2 : World, w2 = wr := ⟨_, rfl⟩
            go_loopw [10] (fun i wr => ∃ j : Nat, j ≤ ss4.length ∧ i = .int .i64 j ∧ Bd w B bx a vs4 vd ss4 ds (.slice Ad ds.length ds.length) (.slice Ae ds.length ds.length) (.slice As ss4.length ss4.length) wr) (fun i _ => ss4.length - (intOf i).toNat)
            case atStart => exact ⟨0, by omega, rfl, E.out⟩
            case round =>
              obtain ⟨j, hj, rfl, hE⟩ := hrel
              have E3 := hidd hE
              clear hE E
              by_cases hjn : j < ss4.length
              · obtain ⟨x, hx⟩ : ∃ x, ss4[j]? = some x := ⟨_, List.getElem?_eq_getElem hjn⟩
                have hx' := hidd hx
                have hEk := (E3.out.bk.sok x (List.mem_of_getElem? hx)).addr
                have hjz : (j : Int) < (ss4.length : Int) := by omega
                clear hx
                go_wp2
                obtain ⟨w3, rfl⟩ : ∃ w3 : World, w3 = wr := ⟨_, rfl⟩
                go_loopw [11] (fun i wr => ∃ m : Nat, m ≤ j ∧ i = .int .i64 m ∧ Bd w B bx a vs4 vd ss4 ds (.slice Ad ds.length ds.length) (.slice Ae ds.length ds.length) (.slice As ss4.length ss4.length) wr) (fun i _ => j - (intOf i).toNat)
                case atStart => exact ⟨0, by omega, rfl, E3.out⟩
                case round =>
                  obtain ⟨m, hm, rfl, hE⟩ := hrel
                  have E4 := hidd hE
                  clear hE E3
                  by_cases hmj : m < j
                  · obtain ⟨y, hy⟩ : ∃ y, ss4[m]? = some y := ⟨_, List.getElem?_eq_getElem (by omega)⟩
                    have hEn := (E4.out.bk.sok y (List.mem_of_getElem? hy)).addr
                    obtain ⟨gs, curs, e1, _, Ks, hs⟩ := E4.out.s.blk E4.out.bk.sok (by omega)
                    injection e1 with e1
                    subst e1
                    have atk := (hs j x hx'.out).1
                    have atn := (hs m y hy).1
                    have hne : (x.1 == y.1) = false := by
                      have := noDup_at hn4.out hmj hy hx'.out
                      rw [svSame_symm] at this
                      exact this
                    have heq := fun V => Sv.eql31 V hEk hEn
                    rw [hne] at heq
                    have hgd := Sv.guard31
                    have S4 : Hid (Blk wr.drew gs 48 curs) := Ks.drew
                    have hmz : (m : Int) < (ss4.length : Int) := by omega
                    have E5 := hidd E4.out.draw
                    clear hy hs Ks hne E4
                    go_wp2
                    refine wp_region_held_drew (S := (fun V => Blk V gs 48 curs)) (by kernel_rfl) S4.out (fun hHeld => ?_)
                    refine wpAnyH_take (i := 0) (v := ?_) rfl (by kernel_rfl) (by kernel_rfl) (by kernel_rfl) (fun _ _ _ h => h) (Or.inl ⟨by kernel_rfl, ?_⟩) hHeld ?_
                    rotate_left
                    · intro wh hSw
                      go_simp
                      try with_reducible rfl
                    try simp only [Act.put, List.getElem_toArray, List.getElem_cons_zero, List.getElem_cons_succ, List.setIfInBounds_toArray, List.set_cons_zero, List.set_cons_succ]
                    refine wpAnyH_take (i := 1) (v := ?_) rfl (by kernel_rfl) (by kernel_rfl) (by kernel_rfl) (fun _ _ _ h => h) (Or.inl ⟨by kernel_rfl, ?_⟩) hHeld ?_
                    rotate_left
                    · intro wh hSw
                      go_simp
                      try with_reducible rfl
                    try simp only [Act.put, List.getElem_toArray, List.getElem_cons_zero, List.getElem_cons_succ, List.setIfInBounds_toArray, List.set_cons_zero, List.set_cons_succ]
                    refine wpAnyH_take (i := 2) (v := ?_) rfl (by kernel_rfl) (by kernel_rfl) (by kernel_rfl) (fun _ _ _ h => h) (Or.inl ⟨by kernel_rfl, ?_⟩) hHeld ?_
                    rotate_left
                    · intro wh hSw
                      go_simp
                      try with_reducible rfl
                    try simp only [Act.put, List.getElem_toArray, List.getElem_cons_zero, List.getElem_cons_succ, List.setIfInBounds_toArray, List.set_cons_zero, List.set_cons_succ]
                    refine wpAnyH_take (i := 3) (v := ?_) rfl (by kernel_rfl) (by kernel_rfl) (by kernel_rfl) (fun _ _ _ h => h) (Or.inl ⟨by kernel_rfl, ?_⟩) hHeld ?_
                    rotate_left
                    · intro wh hSw
                      go_simp
                      try with_reducible rfl
                    try simp only [Act.put, List.getElem_toArray, List.getElem_cons_zero, List.getElem_cons_succ, List.setIfInBounds_toArray, List.set_cons_zero, List.set_cons_succ]
                    refine wpAnyH_take (i := 4) rfl (by kernel_rfl) (by kernel_rfl) (by kernel_rfl) (fun _ _ _ h => h) (yieldsIf_load_want (by kernel_rfl) 31 _ rfl _ rfl _ (fun wh hSw => hSw.part atk Try.underlying31 rfl (by rw [hEk.len]; exact Sv.info31))) hHeld ?_
                    try simp only [Act.put, List.getElem_toArray, List.getElem_cons_zero, List.getElem_cons_succ, List.setIfInBounds_toArray, List.set_cons_zero, List.set_cons_succ]
                    refine wpAnyH_take (i := 5) (v := ?_) rfl (by kernel_rfl) (by kernel_rfl) (by kernel_rfl) (fun _ _ _ h => h) (Or.inl ⟨by kernel_rfl, ?_⟩) hHeld ?_
                    rotate_left
                    · intro wh hSw
                      go_simp
                      try with_reducible rfl
                    try simp only [Act.put, List.getElem_toArray, List.getElem_cons_zero, List.getElem_cons_succ, List.setIfInBounds_toArray, List.set_cons_zero, List.set_cons_succ]
                    refine wpAnyH_take (i := 6) (v := ?_) rfl (by kernel_rfl) (by kernel_rfl) (by kernel_rfl) (fun _ _ _ h => h) (Or.inl ⟨by kernel_rfl, ?_⟩) hHeld ?_
                    rotate_left
                    · intro wh hSw
                      go_simp
                      try with_reducible rfl
                    try simp only [Act.put, List.getElem_toArray, List.getElem_cons_zero, List.getElem_cons_succ, List.setIfInBounds_toArray, List.set_cons_zero, List.set_cons_succ]
                    refine wpAnyH_take (i := 7) (v := ?_) rfl (by kernel_rfl) (by kernel_rfl) (by kernel_rfl) (fun _ _ _ h => h) (Or.inl ⟨by kernel_rfl, ?_⟩) hHeld ?_
                    rotate_left
                    · intro wh hSw
                      go_simp
                      try with_reducible rfl
                    try simp only [Act.put, List.getElem_toArray, List.getElem_cons_zero, List.getElem_cons_succ, List.setIfInBounds_toArray, List.set_cons_zero, List.set_cons_succ]
                    refine wpAnyH_take (i := 8) (v := ?_) rfl (by kernel_rfl) (by kernel_rfl) (by kernel_rfl) (fun _ _ _ h => h) (Or.inl ⟨by kernel_rfl, ?_⟩) hHeld ?_
                    rotate_left
                    · intro wh hSw
                      go_simp
                      try with_reducible rfl
                    try simp only [Act.put, List.getElem_toArray, List.getElem_cons_zero, List.getElem_cons_succ, List.setIfInBounds_toArray, List.set_cons_zero, List.set_cons_succ]
                    refine wpAnyH_take (i := 9) rfl (by kernel_rfl) (by kernel_rfl) (by kernel_rfl) (fun _ _ _ h => h) (yieldsIf_load_want (by kernel_rfl) 31 _ rfl _ rfl _ (fun wh hSw => hSw.part atn Try.underlying31 rfl (by rw [hEn.len]; exact Sv.info31))) hHeld ?_
                    try simp only [Act.put, List.getElem_toArray, List.getElem_cons_zero, List.getElem_cons_succ, List.setIfInBounds_toArray, List.set_cons_zero, List.set_cons_succ]
                    refine wpAnyH_take (i := 10) (v := ?_) rfl (by kernel_rfl) (by kernel_rfl) (by kernel_rfl) (fun _ _ _ h => h) (Or.inl ⟨by kernel_rfl, ?_⟩) hHeld ?_
                    rotate_left
                    · intro wh hSw
                      go_simp
                      try with_reducible rfl
                    try simp only [Act.put, List.getElem_toArray, List.getElem_cons_zero, List.getElem_cons_succ, List.setIfInBounds_toArray, List.set_cons_zero, List.set_cons_succ]
                    refine wpAnyH_done (by kernel_rfl) ?_ _
                    clear hHeld
                    go_wp2
                    go_roundw
                    case rel => exact ⟨m + 1, by omega, by go_num, E5.out⟩
                    case measure => simp [intOf]; omega
                  · have hm' : m = j := by omega
                    subst hm'
                    have cx1 : wr.cell? ⟨bx, 1, none⟩ = some (.slice a.sA a.sn a.sc) := E4.out.x.at_ rfl
                    go_wp2
                    clear cx1
                    obtain ⟨w4, rfl⟩ : ∃ w4 : World, w4 = wr := ⟨_, rfl⟩
                    go_loopw [12] (fun i wr => ∃ q : Nat, q ≤ a.sn ∧ i = .int .i64 q ∧ Bd w B bx a vs4 vd ss4 ds (.slice Ad ds.length ds.length) (.slice Ae ds.length ds.length) (.slice As ss4.length ss4.length) wr) (fun i _ => a.sn - (intOf i).toNat)
                    case atStart => exact ⟨0, by omega, rfl, E4.out⟩
                    case round =>
                      obtain ⟨q, hq, rfl, hE⟩ := hrel
                      have E5 := hidd hE
                      clear hE E4
                      have hsn := hsk.out.1
                      by_cases hqn : q < a.sn
                      · obtain ⟨b5, off5, hA5, _, _, hr5⟩ := E5.out.act.s.at_ (by omega)
                        have cx1 : wr.cell? ⟨bx, 1, none⟩ = some (.slice a.sA a.sn a.sc) := E5.out.x.at_ rfl
                        have cx3 : wr.cell? ⟨bx, 3, none⟩ = some (.int .u32 a.life) := E5.out.x.at_ rfl
                        rw [hA5] at cx1
                        have hA5' := hidd hA5
                        obtain ⟨x5, hx5⟩ : ∃ x5, a.xs[q]? = some x5 := ⟨_, List.getElem?_eq_getElem (by rw [E5.out.act.s.len]; exact hqn)⟩
                        have hEx := E5.out.act.s.ok x5 (List.mem_of_getElem? hx5)
                        have hqz : (q : Int) < (a.sn : Int) := by omega
                        have hca := E5.out.act.s.cap
                        have hcb := E5.out.act.s.cmax
                        unfold maxLen at hcb
                        by_cases hz : a.life = 0
                        · obtain ⟨gs, curs, e1, _, Ks, hs⟩ := E5.out.s.blk E5.out.bk.sok (by omega)
                          injection e1 with e1
                          subst e1
                          have atk := (hs m x hx'.out).1
                          have hne : (x.1 == x5) = false := hz4.out hz x (List.mem_of_getElem? hx'.out) x5 (List.mem_of_getElem? hx5)
                          have heq := fun V => Sv.eql31 V hEk hEx
                          rw [hne] at heq
                          have hgd := Sv.guard31
                          have l5 : (loadVar 31 ⟨b5, off5 + q * 16, none⟩).run Try.prog wr.drew = .ok (.agg (bytesV x5)) wr.drew :=
                            run_loadVar_mid (P := Try.prog) wr.drew b5 (off5 + q * 16) 31 (Sv.encT x5) _ (hr5 q x5 hx5) Try.underlying31 rfl (by rw [Sv.encT, List.length_map, hEx.len]; exact Sv.info31)
                          have S5 : Hid (Blk wr.drew gs 48 curs ∧ (wr.drew.cell? ⟨bx, 1, none⟩ = some (.slice (some ⟨b5, off5, none⟩) a.sn a.sc) ∧ wr.drew.cell? ⟨bx, 3, none⟩ = some (.int .u32 a.life)) ∧ (loadVar 31 ⟨b5, off5 + q * 16, none⟩).run Try.prog wr.drew = .ok (.agg (bytesV x5)) wr.drew) := ⟨Ks.drew, ⟨cx1, cx3⟩, l5⟩
                          have hlz : (a.life == 0) = true := by rw [hz]; rfl
                          have E6 := hidd E5.out.draw
                          clear hs Ks hne l5 cx3 hA5 hr5 hz E5
                          go_wp2
                          clear cx1
                          refine wp_region_held_drew (S := (fun V => Blk V gs 48 curs ∧ (V.cell? ⟨bx, 1, none⟩ = some (.slice (some ⟨b5, off5, none⟩) a.sn a.sc) ∧ V.cell? ⟨bx, 3, none⟩ = some (.int .u32 a.life)) ∧ (loadVar 31 ⟨b5, off5 + q * 16, none⟩).run Try.prog V = .ok (.agg (bytesV x5)) V)) (by kernel_rfl) S5.out (fun hHeld => ?_)
                          refine wpAnyH_take (i := 0) (v := ?_) rfl (by kernel_rfl) (by kernel_rfl) (by kernel_rfl) (fun _ _ _ h => h) (Or.inl ⟨by kernel_rfl, ?_⟩) hHeld ?_
                          rotate_left
                          · intro wh hSw
                            go_simp
                            try with_reducible rfl
                          try simp only [Act.put, List.getElem_toArray, List.getElem_cons_zero, List.getElem_cons_succ, List.setIfInBounds_toArray, List.set_cons_zero, List.set_cons_succ]
                          refine wpAnyH_take (i := 1) (v := ?_) rfl (by kernel_rfl) (by kernel_rfl) (by kernel_rfl) (fun _ _ _ h => h) (Or.inl ⟨by kernel_rfl, ?_⟩) hHeld ?_
                          rotate_left
                          · intro wh hSw
                            have hcell := hSw.2.1.2
                            go_simp
                            try with_reducible rfl
                          try simp only [Act.put, List.getElem_toArray, List.getElem_cons_zero, List.getElem_cons_succ, List.setIfInBounds_toArray, List.set_cons_zero, List.set_cons_succ]
                          refine wpAnyH_take (i := 2) (v := ?_) rfl (by kernel_rfl) (by kernel_rfl) (by kernel_rfl) (fun _ _ _ h => h) (Or.inl ⟨by kernel_rfl, ?_⟩) hHeld ?_
                          rotate_left
                          · intro wh hSw
                            go_simp
                            try with_reducible rfl
                          try simp only [Act.put, List.getElem_toArray, List.getElem_cons_zero, List.getElem_cons_succ, List.setIfInBounds_toArray, List.set_cons_zero, List.set_cons_succ]
                          refine wpAnyH_take (i := 3) (v := ?_) rfl (by kernel_rfl) (by kernel_rfl) (by kernel_rfl) (fun _ _ _ h => h) (Or.inl ⟨by kernel_rfl, ?_⟩) hHeld ?_
                          rotate_left
                          · intro wh hSw
                            go_simp
                            try with_reducible rfl
                          try simp only [Act.put, List.getElem_toArray, List.getElem_cons_zero, List.getElem_cons_succ, List.setIfInBounds_toArray, List.set_cons_zero, List.set_cons_succ]
                          refine wpAnyH_take (i := 4) (v := ?_) rfl (by kernel_rfl) (by kernel_rfl) (by kernel_rfl) (fun _ _ _ h => h) (Or.inl ⟨by kernel_rfl, ?_⟩) hHeld ?_
                          rotate_left
                          · intro wh hSw
                            go_simp
                            try with_reducible rfl
                          try simp only [Act.put, List.getElem_toArray, List.getElem_cons_zero, List.getElem_cons_succ, List.setIfInBounds_toArray, List.set_cons_zero, List.set_cons_succ]
                          refine wpAnyH_take (i := 5) (v := ?_) rfl (by kernel_rfl) (by kernel_rfl) (by kernel_rfl) (fun _ _ _ h => h) (Or.inl ⟨by kernel_rfl, ?_⟩) hHeld ?_
                          rotate_left
                          · intro wh hSw
                            go_simp
                            try with_reducible rfl
                          try simp only [Act.put, List.getElem_toArray, List.getElem_cons_zero, List.getElem_cons_succ, List.setIfInBounds_toArray, List.set_cons_zero, List.set_cons_succ]
                          refine wpAnyH_take (i := 6) (v := ?_) rfl (by kernel_rfl) (by kernel_rfl) (by kernel_rfl) (fun _ _ _ h => h) (Or.inl ⟨by kernel_rfl, ?_⟩) hHeld ?_
                          rotate_left
                          · intro wh hSw
                            go_simp
                            try with_reducible rfl
                          try simp only [Act.put, List.getElem_toArray, List.getElem_cons_zero, List.getElem_cons_succ, List.setIfInBounds_toArray, List.set_cons_zero, List.set_cons_succ]
                          refine wpAnyH_take (i := 7) (v := ?_) rfl (by kernel_rfl) (by kernel_rfl) (by kernel_rfl) (fun _ _ _ h => h) (Or.inl ⟨by kernel_rfl, ?_⟩) hHeld ?_
                          rotate_left
                          · intro wh hSw
                            go_simp
                            try with_reducible rfl
                          try simp only [Act.put, List.getElem_toArray, List.getElem_cons_zero, List.getElem_cons_succ, List.setIfInBounds_toArray, List.set_cons_zero, List.set_cons_succ]
                          refine wpAnyH_take (i := 8) rfl (by kernel_rfl) (by kernel_rfl) (by kernel_rfl) (fun _ _ _ h => h) (yieldsIf_load_want (by kernel_rfl) 31 _ rfl _ rfl _ (fun wh hSw => hSw.1.part atk Try.underlying31 rfl (by rw [hEk.len]; exact Sv.info31))) hHeld ?_
                          try simp only [Act.put, List.getElem_toArray, List.getElem_cons_zero, List.getElem_cons_succ, List.setIfInBounds_toArray, List.set_cons_zero, List.set_cons_succ]
                          refine wpAnyH_take (i := 9) (v := ?_) rfl (by kernel_rfl) (by kernel_rfl) (by kernel_rfl) (fun _ _ _ h => h) (Or.inl ⟨by kernel_rfl, ?_⟩) hHeld ?_
                          rotate_left
                          · intro wh hSw
                            go_simp
                            try with_reducible rfl
                          try simp only [Act.put, List.getElem_toArray, List.getElem_cons_zero, List.getElem_cons_succ, List.setIfInBounds_toArray, List.set_cons_zero, List.set_cons_succ]
                          refine wpAnyH_take (i := 10) (v := ?_) rfl (by kernel_rfl) (by kernel_rfl) (by kernel_rfl) (fun _ _ _ h => h) (Or.inl ⟨by kernel_rfl, ?_⟩) hHeld ?_
                          rotate_left
                          · intro wh hSw
                            have hcell := hSw.2.1.1
                            go_simp
                            try with_reducible rfl
                          try simp only [Act.put, List.getElem_toArray, List.getElem_cons_zero, List.getElem_cons_succ, List.setIfInBounds_toArray, List.set_cons_zero, List.set_cons_succ]
                          refine wpAnyH_take (i := 11) (v := ?_) rfl (by kernel_rfl) (by kernel_rfl) (by kernel_rfl) (fun _ _ _ h => h) (Or.inl ⟨by kernel_rfl, ?_⟩) hHeld ?_
                          rotate_left
                          · intro wh hSw
                            go_simp
                            try with_reducible rfl
                          try simp only [Act.put, List.getElem_toArray, List.getElem_cons_zero, List.getElem_cons_succ, List.setIfInBounds_toArray, List.set_cons_zero, List.set_cons_succ]
                          refine wpAnyH_take (i := 12) (v := ?_) rfl (by kernel_rfl) (by kernel_rfl) (by kernel_rfl) (fun _ _ _ h => h) (Or.inl ⟨by kernel_rfl, ?_⟩) hHeld ?_
                          rotate_left
                          · intro wh hSw
                            go_simp
                            try with_reducible rfl
                          try simp only [Act.put, List.getElem_toArray, List.getElem_cons_zero, List.getElem_cons_succ, List.setIfInBounds_toArray, List.set_cons_zero, List.set_cons_succ]
                          refine wpAnyH_take (i := 13) rfl (by kernel_rfl) (by kernel_rfl) (by kernel_rfl) (fun _ _ _ h => h) (yieldsIf_load_want (by kernel_rfl) 31 _ rfl _ rfl _ (fun wh hSw => hSw.2.2)) hHeld ?_
                          try simp only [Act.put, List.getElem_toArray, List.getElem_cons_zero, List.getElem_cons_succ, List.setIfInBounds_toArray, List.set_cons_zero, List.set_cons_succ]
                          refine wpAnyH_take (i := 14) (v := ?_) rfl (by kernel_rfl) (by kernel_rfl) (by kernel_rfl) (fun _ _ _ h => h) (Or.inl ⟨by kernel_rfl, ?_⟩) hHeld ?_
                          rotate_left
                          · intro wh hSw
                            go_simp
                            try with_reducible rfl
                          try simp only [Act.put, List.getElem_toArray, List.getElem_cons_zero, List.getElem_cons_succ, List.setIfInBounds_toArray, List.set_cons_zero, List.set_cons_succ]
                          refine wpAnyH_take (i := 15) (v := ?_) rfl (by kernel_rfl) (by kernel_rfl) (by kernel_rfl) (fun _ _ _ h => h) (Or.inl ⟨by kernel_rfl, ?_⟩) hHeld ?_
                          rotate_left
                          · intro wh hSw
                            go_simp
                            try with_reducible rfl
                          try simp only [Act.put, List.getElem_toArray, List.getElem_cons_zero, List.getElem_cons_succ, List.setIfInBounds_toArray, List.set_cons_zero, List.set_cons_succ]
                          refine wpAnyH_done (by kernel_rfl) ?_ _
                          clear hHeld
                          go_wp2
                          go_roundw
                          case rel => exact ⟨q + 1, by omega, by go_num, E6.out⟩
                          case measure => simp [intOf]; omega
                        · have hlz : (a.life == 0) = false := by simp [hz]
                          have S5 : Hid (wr.drew.cell? ⟨bx, 3, none⟩ = some (.int .u32 a.life)) := cx3
                          have E6 := hidd E5.out.draw
                          clear cx3 hA5 hr5 hz E5
                          go_wp2
                          clear cx1
                          refine wp_region_held_drew (S := (fun V => V.cell? ⟨bx, 3, none⟩ = some (.int .u32 a.life))) (by kernel_rfl) S5.out (fun hHeld => ?_)
                          refine wpAnyH_take (i := 0) (v := ?_) rfl (by kernel_rfl) (by kernel_rfl) (by kernel_rfl) (fun _ _ _ h => h) (Or.inl ⟨by kernel_rfl, ?_⟩) hHeld ?_
                          rotate_left
                          · intro wh hSw
                            go_simp
                            try with_reducible rfl
                          try simp only [Act.put, List.getElem_toArray, List.getElem_cons_zero, List.getElem_cons_succ, List.setIfInBounds_toArray, List.set_cons_zero, List.set_cons_succ]
                          refine wpAnyH_take (i := 1) (v := ?_) rfl (by kernel_rfl) (by kernel_rfl) (by kernel_rfl) (fun _ _ _ h => h) (Or.inl ⟨by kernel_rfl, ?_⟩) hHeld ?_
                          rotate_left
                          · intro wh hSw
                            have hcell := hSw
                            go_simp
                            try with_reducible rfl
                          try simp only [Act.put, List.getElem_toArray, List.getElem_cons_zero, List.getElem_cons_succ, List.setIfInBounds_toArray, List.set_cons_zero, List.set_cons_succ]
                          refine wpAnyH_take (i := 2) (v := ?_) rfl (by kernel_rfl) (by kernel_rfl) (by kernel_rfl) (fun _ _ _ h => h) (Or.inl ⟨by kernel_rfl, ?_⟩) hHeld ?_
                          rotate_left
                          · intro wh hSw
                            go_simp
                            try with_reducible rfl
                          try simp only [Act.put, List.getElem_toArray, List.getElem_cons_zero, List.getElem_cons_succ, List.setIfInBounds_toArray, List.set_cons_zero, List.set_cons_succ]
                          refine wpAnyH_take (i := 3) (v := ?_) rfl (by kernel_rfl) (by kernel_rfl) (by kernel_rfl) (fun _ _ _ h => h) (Or.inl ⟨by kernel_rfl, ?_⟩) hHeld ?_
                          rotate_left
                          · intro wh hSw
                            go_simp
                            try with_reducible rfl
                          try simp only [Act.put, List.getElem_toArray, List.getElem_cons_zero, List.getElem_cons_succ, List.setIfInBounds_toArray, List.set_cons_zero, List.set_cons_succ]
                          refine wpAnyH_take (i := 4) rfl (by kernel_rfl) (by kernel_rfl) (by kernel_rfl) (fun _ _ _ h => h) (Or.inr ⟨by kernel_rfl, rfl⟩) hHeld ?_
                          try simp only [Act.put, List.getElem_toArray, List.getElem_cons_zero, List.getElem_cons_succ, List.setIfInBounds_toArray, List.set_cons_zero, List.set_cons_succ]
                          refine wpAnyH_take (i := 5) rfl (by kernel_rfl) (by kernel_rfl) (by kernel_rfl) (fun _ _ _ h => h) (Or.inr ⟨by kernel_rfl, rfl⟩) hHeld ?_
                          try simp only [Act.put, List.getElem_toArray, List.getElem_cons_zero, List.getElem_cons_succ, List.setIfInBounds_toArray, List.set_cons_zero, List.set_cons_succ]
                          refine wpAnyH_take (i := 6) rfl (by kernel_rfl) (by kernel_rfl) (by kernel_rfl) (fun _ _ _ h => h) (Or.inr ⟨by kernel_rfl, rfl⟩) hHeld ?_
                          try simp only [Act.put, List.getElem_toArray, List.getElem_cons_zero, List.getElem_cons_succ, List.setIfInBounds_toArray, List.set_cons_zero, List.set_cons_succ]
                          refine wpAnyH_take (i := 7) rfl (by kernel_rfl) (by kernel_rfl) (by kernel_rfl) (fun _ _ _ h => h) (Or.inr ⟨by kernel_rfl, rfl⟩) hHeld ?_
                          try simp only [Act.put, List.getElem_toArray, List.getElem_cons_zero, List.getElem_cons_succ, List.setIfInBounds_toArray, List.set_cons_zero, List.set_cons_succ]
                          refine wpAnyH_take (i := 8) rfl (by kernel_rfl) (by kernel_rfl) (by kernel_rfl) (fun _ _ _ h => h) (Or.inr ⟨by kernel_rfl, rfl⟩) hHeld ?_
                          try simp only [Act.put, List.getElem_toArray, List.getElem_cons_zero, List.getElem_cons_succ, List.setIfInBounds_toArray, List.set_cons_zero, List.set_cons_succ]
                          refine wpAnyH_take (i := 9) rfl (by kernel_rfl) (by kernel_rfl) (by kernel_rfl) (fun _ _ _ h => h) (Or.inr ⟨by kernel_rfl, rfl⟩) hHeld ?_
                          try simp only [Act.put, List.getElem_toArray, List.getElem_cons_zero, List.getElem_cons_succ, List.setIfInBounds_toArray, List.set_cons_zero, List.set_cons_succ]
                          refine wpAnyH_take (i := 10) rfl (by kernel_rfl) (by kernel_rfl) (by kernel_rfl) (fun _ _ _ h => h) (Or.inr ⟨by kernel_rfl, rfl⟩) hHeld ?_
                          try simp only [Act.put, List.getElem_toArray, List.getElem_cons_zero, List.getElem_cons_succ, List.setIfInBounds_toArray, List.set_cons_zero, List.set_cons_succ]
                          refine wpAnyH_take (i := 11) rfl (by kernel_rfl) (by kernel_rfl) (by kernel_rfl) (fun _ _ _ h => h) (Or.inr ⟨by kernel_rfl, rfl⟩) hHeld ?_
                          try simp only [Act.put, List.getElem_toArray, List.getElem_cons_zero, List.getElem_cons_succ, List.setIfInBounds_toArray, List.set_cons_zero, List.set_cons_succ]
                          refine wpAnyH_take (i := 12) rfl (by kernel_rfl) (by kernel_rfl) (by kernel_rfl) (fun _ _ _ h => h) (Or.inr ⟨by kernel_rfl, rfl⟩) hHeld ?_
                          try simp only [Act.put, List.getElem_toArray, List.getElem_cons_zero, List.getElem_cons_succ, List.setIfInBounds_toArray, List.set_cons_zero, List.set_cons_succ]
                          refine wpAnyH_take (i := 13) rfl (by kernel_rfl) (by kernel_rfl) (by kernel_rfl) (fun _ _ _ h => h) (Or.inr ⟨by kernel_rfl, rfl⟩) hHeld ?_
                          try simp only [Act.put, List.getElem_toArray, List.getElem_cons_zero, List.getElem_cons_succ, List.setIfInBounds_toArray, List.set_cons_zero, List.set_cons_succ]
                          refine wpAnyH_take (i := 14) rfl (by kernel_rfl) (by kernel_rfl) (by kernel_rfl) (fun _ _ _ h => h) (Or.inr ⟨by kernel_rfl, rfl⟩) hHeld ?_
                          try simp only [Act.put, List.getElem_toArray, List.getElem_cons_zero, List.getElem_cons_succ, List.setIfInBounds_toArray, List.set_cons_zero, List.set_cons_succ]
                          refine wpAnyH_take (i := 15) (v := ?_) rfl (by kernel_rfl) (by kernel_rfl) (by kernel_rfl) (fun _ _ _ h => h) (Or.inl ⟨by kernel_rfl, ?_⟩) hHeld ?_
                          rotate_left
                          · intro wh hSw
                            go_simp
                            try with_reducible rfl
                          try simp only [Act.put, List.getElem_toArray, List.getElem_cons_zero, List.getElem_cons_succ, List.setIfInBounds_toArray, List.set_cons_zero, List.set_cons_succ]
                          refine wpAnyH_done (by kernel_rfl) ?_ _
                          clear hHeld
                          go_wp2
                          go_roundw
                          case rel => exact ⟨q + 1, by omega, by go_num, E6.out⟩
                          case measure => simp [intOf]; omega
                      · have cx1 : wr.cell? ⟨bx, 1, none⟩ = some (.slice a.sA a.sn a.sc) := E5.out.x.at_ rfl
                        go_wp2
                        go_roundw
                        case rel => exact ⟨m + 1, by omega, by go_num, E5.out⟩
                        case measure => simp [intOf]; omega
              · have hjn' : j = ss4.length := by omega
                subst hjn'
                have cx2 : wr.cell? ⟨bx, 2, none⟩ = some (.slice a.dA a.dn a.dc) := E3.out.x.at_ rfl
                have cx3 : wr.cell? ⟨bx, 3, none⟩ = some (.int .u32 a.life) := E3.out.x.at_ rfl
                have hdn := hsk.out.2
                go_wp2_with fail
                refine (St.domains_any wr B vs4 vd ss4 ds E3.out.bk 0 a.life (by omega) (by omega) _ a.dA a.dn a.dc a.ys E3.out.act.d (by omega)).mono ?_
                rintro e V8 ⟨⟨r, rfl⟩, vd8, k8, f8, m8⟩
                have hn8 := hidd (putAll_nodup (til := cadd 0 (csecs a.life)) (life := a.life) dmSame_symm (St.left a.ys) hnd'.out)
                have hg8 := hidd (putAll_all (same := Dm.sameT) (til := cadd 0 (csecs a.life)) (life := a.life) (p := fun x => St.gone x = false) (St.left a.ys) hne'.out (fun x hx => by have := (List.mem_filter.1 hx).2; simpa using this))
                obtain ⟨ds8, h8⟩ : ∃ ds8, putAll Dm.sameT (cadd 0 (csecs a.life)) a.life ds (St.left a.ys) = ds8 := ⟨_, rfl⟩
                rw [h8] at k8 hn8 hg8
                have K8 := hidd k8
                have b8 := hidd (E3.out.bel.trans (f8.below (B := w.heap.size) (by have := E3.out.bel.size; omega) (fun k e => by
                  rcases e with e | e
                  · omega
                  · have := (E3.out.bk.d.lt k e).1; omega)))
                clear h8 k8 f8 m8 E3 cx2 cx3
                go_wp2_with fail
                refine (allD_any V8 B _ _ _ _ K8.out).mono ?_
                rintro e V9 ⟨ev9, rfl, G9⟩
                have E9 := hidd (show Be w B vs4 vd8 ss4 ds8 ev9 V9 from ⟨K8.out.to G9.bel, G9.l.to2 (Nat.zero_le _), b8.out.trans (G9.bel.mono (by have := b8.out.size; omega))⟩)
                obtain ⟨A9, hev⟩ : ∃ A9, ev9 = .slice A9 ds8.length ds8.length := ⟨_, E9.out.e.choose_spec.1⟩
                subst hev
                have hd8 : (ds8.length : Int) ≤ 4 := by have := K8.out.d4; omega
                clear G9 K8 b8
                go_wp2_with fail
                refine (allS_any V9 B _ _ _ _ E9.out.bk).mono ?_
                rintro e V10 ⟨sv10, rfl, G10⟩
                obtain ⟨A10, hsv10⟩ : ∃ A10, sv10 = .slice A10 ss4.length ss4.length := ⟨_, G10.l.choose_spec.1⟩
                subst hsv10
                have F9 := hidd (show Be w B vs4 vd8 ss4 ds8 (.slice A9 ds8.length ds8.length) V10 from ⟨E9.out.bk.to G10.bel, E9.out.e.to G10.bel, E9.out.bel.trans (G10.bel.mono E9.out.bel.size)⟩)
                clear G10 E9
                go_wp2
                -- the domains
                obtain ⟨w5, rfl⟩ : ∃ w5 : World, w5 = wr := ⟨_, rfl⟩
                go_loopw [13] (fun i wr => ∃ j : Nat, j ≤ ds8.length ∧ i = .int .i64 j ∧ Be w B vs4 vd8 ss4 ds8 (.slice A9 ds8.length ds8.length) wr) (fun i _ => ds8.length - (intOf i).toNat)
                case atStart => exact ⟨0, by omega, rfl, F9.out⟩
                case round =>
                  obtain ⟨j, hj, rfl, hE⟩ := hrel
                  have F := hidd hE
                  clear hE F9
                  by_cases hjn : j < ds8.length
                  · obtain ⟨x, hx⟩ : ∃ x, ds8[j]? = some x := ⟨_, List.getElem?_eq_getElem hjn⟩
                    obtain ⟨ge, cure, e1, _, Ke, he⟩ := F.out.e.blk F.out.bk.dok (by omega)
                    injection e1 with e1
                    subst e1
                    have c1 := Ke.at_ (he j x hx).1
                    have hx' := hidd hx
                    have hg : x.1.toList.isEmpty = false := hg8.out x (List.mem_of_getElem? hx)
                    have hjz : (j : Int) < (ds8.length : Int) := by omega
                    clear hx Ke he
                    go_wp2
                    clear c1 hg
                    obtain ⟨w6, rfl⟩ : ∃ w6 : World, w6 = wr := ⟨_, rfl⟩
                    go_loopw [14] (fun i wr => ∃ m : Nat, m ≤ j ∧ i = .int .i64 m ∧ Be w B vs4 vd8 ss4 ds8 (.slice (some ⟨ge, 0, none⟩) ds8.length ds8.length) wr) (fun i _ => j - (intOf i).toNat)
                    case atStart => exact ⟨0, by omega, rfl, F.out⟩
                    case round =>
                      obtain ⟨m, hm, rfl, hE⟩ := hrel
                      have F2 := hidd hE
                      clear hE F
                      by_cases hmj : m < j
                      · obtain ⟨y, hy⟩ : ∃ y, ds8[m]? = some y := ⟨_, List.getElem?_eq_getElem (by omega)⟩
                        obtain ⟨ge', cure', e1, _, Ke, he⟩ := F2.out.e.blk F2.out.bk.dok (by omega)
                        injection e1 with e1
                        injection e1 with e1
                        injection e1 with e1
                        subst e1
                        have c1 := Ke.at_ (he j x hx'.out).1
                        have c2 := Ke.at_ (he m y hy).1
                        have hne : (x.1.toList == y.1.toList) = false := by
                          have := noDup_at hn8.out hmj hy hx'.out
                          rw [dmSame_symm] at this
                          exact this
                        have hmz : (m : Int) < (ds8.length : Int) := by omega
                        have F3 := hidd F2.out
                        clear hy Ke he F2
                        go_wp2
                        go_quiet (fail)
                        go_wp2
                        go_roundw
                        case rel => exact ⟨m + 1, by omega, by go_num, ⟨F3.out.bk.to ⟨rfl, rfl, rfl, Nat.le_refl _, fun _ _ => rfl⟩, F3.out.e.to ⟨rfl, rfl, rfl, Nat.le_refl _, fun _ _ => rfl⟩, F3.out.bel.trans ⟨rfl, rfl, rfl, Nat.le_refl _, fun _ _ => rfl⟩⟩⟩
                        case measure => simp [intOf]; omega
                      · have hm' : m = j := by omega
                        subst hm'
                        go_wp2
                        go_roundw
                        case rel => exact ⟨m + 1, by omega, by go_num, F2.out⟩
                        case measure => simp [intOf]; omega
                  · have hjn' : j = ds8.length := by omega
                    subst hjn'
                    go_wp2
                    go_roundw
                    case rel => exact ⟨k + 1, vs4, vd8, ss4, ds8, by omega, by go_num, F.out.bk, hn4.out, hn8.out, hg8.out, by rw [← hB]; exact F.out.bel⟩
                    case measure => simp [intOf]; omega
      · have hkn' : k = n0 := by omega
        subst hkn'
        go_wp2_with (go_at_call 7; refine (lives_any _).mono ?_; rintro e w' ⟨rfl, hbel⟩)
        go_ret
        exact ⟨rfl, by rw [hB]; exact b0.out.trans (hbel.mono (by have := b0.out.size; omega))⟩

set_option maxRecDepth 100000 in
theorem liftedNamesBound (os : Os) (started : os.Started) (H : Type) (enc : TypeId × Value → H) :
    ReturnsInHanded {} Try.checked os 4 .any (Rows.namesBoundSpec.pre6 enc Try.prog Try.f4 Rows.namesBoundRow.domain false) (Rows.namesBoundSpec.post enc Try.prog Try.f4 false true false false) := by
  refine returnsInHanded_of_change_sized (C := Try.checked) own started (by kernel_rfl) Try.func4
    (ChangeSpec.witness6 (enc := enc) (C := Try.checked) false ⟨#[], #[.slice none 0 0], []⟩ 8 (by kernel_rfl) (by kernel_rfl) (by kernel_rfl) (by kernel_rfl)) ?_
  intro W base args ds gs before hval0 hW hcnd hsz0 _
  have hval : ∀ (j : Nat) t v, Try.f4.params[j]? = some t → args[j]? = some v → Value.okWide Try.prog W .any base t v := hval0
  have hW' := hW
  obtain ⟨p, q, hA0, hV, rfl, hfz, hnd⟩ := hW
  have hA : DataW.TrodAll enc Try.prog W 0 (fun _ => true) true Try.f4.params.toList args.toList ds p := hA0
  have hsz : (DataW.weightsEach Try.prog (Try.f4.params.toList ++ Rows.namesBoundSpec.plain.varTypes Try.prog) (ds ++ gs)).all (· ≤ reachBytes) = true := hsz0
  rw [Try.params4] at hA hval hsz
  obtain ⟨v0, vs0, d0, ds0, p0, q0, hargs, rfl, rfl, h0, r0⟩ := trodAll_cons hA
  obtain ⟨rfl, rfl, rfl⟩ := trodAll_nil r0
  obtain rfl : args = #[v0] := by cases args; simp_all
  obtain ⟨rfl, rfl⟩ := trodVars_none hV
  have k0 := h0
  have lt0 : ∀ x ∈ p0, x.block < W.heap.size := by obtain ⟨m, hm⟩ := k0; exact DataW.trod_lt m _ _ _ hm
  have fit0 : Fit Try.prog 38 d0 := fun m hm => by simpa using List.all_eq_true.1 hsz _ (DataW.weights_mem_each (j := 0) (t := 38) rfl rfl m hm)
  obtain ⟨A0, n0, c0, z0, ev0, w0⟩ := open_acts (hval 0 38 v0 rfl rfl) h0 fit0
  subst ev0
  clear hA0 hval0
  refine (walkNamesBound A0 n0 c0 z0 W w0).mono fun e W' ⟨he, bel⟩ => ?_
  subst he
  exact ⟨_, rfl, _, _, _, [], _, [], hW', trodAll_mk1 (shut_bool Try.underlying4 _), (trodAll_cons_mk (Below.trod laidOut (by kernel_rfl) (of_decide_eq_true (by kernel_rfl)) k0 bel lt0) trodAll_mk0), rfl, bel.frame _, fun h => by cases h⟩

/-- THE STATEMENT: 'NamesBound'. -/
theorem namesBound_holds : Rows.NamesBoundSaid :=
  OpenClaim.holds_of_wide 4 Try.f4 rfl rfl rfl rfl rfl rfl rfl ⟨rfl, rfl, rfl, rfl, rfl⟩ rfl rfl rfl rfl rfl (by kernel_rfl) Try.func4 (by kernel_rfl)
    (of_decide_eq_true (by kernel_rfl)) (by unfold Func.isWrapper; first | (rw [if_pos (by decide +kernel)]; kernel_rfl) | (rw [if_neg (by decide +kernel)]; exact ⟨rfl, rfl⟩))
    (fun os started H enc _ => liftedNamesBound os started H enc)

end Go.Proofs.Ytajlgglknianlaa
