/- The document's set: the first one. The function walked once. No condition. -/
import Derived.Test.YtepenfgoejhofaaRf
namespace Go.Proofs.Ytepenfgoejhofaa
open Go.ChangeShapes Go.WideShapes Go.ChangeAt Go.RowKit Go.Deep
set_option linter.unusedVariables false
set_option linter.unusedSimpArgs false

theorem best_snoc {l : List T3} {b x : T3} (h : bestM l = some b) : bestM (l ++ [x]) = some (if bef x b then x else b) := by
  cases l with
  | nil => cases h
  | cons t l =>
    simp only [bestM, Option.some.injEq] at h
    show some ((l ++ [x]).foldl _ t) = _
    rw [List.foldl_append, h]; rfl
structure Nx (w V : World) (G : Nat → Prop) (M : Nat) (A : Option Addr) (n c : Nat) (m : List T3) (q p : Nat) (b : T3) : Prop where
  rc : Rc V G M A n c m
  q : Blk V q 30 (keyV (0, 0))
  p : Blk V p 72 (arV b)
  bel : Below w.heap.size w V
theorem Nx.to {w V V' : World} {G : Nat → Prop} {M : Nat} {A : Option Addr} {n c : Nat} {m : List T3} {q p : Nat} {b : T3} (h : Nx w V G M A n c m q p b) (hb : Below V.heap.size V V') : Nx w V' G M A n c m q p b :=
  ⟨h.rc.to hb, h.q.below hb h.q.lt, h.p.below hb h.p.lt, h.bel.trans (hb.mono h.bel.size)⟩
set_option maxRecDepth 100000 in
set_option maxHeartbeats 4000000 in
theorem rnext_any (w : World) {G : Nat → Prop} {M : Nat} {m : List T3} (h : Rg w G M m) : Calls Try.prog 24 #[ptr M] w fun r W' => r = .returned (nextV (bestM m)) ∧ Below w.heap.size w W' := by
  obtain ⟨A, n, c, h⟩ := h
  obtain ⟨q, hq⟩ : ∃ q, w.heap.size = q := ⟨_, rfl⟩
  obtain ⟨V1, hV⟩ : ∃ V, w.alloc (.cells (keyV (0, 0)) 30) = V := ⟨_, rfl⟩
  have hVB : Below w.heap.size w V1 := hV ▸ (Below.refl _ w).alloc (Nat.le_refl _) _
  have hVs : V1.heap.size = q + 1 := by rw [← hV, nblk_alloc, hq]
  have q1 : Blk V1 q 30 (keyV (0, 0)) := by rw [← hV, ← hq]; exact Blk.new w 30 _
  have h1 := h.to hVB
  have c0 := h1.set.at_ (i := 0) rfl
  have hmx := h.mx
  have hlen := hidd h.len
  by_cases hn : n = 0
  · subst hn
    have hm : m = [] := by have := h.len; cases m with | nil => rfl | cons a m => simp at this
    subst hm
    obtain ⟨V2, hV2⟩ : ∃ U, (V1.setCell ⟨q, 0, none⟩ (.int .u8 ((0 : Int), (0 : Int)).1)).setCell ⟨q, 1, none⟩ (.int .u64 ((0 : Int), (0 : Int)).2) = U := ⟨_, rfl⟩
    have ka1 := (q1).at_ (i := 0) rfl
    have kb1 := (q1).at_ (i := 1) rfl
    have kc1 := (q1).frozen 0
    have kd1 := (q1).frozen 1
    have ke1 := ((q1).set 0 (.int .u8 ((0 : Int), (0 : Int)).1)).at_ (i := 1) rfl
    have kf1 := ((q1).set 0 (.int .u8 ((0 : Int), (0 : Int)).1)).frozen 1
    have kg1 : Blk V2 q 30 (keyV ((0 : Int), (0 : Int))) := hV2 ▸ ((q1).set 0 (.int .u8 ((0 : Int), (0 : Int)).1)).set 1 (.int .u64 ((0 : Int), (0 : Int)).2)
    have kh1 := kg1.at_ (i := 0) rfl
    have ki1 := kg1.at_ (i := 1) rfl
    have kj1 : Fr (· = q) V1 V2 := hV2 ▸ ((Fr.refl (· = q) V1).setB _).setB _
    have hB := hidd hVB
    have l2 := ld30 kg1
    have hq' := hidd hq
    have hfin := hidd (hB.out.trans (kj1.below hB.out.size (fun k hk => hk ▸ Nat.le_of_eq hq'.out)))
    clear h h1 hVB q1 kg1 hVs
    go_enter Try.func24, Try.ntmps24
    go_wp2
    exact bodyPost_ret (v := nextV none) (by simp [results, Try.results24, Act.put, asAddr, l2, nextV]) rfl ⟨rfl, by first | exact hfin.out | (have h := hfin.out; rwa [hq] at h)⟩
  · obtain ⟨t0, ht0⟩ : ∃ t, m[0]? = some t := ⟨_, List.getElem?_eq_getElem (by rw [h.len]; omega)⟩
    obtain ⟨g, rfl, hGg, _, hnc, hcm, hr⟩ := h1.at_ ht0
    have hnz : ((n : Int) == 0) = false := by rw [beq_eq_false_iff_ne]; omega
    have hn0 : (0 : Int) < (n : Int) := by omega
    have r0 : V1.cell? ⟨g, 0, none⟩ = some (.int .u8 t0.1) := by simpa using hr 0 _ rfl
    have r1 : V1.cell? ⟨g, 1, none⟩ = some (.int .u64 t0.2.1) := by simpa using hr 1 _ rfl
    have r2 : V1.cell? ⟨g, 2, none⟩ = some (.int .u64 t0.2.2) := by simpa using hr 2 _ rfl
    have K := hidd (show Nx w (V1.alloc (.cells (arV t0) 72)) G M (some ⟨g, 0, none⟩) n c m q (q + 1) t0 from by
      have bb : Below V1.heap.size V1 (V1.alloc (.cells (arV t0) 72)) := (Below.refl _ V1).alloc (Nat.le_refl _) _
      exact ⟨h1.to bb, q1.alloc _, by rw [← hVs]; exact Blk.new V1 72 _, hVB.trans (bb.mono hVB.size)⟩)
    have hb1 : Hid (bestM (m.take 1) = some t0) := hidd (by
      cases m with
      | nil => simp at ht0
      | cons a m => simp at ht0; subst ht0; rfl)
    have hGq : ¬ G q := fun e => by have := h.bd q e; omega
    have hGp : ¬ G (q + 1) := fun e => by have := h.bd _ e; omega
    have hG := hidd (And.intro hGq (And.intro hGp hGg))
    have hq' := hidd hq
    clear h h1 hVB q1 hr ht0 hGq hGp hGg
    go_enter Try.func24, Try.ntmps24
    go_wp2_with fail
    try rw [hVs]
    obtain ⟨V2, hV2⟩ : ∃ U, V1.alloc (.cells #[.int .u8 t0.1, .int .u64 t0.2.1, .int .u64 t0.2.2] 72) = U := ⟨_, rfl⟩
    have K2 := hidd (show Nx w V2 G M (some ⟨g, 0, none⟩) n c m q (q + 1) t0 from by rw [← hV2]; exact K.out)
    rw [hV2]
    obtain ⟨p, hp⟩ : ∃ p, q + 1 = p := ⟨_, rfl⟩
    rw [hp] at K2 hG ⊢
    have hqp : q ≠ p := by omega
    clear hV2 K c0 r0 r1 r2 hV hVs
    go_loopw [6] (fun iv wr => ∃ (j : Nat) (b : T3), 1 ≤ j ∧ j ≤ n ∧ iv = .int .i64 j ∧ Hid (Nx w wr G M (some ⟨g, 0, none⟩) n c m q p b ∧ bestM (m.take j) = some b)) (fun iv _ => n - (intOf iv).toNat)
    case atStart => exact ⟨1, t0, by omega, by omega, rfl, hidd ⟨K2.out, hb1.out⟩⟩
    case round =>
      clear K2 hb1
      obtain ⟨j, b, h1j, hj, rfl, R⟩ := hrel
      have c0 := R.out.1.rc.set.at_ (i := 0) rfl
      by_cases hjn : j < n
      · have hd : decide ((j : Int) < (n : Int)) = true := by simp; omega
        have hjz : (j : Int) < (n : Int) := by omega
        obtain ⟨t, ht'⟩ : ∃ t, m[j]? = some t := ⟨_, List.getElem?_eq_getElem (by rw [hlen.out]; omega)⟩
        have hS1 := hidd (fun (V : World) (h : Nx w V G M (some ⟨g, 0, none⟩) n c m q p b) => (show V.cell? ⟨M, 0, none⟩ = some (.slice (some ⟨g, 0, none⟩) n c) ∧ (loadVar 72 ⟨g, j * 3, none⟩).run Try.prog V = .ok (.agg (arV t)) V ∧ Blk V p 72 (arV b) from by
          obtain ⟨g', hg', _, _, _, _, hr⟩ := h.rc.at_ ht'
          injection hg' with hg'
          injection hg' with hg'
          subst hg'
          exact ⟨h.rc.set.at_ (i := 0) rfl, row72 hr, h.p⟩))
        have hS3 := hidd (fun (V : World) (h : Nx w V G M (some ⟨g, 0, none⟩) n c m q p b) => (show V.cell? ⟨g, j * 3, none⟩ = some (.int .u8 t.1) ∧ V.cell? ⟨g, j * 3 + 1, none⟩ = some (.int .u64 t.2.1) ∧ V.cell? ⟨g, j * 3 + 2, none⟩ = some (.int .u64 t.2.2) from by
          obtain ⟨g', hg', _, _, _, _, hr⟩ := h.rc.at_ ht'
          injection hg' with hg'
          injection hg' with hg'
          subst hg'
          exact ⟨by simpa using hr 0 _ rfl, hr 1 _ rfl, hr 2 _ rfl⟩))
        have hbs := hidd (show bestM (m.take (j + 1)) = some (if bef t b then t else b) from by
          rw [List.take_add_one, ht']; exact best_snoc R.out.2)
        have R1 := hidd (R.out.1.to (Below.refl _ wr).drew)
        have S1 := hidd (hS1.out wr.drew R1.out)
        clear ht' R
        obtain ⟨e, he⟩ : ∃ e, bef t b = e := ⟨_, rfl⟩
        have ht := hidd he
        rw [he] at hbs
        clear he
        go_wp2_with fail
        refine wp_region_held_drew (S := (fun V => V.cell? ⟨M, 0, none⟩ = some (.slice (some ⟨g, 0, none⟩) n c) ∧ (loadVar 72 ⟨g, j * 3, none⟩).run Try.prog V = .ok (.agg (arV t)) V ∧ Blk V p 72 (arV b))) (by kernel_rfl) S1.out (fun hHeld => ?_)
        generalize wr.drew = D at S1 R1 hHeld ⊢
        refine wpAnyH_take (i := 0) (v := ?_) rfl (by kernel_rfl) (by kernel_rfl) (by kernel_rfl) (fun _ _ _ h => h) (Or.inl ⟨by kernel_rfl, ?_⟩) hHeld ?_
        rotate_left
        · intro wh hSw
          go_simp
          try with_reducible rfl
        try simp only [Act.put, List.getElem_toArray, List.getElem_cons_zero, List.getElem_cons_succ, List.setIfInBounds_toArray, List.set_cons_zero, List.set_cons_succ]
        refine wpAnyH_take (i := 1) (v := ?_) rfl (by kernel_rfl) (by kernel_rfl) (by kernel_rfl) (fun _ _ _ h => h) (Or.inl ⟨by kernel_rfl, ?_⟩) hHeld ?_
        rotate_left
        · intro wh hSw
          go_simp
          try with_reducible rfl
        try simp only [Act.put, List.getElem_toArray, List.getElem_cons_zero, List.getElem_cons_succ, List.setIfInBounds_toArray, List.set_cons_zero, List.set_cons_succ]
        refine wpAnyH_take (i := 2) (v := ?_) rfl (by kernel_rfl) (by kernel_rfl) (by kernel_rfl) (fun _ _ _ h => h) (Or.inl ⟨by kernel_rfl, ?_⟩) hHeld ?_
        rotate_left
        · intro wh hSw
          go_simp
          try with_reducible rfl
        try simp only [Act.put, List.getElem_toArray, List.getElem_cons_zero, List.getElem_cons_succ, List.setIfInBounds_toArray, List.set_cons_zero, List.set_cons_succ]
        refine wpAnyH_take (i := 3) (v := ?_) rfl (by kernel_rfl) (by kernel_rfl) (by kernel_rfl) (fun _ _ _ h => h) (Or.inl ⟨by kernel_rfl, ?_⟩) hHeld ?_
        rotate_left
        · intro wh hSw
          have hcell := hSw.1
          go_simp
          try with_reducible rfl
        try simp only [Act.put, List.getElem_toArray, List.getElem_cons_zero, List.getElem_cons_succ, List.setIfInBounds_toArray, List.set_cons_zero, List.set_cons_succ]
        refine wpAnyH_take (i := 4) (v := ?_) rfl (by kernel_rfl) (by kernel_rfl) (by kernel_rfl) (fun _ _ _ h => h) (Or.inl ⟨by kernel_rfl, ?_⟩) hHeld ?_
        rotate_left
        · intro wh hSw
          go_simp
          try with_reducible rfl
        try simp only [Act.put, List.getElem_toArray, List.getElem_cons_zero, List.getElem_cons_succ, List.setIfInBounds_toArray, List.set_cons_zero, List.set_cons_succ]
        refine wpAnyH_take (i := 5) (v := ?_) rfl (by kernel_rfl) (by kernel_rfl) (by kernel_rfl) (fun _ _ _ h => h) (Or.inl ⟨by kernel_rfl, ?_⟩) hHeld ?_
        rotate_left
        · intro wh hSw
          go_simp
          try with_reducible rfl
        try simp only [Act.put, List.getElem_toArray, List.getElem_cons_zero, List.getElem_cons_succ, List.setIfInBounds_toArray, List.set_cons_zero, List.set_cons_succ]
        refine wpAnyH_take (i := 6) rfl (by kernel_rfl) (by kernel_rfl) (by kernel_rfl) (fun _ _ _ h => h) (yieldsIf_load_want (by kernel_rfl) 72 _ rfl _ rfl _ (fun wh hSw => hSw.2.1)) hHeld ?_
        try simp only [Act.put, List.getElem_toArray, List.getElem_cons_zero, List.getElem_cons_succ, List.setIfInBounds_toArray, List.set_cons_zero, List.set_cons_succ]
        refine wpAnyH_take (i := 7) rfl (by kernel_rfl) (by kernel_rfl) (by kernel_rfl) (fun _ _ _ h => h) (yieldsIf_load_want (by kernel_rfl) 72 _ rfl _ rfl _ (fun wh hSw => ld72 hSw.2.2)) hHeld ?_
        try simp only [Act.put, List.getElem_toArray, List.getElem_cons_zero, List.getElem_cons_succ, List.setIfInBounds_toArray, List.set_cons_zero, List.set_cons_succ]
        refine wpAnyH_ready (rs := [8]) (by kernel_rfl) (by simp) (AllReadyH.cons rfl (fun K hK => ?_) AllReadyH.nil)
        clear hHeld
        go_simp
        refine (rahead_any D t b).mono ?_
        rintro rr E ⟨rfl, bb⟩
        dsimp only
        rw [ht.out]
        have R2 := hidd (R1.out.to bb)
        have S2 := hidd (hS1.out E R2.out)
        clear bb R1 S1
        refine hK.out _ _ S2.out (fun hHeld => ?_)
        clear hK K
        try simp only [Act.put, List.getElem_toArray, List.getElem_cons_zero, List.getElem_cons_succ, List.setIfInBounds_toArray, List.set_cons_zero, List.set_cons_succ]
        refine wpAnyH_done (by kernel_rfl) ?_ _
        clear hHeld
        cases e with
        | false =>
          go_wp2
          go_roundw
          case rel => exact ⟨j + 1, b, by omega, by omega, by go_num, hidd ⟨R2.out, by have := hbs.out; simpa using this⟩⟩
          case measure => simp [intOf]; omega
        | true =>
          have r0 := (hS3.out E R2.out).1
          have r1 := (hS3.out E R2.out).2.1
          have r2 := (hS3.out E R2.out).2.2
          have c0' := R2.out.rc.set.at_ (i := 0) rfl
          have d0 := R2.out.p
          have d1 := d0.set 0 (.int .u8 t.1)
          have d2 := d1.set 1 (.int .u64 t.2.1)
          have d3 := d2.set 2 (.int .u64 t.2.2)
          have ca0 := d0.at_ (i := 0) rfl
          have ca1 := d0.at_ (i := 1) rfl
          have ca2 := d0.at_ (i := 2) rfl
          have cb1 := d1.at_ (i := 1) rfl
          have cc2 := d2.at_ (i := 2) rfl
          have zf0 := d0.frozen 0
          have zf1 := d1.frozen 1
          have zf2 := d2.frozen 2
          have zg1 := d0.frozen 1
          have zg2 := d0.frozen 2
          obtain ⟨W4, hW4⟩ : ∃ U, ((E.setCell ⟨p, 0, none⟩ (.int .u8 t.1)).setCell ⟨p, 1, none⟩ (.int .u64 t.2.1)).setCell ⟨p, 2, none⟩ (.int .u64 t.2.2) = U := ⟨_, rfl⟩
          have R4 := hidd (show Nx w W4 G M (some ⟨g, 0, none⟩) n c m q p t from by
            have hf : Fr (· = p) E W4 := hW4 ▸ (((Fr.refl (· = p) E).setB _).setB _).setB _
            exact ⟨R2.out.rc.fr hf (fun k hk e => hG.out.2.1 (e ▸ hk)), R2.out.q.fr hf hqp, hW4 ▸ d3, R2.out.bel.trans (hf.below R2.out.bel.size (fun k hk => by have := hq'.out; rw [hk]; omega))⟩)
          clear d0 d1 d2 d3 R2 S2
          go_wp2
          go_roundw
          case rel => exact ⟨j + 1, t, by omega, by omega, by go_num, hidd ⟨R4.out, by have := hbs.out; simpa using this⟩⟩
          case measure => simp [intOf]; omega
      · have hjn' : j = n := by omega
        subst hjn'
        have hbm : bestM m = some b := by
          have := R.out.2
          rwa [List.take_of_length_le (by rw [hlen.out]; exact Nat.le_refl _)] at this
        have hS2 := hidd (fun (U : World) (h : Nx w U G M (some ⟨g, 0, none⟩) j c m q p b) => (show (loadVar 30 ⟨p, 0, none⟩).run Try.prog ((U.setCell ⟨q, 0, none⟩ (.int .u8 b.1)).setCell ⟨q, 1, none⟩ (.int .u64 b.2.1)) = .ok (.agg (keyV (kOf b))) ((U.setCell ⟨q, 0, none⟩ (.int .u8 b.1)).setCell ⟨q, 1, none⟩ (.int .u64 b.2.1)) ∧ ((U.setCell ⟨q, 0, none⟩ (.int .u8 b.1)).setCell ⟨q, 1, none⟩ (.int .u64 b.2.1)).cell? ⟨p, 2, none⟩ = some (.int .u64 b.2.2) from by
          have hp := (h.p.far (p := ⟨q, 0, none⟩) hqp.symm (.int .u8 b.1)).far (p := ⟨q, 1, none⟩) hqp.symm (.int .u64 b.2.1)
          exact ⟨ldKeyAt (hp.at_ (i := 0) rfl) (hp.at_ (i := 1) rfl), hp.at_ (i := 2) rfl⟩))
        have R1 := hidd (R.out.1.to (Below.refl _ wr).drew)
        have S1 := hidd (show (loadVar 30 ⟨p, 0, none⟩).run Try.prog wr.drew = .ok (.agg (keyV (kOf b))) wr.drew ∧ wr.drew.cell? ⟨p, 2, none⟩ = some (.int .u64 b.2.2) from ⟨ldKeyAt (R1.out.p.at_ (i := 0) rfl) (R1.out.p.at_ (i := 1) rfl), R1.out.p.at_ (i := 2) rfl⟩)
        have hbm' := hidd hbm
        clear R hbm
        go_wp2_with fail
        refine wp_region_held_drew (S := (fun V => (loadVar 30 ⟨p, 0, none⟩).run Try.prog V = .ok (.agg (keyV (kOf b))) V ∧ V.cell? ⟨p, 2, none⟩ = some (.int .u64 b.2.2))) (by kernel_rfl) S1.out (fun hHeld => ?_)
        generalize wr.drew = D at S1 R1 hHeld ⊢
        refine wpAnyH_take (i := 0) (v := ?_) rfl (by kernel_rfl) (by kernel_rfl) (by kernel_rfl) (fun _ _ _ h => h) (Or.inl ⟨by kernel_rfl, ?_⟩) hHeld ?_
        rotate_left
        · intro wh hSw
          go_simp
          try with_reducible rfl
        try simp only [Act.put, List.getElem_toArray, List.getElem_cons_zero, List.getElem_cons_succ, List.setIfInBounds_toArray, List.set_cons_zero, List.set_cons_succ]
        refine wpAnyH_take (i := 1) rfl (by kernel_rfl) (by kernel_rfl) (by kernel_rfl) (fun _ _ _ h => h) (yieldsIf_load_want (by kernel_rfl) 30 _ rfl _ rfl _ (fun wh hSw => hSw.1)) hHeld ?_
        try simp only [Act.put, List.getElem_toArray, List.getElem_cons_zero, List.getElem_cons_succ, List.setIfInBounds_toArray, List.set_cons_zero, List.set_cons_succ]
        refine wpAnyH_take (i := 2) (v := ?_) rfl (by kernel_rfl) (by kernel_rfl) (by kernel_rfl) (fun _ _ _ h => h) (Or.inl ⟨by kernel_rfl, ?_⟩) hHeld ?_
        rotate_left
        · intro wh hSw
          go_simp
          try with_reducible rfl
        try simp only [Act.put, List.getElem_toArray, List.getElem_cons_zero, List.getElem_cons_succ, List.setIfInBounds_toArray, List.set_cons_zero, List.set_cons_succ]
        refine wpAnyH_take (i := 3) (v := ?_) rfl (by kernel_rfl) (by kernel_rfl) (by kernel_rfl) (fun _ _ _ h => h) (Or.inl ⟨by kernel_rfl, ?_⟩) hHeld ?_
        rotate_left
        · intro wh hSw
          have hcell := hSw.2
          go_simp
          try with_reducible rfl
        try simp only [Act.put, List.getElem_toArray, List.getElem_cons_zero, List.getElem_cons_succ, List.setIfInBounds_toArray, List.set_cons_zero, List.set_cons_succ]
        refine wpAnyH_ready (rs := [4]) (by kernel_rfl) (by simp) (AllReadyH.cons rfl (fun K hK => ?_) AllReadyH.nil)
        clear hHeld
        have cq0 := R1.out.q.at_ (i := 0) rfl
        have cq1 := R1.out.q.at_ (i := 1) rfl
        have zq0 := R1.out.q.frozen 0
        have zq1 := R1.out.q.frozen 1
        have cq1' := (R1.out.q.set 0 (.int .u8 b.1)).at_ (i := 1) rfl
        have zq1' := (R1.out.q.set 0 (.int .u8 b.1)).frozen 1
        go_simp
        have S2 := hidd (hS2.out D R1.out)
        refine hK.out _ _ S2.out (fun hHeld => ?_)
        clear hK K
        try simp only [Act.put, List.getElem_toArray, List.getElem_cons_zero, List.getElem_cons_succ, List.setIfInBounds_toArray, List.set_cons_zero, List.set_cons_succ]
        refine wpAnyH_take (i := 5) (v := ?_) rfl (by kernel_rfl) (by kernel_rfl) (by kernel_rfl) (fun _ _ _ h => h) (Or.inl ⟨by kernel_rfl, ?_⟩) hHeld ?_
        rotate_left
        · intro wh hSw
          go_simp
          try with_reducible rfl
        try simp only [Act.put, List.getElem_toArray, List.getElem_cons_zero, List.getElem_cons_succ, List.setIfInBounds_toArray, List.set_cons_zero, List.set_cons_succ]
        refine wpAnyH_take (i := 6) (v := ?_) rfl (by kernel_rfl) (by kernel_rfl) (by kernel_rfl) (fun _ _ _ h => h) (Or.inl ⟨by kernel_rfl, ?_⟩) hHeld ?_
        rotate_left
        · intro wh hSw
          go_simp
          try with_reducible rfl
        try simp only [Act.put, List.getElem_toArray, List.getElem_cons_zero, List.getElem_cons_succ, List.setIfInBounds_toArray, List.set_cons_zero, List.set_cons_succ]
        refine wpAnyH_done (by kernel_rfl) ?_ _
        clear hHeld
        go_wp2
        have hq2 : Blk ((D.setCell ⟨q, 0, none⟩ (.int .u8 b.1)).setCell ⟨q, 1, none⟩ (.int .u64 b.2.1)) q 30 (keyV (kOf b)) := (R1.out.q.set 0 (.int .u8 b.1)).set 1 (.int .u64 b.2.1)
        have l2 := ld30 hq2
        refine bodyPost_ret (v := nextV (some b)) (by simp [results, Try.results24, Act.put, asAddr, l2, nextV]) rfl ?_
        rw [hbm'.out]
        have hfin := (R1.out.bel.setCell (p := ⟨q, 0, none⟩) (Nat.le_of_eq hq'.out) (.int .u8 b.1)).setCell (p := ⟨q, 1, none⟩) (Nat.le_of_eq hq'.out) (.int .u64 b.2.1)
        exact ⟨rfl, by first | exact hfin | (rwa [hq] at hfin)⟩
end Go.Proofs.Ytepenfgoejhofaa
