/- The document's set: armed, cancelled, taken. Each function walked once. No condition. -/
import Derived.Test.YtepenfgoejhofaaRfN
namespace Go.Proofs.Ytepenfgoejhofaa
open Go.ChangeShapes Go.WideShapes Go.ChangeAt Go.RowKit Go.Deep
set_option linter.unusedVariables false
set_option linter.unusedSimpArgs false

theorem own_base {w : World} {base base' : Nat} {t : TypeId} {size n : Nat} {v : Value} {xs : List Value} (h : w.ownsRow base t size v n xs) (hb : base' ≤ base) : w.ownsRow base' t size v n xs := by
  refine ⟨h.1, ?_⟩
  rcases h.2 with h' | ⟨g, cap, cur, hv, h1, h2⟩
  · exact .inl h'
  · exact .inr ⟨g, cap, cur, hv, by omega, h2⟩
theorem flat_at_set : ∀ {m : List T3} {i : Nat} {t : T3} (a : Int), m[i]? = some t → (flatOf encT m).set (i * 3 + 2) (.int .u64 a) = flatOf encT (m.set i (t.1, t.2.1, a))
  | [], i, t, a, h => by simp at h
  | x :: m, 0, t, a, h => by simp at h; subst h; rfl
  | x :: m, i + 1, t, a, h => by
    have ih := flat_at_set (m := m) (i := i) a (by simpa using h)
    have e : (i + 1) * 3 + 2 = (i * 3 + 2) + 1 + 1 + 1 := by omega
    rw [e]
    show [Value.int .u8 x.1, .int .u64 x.2.1, .int .u64 x.2.2] ++ (flatOf encT m).set (i * 3 + 2) (.int .u64 a) = _
    rw [ih]; rfl
section
variable {W W' : World} {G S : Nat → Prop} {M n c : Nat} {A : Option Addr} {m : List T3}
theorem Rc.away (h : Rc W G M A n c m) : (Value.slice A n c).ownBlock ≠ some M := fun hk => by
  rcases h.own.2 with ⟨h', _⟩ | ⟨g', cap', cur, h', hb', hg, _⟩
  · rw [h'] at hk; simp [Value.ownBlock] at hk
  · rw [h'] at hk
    obtain rfl : g' = M := by simpa [Value.ownBlock] using hk
    exact blk_ne (t := 72) hg h.set (by decide) rfl
theorem Rc.setAt {g i : Nat} {t : T3} (h : Rc W G M (some ⟨g, 0, none⟩) n c m) (hi : m[i]? = some t) (a : Int) : Rc (W.setCell ⟨g, i * 3 + 2, none⟩ (.int .u64 a)) G M (some ⟨g, 0, none⟩) n c (m.set i (t.1, t.2.1, a)) ∧ Fr G W (W.setCell ⟨g, i * 3 + 2, none⟩ (.int .u64 a)) := by
  have hM : M ≠ g := fun e => h.away (by rw [e]; rfl)
  have ho := (h.own.stored (i * 3 + 2) (.int .u64 a)).1
  rw [flat_at_set a hi] at ho
  exact ⟨⟨by rw [List.length_set]; exact h.len, h.set.far (p := ⟨g, i * 3 + 2, none⟩) hM _, ho, h.fM, h.fg, fun k hk => by have := h.bd k hk; simpa using this, h.mx⟩, (Fr.refl G W).setCell (.inl (h.fg g rfl)) _⟩
/-- One more, behind the append. -/
theorem Rc.app {A' : Option Addr} {c' : Nat} {V : World} {t : T3} (h : Rc W G M A n c m) (ho : V.ownsRow 0 72 3 (.slice A' (n + 1) c') (n + 1) (flatOf encT m ++ (arV t).toList)) (hg : W.grownBy V (Value.slice A n c).ownBlock)
    (ht : (Value.slice A' (n + 1) c').ownBlock = (Value.slice A n c).ownBlock ∨ (Value.slice A' (n + 1) c').ownBlock = some W.heap.size) (hn : n < 256) :
    Rc (V.setCell ⟨M, 0, none⟩ (.slice A' (n + 1) c')) (fun k => G k ∨ (W.heap.size ≤ k ∧ k < V.heap.size)) M A' (n + 1) c' (m ++ [t]) ∧ Fr G W (V.setCell ⟨M, 0, none⟩ (.slice A' (n + 1) c')) := by
  have hf : Fr (fun k => (Value.slice A n c).ownBlock = some k) W V := Fr.of_grown hg
  have hfM : Fr (· = M) V (V.setCell ⟨M, 0, none⟩ (.slice A' (n + 1) c')) := (Fr.refl (· = M) V).setB _
  have hs : Blk V M 42 #[.slice A n c] := h.set.fr hf (fun e => h.away e)
  have hM : ∀ k, (Value.slice A' (n + 1) c').ownBlock = some k → k ≠ M := fun k hk e => by
    rcases ht with e1 | e1
    · exact h.away (by rw [← e1, hk, e])
    · rw [e1] at hk; injection hk with hk; have := h.set.lt; omega
  have hfl : flatOf encT (m ++ [t]) = flatOf encT m ++ (arV t).toList := by rw [flat_append]; simp [flatOf, encT]
  refine ⟨⟨by rw [List.length_append, h.len]; rfl, hs.set 0 _, ?_, .inl h.fM, fun k hk => ?_, fun k hk => ?_, hn⟩, ?_⟩
  · rw [hfl]; exact ownRow_fr ho hfM hM
  · have hkV : k < V.heap.size := (ho.lt k hk).2
    rcases ht with e1 | e1
    · exact .inl (h.fg k (e1 ▸ hk))
    · rw [e1] at hk; injection hk with hk; exact .inr ⟨by omega, hkV⟩
  · rcases hk with hk | hk
    · have := h.bd k hk; have := hf.size; simpa using (by omega : k < V.heap.size)
    · simpa using hk.2
  · exact ((Fr.refl G W).grown hg (fun k hk => .inl (h.fg k hk))).setCell (.inl h.fM) _
end
set_option maxRecDepth 100000 in
set_option maxHeartbeats 4000000 in
theorem rarm_any (W : World) {G : Nat → Prop} {M : Nat} {m : List T3} (h : Rg W G M m) (k : K2) (a : Int) : Calls Try.prog 21 #[ptr M, .agg (keyV k), .int .u64 a] W fun r W' => r = .returned (.int .i64 (armM m k a).1) ∧ ∃ G', Rg W' G' M (armM m k a).2 ∧ Gr G W G' W' := by
  obtain ⟨A, n, c, h⟩ := h
  obtain ⟨q, hq⟩ : ∃ q, W.heap.size = q := ⟨_, rfl⟩
  obtain ⟨V, hV⟩ : ∃ V, W.alloc (.cells (keyV k) 30) = V := ⟨_, rfl⟩
  have hVB : Below W.heap.size W V := hV ▸ (Below.refl _ W).alloc (Nat.le_refl _) _
  have hQ : Blk V q 30 (keyV k) := by rw [← hV, ← hq]; exact Blk.new W 30 _
  have hGq := hidd (fun (e : G q) => (by have := h.bd q e; omega : False))
  have cq0 := hQ.at_ (i := 0) rfl
  have cq1 := hQ.at_ (i := 1) rfl
  have H0 := hidd (And.intro (h.to hVB) (And.intro hQ hVB))
  have hWb := hidd h.bd
  clear h hQ hVB
  go_enter Try.func21, Try.ntmps21
  go_wp2_with fail
  refine (where_ref V ⟨A, n, c, H0.out.1⟩ k).mono ?_
  rintro r V1 ⟨rfl, b1⟩
  have bW := H0.out.2.2.trans (b1.mono H0.out.2.2.size)
  have H1 := hidd (And.intro (H0.out.1.to b1) (And.intro (H0.out.2.1.below b1 H0.out.2.1.lt) (Fr.of_below bW G)))
  clear b1 H0 cq0 cq1 hV bW
  have hmx := H1.out.1.mx
  have hlen := hidd H1.out.1.len
  cases hf : fdx k m with
  | none =>
    have hp : posI m k = -1 := by unfold posI; rw [hf]
    have c0 := H1.out.1.set.at_ (i := 0) rfl
    rw [hp]
    by_cases hn : n = 256
    · have hge : decide ((n : Int) ≥ 256) = true := by simp; omega
      have ha := hidd (show armM m k a = (3, m) from by unfold armM; rw [hf]; simp only; rw [if_pos (hlen.out.trans hn)])
      clear hp hf
      go_wp2
      go_ret
      rw [ha.out]
      exact ⟨rfl, G, ⟨A, n, c, H1.out.1⟩, Gr.same H1.out.2.2⟩
    · have hge : decide ((n : Int) ≥ 256) = false := by simp; omega
      have ha := hidd (show armM m k a = (0, m ++ [(k.1, k.2, a)]) from by unfold armM; rw [hf]; simp only; rw [if_neg (by rw [hlen.out]; exact hn)])
      have S1 := hidd (show V1.drew.cell? ⟨M, 0, none⟩ = some (.slice A n c) ∧ Blk V1.drew q 30 (keyV k) from ⟨c0, H1.out.2.1⟩)
      replace H1 := hidd (show Rc V1.drew G M A n c m ∧ Blk V1.drew q 30 (keyV k) ∧ Fr G W V1.drew from ⟨H1.out.1.to (Below.refl _ V1).drew, H1.out.2.1, H1.out.2.2.drew⟩)
      have hn256 : n < 256 := by omega
      clear hp hf
      go_wp2_with fail
      refine wp_region_tail (fun V => V.cell? ⟨M, 0, none⟩ = some (.slice A n c) ∧ Blk V q 30 (keyV k)) 12 (by kernel_rfl) S1.out (fun hF => ?_)
      generalize V1.drew = D at S1 H1 hF ⊢
      refine tail_free (i := 0) (v := ?_) rfl (by kernel_rfl) (by kernel_rfl) (by kernel_rfl) (by kernel_rfl) (fun _ _ _ h => h) (Or.inl ⟨by kernel_rfl, ?_⟩) (fun _ => hF) ?_
      rotate_left
      · intro wh hSw
        go_simp
        try with_reducible rfl
      try simp only [Act.put, List.getElem_toArray, List.getElem_cons_zero, List.getElem_cons_succ, List.setIfInBounds_toArray, List.set_cons_zero, List.set_cons_succ]
      refine tail_free (i := 1) (v := ?_) rfl (by kernel_rfl) (by kernel_rfl) (by kernel_rfl) (by kernel_rfl) (fun _ _ _ h => h) (Or.inl ⟨by kernel_rfl, ?_⟩) (fun _ => hF) ?_
      rotate_left
      · intro wh hSw
        go_simp
        try with_reducible rfl
      try simp only [Act.put, List.getElem_toArray, List.getElem_cons_zero, List.getElem_cons_succ, List.setIfInBounds_toArray, List.set_cons_zero, List.set_cons_succ]
      refine tail_free (i := 2) (v := ?_) rfl (by kernel_rfl) (by kernel_rfl) (by kernel_rfl) (by kernel_rfl) (fun _ _ _ h => h) (Or.inl ⟨by kernel_rfl, ?_⟩) (fun _ => hF) ?_
      rotate_left
      · intro wh hSw
        go_simp
        try with_reducible rfl
      try simp only [Act.put, List.getElem_toArray, List.getElem_cons_zero, List.getElem_cons_succ, List.setIfInBounds_toArray, List.set_cons_zero, List.set_cons_succ]
      refine tail_free (i := 3) (v := ?_) rfl (by kernel_rfl) (by kernel_rfl) (by kernel_rfl) (by kernel_rfl) (fun _ _ _ h => h) (Or.inl ⟨by kernel_rfl, ?_⟩) (fun _ => hF) ?_
      rotate_left
      · intro wh hSw
        go_simp
        try with_reducible rfl
      try simp only [Act.put, List.getElem_toArray, List.getElem_cons_zero, List.getElem_cons_succ, List.setIfInBounds_toArray, List.set_cons_zero, List.set_cons_succ]
      refine tail_take (i := 4) (v := ?_) rfl (by kernel_rfl) (by kernel_rfl) (by kernel_rfl) (by kernel_rfl) (fun _ _ _ h => h) (Or.inl ⟨by kernel_rfl, ?_⟩) hF ?_
      rotate_left
      · intro wh hSw
        have hcell := hSw.1
        go_simp
        try with_reducible rfl
      try simp only [Act.put, List.getElem_toArray, List.getElem_cons_zero, List.getElem_cons_succ, List.setIfInBounds_toArray, List.set_cons_zero, List.set_cons_succ]
      refine tail_take (i := 5) rfl (by kernel_rfl) (by kernel_rfl) (by kernel_rfl) (by kernel_rfl) (fun _ _ _ h => h) (yieldsIf_load_want (by kernel_rfl) 30 _ rfl _ rfl _ (fun wh hSw => ld30 hSw.2)) hF ?_
      try simp only [Act.put, List.getElem_toArray, List.getElem_cons_zero, List.getElem_cons_succ, List.setIfInBounds_toArray, List.set_cons_zero, List.set_cons_succ]
      refine tail_free (i := 6) (v := ?_) rfl (by kernel_rfl) (by kernel_rfl) (by kernel_rfl) (by kernel_rfl) (fun _ _ _ h => h) (Or.inl ⟨by kernel_rfl, ?_⟩) (fun _ => hF) ?_
      rotate_left
      · intro wh hSw
        go_simp
        try with_reducible rfl
      try simp only [Act.put, List.getElem_toArray, List.getElem_cons_zero, List.getElem_cons_succ, List.setIfInBounds_toArray, List.set_cons_zero, List.set_cons_succ]
      refine tail_free (i := 7) (v := ?_) rfl (by kernel_rfl) (by kernel_rfl) (by kernel_rfl) (by kernel_rfl) (fun _ _ _ h => h) (Or.inl ⟨by kernel_rfl, ?_⟩) (fun _ => hF) ?_
      rotate_left
      · intro wh hSw
        go_simp
        try with_reducible rfl
      try simp only [Act.put, List.getElem_toArray, List.getElem_cons_zero, List.getElem_cons_succ, List.setIfInBounds_toArray, List.set_cons_zero, List.set_cons_succ]
      refine tail_ready (rs := [8]) (by kernel_rfl) (by simp) (AllReadyT.cons rfl (fun K hK => ?_) AllReadyT.nil)
      clear hF
      refine step_bs1 D rfl (.tmp 34) slT (by decide) rfl (arV (k.1, k.2, a)) rfl rfl ?_
      obtain ⟨s, hs⟩ : ∃ s, D.heap.size = s := ⟨_, rfl⟩
      have r1 := hidd (rd_one D 72 3 (arV (k.1, k.2, a)) rfl)
      have bb : Below D.heap.size D (D.alloc (.cells (arV (k.1, k.2, a)) 72)) := (Below.refl _ D).alloc (Nat.le_refl _) _
      have H2 := hidd (And.intro (H1.out.1.to bb) (And.intro (H1.out.2.1.below bb H1.out.2.1.lt) (H1.out.2.2.trans (Fr.of_below bb G))))
      rw [hs] at r1 ⊢
      obtain ⟨D1, hD1⟩ : ∃ U, D.alloc (.cells (arV (k.1, k.2, a)) 72) = U := ⟨_, rfl⟩
      rw [hD1] at r1 H2 ⊢
      have S2 := hidd (And.intro (H2.out.1.set.at_ (i := 0) rfl) H2.out.2.1)
      clear bb hD1 hs H1 S1
      refine hK.out _ _ S2.out (fun hF => ?_)
      clear hK K
      try simp only [Act.put, List.getElem_toArray, List.getElem_cons_zero, List.getElem_cons_succ, List.setIfInBounds_toArray, List.set_cons_zero, List.set_cons_succ]
      refine tail_ready (rs := [9]) (by kernel_rfl) (by simp) (AllReadyT.cons rfl (fun K hK => ?_) AllReadyT.nil)
      clear hF
      refine step_append_rd (v := .slice A n c) D1 rfl (.tmp 31) (.tmp 35) slT rfl rfl H2.out.1.own rfl r1.out (fun u hu => isEncT.one _ u hu) (by unfold maxLen; omega) (by omega) (Nat.zero_le _) ?_
      intro v5 w5 o5 g5 t5 l5
      obtain ⟨A5, c5, rfl⟩ := slice_of_own o5
      have R5 := hidd (H2.out.1.app o5 g5 t5 hn256)
      have f5 := Fr.of_grown g5
      have m5 : Blk w5 M 42 #[.slice A n c] := H2.out.1.set.fr f5 (fun e => H2.out.1.away e)
      have q5 : Blk w5 q 30 (keyV k) := H2.out.2.1.fr f5 (fun e => hGq.out (H2.out.1.fg _ e))
      have S5 := hidd (And.intro (m5.at_ (i := 0) rfl) q5)
      have M5 := hidd m5
      clear o5 g5 t5 l5 f5 m5 q5
      refine hK.out _ _ S5.out (fun hF => ?_)
      clear hK K
      try simp only [Act.put, List.getElem_toArray, List.getElem_cons_zero, List.getElem_cons_succ, List.setIfInBounds_toArray, List.set_cons_zero, List.set_cons_succ]
      refine tail_free (i := 10) (v := ?_) rfl (by kernel_rfl) (by kernel_rfl) (by kernel_rfl) (by kernel_rfl) (fun _ _ _ h => h) (Or.inl ⟨by kernel_rfl, ?_⟩) (fun _ => hF) ?_
      rotate_left
      · intro wh hSw
        go_simp
        try with_reducible rfl
      try simp only [Act.put, List.getElem_toArray, List.getElem_cons_zero, List.getElem_cons_succ, List.setIfInBounds_toArray, List.set_cons_zero, List.set_cons_succ]
      refine tail_free (i := 11) (v := ?_) rfl (by kernel_rfl) (by kernel_rfl) (by kernel_rfl) (by kernel_rfl) (fun _ _ _ h => h) (Or.inl ⟨by kernel_rfl, ?_⟩) (fun _ => hF) ?_
      rotate_left
      · intro wh hSw
        go_simp
        try with_reducible rfl
      try simp only [Act.put, List.getElem_toArray, List.getElem_cons_zero, List.getElem_cons_succ, List.setIfInBounds_toArray, List.set_cons_zero, List.set_cons_succ]
      refine tail_ready (rs := [12]) (by kernel_rfl) (by simp) (AllReadyT.last rfl (by kernel_rfl) (fun K hK => ?_) AllReadyT.nil)
      clear hF
      have c05 := M5.out.at_ (i := 0) rfl
      have z05 := M5.out.frozen 0
      go_simp
      refine hK.out _ _ ?_
      clear hK K
      try simp only [Act.put, List.getElem_toArray, List.getElem_cons_zero, List.getElem_cons_succ, List.setIfInBounds_toArray, List.set_cons_zero, List.set_cons_succ]
      refine tail_done (by kernel_rfl) ?_ _
      have hbd2 : W.heap.size ≤ D1.heap.size := H2.out.2.2.size
      have R := hidd (show ∃ G', Rg (w5.setCell ⟨M, 0, none⟩ (.slice A5 (n + 1) c5)) G' M (m ++ [(k.1, k.2, a)]) ∧ Gr G W G' (w5.setCell ⟨M, 0, none⟩ (.slice A5 (n + 1) c5)) from
        ⟨_, ⟨A5, n + 1, c5, R5.out.1⟩, H2.out.2.2.trans R5.out.2, fun k hk => by
          rcases hk with hk | hk
          · exact .inl hk
          · exact .inr ⟨by omega, by simpa using hk.2⟩⟩)
      clear R5 H2 M5 S5
      go_wp2
      go_ret
      rw [ha.out]
      exact ⟨rfl, R.out⟩
  | some i =>
    obtain ⟨t, ht, hk⟩ := fdx_some hf
    have hp : posI m k = (i : Int) := by unfold posI; rw [hf]
    have ha := hidd (show armM m k a = (0, m.set i (k.1, k.2, a)) from by unfold armM; rw [hf])
    have h := H1.out.1
    obtain ⟨g, rfl, hGg, hin, hnc, hcm, hr⟩ := h.at_ ht
    have c0 := h.set.at_ (i := 0) rfl
    have c2 : V1.cell? ⟨g, i * 3 + 2, none⟩ = some (.int .u64 t.2.2) := hr 2 _ rfl
    have z2 := h.own.frozenAt (i * 3 + 2)
    have hiz : (i : Int) < (n : Int) := by omega
    have hi0 : decide ((0 : Int) ≤ (i : Int)) = true := by simp
    have R := hidd (show ∃ G', Rg (V1.setCell ⟨g, i * 3 + 2, none⟩ (.int .u64 a)) G' M (m.set i (k.1, k.2, a)) ∧ Gr G W G' (V1.setCell ⟨g, i * 3 + 2, none⟩ (.int .u64 a)) from by
      have hs := h.setAt ht a
      have e : (t.1, t.2.1, a) = (k.1, k.2, a) := by rw [← hk]
      rw [e] at hs
      exact ⟨G, ⟨_, n, c, hs.1⟩, Gr.same (H1.out.2.2.trans hs.2)⟩)
    rw [hp]
    clear hp hf h hr ht hk H1
    go_wp2
    go_ret
    rw [ha.out]
    exact ⟨rfl, R.out⟩
end Go.Proofs.Ytepenfgoejhofaa
