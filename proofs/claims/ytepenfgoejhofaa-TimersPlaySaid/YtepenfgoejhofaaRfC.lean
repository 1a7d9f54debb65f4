/- The document's set: cancelled; what is due. Each function walked once. No condition. -/
import Derived.Test.YtepenfgoejhofaaRfA
namespace Go.Proofs.Ytepenfgoejhofaa
open Go.ChangeShapes Go.WideShapes Go.ChangeAt Go.RowKit Go.Deep
set_option linter.unusedVariables false
set_option linter.unusedSimpArgs false

theorem erase_cut (m : List T3) (i : Nat) : flatOf encT (m.take i) ++ flatOf encT (m.drop (i + 1)) = flatOf encT (m.eraseIdx i) := by
  rw [← flat_append, List.eraseIdx_eq_take_drop_succ]
set_option maxRecDepth 100000 in
set_option maxHeartbeats 4000000 in
theorem rcancel_any (W : World) {G : Nat → Prop} {M : Nat} {m : List T3} (h : Rg W G M m) (k : K2) : Calls Try.prog 22 #[ptr M, .agg (keyV k)] W fun r W' => r = .returned (.bool (canM m k).1) ∧ ∃ G', Rg W' G' M (canM m k).2 ∧ Gr G W G' W' := by
  obtain ⟨A, n, c, h⟩ := h
  obtain ⟨q, hq⟩ : ∃ q, W.heap.size = q := ⟨_, rfl⟩
  obtain ⟨V, hV⟩ : ∃ V, W.alloc (.cells (keyV k) 30) = V := ⟨_, rfl⟩
  have hVB : Below W.heap.size W V := hV ▸ (Below.refl _ W).alloc (Nat.le_refl _) _
  have hQ : Blk V q 30 (keyV k) := by rw [← hV, ← hq]; exact Blk.new W 30 _
  have cq0 := hQ.at_ (i := 0) rfl
  have cq1 := hQ.at_ (i := 1) rfl
  have H0 := hidd (And.intro (h.to hVB) hVB)
  clear h hQ hVB
  go_enter Try.func22, Try.ntmps22
  go_wp2_with fail
  refine (where_ref V ⟨A, n, c, H0.out.1⟩ k).mono ?_
  rintro r V1 ⟨rfl, b1⟩
  have bW := H0.out.2.trans (b1.mono H0.out.2.size)
  have H1 := hidd (And.intro (H0.out.1.to b1) (Fr.of_below bW G))
  clear b1 H0 cq0 cq1 hV bW
  have hmx := H1.out.1.mx
  have hlen := hidd H1.out.1.len
  cases hf : fdx k m with
  | none =>
    have hp : posI m k = -1 := by unfold posI; rw [hf]
    have ha := hidd (show canM m k = (false, m) from by unfold canM; rw [hf])
    rw [hp]
    clear hp hf
    go_wp2
    go_ret
    rw [ha.out]
    exact ⟨rfl, G, ⟨A, n, c, H1.out.1⟩, Gr.same H1.out.2⟩
  | some j =>
    obtain ⟨t, ht, hk⟩ := fdx_some hf
    have hp : posI m k = (j : Int) := by unfold posI; rw [hf]
    have ha := hidd (show canM m k = (true, m.eraseIdx j) from by unfold canM; rw [hf])
    obtain ⟨g, rfl, hGg, hjn, hnc, hcm, hr⟩ := H1.out.1.at_ ht
    have H4 := hidd (show Rc V1.drew G M (some ⟨g, 0, none⟩) n c m ∧ Fr G W V1.drew from ⟨H1.out.1.to (Below.refl _ V1).drew, H1.out.2.drew⟩)
    have HD := hidd H4.out.2
    have S4 := hidd (H4.out.1.set.at_ (i := 0) rfl)
    have o4 := H4.out.1.own
    have rT := hidd ((Rd.of_own o4).take (k := j) (by omega))
    obtain ⟨Ac, hAc⟩ : ∃ A : Option Addr, (if c = j + 1 then some (⟨g, 0, none⟩ : Addr) else some ⟨g, (j + 1) * 3, none⟩) = A := ⟨_, rfl⟩
    have hAc' : (if c = j + 1 then some (⟨g, 0, none⟩ : Addr) else (some (⟨g, 0, none⟩ : Addr)).map (·.add ((j + 1) * 3))) = Ac := by rw [← hAc]; simp [Addr.add]
    have rC := hidd ((Rd.of_own o4).cut (k := j + 1) (by omega))
    rw [hAc'] at rC
    obtain ⟨lo, hlo⟩ : ∃ lo, V1.drew.heap.size = lo := ⟨_, rfl⟩
    have hWlo : W.heap.size ≤ lo := by have := HD.out.size; omega
    have hGlo := hidd (fun k (hk : G k) => (show k < lo from by have := H4.out.1.bd k hk; omega))
    have hm' : j + (n - (j + 1)) = n - 1 := by omega
    have hi0 : decide ((j : Int) < 0) = false := by simp
    have q1 : j ≤ c := by omega
    have hw1 : IntKind.i64.wrap ((j : Int) + 1) = (j : Int) + 1 := IntWalk.i64_in _ (by omega)
    have hw2 : ((j : Int) + 1).toNat = j + 1 := by omega
    have q2 : j + 1 ≤ c := by omega
    have q3 : (0 : Int) ≤ (j : Int) + 1 := by omega
    have q4 : (j : Int) + 1 ≤ (n : Int) := by omega
    rw [hp]
    clear hp hf hr ht hk o4 hAc' H1
    go_wp2_with fail
    refine wp_region_tail (fun V => V.cell? ⟨M, 0, none⟩ = some (.slice (some ⟨g, 0, none⟩) n c)) 18 (by kernel_rfl) S4.out (fun hF => ?_)
    generalize V1.drew = D at rT rC H4 S4 HD hlo hF ⊢
    refine tail_free (i := 0) (v := ?_) rfl (by kernel_rfl) (by kernel_rfl) (by kernel_rfl) (by kernel_rfl) (fun _ _ _ h => h) (Or.inl ⟨by kernel_rfl, ?_⟩) (fun _ => hF) ?_
    rotate_left
    · intro wh hSw
      go_simp
      try with_reducible rfl
    try simp only [Act.put, List.getElem_toArray, List.getElem_cons_zero, List.getElem_cons_succ, List.setIfInBounds_toArray, List.set_cons_zero, List.set_cons_succ]
    refine tail_free (i := 1) (v := ?_) rfl (by kernel_rfl) (by kernel_rfl) (by kernel_rfl) (by kernel_rfl) (fun _ _ _ h => h) (Or.inl ⟨by kernel_rfl, ?_⟩) (fun _ => hF) ?_
    rotate_left
    · intro wh hSw
      go_simp
      try with_reducible rfl
    try simp only [Act.put, List.getElem_toArray, List.getElem_cons_zero, List.getElem_cons_succ, List.setIfInBounds_toArray, List.set_cons_zero, List.set_cons_succ]
    refine tail_free (i := 2) (v := ?_) rfl (by kernel_rfl) (by kernel_rfl) (by kernel_rfl) (by kernel_rfl) (fun _ _ _ h => h) (Or.inl ⟨by kernel_rfl, ?_⟩) (fun _ => hF) ?_
    rotate_left
    · intro wh hSw
      go_simp
      try with_reducible rfl
    try simp only [Act.put, List.getElem_toArray, List.getElem_cons_zero, List.getElem_cons_succ, List.setIfInBounds_toArray, List.set_cons_zero, List.set_cons_succ]
    refine tail_free (i := 3) (v := ?_) rfl (by kernel_rfl) (by kernel_rfl) (by kernel_rfl) (by kernel_rfl) (fun _ _ _ h => h) (Or.inl ⟨by kernel_rfl, ?_⟩) (fun _ => hF) ?_
    rotate_left
    · intro wh hSw
      go_simp
      try with_reducible rfl
    try simp only [Act.put, List.getElem_toArray, List.getElem_cons_zero, List.getElem_cons_succ, List.setIfInBounds_toArray, List.set_cons_zero, List.set_cons_succ]
    refine tail_take (i := 4) (v := ?_) rfl (by kernel_rfl) (by kernel_rfl) (by kernel_rfl) (by kernel_rfl) (fun _ _ _ h => h) (Or.inl ⟨by kernel_rfl, ?_⟩) hF ?_
    rotate_left
    · intro wh hSw
      have hcell := hSw
      go_simp
      try with_reducible rfl
    try simp only [Act.put, List.getElem_toArray, List.getElem_cons_zero, List.getElem_cons_succ, List.setIfInBounds_toArray, List.set_cons_zero, List.set_cons_succ]
    refine tail_free (i := 5) (v := ?_) rfl (by kernel_rfl) (by kernel_rfl) (by kernel_rfl) (by kernel_rfl) (fun _ _ _ h => h) (Or.inl ⟨by kernel_rfl, ?_⟩) (fun _ => hF) ?_
    rotate_left
    · intro wh hSw
      go_simp
      try with_reducible rfl
    try simp only [Act.put, List.getElem_toArray, List.getElem_cons_zero, List.getElem_cons_succ, List.setIfInBounds_toArray, List.set_cons_zero, List.set_cons_succ]
    refine tail_free (i := 6) (v := ?_) rfl (by kernel_rfl) (by kernel_rfl) (by kernel_rfl) (by kernel_rfl) (fun _ _ _ h => h) (Or.inl ⟨by kernel_rfl, ?_⟩) (fun _ => hF) ?_
    rotate_left
    · intro wh hSw
      go_simp
      try with_reducible rfl
    try simp only [Act.put, List.getElem_toArray, List.getElem_cons_zero, List.getElem_cons_succ, List.setIfInBounds_toArray, List.set_cons_zero, List.set_cons_succ]
    refine tail_free (i := 8) (v := ?_) rfl (by kernel_rfl) (by kernel_rfl) (by kernel_rfl) (by kernel_rfl) (fun _ _ _ h => h) (Or.inl ⟨by kernel_rfl, ?_⟩) (fun _ => hF) ?_
    rotate_left
    · intro wh hSw
      go_simp
      try with_reducible rfl
    try simp only [Act.put, List.getElem_toArray, List.getElem_cons_zero, List.getElem_cons_succ, List.setIfInBounds_toArray, List.set_cons_zero, List.set_cons_succ]
    refine tail_free (i := 9) (v := ?_) rfl (by kernel_rfl) (by kernel_rfl) (by kernel_rfl) (by kernel_rfl) (fun _ _ _ h => h) (Or.inl ⟨by kernel_rfl, ?_⟩) (fun _ => hF) ?_
    rotate_left
    · intro wh hSw
      go_simp
      try with_reducible rfl
    try simp only [Act.put, List.getElem_toArray, List.getElem_cons_zero, List.getElem_cons_succ, List.setIfInBounds_toArray, List.set_cons_zero, List.set_cons_succ]
    refine tail_free (i := 10) (v := ?_) rfl (by kernel_rfl) (by kernel_rfl) (by kernel_rfl) (by kernel_rfl) (fun _ _ _ h => h) (Or.inl ⟨by kernel_rfl, ?_⟩) (fun _ => hF) ?_
    rotate_left
    · intro wh hSw
      go_simp
      try with_reducible rfl
    try simp only [Act.put, List.getElem_toArray, List.getElem_cons_zero, List.getElem_cons_succ, List.setIfInBounds_toArray, List.set_cons_zero, List.set_cons_succ]
    refine tail_take (i := 11) (v := ?_) rfl (by kernel_rfl) (by kernel_rfl) (by kernel_rfl) (by kernel_rfl) (fun _ _ _ h => h) (Or.inl ⟨by kernel_rfl, ?_⟩) hF ?_
    rotate_left
    · intro wh hSw
      have hcell := hSw
      go_simp
      try with_reducible rfl
    try simp only [Act.put, List.getElem_toArray, List.getElem_cons_zero, List.getElem_cons_succ, List.setIfInBounds_toArray, List.set_cons_zero, List.set_cons_succ]
    refine tail_free (i := 12) (v := ?_) rfl (by kernel_rfl) (by kernel_rfl) (by kernel_rfl) (by kernel_rfl) (fun _ _ _ h => h) (Or.inl ⟨by kernel_rfl, ?_⟩) (fun _ => hF) ?_
    rotate_left
    · intro wh hSw
      go_simp
      try with_reducible rfl
    try simp only [Act.put, List.getElem_toArray, List.getElem_cons_zero, List.getElem_cons_succ, List.setIfInBounds_toArray, List.set_cons_zero, List.set_cons_succ]
    refine tail_free (i := 13) (v := ?_) rfl (by kernel_rfl) (by kernel_rfl) (by kernel_rfl) (by kernel_rfl) (fun _ _ _ h => h) (Or.inl ⟨by kernel_rfl, ?_⟩) (fun _ => hF) ?_
    rotate_left
    · intro wh hSw
      go_simp
      try with_reducible rfl
    try simp only [Act.put, List.getElem_toArray, List.getElem_cons_zero, List.getElem_cons_succ, List.setIfInBounds_toArray, List.set_cons_zero, List.set_cons_succ]
    refine tail_free (i := 14) (v := ?_) rfl (by kernel_rfl) (by kernel_rfl) (by kernel_rfl) (by kernel_rfl) (fun _ _ _ h => h) (Or.inl ⟨by kernel_rfl, ?_⟩) (fun _ => hF) ?_
    rotate_left
    · intro wh hSw
      go_simp
      try with_reducible rfl
    try simp only [Act.put, List.getElem_toArray, List.getElem_cons_zero, List.getElem_cons_succ, List.setIfInBounds_toArray, List.set_cons_zero, List.set_cons_succ]
    refine tail_ready (rs := [7]) (by kernel_rfl) (by simp) (AllReadyT.cons rfl (fun K hK => ?_) AllReadyT.nil)
    clear hF
    refine step_append_rd (v := .slice none 0 0) D rfl (.const (.slice none 0 0)) (.tmp 17) slT rfl rfl (World.ownsRow_nil D lo 72 3) rfl rT.out (fun u hu => isEncT.flat_one m u (List.mem_of_mem_take hu)) (by unfold maxLen; omega) (by omega) (by omega) ?_
    intro v5 W5 o5 g5 t5 l5
    have b5 : Below D.heap.size D W5 := (Fr.of_grown g5).below (Nat.le_refl _) (fun k hk => by cases hk)
    have H5 := hidd (And.intro (H4.out.1.to b5) (H4.out.2.trans (Fr.of_below b5 G)))
    have S5 := hidd (H5.out.1.set.at_ (i := 0) rfl)
    have r5 := hidd (rC.out.below b5)
    rw [Nat.zero_add, List.nil_append] at o5
    obtain ⟨A5, c5, rfl⟩ := slice_of_own o5
    have O5 := hidd o5
    have B5 := hidd b5
    clear o5 g5 t5 l5 b5 H4 S4
    refine hK.out _ _ S5.out (fun hF => ?_)
    clear hK K
    try simp only [Act.put, List.getElem_toArray, List.getElem_cons_zero, List.getElem_cons_succ, List.setIfInBounds_toArray, List.set_cons_zero, List.set_cons_succ]
    refine tail_ready (rs := [15]) (by kernel_rfl) (by simp) (AllReadyT.cons rfl (fun K hK => ?_) AllReadyT.nil)
    clear hF
    refine step_append_rd (v := .slice A5 j c5) W5 rfl (.tmp 18) (.tmp 25) slT rfl rfl O5.out rfl r5.out (fun u hu => isEncT.flat_one m u (List.mem_of_mem_drop hu)) (by unfold maxLen; omega) (by omega) (by have := B5.out.size; omega) ?_
    intro v6 W6 o6 g6 t6 l6
    have b6 : Below D.heap.size D W6 := B5.out.trans ((Fr.of_grown g6).below (by have := B5.out.size; omega) (fun k hk => by have := (O5.out.lt k hk).1; omega))
    rw [hm'] at o6
    obtain ⟨A6, c6, rfl⟩ := slice_of_own o6
    have H6 := hidd (And.intro (H5.out.1.fr (Fr.of_grown g6) (fun k hk e => by have h1 := (O5.out.lt k e).1; have h2 := hGlo.out k hk; omega)) (HD.out.trans (Fr.of_below b6 G)))
    have S6 := hidd (H6.out.1.set.at_ (i := 0) rfl)
    have O6 := hidd o6
    clear o6 g6 t6 l6 b6 H5 S5
    refine hK.out _ _ S6.out (fun hF => ?_)
    clear hK K
    try simp only [Act.put, List.getElem_toArray, List.getElem_cons_zero, List.getElem_cons_succ, List.setIfInBounds_toArray, List.set_cons_zero, List.set_cons_succ]
    refine tail_free (i := 16) (v := ?_) rfl (by kernel_rfl) (by kernel_rfl) (by kernel_rfl) (by kernel_rfl) (fun _ _ _ h => h) (Or.inl ⟨by kernel_rfl, ?_⟩) (fun _ => hF) ?_
    rotate_left
    · intro wh hSw
      go_simp
      try with_reducible rfl
    try simp only [Act.put, List.getElem_toArray, List.getElem_cons_zero, List.getElem_cons_succ, List.setIfInBounds_toArray, List.set_cons_zero, List.set_cons_succ]
    refine tail_free (i := 17) (v := ?_) rfl (by kernel_rfl) (by kernel_rfl) (by kernel_rfl) (by kernel_rfl) (fun _ _ _ h => h) (Or.inl ⟨by kernel_rfl, ?_⟩) (fun _ => hF) ?_
    rotate_left
    · intro wh hSw
      go_simp
      try with_reducible rfl
    try simp only [Act.put, List.getElem_toArray, List.getElem_cons_zero, List.getElem_cons_succ, List.setIfInBounds_toArray, List.set_cons_zero, List.set_cons_succ]
    refine tail_ready (rs := [18]) (by kernel_rfl) (by simp) (AllReadyT.last rfl (by kernel_rfl) (fun K hK => ?_) AllReadyT.nil)
    clear hF
    have c06 := H6.out.1.set.at_ (i := 0) rfl
    have z06 := H6.out.1.set.frozen 0
    go_simp
    refine hK.out _ _ ?_
    clear hK K
    try simp only [Act.put, List.getElem_toArray, List.getElem_cons_zero, List.getElem_cons_succ, List.setIfInBounds_toArray, List.set_cons_zero, List.set_cons_succ]
    refine tail_done (by kernel_rfl) ?_ _
    have R := hidd (show ∃ G', Rg (W6.setCell ⟨M, 0, none⟩ (.slice A6 (n - 1) c6)) G' M (m.eraseIdx j) ∧ Gr G W G' (W6.setCell ⟨M, 0, none⟩ (.slice A6 (n - 1) c6)) from by
      have hfM : Fr (· = M) W6 (W6.setCell ⟨M, 0, none⟩ (.slice A6 (n - 1) c6)) := (Fr.refl (· = M) W6).setB _
      have hM : ∀ k, (Value.slice A6 (n - 1) c6).ownBlock = some k → k ≠ M := fun k hk e => by
        have h1 := (O6.out.lt k hk).1
        have h2 := hGlo.out M H6.out.1.fM
        omega
      refine ⟨fun k => G k ∨ (W.heap.size ≤ k ∧ k < W6.heap.size), ⟨A6, n - 1, c6, by rw [List.length_eraseIdx_of_lt (by rw [hlen.out]; omega), hlen.out], H6.out.1.set.set 0 _, ?_, .inl H6.out.1.fM, fun k hk => ?_, fun k hk => ?_, by omega⟩, H6.out.2.setCell (.inl H6.out.1.fM) _, fun k hk => ?_⟩
      · have ho := ownRow_fr O6.out hfM hM
        rw [isEncT.flat_take (fun _ _ => trivial) j, isEncT.flat_drop (fun _ _ => trivial) (j + 1), erase_cut] at ho
        exact own_base ho (Nat.zero_le _)
      · have h1 := O6.out.lt k hk
        exact .inr ⟨by omega, h1.2⟩
      · rcases hk with hk | hk
        · have := H6.out.1.bd k hk; simpa using this
        · simpa using hk.2
      · rcases hk with hk | hk
        · exact .inl hk
        · exact .inr ⟨hk.1, by simpa using hk.2⟩)
    clear H6 O6 S6 B5 O5
    go_wp2
    go_ret
    rw [ha.out]
    exact ⟨rfl, R.out⟩
theorem Gr.low {W : World} {G G' : Nat → Prop} {W' V : World} (h : Gr G W G' W') {q : Nat} (hq : W.heap.size ≤ q) (hf : Fr (· = q) W' V) : Gr G W G' V :=
  ⟨⟨hf.os.trans h.fr.os, hf.tape.trans h.fr.tape, hf.output.trans h.fr.output, Nat.le_trans h.fr.size hf.size, fun k hk hF => (hf.block k (by have := h.fr.size; omega) (by omega)).trans (h.fr.block k hk hF)⟩, fun k hk => by
    rcases h.mor k hk with h1 | h1
    · exact .inl h1
    · exact .inr ⟨h1.1, by have := hf.size; omega⟩⟩
set_option maxRecDepth 100000 in
set_option maxHeartbeats 4000000 in
theorem rdue_any (W : World) {G : Nat → Prop} {M : Nat} {m : List T3} (h : Rg W G M m) (now : Int) : Calls Try.prog 23 #[ptr M, .int .u64 now] W fun r W' => r = .returned (nextV (dueM m now).1) ∧ ∃ G', Rg W' G' M (dueM m now).2 ∧ Gr G W G' W' := by
  obtain ⟨q, hq⟩ : ∃ q, W.heap.size = q := ⟨_, rfl⟩
  obtain ⟨V, hV⟩ : ∃ V, W.alloc (.cells (keyV (0, 0)) 30) = V := ⟨_, rfl⟩
  have hVB : Below W.heap.size W V := hV ▸ (Below.refl _ W).alloc (Nat.le_refl _) _
  have hQ : Blk V q 30 (keyV (0, 0)) := by rw [← hV, ← hq]; exact Blk.new W 30 _
  have hGq : Hid (¬ G q) := hidd (fun e => by obtain ⟨A, n, c, h'⟩ := h; have := h'.bd q e; omega)
  have hq' := hidd hq
  have H0 := hidd (And.intro (h.to hVB) (And.intro hQ hVB))
  clear h hVB hQ
  go_enter Try.func23, Try.ntmps23
  go_wp2_with fail
  refine (rnext_any V H0.out.1).mono ?_
  rintro r V1 ⟨rfl, b1⟩
  have H1 := hidd (And.intro (H0.out.1.to b1) (H0.out.2.2.trans (b1.mono H0.out.2.2.size)))
  have q1 := H0.out.2.1.below b1 H0.out.2.1.lt
  obtain ⟨p, hp⟩ : ∃ p, V1.heap.size = p := ⟨_, rfl⟩
  have hqp : q ≠ p := by have := q1.lt; omega
  clear b1 H0 hV
  cases hb : bestM m with
  | none =>
    have hd := hidd (show dueM m now = (none, m) from by unfold dueM; rw [hb])
    have hn : nextV none = .tuple #[.agg (keyV (0, 0)), .int .u64 0, .bool false] := rfl
    rw [hn]
    have bU : Below V1.heap.size V1 (V1.alloc (.cells #[.int .u8 0, .int .u64 0] 30)) := (Below.refl _ V1).alloc (Nat.le_refl _) _
    have qU : Blk (V1.alloc (.cells #[.int .u8 0, .int .u64 0] 30)) q 30 (keyV (0, 0)) := q1.below bU q1.lt
    obtain ⟨V3, hV3⟩ : ∃ U, ((V1.alloc (.cells #[.int .u8 0, .int .u64 0] 30)).setCell ⟨q, 0, none⟩ (.int .u8 ((0 : Int), (0 : Int)).1)).setCell ⟨q, 1, none⟩ (.int .u64 ((0 : Int), (0 : Int)).2) = U := ⟨_, rfl⟩
    have ka1 := (qU).at_ (i := 0) rfl
    have kb1 := (qU).at_ (i := 1) rfl
    have kc1 := (qU).frozen 0
    have kd1 := (qU).frozen 1
    have ke1 := ((qU).set 0 (.int .u8 ((0 : Int), (0 : Int)).1)).at_ (i := 1) rfl
    have kf1 := ((qU).set 0 (.int .u8 ((0 : Int), (0 : Int)).1)).frozen 1
    have kg1 : Blk V3 q 30 (keyV ((0 : Int), (0 : Int))) := hV3 ▸ ((qU).set 0 (.int .u8 ((0 : Int), (0 : Int)).1)).set 1 (.int .u64 ((0 : Int), (0 : Int)).2)
    have kh1 := kg1.at_ (i := 0) rfl
    have ki1 := kg1.at_ (i := 1) rfl
    have kj1 : Fr (· = q) (V1.alloc (.cells #[.int .u8 0, .int .u64 0] 30)) V3 := hV3 ▸ ((Fr.refl (· = q) (V1.alloc (.cells #[.int .u8 0, .int .u64 0] 30))).setB _).setB _
    have R := hidd (show ∃ G', Rg V3 G' M m ∧ Gr G W G' V3 from ⟨G, (H1.out.1.to bU).fr kj1 (fun k hk e => hGq.out (e ▸ hk)), (Gr.same (Fr.of_below (H1.out.2.trans (bU.mono H1.out.2.size)) G)).low (Nat.le_of_eq hq'.out) kj1⟩)
    have l2 := ld30 kg1
    clear hn hb bU qU q1 kg1 kj1
    go_wp2
    refine bodyPost_ret (v := nextV none) (by simp [results, Try.results23, Act.put, asAddr, l2, nextV]) rfl ?_
    rw [hd.out]
    exact ⟨rfl, R.out⟩
  | some t =>
    have hn : nextV (some t) = .tuple #[.agg (keyV (t.1, t.2.1)), .int .u64 t.2.2, .bool true] := rfl
    rw [hn]
    have bU : Below V1.heap.size V1 (V1.alloc (.cells #[.int .u8 t.1, .int .u64 t.2.1] 30)) := (Below.refl _ V1).alloc (Nat.le_refl _) _
    have qU : Blk (V1.alloc (.cells #[.int .u8 t.1, .int .u64 t.2.1] 30)) q 30 (keyV (0, 0)) := q1.below bU q1.lt
    by_cases hlt : now < t.2.2
    · have hd := hidd (show dueM m now = (none, m) from by unfold dueM; rw [hb]; simp only; rw [if_pos hlt])
      have hgt : decide (t.2.2 > now) = true := by simpa using hlt
      obtain ⟨V3, hV3⟩ : ∃ U, ((V1.alloc (.cells #[.int .u8 t.1, .int .u64 t.2.1] 30)).setCell ⟨q, 0, none⟩ (.int .u8 ((0 : Int), (0 : Int)).1)).setCell ⟨q, 1, none⟩ (.int .u64 ((0 : Int), (0 : Int)).2) = U := ⟨_, rfl⟩
      have ka1 := (qU).at_ (i := 0) rfl
      have kb1 := (qU).at_ (i := 1) rfl
      have kc1 := (qU).frozen 0
      have kd1 := (qU).frozen 1
      have ke1 := ((qU).set 0 (.int .u8 ((0 : Int), (0 : Int)).1)).at_ (i := 1) rfl
      have kf1 := ((qU).set 0 (.int .u8 ((0 : Int), (0 : Int)).1)).frozen 1
      have kg1 : Blk V3 q 30 (keyV ((0 : Int), (0 : Int))) := hV3 ▸ ((qU).set 0 (.int .u8 ((0 : Int), (0 : Int)).1)).set 1 (.int .u64 ((0 : Int), (0 : Int)).2)
      have kh1 := kg1.at_ (i := 0) rfl
      have ki1 := kg1.at_ (i := 1) rfl
      have kj1 : Fr (· = q) (V1.alloc (.cells #[.int .u8 t.1, .int .u64 t.2.1] 30)) V3 := hV3 ▸ ((Fr.refl (· = q) (V1.alloc (.cells #[.int .u8 t.1, .int .u64 t.2.1] 30))).setB _).setB _
      have R := hidd (show ∃ G', Rg V3 G' M m ∧ Gr G W G' V3 from ⟨G, (H1.out.1.to bU).fr kj1 (fun k hk e => hGq.out (e ▸ hk)), (Gr.same (Fr.of_below (H1.out.2.trans (bU.mono H1.out.2.size)) G)).low (Nat.le_of_eq hq'.out) kj1⟩)
      have l2 := ld30 kg1
      clear hn hb bU qU q1 kg1 kj1
      go_wp2
      refine bodyPost_ret (v := nextV none) (by simp [results, Try.results23, Act.put, asAddr, l2, nextV]) rfl ?_
      rw [hd.out]
      exact ⟨rfl, R.out⟩
    · have hd := hidd (show dueM m now = (some t, (canM m (kOf t)).2) from by unfold dueM; rw [hb]; simp only; rw [if_neg hlt])
      have hgt : decide (t.2.2 > now) = false := by simpa using hlt
      have pU : Blk (V1.alloc (.cells #[.int .u8 t.1, .int .u64 t.2.1] 30)) p 30 (keyV (t.1, t.2.1)) := by rw [← hp]; exact Blk.new V1 30 _
      have pu0 := pU.at_ (i := 0) rfl
      have pu1 := pU.at_ (i := 1) rfl
      have H2 := hidd (And.intro (H1.out.1.to bU) (And.intro qU (And.intro pU (H1.out.2.trans (bU.mono H1.out.2.size)))))
      clear hn hb bU qU q1 pU
      go_wp2_with fail
      refine (rcancel_any _ H2.out.1 (kOf t)).mono ?_
      rintro r V4 ⟨rfl, G', r4, g4⟩
      have hGp : ¬ G p := fun e => by
        obtain ⟨A, n, c, h'⟩ := H1.out.1
        have := h'.bd p e; omega
      have q4 := H2.out.2.1.fr g4.fr hGq.out
      have p4 := H2.out.2.2.1.fr g4.fr hGp
      have pv0 := p4.at_ (i := 0) rfl
      have pv1 := p4.at_ (i := 1) rfl
      obtain ⟨V5, hV5⟩ : ∃ U, (V4.setCell ⟨q, 0, none⟩ (.int .u8 (t.1, t.2.1).1)).setCell ⟨q, 1, none⟩ (.int .u64 (t.1, t.2.1).2) = U := ⟨_, rfl⟩
      have ka1 := (q4).at_ (i := 0) rfl
      have kb1 := (q4).at_ (i := 1) rfl
      have kc1 := (q4).frozen 0
      have kd1 := (q4).frozen 1
      have ke1 := ((q4).set 0 (.int .u8 (t.1, t.2.1).1)).at_ (i := 1) rfl
      have kf1 := ((q4).set 0 (.int .u8 (t.1, t.2.1).1)).frozen 1
      have kg1 : Blk V5 q 30 (keyV (t.1, t.2.1)) := hV5 ▸ ((q4).set 0 (.int .u8 (t.1, t.2.1).1)).set 1 (.int .u64 (t.1, t.2.1).2)
      have kh1 := kg1.at_ (i := 0) rfl
      have ki1 := kg1.at_ (i := 1) rfl
      have kj1 : Fr (· = q) V4 V5 := hV5 ▸ ((Fr.refl (· = q) V4).setB _).setB _
      have R := hidd (show ∃ G', Rg V5 G' M (canM m (kOf t)).2 ∧ Gr G W G' V5 from by
        have hGq' : ¬ G' q := fun e => by
          rcases g4.mor q e with h1 | h1
          · exact hGq.out h1
          · have := H2.out.2.1.lt; omega
        refine ⟨G', r4.fr kj1 (fun k hk e => hGq' (e ▸ hk)), ?_⟩
        have g1 : Gr G W G (V1.alloc (.cells #[.int .u8 t.1, .int .u64 t.2.1] 30)) := Gr.same (Fr.of_below H2.out.2.2.2 G)
        have hbd : ∀ k, G k → k < W.heap.size ∨ True := fun k hk => .inr trivial
        have g2 : Gr G W G' V4 := ⟨g1.fr.trans g4.fr, fun k hk => by
          rcases g4.mor k hk with h1 | h1
          · exact .inl h1
          · exact .inr ⟨by have := g1.fr.size; omega, h1.2⟩⟩
        exact g2.low (Nat.le_of_eq hq'.out) kj1)
      have l2 := ld30 kg1
      clear r4 g4 q4 p4 kg1 kj1 pu0 pu1 H2
      go_wp2
      refine bodyPost_ret (v := nextV (some t)) (by simp [results, Try.results23, Act.put, asAddr, l2, nextV]) rfl ?_
      rw [hd.out]
      exact ⟨rfl, R.out⟩
end Go.Proofs.Ytepenfgoejhofaa
