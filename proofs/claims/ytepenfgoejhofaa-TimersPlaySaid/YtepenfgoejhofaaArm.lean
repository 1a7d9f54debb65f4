/- A timer is armed. The function walked once. No condition. -/
import Derived.Test.YtepenfgoejhofaaCancel
namespace Go.Proofs.Ytepenfgoejhofaa
open Go.ChangeShapes Go.WideShapes Go.ChangeAt Go.RowKit Go.Deep
set_option linter.unusedVariables false
set_option linter.unusedSimpArgs false

/-- One is armed. -/
def armM (m : List T3) (k : K2) (a : Int) : Int × List T3 := match fdx k m with
  | some q => (0, m.set q (k.1, k.2, a))
  | none => if m.length = 256 then (3, m) else (0, m ++ [(k.1, k.2, a)])
theorem set_same {α : Type} {l : List α} {p : Nat} {x : α} (h : l[p]? = some x) : l.set p x = l := by
  rw [← (List.getElem?_eq_some_iff.1 h).2]; exact List.set_getElem_self (lt_of_some h)
section
variable {W : World} {F : Nat → Prop} {B mb ck n c : Nat} {ms : List Mm} {A : Option Addr} {L : Xs} {m : List T3} {mv : Value}
theorem Hp.setAt (h : Hp W F B A n c mv L) {p b : Nat} {t : T3} {a : Int} (hp : L[p]? = some (b, t)) : Hp (W.setCell ⟨b, 2, none⟩ (.int .u64 a)) F B A n c mv (L.set p (b, (t.1, t.2.1, a))) ∧ Fr F W (W.setCell ⟨b, 2, none⟩ (.int .u64 a)) := by
  have hb := h.box p (b, t) hp
  have hf : Fr (· = b) W (W.setCell ⟨b, 2, none⟩ (.int .u64 a)) := (Fr.refl (· = b) W).setB _
  have hmap : (L.set p (b, (t.1, t.2.1, a))).map (fun x => ptr x.1) = L.map fun x => ptr x.1 := by
    rw [List.map_set]; exact set_same (by rw [List.getElem?_map, hp]; rfl)
  refine ⟨⟨by rw [List.length_set]; exact h.len, h.set.fr hf (blk_ne h.set hb (by decide)), ?_, fun j x hj => ?_, h.fb, h.fg, fun x hx => ?_⟩, (Fr.refl F W).setCell (.inl (h.fx (b, t) (List.mem_of_getElem? hp))) _⟩
  · rw [hmap]; exact ownRow_fr h.own hf (h.away hb (by decide))
  · by_cases e : j = p
    · subst e
      rw [List.getElem?_set_self (lt_of_some hp)] at hj
      cases hj
      exact hb.set 2 _
    · rw [List.getElem?_set_ne (by omega)] at hj
      exact (h.box j x hj).fr hf (h.bx hj hp e)
  · rcases List.mem_or_eq_of_mem_set hx with hx | rfl
    · exact h.fx x hx
    · exact h.fx (b, t) (List.mem_of_getElem? hp)
theorem Tc.armed (h : Tc W F B mb ck ms A n c L m) {k : K2} {b : Nat} {t : T3} {p q : Nat} {a : Int} (ha : 0 ≤ a ∧ a ≤ 18446744073709551615) (h4 : L[p]? = some (b, t)) (h5 : kOf t = k) (h7 : m[q]? = some t)
    {V : World} {L' : Xs} (h8 : Hp V (fun k => F k ∧ k ≠ mb) B A n c (.map (some mb)) L') (h9 : L'.Perm (L.set p (b, (k.1, k.2, a)))) (h10 : Hpf (vl L') n) (h11 : IsM V mb ms ck) (h12 : ∀ k, F k → k < V.heap.size) :
    Tc V F B mb ck ms A n c L' (m.set q (k.1, k.2, a)) := by
  refine ⟨h8, h11, h.fm, ?_, ?_, ?_, h10, h.mx, fun u hu => ?_, h12⟩
  · have e1 := h9.map fun x : Nat × T3 => (kOf x.2, x.1)
    have e2 : (L.set p (b, (k.1, k.2, a))).map (fun x => (kOf x.2, x.1)) = L.map fun x => (kOf x.2, x.1) := by
      rw [List.map_set]; exact set_same (by rw [List.getElem?_map, h4, ← h5]; rfl)
    rw [e2] at e1
    exact h.mm.trans e1.symm
  · have e1 := h9.map fun x : Nat × T3 => x.2
    rw [List.map_set] at e1
    refine e1.trans ?_
    have s1 := set_perm (l := L.map fun x => x.2) (i := p) (a := t) (b := (k.1, k.2, a)) (by rw [List.getElem?_map, h4]; rfl)
    have s2 := set_perm (l := m) (i := q) (a := t) (b := (k.1, k.2, a)) h7
    exact ((s1.symm.trans (h.pm.cons _)).trans s2).cons_inv
  · have e : (m.set q (k.1, k.2, a)).map kOf = m.map kOf := by
      rw [List.map_set]; exact set_same (by rw [List.getElem?_map, h7, ← h5]; rfl)
    rw [e]; exact h.nd
  · rcases List.mem_or_eq_of_mem_set hu with hu | rfl
    · exact h.ist u hu
    · have := h.ist t (List.mem_of_getElem? h7)
      exact ⟨by have h1 := this.k; rw [h5] at h1; exact h1, ha⟩
theorem Tc.added (h : Tc W F B mb ck ms A n c L m) {k : K2} {b : Nat} {a : Int} (hk : IsK k) (ha : 0 ≤ a ∧ a ≤ 18446744073709551615) (hno : fdx k m = none) (hn : n ≠ 256)
    {V : World} {F' : Nat → Prop} {A' : Option Addr} {c' : Nat} {L' : Xs} (h8 : Hp V (fun k => F' k ∧ k ≠ mb) B A' (n + 1) c' (.map (some mb)) L') (h9 : L'.Perm (L ++ [(b, (k.1, k.2, a))])) (h10 : Hpf (vl L') (n + 1)) (h11 : IsM V mb (ms ++ [(k, b, ck)]) (ck + 1)) (hfm : F' mb) (h12 : ∀ k, F' k → k < V.heap.size) :
    Tc V F' B mb (ck + 1) (ms ++ [(k, b, ck)]) A' (n + 1) c' L' (m ++ [(k.1, k.2, a)]) := by
  refine ⟨h8, h11, hfm, ?_, ?_, ?_, h10, by have := h.mx; omega, fun u hu => ?_, h12⟩
  · have e1 := h9.map fun x : Nat × T3 => (kOf x.2, x.1)
    rw [List.map_append] at e1
    rw [List.map_append]
    exact (h.mm.append (List.Perm.refl _)).trans e1.symm
  · have e1 := h9.map fun x : Nat × T3 => x.2
    rw [List.map_append] at e1
    exact e1.trans (h.pm.append (List.Perm.refl _))
  · rw [List.map_append, List.nodup_append]
    refine ⟨h.nd, by simp, fun x hx y hy e => ?_⟩
    simp only [List.map_cons, List.map_nil, List.mem_singleton] at hy
    obtain ⟨u, hu, rfl⟩ := List.mem_map.1 hx
    exact fdx_none hno u hu (e.trans hy)
  · rcases List.mem_append.1 hu with hu | hu
    · exact h.ist u hu
    · rw [List.mem_singleton.1 hu]; exact ⟨hk, ha⟩
end
set_option maxRecDepth 100000 in
set_option maxHeartbeats 4000000 in
theorem arm_any (W : World) {F : Nat → Prop} {B : Nat} {m : List T3} (h : Tm W F B m) (k : K2) (hk : IsK k) (a : Int) (ha : 0 ≤ a ∧ a ≤ 18446744073709551615) : Calls Try.prog 9 #[ptr B, .agg (keyV k), .int .u64 a] W fun r W' => r = .returned (.int .i64 (armM m k a).1) ∧ ∃ F', Tm W' F' B (armM m k a).2 ∧ Gr F W F' W' := by
  obtain ⟨mb, ck, ms, A, n, c, L, h⟩ := h
  obtain ⟨q, hq⟩ : ∃ q, W.heap.size = q := ⟨_, rfl⟩
  obtain ⟨V, hV⟩ : ∃ V, W.alloc (.cells (keyV k) 30) = V := ⟨_, rfl⟩
  have hVB : Below W.heap.size W V := hV ▸ (Below.refl _ W).alloc (Nat.le_refl _) _
  have hQ0 : Blk V q 30 (keyV k) := by rw [← hV, ← hq]; exact Blk.new W 30 _
  have hQ : Blk V.drew q 30 (keyV k) := hQ0
  have hFq : Hid (¬ F q) := hidd (fun e => by have := h.bd q e; omega)
  have hv0 : Tc V F B mb ck ms A n c L m := h.bel hVB
  have hv : Tc V.drew F B mb ck ms A n c L m := h.bel hVB.drew
  have c1 := hv0.hp.set.at_ (i := 1) rfl
  have S1 := hidd (And.intro (hv.hp.set.at_ (i := 1) rfl) hQ)
  have H := hidd hv
  have hB := hidd (Fr.of_below hVB.drew F)
  have hk' := hidd hk
  have hf := hv.find k
  have hmn : ∀ w r, (binOp .eql 48 (.map r) (.map none)).run Try.prog w = .ok (.bool r.isNone) w := fun w r => run_eql_map_nil w _ _ _ r Try.underlying48
  have hbdW := hidd h.bd
  clear h hv hv0 hVB hQ hk
  have hk := hk'
  rcases hf with ⟨h1, h2, h3⟩ | ⟨i, b, born, t, p, q', h1, h2, h3, h4, h5, h6, h7⟩
  · have hlk := hidd h1
    have hno := hidd (And.intro h2 h3)
    clear h1 h2 h3
    go_enter Try.func9, Try.ntmps9
    go_wp2_with fail
    refine wp_region_held_drew (S := (fun V => V.cell? ⟨B, 1, none⟩ = some (.map (some mb)) ∧ Blk V q 30 (keyV k))) (by kernel_rfl) S1.out (fun hHeld => ?_)
    generalize V.drew = D at S1 H hB hHeld ⊢
    refine wpAnyH_take (i := 0) (v := ?_) rfl (by kernel_rfl) (by kernel_rfl) (by kernel_rfl) (fun _ _ _ h => h) (Or.inl ⟨by kernel_rfl, ?_⟩) hHeld ?_
    rotate_left
    · intro wh hSw
      go_simp
      try with_reducible rfl
    try simp only [Act.put, List.getElem_toArray, List.getElem_cons_zero, List.getElem_cons_succ, List.setIfInBounds_toArray, List.set_cons_zero, List.set_cons_succ]
    refine wpAnyH_take (i := 1) (v := ?_) rfl (by kernel_rfl) (by kernel_rfl) (by kernel_rfl) (fun _ _ _ h => h) (Or.inl ⟨by kernel_rfl, ?_⟩) hHeld ?_
    rotate_left
    · intro wh hSw
      go_simp
      try with_reducible rfl
    try simp only [Act.put, List.getElem_toArray, List.getElem_cons_zero, List.getElem_cons_succ, List.setIfInBounds_toArray, List.set_cons_zero, List.set_cons_succ]
    refine wpAnyH_take (i := 2) (v := ?_) rfl (by kernel_rfl) (by kernel_rfl) (by kernel_rfl) (fun _ _ _ h => h) (Or.inl ⟨by kernel_rfl, ?_⟩) hHeld ?_
    rotate_left
    · intro wh hSw
      go_simp
      try with_reducible rfl
    try simp only [Act.put, List.getElem_toArray, List.getElem_cons_zero, List.getElem_cons_succ, List.setIfInBounds_toArray, List.set_cons_zero, List.set_cons_succ]
    refine wpAnyH_take (i := 3) (v := ?_) rfl (by kernel_rfl) (by kernel_rfl) (by kernel_rfl) (fun _ _ _ h => h) (Or.inl ⟨by kernel_rfl, ?_⟩) hHeld ?_
    rotate_left
    · intro wh hSw
      have hcell := hSw.1
      go_simp
      try with_reducible rfl
    try simp only [Act.put, List.getElem_toArray, List.getElem_cons_zero, List.getElem_cons_succ, List.setIfInBounds_toArray, List.set_cons_zero, List.set_cons_succ]
    refine wpAnyH_take (i := 4) rfl (by kernel_rfl) (by kernel_rfl) (by kernel_rfl) (fun _ _ _ h => h) (yieldsIf_load_want (by kernel_rfl) 30 _ rfl _ rfl _ (fun wh hSw => ld30 hSw.2)) hHeld ?_
    try simp only [Act.put, List.getElem_toArray, List.getElem_cons_zero, List.getElem_cons_succ, List.setIfInBounds_toArray, List.set_cons_zero, List.set_cons_succ]
    refine wpAnyH_ready (rs := [5]) (by kernel_rfl) (by simp) (AllReadyH.cons rfl (fun K hK => ?_) AllReadyH.nil)
    clear hHeld
    go_simp
    rw [run_look H.out.mp hk.out, hlk.out]
    simp only [Result.andThen_ok]
    refine hK.out _ _ S1.out (fun hHeld => ?_)
    clear hK K
    try simp only [Act.put, List.getElem_toArray, List.getElem_cons_zero, List.getElem_cons_succ, List.setIfInBounds_toArray, List.set_cons_zero, List.set_cons_succ]
    refine wpAnyH_take (i := 6) (v := ?_) rfl (by kernel_rfl) (by kernel_rfl) (by kernel_rfl) (fun _ _ _ h => h) (Or.inl ⟨by kernel_rfl, ?_⟩) hHeld ?_
    rotate_left
    · intro wh hSw
      go_simp
      try with_reducible rfl
    try simp only [Act.put, List.getElem_toArray, List.getElem_cons_zero, List.getElem_cons_succ, List.setIfInBounds_toArray, List.set_cons_zero, List.set_cons_succ]
    refine wpAnyH_take (i := 7) (v := ?_) rfl (by kernel_rfl) (by kernel_rfl) (by kernel_rfl) (fun _ _ _ h => h) (Or.inl ⟨by kernel_rfl, ?_⟩) hHeld ?_
    rotate_left
    · intro wh hSw
      go_simp
      try with_reducible rfl
    try simp only [Act.put, List.getElem_toArray, List.getElem_cons_zero, List.getElem_cons_succ, List.setIfInBounds_toArray, List.set_cons_zero, List.set_cons_succ]
    refine wpAnyH_take (i := 8) (v := ?_) rfl (by kernel_rfl) (by kernel_rfl) (by kernel_rfl) (fun _ _ _ h => h) (Or.inl ⟨by kernel_rfl, ?_⟩) hHeld ?_
    rotate_left
    · intro wh hSw
      go_simp
      try with_reducible rfl
    try simp only [Act.put, List.getElem_toArray, List.getElem_cons_zero, List.getElem_cons_succ, List.setIfInBounds_toArray, List.set_cons_zero, List.set_cons_succ]
    refine wpAnyH_take (i := 9) (v := ?_) rfl (by kernel_rfl) (by kernel_rfl) (by kernel_rfl) (fun _ _ _ h => h) (Or.inl ⟨by kernel_rfl, ?_⟩) hHeld ?_
    rotate_left
    · intro wh hSw
      go_simp
      try with_reducible rfl
    try simp only [Act.put, List.getElem_toArray, List.getElem_cons_zero, List.getElem_cons_succ, List.setIfInBounds_toArray, List.set_cons_zero, List.set_cons_succ]
    refine wpAnyH_take (i := 10) (v := ?_) rfl (by kernel_rfl) (by kernel_rfl) (by kernel_rfl) (fun _ _ _ h => h) (Or.inl ⟨by kernel_rfl, ?_⟩) hHeld ?_
    rotate_left
    · intro wh hSw
      go_simp
      try with_reducible rfl
    try simp only [Act.put, List.getElem_toArray, List.getElem_cons_zero, List.getElem_cons_succ, List.setIfInBounds_toArray, List.set_cons_zero, List.set_cons_succ]
    refine wpAnyH_done (by kernel_rfl) ?_ _
    clear hHeld
    have hl := run_len H.out.mp
    have hmn2 := H.out.mlen
    have hmn3 := hidd H.out.len
    rw [hmn2] at hl
    have c1' := H.out.hp.set.at_ (i := 1) rfl
    by_cases hn : n = 256
    · have hce : ((n : Int) == 256) = true := by rw [beq_iff_eq]; omega
      clear hmn2
      go_wp2
      go_ret
      have ha : armM m k a = (3, m) := by unfold armM; rw [hno.out.2]; simp only; rw [if_pos (hmn3.out.trans hn)]
      rw [ha]
      exact ⟨rfl, F, H.out.tm, Gr.same hB.out⟩
    · have hce : ((n : Int) == 256) = false := by rw [beq_eq_false_iff_ne]; omega
      have hQD := S1.out.2
      have cq0 := hQD.at_ (i := 0) rfl
      have cq1 := hQD.at_ (i := 1) rfl
      clear hmn2 hQD
      go_wp2_with fail
      obtain ⟨b, hbe⟩ : ∃ b, D.heap.size = b := ⟨_, rfl⟩
      obtain ⟨V3, hV3⟩ : ∃ V3, D.alloc (.cells #[.int .u8 k.1, .int .u64 k.2, .int .u64 a, .int .i64 0] 61) = V3 := ⟨_, rfl⟩
      rw [hbe, hV3]
      have b3 : Below D.heap.size D V3 := hV3 ▸ (Below.refl _ D).alloc (Nat.le_refl _) _
      have n3 : Blk V3 b 61 (boxV (k.1, k.2, a) 0) := by rw [← hV3, ← hbe]; exact Blk.new D 61 _
      have t3 : Tc V3.drew F B mb ck ms A n c L m := H.out.bel b3.drew
      have S3 := hidd (show V3.drew.cell? ⟨B, 1, none⟩ = some (.map (some mb)) ∧ Blk V3.drew q 30 (keyV k) from ⟨t3.hp.set.at_ (i := 1) rfl, S1.out.2.below b3.drew S1.out.2.lt⟩)
      have hFb : ¬ F b := fun e => by have := H.out.bd b e; omega
      have hWb : W.heap.size ≤ b := by have := hB.out.size; omega
      have H3 := hidd (show IsM V3.drew mb ms ck ∧ fnd k ms 0 = none ∧ Tc V3.drew F B mb ck ms A n c L m ∧ Blk V3.drew b 61 (boxV (k.1, k.2, a) 0) ∧ Fr F W V3.drew ∧ ¬ F b ∧ W.heap.size ≤ b from ⟨t3.mp, hno.out.1, t3, n3, (hB.out.trans (Fr.of_below b3 F)).drew, hFb, hWb⟩)
      have a1 : armM m k a = (0, m ++ [(k.1, k.2, a)]) := by unfold armM; rw [hno.out.2]; simp only; rw [if_neg (by rw [hmn3.out]; exact hn)]
      have a1' := hidd a1
      clear a1 hV3 hbe b3 n3 t3 hFb hWb c1' cq0 cq1 hl hce
      go_wp2_with fail
      refine wp_region_tail (fun V => V.cell? ⟨B, 1, none⟩ = some (.map (some mb)) ∧ Blk V q 30 (keyV k)) 6 (by kernel_rfl) S3.out (fun hF => ?_)
      generalize V3.drew = D3 at S3 H3 hF ⊢
      refine tail_free (i := 0) (v := ?_) rfl (by kernel_rfl) (by kernel_rfl) (by kernel_rfl) (by kernel_rfl) (fun _ _ _ h => h) (Or.inl ⟨by kernel_rfl, ?_⟩) (fun _ => hF) ?_
      rotate_left
      · intro wh hSw
        go_simp
        try with_reducible rfl
      try simp only [Act.put, List.getElem_toArray, List.getElem_cons_zero, List.getElem_cons_succ, List.setIfInBounds_toArray, List.set_cons_zero, List.set_cons_succ]
      refine tail_free (i := 1) (v := ?_) rfl (by kernel_rfl) (by kernel_rfl) (by kernel_rfl) (by kernel_rfl) (fun _ _ _ h => h) (Or.inl ⟨by kernel_rfl, ?_⟩) (fun _ => hF) ?_
      rotate_left
      · intro wh hSw
        go_simp
        try with_reducible rfl
      try simp only [Act.put, List.getElem_toArray, List.getElem_cons_zero, List.getElem_cons_succ, List.setIfInBounds_toArray, List.set_cons_zero, List.set_cons_succ]
      refine tail_free (i := 2) (v := ?_) rfl (by kernel_rfl) (by kernel_rfl) (by kernel_rfl) (by kernel_rfl) (fun _ _ _ h => h) (Or.inl ⟨by kernel_rfl, ?_⟩) (fun _ => hF) ?_
      rotate_left
      · intro wh hSw
        go_simp
        try with_reducible rfl
      try simp only [Act.put, List.getElem_toArray, List.getElem_cons_zero, List.getElem_cons_succ, List.setIfInBounds_toArray, List.set_cons_zero, List.set_cons_succ]
      refine tail_take (i := 3) (v := ?_) rfl (by kernel_rfl) (by kernel_rfl) (by kernel_rfl) (by kernel_rfl) (fun _ _ _ h => h) (Or.inl ⟨by kernel_rfl, ?_⟩) hF ?_
      rotate_left
      · intro wh hSw
        have hcell := hSw.1
        go_simp
        try with_reducible rfl
      try simp only [Act.put, List.getElem_toArray, List.getElem_cons_zero, List.getElem_cons_succ, List.setIfInBounds_toArray, List.set_cons_zero, List.set_cons_succ]
      refine tail_take (i := 4) rfl (by kernel_rfl) (by kernel_rfl) (by kernel_rfl) (by kernel_rfl) (fun _ _ _ h => h) (yieldsIf_load_want (by kernel_rfl) 30 _ rfl _ rfl _ (fun wh hSw => ld30 hSw.2)) hF ?_
      try simp only [Act.put, List.getElem_toArray, List.getElem_cons_zero, List.getElem_cons_succ, List.setIfInBounds_toArray, List.set_cons_zero, List.set_cons_succ]
      refine tail_free (i := 5) (v := ?_) rfl (by kernel_rfl) (by kernel_rfl) (by kernel_rfl) (by kernel_rfl) (fun _ _ _ h => h) (Or.inl ⟨by kernel_rfl, ?_⟩) (fun _ => hF) ?_
      rotate_left
      · intro wh hSw
        go_simp
        try with_reducible rfl
      try simp only [Act.put, List.getElem_toArray, List.getElem_cons_zero, List.getElem_cons_succ, List.setIfInBounds_toArray, List.set_cons_zero, List.set_cons_succ]
      refine tail_ready (rs := [6]) (by kernel_rfl) (by simp) (AllReadyT.last rfl (by kernel_rfl) (fun K hK => ?_) AllReadyT.nil)
      clear hF
      refine step_update rfl (.tmp 55) (.tmp 56) (.tmp 57) 48 rfl _ _ _ rfl rfl rfl (run_update H3.out.1 hk.out H3.out.2.1) ?_
      refine hK.out _ _ ?_
      clear hK K
      try simp only [Act.put, List.getElem_toArray, List.getElem_cons_zero, List.getElem_cons_succ, List.setIfInBounds_toArray, List.set_cons_zero, List.set_cons_succ]
      refine tail_done (by kernel_rfl) ?_ _
      have hf4 := setMap_fr D3 mb (ms ++ [(k, b, ck)]) (ck + 1)
      have hm4 := setMap_is H3.out.1 (ms ++ [(k, b, ck)]) (ck + 1)
      obtain ⟨V4, hV4⟩ : ∃ V4, setMap D3 mb (ms ++ [(k, b, ck)]) (ck + 1) = V4 := ⟨_, rfl⟩
      rw [hV4] at hf4 hm4 ⊢
      have t4 := H3.out.2.2.1
      have hbm : b ≠ mb := fun e => H3.out.2.2.2.2.2.1 (e ▸ t4.fm)
      have h4 : Hp V4 (fun x => (F x ∧ x ≠ mb) ∨ x = b) B A n c (.map (some mb)) L := (t4.hp.fr hf4 (fun x hx => hx.2)).mono (fun x hx => .inl hx)
      have hb4 : Blk V4 b 61 (boxV (k.1, k.2, a) 0) := H3.out.2.2.2.1.fr hf4 hbm
      have hne4 : ∀ x ∈ L, x.1 ≠ b := fun x hx e => H3.out.2.2.2.2.2.1 (e ▸ (t4.hp.fx x hx).1)
      have hbd4 : ∀ x, ((F x ∧ x ≠ mb) ∨ x = b) → x < V4.heap.size := fun x hx => by
        rcases hx with hx | rfl
        · have := t4.bd x hx.1; have := hf4.size; omega
        · exact hb4.lt
      have fr4 : Fr F W V4 := H3.out.2.2.2.2.1.trans (hf4.mono (fun x _ hx => hx ▸ t4.fm))
      have K4 := hidd (And.intro t4 (And.intro hm4 (And.intro fr4 (And.intro hbm (And.intro hbd4 (And.intro (show Hpf (vl L) n from t4.hh) (And.intro hb4 (And.intro hne4 h4))))))))
      have hWb := H3.out.2.2.2.2.2.2
      have hn4 : n ≤ 256 := t4.mx
      clear hf4 hm4 t4 hbm h4 hb4 hne4 hbd4 fr4 hV4 S3 H3 S1 H
      go_wp2_with fail
      refine (push_any V4 K4.out.2.2.2.2.2.2.2.2 (by omega) K4.out.2.2.2.2.2.2.1 (.inr rfl) K4.out.2.2.2.2.2.2.2.1 K4.out.2.2.2.2.1 K4.out.2.2.2.2.2.1).mono ?_
      rintro r V5 ⟨rfl, A5, c5, F5, L5, h5, p5, hp5, g5⟩
      have R := hidd (show ∃ F', Tm V5 F' B (m ++ [(k.1, k.2, a)]) ∧ Gr F W F' V5 from by
        obtain ⟨t4, hm4, fr4, hbm, hbd4, _, _, _, _⟩ := K4.out
        have hmb4 : mb < V4.heap.size := hm4.lt
        have hF5 : ∀ x, F5 x → x ≠ mb := fun x hx e => by
          rcases g5.mor x hx with (h | h) | h
          · exact h.2 e
          · exact hbm (h.symm.trans e)
          · omega
        refine ⟨fun x => F5 x ∨ x = mb, ?_, ?_, ?_⟩
        · refine (t4.added hk'.out ha hno.out.2 hn (h5.mono (fun x hx => ⟨.inl hx, hF5 x hx⟩)) p5 hp5 (hm4.fr g5.fr ?_) (.inr rfl) ?_).tm
          · rintro (h | h)
            · exact h.2 rfl
            · exact hbm h.symm
          · rintro x (hx | rfl)
            · rcases g5.mor x hx with h | h
              · have := hbd4 x h; have := g5.fr.size; omega
              · exact h.2
            · have := g5.fr.size; omega
        · have gs := g5.fr
          refine ⟨gs.os.trans fr4.os, gs.tape.trans fr4.tape, gs.output.trans fr4.output, Nat.le_trans fr4.size gs.size, fun x hx hF => ?_⟩
          refine (gs.block x (by have := fr4.size; omega) ?_).trans (fr4.block x hx hF)
          rintro (h | h)
          · exact hF h.1
          · omega
        · rintro x (hx | rfl)
          · rcases g5.mor x hx with (h | h) | h
            · exact .inl h.1
            · have := hbd4 x (.inr h); have := g5.fr.size; exact .inr (by omega)
            · have := fr4.size; exact .inr (by omega)
          · exact .inl t4.fm)
      clear h5 p5 hp5 g5 K4
      go_wp2
      go_ret
      rw [a1'.out]
      exact ⟨rfl, R.out⟩
  · have hlk := hidd h1
    have ha' : armM m k a = (0, m.set q' (k.1, k.2, a)) := by unfold armM; rw [h6]
    rw [ha']
    have hF' := hidd (And.intro h2 (And.intro h3 (And.intro h4 (And.intro h5 h7))))
    clear h1 h2 h3 h4 h5 h6 h7 ha'
    go_enter Try.func9, Try.ntmps9
    go_wp2_with fail
    refine wp_region_held_drew (S := (fun V => V.cell? ⟨B, 1, none⟩ = some (.map (some mb)) ∧ Blk V q 30 (keyV k))) (by kernel_rfl) S1.out (fun hHeld => ?_)
    generalize V.drew = D at S1 H hB hHeld ⊢
    refine wpAnyH_take (i := 0) (v := ?_) rfl (by kernel_rfl) (by kernel_rfl) (by kernel_rfl) (fun _ _ _ h => h) (Or.inl ⟨by kernel_rfl, ?_⟩) hHeld ?_
    rotate_left
    · intro wh hSw
      go_simp
      try with_reducible rfl
    try simp only [Act.put, List.getElem_toArray, List.getElem_cons_zero, List.getElem_cons_succ, List.setIfInBounds_toArray, List.set_cons_zero, List.set_cons_succ]
    refine wpAnyH_take (i := 1) (v := ?_) rfl (by kernel_rfl) (by kernel_rfl) (by kernel_rfl) (fun _ _ _ h => h) (Or.inl ⟨by kernel_rfl, ?_⟩) hHeld ?_
    rotate_left
    · intro wh hSw
      go_simp
      try with_reducible rfl
    try simp only [Act.put, List.getElem_toArray, List.getElem_cons_zero, List.getElem_cons_succ, List.setIfInBounds_toArray, List.set_cons_zero, List.set_cons_succ]
    refine wpAnyH_take (i := 2) (v := ?_) rfl (by kernel_rfl) (by kernel_rfl) (by kernel_rfl) (fun _ _ _ h => h) (Or.inl ⟨by kernel_rfl, ?_⟩) hHeld ?_
    rotate_left
    · intro wh hSw
      go_simp
      try with_reducible rfl
    try simp only [Act.put, List.getElem_toArray, List.getElem_cons_zero, List.getElem_cons_succ, List.setIfInBounds_toArray, List.set_cons_zero, List.set_cons_succ]
    refine wpAnyH_take (i := 3) (v := ?_) rfl (by kernel_rfl) (by kernel_rfl) (by kernel_rfl) (fun _ _ _ h => h) (Or.inl ⟨by kernel_rfl, ?_⟩) hHeld ?_
    rotate_left
    · intro wh hSw
      have hcell := hSw.1
      go_simp
      try with_reducible rfl
    try simp only [Act.put, List.getElem_toArray, List.getElem_cons_zero, List.getElem_cons_succ, List.setIfInBounds_toArray, List.set_cons_zero, List.set_cons_succ]
    refine wpAnyH_take (i := 4) rfl (by kernel_rfl) (by kernel_rfl) (by kernel_rfl) (fun _ _ _ h => h) (yieldsIf_load_want (by kernel_rfl) 30 _ rfl _ rfl _ (fun wh hSw => ld30 hSw.2)) hHeld ?_
    try simp only [Act.put, List.getElem_toArray, List.getElem_cons_zero, List.getElem_cons_succ, List.setIfInBounds_toArray, List.set_cons_zero, List.set_cons_succ]
    refine wpAnyH_ready (rs := [5]) (by kernel_rfl) (by simp) (AllReadyH.cons rfl (fun K hK => ?_) AllReadyH.nil)
    clear hHeld
    go_simp
    rw [run_look H.out.mp hk.out, hlk.out]
    simp only [Result.andThen_ok]
    refine hK.out _ _ S1.out (fun hHeld => ?_)
    clear hK K
    try simp only [Act.put, List.getElem_toArray, List.getElem_cons_zero, List.getElem_cons_succ, List.setIfInBounds_toArray, List.set_cons_zero, List.set_cons_succ]
    refine wpAnyH_take (i := 6) (v := ?_) rfl (by kernel_rfl) (by kernel_rfl) (by kernel_rfl) (fun _ _ _ h => h) (Or.inl ⟨by kernel_rfl, ?_⟩) hHeld ?_
    rotate_left
    · intro wh hSw
      go_simp
      try with_reducible rfl
    try simp only [Act.put, List.getElem_toArray, List.getElem_cons_zero, List.getElem_cons_succ, List.setIfInBounds_toArray, List.set_cons_zero, List.set_cons_succ]
    refine wpAnyH_take (i := 7) (v := ?_) rfl (by kernel_rfl) (by kernel_rfl) (by kernel_rfl) (fun _ _ _ h => h) (Or.inl ⟨by kernel_rfl, ?_⟩) hHeld ?_
    rotate_left
    · intro wh hSw
      go_simp
      try with_reducible rfl
    try simp only [Act.put, List.getElem_toArray, List.getElem_cons_zero, List.getElem_cons_succ, List.setIfInBounds_toArray, List.set_cons_zero, List.set_cons_succ]
    refine wpAnyH_take (i := 8) (v := ?_) rfl (by kernel_rfl) (by kernel_rfl) (by kernel_rfl) (fun _ _ _ h => h) (Or.inl ⟨by kernel_rfl, ?_⟩) hHeld ?_
    rotate_left
    · intro wh hSw
      go_simp
      try with_reducible rfl
    try simp only [Act.put, List.getElem_toArray, List.getElem_cons_zero, List.getElem_cons_succ, List.setIfInBounds_toArray, List.set_cons_zero, List.set_cons_succ]
    refine wpAnyH_take (i := 9) (v := ?_) rfl (by kernel_rfl) (by kernel_rfl) (by kernel_rfl) (fun _ _ _ h => h) (Or.inl ⟨by kernel_rfl, ?_⟩) hHeld ?_
    rotate_left
    · intro wh hSw
      go_simp
      try with_reducible rfl
    try simp only [Act.put, List.getElem_toArray, List.getElem_cons_zero, List.getElem_cons_succ, List.setIfInBounds_toArray, List.set_cons_zero, List.set_cons_succ]
    refine wpAnyH_take (i := 10) (v := ?_) rfl (by kernel_rfl) (by kernel_rfl) (by kernel_rfl) (fun _ _ _ h => h) (Or.inl ⟨by kernel_rfl, ?_⟩) hHeld ?_
    rotate_left
    · intro wh hSw
      go_simp
      try with_reducible rfl
    try simp only [Act.put, List.getElem_toArray, List.getElem_cons_zero, List.getElem_cons_succ, List.setIfInBounds_toArray, List.set_cons_zero, List.set_cons_succ]
    refine wpAnyH_done (by kernel_rfl) ?_ _
    clear hHeld
    have hbx := H.out.hp.box p (b, t) hF'.out.2.2.1
    have cb2 := hbx.at_ (i := 2) rfl
    have zb2 := hbx.frozen 2
    have hx := H.out.hp.setAt (a := a) hF'.out.2.2.1
    have e1 : (t.1, t.2.1) = k := hF'.out.2.2.2.1
    obtain ⟨D1, hD1⟩ : ∃ D1, D.setCell ⟨b, 2, none⟩ (.int .u64 a) = D1 := ⟨_, rfl⟩
    go_wp2_with fail
    have et : (t.1, t.2.1, a) = (k.1, k.2, a) := by rw [← e1]
    rw [et, hD1] at hx
    have S2 := hidd (show Blk D1.drew b 61 (boxV (k.1, k.2, a) p) from hx.1.box p _ (List.getElem?_set_self (lt_of_some hF'.out.2.2.1)))
    have hpn : p < n := by have := lt_of_some hF'.out.2.2.1; have := H.out.hp.len; omega
    have hol : Hol (vl (L.set p (b, (k.1, k.2, a)))) n p := H.out.hh.hol p hpn (fun j hj hjp => by unfold vl; rw [List.getElem?_set_ne (by omega)])
    have H2 := hidd (show Hp D1.drew (fun k => F k ∧ k ≠ mb) B A n c (.map (some mb)) (L.set p (b, (k.1, k.2, a))) ∧ n ≤ 1000000 ∧ p < n ∧ Hol (vl (L.set p (b, (k.1, k.2, a)))) n p from ⟨hx.1.bel (Below.refl _ D1).drew, by have := H.out.mx; omega, hpn, hol⟩)
    have hB2 := hidd (show Fr F W D1.drew ∧ IsM D1.drew mb ms ck ∧ (∀ k, F k → k < D1.drew.heap.size) ∧ (∀ k, F k → k < W.heap.size) from ⟨(hB.out.trans (hx.2.mono (fun k _ hk => hk.1))).drew, H.out.mp.fr hx.2.drew (fun e => e.2 rfl), fun k hk => Nat.lt_of_lt_of_le (H.out.bd k hk) hx.2.drew.size, hbdW.out⟩)
    have H0 := H
    clear hx hol hB H S1 hbx cb2 zb2 hD1 c1
    have hB := hB2
    clear hB2
    go_wp2_with fail
    refine wp_region_tail (fun V => Blk V b 61 (boxV (k.1, k.2, a) p)) 8 (by kernel_rfl) S2.out (fun hF => ?_)
    generalize D1.drew = D2 at S2 H2 hB hF ⊢
    refine tail_free (i := 0) (v := ?_) rfl (by kernel_rfl) (by kernel_rfl) (by kernel_rfl) (by kernel_rfl) (fun _ _ _ h => h) (Or.inl ⟨by kernel_rfl, ?_⟩) (fun _ => hF) ?_
    rotate_left
    · intro wh hSw
      go_simp
      try with_reducible rfl
    try simp only [Act.put, List.getElem_toArray, List.getElem_cons_zero, List.getElem_cons_succ, List.setIfInBounds_toArray, List.set_cons_zero, List.set_cons_succ]
    refine tail_free (i := 1) (v := ?_) rfl (by kernel_rfl) (by kernel_rfl) (by kernel_rfl) (by kernel_rfl) (fun _ _ _ h => h) (Or.inl ⟨by kernel_rfl, ?_⟩) (fun _ => hF) ?_
    rotate_left
    · intro wh hSw
      go_simp
      try with_reducible rfl
    try simp only [Act.put, List.getElem_toArray, List.getElem_cons_zero, List.getElem_cons_succ, List.setIfInBounds_toArray, List.set_cons_zero, List.set_cons_succ]
    refine tail_free (i := 2) (v := ?_) rfl (by kernel_rfl) (by kernel_rfl) (by kernel_rfl) (by kernel_rfl) (fun _ _ _ h => h) (Or.inl ⟨by kernel_rfl, ?_⟩) (fun _ => hF) ?_
    rotate_left
    · intro wh hSw
      go_simp
      try with_reducible rfl
    try simp only [Act.put, List.getElem_toArray, List.getElem_cons_zero, List.getElem_cons_succ, List.setIfInBounds_toArray, List.set_cons_zero, List.set_cons_succ]
    refine tail_free (i := 3) (v := ?_) rfl (by kernel_rfl) (by kernel_rfl) (by kernel_rfl) (by kernel_rfl) (fun _ _ _ h => h) (Or.inl ⟨by kernel_rfl, ?_⟩) (fun _ => hF) ?_
    rotate_left
    · intro wh hSw
      go_simp
      try with_reducible rfl
    try simp only [Act.put, List.getElem_toArray, List.getElem_cons_zero, List.getElem_cons_succ, List.setIfInBounds_toArray, List.set_cons_zero, List.set_cons_succ]
    refine tail_free (i := 4) (v := ?_) rfl (by kernel_rfl) (by kernel_rfl) (by kernel_rfl) (by kernel_rfl) (fun _ _ _ h => h) (Or.inl ⟨by kernel_rfl, ?_⟩) (fun _ => hF) ?_
    rotate_left
    · intro wh hSw
      go_simp
      try with_reducible rfl
    try simp only [Act.put, List.getElem_toArray, List.getElem_cons_zero, List.getElem_cons_succ, List.setIfInBounds_toArray, List.set_cons_zero, List.set_cons_succ]
    refine tail_free (i := 5) (v := ?_) rfl (by kernel_rfl) (by kernel_rfl) (by kernel_rfl) (by kernel_rfl) (fun _ _ _ h => h) (Or.inl ⟨by kernel_rfl, ?_⟩) (fun _ => hF) ?_
    rotate_left
    · intro wh hSw
      go_simp
      try with_reducible rfl
    try simp only [Act.put, List.getElem_toArray, List.getElem_cons_zero, List.getElem_cons_succ, List.setIfInBounds_toArray, List.set_cons_zero, List.set_cons_succ]
    refine tail_free (i := 6) (v := ?_) rfl (by kernel_rfl) (by kernel_rfl) (by kernel_rfl) (by kernel_rfl) (fun _ _ _ h => h) (Or.inl ⟨by kernel_rfl, ?_⟩) (fun _ => hF) ?_
    rotate_left
    · intro wh hSw
      go_simp
      try with_reducible rfl
    try simp only [Act.put, List.getElem_toArray, List.getElem_cons_zero, List.getElem_cons_succ, List.setIfInBounds_toArray, List.set_cons_zero, List.set_cons_succ]
    refine tail_take (i := 7) (v := ?_) rfl (by kernel_rfl) (by kernel_rfl) (by kernel_rfl) (by kernel_rfl) (fun _ _ _ h => h) (Or.inl ⟨by kernel_rfl, ?_⟩) hF ?_
    rotate_left
    · intro wh hSw
      have hcell := hSw.at_ (i := 3) rfl
      go_simp
      try with_reducible rfl
    try simp only [Act.put, List.getElem_toArray, List.getElem_cons_zero, List.getElem_cons_succ, List.setIfInBounds_toArray, List.set_cons_zero, List.set_cons_succ]
    refine tail_ready (rs := [8]) (by kernel_rfl) (by simp) (AllReadyT.last rfl (by kernel_rfl) (fun K hK => ?_) AllReadyT.nil)
    clear hF
    go_simp
    refine (fix_any D2 H2.out.1 H2.out.2.1 H2.out.2.2.1 H2.out.2.2.2).mono ?_
    rintro r V2 ⟨rfl, L2, h2, p2, hp2, f2⟩
    dsimp only
    refine hK.out _ _ ?_
    clear hK K
    try simp only [Act.put, List.getElem_toArray, List.getElem_cons_zero, List.getElem_cons_succ, List.setIfInBounds_toArray, List.set_cons_zero, List.set_cons_succ]
    refine tail_done (by kernel_rfl) ?_ _
    have R := hidd (show ∃ F', Tm V2 F' B (m.set q' (k.1, k.2, a)) ∧ Gr F W F' V2 from
      ⟨F, (H0.out.armed ha hF'.out.2.2.1 hF'.out.2.2.2.1 hF'.out.2.2.2.2 h2 p2 hp2 (hB.out.2.1.fr f2 (fun e => e.2 rfl)) (fun k hk => by have := hB.out.2.2.1 k hk; have := f2.size; omega)).tm, Gr.same (hB.out.1.trans (f2.mono (fun k _ hk => hk.1)))⟩)
    clear h2 p2 hp2 f2 H2 S2
    go_wp2
    go_ret
    exact ⟨rfl, R.out⟩
end Go.Proofs.Ytepenfgoejhofaa
