/- The document's set: a list; where a timer is; its time; the first one. Each function walked once. No condition. -/
import Derived.Test.YtepenfgoejhofaaBase
namespace Go.Proofs.Ytepenfgoejhofaa
open Go.ChangeShapes Go.WideShapes Go.ChangeAt Go.RowKit Go.Deep
set_option linter.unusedVariables false
set_option linter.unusedSimpArgs false

abbrev encT (t : T3) : List Value := [.int .u8 t.1, .int .u64 t.2.1, .int .u64 t.2.2]
abbrev arV (t : T3) : Array Value := #[.int .u8 t.1, .int .u64 t.2.1, .int .u64 t.2.2]
theorem isEncT : Enc encT 3 (fun _ => True) where
  len := fun a h => rfl
  one := fun a v hv => by
    simp only [encT, List.mem_cons, List.not_mem_nil, or_false] at hv
    rcases hv with rfl | rfl | rfl <;> rfl
theorem slT : SlTy Try.prog 40 72 3 24 := .mk_ (z := .agg #[.int .u8 0, .int .u64 0, .int .u64 0]) Try.underlying40 (by kernel_rfl) rfl (by omega)
theorem info72 : (Try.prog.info? 72).map (·.size) = some 3 := by kernel_rfl
theorem ld72 {W : World} {b : Nat} {x : T3} (h : Blk W b 72 (arV x)) : (loadVar 72 ⟨b, 0, none⟩).run Try.prog W = .ok (.agg (arV x)) W := h.load Try.underlying72 rfl info72
theorem row72 {W : World} {g o : Nat} {x : T3} (h : W.rangeAt g o (encT x)) : (loadVar 72 ⟨g, o, none⟩).run Try.prog W = .ok (.agg (arV x)) W :=
  run_loadVar_mid (P := Try.prog) W g o 72 (encT x) _ h Try.underlying72 rfl info72
structure Rc (W : World) (G : Nat → Prop) (M : Nat) (A : Option Addr) (n c : Nat) (m : List T3) : Prop where
  len : m.length = n
  set : Blk W M 42 #[.slice A n c]
  own : W.ownsRow 0 72 3 (.slice A n c) n (flatOf encT m)
  fM : G M
  fg : ∀ k, (Value.slice A n c).ownBlock = some k → G k
  bd : ∀ k, G k → k < W.heap.size
  mx : n ≤ 256
def Rg (W : World) (G : Nat → Prop) (M : Nat) (m : List T3) : Prop := ∃ A n c, Rc W G M A n c m
section
variable {W W' : World} {G S : Nat → Prop} {M n c : Nat} {A : Option Addr} {m : List T3}
theorem Rc.fr (h : Rc W G M A n c m) (hf : Fr S W W') (hd : ∀ k, G k → ¬ S k) : Rc W' G M A n c m :=
  ⟨h.len, h.set.fr hf (hd _ h.fM), ownRow_fr h.own hf (fun k hk => hd k (h.fg k hk)), h.fM, h.fg, fun k hk => by have := h.bd k hk; have := hf.size; omega, h.mx⟩
theorem Rc.to (h : Rc W G M A n c m) (hb : Below W.heap.size W W') : Rc W' G M A n c m := h.fr (S := fun _ => False) (Fr.of_below hb _) (fun _ _ e => e)
theorem Rg.fr (h : Rg W G M m) (hf : Fr S W W') (hd : ∀ k, G k → ¬ S k) : Rg W' G M m := by
  obtain ⟨A, n, c, h⟩ := h
  exact ⟨A, n, c, h.fr hf hd⟩
theorem Rg.to (h : Rg W G M m) (hb : Below W.heap.size W W') : Rg W' G M m := h.fr (S := fun _ => False) (Fr.of_below hb _) (fun _ _ e => e)
theorem Rc.at_ (h : Rc W G M A n c m) {j : Nat} {t : T3} (hj : m[j]? = some t) : ∃ g, A = some ⟨g, 0, none⟩ ∧ G g ∧ j < n ∧ n ≤ c ∧ c ≤ maxLen ∧ W.rangeAt g (j * 3) (encT t) := by
  have hl := lt_of_some hj
  have ho := h.own
  rcases ho.2 with ⟨h', hn⟩ | ⟨g, cap', cur, h', hb, hg, hnc, hcm, hcs, htake⟩
  · have := h.len; omega
  · injection h' with hA hn' hc'
    subst hA hc'
    exact ⟨g, rfl, h.fg g rfl, by have := h.len; omega, hnc, hcm, own_range ho isEncT h.len (fun _ _ => trivial) hj⟩
theorem key_range {W : World} {g o : Nat} {t : T3} (h : W.rangeAt g o (encT t)) : (loadVar 30 ⟨g, o, none⟩).run Try.prog W = .ok (.agg (keyV (kOf t))) W := ldKeyAt (by simpa using h 0 _ rfl) (h 1 _ rfl)
end
theorem fdx_first {k : K2} : ∀ {m : List T3} {i : Nat} {t : T3}, m[i]? = some t → kOf t = k → (∀ j u, j < i → m[j]? = some u → kOf u ≠ k) → fdx k m = some i
  | [], i, t, h, _, _ => by simp at h
  | x :: m, 0, t, h, hk, _ => by simp at h; subst h; unfold fdx; rw [if_pos hk]
  | x :: m, i + 1, t, h, hk, hn => by
    unfold fdx
    rw [if_neg (hn 0 x (by omega) rfl), fdx_first (m := m) (i := i) (by simpa using h) hk (fun j u hj hu => hn (j + 1) u (by omega) (by simpa using hu))]
    rfl
def posI (m : List T3) (k : K2) : Int := match fdx k m with
  | some q => (q : Int)
  | none => -1
set_option maxRecDepth 100000 in
set_option maxHeartbeats 2000000 in
theorem where_ref (W : World) {G : Nat → Prop} {M : Nat} {m : List T3} (h : Rg W G M m) (k : K2) : Calls Try.prog 29 #[ptr M, .agg (keyV k)] W fun r W' => r = .returned (.int .i64 (posI m k)) ∧ Below W.heap.size W W' := by
  obtain ⟨A, n, c, h⟩ := h
  obtain ⟨q, hq⟩ : ∃ q, W.heap.size = q := ⟨_, rfl⟩
  obtain ⟨V, hV⟩ : ∃ V, W.alloc (.cells (keyV k) 30) = V := ⟨_, rfl⟩
  have hVB : Below W.heap.size W V := hV ▸ (Below.refl _ W).alloc (Nat.le_refl _) _
  have hQ : Blk V q 30 (keyV k) := by rw [← hV, ← hq]; exact Blk.new W 30 _
  have hmx := h.mx
  have hlen := hidd h.len
  have H0 := hidd h
  have K0 := hidd (And.intro hVB hQ)
  have e1 : ∀ (i : Nat) (t : T3), m[i]? = some t → kOf t = k → (∀ (j : Nat) (u : T3), j < i → m[j]? = some u → kOf u ≠ k) → (i : Int) = posI m k := fun i t h1 h2 h3 => by unfold posI; rw [fdx_first h1 h2 h3]
  have e2 : (∀ t ∈ m, kOf t ≠ k) → (-1 : Int) = posI m k := fun h1 => by unfold posI; rw [fdx_no h1]
  generalize posI m k = P at e1 e2 ⊢
  have E1 := hidd e1
  have E2 := hidd e2
  clear h hVB hQ e1 e2
  go_enter Try.func29, Try.ntmps29
  go_wp2_with fail
  go_loopw [5] (fun iv wr => ∃ j : Nat, j ≤ n ∧ iv = .int .i64 j ∧ Hid (Below W.heap.size W wr ∧ Blk wr q 30 (keyV k) ∧ ∀ (i : Nat) (u : T3), i < j → m[i]? = some u → kOf u ≠ k)) (fun iv _ => n - (intOf iv).toNat)
  case atStart => exact ⟨0, Nat.zero_le _, rfl, hidd ⟨K0.out.1, K0.out.2, fun i u hi => by omega⟩⟩
  case round =>
    clear K0
    obtain ⟨j, hj, rfl, R⟩ := hrel
    have c0 := (H0.out.to R.out.1).set.at_ (i := 0) rfl
    by_cases hjn : j < n
    · have hd : decide ((j : Int) < (n : Int)) = true := by simp; omega
      have hjz : (j : Int) < (n : Int) := by omega
      obtain ⟨t, ht⟩ : ∃ t, m[j]? = some t := ⟨_, List.getElem?_eq_getElem (by rw [hlen.out]; omega)⟩
      obtain ⟨g, rfl, _, _, hnc, hcm, hr⟩ := (H0.out.to R.out.1).at_ ht
      have S1 := hidd (show wr.drew.cell? ⟨M, 0, none⟩ = some (.slice (some ⟨g, 0, none⟩) n c) ∧ (loadVar 30 ⟨g, j * 3, none⟩).run Try.prog wr.drew = .ok (.agg (keyV (kOf t))) wr.drew ∧ Blk wr.drew q 30 (keyV k) from ⟨c0, key_range (W := wr.drew) hr, R.out.2.1⟩)
      have hB := hidd (show Below W.heap.size W wr.drew ∧ Blk wr.drew q 30 (keyV k) from ⟨R.out.1.drew, R.out.2.1⟩)
      have hno := hidd R.out.2.2
      obtain ⟨e, he⟩ : ∃ e, (kOf t == k) = e := ⟨_, rfl⟩
      have hqe : ∀ V, (Op.equalIn 10000 30 (.agg (keyV (kOf t))) (.agg (keyV k))).run Try.prog V = .ok e V := fun V => he ▸ eql30 V (kOf t) k
      have hgd := guard30
      have he' := hidd he
      have ht' := hidd ht
      clear he ht hr R
      cases e with
      | true =>
        go_wp2_with fail
        refine wp_region_held_drew (S := (fun V => V.cell? ⟨M, 0, none⟩ = some (.slice (some ⟨g, 0, none⟩) n c) ∧ (loadVar 30 ⟨g, j * 3, none⟩).run Try.prog V = .ok (.agg (keyV (kOf t))) V ∧ Blk V q 30 (keyV k))) (by kernel_rfl) S1.out (fun hHeld => ?_)
        generalize wr.drew = D at S1 hB hHeld ⊢
        refine wpAnyH_take (i := 0) (v := ?_) rfl (by kernel_rfl) (by kernel_rfl) (by kernel_rfl) (fun _ _ _ h => h) (Or.inl ⟨by kernel_rfl, ?_⟩) hHeld ?_
        rotate_left
        · intro wh hSw
          go_simp
          try with_reducible rfl
        try simp only [Act.put, List.getElem_toArray, List.getElem_cons_zero, List.getElem_cons_succ, List.setIfInBounds_toArray, List.set_cons_zero, List.set_cons_succ]
        refine wpAnyH_take (i := 1) (v := ?_) rfl (by kernel_rfl) (by kernel_rfl) (by kernel_rfl) (fun _ _ _ h => h) (Or.inl ⟨by kernel_rfl, ?_⟩) hHeld ?_
        rotate_left
        · intro wh hSw
          go_simp
          try with_reducible rfl
        try simp only [Act.put, List.getElem_toArray, List.getElem_cons_zero, List.getElem_cons_succ, List.setIfInBounds_toArray, List.set_cons_zero, List.set_cons_succ]
        refine wpAnyH_take (i := 2) (v := ?_) rfl (by kernel_rfl) (by kernel_rfl) (by kernel_rfl) (fun _ _ _ h => h) (Or.inl ⟨by kernel_rfl, ?_⟩) hHeld ?_
        rotate_left
        · intro wh hSw
          go_simp
          try with_reducible rfl
        try simp only [Act.put, List.getElem_toArray, List.getElem_cons_zero, List.getElem_cons_succ, List.setIfInBounds_toArray, List.set_cons_zero, List.set_cons_succ]
        refine wpAnyH_take (i := 3) (v := ?_) rfl (by kernel_rfl) (by kernel_rfl) (by kernel_rfl) (fun _ _ _ h => h) (Or.inl ⟨by kernel_rfl, ?_⟩) hHeld ?_
        rotate_left
        · intro wh hSw
          have hcell := hSw.1
          go_simp
          try with_reducible rfl
        try simp only [Act.put, List.getElem_toArray, List.getElem_cons_zero, List.getElem_cons_succ, List.setIfInBounds_toArray, List.set_cons_zero, List.set_cons_succ]
        refine wpAnyH_take (i := 4) (v := ?_) rfl (by kernel_rfl) (by kernel_rfl) (by kernel_rfl) (fun _ _ _ h => h) (Or.inl ⟨by kernel_rfl, ?_⟩) hHeld ?_
        rotate_left
        · intro wh hSw
          go_simp
          try with_reducible rfl
        try simp only [Act.put, List.getElem_toArray, List.getElem_cons_zero, List.getElem_cons_succ, List.setIfInBounds_toArray, List.set_cons_zero, List.set_cons_succ]
        refine wpAnyH_take (i := 5) (v := ?_) rfl (by kernel_rfl) (by kernel_rfl) (by kernel_rfl) (fun _ _ _ h => h) (Or.inl ⟨by kernel_rfl, ?_⟩) hHeld ?_
        rotate_left
        · intro wh hSw
          go_simp
          try with_reducible rfl
        try simp only [Act.put, List.getElem_toArray, List.getElem_cons_zero, List.getElem_cons_succ, List.setIfInBounds_toArray, List.set_cons_zero, List.set_cons_succ]
        refine wpAnyH_take (i := 6) (v := ?_) rfl (by kernel_rfl) (by kernel_rfl) (by kernel_rfl) (fun _ _ _ h => h) (Or.inl ⟨by kernel_rfl, ?_⟩) hHeld ?_
        rotate_left
        · intro wh hSw
          go_simp
          try with_reducible rfl
        try simp only [Act.put, List.getElem_toArray, List.getElem_cons_zero, List.getElem_cons_succ, List.setIfInBounds_toArray, List.set_cons_zero, List.set_cons_succ]
        refine wpAnyH_take (i := 7) rfl (by kernel_rfl) (by kernel_rfl) (by kernel_rfl) (fun _ _ _ h => h) (yieldsIf_load_want (by kernel_rfl) 30 _ rfl _ rfl _ (fun wh hSw => hSw.2.1)) hHeld ?_
        try simp only [Act.put, List.getElem_toArray, List.getElem_cons_zero, List.getElem_cons_succ, List.setIfInBounds_toArray, List.set_cons_zero, List.set_cons_succ]
        refine wpAnyH_take (i := 8) rfl (by kernel_rfl) (by kernel_rfl) (by kernel_rfl) (fun _ _ _ h => h) (yieldsIf_load_want (by kernel_rfl) 30 _ rfl _ rfl _ (fun wh hSw => ld30 hSw.2.2)) hHeld ?_
        try simp only [Act.put, List.getElem_toArray, List.getElem_cons_zero, List.getElem_cons_succ, List.setIfInBounds_toArray, List.set_cons_zero, List.set_cons_succ]
        refine wpAnyH_take (i := 9) (v := ?_) rfl (by kernel_rfl) (by kernel_rfl) (by kernel_rfl) (fun _ _ _ h => h) (Or.inl ⟨by kernel_rfl, ?_⟩) hHeld ?_
        rotate_left
        · intro wh hSw
          go_simp
          try with_reducible rfl
        try simp only [Act.put, List.getElem_toArray, List.getElem_cons_zero, List.getElem_cons_succ, List.setIfInBounds_toArray, List.set_cons_zero, List.set_cons_succ]
        refine wpAnyH_done (by kernel_rfl) ?_ _
        clear hHeld
        go_wp2
        go_ret
        exact ⟨congrArg (fun z => Ending.returned (.int .i64 z)) (E1.out j t ht'.out (beq_iff_eq.1 he'.out) hno.out), hB.out.1⟩
      | false =>
        go_wp2_with fail
        refine wp_region_held_drew (S := (fun V => V.cell? ⟨M, 0, none⟩ = some (.slice (some ⟨g, 0, none⟩) n c) ∧ (loadVar 30 ⟨g, j * 3, none⟩).run Try.prog V = .ok (.agg (keyV (kOf t))) V ∧ Blk V q 30 (keyV k))) (by kernel_rfl) S1.out (fun hHeld => ?_)
        generalize wr.drew = D at S1 hB hHeld ⊢
        refine wpAnyH_take (i := 0) (v := ?_) rfl (by kernel_rfl) (by kernel_rfl) (by kernel_rfl) (fun _ _ _ h => h) (Or.inl ⟨by kernel_rfl, ?_⟩) hHeld ?_
        rotate_left
        · intro wh hSw
          go_simp
          try with_reducible rfl
        try simp only [Act.put, List.getElem_toArray, List.getElem_cons_zero, List.getElem_cons_succ, List.setIfInBounds_toArray, List.set_cons_zero, List.set_cons_succ]
        refine wpAnyH_take (i := 1) (v := ?_) rfl (by kernel_rfl) (by kernel_rfl) (by kernel_rfl) (fun _ _ _ h => h) (Or.inl ⟨by kernel_rfl, ?_⟩) hHeld ?_
        rotate_left
        · intro wh hSw
          go_simp
          try with_reducible rfl
        try simp only [Act.put, List.getElem_toArray, List.getElem_cons_zero, List.getElem_cons_succ, List.setIfInBounds_toArray, List.set_cons_zero, List.set_cons_succ]
        refine wpAnyH_take (i := 2) (v := ?_) rfl (by kernel_rfl) (by kernel_rfl) (by kernel_rfl) (fun _ _ _ h => h) (Or.inl ⟨by kernel_rfl, ?_⟩) hHeld ?_
        rotate_left
        · intro wh hSw
          go_simp
          try with_reducible rfl
        try simp only [Act.put, List.getElem_toArray, List.getElem_cons_zero, List.getElem_cons_succ, List.setIfInBounds_toArray, List.set_cons_zero, List.set_cons_succ]
        refine wpAnyH_take (i := 3) (v := ?_) rfl (by kernel_rfl) (by kernel_rfl) (by kernel_rfl) (fun _ _ _ h => h) (Or.inl ⟨by kernel_rfl, ?_⟩) hHeld ?_
        rotate_left
        · intro wh hSw
          have hcell := hSw.1
          go_simp
          try with_reducible rfl
        try simp only [Act.put, List.getElem_toArray, List.getElem_cons_zero, List.getElem_cons_succ, List.setIfInBounds_toArray, List.set_cons_zero, List.set_cons_succ]
        refine wpAnyH_take (i := 4) (v := ?_) rfl (by kernel_rfl) (by kernel_rfl) (by kernel_rfl) (fun _ _ _ h => h) (Or.inl ⟨by kernel_rfl, ?_⟩) hHeld ?_
        rotate_left
        · intro wh hSw
          go_simp
          try with_reducible rfl
        try simp only [Act.put, List.getElem_toArray, List.getElem_cons_zero, List.getElem_cons_succ, List.setIfInBounds_toArray, List.set_cons_zero, List.set_cons_succ]
        refine wpAnyH_take (i := 5) (v := ?_) rfl (by kernel_rfl) (by kernel_rfl) (by kernel_rfl) (fun _ _ _ h => h) (Or.inl ⟨by kernel_rfl, ?_⟩) hHeld ?_
        rotate_left
        · intro wh hSw
          go_simp
          try with_reducible rfl
        try simp only [Act.put, List.getElem_toArray, List.getElem_cons_zero, List.getElem_cons_succ, List.setIfInBounds_toArray, List.set_cons_zero, List.set_cons_succ]
        refine wpAnyH_take (i := 6) (v := ?_) rfl (by kernel_rfl) (by kernel_rfl) (by kernel_rfl) (fun _ _ _ h => h) (Or.inl ⟨by kernel_rfl, ?_⟩) hHeld ?_
        rotate_left
        · intro wh hSw
          go_simp
          try with_reducible rfl
        try simp only [Act.put, List.getElem_toArray, List.getElem_cons_zero, List.getElem_cons_succ, List.setIfInBounds_toArray, List.set_cons_zero, List.set_cons_succ]
        refine wpAnyH_take (i := 7) rfl (by kernel_rfl) (by kernel_rfl) (by kernel_rfl) (fun _ _ _ h => h) (yieldsIf_load_want (by kernel_rfl) 30 _ rfl _ rfl _ (fun wh hSw => hSw.2.1)) hHeld ?_
        try simp only [Act.put, List.getElem_toArray, List.getElem_cons_zero, List.getElem_cons_succ, List.setIfInBounds_toArray, List.set_cons_zero, List.set_cons_succ]
        refine wpAnyH_take (i := 8) rfl (by kernel_rfl) (by kernel_rfl) (by kernel_rfl) (fun _ _ _ h => h) (yieldsIf_load_want (by kernel_rfl) 30 _ rfl _ rfl _ (fun wh hSw => ld30 hSw.2.2)) hHeld ?_
        try simp only [Act.put, List.getElem_toArray, List.getElem_cons_zero, List.getElem_cons_succ, List.setIfInBounds_toArray, List.set_cons_zero, List.set_cons_succ]
        refine wpAnyH_take (i := 9) (v := ?_) rfl (by kernel_rfl) (by kernel_rfl) (by kernel_rfl) (fun _ _ _ h => h) (Or.inl ⟨by kernel_rfl, ?_⟩) hHeld ?_
        rotate_left
        · intro wh hSw
          go_simp
          try with_reducible rfl
        try simp only [Act.put, List.getElem_toArray, List.getElem_cons_zero, List.getElem_cons_succ, List.setIfInBounds_toArray, List.set_cons_zero, List.set_cons_succ]
        refine wpAnyH_done (by kernel_rfl) ?_ _
        clear hHeld
        go_wp2
        go_roundw
        case rel => exact ⟨j + 1, by omega, by go_num, hidd ⟨hB.out.1, hB.out.2, fun i u hi hu => by
          by_cases e : i = j
          · subst e; rw [ht'.out] at hu; cases hu; exact beq_eq_false_iff_ne.1 he'.out
          · exact hno.out i u (by omega) hu⟩⟩
        case measure => simp [intOf]; omega
    · have hjn' : j = n := by omega
      subst hjn'
      go_wp2
      go_ret
      refine ⟨congrArg (fun z => Ending.returned (.int .i64 z)) (E2.out fun t ht => ?_), R.out.1⟩
      obtain ⟨i, hi⟩ := List.mem_iff_getElem?.1 ht
      exact R.out.2.2 i t (by have := lt_of_some hi; rw [hlen.out] at this; exact this) hi
theorem rahead_any (W : World) (a b : T3) : Calls Try.prog 30 #[.agg (arV a), .agg (arV b)] W fun r W' => r = .returned (.bool (bef a b)) ∧ Below W.heap.size W W' := by
  obtain ⟨q, hq⟩ : ∃ q, W.heap.size = q := ⟨_, rfl⟩
  obtain ⟨V, hV⟩ : ∃ U, (W.alloc (.cells (arV a) 72)).alloc (.cells (arV b) 72) = U := ⟨_, rfl⟩
  have b1 := Blk.new W 72 (arV a)
  have b2 := Blk.new (W.alloc (.cells (arV a) 72)) 72 (arV b)
  simp only [nblk_alloc, hq] at b1 b2
  have q1 : Blk V q 72 (arV a) := hV ▸ b1.alloc _
  have q2 : Blk V (q + 1) 72 (arV b) := hV ▸ b2
  have hB : Hid (Below W.heap.size W V) := hidd (hV ▸ ((Below.refl _ W).alloc (Nat.le_refl _) _).alloc (by simp) _)
  have c1 := q1.at_ (i := 0) rfl
  have c2 := q1.at_ (i := 1) rfl
  have c3 := q1.at_ (i := 2) rfl
  have d1 := q2.at_ (i := 0) rfl
  have d2 := q2.at_ (i := 1) rfl
  have d3 := q2.at_ (i := 2) rfl
  have hb := hidd (bef_iff a b)
  clear b1 b2 q1 q2
  go_enter Try.func30, Try.ntmps30
  go_wp2
  · rename_i h
    rw [bne_iff_ne] at h
    go_ret
    refine ⟨congrArg (fun z => Ending.returned (.bool z)) ?_, hB.out⟩
    rw [Bool.eq_iff_iff, hb.out]; simp only [decide_eq_true_eq]; omega
  · have h := ‹(a.1 != b.1) = true›
    have h1 := ‹(a.2.2 != b.2.2) = false›
    rw [bne_iff_ne] at h
    rw [bne_eq_false_iff_eq] at h1
    go_ret
    refine ⟨congrArg (fun z => Ending.returned (.bool z)) ?_, hB.out⟩
    rw [Bool.eq_iff_iff, hb.out]; simp only [decide_eq_true_eq]; omega
  · have h := ‹(a.1 != b.1) = false›
    have h1 := ‹(a.2.2 != b.2.2) = false›
    rw [bne_eq_false_iff_eq] at h1 h
    go_ret
    refine ⟨congrArg (fun z => Ending.returned (.bool z)) ?_, hB.out⟩
    rw [Bool.eq_iff_iff, hb.out]; simp only [decide_eq_true_eq]; omega
theorem rat_any (W : World) {G : Nat → Prop} {M : Nat} {m : List T3} (h : Rg W G M m) (k : K2) : Calls Try.prog 25 #[ptr M, .agg (keyV k)] W fun r W' => r = .returned (atV m k) ∧ Below W.heap.size W W' := by
  obtain ⟨q, hq⟩ : ∃ q, W.heap.size = q := ⟨_, rfl⟩
  obtain ⟨V, hV⟩ : ∃ V, W.alloc (.cells (keyV k) 30) = V := ⟨_, rfl⟩
  have hVB : Below W.heap.size W V := hV ▸ (Below.refl _ W).alloc (Nat.le_refl _) _
  have hQ : Blk V q 30 (keyV k) := by rw [← hV, ← hq]; exact Blk.new W 30 _
  have cq0 := hQ.at_ (i := 0) rfl
  have cq1 := hQ.at_ (i := 1) rfl
  have H0 := hidd (And.intro h hVB)
  clear h hQ hVB
  go_enter Try.func25, Try.ntmps25
  go_wp2_with fail
  refine (where_ref V (H0.out.1.to H0.out.2) k).mono ?_
  rintro r V1 ⟨rfl, b1⟩
  have H1 := hidd (And.intro (H0.out.1.to (H0.out.2.trans (b1.mono H0.out.2.size))) (H0.out.2.trans (b1.mono H0.out.2.size)))
  clear b1 H0 cq0 cq1 hV
  cases hf : fdx k m with
  | none =>
    have hp : posI m k = -1 := by unfold posI; rw [hf]
    have ha : atV m k = .tuple #[.int .u64 0, .bool false] := by unfold atV; rw [hf]
    have ha' := hidd ha
    rw [hp]
    clear hp ha hf
    go_wp2
    refine bodyPost_ret (v := .tuple #[.int .u64 0, .bool false]) (by simp [results, Try.results25, Act.put]) rfl ?_
    rw [ha'.out]
    exact ⟨rfl, H1.out.2⟩
  | some i =>
    obtain ⟨t, ht, hk⟩ := fdx_some hf
    have hp : posI m k = (i : Int) := by unfold posI; rw [hf]
    have ha : atV m k = .tuple #[.int .u64 t.2.2, .bool true] := by unfold atV; rw [hf]; simp [ht]
    have ha' := hidd ha
    obtain ⟨A, n, c, h⟩ := H1.out.1
    obtain ⟨g, rfl, _, hin, hnc, hcm, hr⟩ := h.at_ ht
    have c0 := h.set.at_ (i := 0) rfl
    have c2 : V1.cell? ⟨g, i * 3 + 2, none⟩ = some (.int .u64 t.2.2) := hr 2 _ rfl
    have hiz : (i : Int) < (n : Int) := by omega
    have hi0 : decide ((i : Int) < 0) = false := by simp
    rw [hp]
    clear hp ha hf h hr ht
    go_wp2
    refine bodyPost_ret (v := .tuple #[.int .u64 t.2.2, .bool true]) (by simp [results, Try.results25, Act.put]) rfl ?_
    rw [ha'.out]
    exact ⟨rfl, H1.out.2⟩
end Go.Proofs.Ytepenfgoejhofaa
