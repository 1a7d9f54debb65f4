/- What a set says of a name: where it is; its time. The function walked once. No condition. -/
import Derived.Test.YtepenfgoejhofaaNext
namespace Go.Proofs.Ytepenfgoejhofaa
open Go.ChangeShapes Go.WideShapes Go.ChangeAt Go.RowKit Go.Deep
set_option linter.unusedVariables false
set_option linter.unusedSimpArgs false

/-- Where a timer stands in a list. -/
def fdx (k : K2) : List T3 → Option Nat
  | [] => none
  | t :: m => if kOf t = k then some 0 else (fdx k m).map (· + 1)
theorem fdx_none {k : K2} : ∀ {m : List T3}, fdx k m = none → ∀ t ∈ m, kOf t ≠ k
  | [], _, t, ht => by simp at ht
  | x :: m, h, t, ht => by
    unfold fdx at h
    split at h
    · cases h
    · rename_i hx
      rcases List.mem_cons.1 ht with rfl | ht
      · exact hx
      · exact fdx_none (by simpa using h) t ht
theorem fdx_no {k : K2} : ∀ {m : List T3}, (∀ t ∈ m, kOf t ≠ k) → fdx k m = none
  | [], _ => rfl
  | x :: m, h => by
    unfold fdx
    rw [if_neg (h x (by simp)), fdx_no (fun t ht => h t (by simp [ht]))]; rfl
theorem fdx_some {k : K2} : ∀ {m : List T3} {q : Nat}, fdx k m = some q → ∃ t, m[q]? = some t ∧ kOf t = k
  | [], q, h => by simp [fdx] at h
  | x :: m, q, h => by
    unfold fdx at h
    split at h
    · rename_i hx
      cases h
      exact ⟨x, rfl, hx⟩
    · simp only [Option.map_eq_some_iff] at h
      obtain ⟨q', h', rfl⟩ := h
      obtain ⟨t, h1, h2⟩ := fdx_some h'
      exact ⟨t, by simpa using h1, h2⟩
theorem nd_inj {m : List T3} (hn : (m.map kOf).Nodup) {i j : Nat} {a b : T3} (ha : m[i]? = some a) (hb : m[j]? = some b) (h : kOf a = kOf b) : i = j := by
  have h1 : (m.map kOf)[i]? = some (kOf a) := by rw [List.getElem?_map, ha]; rfl
  have h2 : (m.map kOf)[j]? = some (kOf a) := by rw [List.getElem?_map, hb, h]; rfl
  exact (List.getElem?_inj (lt_of_some h1) hn).1 (h1.trans h2.symm)
theorem fdx_at {k : K2} {m : List T3} (hn : (m.map kOf).Nodup) {q : Nat} {t : T3} (h : m[q]? = some t) (hk : kOf t = k) : fdx k m = some q := by
  cases hf : fdx k m with
  | none => exact absurd hk (fdx_none hf t (List.mem_of_getElem? h))
  | some q' =>
    obtain ⟨t', h1, h2⟩ := fdx_some hf
    rw [nd_inj hn h1 h (h2.trans hk.symm)]
section
variable {W : World} {F : Nat → Prop} {B mb ck n c : Nat} {ms : List Mm} {A : Option Addr} {L : Xs} {m : List T3}
/-- A name is looked up. -/
theorem Tc.find (h : Tc W F B mb ck ms A n c L m) (k : K2) :
    (look k ms = (.pointer none, false) ∧ fnd k ms 0 = none ∧ fdx k m = none) ∨
    ∃ (i b born : Nat) (t : T3) (p q : Nat), look k ms = (ptr b, true) ∧ fnd k ms 0 = some (i, ptr b) ∧ ms[i]? = some (k, b, born) ∧ L[p]? = some (b, t) ∧ kOf t = k ∧ fdx k m = some q ∧ m[q]? = some t := by
  unfold look
  cases hf : fnd k ms 0 with
  | none =>
    refine .inl ⟨rfl, rfl, fdx_no fun t ht hk => ?_⟩
    obtain ⟨x, hx, rfl⟩ := List.mem_map.1 (h.pm.mem_iff.2 ht)
    have h1 : (kOf x.2, x.1) ∈ ms.map fun e => (e.1, e.2.1) := h.mm.mem_iff.2 (List.mem_map.2 ⟨x, hx, rfl⟩)
    obtain ⟨e, he, h2⟩ := List.mem_map.1 h1
    obtain ⟨i, v, h3⟩ := fnd_some (x := k) (ms := ms) (i := 0) ⟨e, he, by rw [← hk]; exact congrArg Prod.fst h2⟩
    rw [hf] at h3; cases h3
  | some r =>
    obtain ⟨i, v⟩ := r
    obtain ⟨i', hi, e, he, hek, rfl⟩ := fnd_mem hf
    obtain rfl : i' = i := by omega
    have h1 : (e.1, e.2.1) ∈ L.map fun x => (kOf x.2, x.1) := h.mm.mem_iff.1 (List.mem_map.2 ⟨e, List.mem_of_getElem? he, rfl⟩)
    obtain ⟨x, hx, h2⟩ := List.mem_map.1 h1
    obtain ⟨p, hp⟩ := List.mem_iff_getElem?.1 hx
    have hxm : x.2 ∈ m := h.pm.mem_iff.1 (List.mem_map.2 ⟨x, hx, rfl⟩)
    obtain ⟨q, hq⟩ := List.mem_iff_getElem?.1 hxm
    have hk : kOf x.2 = k := (congrArg Prod.fst h2).trans hek
    have hb : x.1 = e.2.1 := congrArg Prod.snd h2
    exact .inr ⟨i', e.2.1, e.2.2, x.2, p, q, rfl, rfl, by rw [he, ← hek], by rw [hp, ← hb], hk, fdx_at h.nd hq hk, hq⟩
end
def atV (m : List T3) (k : K2) : Value := match fdx k m with
  | some q => .tuple #[.int .u64 (((m[q]?).map (·.2.2)).getD 0), .bool true]
  | none => .tuple #[.int .u64 0, .bool false]
set_option maxRecDepth 100000 in
set_option maxHeartbeats 2000000 in
theorem at_any (W : World) {F : Nat → Prop} {B : Nat} {m : List T3} (h : Tm W F B m) (k : K2) (hk : IsK k) : Calls Try.prog 16 #[ptr B, .agg (keyV k)] W fun r W' => r = .returned (atV m k) ∧ Below W.heap.size W W' := by
  obtain ⟨mb, ck, ms, A, n, c, L, h⟩ := h
  obtain ⟨q, hq⟩ : ∃ q, W.heap.size = q := ⟨_, rfl⟩
  obtain ⟨V, hV⟩ : ∃ V, W.alloc (.cells (keyV k) 30) = V := ⟨_, rfl⟩
  have hVB : Below W.heap.size W V := hV ▸ (Below.refl _ W).alloc (Nat.le_refl _) _
  have hQ : Blk V.drew q 30 (keyV k) := by
    have : Blk V q 30 (keyV k) := by rw [← hV, ← hq]; exact Blk.new W 30 _
    exact this
  have hv : Tc V.drew F B mb ck ms A n c L m := h.bel hVB.drew
  have S1 := hidd (And.intro (hv.hp.set.at_ (i := 1) rfl) hQ)
  have H := hidd hv
  have hB := hidd hVB.drew
  have hk' := hidd hk
  have hf := hv.find k
  clear h hv hVB hQ hk
  have hk := hk'
  rcases hf with ⟨h1, _, h3⟩ | ⟨i, b, born, t, p, q', h1, _, _, h4, h5, h6, h7⟩
  · have hlk := hidd h1
    have ha : atV m k = .tuple #[.int .u64 0, .bool false] := by unfold atV; rw [h3]
    rw [ha]
    clear h1 h3 ha
    go_enter Try.func16, Try.ntmps16
    go_wp2_with fail
    refine wp_region_held_drew (S := (fun V => V.cell? ⟨B, 1, none⟩ = some (.map (some mb)) ∧ Blk V q 30 (keyV k))) (by kernel_rfl) S1.out (fun hHeld => ?_)
    generalize V.drew = D at S1 H hB hHeld ⊢
    refine wpAnyH_take (i := 0) (v := ?_) rfl (by kernel_rfl) (by kernel_rfl) (by kernel_rfl) (fun _ _ _ h => h) (Or.inl ⟨by kernel_rfl, ?_⟩) hHeld ?_
    rotate_left
    · intro wh hSw
      go_simp
      try with_reducible rfl
    try simp only [Act.put, List.getElem_toArray, List.getElem_cons_zero, List.getElem_cons_succ, List.setIfInBounds_toArray, List.set_cons_zero, List.set_cons_succ]
    refine wpAnyH_take (i := 1) (v := ?_) rfl (by kernel_rfl) (by kernel_rfl) (by kernel_rfl) (fun _ _ _ h => h) (Or.inl ⟨by kernel_rfl, ?_⟩) hHeld ?_
    rotate_left
    · intro wh hSw
      go_simp
      try with_reducible rfl
    try simp only [Act.put, List.getElem_toArray, List.getElem_cons_zero, List.getElem_cons_succ, List.setIfInBounds_toArray, List.set_cons_zero, List.set_cons_succ]
    refine wpAnyH_take (i := 2) (v := ?_) rfl (by kernel_rfl) (by kernel_rfl) (by kernel_rfl) (fun _ _ _ h => h) (Or.inl ⟨by kernel_rfl, ?_⟩) hHeld ?_
    rotate_left
    · intro wh hSw
      go_simp
      try with_reducible rfl
    try simp only [Act.put, List.getElem_toArray, List.getElem_cons_zero, List.getElem_cons_succ, List.setIfInBounds_toArray, List.set_cons_zero, List.set_cons_succ]
    refine wpAnyH_take (i := 3) (v := ?_) rfl (by kernel_rfl) (by kernel_rfl) (by kernel_rfl) (fun _ _ _ h => h) (Or.inl ⟨by kernel_rfl, ?_⟩) hHeld ?_
    rotate_left
    · intro wh hSw
      have hcell := hSw.1
      go_simp
      try with_reducible rfl
    try simp only [Act.put, List.getElem_toArray, List.getElem_cons_zero, List.getElem_cons_succ, List.setIfInBounds_toArray, List.set_cons_zero, List.set_cons_succ]
    refine wpAnyH_take (i := 4) rfl (by kernel_rfl) (by kernel_rfl) (by kernel_rfl) (fun _ _ _ h => h) (yieldsIf_load_want (by kernel_rfl) 30 _ rfl _ rfl _ (fun wh hSw => ld30 hSw.2)) hHeld ?_
    try simp only [Act.put, List.getElem_toArray, List.getElem_cons_zero, List.getElem_cons_succ, List.setIfInBounds_toArray, List.set_cons_zero, List.set_cons_succ]
    refine wpAnyH_ready (rs := [5]) (by kernel_rfl) (by simp) (AllReadyH.cons rfl (fun K hK => ?_) AllReadyH.nil)
    clear hHeld
    go_simp
    rw [run_look H.out.mp hk.out, hlk.out]
    simp only [Result.andThen_ok]
    refine hK.out _ _ S1.out (fun hHeld => ?_)
    clear hK K
    try simp only [Act.put, List.getElem_toArray, List.getElem_cons_zero, List.getElem_cons_succ, List.setIfInBounds_toArray, List.set_cons_zero, List.set_cons_succ]
    refine wpAnyH_take (i := 6) (v := ?_) rfl (by kernel_rfl) (by kernel_rfl) (by kernel_rfl) (fun _ _ _ h => h) (Or.inl ⟨by kernel_rfl, ?_⟩) hHeld ?_
    rotate_left
    · intro wh hSw
      go_simp
      try with_reducible rfl
    try simp only [Act.put, List.getElem_toArray, List.getElem_cons_zero, List.getElem_cons_succ, List.setIfInBounds_toArray, List.set_cons_zero, List.set_cons_succ]
    refine wpAnyH_take (i := 7) (v := ?_) rfl (by kernel_rfl) (by kernel_rfl) (by kernel_rfl) (fun _ _ _ h => h) (Or.inl ⟨by kernel_rfl, ?_⟩) hHeld ?_
    rotate_left
    · intro wh hSw
      go_simp
      try with_reducible rfl
    try simp only [Act.put, List.getElem_toArray, List.getElem_cons_zero, List.getElem_cons_succ, List.setIfInBounds_toArray, List.set_cons_zero, List.set_cons_succ]
    refine wpAnyH_take (i := 8) (v := ?_) rfl (by kernel_rfl) (by kernel_rfl) (by kernel_rfl) (fun _ _ _ h => h) (Or.inl ⟨by kernel_rfl, ?_⟩) hHeld ?_
    rotate_left
    · intro wh hSw
      go_simp
      try with_reducible rfl
    try simp only [Act.put, List.getElem_toArray, List.getElem_cons_zero, List.getElem_cons_succ, List.setIfInBounds_toArray, List.set_cons_zero, List.set_cons_succ]
    refine wpAnyH_take (i := 9) (v := ?_) rfl (by kernel_rfl) (by kernel_rfl) (by kernel_rfl) (fun _ _ _ h => h) (Or.inl ⟨by kernel_rfl, ?_⟩) hHeld ?_
    rotate_left
    · intro wh hSw
      go_simp
      try with_reducible rfl
    try simp only [Act.put, List.getElem_toArray, List.getElem_cons_zero, List.getElem_cons_succ, List.setIfInBounds_toArray, List.set_cons_zero, List.set_cons_succ]
    refine wpAnyH_take (i := 10) (v := ?_) rfl (by kernel_rfl) (by kernel_rfl) (by kernel_rfl) (fun _ _ _ h => h) (Or.inl ⟨by kernel_rfl, ?_⟩) hHeld ?_
    rotate_left
    · intro wh hSw
      go_simp
      try with_reducible rfl
    try simp only [Act.put, List.getElem_toArray, List.getElem_cons_zero, List.getElem_cons_succ, List.setIfInBounds_toArray, List.set_cons_zero, List.set_cons_succ]
    refine wpAnyH_done (by kernel_rfl) ?_ _
    clear hHeld
    go_wp2
    exact bodyPost_ret (v := .tuple #[.int .u64 0, .bool false]) (by simp [results, Try.results16, Act.put]) rfl ⟨rfl, hB.out⟩
  · have hlk := hidd h1
    have ha : atV m k = .tuple #[.int .u64 t.2.2, .bool true] := by unfold atV; rw [h6]; simp [h7]
    rw [ha]
    have hbx := hidd (fun (U : World) (h : Tc U F B mb ck ms A n c L m) => h.hp.box p (b, t) h4)
    clear h1 h4 h5 h6 h7 ha
    go_enter Try.func16, Try.ntmps16
    go_wp2_with fail
    refine wp_region_held_drew (S := (fun V => V.cell? ⟨B, 1, none⟩ = some (.map (some mb)) ∧ Blk V q 30 (keyV k))) (by kernel_rfl) S1.out (fun hHeld => ?_)
    generalize V.drew = D at S1 H hB hHeld ⊢
    refine wpAnyH_take (i := 0) (v := ?_) rfl (by kernel_rfl) (by kernel_rfl) (by kernel_rfl) (fun _ _ _ h => h) (Or.inl ⟨by kernel_rfl, ?_⟩) hHeld ?_
    rotate_left
    · intro wh hSw
      go_simp
      try with_reducible rfl
    try simp only [Act.put, List.getElem_toArray, List.getElem_cons_zero, List.getElem_cons_succ, List.setIfInBounds_toArray, List.set_cons_zero, List.set_cons_succ]
    refine wpAnyH_take (i := 1) (v := ?_) rfl (by kernel_rfl) (by kernel_rfl) (by kernel_rfl) (fun _ _ _ h => h) (Or.inl ⟨by kernel_rfl, ?_⟩) hHeld ?_
    rotate_left
    · intro wh hSw
      go_simp
      try with_reducible rfl
    try simp only [Act.put, List.getElem_toArray, List.getElem_cons_zero, List.getElem_cons_succ, List.setIfInBounds_toArray, List.set_cons_zero, List.set_cons_succ]
    refine wpAnyH_take (i := 2) (v := ?_) rfl (by kernel_rfl) (by kernel_rfl) (by kernel_rfl) (fun _ _ _ h => h) (Or.inl ⟨by kernel_rfl, ?_⟩) hHeld ?_
    rotate_left
    · intro wh hSw
      go_simp
      try with_reducible rfl
    try simp only [Act.put, List.getElem_toArray, List.getElem_cons_zero, List.getElem_cons_succ, List.setIfInBounds_toArray, List.set_cons_zero, List.set_cons_succ]
    refine wpAnyH_take (i := 3) (v := ?_) rfl (by kernel_rfl) (by kernel_rfl) (by kernel_rfl) (fun _ _ _ h => h) (Or.inl ⟨by kernel_rfl, ?_⟩) hHeld ?_
    rotate_left
    · intro wh hSw
      have hcell := hSw.1
      go_simp
      try with_reducible rfl
    try simp only [Act.put, List.getElem_toArray, List.getElem_cons_zero, List.getElem_cons_succ, List.setIfInBounds_toArray, List.set_cons_zero, List.set_cons_succ]
    refine wpAnyH_take (i := 4) rfl (by kernel_rfl) (by kernel_rfl) (by kernel_rfl) (fun _ _ _ h => h) (yieldsIf_load_want (by kernel_rfl) 30 _ rfl _ rfl _ (fun wh hSw => ld30 hSw.2)) hHeld ?_
    try simp only [Act.put, List.getElem_toArray, List.getElem_cons_zero, List.getElem_cons_succ, List.setIfInBounds_toArray, List.set_cons_zero, List.set_cons_succ]
    refine wpAnyH_ready (rs := [5]) (by kernel_rfl) (by simp) (AllReadyH.cons rfl (fun K hK => ?_) AllReadyH.nil)
    clear hHeld
    go_simp
    rw [run_look H.out.mp hk.out, hlk.out]
    simp only [Result.andThen_ok]
    refine hK.out _ _ S1.out (fun hHeld => ?_)
    clear hK K
    try simp only [Act.put, List.getElem_toArray, List.getElem_cons_zero, List.getElem_cons_succ, List.setIfInBounds_toArray, List.set_cons_zero, List.set_cons_succ]
    refine wpAnyH_take (i := 6) (v := ?_) rfl (by kernel_rfl) (by kernel_rfl) (by kernel_rfl) (fun _ _ _ h => h) (Or.inl ⟨by kernel_rfl, ?_⟩) hHeld ?_
    rotate_left
    · intro wh hSw
      go_simp
      try with_reducible rfl
    try simp only [Act.put, List.getElem_toArray, List.getElem_cons_zero, List.getElem_cons_succ, List.setIfInBounds_toArray, List.set_cons_zero, List.set_cons_succ]
    refine wpAnyH_take (i := 7) (v := ?_) rfl (by kernel_rfl) (by kernel_rfl) (by kernel_rfl) (fun _ _ _ h => h) (Or.inl ⟨by kernel_rfl, ?_⟩) hHeld ?_
    rotate_left
    · intro wh hSw
      go_simp
      try with_reducible rfl
    try simp only [Act.put, List.getElem_toArray, List.getElem_cons_zero, List.getElem_cons_succ, List.setIfInBounds_toArray, List.set_cons_zero, List.set_cons_succ]
    refine wpAnyH_take (i := 8) (v := ?_) rfl (by kernel_rfl) (by kernel_rfl) (by kernel_rfl) (fun _ _ _ h => h) (Or.inl ⟨by kernel_rfl, ?_⟩) hHeld ?_
    rotate_left
    · intro wh hSw
      go_simp
      try with_reducible rfl
    try simp only [Act.put, List.getElem_toArray, List.getElem_cons_zero, List.getElem_cons_succ, List.setIfInBounds_toArray, List.set_cons_zero, List.set_cons_succ]
    refine wpAnyH_take (i := 9) (v := ?_) rfl (by kernel_rfl) (by kernel_rfl) (by kernel_rfl) (fun _ _ _ h => h) (Or.inl ⟨by kernel_rfl, ?_⟩) hHeld ?_
    rotate_left
    · intro wh hSw
      go_simp
      try with_reducible rfl
    try simp only [Act.put, List.getElem_toArray, List.getElem_cons_zero, List.getElem_cons_succ, List.setIfInBounds_toArray, List.set_cons_zero, List.set_cons_succ]
    refine wpAnyH_take (i := 10) (v := ?_) rfl (by kernel_rfl) (by kernel_rfl) (by kernel_rfl) (fun _ _ _ h => h) (Or.inl ⟨by kernel_rfl, ?_⟩) hHeld ?_
    rotate_left
    · intro wh hSw
      go_simp
      try with_reducible rfl
    try simp only [Act.put, List.getElem_toArray, List.getElem_cons_zero, List.getElem_cons_succ, List.setIfInBounds_toArray, List.set_cons_zero, List.set_cons_succ]
    refine wpAnyH_done (by kernel_rfl) ?_ _
    clear hHeld
    have c2 := (hbx.out D H.out).at_ (i := 2) rfl
    go_wp2
    exact bodyPost_ret (v := .tuple #[.int .u64 t.2.2, .bool true]) (by simp [results, Try.results16, Act.put]) rfl ⟨rfl, hB.out⟩
end Go.Proofs.Ytepenfgoejhofaa
