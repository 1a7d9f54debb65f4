/- A timer is cancelled. The function walked once. No condition. -/
import Derived.Test.YtepenfgoejhofaaLook
namespace Go.Proofs.Ytepenfgoejhofaa
open Go.ChangeShapes Go.WideShapes Go.ChangeAt Go.RowKit Go.Deep
set_option linter.unusedVariables false
set_option linter.unusedSimpArgs false

theorem step_delete {P : Program} {W : World} {ops : Array Oper} {o : Oper} {a : Act} {K : Act → World → Prop} {Q : Exit → Act → World → Prop} {X : Prop} (hgd : o.guard = none) (m x : Operand) (t t' : TypeId)
    (ho : o.op = .call { callee := .builtin .delete, args := #[m, x], argTypes := #[t, t'] }) (v u : Value) (hm : a.eval m = v) (hx : a.eval x = u) {r : Value} {V : World}
    (hr : (Builtin.delete_ #[t, t'] o.type #[v, u]).run P W = .ok r V) (h : K (a.put o.dst r) V) : if Region.wanted o (yielded ops a.tmps) = true then Oper.wp P o a W K Q else X := by
  rw [if_pos (by simp [Region.wanted, hgd])]
  unfold Oper.wp execOp
  simp only [ho, resolve, invoke, builtin, Sem.run_bind, Sem.run_pure, Result.andThen_ok, List.map_toArray, List.map_cons, List.map_nil, hm, hx, hr]
  exact h
theorem step_update {P : Program} {W : World} {ops : Array Oper} {o : Oper} {a : Act} {K : Act → World → Prop} {Q : Exit → Act → World → Prop} {X : Prop} (hgd : o.guard = none) (m x y : Operand) (t : TypeId)
    (ho : o.op = .mapUpdate t m x y) (v u z : Value) (hm : a.eval m = v) (hx : a.eval x = u) (hy : a.eval y = z) {V : World}
    (hr : (Instr.mapUpdate t v u z).run P W = .ok () V) (h : K (a.put o.dst undef) V) : if Region.wanted o (yielded ops a.tmps) = true then Oper.wp P o a W K Q else X := by
  rw [if_pos (by simp [Region.wanted, hgd])]
  unfold Oper.wp execOp
  simp only [ho, Sem.run_bind, Sem.run_pure, Result.andThen_ok, hm, hx, hy, hr]
  exact h
theorem erase_perm {α : Type} : ∀ {l : List α} {i : Nat} {a : α}, l[i]? = some a → l.Perm (a :: l.eraseIdx i)
  | [], i, a, h => by simp at h
  | x :: l, 0, a, h => by simp at h; subst h; exact List.Perm.refl _
  | x :: l, i + 1, a, h => by
    have ih := erase_perm (l := l) (i := i) (a := a) (by simpa using h)
    exact (ih.cons x).trans (List.Perm.swap a x _)
/-- One is cancelled. -/
def canM (m : List T3) (k : K2) : Bool × List T3 := match fdx k m with
  | some q => (true, m.eraseIdx q)
  | none => (false, m)
section
variable {W : World} {F : Nat → Prop} {B mb ck n c : Nat} {ms : List Mm} {A : Option Addr} {L : Xs} {m : List T3}
theorem Tc.cancel (h : Tc W F B mb ck ms A (n + 1) c L m) {k : K2} {i b born : Nat} {t : T3} {p q : Nat} (h2 : fnd k ms 0 = some (i, ptr b)) (h3 : ms[i]? = some (k, b, born)) (h4 : L[p]? = some (b, t)) (h5 : kOf t = k) (h7 : m[q]? = some t)
    {V : World} {L' : Xs} (h8 : Hp V (fun k => F k ∧ k ≠ mb) B A n c (.map (some mb)) L') (h9 : L.Perm ((b, t) :: L')) (h10 : Hpf (vl L') n) (h11 : IsM V mb ms ck) (h12 : ∀ k, F k → k < V.heap.size) :
    Tc (setMap V mb (dropM k ms) ck) F B mb ck (dropM k ms) A n c L' (m.eraseIdx q) := by
  have hd : dropM k ms = ms.eraseIdx i := by unfold dropM; rw [h2]
  have hf := setMap_fr V mb (dropM k ms) ck
  refine ⟨h8.fr hf (fun k hk => hk.2), setMap_is h11 _ _, h.fm, ?_, ?_, ?_, h10, by have := h.mx; omega, fun t ht => h.ist t (List.mem_of_mem_eraseIdx ht), fun k hk => by have := h12 k hk; have := hf.size; omega⟩
  · rw [hd]
    have e1 := (erase_perm h3).map fun e : Mm => (e.1, e.2.1)
    have e2 := h9.map fun x : Nat × T3 => (kOf x.2, x.1)
    have e3 := (e1.symm.trans h.mm).trans e2
    rw [List.map_cons, List.map_cons] at e3
    rw [h5] at e3
    exact e3.cons_inv
  · have e1 := erase_perm h7
    have e2 := h9.map fun x : Nat × T3 => x.2
    rw [List.map_cons] at e2
    exact ((e2.symm.trans h.pm).trans e1).cons_inv
  · exact h.nd.sublist ((List.eraseIdx_sublist m q).map kOf)
end
set_option maxRecDepth 100000 in
set_option maxHeartbeats 4000000 in
theorem cancel_any (W : World) {F : Nat → Prop} {B : Nat} {m : List T3} (h : Tm W F B m) (k : K2) (hk : IsK k) : Calls Try.prog 17 #[ptr B, .agg (keyV k)] W fun r W' => r = .returned (.bool (canM m k).1) ∧ Tm W' F B (canM m k).2 ∧ Fr F W W' := by
  obtain ⟨mb, ck, ms, A, n, c, L, h⟩ := h
  obtain ⟨q, hq⟩ : ∃ q, W.heap.size = q := ⟨_, rfl⟩
  obtain ⟨V, hV⟩ : ∃ V, W.alloc (.cells (keyV k) 30) = V := ⟨_, rfl⟩
  have hVB : Below W.heap.size W V := hV ▸ (Below.refl _ W).alloc (Nat.le_refl _) _
  have hQ : Blk V.drew q 30 (keyV k) := by
    have : Blk V q 30 (keyV k) := by rw [← hV, ← hq]; exact Blk.new W 30 _
    exact this
  have hFq : Hid (¬ F q) := hidd (fun e => by have := h.bd q e; omega)
  have hv : Tc V.drew F B mb ck ms A n c L m := h.bel hVB.drew
  have S1 := hidd (And.intro (hv.hp.set.at_ (i := 1) rfl) hQ)
  have H := hidd hv
  have hB := hidd (Fr.of_below hVB.drew F)
  have hk' := hidd hk
  have hf := hv.find k
  clear h hv hVB hQ hk
  have hk := hk'
  rcases hf with ⟨h1, _, h3⟩ | ⟨i, b, born, t, p, q', h1, h2, h3, h4, h5, h6, h7⟩
  · have hlk := hidd h1
    have ha : canM m k = (false, m) := by unfold canM; rw [h3]
    rw [ha]
    clear h1 h3 ha
    go_enter Try.func17, Try.ntmps17
    go_wp2_with fail
    refine wp_region_held_drew (S := (fun V => V.cell? ⟨B, 1, none⟩ = some (.map (some mb)) ∧ Blk V q 30 (keyV k))) (by kernel_rfl) S1.out (fun hHeld => ?_)
    generalize V.drew = D at S1 H hB hHeld ⊢
    refine wpAnyH_take (i := 0) (v := ?_) rfl (by kernel_rfl) (by kernel_rfl) (by kernel_rfl) (fun _ _ _ h => h) (Or.inl ⟨by kernel_rfl, ?_⟩) hHeld ?_
    rotate_left
    · intro wh hSw
      go_simp
      try with_reducible rfl
    try simp only [Act.put, List.getElem_toArray, List.getElem_cons_zero, List.getElem_cons_succ, List.setIfInBounds_toArray, List.set_cons_zero, List.set_cons_succ]
    refine wpAnyH_take (i := 1) (v := ?_) rfl (by kernel_rfl) (by kernel_rfl) (by kernel_rfl) (fun _ _ _ h => h) (Or.inl ⟨by kernel_rfl, ?_⟩) hHeld ?_
    rotate_left
    · intro wh hSw
      go_simp
      try with_reducible rfl
    try simp only [Act.put, List.getElem_toArray, List.getElem_cons_zero, List.getElem_cons_succ, List.setIfInBounds_toArray, List.set_cons_zero, List.set_cons_succ]
    refine wpAnyH_take (i := 2) (v := ?_) rfl (by kernel_rfl) (by kernel_rfl) (by kernel_rfl) (fun _ _ _ h => h) (Or.inl ⟨by kernel_rfl, ?_⟩) hHeld ?_
    rotate_left
    · intro wh hSw
      go_simp
      try with_reducible rfl
    try simp only [Act.put, List.getElem_toArray, List.getElem_cons_zero, List.getElem_cons_succ, List.setIfInBounds_toArray, List.set_cons_zero, List.set_cons_succ]
    refine wpAnyH_take (i := 3) (v := ?_) rfl (by kernel_rfl) (by kernel_rfl) (by kernel_rfl) (fun _ _ _ h => h) (Or.inl ⟨by kernel_rfl, ?_⟩) hHeld ?_
    rotate_left
    · intro wh hSw
      have hcell := hSw.1
      go_simp
      try with_reducible rfl
    try simp only [Act.put, List.getElem_toArray, List.getElem_cons_zero, List.getElem_cons_succ, List.setIfInBounds_toArray, List.set_cons_zero, List.set_cons_succ]
    refine wpAnyH_take (i := 4) rfl (by kernel_rfl) (by kernel_rfl) (by kernel_rfl) (fun _ _ _ h => h) (yieldsIf_load_want (by kernel_rfl) 30 _ rfl _ rfl _ (fun wh hSw => ld30 hSw.2)) hHeld ?_
    try simp only [Act.put, List.getElem_toArray, List.getElem_cons_zero, List.getElem_cons_succ, List.setIfInBounds_toArray, List.set_cons_zero, List.set_cons_succ]
    refine wpAnyH_ready (rs := [5]) (by kernel_rfl) (by simp) (AllReadyH.cons rfl (fun K hK => ?_) AllReadyH.nil)
    clear hHeld
    go_simp
    rw [run_look H.out.mp hk.out, hlk.out]
    simp only [Result.andThen_ok]
    refine hK.out _ _ S1.out (fun hHeld => ?_)
    clear hK K
    try simp only [Act.put, List.getElem_toArray, List.getElem_cons_zero, List.getElem_cons_succ, List.setIfInBounds_toArray, List.set_cons_zero, List.set_cons_succ]
    refine wpAnyH_take (i := 6) (v := ?_) rfl (by kernel_rfl) (by kernel_rfl) (by kernel_rfl) (fun _ _ _ h => h) (Or.inl ⟨by kernel_rfl, ?_⟩) hHeld ?_
    rotate_left
    · intro wh hSw
      go_simp
      try with_reducible rfl
    try simp only [Act.put, List.getElem_toArray, List.getElem_cons_zero, List.getElem_cons_succ, List.setIfInBounds_toArray, List.set_cons_zero, List.set_cons_succ]
    refine wpAnyH_take (i := 7) (v := ?_) rfl (by kernel_rfl) (by kernel_rfl) (by kernel_rfl) (fun _ _ _ h => h) (Or.inl ⟨by kernel_rfl, ?_⟩) hHeld ?_
    rotate_left
    · intro wh hSw
      go_simp
      try with_reducible rfl
    try simp only [Act.put, List.getElem_toArray, List.getElem_cons_zero, List.getElem_cons_succ, List.setIfInBounds_toArray, List.set_cons_zero, List.set_cons_succ]
    refine wpAnyH_take (i := 8) (v := ?_) rfl (by kernel_rfl) (by kernel_rfl) (by kernel_rfl) (fun _ _ _ h => h) (Or.inl ⟨by kernel_rfl, ?_⟩) hHeld ?_
    rotate_left
    · intro wh hSw
      go_simp
      try with_reducible rfl
    try simp only [Act.put, List.getElem_toArray, List.getElem_cons_zero, List.getElem_cons_succ, List.setIfInBounds_toArray, List.set_cons_zero, List.set_cons_succ]
    refine wpAnyH_take (i := 9) (v := ?_) rfl (by kernel_rfl) (by kernel_rfl) (by kernel_rfl) (fun _ _ _ h => h) (Or.inl ⟨by kernel_rfl, ?_⟩) hHeld ?_
    rotate_left
    · intro wh hSw
      go_simp
      try with_reducible rfl
    try simp only [Act.put, List.getElem_toArray, List.getElem_cons_zero, List.getElem_cons_succ, List.setIfInBounds_toArray, List.set_cons_zero, List.set_cons_succ]
    refine wpAnyH_take (i := 10) (v := ?_) rfl (by kernel_rfl) (by kernel_rfl) (by kernel_rfl) (fun _ _ _ h => h) (Or.inl ⟨by kernel_rfl, ?_⟩) hHeld ?_
    rotate_left
    · intro wh hSw
      go_simp
      try with_reducible rfl
    try simp only [Act.put, List.getElem_toArray, List.getElem_cons_zero, List.getElem_cons_succ, List.setIfInBounds_toArray, List.set_cons_zero, List.set_cons_succ]
    refine wpAnyH_done (by kernel_rfl) ?_ _
    clear hHeld
    go_wp2
    go_ret
    exact ⟨rfl, H.out.tm, hB.out⟩
  · have hlk := hidd h1
    have ha : canM m k = (true, m.eraseIdx q') := by unfold canM; rw [h6]
    rw [ha]
    have hF := hidd (And.intro h2 (And.intro h3 (And.intro h4 (And.intro h5 h7))))
    obtain ⟨n', rfl⟩ : ∃ n', n = n' + 1 := ⟨n - 1, by have := lt_of_some h4; have := H.out.hp.len; omega⟩
    have hFd := hidd (show ∃ d : Nat, d = 0 from ⟨0, rfl⟩)
    clear h1 h2 h3 h4 h5 h6 h7 ha
    go_enter Try.func17, Try.ntmps17
    go_wp2_with fail
    refine wp_region_held_drew (S := (fun V => V.cell? ⟨B, 1, none⟩ = some (.map (some mb)) ∧ Blk V q 30 (keyV k))) (by kernel_rfl) S1.out (fun hHeld => ?_)
    generalize V.drew = D at S1 H hB hHeld ⊢
    refine wpAnyH_take (i := 0) (v := ?_) rfl (by kernel_rfl) (by kernel_rfl) (by kernel_rfl) (fun _ _ _ h => h) (Or.inl ⟨by kernel_rfl, ?_⟩) hHeld ?_
    rotate_left
    · intro wh hSw
      go_simp
      try with_reducible rfl
    try simp only [Act.put, List.getElem_toArray, List.getElem_cons_zero, List.getElem_cons_succ, List.setIfInBounds_toArray, List.set_cons_zero, List.set_cons_succ]
    refine wpAnyH_take (i := 1) (v := ?_) rfl (by kernel_rfl) (by kernel_rfl) (by kernel_rfl) (fun _ _ _ h => h) (Or.inl ⟨by kernel_rfl, ?_⟩) hHeld ?_
    rotate_left
    · intro wh hSw
      go_simp
      try with_reducible rfl
    try simp only [Act.put, List.getElem_toArray, List.getElem_cons_zero, List.getElem_cons_succ, List.setIfInBounds_toArray, List.set_cons_zero, List.set_cons_succ]
    refine wpAnyH_take (i := 2) (v := ?_) rfl (by kernel_rfl) (by kernel_rfl) (by kernel_rfl) (fun _ _ _ h => h) (Or.inl ⟨by kernel_rfl, ?_⟩) hHeld ?_
    rotate_left
    · intro wh hSw
      go_simp
      try with_reducible rfl
    try simp only [Act.put, List.getElem_toArray, List.getElem_cons_zero, List.getElem_cons_succ, List.setIfInBounds_toArray, List.set_cons_zero, List.set_cons_succ]
    refine wpAnyH_take (i := 3) (v := ?_) rfl (by kernel_rfl) (by kernel_rfl) (by kernel_rfl) (fun _ _ _ h => h) (Or.inl ⟨by kernel_rfl, ?_⟩) hHeld ?_
    rotate_left
    · intro wh hSw
      have hcell := hSw.1
      go_simp
      try with_reducible rfl
    try simp only [Act.put, List.getElem_toArray, List.getElem_cons_zero, List.getElem_cons_succ, List.setIfInBounds_toArray, List.set_cons_zero, List.set_cons_succ]
    refine wpAnyH_take (i := 4) rfl (by kernel_rfl) (by kernel_rfl) (by kernel_rfl) (fun _ _ _ h => h) (yieldsIf_load_want (by kernel_rfl) 30 _ rfl _ rfl _ (fun wh hSw => ld30 hSw.2)) hHeld ?_
    try simp only [Act.put, List.getElem_toArray, List.getElem_cons_zero, List.getElem_cons_succ, List.setIfInBounds_toArray, List.set_cons_zero, List.set_cons_succ]
    refine wpAnyH_ready (rs := [5]) (by kernel_rfl) (by simp) (AllReadyH.cons rfl (fun K hK => ?_) AllReadyH.nil)
    clear hHeld
    go_simp
    rw [run_look H.out.mp hk.out, hlk.out]
    simp only [Result.andThen_ok]
    refine hK.out _ _ S1.out (fun hHeld => ?_)
    clear hK K
    try simp only [Act.put, List.getElem_toArray, List.getElem_cons_zero, List.getElem_cons_succ, List.setIfInBounds_toArray, List.set_cons_zero, List.set_cons_succ]
    refine wpAnyH_take (i := 6) (v := ?_) rfl (by kernel_rfl) (by kernel_rfl) (by kernel_rfl) (fun _ _ _ h => h) (Or.inl ⟨by kernel_rfl, ?_⟩) hHeld ?_
    rotate_left
    · intro wh hSw
      go_simp
      try with_reducible rfl
    try simp only [Act.put, List.getElem_toArray, List.getElem_cons_zero, List.getElem_cons_succ, List.setIfInBounds_toArray, List.set_cons_zero, List.set_cons_succ]
    refine wpAnyH_take (i := 7) (v := ?_) rfl (by kernel_rfl) (by kernel_rfl) (by kernel_rfl) (fun _ _ _ h => h) (Or.inl ⟨by kernel_rfl, ?_⟩) hHeld ?_
    rotate_left
    · intro wh hSw
      go_simp
      try with_reducible rfl
    try simp only [Act.put, List.getElem_toArray, List.getElem_cons_zero, List.getElem_cons_succ, List.setIfInBounds_toArray, List.set_cons_zero, List.set_cons_succ]
    refine wpAnyH_take (i := 8) (v := ?_) rfl (by kernel_rfl) (by kernel_rfl) (by kernel_rfl) (fun _ _ _ h => h) (Or.inl ⟨by kernel_rfl, ?_⟩) hHeld ?_
    rotate_left
    · intro wh hSw
      go_simp
      try with_reducible rfl
    try simp only [Act.put, List.getElem_toArray, List.getElem_cons_zero, List.getElem_cons_succ, List.setIfInBounds_toArray, List.set_cons_zero, List.set_cons_succ]
    refine wpAnyH_take (i := 9) (v := ?_) rfl (by kernel_rfl) (by kernel_rfl) (by kernel_rfl) (fun _ _ _ h => h) (Or.inl ⟨by kernel_rfl, ?_⟩) hHeld ?_
    rotate_left
    · intro wh hSw
      go_simp
      try with_reducible rfl
    try simp only [Act.put, List.getElem_toArray, List.getElem_cons_zero, List.getElem_cons_succ, List.setIfInBounds_toArray, List.set_cons_zero, List.set_cons_succ]
    refine wpAnyH_take (i := 10) (v := ?_) rfl (by kernel_rfl) (by kernel_rfl) (by kernel_rfl) (fun _ _ _ h => h) (Or.inl ⟨by kernel_rfl, ?_⟩) hHeld ?_
    rotate_left
    · intro wh hSw
      go_simp
      try with_reducible rfl
    try simp only [Act.put, List.getElem_toArray, List.getElem_cons_zero, List.getElem_cons_succ, List.setIfInBounds_toArray, List.set_cons_zero, List.set_cons_succ]
    refine wpAnyH_done (by kernel_rfl) ?_ _
    clear hHeld
    have S2 := hidd (show Blk D.drew b 61 (boxV t p) from H.out.hp.box p (b, t) hF.out.2.2.1)
    have hpl : p ≤ n' := by have := lt_of_some hF.out.2.2.1; have := H.out.hp.len; omega
    have H2 := hidd (show Hp D.drew (fun k => F k ∧ k ≠ mb) B A (n' + 1) c (.map (some mb)) L ∧ n' + 1 ≤ 1000000 ∧ Hpf (vl L) (n' + 1) ∧ p ≤ n' ∧ L[p]? = some (b, t) from ⟨H.out.hp.bel (Below.refl _ D).drew, by have := H.out.mx; omega, H.out.hh, hpl, hF.out.2.2.1⟩)
    have hT := hF
    clear hF
    have hB2 := hidd (show Fr F W D.drew from hB.out.drew)
    have M2 := hidd (show IsM D.drew mb ms ck ∧ Blk D.drew q 30 (keyV k) ∧ (∀ k, F k → k < D.drew.heap.size) from ⟨H.out.mp, S1.out.2, H.out.bd⟩)
    clear hB
    have hB := hidd (And.intro hB2.out M2.out)
    clear hB2 M2
    go_wp2_with fail
    refine wp_region_tail (fun V => Blk V b 61 (boxV t p)) 8 (by kernel_rfl) S2.out (fun hF => ?_)
    generalize D.drew = D2 at S2 H2 hB hF ⊢
    refine tail_free (i := 0) (v := ?_) rfl (by kernel_rfl) (by kernel_rfl) (by kernel_rfl) (by kernel_rfl) (fun _ _ _ h => h) (Or.inl ⟨by kernel_rfl, ?_⟩) (fun _ => hF) ?_
    rotate_left
    · intro wh hSw
      go_simp
      try with_reducible rfl
    try simp only [Act.put, List.getElem_toArray, List.getElem_cons_zero, List.getElem_cons_succ, List.setIfInBounds_toArray, List.set_cons_zero, List.set_cons_succ]
    refine tail_free (i := 1) (v := ?_) rfl (by kernel_rfl) (by kernel_rfl) (by kernel_rfl) (by kernel_rfl) (fun _ _ _ h => h) (Or.inl ⟨by kernel_rfl, ?_⟩) (fun _ => hF) ?_
    rotate_left
    · intro wh hSw
      go_simp
      try with_reducible rfl
    try simp only [Act.put, List.getElem_toArray, List.getElem_cons_zero, List.getElem_cons_succ, List.setIfInBounds_toArray, List.set_cons_zero, List.set_cons_succ]
    refine tail_free (i := 2) (v := ?_) rfl (by kernel_rfl) (by kernel_rfl) (by kernel_rfl) (by kernel_rfl) (fun _ _ _ h => h) (Or.inl ⟨by kernel_rfl, ?_⟩) (fun _ => hF) ?_
    rotate_left
    · intro wh hSw
      go_simp
      try with_reducible rfl
    try simp only [Act.put, List.getElem_toArray, List.getElem_cons_zero, List.getElem_cons_succ, List.setIfInBounds_toArray, List.set_cons_zero, List.set_cons_succ]
    refine tail_free (i := 3) (v := ?_) rfl (by kernel_rfl) (by kernel_rfl) (by kernel_rfl) (by kernel_rfl) (fun _ _ _ h => h) (Or.inl ⟨by kernel_rfl, ?_⟩) (fun _ => hF) ?_
    rotate_left
    · intro wh hSw
      go_simp
      try with_reducible rfl
    try simp only [Act.put, List.getElem_toArray, List.getElem_cons_zero, List.getElem_cons_succ, List.setIfInBounds_toArray, List.set_cons_zero, List.set_cons_succ]
    refine tail_free (i := 4) (v := ?_) rfl (by kernel_rfl) (by kernel_rfl) (by kernel_rfl) (by kernel_rfl) (fun _ _ _ h => h) (Or.inl ⟨by kernel_rfl, ?_⟩) (fun _ => hF) ?_
    rotate_left
    · intro wh hSw
      go_simp
      try with_reducible rfl
    try simp only [Act.put, List.getElem_toArray, List.getElem_cons_zero, List.getElem_cons_succ, List.setIfInBounds_toArray, List.set_cons_zero, List.set_cons_succ]
    refine tail_free (i := 5) (v := ?_) rfl (by kernel_rfl) (by kernel_rfl) (by kernel_rfl) (by kernel_rfl) (fun _ _ _ h => h) (Or.inl ⟨by kernel_rfl, ?_⟩) (fun _ => hF) ?_
    rotate_left
    · intro wh hSw
      go_simp
      try with_reducible rfl
    try simp only [Act.put, List.getElem_toArray, List.getElem_cons_zero, List.getElem_cons_succ, List.setIfInBounds_toArray, List.set_cons_zero, List.set_cons_succ]
    refine tail_free (i := 6) (v := ?_) rfl (by kernel_rfl) (by kernel_rfl) (by kernel_rfl) (by kernel_rfl) (fun _ _ _ h => h) (Or.inl ⟨by kernel_rfl, ?_⟩) (fun _ => hF) ?_
    rotate_left
    · intro wh hSw
      go_simp
      try with_reducible rfl
    try simp only [Act.put, List.getElem_toArray, List.getElem_cons_zero, List.getElem_cons_succ, List.setIfInBounds_toArray, List.set_cons_zero, List.set_cons_succ]
    refine tail_take (i := 7) (v := ?_) rfl (by kernel_rfl) (by kernel_rfl) (by kernel_rfl) (by kernel_rfl) (fun _ _ _ h => h) (Or.inl ⟨by kernel_rfl, ?_⟩) hF ?_
    rotate_left
    · intro wh hSw
      have hcell := hSw.at_ (i := 3) rfl
      go_simp
      try with_reducible rfl
    try simp only [Act.put, List.getElem_toArray, List.getElem_cons_zero, List.getElem_cons_succ, List.setIfInBounds_toArray, List.set_cons_zero, List.set_cons_succ]
    refine tail_ready (rs := [8]) (by kernel_rfl) (by simp) (AllReadyT.last rfl (by kernel_rfl) (fun K hK => ?_) AllReadyT.nil)
    clear hF
    go_simp
    refine (remove_any D2 H2.out.1 H2.out.2.1 H2.out.2.2.1 H2.out.2.2.2.1 H2.out.2.2.2.2).mono ?_
    rintro r V2 ⟨⟨r2, rfl⟩, L2, h2, p2, hp2, f2⟩
    dsimp only
    refine hK.out _ _ ?_
    clear hK K
    try simp only [Act.put, List.getElem_toArray, List.getElem_cons_zero, List.getElem_cons_succ, List.setIfInBounds_toArray, List.set_cons_zero, List.set_cons_succ]
    refine tail_done (by kernel_rfl) ?_ _
    have m3 := hB.out.2.1.fr f2 (fun e => e.2 rfl)
    have q3 := hB.out.2.2.1.fr f2 (fun e => hFq.out e.1)
    have f3 : Hid (Fr F W V2) := hidd (hB.out.1.trans (f2.mono (fun k _ hk => hk.1)))
    have b3 : ∀ k, F k → k < V2.heap.size := fun k hk => by have := hB.out.2.2.2 k hk; have := f2.size; omega
    obtain ⟨V3, hV3⟩ : ∃ V3, V2 = V3 := ⟨_, rfl⟩
    rw [hV3] at h2 m3 q3 f3 b3 ⊢
    clear hV3 f2
    have S3 := hidd (show V3.drew.cell? ⟨B, 1, none⟩ = some (.map (some mb)) ∧ Blk V3.drew q 30 (keyV k) from ⟨h2.set.at_ (i := 1) rfl, q3⟩)
    have H3 := hidd (show IsM V3.drew mb ms ck ∧ Tc (setMap V3.drew mb (dropM k ms) ck) F B mb ck (dropM k ms) A n' c L2 (m.eraseIdx q') ∧ Fr F W V3.drew ∧ F mb from
      ⟨m3, H.out.cancel hT.out.1 hT.out.2.1 hT.out.2.2.1 hT.out.2.2.2.1 hT.out.2.2.2.2 (h2.bel (Below.refl _ V3).drew) p2 hp2 m3 b3, f3.out.drew, H.out.fm⟩)
    clear h2 p2 hp2 m3 q3 f3 b3 H2 S2
    go_wp2_with fail
    refine wp_region_tail (fun V => V.cell? ⟨B, 1, none⟩ = some (.map (some mb)) ∧ Blk V q 30 (keyV k)) 5 (by kernel_rfl) S3.out (fun hF => ?_)
    generalize V3.drew = D3 at S3 H3 hF ⊢
    refine tail_free (i := 0) (v := ?_) rfl (by kernel_rfl) (by kernel_rfl) (by kernel_rfl) (by kernel_rfl) (fun _ _ _ h => h) (Or.inl ⟨by kernel_rfl, ?_⟩) (fun _ => hF) ?_
    rotate_left
    · intro wh hSw
      go_simp
      try with_reducible rfl
    try simp only [Act.put, List.getElem_toArray, List.getElem_cons_zero, List.getElem_cons_succ, List.setIfInBounds_toArray, List.set_cons_zero, List.set_cons_succ]
    refine tail_free (i := 1) (v := ?_) rfl (by kernel_rfl) (by kernel_rfl) (by kernel_rfl) (by kernel_rfl) (fun _ _ _ h => h) (Or.inl ⟨by kernel_rfl, ?_⟩) (fun _ => hF) ?_
    rotate_left
    · intro wh hSw
      go_simp
      try with_reducible rfl
    try simp only [Act.put, List.getElem_toArray, List.getElem_cons_zero, List.getElem_cons_succ, List.setIfInBounds_toArray, List.set_cons_zero, List.set_cons_succ]
    refine tail_free (i := 2) (v := ?_) rfl (by kernel_rfl) (by kernel_rfl) (by kernel_rfl) (by kernel_rfl) (fun _ _ _ h => h) (Or.inl ⟨by kernel_rfl, ?_⟩) (fun _ => hF) ?_
    rotate_left
    · intro wh hSw
      go_simp
      try with_reducible rfl
    try simp only [Act.put, List.getElem_toArray, List.getElem_cons_zero, List.getElem_cons_succ, List.setIfInBounds_toArray, List.set_cons_zero, List.set_cons_succ]
    refine tail_take (i := 3) (v := ?_) rfl (by kernel_rfl) (by kernel_rfl) (by kernel_rfl) (by kernel_rfl) (fun _ _ _ h => h) (Or.inl ⟨by kernel_rfl, ?_⟩) hF ?_
    rotate_left
    · intro wh hSw
      have hcell := hSw.1
      go_simp
      try with_reducible rfl
    try simp only [Act.put, List.getElem_toArray, List.getElem_cons_zero, List.getElem_cons_succ, List.setIfInBounds_toArray, List.set_cons_zero, List.set_cons_succ]
    refine tail_take (i := 4) rfl (by kernel_rfl) (by kernel_rfl) (by kernel_rfl) (by kernel_rfl) (fun _ _ _ h => h) (yieldsIf_load_want (by kernel_rfl) 30 _ rfl _ rfl _ (fun wh hSw => ld30 hSw.2)) hF ?_
    try simp only [Act.put, List.getElem_toArray, List.getElem_cons_zero, List.getElem_cons_succ, List.setIfInBounds_toArray, List.set_cons_zero, List.set_cons_succ]
    refine tail_ready (rs := [5]) (by kernel_rfl) (by simp) (AllReadyT.last rfl (by kernel_rfl) (fun K hK => ?_) AllReadyT.nil)
    clear hF
    refine step_delete rfl (.tmp 31) (.tmp 32) 48 30 rfl _ _ rfl rfl (run_delete H3.out.1 hk.out _) ?_
    refine hK.out _ _ ?_
    clear hK K
    try simp only [Act.put, List.getElem_toArray, List.getElem_cons_zero, List.getElem_cons_succ, List.setIfInBounds_toArray, List.set_cons_zero, List.set_cons_succ]
    refine tail_done (by kernel_rfl) ?_ _
    go_wp2
    go_ret
    exact ⟨rfl, H3.out.2.1.tm, H3.out.2.2.1.trans ((setMap_fr D3 mb _ _).mono (fun k _ hk => hk ▸ H3.out.2.2.2))⟩
end Go.Proofs.Ytepenfgoejhofaa
