/- A set that a call has made, and boxes beside it: what each act leaves. No condition. -/
import Derived.Test.YtepenfgoejhofaaDue
namespace Go.Proofs.Ytepenfgoejhofaa
open Go.ChangeShapes Go.WideShapes Go.ChangeAt Go.RowKit Go.Deep
set_option linter.unusedVariables false
set_option linter.unusedSimpArgs false

abbrev Bx := Nat × TypeId × Array Value
structure Cl (w W : World) (F : Nat → Prop) (B : Nat) (m : List T3) (X : List Bx) : Prop where
  tm : Tm W F B m
  lo : ∀ k, F k → w.heap.size ≤ k
  bel : Below w.heap.size w W
  ex : ∀ x ∈ X, Blk W x.1 x.2.1 x.2.2 ∧ ¬ F x.1
def CL (w W : World) (B : Nat) (m : List T3) (X : List Bx) : Prop := ∃ F, Cl w W F B m X
section
variable {w W W' : World} {F F' : Nat → Prop} {B : Nat} {m m' : List T3} {X : List Bx}
theorem Cl.gr (h : Cl w W F B m X) (ht : Tm W' F' B m') (hg : Gr F W F' W') : Cl w W' F' B m' X :=
  ⟨ht, fun k hk => by
    rcases hg.mor k hk with h1 | h1
    · exact h.lo k h1
    · have := h.bel.size; omega, h.bel.trans (hg.fr.below h.bel.size h.lo), fun x hx => ⟨(h.ex x hx).1.fr hg.fr (h.ex x hx).2, fun hF => by
    rcases hg.mor _ hF with h1 | h1
    · exact (h.ex x hx).2 h1
    · have := (h.ex x hx).1.lt; omega⟩⟩
theorem CL.bl (h : CL w W B m X) (hb : Below W.heap.size W W') : CL w W' B m X := by
  obtain ⟨F, h⟩ := h
  exact ⟨F, h.gr (h.tm.bel hb) (Gr.same (Fr.of_below hb F))⟩
theorem CL.draw (h : CL w W B m X) : CL w W.drew B m X := h.bl (Below.refl _ W).drew
theorem CL.box (h : CL w W B m X) (t : TypeId) (cs : Array Value) {b : Nat} (hb : W.heap.size = b) : CL w (W.alloc (.cells cs t)) B m ((b, t, cs) :: X) := by
  obtain ⟨F, h⟩ := h
  have hB : Below W.heap.size W (W.alloc (.cells cs t)) := (Below.refl _ W).alloc (Nat.le_refl _) _
  have h2 := h.gr (h.tm.bel hB) (Gr.same (Fr.of_below hB F))
  refine ⟨F, h2.tm, h2.lo, h2.bel, fun x hx => ?_⟩
  rcases List.mem_cons.1 hx with rfl | hx
  · refine ⟨by rw [← hb]; exact Blk.new W t cs, fun hF => ?_⟩
    have := h.tm.bd _ hF; omega
  · exact h2.ex x hx
theorem CL.blk (h : CL w W B m X) {x : Bx} (hx : x ∈ X) : Blk W x.1 x.2.1 x.2.2 := by
  obtain ⟨F, h⟩ := h
  exact (h.ex x hx).1
theorem CL.drop (h : CL w W B m X) {Y : List Bx} (hY : ∀ x ∈ Y, x ∈ X) : CL w W B m Y := by
  obtain ⟨F, h⟩ := h
  exact ⟨F, h.tm, h.lo, h.bel, fun x hx => h.ex x (hY x hx)⟩
theorem CL.bel (h : CL w W B m X) : Below w.heap.size w W := by
  obtain ⟨F, h⟩ := h
  exact h.bel
theorem CL.nd (h : CL w W B m X) : (m.map kOf).Nodup := by
  obtain ⟨F, h⟩ := h
  exact h.tm.nd
theorem CL.ist (h : CL w W B m X) : ∀ t ∈ m, IsT t := by
  obtain ⟨F, h⟩ := h
  exact h.tm.ist
theorem CL.mx (h : CL w W B m X) : m.length ≤ 256 := by
  obtain ⟨F, h⟩ := h
  exact h.tm.mx
/-- A box beside it is written. -/
theorem CL.put {b : Nat} {t : TypeId} {cs : Array Value} (h : CL w W B m ((b, t, cs) :: X)) (hlo : w.heap.size ≤ b) (hX : ∀ x ∈ X, x.1 ≠ b) (hf : Fr (· = b) W W') {cs' : Array Value} (hb : Blk W' b t cs') : CL w W' B m ((b, t, cs') :: X) := by
  obtain ⟨F, h⟩ := h
  have hFb := (h.ex (b, t, cs) (by simp)).2
  refine ⟨F, h.tm.fr hf (fun k hk e => hFb (e ▸ hk)), h.lo, h.bel.trans (hf.below h.bel.size (fun k hk => hk ▸ hlo)), fun x hx => ?_⟩
  rcases List.mem_cons.1 hx with rfl | hx
  · exact ⟨hb, hFb⟩
  · have := h.ex x (List.mem_cons_of_mem _ hx)
    exact ⟨this.1.fr hf (hX x hx), this.2⟩
theorem new_cl (w W : World) (hw : Below w.heap.size w W) : Calls Try.prog 8 #[] W fun r W' => ∃ B, r = .returned (ptr B) ∧ CL w W' B [] [] ∧ Below W.heap.size W W' ∧ W.heap.size ≤ B :=
  (new_any W).mono fun r W' ⟨B, F, h1, h2, h3, h4⟩ => by
    have hFB : F B := by
      obtain ⟨mb, ck, ms, A, n, c, L, h⟩ := h2
      exact h.hp.fb.1
    exact ⟨B, h1, ⟨F, h2, fun k hk => by have := h3 k hk; have := hw.size; omega, hw.trans (h4.mono hw.size), fun x hx => by simp at hx⟩, h4, h3 B hFB⟩
theorem arm_cl (W : World) (h : CL w W B m X) (k : K2) (hk : IsK k) (a : Int) (ha : 0 ≤ a ∧ a ≤ 18446744073709551615) : Calls Try.prog 9 #[ptr B, .agg (keyV k), .int .u64 a] W fun r W' => r = .returned (.int .i64 (armM m k a).1) ∧ CL w W' B (armM m k a).2 X := by
  obtain ⟨F, h⟩ := h
  exact (arm_any W h.tm k hk a ha).mono fun r W' ⟨h1, F', h2, h3⟩ => ⟨h1, F', h.gr h2 h3⟩
theorem cancel_cl (W : World) (h : CL w W B m X) (k : K2) (hk : IsK k) : Calls Try.prog 17 #[ptr B, .agg (keyV k)] W fun r W' => r = .returned (.bool (canM m k).1) ∧ CL w W' B (canM m k).2 X := by
  obtain ⟨F, h⟩ := h
  exact (cancel_any W h.tm k hk).mono fun r W' ⟨h1, h2, h3⟩ => ⟨h1, F, h.gr h2 (Gr.same h3)⟩
theorem due_cl (W : World) (h : CL w W B m X) (now : Int) : Calls Try.prog 11 #[ptr B, .int .u64 now] W fun r W' => r = .returned (nextV (dueM m now).1) ∧ CL w W' B (dueM m now).2 X := by
  obtain ⟨F, h⟩ := h
  exact (due_any W h.tm now).mono fun r W' ⟨h1, h2, h3⟩ => ⟨h1, F, h.gr h2 (Gr.same h3)⟩
theorem next_cl (W : World) (h : CL w W B m X) : Calls Try.prog 13 #[ptr B] W fun r W' => r = .returned (nextV (bestM m)) ∧ CL w W' B m X := by
  have h' := h
  obtain ⟨F, h⟩ := h
  exact (next_any W h.tm).mono fun r W' ⟨h1, h2⟩ => ⟨h1, h'.bl h2⟩
theorem at_cl (W : World) (h : CL w W B m X) (k : K2) (hk : IsK k) : Calls Try.prog 16 #[ptr B, .agg (keyV k)] W fun r W' => r = .returned (atV m k) ∧ CL w W' B m X := by
  have h' := h
  obtain ⟨F, h⟩ := h
  exact (at_any W h.tm k hk).mono fun r W' ⟨h1, h2⟩ => ⟨h1, h'.bl h2⟩
theorem size_cl (W : World) (h : CL w W B m X) : Calls Try.prog 10 #[ptr B] W fun r W' => r = .returned (.int .i64 m.length) ∧ W = W' := by
  obtain ⟨F, h⟩ := h
  exact size_any W h.tm
theorem timer_cl (W : World) (h : CL w W B m X) (k i : Int) : Calls Try.prog 18 #[.int .u8 k, .int .u64 i] W fun r W' => r = .returned (.agg (keyV (k, i))) ∧ CL w W' B m X :=
  (timer_any W k i).mono fun r W' ⟨h1, h2⟩ => ⟨h1, h.bl h2⟩
end
end Go.Proofs.Ytepenfgoejhofaa
