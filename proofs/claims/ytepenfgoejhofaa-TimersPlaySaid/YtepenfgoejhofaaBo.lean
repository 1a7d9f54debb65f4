/- The program's set and the document's, side by side: what each act leaves. No condition. -/
import Derived.Test.YtepenfgoejhofaaRfC
namespace Go.Proofs.Ytepenfgoejhofaa
open Go.ChangeShapes Go.WideShapes Go.ChangeAt Go.RowKit Go.Deep
set_option linter.unusedVariables false
set_option linter.unusedSimpArgs false

structure BoI (w W : World) (F G : Nat → Prop) (B M : Nat) (m1 m2 : List T3) (X : List Bx) : Prop where
  cl : Cl w W F B m1 X
  rg : Rg W G M m2
  dis : ∀ k, G k → ¬ F k
  lo : ∀ k, G k → w.heap.size ≤ k
  ex : ∀ x ∈ X, ¬ G x.1
def Bo (w W : World) (B M : Nat) (m1 m2 : List T3) (X : List Bx) : Prop := ∃ F G, BoI w W F G B M m1 m2 X
section
variable {w W W' : World} {F F' G G' : Nat → Prop} {B M : Nat} {m1 m2 m m' : List T3} {X : List Bx}
theorem Rg.bd (h : Rg W G M m) : ∀ k, G k → k < W.heap.size := by
  obtain ⟨A, n, c, h⟩ := h
  exact h.bd
theorem Rg.fM (h : Rg W G M m) : G M := by
  obtain ⟨A, n, c, h⟩ := h
  exact h.fM
theorem BoI.set (h : BoI w W F G B M m1 m2 X) (ht : Tm W' F' B m) (hg : Gr F W F' W') : Bo w W' B M m m2 X :=
  ⟨F', G, h.cl.gr ht hg, h.rg.fr hg.fr (fun k hk => h.dis k hk), fun k hk hF => by
    rcases hg.mor k hF with h1 | h1
    · exact h.dis k hk h1
    · have := h.rg.bd k hk; omega, h.lo, h.ex⟩
theorem BoI.ref (h : BoI w W F G B M m1 m2 X) (hr : Rg W' G' M m) (hg : Gr G W G' W') : Bo w W' B M m1 m X :=
  ⟨F, G', ⟨h.cl.tm.fr hg.fr (fun k hk hG => h.dis k hG hk), h.cl.lo, h.cl.bel.trans (hg.fr.below h.cl.bel.size h.lo), fun x hx => ⟨(h.cl.ex x hx).1.fr hg.fr (h.ex x hx), (h.cl.ex x hx).2⟩⟩, hr, fun k hk hF => by
    rcases hg.mor k hk with h1 | h1
    · exact h.dis k h1 hF
    · have := h.cl.tm.bd k hF; omega, fun k hk => by
    rcases hg.mor k hk with h1 | h1
    · exact h.lo k h1
    · have := h.cl.bel.size; omega, fun x hx hG => by
    rcases hg.mor _ hG with h1 | h1
    · exact h.ex x hx h1
    · have := (h.cl.ex x hx).1.lt; omega⟩
theorem Bo.bl (h : Bo w W B M m1 m2 X) (hb : Below W.heap.size W W') : Bo w W' B M m1 m2 X := by
  obtain ⟨F, G, h⟩ := h
  exact ⟨F, G, h.cl.gr (h.cl.tm.bel hb) (Gr.same (Fr.of_below hb F)), h.rg.to hb, h.dis, h.lo, h.ex⟩
theorem Bo.draw (h : Bo w W B M m1 m2 X) : Bo w W.drew B M m1 m2 X := h.bl (Below.refl _ W).drew
theorem Bo.cl (h : Bo w W B M m1 m2 X) : CL w W B m1 X := by
  obtain ⟨F, G, h⟩ := h
  exact ⟨F, h.cl⟩
theorem Bo.bel (h : Bo w W B M m1 m2 X) : Below w.heap.size w W := h.cl.bel
theorem Bo.blk (h : Bo w W B M m1 m2 X) {x : Bx} (hx : x ∈ X) : Blk W x.1 x.2.1 x.2.2 := h.cl.blk hx
theorem Bo.drop (h : Bo w W B M m1 m2 X) {Y : List Bx} (hY : ∀ x ∈ Y, x ∈ X) : Bo w W B M m1 m2 Y := by
  obtain ⟨F, G, h⟩ := h
  exact ⟨F, G, ⟨h.cl.tm, h.cl.lo, h.cl.bel, fun x hx => h.cl.ex x (hY x hx)⟩, h.rg, h.dis, h.lo, fun x hx => h.ex x (hY x hx)⟩
theorem Bo.box (h : Bo w W B M m1 m2 X) (t : TypeId) (cs : Array Value) {b : Nat} (hb : W.heap.size = b) : Bo w (W.alloc (.cells cs t)) B M m1 m2 ((b, t, cs) :: X) := by
  obtain ⟨F, G, h⟩ := h
  have hB : Below W.heap.size W (W.alloc (.cells cs t)) := (Below.refl _ W).alloc (Nat.le_refl _) _
  have h2 := h.cl.gr (h.cl.tm.bel hB) (Gr.same (Fr.of_below hB F))
  refine ⟨F, G, ⟨h2.tm, h2.lo, h2.bel, fun x hx => ?_⟩, h.rg.to hB, h.dis, h.lo, fun x hx => ?_⟩
  · rcases List.mem_cons.1 hx with rfl | hx
    · refine ⟨by rw [← hb]; exact Blk.new W t cs, fun hF => ?_⟩
      have := h.cl.tm.bd _ hF; omega
    · exact h2.ex x hx
  · rcases List.mem_cons.1 hx with rfl | hx
    · intro hG
      have := h.rg.bd _ hG; omega
    · exact h.ex x hx
/-- A box beside both is written. -/
theorem Bo.put {b : Nat} {t : TypeId} {cs : Array Value} (h : Bo w W B M m1 m2 ((b, t, cs) :: X)) (hlo : w.heap.size ≤ b) (hX : ∀ x ∈ X, x.1 ≠ b) (hf : Fr (· = b) W W') {cs' : Array Value} (hb : Blk W' b t cs') : Bo w W' B M m1 m2 ((b, t, cs') :: X) := by
  obtain ⟨F, G, h⟩ := h
  have hFb := (h.cl.ex (b, t, cs) (by simp)).2
  have hGb := h.ex (b, t, cs) (by simp)
  refine ⟨F, G, ⟨h.cl.tm.fr hf (fun k hk e => hFb (e ▸ hk)), h.cl.lo, h.cl.bel.trans (hf.below h.cl.bel.size (fun k hk => hk ▸ hlo)), fun x hx => ?_⟩, h.rg.fr hf (fun k hk e => hGb (e ▸ hk)), h.dis, h.lo, fun x hx => ?_⟩
  · rcases List.mem_cons.1 hx with rfl | hx
    · exact ⟨hb, hFb⟩
    · have := h.cl.ex x (List.mem_cons_of_mem _ hx)
      exact ⟨this.1.fr hf (hX x hx), this.2⟩
  · rcases List.mem_cons.1 hx with rfl | hx
    · exact hGb
    · exact h.ex x (List.mem_cons_of_mem _ hx)
theorem Bo.len (h : Bo w W B M m1 m2 X) : m2.length ≤ 256 ∧ ∃ A c, W.cell? ⟨M, 0, none⟩ = some (.slice A m2.length c) ∧ M < W.heap.size := by
  obtain ⟨F, G, h⟩ := h
  obtain ⟨A, n, c, hr⟩ := h.rg
  have h1 := hr.len
  subst h1
  exact ⟨hr.mx, A, c, hr.set.at_ (i := 0) rfl, hr.set.lt⟩
theorem start_bo (h : CL w W B [] []) {M : Nat} (hM : W.heap.size = M) : Bo w (W.alloc (.cells #[.slice none 0 0] 42)) B M [] [] [] := by
  obtain ⟨F, h⟩ := h
  have hB : Below W.heap.size W (W.alloc (.cells #[.slice none 0 0] 42)) := (Below.refl _ W).alloc (Nat.le_refl _) _
  have hn := Blk.new W 42 #[.slice none 0 0]
  rw [hM] at hn
  refine ⟨F, (· = M), h.gr (h.tm.bel hB) (Gr.same (Fr.of_below hB F)), ⟨none, 0, 0, rfl, hn, World.ownsRow_nil _ _ 72 3, rfl, fun k hk => by simp [Value.ownBlock] at hk, fun k hk => by subst hk; exact hn.lt, by omega⟩, fun k hk hF => by have := h.tm.bd k hF; omega, fun k hk => by have := h.bel.size; omega, fun x hx => by simp at hx⟩
theorem arm_bo (W : World) (h : Bo w W B M m1 m2 X) (k : K2) (hk : IsK k) (a : Int) (ha : 0 ≤ a ∧ a ≤ 18446744073709551615) : Calls Try.prog 9 #[ptr B, .agg (keyV k), .int .u64 a] W fun r W' => r = .returned (.int .i64 (armM m1 k a).1) ∧ Bo w W' B M (armM m1 k a).2 m2 X := by
  obtain ⟨F, G, h⟩ := h
  exact (arm_any W h.cl.tm k hk a ha).mono fun r W' ⟨h1, F', h2, h3⟩ => ⟨h1, h.set h2 h3⟩
theorem rarm_bo (W : World) (h : Bo w W B M m1 m2 X) (k : K2) (a : Int) : Calls Try.prog 21 #[ptr M, .agg (keyV k), .int .u64 a] W fun r W' => r = .returned (.int .i64 (armM m2 k a).1) ∧ Bo w W' B M m1 (armM m2 k a).2 X := by
  obtain ⟨F, G, h⟩ := h
  exact (rarm_any W h.rg k a).mono fun r W' ⟨h1, G', h2, h3⟩ => ⟨h1, h.ref h2 h3⟩
theorem cancel_bo (W : World) (h : Bo w W B M m1 m2 X) (k : K2) (hk : IsK k) : Calls Try.prog 17 #[ptr B, .agg (keyV k)] W fun r W' => r = .returned (.bool (canM m1 k).1) ∧ Bo w W' B M (canM m1 k).2 m2 X := by
  obtain ⟨F, G, h⟩ := h
  exact (cancel_any W h.cl.tm k hk).mono fun r W' ⟨h1, h2, h3⟩ => ⟨h1, h.set h2 (Gr.same h3)⟩
theorem rcancel_bo (W : World) (h : Bo w W B M m1 m2 X) (k : K2) : Calls Try.prog 22 #[ptr M, .agg (keyV k)] W fun r W' => r = .returned (.bool (canM m2 k).1) ∧ Bo w W' B M m1 (canM m2 k).2 X := by
  obtain ⟨F, G, h⟩ := h
  exact (rcancel_any W h.rg k).mono fun r W' ⟨h1, G', h2, h3⟩ => ⟨h1, h.ref h2 h3⟩
theorem due_bo (W : World) (h : Bo w W B M m1 m2 X) (now : Int) : Calls Try.prog 11 #[ptr B, .int .u64 now] W fun r W' => r = .returned (nextV (dueM m1 now).1) ∧ Bo w W' B M (dueM m1 now).2 m2 X := by
  obtain ⟨F, G, h⟩ := h
  exact (due_any W h.cl.tm now).mono fun r W' ⟨h1, h2, h3⟩ => ⟨h1, h.set h2 (Gr.same h3)⟩
theorem rdue_bo (W : World) (h : Bo w W B M m1 m2 X) (now : Int) : Calls Try.prog 23 #[ptr M, .int .u64 now] W fun r W' => r = .returned (nextV (dueM m2 now).1) ∧ Bo w W' B M m1 (dueM m2 now).2 X := by
  obtain ⟨F, G, h⟩ := h
  exact (rdue_any W h.rg now).mono fun r W' ⟨h1, G', h2, h3⟩ => ⟨h1, h.ref h2 h3⟩
theorem next_bo (W : World) (h : Bo w W B M m1 m2 X) : Calls Try.prog 13 #[ptr B] W fun r W' => r = .returned (nextV (bestM m1)) ∧ Bo w W' B M m1 m2 X := by
  have h' := h
  obtain ⟨F, G, h⟩ := h
  exact (next_any W h.cl.tm).mono fun r W' ⟨h1, h2⟩ => ⟨h1, h'.bl h2⟩
theorem rnext_bo (W : World) (h : Bo w W B M m1 m2 X) : Calls Try.prog 24 #[ptr M] W fun r W' => r = .returned (nextV (bestM m2)) ∧ Bo w W' B M m1 m2 X := by
  have h' := h
  obtain ⟨F, G, h⟩ := h
  exact (rnext_any W h.rg).mono fun r W' ⟨h1, h2⟩ => ⟨h1, h'.bl h2⟩
theorem at_bo (W : World) (h : Bo w W B M m1 m2 X) (k : K2) (hk : IsK k) : Calls Try.prog 16 #[ptr B, .agg (keyV k)] W fun r W' => r = .returned (atV m1 k) ∧ Bo w W' B M m1 m2 X := by
  have h' := h
  obtain ⟨F, G, h⟩ := h
  exact (at_any W h.cl.tm k hk).mono fun r W' ⟨h1, h2⟩ => ⟨h1, h'.bl h2⟩
theorem rat_bo (W : World) (h : Bo w W B M m1 m2 X) (k : K2) : Calls Try.prog 25 #[ptr M, .agg (keyV k)] W fun r W' => r = .returned (atV m2 k) ∧ Bo w W' B M m1 m2 X := by
  have h' := h
  obtain ⟨F, G, h⟩ := h
  exact (rat_any W h.rg k).mono fun r W' ⟨h1, h2⟩ => ⟨h1, h'.bl h2⟩
theorem size_bo (W : World) (h : Bo w W B M m1 m2 X) : Calls Try.prog 10 #[ptr B] W fun r W' => r = .returned (.int .i64 m1.length) ∧ W = W' := size_cl W h.cl
end
end Go.Proofs.Ytepenfgoejhofaa
