/- What came in at this seat's laws, opened: acts, pairs of words. No condition. -/
import Derived.Test.YtgalphhamdemfaaLives
import Derived.Test.YtgalphhamdemfaaTwin
import Derived.Test.YtgalphhamdemfaaOpen
namespace Go.Proofs.Ytgalphhamdemfaa
open Go.ChangeShapes Go.WideShapes Go.ChangeAt Go.RowKit Go.Deep
set_option linter.unusedVariables false

theorem own : ownKnob Try.prog.godebug = none := by kernel_rfl
theorem laidOut : laidOutB Try.prog = true := by kernel_rfl
theorem u32b {a : Int} (h : (Lit.int .u32 a).wf = true) : 0 ≤ a ∧ a ≤ 4294967295 := by
  have := bounds_u32 h; omega

/-- One act: its kind, its words, its bound. -/
structure ActV where
  kind : Int
  A : Option Addr
  n : Nat
  c : Nat
  xs : List Int
  N : Int
deriving Inhabited

/-- The acts that came in, in block b from off on. -/
structure IsActs (w : World) (A : Option Addr) (n c : Nat) (z : Nat → ActV) : Prop where
  cap : n ≤ c
  cmax : c ≤ maxLen
  at_ : 0 < n → ∃ b off, A = some ⟨b, off, none⟩ ∧ b < w.heap.size ∧ ∀ i, i < n →
    w.cell? ⟨b, off + i * 3, none⟩ = some (.int .u8 (z i).kind) ∧ w.cell? ⟨b, off + i * 3 + 1, none⟩ = some (.slice (z i).A (z i).n (z i).c) ∧ w.cell? ⟨b, off + i * 3 + 2, none⟩ = some (.int .u32 (z i).N)
  small : ∀ i, i < n → (z i).c * 4 ≤ 140737488351232
  kind : ∀ i, i < n → 0 ≤ (z i).kind ∧ (z i).kind ≤ 255
  bound : ∀ i, i < n → 0 ≤ (z i).N ∧ (z i).N ≤ 4294967295
  rd : ∀ i, i < n → Rd w w.heap.size 1 (z i).A (z i).n (z i).c ((z i).xs.map (Value.int .u32))
  rng : ∀ i, i < n → ∀ x ∈ (z i).xs, 0 ≤ x ∧ x ≤ 4294967295

theorem open_acts {H : Type} {enc : TypeId × Value → H} {W : World} {r : Reach} {b0 : Nat} {v : Value} {d : DataW H} {p : List MemPlace} (hv : Value.okWide Try.prog W r b0 22 v) (h : DataW.Trod enc Try.prog W 0 (fun _ => true) true 22 v d p) (hw : Fit Try.prog 22 d) :
    ∃ A n c z, v = .slice A n c ∧ IsActs W A n c z := by
  obtain ⟨A, n, c, rfl⟩ := okWide_slice Try.underlying22 hv
  obtain ⟨fuel, hf⟩ := h
  obtain ⟨A', n', c', xs, ev, hrd, _, hel⟩ := slice_rd (sz := 3) Try.underlying22 (by kernel_rfl) (by omega) hf hw
  simp only [Value.cells, List.cons.injEq, and_true, Value.slice.injEq] at ev
  obtain ⟨rfl, rfl, rfl⟩ := ev
  have hl := hrd.len
  have each : ∀ i, i < n → ∃ a : ActV, xs[i * 3]? = some (.int .u8 a.kind) ∧ xs[i * 3 + 1]? = some (.slice a.A a.n a.c) ∧ xs[i * 3 + 2]? = some (.int .u32 a.N) ∧ (0 ≤ a.kind ∧ a.kind ≤ 255) ∧ (0 ≤ a.N ∧ a.N ≤ 4294967295) ∧
      Rd W W.heap.size 1 a.A a.n a.c (a.xs.map (Value.int .u32)) ∧ a.c * 4 ≤ 140737488351232 ∧ ∀ x ∈ a.xs, 0 ≤ x ∧ x ≤ 4294967295 := by
    intro i hi
    obtain ⟨m, y, hy, hfy⟩ := hel i hi
    obtain ⟨_, hfs⟩ := struct_one Try.underlying33 (by kernel_rfl) (by kernel_rfl) hy hfy
    obtain ⟨_, v0, _, f0, g0, h0⟩ := hfs 0 _ rfl
    obtain ⟨_, v1, _, f1, g1, h1⟩ := hfs 1 _ rfl
    obtain ⟨_, v2, _, f2, g2, h2⟩ := hfs 2 _ rfl
    rw [List.getElem?_take_of_lt (by omega), List.getElem?_drop] at f0 f1 f2
    obtain ⟨kd, k1, _, k3⟩ := DataW.trod_int Try.underlying5 g0
    have b31 : Try.prog.bytesOf 31 = 4 := by kernel_rfl
    obtain ⟨A2, n2, c2', xs2, l1, l2, l4, l3⟩ := ints_rd Try.underlying28 Try.underlying31 (by kernel_rfl) g1 h1
    rw [b31] at l4
    obtain ⟨N, n1, _, n3⟩ := DataW.trod_int Try.underlying31 g2
    simp only [List.cons.injEq, and_true] at k1 l1 n1
    subst k1 l1 n1
    exact ⟨⟨kd, A2, n2, c2', xs2, N⟩, f0, f1, f2, bounds_u8 k3, u32b n3, l2, l4, fun x hx => u32b (l3 x hx)⟩
  obtain ⟨z, hz⟩ := choose_lt each
  refine ⟨A, n, c, z, rfl, hrd.cap, hrd.cmax, fun hn => ?_, fun i hi => (hz i hi).2.2.2.2.2.2.1, fun i hi => (hz i hi).2.2.2.1, fun i hi => (hz i hi).2.2.2.2.1, fun i hi => (hz i hi).2.2.2.2.2.1, fun i hi => (hz i hi).2.2.2.2.2.2.2⟩
  obtain ⟨b, off, e, hb, hc⟩ := hrd.at_ hn
  exact ⟨b, off, e, hb, fun i hi => ⟨hc _ _ (hz i hi).1, by rw [Nat.add_assoc]; exact hc _ _ (hz i hi).2.1, by rw [Nat.add_assoc]; exact hc _ _ (hz i hi).2.2.1⟩⟩
end Go.Proofs.Ytgalphhamdemfaa
