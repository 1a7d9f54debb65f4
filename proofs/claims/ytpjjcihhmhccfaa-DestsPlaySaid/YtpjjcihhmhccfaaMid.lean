/- Both sides in one world. Of no function; no condition. -/
import Derived.Test.YtpjjcihhmhccfaaFrame
namespace Go.Proofs.Ytpjjcihhmhccfaa
open Go.ChangeShapes Go.WideShapes Go.ChangeAt Go.RowKit Go.Deep
set_option linter.unusedVariables false
set_option linter.unusedSimpArgs false

theorem own_to {w W : World} {base : Nat} {t : TypeId} {size n : Nat} {v : Value} {xs : List Value} (h : w.ownsRow base t size v n xs) (hk : ∀ k, v.ownBlock = some k → W.heap[k]? = w.heap[k]?) : W.ownsRow base t size v n xs := by
  refine ⟨h.1, ?_⟩
  rcases h.2 with h' | ⟨g, cap, cur, hv, h1, h2, h3⟩
  · exact .inl h'
  · exact .inr ⟨g, cap, cur, hv, h1, (hk g (by rw [hv]; rfl)).trans h2, h3⟩
theorem Ch.boxB {w0 W : World} {B : Nat} {os : List En} {L : List Bx} (h : Ch w0 W B os L) {x : Bx} (hx : x ∈ L) : Blk W x.1 x.2.1 x.2.2 := by
  obtain ⟨bm, v, ps, ms, ck, es, h1, _⟩ := h
  exact h1.box x hx
/-- The reference stays where the cache's act keeps its boxes. -/
theorem mid_cache {w0 w W : World} {B M : Nat} {os os' : List En} {es : List E} {L Lr : List Bx} {v : Value} (h : Ch w0 w B os (L ++ (M, 49, #[v]) :: Lr)) (hr : Rf w M v es) (hv : ∀ k, v.ownBlock = some k → k ∈ Lr.map (·.1)) (h' : Ch w0 W B os' (L ++ (M, 49, #[v]) :: Lr)) : Rf W M v es :=
  ⟨h'.boxB (x := (M, 49, #[v])) (by simp), own_to hr.own (fun k hk => by
    obtain ⟨x, hx, rfl⟩ := List.mem_map.1 (hv k hk)
    have h1 := h.boxB (x := x) (by simp [hx])
    have h2 := h'.boxB (x := x) (by simp [hx])
    exact (show W.heap[x.1]? = _ from h2).trans (show w.heap[x.1]? = _ from h1).symm), hr.ok, hr.max⟩
end Go.Proofs.Ytpjjcihhmhccfaa
