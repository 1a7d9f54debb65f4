/- Both sides, act by act: a tick, a redirect. No condition. -/
import Derived.Test.YtpjjcihhmhccfaaMid2
namespace Go.Proofs.Ytpjjcihhmhccfaa
open Go.ChangeShapes Go.WideShapes Go.ChangeAt Go.RowKit Go.Deep
set_option linter.unusedVariables false
set_option linter.unusedSimpArgs false

/-- The cache has os, the reference es. -/
def Half (w0 W : World) (B M : Nat) (os : List En) (es : List E) (L : List Bx) : Prop :=
  ∃ v Lr, Ch w0 W B os (L ++ (M, 49, #[v]) :: Lr) ∧ Rf W M v es ∧ (∀ k, v.ownBlock = some k → k ∈ Lr.map (·.1)) ∧ w0.heap.size ≤ M
def Both (w0 W : World) (B M : Nat) (os : List En) (L : List Bx) : Prop := Half w0 W B M os (os.map (·.2)) L ∧ Nbo os
section
variable {w0 w W : World} {B M : Nat} {os os' : List En} {es es' : List E} {L : List Bx} {x y : List Int} {now : Int}
theorem Half.turn (h : Half w0 w B M os es L) (ht : ∀ v, Rf w M v es → TurnSays w M v es' W) : Half w0 W B M os es' L := by
  obtain ⟨v, Lr, h1, h2, h3, h4⟩ := h
  obtain ⟨v', Lr', g1, g2, g3⟩ := mid_ref h1 h2 h3 h4 (ht v h2)
  exact ⟨v', Lr', g1, g2, g3, h4⟩
theorem tick_half (h : Both w0 w B M os L) (hn0 : 0 ≤ now) (hn1 : now ≤ 18446744073709551615) :
    Calls Try.prog 11 #[ptr B, .int .u64 now] w fun r w' => (∃ z, r = .returned z) ∧ Half w0 w' B M (visO (dueE now) overE os) (os.map (·.2)) L ∧ Nbo os := by
  obtain ⟨⟨v, Lr, h1, h2, h3, h4⟩, hn⟩ := h
  refine (tick_any w h1 now hn0 hn1).mono ?_
  rintro r w' ⟨hz, hc⟩
  exact ⟨hz, ⟨v, Lr, hc, mid_cache h1 h2 h3 hc, h3, h4⟩, hn⟩
theorem tick_both (h : Half w0 w B M (visO (dueE now) overE os) (os.map (·.2)) L ∧ Nbo os) (hn0 : 0 ≤ now) (hn1 : now ≤ 18446744073709551615) :
    Calls Try.prog 22 #[ptr M, .int .u64 now] w fun r w' => (∃ z, r = .returned z) ∧ Both w0 w' B M (visO (dueE now) overE os) L := by
  obtain ⟨⟨v, Lr, h1, h2, h3, h4⟩, hn⟩ := h
  refine (tick_ref w h2 now hn0 hn1).mono ?_
  rintro r w' ⟨hz, ht⟩
  obtain ⟨v', Lr', g1, g2, g3⟩ := mid_ref h1 h2 h3 h4 ht
  exact ⟨hz, ⟨v', Lr', g1, by rw [link_tick hn]; exact g2, g3, h4⟩, nbo_vis hn⟩
theorem forget_half (h : Both w0 w B M os L) (hx : IsAddr x) :
    Calls Try.prog 16 #[ptr B, .agg (bytesV x)] w fun r w' => r = .returned (.int .i64 (forgN x os)) ∧ Half w0 w' B M (forgO x os) (os.map (·.2)) L ∧ Nbo os := by
  obtain ⟨⟨v, Lr, h1, h2, h3, h4⟩, hn⟩ := h
  refine (forget_any w h1 x hx).mono ?_
  rintro r w' ⟨hz, hc⟩
  exact ⟨hz, ⟨v, Lr, hc, mid_cache h1 h2 h3 hc, h3, h4⟩, hn⟩
theorem forget_both (h : Half w0 w B M (forgO x os) (os.map (·.2)) L ∧ Nbo os) (hx : IsAddr x) :
    Calls Try.prog 21 #[ptr M, .agg (bytesV x)] w fun r w' => r = .returned (.int .i64 (forgN x os)) ∧ Both w0 w' B M (forgO x os) L := by
  obtain ⟨⟨v, Lr, h1, h2, h3, h4⟩, hn⟩ := h
  refine (forget_ref w h2 x hx).mono ?_
  rintro r w' ⟨hz, ht⟩
  obtain ⟨v', Lr', g1, g2, g3⟩ := mid_ref h1 h2 h3 h4 ht
  exact ⟨by rw [hz, link_cnt], ⟨v', Lr', g1, by rw [link_forg hn]; exact g2, g3, h4⟩, nbo_forg hn⟩
end
end Go.Proofs.Ytpjjcihhmhccfaa
