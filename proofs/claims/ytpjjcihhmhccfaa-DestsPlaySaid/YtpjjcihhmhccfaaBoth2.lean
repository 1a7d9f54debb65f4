/- Both sides, act by act: a redirect, a lower mtu, a look. No condition. -/
import Derived.Test.YtpjjcihhmhccfaaBoth
namespace Go.Proofs.Ytpjjcihhmhccfaa
open Go.ChangeShapes Go.WideShapes Go.ChangeAt Go.RowKit Go.Deep
set_option linter.unusedVariables false
set_option linter.unusedSimpArgs false

section
variable {w0 w W : World} {B M : Nat} {os os' : List En} {es es' : List E} {L : List Bx} {x y : List Int} {now mtu : Int}
theorem redirect_half (h : Both w0 w B M os L) (hx : IsAddr x) (hy : IsAddr y) :
    Calls Try.prog 14 #[ptr B, .agg (bytesV x), .agg (bytesV y)] w fun r w' => (∃ z, r = .returned z) ∧ ∃ os', Half w0 w' B M os' (os.map (·.2)) L ∧ os'.map (·.2) = frontE ((oldE x (os.map (·.2))).1, y, (oldE x (os.map (·.2))).2.2) (os.map (·.2)) ∧ Nbo os' := by
  obtain ⟨⟨v, Lr, h1, h2, h3, h4⟩, hn⟩ := h
  refine (redirect_more w h1 x y hx hy).mono ?_
  rintro r w' ⟨hz, b, e, rest, hmk, hnr, hc⟩
  exact ⟨hz, _, ⟨v, Lr, hc, mid_cache h1 h2 h3 hc, h3, h4⟩, link_red h1.nb.1 h1.nb.2.1 h1.nb.2.2 hmk hnr, nbo_red hn hmk⟩
theorem redirect_both (h : Half w0 w B M os' es L) (heq : os'.map (·.2) = frontE ((oldE x es).1, y, (oldE x es).2.2) es) (hn : Nbo os') (hx : IsAddr x) (hy : IsAddr y) :
    Calls Try.prog 17 #[ptr M, .agg (bytesV x), .agg (bytesV y)] w fun r w' => (∃ z, r = .returned z) ∧ Both w0 w' B M os' L := by
  obtain ⟨v, Lr, h1, h2, h3, h4⟩ := h
  refine (redirect_ref w h2 x y hx hy).mono ?_
  rintro r w' ⟨hz, ht⟩
  obtain ⟨v', Lr', g1, g2, g3⟩ := mid_ref h1 h2 h3 h4 ht
  exact ⟨hz, ⟨v', Lr', g1, by rw [heq]; exact g2, g3, h4⟩, hn⟩
theorem of_half (h : Both w0 w B M os L) (hx : IsAddr x) :
    Calls Try.prog 12 #[ptr B, .agg (bytesV x)] w fun r w' => r = .returned (.agg (encV (oldE x (os.map (·.2))))) ∧ Half w0 w' B M (tch x os) (os.map (·.2)) L ∧ (tch x os).map (·.2) = ofL x (os.map (·.2)) ∧ Nbo (tch x os) := by
  obtain ⟨⟨v, Lr, h1, h2, h3, h4⟩, hn⟩ := h
  refine (of_any w h1 x hx).mono ?_
  rintro r w' ⟨hz, hc⟩
  exact ⟨by rw [hz, link_of h1.nb.1 h1.nb.2.1], ⟨v, Lr, hc, mid_cache h1 h2 h3 hc, h3, h4⟩, link_tch h1.nb.1 h1.nb.2.1 h1.nb.2.2 hn, nbo_tch hn⟩
theorem of_both (h : Half w0 w B M os' es L) (heq : os'.map (·.2) = ofL x es) (hn : Nbo os') (hx : IsAddr x) :
    Calls Try.prog 20 #[ptr M, .agg (bytesV x)] w fun r w' => r = .returned (.agg (encV (oldE x es))) ∧ Both w0 w' B M os' L := by
  obtain ⟨v, Lr, h1, h2, h3, h4⟩ := h
  refine (of_ref w h2 x hx).mono ?_
  rintro r w' ⟨hz, ht⟩
  obtain ⟨v', Lr', g1, g2, g3⟩ := mid_ref h1 h2 h3 h4 ht
  exact ⟨hz, ⟨v', Lr', g1, by rw [heq]; exact g2, g3, h4⟩, hn⟩
/-- What both say of a lower mtu, and the list that both come to. -/
def LowL (now m : Int) (x : List Int) (es : List E) : List E := if lowR m (oldE x es) then es else frontE (lowE now m (oldE x es)) es
theorem lower_half (h : Both w0 w B M os L) (hx : IsAddr x) (hn0 : 0 ≤ now) (hn1 : now ≤ 18446744073709551615) (hm0 : 0 ≤ mtu) (hm1 : mtu ≤ 4294967295) :
    Calls Try.prog 10 #[ptr B, .int .u64 now, .agg (bytesV x), .int .u32 mtu] w fun r w' => r = .returned (.bool (!lowR (lowM mtu) (oldE x (os.map (·.2))))) ∧ ∃ os', Half w0 w' B M os' (os.map (·.2)) L ∧ os'.map (·.2) = LowL now (lowM mtu) x (os.map (·.2)) ∧ Nbo os' := by
  obtain ⟨⟨v, Lr, h1, h2, h3, h4⟩, hn⟩ := h
  refine (lower_any w h1 now mtu x hx hn0 hn1 hm0 hm1).mono ?_
  have hno := link_no (m := lowM mtu) (x := x) h1.nb.1 h1.nb.2.1 (fun o ho => (h1.ent ho).2)
  rintro r w' (⟨hl, hz, hc⟩ | ⟨hl, hz, b, e, rest, hmk, hc⟩)
  · rw [hno] at hl
    exact ⟨by rw [hz, hl]; rfl, os, ⟨v, Lr, hc, mid_cache h1 h2 h3 hc, h3, h4⟩, by rw [LowL, if_pos hl], hn⟩
  · rw [hno] at hl
    have h128 : 1280 ≤ lowM mtu := Int.le_max_right _ _
    exact ⟨by rw [hz, hl]; rfl, _, ⟨v, Lr, hc, mid_cache h1 h2 h3 hc, h3, h4⟩, by rw [LowL, if_neg (by rw [hl]; decide)]; exact link_low h1.nb.1 h1.nb.2.1 h1.nb.2.2 h128 hmk, nbo_low hn hmk h128⟩
theorem lower_both (h : Half w0 w B M os' es L) (heq : os'.map (·.2) = LowL now (lowM mtu) x es) (hn : Nbo os') (hx : IsAddr x) (hn0 : 0 ≤ now) (hn1 : now ≤ 18446744073709551615) (hm0 : 0 ≤ mtu) (hm1 : mtu ≤ 4294967295) :
    Calls Try.prog 18 #[ptr M, .int .u64 now, .agg (bytesV x), .int .u32 mtu] w fun r w' => r = .returned (.bool (!lowR (lowM mtu) (oldE x es))) ∧ Both w0 w' B M os' L := by
  obtain ⟨v, Lr, h1, h2, h3, h4⟩ := h
  refine (lower_ref w h2 now mtu x hx hn0 hn1 hm0 hm1).mono ?_
  rintro r w' (⟨hl, hz, ht⟩ | ⟨hl, hz, ht⟩)
  · obtain ⟨v', Lr', g1, g2, g3⟩ := mid_ref h1 h2 h3 h4 ht
    exact ⟨by rw [hz, hl]; rfl, ⟨v', Lr', g1, by rw [heq, LowL, if_pos hl]; exact g2, g3, h4⟩, hn⟩
  · obtain ⟨v', Lr', g1, g2, g3⟩ := mid_ref h1 h2 h3 h4 ht
    exact ⟨by rw [hz, hl]; rfl, ⟨v', Lr', g1, by rw [heq, LowL, if_neg (by rw [hl]; decide)]; exact g2, g3, h4⟩, hn⟩
end
end Go.Proofs.Ytpjjcihhmhccfaa
