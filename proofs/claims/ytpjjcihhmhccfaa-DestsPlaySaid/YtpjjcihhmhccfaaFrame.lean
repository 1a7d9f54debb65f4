/- A cache, where its boxes are turned from outside. Of no function; no condition. -/
import Derived.Test.YtpjjcihhmhccfaaNb
namespace Go.Proofs.Ytpjjcihhmhccfaa
open Go.ChangeShapes Go.WideShapes Go.ChangeAt Go.RowKit Go.Deep
set_option linter.unusedVariables false
set_option linter.unusedSimpArgs false

theorem ids_eq (B bm : Nat) (es : List (Nat × E)) (L : List Bx) : ids B bm es L = (B :: bm :: es.map (·.1)) ++ L.map (·.1) := rfl
/-- Boxes turned from outside: each is one of the old ones, or new. -/
theorem Ch.turnL {w0 W V : World} {B : Nat} {os : List En} {L L' : List Bx} {S : Nat → Prop} (h : Ch w0 W B os L) (hf : Fr S W V) (hS : ∀ k, S k → k ∈ L.map (·.1)) (hlo : ∀ k, S k → w0.heap.size ≤ k)
    (hb : ∀ x ∈ L', Blk V x.1 x.2.1 x.2.2) (hn : (L'.map (·.1)).Nodup) (hw : ∀ k ∈ L'.map (·.1), k ∈ L.map (·.1) ∨ W.heap.size ≤ k) : Ch w0 V B os L' := by
  obtain ⟨bm, v, ps, ms, ck, es, h1, h2⟩ := h
  have hnd := h1.nd
  rw [ids_eq, List.nodup_append] at hnd
  obtain ⟨n1, n2, n3⟩ := hnd
  have hlt : ∀ k ∈ (B :: bm :: es.map (·.1)), k < W.heap.size := fun k hk => h1.lt (by rw [ids_eq]; exact List.mem_append_left _ hk)
  have hno : ∀ k ∈ (B :: bm :: es.map (·.1)), k ∉ L'.map (·.1) := fun k hk hk' => by
    rcases hw k hk' with h | h
    · exact n3 k hk k h rfl
    · have := hlt k hk; omega
  have hSI : ∀ k ∈ (B :: bm :: es.map (·.1)), ¬ S k := fun k hk hs => n3 k hk k (hS k hs) rfl
  have hown : ∀ k, v.ownBlock = some k → ¬ S k := fun k hk hs => h1.away k hk (by rw [ids_eq]; exact List.mem_append_right _ (hS k hs))
  refine ⟨bm, v, ps, ms, ck, es, ⟨h1.blk.fr hf (hSI _ (by simp)), ownRow_fr h1.own hf hown, h1.map.fr hf (hSI _ (by simp)), fun e he => (h1.ent e he).fr hf (hSI _ (by simp only [List.mem_cons, List.mem_map]; exact .inr (.inr ⟨e, he, rfl⟩))), hb, ?_, fun k hk => ?_, h1.lo, h1.keys, h1.born, h1.ok, h1.pt, h1.bel.trans (hf.below h1.bel.size hlo)⟩, h2⟩
  · rw [ids_eq, List.nodup_append]
    exact ⟨n1, hn, fun a ha c hc e => hno a ha (by rw [e]; exact hc)⟩
  · rw [ids_eq, List.mem_append]
    rintro (h' | h')
    · exact h1.away k hk (by rw [ids_eq]; exact List.mem_append_left _ h')
    · rcases hw k h' with h'' | h''
      · exact h1.away k hk (by rw [ids_eq]; exact List.mem_append_right _ h'')
      · have := (h1.own.lt k hk).2; omega
end Go.Proofs.Ytpjjcihhmhccfaa
