/- Both sides in one world: what the reference's act leaves. Of no function; no condition. -/
import Derived.Test.YtpjjcihhmhccfaaMid
namespace Go.Proofs.Ytpjjcihhmhccfaa
open Go.ChangeShapes Go.WideShapes Go.ChangeAt Go.RowKit Go.Deep
set_option linter.unusedVariables false
set_option linter.unusedSimpArgs false

theorem Ch.nodupL {w0 W : World} {B : Nat} {os : List En} {L : List Bx} (h : Ch w0 W B os L) : (L.map (·.1)).Nodup ∧ ∀ x ∈ L, x.1 < W.heap.size := by
  obtain ⟨bm, v, ps, ms, ck, es, h1, _⟩ := h
  have hnd := h1.nd
  rw [ids_eq, List.nodup_append] at hnd
  exact ⟨hnd.2.1, fun x hx => (h1.box x hx).lt⟩
theorem mid_ref {w0 w W : World} {B M : Nat} {os : List En} {es es' : List E} {L Lr : List Bx} {v : Value} (h : Ch w0 w B os (L ++ (M, 49, #[v]) :: Lr)) (hr : Rf w M v es) (hv : ∀ k, v.ownBlock = some k → k ∈ Lr.map (·.1)) (hM : w0.heap.size ≤ M) (ht : TurnSays w M v es' W) :
    ∃ v' Lr', Ch w0 W B os (L ++ (M, 49, #[v']) :: Lr') ∧ Rf W M v' es' ∧ ∀ k, v'.ownBlock = some k → k ∈ Lr'.map (·.1) := by
  obtain ⟨v', r', f, s⟩ := ht
  obtain ⟨hnd, hlt⟩ := h.nodupL
  rw [List.map_append, List.map_cons, List.nodup_append] at hnd
  obtain ⟨n1, n2, n3⟩ := hnd
  have n4 := (List.nodup_cons.1 n2).1
  have hMw : M < w.heap.size := hr.blk.lt
  have hSL : ∀ k, (k = M ∨ v.ownBlock = some k) → k ∈ (L ++ (M, 49, #[v]) :: Lr).map (·.1) := fun k hk => by
    rw [List.map_append, List.map_cons]
    rcases hk with rfl | hk
    · simp
    · exact List.mem_append_right _ (List.mem_cons_of_mem _ (hv k hk))
  have hlo : ∀ k, (k = M ∨ v.ownBlock = some k) → w0.heap.size ≤ k := fun k hk => by
    rcases hk with rfl | hk
    · exact hM
    · have := (hr.own.lt k hk).1; omega
  have hLb : ∀ x ∈ L, Blk W x.1 x.2.1 x.2.2 := fun x hx => (h.boxB (List.mem_append_left _ hx)).fr f (fun hs => by
    rcases hs with hs | hs
    · exact n3 x.1 (List.mem_map_of_mem hx) M (by simp) hs
    · exact n3 x.1 (List.mem_map_of_mem hx) x.1 (List.mem_cons_of_mem _ (hv _ hs)) rfl)
  have hLM : ∀ k ∈ L.map (·.1), k ≠ M := fun k hk e => n3 k hk M (by simp) e
  have hLlt : ∀ k ∈ L.map (·.1), k < w.heap.size := fun k hk => by
    obtain ⟨x, hx, rfl⟩ := List.mem_map.1 hk
    exact hlt x (List.mem_append_left _ hx)
  have fin : ∀ Lr' : List Bx, (∀ x ∈ Lr', Blk W x.1 x.2.1 x.2.2) → (Lr'.map (·.1)).Nodup → (∀ k ∈ Lr'.map (·.1), k ≠ M ∧ (v.ownBlock = some k ∨ w.heap.size ≤ k)) → Ch w0 W B os (L ++ (M, 49, #[v']) :: Lr') := fun Lr' g1 g2 g3 => by
    refine h.turnL f hSL hlo (fun x hx => ?_) ?_ (fun k hk => ?_)
    · rcases List.mem_append.1 hx with hx | hx
      · exact hLb x hx
      · rcases List.mem_cons.1 hx with rfl | hx
        · exact r'.blk
        · exact g1 x hx
    · rw [List.map_append, List.map_cons, List.nodup_append]
      refine ⟨n1, List.nodup_cons.2 ⟨fun hm => (g3 M hm).1 rfl, g2⟩, fun a ha c hc e => ?_⟩
      subst e
      rcases List.mem_cons.1 hc with hc | hc
      · exact hLM a ha hc
      · rcases (g3 a hc).2 with h' | h'
        · exact n3 a ha a (List.mem_cons_of_mem _ (hv a h')) rfl
        · have := hLlt a ha; omega
    · rw [List.map_append, List.map_cons] at hk
      rcases List.mem_append.1 hk with hk | hk
      · exact .inl (by rw [List.map_append]; exact List.mem_append_left _ hk)
      · rcases List.mem_cons.1 hk with rfl | hk
        · exact .inl (hSL _ (.inl rfl))
        · rcases (g3 k hk).2 with h' | h'
          · exact .inl (hSL k (.inr h'))
          · exact .inr h'
  cases ho : v'.ownBlock with
  | none => exact ⟨v', [], fin [] (fun x hx => by simp at hx) (by simp) (fun k hk => by simp at hk), r', fun k hk => by rw [ho] at hk; cases hk⟩
  | some g =>
    rcases r'.own.2 with h' | ⟨g', cap, cur, hv', h1, h2, _⟩
    · rw [h'.1] at ho; cases ho
    · have hgg : g' = g := by rw [hv'] at ho; exact Option.some.inj ho
      subst hgg
      exact ⟨v', [(g', 51, cur)], fin _ (fun x hx => by rw [List.mem_singleton.1 hx]; exact h2) (by simp) (fun k hk => by
        simp only [List.map_cons, List.map_nil, List.mem_singleton] at hk
        subst hk
        exact ⟨by omega, s k ho⟩), r', fun k hk => by rw [ho] at hk; simp at hk; simp [hk]⟩
end Go.Proofs.Ytpjjcihhmhccfaa
