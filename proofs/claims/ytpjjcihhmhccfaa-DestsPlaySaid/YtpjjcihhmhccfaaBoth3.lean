/- Both sides: boxes ahead of them, and what both keep. Of no function; no condition. -/
import Derived.Test.YtpjjcihhmhccfaaBoth2
namespace Go.Proofs.Ytpjjcihhmhccfaa
open Go.ChangeShapes Go.WideShapes Go.ChangeAt Go.RowKit Go.Deep
set_option linter.unusedVariables false
set_option linter.unusedSimpArgs false

section
variable {w0 w W V : World} {B M : Nat} {os os' : List En} {es es' : List E} {L : List Bx} {v : Value}
theorem Half.call (h : Half w0 W B M os es L) (hb : Below W.heap.size W V) : Half w0 V B M os es L := by
  obtain ⟨v, Lr, h1, h2, h3, h4⟩ := h
  exact ⟨v, Lr, h1.call hb, h2.to hb, h3, h4⟩
theorem Half.draw (h : Half w0 W B M os es L) : Half w0 W.drew B M os es L := h.call (Below.refl _ W).drew
theorem Half.bel (h : Half w0 W B M os es L) : Below w0.heap.size w0 W := by
  obtain ⟨v, Lr, h1, _⟩ := h
  exact h1.bel
theorem Half.box (h : Half w0 W B M os es L) {x : Bx} (hx : x ∈ L) : Blk W x.1 x.2.1 x.2.2 := by
  obtain ⟨v, Lr, h1, _⟩ := h
  exact h1.boxB (List.mem_append_left _ hx)
theorem Half.push (h : Half w0 W B M os es L) (t : TypeId) (cs : Array Value) {g : Nat} (hg : W.heap.size = g) : Half w0 (W.alloc (.cells cs t)) B M os es (L ++ [(g, t, cs)]) := by
  obtain ⟨v, Lr, h1, h2, h3, h4⟩ := h
  have hb : Below W.heap.size W (W.alloc (.cells cs t)) := (Below.refl _ W).alloc (Nat.le_refl _) _
  have h5 := h1.new t cs hg
  have h6 := h5.nodupL
  refine ⟨v, Lr, h5.turnL (Fr.refl (fun _ => False) _) (fun _ e => e.elim) (fun _ e => e.elim) (fun x hx => h5.boxB ?_) ?_ (fun k hk => .inl ?_), h2.to hb, h3, h4⟩
  · simp only [List.mem_append, List.mem_cons, List.mem_singleton, List.not_mem_nil, or_false] at hx ⊢
    rcases hx with (h | h) | h | h
    · exact .inl (.inl h)
    · exact .inr h
    · exact .inl (.inr (.inl h))
    · exact .inl (.inr (.inr h))
  · have := h6.1
    refine (List.Perm.nodup_iff ?_).1 this
    refine List.Perm.map _ ?_
    rw [List.append_assoc, List.append_assoc]
    exact List.Perm.append_left _ (List.perm_append_comm)
  · simp only [List.map_append, List.map_cons, List.map_nil, List.mem_append, List.mem_cons, List.not_mem_nil, or_false] at hk ⊢
    rcases hk with (h | h) | h | h
    · exact .inl (.inl h)
    · exact .inr h
    · exact .inl (.inr (.inl h))
    · exact .inl (.inr (.inr h))
theorem Half.pop {x : Bx} (h : Half w0 W B M os es (L ++ [x])) : Half w0 W B M os es L := by
  obtain ⟨v, Lr, h1, h2, h3, h4⟩ := h
  have h6 := h1.nodupL
  have hs : (L ++ (M, 49, #[v]) :: Lr).Sublist (L ++ [x] ++ (M, 49, #[v]) :: Lr) := List.Sublist.append_right (List.sublist_append_left _ _) _
  refine ⟨v, Lr, h1.turnL (Fr.refl (fun _ => False) _) (fun _ e => e.elim) (fun _ e => e.elim) (fun x hx => h1.boxB (hs.subset hx)) ((hs.map _).nodup h6.1) (fun k hk => .inl ((hs.map _).subset hk)), h2, h3, h4⟩
theorem Both.call (h : Both w0 W B M os L) (hb : Below W.heap.size W V) : Both w0 V B M os L := ⟨h.1.call hb, h.2⟩
theorem Both.push (h : Both w0 W B M os L) (t : TypeId) (cs : Array Value) {g : Nat} (hg : W.heap.size = g) : Both w0 (W.alloc (.cells cs t)) B M os (L ++ [(g, t, cs)]) := ⟨h.1.push t cs hg, h.2⟩
theorem Both.pop {x : Bx} (h : Both w0 W B M os (L ++ [x])) : Both w0 W B M os L := ⟨h.1.pop, h.2⟩
/-- Of a new cache and a new reference. -/
theorem Both.mk0 (h : Ch w0 W B [] []) {m : Nat} (hm : W.heap.size = m) : Both w0 (W.alloc (.cells #[.slice none 0 0] 49)) B m [] [] := by
  refine ⟨⟨.slice none 0 0, [], h.new 49 #[.slice none 0 0] hm, ⟨?_, ?_, fun e he => by simp at he, by simp⟩, fun k hk => by simp [Value.ownBlock] at hk, ?_⟩, ?_⟩
  · rw [← hm]; exact Blk.new W 49 _
  · have h1 := h.bel.size
    exact World.ownsRow_nil _ _ _ _
  · have := h.bel.size; omega
  · intro o ho; simp at ho
end
/-- While both are compared. -/
structure Bs (w0 W : World) (B M g : Nat) (v : Value) (Lr : List Bx) (os : List En) (L : List Bx) : Prop where
  ch : Ch w0 W B os (L ++ (M, 49, #[v]) :: Lr)
  rf : Rf W M v (os.map (·.2))
  row : ∀ j o, os[j]? = some o → W.rangeAt g (j * 34) (enc o.2)
theorem Bs.call {w0 W V : World} {B M g : Nat} {v : Value} {Lr : List Bx} {os : List En} {L : List Bx} (h : Bs w0 W B M g v Lr os L) (hb : Below W.heap.size W V) : Bs w0 V B M g v Lr os L :=
  ⟨h.ch.call hb, h.rf.to hb, fun j o ho i u hu => (hb.cell (World.block_lt_of_cell? W _ (h.row j o ho i u hu))).trans (h.row j o ho i u hu)⟩
theorem Bs.draw {w0 W : World} {B M g : Nat} {v : Value} {Lr : List Bx} {os : List En} {L : List Bx} (h : Bs w0 W B M g v Lr os L) : Bs w0 W.drew B M g v Lr os L := h.call (Below.refl _ W).drew
end Go.Proofs.Ytpjjcihhmhccfaa
