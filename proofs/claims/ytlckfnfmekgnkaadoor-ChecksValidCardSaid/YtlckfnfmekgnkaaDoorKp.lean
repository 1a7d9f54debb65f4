/- Boxes of a call: blocks that it made itself, known whole, in a list in the order in which they were made. Of no program; no condition. -/
import Derived.Test.YtlckfnfmekgnkaaDoorEq
namespace Go.Proofs.YtlckfnfmekgnkaaDoor
open Go.ChangeShapes Go.WideShapes Go.ChangeAt Go.RowKit
set_option linter.unusedVariables false

/-- Behind the world w, in which the call began, W has these boxes, each younger than those ahead of it; what was there before is as it was. -/
structure Kp (w W : World) (L : List (Nat × TypeId × Array Value)) : Prop where
  bel : Below w.heap.size w W
  blk : ∀ (k : Nat) (x : Nat × TypeId × Array Value), L[k]? = some x → w.heap.size ≤ x.1 ∧ Blk W x.1 x.2.1 x.2.2
  inc : ∀ (i j : Nat) (x y : Nat × TypeId × Array Value), i < j → L[i]? = some x → L[j]? = some y → x.1 < y.1

section
variable {w W V : World} {L : List (Nat × TypeId × Array Value)}
theorem Kp.nil (w : World) : Kp w w [] := ⟨Below.refl _ w, fun k x h => by simp at h, fun i j x y _ h => by simp at h⟩
theorem Kp.size (h : Kp w W L) : w.heap.size ≤ W.heap.size := h.bel.size
theorem Kp.get (h : Kp w W L) (k : Nat) {g : Nat} {t : TypeId} {cs : Array Value} (hk : L[k]? = some (g, t, cs)) : Blk W g t cs := (h.blk k _ hk).2
theorem Kp.lt (h : Kp w W L) (k : Nat) {x : Nat × TypeId × Array Value} (hk : L[k]? = some x) : x.1 < W.heap.size := (h.blk k _ hk).2.lt
theorem Kp.ge (h : Kp w W L) (k : Nat) {x : Nat × TypeId × Array Value} (hk : L[k]? = some x) : w.heap.size ≤ x.1 := (h.blk k _ hk).1
theorem Kp.call (h : Kp w W L) (hb : Below W.heap.size W V) : Kp w V L :=
  ⟨h.bel.trans (hb.mono h.bel.size), fun k x hk => ⟨(h.blk k x hk).1, (h.blk k x hk).2.below hb (h.blk k x hk).2.lt⟩, h.inc⟩
theorem Kp.drew (h : Kp w W L) : Kp w W.drew L := h.call (Below.refl _ W).drew
theorem Kp.alloc (h : Kp w W L) (t : TypeId) (cs : Array Value) : Kp w (W.alloc (.cells cs t)) (L ++ [(W.heap.size, t, cs)]) := by
  refine ⟨h.bel.alloc h.bel.size _, fun k x hk => ?_, fun i j x y hij hi hj => ?_⟩
  · rcases Nat.lt_or_ge k L.length with hl | hl
    · rw [List.getElem?_append_left hl] at hk
      exact ⟨(h.blk k x hk).1, (h.blk k x hk).2.alloc _⟩
    · rw [List.getElem?_append_right hl] at hk
      have : k - L.length = 0 := by
        rcases Nat.eq_zero_or_pos (k - L.length) with h0 | h0
        · exact h0
        · rw [List.getElem?_eq_none (by simp; omega)] at hk; cases hk
      rw [this] at hk
      cases hk
      exact ⟨h.bel.size, Blk.new W t cs⟩
  · rcases Nat.lt_or_ge j L.length with hl | hl
    · rw [List.getElem?_append_left hl] at hj
      rw [List.getElem?_append_left (by omega)] at hi
      exact h.inc i j x y hij hi hj
    · rw [List.getElem?_append_right hl] at hj
      have : j - L.length = 0 := by
        rcases Nat.eq_zero_or_pos (j - L.length) with h0 | h0
        · exact h0
        · rw [List.getElem?_eq_none (by simp; omega)] at hj; cases hj
      rw [this] at hj
      cases hj
      rw [List.getElem?_append_left (by omega)] at hi
      exact h.lt i hi
theorem Kp.turn (h : Kp w W L) (k : Nat) {g : Nat} {t : TypeId} {cs cs' : Array Value} (hk : L[k]? = some (g, t, cs)) (hb : Blk V g t cs') (hother : ∀ g' t' c', g' ≠ g → Blk W g' t' c' → Blk V g' t' c') (hbel : Below w.heap.size w V) : Kp w V (L.set k (g, t, cs')) := by
  have hl := (List.getElem?_eq_some_iff.1 hk).1
  have same : ∀ (i : Nat) (x : Nat × TypeId × Array Value), (L.set k (g, t, cs'))[i]? = some x → ∃ y, L[i]? = some y ∧ y.1 = x.1 := by
    intro i x hx
    rw [List.getElem?_set] at hx
    split at hx
    · rename_i hik
      subst hik
      cases hx; exact ⟨_, hk, rfl⟩
    · exact ⟨x, hx, rfl⟩
  refine ⟨hbel, fun i x hx => ?_, fun i j x y hij hx hy => ?_⟩
  · rw [List.getElem?_set] at hx
    split at hx
    · rename_i hik
      subst hik
      cases hx
      have h1 := h.ge k hk
      exact ⟨h1, hb⟩
    · rename_i hik
      refine ⟨h.ge i hx, hother _ _ _ ?_ (h.blk i x hx).2⟩
      rcases Nat.lt_or_ge i k with hlt | hge
      · have := h.inc i k x _ hlt hx hk
        dsimp only at this
        omega
      · have := h.inc k i _ x (by omega) hk hx
        dsimp only at this
        omega
  · obtain ⟨x', h1, e1⟩ := same i x hx
    obtain ⟨y', h2, e2⟩ := same j y hy
    have := h.inc i j x' y' hij h1 h2
    omega
theorem Kp.set (h : Kp w W L) (k : Nat) {g : Nat} {t : TypeId} {cs : Array Value} (hk : L[k]? = some (g, t, cs)) (i : Nat) (v : Value) : Kp w (W.setCell ⟨g, i, none⟩ v) (L.set k (g, t, cs.setIfInBounds i v)) :=
  h.turn k hk ((h.get k hk).set i v) (fun _ _ _ hne hb => hb.far hne v) (h.bel.setCell (h.ge k hk) v)
theorem Kp.over (h : Kp w W L) (k : Nat) {g : Nat} {t : TypeId} {cs : Array Value} (hk : L[k]? = some (g, t, cs)) (o : Nat) (vs : List Value) : Kp w (W.setCells g o vs) (L.set k (g, t, over cs o vs)) :=
  h.turn k hk (Blk.over (W := W) vs o W cs (h.get k hk)) (fun _ _ _ hne hb => Blk.farCells g vs o W hb hne) (below_setCells (h.ge k hk) vs o W h.bel)
theorem Kp.row (h : Kp w W L) (k : Nat) {g : Nat} {t : TypeId} {cs : Array Value} (hk : L[k]? = some (g, t, cs)) (cs' : Array Value) : Kp w (W.setRow g cs') (L.set k (g, t, cs')) :=
  h.turn k hk ((h.get k hk).setRow cs') (fun _ _ _ hne hb => hb.farRow hne cs') (below_setRow h.bel (h.ge k hk) cs')
theorem Kp.cell (h : Kp w W L) (k : Nat) {g : Nat} {t : TypeId} {cs : Array Value} (hk : L[k]? = some (g, t, cs)) {i : Nat} {v : Value} (hi : cs[i]? = some v) : W.cell? ⟨g, i, none⟩ = some v := (h.get k hk).at_ hi
theorem Kp.frozen (h : Kp w W L) (k : Nat) {g : Nat} {t : TypeId} {cs : Array Value} (hk : L[k]? = some (g, t, cs)) (i : Nat) : W.frozen? ⟨g, i, none⟩ = false := (h.get k hk).frozen i
theorem Kp.there (h : Kp w W L) (k : Nat) {g : Nat} {t : TypeId} {cs : Array Value} (hk : L[k]? = some (g, t, cs)) {o n : Nat} (hn : o + n ≤ cs.size) : W.there g o n := (h.get k hk).there hn
/-- Another block than the boxes'. -/
theorem Kp.drop (h : Kp w W L) (k : Nat) : Kp w W (L.drop k) :=
  ⟨h.bel, fun i x hx => h.blk (k + i) x (by rw [List.getElem?_drop] at hx; exact hx), fun i j x y hij hx hy => h.inc (k + i) (k + j) x y (by omega) (by rw [List.getElem?_drop] at hx; exact hx) (by rw [List.getElem?_drop] at hy; exact hy)⟩
end
end Go.Proofs.YtlckfnfmekgnkaaDoor
