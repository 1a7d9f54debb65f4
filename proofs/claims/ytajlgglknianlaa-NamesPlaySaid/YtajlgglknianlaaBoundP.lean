/- Lists of things kept, in plain words: none twice; what is told without a lifetime is gone; what all of them meet. No condition. -/
import Derived.Test.YtajlgglknianlaaTold
namespace Go.Proofs.Ytajlgglknianlaa
set_option linter.unusedVariables false

section
variable {α : Type} {same : α → α → Bool} {til life : Int}
/-- None twice. -/
def NoDup (same : α → α → Bool) (es : List (α × Int)) : Prop := es.Pairwise fun a b => same a.1 b.1 = false
theorem noDup_at {es : List (α × Int)} (h : NoDup same es) {i j : Nat} {a b : α × Int} (hij : i < j) (ha : es[i]? = some a) (hb : es[j]? = some b) : same a.1 b.1 = false := by
  obtain ⟨hi, rfl⟩ := List.getElem?_eq_some_iff.1 ha
  obtain ⟨hj, rfl⟩ := List.getElem?_eq_some_iff.1 hb
  exact List.pairwise_iff_getElem.1 h i j hi hj hij
theorem noDup_erase {es : List (α × Int)} (h : NoDup same es) (i : Nat) : NoDup same (es.eraseIdx i) := List.Pairwise.sublist (List.eraseIdx_sublist _ _) h
theorem noDup_snoc {es : List (α × Int)} (h : NoDup same es) {x : α} {u : Int} (hx : ∀ e ∈ es, same e.1 x = false) : NoDup same (es ++ [(x, u)]) := by
  unfold NoDup
  rw [List.pairwise_append]
  refine ⟨h, List.pairwise_singleton _ _, fun a ha b hb => ?_⟩
  rw [List.mem_singleton.1 hb]
  exact hx a ha
theorem noDup_set {es : List (α × Int)} (hs : ∀ a b, same a b = same b a) (h : NoDup same es) (i : Nat) {x : α} {u : Int} (hx : ∀ j e, j ≠ i → es[j]? = some e → same e.1 x = false) : NoDup same (es.set i (x, u)) := by
  refine List.pairwise_iff_getElem.2 fun a b ha hb hab => ?_
  rw [List.length_set] at ha hb
  rw [List.getElem_set, List.getElem_set]
  split <;> split
  · omega
  · rename_i h1 h2
    rw [hs]
    exact hx b _ (by omega) (List.getElem?_eq_getElem hb)
  · rename_i h1 h2
    exact hx a _ (by omega) (List.getElem?_eq_getElem ha)
  · exact List.pairwise_iff_getElem.1 h a b ha hb hab
theorem idx_any {es : List (α × Int)} {x : α} (h : idx (fun e => same e.1 x) es < 0) : ∀ e ∈ es, same e.1 x = false := by
  rcases idx_cases (p := fun e => same e.1 x) es with ⟨h1, h2⟩ | ⟨j, e, h1, _⟩
  · intro e he
    rw [List.any_eq_false] at h2
    simpa using h2 e he
  · omega
/-- What one thing told leaves. -/
theorem putOne_nodup (hs : ∀ a b, same a b = same b a) {es : List (α × Int)} (h : NoDup same es) (x : α) : NoDup same (putOne same til life es x) := by
  unfold putOne
  dsimp only
  split
  · rename_i h0
    split
    · exact noDup_erase h _
    · rcases idx_cases (p := fun e => same e.1 x) es with ⟨h1, h2⟩ | ⟨j, e, h1, h2, h3, h4⟩
      · omega
      · rw [h1, Int.toNat_natCast, h2]
        refine noDup_set hs h _ fun k f hk hf => ?_
        rcases Nat.lt_or_ge k j with hkj | hkj
        · exact noDup_at (a := f) (b := e) h hkj hf h2
        · rw [show ((Option.map (·.1) (some e)).getD x) = e.1 from rfl, hs]
          exact noDup_at (a := e) (b := f) h (show j < k by omega) h2 hf
  · rename_i h0
    split
    · exact h
    · split
      · exact noDup_snoc h (idx_any (by omega))
      · split
        · exact noDup_set hs h _ fun j e _ hj => idx_any (by omega) e (List.mem_of_getElem? hj)
        · exact h
theorem putAll_nodup (hs : ∀ a b, same a b = same b a) (xs : List α) : ∀ {es : List (α × Int)}, NoDup same es → NoDup same (putAll same til life es xs) := by
  induction xs with
  | nil => intro es h; exact h
  | cons x xs ih => intro es h; exact ih (putOne_nodup hs h x)
/-- What all of them, and all that are told, meet. -/
theorem putOne_all {p : α → Prop} {es : List (α × Int)} (h : ∀ e ∈ es, p e.1) {x : α} (hx : p x) : ∀ e ∈ putOne same til life es x, p e.1 := by
  unfold putOne
  dsimp only
  intro e he
  split at he
  · split at he
    · exact h e (List.mem_of_mem_eraseIdx he)
    · rcases List.mem_or_eq_of_mem_set he with he | rfl
      · exact h e he
      · show p ((es[(idx (fun e => same e.1 x) es).toNat]?.map (·.1)).getD x)
        cases hq : es[(idx (fun e => same e.1 x) es).toNat]? with
        | none => exact hx
        | some f => exact h f (List.mem_of_getElem? hq)
  · split at he
    · exact h e he
    · split at he
      · rcases List.mem_append.1 he with he | he
        · exact h e he
        · rw [List.mem_singleton.1 he]; exact hx
      · split at he
        · rcases List.mem_or_eq_of_mem_set he with he | rfl
          · exact h e he
          · exact hx
        · exact h e he
theorem putAll_all {p : α → Prop} : ∀ (xs : List α) {es : List (α × Int)}, (∀ e ∈ es, p e.1) → (∀ x ∈ xs, p x) → ∀ e ∈ putAll same til life es xs, p e.1
  | [], es, h, _ => h
  | x :: xs, es, h, hx => putAll_all xs (es := putOne same til life es x) (putOne_all h (hx x (by simp))) fun y hy => hx y (by simp [hy])
/-- Told without a lifetime: none of those told is there. -/
theorem putOne_zero (hs : ∀ a b, same a b = same b a) (ht : ∀ a b c, same a b = true → same a c = same b c) {es : List (α × Int)} (h : NoDup same es) (x : α) : ∀ e ∈ putOne same til 0 es x, same e.1 x = false := by
  unfold putOne
  dsimp only
  rcases idx_cases (p := fun e => same e.1 x) es with ⟨h1, h2⟩ | ⟨j, e, h1, h2, h3, h4⟩
  · rw [h1, if_neg (by omega), if_pos rfl]
    exact idx_any (by omega)
  · rw [h1, if_pos (by omega), if_pos rfl, Int.toNat_natCast]
    intro f hf
    obtain ⟨k, hk⟩ := List.mem_iff_getElem?.1 hf
    rw [List.getElem?_eraseIdx] at hk
    split at hk
    · rename_i hkj
      have := noDup_at (a := f) (b := e) h hkj hk h2
      rw [hs, ht e.1 x f.1 h3, hs] at this
      exact this
    · have := noDup_at (a := e) (b := f) h (show j < k + 1 by omega) h2 hk
      rw [ht e.1 x f.1 h3, hs] at this
      exact this
theorem putOne_sub0 {es : List (α × Int)} (x : α) : ∀ e ∈ putOne same til 0 es x, e ∈ es := by
  unfold putOne
  dsimp only
  intro e he
  split at he
  · rw [if_pos rfl] at he
    exact List.mem_of_mem_eraseIdx he
  · rw [if_pos rfl] at he
    exact he
theorem putAll_sub0 : ∀ (xs : List α) {es : List (α × Int)}, ∀ e ∈ putAll same til 0 es xs, e ∈ es
  | [], _, e, he => he
  | x :: xs, es, e, he => putOne_sub0 x e (putAll_sub0 xs (es := putOne same til 0 es x) e he)
theorem putAll_zero (hs : ∀ a b, same a b = same b a) (ht : ∀ a b c, same a b = true → same a c = same b c) : ∀ (xs : List α) {es : List (α × Int)}, NoDup same es → ∀ e ∈ putAll same til 0 es xs, ∀ x ∈ xs, same e.1 x = false
  | [], _, _, _, _, x, hx => by simp at hx
  | y :: xs, es, h, e, he, x, hx => by
    rcases List.mem_cons.1 hx with rfl | hx
    · exact putOne_zero hs ht h x e (putAll_sub0 xs (es := putOne same til 0 es x) e he)
    · exact putAll_zero hs ht xs (es := putOne same til 0 es y) (putOne_nodup hs h y) e he x hx
end
theorem svSame_symm (a b : List Int) : Sv.sameT a b = Sv.sameT b a := by unfold Sv.sameT; exact BEq.comm
theorem svSame_trans (a b c : List Int) (h : Sv.sameT a b = true) : Sv.sameT a c = Sv.sameT b c := by simp only [Sv.sameT, beq_iff_eq] at h; rw [h]
theorem dmSame_symm (a b : ByteArray) : Dm.sameT a b = Dm.sameT b a := by unfold Dm.sameT; exact BEq.comm
end Go.Proofs.Ytajlgglknianlaa
