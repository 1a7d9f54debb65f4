/- What a shelf does to its list, in plain words. No condition. -/
import Derived.Test.YtajlgglknianlaaClock
import Derived.Test.YtajlgglknianlaaFlat
namespace Go.Proofs.Ytajlgglknianlaa
set_option linter.unusedVariables false

/-- The first one of those that are least, of the first j. -/
def oldAt (us : List Int) : Nat → Nat
  | 0 => 0
  | j + 1 => if (us[j]?.getD 0) < (us[oldAt us j]?.getD 0) then j else oldAt us j
theorem oldAt_le (us : List Int) : ∀ j, oldAt us j ≤ j
  | 0 => Nat.le_refl _
  | j + 1 => by
    have := oldAt_le us j
    rw [oldAt]
    split <;> omega
theorem oldAt_lt (us : List Int) : ∀ j, 0 < j → oldAt us j < j
  | 0, h => absurd h (by omega)
  | 1, _ => by
    rw [oldAt]
    split <;> simp [oldAt]
  | j + 2, _ => by
    have := oldAt_lt us (j + 1) (by omega)
    rw [oldAt]
    split <;> omega
/-- When the first one's time is over. -/
def nextOf (us : List Int) : Int := us.foldl min 9223372036854775807
theorem next_snoc {us : List Int} {j : Nat} {u : Int} (h : us[j]? = some u) : nextOf (us.take (j + 1)) = min (nextOf (us.take j)) u := by
  rw [List.take_add_one, h, nextOf, List.foldl_append]; rfl
theorem next_lo {us : List Int} (h : ∀ u ∈ us, 0 ≤ u) : 0 ≤ nextOf us ∧ nextOf us ≤ 9223372036854775807 := by
  suffices ∀ (us : List Int) (a : Int), (∀ u ∈ us, 0 ≤ u) → 0 ≤ a → 0 ≤ us.foldl min a ∧ us.foldl min a ≤ a from this us _ h (by decide)
  intro us
  induction us with
  | nil => intro a _ ha; exact ⟨ha, Int.le_refl _⟩
  | cons u us ih =>
    intro a h ha
    have h1 := h u (by simp)
    have := ih (min a u) (fun x hx => h x (by simp [hx])) (by omega)
    simp only [List.foldl_cons]
    omega

/-- One thing told. -/
def putOne {α : Type} (same : α → α → Bool) (til life : Int) (es : List (α × Int)) (x : α) : List (α × Int) :=
  let i := idx (fun e => same e.1 x) es
  if 0 ≤ i then (if life = 0 then es.eraseIdx i.toNat else es.set i.toNat ((es[i.toNat]?.map (·.1)).getD x, til))
  else if life = 0 then es
  else if es.length < 4 then es ++ [(x, til)]
  else if (es.map (·.2))[oldAt (es.map (·.2)) es.length]?.getD 0 ≤ til then es.set (oldAt (es.map (·.2)) es.length) (x, til)
  else es
def putAll {α : Type} (same : α → α → Bool) (til life : Int) (es : List (α × Int)) (xs : List α) : List (α × Int) := xs.foldl (putOne same til life) es
theorem putAll_snoc {α : Type} {same : α → α → Bool} {til life : Int} {es : List (α × Int)} {xs : List α} {j : Nat} {x : α} (h : xs[j]? = some x) : putAll same til life es (xs.take (j + 1)) = putOne same til life (putAll same til life es (xs.take j)) x := by
  rw [List.take_add_one, h, putAll, List.foldl_append]; rfl
theorem putOne_four {α : Type} (same : α → α → Bool) (til life : Int) (es : List (α × Int)) (x : α) (h : es.length ≤ 4) : (putOne same til life es x).length ≤ 4 := by
  unfold putOne
  dsimp only
  split
  · split
    · exact Nat.le_trans (List.length_eraseIdx_le _ _) h
    · rw [List.length_set]; exact h
  · split
    · exact h
    · split
      · rw [List.length_append]; simp; omega
      · split
        · rw [List.length_set]; exact h
        · exact h
theorem putAll_four {α : Type} (same : α → α → Bool) (til life : Int) (xs : List α) : ∀ (es : List (α × Int)), es.length ≤ 4 → (putAll same til life es xs).length ≤ 4 := by
  induction xs with
  | nil => intro es h; exact h
  | cons x xs ih => intro es h; exact ih _ (putOne_four same til life es x h)
end Go.Proofs.Ytajlgglknianlaa
