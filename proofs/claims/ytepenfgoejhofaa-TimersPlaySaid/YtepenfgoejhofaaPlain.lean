/- Timers in a heap: the order of two, what stands in a row of them, and what one step up or down leaves. Of no program. No condition. -/
import Derived.Test.YtepenfgoejhofaaFlat
namespace Go.Proofs.Ytepenfgoejhofaa
open Go.ChangeShapes Go.WideShapes Go.ChangeAt Go.RowKit
set_option linter.unusedVariables false
set_option linter.unusedSimpArgs false

/-- A timer: its kind, its id, its time. -/
abbrev T3 := Int × Int × Int
/-- One comes ahead of another one. -/
def bef (a b : T3) : Bool := if a.2.2 ≠ b.2.2 then decide (a.2.2 < b.2.2) else if a.1 ≠ b.1 then decide (a.1 < b.1) else decide (a.2.1 < b.2.1)
theorem bef_iff (a b : T3) : bef a b = true ↔ a.2.2 < b.2.2 ∨ (a.2.2 = b.2.2 ∧ (a.1 < b.1 ∨ (a.1 = b.1 ∧ a.2.1 < b.2.1))) := by
  unfold bef
  split
  · simp; omega
  · split
    · simp; omega
    · simp; omega
/-- No later. -/
def lee (a b : T3) : Prop := bef b a = false
theorem lee_iff (a b : T3) : lee a b ↔ a.2.2 < b.2.2 ∨ (a.2.2 = b.2.2 ∧ (a.1 < b.1 ∨ (a.1 = b.1 ∧ a.2.1 ≤ b.2.1))) := by
  have h := bef_iff b a
  unfold lee
  cases hb : bef b a with
  | true => rw [hb] at h; simp at h; simp; omega
  | false => rw [hb] at h; simp at h; simp; omega
theorem lee_refl (a : T3) : lee a a := (lee_iff a a).2 (by omega)
theorem lee_trans {a b c : T3} (h : lee a b) (k : lee b c) : lee a c := by rw [lee_iff] at *; omega
theorem lee_of_bef {a b : T3} (h : bef a b = true) : lee a b := by rw [bef_iff] at h; rw [lee_iff]; omega
theorem lee_anti {a b : T3} (h : lee a b) (k : lee b a) : a = b := by
  rw [lee_iff] at h k
  obtain ⟨a1, a2, a3⟩ := a
  obtain ⟨b1, b2, b3⟩ := b
  simp only at h k
  have : a1 = b1 ∧ a2 = b2 ∧ a3 = b3 := by omega
  obtain ⟨rfl, rfl, rfl⟩ := this
  rfl

/-- A heap; one with a hole at i; one whose i may stand too low. -/
def Hpf (f : Nat → T3) (n : Nat) : Prop := ∀ k, 0 < k → k < n → lee (f ((k - 1) / 2)) (f k)
def Hol (f : Nat → T3) (n i : Nat) : Prop := (∀ k, 0 < k → k < n → k ≠ i → (k - 1) / 2 ≠ i → lee (f ((k - 1) / 2)) (f k)) ∧ ∀ k, 0 < i → 0 < k → k < n → (k - 1) / 2 = i → lee (f ((i - 1) / 2)) (f k)
def Upo (f : Nat → T3) (n i : Nat) : Prop := (∀ k, 0 < k → k < n → k ≠ i → lee (f ((k - 1) / 2)) (f k)) ∧ ∀ k, 0 < i → 0 < k → k < n → (k - 1) / 2 = i → lee (f ((i - 1) / 2)) (f k)
section
variable {f g : Nat → T3} {n i j : Nat}
theorem Hpf.hol (h : Hpf f n) (i : Nat) (hi : i < n) (hg : ∀ k, k < n → k ≠ i → g k = f k) : Hol g n i := by
  constructor
  · intro k h0 hk hki hpi
    rw [hg _ (by omega) hpi, hg _ hk hki]; exact h k h0 hk
  · intro k hi0 h0 hk hp
    have e1 : (i - 1) / 2 ≠ i := by omega
    have e2 : k ≠ i := by omega
    rw [hg _ (by omega) e1, hg _ hk e2]
    refine lee_trans (h i hi0 hi) ?_
    have := h k h0 hk
    rwa [hp] at this
theorem Hpf.upo (h : Hpf f n) (hg : ∀ k, k < n → g k = f k) : Upo g (n + 1) n := by
  constructor
  · intro k h0 hk hki
    rw [hg _ (by omega), hg _ (by omega)]; exact h k h0 (by omega)
  · intro k _ h0 hk hp; omega
theorem Upo.top (h : Upo f n 0) : Hpf f n := fun k h0 hk => h.1 k h0 hk (by omega)
theorem Upo.done (h : Upo f n i) (he : lee (f ((i - 1) / 2)) (f i)) : Hpf f n := fun k h0 hk => by
  by_cases e : k = i
  · subst e; exact he
  · exact h.1 k h0 hk e
/-- One step up. -/
theorem Upo.step (h : Upo f n j) (hj : 0 < j) (hn : j < n) (hb : bef (f j) (f ((j - 1) / 2)) = true) (hg : ∀ k, g k = if k = j then f ((j - 1) / 2) else if k = (j - 1) / 2 then f j else f k) : Upo g n ((j - 1) / 2) := by
  obtain ⟨h1, h2⟩ := h
  have hl := lee_of_bef hb
  generalize hi : (j - 1) / 2 = i at *
  have hij : i < j := by omega
  have gi : g i = f j := by rw [hg, if_neg (by omega), if_pos rfl]
  have gj : g j = f i := by rw [hg, if_pos rfl]
  have go : ∀ k, k ≠ i → k ≠ j → g k = f k := fun k a b => by rw [hg, if_neg b, if_neg a]
  constructor
  · intro k h0 hk hki
    by_cases kj : k = j
    · subst kj; rw [hi, gi, gj]; exact hl
    · rw [go k hki kj]
      by_cases pj : (k - 1) / 2 = j
      · rw [pj, gj]; exact h2 k hj h0 hk pj
      · by_cases pi : (k - 1) / 2 = i
        · rw [pi, gi]; have := h1 k h0 hk kj; rw [pi] at this; exact lee_trans hl this
        · rw [go _ pi pj]; exact h1 k h0 hk kj
  · intro k hi0 h0 hk hp
    have hii := h1 i hi0 (by omega) (by omega)
    rw [go _ (by omega) (by omega)]
    by_cases kj : k = j
    · subst kj; rw [gj]; exact hii
    · rw [go k (by omega) kj]
      have := h1 k h0 hk kj
      rw [hp] at this
      exact lee_trans hii this
/-- The lesser child of i, if i has one. -/
def Kid (f : Nat → T3) (n i j : Nat) : Prop := j < n ∧ (j = 2 * i + 1 ∨ j = 2 * i + 2) ∧ ∀ k, 0 < k → k < n → (k - 1) / 2 = i → lee (f j) (f k)
/-- One step down. -/
theorem Hol.step (h : Hol f n i) (hk : Kid f n i j) (hb : bef (f j) (f i) = true) (hg : ∀ k, g k = if k = j then f i else if k = i then f j else f k) : Hol g n j ∧ (j - 1) / 2 = i ∧ lee (g ((j - 1) / 2)) (g j) := by
  obtain ⟨h1, h2⟩ := h
  obtain ⟨hjn, hji, hmin⟩ := hk
  have hp : (j - 1) / 2 = i := by omega
  have hij : i < j := by omega
  have gi : g i = f j := by rw [hg, if_neg (by omega), if_pos rfl]
  have gj : g j = f i := by rw [hg, if_pos rfl]
  have go : ∀ k, k ≠ i → k ≠ j → g k = f k := fun k a b => by rw [hg, if_neg b, if_neg a]
  refine ⟨⟨?_, ?_⟩, hp, by rw [hp, gi, gj]; exact lee_of_bef hb⟩
  · intro k h0 hk hkj hpj
    by_cases ki : k = i
    · subst ki
      rw [gi, go _ (by omega) (by omega)]
      exact h2 j h0 (by omega) hjn hp
    · rw [go k ki hkj]
      by_cases pi : (k - 1) / 2 = i
      · rw [pi, gi]; exact hmin k h0 hk pi
      · rw [go _ pi hpj]; exact h1 k h0 hk ki pi
  · intro k hj0 h0 hk hpj
    rw [hp, gi, go k (by omega) (by omega)]
    have := h1 k h0 hk (by omega) (by omega)
    rwa [hpj] at this
/-- The hole is none. -/
theorem Hol.upo (h : Hol f n i) (hc : ∀ k, 0 < k → k < n → (k - 1) / 2 = i → lee (f i) (f k)) : Upo f n i :=
  ⟨fun k h0 hk hki => by
    by_cases pi : (k - 1) / 2 = i
    · rw [pi]; exact hc k h0 hk pi
    · exact h.1 k h0 hk hki pi, h.2⟩
theorem Hpf.least (h : Hpf f n) : ∀ m k, k ≤ m → k < n → lee (f 0) (f k)
  | 0, k, hm, hk => by obtain rfl : k = 0 := by omega
                       exact lee_refl _
  | m + 1, k, hm, hk => by
    by_cases h0 : 0 < k
    · exact lee_trans (h.least m ((k - 1) / 2) (by omega) (by omega)) (h k h0 hk)
    · obtain rfl : k = 0 := by omega
      exact lee_refl _
theorem Hpf.less (h : Hpf f n) {m : Nat} (hm : m ≤ n) (hg : ∀ k, k < m → g k = f k) : Hpf g m := fun k h0 hk => by rw [hg _ (by omega), hg _ hk]; exact h k h0 (by omega)
end

/-- A row of boxes, each with a timer. -/
abbrev Xs := List (Nat × T3)
def vl (L : Xs) (k : Nat) : T3 := ((L[k]?).map (·.2)).getD (0, 0, 0)
theorem vl_at {L : Xs} {k : Nat} {x : Nat × T3} (h : L[k]? = some x) : vl L k = x.2 := by simp [vl, h]
/-- Two change places. -/
def swp (L : Xs) (i j : Nat) : Xs := match L[i]?, L[j]? with
  | some a, some b => (L.set i b).set j a
  | _, _ => L
section
variable {L : Xs} {i j : Nat} {a b : Nat × T3}
theorem swp_eq (ha : L[i]? = some a) (hb : L[j]? = some b) : swp L i j = (L.set i b).set j a := by simp [swp, ha, hb]
theorem lt_of_some {α : Type} {l : List α} {k : Nat} {x : α} (h : l[k]? = some x) : k < l.length := (List.getElem?_eq_some_iff.1 h).1
theorem swp_get (ha : L[i]? = some a) (hb : L[j]? = some b) (k : Nat) : (swp L i j)[k]? = if k = j then some a else if k = i then some b else L[k]? := by
  rw [swp_eq ha hb]
  have h1 := lt_of_some ha
  have h2 := lt_of_some hb
  by_cases e : k = j
  · subst e; rw [if_pos rfl, List.getElem?_set_self (by simpa using h2)]
  · rw [if_neg e, List.getElem?_set_ne (by omega)]
    by_cases e' : k = i
    · subst e'; rw [if_pos rfl, List.getElem?_set_self h1]
    · rw [if_neg e', List.getElem?_set_ne (by omega)]
theorem swp_vl (ha : L[i]? = some a) (hb : L[j]? = some b) (k : Nat) : vl (swp L i j) k = if k = j then vl L i else if k = i then vl L j else vl L k := by
  unfold vl
  rw [swp_get ha hb]
  split
  · rw [ha]
  · split
    · rw [hb]
    · rfl
theorem swp_len (ha : L[i]? = some a) (hb : L[j]? = some b) : (swp L i j).length = L.length := by rw [swp_eq ha hb]; simp
theorem set_perm {α : Type} : ∀ {l : List α} {i : Nat} {a b : α}, l[i]? = some a → (b :: l).Perm (a :: l.set i b)
  | [], i, a, b, h => by simp at h
  | x :: l, 0, a, b, h => by simp at h; subst h; exact List.Perm.swap _ _ _
  | x :: l, i + 1, a, b, h => by
    have ih := set_perm (l := l) (i := i) (a := a) (b := b) (by simpa using h)
    exact ((List.Perm.swap x b l).trans (ih.cons x)).trans (List.Perm.swap a x _)
theorem swp_perm (ha : L[i]? = some a) (hb : L[j]? = some b) : (swp L i j).Perm L := by
  rw [swp_eq ha hb]
  by_cases e : i = j
  · subst e
    rw [ha] at hb; cases hb
    rw [List.set_set]
    have : L.set i a = L := by
      have h := lt_of_some ha
      have h2 := (List.getElem?_eq_some_iff.1 ha).2
      rw [← h2]; exact List.set_getElem_self h
    rw [this]
  · have h1 := set_perm (b := b) ha
    have h2 := set_perm (l := L.set i b) (i := j) (a := b) (b := a) (by rw [List.getElem?_set_ne e]; exact hb)
    exact (h2.symm.trans h1.symm).cons_inv
end
end Go.Proofs.Ytepenfgoejhofaa
