/- Lists of things that lie in memory, so many cells each; the first place at which something holds. Of no program; no condition. -/
import Derived.Test.YtlckfnfmekgnkaaDoorOwn
namespace Go.Proofs.YtlckfnfmekgnkaaDoor
open Go.ChangeShapes Go.WideShapes Go.ChangeAt Go.RowKit
set_option linter.unusedVariables false

/-- The cells of a list of things. -/
def flatOf {α : Type} (enc : α → List Value) : List α → List Value
  | [] => []
  | e :: es => enc e ++ flatOf enc es

section
variable {α : Type} {enc : α → List Value} {K : Nat} {ok : α → Prop}
/-- Each thing has K cells; a cell is no array. -/
structure Enc (enc : α → List Value) (K : Nat) (ok : α → Prop) : Prop where
  len : ∀ a, ok a → (enc a).length = K
  one : ∀ a, ∀ v ∈ enc a, v.oneCell' = true
theorem flat_append (xs ys : List α) : flatOf enc (xs ++ ys) = flatOf enc xs ++ flatOf enc ys := by
  induction xs with
  | nil => rfl
  | cons x xs ih => simp [flatOf, ih]
theorem Enc.flat_len (h : Enc enc K ok) {es : List α} (ho : ∀ e ∈ es, ok e) : (flatOf enc es).length = es.length * K := by
  induction es with
  | nil => simp [flatOf]
  | cons e es ih => rw [flatOf, List.length_append, h.len e (ho e (by simp)), ih (fun x hx => ho x (by simp [hx])), List.length_cons, Nat.succ_mul, Nat.add_comm]
theorem Enc.flat_one (h : Enc enc K ok) (es : List α) : ∀ v ∈ flatOf enc es, v.oneCell' = true := by
  induction es with
  | nil => intro v hv; simp [flatOf] at hv
  | cons e es ih => intro v hv; rw [flatOf, List.mem_append] at hv; rcases hv with hv | hv; exact h.one e v hv; exact ih v hv
theorem Enc.flat_take (h : Enc enc K ok) {es : List α} (ho : ∀ e ∈ es, ok e) (i : Nat) : (flatOf enc es).take (i * K) = flatOf enc (es.take i) := by
  induction es generalizing i with
  | nil => simp [flatOf]
  | cons e es ih =>
    cases i with
    | zero => simp [flatOf]
    | succ i =>
      have hl := h.len e (ho e (by simp))
      rw [flatOf, List.take_append, hl, List.take_of_length_le (by rw [hl, Nat.succ_mul]; omega), Nat.succ_mul, Nat.add_sub_cancel, ih (fun x hx => ho x (by simp [hx])), List.take_succ_cons, flatOf]
theorem Enc.flat_drop (h : Enc enc K ok) {es : List α} (ho : ∀ e ∈ es, ok e) (i : Nat) : (flatOf enc es).drop (i * K) = flatOf enc (es.drop i) := by
  induction es generalizing i with
  | nil => simp [flatOf]
  | cons e es ih =>
    cases i with
    | zero => simp [flatOf]
    | succ i =>
      have hl := h.len e (ho e (by simp))
      rw [flatOf, List.drop_append, hl, List.drop_of_length_le (by rw [hl, Nat.succ_mul]; omega), Nat.succ_mul, Nat.add_sub_cancel, ih (fun x hx => ho x (by simp [hx])), List.drop_succ_cons]
      rfl
theorem Enc.flat_at (h : Enc enc K ok) {es : List α} (ho : ∀ e ∈ es, ok e) {i : Nat} {e : α} (hi : es[i]? = some e) (j : Nat) (hj : j < K) : (flatOf enc es)[i * K + j]? = (enc e)[j]? := by
  rw [← List.getElem?_drop, h.flat_drop ho]
  obtain ⟨hlt, rfl⟩ := List.getElem?_eq_some_iff.1 hi
  rw [List.drop_eq_getElem_cons hlt, flatOf, List.getElem?_append_left (by rw [h.len _ (ho _ (by simp))]; exact hj)]
/-- Another thing at a place. -/
theorem Enc.flat_set (h : Enc enc K ok) {es : List α} (ho : ∀ e ∈ es, ok e) {i : Nat} {e : α} (he : ok e) (hi : i < es.length) : putL (flatOf enc es) (i * K) (enc e) = flatOf enc (es.set i e) := by
  have hs : es = es.take i ++ es[i] :: es.drop (i + 1) := by simp
  have hl : (flatOf enc (es.take i)).length = i * K := by rw [h.flat_len (fun x hx => ho x (List.mem_of_mem_take hx)), List.length_take]; congr 1; omega
  rw [List.set_eq_take_append_cons_drop, if_pos hi, flat_append, flatOf]
  conv => lhs; rw [hs]
  rw [flat_append, flatOf]
  have := putL_right (flatOf enc (es.take i)) (enc e) (enc es[i] ++ flatOf enc (es.drop (i + 1))) 0
  rw [hl] at this
  exact Eq.trans this (by rw [putL_left _ _ _ (by rw [h.len _ he, h.len _ (ho _ (by simp))])])
theorem Enc.flat_cut (h : Enc enc K ok) {es : List α} (ho : ∀ e ∈ es, ok e) (i : Nat) : (flatOf enc es).take (i * K) ++ (flatOf enc es).drop ((i + 1) * K) = flatOf enc (es.eraseIdx i) := by
  rw [h.flat_take ho, h.flat_drop ho, ← flat_append, List.eraseIdx_eq_take_drop_succ]

/-- A slice of things. -/
structure Ls (enc : α → List Value) (K : Nat) (ok : α → Prop) (W : World) (B : Nat) (A : Option Addr) (n c : Nat) (es : List α) : Prop where
  rd : Rd W B K A n c (flatOf enc es)
  len : es.length = n
  ok : ∀ e ∈ es, ok e
theorem Ls.below {w W : World} {B : Nat} {A : Option Addr} {n c : Nat} {es : List α} (h : Ls enc K ok w B A n c es) (hb : Below B w W) : Ls enc K ok W B A n c es := ⟨h.rd.below hb, h.len, h.ok⟩
theorem Ls.more {w : World} {B B' : Nat} {A : Option Addr} {n c : Nat} {es : List α} (h : Ls enc K ok w B A n c es) (hb : B ≤ B') : Ls enc K ok w B' A n c es := ⟨h.rd.more hb, h.len, h.ok⟩
theorem Ls.of_own {w : World} {base : Nat} {e : TypeId} {A : Option Addr} {n c : Nat} {es : List α} (h : w.ownsRow base e K (.slice A n c) n (flatOf enc es)) (hl : es.length = n) (ho : ∀ e ∈ es, ok e) : Ls enc K ok w w.heap.size A n c es := ⟨Rd.of_own h, hl, ho⟩
theorem Ls.range {w : World} {B : Nat} {A : Option Addr} {n c : Nat} {es : List α} (h : Ls enc K ok w B A n c es) (hE : Enc enc K ok) (hn : 0 < n) : ∃ b off, A = some ⟨b, off, none⟩ ∧ b < B ∧ ∀ i e, es[i]? = some e → w.rangeAt b (off + i * K) (enc e) := by
  obtain ⟨b, off, rfl, hb, hc⟩ := h.rd.at_ hn
  refine ⟨b, off, rfl, hb, fun i e hi j v hv => ?_⟩
  have he := h.ok e (List.mem_of_getElem? hi)
  have hj : j < K := by have := (List.getElem?_eq_some_iff.1 hv).1; rwa [hE.len e he] at this
  rw [Nat.add_assoc]
  exact hc _ v (by rw [hE.flat_at h.ok hi j hj]; exact hv)
end

section
variable {α : Type} {enc : α → List Value} {K : Nat} {ok : α → Prop}
theorem own_range {w : World} {base g n c : Nat} {t : TypeId} {ds : List α} (h : w.ownsRow base t K (.slice (some ⟨g, 0, none⟩) n c) n (flatOf enc ds)) (hE : Enc enc K ok) (hl : ds.length = n) (ho : ∀ e ∈ ds, ok e) {j : Nat} {e : α} (he : ds[j]? = some e) : w.rangeAt g (j * K) (enc e) := by
  have hj := (List.getElem?_eq_some_iff.1 he).1
  obtain ⟨b, off, hA, _, hr⟩ := (Ls.of_own h hl ho).range hE (by omega)
  injection hA with hA
  injection hA with h1 h2
  subst h1 h2
  have := hr j e he
  rwa [Nat.zero_add] at this
/-- A thing, stored at a place of a row. -/
theorem own_store {w : World} {base g n c : Nat} {t : TypeId} {ds : List α} (h : w.ownsRow base t K (.slice (some ⟨g, 0, none⟩) n c) n (flatOf enc ds)) (hE : Enc enc K ok) (ho : ∀ e ∈ ds, ok e) {j : Nat} {e : α} (he : ok e) (hj : j < ds.length) :
    (w.setCells g (j * K) (enc e)).ownsRow base t K (.slice (some ⟨g, 0, none⟩) n c) n (flatOf enc (ds.set j e)) := by
  rw [← hE.flat_set ho he hj]
  exact own_cells h _ _
end

/-- The first place at which p holds; below 0: nowhere. -/
def idx {α : Type} (p : α → Bool) : List α → Int
  | [] => -1
  | e :: es => if p e then 0 else if idx p es < 0 then -1 else idx p es + 1
section
variable {α : Type} {p : α → Bool}
theorem idx_at : ∀ {es : List α} {j : Nat} {e : α}, es[j]? = some e → p e = true → (es.take j).any p = false → idx p es = j
  | [], j, e, h, _, _ => by simp at h
  | x :: es, 0, e, h, hp, _ => by simp at h; subst h; simp [idx, hp]
  | x :: es, j + 1, e, h, hp, hn => by
    simp at h
    simp only [List.take_succ_cons, List.any_cons, Bool.or_eq_false_iff] at hn
    have := idx_at h hp hn.2
    rw [idx, if_neg (by simp [hn.1]), this, if_neg (by omega)]
    omega
theorem idx_none : ∀ {es : List α}, es.any p = false → idx p es = -1
  | [], _ => rfl
  | x :: es, h => by
    simp only [List.any_cons, Bool.or_eq_false_iff] at h
    rw [idx, if_neg (by simp [h.1]), idx_none h.2]; rfl
theorem idx_range : ∀ (es : List α), -1 ≤ idx p es ∧ idx p es < es.length
  | [] => ⟨Int.le_refl _, by show (-1 : Int) < 0; omega⟩
  | x :: es => by
    have := idx_range es
    rw [idx, List.length_cons]
    split
    · omega
    · split <;> omega
/-- Either nowhere, or at a first place. -/
theorem idx_cases : ∀ (es : List α), (idx p es = -1 ∧ es.any p = false) ∨ ∃ j e, idx p es = ((j : Nat) : Int) ∧ es[j]? = some e ∧ p e = true ∧ (es.take j).any p = false
  | [] => .inl ⟨rfl, rfl⟩
  | x :: es => by
    cases hx : p x with
    | true => exact .inr ⟨0, x, by simp [idx, hx], rfl, hx, rfl⟩
    | false =>
      rcases idx_cases es with ⟨h1, h2⟩ | ⟨j, e, h1, h2, h3, h4⟩
      · exact .inl ⟨by rw [idx, if_neg (by simp [hx]), h1]; rfl, by simp [hx, h2]⟩
      · exact .inr ⟨j + 1, e, by rw [idx, if_neg (by simp [hx]), h1, if_neg (by omega)]; omega, by simpa using h2, h3, by simp [hx, h4]⟩
theorem take_any {es : List α} {j : Nat} {e : α} (h : es[j]? = some e) (hn : (es.take j).any p = false) : (es.take (j + 1)).any p = p e := by
  rw [List.take_add_one, h, List.any_append, hn]; simp
end
end Go.Proofs.YtlckfnfmekgnkaaDoor
