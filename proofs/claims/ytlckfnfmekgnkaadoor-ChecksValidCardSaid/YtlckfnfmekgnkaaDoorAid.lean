/- Small words for lists in memory, of no program: a cell that was just set, a list's beginning, a slice of integers. No condition. -/
import Derived.Test.YtlckfnfmekgnkaaDoorMem
namespace Go.Proofs.YtlckfnfmekgnkaaDoor
open Go.ChangeShapes Go.WideShapes Go.ChangeAt Go.RowKit
set_option linter.unusedVariables false

theorem get_set (cs : Array Value) (i j : Nat) (u : Value) (hi : i < cs.size) : (cs.setIfInBounds i u)[j]? = if i = j then some u else cs[j]? := by
  rw [Array.getElem?_setIfInBounds]
  split <;> simp_all

theorem take_snoc' {xs : List Int} {k : Nat} (h : k < xs.length) : xs.take (k + 1) = xs.take k ++ [xs[k]?.getD 0] := by
  rw [List.take_succ_eq_append_getElem h]
  simp [h]

theorem ints_one (k : IntKind) (xs : List Int) : ∀ u ∈ xs.map (Value.int k), u.oneCell' = true := by
  intro u hu
  obtain ⟨x, _, rfl⟩ := List.mem_map.1 hu
  rfl

theorem slice_of_own {w : World} {base : Nat} {e : TypeId} {size n : Nat} {v : Value} {xs : List Value} (h : w.ownsRow base e size v n xs) : ∃ A c, v = .slice A n c := by
  rcases h.2 with ⟨rfl, rfl⟩ | ⟨g, cap, cur, rfl, _⟩
  · exact ⟨_, _, rfl⟩
  · exact ⟨_, _, rfl⟩

theorem Rd.ints {w : World} {B : Nat} {k : IntKind} {A : Option Addr} {n c : Nat} {xs : List Int} (h : Rd w B 1 A n c (xs.map (Value.int k))) (hn : 0 < n) :
    ∃ b off, A = some ⟨b, off, none⟩ ∧ b < B ∧ ∀ j, j < n → w.cell? ⟨b, off + j, none⟩ = some (.int k (xs[j]?.getD 0)) := by
  obtain ⟨b, off, e, hb, hc⟩ := h.at_ hn
  have hl := h.len
  simp at hl
  exact ⟨b, off, e, hb, fun j hj => hc j _ (by simp [List.getElem?_eq_getElem (show j < xs.length by omega)])⟩

theorem arr_ext {a b : Array Value} (hs : a.size = b.size) (h : ∀ j, j < a.size → a[j]? = b[j]?) : a = b := by
  apply Array.ext hs
  intro j h1 h2
  have := h j h1
  rw [Array.getElem?_eq_getElem h1, Array.getElem?_eq_getElem h2] at this
  exact Option.some.inj this

/-- A beginning 's[:k]'. -/
theorem Rd.take {w : World} {B size n c : Nat} {A : Option Addr} {xs : List Value} (h : Rd w B size A n c xs) {k : Nat} (hk : k ≤ n) : Rd w B size A k c (xs.take (k * size)) := by
  have hc := h.cap
  have hm := h.cmax
  have hl := h.len
  have hle : k * size ≤ n * size := Nat.mul_le_mul_right _ hk
  refine ⟨by rw [List.length_take, hl]; omega, by omega, hm, fun e => ?_, fun hn => ?_⟩
  · have := h.nil_ e
    omega
  · obtain ⟨b, off, rfl, hb, hcell⟩ := h.at_ (by omega)
    refine ⟨b, off, rfl, hb, fun j u hu => hcell j u ?_⟩
    have : j < k * size := by
      rcases Nat.lt_or_ge j (k * size) with hj | hj
      · exact hj
      · rw [List.getElem?_eq_none (by simp; omega)] at hu; cases hu
    rwa [List.getElem?_take_of_lt this] at hu
end Go.Proofs.YtlckfnfmekgnkaaDoor
