/- The checksum of one, two, three, five lists that a call lays beside one another. No condition but that each reads as said. -/
import Derived.Test.YtekmkainhehnpaaBase
namespace Go.Proofs.Ytekmkainhehnpaa
open Go.ChangeShapes Go.WideShapes Go.ChangeAt Go.RowKit Go.Deep
set_option linter.unusedVariables false

/-- A slice of bytes, known to be bytes. -/
structure By (w : World) (A : Option Addr) (n c : Nat) (xs : List Int) : Prop where
  rd : Rd w w.heap.size 1 A n c (xs.map (Value.int .u8))
  rng : ∀ x ∈ xs, 0 ≤ x ∧ x ≤ 255
  len : xs.length ≤ 100000

section
variable {w w' : World} {A : Option Addr} {n c : Nat} {xs : List Int}
theorem By.n_ (h : By w A n c xs) : xs.length = n := by have := h.rd.len; simpa using this
theorem By.below (h : By w A n c xs) (hb : Below w.heap.size w w') : By w' A n c xs := ⟨(h.rd.below hb).more hb.size, h.rng, h.len⟩
theorem By.of_rd {B : Nat} (h : Rd w B 1 A n c (xs.map (Value.int .u8))) (hB : B ≤ w.heap.size) (hr : ∀ x ∈ xs, 0 ≤ x ∧ x ≤ 255) (hl : xs.length ≤ 100000) : By w A n c xs := ⟨h.more hB, hr, hl⟩
theorem By.of_own {base : Nat} {e : TypeId} (h : w.ownsRow base e 1 (.slice A n c) n (xs.map (Value.int .u8))) (hr : ∀ x ∈ xs, 0 ≤ x ∧ x ≤ 255) (hl : xs.length ≤ 100000) : By w A n c xs := ⟨Rd.of_own h, hr, hl⟩
theorem By.alloc (h : By w A n c xs) (o : Obj) : By (w.alloc o) A n c xs := h.below ((Below.refl _ w).alloc (Nat.le_refl _) o)
end

theorem of_laid (w : World) (cs : Array Value) (xss : List (List Int)) (m : Nat) (hm : xss.length = m) (h10 : m ≤ 10)
    (each : ∀ i, i < m → ∃ Ai ni ci, cs[i]? = some (.slice Ai ni ci) ∧ By w Ai ni ci (xss[i]?.getD [])) :
    Calls Try.prog 10 #[.slice (some ⟨w.heap.size, 0, none⟩) m m] (w.alloc (.cells cs 22)) fun e w' => e = .returned (.int .u16 (ck xss.flatten)) ∧ Below w.heap.size w w' := by
  have hb := Blk.new w 22 cs
  have hmem : ∀ xs ∈ xss, ∃ i, i < m ∧ xss[i]?.getD [] = xs := by
    intro xs hx
    obtain ⟨i, hi, e⟩ := List.getElem_of_mem hx
    exact ⟨i, by omega, by simp [List.getElem?_eq_getElem hi, e]⟩
  have hL := Lists.blk (m := m) (c := m) (xss := xss) (B := (w.alloc (.cells cs 22)).heap.size) hb (by simp) hm (Nat.le_refl _) (by unfold maxLen; omega)
    (fun xs hx => by
      obtain ⟨i, hi, rfl⟩ := hmem xs hx
      obtain ⟨_, _, _, _, hy⟩ := each i hi
      exact hy.rng)
    (fun i hi => by
      obtain ⟨Ai, ni, ci, h1, h2⟩ := each i hi
      exact ⟨Ai, ni, ci, h1, (h2.alloc (.cells cs 22)).rd⟩)
  have hlen : ∀ (l : List (List Int)), (∀ xs ∈ l, xs.length ≤ 100000) → l.flatten.length ≤ 100000 * l.length := by
    intro l
    induction l with
    | nil => simp
    | cons a l ih =>
      intro h
      have h1 := h a (by simp)
      have h2 := ih (fun xs hx => h xs (List.mem_cons_of_mem _ hx))
      simp only [List.flatten_cons, List.length_append, List.length_cons]
      omega
  have h2 := hlen xss (fun xs hx => by
    obtain ⟨i, hi, rfl⟩ := hmem xs hx
    obtain ⟨_, _, _, _, hy⟩ := each i hi
    exact hy.len)
  refine (of_any _ _ m m xss hL (by omega)).mono ?_
  rintro e w' ⟨rfl, h⟩
  exact ⟨rfl, below_alloc1 h⟩

theorem of_l1 (w : World) (A : Option Addr) (n c : Nat) (xs : List Int) (h : By w A n c xs) :
    Calls Try.prog 10 #[.slice (some ⟨w.heap.size, 0, none⟩) 1 1] (w.alloc (.cells #[.slice A n c] 22)) fun e w' => e = .returned (.int .u16 (ck xs)) ∧ Below w.heap.size w w' := by
  refine (of_laid w _ [xs] 1 rfl (by omega) (fun i hi => by
    obtain rfl : i = 0 := by omega
    exact ⟨_, _, _, rfl, h⟩)).mono ?_
  rintro e w' ⟨rfl, h⟩
  exact ⟨by simp, h⟩

theorem of_l2 (w : World) (A A' : Option Addr) (n c n' c' : Nat) (xs ys : List Int) (h : By w A n c xs) (h' : By w A' n' c' ys) :
    Calls Try.prog 10 #[.slice (some ⟨w.heap.size, 0, none⟩) 2 2] (w.alloc (.cells #[.slice A n c, .slice A' n' c'] 22)) fun e w' => e = .returned (.int .u16 (ck (xs ++ ys))) ∧ Below w.heap.size w w' := by
  refine (of_laid w _ [xs, ys] 2 rfl (by omega) (fun i hi => by
    rcases (by omega : i = 0 ∨ i = 1) with rfl | rfl
    · exact ⟨_, _, _, rfl, h⟩
    · exact ⟨_, _, _, rfl, h'⟩)).mono ?_
  rintro e w' ⟨rfl, h⟩
  exact ⟨by simp, h⟩

theorem of_l3 (w : World) (A A' A2 : Option Addr) (n c n' c' n2 c2 : Nat) (xs ys zs : List Int) (h : By w A n c xs) (h' : By w A' n' c' ys) (h2 : By w A2 n2 c2 zs) :
    Calls Try.prog 10 #[.slice (some ⟨w.heap.size, 0, none⟩) 3 3] (w.alloc (.cells #[.slice A n c, .slice A' n' c', .slice A2 n2 c2] 22)) fun e w' => e = .returned (.int .u16 (ck (xs ++ ys ++ zs))) ∧ Below w.heap.size w w' := by
  refine (of_laid w _ [xs, ys, zs] 3 rfl (by omega) (fun i hi => by
    rcases (by omega : i = 0 ∨ i = 1 ∨ i = 2) with rfl | rfl | rfl
    · exact ⟨_, _, _, rfl, h⟩
    · exact ⟨_, _, _, rfl, h'⟩
    · exact ⟨_, _, _, rfl, h2⟩)).mono ?_
  rintro e w' ⟨rfl, h⟩
  exact ⟨by simp, h⟩

theorem of_l5 (w : World) (A A' A2 A3 A4 : Option Addr) (n c n' c' n2 c2 n3 c3 n4 c4 : Nat) (xs ys zs us vs : List Int) (h : By w A n c xs) (h' : By w A' n' c' ys) (h2 : By w A2 n2 c2 zs) (h3 : By w A3 n3 c3 us) (h4 : By w A4 n4 c4 vs) :
    Calls Try.prog 10 #[.slice (some ⟨w.heap.size, 0, none⟩) 5 5] (w.alloc (.cells #[.slice A n c, .slice A' n' c', .slice A2 n2 c2, .slice A3 n3 c3, .slice A4 n4 c4] 22)) fun e w' => e = .returned (.int .u16 (ck (xs ++ ys ++ zs ++ us ++ vs))) ∧ Below w.heap.size w w' := by
  refine (of_laid w _ [xs, ys, zs, us, vs] 5 rfl (by omega) (fun i hi => by
    rcases (by omega : i = 0 ∨ i = 1 ∨ i = 2 ∨ i = 3 ∨ i = 4) with rfl | rfl | rfl | rfl | rfl
    · exact ⟨_, _, _, rfl, h⟩
    · exact ⟨_, _, _, rfl, h'⟩
    · exact ⟨_, _, _, rfl, h2⟩
    · exact ⟨_, _, _, rfl, h3⟩
    · exact ⟨_, _, _, rfl, h4⟩)).mono ?_
  rintro e w' ⟨rfl, h⟩
  exact ⟨by simp, h⟩

theorem refOf_by (w : World) (A : Option Addr) (n c : Nat) (xs : List Int) (h : By w A n c xs) :
    Calls Try.prog 11 #[.slice A n c] w fun e w' => e = .returned (.int .u16 (ck xs)) ∧ w = w' :=
  refOf_any w _ A n c xs h.rd h.rng (by have := h.n_; have := h.len; omega)

theorem u8b {a : Int} (h : (Lit.int .u8 a).wf = true) : 0 ≤ a ∧ a ≤ 255 := by
  have := bounds_u8 h; omega

theorem ck_range (xs : List Int) : 0 ≤ ck xs ∧ ck xs ≤ 65535 := by
  have := canon_bound (wsum_bound (upto (item xs) xs.length)).1
  unfold ck
  omega

theorem grown_below {w w' : World} {base size n : Nat} {e : TypeId} {v : Value} {xs : List Value} (ho : w.ownsRow base e size v n xs) (hg : w.grownBy w' v.ownBlock) (hb : base ≤ w.heap.size) : Below base w w' :=
  (Fr.of_grown hg).below hb (fun k hk => (ho.lt k hk).1)

theorem grown_own {w' : World} {base n : Nat} {e : TypeId} {v : Value} {xs : List Value} (h : w'.ownsRow base e 1 v n xs) {l : List Int} (hx : xs = l.map (Value.int .u8)) (hr : ∀ x ∈ l, 0 ≤ x ∧ x ≤ 255) (hl : l.length ≤ 100000) : ∃ A c, v = .slice A n c ∧ By w' A n c l := by
  obtain ⟨A, c, rfl⟩ := slice_of_own h
  subst hx
  exact ⟨A, c, rfl, By.of_own h hr hl⟩
end Go.Proofs.Ytekmkainhehnpaa
