/- What the checksum comes to, in plain words: a weighted sum, its carries taken around. No program; no condition. -/
import Derived.Test.YtekmkainhehnpaaGood
namespace Go.Proofs.Ytekmkainhehnpaa
open Go.ChangeShapes Go.WideShapes Go.ChangeAt Go.RowKit Go.Deep
set_option linter.unusedVariables false

/-- The bytes from place p on, each with its place's weight. -/
def ws : Nat → List Int → Int
  | _, [] => 0
  | p, x :: xs => x * (if p % 2 = 0 then 256 else 1) + ws (p + 1) xs

theorem ws_append (xs ys : List Int) : ∀ p, ws p (xs ++ ys) = ws p xs + ws (p + xs.length) ys := by
  induction xs with
  | nil => intro p; simp [ws]
  | cons x xs ih =>
    intro p
    simp only [List.cons_append, ws, ih, List.length_cons]
    rw [show p + 1 + xs.length = p + (xs.length + 1) by omega]
    omega
theorem ws_two (xs : List Int) : ∀ p, ws (p + 2) xs = ws p xs := by
  induction xs with
  | nil => intro p; rfl
  | cons x xs ih =>
    intro p
    simp only [ws]
    rw [show p + 2 + 1 = p + 1 + 2 by omega, ih, Nat.add_mod_right]
theorem ws_even (xs : List Int) (k : Nat) : ws (2 * k) xs = ws 0 xs := by
  induction k with
  | zero => rfl
  | succ k ih => rw [show 2 * (k + 1) = 2 * k + 2 by omega, ws_two, ih]
theorem ws_zeros (n : Nat) : ∀ p, ws p (List.replicate n 0) = 0 := by
  induction n with
  | zero => intro p; rfl
  | succ n ih => intro p; simp only [List.replicate_succ, ws, ih]; omega
theorem ws_nonneg (xs : List Int) (h : ∀ x ∈ xs, 0 ≤ x) : ∀ p, 0 ≤ ws p xs := by
  induction xs with
  | nil => intro p; simp [ws]
  | cons x xs ih =>
    intro p
    have h1 := h x (by simp)
    have h2 := ih (fun y hy => h y (List.mem_cons_of_mem _ hy)) (p + 1)
    simp only [ws]
    split <;> omega
theorem wsum_ws (l : List Int) (hr : ∀ x ∈ l, 0 ≤ x ∧ x ≤ 255) : ∀ j, j ≤ l.length → wsum (upto (item l) j) = ws 0 (l.take j) := by
  intro j
  induction j with
  | zero => intro _; simp [upto, wsum, ws]
  | succ j ih =>
    intro hj
    obtain ⟨y, hy⟩ : ∃ y, l[j]? = some y := ⟨l[j]'(by omega), List.getElem?_eq_getElem _⟩
    obtain ⟨y0, y1⟩ := hr y (List.mem_of_getElem? hy)
    rw [wsum_item hy y0 y1, ih (by omega), take_snoc' (by omega), ws_append, hy, List.length_take, Nat.min_eq_left (by omega)]
    simp [ws]
theorem ck_ws (l : List Int) (hr : ∀ x ∈ l, 0 ≤ x ∧ x ≤ 255) : ck l = 65535 - canon (ws 0 l) := by
  unfold ck
  rw [wsum_ws l hr _ (Nat.le_refl _), List.take_length]

theorem ws_headed {s d b : List Int} {nx : Int} {n : Nat} (hs : IsAddr s) (hd : IsAddr d) :
    ws 0 (headed s d nx b n) = ws 0 s + ws 0 d + ((n : Int) / 16777216 % 256 * 256 + (n : Int) / 65536 % 256 + (n : Int) / 256 % 256 * 256 + (n : Int) % 256) + nx + ws 0 b := by
  have l1 := hs.len
  have l2 := hd.len
  unfold headed
  rw [ws_append, ws_append, ws_append, ws_append]
  simp only [List.length_append, l1, l2, List.length_cons, List.length_nil]
  have e1 : ws (0 + 16) d = ws 0 d := ws_even d 8
  have e2 : ws (0 + (16 + 16 + (0 + 1 + 1 + 1 + 1) + (0 + 1 + 1 + 1 + 1))) b = ws 0 b := ws_even b 20
  rw [e1, e2]
  simp [ws]
  omega

theorem ck_headed {s d b : List Int} {nx : Int} {n : Nat} (hs : IsAddr s) (hd : IsAddr d) (hn0 : 0 ≤ nx) (hn1 : nx ≤ 255) (hb : ∀ x ∈ b, 0 ≤ x ∧ x ≤ 255) (hn : n ≤ 65535) :
    ck (headed s d nx b n) = 65535 - canon (ws 0 s + ws 0 d + n + nx + ws 0 b) := by
  rw [ck_ws _ (headed_rng hs hd hn0 hn1 hb), ws_headed hs hd]
  congr 2
  omega

theorem canon_next {x : Int} (h : 0 ≤ x) : canon x ≠ canon (x + 1) := by
  unfold canon
  split <;> split <;> omega

theorem ck_swap {s d b : List Int} {nx : Int} {n : Nat} (hs : IsAddr s) (hd : IsAddr d) (hn0 : 0 ≤ nx) (hn1 : nx ≤ 255) (hb : ∀ x ∈ b, 0 ≤ x ∧ x ≤ 255) (hn : n ≤ 65535) :
    ck (headed d s nx b n) = ck (headed s d nx b n) := by
  rw [ck_headed hs hd hn0 hn1 hb hn, ck_headed hd hs hn0 hn1 hb hn]
  congr 2
  omega

theorem zeros_rng (n : Nat) : ∀ x ∈ List.replicate n (0 : Int), 0 ≤ x ∧ x ≤ 255 := by
  intro x hx
  have := List.eq_of_mem_replicate hx
  omega

theorem ck_longer {s d : List Int} {nx : Int} {n : Nat} (hs : IsAddr s) (hd : IsAddr d) (hn0 : 0 ≤ nx) (hn1 : nx ≤ 255) (hn : n ≤ 255) :
    ck (headed s d nx (List.replicate n 0) n) ≠ ck (headed s d nx (List.replicate (n + 1) 0) (n + 1)) := by
  rw [ck_headed hs hd hn0 hn1 (zeros_rng _) (by omega), ck_headed hs hd hn0 hn1 (zeros_rng _) (by omega), ws_zeros, ws_zeros]
  have h1 := ws_nonneg s (fun x hx => (hs.rng x hx).1) 0
  have h2 := ws_nonneg d (fun x hx => (hd.rng x hx).1) 0
  have := canon_next (x := ws 0 s + ws 0 d + n + nx + 0) (by omega)
  rw [show ws 0 s + ws 0 d + ((n + 1 : Nat) : Int) + nx + 0 = ws 0 s + ws 0 d + n + nx + 0 + 1 by omega]
  omega

theorem ck_other {s d : List Int} {nx ny : Int} {n : Nat} (hs : IsAddr s) (hd : IsAddr d) (hn0 : 0 ≤ nx) (hn1 : nx ≤ 255) (hm0 : 0 ≤ ny) (hm1 : ny ≤ 255) (hxy : ny = nx + 1 ∨ nx = ny + 1) (hn : n ≤ 255) :
    ck (headed s d nx (List.replicate n 0) n) ≠ ck (headed s d ny (List.replicate n 0) n) := by
  rw [ck_headed hs hd hn0 hn1 (zeros_rng _) (by omega), ck_headed hs hd hm0 hm1 (zeros_rng _) (by omega), ws_zeros]
  have h1 := ws_nonneg s (fun x hx => (hs.rng x hx).1) 0
  have h2 := ws_nonneg d (fun x hx => (hd.rng x hx).1) 0
  rcases hxy with rfl | rfl
  · have := canon_next (x := ws 0 s + ws 0 d + n + nx + 0) (by omega)
    rw [show ws 0 s + ws 0 d + (n : Int) + (nx + 1) + 0 = ws 0 s + ws 0 d + n + nx + 0 + 1 by omega]
    omega
  · have := canon_next (x := ws 0 s + ws 0 d + n + ny + 0) (by omega)
    rw [show ws 0 s + ws 0 d + (n : Int) + (ny + 1) + 0 = ws 0 s + ws 0 d + n + ny + 0 + 1 by omega]
    omega

set_option maxRecDepth 100000 in
theorem flip1 {x : Int} (h0 : 0 ≤ x) (h1 : x ≤ 255) : ∃ y, bits BinOp.xor IntKind.u8 x 1 = y ∧ 0 ≤ y ∧ y ≤ 255 ∧ (y = x + 1 ∨ x = y + 1) := by
  have e := u8_xor x 1 h0 (by omega) (by omega) (by omega)
  refine ⟨_, rfl, ?_⟩
  rw [e]
  have h : ∀ n : Nat, n < 256 → (n ^^^ 1 = n + 1 ∨ n = (n ^^^ 1) + 1) ∧ n ^^^ 1 < 256 := by decide +kernel
  have := h x.toNat (by omega)
  have e1 : (1 : Int).toNat = 1 := rfl
  rw [e1]
  omega
end Go.Proofs.Ytekmkainhehnpaa
