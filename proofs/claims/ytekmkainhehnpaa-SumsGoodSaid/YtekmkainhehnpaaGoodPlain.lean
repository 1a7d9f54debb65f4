/- The stage's theorem in plain words: a checksum put in its place makes good, one bit turned does not. And a list in a block of its own that is written into. No condition. -/
import Derived.Test.YtekmkainhehnpaaPlain
import Derived.Test.YtekmkainhehnpaaOverLaw
namespace Go.Proofs.Ytekmkainhehnpaa
open Go.ChangeShapes Go.WideShapes Go.ChangeAt Go.RowKit Go.Deep
set_option linter.unusedVariables false

theorem ws_set (l : List Int) : ∀ (p i : Nat) (v : Int), i < l.length → ws p (l.set i v) = ws p l + (v - l[i]?.getD 0) * (if (p + i) % 2 = 0 then 256 else 1) := by
  induction l with
  | nil => intro p i v h; simp at h
  | cons x l ih =>
    intro p i v h
    cases i with
    | zero => simp only [List.set_cons_zero, ws, List.getElem?_cons_zero, Option.getD_some, Nat.add_zero]; split <;> omega
    | succ i =>
      simp only [List.length_cons] at h
      simp only [List.set_cons_succ, ws, ih (p + 1) i v (by omega), List.getElem?_cons_succ]
      rw [show p + 1 + i = p + (i + 1) by omega]
      omega

theorem set_rng {l : List Int} {i : Nat} {v : Int} (h : ∀ x ∈ l, 0 ≤ x ∧ x ≤ 255) (h0 : 0 ≤ v) (h1 : v ≤ 255) : ∀ x ∈ l.set i v, 0 ≤ x ∧ x ≤ 255 := by
  intro x hx
  rcases List.mem_or_eq_of_mem_set hx with hx | rfl
  · exact h x hx
  · exact ⟨h0, h1⟩

theorem canon_full {t : Int} (ht : 0 < t) : canon (t + (65535 - canon t)) = 65535 := by
  unfold canon
  rw [if_neg (by omega)]
  split <;> omega

theorem canon_off {t d : Int} (ht : 65535 ≤ t) (h : canon t = 65535) (hd : d ≠ 0) (h1 : -32768 ≤ d) (h2 : d ≤ 32768) : canon (t + d) ≠ 65535 := by
  unfold canon at *
  rw [if_neg (by omega)] at *
  omega

/-- A place's two bytes, the checksum put in. -/
theorem ck_put {s d L : List Int} {nx : Int} {n i : Nat} (hs : IsAddr s) (hd : IsAddr d) (hn0 : 0 ≤ nx) (hn1 : nx ≤ 255) (hL : ∀ x ∈ L, 0 ≤ x ∧ x ≤ 255) (hn : n ≤ 65535) (hpos : 0 < n) (hi : i % 2 = 0) (hl : i + 1 < L.length)
    (h0 : L[i]?.getD 0 = 0) (h1 : L[i + 1]?.getD 0 = 0) :
    ck (headed s d nx ((L.set i (ck (headed s d nx L n) / 256)).set (i + 1) (ck (headed s d nx L n) % 256)) n) = 0 := by
  obtain ⟨c0, c1⟩ := ck_range (headed s d nx L n)
  have e := ck_headed hs hd hn0 hn1 hL hn
  obtain ⟨N, hN⟩ : ∃ N, N = ck (headed s d nx L n) := ⟨_, rfl⟩
  rw [← hN] at c0 c1 e ⊢
  have r1 := set_rng (i := i) (v := N / 256) hL (by omega) (by omega)
  have r2 := set_rng (i := i + 1) (v := N % 256) r1 (by omega) (by omega)
  rw [ck_headed hs hd hn0 hn1 r2 hn, ws_set _ _ _ _ (by simp; omega), ws_set _ _ _ _ (by omega)]
  rw [List.getElem?_set_ne (by omega), h1, h0, if_pos (by omega), if_neg (by omega)]
  have p1 := ws_nonneg s (fun x hx => (hs.rng x hx).1) 0
  have p2 := ws_nonneg d (fun x hx => (hd.rng x hx).1) 0
  have p3 := ws_nonneg L (fun x hx => (hL x hx).1) 0
  have := canon_full (t := ws 0 s + ws 0 d + n + nx + ws 0 L) (by omega)
  rw [← e] at this
  rw [show ws 0 s + ws 0 d + (n : Int) + nx + (ws 0 L + (N / 256 - 0) * 256 + (N % 256 - 0) * 1) = ws 0 s + ws 0 d + n + nx + ws 0 L + N by omega, this]
  omega

/-- One bit turned. -/
theorem ck_bit {s d L : List Int} {nx v : Int} {n i : Nat} (hs : IsAddr s) (hd : IsAddr d) (hn0 : 0 ≤ nx) (hn1 : nx ≤ 255) (hL : ∀ x ∈ L, 0 ≤ x ∧ x ≤ 255) (hn : n ≤ 65535) (hpos : 0 < n) (hl : i < L.length)
    (h : ck (headed s d nx L n) = 0) (v0 : 0 ≤ v) (v1 : v ≤ 255) (hv : v - L[i]?.getD 0 ≠ 0) (hv1 : -128 ≤ v - L[i]?.getD 0) (hv2 : v - L[i]?.getD 0 ≤ 128) :
    ck (headed s d nx (L.set i v) n) ≠ 0 := by
  have r1 := set_rng (i := i) (v := v) hL v0 v1
  rw [ck_headed hs hd hn0 hn1 hL hn] at h
  rw [ck_headed hs hd hn0 hn1 r1 hn, ws_set _ _ _ _ hl]
  have p1 := ws_nonneg s (fun x hx => (hs.rng x hx).1) 0
  have p2 := ws_nonneg d (fun x hx => (hd.rng x hx).1) 0
  have p3 := ws_nonneg L (fun x hx => (hL x hx).1) 0
  obtain ⟨t, ht⟩ : ∃ t, t = ws 0 s + ws 0 d + n + nx + ws 0 L := ⟨_, rfl⟩
  rw [← ht] at h
  have t0 : 0 < t := by omega
  have tc : canon t = 65535 := by omega
  have t1 : 65535 ≤ t := by
    unfold canon at tc
    rw [if_neg (by omega)] at tc
    omega
  obtain ⟨e, he⟩ : ∃ e, e = v - L[i]?.getD 0 := ⟨_, rfl⟩
  rw [← he] at hv hv1 hv2 ⊢
  by_cases hp : (0 + i) % 2 = 0
  · rw [if_pos hp, show ws 0 s + ws 0 d + (n : Int) + nx + (ws 0 L + e * 256) = t + e * 256 by omega]
    have := canon_off (d := e * 256) t1 tc (by omega) (by omega) (by omega)
    omega
  · rw [if_neg hp, show ws 0 s + ws 0 d + (n : Int) + nx + (ws 0 L + e * 1) = t + e by omega]
    have := canon_off (d := e) t1 tc (by omega) (by omega) (by omega)
    omega

/-- A byte with one bit turned. -/
theorem xor_bit (k : Nat) (hk : k < 8) (x : Nat) (hx : x < 256) : x ^^^ 2 ^ k < 256 ∧ (x ^^^ 2 ^ k ≠ x) ∧ x ^^^ 2 ^ k ≤ x + 128 ∧ x ≤ (x ^^^ 2 ^ k) + 128 := by
  have h : ∀ k : Nat, k < 8 → ∀ x : Nat, x < 256 → x ^^^ 2 ^ k < 256 ∧ (x ^^^ 2 ^ k ≠ x) ∧ x ^^^ 2 ^ k ≤ x + 128 ∧ x ≤ (x ^^^ 2 ^ k) + 128 := by decide +kernel
  exact h k hk x hx

/-- Block g holds the list L first, in room for cap. -/
structure IsP (w : World) (g cap : Nat) (L : List Int) : Prop where
  blk : ∃ cur, Blk w g 5 cur ∧ cur.size = cap ∧ cur.toList.take L.length = L.map (Value.int .u8)
  le : L.length ≤ cap
  cmax : cap ≤ maxLen
  rng : ∀ x ∈ L, 0 ≤ x ∧ x ≤ 255
  len : L.length ≤ 100000

section
variable {w W : World} {g cap : Nat} {L : List Int}
theorem IsP.lt (h : IsP w g cap L) : g < w.heap.size := by obtain ⟨cur, hb, _⟩ := h.blk; exact hb.lt
theorem IsP.cell (h : IsP w g cap L) {i : Nat} {y : Int} (hi : L[i]? = some y) : w.cell? ⟨g, i, none⟩ = some (.int .u8 y) := by
  obtain ⟨cur, hb, _, ht⟩ := h.blk
  have hl := (List.getElem?_eq_some_iff.1 hi).1
  have : (cur.toList.take L.length)[i]? = some (.int .u8 y) := by rw [ht, List.getElem?_map, hi]; rfl
  rw [List.getElem?_take_of_lt hl] at this
  exact hb.at_ (by simpa using this)
theorem IsP.frozen (h : IsP w g cap L) (i : Nat) : w.frozen? ⟨g, i, none⟩ = false := by obtain ⟨cur, hb, _⟩ := h.blk; exact hb.frozen i
theorem IsP.below (h : IsP w g cap L) {B : Nat} (hb : Below B w W) (hg : g < B) : IsP W g cap L := by
  obtain ⟨cur, h1, h2, h3⟩ := h.blk
  exact ⟨⟨cur, h1.below hb hg, h2, h3⟩, h.le, h.cmax, h.rng, h.len⟩
theorem IsP.set (h : IsP w g cap L) {i : Nat} {v : Int} (hi : i < L.length) (h0 : 0 ≤ v) (h1 : v ≤ 255) : IsP (w.setCell ⟨g, i, none⟩ (.int .u8 v)) g cap (L.set i v) := by
  obtain ⟨cur, hb, hs, ht⟩ := h.blk
  refine ⟨⟨_, hb.set i _, by simpa using hs, ?_⟩, by simpa using h.le, h.cmax, set_rng h.rng h0 h1, by simpa using h.len⟩
  rw [List.length_set, Array.toList_setIfInBounds, List.take_set, ht, List.map_set]
theorem IsP.by_ (h : IsP w g cap L) : By w (some ⟨g, 0, none⟩) L.length cap L := by
  obtain ⟨cur, hb, hs, ht⟩ := h.blk
  have := hb.rd 1 L.length cap (by omega) h.le h.cmax (B := w.heap.size) hb.lt
  rw [Nat.mul_one, ht] at this
  exact ⟨this, h.rng, h.len⟩
theorem IsP.drew (h : IsP w g cap L) : IsP w.drew g cap L := ⟨h.blk, h.le, h.cmax, h.rng, h.len⟩
end
end Go.Proofs.Ytekmkainhehnpaa
