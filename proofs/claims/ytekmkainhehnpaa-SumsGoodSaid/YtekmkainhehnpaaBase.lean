/- Lists of lists of bytes as a call lays them; the chapter's example; what came in at this seat's laws, opened. No condition. -/
import Derived.Test.YtekmkainhehnpaaTwin
import Derived.Test.YtekmkainhehnpaaRefSum
import Derived.Test.YtekmkainhehnpaaOpen
namespace Go.Proofs.Ytekmkainhehnpaa
open Go.ChangeShapes Go.WideShapes Go.ChangeAt Go.RowKit Go.Deep
set_option linter.unusedVariables false

theorem own : ownKnob Try.prog.godebug = none := by kernel_rfl
theorem laidOut : laidOutB Try.prog = true := by kernel_rfl

theorem Lists.none_ (w : World) (B : Nat) : Lists w B none 0 0 [] := ⟨rfl, Nat.le_refl _, Nat.zero_le _, fun h => absurd h (by omega), by simp⟩

/-- A block of slices, read as a list of lists of bytes. -/
theorem Lists.blk {w : World} {g t B m c : Nat} {cs : Array Value} {xss : List (List Int)} (h : Blk w g t cs) (hB : g < B) (hm : xss.length = m) (hmc : m ≤ c) (hc : c ≤ maxLen) (hr : ∀ xs ∈ xss, ∀ x ∈ xs, 0 ≤ x ∧ x ≤ 255)
    (each : ∀ i, i < m → ∃ Ai ni ci, cs[i]? = some (.slice Ai ni ci) ∧ Rd w B 1 Ai ni ci ((xss[i]?.getD []).map (Value.int .u8))) : Lists w B (some ⟨g, 0, none⟩) m c xss :=
  ⟨hm, hmc, hc, fun _ => ⟨g, 0, rfl, hB, fun i hi => by
    obtain ⟨Ai, ni, ci, h1, h2⟩ := each i hi
    exact ⟨Ai, ni, ci, h.at_ (by rw [Nat.zero_add]; exact h1), h2⟩⟩, hr⟩

theorem below_alloc2 {w W : World} {a b : Obj} (h : Below ((w.alloc a).alloc b).heap.size ((w.alloc a).alloc b) W) : Below w.heap.size w W :=
  (((Below.refl _ w).alloc (Nat.le_refl _) a).alloc (by simp) b).trans (h.mono (by simp; omega))
theorem below_alloc1 {w W : World} {a : Obj} (h : Below (w.alloc a).heap.size (w.alloc a) W) : Below w.heap.size w W :=
  ((Below.refl _ w).alloc (Nat.le_refl _) a).trans (h.mono (by simp))

/-- The bytes of a literal, read. -/
theorem rd_lit (w : World) (xs : List Int) (hs : xs.length ≤ 1000) {B : Nat} (hB : w.heap.size < B) :
    Rd (w.alloc (.cells (xs.map (Value.int .u8)).toArray 5)) B 1 (some ⟨w.heap.size, 0, none⟩) xs.length xs.length (xs.map (Value.int .u8)) := by
  have := (Blk.new w 5 (xs.map (Value.int .u8)).toArray).rd 1 xs.length xs.length (by simp) (Nat.le_refl _) (by unfold maxLen; omega) hB
  simpa [List.take_of_length_le] using this

theorem of_one (w : World) (xs : List Int) (hr : ∀ x ∈ xs, 0 ≤ x ∧ x ≤ 255) (hs : xs.length ≤ 1000) :
    Calls Try.prog 10 #[.slice (some ⟨w.heap.size + 1, 0, none⟩) 1 1] ((w.alloc (.cells (xs.map (Value.int .u8)).toArray 5)).alloc (.cells #[.slice (some ⟨w.heap.size, 0, none⟩) xs.length xs.length] 22)) fun e w' =>
      e = .returned (.int .u16 (ck xs)) ∧ Below w.heap.size w w' := by
  have hb := Blk.new (w.alloc (.cells (xs.map (Value.int .u8)).toArray 5)) 22 #[.slice (some ⟨w.heap.size, 0, none⟩) xs.length xs.length]
  rw [World.size_alloc] at hb
  have hrd := (rd_lit w xs hs (B := w.heap.size + 1 + 1) (by omega)).below (w' := ((w.alloc (.cells (xs.map (Value.int .u8)).toArray 5)).alloc (.cells #[.slice (some ⟨w.heap.size, 0, none⟩) xs.length xs.length] 22)))
  have hrd2 := (rd_lit w xs hs (B := w.heap.size + 1) (by omega)).below ((Below.refl (w.heap.size + 1) (w.alloc (.cells (xs.map (Value.int .u8)).toArray 5))).alloc (by simp) (.cells #[.slice (some ⟨w.heap.size, 0, none⟩) xs.length xs.length] 22))
  have hL := Lists.blk (m := 1) (c := 1) (xss := [xs]) (B := w.heap.size + 1 + 1) hb (by omega) rfl (Nat.le_refl _) (by unfold maxLen; omega) (by simpa using hr) (fun i hi => by
    obtain rfl : i = 0 := by omega
    exact ⟨_, _, _, rfl, hrd2.more (by omega)⟩)
  refine (of_any _ _ 1 1 [xs] (by simpa using hL) (by simp; omega)).mono ?_
  rintro e w' ⟨rfl, h⟩
  exact ⟨by simp, below_alloc2 h⟩

theorem of_two (w : World) (xs ys : List Int) (hr : ∀ x ∈ xs, 0 ≤ x ∧ x ≤ 255) (hs : xs.length ≤ 1000) (hr2 : ∀ x ∈ ys, 0 ≤ x ∧ x ≤ 255) (hs2 : ys.length ≤ 1000) :
    Calls Try.prog 10 #[.slice (some ⟨w.heap.size + 1 + 1, 0, none⟩) 2 2] (((w.alloc (.cells (xs.map (Value.int .u8)).toArray 5)).alloc (.cells (ys.map (Value.int .u8)).toArray 5)).alloc (.cells #[.slice (some ⟨w.heap.size, 0, none⟩) xs.length xs.length, .slice (some ⟨w.heap.size + 1, 0, none⟩) ys.length ys.length] 22)) fun e w' =>
      e = .returned (.int .u16 (ck (xs ++ ys))) ∧ Below w.heap.size w w' := by
  have hb := Blk.new ((w.alloc (.cells (xs.map (Value.int .u8)).toArray 5)).alloc (.cells (ys.map (Value.int .u8)).toArray 5)) 22 #[.slice (some ⟨w.heap.size, 0, none⟩) xs.length xs.length, .slice (some ⟨w.heap.size + 1, 0, none⟩) ys.length ys.length]
  rw [World.size_alloc, World.size_alloc] at hb
  have h1 := ((rd_lit w xs hs (B := w.heap.size + 1) (by omega)).below ((Below.refl (w.heap.size + 1) (w.alloc (.cells (xs.map (Value.int .u8)).toArray 5))).alloc (by simp) (.cells (ys.map (Value.int .u8)).toArray 5))).below ((Below.refl (w.heap.size + 1) _).alloc (by simp) (.cells #[.slice (some ⟨w.heap.size, 0, none⟩) xs.length xs.length, .slice (some ⟨w.heap.size + 1, 0, none⟩) ys.length ys.length] 22))
  have h2 := (rd_lit (w.alloc (.cells (xs.map (Value.int .u8)).toArray 5)) ys hs2 (B := w.heap.size + 1 + 1) (by simp)).below ((Below.refl (w.heap.size + 1 + 1) _).alloc (by simp) (.cells #[.slice (some ⟨w.heap.size, 0, none⟩) xs.length xs.length, .slice (some ⟨w.heap.size + 1, 0, none⟩) ys.length ys.length] 22))
  rw [World.size_alloc] at h2
  have hL := Lists.blk (m := 2) (c := 2) (xss := [xs, ys]) (B := w.heap.size + 1 + 1 + 1) hb (by omega) rfl (Nat.le_refl _) (by unfold maxLen; omega) (by intro l hl; simp at hl; rcases hl with rfl | rfl; exact hr; exact hr2) (fun i hi => by
    rcases (by omega : i = 0 ∨ i = 1) with rfl | rfl
    · exact ⟨_, _, _, rfl, h1.more (by omega)⟩
    · exact ⟨_, _, _, rfl, h2.more (by omega)⟩)
  refine (of_any _ _ 2 2 [xs, ys] (by simpa using hL) (by simp; omega)).mono ?_
  rintro e w' ⟨rfl, h⟩
  exact ⟨by simp, (((((Below.refl w.heap.size w).alloc (Nat.le_refl _) _).alloc (by simp) _).alloc (by simp; omega) _).trans (h.mono (by simp; omega)))⟩

set_option maxRecDepth 100000 in
set_option maxHeartbeats 4000000 in
theorem lives_any (w : World) : Calls Try.prog 8 #[] w fun e w' => e = .returned (.bool true) ∧ Below w.heap.size w w' := by
  go_enter Try.func8, Try.ntmps8
  go_wp2_with fail
  refine (of_any w none 0 0 [] (Lists.none_ _ _) (by simp)).mono ?_
  rintro e w1 ⟨rfl, b1⟩
  have e1 : ck ([] : List (List Int)).flatten = 65535 := by decide
  rw [e1]
  go_wp2_with fail
  refine (of_one w1 [0, 1] (by simp) (by simp)).mono ?_
  rintro e w2 ⟨rfl, b2'⟩
  have b2 := b1.trans (b2'.mono b1.size)
  clear b1 b2'
  have e1 : ck [0, 1] = 65534 := by decide
  rw [e1]
  go_wp2_with fail
  refine (of_one w2 [0, 1, 242, 3, 244, 245, 246, 247] (by simp) (by simp)).mono ?_
  rintro e w3 ⟨rfl, b3'⟩
  have b3 := b2.trans (b3'.mono b2.size)
  clear b2 b3'
  have e1 : ck [0, 1, 242, 3, 244, 245, 246, 247] = 8717 := by decide
  rw [e1]
  go_wp2_with fail
  refine (of_two w3 [0] [1] (by simp) (by simp) (by simp) (by simp)).mono ?_
  rintro e w4 ⟨rfl, b4'⟩
  have b4 := b3.trans (b4'.mono b3.size)
  clear b3 b4'
  have e1 : ck ([0] ++ [1]) = 65534 := by decide
  rw [e1]
  go_wp2_with fail
  refine (of_one w4 [255, 255] (by simp) (by simp)).mono ?_
  rintro e w5 ⟨rfl, b5'⟩
  have b5 := b4.trans (b5'.mono b4.size)
  clear b4 b5'
  have e1 : ck [255, 255] = 0 := by decide
  rw [e1]
  go_wp2_with fail
  go_ret
  exact ⟨rfl, b5⟩
end Go.Proofs.Ytekmkainhehnpaa
