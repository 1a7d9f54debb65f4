/- The checksum with the pseudo header, the program's and the reference's, each walked once. No condition but that the list reads as said. -/
import Derived.Test.YtekmkainhehnpaaLaid
import Derived.Test.YtekmkainhehnpaaAddr
import Derived.Deep.RegionHeld3
namespace Go.Proofs.Ytekmkainhehnpaa
open Go.ChangeShapes Go.WideShapes Go.ChangeAt Go.RowKit Go.Deep
set_option linter.unusedVariables false

/-- What the checksum is taken over. -/
def headed (s d : List Int) (nx : Int) (b : List Int) (n : Nat) : List Int :=
  s ++ d ++ [(n : Int) / 16777216 % 256, (n : Int) / 65536 % 256, (n : Int) / 256 % 256, (n : Int) % 256] ++ [0, 0, 0, nx] ++ b

theorem By.new (w : World) {l : List Int} (t : TypeId) (hr : ∀ x ∈ l, 0 ≤ x ∧ x ≤ 255) (hl : l.length ≤ 100000) : By (w.alloc (.cells (bytesV l) t)) (some ⟨w.heap.size, 0, none⟩) l.length l.length l := by
  have := (Blk.new w t (bytesV l)).rd 1 l.length l.length (by simp [bytesV]) (Nat.le_refl _) (by unfold maxLen; omega) (B := (w.alloc (.cells (bytesV l) t)).heap.size) (by simp)
  refine ⟨?_, hr, hl⟩
  simpa [bytesV, List.take_of_length_le] using this

theorem headed_rng {s d b : List Int} {nx : Int} {n : Nat} (hs : IsAddr s) (hd : IsAddr d) (hn0 : 0 ≤ nx) (hn1 : nx ≤ 255) (hb : ∀ x ∈ b, 0 ≤ x ∧ x ≤ 255) : ∀ x ∈ headed s d nx b n, 0 ≤ x ∧ x ≤ 255 := by
  intro x hx
  simp only [headed, List.mem_append, List.mem_cons, List.not_mem_nil, or_false] at hx
  rcases hx with (((h | h) | (rfl | rfl | rfl | rfl)) | (rfl | rfl | rfl | rfl)) | h
  · exact hs.rng x h
  · exact hd.rng x h
  all_goals first | (constructor <;> omega) | exact hb x h

theorem By.drew {w : World} {A : Option Addr} {n c : Nat} {xs : List Int} (h : By w A n c xs) : By w.drew A n c xs := ⟨h.rd.drew, h.rng, h.len⟩

/-- The two short lists that the header takes, in whichever order they were laid. -/
theorem over_of (w : World) (s d : List Int) (hs : IsAddr s) (hd : IsAddr d) (nx : Int) (hn0 : 0 ≤ nx) (hn1 : nx ≤ 255) (A : Option Addr) (n c : Nat) (b : List Int) (hb : By w A n c b) (W : World) (g g' : Nat)
    (hW : W = (((w.alloc (.cells (bytesV s) 34)).alloc (.cells (bytesV d) 34)).alloc (.cells (bytesV [IntKind.u8.wrap ((n : Int) / 16777216), IntKind.u8.wrap ((n : Int) / 65536), IntKind.u8.wrap ((n : Int) / 256), IntKind.u8.wrap (n : Int)]) 5)).alloc (.cells (bytesV [0, 0, 0, nx]) 5) ∧ g = w.heap.size + 2 ∧ g' = w.heap.size + 3 ∨
      W = (((w.alloc (.cells (bytesV s) 34)).alloc (.cells (bytesV d) 34)).alloc (.cells (bytesV [0, 0, 0, nx]) 5)).alloc (.cells (bytesV [IntKind.u8.wrap ((n : Int) / 16777216), IntKind.u8.wrap ((n : Int) / 65536), IntKind.u8.wrap ((n : Int) / 256), IntKind.u8.wrap (n : Int)]) 5) ∧ g = w.heap.size + 3 ∧ g' = w.heap.size + 2) :
    Calls Try.prog 10 #[.slice (some ⟨W.heap.size, 0, none⟩) 5 5] ((W.alloc (.cells #[.slice (some ⟨w.heap.size, 0, none⟩) 16 16, .slice (some ⟨w.heap.size + 1, 0, none⟩) 16 16, .slice (some ⟨g, 0, none⟩) 4 4, .slice (some ⟨g', 0, none⟩) 4 4, .slice A n c] 22)).drew) fun e w' =>
      e = .returned (.int .u16 (ck (headed s d nx b n))) ∧ Below w.heap.size w w' := by
  simp only [IntKind.wrap_u8'] at hW
  have h4 : ∀ x ∈ [(n : Int) / 16777216 % 256, (n : Int) / 65536 % 256, (n : Int) / 256 % 256, (n : Int) % 256], 0 ≤ x ∧ x ≤ 255 := by
    intro x hx
    simp only [List.mem_cons, List.not_mem_nil, or_false] at hx
    rcases hx with rfl | rfl | rfl | rfl <;> omega
  have h5 : ∀ x ∈ [0, 0, 0, nx], 0 ≤ x ∧ x ≤ 255 := by
    intro x hx
    simp only [List.mem_cons, List.not_mem_nil, or_false] at hx
    rcases hx with rfl | rfl | rfl | rfl <;> omega
  have ls := hs.len
  have ld := hd.len
  have q1 := By.new w 34 hs.rng (by omega)
  have q2 := By.new (w.alloc (.cells (bytesV s) 34)) 34 hd.rng (by omega)
  have qb := ((hb.alloc (.cells (bytesV s) 34)).alloc (.cells (bytesV d) 34))
  have q1' := q1.alloc (.cells (bytesV d) 34)
  rw [ls] at q1'
  rw [ld, World.size_alloc] at q2
  have B2 : Below w.heap.size w ((w.alloc (.cells (bytesV s) 34)).alloc (.cells (bytesV d) 34)) := ((Below.refl _ w).alloc (Nat.le_refl _) _).alloc (by simp) _
  have hz : ((w.alloc (.cells (bytesV s) 34)).alloc (.cells (bytesV d) 34)).heap.size = w.heap.size + 2 := by simp
  obtain ⟨W2, hW2⟩ : ∃ W2, W2 = (w.alloc (.cells (bytesV s) 34)).alloc (.cells (bytesV d) 34) := ⟨_, rfl⟩
  rw [← hW2] at q1' q2 qb B2 hz hW
  rcases hW with ⟨rfl, rfl, rfl⟩ | ⟨rfl, rfl, rfl⟩
  · have q3 := (By.new W2 5 h4 (by simp)).alloc (.cells (bytesV [0, 0, 0, nx]) 5)
    have q4 := By.new (W2.alloc (.cells (bytesV [(n : Int) / 16777216 % 256, (n : Int) / 65536 % 256, (n : Int) / 256 % 256, (n : Int) % 256]) 5)) 5 h5 (by simp)
    rw [World.size_alloc, hz] at q4
    rw [hz] at q3
    refine (of_l5 (World.drew _) _ _ _ _ _ _ _ _ _ _ _ _ _ _ _ s d _ _ b ((q1'.alloc _).alloc _).drew ((q2.alloc _).alloc _).drew q3.drew q4.drew ((qb.alloc _).alloc _).drew).mono ?_
    rintro e w' ⟨rfl, h⟩
    exact ⟨rfl, B2.trans (((((Below.refl _ W2).alloc B2.size _).alloc (by simp; omega) _).drew).trans (h.mono (by simp; omega)))⟩
  · have q3 := (By.new W2 5 h5 (by simp)).alloc (.cells (bytesV [(n : Int) / 16777216 % 256, (n : Int) / 65536 % 256, (n : Int) / 256 % 256, (n : Int) % 256]) 5)
    have q4 := By.new (W2.alloc (.cells (bytesV [0, 0, 0, nx]) 5)) 5 h4 (by simp)
    rw [World.size_alloc, hz] at q4
    rw [hz] at q3
    refine (of_l5 (World.drew _) _ _ _ _ _ _ _ _ _ _ _ _ _ _ _ s d _ _ b ((q1'.alloc _).alloc _).drew ((q2.alloc _).alloc _).drew q4.drew q3.drew ((qb.alloc _).alloc _).drew).mono ?_
    rintro e w' ⟨rfl, h⟩
    exact ⟨rfl, B2.trans (((((Below.refl _ W2).alloc B2.size _).alloc (by simp; omega) _).drew).trans (h.mono (by simp; omega)))⟩

set_option maxRecDepth 100000 in
set_option maxHeartbeats 4000000 in
theorem over_any (w : World) (s d : List Int) (hs : IsAddr s) (hd : IsAddr d) (nx : Int) (hn0 : 0 ≤ nx) (hn1 : nx ≤ 255) (A : Option Addr) (n c : Nat) (b : List Int) (hb : By w A n c b) :
    Calls Try.prog 13 #[.agg (bytesV s), .agg (bytesV d), .int .u8 nx, .slice A n c] w fun e w' => e = .returned (.int .u16 (ck (headed s d nx b n))) ∧ Below w.heap.size w w' := by
  have hcm := hb.rd.cmax
  have hcn := hb.rd.cap
  unfold maxLen at hcm
  go_enter Try.func13, Try.ntmps13
  have H1 := hidd (over_of w s d hs hd nx hn0 hn1 A n c b hb _ _ _ (.inl ⟨rfl, rfl, rfl⟩))
  have H2 := hidd (over_of w s d hs hd nx hn0 hn1 A n c b hb _ _ _ (.inr ⟨rfl, rfl, rfl⟩))
  simp only [World.size_alloc] at H1 H2
  clear hs hd hb
  go_wp2
  go_region_with (go_at_call 10; first | (refine Calls.mono H1 ?_; rintro e w' ⟨rfl, hbel⟩) | (refine Calls.mono H2 ?_; rintro e w' ⟨rfl, hbel⟩))
  all_goals clear H1 H2
  all_goals go_wp2
  all_goals go_ret
  all_goals exact ⟨rfl, hbel⟩
end Go.Proofs.Ytekmkainhehnpaa
