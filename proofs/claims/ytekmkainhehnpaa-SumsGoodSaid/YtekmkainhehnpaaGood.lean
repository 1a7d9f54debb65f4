/- 'Good', and the reference's checksum with the pseudo header, each walked once. No condition but that the list reads as said. -/
import Derived.Test.YtekmkainhehnpaaOver
namespace Go.Proofs.Ytekmkainhehnpaa
open Go.ChangeShapes Go.WideShapes Go.ChangeAt Go.RowKit Go.Deep
set_option linter.unusedVariables false

theorem info34 : (Try.prog.info? 34).map (·.size) = some 16 := by kernel_rfl

theorem load34 (w : World) (g off : Nat) (l : List Int) (hl : IsAddr l) (hc : ∀ j y, l[j]? = some y → w.cell? ⟨g, off + j, none⟩ = some (.int .u8 y)) :
    (loadVar 34 ⟨g, off, none⟩).run Try.prog w = .ok (.agg (bytesV l)) w :=
  run_load_bytes w g off 34 _ l hc Try.underlying34 rfl (by rw [hl.len]; exact info34)

set_option maxRecDepth 100000 in
set_option maxHeartbeats 4000000 in
theorem good_any (w : World) (s d : List Int) (hs : IsAddr s) (hd : IsAddr d) (nx : Int) (hn0 : 0 ≤ nx) (hn1 : nx ≤ 255) (A : Option Addr) (n c : Nat) (b : List Int) (hb : By w A n c b) :
    Calls Try.prog 15 #[.agg (bytesV s), .agg (bytesV d), .int .u8 nx, .slice A n c] w fun e w' => e = .returned (.bool (ck (headed s d nx b n) == 0)) ∧ Below w.heap.size w w' := by
  have B2 : Below w.heap.size w ((w.alloc (.cells (bytesV s) 34)).alloc (.cells (bytesV d) 34)) := ((Below.refl _ w).alloc (Nat.le_refl _) _).alloc (by simp) _
  have b1 : Blk ((w.alloc (.cells (bytesV s) 34)).alloc (.cells (bytesV d) 34)) w.heap.size 34 (bytesV s) := (Blk.new w 34 _).alloc _
  have b2 : Blk ((w.alloc (.cells (bytesV s) 34)).alloc (.cells (bytesV d) 34)) (w.heap.size + 1) 34 (bytesV d) := by
    have := Blk.new (w.alloc (.cells (bytesV s) 34)) 34 (bytesV d)
    rwa [World.size_alloc] at this
  have l0 := load34 _ w.heap.size 0 s hs b1.bytes
  have l1 := load34 _ (w.heap.size + 1) 0 d hd b2.bytes
  have H := hidd (over_any _ s d hs hd nx hn0 hn1 A n c b ((hb.alloc (.cells (bytesV s) 34)).alloc (.cells (bytesV d) 34)))
  have B2' := hidd B2
  clear b1 b2 hs hd hb B2
  go_enter Try.func15, Try.ntmps15
  go_wp2_with (first
    | (refine wpList_load_want rfl 34 (.tmp 4) rfl _ rfl _ l0 ?_)
    | (refine wpList_load_want rfl 34 (.tmp 5) rfl _ rfl _ l1 ?_)
    | (go_at_call 13; refine Calls.mono H ?_; rintro e w' ⟨rfl, hbel⟩))
  go_ret
  exact ⟨rfl, B2'.out.trans (hbel.mono B2'.out.size)⟩

theorem rd8 (w : World) (e1 e2 e3 e4 e5 e6 e7 e8 : Int) : Rd (w.alloc (.cells #[.int .u8 e1, .int .u8 e2, .int .u8 e3, .int .u8 e4, .int .u8 e5, .int .u8 e6, .int .u8 e7, .int .u8 e8] 5)) (w.heap.size + 1) 1 (some ⟨w.heap.size, 0, none⟩) 8 8 ([e1, e2, e3, e4, e5, e6, e7, e8].map (Value.int .u8)) :=
  (Blk.new w 5 #[.int .u8 e1, .int .u8 e2, .int .u8 e3, .int .u8 e4, .int .u8 e5, .int .u8 e6, .int .u8 e7, .int .u8 e8]).rd 1 8 8 rfl (Nat.le_refl _) (by decide) (by omega)

theorem own_alloc {w : World} {base size n : Nat} {e : TypeId} {v : Value} {xs : List Value} (h : w.ownsRow base e size v n xs) (o : Obj) : (w.alloc o).ownsRow base e size v n xs :=
  ownRow_fr h ((Fr.refl (fun _ => False) w).alloc o) (fun _ _ e => e)

set_option maxRecDepth 100000 in
set_option maxHeartbeats 4000000 in
theorem refOver_any (w : World) (s d : List Int) (hs : IsAddr s) (hd : IsAddr d) (nx : Int) (hn0 : 0 ≤ nx) (hn1 : nx ≤ 255) (A : Option Addr) (n c : Nat) (b : List Int) (hb : By w A n c b) (hsm : b.length ≤ 10000) :
    Calls Try.prog 14 #[.agg (bytesV s), .agg (bytesV d), .int .u8 nx, .slice A n c] w fun e w' => e = .returned (.int .u16 (ck (headed s d nx b n))) ∧ Below w.heap.size w w' := by
  have hcm := hb.rd.cmax
  have hcn := hb.rd.cap
  unfold maxLen at hcm
  have hn : n ≤ 10000 := by have := hb.n_; omega
  have ls := hs.len
  have ld := hd.len
  have B2 : Below w.heap.size w ((w.alloc (.cells (bytesV s) 34)).alloc (.cells (bytesV d) 34)) := ((Below.refl _ w).alloc (Nat.le_refl _) _).alloc (by simp) _
  have q1 := (By.new w 34 hs.rng (by omega)).alloc (.cells (bytesV d) 34)
  have q2 := By.new (w.alloc (.cells (bytesV s) 34)) 34 hd.rng (by omega)
  have qb := ((hb.alloc (.cells (bytesV s) 34)).alloc (.cells (bytesV d) 34))
  rw [ls] at q1
  rw [ld, World.size_alloc] at q2
  have q1' := hidd q1
  have q2' := hidd q2
  have qb' := hidd qb
  have B2' := hidd B2
  have hs' := hidd hs
  have hd' := hidd hd
  have hb' := hidd hb
  have ls' := hidd ls
  have ld' := hidd ld
  clear q1 q2 qb B2 hs hd hb ls ld
  go_enter Try.func14, Try.ntmps14
  go_wp2_with (first
    | (at_builtin
       refine wpList_append_rd (v := .slice none 0 0) _ rfl (.tmp 11) (.tmp 12) T22 rfl rfl (World.ownsRow_nil _ (w.heap.size + 1 + 1) _ _) rfl q1'.out.rd (ints_one _ _) (by unfold maxLen; omega) (by omega) (by simp) ?_
       intro x2 v2 o2 g2 t2 l2
       clear l2 t2
       have b2 := hidd (grown_below (World.ownsRow_nil _ (w.heap.size + 1 + 1) 5 1) g2 (by simp))
       rw [Nat.zero_add] at o2
       obtain ⟨A2, d2, rfl⟩ := slice_of_own o2
       have o2' := hidd o2
       clear o2 g2)
    | (at_builtin
       have s2 : w.heap.size + 1 + 1 ≤ v2.heap.size := by have := b2.out.size; simp at this; omega
       refine wpList_append_rd (v := .slice A2 16 d2) _ rfl (.tmp 14) (.tmp 15) T22 rfl rfl o2'.out rfl (q2'.out.below (b2.out.mono (by simp))).rd (ints_one _ _) (by unfold maxLen; omega) (by omega) s2 ?_
       intro x3 v3 o3 g3 t3 l3
       clear l3 t3
       have b3 := hidd (b2.out.trans (grown_below o2'.out g3 s2))
       obtain ⟨A3, d3, rfl⟩ := slice_of_own o3
       have o3' := hidd o3
       clear o3 g3 s2)
    | (at_builtin
       have s3 : w.heap.size + 1 + 1 ≤ v3.heap.size := by have := b3.out.size; simp at this; omega
       refine wpList_append_rd (v := .slice A3 (16 + 16) d3) _ rfl (.tmp 20) (.tmp 36) T22 rfl rfl (own_alloc o3'.out _) rfl (rd8 _ _ _ _ _ _ _ _ _) (ints_one _ _) (by unfold maxLen; omega) (by omega) (by simp; omega) ?_
       intro x4 v4 o4 g4 t4 l4
       clear l4 t4
       have b4 := hidd ((b3.out.alloc s3 _).trans (grown_below (own_alloc o3'.out _) g4 (by simp; omega)))
       obtain ⟨A4, d4, rfl⟩ := slice_of_own o4
       have o4' := hidd o4
       clear o4 g4 s3)
    | (at_builtin
       have s4 : w.heap.size + 1 + 1 ≤ v4.heap.size := by have := b4.out.size; simp at this; omega
       refine wpList_append_rd (v := .slice A4 (16 + 16 + 8) d4) _ rfl (.tmp 38) (.tmp 39) T22 rfl rfl o4'.out rfl (qb'.out.below (b4.out.mono (by simp))).rd (ints_one _ _) (by unfold maxLen; omega) (by omega) s4 ?_
       intro x5 v5 o5 g5 t5 l5
       clear l5 t5
       have b5 := hidd (b4.out.trans (grown_below o4'.out g5 s4))
       obtain ⟨A5, d5, rfl, q5⟩ := grown_own o5 (l := headed s d nx b n) (by simp [headed]; omega) (headed_rng hs'.out hd'.out hn0 hn1 hb'.out.rng) (by have := ls'.out; have := ld'.out; simp [headed]; omega)
       have q5' := hidd q5
       clear o5 g5 s4 q5)
    | (go_at_call 11; refine (refOf_by _ _ _ _ _ q5'.out).mono ?_; rintro e w' ⟨rfl, rfl⟩))
  go_ret
  exact ⟨rfl, B2'.out.trans (b5.out.mono (by omega))⟩
end Go.Proofs.Ytekmkainhehnpaa
