/- The chapter's example holds in whatever world: lives() returns true and writes nothing that was there. No condition. -/
import Derived.Test.YtgalphhamdemfaaWords
namespace Go.Proofs.Ytgalphhamdemfaa
open Go.ChangeShapes Go.WideShapes Go.ChangeAt Go.RowKit
set_option linter.unusedVariables false

set_option maxRecDepth 100000 in
set_option maxHeartbeats 4000000 in
theorem lives_any (w : World) : Calls Try.prog 8 #[] w fun e w' => e = .returned (.bool true) ∧ Below w.heap.size w w' := by
  go_enter Try.func8, Try.ntmps8
  go_wp2_with fail
  refine (new_any _).mono ?_
  rintro e w1 ⟨rfl, hW1, hF1, hz1⟩
  have b1 := hidd (hF1.below (Nat.le_refl _) (fun _ h => h.elim))
  clear hF1
  go_wp2_with fail
  have hW1' := hW1.fr ((Fr.refl (fun _ => False) w1).alloc (.cells #[Value.int IntKind.u32 5, Value.int IntKind.u32 2147483648, Value.int IntKind.u32 4294967295] 31)) (fun h => h)
  refine (feed_any _ _ _ hW1' _ _ _ [5, 2147483648, 4294967295] ?rd ?far ?rng).mono ?_
  case rng => simp
  case far => intro _ bb off sp h; injection h with h; injection h with h1 h2 h3; omega
  case rd =>
    have := (Blk.new w1 31 #[Value.int IntKind.u32 5, Value.int IntKind.u32 2147483648, Value.int IntKind.u32 4294967295]).rd 1 3 3 rfl (by omega) (by decide) (B := w1.heap.size + 1) (by omega)
    rw [hz1] at this
    simpa [hz1] using this
  rintro e w2 ⟨rfl, hW2, hF2⟩
  have b2 := hidd (b1.out.trans (((Below.refl _ w1).alloc (by omega) _).trans (hF2.below (B := w.heap.size) (by simp; omega) (fun k hk => by omega))))
  have hW2' : IsW w2 w.heap.size [5, 2147483648, 4294967295] := by simpa using hW2
  have hm2 : w2.cell? ⟨w.heap.size, 257, none⟩ = some (.int .i64 3) := by
    obtain ⟨cs, f, hb, hc⟩ := hW2'
    exact hb.at_ hc.many
  have hr : (min 3 (256 - ([] : List Int).length) : Nat) = 3 := rfl
  have hs2 : w.heap.size < w2.heap.size := by have := hW2'.lt; omega
  rw [hr]
  clear hF2 hW1' hW1 hW2 hz1 b1
  go_wp2_with fail
  refine (len_any _ _ _ hm2).mono ?_
  rintro e _ ⟨rfl, rfl⟩
  clear hm2
  go_wp2_with fail
  refine (next_yes _ _ _ _ hW2').mono ?_
  rintro e w3 ⟨rfl, hW3, hF3⟩
  have b3 := hidd (b2.out.trans (hF3.below (B := w.heap.size) (by omega) (fun k hk => by omega)))
  have hs3 : w.heap.size < w3.heap.size := by have := hW3.lt; omega
  clear hF3 hW2' b2 hs2
  go_wp2_with fail
  refine (below_yes _ _ _ _ _ hW3 (by omega) (by omega)).mono ?_
  rintro e w4 ⟨rfl, hW4, hF4⟩
  have b4 := hidd (b3.out.trans (hF4.below (B := w.heap.size) (by omega) (fun k hk => by omega)))
  have hs4 : w.heap.size < w4.heap.size := by have := hW4.lt; omega
  have e4 : below 2147483648 10 = 5 := by decide
  clear hF4 hW3 b3 hs3
  rw [e4]
  go_wp2_with fail
  refine (below_yes _ _ _ _ _ hW4 (by omega) (by omega)).mono ?_
  rintro e w5 ⟨rfl, hW5, hF5⟩
  have b5 := hidd (b4.out.trans (hF5.below (B := w.heap.size) (by omega) (fun k hk => by omega)))
  have e5 : below 4294967295 10 = 9 := by decide
  have hm5 := hW5.none_cell
  clear hF5 hW4 b4 hs4 hW5
  rw [e5]
  go_wp2_with (first
    | (go_at_call 14; refine (next_no _ _ hm5).mono ?_; rintro e w' ⟨rfl, rfl⟩)
    | (go_at_call 16; refine (below_no _ _ _ hm5 (by omega) (by omega)).mono ?_; rintro e w' ⟨rfl, rfl⟩)
    | (go_at_call 18; refine (len_any _ _ _ hm5).mono ?_; rintro e w' ⟨rfl, rfl⟩))
  go_ret
  exact ⟨rfl, b5.out⟩
end Go.Proofs.Ytgalphhamdemfaa
