/- The chapter's example. No condition. -/
import Derived.Test.YtpjjcihhmhccfaaList
import Derived.Deep.RegionHeld3
namespace Go.Proofs.Ytpjjcihhmhccfaa
open Go.ChangeShapes Go.WideShapes Go.ChangeAt Go.RowKit Go.Deep
set_option linter.unusedVariables false
set_option linter.unusedSimpArgs false

def oneA : List Int := [1, 0, 0, 0, 0, 0, 0, 0, 0, 0, 0, 0, 0, 0, 0, 0]
theorem oneA_is : IsAddr oneA := ⟨rfl, by decide⟩
def e1 : E := (oneA, zeroA, 1400, 600000)
def e3 : E := (oneA, zeroA, 1280, 600005)
theorem e3_is : IsE e3 := ⟨oneA_is, zeroA_is, (by decide : (0 : Int) ≤ 1280 ∧ (1280 : Int) ≤ 4294967295), (by decide : (0 : Int) ≤ 600005 ∧ (600005 : Int) ≤ 18446744073709551615)⟩
theorem fo1 (b : Nat) (e : E) (h : e.1 = oneA) : fo oneA [(b, e)] = some (b, e) := by simp [fo, h]
theorem out1 (b : Nat) (e : E) : outO b [(b, e)] = [] := by simp [outO]
theorem low1 : lowNo (lowM 1400) oneA [] = false := by decide
theorem low2 (b : Nat) : lowNo (lowM 1450) oneA [(b, e1)] = true := by
  have h : (decide ((1500 : Int) ≤ lowM 1450) || decide (0 < e1.2.2.1) && decide (e1.2.2.1 ≤ lowM 1450)) = true := by decide
  rw [lowNo, fo1 b e1 rfl]; exact h
theorem low3 (b : Nat) : lowNo (lowM 700) oneA [(b, e1)] = false := by
  have h : (decide ((1500 : Int) ≤ lowM 700) || decide (0 < e1.2.2.1) && decide (e1.2.2.1 ≤ lowM 700)) = false := by decide
  rw [lowNo, fo1 b e1 rfl]; exact h
theorem mk1 {b : Nat} {e : E} {rest : List En} (h : Mk oneA [] b e rest) : (b, lowE 0 (lowM 1400) e) :: rest = [(b, e1)] := by
  rcases h with ⟨h, _⟩ | ⟨_, rfl, rfl⟩
  · cases h
  · rw [show lowE 0 (lowM 1400) (newE oneA) = e1 from by decide]; rfl
theorem mk3 {b c : Nat} {e : E} {rest : List En} (h : Mk oneA [(c, e1)] b e rest) : (b, lowE 5 (lowM 700) e) :: rest = [(c, e3)] := by
  rcases h with ⟨h, rfl⟩ | ⟨h, _⟩
  · rw [fo1 c e1 rfl] at h
    injection h with h
    injection h with h1 h2
    subst h1 h2
    rw [out1, show lowE 5 (lowM 700) e1 = e3 from by decide]
  · rw [fo1 c e1 rfl] at h; cases h
theorem of3 (b : Nat) : ofE oneA [(b, e3)] = e3 := by rw [ofE, fo1 b e3 rfl]
theorem tch3 (b : Nat) : tch oneA [(b, e3)] = [(b, e3)] := by rw [tch, fo1 b e3 rfl]; simp only [out1]
theorem next3 (b : Nat) : nextT (List.map (fun x : En => x.2) [(b, e3)]) = 600005 := by show nextT [e3] = 600005; decide

set_option maxRecDepth 100000 in
set_option maxHeartbeats 8000000 in
theorem lives_any (w : World) : Calls Try.prog 8 #[] w fun e w' => e = .returned (.bool true) ∧ Below w.heap.size w w' := by
  go_enter Try.func8, Try.ntmps8
  go_wp2_with fail
  refine (new_any w).mono ?_
  rintro e V1 ⟨B, rfl, c1, _⟩
  have C1 := hidd c1
  obtain ⟨q, Sq⟩ : ∃ q, V1.heap.size = q := ⟨_, rfl⟩
  have C2 := hidd (c1.new 24 (bytesV oneA) Sq)
  clear c1
  go_wp2_with (first
    | (with_reducible show wpList _ _ _ (⟨_, Op.build 24 _, _, _, _, _⟩ :: _) _ _; refine wpList_build_want rfl 24 #[(0, .const (.int .u8 1))] rfl (bytesV oneA) (by kernel_rfl) ?_)
    | (with_reducible show wpList _ _ _ (⟨_, Op.store 24 (.tmp 2) _, _, _, _, _⟩ :: _) _ _
       refine wpList_store_new rfl rfl 24 (.tmp 2) _ rfl _ _ (bytesV oneA) rfl Sq.symm rfl (size_a oneA_is) rfl (ones_b oneA) ?_
       generalize V1.alloc (.cells (bytesV oneA) 24) = V2 at C2 ⊢
       have l2 := hidd (ld24 C2.out.last oneA_is)
       clear C1)
    | (with_reducible show wpList _ _ _ (⟨_, Op.load 24 _, _, _, _, _⟩ :: _) _ _; refine wpList_load_want (by kernel_rfl) 24 _ rfl _ rfl _ (by with_reducible exact l2.out) ?_))
  refine (lower_any V2 C2.out 0 1400 oneA oneA_is (by decide) (by decide) (by decide) (by decide)).mono ?_
  rintro e V3 (⟨h, _⟩ | ⟨_, rfl, b, e0, rest, hmk, c3⟩)
  · rw [low1] at h; cases h
  rw [mk1 hmk] at c3
  have C3 := hidd c3
  have l3 := hidd (ld24 c3.last oneA_is)
  clear c3 hmk C2 l2
  go_wp2_with (first
    | (with_reducible show wpList _ _ _ (⟨_, Op.load 24 _, _, _, _, _⟩ :: _) _ _; refine wpList_load_want (by kernel_rfl) 24 _ rfl _ rfl _ (by with_reducible exact l3.out) ?_))
  refine (lower_any V3 C3.out 5 1450 oneA oneA_is (by decide) (by decide) (by decide) (by decide)).mono ?_
  rintro e V4 (⟨_, rfl, c4⟩ | ⟨h, _⟩)
  case inr => rw [low2] at h; cases h
  have C4 := hidd c4
  have l4 := hidd (ld24 c4.last oneA_is)
  clear c4 C3 l3
  go_wp2_with (first
    | (with_reducible show wpList _ _ _ (⟨_, Op.load 24 _, _, _, _, _⟩ :: _) _ _; refine wpList_load_want (by kernel_rfl) 24 _ rfl _ rfl _ (by with_reducible exact l4.out) ?_))
  refine (lower_any V4 C4.out 5 700 oneA oneA_is (by decide) (by decide) (by decide) (by decide)).mono ?_
  rintro e V5 (⟨h, _⟩ | ⟨_, rfl, b2, e2, rest2, hmk, c5⟩)
  · rw [low3] at h; cases h
  rw [mk3 hmk] at c5
  have C5 := hidd c5
  have l5 := hidd (ld24 c5.last oneA_is)
  clear c5 hmk C4 l4
  go_wp2_with (first
    | (with_reducible show wpList _ _ _ (⟨_, Op.load 24 _, _, _, _, _⟩ :: _) _ _; refine wpList_load_want (by kernel_rfl) 24 _ rfl _ rfl _ (by with_reducible exact l5.out) ?_))
  refine (of_any V5 C5.out oneA oneA_is).mono ?_
  rintro e V6 ⟨rfl, c6⟩
  rw [tch3] at c6
  rw [of3]
  have C6 := hidd c6
  obtain ⟨d, Sd⟩ : ∃ d, V6.heap.size = d := ⟨_, rfl⟩
  have C7 := hidd (c6.new 33 (encV e3) Sd)
  clear c6 C5 l5
  go_wp2_with (first
    | (with_reducible show wpList _ _ _ (⟨_, Op.store 33 (.tmp 6) _, _, _, _, _⟩ :: _) _ _
       refine wpList_store_new rfl rfl 33 (.tmp 6) _ rfl _ _ (encV e3) rfl Sd.symm rfl (size_enc e3_is) rfl (ones_enc _) ?_
       generalize V6.alloc (.cells (encV e3) 33) = V9 at C7 ⊢
       have c32 : V9.cell? ⟨d, 32, none⟩ = some (.int .u32 1280) := C7.out.last.at_ (at_mtu e3_is)
       have c33 : V9.cell? ⟨d, 33, none⟩ = some (.int .u64 600005) := C7.out.last.at_ (at_until e3_is)
       clear C6))
  refine (next_any V9 C7.out).mono ?_
  rintro r V10 ⟨rfl, c10, b10⟩
  have C10 := hidd c10
  clear c10
  rw [next3]
  go_wp2
  go_ret
  exact ⟨rfl, C10.out.bel⟩
end Go.Proofs.Ytpjjcihhmhccfaa
