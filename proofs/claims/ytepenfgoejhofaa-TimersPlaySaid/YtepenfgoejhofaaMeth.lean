/- The methods of a heap's interface value. No condition. -/
import Derived.Test.YtepenfgoejhofaaLess
namespace Go.Proofs.Ytepenfgoejhofaa
open Go.ChangeShapes Go.WideShapes Go.ChangeAt Go.RowKit Go.Deep
set_option linter.unusedVariables false
set_option linter.unusedSimpArgs false

abbrev hI (B : Nat) : Value := .iface 63 (ptr B)
theorem run_chk (W : World) (B : Nat) (nm : String) : (Builtin.ssaWrapNilChk_ #[63] 63 #[ptr B, strVal "", strVal nm]).run Try.prog W = .ok (ptr B) W := by rfl
theorem run_val {nm : String} {f : FuncId} (hm : (Try.prog.info? 63).bind (fun i => (i.methods.find? (·.name == nm)).map (fun m => (m.path.toList.length, m.func))) = some (0, some (f, false))) (W : World) (B : Nat) {v : Value}
    (hv : (loadVar 47 ⟨B, 0, none⟩).run Try.prog W = .ok v W) : (method 199 63 (ptr B) nm).run Try.prog W = .ok (f, v) W := by
  cases hi : Try.prog.info? 63 with
  | none => rw [hi] at hm; cases hm
  | some i =>
    rw [hi] at hm
    simp only [Option.bind_some] at hm
    cases hf : i.methods.find? (·.name == nm) with
    | none => rw [hf] at hm; cases hm
    | some m =>
      rw [hf] at hm
      simp only [Option.map_some, Option.some.injEq, Prod.mk.injEq, List.length_eq_zero_iff, Array.toList_eq_nil_iff] at hm
      obtain ⟨hp, hfn⟩ := hm
      unfold method
      simp [typeInfo, hi, hf, hp, hfn, follow, receiverAt, run_underlying Try.underlying63, Place.get, run_chk, asAddr, hv]
theorem m_less (W : World) (B : Nat) {v : Value} (hv : (loadVar 47 ⟨B, 0, none⟩).run Try.prog W = .ok v W) : (method 199 63 (ptr B) "Less").run Try.prog W = .ok (49, v) W := run_val (by kernel_rfl) W B hv
theorem m_len (W : World) (B : Nat) {v : Value} (hv : (loadVar 47 ⟨B, 0, none⟩).run Try.prog W = .ok v W) : (method 199 63 (ptr B) "Len").run Try.prog W = .ok (48, v) W := run_val (by kernel_rfl) W B hv
theorem m_swap (W : World) (B : Nat) {v : Value} (hv : (loadVar 47 ⟨B, 0, none⟩).run Try.prog W = .ok v W) : (method 199 63 (ptr B) "Swap").run Try.prog W = .ok (50, v) W := run_val (by kernel_rfl) W B hv
theorem m_pop (W : World) (B : Nat) : (method 199 63 (ptr B) "Pop").run Try.prog W = .ok (56, ptr B) W := by kernel_rfl
theorem m_push (W : World) (B : Nat) : (method 199 63 (ptr B) "Push").run Try.prog W = .ok (57, ptr B) W := by kernel_rfl
section
variable {W : World} {F : Nat → Prop} {B n c : Nat} {A : Option Addr} {mv : Value} {L : Xs}
theorem Hp.ld (h : Hp W F B A n c mv L) : (loadVar 47 ⟨B, 0, none⟩).run Try.prog W = .ok (.slice A n c) W := by
  have h0 := h.set.at_ (i := 0) rfl
  go_simp
theorem Hp.less (h : Hp W F B A n c mv L) : (method 199 63 (ptr B) "Less").run Try.prog W = .ok (49, .slice A n c) W := m_less W B h.ld
theorem Hp.len_ (h : Hp W F B A n c mv L) : (method 199 63 (ptr B) "Len").run Try.prog W = .ok (48, .slice A n c) W := m_len W B h.ld
theorem Hp.swap_ (h : Hp W F B A n c mv L) : (method 199 63 (ptr B) "Swap").run Try.prog W = .ok (50, .slice A n c) W := m_swap W B h.ld
end
theorem len_any (W : World) (A : Option Addr) (n c : Nat) : Calls Try.prog 48 #[.slice A n c] W fun r W' => r = .returned (.int .i64 n) ∧ W = W' := by
  go_enter Try.func48, Try.ntmps48
  go_wp2
  go_ret
  exact ⟨rfl, rfl⟩
end Go.Proofs.Ytepenfgoejhofaa
