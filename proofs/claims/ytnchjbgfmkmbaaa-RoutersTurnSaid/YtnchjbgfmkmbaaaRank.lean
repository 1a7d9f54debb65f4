/- The rank of flags, walked once. No condition but that flags are a byte. -/
import Derived.Test.YtnchjbgfmkmbaaaTick
namespace Go.Proofs.Ytnchjbgfmkmbaaa
open Go.ChangeShapes Go.WideShapes Go.ChangeAt Go.RowKit Go.Deep
theorem rk_bits : ∀ n : Fin 256, rk (n.val : Int) = if (Go.bits BinOp.and IntKind.u8 (n.val : Int) 24 == 8) = true then 1 else if (Go.bits BinOp.and IntKind.u8 (n.val : Int) 24 == 24) = true then -1 else 0 := by decide +kernel
theorem rank_any (f : Int) (w : World) (h0 : 0 ≤ f) (h1 : f ≤ 255) : Calls Try.prog 24 #[.int .u8 f] w fun e w' => e = .returned (.int .i64 (rk f)) ∧ w = w' := by
  have hb := rk_bits ⟨f.toNat, by omega⟩
  dsimp only at hb
  rw [show ((f.toNat : Nat) : Int) = f by omega] at hb
  obtain ⟨q, hq⟩ : ∃ q, Go.bits BinOp.and IntKind.u8 f 24 = q := ⟨_, rfl⟩
  rw [hq] at hb
  have hb' := hidd hb
  clear hb
  cases h8 : (q == 8)
  · cases h24 : (q == 24)
    · rw [h8, h24] at hb'
      have hv := hb'.out
      simp at hv
      rw [hv]
      clear hb' hv
      go_enter Try.func24, Try.ntmps24
      go_wp2
      go_ret
      exact ⟨rfl, rfl⟩
    · rw [h8, h24] at hb'
      have hv := hb'.out
      simp at hv
      rw [hv]
      clear hb' hv
      go_enter Try.func24, Try.ntmps24
      go_wp2
      go_ret
      exact ⟨rfl, rfl⟩
  · rw [h8] at hb'
    have hv := hb'.out
    simp at hv
    rw [hv]
    clear hb' hv
    go_enter Try.func24, Try.ntmps24
    go_wp2
    go_ret
    exact ⟨rfl, rfl⟩
end Go.Proofs.Ytnchjbgfmkmbaaa
