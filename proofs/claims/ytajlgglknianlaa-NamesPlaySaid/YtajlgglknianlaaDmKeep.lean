/- Things kept, each with its time, as they lie in memory; two predicates over them; Delete. No condition. -/
import Derived.Test.YtajlgglknianlaaClock
import Derived.Test.YtajlgglknianlaaFlat
namespace Go.Proofs.Ytajlgglknianlaa.Dm
open Go.Proofs.Ytajlgglknianlaa Go.ChangeShapes Go.WideShapes Go.ChangeAt Go.RowKit Go.Deep
set_option linter.unusedVariables false

abbrev E := ByteArray × Int
def enc (x : E) : List Value := [.string x.1, .int .u64 x.2]
structure IsE (e : E) : Prop where
  lo : 0 ≤ e.2
  hi : e.2 ≤ 18446744073709551615
theorem isEnc : Enc enc 2 IsE where
  len := fun a h => rfl
  one := fun a v hv => by
    simp only [enc, List.mem_cons, List.not_mem_nil, or_false] at hv
    rcases hv with rfl | rfl <;> rfl
abbrev flat (es : List E) : List Value := flatOf enc es
def encV (e : E) : Array Value := (enc e).toArray
theorem infoE : (Try.prog.info? 71).map (·.size) = some 2 := by kernel_rfl
theorem size_enc {e : E} (h : IsE e) : (Try.prog.info? 71).map (·.size) = some (encV e).size := by rw [encV, List.size_toArray, isEnc.len e h]; exact infoE
theorem encV_size {e : E} (h : IsE e) : (encV e).size = 2 := by rw [encV, List.size_toArray, isEnc.len e h]
theorem ones_enc (e : E) : (encV e).all (·.oneCell') = true := all_oneCell_toArray (isEnc.one e)
theorem at_enc {e : E} : (encV e)[0]? = some (.string e.1) := rfl
theorem until_enc {e : E} (h : IsE e) : (encV e)[1]? = some (.int .u64 e.2) := by
  rfl
theorem loadE {W : World} {b o : Nat} {e : E} (he : IsE e) (h : W.rangeAt b o (enc e)) : (loadVar 71 ⟨b, o, none⟩).run Try.prog W = .ok (.agg (encV e)) W :=
  run_loadVar_mid (P := Try.prog) W b o 71 (enc e) _ h Try.underlying71 rfl (by rw [isEnc.len e he]; exact infoE)

theorem loadB {W : World} {b : Nat} {e : E} (he : IsE e) (h : Blk W b 71 (encV e)) : (loadVar 71 ⟨b, 0, none⟩).run Try.prog W = .ok (.agg (encV e)) W := h.load Try.underlying71 rfl (size_enc he)

/-- Are these the same? -/
def sameT (a b : ByteArray) : Bool := a.toList == b.toList

/-- A predicate over things kept, as a function value, from the world w on, whatever the blocks in S hold. -/
def Pred (S : Nat → Prop) (g : Nat) (lb : Array Value) (p : E → Bool) (w : World) : Prop := ∀ (W : World) (e : E), Fr S w W → IsE e →
  Calls Try.prog g (#[.agg (encV e)] ++ lb) W fun r W' => r = .returned (.bool (p e)) ∧ Below W.heap.size W W'

/-- Is it this thing? -/
theorem same_pred (w : World) (S : Nat → Prop) (B : Nat) (x : ByteArray)
    (hb : Blk w B 9 (#[.string x])) (hS : ¬ S B) : Pred S 52 #[.pointer (some ⟨B, 0, none⟩)] (fun e => sameT e.1 x) w := by
  intro W e hW he
  have hB := hb.lt
  have b1 := Blk.new W 71 (encV e)
  have b2 := (hb.fr hW hS).alloc (.cells (encV e) 71)
  have c0 := b1.at_ (at_enc (e := e))
  have c1 := b2.at_ (i := 0) rfl
  clear b1 b2
  go_enter Try.func52, Try.ntmps52
  go_wp2
  go_ret
  exact ⟨rfl, (Below.refl _ W).alloc (Nat.le_refl _) _⟩

/-- Is its time over? -/
theorem over_pred (w : World) (S : Nat → Prop) (B : Nat) (now : Int) (hb : Blk w B 28 #[.int .u64 now]) (hS : ¬ S B) : Pred S 44 #[.pointer (some ⟨B, 0, none⟩)] (fun e => decide (e.2 ≤ now)) w := by
  intro W e hW he
  have hB := hb.lt
  have b1 := Blk.new W 71 (encV e)
  have b2 := (hb.fr hW hS).alloc (.cells (encV e) 71)
  have c0 := b1.at_ (until_enc he)
  have c1 := b2.at_ (i := 0) rfl
  clear b1 b2
  go_enter Try.func44, Try.ntmps44
  go_wp2
  go_ret
  exact ⟨rfl, (Below.refl _ W).alloc (Nat.le_refl _) _⟩

theorem slTy : SlTy Try.prog 59 71 2 24 := .mk_ (z := .agg #[.string .empty, .int .u64 0]) Try.underlying59 (by kernel_rfl) rfl (by omega)
theorem zeroE (w : World) : (zeroValue 71).run Try.prog w = .ok (.agg #[.string .empty, .int .u64 0]) w := by
  obtain ⟨i, hi, h1, _⟩ := info_parts (P := Try.prog) (e := 71) (z := .agg #[.string .empty, .int .u64 0]) (size := 2) (bytes := 24) (by kernel_rfl)
  simp [zeroValue, typeInfo, hi, h1]
end Go.Proofs.Ytajlgglknianlaa.Dm
