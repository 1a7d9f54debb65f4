/- Things kept, each with its time, as they lie in memory; two predicates over them; Delete. No condition. -/
import Derived.Test.YtajlgglknianlaaClock
import Derived.Test.YtajlgglknianlaaFlat
namespace Go.Proofs.Ytajlgglknianlaa.Sv
open Go.Proofs.Ytajlgglknianlaa Go.ChangeShapes Go.WideShapes Go.ChangeAt Go.RowKit Go.Deep
set_option linter.unusedVariables false

abbrev E := List Int × Int
def enc (x : E) : List Value := x.1.map (Value.int .u8) ++ [.int .u64 x.2]
structure IsE (e : E) : Prop where
  addr : IsAddr e.1
  lo : 0 ≤ e.2
  hi : e.2 ≤ 18446744073709551615
theorem isEnc : Enc enc 17 IsE where
  len := fun a h => by simp [enc, h.addr.len]
  one := fun a v hv => by
    simp only [enc, List.mem_append, List.mem_map, List.mem_cons, List.not_mem_nil, or_false] at hv
    rcases hv with ⟨x, _, rfl⟩ | rfl <;> rfl
abbrev flat (es : List E) : List Value := flatOf enc es
def encV (e : E) : Array Value := (enc e).toArray
theorem infoE : (Try.prog.info? 68).map (·.size) = some 17 := by kernel_rfl
theorem info31 : (Try.prog.info? 31).map (·.size) = some 16 := by kernel_rfl
theorem size_a {l : List Int} (h : IsAddr l) : (Try.prog.info? 31).map (·.size) = some (bytesV l).size := by rw [bytesV_size, h.len]; exact info31
theorem size_enc {e : E} (h : IsE e) : (Try.prog.info? 68).map (·.size) = some (encV e).size := by rw [encV, List.size_toArray, isEnc.len e h]; exact infoE
theorem encV_size {e : E} (h : IsE e) : (encV e).size = 17 := by rw [encV, List.size_toArray, isEnc.len e h]
theorem ones_enc (e : E) : (encV e).all (·.oneCell') = true := all_oneCell_toArray (isEnc.one e)
theorem at_enc {e : E} (h : IsE e) : At (encV e) 0 e.1 := fun j y hy => by
  have hj := (List.getElem?_eq_some_iff.1 hy).1
  rw [Nat.zero_add, encV, List.getElem?_toArray, enc, List.getElem?_append_left (by simpa using hj), List.getElem?_map, hy]; rfl
theorem until_enc {e : E} (h : IsE e) : (encV e)[16]? = some (.int .u64 e.2) := by
  rw [encV, List.getElem?_toArray, enc, List.getElem?_append_right (by simp [h.addr.len])]
  simp [h.addr.len]
theorem loadE {W : World} {b o : Nat} {e : E} (he : IsE e) (h : W.rangeAt b o (enc e)) : (loadVar 68 ⟨b, o, none⟩).run Try.prog W = .ok (.agg (encV e)) W :=
  run_loadVar_mid (P := Try.prog) W b o 68 (enc e) _ h Try.underlying68 rfl (by rw [isEnc.len e he]; exact infoE)

theorem eql31 (W : World) {a b : List Int} (ha : IsAddr a) (hb : IsAddr b) : (Op.equalIn 10000 31 (.agg (bytesV a)) (.agg (bytesV b))).run Try.prog W = .ok (a == b) W := by
  obtain ⟨i, hi⟩ := info_of_underlying (P := Try.prog) Try.underlying5
  exact run_equal_bytes W 9998 Try.underlying31 hi (by kernel_rfl) Try.underlying5 a b ha.len hb.len
theorem guard31 : Try.prog.eqGuardType Try.prog.depth 31 = false := by kernel_rfl

theorem loadB {W : World} {b : Nat} {e : E} (he : IsE e) (h : Blk W b 68 (encV e)) : (loadVar 68 ⟨b, 0, none⟩).run Try.prog W = .ok (.agg (encV e)) W := h.load Try.underlying68 rfl (size_enc he)

/-- Are these the same? -/
def sameT (a b : List Int) : Bool := a == b

/-- A predicate over things kept, as a function value, from the world w on, whatever the blocks in S hold. -/
def Pred (S : Nat → Prop) (g : Nat) (lb : Array Value) (p : E → Bool) (w : World) : Prop := ∀ (W : World) (e : E), Fr S w W → IsE e →
  Calls Try.prog g (#[.agg (encV e)] ++ lb) W fun r W' => r = .returned (.bool (p e)) ∧ Below W.heap.size W W'

/-- Is it this thing? -/
theorem same_pred (w : World) (S : Nat → Prop) (B : Nat) (x : List Int)
    (hx : IsAddr x)
    (hb : Blk w B 31 (bytesV x)) (hS : ¬ S B) : Pred S 50 #[.pointer (some ⟨B, 0, none⟩)] (fun e => sameT e.1 x) w := by
  intro W e hW he
  have hB := hb.lt
  have b1 := Blk.new W 68 (encV e)
  have b2 := (hb.fr hW hS).alloc (.cells (encV e) 68)
  have l0 := hidd (b1.part (at_enc he) Try.underlying31 rfl (by rw [he.addr.len]; exact info31))
  have l1 := hidd (b2.load Try.underlying31 rfl (size_a hx))
  have heq := fun V => eql31 V he.addr hx
  have hgd := guard31
  clear b1 b2
  go_enter Try.func50, Try.ntmps50
  go_wp2_with (first
    | (with_reducible show wpList _ _ _ (⟨_, Op.load 31 _, _, _, _, _⟩ :: _) _ _; refine wpList_load_want (by kernel_rfl) 31 _ rfl _ rfl _ (by with_reducible first | exact l0.out | exact l1.out) ?_))
  go_ret
  exact ⟨rfl, (Below.refl _ W).alloc (Nat.le_refl _) _⟩

/-- Is its time over? -/
theorem over_pred (w : World) (S : Nat → Prop) (B : Nat) (now : Int) (hb : Blk w B 28 #[.int .u64 now]) (hS : ¬ S B) : Pred S 42 #[.pointer (some ⟨B, 0, none⟩)] (fun e => decide (e.2 ≤ now)) w := by
  intro W e hW he
  have hB := hb.lt
  have b1 := Blk.new W 68 (encV e)
  have b2 := (hb.fr hW hS).alloc (.cells (encV e) 68)
  have c0 := b1.at_ (until_enc he)
  have c1 := b2.at_ (i := 0) rfl
  clear b1 b2
  go_enter Try.func42, Try.ntmps42
  go_wp2
  go_ret
  exact ⟨rfl, (Below.refl _ W).alloc (Nat.le_refl _) _⟩

theorem slTy : SlTy Try.prog 56 68 17 24 := .mk_ (z := .agg #[.int .u8 0, .int .u8 0, .int .u8 0, .int .u8 0, .int .u8 0, .int .u8 0, .int .u8 0, .int .u8 0, .int .u8 0, .int .u8 0, .int .u8 0, .int .u8 0, .int .u8 0, .int .u8 0, .int .u8 0, .int .u8 0, .int .u64 0]) Try.underlying56 (by kernel_rfl) rfl (by omega)
theorem zeroE (w : World) : (zeroValue 68).run Try.prog w = .ok (.agg #[.int .u8 0, .int .u8 0, .int .u8 0, .int .u8 0, .int .u8 0, .int .u8 0, .int .u8 0, .int .u8 0, .int .u8 0, .int .u8 0, .int .u8 0, .int .u8 0, .int .u8 0, .int .u8 0, .int .u8 0, .int .u8 0, .int .u64 0]) w := by
  obtain ⟨i, hi, h1, _⟩ := info_parts (P := Try.prog) (e := 68) (z := .agg #[.int .u8 0, .int .u8 0, .int .u8 0, .int .u8 0, .int .u8 0, .int .u8 0, .int .u8 0, .int .u8 0, .int .u8 0, .int .u8 0, .int .u8 0, .int .u8 0, .int .u8 0, .int .u8 0, .int .u8 0, .int .u8 0, .int .u64 0]) (size := 17) (bytes := 24) (by kernel_rfl)
  simp [zeroValue, typeInfo, hi, h1]
end Go.Proofs.Ytajlgglknianlaa.Sv
