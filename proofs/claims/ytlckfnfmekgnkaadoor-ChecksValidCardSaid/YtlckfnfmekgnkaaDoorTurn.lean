/- A packet and a message with a field turned. No condition. -/
import Derived.Test.YtlckfnfmekgnkaaDoorValid2
import Derived.Test.YtlckfnfmekgnkaaDoorKp
namespace Go.Proofs.YtlckfnfmekgnkaaDoor
open Go.ChangeShapes Go.WideShapes Go.ChangeAt Go.RowKit Go.Deep
set_option linter.unusedVariables false

theorem At.set {cs : Array Value} {o i : Nat} {l : List Int} (h : At cs o l) (v : Value) (hi : i < o ∨ o + l.length ≤ i) : At (cs.setIfInBounds i v) o l := fun j y hy => by
  have := (List.getElem?_eq_some_iff.1 hy).1
  rw [Array.getElem?_setIfInBounds, if_neg (by omega)]
  exact h j y hy
theorem At.overs {cs : Array Value} {o i : Nat} {l : List Int} (h : At cs o l) (vs : List Value) (hi : i + vs.length ≤ o ∨ o + l.length ≤ i) : At (over cs i vs) o l := fun j y hy => by
  have := (List.getElem?_eq_some_iff.1 hy).1
  rw [over_out _ _ _ _ (by omega)]
  exact h j y hy
theorem At.in_ {cs : Array Value} {o : Nat} (l : List Int) (hs : o + l.length ≤ cs.size) : At (over cs o (l.map (Value.int .u8))) o l := fun j y hy =>
  over_in _ _ _ _ _ (by rw [List.getElem?_map, hy]; rfl) (by simpa using hs)
theorem set_other {cs : Array Value} {i k : Nat} {v u : Value} (h : cs[k]? = some u) (hne : i ≠ k) : (cs.setIfInBounds i v)[k]? = some u := by rw [Array.getElem?_setIfInBounds, if_neg hne]; exact h
theorem set_same {cs : Array Value} {i : Nat} {v : Value} (hi : i < cs.size) : (cs.setIfInBounds i v)[i]? = some v := by rw [Array.getElem?_setIfInBounds, if_pos rfl, if_pos hi]
theorem over_other {cs : Array Value} {i k : Nat} {vs : List Value} {u : Value} (h : cs[k]? = some u) (hne : k < i ∨ i + vs.length ≤ k) : (over cs i vs)[k]? = some u := by rw [over_out _ _ _ _ hne]; exact h
theorem ones_set {cs : Array Value} (h : cs.all (·.oneCell') = true) (i : Nat) {v : Value} (hv : v.oneCell' = true) : (cs.setIfInBounds i v).all (·.oneCell') = true := by
  rw [Array.all_eq_true_iff_forall_mem] at *
  intro x hx
  obtain ⟨j, hj, e⟩ := Array.mem_iff_getElem.1 hx
  have h1 : (cs.setIfInBounds i v)[j]? = some x := by rw [Array.getElem?_eq_getElem hj, e]
  rw [Array.getElem?_setIfInBounds] at h1
  split at h1
  · split at h1
    · cases h1; exact hv
    · cases h1
  · exact h x (Array.mem_of_getElem? h1)
theorem ones_over : ∀ (vs : List Value) {cs : Array Value} (o : Nat), cs.all (·.oneCell') = true → (∀ v ∈ vs, v.oneCell' = true) → (over cs o vs).all (·.oneCell') = true
  | [], _, _, h, _ => h
  | v :: r, cs, o, h, hv => by rw [over]; exact ones_over r (o + 1) (ones_set h o (hv v (by simp))) fun x hx => hv x (by simp [hx])

section
variable {cs : Array Value} {p : Pk}
theorem IsPk.setHops (h : IsPk cs p) {v : Int} (h0 : 0 ≤ v) (h1 : v ≤ 255) : IsPk (cs.setIfInBounds 32 (.int .u8 v)) { p with hops := v } :=
  ⟨by simpa using h.size, ones_set h.ones _ rfl, h.srcA, h.dstA, h.src.set _ (by rw [h.srcA.len]; omega), h.dst.set _ (by rw [h.dstA.len]; omega), set_same (by rw [h.size]; omega), ⟨h0, h1⟩, set_other h.alert (by omega)⟩
theorem IsPk.setAlert (h : IsPk cs p) (b : Bool) : IsPk (cs.setIfInBounds 33 (.bool b)) { p with alert := b } :=
  ⟨by simpa using h.size, ones_set h.ones _ rfl, h.srcA, h.dstA, h.src.set _ (by rw [h.srcA.len]; omega), h.dst.set _ (by rw [h.dstA.len]; omega), set_other h.hops (by omega), h.hr, set_same (by rw [h.size]; omega)⟩
theorem IsPk.setRest (h : IsPk cs p) {i : Nat} (hi : 34 ≤ i) {v : Value} (hv : v.oneCell' = true) : IsPk (cs.setIfInBounds i v) p :=
  ⟨by simpa using h.size, ones_set h.ones _ hv, h.srcA, h.dstA, h.src.set _ (by rw [h.srcA.len]; omega), h.dst.set _ (by rw [h.dstA.len]; omega), set_other h.hops (by omega), h.hr, set_other h.alert (by omega)⟩
theorem IsPk.setSrc (h : IsPk cs p) {a : List Int} (ha : IsAddr a) : IsPk (over cs 0 (a.map (Value.int .u8))) { p with src := a } := by
  have hl := ha.len
  have h1 := h.size
  exact ⟨by rw [over_size]; exact h.size, ones_over _ _ h.ones (ints_one _ _), ha, h.dstA, At.in_ a (by omega), h.dst.overs _ (by simp; omega), over_other h.hops (by simp; omega), h.hr, over_other h.alert (by simp; omega)⟩
theorem IsPk.setDst (h : IsPk cs p) {a : List Int} (ha : IsAddr a) : IsPk (over cs 16 (a.map (Value.int .u8))) { p with dst := a } := by
  have hl := ha.len
  have h1 := h.size
  have h2 := h.srcA.len
  exact ⟨by rw [over_size]; exact h.size, ones_over _ _ h.ones (ints_one _ _), h.srcA, ha, h.src.overs _ (by omega), At.in_ a (by omega), over_other h.hops (by simp; omega), h.hr, over_other h.alert (by simp; omega)⟩
end

section
variable {w : World} {B : Nat} {cs : Array Value} {m : Ms}
theorem IsMs.setCode (h : IsMs w B cs m) {v : Int} (h0 : 0 ≤ v) (h1 : v ≤ 255) : IsMs w B (cs.setIfInBounds 1 (.int .u8 v)) { m with code := v } := by
  obtain ⟨u, hu, ho⟩ := h.ops
  have t1 := h.targetA.len
  have t2 := h.destA.len
  exact ⟨by simpa using h.size, ones_set h.ones _ rfl, set_other h.kind (by omega), h.kr, set_same (by rw [h.size]; omega), ⟨h0, h1⟩, set_other h.flags (by omega), h.fr, h.targetA, h.destA, h.target.set _ (by omega), h.dest.set _ (by omega), ⟨u, set_other hu (by omega), ho⟩⟩
theorem IsMs.setFlags (h : IsMs w B cs m) {v : Int} (h0 : 0 ≤ v) (h1 : v ≤ 255) : IsMs w B (cs.setIfInBounds 5 (.int .u8 v)) { m with flags := v } := by
  obtain ⟨u, hu, ho⟩ := h.ops
  have t1 := h.targetA.len
  have t2 := h.destA.len
  exact ⟨by simpa using h.size, ones_set h.ones _ rfl, set_other h.kind (by omega), h.kr, set_other h.code (by omega), h.cr, set_same (by rw [h.size]; omega), ⟨h0, h1⟩, h.targetA, h.destA, h.target.set _ (by omega), h.dest.set _ (by omega), ⟨u, set_other hu (by omega), ho⟩⟩
theorem IsMs.setOps (h : IsMs w B cs m) {v : Value} {ks : List Int} (hv : IsOps w B v ks) (h1 : v.oneCell' = true) : IsMs w B (cs.setIfInBounds 41 v) { m with ks := ks } := by
  have t1 := h.targetA.len
  have t2 := h.destA.len
  exact ⟨by simpa using h.size, ones_set h.ones _ h1, set_other h.kind (by omega), h.kr, set_other h.code (by omega), h.cr, set_other h.flags (by omega), h.fr, h.targetA, h.destA, h.target.set _ (by omega), h.dest.set _ (by omega), ⟨v, set_same (by rw [h.size]; omega), hv⟩⟩
theorem IsMs.setTarget (h : IsMs w B cs m) {a : List Int} (ha : IsAddr a) : IsMs w B (over cs 9 (a.map (Value.int .u8))) { m with target := a } := by
  obtain ⟨u, hu, ho⟩ := h.ops
  have t0 := ha.len
  have t1 := h.targetA.len
  have t2 := h.destA.len
  have hs := h.size
  exact ⟨by rw [over_size]; exact h.size, ones_over _ _ h.ones (ints_one _ _), over_other h.kind (by omega), h.kr, over_other h.code (by omega), h.cr, over_other h.flags (by omega), h.fr, ha, h.destA, At.in_ a (by omega), h.dest.overs _ (by simp; omega), ⟨u, over_other hu (by simp; omega), ho⟩⟩
theorem IsMs.setDest (h : IsMs w B cs m) {a : List Int} (ha : IsAddr a) : IsMs w B (over cs 25 (a.map (Value.int .u8))) { m with dest := a } := by
  obtain ⟨u, hu, ho⟩ := h.ops
  have t0 := ha.len
  have t1 := h.targetA.len
  have t2 := h.destA.len
  have hs := h.size
  exact ⟨by rw [over_size]; exact h.size, ones_over _ _ h.ones (ints_one _ _), over_other h.kind (by omega), h.kr, over_other h.code (by omega), h.cr, over_other h.flags (by omega), h.fr, h.targetA, ha, h.target.overs _ (by omega), At.in_ a (by omega), ⟨u, over_other hu (by simp; omega), ho⟩⟩
end
end Go.Proofs.YtlckfnfmekgnkaaDoor
