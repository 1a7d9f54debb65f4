/- What came in, opened: a packet, a message, an option. No condition. -/
import Derived.Test.YtlckfnfmekgnkaaDoorLaid
namespace Go.Proofs.YtlckfnfmekgnkaaDoor
open Go.ChangeShapes Go.WideShapes Go.ChangeAt Go.RowKit Go.Deep
set_option linter.unusedVariables false

theorem one_ok {P : Program} {w : World} {r : Reach} {b : Nat} {t : TypeId} {v : Value} (h : Cell.okWide P w r b t v) : v.oneCell' = true := by
  cases v <;> first | rfl | (exfalso; revert h; unfold Cell.okWide Cell.ok; cases P.underlying t with | none => simp | some d => cases d <;> simp)
theorem ones_ok {P : Program} {w : World} {r : Reach} {b : Nat} {t : TypeId} {cs : Array Value} (h : Row.okWide P w r b t cs) : cs.all (·.oneCell') = true := by
  obtain ⟨ts, _, _, h3⟩ := h
  rw [Array.all_eq_true_iff_forall_mem]
  intro v hv
  obtain ⟨i, hi, e⟩ := Array.mem_iff_getElem.1 hv
  obtain ⟨u, _, hu⟩ := h3 i v (by rw [Array.getElem?_eq_getElem hi, e])
  exact one_ok hu
theorem at1 {cs : Array Value} {o : Nat} {v : Value} (h : (cs.toList.drop o).take 1 = [v]) : cs[o]? = some v := by
  have := congrArg (·[0]?) h
  simpa [List.getElem?_take, List.getElem?_drop] using this
theorem at16 {cs : Array Value} {o : Nat} {l : List Int} (h : (cs.toList.drop o).take 16 = l.map (Value.int .u8)) (hl : l.length = 16) : At cs o l := by
  intro j y hy
  have hj : j < 16 := by have := (List.getElem?_eq_some_iff.1 hy).1; omega
  have := congrArg (·[j]?) h
  simp only [List.getElem?_take_of_lt hj, List.getElem?_drop, List.getElem?_map, hy] at this
  simpa using this

theorem bytes5 : Tryd.prog.bytesOf 5 = 1 := by kernel_rfl
theorem bytes23 : Tryd.prog.bytesOf 23 = 16 := by kernel_rfl
theorem bytes46 : Tryd.prog.bytesOf 46 = 32 := by kernel_rfl
theorem cells46 : Tryd.prog.cellsOf 46 = 2 := by kernel_rfl
theorem cells53 : Tryd.prog.cellsOf 53 = 18 := by kernel_rfl
theorem cells4 : Tryd.prog.cellsOf 4 = 1 := by kernel_rfl
theorem cells28 : Tryd.prog.cellsOf 28 = 1 := by kernel_rfl
theorem cells31 : Tryd.prog.cellsOf 31 = 1 := by kernel_rfl
theorem cells32 : Tryd.prog.cellsOf 32 = 1 := by kernel_rfl
theorem cells33 : Tryd.prog.cellsOf 33 = 1 := by kernel_rfl

section
variable {H : Type} {enc : TypeId × Value → H} {W : World}
/-- A slice of bytes, of addresses: its length. -/
theorem slice_bytes {m : Nat} {cs : List Value} {y : DataW H × List MemPlace} (h : DataW.trod enc Tryd.prog W 0 (fun _ => true) true m 28 cs = some y) (hw : Fit Tryd.prog 28 y.1) : ∃ A n c, cs = [.slice A n c] ∧ n ≤ 140737488355328 := by
  obtain ⟨A, n, c, xs, rfl, hr, hb, _⟩ := slice_rd Tryd.underlying28 cells5 (by omega) h hw
  rw [bytes5] at hb
  unfold reachBytes at hb
  exact ⟨A, n, c, rfl, by have := hr.cap; omega⟩
theorem slice_addrs {m : Nat} {cs : List Value} {y : DataW H × List MemPlace} (h : DataW.trod enc Tryd.prog W 0 (fun _ => true) true m 32 cs = some y) (hw : Fit Tryd.prog 32 y.1) : ∃ A n c, cs = [.slice A n c] ∧ n * 16 ≤ 140737488355328 := by
  obtain ⟨A, n, c, xs, rfl, hr, hb, _⟩ := slice_rd Tryd.underlying32 cells23 (by omega) h hw
  rw [bytes23] at hb
  unfold reachBytes at hb
  exact ⟨A, n, c, rfl, by have := hr.cap; omega⟩

/-- A list of options that came in. -/
structure OpsIn (W : World) (B : Nat) (A : Option Addr) (n c : Nat) (xs : List Value) (ks : List Int) : Prop where
  rd : Rd W B 2 A n c xs
  len : ks.length = n
  at_ : ∀ i k, ks[i]? = some k → xs[i * 2]? = some (.int .u8 k) ∧ ∃ A' n' c', xs[i * 2 + 1]? = some (.slice A' n' c') ∧ n' ≤ 140737488355328
  room : c * 32 ≤ 140737488351232
  rng : ∀ k ∈ ks, 0 ≤ k ∧ k ≤ 255
theorem OpsIn.ops {W : World} {B : Nat} {A : Option Addr} {n c : Nat} {xs : List Value} {ks : List Int} (h : OpsIn W B A n c xs ks) : IsOps W B (.slice A n c) ks :=
  ⟨A, n, c, xs, rfl, h.rd, h.len, fun i k hi => by obtain ⟨h1, A', n', c', h2, _⟩ := h.at_ i k hi; exact ⟨h1, A', n', c', h2⟩⟩

theorem slice_ops {m : Nat} {cs : List Value} {y : DataW H × List MemPlace} (h : DataW.trod enc Tryd.prog W 0 (fun _ => true) true m 31 cs = some y) (hw : Fit Tryd.prog 31 y.1) : ∃ A n c xs ks, cs = [.slice A n c] ∧ OpsIn W W.heap.size A n c xs ks := by
  obtain ⟨A, n, c, xs, rfl, hr, hb, he⟩ := slice_rd Tryd.underlying31 cells46 (by omega) h hw
  rw [bytes46] at hb
  unfold reachBytes at hb
  have each : ∀ i, i < n → ∃ k : Int, (0 ≤ k ∧ k ≤ 255) ∧ xs[i * 2]? = some (.int .u8 k) ∧ ∃ A' n' c', xs[i * 2 + 1]? = some (.slice A' n' c') ∧ n' ≤ 140737488355328 := by
    intro i hi
    obtain ⟨m', y', h1, hf⟩ := he i hi
    obtain ⟨hl, hfs⟩ := struct_any Tryd.underlying46 h1 hf
    obtain ⟨m0, y0, h0, _⟩ := hfs 0 _ rfl
    obtain ⟨m2, y2, h2, f2⟩ := hfs 1 _ rfl
    replace h0 : DataW.trod enc Tryd.prog W 0 (fun _ => true) true m0 5 (List.take (Tryd.prog.cellsOf 5) (List.drop 0 (List.take 2 (List.drop (i * 2) xs)))) = some y0 := h0
    replace h2 : DataW.trod enc Tryd.prog W 0 (fun _ => true) true m2 28 (List.take (Tryd.prog.cellsOf 28) (List.drop 1 (List.take 2 (List.drop (i * 2) xs)))) = some y2 := h2
    rw [cells5] at h0
    rw [cells28] at h2
    obtain ⟨k, e0, _, wk⟩ := DataW.trod_int Tryd.underlying5 h0
    obtain ⟨A', n', c', e2, hn'⟩ := slice_bytes h2 f2
    have b0 := congrArg (·[0]?) e0
    have b2 := congrArg (·[0]?) e2
    simp [List.getElem?_drop] at b0 b2
    exact ⟨k, by have := bounds_u8 wk; omega, b0, A', n', c', b2, hn'⟩
  obtain ⟨K, hK⟩ := choose_lt (α := Int) (p := fun i k => (0 ≤ k ∧ k ≤ 255) ∧ xs[i * 2]? = some (.int .u8 k) ∧ ∃ A' n' c', xs[i * 2 + 1]? = some (.slice A' n' c') ∧ n' ≤ 140737488355328) each
  refine ⟨A, n, c, xs, (List.range n).map K, rfl, hr, by simp, fun i k hi => ?_, by omega, fun k hk => ?_⟩
  · rw [List.getElem?_map] at hi
    have hin : i < n := by
      rcases Nat.lt_or_ge i n with h1 | h1
      · exact h1
      · rw [List.getElem?_eq_none (by simpa using h1)] at hi; cases hi
    rw [List.getElem?_range hin] at hi
    simp at hi
    subst hi
    exact (hK i hin).2
  · obtain ⟨i, hi, rfl⟩ := List.mem_map.1 hk
    exact (hK i (List.mem_range.1 hi)).1

/-- A list of records that came in: the sources of each. -/
structure RecsIn (W : World) (B : Nat) (A : Option Addr) (n c : Nat) (xs : List Value) : Prop where
  rd : Rd W B 18 A n c xs
  at_ : ∀ i, i < n → ∃ A' n' c', xs[i * 18 + 17]? = some (.slice A' n' c') ∧ n' * 16 ≤ 140737488355328
theorem slice_recs {m : Nat} {cs : List Value} {y : DataW H × List MemPlace} (h : DataW.trod enc Tryd.prog W 0 (fun _ => true) true m 33 cs = some y) (hw : Fit Tryd.prog 33 y.1) : ∃ A n c xs, cs = [.slice A n c] ∧ RecsIn W W.heap.size A n c xs := by
  obtain ⟨A, n, c, xs, rfl, hr, hb, he⟩ := slice_rd Tryd.underlying33 cells53 (by omega) h hw
  refine ⟨A, n, c, xs, rfl, hr, fun i hi => ?_⟩
  obtain ⟨m', y', h1, hf⟩ := he i hi
  obtain ⟨hl, hfs⟩ := struct_any Tryd.underlying53 h1 hf
  obtain ⟨m2, y2, h2, f2⟩ := hfs 2 _ rfl
  replace h2 : DataW.trod enc Tryd.prog W 0 (fun _ => true) true m2 32 (List.take (Tryd.prog.cellsOf 32) (List.drop 17 (List.take 18 (List.drop (i * 18) xs)))) = some y2 := h2
  rw [cells32] at h2
  obtain ⟨A', n', c', e2, hn'⟩ := slice_addrs h2 f2
  have b2 := congrArg (·[0]?) e2
  simp [List.getElem?_drop] at b2
  exact ⟨A', n', c', b2, hn'⟩
end

structure PkIn (cs : Array Value) (p : Pk) : Prop where
  is : IsPk cs p
  body : ∃ A n c, cs[39]? = some (.slice A n c)
structure MsIn (W : World) (B : Nat) (cs : Array Value) (m : Ms) : Prop where
  is : IsMs W B cs m
  data : ∃ A n c, cs[3]? = some (.slice A n c) ∧ n ≤ 140737488355328
  sources : ∃ A n c, cs[61]? = some (.slice A n c) ∧ n * 16 ≤ 140737488355328
  ops : ∃ A n c xs, cs[41]? = some (.slice A n c) ∧ OpsIn W B A n c xs m.ks
  recs : ∃ A n c xs, cs[62]? = some (.slice A n c) ∧ RecsIn W B A n c xs
theorem cells30 : Tryd.prog.cellsOf 30 = 40 := by kernel_rfl
theorem cells35 : Tryd.prog.cellsOf 35 = 63 := by kernel_rfl
theorem open_pk {H : Type} {enc : TypeId × Value → H} {W : World} {r : Reach} {b0 : Nat} {v : Value} {d : DataW H} {p : List MemPlace} (hv : Value.okWide Tryd.prog W r b0 30 v) (h : DataW.Trod enc Tryd.prog W 0 (fun _ => true) true 30 v d p) (hw : Fit Tryd.prog 30 d) :
    ∃ cs pk, v = .agg cs ∧ PkIn cs pk := by
  simp only [Value.okWide, Tryd.underlying30] at hv
  obtain ⟨cs, rfl, hs, hrow⟩ := hv
  obtain ⟨fuel, hf⟩ := h
  obtain ⟨hl, hfs⟩ := struct_any Tryd.underlying30 hf hw
  obtain ⟨m0, y0, h0, f0⟩ := hfs 0 _ rfl
  replace h0 : DataW.trod enc Tryd.prog W 0 (fun _ => true) true m0 23 (List.take (Tryd.prog.cellsOf 23) (List.drop 0 cs.toList)) = some y0 := h0
  rw [cells23] at h0
  obtain ⟨k0, e0, n0, w0⟩ := array_ints Tryd.underlying23 Tryd.underlying5 cells5 cells23 h0
  have z0 : IsAddr k0 := ⟨n0, fun x hx => by have := bounds_u8 (w0 x hx); omega⟩
  obtain ⟨m1, y1, h1, f1⟩ := hfs 1 _ rfl
  replace h1 : DataW.trod enc Tryd.prog W 0 (fun _ => true) true m1 23 (List.take (Tryd.prog.cellsOf 23) (List.drop 16 cs.toList)) = some y1 := h1
  rw [cells23] at h1
  obtain ⟨k1, e1, n1, w1⟩ := array_ints Tryd.underlying23 Tryd.underlying5 cells5 cells23 h1
  have z1 : IsAddr k1 := ⟨n1, fun x hx => by have := bounds_u8 (w1 x hx); omega⟩
  obtain ⟨m2, y2, h2, f2⟩ := hfs 2 _ rfl
  replace h2 : DataW.trod enc Tryd.prog W 0 (fun _ => true) true m2 5 (List.take (Tryd.prog.cellsOf 5) (List.drop 32 cs.toList)) = some y2 := h2
  rw [cells5] at h2
  obtain ⟨k2, e2, _, w2⟩ := DataW.trod_int Tryd.underlying5 h2
  have z2 : 0 ≤ k2 ∧ k2 ≤ 255 := by have := bounds_u8 w2; omega
  obtain ⟨m3, y3, h3, f3⟩ := hfs 3 _ rfl
  replace h3 : DataW.trod enc Tryd.prog W 0 (fun _ => true) true m3 4 (List.take (Tryd.prog.cellsOf 4) (List.drop 33 cs.toList)) = some y3 := h3
  rw [cells4] at h3
  obtain ⟨k3, e3, _⟩ := DataW.trod_bool Tryd.underlying4 h3
  obtain ⟨m6, y6, h6, f6⟩ := hfs 6 _ rfl
  replace h6 : DataW.trod enc Tryd.prog W 0 (fun _ => true) true m6 28 (List.take (Tryd.prog.cellsOf 28) (List.drop 39 cs.toList)) = some y6 := h6
  rw [cells28] at h6
  obtain ⟨A6, n6, c6, e6, z6⟩ := slice_bytes h6 f6
  rw [cells30] at hs
  exact ⟨cs, ⟨k0, k1, k2, k3⟩, rfl, ⟨hs, ones_ok hrow, z0, z1, at16 e0 z0.len, at16 e1 z1.len, at1 e2, z2, at1 e3⟩, A6, n6, c6, at1 e6⟩
theorem open_ms {H : Type} {enc : TypeId × Value → H} {W : World} {r : Reach} {b0 : Nat} {v : Value} {d : DataW H} {p : List MemPlace} (hv : Value.okWide Tryd.prog W r b0 35 v) (h : DataW.Trod enc Tryd.prog W 0 (fun _ => true) true 35 v d p) (hw : Fit Tryd.prog 35 d) :
    ∃ cs ms, v = .agg cs ∧ MsIn W W.heap.size cs ms := by
  simp only [Value.okWide, Tryd.underlying35] at hv
  obtain ⟨cs, rfl, hs, hrow⟩ := hv
  obtain ⟨fuel, hf⟩ := h
  obtain ⟨hl, hfs⟩ := struct_any Tryd.underlying35 hf hw
  obtain ⟨m0, y0, h0, f0⟩ := hfs 0 _ rfl
  replace h0 : DataW.trod enc Tryd.prog W 0 (fun _ => true) true m0 5 (List.take (Tryd.prog.cellsOf 5) (List.drop 0 cs.toList)) = some y0 := h0
  rw [cells5] at h0
  obtain ⟨k0, e0, _, w0⟩ := DataW.trod_int Tryd.underlying5 h0
  have z0 : 0 ≤ k0 ∧ k0 ≤ 255 := by have := bounds_u8 w0; omega
  obtain ⟨m1, y1, h1, f1⟩ := hfs 1 _ rfl
  replace h1 : DataW.trod enc Tryd.prog W 0 (fun _ => true) true m1 5 (List.take (Tryd.prog.cellsOf 5) (List.drop 1 cs.toList)) = some y1 := h1
  rw [cells5] at h1
  obtain ⟨k1, e1, _, w1⟩ := DataW.trod_int Tryd.underlying5 h1
  have z1 : 0 ≤ k1 ∧ k1 ≤ 255 := by have := bounds_u8 w1; omega
  obtain ⟨m3, y3, h3, f3⟩ := hfs 3 _ rfl
  replace h3 : DataW.trod enc Tryd.prog W 0 (fun _ => true) true m3 28 (List.take (Tryd.prog.cellsOf 28) (List.drop 3 cs.toList)) = some y3 := h3
  rw [cells28] at h3
  obtain ⟨A3, n3, c3, e3, z3⟩ := slice_bytes h3 f3
  obtain ⟨m5, y5, h5, f5⟩ := hfs 5 _ rfl
  replace h5 : DataW.trod enc Tryd.prog W 0 (fun _ => true) true m5 5 (List.take (Tryd.prog.cellsOf 5) (List.drop 5 cs.toList)) = some y5 := h5
  rw [cells5] at h5
  obtain ⟨k5, e5, _, w5⟩ := DataW.trod_int Tryd.underlying5 h5
  have z5 : 0 ≤ k5 ∧ k5 ≤ 255 := by have := bounds_u8 w5; omega
  obtain ⟨m9, y9, h9, f9⟩ := hfs 9 _ rfl
  replace h9 : DataW.trod enc Tryd.prog W 0 (fun _ => true) true m9 23 (List.take (Tryd.prog.cellsOf 23) (List.drop 9 cs.toList)) = some y9 := h9
  rw [cells23] at h9
  obtain ⟨k9, e9, n9, w9⟩ := array_ints Tryd.underlying23 Tryd.underlying5 cells5 cells23 h9
  have z9 : IsAddr k9 := ⟨n9, fun x hx => by have := bounds_u8 (w9 x hx); omega⟩
  obtain ⟨m10, y10, h10, f10⟩ := hfs 10 _ rfl
  replace h10 : DataW.trod enc Tryd.prog W 0 (fun _ => true) true m10 23 (List.take (Tryd.prog.cellsOf 23) (List.drop 25 cs.toList)) = some y10 := h10
  rw [cells23] at h10
  obtain ⟨k10, e10, n10, w10⟩ := array_ints Tryd.underlying23 Tryd.underlying5 cells5 cells23 h10
  have z10 : IsAddr k10 := ⟨n10, fun x hx => by have := bounds_u8 (w10 x hx); omega⟩
  obtain ⟨m11, y11, h11, f11⟩ := hfs 11 _ rfl
  replace h11 : DataW.trod enc Tryd.prog W 0 (fun _ => true) true m11 31 (List.take (Tryd.prog.cellsOf 31) (List.drop 41 cs.toList)) = some y11 := h11
  rw [cells31] at h11
  obtain ⟨A11, n11, c11, x11, ks, e11, z11⟩ := slice_ops h11 f11
  obtain ⟨m16, y16, h16, f16⟩ := hfs 16 _ rfl
  replace h16 : DataW.trod enc Tryd.prog W 0 (fun _ => true) true m16 32 (List.take (Tryd.prog.cellsOf 32) (List.drop 61 cs.toList)) = some y16 := h16
  rw [cells32] at h16
  obtain ⟨A16, n16, c16, e16, z16⟩ := slice_addrs h16 f16
  obtain ⟨m17, y17, h17, f17⟩ := hfs 17 _ rfl
  replace h17 : DataW.trod enc Tryd.prog W 0 (fun _ => true) true m17 33 (List.take (Tryd.prog.cellsOf 33) (List.drop 62 cs.toList)) = some y17 := h17
  rw [cells33] at h17
  obtain ⟨A17, n17, c17, x17, e17, z17⟩ := slice_recs h17 f17
  rw [cells35] at hs
  exact ⟨cs, ⟨k0, k1, k5, k9, k10, ks⟩, rfl, ⟨hs, ones_ok hrow, at1 e0, z0, at1 e1, z1, at1 e5, z5, z9, z10, at16 e9 z9.len, at16 e10 z10.len, _, at1 e11, z11.ops⟩, ⟨A3, n3, c3, at1 e3, z3⟩, ⟨A16, n16, c16, at1 e16, z16⟩, ⟨A11, n11, c11, x11, at1 e11, z11⟩, ⟨A17, n17, c17, x17, at1 e17, z17⟩⟩
end Go.Proofs.YtlckfnfmekgnkaaDoor
