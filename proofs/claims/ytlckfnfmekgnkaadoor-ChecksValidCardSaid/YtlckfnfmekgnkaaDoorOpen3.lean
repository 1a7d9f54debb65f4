/- What came in, opened whole: a packet, a message. No condition. -/
import Derived.Test.YtlckfnfmekgnkaaDoorMm3
namespace Go.Proofs.YtlckfnfmekgnkaaDoor
open Go.ChangeShapes Go.WideShapes Go.ChangeAt Go.RowKit Go.Deep
set_option linter.unusedVariables false
set_option linter.unusedSimpArgs false

theorem cells24 : Tryd.prog.cellsOf 24 = 1 := by kernel_rfl
theorem cells25 : Tryd.prog.cellsOf 25 = 1 := by kernel_rfl
theorem cells27 : Tryd.prog.cellsOf 27 = 4 := by kernel_rfl
theorem bytes53 : Tryd.prog.bytesOf 53 = 48 := by kernel_rfl
theorem Lst.of_rd {W : World} {K n c : Nat} {A : Option Addr} {vs : List Value} {P : Nat → List Value → Prop} (h : Rd W W.heap.size K A n c vs) (hp : ∀ i, i < n → ∃ l, (vs.drop (i * K)).take K = l ∧ l.length = K ∧ P i l) : Lst W K A n c P :=
  ⟨h.cap, h.cmax, h.nil_, fun hn => by
    obtain ⟨b, off, h1, h2, h3⟩ := h.at_ hn
    refine ⟨b, off, h1, h2, fun i hi => ?_⟩
    obtain ⟨l, h4, h5, h6⟩ := hp i hi
    refine ⟨l, h5, fun j v hv => ?_, h6⟩
    have hj : j < K := by have := (List.getElem?_eq_some_iff.1 hv).1; omega
    rw [Nat.add_assoc]
    refine h3 _ v ?_
    rw [← h4, List.getElem?_take_of_lt hj, List.getElem?_drop] at hv
    exact hv⟩
section
variable {H : Type} {enc : TypeId × Value → H} {W : World}
theorem open_bs {m : Nat} {cs : List Value} {y : DataW H × List MemPlace} (h : DataW.trod enc Tryd.prog W 0 (fun _ => true) true m 28 cs = some y) (hw : Fit Tryd.prog 28 y.1) : ∃ v xs, cs = [v] ∧ BsIn W v xs := by
  obtain ⟨A, n, c, xs, rfl, hr, hb, _⟩ := ints_rd Tryd.underlying28 Tryd.underlying5 cells5 h hw
  rw [bytes5] at hb
  unfold reachBytes at hb
  have hl : xs.length = n := by have := hr.len; simpa using this
  subst hl
  exact ⟨_, xs, rfl, A, c, rfl, hr, by have := hr.cap; omega⟩
theorem open_addr1 {m : Nat} {cs : List Value} {y : DataW H × List MemPlace} (h : DataW.trod enc Tryd.prog W 0 (fun _ => true) true m 23 cs = some y) : ∃ a, cs = encA a ∧ IsAddr a := by
  obtain ⟨l, hl, hn, hwf⟩ := array_ints Tryd.underlying23 Tryd.underlying5 cells5 cells23 h
  exact ⟨l, hl, hn, fun x hx => by have := bounds_u8 (hwf x hx); omega⟩
theorem open_as {m : Nat} {cs : List Value} {y : DataW H × List MemPlace} (h : DataW.trod enc Tryd.prog W 0 (fun _ => true) true m 32 cs = some y) (hw : Fit Tryd.prog 32 y.1) : ∃ v ls, cs = [v] ∧ AsIn W v ls := by
  obtain ⟨A, n, c, vs, rfl, hr, hb, he⟩ := slice_rd Tryd.underlying32 cells23 (by omega) h hw
  rw [bytes23] at hb
  unfold reachBytes at hb
  have each : ∀ i, i < n → ∃ a : List Int, (vs.drop (i * 16)).take 16 = encA a ∧ IsAddr a := fun i hi => by
    obtain ⟨m', y', h1, _⟩ := he i hi
    exact open_addr1 h1
  obtain ⟨K, hK⟩ := choose_lt (α := List Int) each
  refine ⟨_, (List.range n).map K, rfl, A, c, by simp, ?_, by have := hr.cap; simp; omega⟩
  have hn : ((List.range n).map K).length = n := by simp
  rw [hn]
  exact Lst.of_rd hr fun i hi => ⟨_, (hK i hi).1, encA_len (hK i hi).2, K i, by simp [hi], rfl, (hK i hi).2⟩
theorem open_os {m : Nat} {cs : List Value} {y : DataW H × List MemPlace} (h : DataW.trod enc Tryd.prog W 0 (fun _ => true) true m 31 cs = some y) (hw : Fit Tryd.prog 31 y.1) : ∃ v os, cs = [v] ∧ OsIn W v os := by
  obtain ⟨A, n, c, vs, rfl, hr, hb, he⟩ := slice_rd Tryd.underlying31 cells46 (by omega) h hw
  rw [bytes46] at hb
  unfold reachBytes at hb
  have each : ∀ i, i < n → ∃ o : Op2 × Value, (vs.drop (i * 2)).take 2 = [.int .u8 o.1.1, o.2] ∧ BsIn W o.2 o.1.2 := fun i hi => by
    obtain ⟨m', y', h1, hf⟩ := he i hi
    obtain ⟨hl, hfs⟩ := struct_any Tryd.underlying46 h1 hf
    rw [cells46] at hl
    obtain ⟨m0, y0, h0, _⟩ := hfs 0 _ rfl
    obtain ⟨m2, y2, h2, f2⟩ := hfs 1 _ rfl
    obtain ⟨cz, hcz⟩ : ∃ cz, List.take 2 (List.drop (i * 2) vs) = cz := ⟨_, rfl⟩
    rw [hcz] at h0 h2 hl ⊢
    replace h0 : DataW.trod enc Tryd.prog W 0 (fun _ => true) true m0 5 (List.take (Tryd.prog.cellsOf 5) (List.drop 0 cz)) = some y0 := h0
    replace h2 : DataW.trod enc Tryd.prog W 0 (fun _ => true) true m2 28 (List.take (Tryd.prog.cellsOf 28) (List.drop 1 cz)) = some y2 := h2
    rw [cells5] at h0
    rw [cells28] at h2
    obtain ⟨k, e0, _, wk⟩ := DataW.trod_int Tryd.underlying5 h0
    obtain ⟨v, xs, e2, hv⟩ := open_bs h2 f2
    refine ⟨((k, xs), v), ?_, hv⟩
    match cz, hl, e0, e2 with
    | [a, b], _, e0, e2 =>
      simp at e0 e2
      rw [e0, e2]
  obtain ⟨K, hK⟩ := choose_lt (α := Op2 × Value) each
  refine ⟨_, (List.range n).map (fun i => (K i).1), rfl, A, c, by simp, ?_, by have := hr.cap; simp; omega⟩
  have hn : ((List.range n).map (fun i => (K i).1)).length = n := by simp
  rw [hn]
  exact Lst.of_rd hr fun i hi => ⟨_, (hK i hi).1, rfl, (K i).1, (K i).2, by simp [hi], rfl, (hK i hi).2⟩
theorem open_rs {m : Nat} {cs : List Value} {y : DataW H × List MemPlace} (h : DataW.trod enc Tryd.prog W 0 (fun _ => true) true m 33 cs = some y) (hw : Fit Tryd.prog 33 y.1) : ∃ v os, cs = [v] ∧ RsIn W v os := by
  obtain ⟨A, n, c, vs, rfl, hr, hb, he⟩ := slice_rd Tryd.underlying33 cells53 (by omega) h hw
  rw [bytes53] at hb
  unfold reachBytes at hb
  have each : ∀ i, i < n → ∃ o : Rec3 × Value, (vs.drop (i * 18)).take 18 = encR o.1 o.2 ∧ AsIn W o.2 o.1.2.2 ∧ IsAddr o.1.2.1 := fun i hi => by
    obtain ⟨m', y', h1, hf⟩ := he i hi
    obtain ⟨hl, hfs⟩ := struct_any Tryd.underlying53 h1 hf
    rw [cells53] at hl
    obtain ⟨m0, y0, h0, _⟩ := hfs 0 _ rfl
    obtain ⟨m1, y1, h1', _⟩ := hfs 1 _ rfl
    obtain ⟨m2, y2, h2, f2⟩ := hfs 2 _ rfl
    obtain ⟨cz, hcz⟩ : ∃ cz, List.take 18 (List.drop (i * 18) vs) = cz := ⟨_, rfl⟩
    rw [hcz] at h0 h1' h2 hl ⊢
    replace h0 : DataW.trod enc Tryd.prog W 0 (fun _ => true) true m0 5 (List.take (Tryd.prog.cellsOf 5) (List.drop 0 cz)) = some y0 := h0
    replace h1' : DataW.trod enc Tryd.prog W 0 (fun _ => true) true m1 23 (List.take (Tryd.prog.cellsOf 23) (List.drop 1 cz)) = some y1 := h1'
    replace h2 : DataW.trod enc Tryd.prog W 0 (fun _ => true) true m2 32 (List.take (Tryd.prog.cellsOf 32) (List.drop 17 cz)) = some y2 := h2
    rw [cells5] at h0
    rw [cells23] at h1'
    rw [cells32] at h2
    obtain ⟨k, e0, _, wk⟩ := DataW.trod_int Tryd.underlying5 h0
    obtain ⟨a, e1, ha⟩ := open_addr1 h1'
    obtain ⟨v, ls, e2, hv⟩ := open_as h2 f2
    refine ⟨((k, a, ls), v), ?_, hv, ha⟩
    have hd : cz = List.take 1 cz ++ (List.take 16 (List.drop 1 cz) ++ List.take 1 (List.drop 17 cz)) := by
      have h17 : List.take 1 (List.drop 17 cz) = List.drop 16 (List.drop 1 cz) := by
        rw [List.drop_drop, List.take_of_length_le (by simp [hl])]
      rw [h17, List.take_append_drop, List.take_append_drop]
    rw [List.drop_zero] at e0
    rw [hd, e0, e1, e2]
    rfl
  obtain ⟨K, hK⟩ := choose_lt (α := Rec3 × Value) each
  refine ⟨_, (List.range n).map (fun i => (K i).1), rfl, A, c, by simp, ?_, by have := hr.cap; simp; omega⟩
  have hn : ((List.range n).map (fun i => (K i).1)).length = n := by simp
  rw [hn]
  exact Lst.of_rd hr fun i hi => ⟨_, (hK i hi).1, encR_len (hK i hi).2.2, (K i).1, (K i).2, by simp [hi], rfl, (hK i hi).2.1, (hK i hi).2.2⟩
end
theorem open_pk3 {H : Type} {enc : TypeId × Value → H} {W : World} {r : Reach} {b0 : Nat} {v : Value} {d : DataW H} {p : List MemPlace} (hv : Value.okWide Tryd.prog W r b0 30 v) (h : DataW.Trod enc Tryd.prog W 0 (fun _ => true) true 30 v d p) (hw : Fit Tryd.prog 30 d) :
    ∃ cs pk x, v = .agg cs ∧ PkAll W cs pk x := by
  simp only [Value.okWide, Tryd.underlying30] at hv
  obtain ⟨cs, rfl, hs, hrow⟩ := hv
  obtain ⟨fuel, hf⟩ := h
  obtain ⟨hl, hfs⟩ := struct_any Tryd.underlying30 hf hw
  obtain ⟨m0, y0, h0, f0⟩ := hfs 0 _ rfl
  replace h0 : DataW.trod enc Tryd.prog W 0 (fun _ => true) true m0 23 (List.take (Tryd.prog.cellsOf 23) (List.drop 0 cs.toList)) = some y0 := h0
  rw [cells23] at h0
  obtain ⟨k0, e0, z0⟩ := open_addr1 h0
  obtain ⟨m1, y1, h1, f1⟩ := hfs 1 _ rfl
  replace h1 : DataW.trod enc Tryd.prog W 0 (fun _ => true) true m1 23 (List.take (Tryd.prog.cellsOf 23) (List.drop 16 cs.toList)) = some y1 := h1
  rw [cells23] at h1
  obtain ⟨k1, e1, z1⟩ := open_addr1 h1
  obtain ⟨m2, y2, h2, f2⟩ := hfs 2 _ rfl
  replace h2 : DataW.trod enc Tryd.prog W 0 (fun _ => true) true m2 5 (List.take (Tryd.prog.cellsOf 5) (List.drop 32 cs.toList)) = some y2 := h2
  rw [cells5] at h2
  obtain ⟨k2, e2, _, w2⟩ := DataW.trod_int Tryd.underlying5 h2
  have z2 : 0 ≤ k2 ∧ k2 ≤ 255 := by have := bounds_u8 w2; omega
  obtain ⟨m3, y3, h3, f3⟩ := hfs 3 _ rfl
  replace h3 : DataW.trod enc Tryd.prog W 0 (fun _ => true) true m3 4 (List.take (Tryd.prog.cellsOf 4) (List.drop 33 cs.toList)) = some y3 := h3
  rw [cells4] at h3
  obtain ⟨k3, e3, _⟩ := DataW.trod_bool Tryd.underlying4 h3
  obtain ⟨m4, y4, h4, f4⟩ := hfs 4 _ rfl
  replace h4 : DataW.trod enc Tryd.prog W 0 (fun _ => true) true m4 27 (List.take (Tryd.prog.cellsOf 27) (List.drop 34 cs.toList)) = some y4 := h4
  rw [cells27] at h4
  obtain ⟨m5, y5, h5, f5⟩ := hfs 5 _ rfl
  replace h5 : DataW.trod enc Tryd.prog W 0 (fun _ => true) true m5 5 (List.take (Tryd.prog.cellsOf 5) (List.drop 38 cs.toList)) = some y5 := h5
  rw [cells5] at h5
  obtain ⟨k5, e5, _, w5⟩ := DataW.trod_int Tryd.underlying5 h5
  have z5 : 0 ≤ k5 ∧ k5 ≤ 255 := by have := bounds_u8 w5; omega
  obtain ⟨m6, y6, h6, f6⟩ := hfs 6 _ rfl
  replace h6 : DataW.trod enc Tryd.prog W 0 (fun _ => true) true m6 28 (List.take (Tryd.prog.cellsOf 28) (List.drop 39 cs.toList)) = some y6 := h6
  rw [cells28] at h6
  obtain ⟨v6, x6, e6, z6⟩ := open_bs h6 f6
  obtain ⟨cz, hcz⟩ : ∃ cz, List.take 4 (List.drop 34 cs.toList) = cz := ⟨_, rfl⟩
  rw [hcz] at h4
  obtain ⟨hl4, hfs4⟩ := struct_any Tryd.underlying27 h4 f4
  rw [cells27] at hl4
  obtain ⟨n0, u0, g0, _⟩ := hfs4 0 _ rfl
  replace g0 : DataW.trod enc Tryd.prog W 0 (fun _ => true) true n0 4 (List.take (Tryd.prog.cellsOf 4) (List.drop 0 cz)) = some u0 := g0
  obtain ⟨n1, u1, g1, _⟩ := hfs4 1 _ rfl
  replace g1 : DataW.trod enc Tryd.prog W 0 (fun _ => true) true n1 24 (List.take (Tryd.prog.cellsOf 24) (List.drop 1 cz)) = some u1 := g1
  obtain ⟨n2, u2, g2, _⟩ := hfs4 2 _ rfl
  replace g2 : DataW.trod enc Tryd.prog W 0 (fun _ => true) true n2 25 (List.take (Tryd.prog.cellsOf 25) (List.drop 2 cz)) = some u2 := g2
  obtain ⟨n3, u3, g3, _⟩ := hfs4 3 _ rfl
  replace g3 : DataW.trod enc Tryd.prog W 0 (fun _ => true) true n3 4 (List.take (Tryd.prog.cellsOf 4) (List.drop 3 cz)) = some u3 := g3
  rw [cells4] at g0 g3
  rw [cells24] at g1
  rw [cells25] at g2
  obtain ⟨a0, b0', _⟩ := DataW.trod_bool Tryd.underlying4 g0
  obtain ⟨a1, b1', _, _⟩ := DataW.trod_int Tryd.underlying24 g1
  obtain ⟨a2, b2', _, _⟩ := DataW.trod_int Tryd.underlying25 g2
  obtain ⟨a3, b3', _⟩ := DataW.trod_bool Tryd.underlying4 g3
  have hz4 : cz = [.bool a0, .int .u32 a1, .int .u16 a2, .bool a3] := by
    match cz, hl4, b0', b1', b2', b3' with
    | [_, _, _, _], _, b0', b1', b2', b3' =>
      simp at b0' b1' b2' b3'
      rw [b0', b1', b2', b3']
  rw [cells30] at hs
  refine ⟨cs, ⟨k0, k1, k2, k3⟩, ⟨a0, a1, a2, a3, k5, x6⟩, rfl, ⟨hs, ones_ok hrow, z0, z1, at16 e0 z0.len, at16 e1 z1.len, at1 e2, z2, at1 e3⟩, fun i u hu => ?_, at1 e5, v6, at1 e6, z6⟩
  have hi : i < 4 := (List.getElem?_eq_some_iff.1 hu).1
  have hc : cz[i]? = some u := by rw [hz4]; exact hu
  rw [← hcz, List.getElem?_take_of_lt hi, List.getElem?_drop] at hc
  simpa using hc
theorem open_ms3 {H : Type} {enc : TypeId × Value → H} {W : World} {r : Reach} {b0 : Nat} {v : Value} {d : DataW H} {p : List MemPlace} (hv : Value.okWide Tryd.prog W r b0 35 v) (h : DataW.Trod enc Tryd.prog W 0 (fun _ => true) true 35 v d p) (hw : Fit Tryd.prog 35 d) :
    ∃ cs ms x, v = .agg cs ∧ MsAll W cs ms x ∧ ∃ m', MsIn W W.heap.size cs m' := by
  obtain ⟨cs', m', hcs', hin⟩ := open_ms hv h hw
  simp only [Value.okWide, Tryd.underlying35] at hv
  obtain ⟨cs, rfl, hs, hrow⟩ := hv
  obtain rfl : cs = cs' := by injection hcs'
  obtain ⟨fuel, hf⟩ := h
  obtain ⟨hl, hfs⟩ := struct_any Tryd.underlying35 hf hw
  obtain ⟨m0, y0, h0, f0⟩ := hfs 0 _ rfl
  replace h0 : DataW.trod enc Tryd.prog W 0 (fun _ => true) true m0 5 (List.take (Tryd.prog.cellsOf 5) (List.drop 0 cs.toList)) = some y0 := h0
  rw [cells5] at h0
  obtain ⟨k0, e0, _, w0⟩ := DataW.trod_int Tryd.underlying5 h0
  have z0 : 0 ≤ k0 ∧ k0 ≤ 255 := by have := bounds_u8 w0; omega
  obtain ⟨m1, y1, h1, f1⟩ := hfs 1 _ rfl
  replace h1 : DataW.trod enc Tryd.prog W 0 (fun _ => true) true m1 5 (List.take (Tryd.prog.cellsOf 5) (List.drop 1 cs.toList)) = some y1 := h1
  rw [cells5] at h1
  obtain ⟨k1, e1, _, w1⟩ := DataW.trod_int Tryd.underlying5 h1
  have z1 : 0 ≤ k1 ∧ k1 ≤ 255 := by have := bounds_u8 w1; omega
  obtain ⟨m2, y2, h2, f2⟩ := hfs 2 _ rfl
  replace h2 : DataW.trod enc Tryd.prog W 0 (fun _ => true) true m2 24 (List.take (Tryd.prog.cellsOf 24) (List.drop 2 cs.toList)) = some y2 := h2
  rw [cells24] at h2
  obtain ⟨k2, e2, _, w2⟩ := DataW.trod_int Tryd.underlying24 h2
  obtain ⟨m3, y3, h3, f3⟩ := hfs 3 _ rfl
  replace h3 : DataW.trod enc Tryd.prog W 0 (fun _ => true) true m3 28 (List.take (Tryd.prog.cellsOf 28) (List.drop 3 cs.toList)) = some y3 := h3
  rw [cells28] at h3
  obtain ⟨v3, x3, e3, z3⟩ := open_bs h3 f3
  obtain ⟨m4, y4, h4, f4⟩ := hfs 4 _ rfl
  replace h4 : DataW.trod enc Tryd.prog W 0 (fun _ => true) true m4 5 (List.take (Tryd.prog.cellsOf 5) (List.drop 4 cs.toList)) = some y4 := h4
  rw [cells5] at h4
  obtain ⟨k4, e4, _, w4⟩ := DataW.trod_int Tryd.underlying5 h4
  have z4 : 0 ≤ k4 ∧ k4 ≤ 255 := by have := bounds_u8 w4; omega
  obtain ⟨m5, y5, h5, f5⟩ := hfs 5 _ rfl
  replace h5 : DataW.trod enc Tryd.prog W 0 (fun _ => true) true m5 5 (List.take (Tryd.prog.cellsOf 5) (List.drop 5 cs.toList)) = some y5 := h5
  rw [cells5] at h5
  obtain ⟨k5, e5, _, w5⟩ := DataW.trod_int Tryd.underlying5 h5
  have z5 : 0 ≤ k5 ∧ k5 ≤ 255 := by have := bounds_u8 w5; omega
  obtain ⟨m6, y6, h6, f6⟩ := hfs 6 _ rfl
  replace h6 : DataW.trod enc Tryd.prog W 0 (fun _ => true) true m6 25 (List.take (Tryd.prog.cellsOf 25) (List.drop 6 cs.toList)) = some y6 := h6
  rw [cells25] at h6
  obtain ⟨k6, e6, _, w6⟩ := DataW.trod_int Tryd.underlying25 h6
  obtain ⟨m7, y7, h7, f7⟩ := hfs 7 _ rfl
  replace h7 : DataW.trod enc Tryd.prog W 0 (fun _ => true) true m7 24 (List.take (Tryd.prog.cellsOf 24) (List.drop 7 cs.toList)) = some y7 := h7
  rw [cells24] at h7
  obtain ⟨k7, e7, _, w7⟩ := DataW.trod_int Tryd.underlying24 h7
  obtain ⟨m8, y8, h8, f8⟩ := hfs 8 _ rfl
  replace h8 : DataW.trod enc Tryd.prog W 0 (fun _ => true) true m8 24 (List.take (Tryd.prog.cellsOf 24) (List.drop 8 cs.toList)) = some y8 := h8
  rw [cells24] at h8
  obtain ⟨k8, e8, _, w8⟩ := DataW.trod_int Tryd.underlying24 h8
  obtain ⟨m9, y9, h9, f9⟩ := hfs 9 _ rfl
  replace h9 : DataW.trod enc Tryd.prog W 0 (fun _ => true) true m9 23 (List.take (Tryd.prog.cellsOf 23) (List.drop 9 cs.toList)) = some y9 := h9
  rw [cells23] at h9
  obtain ⟨k9, e9, z9⟩ := open_addr1 h9
  obtain ⟨m10, y10, h10, f10⟩ := hfs 10 _ rfl
  replace h10 : DataW.trod enc Tryd.prog W 0 (fun _ => true) true m10 23 (List.take (Tryd.prog.cellsOf 23) (List.drop 25 cs.toList)) = some y10 := h10
  rw [cells23] at h10
  obtain ⟨k10, e10, z10⟩ := open_addr1 h10
  obtain ⟨m11, y11, h11, f11⟩ := hfs 11 _ rfl
  replace h11 : DataW.trod enc Tryd.prog W 0 (fun _ => true) true m11 31 (List.take (Tryd.prog.cellsOf 31) (List.drop 41 cs.toList)) = some y11 := h11
  rw [cells31] at h11
  obtain ⟨v11, x11, e11, z11⟩ := open_os h11 f11
  obtain ⟨m12, y12, h12, f12⟩ := hfs 12 _ rfl
  replace h12 : DataW.trod enc Tryd.prog W 0 (fun _ => true) true m12 25 (List.take (Tryd.prog.cellsOf 25) (List.drop 42 cs.toList)) = some y12 := h12
  rw [cells25] at h12
  obtain ⟨k12, e12, _, w12⟩ := DataW.trod_int Tryd.underlying25 h12
  obtain ⟨m13, y13, h13, f13⟩ := hfs 13 _ rfl
  replace h13 : DataW.trod enc Tryd.prog W 0 (fun _ => true) true m13 23 (List.take (Tryd.prog.cellsOf 23) (List.drop 43 cs.toList)) = some y13 := h13
  rw [cells23] at h13
  obtain ⟨k13, e13, z13⟩ := open_addr1 h13
  obtain ⟨m14, y14, h14, f14⟩ := hfs 14 _ rfl
  replace h14 : DataW.trod enc Tryd.prog W 0 (fun _ => true) true m14 5 (List.take (Tryd.prog.cellsOf 5) (List.drop 59 cs.toList)) = some y14 := h14
  rw [cells5] at h14
  obtain ⟨k14, e14, _, w14⟩ := DataW.trod_int Tryd.underlying5 h14
  have z14 : 0 ≤ k14 ∧ k14 ≤ 255 := by have := bounds_u8 w14; omega
  obtain ⟨m15, y15, h15, f15⟩ := hfs 15 _ rfl
  replace h15 : DataW.trod enc Tryd.prog W 0 (fun _ => true) true m15 5 (List.take (Tryd.prog.cellsOf 5) (List.drop 60 cs.toList)) = some y15 := h15
  rw [cells5] at h15
  obtain ⟨k15, e15, _, w15⟩ := DataW.trod_int Tryd.underlying5 h15
  have z15 : 0 ≤ k15 ∧ k15 ≤ 255 := by have := bounds_u8 w15; omega
  obtain ⟨m16, y16, h16, f16⟩ := hfs 16 _ rfl
  replace h16 : DataW.trod enc Tryd.prog W 0 (fun _ => true) true m16 32 (List.take (Tryd.prog.cellsOf 32) (List.drop 61 cs.toList)) = some y16 := h16
  rw [cells32] at h16
  obtain ⟨v16, x16, e16, z16⟩ := open_as h16 f16
  obtain ⟨m17, y17, h17, f17⟩ := hfs 17 _ rfl
  replace h17 : DataW.trod enc Tryd.prog W 0 (fun _ => true) true m17 33 (List.take (Tryd.prog.cellsOf 33) (List.drop 62 cs.toList)) = some y17 := h17
  rw [cells33] at h17
  obtain ⟨v17, x17, e17, z17⟩ := open_rs h17 f17
  rw [cells35] at hs
  exact ⟨cs, ⟨k0, k1, k5, k9, k10, x11.map (·.1)⟩, ⟨k2, k4, k6, k7, k8, k12, k13, k14, k15, x3, x11, x16, x17⟩, rfl,
    ⟨⟨hs, ones_ok hrow, at1 e0, z0, at1 e1, z1, at1 e5, z5, z9, z10, at16 e9 z9.len, at16 e10 z10.len, v11, at1 e11, z11.ops⟩, rfl, at1 e2, at1 e4, at1 e6, at1 e7, at1 e8, at1 e12, z13, at16 e13 z13.len, at1 e14, at1 e15, ⟨v3, at1 e3, z3⟩, ⟨v11, at1 e11, z11⟩, ⟨v16, at1 e16, z16⟩, v17, at1 e17, z17⟩, m', hin⟩
end Go.Proofs.YtlckfnfmekgnkaaDoor
