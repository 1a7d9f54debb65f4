/- What came in at this seat's laws, opened: an act, a list of acts. No condition. -/
import Derived.Test.YtajlgglknianlaaLives
namespace Go.Proofs.Ytajlgglknianlaa
open Go.ChangeShapes Go.WideShapes Go.ChangeAt Go.RowKit Go.Deep
set_option linter.unusedVariables false

theorem own : ownKnob Try.prog.godebug = none := by kernel_rfl
theorem laidOut : laidOutB Try.prog = true := by kernel_rfl
theorem u32b {a : Int} (h : (Lit.int .u32 a).wf = true) : 0 ≤ a ∧ a ≤ 4294967295 := by
  have := bounds_u32 h; omega
theorem cells31 : Try.prog.cellsOf 31 = 16 := by kernel_rfl
theorem cells30 : Try.prog.cellsOf 30 = 16 := by kernel_rfl
theorem cells9 : Try.prog.cellsOf 9 = 1 := by kernel_rfl
theorem cells5 : Try.prog.cellsOf 5 = 1 := by kernel_rfl
theorem cells23 : Try.prog.cellsOf 23 = 1 := by kernel_rfl
theorem cells32 : Try.prog.cellsOf 32 = 1 := by kernel_rfl
theorem cells40 : Try.prog.cellsOf 40 = 1 := by kernel_rfl
theorem cells42 : Try.prog.cellsOf 42 = 5 := by kernel_rfl
theorem bytes31 : Try.prog.bytesOf 31 = 16 := by kernel_rfl
theorem bytes9 : Try.prog.bytesOf 9 = 16 := by kernel_rfl
theorem at1 {cs : List Value} {o : Nat} {v : Value} (h : (cs.drop o).take 1 = [v]) : cs[o]? = some v := by
  have := congrArg (·[0]?) h
  simpa [List.getElem?_take, List.getElem?_drop] using this

/-- An act that came in. -/
structure ActV where
  kind : Int
  sA : Option Addr
  sn : Nat
  sc : Nat
  xs : List (List Int)
  dA : Option Addr
  dn : Nat
  dc : Nat
  ys : List ByteArray
  life : Int
  later : Int
deriving Inhabited
def ActV.cells (a : ActV) : List Value := [.int .u8 a.kind, .slice a.sA a.sn a.sc, .slice a.dA a.dn a.dc, .int .u32 a.life, .int .u32 a.later]
structure IsAct (W : World) (B : Nat) (a : ActV) : Prop where
  kind : 0 ≤ a.kind ∧ a.kind ≤ 255
  life : 0 ≤ a.life ∧ a.life ≤ 4294967295
  later : 0 ≤ a.later ∧ a.later ≤ 4294967295
  s : Sv.IsL W (· < B) a.sA a.sn a.sc a.xs
  sroom : a.sc * 16 ≤ 140737488351232
  snil : a.sA = none → a.sc = 0
  dnil : a.dA = none → a.dc = 0
  d : Dm.IsL W (· < B) a.dA a.dn a.dc a.ys
  droom : a.dc * 16 ≤ 140737488351232
theorem IsAct.to {w W : World} {B : Nat} {a : ActV} (h : IsAct w B a) (hB : B ≤ w.heap.size) (hb : Below B w W) : IsAct W B a :=
  ⟨h.kind, h.life, h.later,
    ⟨h.s.cap, h.s.cmax, h.s.len, h.s.ok, fun hn => by
      obtain ⟨b, off, e, h1, h2, h3⟩ := h.s.at_ hn
      exact ⟨b, off, e, Nat.lt_of_lt_of_le h1 hb.size, h2, fun j x hx i v hv => (hb.cell (p := ⟨b, off + j * 16 + i, none⟩) h2).trans (h3 j x hx i v hv)⟩⟩, h.sroom, h.snil, h.dnil,
    ⟨h.d.cap, h.d.cmax, h.d.len, fun hn => by
      obtain ⟨b, off, e, h1, h2, h3⟩ := h.d.at_ hn
      exact ⟨b, off, e, Nat.lt_of_lt_of_le h1 hb.size, h2, fun j x hx i v hv => (hb.cell (p := ⟨b, off + j * 1 + i, none⟩) h2).trans (h3 j x hx i v hv)⟩⟩, h.droom⟩

section
variable {H : Type} {enc : TypeId × Value → H} {W : World}
theorem addr_in {m : Nat} {cs : List Value} {y : DataW H × List MemPlace} (h : DataW.trod enc Try.prog W 0 (fun _ => true) true m 31 cs = some y) : ∃ l : List Int, cs = l.map (Value.int .u8) ∧ IsAddr l := by
  obtain ⟨l, rfl, hl, hw⟩ := array_ints Try.underlying31 Try.underlying5 cells5 cells31 h
  exact ⟨l, rfl, hl, fun x hx => by have := bounds_u8 (hw x hx); omega⟩
theorem slice_addrs {m : Nat} {cs : List Value} {y : DataW H × List MemPlace} (h : DataW.trod enc Try.prog W 0 (fun _ => true) true m 32 cs = some y) (hw : Fit Try.prog 32 y.1) :
    ∃ A n c xs, cs = [.slice A n c] ∧ Sv.IsL W (· < W.heap.size) A n c xs ∧ c * 16 ≤ 140737488351232 ∧ (A = none → c = 0) := by
  obtain ⟨A, n, c, vs, rfl, hr, hb, he⟩ := slice_rd Try.underlying32 cells31 (by omega) h hw
  rw [bytes31] at hb
  unfold reachBytes at hb
  have each : ∀ i, i < n → ∃ l : List Int, (vs.drop (i * 16)).take 16 = l.map (Value.int .u8) ∧ IsAddr l := fun i hi => by
    obtain ⟨m', y', h1, _⟩ := he i hi
    exact addr_in h1
  obtain ⟨K, hK⟩ := choose_lt (α := List Int) (p := fun i l => (vs.drop (i * 16)).take 16 = l.map (Value.int .u8) ∧ IsAddr l) each
  have hget : ∀ i x, ((List.range n).map K)[i]? = some x → i < n ∧ x = K i := fun i x hi => by
    rw [List.getElem?_map] at hi
    have hin : i < n := by
      rcases Nat.lt_or_ge i n with h1 | h1
      · exact h1
      · rw [List.getElem?_eq_none (by simpa using h1)] at hi; cases hi
    rw [List.getElem?_range hin] at hi
    simp at hi
    exact ⟨hin, hi.symm⟩
  refine ⟨A, n, c, (List.range n).map K, rfl, ⟨hr.cap, hr.cmax, by simp, fun x hx => ?_, fun hn => ?_⟩, by omega, fun e => (hr.nil_ e).2⟩
  · obtain ⟨i, hi, rfl⟩ := List.mem_map.1 hx
    exact (hK i (List.mem_range.1 hi)).2
  · obtain ⟨b, off, e, hb', hc⟩ := hr.at_ hn
    refine ⟨b, off, e, hb', hb', fun j x hx i v hv => ?_⟩
    obtain ⟨hj, rfl⟩ := hget j x hx
    have hi : i < 16 := by have := (List.getElem?_eq_some_iff.1 hv).1; rw [Sv.encT, List.length_map, (hK j hj).2.len] at this; exact this
    rw [Nat.add_assoc]
    refine hc _ v ?_
    rw [Sv.encT, ← (hK j hj).1, List.getElem?_take_of_lt hi, List.getElem?_drop] at hv
    exact hv
theorem slice_strings {m : Nat} {cs : List Value} {y : DataW H × List MemPlace} (h : DataW.trod enc Try.prog W 0 (fun _ => true) true m 40 cs = some y) (hw : Fit Try.prog 40 y.1) :
    ∃ A n c xs, cs = [.slice A n c] ∧ Dm.IsL W (· < W.heap.size) A n c xs ∧ c * 16 ≤ 140737488351232 ∧ (A = none → c = 0) := by
  obtain ⟨A, n, c, vs, rfl, hr, hb, he⟩ := slice_rd Try.underlying40 cells9 (by omega) h hw
  rw [bytes9] at hb
  unfold reachBytes at hb
  have each : ∀ i, i < n → ∃ l : ByteArray, vs[i]? = some (.string l) := fun i hi => by
    obtain ⟨m', y', h1, _⟩ := he i hi
    obtain ⟨s, e, _⟩ := DataW.trod_string Try.underlying9 h1
    exact ⟨s, by have := at1 e; rwa [Nat.mul_one] at this⟩
  obtain ⟨K, hK⟩ := choose_lt (α := ByteArray) (p := fun i l => vs[i]? = some (.string l)) each
  have hget : ∀ i x, ((List.range n).map K)[i]? = some x → i < n ∧ x = K i := fun i x hi => by
    rw [List.getElem?_map] at hi
    have hin : i < n := by
      rcases Nat.lt_or_ge i n with h1 | h1
      · exact h1
      · rw [List.getElem?_eq_none (by simpa using h1)] at hi; cases hi
    rw [List.getElem?_range hin] at hi
    simp at hi
    exact ⟨hin, hi.symm⟩
  refine ⟨A, n, c, (List.range n).map K, rfl, ⟨hr.cap, hr.cmax, by simp, fun hn => ?_⟩, by omega, fun e => (hr.nil_ e).2⟩
  obtain ⟨b, off, e, hb', hc⟩ := hr.at_ hn
  refine ⟨b, off, e, hb', hb', fun j x hx i v hv => ?_⟩
  obtain ⟨hj, rfl⟩ := hget j x hx
  match i, hv with
  | 0, hv =>
    simp [Dm.encT] at hv
    subst hv
    have := hc j _ (hK j hj)
    rwa [Nat.mul_one, Nat.add_zero]
  | i + 1, hv => simp [Dm.encT] at hv
theorem act_in {m : Nat} {cs : List Value} {y : DataW H × List MemPlace} (h : DataW.trod enc Try.prog W 0 (fun _ => true) true m 42 cs = some y) (hw : Fit Try.prog 42 y.1) :
    ∃ a : ActV, cs = a.cells ∧ IsAct W W.heap.size a := by
  obtain ⟨hl, hfs⟩ := struct_any Try.underlying42 h hw
  rw [cells42] at hl
  obtain ⟨m0, y0, h0, _⟩ := hfs 0 _ rfl
  obtain ⟨m1, y1, h1, f1⟩ := hfs 1 _ rfl
  obtain ⟨m2, y2, h2, f2⟩ := hfs 2 _ rfl
  obtain ⟨m3, y3, h3, _⟩ := hfs 3 _ rfl
  obtain ⟨m4, y4, h4, _⟩ := hfs 4 _ rfl
  replace h0 : DataW.trod enc Try.prog W 0 (fun _ => true) true m0 5 (List.take (Try.prog.cellsOf 5) (List.drop 0 cs)) = some y0 := h0
  replace h1 : DataW.trod enc Try.prog W 0 (fun _ => true) true m1 32 (List.take (Try.prog.cellsOf 32) (List.drop 1 cs)) = some y1 := h1
  replace h2 : DataW.trod enc Try.prog W 0 (fun _ => true) true m2 40 (List.take (Try.prog.cellsOf 40) (List.drop 2 cs)) = some y2 := h2
  replace h3 : DataW.trod enc Try.prog W 0 (fun _ => true) true m3 23 (List.take (Try.prog.cellsOf 23) (List.drop 3 cs)) = some y3 := h3
  replace h4 : DataW.trod enc Try.prog W 0 (fun _ => true) true m4 23 (List.take (Try.prog.cellsOf 23) (List.drop 4 cs)) = some y4 := h4
  rw [cells5] at h0
  rw [cells32] at h1
  rw [cells40] at h2
  rw [cells23] at h3 h4
  obtain ⟨k, e0, _, w0⟩ := DataW.trod_int Try.underlying5 h0
  obtain ⟨A, n, c, xs, e1, q1, q1', q1n⟩ := slice_addrs h1 f1
  obtain ⟨D, dn, dc, ys, e2, q2, q2', q2n⟩ := slice_strings h2 f2
  obtain ⟨life, e3, _, w3⟩ := DataW.trod_int Try.underlying23 h3
  obtain ⟨later, e4, _, w4⟩ := DataW.trod_int Try.underlying23 h4
  have b0 := at1 e0
  have b1 := at1 e1
  have b2 := at1 e2
  have b3 := at1 e3
  have b4 := at1 e4
  refine ⟨⟨k, A, n, c, xs, D, dn, dc, ys, life, later⟩, ?_, ⟨by have := bounds_u8 w0; omega, u32b w3, u32b w4, q1, q1', q1n, q2n, q2, q2'⟩⟩
  apply List.ext_getElem?
  intro i
  match i with
  | 0 => exact b0
  | 1 => exact b1
  | 2 => exact b2
  | 3 => exact b3
  | 4 => exact b4
  | i + 5 => rw [List.getElem?_eq_none (by omega), List.getElem?_eq_none (by simp [ActV.cells])]

theorem open_act {r : Reach} {b0 : Nat} {v : Value} {d : DataW H} {p : List MemPlace} (hv : Value.okWide Try.prog W r b0 42 v) (h : DataW.Trod enc Try.prog W 0 (fun _ => true) true 42 v d p) (hw : Fit Try.prog 42 d) :
    ∃ a : ActV, v = .agg a.cells.toArray ∧ IsAct W W.heap.size a := by
  simp only [Value.okWide, Try.underlying42] at hv
  obtain ⟨cs, rfl, hs, hrow⟩ := hv
  obtain ⟨fuel, hf⟩ := h
  obtain ⟨a, ha, hA⟩ := act_in hf hw
  refine ⟨a, ?_, hA⟩
  congr 1
  have : cs.toList = a.cells := ha
  rw [← this]

/-- The acts that came in. -/
structure IsActs (W : World) (B : Nat) (A : Option Addr) (n c : Nat) (z : Nat → ActV) : Prop where
  cap : n ≤ c
  cmax : c ≤ maxLen
  at_ : 0 < n → ∃ b off, A = some ⟨b, off, none⟩ ∧ b < B ∧ ∀ i, i < n → W.rangeAt b (off + i * 5) (z i).cells
  each : ∀ i, i < n → IsAct W B (z i)
theorem IsActs.to {w W : World} {B : Nat} {A : Option Addr} {n c : Nat} {z : Nat → ActV} (h : IsActs w B A n c z) (hB : B ≤ w.heap.size) (hb : Below B w W) : IsActs W B A n c z :=
  ⟨h.cap, h.cmax, fun hn => by
    obtain ⟨b, off, e, h1, h2⟩ := h.at_ hn
    exact ⟨b, off, e, h1, fun i hi j v hv => (hb.cell (p := ⟨b, off + i * 5 + j, none⟩) h1).trans (h2 i hi j v hv)⟩, fun i hi => (h.each i hi).to hB hb⟩
theorem open_acts {r : Reach} {b0 : Nat} {v : Value} {d : DataW H} {p : List MemPlace} (hv : Value.okWide Try.prog W r b0 38 v) (h : DataW.Trod enc Try.prog W 0 (fun _ => true) true 38 v d p) (hw : Fit Try.prog 38 d) :
    ∃ A n c z, v = .slice A n c ∧ IsActs W W.heap.size A n c z := by
  obtain ⟨A, n, c, rfl⟩ := okWide_slice Try.underlying38 hv
  obtain ⟨fuel, hf⟩ := h
  obtain ⟨A', n', c', vs, ev, hr, _, he⟩ := slice_rd Try.underlying38 cells42 (by omega) hf hw
  simp only [Value.cells, List.cons.injEq, and_true, Value.slice.injEq] at ev
  obtain ⟨rfl, rfl, rfl⟩ := ev
  have each : ∀ i, i < n → ∃ a : ActV, (vs.drop (i * 5)).take 5 = a.cells ∧ IsAct W W.heap.size a := fun i hi => by
    obtain ⟨m', y', h1, f1⟩ := he i hi
    exact act_in h1 f1
  obtain ⟨K, hK⟩ := choose_lt (α := ActV) (p := fun i a => (vs.drop (i * 5)).take 5 = a.cells ∧ IsAct W W.heap.size a) each
  refine ⟨A, n, c, K, rfl, ⟨hr.cap, hr.cmax, fun hn => ?_, fun i hi => (hK i hi).2⟩⟩
  obtain ⟨b, off, e, hb', hc⟩ := hr.at_ hn
  refine ⟨b, off, e, hb', fun i hi j v hv => ?_⟩
  have hj : j < 5 := (List.getElem?_eq_some_iff.1 hv).1
  rw [Nat.add_assoc]
  refine hc _ v ?_
  rw [← (hK i hi).1, List.getElem?_take_of_lt hj, List.getElem?_drop] at hv
  exact hv
end
theorem Kp.new {w W : World} {L : List (Nat × TypeId × Array Value)} (h : Kp w W L) {g : Nat} (hg : W.heap.size = g) (t : TypeId) (cs : Array Value) : Kp w (W.alloc (.cells cs t)) (L ++ [(g, t, cs)]) := by
  subst hg
  exact h.alloc t cs
end Go.Proofs.Ytajlgglknianlaa
