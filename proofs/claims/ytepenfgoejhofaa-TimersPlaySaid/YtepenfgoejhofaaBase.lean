/- What came in at this seat's laws, opened: an act, a list of acts. No condition. -/
import Derived.Test.YtepenfgoejhofaaNt
namespace Go.Proofs.Ytepenfgoejhofaa
open Go.ChangeShapes Go.WideShapes Go.ChangeAt Go.RowKit Go.Deep
set_option linter.unusedVariables false
set_option linter.unusedSimpArgs false

theorem own : ownKnob Try.prog.godebug = none := by kernel_rfl
theorem laidOut : laidOutB Try.prog = true := by kernel_rfl
theorem u64b {a : Int} (h : (Lit.int .u64 a).wf = true) : 0 ≤ a ∧ a ≤ 18446744073709551615 := by
  have := bounds_u64 h; omega
theorem u64mod (x : Int) : IntKind.u64.wrap x = x % 18446744073709551616 := by simp [IntKind.wrap, IntKind.bits, IntKind.signed]
theorem u64wrap (x : Int) : 0 ≤ IntKind.u64.wrap x ∧ IntKind.u64.wrap x ≤ 18446744073709551615 := by rw [u64mod]; omega
theorem cells5 : Try.prog.cellsOf 5 = 1 := by kernel_rfl
theorem cells23 : Try.prog.cellsOf 23 = 1 := by kernel_rfl
theorem cells30 : Try.prog.cellsOf 30 = 2 := by kernel_rfl
theorem cells32 : Try.prog.cellsOf 32 = 4 := by kernel_rfl
theorem at1 {cs : List Value} {o : Nat} {v : Value} (h : (cs.drop o).take 1 = [v]) : cs[o]? = some v := by
  have := congrArg (·[0]?) h
  simpa [List.getElem?_take, List.getElem?_drop] using this
/-- An act that came in: its kind, and a timer with a time. -/
structure ActV where
  kind : Int
  t : T3
deriving Inhabited
def ActV.cells (x : ActV) : List Value := [.int .u8 x.kind, .int .u8 x.t.1, .int .u64 x.t.2.1, .int .u64 x.t.2.2]
abbrev actV (x : ActV) : Array Value := #[.int .u8 x.kind, .int .u8 x.t.1, .int .u64 x.t.2.1, .int .u64 x.t.2.2]
structure IsAct (x : ActV) : Prop where
  kind : 0 ≤ x.kind ∧ x.kind ≤ 255
  t : IsT x.t
theorem act_len (x : ActV) : x.cells.length = 4 := rfl
section
variable {H : Type} {enc : TypeId × Value → H} {W : World}
theorem key_in {m : Nat} {cs : List Value} {y : DataW H × List MemPlace} (h : DataW.trod enc Try.prog W 0 (fun _ => true) true m 30 cs = some y) (hw : Fit Try.prog 30 y.1) : ∃ k : K2, cs = [.int .u8 k.1, .int .u64 k.2] ∧ IsK k := by
  obtain ⟨hl, hfs⟩ := struct_any Try.underlying30 h hw
  rw [cells30] at hl
  obtain ⟨m0, y0, h0, _⟩ := hfs 0 _ rfl
  obtain ⟨m1, y1, h1, _⟩ := hfs 1 _ rfl
  replace h0 : DataW.trod enc Try.prog W 0 (fun _ => true) true m0 5 (List.take (Try.prog.cellsOf 5) (List.drop 0 cs)) = some y0 := h0
  replace h1 : DataW.trod enc Try.prog W 0 (fun _ => true) true m1 23 (List.take (Try.prog.cellsOf 23) (List.drop 1 cs)) = some y1 := h1
  rw [cells5] at h0
  rw [cells23] at h1
  obtain ⟨a, e0, _, w0⟩ := DataW.trod_int Try.underlying5 h0
  obtain ⟨b, e1, _, w1⟩ := DataW.trod_int Try.underlying23 h1
  refine ⟨(a, b), ?_, ⟨by have := bounds_u8 w0; simp only; omega, u64b w1⟩⟩
  match cs, hl, e0, e1 with
  | [c, d], _, e0, e1 =>
    simp at e0 e1
    rw [e0, e1]
theorem act_in {m : Nat} {cs : List Value} {y : DataW H × List MemPlace} (h : DataW.trod enc Try.prog W 0 (fun _ => true) true m 32 cs = some y) (hw : Fit Try.prog 32 y.1) : ∃ a : ActV, cs = a.cells ∧ IsAct a := by
  obtain ⟨hl, hfs⟩ := struct_any Try.underlying32 h hw
  rw [cells32] at hl
  obtain ⟨m0, y0, h0, _⟩ := hfs 0 _ rfl
  obtain ⟨m1, y1, h1, f1⟩ := hfs 1 _ rfl
  obtain ⟨m2, y2, h2, _⟩ := hfs 2 _ rfl
  replace h0 : DataW.trod enc Try.prog W 0 (fun _ => true) true m0 5 (List.take (Try.prog.cellsOf 5) (List.drop 0 cs)) = some y0 := h0
  replace h1 : DataW.trod enc Try.prog W 0 (fun _ => true) true m1 30 (List.take (Try.prog.cellsOf 30) (List.drop 1 cs)) = some y1 := h1
  replace h2 : DataW.trod enc Try.prog W 0 (fun _ => true) true m2 23 (List.take (Try.prog.cellsOf 23) (List.drop 3 cs)) = some y2 := h2
  rw [cells5] at h0
  rw [cells30] at h1
  rw [cells23] at h2
  obtain ⟨k, e0, _, w0⟩ := DataW.trod_int Try.underlying5 h0
  obtain ⟨b, e1, hb⟩ := key_in h1 f1
  obtain ⟨a, e2, _, w2⟩ := DataW.trod_int Try.underlying23 h2
  refine ⟨⟨k, b.1, b.2, a⟩, ?_, ⟨by have := bounds_u8 w0; simp only; omega, ⟨hb, u64b w2⟩⟩⟩
  match cs, hl, e0, e1, e2 with
  | [c, d, e, f], _, e0, e1, e2 =>
    simp at e0 e1 e2
    simp [ActV.cells, e0, e1, e2]
theorem open_act {r : Reach} {b0 : Nat} {v : Value} {d : DataW H} {p : List MemPlace} (hv : Value.okWide Try.prog W r b0 32 v) (h : DataW.Trod enc Try.prog W 0 (fun _ => true) true 32 v d p) (hw : Fit Try.prog 32 d) :
    ∃ a : ActV, v = .agg (actV a) ∧ IsAct a := by
  simp only [Value.okWide, Try.underlying32] at hv
  obtain ⟨cs, rfl, hs, hrow⟩ := hv
  obtain ⟨fuel, hf⟩ := h
  obtain ⟨a, ha, hA⟩ := act_in hf hw
  refine ⟨a, ?_, hA⟩
  congr 1
  have : cs.toList = a.cells := ha
  show cs = a.cells.toArray
  rw [← this]

/-- The acts that came in. -/
structure IsActs (W : World) (B : Nat) (A : Option Addr) (n c : Nat) (z : Nat → ActV) : Prop where
  cap : n ≤ c
  cmax : c ≤ maxLen
  at_ : 0 < n → ∃ b off, A = some ⟨b, off, none⟩ ∧ b < B ∧ ∀ i, i < n → W.rangeAt b (off + i * 4) (z i).cells
  each : ∀ i, i < n → IsAct (z i)
theorem open_acts {r : Reach} {b0 : Nat} {v : Value} {d : DataW H} {p : List MemPlace} (hv : Value.okWide Try.prog W r b0 22 v) (h : DataW.Trod enc Try.prog W 0 (fun _ => true) true 22 v d p) (hw : Fit Try.prog 22 d) :
    ∃ A n c z, v = .slice A n c ∧ IsActs W W.heap.size A n c z := by
  obtain ⟨A, n, c, rfl⟩ := okWide_slice Try.underlying22 hv
  obtain ⟨fuel, hf⟩ := h
  obtain ⟨A', n', c', vs, ev, hr, _, he⟩ := slice_rd Try.underlying22 cells32 (by omega) hf hw
  simp only [Value.cells, List.cons.injEq, and_true, Value.slice.injEq] at ev
  obtain ⟨rfl, rfl, rfl⟩ := ev
  have each : ∀ i, i < n → ∃ a : ActV, (vs.drop (i * 4)).take 4 = a.cells ∧ IsAct a := fun i hi => by
    obtain ⟨m', y', h1, f1⟩ := he i hi
    exact act_in h1 f1
  obtain ⟨K, hK⟩ := choose_lt (α := ActV) (p := fun i a => (vs.drop (i * 4)).take 4 = a.cells ∧ IsAct a) each
  refine ⟨A, n, c, K, rfl, ⟨hr.cap, hr.cmax, fun hn => ?_, fun i hi => (hK i hi).2⟩⟩
  obtain ⟨b, off, e, hb', hc⟩ := hr.at_ hn
  refine ⟨b, off, e, hb', fun i hi j v hv => ?_⟩
  have hj : j < 4 := (List.getElem?_eq_some_iff.1 hv).1
  rw [Nat.add_assoc]
  refine hc _ v ?_
  rw [← (hK i hi).1, List.getElem?_take_of_lt hj, List.getElem?_drop] at hv
  exact hv
end
theorem info32 : (Try.prog.info? 32).map (·.size) = some 4 := by kernel_rfl
theorem ldAct {W : World} {b o : Nat} {x : ActV} (h : W.rangeAt b o x.cells) : (loadVar 32 ⟨b, o, none⟩).run Try.prog W = .ok (.agg (actV x)) W :=
  run_loadVar_mid (P := Try.prog) W b o 32 x.cells _ h Try.underlying32 rfl info32
/-- A key that lies in a row, o cells on. -/
theorem ldKeyAt {W : World} {b o : Nat} {k : K2} (h0 : W.cell? ⟨b, o, none⟩ = some (.int .u8 k.1)) (h1 : W.cell? ⟨b, o + 1, none⟩ = some (.int .u64 k.2)) : (loadVar 30 ⟨b, o, none⟩).run Try.prog W = .ok (.agg (keyV k)) W :=
  run_loadVar_mid (P := Try.prog) W b o 30 [.int .u8 k.1, .int .u64 k.2] _ (fun i u hu => by
    match i, hu with
    | 0, hu => rw [Nat.add_zero, h0]; simpa using hu
    | 1, hu => rw [h1]; simpa using hu) Try.underlying30 rfl info30
theorem act_key {W : World} {q : Nat} {t : TypeId} {x : ActV} (h : Blk W q t (actV x)) : (loadVar 30 ⟨q, 1, none⟩).run Try.prog W = .ok (.agg (keyV (kOf x.t))) W := ldKeyAt (h.at_ (i := 1) rfl) (h.at_ (i := 2) rfl)
end Go.Proofs.Ytepenfgoejhofaa
