/- What came in at this seat's laws, opened: an act, a list of acts, an address. No condition. -/
import Derived.Test.YtpjjcihhmhccfaaLives
namespace Go.Proofs.Ytpjjcihhmhccfaa
open Go.ChangeShapes Go.WideShapes Go.ChangeAt Go.RowKit Go.Deep
set_option linter.unusedVariables false

theorem own : ownKnob Try.prog.godebug = none := by kernel_rfl
theorem laidOut : laidOutB Try.prog = true := by kernel_rfl
theorem u32b {a : Int} (h : (Lit.int .u32 a).wf = true) : 0 ≤ a ∧ a ≤ 4294967295 := by
  have := bounds_u32 h; omega
theorem cells28 : Try.prog.cellsOf 28 = 1 := by kernel_rfl
theorem cells39 : Try.prog.cellsOf 39 = 35 := by kernel_rfl
theorem at1 {cs : List Value} {o : Nat} {v : Value} (h : (cs.drop o).take 1 = [v]) : cs[o]? = some v := by
  have := congrArg (·[0]?) h
  simpa [List.getElem?_take, List.getElem?_drop] using this

/-- An act that came in. -/
structure ActV where
  kind : Int
  a : List Int
  b : List Int
  mtu : Int
  later : Int
deriving Inhabited
def ActV.cells (x : ActV) : List Value := [.int .u8 x.kind] ++ x.a.map (Value.int .u8) ++ x.b.map (Value.int .u8) ++ [.int .u32 x.mtu, .int .u32 x.later]
structure IsAct (x : ActV) : Prop where
  addr : IsAddr x.a
  next : IsAddr x.b
  kind : 0 ≤ x.kind ∧ x.kind ≤ 255
  mtu : 0 ≤ x.mtu ∧ x.mtu ≤ 4294967295
  later : 0 ≤ x.later ∧ x.later ≤ 4294967295
section
variable {x : ActV}
theorem IsAct.len (h : IsAct x) : x.cells.length = 35 := by simp [ActV.cells, h.addr.len, h.next.len]
theorem IsAct.c0 (h : IsAct x) : x.cells[0]? = some (.int .u8 x.kind) := rfl
theorem IsAct.ca (h : IsAct x) {j : Nat} {v : Int} (hv : x.a[j]? = some v) : x.cells[1 + j]? = some (.int .u8 v) := by
  have hj := (List.getElem?_eq_some_iff.1 hv).1
  rw [ActV.cells, List.append_assoc, List.append_assoc, Nat.add_comm, List.cons_append, List.getElem?_cons_succ, List.nil_append, List.getElem?_append_left (by simpa using hj), List.getElem?_map, hv]; rfl
theorem IsAct.cb (h : IsAct x) {j : Nat} {v : Int} (hv : x.b[j]? = some v) : x.cells[17 + j]? = some (.int .u8 v) := by
  have hj := (List.getElem?_eq_some_iff.1 hv).1
  rw [ActV.cells, List.append_assoc, List.getElem?_append_right (by simp [h.addr.len]), List.getElem?_append_left (by simp [h.addr.len]; omega)]
  simp [h.addr.len, hv]
theorem IsAct.past (h : IsAct x) (j : Nat) : x.cells[33 + j]? = [Value.int .u32 x.mtu, .int .u32 x.later][j]? := by
  rw [ActV.cells, List.getElem?_append_right (by simp [h.addr.len, h.next.len])]
  simp [h.addr.len, h.next.len]
end
section
variable {H : Type} {enc : TypeId × Value → H} {W : World}
theorem addr_in {m : Nat} {cs : List Value} {y : DataW H × List MemPlace} (h : DataW.trod enc Try.prog W 0 (fun _ => true) true m 24 cs = some y) : ∃ l : List Int, cs = l.map (Value.int .u8) ∧ IsAddr l := by
  obtain ⟨l, rfl, hl, hw⟩ := array_ints Try.underlying24 Try.underlying5 cells5 cells24 h
  exact ⟨l, rfl, hl, fun x hx => by have := bounds_u8 (hw x hx); omega⟩
theorem act_in {m : Nat} {cs : List Value} {y : DataW H × List MemPlace} (h : DataW.trod enc Try.prog W 0 (fun _ => true) true m 39 cs = some y) (hw : Fit Try.prog 39 y.1) :
    ∃ a : ActV, cs = a.cells ∧ IsAct a := by
  obtain ⟨hl, hfs⟩ := struct_any Try.underlying39 h hw
  rw [cells39] at hl
  obtain ⟨m0, y0, h0, _⟩ := hfs 0 _ rfl
  obtain ⟨m1, y1, h1, _⟩ := hfs 1 _ rfl
  obtain ⟨m2, y2, h2, _⟩ := hfs 2 _ rfl
  obtain ⟨m3, y3, h3, _⟩ := hfs 3 _ rfl
  obtain ⟨m4, y4, h4, _⟩ := hfs 4 _ rfl
  replace h0 : DataW.trod enc Try.prog W 0 (fun _ => true) true m0 5 (List.take (Try.prog.cellsOf 5) (List.drop 0 cs)) = some y0 := h0
  replace h1 : DataW.trod enc Try.prog W 0 (fun _ => true) true m1 24 (List.take (Try.prog.cellsOf 24) (List.drop 1 cs)) = some y1 := h1
  replace h2 : DataW.trod enc Try.prog W 0 (fun _ => true) true m2 24 (List.take (Try.prog.cellsOf 24) (List.drop 17 cs)) = some y2 := h2
  replace h3 : DataW.trod enc Try.prog W 0 (fun _ => true) true m3 28 (List.take (Try.prog.cellsOf 28) (List.drop 33 cs)) = some y3 := h3
  replace h4 : DataW.trod enc Try.prog W 0 (fun _ => true) true m4 28 (List.take (Try.prog.cellsOf 28) (List.drop 34 cs)) = some y4 := h4
  rw [cells5] at h0
  rw [cells24] at h1 h2
  rw [cells28] at h3 h4
  obtain ⟨k, e0, _, w0⟩ := DataW.trod_int Try.underlying5 h0
  obtain ⟨a, e1, ha⟩ := addr_in h1
  obtain ⟨b, e2, hb⟩ := addr_in h2
  obtain ⟨mtu, e3, _, w3⟩ := DataW.trod_int Try.underlying28 h3
  obtain ⟨later, e4, _, w4⟩ := DataW.trod_int Try.underlying28 h4
  have b0 := at1 e0
  have b3 := at1 e3
  have b4 := at1 e4
  have hA : IsAct ⟨k, a, b, mtu, later⟩ := ⟨ha, hb, by have := bounds_u8 w0; constructor <;> simp only <;> omega, u32b w3, u32b w4⟩
  refine ⟨_, ?_, hA⟩
  apply List.ext_getElem?
  intro i
  rcases Nat.lt_or_ge i 1 with h | h
  · obtain rfl : i = 0 := by omega
    rw [hA.c0]; exact b0
  · rcases Nat.lt_or_ge i 17 with h' | h'
    · obtain ⟨j, rfl⟩ : ∃ j, i = 1 + j := ⟨i - 1, by omega⟩
      have hj : j < a.length := by rw [ha.len]; omega
      rw [hA.ca (List.getElem?_eq_getElem hj)]
      have h2 := congrArg (·[j]?) e1
      simp only [List.getElem?_map, List.getElem?_eq_getElem hj, Option.map_some] at h2
      rw [← h2, List.getElem?_take_of_lt (by omega), List.getElem?_drop]
    · rcases Nat.lt_or_ge i 33 with h'' | h''
      · obtain ⟨j, rfl⟩ : ∃ j, i = 17 + j := ⟨i - 17, by omega⟩
        have hj : j < b.length := by rw [hb.len]; omega
        rw [hA.cb (List.getElem?_eq_getElem hj)]
        have h2 := congrArg (·[j]?) e2
        simp only [List.getElem?_map, List.getElem?_eq_getElem hj, Option.map_some] at h2
        rw [← h2, List.getElem?_take_of_lt (by omega), List.getElem?_drop]
      · obtain ⟨j, rfl⟩ : ∃ j, i = 33 + j := ⟨i - 33, by omega⟩
        rw [hA.past]
        match j with
        | 0 => exact b3
        | 1 => exact b4
        | j + 2 => rw [List.getElem?_eq_none (by omega), List.getElem?_eq_none (by simp)]

theorem open_act {r : Reach} {b0 : Nat} {v : Value} {d : DataW H} {p : List MemPlace} (hv : Value.okWide Try.prog W r b0 39 v) (h : DataW.Trod enc Try.prog W 0 (fun _ => true) true 39 v d p) (hw : Fit Try.prog 39 d) :
    ∃ a : ActV, v = .agg a.cells.toArray ∧ IsAct a := by
  simp only [Value.okWide, Try.underlying39] at hv
  obtain ⟨cs, rfl, hs, hrow⟩ := hv
  obtain ⟨fuel, hf⟩ := h
  obtain ⟨a, ha, hA⟩ := act_in hf hw
  refine ⟨a, ?_, hA⟩
  congr 1
  have : cs.toList = a.cells := ha
  rw [← this]
theorem open_addr {r : Reach} {b0 : Nat} {v : Value} {d : DataW H} {p : List MemPlace} (hv : Value.okWide Try.prog W r b0 24 v) (h : DataW.Trod enc Try.prog W 0 (fun _ => true) true 24 v d p) :
    ∃ l, v = .agg (bytesV l) ∧ IsAddr l := by
  simp only [Value.okWide, Try.underlying24] at hv
  obtain ⟨cs, rfl, hs, hrow⟩ := hv
  obtain ⟨fuel, hf⟩ := h
  obtain ⟨l, hl, hA⟩ := addr_in hf
  refine ⟨l, ?_, hA⟩
  congr 1
  have : cs.toList = l.map (Value.int .u8) := hl
  rw [bytesV, ← this]
theorem open_addrF {r : Reach} {b0 : Nat} {v : Value} {d : DataW H} {p : List MemPlace} (hv : Value.okWide Try.prog W r b0 24 v) (h : DataW.Trod enc Try.prog W 0 (fun _ => true) true 24 v d p) (hw : Fit Try.prog 24 d) :
    ∃ l, v = .agg (bytesV l) ∧ IsAddr l := open_addr hv h

/-- The acts that came in. -/
structure IsActs (W : World) (B : Nat) (A : Option Addr) (n c : Nat) (z : Nat → ActV) : Prop where
  cap : n ≤ c
  cmax : c ≤ maxLen
  at_ : 0 < n → ∃ b off, A = some ⟨b, off, none⟩ ∧ b < B ∧ ∀ i, i < n → W.rangeAt b (off + i * 35) (z i).cells
  each : ∀ i, i < n → IsAct (z i)
theorem open_acts {r : Reach} {b0 : Nat} {v : Value} {d : DataW H} {p : List MemPlace} (hv : Value.okWide Try.prog W r b0 37 v) (h : DataW.Trod enc Try.prog W 0 (fun _ => true) true 37 v d p) (hw : Fit Try.prog 37 d) :
    ∃ A n c z, v = .slice A n c ∧ IsActs W W.heap.size A n c z := by
  obtain ⟨A, n, c, rfl⟩ := okWide_slice Try.underlying37 hv
  obtain ⟨fuel, hf⟩ := h
  obtain ⟨A', n', c', vs, ev, hr, _, he⟩ := slice_rd Try.underlying37 cells39 (by omega) hf hw
  simp only [Value.cells, List.cons.injEq, and_true, Value.slice.injEq] at ev
  obtain ⟨rfl, rfl, rfl⟩ := ev
  have each : ∀ i, i < n → ∃ a : ActV, (vs.drop (i * 35)).take 35 = a.cells ∧ IsAct a := fun i hi => by
    obtain ⟨m', y', h1, f1⟩ := he i hi
    exact act_in h1 f1
  obtain ⟨K, hK⟩ := choose_lt (α := ActV) (p := fun i a => (vs.drop (i * 35)).take 35 = a.cells ∧ IsAct a) each
  refine ⟨A, n, c, K, rfl, ⟨hr.cap, hr.cmax, fun hn => ?_, fun i hi => (hK i hi).2⟩⟩
  obtain ⟨b, off, e, hb', hc⟩ := hr.at_ hn
  refine ⟨b, off, e, hb', fun i hi j v hv => ?_⟩
  have hj : j < 35 := by have := (List.getElem?_eq_some_iff.1 hv).1; rwa [(hK i hi).2.len] at this
  rw [Nat.add_assoc]
  refine hc _ v ?_
  rw [← (hK i hi).1, List.getElem?_take_of_lt hj, List.getElem?_drop] at hv
  exact hv
end
abbrev actV (x : ActV) : Array Value := x.cells.toArray
theorem info39 : (Try.prog.info? 39).map (·.size) = some 35 := by kernel_rfl
theorem size_act {x : ActV} (h : IsAct x) : (Try.prog.info? 39).map (·.size) = some (actV x).size := by rw [List.size_toArray, h.len]; exact info39
theorem ones_act (x : ActV) : (actV x).all (·.oneCell') = true := all_oneCell_toArray (fun v hv => by
  simp only [ActV.cells, List.mem_append, List.mem_map, List.mem_cons, List.not_mem_nil, or_false] at hv
  rcases hv with ((rfl | ⟨y, _, rfl⟩) | ⟨y, _, rfl⟩) | rfl | rfl <;> rfl)
theorem ldAct {W : World} {b o : Nat} {x : ActV} (hx : IsAct x) (h : W.rangeAt b o x.cells) : (loadVar 39 ⟨b, o, none⟩).run Try.prog W = .ok (.agg (actV x)) W :=
  run_loadVar_mid (P := Try.prog) W b o 39 x.cells _ h Try.underlying39 rfl (by rw [hx.len]; exact info39)
section
variable {W : World} {b : Nat} {t : TypeId} {x : ActV}
theorem act_kind (hx : IsAct x) (h : Blk W b t (actV x)) : W.cell? ⟨b, 0, none⟩ = some (.int .u8 x.kind) := h.at_ (by rw [List.getElem?_toArray]; exact hx.c0)
theorem act_mtu (hx : IsAct x) (h : Blk W b t (actV x)) : W.cell? ⟨b, 33, none⟩ = some (.int .u32 x.mtu) := h.at_ (by rw [List.getElem?_toArray]; exact hx.past 0)
theorem act_later (hx : IsAct x) (h : Blk W b t (actV x)) : W.cell? ⟨b, 34, none⟩ = some (.int .u32 x.later) := h.at_ (by rw [List.getElem?_toArray]; exact hx.past 1)
theorem act_a (hx : IsAct x) (h : Blk W b t (actV x)) : (loadVar 24 ⟨b, 1, none⟩).run Try.prog W = .ok (.agg (bytesV x.a)) W :=
  h.part (fun j y hy => by rw [List.getElem?_toArray]; exact hx.ca hy) Try.underlying24 rfl (by rw [hx.addr.len]; exact info24)
theorem act_b (hx : IsAct x) (h : Blk W b t (actV x)) : (loadVar 24 ⟨b, 17, none⟩).run Try.prog W = .ok (.agg (bytesV x.b)) W :=
  h.part (fun j y hy => by rw [List.getElem?_toArray]; exact hx.cb hy) Try.underlying24 rfl (by rw [hx.next.len]; exact info24)
end
end Go.Proofs.Ytpjjcihhmhccfaa
