/- What came in at this seat's laws, opened: an act, a list of acts; great; a list of routers that were learnt. No condition. -/
import Derived.Test.YtnchjbgfmkmbaaaLives
namespace Go.Proofs.Ytnchjbgfmkmbaaa
open Go.ChangeShapes Go.WideShapes Go.ChangeAt Go.RowKit Go.Deep
set_option linter.unusedVariables false

theorem own : ownKnob Try.prog.godebug = none := by kernel_rfl
theorem laidOut : laidOutB Try.prog = true := by kernel_rfl
theorem u32b {a : Int} (h : (Lit.int .u32 a).wf = true) : 0 ≤ a ∧ a ≤ 4294967295 := by
  have := bounds_u32 h; omega
theorem cells23 : Try.prog.cellsOf 23 = 16 := by kernel_rfl
theorem cells5 : Try.prog.cellsOf 5 = 1 := by kernel_rfl
theorem cells24 : Try.prog.cellsOf 24 = 1 := by kernel_rfl
theorem cells25 : Try.prog.cellsOf 25 = 1 := by kernel_rfl
theorem cells26 : Try.prog.cellsOf 26 = 1 := by kernel_rfl
theorem cells28 : Try.prog.cellsOf 28 = 21 := by kernel_rfl
theorem at1 {cs : List Value} {o : Nat} {v : Value} (h : (cs.drop o).take 1 = [v]) : cs[o]? = some v := by
  have := congrArg (·[0]?) h
  simpa [List.getElem?_take, List.getElem?_drop] using this

/-- An act that came in. -/
structure ActV where
  kind : Int
  a : List Int
  life : Int
  flags : Int
  later : Int
  gA : Option Addr
  gn : Nat
  gc : Nat
deriving Inhabited
def ActV.cells (x : ActV) : List Value := [.int .u8 x.kind] ++ x.a.map (Value.int .u8) ++ [.int .u16 x.life, .int .u8 x.flags, .int .u32 x.later, .slice x.gA x.gn x.gc]
structure IsAct (x : ActV) : Prop where
  addr : IsAddr x.a
  kind : 0 ≤ x.kind ∧ x.kind ≤ 255
  life : 0 ≤ x.life ∧ x.life ≤ 65535
  flags : 0 ≤ x.flags ∧ x.flags ≤ 255
  later : 0 ≤ x.later ∧ x.later ≤ 4294967295
  gc : x.gn ≤ maxLen
section
variable {x : ActV}
theorem IsAct.len (h : IsAct x) : x.cells.length = 21 := by simp [ActV.cells, h.addr.len]
theorem IsAct.c0 (h : IsAct x) : x.cells[0]? = some (.int .u8 x.kind) := rfl
theorem IsAct.ca (h : IsAct x) {j : Nat} {v : Int} (hv : x.a[j]? = some v) : x.cells[1 + j]? = some (.int .u8 v) := by
  have hj := (List.getElem?_eq_some_iff.1 hv).1
  rw [ActV.cells, List.append_assoc, Nat.add_comm, List.cons_append, List.getElem?_cons_succ, List.nil_append, List.getElem?_append_left (by simpa using hj), List.getElem?_map, hv]; rfl
theorem IsAct.past (h : IsAct x) (j : Nat) : x.cells[17 + j]? = [Value.int .u16 x.life, .int .u8 x.flags, .int .u32 x.later, .slice x.gA x.gn x.gc][j]? := by
  rw [ActV.cells, List.getElem?_append_right (by simp [h.addr.len])]
  simp [h.addr.len]
end
section
variable {H : Type} {enc : TypeId × Value → H} {W : World}
theorem addr_in {m : Nat} {cs : List Value} {y : DataW H × List MemPlace} (h : DataW.trod enc Try.prog W 0 (fun _ => true) true m 23 cs = some y) : ∃ l : List Int, cs = l.map (Value.int .u8) ∧ IsAddr l := by
  obtain ⟨l, rfl, hl, hw⟩ := array_ints Try.underlying23 Try.underlying5 cells5 cells23 h
  exact ⟨l, rfl, hl, fun x hx => by have := bounds_u8 (hw x hx); omega⟩
theorem act_in {m : Nat} {cs : List Value} {y : DataW H × List MemPlace} (h : DataW.trod enc Try.prog W 0 (fun _ => true) true m 28 cs = some y) (hw : Fit Try.prog 28 y.1) :
    ∃ a : ActV, cs = a.cells ∧ IsAct a := by
  obtain ⟨hl, hfs⟩ := struct_any Try.underlying28 h hw
  rw [cells28] at hl
  obtain ⟨m0, y0, h0, _⟩ := hfs 0 _ rfl
  obtain ⟨m1, y1, h1, _⟩ := hfs 1 _ rfl
  obtain ⟨m2, y2, h2, _⟩ := hfs 2 _ rfl
  obtain ⟨m3, y3, h3, _⟩ := hfs 3 _ rfl
  obtain ⟨m4, y4, h4, _⟩ := hfs 4 _ rfl
  obtain ⟨m5, y5, h5, f5⟩ := hfs 5 _ rfl
  replace h0 : DataW.trod enc Try.prog W 0 (fun _ => true) true m0 5 (List.take (Try.prog.cellsOf 5) (List.drop 0 cs)) = some y0 := h0
  replace h1 : DataW.trod enc Try.prog W 0 (fun _ => true) true m1 23 (List.take (Try.prog.cellsOf 23) (List.drop 1 cs)) = some y1 := h1
  replace h2 : DataW.trod enc Try.prog W 0 (fun _ => true) true m2 24 (List.take (Try.prog.cellsOf 24) (List.drop 17 cs)) = some y2 := h2
  replace h3 : DataW.trod enc Try.prog W 0 (fun _ => true) true m3 5 (List.take (Try.prog.cellsOf 5) (List.drop 18 cs)) = some y3 := h3
  replace h4 : DataW.trod enc Try.prog W 0 (fun _ => true) true m4 25 (List.take (Try.prog.cellsOf 25) (List.drop 19 cs)) = some y4 := h4
  replace h5 : DataW.trod enc Try.prog W 0 (fun _ => true) true m5 26 (List.take (Try.prog.cellsOf 26) (List.drop 20 cs)) = some y5 := h5
  rw [cells5] at h0 h3
  rw [cells23] at h1
  rw [cells24] at h2
  rw [cells25] at h4
  rw [cells26] at h5
  obtain ⟨k, e0, _, w0⟩ := DataW.trod_int Try.underlying5 h0
  obtain ⟨a, e1, ha⟩ := addr_in h1
  obtain ⟨life, e2, _, w2⟩ := DataW.trod_int Try.underlying24 h2
  obtain ⟨flags, e3, _, w3⟩ := DataW.trod_int Try.underlying5 h3
  obtain ⟨later, e4, _, w4⟩ := DataW.trod_int Try.underlying25 h4
  obtain ⟨A, n, c, vs, e5, hr, _, _⟩ := slice_rd Try.underlying26 cells23 (by omega) h5 f5
  have b0 := at1 e0
  have b2 := at1 e2
  have b3 := at1 e3
  have b4 := at1 e4
  have b5 := at1 e5
  have hA : IsAct ⟨k, a, life, flags, later, A, n, c⟩ := ⟨ha, by have := bounds_u8 w0; constructor <;> simp only <;> omega, by have := bounds_u16 w2; constructor <;> simp only <;> omega, by have := bounds_u8 w3; constructor <;> simp only <;> omega, u32b w4, Nat.le_trans hr.cap hr.cmax⟩
  refine ⟨_, ?_, hA⟩
  apply List.ext_getElem?
  intro i
  rcases Nat.lt_or_ge i 1 with h | h
  · obtain rfl : i = 0 := by omega
    rw [hA.c0]; exact b0
  · rcases Nat.lt_or_ge i 17 with h' | h'
    · obtain ⟨j, rfl⟩ : ∃ j, i = 1 + j := ⟨i - 1, by omega⟩
      have hj : j < a.length := by rw [ha.len]; omega
      rw [hA.ca (List.getElem?_eq_getElem hj)]
      have h2 := congrArg (·[j]?) e1
      simp only [List.getElem?_map, List.getElem?_eq_getElem hj, Option.map_some] at h2
      rw [← h2, List.getElem?_take_of_lt (by omega), List.getElem?_drop]
    · obtain ⟨j, rfl⟩ : ∃ j, i = 17 + j := ⟨i - 17, by omega⟩
      rw [hA.past]
      match j with
      | 0 => exact b2
      | 1 => exact b3
      | 2 => exact b4
      | 3 => exact b5
      | j + 4 => rw [List.getElem?_eq_none (by omega), List.getElem?_eq_none (by simp)]

theorem open_act {r : Reach} {b0 : Nat} {v : Value} {d : DataW H} {p : List MemPlace} (hv : Value.okWide Try.prog W r b0 28 v) (h : DataW.Trod enc Try.prog W 0 (fun _ => true) true 28 v d p) (hw : Fit Try.prog 28 d) :
    ∃ a : ActV, v = .agg a.cells.toArray ∧ IsAct a := by
  simp only [Value.okWide, Try.underlying28] at hv
  obtain ⟨cs, rfl, hs, hrow⟩ := hv
  obtain ⟨fuel, hf⟩ := h
  obtain ⟨a, ha, hA⟩ := act_in hf hw
  refine ⟨a, ?_, hA⟩
  congr 1
  have : cs.toList = a.cells := ha
  rw [← this]
theorem open_addr {r : Reach} {b0 : Nat} {v : Value} {d : DataW H} {p : List MemPlace} (hv : Value.okWide Try.prog W r b0 23 v) (h : DataW.Trod enc Try.prog W 0 (fun _ => true) true 23 v d p) :
    ∃ l, v = .agg (bytesV l) ∧ IsAddr l := by
  simp only [Value.okWide, Try.underlying23] at hv
  obtain ⟨cs, rfl, hs, hrow⟩ := hv
  obtain ⟨fuel, hf⟩ := h
  obtain ⟨l, hl, hA⟩ := addr_in hf
  refine ⟨l, ?_, hA⟩
  congr 1
  have : cs.toList = l.map (Value.int .u8) := hl
  rw [bytesV, ← this]

/-- The acts that came in. -/
structure IsActs (W : World) (B : Nat) (A : Option Addr) (n c : Nat) (z : Nat → ActV) : Prop where
  cap : n ≤ c
  cmax : c ≤ maxLen
  at_ : 0 < n → ∃ b off, A = some ⟨b, off, none⟩ ∧ b < B ∧ ∀ i, i < n → W.rangeAt b (off + i * 21) (z i).cells
  each : ∀ i, i < n → IsAct (z i)
theorem IsActs.to {w W : World} {B : Nat} {A : Option Addr} {n c : Nat} {z : Nat → ActV} (h : IsActs w B A n c z) (hb : Below B w W) : IsActs W B A n c z :=
  ⟨h.cap, h.cmax, fun hn => by
    obtain ⟨b, off, e, h1, h2⟩ := h.at_ hn
    exact ⟨b, off, e, h1, fun i hi j v hv => (World.cell?_of_block (w := w) (hb.block b h1)).trans (h2 i hi j v hv)⟩, h.each⟩
theorem open_acts {r : Reach} {b0 : Nat} {v : Value} {d : DataW H} {p : List MemPlace} (hv : Value.okWide Try.prog W r b0 44 v) (h : DataW.Trod enc Try.prog W 0 (fun _ => true) true 44 v d p) (hw : Fit Try.prog 44 d) :
    ∃ A n c z, v = .slice A n c ∧ IsActs W W.heap.size A n c z := by
  obtain ⟨A, n, c, rfl⟩ := okWide_slice Try.underlying44 hv
  obtain ⟨fuel, hf⟩ := h
  obtain ⟨A', n', c', vs, ev, hr, _, he⟩ := slice_rd Try.underlying44 cells28 (by omega) hf hw
  simp only [Value.cells, List.cons.injEq, and_true, Value.slice.injEq] at ev
  obtain ⟨rfl, rfl, rfl⟩ := ev
  have each : ∀ i, i < n → ∃ a : ActV, (vs.drop (i * 21)).take 21 = a.cells ∧ IsAct a := fun i hi => by
    obtain ⟨m', y', h1, f1⟩ := he i hi
    exact act_in h1 f1
  obtain ⟨K, hK⟩ := choose_lt (α := ActV) (p := fun i a => (vs.drop (i * 21)).take 21 = a.cells ∧ IsAct a) each
  refine ⟨A, n, c, K, rfl, ⟨hr.cap, hr.cmax, fun hn => ?_, fun i hi => (hK i hi).2⟩⟩
  obtain ⟨b, off, e, hb', hc⟩ := hr.at_ hn
  refine ⟨b, off, e, hb', fun i hi j v hv => ?_⟩
  have hj : j < 21 := by have := (List.getElem?_eq_some_iff.1 hv).1; rwa [(hK i hi).2.len] at this
  rw [Nat.add_assoc]
  refine hc _ v ?_
  rw [← (hK i hi).1, List.getElem?_take_of_lt hj, List.getElem?_drop] at hv
  exact hv
end
/-- What great says. -/
def GreatSays (z : Nat → ActV) (n : Nat) (w : World) (e : Ending) (w' : World) : Prop := ∃ g : Bool, e = .returned (.bool g) ∧ (g = false → n ≤ 150) ∧ w = w'
set_option maxRecDepth 100000 in
theorem great_any (w : World) (A : Option Addr) (n c : Nat) (z : Nat → ActV) (h : IsActs w w.heap.size A n c z) :
    Calls Try.prog 14 #[.slice A n c] w (GreatSays z n w) := by
  have hcm := h.cmax
  have hcn := h.cap
  unfold maxLen at hcm
  by_cases hbig : 150 < n
  · clear h
    go_enter Try.func14, Try.ntmps14
    go_wp2
    go_ret
    exact ⟨true, rfl, (fun e => by cases e), rfl⟩
  · have hd : ¬ (150 : Int) < (n : Int) := by omega
    have h' := hidd h
    clear h
    go_enter Try.func14, Try.ntmps14
    go_wp2
    go_loop [3] (fun i => ∃ k : Nat, k ≤ n ∧ i = .int .i64 k) (fun i => n - (intOf i).toNat)
    case atStart => exact ⟨0, Nat.zero_le _, rfl⟩
    case round =>
      obtain ⟨k, hk, rfl⟩ := hrel
      by_cases hlt : k < n
      · obtain ⟨b, off, rfl, hb, hc⟩ := h'.out.at_ (by omega)
        have c1 : w.cell? ⟨b, off + k * 21 + 20, none⟩ = some (.slice (z k).gA (z k).gn (z k).gc) := hc k hlt 20 _ (by rw [show (20 : Nat) = 17 + 3 from rfl, (h'.out.each k hlt).past]; rfl)
        have s2 := (h'.out.each k hlt).gc
        unfold maxLen at s2
        obtain ⟨a, ha⟩ : ∃ a, a = z k := ⟨_, rfl⟩
        rw [← ha] at c1 s2
        have ha' := hidd ha
        clear ha hc
        by_cases h1 : 20 < a.gn
        · go_wp2
          go_ret
          exact ⟨true, rfl, (fun e => by cases e), rfl⟩
        · have e1 : decide ((20 : Int) < (a.gn : Int)) = false := by simp; omega
          go_wp2
          go_round
          case rel => exact ⟨k + 1, by omega, by go_num⟩
          case measure => simp [intOf]; omega
      · obtain rfl : k = n := by omega
        go_wp2
        go_ret
        exact ⟨false, rfl, fun _ => by omega, rfl⟩
/-- What an act learns. -/
def told (now : Int) (x : ActV) : E × Int := ((x.a, rk x.flags, cadd now (csecs x.life)), x.life)
end Go.Proofs.Ytnchjbgfmkmbaaa
