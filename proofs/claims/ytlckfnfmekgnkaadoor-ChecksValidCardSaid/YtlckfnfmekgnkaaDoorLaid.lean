/- What the rows' list gives: the table of known addresses; what came in, opened: an address. No condition. -/
import Derived.Test.YtlckfnfmekgnkaaDoorLives2
import Derived.Test.YtlckfnfmekgnkaaDoorOpen
import Derived.Test.YtlckfnfmekgnkaaDoorCards
import Derived.Test.YtlckfnfmekgnkaaDoorTie
import Derived.Deep.DeepHandedRow
import Derived.Lib.LaidTab
namespace Go.Proofs.YtlckfnfmekgnkaaDoor
open Go.ChangeShapes Go.WideShapes Go.ChangeAt Go.RowKit Go.Deep
set_option linter.unusedVariables false

theorem own : ownKnob Tryd.prog.godebug = none := by kernel_rfl
theorem laidOut : laidOutB Tryd.prog = true := by kernel_rfl
theorem gTab : Tryd.prog.globalNamed "sojourner/addrs.known" = some 0 := by kernel_rfl
theorem gTabType : (Tryd.prog.globals[0]?).map (·.type) = some 68 := by kernel_rfl
theorem cells68 : Tryd.prog.cellsOf 68 = 112 := by kernel_rfl
theorem cells23 : Tryd.prog.cellsOf 23 = 16 := by kernel_rfl
theorem cells22 : Tryd.prog.cellsOf 22 = 16 := by kernel_rfl
theorem cells5 : Tryd.prog.cellsOf 5 = 1 := by kernel_rfl
theorem laidRow : Rows.checksDadRow.laid = [("sojourner/addrs.known", Rows.laid_sojourner_addrs_known)] := rfl

def sixteen (i : Nat) : List Int := (knownL.drop (i * 16)).take 16
theorem datum_is : (Rows.laid_sojourner_addrs_known (H := Unit)) = .agg ((List.range 7).map fun i => Lib.tabData .u8 (sixteen i)) := rfl

theorem gl_of {W : World} (h : laidMetH Tryd.prog [("sojourner/addrs.known", Rows.laid_sojourner_addrs_known)] W) : Gl W := by
  have h1 : laidMet Tryd.prog [("sojourner/addrs.known", Rows.laid_sojourner_addrs_known)] W := h
  obtain ⟨ps, ⟨g', t', cs, fuel, p, q, hg', ht', hvar, hd, _, _⟩, _⟩ := h1
  obtain rfl := Option.some.inj (gTab.symm.trans hg')
  obtain rfl := Option.some.inj (gTabType.symm.trans ht')
  rw [datum_is] at hd
  obtain ⟨xs, m, _, hx, hl, hn, he⟩ := DataW.trod_array Tryd.underlying68 hd
  rw [cells68] at hl
  have hxs : xs.map (·.1) = (List.range 7).map fun i => Lib.tabData .u8 (sixteen i) := by
    have := congrArg Prod.fst hx
    simpa using this.symm
  have part : ∀ i, i < 7 → (cs.toList.drop (i * 16)).take 16 = (sixteen i).map (Value.int .u8) := by
    intro i hi
    have h2 := he i hi
    rw [cells23] at h2
    have h3 : (xs.map (·.1))[i]? = some (Lib.tabData .u8 (sixteen i)) := by rw [hxs]; simp [hi]
    rw [List.getElem?_map] at h3
    cases hy : xs[i]? with
    | none => rw [hy] at h3; cases h3
    | some y =>
      rw [hy] at h3 h2
      obtain ⟨d, q⟩ := y
      simp at h3
      subst h3
      exact Lib.cells_of_tab Tryd.underlying23 Tryd.underlying5 cells5 cells23 h2
  have cell : ∀ j y, knownL[j]? = some y → W.cell? ⟨0, j, none⟩ = some (.int .u8 y) := by
    intro j y hy
    have hj : j < 112 := (List.getElem?_eq_some_iff.1 hy).1
    have h2 := World.var?_cell gTab hvar j
    rw [h2]
    have h3 := part (j / 16) (by omega)
    have h4 := congrArg (·[j % 16]?) h3
    simp only [List.getElem?_take_of_lt (Nat.mod_lt j (by omega : 0 < 16)), List.getElem?_drop, List.getElem?_map, sixteen] at h4
    rw [show j / 16 * 16 + j % 16 = j by omega, hy] at h4
    simpa using h4
  refine ⟨?_, cell⟩
  exact World.block_lt_of_cell? W _ (cell 0 0 rfl)

theorem open_addr {H : Type} {enc : TypeId × Value → H} {W : World} {r : Reach} {b0 : Nat} {v : Value} {d : DataW H} {p : List MemPlace} (hv : Value.okWide Tryd.prog W r b0 23 v) (h : DataW.Trod enc Tryd.prog W 0 (fun _ => true) true 23 v d p) (hw : Fit Tryd.prog 23 d) :
    ∃ l, v = .agg (bytesV l) ∧ IsAddr l := by
  simp only [Value.okWide, Tryd.underlying23] at hv
  obtain ⟨cs, rfl, hs, _⟩ := hv
  obtain ⟨fuel, hf⟩ := h
  obtain ⟨l, hl, hn, hwf⟩ := array_ints Tryd.underlying23 Tryd.underlying5 cells5 cells23 hf
  refine ⟨l, ?_, hn, fun x hx => by have := bounds_u8 (hwf x hx); omega⟩
  simp only [Value.cells] at hl
  congr 1
  exact Array.toList_inj.1 (by rw [hl]; rfl)

/-- A world for the witness: the settled one, the table (block 0) holding what its initialiser lays. -/
noncomputable def laidWorld (os : Os) : World :=
  { World.holding Tryd.prog os ⟨#[], #[], []⟩ with heap := (World.holding Tryd.prog os ⟨#[], #[], []⟩).heap.modify 0 fun
      | .cells _ t frozen => .cells (knownL.map (Value.int .u8)).toArray t frozen
      | o => o }
end Go.Proofs.YtlckfnfmekgnkaaDoor
