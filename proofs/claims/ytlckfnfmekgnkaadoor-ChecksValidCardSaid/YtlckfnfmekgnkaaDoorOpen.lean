/- What came in, opened to cells: a slice of whatever elements as a list of cells, an array of integers. Of no program; no condition. -/
import Derived.Test.YtlckfnfmekgnkaaDoorMem
import Derived.Deep.Slices
import Derived.Deep.Fields
import Derived.SizedLaws
namespace Go.Proofs.YtlckfnfmekgnkaaDoor
open Go.ChangeShapes Go.WideShapes Go.ChangeAt Go.RowKit Go.Deep
set_option linter.unusedVariables false

theorem flat_len {α : Type} (f : Nat → List α) (s : Nat) : ∀ n : Nat, (∀ i, i < n → (f i).length = s) → ((List.range n).flatMap f).length = n * s := by
  intro n
  induction n with
  | zero => intro _; simp
  | succ n ih =>
    intro h
    rw [List.range_succ, List.flatMap_append, List.length_append, ih (fun i hi => h i (by omega))]
    simp [h n (by omega), Nat.succ_mul]

theorem flat_drop {α : Type} (f : Nat → List α) (s : Nat) : ∀ n : Nat, (∀ i, i < n → (f i).length = s) → ∀ i, i < n → (((List.range n).flatMap f).drop (i * s)).take s = f i := by
  intro n
  induction n with
  | zero => intro _ i hi; omega
  | succ n ih =>
    intro h i hi
    rw [List.range_succ, List.flatMap_append]
    have hl := flat_len f s n (fun i hi => h i (by omega))
    by_cases hin : i < n
    · rw [List.drop_append_of_le_length (by rw [hl]; exact Nat.mul_le_mul_right _ (by omega)), List.take_append_of_le_length]
      · exact ih (fun j hj => h j (by omega)) i hin
      · rw [List.length_drop, hl]
        have : (i + 1) * s ≤ n * s := Nat.mul_le_mul_right _ (by omega)
        rw [Nat.succ_mul] at this
        omega
    · obtain rfl : i = n := by omega
      have hd : List.drop (i * s) ((List.range i).flatMap f) = [] := List.drop_eq_nil_of_le (by rw [hl]; exact Nat.le_refl _)
      rw [List.drop_append, hd, hl, Nat.sub_self, List.drop_zero, List.nil_append]
      simp [List.take_of_length_le (by rw [h i (by omega)]; exact Nat.le_refl _)]

theorem flat_get {α : Type} (f : Nat → List α) (s n : Nat) (hs : 0 < s) (h : ∀ i, i < n → (f i).length = s) (j : Nat) (hj : j < n * s) : ((List.range n).flatMap f)[j]? = (f (j / s))[j % s]? := by
  have hi : j / s < n := (Nat.div_lt_iff_lt_mul hs).2 hj
  have hd := flat_drop f s n h (j / s) hi
  rw [← hd, List.getElem?_take_of_lt (Nat.mod_lt _ hs), List.getElem?_drop]
  congr 1
  rw [Nat.mul_comm]
  exact (Nat.div_add_mod j s).symm

section
variable {H : Type} {enc : TypeId × Value → H} {P : Program} {w : World} {held : Bool}

/-- Each slice, string and map that is met in a datum takes no more bytes than the form's own reach. -/
def Fit (P : Program) (t : TypeId) (d : DataW H) : Prop := ∀ m ∈ d.weights P t, m ≤ reachBytes

theorem weightsAll_mem {e : TypeId} {l : List (DataW H)} {d : DataW H} (hd : d ∈ l) {m : Nat} (hm : m ∈ d.weights P e) : m ∈ DataW.weightsAll P e l := by
  induction l with
  | nil => cases hd
  | cons a l ih =>
    simp only [DataW.weightsAll, List.mem_append]
    rcases List.mem_cons.1 hd with rfl | h
    · exact .inl hm
    · exact .inr (ih h)

/-- A slice that came in: it reads as a list of cells, and each element's cells read at the element's type. -/
theorem slice_rd {t e : TypeId} {sz fuel : Nat} {cs : List Value} {x : DataW H × List MemPlace} (ht : P.underlying t = some (.slice e)) (hc : P.cellsOf e = sz) (hsz : 0 < sz)
    (h : DataW.trod enc P w 0 (fun _ => true) held fuel t cs = some x) (hw : Fit P t x.1) :
    ∃ (A : Option Addr) (n c : Nat) (xs : List Value), cs = [.slice A n c] ∧ Rd w w.heap.size sz A n c xs ∧ c * P.bytesOf e ≤ reachBytes ∧
      ∀ i, i < n → ∃ m y, DataW.trod enc P w 0 (fun _ => true) held m e ((xs.drop (i * sz)).take sz) = some y ∧ Fit P e y.1 := by
  rcases open_slice ht h with ⟨rfl, rfl⟩ | ⟨a, len, cap, m, n, D, Pl, rfl, hb, hl, hm, hmm, rfl, hx⟩
  · exact ⟨none, 0, 0, [], rfl, Rd.none_ _ _ _, by simp, fun i hi => absurd hi (by omega)⟩
  · simp only [if_true] at hmm
    have hmm' := hmm.symm
    subst hmm'
    rw [hc] at hx
    obtain ⟨CS, hCS⟩ := choose_lt (α := List Value) (p := fun i cs' => w.cells? 0 (a.add (i * sz)) sz = some cs' ∧ DataW.trod enc P w 0 (fun _ => true) held n e cs' = some (D i, Pl i)) hx
    have hlen : ∀ i, i < len → (CS i).length = sz := fun i hi => (World.cells?_some (hCS i (by omega)).1).2.1
    have hll := flat_len CS sz len hlen
    refine ⟨some a, len, cap, (List.range len).flatMap CS, rfl, ⟨hll, hl, hm, (fun e => by cases e), fun hn => ?_⟩, ?_, fun i hi => ⟨n, (D i, Pl i), ?_, fun q hq => hw q ?_⟩⟩
    · have h0 := (World.cells?_some (hCS 0 (by omega)).1).2.2 0 hsz
      rw [Nat.zero_mul] at h0
      have ha0 : (a.add 0).add 0 = a := by simp [Addr.add]
      rw [ha0] at h0
      have hcell : w.cell? a = some ((CS 0)[0]'(by rw [hlen 0 hn]; exact hsz)) := by rw [h0]; exact List.getElem?_eq_getElem _
      have hspot := World.cell?_spot hcell
      obtain ⟨b, off, spot⟩ := a
      dsimp only at hspot
      subst hspot
      refine ⟨b, off, rfl, World.block_lt_of_cell? w _ hcell, fun j u hu => ?_⟩
      have hj : j < len * sz := by
        rcases Nat.lt_or_ge j (len * sz) with hj | hj
        · exact hj
        · rw [List.getElem?_eq_none (by omega)] at hu; cases hu
      rw [flat_get CS sz len hsz hlen j hj] at hu
      have hi : j / sz < len := (Nat.div_lt_iff_lt_mul hsz).2 hj
      have hc1 := (World.cells?_some (hCS (j / sz) (by omega)).1).2.2 (j % sz) (Nat.mod_lt _ hsz)
      rw [hu] at hc1
      rw [← hc1]
      congr 1
      have hdm := Nat.div_add_mod j sz
      rw [Nat.mul_comm] at hdm
      simp only [Addr.add]
      by_cases h1 : j / sz * sz = 0 <;> by_cases h2 : j % sz = 0 <;> simp [h1, h2] <;> omega
    · have := hw ((((List.range len).map D).length + ((List.range (cap - len)).map fun j => D (len + j)).length) * P.bytesOf e) (by simp [DataW.weights, ht])
      simp only [List.length_map, List.length_range] at this
      rwa [show len + (cap - len) = cap by omega] at this
    · rw [flat_drop CS sz len hlen i hi]
      exact (hCS i (by omega)).2
    · simp only [DataW.weights, ht, List.mem_cons, List.mem_append]
      exact .inr (.inl (weightsAll_mem (List.mem_map.2 ⟨i, List.mem_range.2 hi, rfl⟩) hq))

/-- An array of integers that came in. -/
theorem array_ints {t e : TypeId} {k : IntKind} {n fuel : Nat} {cs : List Value} {x : DataW H × List MemPlace} (ht : P.underlying t = some (.array n e)) (he : P.underlying e = some (.int k)) (hc : P.cellsOf e = 1) (hct : P.cellsOf t = n)
    (h : DataW.trod enc P w 0 (fun _ => true) held fuel t cs = some x) :
    ∃ l : List Int, cs = l.map (Value.int k) ∧ l.length = n ∧ ∀ y ∈ l, (Lit.int k y).wf = true := by
  obtain ⟨xs, m, _, _, hl, hxl, hx⟩ := DataW.trod_array ht h
  rw [hct] at hl
  have each : ∀ i, i < n → ∃ y : Int, cs[i]? = some (.int k y) ∧ (Lit.int k y).wf = true := by
    intro i hi
    have h1 := hx i hi
    rw [hc, Nat.mul_one, List.drop_eq_getElem_cons (by omega), List.getElem?_eq_getElem (by omega)] at h1
    simp only [List.take_succ_cons, List.take_zero] at h1
    obtain ⟨y, e1, _, e3⟩ := DataW.trod_int he h1
    simp only [List.cons.injEq, and_true] at e1
    exact ⟨y, by rw [List.getElem?_eq_getElem (by omega), e1], e3⟩
  obtain ⟨f, hf⟩ := choose_lt (α := Int) each
  refine ⟨(List.range n).map f, ?_, by simp, fun y hy => ?_⟩
  · apply List.ext_getElem?
    intro i
    by_cases hi : i < n
    · rw [(hf i hi).1]
      simp [hi]
    · rw [List.getElem?_eq_none (by omega), List.getElem?_eq_none (by simp; omega)]
  · obtain ⟨i, hi, rfl⟩ := List.mem_map.1 hy
    exact (hf i (List.mem_range.1 hi)).2

/-- A slice of integers that came in. -/
theorem ints_rd {t e : TypeId} {k : IntKind} {fuel : Nat} {cs : List Value} {x : DataW H × List MemPlace} (ht : P.underlying t = some (.slice e)) (he : P.underlying e = some (.int k)) (hc : P.cellsOf e = 1)
    (h : DataW.trod enc P w 0 (fun _ => true) held fuel t cs = some x) (hw : Fit P t x.1) :
    ∃ (A : Option Addr) (n c : Nat) (xs : List Int), cs = [.slice A n c] ∧ Rd w w.heap.size 1 A n c (xs.map (Value.int k)) ∧ c * P.bytesOf e ≤ reachBytes ∧ ∀ y ∈ xs, (Lit.int k y).wf = true := by
  obtain ⟨A, n, c, vs, rfl, hrd, hby, hel⟩ := slice_rd ht hc (by omega) h hw
  have hl := hrd.len
  rw [Nat.mul_one] at hl
  have each : ∀ i, i < n → ∃ y : Int, vs[i]? = some (.int k y) ∧ (Lit.int k y).wf = true := by
    intro i hi
    obtain ⟨m, y, h1, _⟩ := hel i hi
    rw [Nat.mul_one, List.drop_eq_getElem_cons (by omega)] at h1
    simp only [List.take_succ_cons, List.take_zero] at h1
    obtain ⟨y, e1, _, e3⟩ := DataW.trod_int he h1
    simp only [List.cons.injEq, and_true] at e1
    exact ⟨y, by rw [List.getElem?_eq_getElem (by omega), e1], e3⟩
  obtain ⟨f, hf⟩ := choose_lt (α := Int) each
  have hvs : vs = ((List.range n).map f).map (Value.int k) := by
    apply List.ext_getElem?
    intro i
    by_cases hi : i < n
    · rw [(hf i hi).1]
      simp [hi]
    · rw [List.getElem?_eq_none (by omega), List.getElem?_eq_none (by simp; omega)]
  subst hvs
  exact ⟨A, n, c, _, rfl, hrd, hby, fun y hy => by
    obtain ⟨i, hi, rfl⟩ := List.mem_map.1 hy
    exact (hf i (List.mem_range.1 hi)).2⟩

/-- A struct of one-cell fields that came in: each field's cell, and that it reads at the field's type. -/
theorem struct_one {t : TypeId} {fs : Array Field} {fuel : Nat} {cs : List Value} {x : DataW H × List MemPlace} (ht : P.underlying t = some (.struct fs)) (hone : oneCellFields P fs = true) (hct : P.cellsOf t = fs.size)
    (h : DataW.trod enc P w 0 (fun _ => true) held fuel t cs = some x) (hw : Fit P t x.1) :
    cs.length = fs.size ∧ ∀ (i : Nat) (f : Field), fs[i]? = some f → ∃ m v y, cs[i]? = some v ∧ DataW.trod enc P w 0 (fun _ => true) held m f.type [v] = some y ∧ Fit P f.type y.1 := by
  obtain ⟨ys, m, _, hxe, hl, hyl, hx⟩ := DataW.trod_struct ht h
  rw [hct] at hl
  refine ⟨hl, fun i f hf => ?_⟩
  have hi : i < fs.size := (Array.getElem?_eq_some_iff.1 hf).1
  obtain ⟨ho, hk⟩ := hone_of hone i f hf
  have h1 := hx i f hf
  rw [ho, hk, List.drop_eq_getElem_cons (by omega), List.getElem?_eq_getElem (by omega)] at h1
  refine ⟨m, _, _, List.getElem?_eq_getElem (by omega), h1, fun q hq => hw q ?_⟩
  subst hxe
  simp only [DataW.weights, ht]
  exact DataW.weights_mem_each (j := i) (t := f.type) (d := (ys[i]'(by omega)).1) (by simp [List.getElem?_map, Array.getElem?_toList, hf]) (by simp [List.getElem?_map, List.getElem?_eq_getElem (show i < ys.length by omega)]) q hq

/-- A struct that came in, field by field: the cells from a field's place on, and that they read at the field's type. -/
theorem struct_any {t : TypeId} {fs : Array Field} {fuel : Nat} {cs : List Value} {x : DataW H × List MemPlace} (ht : P.underlying t = some (.struct fs))
    (h : DataW.trod enc P w 0 (fun _ => true) held fuel t cs = some x) (hw : Fit P t x.1) :
    cs.length = P.cellsOf t ∧ ∀ (i : Nat) (f : Field), fs[i]? = some f → ∃ m y, DataW.trod enc P w 0 (fun _ => true) held m f.type ((cs.drop f.offset).take (P.cellsOf f.type)) = some y ∧ Fit P f.type y.1 := by
  obtain ⟨ys, m, _, hxe, hl, hyl, hx⟩ := DataW.trod_struct ht h
  refine ⟨hl, fun i f hf => ?_⟩
  have hi : i < fs.size := (Array.getElem?_eq_some_iff.1 hf).1
  have h1 := hx i f hf
  rw [List.getElem?_eq_getElem (by omega)] at h1
  refine ⟨m, _, h1, fun q hq => hw q ?_⟩
  subst hxe
  simp only [DataW.weights, ht]
  exact DataW.weights_mem_each (j := i) (t := f.type) (d := (ys[i]'(by omega)).1) (by simp [List.getElem?_map, Array.getElem?_toList, hf]) (by simp [List.getElem?_map, List.getElem?_eq_getElem (show i < ys.length by omega)]) q hq
end
end Go.Proofs.YtlckfnfmekgnkaaDoor
