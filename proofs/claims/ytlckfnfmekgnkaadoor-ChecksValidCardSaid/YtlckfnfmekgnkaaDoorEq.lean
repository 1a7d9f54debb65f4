/- Arrays of bytes held against one another; a struct or an array loaded out of a block that is known whole, and stored into one; a struct built; maps with integer keys. Of no program; no condition. -/
import Derived.Test.YtlckfnfmekgnkaaDoorAddr
import Derived.ChangeKeysEq
import Derived.MapKept
import Derived.Deep.MidRow
import Derived.Deep.WholeRow
import Derived.Laws.Tables
import Derived.Laws.CopyOwn
namespace Go.Proofs.YtlckfnfmekgnkaaDoor
open Go.ChangeShapes Go.WideShapes Go.ChangeAt Go.RowKit
set_option linter.unusedVariables false

section
variable {P : Program} (w : World)

theorem run_eqItems_bytes {d : Nat} {e : TypeId} (he : P.underlying e = some (.int .u8)) (a b : List Int) (n : Nat) (ha : a.length = n) (hb : b.length = n) : ∀ is : List Nat, (∀ i ∈ is, i < n) →
    (Op.eqItems (d + 1) e 1 (bytesV a) (bytesV b) is).run P w = .ok (is.all fun i => a[i]? == b[i]?) w := by
  intro is
  induction is with
  | nil => intro _; rfl
  | cons i is ih =>
    intro h
    have hi := h i (by simp)
    have h1 := ih fun j hj => h j (by simp [hj])
    have p1 : P.plainKey e = true := by simp [Program.plainKey, he]
    have ea : (bytesV a)[i * 1]? = some (.int .u8 (a[i]'(by omega))) := by rw [Nat.mul_one, bytesV_get, List.getElem?_eq_getElem (by omega)]; rfl
    have eb : (bytesV b)[i * 1]? = some (.int .u8 (b[i]'(by omega))) := by rw [Nat.mul_one, bytesV_get, List.getElem?_eq_getElem (by omega)]; rfl
    simp only [Op.eqItems, Sem.run_bind, run_part_plain w p1 ea, run_part_plain w p1 eb, Result.andThen_ok, run_equalIn_int w d e .u8 .u8 _ _ he]
    rw [List.all_cons, List.getElem?_eq_getElem (show i < a.length by omega), List.getElem?_eq_getElem (show i < b.length by omega)]
    by_cases hq : a[i]'(by omega) = b[i]'(by omega)
    · simp [hq, h1]
    · simp [hq, Sem.run_pure]

theorem all_range_eq (a b : List Int) (n : Nat) (ha : a.length = n) (hb : b.length = n) : ((List.range n).all fun i => a[i]? == b[i]?) = (a == b) := by
  rw [Bool.eq_iff_iff]
  simp only [List.all_eq_true, List.mem_range, beq_iff_eq]
  constructor
  · intro h
    apply List.ext_getElem?
    intro i
    rcases Nat.lt_or_ge i n with hi | hi
    · exact h i hi
    · rw [List.getElem?_eq_none (by omega), List.getElem?_eq_none (by omega)]
  · rintro rfl _ _; rfl

/-- Two arrays of bytes, held against one another. -/
theorem run_equal_bytes (d : Nat) {t e : TypeId} {n : Nat} {i : TypeInfo} (hu : P.underlying t = some (.array n e)) (hi : P.info? e = some i) (hs : P.cellsOf e = 1) (he : P.underlying e = some (.int .u8)) (a b : List Int) (ha : a.length = n) (hb : b.length = n) :
    (Op.equalIn (d + 2) t (.agg (bytesV a)) (.agg (bytesV b))).run P w = .ok (a == b) w := by
  rw [run_equalIn_array w (d + 1) _ _ hu hi, hs, run_eqItems_bytes w he a b n ha hb _ (fun i hi => List.mem_range.1 hi), all_range_eq a b n ha hb]

theorem run_eql_bytes {t e : TypeId} {n : Nat} {i : TypeInfo} (hu : P.underlying t = some (.array n e)) (hi : P.info? e = some i) (hs : P.cellsOf e = 1) (he : P.underlying e = some (.int .u8)) (a b : List Int) (ha : a.length = n) (hb : b.length = n) :
    (binOp .eql t (.agg (bytesV a)) (.agg (bytesV b))).run P w = .ok (.bool (a == b)) w := by
  rw [run_eql_struct, run_equal_bytes w 9998 hu hi hs he a b ha hb]; rfl

theorem run_neq_bytes {t e : TypeId} {n : Nat} {i : TypeInfo} (hu : P.underlying t = some (.array n e)) (hi : P.info? e = some i) (hs : P.cellsOf e = 1) (he : P.underlying e = some (.int .u8)) (a b : List Int) (ha : a.length = n) (hb : b.length = n) :
    (binOp .neq t (.agg (bytesV a)) (.agg (bytesV b))).run P w = .ok (.bool (!(a == b))) w := by
  rw [run_neq_struct, run_equal_bytes w 9998 hu hi hs he a b ha hb]; rfl

/-- A block that is known whole, loaded whole. -/
theorem Blk.load {W : World} {g : Nat} {t ty : TypeId} {cs : Array Value} {d : TypeDesc} (h : Blk W g t cs) (hu : P.underlying ty = some d) (hd : d.isRow = true) (hi : (P.info? ty).map (·.size) = some cs.size) :
    (loadVar ty ⟨g, 0, none⟩).run P W = .ok (.agg cs) W := by
  have := run_loadVar_mid (P := P) W g 0 ty cs.toList d (fun j v hv => by rw [Nat.zero_add]; exact h.at_ (by simpa using hv)) hu hd (by simpa using hi)
  simpa using this

/-- Bytes in the midst of cells. -/
def At (cs : Array Value) (o : Nat) (l : List Int) : Prop := ∀ j y, l[j]? = some y → cs[o + j]? = some (.int .u8 y)

theorem Blk.part {W : World} {g o : Nat} {t ty : TypeId} {cs : Array Value} {d : TypeDesc} {l : List Int} (h : Blk W g t cs) (ha : At cs o l) (hu : P.underlying ty = some d) (hd : d.isRow = true) (hi : (P.info? ty).map (·.size) = some l.length) :
    (loadVar ty ⟨g, o, none⟩).run P W = .ok (.agg (bytesV l)) W :=
  run_loadVar_mid (P := P) W g o ty (l.map (Value.int .u8)) d (fun j v hv => by
    rw [List.getElem?_map] at hv
    cases hy : l[j]? with
    | none => rw [hy] at hv; cases hv
    | some y => rw [hy] at hv; simp at hv; subst hv; exact h.at_ (ha j y hy)) hu hd (by simpa using hi)

/-- What several cells become. -/
def over (cs : Array Value) (o : Nat) : List Value → Array Value
  | [] => cs
  | v :: r => over (cs.setIfInBounds o v) (o + 1) r

theorem over_size : ∀ (vs : List Value) (cs : Array Value) (o : Nat), (over cs o vs).size = cs.size
  | [], _, _ => rfl
  | v :: r, cs, o => by rw [over, over_size r]; simp
theorem over_out : ∀ (vs : List Value) (cs : Array Value) (o j : Nat), j < o ∨ o + vs.length ≤ j → (over cs o vs)[j]? = cs[j]?
  | [], _, _, _, _ => rfl
  | v :: r, cs, o, j, h => by
    rw [over, over_out r _ _ j (by rcases h with h | h; exact .inl (by omega); exact .inr (by simp at h; omega)), Array.getElem?_setIfInBounds]
    rw [if_neg (by rcases h with h | h; omega; simp at h; omega)]
theorem over_in : ∀ (vs : List Value) (cs : Array Value) (o j : Nat) (v : Value), vs[j]? = some v → o + vs.length ≤ cs.size → (over cs o vs)[o + j]? = some v
  | [], _, _, _, _, h, _ => by simp at h
  | u :: r, cs, o, 0, v, h, hs => by
    simp at h hs
    subst h
    rw [over, over_out r _ _ _ (.inl (by omega)), Nat.add_zero, Array.getElem?_setIfInBounds, if_pos rfl, if_pos (by omega)]
  | u :: r, cs, o, j + 1, v, h, hs => by
    simp at h hs
    rw [over, show o + (j + 1) = o + 1 + j by omega]
    exact over_in r _ _ j v h (by simp; omega)

theorem Blk.over {W : World} {g : Nat} {t : TypeId} : ∀ (vs : List Value) (o : Nat) (W : World) (cs : Array Value), Blk W g t cs → Blk (W.setCells g o vs) g t (over cs o vs)
  | [], _, _, _, h => h
  | v :: r, o, W, cs, h => by rw [World.setCells]; exact Blk.over (W := W) r (o + 1) _ _ (h.set o v)

theorem Blk.farCells {g : Nat} {t : TypeId} {cs : Array Value} (b : Nat) : ∀ (vs : List Value) (o : Nat) (W : World), Blk W g t cs → g ≠ b → Blk (W.setCells b o vs) g t cs
  | [], _, _, h, _ => h
  | v :: r, o, W, h, hne => by rw [World.setCells]; exact Blk.farCells b r (o + 1) _ (h.far hne v) hne

theorem below_setCells {B b : Nat} {a : World} (hb : B ≤ b) : ∀ (vs : List Value) (o : Nat) (W : World), Below B a W → Below B a (W.setCells b o vs)
  | [], _, _, h => h
  | v :: r, o, W, h => by rw [World.setCells]; exact below_setCells hb r (o + 1) _ (h.setCell hb v)

theorem size_setCells (b : Nat) : ∀ (vs : List Value) (o : Nat) (W : World), (W.setCells b o vs).heap.size = W.heap.size
  | [], _, _ => rfl
  | v :: r, o, W => by rw [World.setCells, size_setCells b r]; simp [World.setCell]

theorem Blk.there {W : World} {g o n : Nat} {t : TypeId} {cs : Array Value} (h : Blk W g t cs) (hn : o + n ≤ cs.size) : W.there g o n := fun j hj =>
  ⟨by rw [h.cell, Array.getElem?_eq_getElem (by omega)]; rfl, h.frozen _⟩

/-- An array of bytes, stored into a block. -/
theorem wpList_store_bytes {W : World} {ops : Array Oper} {rest : List Oper} {o : Oper} {a : Act} {Q : Exit → Act → World → Prop} (hgd : o.guard = none) (hd : o.dst = none) (ty : TypeId) (x y : Operand) (ho : o.op = .store ty x y)
    (b off : Nat) (l : List Int) (hx : a.eval x = .pointer (some ⟨b, off, none⟩)) (hy : a.eval y = .agg (bytesV l))
    (ht : W.there b off l.length) (hi : (P.info? ty).map (·.size) = some l.length)
    (h : wpList P ops Q rest a (W.setCells b off (l.map (Value.int .u8)))) : wpList P ops Q (o :: rest) a W := by
  refine wpList_store_mid (P := P) hgd ty x y ho b off (bytesV l) hx hy (by rw [bytesV_size]; exact ht) (by rw [bytesV_size]; exact hi) ?_ (by rw [hd]; simpa [bytesV, Act.put] using h)
  exact all_oneCell_toArray (ints_one .u8 l)

/-- A variable that was just made, and what is stored into it. -/
theorem wpList_store_new {W : World} {ops : Array Oper} {rest : List Oper} {o : Oper} {a : Act} {Q : Exit → Act → World → Prop} (hgd : o.guard = none) (hd : o.dst = none) (ty : TypeId) (x y : Operand) (ho : o.op = .store ty x y)
    (g : Nat) (c c' : Array Value) (hx : a.eval x = .pointer (some ⟨g, 0, none⟩)) (hg : g = W.heap.size) (hy : a.eval y = .agg c') (hi : (P.info? ty).map (·.size) = some c'.size) (hs : c.size = c'.size) (h1 : c'.all (·.oneCell') = true)
    (h : wpList P ops Q rest a (W.alloc (.cells c' ty))) : wpList P ops Q (o :: rest) a (W.alloc (.cells c ty)) := by
  subst hg
  refine wpList_plain hgd fun K hK => ?_
  unfold Oper.wp execOp
  simp only [ho, hx, hy, Instr.storeAt, Instr.sureAddr, Sem.run_bind, Sem.run_pure, Result.andThen_ok, run_storeVar_row (P := P) (W.alloc (.cells c ty)) W.heap.size ty ty c c' (heap_alloc_last W _) hi hs h1, World.setRow_alloc_new]
  exact hK _ _ (by rw [hd]; exact h)

/-- In a region that draws its order: a load of which every world that meets S says what it yields. -/
theorem yieldsIf_load_want {ops : Array Oper} {S : World → Prop} {op : Oper} {a : Act} (hw : Region.wanted op (yielded ops a.tmps) = true) (ty : TypeId) (x : Operand) (ho : op.op = .load ty x)
    (ad : Addr) (hx : a.eval x = .pointer (some ad)) (v : Value) (hS : ∀ w, S w → (loadVar ty ad).run P w = .ok v w) : YieldsIf P ops S op v a :=
  .inl ⟨hw, fun w hw' => by
    unfold execOp
    simp only [ho, hx, Instr.loadAt, Instr.sureAddr, Sem.run_bind, Sem.run_pure, Result.andThen_ok, hS w hw']⟩

/-- Into a block that is known whole: as a step of a region that draws. -/
theorem step_store_blk {W : World} {ops : Array Oper} {o : Oper} {a : Act} {K : Act → World → Prop} {Q : Exit → Act → World → Prop} {E : Prop} (hgd : o.guard = none) (ty : TypeId) (x y : Operand) (ho : o.op = .store ty x y)
    (g : Nat) (t : TypeId) (c c' : Array Value) (hb : Blk W g t c) (hx : a.eval x = .pointer (some ⟨g, 0, none⟩)) (hy : a.eval y = .agg c') (hi : (P.info? ty).map (·.size) = some c'.size) (hs : c.size = c'.size) (h1 : c'.all (·.oneCell') = true)
    (h : K (a.put o.dst undef) (W.setRow g c')) : if Region.wanted o (yielded ops a.tmps) = true then Oper.wp P o a W K Q else E := by
  rw [if_pos (by simp [Region.wanted, hgd])]
  unfold Oper.wp execOp
  simp only [ho, hx, hy, Instr.storeAt, Instr.sureAddr, Sem.run_bind, Sem.run_pure, Result.andThen_ok, run_storeVar_row (P := P) W g t ty c c' hb hi hs h1]
  exact h

theorem wpList_build_want {W : World} {ops : Array Oper} {rest : List Oper} {o : Oper} {a : Act} {Q : Exit → Act → World → Prop} (hg : o.guard = none) (t : TypeId) (parts : Array (Nat × Operand)) (ho : o.op = .build t parts) (cells : Array Value)
    (hf : P.built t (parts.map fun (i, x) => (i, a.eval x)).toList = some cells)
    (h : wpList P ops Q rest (a.put o.dst (.agg cells)) W) : wpList P ops Q (o :: rest) a W :=
  wpList_build (P := P) hg t parts ho (by rw [hf]; rfl) (by rw [hf]; exact h)

/-- Into a block that is known whole. -/
theorem wpList_store_blk {W : World} {ops : Array Oper} {rest : List Oper} {o : Oper} {a : Act} {Q : Exit → Act → World → Prop} (hgd : o.guard = none) (hd : o.dst = none) (ty : TypeId) (x y : Operand) (ho : o.op = .store ty x y)
    (g : Nat) (t : TypeId) (old c' : Array Value) (hb : Blk W g t old) (hx : a.eval x = .pointer (some ⟨g, 0, none⟩)) (hy : a.eval y = .agg c') (hi : (P.info? ty).map (·.size) = some c'.size) (hs : old.size = c'.size) (h1 : c'.all (·.oneCell') = true)
    (h : wpList P ops Q rest a (W.setRow g c')) : wpList P ops Q (o :: rest) a W :=
  wpList_store_row (P := P) hgd ty x y ho g c' hx hy t old hb hi hs h1 (by rw [hd]; exact h)
theorem Blk.setRow {W : World} {g : Nat} {t : TypeId} {old : Array Value} (h : Blk W g t old) (c' : Array Value) : Blk (W.setRow g c') g t c' := setRow_heap W g _ _ t _ h
theorem Blk.farRow {W : World} {g b : Nat} {t : TypeId} {cs : Array Value} (h : Blk W g t cs) (hne : g ≠ b) (c' : Array Value) : Blk (W.setRow b c') g t cs := (setRow_other W b g c' hne).trans h
end
end Go.Proofs.YtlckfnfmekgnkaaDoor
