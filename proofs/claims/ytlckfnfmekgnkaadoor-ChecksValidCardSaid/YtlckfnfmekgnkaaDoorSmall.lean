/- The small functions on addresses: each walked once. No condition but that the table of known addresses lies where it was laid. -/
import Derived.Test.YtlckfnfmekgnkaaDoorEq
import Derived.Test.YtlckfnfmekgnkaaDoorChecked
namespace Go.Proofs.YtlckfnfmekgnkaaDoor
open Go.ChangeShapes Go.WideShapes Go.ChangeAt Go.RowKit Go.Deep
set_option linter.unusedVariables false

/-- The table of known addresses: all bytes, one behind the other. -/
def knownL : List Int := List.replicate 31 0 ++ [1] ++ ([255, 2] ++ List.replicate 13 0 ++ [1]) ++ ([255, 2] ++ List.replicate 13 0 ++ [2]) ++ ([255, 2] ++ List.replicate 13 0 ++ [22]) ++ ([255, 2] ++ List.replicate 11 0 ++ [1, 0, 2]) ++ ([255, 2] ++ List.replicate 9 0 ++ [1, 255, 0, 0, 0])
structure Gl (w : World) : Prop where
  lt : 0 < w.heap.size
  at_ : ∀ j y, knownL[j]? = some y → w.cell? ⟨0, j, none⟩ = some (.int .u8 y)
theorem Gl.below {w W : World} (h : Gl w) {B : Nat} (hb : Below B w W) (hB : 0 < B) : Gl W :=
  ⟨Nat.lt_of_lt_of_le h.lt hb.size, fun j y hy => (hb.cell hB).trans (h.at_ j y hy)⟩
theorem Gl.alloc {w : World} (h : Gl w) (o : Obj) : Gl (w.alloc o) := h.below ((Below.refl w.heap.size w).alloc (Nat.le_refl _) o) h.lt
theorem Gl.drew {w : World} (h : Gl w) : Gl w.drew := ⟨h.lt, h.at_⟩

def zeroA : List Int := List.replicate 16 0
def isMany (a : List Int) : Bool := a[0]?.getD 0 == 255
def isLink (a : List Int) : Bool := a[0]?.getD 0 == 254 && a[1]?.getD 0 / 64 == 2
def soli (a : List Int) : List Int := [255, 2] ++ List.replicate 9 0 ++ [1, 255] ++ a.drop 13

theorem row23 : ∃ d, Tryd.prog.underlying 23 = some d ∧ d.isRow = true := ⟨_, Tryd.underlying23, rfl⟩
theorem info23 : (Tryd.prog.info? 23).map (·.size) = some 16 := by kernel_rfl
theorem info30 : (Tryd.prog.info? 30).map (·.size) = some 40 := by kernel_rfl
theorem info35 : (Tryd.prog.info? 35).map (·.size) = some 63 := by kernel_rfl
theorem zeroA_is : IsAddr zeroA := ⟨rfl, by intro x hx; simp [zeroA] at hx; omega⟩
theorem soli_is {a : List Int} (h : IsAddr a) : IsAddr (soli a) := by
  refine ⟨by simp [soli, h.len], fun x hx => ?_⟩
  simp only [soli, List.mem_append, List.mem_replicate, List.mem_cons, List.not_mem_nil, or_false] at hx
  rcases hx with ((((rfl | rfl) | ⟨_, rfl⟩) | (rfl | rfl)) | hx)
  all_goals first | omega | exact h.rng x (List.mem_of_mem_drop hx)

theorem Gl.load {w : World} (h : Gl w) (o : Nat) (l : List Int) (hl : l.length = 16) (hp : ∀ j y, l[j]? = some y → knownL[o + j]? = some y) : (loadVar 23 ⟨0, o, none⟩).run Tryd.prog w = .ok (.agg (bytesV l)) w :=
  run_load_bytes (P := Tryd.prog) w 0 o 23 _ l (fun j y hy => h.at_ _ y (hp j y hy)) Tryd.underlying23 rfl (by rw [hl]; exact info23)
theorem known0 : ∀ j y, zeroA[j]? = some y → knownL[0 + j]? = some y := by
  intro j y h
  have hj : j < 16 := (List.getElem?_eq_some_iff.1 h).1
  rw [← h]
  exact (show ∀ j : Nat, j < 16 → knownL[0 + j]? = zeroA[j]? by decide) j hj
def soli0 : List Int := [255, 2] ++ List.replicate 9 0 ++ [1, 255, 0, 0, 0]
theorem known6 : ∀ j y, soli0[j]? = some y → knownL[96 + j]? = some y := by
  intro j y h
  have hj : j < 16 := (List.getElem?_eq_some_iff.1 h).1
  rw [← h]
  exact (show ∀ j : Nat, j < 16 → knownL[96 + j]? = soli0[j]? by decide) j hj

theorem cell_of_bytes {w : World} {g t : Nat} {l : List Int} (h : Blk w g t (bytesV l)) (i : Nat) (hi : i < l.length) : w.cell? ⟨g, i, none⟩ = some (.int .u8 (l[i]?.getD 0)) := by
  have := h.bytes i (l[i]'hi) (List.getElem?_eq_getElem hi)
  rw [Nat.zero_add] at this
  rw [this, List.getElem?_eq_getElem hi]; rfl

theorem many_any (w : World) (a : List Int) (ha : IsAddr a) : Calls Tryd.prog 17 #[.agg (bytesV a)] w fun e w' => e = .returned (.bool (isMany a)) ∧ Below w.heap.size w w' := by
  have b := Blk.new w 23 (bytesV a)
  have hl := ha.len
  have c0 := cell_of_bytes b 0 (by omega)
  clear hl b
  go_enter Tryd.func17, Tryd.ntmps17
  go_wp2
  all_goals go_ret
  all_goals exact ⟨rfl, (Below.refl _ w).alloc (Nat.le_refl _) _⟩

theorem link_any (w : World) (a : List Int) (ha : IsAddr a) : Calls Tryd.prog 55 #[.agg (bytesV a)] w fun e w' => e = .returned (.bool (isLink a)) ∧ Below w.heap.size w w' := by
  have b := Blk.new w 23 (bytesV a)
  have hl := ha.len
  have c0 := cell_of_bytes b 0 (by omega)
  have c1 := cell_of_bytes b 1 (by omega)
  obtain ⟨x, hx⟩ : ∃ x, x = a[0]?.getD 0 := ⟨_, rfl⟩
  obtain ⟨y, hy⟩ : ∃ y, y = a[1]?.getD 0 := ⟨_, rfl⟩
  unfold isLink
  rw [← hx] at c0 ⊢
  rw [← hy] at c1 ⊢
  clear hl b hx hy
  go_enter Tryd.func55, Tryd.ntmps55
  go_wp2
  all_goals go_ret
  all_goals exact ⟨by simp_all, (Below.refl _ w).alloc (Nat.le_refl _) _⟩

theorem zero23 (w : World) : (zeroValue 23).run Tryd.prog w = .ok (.agg (bytesV zeroA)) w := (zero_of_info (v := .agg (bytesV zeroA)) (n := 16) (by kernel_rfl)).1 w

theorem ones_bytes (l : List Int) : (bytesV l).all (·.oneCell') = true := all_oneCell_toArray (ints_one .u8 l)
theorem size_bytes {l : List Int} (h : IsAddr l) : (Tryd.prog.info? 23).map (·.size) = some (bytesV l).size := by rw [bytesV_size, h.len]; exact info23

theorem unspec_any (w : World) (h : Gl w) : Calls Tryd.prog 19 #[] w fun e w' => e = .returned (.agg (bytesV zeroA)) ∧ Below w.heap.size w w' := by
  have h1 : Gl (w.alloc (.cells (bytesV zeroA) 23)) := h.alloc _
  have l0 := h1.load 0 zeroA rfl known0
  have b := Blk.new w 23 (bytesV zeroA)
  have l1 := b.load Tryd.underlying23 rfl info23
  go_enter Tryd.func19, Tryd.ntmps19
  go_wp2_with (first
    | (refine wpList_load_want rfl 23 _ rfl _ rfl _ (by first | exact l0 | exact l1) ?_)
    | (refine wpList_store_new rfl rfl 23 _ _ rfl _ _ (bytesV zeroA) rfl (by simp) rfl (size_bytes zeroA_is) rfl (ones_bytes _) ?_))
  refine bodyPost_ret (v := .agg (bytesV zeroA)) (by
    have e : ∀ x : Value, (asAddr x).run Tryd.prog (w.alloc (.cells (bytesV zeroA) 23)) = (asAddr x).run Tryd.prog (w.alloc (.cells (bytesV zeroA) 23)) := fun _ => rfl
    simp [results, Tryd.results19, Act.put, asAddr, l1]) rfl ⟨rfl, (Below.refl _ w).alloc (Nat.le_refl _) _⟩

def B3 (a : List Int) (x y z : Int) : List Int := [255, 2] ++ List.replicate 9 0 ++ [1, 255, x, y, z]
theorem sol_any (w : World) (a : List Int) (ha : IsAddr a) (h : Gl w) : Calls Tryd.prog 18 #[.agg (bytesV a)] w fun e w' => e = .returned (.agg (bytesV (soli a))) ∧ Below w.heap.size w w' := by
  have hl := ha.len
  have b0 := Blk.new w 23 (bytesV a)
  have W1 : Below w.heap.size w ((w.alloc (.cells (bytesV a) 23)).alloc (.cells (bytesV zeroA) 23)) := ((Below.refl _ w).alloc (Nat.le_refl _) _).alloc (by simp) _
  have h2 : Gl ((w.alloc (.cells (bytesV a) 23)).alloc (.cells (bytesV zeroA) 23)) := (h.alloc _).alloc _
  have l0 := h2.load 96 soli0 rfl known6
  have bb := ((b0.alloc (.cells (bytesV zeroA) 23)).alloc (.cells (bytesV soli0) 23))
  have c0 := cell_of_bytes bb 13 (by omega)
  have c1 := cell_of_bytes bb 14 (by omega)
  have c2 := cell_of_bytes bb 15 (by omega)
  clear bb b0
  go_enter Tryd.func18, Tryd.ntmps18
  go_wp2_with (first
    | (refine wpList_load_want rfl 23 _ rfl _ rfl _ (by first | exact l0) ?_)
    | (refine wpList_store_new rfl rfl 23 _ _ rfl _ _ (bytesV soli0) rfl (by simp) rfl (by kernel_rfl) rfl (ones_bytes _) ?_))
  try simp only [Act.put, List.setIfInBounds_toArray, List.set_cons_zero, List.set_cons_succ]
  have hs2 : (((w.alloc (.cells (bytesV a) 23)).alloc (.cells (bytesV zeroA) 23)).alloc (.cells (bytesV soli0) 23)).heap.size = w.heap.size + 1 + 1 + 1 := by simp
  have b2 : Blk (((w.alloc (.cells (bytesV a) 23)).alloc (.cells (bytesV zeroA) 23)).alloc (.cells (bytesV soli0) 23)) (w.heap.size + 1 + 1) 23 (bytesV soli0) := by
    have := Blk.new ((w.alloc (.cells (bytesV a) 23)).alloc (.cells (bytesV zeroA) 23)) 23 (bytesV soli0)
    rwa [World.size_alloc, World.size_alloc] at this
  have b1 : Blk (((w.alloc (.cells (bytesV a) 23)).alloc (.cells (bytesV zeroA) 23)).alloc (.cells (bytesV soli0) 23)) (w.heap.size + 1) 23 (bytesV zeroA) := by
    have := (Blk.new (w.alloc (.cells (bytesV a) 23)) 23 (bytesV zeroA)).alloc (.cells (bytesV soli0) 23)
    rwa [World.size_alloc] at this
  have W2 : Below w.heap.size w (((w.alloc (.cells (bytesV a) 23)).alloc (.cells (bytesV zeroA) 23)).alloc (.cells (bytesV soli0) 23)) := W1.alloc (by simp; omega) _
  change Code.wp _ _ _ _ (((w.alloc (.cells (bytesV a) 23)).alloc (.cells (bytesV zeroA) 23)).alloc (.cells (bytesV soli0) 23))
  generalize (((w.alloc (.cells (bytesV a) 23)).alloc (.cells (bytesV zeroA) 23)).alloc (.cells (bytesV soli0) 23)) = W at *
  have hcp : (Builtin.copy_ #[28, 28] 3 #[.slice (some ⟨w.heap.size + 1 + 1, 13, none⟩) 3 3, .slice (some ⟨w.heap.size, 13, none⟩) 3 3]).run Tryd.prog W.drew = .ok (.int .i64 3) (W.drew.setRow (w.heap.size + 1 + 1) (bytesV (soli a))) := by
    have := run_copy_row (P := Tryd.prog) W.drew 28 28 3 5 (w.heap.size + 1 + 1) 13 3 3 ⟨w.heap.size, 13, none⟩ 3 3 (bytesV soli0) 23 ((a.drop 13).map (Value.int .u8)) Tryd.underlying28 (by kernel_rfl) b2 (by simp [hl])
      (fun j v hv => by
        have hj : j < 3 := by have := (List.getElem?_eq_some_iff.1 hv).1; simp [hl] at this; omega
        rw [Addr.add_mid]
        rw [List.getElem?_map, List.getElem?_drop] at hv
        match j, hj with
        | 0, _ => rw [List.getElem?_eq_getElem (by omega)] at hv; cases hv; exact (by simpa [List.getElem?_eq_getElem (show 13 < a.length by omega)] using c0)
        | 1, _ => rw [List.getElem?_eq_getElem (by omega)] at hv; cases hv; exact (by simpa [List.getElem?_eq_getElem (show 14 < a.length by omega)] using c1)
        | 2, _ => rw [List.getElem?_eq_getElem (by omega)] at hv; cases hv; exact (by simpa [List.getElem?_eq_getElem (show 15 < a.length by omega)] using c2))
      (by simp [hl, bytesV, soli0]) (ints_one _ _)
    rw [this]
    congr 1
    · simp [hl, goInt]
    · congr 1
      simp [bytesV, soli, soli0, hl]
  have b3 : Blk (W.drew.setRow (w.heap.size + 1 + 1) (bytesV (soli a))) (w.heap.size + 1 + 1) 23 (bytesV (soli a)) := setRow_heap W.drew _ _ _ _ _ b2
  go_region
  have b4 : Blk (W.drew.setRow (w.heap.size + 1 + 1) (bytesV (soli a))) (w.heap.size + 1) 23 (bytesV zeroA) := Blk.farRow (W := W.drew) b1 (by omega) _
  have W3 : Below w.heap.size w (W.drew.setRow (w.heap.size + 1 + 1) (bytesV (soli a))) := below_setRow W2.drew (by omega) _
  generalize W.drew.setRow (w.heap.size + 1 + 1) (bytesV (soli a)) = V at *
  have l1 := b3.load Tryd.underlying23 rfl (size_bytes (soli_is ha))
  have l2 := (b4.setRow (bytesV (soli a))).load Tryd.underlying23 rfl (size_bytes (soli_is ha))
  have hz : (bytesV zeroA).size = (bytesV (soli a)).size := by rw [bytesV_size, bytesV_size, (soli_is ha).len]; rfl
  have hz2 := size_bytes (soli_is ha)
  clear hcp c0 c1 c2 b2 b1 W2
  go_wp2_with (first
    | (refine wpList_load_want rfl 23 _ rfl _ rfl _ (by first | exact l1) ?_)
    | (refine wpList_store_blk rfl rfl 23 _ _ rfl _ 23 _ (bytesV (soli a)) b4 rfl rfl hz2 hz (ones_bytes _) ?_))
  refine bodyPost_ret (v := .agg (bytesV (soli a))) (by simp [results, Tryd.results18, Act.put, asAddr, l2]) rfl ⟨rfl, below_setRow W3 (by omega) _⟩
end Go.Proofs.YtlckfnfmekgnkaaDoor
