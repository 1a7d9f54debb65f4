/- A map from addresses to pointers: what is looked up, put, deleted. No condition. -/
import Derived.Test.YtpjjcihhmhccfaaIns
import Derived.DeepKeys3
import Derived.WideKeyRuns
namespace Go.Proofs.Ytpjjcihhmhccfaa
open Go.ChangeShapes Go.WideShapes Go.ChangeAt Go.RowKit Go.Deep
set_option linter.unusedVariables false
set_option linter.unusedSimpArgs false

theorem addr_ex {l : List Int} (h : IsAddr l) : ∃ a b c d e f g i j k m n o p q r : Int, l = [a, b, c, d, e, f, g, i, j, k, m, n, o, p, q, r] := by
  have hl := h.len
  match l, hl with
  | [a, b, c, d, e, f, g, i, j, k, m, n, o, p, q, r], _ => exact ⟨_, _, _, _, _, _, _, _, _, _, _, _, _, _, _, _, rfl⟩
theorem info24 : (Try.prog.info? 24).map (·.size) = some 16 := by kernel_rfl
theorem size_a {l : List Int} (h : IsAddr l) : (Try.prog.info? 24).map (·.size) = some (bytesV l).size := by rw [bytesV_size, h.len]; exact info24
theorem eql24 (W : World) {a b : List Int} (ha : IsAddr a) (hb : IsAddr b) : (Op.equalIn 10000 24 (.agg (bytesV a)) (.agg (bytesV b))).run Try.prog W = .ok (a == b) W := by
  obtain ⟨i, hi⟩ := info_of_underlying (P := Try.prog) Try.underlying5
  exact run_equal_bytes W 9998 Try.underlying24 hi (by kernel_rfl) Try.underlying5 a b ha.len hb.len
theorem guard24 : Try.prog.eqGuardType Try.prog.depth 24 = false := by kernel_rfl
theorem cells5 : Try.prog.cellsOf 5 = 1 := by kernel_rfl
theorem cells24 : Try.prog.cellsOf 24 = 16 := by kernel_rfl
theorem lits5 {v : Int} (h : 0 ≤ v ∧ v ≤ 255) (d : Nat) : Try.prog.keyLits (d + 1) 5 [.int .u8 v] = some [.int .u8 v] := by
  have hw : (Lit.int .u8 v).wf = true := by
    show (decide _ && decide _) = true
    rw [Bool.and_eq_true, decide_eq_true_eq, decide_eq_true_eq]
    exact ⟨h.1, h.2⟩
  simp only [Program.keyLits, Try.underlying5]
  rw [if_pos ⟨trivial, hw⟩]
theorem mapM_some {α β : Type} {f : α → Option β} : ∀ (l : List α), (∀ x ∈ l, ∃ y, f x = some y) → ∃ r, l.mapM f = some r
  | [], _ => ⟨[], rfl⟩
  | x :: l, h => by
    obtain ⟨y, hy⟩ := h x (by simp)
    obtain ⟨r, hr⟩ := mapM_some l (fun z hz => h z (by simp [hz]))
    exact ⟨y :: r, by rw [List.mapM_cons, hy, hr]; rfl⟩
theorem lits24 {a : List Int} (ha : IsAddr a) (d : Nat) : ∃ la, Try.prog.keyLits (d + 2) 24 (Value.agg (bytesV a)).cells.toList = some la := by
  have hc : (Value.agg (bytesV a)).cells.toList = a.map (Value.int .u8) := by simp [Value.cells, bytesV]
  rw [hc]
  unfold Program.keyLits
  simp only [Try.underlying24]
  rw [if_pos (by rw [List.length_map, ha.len, cells24]), cells5]
  obtain ⟨r, hr⟩ := mapM_some (f := fun i => Try.prog.keyLits (d + 1) 5 (((a.map (Value.int .u8)).drop (i * 1)).take 1)) (List.range 16) (fun i hi => by
    have hi : i < a.length := by rw [ha.len]; exact List.mem_range.1 hi
    have e : ((a.map (Value.int .u8)).drop (i * 1)).take 1 = [.int .u8 a[i]] := by
      rw [Nat.mul_one, List.drop_eq_getElem_cons (by rw [List.length_map]; exact hi), List.getElem_map]; rfl
    exact ⟨_, by rw [e]; exact lits5 (ha.rng _ (List.getElem_mem hi)) d⟩)
  exact ⟨_, by rw [hr]; rfl⟩
theorem key24 : Try.prog.keyTypeAt 2 24 = true := by kernel_rfl
theorem check24 (W : World) (em : Bool) {a : List Int} (ha : IsAddr a) : (Instr.checkKey em 10000 24 (.agg (bytesV a))).run Try.prog W = .ok () W := by
  obtain ⟨la, hla⟩ := lits24 ha 0
  exact run_checkKey_deep em 9998 2 24 key24 W 2 (.agg (bytesV a)) la (by
    have e : (Value.agg (bytesV a)).formed Try.prog 24 = decide ((bytesV a).size = Try.prog.cellsOf 24) := by simp [Value.formed, Try.underlying24]; rfl
    rw [e, bytesV_size, ha.len, cells24]; rfl) hla

/-- An entry of the map: an address, a pointer, when it was made. -/
abbrev Mm := List Int × Nat × Nat
def mkM (m : Mm) : MapEntry := { key := .agg (bytesV m.1), val := ptr m.2.1, born := m.2.2 }
def fnd (x : List Int) : List Mm → Nat → Option (Nat × Value)
  | [], _ => none
  | m :: ms, i => if x == m.1 then some (i, ptr m.2.1) else fnd x ms (i + 1)
theorem run_equal {P : Program} (t : TypeId) (x y : Value) (W : World) : (Op.equal t x y).run P W = (Op.equalIn 10000 t x y).run P W := rfl
theorem run_ask (W : World) {x : List Int} (hx : IsAddr x) : ∀ (ms : List Mm) (i : Nat), (∀ m ∈ ms, IsAddr m.1) → (Instr.findAsking 24 (.agg (bytesV x)) (ms.map mkM) i).run Try.prog W = .ok (fnd x ms i) W
  | [], i, _ => by simp [Instr.findAsking, fnd]
  | m :: ms, i, h => by
    have ih := run_ask W hx ms (i + 1) (fun m hm => h m (by simp [hm]))
    have he := eql24 W hx (h m (by simp))
    rw [List.map_cons]
    simp only [Instr.findAsking, Sem.run_bind]
    rw [show (mkM m).key = .agg (bytesV m.1) from rfl, run_equal, he]
    cases hq : x == m.1 with
    | true => simp [fnd, hq, mkM]
    | false => simp [fnd, hq, ih]
theorem run_find (W : World) {x : List Int} (hx : IsAddr x) (ms : List Mm) (h : ∀ m ∈ ms, IsAddr m.1) : (Instr.findKey 24 (.agg (bytesV x)) (ms.map mkM)).run Try.prog W = .ok (fnd x ms 0) W := by
  rw [run_findKey_eq W (by rw [Try.underlying24])]
  exact run_ask W hx ms 0 h

/-- The map turned. -/
def setMap (W : World) (bm : Nat) (ms : List Mm) (ck : Nat) : World := { W with heap := W.heap.setIfInBounds bm (.map (ms.map mkM).toArray ck) }
def IsM (W : World) (bm : Nat) (ms : List Mm) (ck : Nat) : Prop := W.heap[bm]? = some (.map (ms.map mkM).toArray ck)
section
variable {w W : World} {bm ck : Nat} {ms : List Mm}
theorem IsM.lt (h : IsM W bm ms ck) : bm < W.heap.size := (Array.getElem?_eq_some_iff.1 h).1
theorem IsM.fr {S : Nat → Prop} (h : IsM w bm ms ck) (hf : Fr S w W) (hS : ¬ S bm) : IsM W bm ms ck := (hf.block bm h.lt hS).trans h
theorem setMap_fr (W : World) (bm : Nat) (ms : List Mm) (ck : Nat) : Fr (· = bm) W (setMap W bm ms ck) :=
  ⟨rfl, rfl, rfl, by simp [setMap], fun k hk hS => by simp [setMap, Ne.symm hS]⟩
theorem setMap_is (h : IsM W bm ms ck) (ms' : List Mm) (ck' : Nat) : IsM (setMap W bm ms' ck') bm ms' ck' := by
  have := h.lt
  simp [IsM, setMap, this]
end
/-- What is looked up. -/
def look (x : List Int) (ms : List Mm) : Value := ((fnd x ms 0).map (·.2)).getD (.pointer none)
theorem run_look {W : World} {bm ck : Nat} {ms : List Mm} (h : IsM W bm ms ck) (hk : ∀ m ∈ ms, IsAddr m.1) {x : List Int} (hx : IsAddr x) : (Instr.lookup 56 (.map (some bm)) (.agg (bytesV x)) false).run Try.prog W = .ok (look x ms) W := by
  unfold Instr.lookup
  simp only [run_underlying Try.underlying56, Sem.run_bind, Result.andThen_ok, MapKept.run_getObj_map h, Sem.run_pure, check24 W _ hx]
  rw [run_find W hx ms hk]
  unfold look
  cases hf : fnd x ms 0 with
  | none => simp [zeroE]
  | some r => simp
theorem eraseIdx_map {α β : Type} (f : α → β) : ∀ (l : List α) (i : Nat), (l.map f).eraseIdx i = (l.eraseIdx i).map f
  | [], _ => rfl
  | _ :: _, 0 => rfl
  | x :: l, i + 1 => by rw [List.map_cons, List.eraseIdx_cons_succ, List.eraseIdx_cons_succ, List.map_cons, eraseIdx_map f l i]
/-- Without one. -/
def dropM (x : List Int) (ms : List Mm) : List Mm := match fnd x ms 0 with
  | some (i, _) => ms.eraseIdx i
  | none => ms
theorem fnd_lt (x : List Int) : ∀ (ms : List Mm) (i j : Nat) (v : Value), fnd x ms i = some (j, v) → i ≤ j ∧ j < i + ms.length
  | [], i, j, v, h => by simp [fnd] at h
  | m :: ms, i, j, v, h => by
    unfold fnd at h
    split at h
    · simp at h; simp; omega
    · have := fnd_lt x ms (i + 1) j v h
      simp; omega
theorem run_delete {W : World} {bm ck : Nat} {ms : List Mm} (h : IsM W bm ms ck) (hk : ∀ m ∈ ms, IsAddr m.1) {x : List Int} (hx : IsAddr x) (ty : TypeId) : (Builtin.delete_ #[56, 24] ty #[.map (some bm), .agg (bytesV x)]).run Try.prog W = .ok (.tuple #[]) (setMap W bm (dropM x ms) ck) := by
  unfold Builtin.delete_
  have hl : ((ms.map mkM).toArray.toList) = ms.map mkM := by simp
  cases hf : fnd x ms 0 with
  | none =>
    simp [run_underlying Try.underlying56, MapKept.run_getObj_map h, check24 W _ hx, hl, run_find W hx ms hk, hf, MapKept.run_setObj_map _ h, dropM, setMap]
  | some r =>
    obtain ⟨i, v⟩ := r
    have hi := (fnd_lt x ms 0 i v hf).2
    simp [run_underlying Try.underlying56, MapKept.run_getObj_map h, check24 W _ hx, hl, run_find W hx ms hk, hf, MapKept.run_setObj_map _ h, dropM, setMap, eraseIdx_map]
def newM (x : List Int) (ck : Nat) : MapEntry := { key := .agg (bytesV x), val := .pointer none, born := ck }
/-- A new entry is made, and stored. -/
theorem run_entry {W : World} {bm ck : Nat} {ms : List Mm} (h : IsM W bm ms ck) (hk : ∀ m ∈ ms, IsAddr m.1) {x : List Int} (hx : IsAddr x) (hno : fnd x ms 0 = none) :
    (Instr.mapEntry 56 (.map (some bm)) (.agg (bytesV x))).run Try.prog W = .ok (.tuple #[.pointer none, goInt ck]) { W with heap := W.heap.setIfInBounds bm (.map (ms.map mkM ++ [newM x ck]).toArray (ck + 1)) } := by
  have hl : ((ms.map mkM).toArray.toList) = ms.map mkM := by simp
  unfold Instr.mapEntry
  simp [run_underlying Try.underlying56, MapKept.run_getObj_map h, check24 W _ hx, hl, run_find W hx ms hk, hno, zeroE, MapKept.run_setObj_map _ h, newM]
theorem run_entryStore {W : World} {bm ck p : Nat} {ms : List Mm} {x : List Int} (h : W.heap[bm]? = some (.map (ms.map mkM ++ [newM x ck]).toArray (ck + 1))) (hb : ∀ m ∈ ms, m.2.2 < ck) :
    (Instr.entryStore 56 (.map (some bm)) (.int .i64 ck) (ptr p)).run Try.prog W = .ok () (setMap W bm (ms ++ [(x, p, ck)]) (ck + 1)) := by
  have hlt : bm < W.heap.size := (Array.getElem?_eq_some_iff.1 h).1
  have hfi : (ms.map mkM ++ [newM x ck]).findIdx? (fun e : MapEntry => (e.born : Int) == (ck : Int)) = some ms.length := by
    have hn : (ms.map mkM).findIdx? (fun e : MapEntry => (e.born : Int) == (ck : Int)) = none := by
      rw [List.findIdx?_eq_none_iff]
      intro e he
      obtain ⟨m, hm, rfl⟩ := List.mem_map.1 he
      have := hb m hm
      show ((m.2.2 : Int) == (ck : Int)) = false
      rw [beq_eq_false_iff_ne]; omega
    rw [List.findIdx?_append, hn]
    simp [newM]
  have hmo : (ms.map mkM ++ [newM x ck]).toArray.modify ms.length (fun e : MapEntry => { e with val := ptr p }) = ((ms ++ [(x, p, ck)]).map mkM).toArray := by
    apply Array.ext_getElem?
    intro j
    rw [Array.getElem?_modify, List.getElem?_toArray, List.getElem?_toArray, List.map_append]
    rcases Nat.lt_trichotomy j ms.length with hj | hj | hj
    · rw [if_neg (by omega), List.getElem?_append_left (by simpa using hj), List.getElem?_append_left (by simpa using hj)]
    · subst hj
      rw [if_pos rfl, List.getElem?_append_right (by simp), List.getElem?_append_right (by simp)]
      simp [mkM, newM]
    · rw [if_neg (by omega), List.getElem?_eq_none (by simp; omega), List.getElem?_eq_none (by simp; omega)]
  unfold Instr.entryStore
  have hfi' : (ms.map mkM ++ [newM x ck]).toArray.findIdx? (fun e : MapEntry => (e.born : Int) == (ck : Int)) = some ms.length := by rw [List.findIdx?_toArray]; exact hfi
  simp only [Sem.run_bind, MapKept.run_getObj_map h, Result.andThen_ok, asInt, asIntOf, Sem.run_pure, hfi', hmo, MapKept.run_setObj_map _ h, setMap]
end Go.Proofs.Ytpjjcihhmhccfaa
