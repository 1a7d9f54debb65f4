/- A map from timers to pointers: what is looked up, put, deleted. No condition. -/
import Derived.Test.YtepenfgoejhofaaRows
import Derived.Test.YtepenfgoejhofaaKp
import Derived.Test.YtepenfgoejhofaaOpen
import Derived.Test.YtepenfgoejhofaaPlain
import Derived.Test.YtepenfgoejhofaaTail
import Derived.Deep.RegionLaw
import Derived.Deep.RegionWith
import Derived.WalkSpells
import Derived.LaidEqlPtr
import Derived.DeepKeys3
import Derived.WideKeyRuns
namespace Go.Proofs.Ytepenfgoejhofaa
open Go.ChangeShapes Go.WideShapes Go.ChangeAt Go.RowKit Go.Deep
set_option linter.unusedVariables false
set_option linter.unusedSimpArgs false

abbrev ptr (b : Nat) : Value := .pointer (some ⟨b, 0, none⟩)
/-- A key: its kind and its id. -/
abbrev K2 := Int × Int
structure IsK (k : K2) : Prop where
  kd : 0 ≤ k.1 ∧ k.1 ≤ 255
  id : 0 ≤ k.2 ∧ k.2 ≤ 18446744073709551615
abbrev keyV (k : K2) : Array Value := #[.int .u8 k.1, .int .u64 k.2]
theorem eqf_cons {P : Program} {W : World} {d : Nat} {f : Field} {fs : List Field} {xs ys : Array Value} {a b : Value} {r : Bool} (hn : ¬ f.name = "_") (pa : (part f.type xs f.offset).run P W = .ok a W) (pb : (part f.type ys f.offset).run P W = .ok b W) (he : (Op.equalIn d f.type a b).run P W = .ok r W) :
    (Op.eqFields d xs ys (f :: fs)).run P W = if r then (Op.eqFields d xs ys fs).run P W else .ok false W := by
  cases r <;> simp [Op.eqFields, hn, Sem.run_bind, pa, pb, he]
theorem fields30 : (Try.prog.fieldsOf 30).toList.map (fun f => (f.type, f.offset, decide (f.name = "_"))) = [(5, 0, false), (23, 1, false)] := by kernel_rfl
theorem two_fields {fs : List Field} {a b : TypeId × Nat × Bool} (hf : fs.map (fun f => (f.type, f.offset, decide (f.name = "_"))) = [a, b]) : ∃ f g, fs = [f, g] ∧ (f.type, f.offset, decide (f.name = "_")) = a ∧ (g.type, g.offset, decide (g.name = "_")) = b := by
  rcases fs with _ | ⟨f, _ | ⟨g, _ | ⟨h, fs⟩⟩⟩
  · cases congrArg List.length hf
  · cases congrArg List.length hf
  · simp only [List.map_cons, List.map_nil, List.cons.injEq, and_true] at hf
    exact ⟨f, g, rfl, hf.1, hf.2⟩
  · cases congrArg List.length hf
theorem eql30d (W : World) (d : Nat) (a b : K2) : (Op.equalIn (d + 2) 30 (.agg (keyV a)) (.agg (keyV b))).run Try.prog W = .ok (a == b) W := by
  rw [run_equalIn_struct W (d + 1) 30 _ _ (by kernel_rfl) (by kernel_rfl)]
  obtain ⟨f, g, hfs, h1, h2⟩ := two_fields fields30
  rw [hfs]
  simp only [Prod.mk.injEq, decide_eq_false_iff_not] at h1 h2
  obtain ⟨h1, h2', h3⟩ := h1
  obtain ⟨h4, h5, h6⟩ := h2
  have p5 : Try.prog.plainKey 5 = true := by kernel_rfl
  have p23 : Try.prog.plainKey 23 = true := by kernel_rfl
  have qa : ∀ x : K2, (part f.type (keyV x) f.offset).run Try.prog W = .ok (.int .u8 x.1) W := fun x => by rw [h1, h2']; exact run_part_plain W p5 (xs := keyV x) (off := 0) rfl
  have qb : ∀ x : K2, (part g.type (keyV x) g.offset).run Try.prog W = .ok (.int .u64 x.2) W := fun x => by rw [h4, h5]; exact run_part_plain W p23 (xs := keyV x) (off := 1) rfl
  have e1 : (Op.equalIn (d + 1) f.type (.int .u8 a.1) (.int .u8 b.1)).run Try.prog W = .ok (a.1 == b.1) W := by rw [h1]; exact run_equalIn_int W d 5 .u8 .u8 a.1 b.1 Try.underlying5
  have e2 : (Op.equalIn (d + 1) g.type (.int .u64 a.2) (.int .u64 b.2)).run Try.prog W = .ok (a.2 == b.2) W := by rw [h4]; exact run_equalIn_int W d 23 .u64 .u64 a.2 b.2 Try.underlying23
  rw [eqf_cons h3 (qa a) (qa b) e1, eqf_cons h6 (qb a) (qb b) e2]
  have e : (a == b) = (a.1 == b.1 && a.2 == b.2) := rfl
  rw [e]
  cases a.1 == b.1 <;> cases a.2 == b.2 <;> simp [Op.eqFields]
theorem eql30 (W : World) (a b : K2) : (Op.equalIn 10000 30 (.agg (keyV a)) (.agg (keyV b))).run Try.prog W = .ok (a == b) W := eql30d W 9998 a b
theorem guard30 : Try.prog.eqGuardType Try.prog.depth 30 = false := by kernel_rfl
theorem wf8 {v : Int} (h : 0 ≤ v ∧ v ≤ 255) : (Lit.int .u8 v).wf = true := by
  show (decide _ && decide _) = true
  rw [Bool.and_eq_true, decide_eq_true_eq, decide_eq_true_eq]
  exact ⟨h.1, h.2⟩
theorem wf64 {v : Int} (h : 0 ≤ v ∧ v ≤ 18446744073709551615) : (Lit.int .u64 v).wf = true := by
  show (decide _ && decide _) = true
  rw [Bool.and_eq_true, decide_eq_true_eq, decide_eq_true_eq]
  exact ⟨h.1, h.2⟩
theorem lits30 {k : K2} (hk : IsK k) (d : Nat) : Try.prog.keyLits (d + 2) 30 (Value.agg (keyV k)).cells.toList = some [.int .u8 k.1, .int .u64 k.2] := by
  have hc : (Value.agg (keyV k)).cells.toList = [.int .u8 k.1, .int .u64 k.2] := rfl
  rw [hc]
  have hu : Try.prog.underlying 30 = some (.struct (Try.prog.fieldsOf 30)) := by kernel_rfl
  have hb : (Try.prog.fieldsOf 30).all (·.name != "_") = true := by kernel_rfl
  unfold Program.keyLits
  simp only [hu]
  rw [if_pos ⟨by kernel_rfl, hb⟩]
  obtain ⟨f, g, hfs, h1, h2⟩ := two_fields fields30
  rw [hfs]
  simp only [Prod.mk.injEq] at h1 h2
  have c5 : Try.prog.cellsOf 5 = 1 := by kernel_rfl
  have c23 : Try.prog.cellsOf 23 = 1 := by kernel_rfl
  have e1 : Try.prog.keyLits (d + 1) f.type (([Value.int .u8 k.1, .int .u64 k.2].drop f.offset).take (Try.prog.cellsOf f.type)) = some [.int .u8 k.1] := by
    rw [h1.1, h1.2.1, c5]
    show Try.prog.keyLits (d + 1) 5 [.int .u8 k.1] = _
    simp only [Program.keyLits, Try.underlying5]
    rw [if_pos ⟨trivial, wf8 hk.kd⟩]
  have e2 : Try.prog.keyLits (d + 1) g.type (([Value.int .u8 k.1, .int .u64 k.2].drop g.offset).take (Try.prog.cellsOf g.type)) = some [.int .u64 k.2] := by
    rw [h2.1, h2.2.1, c23]
    show Try.prog.keyLits (d + 1) 23 [.int .u64 k.2] = _
    simp only [Program.keyLits, Try.underlying23]
    rw [if_pos ⟨trivial, wf64 hk.id⟩]
  simp [List.mapM_cons, e1, e2]
theorem key30 : Try.prog.keyTypeAt 2 30 = true := by kernel_rfl
theorem check30 (W : World) (em : Bool) {k : K2} (hk : IsK k) : (Instr.checkKey em 10000 30 (.agg (keyV k))).run Try.prog W = .ok () W := by
  have hla := lits30 hk 0
  exact run_checkKey_deep em 9998 2 30 key30 W 2 (.agg (keyV k)) _ (by kernel_rfl) hla

/-- An entry of the map: a key, a pointer, when it was made. -/
abbrev Mm := K2 × Nat × Nat
def mkM (m : Mm) : MapEntry := { key := .agg (keyV m.1), val := ptr m.2.1, born := m.2.2 }
def fnd (x : K2) : List Mm → Nat → Option (Nat × Value)
  | [], _ => none
  | m :: ms, i => if x == m.1 then some (i, ptr m.2.1) else fnd x ms (i + 1)
theorem run_equal {P : Program} (t : TypeId) (x y : Value) (W : World) : (Op.equal t x y).run P W = (Op.equalIn 10000 t x y).run P W := rfl
theorem run_ask (W : World) (x : K2) : ∀ (ms : List Mm) (i : Nat), (Instr.findAsking 30 (.agg (keyV x)) (ms.map mkM) i).run Try.prog W = .ok (fnd x ms i) W
  | [], i => by simp [Instr.findAsking, fnd]
  | m :: ms, i => by
    have ih := run_ask W x ms (i + 1)
    have he := eql30 W x m.1
    rw [List.map_cons]
    simp only [Instr.findAsking, Sem.run_bind]
    rw [show (mkM m).key = .agg (keyV m.1) from rfl, run_equal, he]
    cases hq : x == m.1 with
    | true => simp [fnd, hq, mkM]
    | false => simp [fnd, hq, ih]
theorem run_find (W : World) (x : K2) (ms : List Mm) : (Instr.findKey 30 (.agg (keyV x)) (ms.map mkM)).run Try.prog W = .ok (fnd x ms 0) W := by
  rw [run_findKey_eq W (by rw [Try.underlying30])]
  exact run_ask W x ms 0
theorem zeroE (w : World) : (zeroValue 58).run Try.prog w = .ok (.pointer none) w := by
  obtain ⟨i, hi, h1, _⟩ := info_parts (P := Try.prog) (e := 58) (z := .pointer none) (size := 1) (bytes := 8) (by kernel_rfl)
  simp [zeroValue, typeInfo, hi, h1]
theorem slTy : SlTy Try.prog 47 58 1 8 := .mk_ (z := .pointer none) Try.underlying47 (by kernel_rfl) rfl (by omega)

/-- The map turned. -/
def setMap (W : World) (bm : Nat) (ms : List Mm) (ck : Nat) : World := { W with heap := W.heap.setIfInBounds bm (.map (ms.map mkM).toArray ck) }
def IsM (W : World) (bm : Nat) (ms : List Mm) (ck : Nat) : Prop := W.heap[bm]? = some (.map (ms.map mkM).toArray ck)
section
variable {w W : World} {bm ck : Nat} {ms : List Mm}
theorem IsM.lt (h : IsM W bm ms ck) : bm < W.heap.size := (Array.getElem?_eq_some_iff.1 h).1
theorem IsM.fr {S : Nat → Prop} (h : IsM w bm ms ck) (hf : Fr S w W) (hS : ¬ S bm) : IsM W bm ms ck := (hf.block bm h.lt hS).trans h
theorem setMap_fr (W : World) (bm : Nat) (ms : List Mm) (ck : Nat) : Fr (· = bm) W (setMap W bm ms ck) :=
  ⟨rfl, rfl, rfl, by simp [setMap], fun k hk hS => by simp [setMap, Ne.symm hS]⟩
theorem setMap_is (h : IsM W bm ms ck) (ms' : List Mm) (ck' : Nat) : IsM (setMap W bm ms' ck') bm ms' ck' := by
  have := h.lt
  simp [IsM, setMap, this]
end
/-- What is looked up. -/
def look (x : K2) (ms : List Mm) : Value × Bool := match fnd x ms 0 with
  | some (_, v) => (v, true)
  | none => (.pointer none, false)
theorem run_look {W : World} {bm ck : Nat} {ms : List Mm} (h : IsM W bm ms ck) {x : K2} (hx : IsK x) : (Instr.lookup 48 (.map (some bm)) (.agg (keyV x)) true).run Try.prog W = .ok (.tuple #[(look x ms).1, .bool (look x ms).2]) W := by
  unfold Instr.lookup
  simp only [run_underlying Try.underlying48, Sem.run_bind, Result.andThen_ok, MapKept.run_getObj_map h, Sem.run_pure, check30 W _ hx]
  rw [run_find W x ms]
  unfold look
  cases hf : fnd x ms 0 with
  | none => simp [zeroE]
  | some r => simp
theorem run_look_nil (W : World) {x : K2} (hx : IsK x) : (Instr.lookup 48 (.map none) (.agg (keyV x)) true).run Try.prog W = .ok (.tuple #[.pointer none, .bool false]) W := by
  unfold Instr.lookup
  have := run_find W x []
  simp only [List.map_nil] at this
  simp [run_underlying Try.underlying48, check30 W _ hx, this, fnd, zeroE]
theorem eraseIdx_map {α β : Type} (f : α → β) : ∀ (l : List α) (i : Nat), (l.map f).eraseIdx i = (l.eraseIdx i).map f
  | [], _ => rfl
  | _ :: _, 0 => rfl
  | x :: l, i + 1 => by rw [List.map_cons, List.eraseIdx_cons_succ, List.eraseIdx_cons_succ, List.map_cons, eraseIdx_map f l i]
/-- Without one. -/
def dropM (x : K2) (ms : List Mm) : List Mm := match fnd x ms 0 with
  | some (i, _) => ms.eraseIdx i
  | none => ms
theorem fnd_lt (x : K2) : ∀ (ms : List Mm) (i j : Nat) (v : Value), fnd x ms i = some (j, v) → i ≤ j ∧ j < i + ms.length
  | [], i, j, v, h => by simp [fnd] at h
  | m :: ms, i, j, v, h => by
    unfold fnd at h
    split at h
    · simp at h; simp; omega
    · have := fnd_lt x ms (i + 1) j v h
      simp; omega
theorem run_delete {W : World} {bm ck : Nat} {ms : List Mm} (h : IsM W bm ms ck) {x : K2} (hx : IsK x) (ty : TypeId) : (Builtin.delete_ #[48, 30] ty #[.map (some bm), .agg (keyV x)]).run Try.prog W = .ok (.tuple #[]) (setMap W bm (dropM x ms) ck) := by
  unfold Builtin.delete_
  have hl : ((ms.map mkM).toArray.toList) = ms.map mkM := by simp
  cases hf : fnd x ms 0 with
  | none =>
    simp [run_underlying Try.underlying48, MapKept.run_getObj_map h, check30 W _ hx, hl, run_find W x ms, hf, MapKept.run_setObj_map _ h, dropM, setMap]
  | some r =>
    obtain ⟨i, v⟩ := r
    have hi := (fnd_lt x ms 0 i v hf).2
    simp [run_underlying Try.underlying48, MapKept.run_getObj_map h, check30 W _ hx, hl, run_find W x ms, hf, MapKept.run_setObj_map _ h, dropM, setMap, eraseIdx_map]
/-- A new entry. -/
theorem run_update {W : World} {bm ck p : Nat} {ms : List Mm} (h : IsM W bm ms ck) {x : K2} (hx : IsK x) (hno : fnd x ms 0 = none) :
    (Instr.mapUpdate 48 (.map (some bm)) (.agg (keyV x)) (ptr p)).run Try.prog W = .ok () (setMap W bm (ms ++ [(x, p, ck)]) (ck + 1)) := by
  have hl : ((ms.map mkM).toArray.toList) = ms.map mkM := by simp
  unfold Instr.mapUpdate
  simp [run_underlying Try.underlying48, MapKept.run_getObj_map h, check30 W _ hx, hl, run_find W x ms, hno, MapKept.run_setObj_map _ h, setMap, mkM]
theorem run_len {W : World} {bm ck : Nat} {ms : List Mm} (h : IsM W bm ms ck) (ty : TypeId) : (Builtin.len_ #[48] ty #[.map (some bm)]).run Try.prog W = .ok (.int .i64 ms.length) W := by
  simp [Builtin.len_, run_underlying Try.underlying48, MapKept.run_getObj_map h, goInt, Result.andThen]
theorem fnd_none {x : K2} : ∀ {ms : List Mm} {i : Nat}, (∀ m ∈ ms, m.1 ≠ x) → fnd x ms i = none
  | [], i, h => rfl
  | m :: ms, i, h => by
    have h1 := h m (by simp)
    unfold fnd
    rw [if_neg (by simpa using fun e => h1 e.symm)]
    exact fnd_none fun m hm => h m (by simp [hm])
theorem fnd_mem {x : K2} : ∀ {ms : List Mm} {i j : Nat} {v : Value}, fnd x ms i = some (j, v) → ∃ q, i + q = j ∧ ∃ m, ms[q]? = some m ∧ m.1 = x ∧ v = ptr m.2.1
  | [], i, j, v, h => by simp [fnd] at h
  | m :: ms, i, j, v, h => by
    unfold fnd at h
    split at h
    · rename_i he
      simp only [Option.some.injEq, Prod.mk.injEq] at h
      obtain ⟨rfl, rfl⟩ := h
      exact ⟨0, rfl, m, rfl, (beq_iff_eq.1 he).symm, rfl⟩
    · obtain ⟨q, hq, m', h1, h2⟩ := fnd_mem h
      exact ⟨q + 1, by omega, m', by simpa using h1, h2⟩
theorem fnd_some {x : K2} {ms : List Mm} {i : Nat} (h : ∃ m ∈ ms, m.1 = x) : ∃ j v, fnd x ms i = some (j, v) := by
  cases hf : fnd x ms i with
  | some r => exact ⟨r.1, r.2, rfl⟩
  | none =>
    exfalso
    obtain ⟨m, hm, rfl⟩ := h
    induction ms generalizing i with
    | nil => simp at hm
    | cons a ms ih =>
      unfold fnd at hf
      split at hf
      · cases hf
      · rename_i he
        rcases List.mem_cons.1 hm with rfl | hm
        · exact he (by simp)
        · exact ih hm hf
end Go.Proofs.Ytepenfgoejhofaa
