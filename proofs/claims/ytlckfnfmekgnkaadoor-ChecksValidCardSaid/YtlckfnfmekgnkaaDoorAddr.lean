/- Bytes as one array value, loaded from memory; a load and an append as steps of a list of operations, guarded or not. Of no program; no condition. -/
import Derived.Test.YtlckfnfmekgnkaaDoorAid
namespace Go.Proofs.YtlckfnfmekgnkaaDoor
open Go.ChangeShapes Go.WideShapes Go.ChangeAt Go.RowKit
set_option linter.unusedVariables false

/-- An address's bytes, and as a value. -/
structure IsAddr (l : List Int) : Prop where
  len : l.length = 16
  rng : ∀ x ∈ l, 0 ≤ x ∧ x ≤ 255
def bytesV (l : List Int) : Array Value := (l.map (Value.int .u8)).toArray
theorem bytesV_size (l : List Int) : (bytesV l).size = l.length := by simp [bytesV]
theorem bytesV_get (l : List Int) (j : Nat) : (bytesV l)[j]? = (l[j]?).map (Value.int .u8) := by simp [bytesV]
theorem Blk.bytes {w : World} {g : Nat} {t : TypeId} {l : List Int} (h : Blk w g t (bytesV l)) (j : Nat) (y : Int) (hy : l[j]? = some y) : w.cell? ⟨g, 0 + j, none⟩ = some (.int .u8 y) :=
  h.at_ (by rw [Nat.zero_add, bytesV_get, hy]; rfl)

section
variable {P : Program}
/-- Bytes that lie in memory, loaded as one array. -/
theorem run_load_bytes (w : World) (g off : Nat) (ty : TypeId) (d : TypeDesc) (l : List Int) (hc : ∀ j y, l[j]? = some y → w.cell? ⟨g, off + j, none⟩ = some (.int .u8 y))
    (hu : P.underlying ty = some d) (hd : (match d with | .struct _ | .array _ _ => true | _ => false) = true) (hi : (P.info? ty).map (·.size) = some l.length) :
    (loadVar ty ⟨g, off, none⟩).run P w = .ok (.agg (bytesV l)) w := by
  have hl : (loadCells ⟨g, off, none⟩ (l.map (Value.int .u8)).length).run P w = .ok (l.map (Value.int .u8)).toArray w :=
    run_loadCells_list (P := P) w ⟨g, off, none⟩ (l.map (Value.int .u8)) (fun j v hv => by
      have hadd : (⟨g, off, none⟩ : Addr).add j = ⟨g, off + j, none⟩ := by unfold Addr.add; split <;> simp_all
      rw [hadd]
      rw [List.getElem?_map] at hv
      cases h : l[j]? with
      | none => rw [h] at hv; cases hv
      | some y => rw [h] at hv; simp at hv; subst hv; exact hc j y h)
  cases hq : P.info? ty with
  | none => simp [hq] at hi
  | some i =>
    have hs : i.size = l.length := by simpa [hq] using hi
    have hagg : (isAgg ty).run P w = .ok true w := by
      unfold isAgg
      rw [Sem.run_bind, run_underlying hu w]
      cases d <;> simp_all
    rw [List.length_map] at hl
    simp [loadVar, Sem.run_bind, hagg, sizeOf, typeInfo, hq, hs, hl, bytesV]

/-- A load of which it is known what it answers, as a step; guarded or not. -/
theorem wpList_load_want {ops : Array Oper} {rest : List Oper} {o : Oper} {a : Act} {w : World} {Q : Exit → Act → World → Prop} (hw : Region.wanted o (yielded ops a.tmps) = true) (ty : TypeId) (x : Operand) (ho : o.op = .load ty x)
    (ad : Addr) (hx : a.eval x = .pointer (some ad)) (v : Value) (hrun : (loadVar ty ad).run P w = .ok v w)
    (h : wpList P ops Q rest (a.put o.dst v) w) : wpList P ops Q (o :: rest) a w :=
  wpList_step fun K hK => by
    rw [if_pos hw]
    unfold Oper.wp execOp
    simp only [ho, hx, Instr.loadAt, Instr.sureAddr, Sem.run_bind, Sem.run_pure, Result.andThen_ok, hrun]
    exact hK _ _ h

theorem wpList_append_want (w : World) {ops : Array Oper} {rest : List Oper} {o : Oper} {a : Act} {Q : Exit → Act → World → Prop} (hw : Region.wanted o (yielded ops a.tmps) = true) (s x : Operand) {t e : TypeId} {size bytes : Nat} (ht : SlTy P t e size bytes)
    (ho : o.op = .call { callee := .builtin .append, args := #[s, x], argTypes := #[t, t] })
    {base : Nat} {v : Value} {n : Nat} {xs : List Value} (hs : a.eval s = v) (hown : w.ownsRow base e size v n xs)
    {B : Nat} {A : Option Addr} {m c : Nat} {news : List Value} (hx : a.eval x = .slice A m c) (hr : Rd w B size A m c news) (h1 : ∀ u ∈ news, u.oneCell' = true)
    (h63 : n + m ≤ maxLen) (hbytes : (n + m) * bytes ≤ 140737488355328) (hbase : base ≤ w.heap.size)
    (h : ∀ v' w', w'.ownsRow base e size v' (n + m) (xs ++ news) → w.grownBy w' v.ownBlock → (v'.ownBlock = v.ownBlock ∨ v'.ownBlock = some w.heap.size) → (v' = .slice none 0 0 ↔ v = .slice none 0 0 ∧ m = 0) → wpList P ops Q rest (a.put o.dst v') w') : wpList P ops Q (o :: rest) a w :=
  wpList_step fun K hK => by
    rw [if_pos hw]
    exact wp_append_rd w s x ht ho hs hown hx hr h1 h63 hbytes hbase fun v' w' h2 h3 h4 h5 => hK _ _ (h v' w' h2 h3 h4 h5)
end
end Go.Proofs.YtlckfnfmekgnkaaDoor
