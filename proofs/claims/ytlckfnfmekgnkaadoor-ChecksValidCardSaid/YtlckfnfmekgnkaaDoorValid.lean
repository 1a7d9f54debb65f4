/- The table of the kinds' rules; whether a message counts. No condition but that the table of known addresses lies where it was laid. -/
import Derived.Test.YtlckfnfmekgnkaaDoorRules2
namespace Go.Proofs.YtlckfnfmekgnkaaDoor
open Go.ChangeShapes Go.WideShapes Go.ChangeAt Go.RowKit Go.Deep Go.MapKept
set_option linter.unusedVariables false
set_option linter.unusedSimpArgs false

theorem set_alloc_new (W : World) (o o' : Obj) : ({ W.alloc o with heap := (W.alloc o).heap.setIfInBounds W.heap.size o' } : World) = W.alloc o' := by
  have e : (W.alloc o).heap = W.heap.push o := rfl
  have e' : W.alloc o' = { W with heap := W.heap.push o' } := rfl
  rw [e', e]
  have : (W.heap.push o).setIfInBounds W.heap.size o' = W.heap.push o' := by
    apply Array.ext_getElem?
    intro i
    rw [Array.getElem?_setIfInBounds, Array.getElem?_push, Array.getElem?_push, Array.size_push]
    by_cases h : W.heap.size = i
    · subst h; simp
    · have h' : ¬ i = W.heap.size := fun e => h e.symm
      simp [h, h']
  rw [this]
  rfl

theorem run_insert_new {P : Program} (W : World) {t kt e : TypeId} {q : IntKind} (hu : P.underlying t = some (.map kt e)) (hk : P.underlying kt = some (.int q)) (es : Array MapEntry) (c : Nat) (k : Int) (v : Value)
    (hf : Instr.findNow (.int q) (.int q k) es.toList 0 = some none) :
    (Instr.mapUpdate t (.map (some W.heap.size)) (.int q k) v).run P (W.alloc (.map es c)) = .ok () (W.alloc (.map (es.push { key := .int q k, val := v, born := c }) (c + 1))) := by
  have hb : (W.alloc (.map es c)).heap[W.heap.size]? = some (.map es c) := heap_alloc_last W _
  have h1 := run_findKey (P := P) (w := W.alloc (.map es c)) hk hf
  have h2 := run_checkKey (P := P) (w := W.alloc (.map es c)) (k := .int q k) hk (by simp [IsKey]) false 9999
  have h3 := MapKept.run_setObj_map (P := P) (.map (es.push { key := .int q k, val := v, born := c }) (c + 1)) hb
  rw [set_alloc_new] at h3
  simp [Instr.mapUpdate, run_underlying hu, MapKept.run_getObj_map hb, h1, h2, h3, Result.andThen_ok]

theorem wpList_insert_new {P : Program} {W : World} {ops : Array Oper} {rest : List Oper} {o : Oper} {a : Act} {Q : Exit → Act → World → Prop} (hgd : o.guard = none) (hd : o.dst = none) {t kt e : TypeId} {q : IntKind} (hu : P.underlying t = some (.map kt e)) (hk : P.underlying kt = some (.int q))
    (m k x : Operand) (ho : o.op = .insert t m k x) (es : Array MapEntry) (c g : Nat) (kk : Int) (v : Value) (hm : a.eval m = .map (some g)) (hg : g = W.heap.size) (hkk : a.eval k = .int q kk) (hx : a.eval x = v)
    (hf : Instr.findNow (.int q) (.int q kk) es.toList 0 = some none)
    (h : wpList P ops Q rest a (W.alloc (.map (es.push { key := .int q kk, val := v, born := c }) (c + 1)))) : wpList P ops Q (o :: rest) a (W.alloc (.map es c)) := by
  subst hg
  refine wpList_plain hgd fun K hK => ?_
  unfold Oper.wp execOp
  simp only [ho, hm, hkk, hx, Sem.run_bind, Sem.run_pure, Result.andThen_ok, run_insert_new W hu hk es c kk v hf]
  exact hK _ _ (by rw [hd]; exact h)

def ent (k : Int) (h : Int) (f : Nat) (n : Nat) : MapEntry := { key := .int .u8 k, val := .agg #[.int .u8 h, .func (.func f) #[] #[]], born := n }
def table : Array MapEntry := #[ent 133 255 39 0, ent 134 255 40 1, ent 135 255 41 2, ent 136 255 42 3, ent 137 255 43 4, ent 130 1 44 5, ent 143 1 45 6]

theorem rules_any (w : World) : Calls Tryd.prog 25 #[] w fun e w' => e = .returned (.map (some w.heap.size)) ∧ w' = w.alloc (.map table 7) := by
  have hmm := @run_makeMap Tryd.prog
  go_enter Tryd.func25, Tryd.ntmps25
  go_wp2_with (refine wpList_insert_new rfl rfl Tryd.underlying62 Tryd.underlying5 _ _ _ rfl _ _ _ _ _ rfl (by simp) rfl rfl (by rfl) ?_)
  go_ret
  exact ⟨rfl, rfl⟩

theorem run_look {P : Program} (W : World) {t kt e : TypeId} {q : IntKind} (hu : P.underlying t = some (.map kt e)) (hk : P.underlying kt = some (.int q)) (es : Array MapEntry) (c g : Nat) (k : Int) (i : Nat) (v : Value)
    (hb : W.heap[g]? = some (.map es c)) (hf : Instr.findNow (.int q) (.int q k) es.toList 0 = some (some (i, v))) :
    (Instr.lookup t (.map (some g)) (.int q k) true).run P W = .ok (.tuple #[v, .bool true]) W := by
  have h1 := run_findKey (P := P) (w := W) hk hf
  have h2 := run_checkKey (P := P) (w := W) (k := .int q k) hk (by simp [IsKey]) es.isEmpty 9999
  simp [Instr.lookup, run_underlying hu, MapKept.run_getObj_map hb, h1, h2, Result.andThen_ok]
theorem run_look_no {P : Program} (W : World) {t kt e : TypeId} {q : IntKind} (hu : P.underlying t = some (.map kt e)) (hk : P.underlying kt = some (.int q)) (es : Array MapEntry) (c g : Nat) (k : Int) (z : Value)
    (hb : W.heap[g]? = some (.map es c)) (hf : Instr.findNow (.int q) (.int q k) es.toList 0 = some none) (hz : (zeroValue e).run P W = .ok z W) :
    (Instr.lookup t (.map (some g)) (.int q k) true).run P W = .ok (.tuple #[z, .bool false]) W := by
  have h1 := run_findKey (P := P) (w := W) hk hf
  have h2 := run_checkKey (P := P) (w := W) (k := .int q k) hk (by simp [IsKey]) es.isEmpty 9999
  simp [Instr.lookup, run_underlying hu, MapKept.run_getObj_map hb, h1, h2, Result.andThen_ok, hz]
end Go.Proofs.YtlckfnfmekgnkaaDoor
