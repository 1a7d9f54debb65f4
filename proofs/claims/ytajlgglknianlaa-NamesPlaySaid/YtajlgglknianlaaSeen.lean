/- Lists that a book gave, later on: what lies in them. No condition. -/
import Derived.Test.YtajlgglknianlaaGreat
import Derived.Test.YtajlgglknianlaaBoundP
import Derived.Laws.StructEq
namespace Go.Proofs.Ytajlgglknianlaa
open Go.ChangeShapes Go.WideShapes Go.ChangeAt Go.RowKit Go.Deep
set_option linter.unusedVariables false
set_option linter.unusedSimpArgs false

theorem Bk.draw {w : World} {B : Nat} {vs vd : Value} {ss : List Sv.E} {ds : List Dm.E} (h : Bk w B vs vd ss ds) : Bk w.drew B vs vd ss ds := h.to (Below.refl _ w).drew
/-- A list of servers that was given, in a block of no lower number than lo. -/
def SvL (lo : Nat) (W : World) (v : Value) (es : List Sv.E) : Prop := ∃ A, v = .slice A es.length es.length ∧ (0 < es.length → ∃ g cur, A = some ⟨g, 0, none⟩ ∧ lo ≤ g ∧ Blk W g 48 cur ∧ cur.toList.take (es.length * 17) = Sv.flat es)
def DmL (lo : Nat) (W : World) (v : Value) (es : List Dm.E) : Prop := ∃ A, v = .slice A es.length es.length ∧ (0 < es.length → ∃ g cur, A = some ⟨g, 0, none⟩ ∧ lo ≤ g ∧ Blk W g 46 cur ∧ cur.toList.take (es.length * 2) = Dm.flat es)
theorem Sv.Given.l {w W : World} {v : Value} {es : List Sv.E} (h : Sv.Given w W v es) : SvL w.heap.size W v es := by
  obtain ⟨A, hA, hc⟩ := h.out
  exact ⟨A, hA, fun hn => by
    obtain ⟨g, cur, h1, h2, h3, _, h5⟩ := hc hn
    exact ⟨g, cur, h1, h2, h3, h5⟩⟩
theorem Dm.Given.l {w W : World} {v : Value} {es : List Dm.E} (h : Dm.Given w W v es) : DmL w.heap.size W v es := by
  obtain ⟨A, hA, hc⟩ := h.out
  exact ⟨A, hA, fun hn => by
    obtain ⟨g, cur, h1, h2, h3, _, h5⟩ := hc hn
    exact ⟨g, cur, h1, h2, h3, h5⟩⟩
theorem Sv.given_at' {cur : Array Value} {es : List Value} {k : Nat} (h : cur.toList.take k = es) {j : Nat} {v : Value} (hj : es[j]? = some v) (hk : j < k) : cur[j]? = some v := by
  rw [← h, List.getElem?_take_of_lt hk] at hj
  simpa using hj
section
variable {lo : Nat} {w W : World} {v : Value} {S : Nat → Prop}
theorem SvL.fr {es : List Sv.E} (h : SvL lo w v es) (hf : Fr S w W) (hS : ∀ k, S k → k < lo) : SvL lo W v es := by
  obtain ⟨A, hA, hc⟩ := h
  exact ⟨A, hA, fun hn => by
    obtain ⟨g, cur, h1, h2, h3, h5⟩ := hc hn
    exact ⟨g, cur, h1, h2, h3.fr hf (fun e => by have := hS g e; omega), h5⟩⟩
theorem DmL.fr {es : List Dm.E} (h : DmL lo w v es) (hf : Fr S w W) (hS : ∀ k, S k → k < lo) : DmL lo W v es := by
  obtain ⟨A, hA, hc⟩ := h
  exact ⟨A, hA, fun hn => by
    obtain ⟨g, cur, h1, h2, h3, h5⟩ := hc hn
    exact ⟨g, cur, h1, h2, h3.fr hf (fun e => by have := hS g e; omega), h5⟩⟩
theorem SvL.to {es : List Sv.E} (h : SvL lo w v es) (hb : Below w.heap.size w W) : SvL lo W v es := h.fr (Fr.of_below hb (fun _ => False)) (fun _ e => e.elim)
theorem DmL.to {es : List Dm.E} (h : DmL lo w v es) (hb : Below w.heap.size w W) : DmL lo W v es := h.fr (Fr.of_below hb (fun _ => False)) (fun _ e => e.elim)
theorem DmL.to2 {lo' : Nat} {es : List Dm.E} (h : DmL lo w v es) (hl : lo' ≤ lo) : DmL lo' w v es := by
  obtain ⟨A, hA, hc⟩ := h
  exact ⟨A, hA, fun hn => by
    obtain ⟨g, cur, h1, h2, h3, h5⟩ := hc hn
    exact ⟨g, cur, h1, by omega, h3, h5⟩⟩
/-- The address of one of them, and its time. -/
theorem SvL.blk {es : List Sv.E} (h : SvL lo w v es) (ho : ∀ e ∈ es, Sv.IsE e) (hn : 0 < es.length) : ∃ g cur, v = .slice (some ⟨g, 0, none⟩) es.length es.length ∧ lo ≤ g ∧ Blk w g 48 cur ∧
    ∀ j e, es[j]? = some e → At cur (j * 17) e.1 ∧ cur[j * 17 + 16]? = some (.int .u64 e.2) := by
  obtain ⟨A, rfl, hc⟩ := h
  obtain ⟨g, cur, rfl, h2, h3, h5⟩ := hc hn
  refine ⟨g, cur, rfl, h2, h3, fun j e he => ?_⟩
  have hj := (List.getElem?_eq_some_iff.1 he).1
  have hE := ho e (List.mem_of_getElem? he)
  have key : ∀ i v, (Sv.enc e)[i]? = some v → cur[j * 17 + i]? = some v := fun i v hv => by
    have hi : i < 17 := by have := (List.getElem?_eq_some_iff.1 hv).1; rwa [Sv.isEnc.len e hE] at this
    have hlt : j * 17 + i < es.length * 17 := by have : (j + 1) * 17 ≤ es.length * 17 := Nat.mul_le_mul_right _ hj; omega
    have := Sv.isEnc.flat_at ho he i hi
    rw [hv] at this
    exact Sv.given_at' h5 this hlt
  refine ⟨fun i y hy => key i _ ?_, key 16 _ ?_⟩
  · have hi : i < e.1.length := (List.getElem?_eq_some_iff.1 hy).1
    rw [Sv.enc, List.getElem?_append_left (by simpa using hi), List.getElem?_map, hy]; rfl
  · rw [Sv.enc, List.getElem?_append_right (by simp [hE.addr.len])]
    simp [hE.addr.len]
theorem DmL.blk {es : List Dm.E} (h : DmL lo w v es) (ho : ∀ e ∈ es, Dm.IsE e) (hn : 0 < es.length) : ∃ g cur, v = .slice (some ⟨g, 0, none⟩) es.length es.length ∧ lo ≤ g ∧ Blk w g 46 cur ∧
    ∀ j e, es[j]? = some e → cur[j * 2]? = some (.string e.1) ∧ cur[j * 2 + 1]? = some (.int .u64 e.2) := by
  obtain ⟨A, rfl, hc⟩ := h
  obtain ⟨g, cur, rfl, h2, h3, h5⟩ := hc hn
  refine ⟨g, cur, rfl, h2, h3, fun j e he => ?_⟩
  have hj := (List.getElem?_eq_some_iff.1 he).1
  have hE := ho e (List.mem_of_getElem? he)
  have key : ∀ i v, (Dm.enc e)[i]? = some v → cur[j * 2 + i]? = some v := fun i v hv => by
    have hi : i < 2 := by have := (List.getElem?_eq_some_iff.1 hv).1; rwa [Dm.isEnc.len e hE] at this
    have hlt : j * 2 + i < es.length * 2 := by omega
    have := Dm.isEnc.flat_at ho he i hi
    rw [hv] at this
    exact Sv.given_at' h5 this hlt
  exact ⟨key 0 _ rfl, key 1 _ rfl⟩
end
theorem Sv.isL_mono {W : World} {p q : Nat → Prop} {A : Option Addr} {n c : Nat} {xs : List (List Int)} (h : Sv.IsL W p A n c xs) (hq : ∀ b, b < W.heap.size → p b → q b) : Sv.IsL W q A n c xs :=
  ⟨h.cap, h.cmax, h.len, h.ok, fun hn => by
    obtain ⟨b, off, e, h1, h2, h3⟩ := h.at_ hn
    exact ⟨b, off, e, h1, hq b h1 h2, h3⟩⟩
theorem Dm.isL_mono {W : World} {p q : Nat → Prop} {A : Option Addr} {n c : Nat} {xs : List ByteArray} (h : Dm.IsL W p A n c xs) (hq : ∀ b, b < W.heap.size → p b → q b) : Dm.IsL W q A n c xs :=
  ⟨h.cap, h.cmax, h.len, fun hn => by
    obtain ⟨b, off, e, h1, h2, h3⟩ := h.at_ hn
    exact ⟨b, off, e, h1, hq b h1 h2, h3⟩⟩
theorem eq46 (W : World) (x y : Dm.E) : (Op.equalIn 10000 46 (.agg (Dm.encV x)) (.agg (Dm.encV y))).run Try.prog W = .ok (Dm.sameT x.1 y.1 && x.2 == y.2) W := by
  have hf : (Try.prog.fieldsOf 46).toList.map (fun f => (f.type, f.offset, decide (f.name = "_"))) = [(9, 0, false), (28, 1, false)] := by kernel_rfl
  rw [run_equalIn_struct W 9999 46 _ _ (by kernel_rfl) (by kernel_rfl)]
  generalize (Try.prog.fieldsOf 46).toList = fs at hf
  obtain ⟨f, g, rfl⟩ : ∃ f g, fs = [f, g] := by
    rcases fs with _ | ⟨f, _ | ⟨g, _ | ⟨h, fs⟩⟩⟩
    · cases congrArg List.length hf
    · cases congrArg List.length hf
    · exact ⟨f, g, rfl⟩
    · cases congrArg List.length hf
  · skip
    simp only [List.map_cons, List.map_nil, List.cons.injEq, Prod.mk.injEq, decide_eq_false_iff_not, and_true] at hf
    obtain ⟨⟨h1, h2, h3⟩, h4, h5, h6⟩ := hf
    have p9 : Try.prog.plainKey 9 = true := by kernel_rfl
    have p28 : Try.prog.plainKey 28 = true := by kernel_rfl
    have e9 : (Op.equalIn 9999 9 (.string x.1) (.string y.1)).run Try.prog W = .ok (x.1.toList == y.1.toList) W := run_equalIn_string W 9998 9 x.1 y.1 Try.underlying9
    have e28 : (Op.equalIn 9999 28 (.int .u64 x.2) (.int .u64 y.2)).run Try.prog W = .ok (x.2 == y.2) W := run_equalIn_int W 9998 28 .u64 .u64 x.2 y.2 Try.underlying28
    have q1 := run_part_plain W p9 (xs := Dm.encV x) (off := 0) (v := .string x.1) rfl
    have q2 := run_part_plain W p9 (xs := Dm.encV y) (off := 0) (v := .string y.1) rfl
    have q3 := run_part_plain W p28 (xs := Dm.encV x) (off := 1) (v := .int .u64 x.2) rfl
    have q4 := run_part_plain W p28 (xs := Dm.encV y) (off := 1) (v := .int .u64 y.2) rfl
    unfold Dm.sameT
    cases hs : (x.1.toList == y.1.toList) <;> cases hq : (x.2 == y.2) <;> rw [hs] at e9 <;> rw [hq] at e28 <;> simp [Op.eqFields, h1, h2, h3, h4, h5, h6, q1, q2, q3, q4, e9, e28, Sem.run_bind, Sem.run_pure]
theorem guard46 : Try.prog.eqGuardType Try.prog.depth 46 = false := by kernel_rfl

/-- While a round of the law looks: the book; the list of domains before and behind, the list of servers; the act. -/
structure Bd (w : World) (B bx : Nat) (a : ActV) (vs vd : Value) (ss : List Sv.E) (ds : List Dm.E) (dv ev sv : Value) (W : World) : Prop where
  bk : Bk W B vs vd ss ds
  d : DmL (bx + 1) W dv ds
  e : DmL (bx + 1) W ev ds
  s : SvL (bx + 1) W sv ss
  x : Blk W bx 42 a.cells.toArray
  act : IsAct W w.heap.size a
  bel : Below w.heap.size w W
  lt : bx < W.heap.size
theorem Bd.to {w W V : World} {B bx : Nat} {a : ActV} {vs vd : Value} {ss : List Sv.E} {ds : List Dm.E} {dv ev sv : Value} (h : Bd w B bx a vs vd ss ds dv ev sv W) (hb : Below W.heap.size W V) : Bd w B bx a vs vd ss ds dv ev sv V :=
  ⟨h.bk.to hb, h.d.to hb, h.e.to hb, h.s.to hb, h.x.below hb h.lt, h.act.to h.bel.size (hb.mono h.bel.size), h.bel.trans (hb.mono h.bel.size), Nat.lt_of_lt_of_le h.lt hb.size⟩
theorem Bd.draw {w W : World} {B bx : Nat} {a : ActV} {vs vd : Value} {ss : List Sv.E} {ds : List Dm.E} {dv ev sv : Value} (h : Bd w B bx a vs vd ss ds dv ev sv W) : Bd w B bx a vs vd ss ds dv ev sv W.drew := h.to (Below.refl _ W).drew
structure Be (w : World) (B : Nat) (vs vd : Value) (ss : List Sv.E) (ds : List Dm.E) (ev : Value) (W : World) : Prop where
  bk : Bk W B vs vd ss ds
  e : DmL 0 W ev ds
  bel : Below w.heap.size w W
theorem Be.draw {w W : World} {B : Nat} {vs vd : Value} {ss : List Sv.E} {ds : List Dm.E} {ev : Value} (h : Be w B vs vd ss ds ev W) : Be w B vs vd ss ds ev W.drew := ⟨h.bk.draw, h.e.to (Below.refl _ W).drew, h.bel.drew⟩
end Go.Proofs.Ytajlgglknianlaa
