/- Routers held against one another; lists looked at. No condition. -/
import Derived.Test.YtnchjbgfmkmbaaaMade
namespace Go.Proofs.Ytnchjbgfmkmbaaa
open Go.ChangeShapes Go.WideShapes Go.ChangeAt Go.RowKit Go.Deep
set_option linter.unusedVariables false
set_option linter.unusedSimpArgs false

theorem part_addr (W : World) {e : E} (he : IsE e) : (part 23 (encV e) 0).run Try.prog W = .ok (.agg (bytesV e.1)) W := by
  obtain ⟨i, hi⟩ := info_of_underlying (P := Try.prog) Try.underlying23
  have hs : Try.prog.cellsOf 23 = 16 := cells23
  have hx : (encV e).extract 0 16 = bytesV e.1 := by
    obtain ⟨a, r, u⟩ := e
    obtain ⟨_, _, _, _, _, _, _, _, _, _, _, _, _, _, _, _, rfl⟩ := addr_ex he.addr
    rfl
  simp [part, isAgg, run_underlying Try.underlying23, run_sizeOf W hi, hs, hx]
theorem eqFields_cons {P : Program} {W : World} {d : Nat} {f : Field} {fs : List Field} {xs : Array Value} {a : Value} (hn : ¬ f.name = "_") (pa : (part f.type xs f.offset).run P W = .ok a W) (he : (Op.equalIn d f.type a a).run P W = .ok true W)
    (rest : (Op.eqFields d xs xs fs).run P W = .ok true W) : (Op.eqFields d xs xs (f :: fs)).run P W = .ok true W := by
  simp [Op.eqFields, hn, Sem.run_bind, pa, he, rest]
theorem eq48d (W : World) (d : Nat) {x : E} (he : IsE x) : (Op.equalIn (d + 3) 48 (.agg (encV x)) (.agg (encV x))).run Try.prog W = .ok true W := by
  have hf : (Try.prog.fieldsOf 48).toList.map (fun f => (f.type, f.offset, decide (f.name = "_"))) = [(23, 0, false), (3, 16, false), (37, 17, false)] := by kernel_rfl
  rw [run_equalIn_struct W (d + 2) 48 _ _ (by kernel_rfl) (by kernel_rfl)]
  generalize (Try.prog.fieldsOf 48).toList = fs at hf
  obtain ⟨f, g, h, rfl⟩ : ∃ f g h, fs = [f, g, h] := by
    rcases fs with _ | ⟨f, _ | ⟨g, _ | ⟨h, _ | ⟨i, fs⟩⟩⟩⟩
    · cases congrArg List.length hf
    · cases congrArg List.length hf
    · cases congrArg List.length hf
    · exact ⟨f, g, h, rfl⟩
    · cases congrArg List.length hf
  simp only [List.map_cons, List.map_nil, List.cons.injEq, Prod.mk.injEq, decide_eq_false_iff_not, and_true] at hf
  obtain ⟨⟨h1, h2, h3⟩, ⟨h4, h5, h6⟩, h7, h8, h9⟩ := hf
  have p3 : Try.prog.plainKey 3 = true := by kernel_rfl
  have p37 : Try.prog.plainKey 37 = true := by kernel_rfl
  obtain ⟨i, hi⟩ := info_of_underlying (P := Try.prog) Try.underlying5
  have e1 : (Op.equalIn (d + 2) 23 (.agg (bytesV x.1)) (.agg (bytesV x.1))).run Try.prog W = .ok true W := by
    have := run_equal_bytes W d Try.underlying23 hi (by kernel_rfl) Try.underlying5 x.1 x.1 he.addr.len he.addr.len
    simpa using this
  have e3 : (Op.equalIn (d + 2) 3 (.int .i64 x.2.1) (.int .i64 x.2.1)).run Try.prog W = .ok (x.2.1 == x.2.1) W := run_equalIn_int W (d + 1) 3 .i64 .i64 x.2.1 x.2.1 Try.underlying3
  have e37 : (Op.equalIn (d + 2) 37 (.int .u64 x.2.2) (.int .u64 x.2.2)).run Try.prog W = .ok (x.2.2 == x.2.2) W := run_equalIn_int W (d + 1) 37 .u64 .u64 x.2.2 x.2.2 Try.underlying37
  have q1 := part_addr W he
  have q2 := run_part_plain W p3 (xs := encV x) (off := 16) (rank_encV he)
  have q3 := run_part_plain W p37 (xs := encV x) (off := 17) (until_encV he)
  rw [beq_self_eq_true] at e3 e37
  clear hi
  refine eqFields_cons h3 (by rw [h1, h2]; exact q1) (by rw [h1]; exact e1) (eqFields_cons h6 (by rw [h4, h5]; exact q2) (by rw [h4]; exact e3) (eqFields_cons h9 (by rw [h7, h8]; exact q3) (by rw [h7]; exact e37) ?_))
  rfl
theorem eq48 (W : World) {x : E} (he : IsE x) : (Op.equalIn 10000 48 (.agg (encV x)) (.agg (encV x))).run Try.prog W = .ok true W := eq48d W 9997 he
theorem guard48 : Try.prog.eqGuardType Try.prog.depth 48 = false := by kernel_rfl

theorem filter_at {α : Type} {p : α → Bool} {L : List α} {j : Nat} {e : α} (h : L[j]? = some e) (hp : p e = true) : (L.filter p)[((L.take j).filter p).length]? = some e := by
  obtain ⟨hl, rfl⟩ := List.getElem?_eq_some_iff.1 h
  have hs : L.filter p = (L.take j).filter p ++ L[j] :: (L.drop (j + 1)).filter p := by
    conv => lhs; rw [← List.take_append_drop j L, List.drop_eq_getElem_cons hl, List.filter_append, List.filter_cons_of_pos hp]
  rw [hs, List.getElem?_append_right (Nat.le_refl _), Nat.sub_self]
  rfl
/-- How many there are for which it holds. -/
def num (p : E → Bool) (L : List E) : Nat := (L.filter p).length
theorem num_snoc {p : E → Bool} {L : List E} {j : Nat} {e : E} (h : L[j]? = some e) : num p (L.take (j + 1)) = num p (L.take j) + if p e then 1 else 0 := by
  rw [num, List.take_add_one, h, List.filter_append, List.length_append]
  cases hx : p e <;> simp [hx, num]
theorem GivenK.at_ {W : World} {lo : Nat} {A : Option Addr} {L : List E} (h : GivenK lo W (.slice A L.length L.length) L) (hn : 0 < L.length) : ∃ g, A = some ⟨g, 0, none⟩ ∧ ∀ j e, L[j]? = some e → W.rangeAt g (j * 18) (enc e) := by
  obtain ⟨A', h1, h2⟩ := h
  injection h1 with h1
  subst h1
  obtain ⟨g, cur, rfl, _, hb, hc⟩ := h2 hn
  exact ⟨g, rfl, fun j e he i u hu => hb.at_ (hc j e he i u hu)⟩
theorem GivenA.at_ {W : World} {lo : Nat} {A : Option Addr} {L : List (List Int)} (h : GivenA lo W (.slice A L.length L.length) L) (hn : 0 < L.length) : ∃ g, A = some ⟨g, 0, none⟩ ∧ ∀ j x, L[j]? = some x → W.rangeAt g (j * 16) (enc16 x) := by
  obtain ⟨A', h1, h2⟩ := h
  injection h1 with h1
  subst h1
  obtain ⟨g, cur, rfl, _, hb, hc⟩ := h2 hn
  refine ⟨g, rfl, fun j x hx i u hu => hb.at_ ?_⟩
  rw [enc16, List.getElem?_map] at hu
  cases hy : x[i]? with
  | none => rw [hy] at hu; cases hu
  | some y => rw [hy] at hu; injection hu with hu; subst hu; exact hc j x hx i y hy
theorem pick_isaddr {es : List E} (ho : ∀ e ∈ es, IsE e) (good : List (List Int)) (last : List Int) (had : Bool) : IsAddr (pickS good es last had).1 := by
  rw [pickS]
  split
  · exact zeroA_is
  · rename_i h0
    have hl : 0 < es.length := List.length_pos_iff.2 h0
    split
    · rename_i e hf
      exact (ord_ok ho e (List.mem_of_find?_eq_some hf)).addr
    · obtain ⟨y, hy⟩ : ∃ y, (ord es)[nextP last had es]? = some y := ⟨_, List.getElem?_eq_getElem (by rw [ord_len ho]; exact Nat.mod_lt _ hl)⟩
      rw [hy]
      exact (ord_ok ho y (List.mem_of_getElem? hy)).addr
end Go.Proofs.Ytnchjbgfmkmbaaa
