/- The reference: an entry of a row written over. Of no function; no condition. -/
import Derived.Test.YtpjjcihhmhccfaaRefNext
namespace Go.Proofs.Ytpjjcihhmhccfaa
open Go.ChangeShapes Go.WideShapes Go.ChangeAt Go.RowKit Go.Deep
set_option linter.unusedVariables false
set_option linter.unusedSimpArgs false

theorem putL_app : ∀ (vs xs ys : List Value) (o : Nat), o + vs.length ≤ xs.length → putL (xs ++ ys) o vs = putL xs o vs ++ ys
  | [], xs, ys, o, _ => rfl
  | v :: vs, xs, ys, o, h => by
    simp only [List.length_cons] at h
    simp only [putL]
    rw [List.set_append_left _ _ (by omega)]
    exact putL_app vs (xs.set o v) ys (o + 1) (by rw [List.length_set]; omega)
theorem put_at {l : List E} {j o : Nat} {e e' : E} {vs : List Value} (hok : ∀ e ∈ l, IsE e) (he : l[j]? = some e) (ho : o + vs.length ≤ 34) (hp : putL (enc e) o vs = enc e') : putL (flatE l) (j * 34 + o) vs = flatE (l.set j e') := by
  obtain ⟨hj, rfl⟩ := List.getElem?_eq_some_iff.1 he
  have hl : (flatE (l.take j)).length = j * 34 := by rw [isEnc.flat_len (fun x hx => hok x (List.mem_of_mem_take hx)), List.length_take]; congr 1; omega
  have hs : l = l.take j ++ l[j] :: l.drop (j + 1) := by
    conv => lhs; rw [← List.take_append_drop j l, List.drop_eq_getElem_cons hj]
  have h1 : flatE l = flatE (l.take j) ++ (enc l[j] ++ flatE (l.drop (j + 1))) := by
    conv => lhs; rw [hs]
    exact flat_append (enc := enc) _ _
  have h2 : l.set j e' = l.take j ++ e' :: l.drop (j + 1) := List.set_eq_take_append_cons_drop.trans (if_pos hj)
  have h3 : flatE (l.take j ++ e' :: l.drop (j + 1)) = flatE (l.take j) ++ (enc e' ++ flatE (l.drop (j + 1))) := flat_append (enc := enc) _ _
  rw [h1, h2, h3, ← hl, putL_right, putL_app _ _ _ _ (by rw [isEnc.len _ (hok _ (List.getElem_mem hj))]; exact ho), hp]
theorem put_mtu {e : E} (he : IsE e) (m : Int) : putL (enc e) 32 [.int .u32 m] = enc (e.1, e.2.1, m, e.2.2.2) := by
  obtain ⟨a, n, m0, u⟩ := e
  obtain ⟨_, _, _, _, _, _, _, _, _, _, _, _, _, _, _, _, rfl⟩ := addr_ex he.a
  obtain ⟨_, _, _, _, _, _, _, _, _, _, _, _, _, _, _, _, rfl⟩ := addr_ex he.n
  simp [enc, putL]
theorem put_until {e : E} (he : IsE e) (u : Int) : putL (enc e) 33 [.int .u64 u] = enc (e.1, e.2.1, e.2.2.1, u) := by
  obtain ⟨a, n, m0, u0⟩ := e
  obtain ⟨_, _, _, _, _, _, _, _, _, _, _, _, _, _, _, _, rfl⟩ := addr_ex he.a
  obtain ⟨_, _, _, _, _, _, _, _, _, _, _, _, _, _, _, _, rfl⟩ := addr_ex he.n
  simp [enc, putL]
theorem put_next {e : E} (he : IsE e) {y : List Int} (hy : IsAddr y) : putL (enc e) 16 (y.map (Value.int .u8)) = enc (e.1, y, e.2.2) := by
  obtain ⟨a, n, m0, u0⟩ := e
  obtain ⟨_, _, _, _, _, _, _, _, _, _, _, _, _, _, _, _, rfl⟩ := addr_ex he.a
  obtain ⟨_, _, _, _, _, _, _, _, _, _, _, _, _, _, _, _, rfl⟩ := addr_ex he.n
  obtain ⟨_, _, _, _, _, _, _, _, _, _, _, _, _, _, _, _, rfl⟩ := addr_ex hy
  simp [enc, putL]
/-- An entry of the reference written over. -/
theorem Rf.put {W : World} {M g n c j o : Nat} {es : List E} {e e' : E} {vs : List Value} (h : Rf W M (.slice (some ⟨g, 0, none⟩) n c) es) (he : es[j]? = some e) (he' : IsE e') (ho : o + vs.length ≤ 34) (hp : putL (enc e) o vs = enc e') : Rf (W.setCells g (j * 34 + o) vs) M (.slice (some ⟨g, 0, none⟩) n c) (es.set j e') := by
  have hg := (h.own.lt g rfl).1
  have hn := h.slice
  obtain ⟨A, c2, hv, _, _⟩ := hn
  injection hv with _ hn _
  subst hn
  have h1 := own_cells h.own vs (j * 34 + o)
  rw [put_at h.ok he ho hp] at h1
  refine ⟨h.blk.fr (fr_cells W g vs _) (by omega), by rw [List.length_set]; exact h1, fun y hy => ?_, by rw [List.length_set]; exact h.max⟩
  rcases List.mem_or_eq_of_mem_set hy with hy | rfl
  · exact h.ok y hy
  · exact he'
end Go.Proofs.Ytpjjcihhmhccfaa
