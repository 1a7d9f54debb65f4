/- A row of elements of several cells each that the call owns: stores into it, appends that fit, what clear does to its end. Of no program; no condition. -/
import Derived.Test.YtlckfnfmekgnkaaDoorEq
import Derived.Great.BuildSlice
import Derived.OrdersHeld
namespace Go.Proofs.YtlckfnfmekgnkaaDoor
open Go.ChangeShapes Go.WideShapes Go.ChangeAt Go.RowKit
set_option linter.unusedVariables false

/-- What several cells of a list become. -/
def putL (xs : List Value) (o : Nat) : List Value → List Value
  | [] => xs
  | v :: r => putL (xs.set o v) (o + 1) r
theorem putL_past : ∀ (vs xs : List Value) (o : Nat), xs.length ≤ o → putL xs o vs = xs
  | [], _, _, _ => rfl
  | v :: r, xs, o, h => by rw [putL, List.set_eq_of_length_le h, putL_past r xs (o + 1) (by omega)]
theorem putL_right (ps : List Value) : ∀ (vs xs : List Value) (o : Nat), putL (ps ++ xs) (ps.length + o) vs = ps ++ putL xs o vs
  | [], _, _ => rfl
  | v :: r, xs, o => by rw [putL, putL, List.set_append_right _ _ (by omega), Nat.add_sub_cancel_left, Nat.add_assoc, putL_right ps r]
theorem putL_left : ∀ (vs ys zs : List Value), vs.length = ys.length → putL (ys ++ zs) 0 vs = vs ++ zs
  | [], [], zs, _ => rfl
  | v :: r, y :: ys, zs, h => by
    rw [putL, List.cons_append, List.set_cons_zero, show v :: (ys ++ zs) = [v] ++ (ys ++ zs) from rfl, show 0 + 1 = [v].length + 0 from rfl, putL_right, putL_left r ys zs (by simpa using h)]
    rfl

section
variable {w W : World} {base e size n c g : Nat} {xs : List Value} {v : Value}
theorem own_cells (h : w.ownsRow base e size (.slice (some ⟨g, 0, none⟩) n c) n xs) : ∀ (vs : List Value) (o : Nat), (w.setCells g o vs).ownsRow base e size (.slice (some ⟨g, 0, none⟩) n c) n (putL xs o vs) := by
  intro vs
  induction vs generalizing w xs with
  | nil => intro o; exact h
  | cons v r ih => intro o; rw [World.setCells, putL]; exact ih (h.stored o v).1 (o + 1)
theorem fr_cells (w : World) (g : Nat) : ∀ (vs : List Value) (o : Nat), Fr (· = g) w (w.setCells g o vs) := by
  intro vs
  induction vs generalizing w with
  | nil => intro o; exact Fr.refl _ w
  | cons v r ih => intro o; rw [World.setCells]; exact ((Fr.refl (· = g) w).setB v).trans (ih _ (o + 1))
theorem own_past (h : w.ownsRow base e size (.slice (some ⟨g, 0, none⟩) n c) n xs) {o : Nat} (ho : n * size ≤ o) (vs : List Value) : (w.setCells g o vs).ownsRow base e size (.slice (some ⟨g, 0, none⟩) n c) n xs := by
  have := own_cells h vs o
  rwa [putL_past vs xs o (by rw [h.1]; exact ho)] at this
theorem own_cut (h : w.ownsRow base e size (.slice (some ⟨g, 0, none⟩) n c) n xs) {m : Nat} (hm : m ≤ n) : w.ownsRow base e size (.slice (some ⟨g, 0, none⟩) m c) m (xs.take (m * size)) := by
  rcases h.2 with ⟨h', _⟩ | ⟨g', cap', cur, h', hb, hg, hnc, hcm, hcs, htake⟩
  · simp at h'
  · simp only [Value.slice.injEq, Option.some.injEq, Addr.mk.injEq, and_true, true_and] at h'
    obtain ⟨rfl, rfl⟩ := h'
    have hle : m * size ≤ n * size := Nat.mul_le_mul_right _ hm
    refine ⟨by rw [List.length_take, h.1]; omega, .inr ⟨g, c, cur, rfl, hb, hg, by omega, hcm, hcs, ?_⟩⟩
    rw [← htake, List.take_take, Nat.min_eq_left hle]
theorem own_cap (h : w.ownsRow base e size (.slice (some ⟨g, 0, none⟩) n c) n xs) : n ≤ c ∧ c ≤ maxLen := by
  rcases h.2 with ⟨h', _⟩ | ⟨g', cap', cur, h', hb, hg, hnc, hcm, hcs, htake⟩
  · simp at h'
  · simp only [Value.slice.injEq, Option.some.injEq, Addr.mk.injEq, and_true, true_and] at h'
    obtain ⟨rfl, rfl⟩ := h'
    exact ⟨hnc, hcm⟩
theorem own_there (h : w.ownsRow base e size (.slice (some ⟨g, 0, none⟩) n c) n xs) {o k : Nat} (ho : o + k ≤ c * size) : w.there g o k := by
  rcases h.2 with ⟨h', _⟩ | ⟨g', cap', cur, h', hb, hg, hnc, hcm, hcs, htake⟩
  · simp at h'
  · simp only [Value.slice.injEq, Option.some.injEq, Addr.mk.injEq, and_true, true_and] at h'
    obtain ⟨rfl, rfl⟩ := h'
    exact Blk.there (W := w) hg (by rw [hcs]; exact ho)
theorem own_some (h : w.ownsRow base e size (.slice (some ⟨g, 0, none⟩) n c) n xs) {o k : Nat} (ho : o + k ≤ c * size) : ∀ j, j < k → (w.cell? ⟨g, o + j, none⟩).isSome = true := fun j hj => (own_there h ho j hj).1
theorem own_rd (h : w.ownsRow base e size v n xs) : ∃ A c, v = .slice A n c ∧ Rd w w.heap.size size A n c xs := by
  obtain ⟨A, c, rfl⟩ := slice_of_own h
  exact ⟨A, c, rfl, Rd.of_own h⟩
theorem own_pos (h : w.ownsRow base e size v n xs) (hn : 0 < n) : ∃ g c, v = .slice (some ⟨g, 0, none⟩) n c ∧ base ≤ g ∧ g < w.heap.size := by
  rcases h.2 with ⟨_, h'⟩ | ⟨g', cap', cur, rfl, hb, hg, hnc, hcm, hcs, htake⟩
  · omega
  · exact ⟨g', cap', rfl, hb, (Array.getElem?_eq_some_iff.1 hg).1⟩
theorem own_al (h : w.ownsRow base e size v n xs) (o : Obj) : (w.alloc o).ownsRow base e size v n xs := ownRow_fr h ((Fr.refl (fun _ => False) w).alloc o) (fun _ _ e => e)
theorem own_drew (h : w.ownsRow base e size v n xs) : w.drew.ownsRow base e size v n xs := h
theorem own_far (h : w.ownsRow base e size v n xs) {g i : Nat} (hg : g < base) (u : Value) : (w.setCell ⟨g, i, none⟩ u).ownsRow base e size v n xs :=
  ownRow_fr h ((Fr.refl (· = g) w).setB u) (fun k hk e => by have := (h.lt k hk).1; omega)
theorem grown_below (ho : w.ownsRow base e size v n xs) (hg : w.grownBy W v.ownBlock) (hb : base ≤ w.heap.size) : Below base w W :=
  (Fr.of_grown hg).below hb (fun k hk => (ho.lt k hk).1)
end

section
variable {P : Program}
theorem step_append_fits (w : World) {ops : Array Oper} {o : Oper} {a : Act} {K : Act → World → Prop} {Q : Exit → Act → World → Prop} {E : Prop} (hgd : o.guard = none) (s x : Operand) {t e : TypeId} {size bytes : Nat} (ht : SlTy P t e size bytes)
    (ho : o.op = .call { callee := .builtin .append, args := #[s, x], argTypes := #[t, t] })
    {base g n cap : Nat} {xs : List Value} (hs : a.eval s = .slice (some ⟨g, 0, none⟩) n cap) (hown : w.ownsRow base e size (.slice (some ⟨g, 0, none⟩) n cap) n xs)
    {B : Nat} {A : Option Addr} {m c : Nat} {news : List Value} (hx : a.eval x = .slice A m c) (hr : Rd w B size A m c news) (h1 : ∀ u ∈ news, u.oneCell' = true) (hroom : n + m ≤ cap)
    (h : ∀ w', w'.ownsRow base e size (.slice (some ⟨g, 0, none⟩) (n + m) cap) (n + m) (xs ++ news) → Fr (· = g) w w' → K (a.put o.dst (.slice (some ⟨g, 0, none⟩) (n + m) cap)) w') :
    if Region.wanted o (yielded ops a.tmps) = true then Oper.wp P o a w K Q else E := by
  have hw : Region.wanted o (yielded ops a.tmps) = true := by simp [Region.wanted, hgd]
  rw [if_pos hw]
  obtain ⟨i0, z, hi, hz0, hz1, hz2, hz3⟩ := ht.info
  have hrun : ∃ w', (Builtin.append_ #[t, t] o.type #[.slice (some ⟨g, 0, none⟩) n cap, .slice A m c]).run P w = .ok (.slice (some ⟨g, 0, none⟩) (n + m) cap) w' ∧
      w'.ownsRow base e size (.slice (some ⟨g, 0, none⟩) (n + m) cap) (n + m) (xs ++ news) ∧ w.grownBy w' (some g) := by
    rcases A with _ | ad
    · obtain ⟨rfl, rfl⟩ := hr.nil_ rfl
      have hn : news = [] := List.eq_nil_of_length_eq_zero (by simpa using hr.len)
      subst hn
      exact ⟨w, run_append_owned_none (P := P) (w := w) base t o.type e i0 size ht.und hi _ n xs hown, by simpa using hown, ⟨rfl, rfl, rfl, Nat.le_refl _, fun _ _ _ => rfl⟩⟩
    · refine run_append_fits (P := P) w base t o.type e i0 size ht.und hi hz1 g n cap xs hown ad m c news hr.len (fun j u hu => ?_) h1 hroom
      rcases Nat.eq_zero_or_pos m with h0 | h0
      · subst h0
        have hn : news = [] := List.eq_nil_of_length_eq_zero (by simpa using hr.len)
        subst hn
        simp at hu
      · obtain ⟨b, off, h, _, hc⟩ := hr.at_ h0
        injection h with h
        subst h
        have := hc j u hu
        rw [← this]
        congr 1
        by_cases h0 : j = 0 <;> simp [Addr.add, h0]
  obtain ⟨w', hrun, h2, h3⟩ := hrun
  unfold Oper.wp execOp
  simp only [ho, resolve, invoke, builtin, Sem.run_bind, Sem.run_pure, Result.andThen_ok, List.map_toArray, List.map_cons, List.map_nil, hs, hx, hrun]
  exact h w' h2 ((Fr.of_grown h3).mono (fun k _ hk => (Option.some.inj hk).symm))

/-- Cells, stored into the midst of a block. -/
theorem wpList_store_vals {W : World} {ops : Array Oper} {rest : List Oper} {o : Oper} {a : Act} {Q : Exit → Act → World → Prop} (hgd : o.guard = none) (hd : o.dst = none) (ty : TypeId) (x y : Operand) (ho : o.op = .store ty x y)
    (b off : Nat) (l : List Value) (hx : a.eval x = .pointer (some ⟨b, off, none⟩)) (hy : a.eval y = .agg l.toArray)
    (ht : W.there b off l.length) (hi : (P.info? ty).map (·.size) = some l.length) (h1 : ∀ v ∈ l, v.oneCell' = true)
    (h : wpList P ops Q rest a (W.setCells b off l)) : wpList P ops Q (o :: rest) a W := by
  refine wpList_store_mid (P := P) hgd ty x y ho b off l.toArray hx hy (by simpa using ht) (by simpa using hi) (all_oneCell_toArray h1) (by rw [hd]; simpa [Act.put] using h)

theorem step_store_vals (W : World) {ops : Array Oper} {o : Oper} {a : Act} {K : Act → World → Prop} {Q : Exit → Act → World → Prop} {E : Prop} (hgd : o.guard = none) (hd : o.dst = none) (ty : TypeId) (x y : Operand) (ho : o.op = .store ty x y)
    (b off : Nat) (l : List Value) (hx : a.eval x = .pointer (some ⟨b, off, none⟩)) (hy : a.eval y = .agg l.toArray)
    (ht : W.there b off l.length) (hi : (P.info? ty).map (·.size) = some l.length) (h1 : ∀ v ∈ l, v.oneCell' = true)
    (h : K a (W.setCells b off l)) : if Region.wanted o (yielded ops a.tmps) = true then Oper.wp P o a W K Q else E := by
  rw [if_pos (by simp [Region.wanted, hgd])]
  exact wp_store_mid ty x y ho b off l.toArray hx hy (by simpa using ht) (by simpa using hi) (all_oneCell_toArray h1) (by rw [hd]; simpa [Act.put] using h)

theorem fold_over (off : Nat) : ∀ (vs : List Value) (k : Nat) (cs : Array Value), (vs.zipIdx k).foldl (fun cs x => cs.setIfInBounds (off + x.2) x.1) cs = over cs (off + k) vs
  | [], _, _ => rfl
  | v :: r, k, cs => by
    rw [List.zipIdx_cons, List.foldl_cons, over, fold_over off r (k + 1)]
    rfl
theorem over_all {vs cs : Array Value} (h : cs.size = vs.size) : over cs 0 vs.toList = vs := by
  apply arr_ext (by rw [over_size, h])
  intro j hj
  rw [over_size, h] at hj
  have := over_in vs.toList cs 0 j vs[j] (by simp [hj]) (by simp [h])
  rw [Nat.zero_add] at this
  rw [this, Array.getElem?_eq_getElem hj]
theorem fill_one {K : Nat} {z cs : Array Value} (hz : z.size = K) (hc : cs.size = K) : Instr.fill (fun i => some (i * K, K)) z [(0, .agg cs)] = some cs := by
  have hcc : (Value.agg cs).cells = cs := rfl
  simp only [Instr.fill, hcc, Nat.zero_mul, hc, hz]
  rw [if_neg (by simp)]
  congr 1
  have := fold_over 0 cs.toList 0 z
  rw [Nat.zero_add] at this
  rw [← Array.foldl_toList, Array.toList_zipIdx]
  exact Eq.trans this (over_all (by rw [hz, hc]))

/-- A slice literal of one thing. -/
theorem run_bs1 (w : World) {t e : TypeId} {size bytes : Nat} (ht : SlTy P t e size bytes) (hsm : size ≤ 2 ^ 24) (cs : Array Value) (hc : cs.size = size) :
    (Instr.buildSlice t 1 #[(0, .agg cs)]).run P w = .ok (.slice (some ⟨w.heap.size, 0, none⟩) 1 1) (w.alloc (.cells cs e)) := by
  obtain ⟨i, z, hi, hz0, hz1, hz2, hz3⟩ := ht.info
  have hp := ht.pos
  refine run_buildSlice w t e 1 _ cs i z ht.und hi hz0 (by rw [hz1]; omega) (by rw [hz1]; omega) ?_
  rw [hz1]
  exact fill_one (by simp) hc
theorem step_bs1 (w : World) {ops : Array Oper} {o : Oper} {a : Act} {K : Act → World → Prop} {Q : Exit → Act → World → Prop} {E : Prop} (hgd : o.guard = none) (x : Operand) {t e : TypeId} {size bytes : Nat} (ht : SlTy P t e size bytes) (hsm : size ≤ 2 ^ 24)
    (ho : o.op = .buildSlice t 1 #[(0, x)]) (cs : Array Value) (hx : a.eval x = .agg cs) (hc : cs.size = size)
    (h : K (a.put o.dst (.slice (some ⟨w.heap.size, 0, none⟩) 1 1)) (w.alloc (.cells cs e))) :
    if Region.wanted o (yielded ops a.tmps) = true then Oper.wp P o a w K Q else E := by
  rw [if_pos (by simp [Region.wanted, hgd])]
  unfold Oper.wp execOp
  have hm : (#[(0, x)] : Array (Nat × Operand)).map (fun (i, y) => (i, a.eval y)) = #[(0, .agg cs)] := by simp [hx]
  simp only [ho, Sem.run_bind, hm, run_bs1 w ht hsm cs hc, Result.andThen_ok]
  exact h
theorem wpList_bs1 {w : World} {ops : Array Oper} {rest : List Oper} {o : Oper} {a : Act} {Q : Exit → Act → World → Prop} (hgd : o.guard = none) (x : Operand) {t e : TypeId} {size bytes : Nat} (ht : SlTy P t e size bytes) (hsm : size ≤ 2 ^ 24)
    (ho : o.op = .buildSlice t 1 #[(0, x)]) (cs : Array Value) (hx : a.eval x = .agg cs) (hc : cs.size = size)
    (h : wpList P ops Q rest (a.put o.dst (.slice (some ⟨w.heap.size, 0, none⟩) 1 1)) (w.alloc (.cells cs e))) : wpList P ops Q (o :: rest) a w :=
  wpList_plain hgd fun K hK => by
    have := step_bs1 (P := P) (ops := ops) (K := K) (Q := Q) (E := True) w hgd x ht hsm ho cs hx hc (hK _ _ h)
    rwa [if_pos (by simp [Region.wanted, hgd])] at this
theorem yieldsIf_build_want {ops : Array Oper} {S : World → Prop} {op : Oper} {a : Act} (hw : Region.wanted op (yielded ops a.tmps) = true) (t : TypeId) (parts : Array (Nat × Operand)) (ho : op.op = .build t parts) (cells : Array Value)
    (hf : P.built t (parts.map fun (i, x) => (i, a.eval x)).toList = some cells) : YieldsIf P ops S op (.agg cells) a :=
  .inl ⟨hw, fun w _ => by
    unfold execOp
    simp only [ho, Sem.run_bind, run_build w t _ cells hf, Result.andThen_ok]
    rfl⟩
/-- A slice literal of which the cells are known. -/
theorem wpList_bs_want {w : World} {ops : Array Oper} {rest : List Oper} {o : Oper} {a : Act} {Q : Exit → Act → World → Prop} (hgd : o.guard = none) (t e : TypeId) (len : Nat) (parts : Array (Nat × Operand)) (ho : o.op = .buildSlice t len parts) (z : Value) (K bytes : Nat)
    (hu : P.underlying t = some (.slice e)) (hi : (P.info? e).map (fun i => (i.zero, i.size, i.bytes)) = some (some z, K, bytes)) (h0 : 0 < len * K) (hsm : len * K ≤ 2 ^ 24) (cells : Array Value)
    (hf : Instr.fill (fun i => some (i * K, K)) ((Array.range (len * K)).map (z.cells[· % z.cells.size]!)) (parts.map fun (i, x) => (i, a.eval x)).toList = some cells)
    (h : wpList P ops Q rest (a.put o.dst (.slice (some ⟨w.heap.size, 0, none⟩) len len)) (w.alloc (.cells cells e))) : wpList P ops Q (o :: rest) a w := by
  obtain ⟨i, h1, h2, h3, h4⟩ := info_parts hi
  exact wpList_buildSlice hgd t e len parts ho cells i z hu h1 h2 (by rw [h3]; omega) (by rw [h3]; omega) (by rw [h3]; exact hf) h
/-- A slice of one thing reads as its cells. -/
theorem rd_one (w : World) (t : TypeId) (size : Nat) (cs : Array Value) (hc : cs.size = size) : Rd (w.alloc (.cells cs t)) (w.heap.size + 1) size (some ⟨w.heap.size, 0, none⟩) 1 1 cs.toList := by
  have := (Blk.new w t cs).rd size 1 1 (by rw [Nat.one_mul, hc]) (Nat.le_refl _) (by decide) (B := w.heap.size + 1) (Nat.lt_succ_self _)
  rwa [List.take_of_length_le (by simp [hc])] at this

/-- 'clear' of a row's end. -/
theorem run_clear_own (w : World) {t e : TypeId} {z : Value} {size : Nat} (ht : P.underlying t = some (.slice e)) (hv : ∀ w, (zeroValue e).run P w = .ok z w) (hz : z.cells.size = size) (h1 : ∀ u ∈ z.cells.toList, u.oneCell' = true)
    (g o m c : Nat) (hm : 0 < m) (hs : 0 < size) (hth : w.there g o (m * size)) :
    ∃ vs, ∀ ty, (Builtin.clear_ #[t] ty #[.slice (some ⟨g, o, none⟩) m c]).run P w = .ok (.tuple #[]) (w.setCells g o vs) := by
  have hlen : (Builtin.zeroCells z.cells m).toList.length = m * size := by simp [Builtin.zeroCells, hz]
  have hone : ∀ u ∈ (Builtin.zeroCells z.cells m).toList, u.oneCell' = true := by
    intro u hu
    simp only [Builtin.zeroCells, Array.toList_map, List.mem_map, Array.mem_toList_iff, Array.mem_range] at hu
    obtain ⟨i, hi, rfl⟩ := hu
    have hlt : i % z.cells.size < z.cells.size := Nat.mod_lt _ (by omega)
    rw [getElem!_pos z.cells _ hlt]
    exact h1 _ (by simp)
  have hst := run_storeCells_cells (P := P) g o (Builtin.zeroCells z.cells m).toList 0 w (fun j hj => (hth j (by omega)).1) (fun j hj => (hth j (by omega)).2) hone
  simp only [Nat.add_zero] at hst
  obtain ⟨m, rfl⟩ : ∃ k, m = k + 1 := ⟨m - 1, by omega⟩
  exact ⟨(Builtin.zeroCells z.cells (m + 1)).toList, fun ty => by simp [Builtin.clear_, run_underlying ht, hv, hst]⟩
end
end Go.Proofs.YtlckfnfmekgnkaaDoor
