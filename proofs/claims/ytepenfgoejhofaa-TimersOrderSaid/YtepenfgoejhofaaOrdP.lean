/- What is armed, each with its last time; what is taken, one by one. Plain. No condition. -/
import Derived.Test.YtepenfgoejhofaaBase
namespace Go.Proofs.Ytepenfgoejhofaa
open Go.ChangeShapes Go.WideShapes Go.ChangeAt Go.RowKit Go.Deep
set_option linter.unusedVariables false
set_option linter.unusedSimpArgs false

theorem kOf_eq {a b : T3} (h : kOf a = kOf b) (h2 : a.2.2 = b.2.2) : a = b := by
  obtain ⟨a1, a2, a3⟩ := a
  obtain ⟨b1, b2, b3⟩ := b
  simp only [kOf, Prod.mk.injEq] at h h2 ⊢
  exact ⟨h.1, h.2, h2⟩
theorem arm_mem {m : List T3} (hn : (m.map kOf).Nodup) (k : K2) (a : Int) (h0 : (armM m k a).1 = 0) (t : T3) : t ∈ (armM m k a).2 ↔ t = (k.1, k.2, a) ∨ (t ∈ m ∧ kOf t ≠ k) := by
  unfold armM at h0 ⊢
  cases hf : fdx k m with
  | none =>
    rw [hf] at h0
    simp only at h0 ⊢
    split at h0
    · simp at h0
    · rw [if_neg (by assumption), List.mem_append, List.mem_singleton]
      constructor
      · rintro (h | h)
        · exact .inr ⟨h, fdx_none hf t h⟩
        · exact .inl h
      · rintro (h | h)
        · exact .inr h
        · exact .inl h.1
  | some q =>
    simp only
    obtain ⟨u, hu, huk⟩ := fdx_some hf
    constructor
    · intro h
      obtain ⟨j, hj⟩ := List.mem_iff_getElem?.1 h
      by_cases e : j = q
      · subst e
        rw [List.getElem?_set_self (lt_of_some hu)] at hj
        cases hj; exact .inl rfl
      · rw [List.getElem?_set_ne (Ne.symm e)] at hj
        exact .inr ⟨List.mem_of_getElem? hj, fun hk => e (nd_inj hn hj hu (hk.trans huk.symm))⟩
    · rintro (rfl | ⟨h, hk⟩)
      · exact List.mem_of_getElem? (List.getElem?_set_self (lt_of_some hu))
      · obtain ⟨j, hj⟩ := List.mem_iff_getElem?.1 h
        have hjq : q ≠ j := fun e => by subst e; rw [hu] at hj; cases hj; exact hk huk
        exact List.mem_of_getElem? ((List.getElem?_set_ne hjq).trans hj)
theorem arm_len (m : List T3) (k : K2) (a : Int) : (armM m k a).2.length ≤ m.length + 1 := by
  unfold armM
  split
  · simp
  · split <;> simp
theorem arm_ok {m : List T3} (k : K2) (a : Int) (h : m.length < 256) : (armM m k a).1 = 0 := by
  unfold armM
  split
  · rfl
  · rw [if_neg (by omega)]
theorem arm_nd {m : List T3} (hn : (m.map kOf).Nodup) (k : K2) (a : Int) : ((armM m k a).2.map kOf).Nodup := by
  unfold armM
  cases hf : fdx k m with
  | none =>
    simp only
    split
    · exact hn
    · rw [List.map_append, List.nodup_append]
      refine ⟨hn, by simp, fun x hx y hy e => ?_⟩
      simp only [List.map_cons, List.map_nil, List.mem_singleton] at hy
      obtain ⟨u, hu, rfl⟩ := List.mem_map.1 hx
      exact fdx_none hf u hu (e.trans hy)
  | some q =>
    simp only
    obtain ⟨u, hu, huk⟩ := fdx_some hf
    have e : (m.set q (k.1, k.2, a)).map kOf = m.map kOf := by
      rw [List.map_set]; exact set_same (by rw [List.getElem?_map, hu, ← huk]; rfl)
    rw [e]; exact hn
/-- What is armed behind i acts. -/
def am (z : Nat → ActV) : Nat → List T3
  | 0 => []
  | i + 1 => (armM (am z i) (kOf (z i).t) (z i).t.2.2).2
theorem am_nd (z : Nat → ActV) : ∀ i, ((am z i).map kOf).Nodup
  | 0 => List.nodup_nil
  | i + 1 => arm_nd (am_nd z i) _ _
theorem am_len (z : Nat → ActV) : ∀ i, (am z i).length ≤ i
  | 0 => Nat.le_refl _
  | i + 1 => Nat.le_trans (arm_len _ _ _) (Nat.succ_le_succ (am_len z i))
theorem am_mem (z : Nat → ActV) (t : T3) : ∀ i, i ≤ 256 → (t ∈ am z i ↔ ∃ j, j < i ∧ (z j).t = t ∧ ∀ k, j < k → k < i → kOf (z k).t ≠ kOf t)
  | 0, _ => ⟨fun h => by simp [am] at h, fun ⟨j, hj, _⟩ => by omega⟩
  | i + 1, hi => by
    have ih := am_mem z t i (by omega)
    have hm := arm_mem (am_nd z i) (kOf (z i).t) (z i).t.2.2 (arm_ok _ _ (by have := am_len z i; omega)) t
    show t ∈ (armM (am z i) (kOf (z i).t) (z i).t.2.2).2 ↔ _
    rw [hm]
    constructor
    · rintro (h | ⟨h, hk⟩)
      · exact ⟨i, by omega, h.symm, fun k h1 h2 => by omega⟩
      · obtain ⟨j, hj, e, hl⟩ := ih.1 h
        refine ⟨j, by omega, e, fun k h1 h2 => ?_⟩
        by_cases ek : k = i
        · subst ek; exact fun e2 => hk e2.symm
        · exact hl k h1 (by omega)
    · rintro ⟨j, hj, e, hl⟩
      by_cases ej : j = i
      · subst ej; exact .inl e.symm
      · exact .inr ⟨ih.2 ⟨j, by omega, e, fun k h1 h2 => hl k h1 (by omega)⟩, fun e2 => hl i (by omega) (by omega) e2.symm⟩
/-- The law's own list, behind i rounds: those that are the last of their name. -/
structure Ws (z : Nat → ActV) (n i : Nat) (ws : List ActV) : Prop where
  mem : ∀ t, t ∈ ws.map (·.t) ↔ ∃ j, j < i ∧ (z j).t = t ∧ ∀ k, j < k → k < n → kOf (z k).t ≠ kOf t
  nd : ((ws.map (·.t)).map kOf).Nodup
  len : ws.length ≤ i
theorem Ws.nil (z : Nat → ActV) (n : Nat) : Ws z n 0 [] := ⟨fun t => ⟨fun h => by simp at h, fun ⟨j, hj, _⟩ => by omega⟩, by simp, Nat.le_refl _⟩
theorem Ws.yes {z : Nat → ActV} {n i : Nat} {ws : List ActV} (h : Ws z n i ws) (hi : i < n) (hl : ∀ k, i < k → k < n → kOf (z k).t ≠ kOf (z i).t) : Ws z n (i + 1) (ws ++ [z i]) := by
  refine ⟨fun t => ?_, ?_, by have := h.len; simp; omega⟩
  · rw [List.map_append, List.mem_append, h.mem]
    constructor
    · rintro (⟨j, hj, e⟩ | h)
      · exact ⟨j, by omega, e⟩
      · simp only [List.map_cons, List.map_nil, List.mem_singleton] at h
        exact ⟨i, by omega, h.symm, fun k h1 h2 => by rw [h]; exact hl k h1 h2⟩
    · rintro ⟨j, hj, e, hk⟩
      by_cases ej : j = i
      · subst ej; exact .inr (by simp [e])
      · exact .inl ⟨j, by omega, e, hk⟩
  · rw [List.map_append, List.map_append, List.nodup_append]
    refine ⟨h.nd, by simp, fun x hx y hy e => ?_⟩
    simp only [List.map_cons, List.map_nil, List.mem_singleton] at hy
    obtain ⟨u, hu, rfl⟩ := List.mem_map.1 hx
    obtain ⟨j, hj, ej, hk⟩ := (h.mem u).1 hu
    exact hk i hj hi (by rw [← hy]; exact e.symm)
theorem Ws.no {z : Nat → ActV} {n i : Nat} {ws : List ActV} (h : Ws z n i ws) (hl : ∃ k, i < k ∧ k < n ∧ kOf (z k).t = kOf (z i).t) : Ws z n (i + 1) ws := by
  refine ⟨fun t => ?_, h.nd, by have := h.len; omega⟩
  rw [h.mem]
  constructor
  · rintro ⟨j, hj, e⟩
    exact ⟨j, by omega, e⟩
  · rintro ⟨j, hj, e, hk⟩
    by_cases ej : j = i
    · subst ej
      obtain ⟨k, h1, h2, h3⟩ := hl
      exact absurd (h3.trans (by rw [e])) (hk k h1 h2)
    · exact ⟨j, by omega, e, hk⟩
theorem nd_of_keys {m : List T3} (h : (m.map kOf).Nodup) : m.Nodup := (List.pairwise_map.1 h).imp fun h e => h (congrArg kOf e)
theorem Ws.perm {z : Nat → ActV} {n : Nat} {ws : List ActV} (h : Ws z n n ws) (hn : n ≤ 256) : (am z n).Perm (ws.map (·.t)) :=
  (List.perm_ext_iff_of_nodup (nd_of_keys (am_nd z n)) (nd_of_keys h.nd)).2 fun t => (am_mem z t n hn).trans (h.mem t).symm
/-- How many come no later than now. -/
def cnt (now : Int) (m : List T3) : Nat := m.countP fun t => decide (t.2.2 ≤ now)
/-- One is taken. -/
theorem can_best {m : List T3} (hn : (m.map kOf).Nodup) {t : T3} (hb : bestM m = some t) : (canM m (kOf t)).1 = true ∧ m.Perm (t :: (canM m (kOf t)).2) ∧ ∀ u ∈ (canM m (kOf t)).2, bef t u = true := by
  obtain ⟨ht, hl⟩ := best_least hb
  obtain ⟨q, hq⟩ := List.mem_iff_getElem?.1 ht
  have hf := fdx_at hn hq rfl
  have e : canM m (kOf t) = (true, m.eraseIdx q) := by unfold canM; rw [hf]
  rw [e]
  have hp := erase_perm hq
  refine ⟨rfl, hp, fun u hu => ?_⟩
  have hnd := (hp.nodup_iff.1 (nd_of_keys hn))
  rw [List.nodup_cons] at hnd
  cases hb2 : bef t u with
  | true => rfl
  | false =>
    have h1 := hl u (List.mem_of_mem_eraseIdx hu)
    have h2 : lee u t := hb2
    have := lee_anti h1 h2
    subst this
    exact absurd hu hnd.1
theorem can_nd {m : List T3} (hn : (m.map kOf).Nodup) (k : K2) : ((canM m k).2.map kOf).Nodup := by
  unfold canM
  split
  · exact hn.sublist ((List.eraseIdx_sublist m _).map kOf)
  · exact hn
/-- What stands behind k rounds of taking. -/
structure Tk (m0 : List T3) (now : Int) (e : Nat) (was : T3) (k : Nat) (m : List T3) : Prop where
  len : m.length + k = m0.length
  sub : ∀ t ∈ m, t ∈ m0
  nd : (m.map kOf).Nodup
  cn : cnt now m = e - k
  ord : 0 < k → ∀ t ∈ m, bef was t = true
theorem best_some {m : List T3} (h : m ≠ []) : ∃ t, bestM m = some t := by
  cases m with
  | nil => exact absurd rfl h
  | cons x m => exact ⟨_, rfl⟩
/-- A round of taking: which one, and what is left; before, where it is too early, nothing is due. -/
theorem Tk.step {m0 m : List T3} {now : Int} {e k : Nat} {was : T3} (h : Tk m0 now e was k m) (hk : k < m0.length) :
    ∃ t m', bestM m = some t ∧ t ∈ m0 ∧ (0 < k → bef was t = true) ∧ Tk m0 now e t (k + 1) m' ∧
      (k < e → dueM m now = (some t, m')) ∧ (e ≤ k → dueM m now = (none, m) ∧ ∀ u : Int, t.2.2 ≤ u → dueM m u = (some t, m')) := by
  have hne : m ≠ [] := fun e => by have := h.len; subst e; simp at this; omega
  obtain ⟨t, hb⟩ := best_some hne
  obtain ⟨htm, hlt⟩ := best_least hb
  obtain ⟨c1, c2, c3⟩ := can_best h.nd hb
  have hcp : cnt now m = cnt now (canM m (kOf t)).2 + if t.2.2 ≤ now then 1 else 0 := by
    unfold cnt
    rw [c2.countP_eq, List.countP_cons]
    simp
  have hpos : cnt now m ≠ 0 → t.2.2 ≤ now := fun hc => by
    obtain ⟨u, hu, hun⟩ := List.countP_pos_iff.1 (Nat.pos_of_ne_zero hc)
    have h1 := (lee_iff t u).1 (hlt u hu)
    have h2 : u.2.2 ≤ now := by simpa using hun
    omega
  have hzero : cnt now m = 0 → ¬ t.2.2 ≤ now := fun hc hle => by
    rw [if_pos hle] at hcp; omega
  refine ⟨t, (canM m (kOf t)).2, hb, h.sub t htm, fun h0 => h.ord h0 t htm, ⟨?_, fun u hu => ?_, can_nd h.nd _, ?_, fun _ => c3⟩, fun hke => ?_, fun hke => ⟨?_, fun u hu => ?_⟩⟩
  · have h1 := c2.length_eq
    have h2 := h.len
    simp at h1; omega
  · exact h.sub u (c2.mem_iff.2 (List.mem_cons_of_mem _ hu))
  · have h1 := h.cn
    by_cases hke : k < e
    · rw [if_pos (hpos (by omega))] at hcp; omega
    · rw [if_neg (hzero (by omega))] at hcp; omega
  · unfold dueM
    rw [hb]
    have := hpos (by have := h.cn; omega)
    simp only
    rw [if_neg (by omega)]
  · unfold dueM
    rw [hb]
    have := hzero (by have := h.cn; omega)
    simp only
    rw [if_pos (by omega)]
  · unfold dueM
    rw [hb]
    simp only
    rw [if_neg (by omega)]
end Go.Proofs.Ytepenfgoejhofaa
