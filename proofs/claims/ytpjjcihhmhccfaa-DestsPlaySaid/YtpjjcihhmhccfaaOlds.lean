/- Which entries go when the cache is full: plain law. No condition. -/
import Derived.Test.YtpjjcihhmhccfaaSeen
namespace Go.Proofs.Ytpjjcihhmhccfaa
set_option linter.unusedVariables false
set_option linter.unusedSimpArgs false

def addr2 (a b : Int) : List Int := [a, b, 0, 0, 0, 0, 0, 0, 0, 0, 0, 0, 0, 0, 0, 0]
theorem addr2_is {a b : Int} (ha : 0 ≤ a ∧ a ≤ 255) (hb : 0 ≤ b ∧ b ≤ 255) : IsAddr (addr2 a b) := ⟨rfl, fun x hx => by
  simp only [addr2, List.mem_cons, List.not_mem_nil, or_false] at hx
  omega⟩
def sevA : List Int := addr2 7 0
def eigA : List Int := addr2 8 0
theorem sevA_is : IsAddr sevA := addr2_is (by decide) (by decide)
theorem eigA_is : IsAddr eigA := addr2_is (by decide) (by decide)
def Nw (i : Nat) : E := (addr2 1 i, eigA, 0, 0)
def Ol (b : Int) : E := (addr2 9 b, sevA, 0, 0)
def full : Nat → List E
  | 0 => []
  | k + 1 => Nw k :: full k
theorem full_len : ∀ k, (full k).length = k
  | 0 => rfl
  | k + 1 => by simp [full, full_len k]
theorem full_get : ∀ (k j : Nat), j < k → (full k)[j]? = some (Nw (k - 1 - j))
  | k + 1, 0, _ => by simp [full]
  | k + 1, j + 1, h => by
    simp only [full, List.getElem?_cons_succ]
    rw [full_get k j (by omega)]
    congr 2; omega
theorem mem_last {k : Nat} {e : E} : e ∈ (full k).take 31 ↔ ∃ i, i < k ∧ k ≤ i + 31 ∧ e = Nw i := by
  rw [List.mem_iff_getElem?]
  constructor
  · rintro ⟨j, hj⟩
    have hj31 : j < 31 := Nat.lt_of_not_le fun h => by rw [List.getElem?_eq_none (by rw [List.length_take]; omega)] at hj; cases hj
    rw [List.getElem?_take_of_lt hj31] at hj
    have hjk : j < k := by have := (List.getElem?_eq_some_iff.1 hj).1; rwa [full_len] at this
    rw [full_get k j hjk] at hj
    injection hj with hj
    exact ⟨k - 1 - j, by omega, by omega, hj.symm⟩
  · rintro ⟨i, h1, h2, rfl⟩
    refine ⟨k - 1 - i, ?_⟩
    rw [List.getElem?_take_of_lt (by omega), full_get k _ (by omega)]
    congr 2; omega
section
variable {w0 w' : World} {B b : Nat} {os : List En} {L : List Bx} {x : List Int} {e : E} {c : Int} {k n : Nat}
theorem fo_none_of (h : ∀ e ∈ os.map (·.2), e.1 ≠ x) : fo x os = none := by
  rw [fo, List.find?_eq_none]
  intro o ho
  simpa using h o.2 (List.mem_map_of_mem ho)
theorem fo_some_of (hnb : os.Pairwise fun a b => a.2.1 ≠ b.2.1) (he : e ∈ os.map (·.2)) (hx : e.1 = x) : ∃ b, fo x os = some (b, e) ∧ (b, e) ∈ os := by
  obtain ⟨p, hp, rfl⟩ := List.mem_map.1 he
  cases hf : fo x os with
  | none => exact absurd hx (fo_none hf p hp)
  | some o =>
    obtain ⟨h1, h2⟩ := fo_some hf
    obtain rfl := nd_uniq hnb h1 hp (h2.trans hx.symm)
    exact ⟨o.1, rfl, h1⟩
theorem out_map {A S : List E} (h1 : os.Pairwise fun a b => a.1 ≠ b.1) (h2 : os.Pairwise fun a b => a.2.1 ≠ b.2.1) (hm : os.map (·.2) = A ++ e :: S) (hb : (b, e) ∈ os) : (outO b os).map (·.2) = A ++ S := by
  obtain ⟨l1, l2, rfl, rfl, h⟩ := List.map_eq_append_iff.1 hm
  obtain ⟨p, l3, rfl, h', rfl⟩ := List.map_eq_cons_iff.1 h
  obtain rfl : p = (b, e) := nd_uniq h2 (by simp) hb (by rw [h'])
  obtain ⟨g1, g2, g3⟩ := List.pairwise_append.1 h1
  have g4 := (List.pairwise_cons.1 g2).1
  rw [out_mid (fun o ho => g3 o ho _ (by simp)) (fun o ho e' => g4 o ho e'.symm), List.map_append]

/-- While they are told. -/
def Jn (c : Int) (k m : Nat) (os : List En) : Prop := ∃ A S, os.map (·.2) = A ++ Ol c :: S ∧ A ++ S = (full k).take 31 ∧ A.length ≤ m
def Pm (c : Int) (n : Nat) (os : List En) : Prop := (os.map (·.2)).Perm (Ol c :: (full n).take 31)
theorem Jn.perm {m : Nat} (h : Jn c k m os) : Pm c k os := by
  obtain ⟨A, S, h1, h2, _⟩ := h
  rw [Pm, h1, ← h2]
  exact List.perm_middle
theorem Pm.mem (h : Pm c n os) : e ∈ os.map (·.2) ↔ e = Ol c ∨ ∃ i, i < n ∧ n ≤ i + 31 ∧ e = Nw i := by
  rw [h.mem_iff, List.mem_cons, mem_last]
theorem ne_old {i : Nat} : addr2 1 i ≠ addr2 9 c := by simp [addr2]
theorem ne_new {i j : Nat} (h : (addr2 1 i) = addr2 1 j) : i = j := by simp [addr2] at h; omega
theorem j_red {m : Nat} (h : Jn c k m os) (hm : m ≤ 20) (hr : RedSays w0 B (addr2 1 k) eigA os L w') : ∃ os', Ch w0 w' B os' L ∧ Jn c (k + 1) (m + 1) os' := by
  obtain ⟨b, e, rest, hmk, hc⟩ := hr
  have hfo : fo (addr2 1 k) os = none := fo_none_of fun e he hx => by
    rcases h.perm.mem.1 he with rfl | ⟨i, hi, _, rfl⟩
    · exact ne_old hx.symm
    · have := ne_new hx; omega
  rcases hmk with ⟨h', _⟩ | ⟨_, rfl, rfl⟩
  · rw [hfo] at h'; cases h'
  · refine ⟨_, hc, ?_⟩
    obtain ⟨A, S, h1, h2, h3⟩ := h
    have hb : bareE ((newE (addr2 1 k)).1, eigA, (newE (addr2 1 k)).2.2) = false := by
      have : (eigA == zeroA) = false := by decide
      simp only [bareE, this, Bool.false_and]
    rw [bareO, hb]
    simp only [Bool.false_eq_true, ↓reduceIte]
    have hl : os.length = (A ++ Ol c :: S).length := by rw [← h1, List.length_map]
    have hl2 := congrArg List.length h2
    rw [List.length_append, List.length_take, full_len] at hl2
    simp only [List.length_append, List.length_cons] at hl
    unfold room
    by_cases h32 : os.length = 32
    · rw [if_pos h32]
      have hS : S ≠ [] := fun e => by rw [e] at hl hl2; simp only [List.length_nil] at hl hl2; omega
      refine ⟨Nw k :: A, S.dropLast, ?_, ?_, by simp; omega⟩
      · rw [List.map_cons, List.map_dropLast, h1, List.dropLast_append_of_ne_nil (by simp), List.dropLast_cons_of_ne_nil hS]
        rfl
      · rw [List.cons_append, ← List.dropLast_append_of_ne_nil hS, h2]
        show Nw k :: _ = (Nw k :: full k).take 31
        rw [List.take_succ_cons, List.dropLast_eq_take, List.length_take, full_len, List.take_take, show min (min 31 k - 1) 31 = 30 by omega]
    · rw [if_neg h32]
      refine ⟨Nw k :: A, S, ?_, ?_, by simp; omega⟩
      · rw [List.map_cons, h1]; rfl
      · rw [List.cons_append, h2]
        show Nw k :: _ = (Nw k :: full k).take 31
        have hk : k ≤ 30 := by omega
        rw [List.take_succ_cons, List.take_of_length_le (by rw [full_len]; omega), List.take_of_length_le (by rw [full_len]; omega)]
theorem j_first (hr : RedSays w0 B (addr2 9 c) sevA [] L w') : ∃ os', Ch w0 w' B os' L ∧ Jn c 0 0 os' := by
  obtain ⟨b, e, rest, hmk, hc⟩ := hr
  rcases hmk with ⟨h', _⟩ | ⟨_, rfl, rfl⟩
  · cases h'
  · refine ⟨_, hc, ?_⟩
    have hb : bareE ((newE (addr2 9 c)).1, sevA, (newE (addr2 9 c)).2.2) = false := by
      have : (sevA == zeroA) = false := by decide
      simp only [bareE, this, Bool.false_and]
    rw [bareO, hb]
    simp only [Bool.false_eq_true, ↓reduceIte]
    exact ⟨[], [], rfl, rfl, Nat.le_refl _⟩
theorem pm_old (hC : Ch w0 w' B os L) (h : Pm c n os) : ∃ b, fo (addr2 9 c) os = some (b, Ol c) ∧ (b, Ol c) ∈ os := fo_some_of hC.nb.2.1 (h.mem.2 (.inl rfl)) rfl
theorem of_old (hC : Ch w0 w' B os L) (h : Pm c n os) : ofE (addr2 9 c) os = Ol c := by
  obtain ⟨b, hf, _⟩ := pm_old hC h
  rw [ofE, hf]
theorem j_of {m : Nat} (hC : Ch w0 w' B os L) (h : Jn c k m os) : Jn c k 0 (tch (addr2 9 c) os) := by
  obtain ⟨b, hf, hb⟩ := pm_old hC h.perm
  obtain ⟨A, S, h1, h2, _⟩ := h
  have := out_map hC.nb.1 hC.nb.2.1 h1 hb
  rw [tch, hf]
  exact ⟨[], A ++ S, by rw [List.map_cons, this]; rfl, h2, Nat.le_refl _⟩
theorem pm_tch (hC : Ch w0 w' B os L) (h : Pm c n os) (x : List Int) : Pm c n (tch x os) := by
  rw [tch]
  split
  · exact h
  · rename_i o hf
    obtain ⟨b, e⟩ := o
    exact ((front_perm hC.nb.1 (fo_some hf).1).map (fun o : En => o.2)).trans (show (os.map fun o : En => o.2).Perm _ from h)
theorem of_new (hC : Ch w0 w' B os L) (h : Pm c n os) {i : Nat} (hi : i < n) : (ofE (addr2 1 i) os).2.1 = if n ≤ i + 31 then eigA else zeroA := by
  by_cases hn : n ≤ i + 31
  · obtain ⟨b, hf, _⟩ := fo_some_of (x := addr2 1 i) hC.nb.2.1 (h.mem.2 (.inr ⟨i, hi, hn, rfl⟩)) rfl
    rw [ofE, hf, if_pos hn]; rfl
  · have hf : fo (addr2 1 i) os = none := fo_none_of fun e he hx => by
      rcases h.mem.1 he with rfl | ⟨j, hj, hj2, rfl⟩
      · exact ne_old hx.symm
      · have := ne_new hx; omega
    rw [ofE, hf, if_neg hn]; rfl
theorem ofE_is (hC : Ch w0 w' B os L) (hx : IsAddr x) : IsE (ofE x os) := by
  rw [ofE]
  split
  · exact newE_is hx
  · rename_i o hf
    exact (hC.ent (fo_some hf).1).2
theorem pm_len (h : Pm c n os) : os.length = min 32 (n + 1) := by
  have := h.length_eq
  rw [List.length_map, List.length_cons, List.length_take, full_len] at this
  omega
theorem way_full (n m : Nat) : ((full n).take m).filter (wayE eigA) = (full n).take m := by
  rw [List.filter_eq_self]
  intro e he
  obtain ⟨j, hj⟩ := List.getElem?_of_mem (List.mem_of_mem_take he)
  have hjn : j < n := by have := (List.getElem?_eq_some_iff.1 hj).1; rwa [full_len] at this
  rw [full_get n j hjn] at hj
  injection hj with hj
  subst hj
  exact beq_self_eq_true _
theorem pm_forg (h : Pm c n os) : forgN eigA os = min 31 n := by
  have hz : (eigA == zeroA) = false := by decide
  rw [forgN, hz]
  simp only [Bool.false_eq_true, ↓reduceIte, numW]
  have h1 : (os.filter fun o => wayE eigA o.2).length = ((os.map (·.2)).filter (wayE eigA)).length := by rw [List.filter_map, List.length_map]; rfl
  have hs : wayE eigA (Ol c) = false := show (sevA == eigA) = false by decide
  rw [h1, (h.filter _).length_eq, List.filter_cons_of_neg (by rw [hs]; decide), way_full, List.length_take, full_len]
theorem vis_len {d : E → Bool} {t : E → E} (hb : ∀ o ∈ os, d o.2 = true → bareE (t o.2) = true) : (visO d t os).length = ((os.map (·.2)).filter fun e => !d e).length := by
  induction os with
  | nil => rfl
  | cons o os ih =>
    have ih := ih (fun o ho => hb o (List.mem_cons_of_mem _ ho))
    rw [visO] at ih ⊢
    rw [List.filterMap_cons, List.map_cons]
    cases hd : d o.2 with
    | true =>
      rw [List.filter_cons_of_neg (by rw [hd]; decide)]
      simp only [hd, hb o (by simp) hd, ↓reduceIte]
      exact ih
    | false =>
      rw [List.filter_cons_of_pos (by rw [hd]; rfl)]
      simp only [hd, Bool.false_eq_true, ↓reduceIte, List.length_cons]
      rw [ih]
theorem pm_left (h : Pm c n os) : (forgO eigA os).length = 1 := by
  have hz : (eigA == zeroA) = false := by decide
  rw [forgO, hz]
  simp only [Bool.false_eq_true, ↓reduceIte]
  have hs : wayE eigA (Ol c) = false := show (sevA == eigA) = false by decide
  rw [vis_len (fun o ho hd => by
    rcases h.mem.1 (List.mem_map_of_mem ho) with e | ⟨i, _, _, e⟩
    · rw [e, hs] at hd; cases hd
    · rw [e]; simp [bareE, noWay, Nw]), (h.filter _).length_eq, List.filter_cons_of_pos (by rw [hs]; rfl)]
  have : ((full n).take 31).filter (fun e => !wayE eigA e) = [] := by
    rw [List.filter_eq_nil_iff]
    intro e he
    have h1 := way_full n 31
    rw [List.filter_eq_self] at h1
    rw [h1 e he]; decide
  rw [this]; rfl
end
end Go.Proofs.Ytpjjcihhmhccfaa
