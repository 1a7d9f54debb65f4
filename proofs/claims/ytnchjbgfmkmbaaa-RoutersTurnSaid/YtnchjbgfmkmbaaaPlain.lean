/- What the list of routers answers, in plain words. No condition. -/
import Derived.Test.YtnchjbgfmkmbaaaPick7
namespace Go.Proofs.Ytnchjbgfmkmbaaa
open Go.ChangeShapes Go.WideShapes Go.ChangeAt Go.RowKit Go.Deep
set_option linter.unusedVariables false

/-- None twice. -/
abbrev NoDup (es : List E) : Prop := es.Pairwise fun a b => a.1 ≠ b.1
theorem NoDup.uniq {es : List E} (h : NoDup es) {i j : Nat} {a b : E} (hi : es[i]? = some a) (hj : es[j]? = some b) (he : a.1 = b.1) : i = j := by
  obtain ⟨h1, rfl⟩ := List.getElem?_eq_some_iff.1 hi
  obtain ⟨h2, rfl⟩ := List.getElem?_eq_some_iff.1 hj
  rcases Nat.lt_trichotomy i j with hlt | heq | hlt
  · exact absurd he (List.pairwise_iff_getElem.1 h i j h1 h2 hlt)
  · exact heq
  · exact absurd he.symm (List.pairwise_iff_getElem.1 h j i h2 h1 hlt)
theorem NoDup.one {es : List E} (h : NoDup es) {a b : E} (ha : a ∈ es) (hb : b ∈ es) (he : a.1 = b.1) : a = b := by
  obtain ⟨i, hi⟩ := List.getElem?_of_mem ha
  obtain ⟨j, hj⟩ := List.getElem?_of_mem hb
  have := h.uniq hi hj he
  subst this
  rw [hi] at hj
  injection hj
theorem NoDup.drop {es : List E} (h : NoDup es) (x : List Int) : NoDup (dropS x es) := by
  unfold dropS
  split
  · exact h
  · exact h.sublist (List.eraseIdx_sublist _ _)
theorem drop_filter {es : List E} (h : NoDup es) (x : List Int) : dropS x es = es.filter fun e => !(e.1 == x) := by
  rcases whereA_cases x es with ⟨h1, h2⟩ | ⟨i, e, h1, h2, h3⟩
  · rw [dropS, if_pos (by omega), List.filter_eq_self.2]
    intro e he
    simpa using h2 e he
  · rw [dropS, if_neg (by omega), h1, Int.toNat_natCast]
    subst h3
    clear h1
    induction es generalizing i with
    | nil => simp at h2
    | cons y es ih =>
      have hp := List.pairwise_cons.1 h
      cases i with
      | zero =>
        simp at h2
        subst h2
        rw [List.eraseIdx_cons_zero, List.filter_cons_of_neg (by simp), List.filter_eq_self.2]
        intro z hz
        have := hp.1 z hz
        simpa using fun e : z.1 = y.1 => this e.symm
      | succ i =>
        simp at h2
        have hy : y.1 ≠ e.1 := hp.1 e (List.mem_of_getElem? h2)
        rw [List.eraseIdx_cons_succ, List.filter_cons_of_pos (by simpa using hy), ih hp.2 i h2]
theorem drop_mem {es : List E} (h : NoDup es) {x : List Int} {e : E} : e ∈ dropS x es ↔ e ∈ es ∧ e.1 ≠ x := by
  rw [drop_filter h, List.mem_filter]; simp
theorem NoDup.snoc {es : List E} (h : NoDup es) {x : E} (hx : ∀ e ∈ es, e.1 ≠ x.1) : NoDup (es ++ [x]) := by
  rw [NoDup, List.pairwise_append]
  exact ⟨h, by simp, fun a ha b hb => by rw [List.mem_singleton.1 hb]; exact hx a ha⟩
theorem NoDup.set {es : List E} (h : NoDup es) {i : Nat} {e x : E} (hi : es[i]? = some e) (he : e.1 = x.1) : NoDup (es.set i x) := by
  rw [NoDup, List.pairwise_iff_getElem]
  intro a b ha hb hab
  rw [List.length_set] at ha hb
  have := List.pairwise_iff_getElem.1 h a b ha hb hab
  obtain ⟨hil, rfl⟩ := List.getElem?_eq_some_iff.1 hi
  rw [List.getElem_set, List.getElem_set]
  split
  · rename_i h1
    subst h1
    rw [if_neg (by omega), ← he]; exact this
  · split
    · rename_i h1
      subst h1
      rw [← he]; exact this
    · exact this
theorem learn_nodup {es : List E} (h : NoDup es) (x : E) (life : Int) : NoDup (learnS x life es) := by
  unfold learnS
  split
  · exact h.drop _
  · rcases whereA_cases x.1 es with ⟨h1, h2⟩ | ⟨i, e, h1, h2, h3⟩
    · rw [if_neg (by omega)]
      split
      · exact h.snoc h2
      · split
        · refine (h.drop _).snoc fun e he => h2 e (drop_mem h |>.1 he).1
        · exact h
    · rw [if_pos (by omega), h1, Int.toNat_natCast]
      exact h.set h2 h3
/-- What is told without a lifetime is not there. -/
theorem learn_zero {es : List E} (h : NoDup es) (x : E) : ∀ e ∈ learnS x 0 es, e.1 ≠ x.1 := fun e he => by
  rw [learnS, if_pos rfl] at he
  exact (drop_mem h |>.1 he).2
/-- What is told with one is there, if there is room. -/
theorem learn_room {es : List E} {x : E} {life : Int} (hl : life ≠ 0) (h4 : es.length < 4) : ∃ e ∈ learnS x life es, e.1 = x.1 := by
  rw [learnS, if_neg hl]
  rcases whereA_cases x.1 es with ⟨h1, h2⟩ | ⟨i, e, h1, h2, h3⟩
  · rw [if_neg (by omega), if_pos h4]
    exact ⟨x, by simp, rfl⟩
  · rw [if_pos (by omega), h1, Int.toNat_natCast]
    have := (List.getElem?_eq_some_iff.1 h2).1
    exact ⟨x, List.mem_of_getElem? (i := i) (by simp [this]), rfl⟩
/-- How many have the address. -/
def cnt (x : List Int) (es : List E) : Nat := (es.filter fun e => e.1 == x).length
theorem cnt_snoc {x : List Int} {es : List E} {j : Nat} {e : E} (h : es[j]? = some e) : cnt x (es.take (j + 1)) = cnt x (es.take j) + if e.1 == x then 1 else 0 := by
  rw [cnt, List.take_add_one, h, List.filter_append, List.length_append]
  cases hx : e.1 == x <;> simp [hx, cnt]
theorem cnt_le {es : List E} (h : NoDup es) (x : List Int) : cnt x es ≤ 1 := by
  rw [cnt]
  match hf : es.filter (fun e => e.1 == x) with
  | [] => rw [hf]; simp
  | [_] => rw [hf]; simp
  | a :: b :: l =>
    have hp : NoDup (a :: b :: l) := by rw [← hf]; exact h.filter _
    have h1 : a ∈ es.filter (fun e => e.1 == x) := by rw [hf]; simp
    have h2 : b ∈ es.filter (fun e => e.1 == x) := by rw [hf]; simp
    have e1 := (List.mem_filter.1 h1).2
    have e2 := (List.mem_filter.1 h2).2
    simp only [beq_iff_eq] at e1 e2
    exact absurd (e1.trans e2.symm) ((List.pairwise_cons.1 hp).1 b (by simp))
theorem cnt_zero {es : List E} {x : List Int} (h : ∀ e ∈ es, e.1 ≠ x) : cnt x es = 0 := by
  rw [cnt, List.length_eq_zero_iff, List.filter_eq_nil_iff]
  intro e he
  simpa using h e he
theorem cnt_pos {es : List E} {x : List Int} (h : ∃ e ∈ es, e.1 = x) : 0 < cnt x es := by
  obtain ⟨e, he, hx⟩ := h
  rw [cnt, List.length_pos_iff]
  intro h0
  rw [List.filter_eq_nil_iff] at h0
  exact absurd (by simpa using hx) (h0 e he)
theorem ord_nodup {es : List E} (ho : ∀ e ∈ es, IsE e) (h : NoDup es) : NoDup (ord es) := by
  have one : ∀ r, NoDup (ofR r es) := fun r => h.filter _
  have two : ∀ r s, r ≠ s → ∀ a ∈ ofR r es, ∀ b ∈ ofR s es, a.1 ≠ b.1 := fun r s hrs a ha b hb he => by
    have := h.one (ofR_mem.1 ha).1 (ofR_mem.1 hb).1 he
    subst this
    exact hrs ((ofR_mem.1 ha).2.symm.trans (ofR_mem.1 hb).2)
  rw [ord, NoDup, List.pairwise_append, List.pairwise_append]
  refine ⟨one 1, ⟨one 0, one (-1), two 0 (-1) (by decide)⟩, fun a ha b hb => ?_⟩
  rcases List.mem_append.1 hb with hb | hb
  · exact two 1 0 (by decide) a ha b hb
  · exact two 1 (-1) (by decide) a ha b hb
theorem ord_filter (p : E → Bool) (es : List E) : ord (es.filter p) = (ord es).filter p := by
  have one : ∀ r, ofR r (es.filter p) = (ofR r es).filter p := fun r => by
    rw [ofR, ofR, List.filter_filter, List.filter_filter]
    congr 1
    funext e
    exact Bool.and_comm _ _
  rw [ord, one, one, one, ord, List.filter_append, List.filter_append]
/-- Those whose time is over are gone. -/
theorem tickF_filter {now : Int} : ∀ (L cs : List E), NoDup cs → tickF now cs L = cs.filter (fun y => !(L.any fun e => decide (e.2.2 ≤ now) && e.1 == y.1))
  | [], cs, h => by
    show cs = _
    rw [List.filter_eq_self.2]
    simp
  | e :: L, cs, h => by
    rw [tickF, List.foldl_cons]
    by_cases hp : e.2.2 ≤ now
    · rw [if_pos hp]
      have := tickF_filter (now := now) L (dropS e.1 cs) (h.drop _)
      rw [tickF] at this
      rw [this, drop_filter h, List.filter_filter]
      congr 1
      funext y
      simp only [List.any_cons, hp, decide_true, Bool.true_and, Bool.not_or]
      rw [Bool.and_comm, Bool.beq_comm]
    · rw [if_neg hp]
      have := tickF_filter (now := now) L cs h
      rw [tickF] at this
      rw [this]
      congr 1
      funext y
      simp [hp]
theorem tick_left {now : Int} {es : List E} (ho : ∀ e ∈ es, IsE e) (h : NoDup es) : tickF now es (ord es) = es.filter fun y => !decide (y.2.2 ≤ now) := by
  rw [tickF_filter _ _ h]
  apply List.filter_congr
  intro y hy
  congr 1
  rw [Bool.eq_iff_iff, List.any_eq_true]
  constructor
  · rintro ⟨e, he, h1⟩
    simp only [Bool.and_eq_true, decide_eq_true_eq, beq_iff_eq] at h1
    have := h.one ((ord_mem ho).1 he) hy h1.2
    subst this
    simpa using h1.1
  · intro h1
    exact ⟨y, (ord_mem ho).2 hy, by simpa using h1⟩
theorem next_gt {now : Int} : ∀ {us : List Int}, now < 9223372036854775807 → (∀ u ∈ us, now < u) → now < nextOf us := by
  intro us h0 h
  have : ∀ (us : List Int) (a : Int), now < a → (∀ u ∈ us, now < u) → now < us.foldl min a := by
    intro us
    induction us with
    | nil => intro a ha _; exact ha
    | cons u us ih =>
      intro a ha hu
      rw [List.foldl_cons]
      have := hu u (by simp)
      exact ih _ (by omega) (fun x hx => hu x (by simp [hx]))
  exact this us _ h0 h
/-- The one that comes next. -/
theorem next_at {es : List E} (ho : ∀ e ∈ es, IsE e) (h : NoDup es) {i : Nat} {e : E} (hi : (ord es)[i]? = some e) : nextP e.1 true es = (i + 1) % es.length := by
  rw [nextP]
  have : idx (fun y : E => true && y.1 == e.1) (ord es) = (i : Int) := by
    rcases idx_cases (p := fun y : E => true && y.1 == e.1) (ord es) with ⟨_, h2⟩ | ⟨j, y, h1, h2, h3, _⟩
    · rw [List.any_eq_false] at h2
      exact absurd (by simp) (h2 e (List.mem_of_getElem? hi))
    · rw [h1, (ord_nodup ho h).uniq h2 hi (by simpa using h3)]
  rw [this]
  congr 1
theorem next_first {es : List E} (last : List Int) : nextP last false es = 0 := by
  have : idx (fun y : E => false && y.1 == last) (ord es) = -1 := idx_none (by rw [List.any_eq_false]; intro x _; simp)
  rw [nextP, this]; exact Nat.zero_mod _
theorem pick_none {es : List E} {last : List Int} {had : Bool} {i : Nat} {e : E} (hn : nextP last had es = i) (hi : (ord es)[i]? = some e) (h0 : es ≠ []) : pickS [] es last had = (e.1, true, e.1, true) := by
  rw [pickS, if_neg h0, find_none (by rw [List.any_eq_false]; intro x _; simp [hasA]), hn, hi]; rfl
theorem has_one {g x : List Int} : hasA [g] x = (x == g) := by simp [hasA]
theorem pick_one {es : List E} {last g : List Int} {had : Bool} (h0 : es ≠ []) : (pickS [g] es last had).2.1 = true ∧ ((ord es).any (fun e => e.1 == g) = true → (pickS [g] es last had).1 = g) := by
  rw [pickS, if_neg h0]
  cases hf : (ord es).find? (fun e => hasA [g] e.1) with
  | some e =>
    have := List.find?_some hf
    rw [has_one] at this
    exact ⟨rfl, fun _ => by simpa using this⟩
  | none =>
    refine ⟨rfl, fun h => ?_⟩
    rw [List.find?_eq_none] at hf
    rw [List.any_eq_true] at h
    obtain ⟨e, he, hg⟩ := h
    exact absurd (by rw [has_one]; exact hg) (hf e he)
/-- A list of routers that were learnt. -/
def madeS (xs : List (E × Int)) : List E := xs.foldl (fun es x => learnS x.1 x.2 es) []
theorem made_nodup (xs : List (E × Int)) : NoDup (madeS xs) := by
  have : ∀ (xs : List (E × Int)) (es : List E), NoDup es → NoDup (xs.foldl (fun es x => learnS x.1 x.2 es) es) := by
    intro xs
    induction xs with
    | nil => intro es h; exact h
    | cons x xs ih => intro es h; exact ih _ (learn_nodup h _ _)
  exact this xs [] List.Pairwise.nil
end Go.Proofs.Ytnchjbgfmkmbaaa
