/- Which entries a cache has, in order: one looked up and touched, dropped; each function walked once. No condition. -/
import Derived.Test.YtpjjcihhmhccfaaOut
namespace Go.Proofs.Ytpjjcihhmhccfaa
open Go.ChangeShapes Go.WideShapes Go.ChangeAt Go.RowKit Go.Deep
set_option linter.unusedVariables false
set_option linter.unusedSimpArgs false

abbrev En := Nat × E
/-- Without an entry. -/
abbrev outO (b : Nat) (os : List En) : List En := os.filter fun p => !(p.1 == b)
/-- The row and the map tell these entries, in this order. -/
structure Gd (ps : List Nat) (ms : List Mm) (es os : List En) : Prop where
  row : os.map (·.1) = ps
  mem : ∀ o ∈ os, o ∈ es
  nd : os.Pairwise fun a b => a.2.1 ≠ b.2.1
  nb : os.Pairwise fun a b => a.1 ≠ b.1
  keys : ∀ a b, (∃ n, (a, b, n) ∈ ms) ↔ ∃ e, (b, e) ∈ os ∧ e.1 = a
  kd : ms.Pairwise fun x y => x.1 ≠ y.1
  len : ms.length = os.length
  max : os.length ≤ 32
def Ch (w0 W : World) (B : Nat) (os : List En) (L : List Bx) : Prop := ∃ bm v ps ms ck es, Lc w0 W B bm v ps ms ck es L ∧ Gd ps ms es os
section
variable {w0 W V : World} {B : Nat} {os : List En} {L : List Bx}
theorem Ch.call (h : Ch w0 W B os L) (hb : Below W.heap.size W V) : Ch w0 V B os L := by
  obtain ⟨bm, v, ps, ms, ck, es, h1, h2⟩ := h
  exact ⟨bm, v, ps, ms, ck, es, h1.call hb, h2⟩
theorem Ch.new (h : Ch w0 W B os L) (t : TypeId) (cs : Array Value) {g : Nat} (hg : W.heap.size = g) : Ch w0 (W.alloc (.cells cs t)) B os (L ++ [(g, t, cs)]) := by
  obtain ⟨bm, v, ps, ms, ck, es, h1, h2⟩ := h
  exact ⟨bm, v, ps, ms, ck, es, h1.new t cs hg, h2⟩
theorem Ch.pop {L2 : List Bx} (h : Ch w0 W B os (L ++ L2)) : Ch w0 W B os L := by
  obtain ⟨bm, v, ps, ms, ck, es, h1, h2⟩ := h
  exact ⟨bm, v, ps, ms, ck, es, h1.pop, h2⟩
theorem Ch.get (h : Ch w0 W B os L) (i : Nat) {g : Nat} {t : TypeId} {c : Array Value} (hi : L[i]? = some (g, t, c)) : Blk W g t c := by
  obtain ⟨bm, v, ps, ms, ck, es, h1, h2⟩ := h
  exact h1.get i hi
theorem Ch.last {g : Nat} {t : TypeId} {c : Array Value} (h : Ch w0 W B os (L ++ [(g, t, c)])) : Blk W g t c := by
  obtain ⟨bm, v, ps, ms, ck, es, h1, h2⟩ := h
  exact h1.last
theorem Ch.map1 (h : Ch w0 W B os L) : ∃ bm, W.cell? ⟨B, 1, none⟩ = some (.map (some bm)) := by
  obtain ⟨bm, v, ps, ms, ck, es, h1, h2⟩ := h
  exact ⟨bm, h1.map1⟩
theorem Ch.ent (h : Ch w0 W B os L) {o : En} (ho : o ∈ os) : Blk W o.1 33 (encV o.2) ∧ IsE o.2 := by
  obtain ⟨bm, v, ps, ms, ck, es, h1, h2⟩ := h
  exact ⟨h1.ent o (h2.mem o ho), h1.ok o (h2.mem o ho)⟩
theorem Ch.bel (h : Ch w0 W B os L) : Below w0.heap.size w0 W := by
  obtain ⟨bm, v, ps, ms, ck, es, h1, h2⟩ := h
  exact h1.bel
theorem Ch.lt (h : Ch w0 W B os L) : B < W.heap.size := by
  obtain ⟨bm, v, ps, ms, ck, es, h1, h2⟩ := h
  exact h1.blk.lt
end
/-- One thing of a list, put ahead. -/
theorem front_perm {b : Nat} {e : E} : ∀ {os : List En}, os.Pairwise (fun a b => a.1 ≠ b.1) → (b, e) ∈ os → List.Perm ((b, e) :: outO b os) os
  | [], _, h => by simp at h
  | o :: os, hn, h => by
    have hp := List.pairwise_cons.1 hn
    by_cases hb : o.1 = b
    · have ho : o = (b, e) := by
        rcases List.mem_cons.1 h with h | h
        · exact h.symm
        · exact absurd hb (hp.1 _ h)
      subst ho
      have hf : outO b os = os := List.filter_eq_self.2 (fun p hp2 => by
        have := hp.1 p hp2
        simpa using fun e : p.1 = b => this e.symm)
      rw [outO, List.filter_cons_of_neg (by simp)]
      rw [show List.filter (fun p => !(p.1 == b)) os = os from hf]
    · have hm : (b, e) ∈ os := by
        rcases List.mem_cons.1 h with h | h
        · exact absurd (by rw [← h]) hb
        · exact h
      rw [outO, List.filter_cons_of_pos (by simpa using hb)]
      exact (List.Perm.swap _ _ _).trans ((front_perm hp.2 hm).cons o)
theorem fnd_none {x : List Int} : ∀ {ms : List Mm} {i : Nat}, (∀ m ∈ ms, m.1 ≠ x) → fnd x ms i = none
  | [], i, _ => rfl
  | m :: ms, i, h => by
    have hm : (x == m.1) = false := by simpa using fun e : x = m.1 => h m (by simp) e.symm
    rw [fnd, hm, if_neg (by simp), fnd_none (fun y hy => h y (by simp [hy]))]
theorem fnd_some {m : Mm} : ∀ {ms : List Mm} {i : Nat}, ms.Pairwise (fun x y => x.1 ≠ y.1) → m ∈ ms → ∃ j, fnd m.1 ms i = some (i + j, ptr m.2.1) ∧ ms.eraseIdx j = ms.filter (fun y => !(y.1 == m.1))
  | [], i, _, h => by simp at h
  | y :: ms, i, hn, h => by
    have hp := List.pairwise_cons.1 hn
    by_cases hy : y.1 = m.1
    · have hym : y = m := by
        rcases List.mem_cons.1 h with h | h
        · exact h.symm
        · exact absurd hy (hp.1 _ h)
      subst hym
      refine ⟨0, by rw [fnd]; simp, ?_⟩
      rw [List.eraseIdx_cons_zero, List.filter_cons_of_neg (by simp), List.filter_eq_self.2]
      intro z hz
      have := hp.1 z hz
      simpa using fun e : z.1 = y.1 => this e.symm
    · have hm : m ∈ ms := by
        rcases List.mem_cons.1 h with h | h
        · exact absurd (by rw [h]) hy
        · exact h
      obtain ⟨j, h1, h2⟩ := fnd_some (i := i + 1) hp.2 hm
      have hne : (m.1 == y.1) = false := by simpa using fun e : m.1 = y.1 => hy e.symm
      refine ⟨j + 1, by rw [fnd, hne, if_neg (by simp), h1, Nat.add_assoc, Nat.add_comm 1 j], ?_⟩
      rw [List.eraseIdx_cons_succ, List.filter_cons_of_pos (by simpa using hy), h2]
theorem dropM_eq {m : Mm} {ms : List Mm} (h : ms.Pairwise fun x y => x.1 ≠ y.1) (hm : m ∈ ms) : dropM m.1 ms = ms.filter (fun y => !(y.1 == m.1)) ∧ (dropM m.1 ms).length + 1 = ms.length := by
  obtain ⟨j, h1, h2⟩ := fnd_some (i := 0) h hm
  have hj := (fnd_lt m.1 ms 0 _ _ h1).2
  rw [dropM, h1]
  dsimp only
  rw [Nat.zero_add] at hj ⊢
  exact ⟨h2, by rw [List.length_eraseIdx_of_lt (by omega)]; omega⟩
theorem leftP_map (b : Nat) (os : List En) : leftP b (os.map (·.1)) = (outO b os).map (·.1) := by
  rw [leftP, List.filter_map]; rfl
/-- Which entry has the address. -/
def fo (x : List Int) (os : List En) : Option En := os.find? fun o => o.2.1 == x
theorem fo_none {x : List Int} {os : List En} (h : fo x os = none) : ∀ o ∈ os, o.2.1 ≠ x := fun o ho e => by
  have := List.find?_eq_none.1 h o ho
  simp [e] at this
theorem fo_some {x : List Int} {os : List En} {o : En} (h : fo x os = some o) : o ∈ os ∧ o.2.1 = x := ⟨List.mem_of_find?_eq_some h, by simpa using List.find?_some h⟩
def tval (x : List Int) (os : List En) : Value := match fo x os with | none => .pointer none | some o => ptr o.1
def tch (x : List Int) (os : List En) : List En := match fo x os with | none => os | some o => o :: outO o.1 os
section
variable {ps : List Nat} {ms : List Mm} {es os : List En}
theorem Gd.look (h : Gd ps ms es os) (x : List Int) : look x ms = tval x os := by
  rw [Go.Proofs.Ytpjjcihhmhccfaa.look, tval]
  cases hf : fo x os with
  | none =>
    rw [fnd_none (fun m hm e => by
      obtain ⟨a, b, n⟩ := m
      obtain ⟨y, hy, hya⟩ := (h.keys a b).1 ⟨n, hm⟩
      exact fo_none hf _ hy (hya.trans e))]
    rfl
  | some o =>
    obtain ⟨ho, hox⟩ := fo_some hf
    obtain ⟨n, hn⟩ := (h.keys o.2.1 o.1).2 ⟨o.2, ho, rfl⟩
    obtain ⟨j, h1, _⟩ := fnd_some (i := 0) h.kd hn
    rw [← hox, h1]
    rfl
theorem Gd.no (h : Gd ps ms es os) {x : List Int} (hf : fo x os = none) : ∀ m ∈ ms, m.1 ≠ x := fun m hm e => by
  obtain ⟨a, b, n⟩ := m
  obtain ⟨y, hy, hya⟩ := (h.keys a b).1 ⟨n, hm⟩
  exact fo_none hf _ hy (hya.trans e)
/-- Touched. -/
theorem Gd.touch (h : Gd ps ms es os) {b : Nat} {e : E} (ho : (b, e) ∈ os) : Gd (b :: leftP b ps) ms es ((b, e) :: outO b os) := by
  have hp := front_perm h.nb ho
  exact ⟨by rw [List.map_cons, ← h.row, leftP_map], fun o hm => h.mem o (hp.mem_iff.1 hm), hp.symm.pairwise h.nd (fun hxy e => hxy e.symm), hp.symm.pairwise h.nb (fun hxy e => hxy e.symm),
    fun a b' => by rw [h.keys a b']; exact ⟨fun ⟨y, h1, h2⟩ => ⟨y, hp.mem_iff.2 h1, h2⟩, fun ⟨y, h1, h2⟩ => ⟨y, hp.mem_iff.1 h1, h2⟩⟩, h.kd, by rw [h.len, hp.length_eq], by rw [hp.length_eq]; exact h.max⟩
theorem nb_uniq {os : List En} (h : os.Pairwise fun a b => a.1 ≠ b.1) {b : Nat} {e f : E} (h1 : (b, e) ∈ os) (h2 : (b, f) ∈ os) : e = f := by
  have hp := front_perm h h1
  have hm := hp.mem_iff.2 h2
  rcases List.mem_cons.1 hm with hm | hm
  · exact (Prod.mk.inj hm).2.symm
  · have := (List.mem_filter.1 hm).2
    simp at this
theorem nd_uniq {os : List En} (h : os.Pairwise fun a b => a.2.1 ≠ b.2.1) {o p : En} (h1 : o ∈ os) (h2 : p ∈ os) (he : o.2.1 = p.2.1) : o = p := by
  obtain ⟨i, hi, rfl⟩ := List.mem_iff_getElem.1 h1
  obtain ⟨j, hj, rfl⟩ := List.mem_iff_getElem.1 h2
  rcases Nat.lt_trichotomy i j with hlt | heq | hlt
  · exact absurd he (List.pairwise_iff_getElem.1 h i j hi hj hlt)
  · subst heq; rfl
  · exact absurd he.symm (List.pairwise_iff_getElem.1 h j i hj hi hlt)
/-- Dropped. -/
theorem Gd.drop (h : Gd ps ms es os) {b : Nat} {e : E} (ho : (b, e) ∈ os) : Gd (leftP b ps) (dropM e.1 ms) es (outO b os) := by
  have hp := front_perm h.nb ho
  obtain ⟨n, hn⟩ := (h.keys e.1 b).2 ⟨e, ho, rfl⟩
  obtain ⟨h1, h2⟩ := dropM_eq h.kd hn
  have hl := hp.length_eq
  rw [List.length_cons] at hl
  refine ⟨by rw [← h.row, leftP_map], fun o hm => h.mem o (List.mem_filter.1 hm).1, h.nd.filter _, h.nb.filter _, fun a b' => ?_, by rw [show dropM e.1 ms = _ from h1]; exact h.kd.filter _, ?_, ?_⟩
  · rw [show dropM e.1 ms = _ from h1]
    constructor
    · rintro ⟨k, hk⟩
      obtain ⟨hk1, hk2⟩ := List.mem_filter.1 hk
      obtain ⟨y, hy1, hy2⟩ := (h.keys a b').1 ⟨k, hk1⟩
      refine ⟨y, List.mem_filter.2 ⟨hy1, ?_⟩, hy2⟩
      simp only [Bool.not_eq_true', beq_eq_false_iff_ne, ne_eq] at hk2 ⊢
      intro e'
      subst e'
      exact hk2 (by rw [← hy2, nb_uniq h.nb hy1 ho])
    · rintro ⟨y, hy1, hy2⟩
      obtain ⟨hm1, hm2⟩ := List.mem_filter.1 hy1
      obtain ⟨k, hk⟩ := (h.keys a b').2 ⟨y, hm1, hy2⟩
      refine ⟨k, List.mem_filter.2 ⟨hk, ?_⟩⟩
      simp only [Bool.not_eq_true', beq_eq_false_iff_ne, ne_eq] at hm2 ⊢
      intro e'
      have := nd_uniq h.nd hm1 ho (by show y.1 = e.1; rw [hy2, e'])
      exact hm2 (Prod.mk.inj this).1
  · have : (dropM e.1 ms).length + 1 = ms.length := h2
    have := h.len
    omega
  · have := h.max; omega
end
theorem drop_any {w0 : World} (w : World) {B : Nat} {os : List En} {L : List Bx} (h : Ch w0 w B os L) (b : Nat) (e : E) (hb : (b, e) ∈ os) :
    Calls Try.prog 35 #[ptr B, ptr b] w fun r w' => (∃ z, r = .returned z) ∧ Ch w0 w' B (outO b os) L := by
  obtain ⟨bm, v, ps, ms, ck, es, h1, h2⟩ := h
  exact (dropL_any w h1 b e (h2.mem _ hb)).mono fun r w' ⟨hr, v', h'⟩ => ⟨hr, bm, v', _, _, ck, es, h', h2.drop hb⟩

set_option maxRecDepth 100000 in
set_option maxHeartbeats 2000000 in
theorem touched_any {w0 : World} (w : World) {B : Nat} {os : List En} {L : List Bx} (h : Ch w0 w B os L) (x : List Int) (hx0 : IsAddr x) :
    Calls Try.prog 29 #[ptr B, .agg (bytesV x)] w fun e w' => e = .returned (tval x os) ∧ Ch w0 w' B (tch x os) L := by
  obtain ⟨bm, v, ps, ms, ck, es, h1, h2⟩ := h
  obtain ⟨q, hq⟩ : ∃ q, w.heap.size = q := ⟨_, rfl⟩
  have hx := hidd hx0
  have K0 := hidd (h1.new 24 (bytesV x) hq)
  have G := hidd h2
  have hlk := h2.look x
  clear h1 h2 hx0
  go_enter Try.func29, Try.ntmps29
  go_wp2_with fail
  generalize w.alloc (.cells (bytesV x) 24) = w1 at K0 ⊢
  have K1 := hidd K0.out.draw
  clear K0
  refine wp_region_held_drew (S := (fun V => Lc w0 V B bm v ps ms ck es (L ++ [(q, 24, bytesV x)]))) (by kernel_rfl) K1.out (fun hHeld => ?_)
  generalize w1.drew = D at K1 hHeld ⊢
  refine wpAnyH_take (i := 0) (v := ?_) rfl (by kernel_rfl) (by kernel_rfl) (by kernel_rfl) (fun _ _ _ h => h) (Or.inl ⟨by kernel_rfl, ?_⟩) hHeld ?_
  rotate_left
  · intro wh hSw
    go_simp
    try with_reducible rfl
  try simp only [Act.put, List.getElem_toArray, List.getElem_cons_zero, List.getElem_cons_succ, List.setIfInBounds_toArray, List.set_cons_zero, List.set_cons_succ]
  refine wpAnyH_take (i := 1) (v := ?_) rfl (by kernel_rfl) (by kernel_rfl) (by kernel_rfl) (fun _ _ _ h => h) (Or.inl ⟨by kernel_rfl, ?_⟩) hHeld ?_
  rotate_left
  · intro wh hSw
    go_simp
    try with_reducible rfl
  try simp only [Act.put, List.getElem_toArray, List.getElem_cons_zero, List.getElem_cons_succ, List.setIfInBounds_toArray, List.set_cons_zero, List.set_cons_succ]
  refine wpAnyH_take (i := 2) (v := ?_) rfl (by kernel_rfl) (by kernel_rfl) (by kernel_rfl) (fun _ _ _ h => h) (Or.inl ⟨by kernel_rfl, ?_⟩) hHeld ?_
  rotate_left
  · intro wh hSw
    go_simp
    try with_reducible rfl
  try simp only [Act.put, List.getElem_toArray, List.getElem_cons_zero, List.getElem_cons_succ, List.setIfInBounds_toArray, List.set_cons_zero, List.set_cons_succ]
  refine wpAnyH_take (i := 3) (v := ?_) rfl (by kernel_rfl) (by kernel_rfl) (by kernel_rfl) (fun _ _ _ h => h) (Or.inl ⟨by kernel_rfl, ?_⟩) hHeld ?_
  rotate_left
  · intro wh hSw
    have hcell := hSw.blk.at_ (i := 1) rfl
    go_simp
    try with_reducible rfl
  try simp only [Act.put, List.getElem_toArray, List.getElem_cons_zero, List.getElem_cons_succ, List.setIfInBounds_toArray, List.set_cons_zero, List.set_cons_succ]
  refine wpAnyH_take (i := 4) rfl (by kernel_rfl) (by kernel_rfl) (by kernel_rfl) (fun _ _ _ h => h) (yieldsIf_load_want (by kernel_rfl) 24 _ rfl _ rfl _ (fun wh hSw => ld24 hSw.last hx.out)) hHeld ?_
  try simp only [Act.put, List.getElem_toArray, List.getElem_cons_zero, List.getElem_cons_succ, List.setIfInBounds_toArray, List.set_cons_zero, List.set_cons_succ]
  refine wpAnyH_ready (rs := [5]) (by kernel_rfl) (by simp) (AllReadyH.cons rfl (fun K hK => ?_) AllReadyH.nil)
  clear hHeld
  go_simp
  rw [run_look K1.out.map K1.out.keys hx.out]
  simp only [Result.andThen_ok]
  refine hK.out _ _ K1.out (fun hHeld => ?_)
  clear hK K
  try simp only [Act.put, List.getElem_toArray, List.getElem_cons_zero, List.getElem_cons_succ, List.setIfInBounds_toArray, List.set_cons_zero, List.set_cons_succ]
  refine wpAnyH_ready (rs := [6]) (by kernel_rfl) (by simp) (AllReadyH.cons rfl (fun K hK => ?_) AllReadyH.nil)
  clear hHeld
  go_simp
  refine hK.out _ _ K1.out (fun hHeld => ?_)
  clear hK K
  try simp only [Act.put, List.getElem_toArray, List.getElem_cons_zero, List.getElem_cons_succ, List.setIfInBounds_toArray, List.set_cons_zero, List.set_cons_succ]
  refine wpAnyH_done (by kernel_rfl) ?_ _
  clear hHeld
  cases hf : fo x os with
  | none =>
    have hv : tval x os = .pointer none := by rw [tval, hf]
    have ht : Hid (tch x os = os) := by refine hidd ?_; rw [tch, hf]
    have hvh := hidd hv
    rw [hv]
    clear hlk hv hf
    go_wp2
    go_ret
    rw [ht.out, hvh.out]
    exact ⟨rfl, bm, v, ps, ms, ck, es, K1.out.pop, G.out⟩
  | some o =>
    obtain ⟨b, e⟩ := o
    have ho := hidd (fo_some hf).1
    have hv : tval x os = ptr b := by rw [tval, hf]
    have ht : Hid (tch x os = (b, e) :: outO b os) := by refine hidd ?_; rw [tch, hf]
    have hvh := hidd hv
    rw [hv]
    clear hlk hv hf
    go_wp2_with fail
    refine (out_any D K1.out b ⟨_, G.out.mem _ ho.out, rfl⟩).mono ?_
    rintro r W3 ⟨⟨z, rfl⟩, v3, k3⟩
    have K3 := hidd k3
    have c0 := K3.out.row0
    obtain ⟨vb, hvb⟩ : ∃ vb, W3.heap.size = vb := ⟨_, rfl⟩
    have K4 := hidd (K3.out.new 61 #[ptr b] hvb)
    obtain ⟨A3, c3, hA3⟩ := slice_of_own K3.out.own
    subst hA3
    clear k3 K1 K3
    go_wp2_with fail
    generalize W3.alloc (.cells #[ptr b] 61) = W4 at K4 ⊢
    refine (insert_any W4 (B + 1) _ _ b vb _ K4.out.own (by
      have h1 : (leftP b ps).length ≤ ps.length := List.length_filter_le _ _
      have h2 := G.out.max
      rw [← List.length_map (f := (·.1)), G.out.row] at h2
      omega) K4.out.last (fun e' => K4.out.away vb e' (ids_x (x := (vb, 61, #[ptr b])) (List.mem_append_right _ (List.mem_singleton.2 rfl)))) (by have := K4.out.blk.lt; omega)).mono ?_
    rintro r W5 ⟨v5, rfl, o5, f5, m5⟩
    obtain ⟨A5, c5, rfl⟩ := slice_of_own o5
    have hB5 := K4.out.blk.fr f5 (fun e' => K4.out.away _ e' ids_B)
    have c1 := hB5.at_ (i := 0) rfl
    have z1 := hB5.frozen 0
    have K5 := hidd (K4.out.row (ps' := b :: leftP b ps) f5 o5 m5 (fun p hp => by
      rcases List.mem_cons.1 hp with rfl | hp
      · exact ⟨_, G.out.mem _ ho.out, rfl⟩
      · exact K4.out.pt p hp))
    clear K4 o5 f5 m5 hB5 c0
    go_wp2
    go_ret
    rw [ht.out, hvh.out]
    exact ⟨rfl, bm, _, _, ms, ck, es, K5.out.pop.pop, G.out.touch ho.out⟩
end Go.Proofs.Ytpjjcihhmhccfaa
