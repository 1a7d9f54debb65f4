/- A heap: one is put in; one is put right; one is taken out. Each function walked once. No condition but that there are not too many. -/
import Derived.Test.YtepenfgoejhofaaPop
namespace Go.Proofs.Ytepenfgoejhofaa
open Go.ChangeShapes Go.WideShapes Go.ChangeAt Go.RowKit Go.Deep
set_option linter.unusedVariables false
set_option linter.unusedSimpArgs false

theorem Hp.bd {W : World} {F : Nat → Prop} {B n c : Nat} {A : Option Addr} {mv : Value} {L : Xs} (h : Hp W F B A n c mv L) (hb : ∀ k, F k → k < W.heap.size) {F' : Nat → Prop} {W' : World} (g : Gr F W F' W') : ∀ k, F' k → k < W'.heap.size := fun k hk => by
  rcases g.mor k hk with h1 | h1
  · have := hb k h1; have := g.fr.size; omega
  · exact h1.2
set_option maxRecDepth 100000 in
set_option maxHeartbeats 2000000 in
theorem push_any (W : World) {F : Nat → Prop} {B n c b j0 : Nat} {A : Option Addr} {mv : Value} {L : Xs} {t : T3} (h : Hp W F B A n c mv L) (hn : n ≤ 1000000) (hb : Blk W b 61 (boxV t j0)) (fb : F b) (hne : ∀ x ∈ L, x.1 ≠ b) (hbd : ∀ k, F k → k < W.heap.size) (hh : Hpf (vl L) n) :
    Calls Try.prog 20 #[hI B, .iface 58 (ptr b)] W fun r W' => r = .returned (.tuple #[]) ∧ ∃ A' c' F' L', Hp W' F' B A' (n + 1) c' mv L' ∧ L'.Perm (L ++ [(b, t)]) ∧ Hpf (vl L') (n + 1) ∧ Gr F W F' W' := by
  have hmp := m_push W B
  have K := hidd (And.intro h (And.intro hb (And.intro fb (And.intro hne (And.intro hbd hh)))))
  clear h hb fb hne hbd hh
  go_enter Try.func20, Try.ntmps20
  go_wp2_with fail
  refine (pushm_any W K.out.1 hn K.out.2.1 K.out.2.2.1 K.out.2.2.2.1).mono ?_
  rintro r V ⟨rfl, A1, c1, F1, h1, g1⟩
  have H1 := hidd h1
  have G1 := hidd g1
  have hml := h1.len_
  clear h1 g1 hmp
  go_wp2_with fail
  refine (len_any V A1 (n + 1) c1).mono ?_
  rintro r V' ⟨rfl, hVV⟩
  subst hVV
  go_wp2_with fail
  have hlen := K.out.1.len
  refine (up_any V (n := n + 1) (m := n + 1) H1.out (Nat.le_refl _) n (by omega) ?_).mono ?_
  · have := K.out.2.2.2.2.2.upo (g := vl (L ++ [(b, t)])) (fun k hk => by unfold vl; rw [List.getElem?_append_left (by omega)])
    exact this
  rintro r V2 ⟨rfl, L', h2, p2, t2, hp2, f2⟩
  have R := hidd (show ∃ A' c' F' L', Hp V2 F' B A' (n + 1) c' mv L' ∧ L'.Perm (L ++ [(b, t)]) ∧ Hpf (vl L') (n + 1) ∧ Gr F W F' V2 from ⟨A1, c1, F1, L', h2, p2, hp2, G1.out.trans (Gr.same f2) K.out.2.2.2.2.1⟩)
  clear h2 p2 t2 hp2 f2
  go_wp2
  go_end0
  exact ⟨rfl, R.out⟩
set_option maxRecDepth 100000 in
set_option maxHeartbeats 2000000 in
theorem fix_any (W : World) {F : Nat → Prop} {B n c i : Nat} {A : Option Addr} {mv : Value} {L : Xs} (h : Hp W F B A n c mv L) (hn : n ≤ 1000000) (hi : i < n) (hu : Hol (vl L) n i) :
    Calls Try.prog 19 #[hI B, .int .i64 i] W fun r W' => r = .returned (.tuple #[]) ∧ ∃ L', Hp W' F B A n c mv L' ∧ L'.Perm L ∧ Hpf (vl L') n ∧ Fr F W W' := by
  have hml := h.len_
  have K := hidd (And.intro h hu)
  clear h hu
  go_enter Try.func19, Try.ntmps19
  go_wp2_with fail
  refine (len_any W A n c).mono ?_
  rintro r V' ⟨rfl, hVV⟩
  subst hVV
  go_wp2_with fail
  refine (down_any W K.out.1 (Nat.le_refl n) hn i hi K.out.2).mono ?_
  rintro r V ⟨t, L1, rfl, h1, p1, t1, f1, y1, n1⟩
  cases t with
  | true =>
    have R := hidd (show ∃ L', Hp V F B A n c mv L' ∧ L'.Perm L ∧ Hpf (vl L') n ∧ Fr F W V from ⟨L1, h1, p1, y1 rfl, f1⟩)
    clear h1 p1 t1 f1 y1 n1
    go_wp2
    go_end0
    exact ⟨rfl, R.out⟩
  | false =>
    obtain ⟨rfl, u1⟩ := n1 rfl
    have H1 := hidd (And.intro h1 (And.intro u1 f1))
    clear h1 p1 t1 f1 y1 n1 u1
    go_wp2_with fail
    refine (up_any V H1.out.1 (Nat.le_refl n) i hi H1.out.2.1).mono ?_
    rintro r V2 ⟨rfl, L2, h2, p2, t2, hp2, f2⟩
    have R := hidd (show ∃ L', Hp V2 F B A n c mv L' ∧ L'.Perm L1 ∧ Hpf (vl L') n ∧ Fr F W V2 from ⟨L2, h2, p2, hp2, H1.out.2.2.trans f2⟩)
    clear h2 p2 t2 hp2 f2
    go_wp2
    go_end0
    exact ⟨rfl, R.out⟩
theorem take_perm {L : Xs} {n : Nat} {x : Nat × T3} (hl : L.length = n + 1) (hx : L[n]? = some x) : L.Perm (x :: L.take n) := by
  have : L = L.take n ++ [x] := by
    have h := List.take_append_drop n L
    rw [List.drop_eq_getElem_cons (by omega), List.drop_eq_nil_of_le (by omega)] at h
    have e := (List.getElem?_eq_some_iff.1 hx).2
    rw [e] at h; exact h.symm
  calc L = L.take n ++ [x] := this
    _ |>.Perm (x :: L.take n) := List.perm_append_singleton x _
end Go.Proofs.Ytepenfgoejhofaa
