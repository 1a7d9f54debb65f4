/- A heap: one is taken out. The function walked once. No condition but that there are not too many. -/
import Derived.Test.YtepenfgoejhofaaHeap
namespace Go.Proofs.Ytepenfgoejhofaa
open Go.ChangeShapes Go.WideShapes Go.ChangeAt Go.RowKit Go.Deep
set_option linter.unusedVariables false
set_option linter.unusedSimpArgs false

theorem vl_take {L : Xs} {n k : Nat} (hk : k < n) : vl (L.take n) k = vl L k := by
  unfold vl; rw [List.getElem?_take, if_pos hk]
theorem pop_end (W : World) {F : Nat → Prop} {B n c : Nat} {A : Option Addr} {mv : Value} {L : Xs} (h : Hp W F B A (n + 1) c mv L) (hn : n + 1 ≤ 1000000) {x : Nat × T3} (hx : L[n]? = some x) (hp : Hpf (vl L) n) :
    Calls Try.prog 56 #[ptr B] W fun r W' => r = .returned (.iface 58 (ptr x.1)) ∧ ∃ L', Hp W' F B A n c mv L' ∧ L.Perm (x :: L') ∧ Hpf (vl L') n ∧ Fr F W W' :=
  (pop_any W h rfl hn hx).mono fun r W' ⟨h1, h2, h3⟩ => ⟨h1, L.take n, h2, take_perm h.len hx, hp.less (Nat.le_refl _) (fun k hk => vl_take hk), h3⟩
set_option maxRecDepth 100000 in
set_option maxHeartbeats 2000000 in
theorem remove_any (W : World) {F : Nat → Prop} {B n c i : Nat} {A : Option Addr} {mv : Value} {L : Xs} (h : Hp W F B A (n + 1) c mv L) (hn : n + 1 ≤ 1000000) (hh : Hpf (vl L) (n + 1)) (hi : i ≤ n) {x : Nat × T3} (hx : L[i]? = some x) :
    Calls Try.prog 26 #[hI B, .int .i64 i] W fun r W' => (∃ v, r = .returned v) ∧ ∃ L', Hp W' F B A n c mv L' ∧ L.Perm (x :: L') ∧ Hpf (vl L') n ∧ Fr F W W' := by
  have hml := h.len_
  have hms := h.swap_
  have hpp : ∀ V, (method 199 63 (ptr B) "Pop").run Try.prog V = .ok (56, ptr B) V := fun V => m_pop V B
  have K := hidd (And.intro h (And.intro hh hx))
  have hh' : Hid (Hpf (vl L) n) := hidd (hh.less (by omega) (fun k hk => rfl))
  clear h hh hx
  go_enter Try.func26, Try.ntmps26
  go_wp2_with fail
  refine (len_any W A (n + 1) c).mono ?_
  rintro r V' ⟨rfl, hVV⟩
  subst hVV
  by_cases hin : i = n
  · subst hin
    have hne : ((i : Int) != (i : Int)) = false := by simp
    go_wp2_with fail
    refine (pop_end W K.out.1 hn K.out.2.2 hh'.out).mono ?_
    rintro r V ⟨rfl, R⟩
    have R' := hidd R
    clear R
    go_wp2
    go_ret
    exact ⟨⟨_, rfl⟩, R'.out⟩
  · have hne : ((n : Int) != (i : Int)) = true := by simp; omega
    have hlen := K.out.1.len
    obtain ⟨y, hy⟩ : ∃ y, L[n]? = some y := ⟨_, List.getElem?_eq_getElem (by omega)⟩
    have hy' := hidd hy
    clear hy hlen
    go_wp2_with fail
    refine (swap_any W K.out.1 K.out.2.2 hy'.out hin).mono ?_
    rintro r V ⟨rfl, h1, f1⟩
    have hol : Hol (vl (swp L i n)) n i := hh'.out.hol i (by omega) (fun k hk hki => by rw [swp_vl K.out.2.2 hy'.out, if_neg (by omega), if_neg hki])
    have p1 := swp_perm K.out.2.2 hy'.out
    have x1 : (swp L i n)[n]? = some x := by rw [swp_get K.out.2.2 hy'.out, if_pos rfl]
    generalize swp L i n = L1 at h1 hol p1 x1
    have H1 := hidd (And.intro h1 (And.intro f1 (And.intro hol (And.intro p1 x1))))
    clear h1 f1 hol p1 x1 hml hms
    go_wp2_with fail
    refine (down_any V H1.out.1 (m := n) (by omega) hn i (by omega) H1.out.2.2.1).mono ?_
    rintro r V2 ⟨t, L2, rfl, h2, p2, t2, f2, y2, n2⟩
    cases t with
    | true =>
      have H2 := hidd (And.intro h2 (And.intro p2 (And.intro (t2 n (Nat.le_refl _)) (And.intro f2 (y2 rfl)))))
      clear h2 p2 t2 f2 y2 n2
      go_wp2_with fail
      refine (pop_end V2 H2.out.1 hn (H2.out.2.2.1.trans H1.out.2.2.2.2) H2.out.2.2.2.2).mono ?_
      rintro r V3 ⟨rfl, L3, h3, p3, hp3, f3⟩
      have R' := hidd (show ∃ L', Hp V3 F B A n c mv L' ∧ L.Perm (x :: L') ∧ Hpf (vl L') n ∧ Fr F W V3 from ⟨L3, h3, (H1.out.2.2.2.1.symm.trans H2.out.2.1.symm).trans p3, hp3, (H1.out.2.1.trans H2.out.2.2.2.1).trans f3⟩)
      clear h3 p3 hp3 f3
      go_wp2
      go_ret
      exact ⟨⟨_, rfl⟩, R'.out⟩
    | false =>
      obtain ⟨rfl, u2⟩ := n2 rfl
      have H2 := hidd (And.intro h2 (And.intro f2 u2))
      clear h2 p2 t2 f2 y2 n2 u2
      go_wp2_with fail
      refine (up_any V2 H2.out.1 (m := n) (by omega) i (by omega) H2.out.2.2).mono ?_
      rintro r V3 ⟨rfl, L3, h3, p3, t3, hp3, f3⟩
      have H3 := hidd (And.intro h3 (And.intro p3 (And.intro (t3 n (Nat.le_refl _)) (And.intro hp3 f3))))
      clear h3 p3 t3 hp3 f3
      go_wp2_with fail
      refine (pop_end V3 H3.out.1 hn (H3.out.2.2.1.trans H1.out.2.2.2.2) H3.out.2.2.2.1).mono ?_
      rintro r V4 ⟨rfl, L4, h4, p4, hp4, f4⟩
      have R' := hidd (show ∃ L', Hp V4 F B A n c mv L' ∧ L.Perm (x :: L') ∧ Hpf (vl L') n ∧ Fr F W V4 from ⟨L4, h4, (H1.out.2.2.2.1.symm.trans H3.out.2.1.symm).trans p4, hp4, ((H1.out.2.1.trans H2.out.2.1).trans H3.out.2.2.2.2).trans f4⟩)
      clear h4 p4 hp4 f4
      go_wp2
      go_ret
      exact ⟨⟨_, rfl⟩, R'.out⟩
end Go.Proofs.Ytepenfgoejhofaa
