/- A timer goes up. The function walked once. No condition. -/
import Derived.Test.YtepenfgoejhofaaMeth
namespace Go.Proofs.Ytepenfgoejhofaa
open Go.ChangeShapes Go.WideShapes Go.ChangeAt Go.RowKit Go.Deep
set_option linter.unusedVariables false
set_option linter.unusedSimpArgs false

theorem swp_tail {L : Xs} {i j m : Nat} {a b : Nat × T3} (ha : L[i]? = some a) (hb : L[j]? = some b) (hi : i < m) (hj : j < m) {k : Nat} (hk : m ≤ k) : (swp L i j)[k]? = L[k]? := by
  rw [swp_get ha hb, if_neg (by omega), if_neg (by omega)]
theorem half_wrap (j : Nat) (hj : j ≤ 9223372036854775807) : wrap64 ((wrap64 ((j : Int) - 1)).tdiv 2) = (((j - 1) / 2 : Nat) : Int) := by
  rw [show wrap64 ((j : Int) - 1) = (j : Int) - 1 from IntWalk.wrap64_in _ (by omega)]
  by_cases h : j = 0
  · subst h; exact IntWalk.wrap64_in ((-1 : Int).tdiv 2) (by decide)
  · rw [Int.tdiv_eq_ediv_of_nonneg (by omega)]
    have : ((j : Int) - 1) / 2 = (((j - 1) / 2 : Nat) : Int) := by omega
    rw [this]
    exact IntWalk.wrap64_in _ (by omega)
set_option maxRecDepth 100000 in
set_option maxHeartbeats 2000000 in
theorem up_any (W : World) {F : Nat → Prop} {B n c m : Nat} {A : Option Addr} {mv : Value} {L : Xs} (h : Hp W F B A n c mv L) (hm : m ≤ n) (j : Nat) (hj : j < m) (hu : Upo (vl L) m j) :
    Calls Try.prog 28 #[hI B, .int .i64 j] W fun r W' => r = .returned (.tuple #[]) ∧ ∃ L', Hp W' F B A n c mv L' ∧ L'.Perm L ∧ (∀ k, m ≤ k → L'[k]? = L[k]?) ∧ Hpf (vl L') m ∧ Fr F W W' := by
  have hcm : n ≤ 9223372036854775807 := by
    obtain ⟨x, hx⟩ : ∃ x, L[j]? = some x := ⟨_, List.getElem?_eq_getElem (by rw [h.len]; omega)⟩
    obtain ⟨g, _, _, _, _, h1, h2⟩ := h.at_ hx
    unfold maxLen at h2; omega
  have H := hidd (And.intro h (And.intro hm hu))
  clear h hu
  go_enter Try.func28, Try.ntmps28
  go_wp2_with fail
  go_loopw [1, 4] (fun jv iv wr => ∃ (j : Nat) (L' : Xs), jv = .int .i64 j ∧ j < m ∧ Hid (Hp wr F B A n c mv L' ∧ L'.Perm L ∧ (∀ k, m ≤ k → L'[k]? = L[k]?) ∧ Upo (vl L') m j ∧ Fr F W wr)) (fun jv _ _ => (intOf jv).toNat)
  case atStart => exact ⟨j, L, rfl, hj, hidd ⟨H.out.1, List.Perm.refl _, fun _ _ => rfl, H.out.2.2, Fr.refl _ _⟩⟩
  case round =>
    clear hj
    obtain ⟨j, L1, rfl, hj, hR⟩ := hrel
    by_cases hj0 : j = 0
    · have hw := half_wrap j (by omega)
      subst hj0
      have he : ((((0 - 1) / 2 : Nat) : Int) == ((0 : Nat) : Int)) = true := by decide
      go_wp2
      go_end0
      exact ⟨rfl, L1, hR.out.1, hR.out.2.1, hR.out.2.2.1, hR.out.2.2.2.1.top, hR.out.2.2.2.2⟩
    · obtain ⟨i, hi⟩ : ∃ i, (j - 1) / 2 = i := ⟨_, rfl⟩
      have hdiv : ((j : Int) - 1) / 2 = (i : Int) := by omega
      have hij : i < j := by omega
      have hne : ((i : Int) == (j : Int)) = false := by rw [beq_eq_false_iff_ne]; omega
      have hlen := hR.out.1.len
      obtain ⟨a, ha⟩ : ∃ a, L1[j]? = some a := ⟨_, List.getElem?_eq_getElem (by omega)⟩
      obtain ⟨b, hb⟩ : ∃ b, L1[i]? = some b := ⟨_, List.getElem?_eq_getElem (by omega)⟩
      have ha' := hidd ha
      have hb' := hidd hb
      have hi' := hidd hi
      have hml := hR.out.1.less
      clear ha hb hlen hi
      go_wp2_with fail
      rw [hdiv]
      refine (less_any wr hR.out.1 ha'.out hb'.out).mono ?_
      rintro r V ⟨rfl, hV⟩
      have h1 := hidd (hR.out.1.bel hV)
      have f1 := hidd (hR.out.2.2.2.2.trans (Fr.of_below hV F))
      have hms := h1.out.swap_
      obtain ⟨t, ht⟩ : ∃ t, bef a.2 b.2 = t := ⟨_, rfl⟩
      rw [ht]
      have va : vl L1 j = a.2 := vl_at ha'.out
      have vb : vl L1 i = b.2 := vl_at hb'.out
      have hv := hidd (And.intro va vb)
      clear va vb hml hV
      have ht' := hidd ht
      clear ht
      cases t with
      | false =>
        go_wp2
        go_end0
        refine ⟨rfl, L1, h1.out, hR.out.2.1, hR.out.2.2.1, hR.out.2.2.2.1.done ?_, f1.out⟩
        rw [hi'.out, hv.out.1, hv.out.2]
        exact ht'.out
      | true =>
        go_wp2_with fail
        refine (swap_any V h1.out hb'.out ha'.out (by omega)).mono ?_
        rintro r V2 ⟨rfl, h2, f2⟩
        have h2' := hidd (show Hp V2 F B A n c mv (swp L1 i j) ∧ (swp L1 i j).Perm L ∧ (∀ k, m ≤ k → (swp L1 i j)[k]? = L[k]?) ∧ Upo (vl (swp L1 i j)) m i ∧ Fr F W V2 from by
          refine ⟨h2, (swp_perm hb'.out ha'.out).trans hR.out.2.1, fun k hk => (swp_tail hb'.out ha'.out (by omega) hj hk).trans (hR.out.2.2.1 k hk), ?_, f1.out.trans f2⟩
          have := hR.out.2.2.2.1.step (g := vl (swp L1 i j)) (by omega) hj (by rw [hi'.out, hv.out.1, hv.out.2]; exact ht'.out) (fun k => by rw [swp_vl hb'.out ha'.out, hi'.out])
          rwa [hi'.out] at this)
        clear h2 f2 h1 f1 hms
        go_wp2
        go_roundw
        case rel => exact ⟨i, swp L1 i j, rfl, by omega, h2'⟩
        case measure => simp [intOf]; omega
end Go.Proofs.Ytepenfgoejhofaa
